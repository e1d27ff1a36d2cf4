/- A directory's begin, without acknowledgements to wait for. -/
import Derived.Test.YtepdhajgemmoiaaDir7
namespace Go.Proofs.Ytepdhajgemmoiaa
set_option maxRecDepth 100000
open Go.RowKit Go.Shelf

theorem row_of_blk {w : World} {base g n size : Nat} {e : TypeId} {xs : List Value} (h : Blk w g xs e) (hl : xs.length = n * size) (hb : base ≤ g) (hn : n ≤ maxLen) : w.ownsRow base e size (.slice (some ⟨g, 0, none⟩) n n) n xs :=
  ⟨hl, .inr ⟨g, n, xs.toArray, rfl, hb, h, Nat.le_refl _, hn, by simpa using hl, by simp [← hl]⟩⟩

def shl1 (c : Int) : Int := 2 ^ c.toNat % 256
def notB (s c : Int) : Int := bits .andNot .u8 s (2 ^ c.toNat % 256)
/-- What begin answers when a core owns the line. -/
def recE (e : EntV) (m : MsgV) : EntV := { e with un := m, ph := 2, ak := shl1 e.ow }
def recM (e : EntV) (m : MsgV) : MsgV := ⟨if m.k = 2 then 13 else 12, e.ow, m.l, {}⟩
/-- The entry with what is asked, nobody owning the line. -/
def askE (e : EntV) (m : MsgV) : EntV := { e with un := m, ak := notB e.sh m.c }
def ackE (e : EntV) (m : MsgV) : EntV := { askE e m with ph := 1 }
def ackM (e : EntV) (m : MsgV) : List MsgV := (coresL (notB e.sh m.c) 4).map fun (j : Nat) => (⟨11, (j : Int), m.l, {}⟩ : MsgV)
def beginE (e : EntV) (m : MsgV) : EntV := if 0 ≤ e.ow then recE e m else if m.k = 1 ∨ notB e.sh m.c = 0 then grantE (askE e m) else ackE e m
def beginM (e : EntV) (m : MsgV) (v : L8) : List MsgV := if 0 ≤ e.ow then [recM e m] else if m.k = 1 ∨ notB e.sh m.c = 0 then [grantM (askE e m) v] else ackM e m
def OutPost (w : World) (d bm bw bl n : Nat) (cores : Int) (ws : List Int) (es : List EntV) (out : List MsgV) (e : Ending) (w' : World) : Prop :=
  ∃ v, e = .returned v ∧ w'.ownsRow w.heap.size 33 11 v out.length (out.flatMap encM) ∧ DirAt w' d bm bw bl n cores ws es ∧ Chg [bl] w w'
theorem un_set (e : EntV) (m : MsgV) : ((((((((((encE e).set 2 (.int .i64 m.k)).set 3 (.int .i64 m.c)).set 4 (.int .i64 m.l)).set 5 (.int .u64 m.d.x0)).set 6 (.int .u64 m.d.x1)).set 7 (.int .u64 m.d.x2)).set 8 (.int .u64 m.d.x3)).set 9 (.int .u64 m.d.x4)).set 10 (.int .u64 m.d.x5)).set 11 (.int .u64 m.d.x6) = encE { e with un := ⟨m.k, m.c, m.l, ⟨m.d.x0, m.d.x1, m.d.x2, m.d.x3, m.d.x4, m.d.x5, m.d.x6, e.un.d.x7⟩⟩ } := rfl

set_option maxHeartbeats 8000000 in
theorem begin_rec (w : World) (d bm bw bl n : Nat) (cores : Int) (ws : List Int) (es : List EntV) (i : Nat) (hi : i < es.length) (m : MsgV) (hc : 0 ≤ m.c ∧ m.c < 4) (ho : 0 ≤ es[i].ow ∧ es[i].ow < 4) (D : DirAt w d bm bw bl n cores ws es) :
    Calls Try.prog 27 #[.pointer (some ⟨d, 0, none⟩), .pointer (some ⟨bl, i * 16, none⟩), .agg #[.int .i64 m.k, .int .i64 m.c, .int .i64 m.l, .int .u64 m.d.x0, .int .u64 m.d.x1, .int .u64 m.d.x2, .int .u64 m.d.x3, .int .u64 m.d.x4, .int .u64 m.d.x5, .int .u64 m.d.x6, .int .u64 m.d.x7]] w (OutPost w d bm bw bl n cores ws (es.set i (recE es[i] m)) [recM es[i] m]) := by
  obtain ⟨o0, o1⟩ := ho
  obtain ⟨c0, c1⟩ := hc
  have hal : Chg [] w (w.alloc (.cells #[.int .i64 m.k, .int .i64 m.c, .int .i64 m.l, .int .u64 m.d.x0, .int .u64 m.d.x1, .int .u64 m.d.x2, .int .u64 m.d.x3, .int .u64 m.d.x4, .int .u64 m.d.x5, .int .u64 m.d.x6, .int .u64 m.d.x7] 33)) := (Chg.refl [] w).alloc _
  have HD := Lib.hid (D.look hal)
  have HB := Lib.hid (Blk.new w [.int .i64 m.k, .int .i64 m.c, .int .i64 m.l, .int .u64 m.d.x0, .int .u64 m.d.x1, .int .u64 m.d.x2, .int .u64 m.d.x3, .int .u64 m.d.x4, .int .u64 m.d.x5, .int .u64 m.d.x6, .int .u64 m.d.x7] 33)
  have HC := Lib.hid (hal.mono (T := [bl]) (by simp))
  have hbl0 : bl < w.heap.size := Blk.lt D.ents
  clear D hal
  go_enter Try.func27, Try.ntmps27
  go_upto_region 1 with fail
  generalize World.alloc _ _ = wa at *
  obtain ⟨b, hb⟩ : ∃ b, w.heap.size = b := ⟨_, rfl⟩
  have HNb := Lib.hid hb
  rw [hb] at HB hbl0 ⊢
  clear hb
  have m0 : wa.cell? ⟨b, 0, none⟩ = some (.int .i64 m.k) := HB.out.cell 0
  have m1 : wa.cell? ⟨b, 1, none⟩ = some (.int .i64 m.c) := HB.out.cell 1
  have m2 : wa.cell? ⟨b, 2, none⟩ = some (.int .i64 m.l) := HB.out.cell 2
  have m3 : wa.cell? ⟨b, 3, none⟩ = some (.int .u64 m.d.x0) := HB.out.cell 3
  have m4 : wa.cell? ⟨b, 4, none⟩ = some (.int .u64 m.d.x1) := HB.out.cell 4
  have m5 : wa.cell? ⟨b, 5, none⟩ = some (.int .u64 m.d.x2) := HB.out.cell 5
  have m6 : wa.cell? ⟨b, 6, none⟩ = some (.int .u64 m.d.x3) := HB.out.cell 6
  have m7 : wa.cell? ⟨b, 7, none⟩ = some (.int .u64 m.d.x4) := HB.out.cell 7
  have m8 : wa.cell? ⟨b, 8, none⟩ = some (.int .u64 m.d.x5) := HB.out.cell 8
  have m9 : wa.cell? ⟨b, 9, none⟩ = some (.int .u64 m.d.x6) := HB.out.cell 9
  have m10 : wa.cell? ⟨b, 10, none⟩ = some (.int .u64 m.d.x7) := HB.out.cell 10
  have mlt : b < wa.heap.size := HB.out.lt
  have blt : bl < wa.heap.size := Blk.lt HD.out.ents
  have hdb : b ≠ bl := by omega
  obtain ⟨p, hp⟩ : ∃ p, i * 16 = p := ⟨_, rfl⟩
  have e2 : wa.cell? ⟨bl, p + 2, none⟩ = some (.int .i64 es[i].un.k) := by rw [← hp]; exact HD.out.ents.cell hi (j := 2) (by decide)
  have f2 : wa.frozen? ⟨bl, p + 2, none⟩ = false := HD.out.ents.free _
  have e3 : wa.cell? ⟨bl, p + 3, none⟩ = some (.int .i64 es[i].un.c) := by rw [← hp]; exact HD.out.ents.cell hi (j := 3) (by decide)
  have f3 : wa.frozen? ⟨bl, p + 3, none⟩ = false := HD.out.ents.free _
  have e4 : wa.cell? ⟨bl, p + 4, none⟩ = some (.int .i64 es[i].un.l) := by rw [← hp]; exact HD.out.ents.cell hi (j := 4) (by decide)
  have f4 : wa.frozen? ⟨bl, p + 4, none⟩ = false := HD.out.ents.free _
  have e5 : wa.cell? ⟨bl, p + 5, none⟩ = some (.int .u64 es[i].un.d.x0) := by rw [← hp]; exact HD.out.ents.cell hi (j := 5) (by decide)
  have f5 : wa.frozen? ⟨bl, p + 5, none⟩ = false := HD.out.ents.free _
  have e6 : wa.cell? ⟨bl, p + 6, none⟩ = some (.int .u64 es[i].un.d.x1) := by rw [← hp]; exact HD.out.ents.cell hi (j := 6) (by decide)
  have f6 : wa.frozen? ⟨bl, p + 6, none⟩ = false := HD.out.ents.free _
  have e7 : wa.cell? ⟨bl, p + 7, none⟩ = some (.int .u64 es[i].un.d.x2) := by rw [← hp]; exact HD.out.ents.cell hi (j := 7) (by decide)
  have f7 : wa.frozen? ⟨bl, p + 7, none⟩ = false := HD.out.ents.free _
  have e8 : wa.cell? ⟨bl, p + 8, none⟩ = some (.int .u64 es[i].un.d.x3) := by rw [← hp]; exact HD.out.ents.cell hi (j := 8) (by decide)
  have f8 : wa.frozen? ⟨bl, p + 8, none⟩ = false := HD.out.ents.free _
  have e9 : wa.cell? ⟨bl, p + 9, none⟩ = some (.int .u64 es[i].un.d.x4) := by rw [← hp]; exact HD.out.ents.cell hi (j := 9) (by decide)
  have f9 : wa.frozen? ⟨bl, p + 9, none⟩ = false := HD.out.ents.free _
  have e10 : wa.cell? ⟨bl, p + 10, none⟩ = some (.int .u64 es[i].un.d.x5) := by rw [← hp]; exact HD.out.ents.cell hi (j := 10) (by decide)
  have f10 : wa.frozen? ⟨bl, p + 10, none⟩ = false := HD.out.ents.free _
  have e11 : wa.cell? ⟨bl, p + 11, none⟩ = some (.int .u64 es[i].un.d.x6) := by rw [← hp]; exact HD.out.ents.cell hi (j := 11) (by decide)
  have f11 : wa.frozen? ⟨bl, p + 11, none⟩ = false := HD.out.ents.free _
  have e12 : wa.cell? ⟨bl, p + 12, none⟩ = some (.int .u64 es[i].un.d.x7) := by rw [← hp]; exact HD.out.ents.cell hi (j := 12) (by decide)
  have f12 : wa.frozen? ⟨bl, p + 12, none⟩ = false := HD.out.ents.free _
  have HP := Lib.hid hp
  rw [hp]
  clear hp
  go_upto_region 2 with fail
  have hE := HD.out.ents
  replace hE := hE.set hi (j := 2) (by decide) (v := .int .i64 m.k) (e := { es[i] with un := ⟨m.k, es[i].un.c, es[i].un.l, ⟨es[i].un.d.x0, es[i].un.d.x1, es[i].un.d.x2, es[i].un.d.x3, es[i].un.d.x4, es[i].un.d.x5, es[i].un.d.x6, es[i].un.d.x7⟩⟩ }) rfl
  replace hE := EntsAt.set hE (by rw [List.length_set]; exact hi) (j := 3) (by decide) (v := .int .i64 m.c) (e := { es[i] with un := ⟨m.k, m.c, es[i].un.l, ⟨es[i].un.d.x0, es[i].un.d.x1, es[i].un.d.x2, es[i].un.d.x3, es[i].un.d.x4, es[i].un.d.x5, es[i].un.d.x6, es[i].un.d.x7⟩⟩ }) (by rw [List.getElem_set_self]; rfl)
  rw [List.set_set] at hE
  replace hE := EntsAt.set hE (by rw [List.length_set]; exact hi) (j := 4) (by decide) (v := .int .i64 m.l) (e := { es[i] with un := ⟨m.k, m.c, m.l, ⟨es[i].un.d.x0, es[i].un.d.x1, es[i].un.d.x2, es[i].un.d.x3, es[i].un.d.x4, es[i].un.d.x5, es[i].un.d.x6, es[i].un.d.x7⟩⟩ }) (by rw [List.getElem_set_self]; rfl)
  rw [List.set_set] at hE
  replace hE := EntsAt.set hE (by rw [List.length_set]; exact hi) (j := 5) (by decide) (v := .int .u64 m.d.x0) (e := { es[i] with un := ⟨m.k, m.c, m.l, ⟨m.d.x0, es[i].un.d.x1, es[i].un.d.x2, es[i].un.d.x3, es[i].un.d.x4, es[i].un.d.x5, es[i].un.d.x6, es[i].un.d.x7⟩⟩ }) (by rw [List.getElem_set_self]; rfl)
  rw [List.set_set] at hE
  replace hE := EntsAt.set hE (by rw [List.length_set]; exact hi) (j := 6) (by decide) (v := .int .u64 m.d.x1) (e := { es[i] with un := ⟨m.k, m.c, m.l, ⟨m.d.x0, m.d.x1, es[i].un.d.x2, es[i].un.d.x3, es[i].un.d.x4, es[i].un.d.x5, es[i].un.d.x6, es[i].un.d.x7⟩⟩ }) (by rw [List.getElem_set_self]; rfl)
  rw [List.set_set] at hE
  replace hE := EntsAt.set hE (by rw [List.length_set]; exact hi) (j := 7) (by decide) (v := .int .u64 m.d.x2) (e := { es[i] with un := ⟨m.k, m.c, m.l, ⟨m.d.x0, m.d.x1, m.d.x2, es[i].un.d.x3, es[i].un.d.x4, es[i].un.d.x5, es[i].un.d.x6, es[i].un.d.x7⟩⟩ }) (by rw [List.getElem_set_self]; rfl)
  rw [List.set_set] at hE
  replace hE := EntsAt.set hE (by rw [List.length_set]; exact hi) (j := 8) (by decide) (v := .int .u64 m.d.x3) (e := { es[i] with un := ⟨m.k, m.c, m.l, ⟨m.d.x0, m.d.x1, m.d.x2, m.d.x3, es[i].un.d.x4, es[i].un.d.x5, es[i].un.d.x6, es[i].un.d.x7⟩⟩ }) (by rw [List.getElem_set_self]; rfl)
  rw [List.set_set] at hE
  replace hE := EntsAt.set hE (by rw [List.length_set]; exact hi) (j := 9) (by decide) (v := .int .u64 m.d.x4) (e := { es[i] with un := ⟨m.k, m.c, m.l, ⟨m.d.x0, m.d.x1, m.d.x2, m.d.x3, m.d.x4, es[i].un.d.x5, es[i].un.d.x6, es[i].un.d.x7⟩⟩ }) (by rw [List.getElem_set_self]; rfl)
  rw [List.set_set] at hE
  replace hE := EntsAt.set hE (by rw [List.length_set]; exact hi) (j := 10) (by decide) (v := .int .u64 m.d.x5) (e := { es[i] with un := ⟨m.k, m.c, m.l, ⟨m.d.x0, m.d.x1, m.d.x2, m.d.x3, m.d.x4, m.d.x5, es[i].un.d.x6, es[i].un.d.x7⟩⟩ }) (by rw [List.getElem_set_self]; rfl)
  rw [List.set_set] at hE
  replace hE := EntsAt.set hE (by rw [List.length_set]; exact hi) (j := 11) (by decide) (v := .int .u64 m.d.x6) (e := { es[i] with un := ⟨m.k, m.c, m.l, ⟨m.d.x0, m.d.x1, m.d.x2, m.d.x3, m.d.x4, m.d.x5, m.d.x6, es[i].un.d.x7⟩⟩ }) (by rw [List.getElem_set_self]; rfl)
  rw [List.set_set] at hE
  replace hE := EntsAt.set hE (by rw [List.length_set]; exact hi) (j := 12) (by decide) (v := .int .u64 m.d.x7) (e := { es[i] with un := ⟨m.k, m.c, m.l, ⟨m.d.x0, m.d.x1, m.d.x2, m.d.x3, m.d.x4, m.d.x5, m.d.x6, m.d.x7⟩⟩ }) (by rw [List.getElem_set_self]; rfl)
  rw [List.set_set] at hE
  rw [HP.out] at hE
  have hC := (((((((((((HC.out).setCell (p := ⟨bl, p + 2, none⟩) (fun _ => List.mem_singleton.2 rfl) (.int .i64 m.k)).setCell (p := ⟨bl, p + 3, none⟩) (fun _ => List.mem_singleton.2 rfl) (.int .i64 m.c)).setCell (p := ⟨bl, p + 4, none⟩) (fun _ => List.mem_singleton.2 rfl) (.int .i64 m.l)).setCell (p := ⟨bl, p + 5, none⟩) (fun _ => List.mem_singleton.2 rfl) (.int .u64 m.d.x0)).setCell (p := ⟨bl, p + 6, none⟩) (fun _ => List.mem_singleton.2 rfl) (.int .u64 m.d.x1)).setCell (p := ⟨bl, p + 7, none⟩) (fun _ => List.mem_singleton.2 rfl) (.int .u64 m.d.x2)).setCell (p := ⟨bl, p + 8, none⟩) (fun _ => List.mem_singleton.2 rfl) (.int .u64 m.d.x3)).setCell (p := ⟨bl, p + 9, none⟩) (fun _ => List.mem_singleton.2 rfl) (.int .u64 m.d.x4)).setCell (p := ⟨bl, p + 10, none⟩) (fun _ => List.mem_singleton.2 rfl) (.int .u64 m.d.x5)).setCell (p := ⟨bl, p + 11, none⟩) (fun _ => List.mem_singleton.2 rfl) (.int .u64 m.d.x6)).setCell (p := ⟨bl, p + 12, none⟩) (fun _ => List.mem_singleton.2 rfl) (.int .u64 m.d.x7)
  have hB := (((((((((((HB.out).other (a := ⟨bl, p + 2, none⟩) (Ne.symm hdb) (.int .i64 m.k)).other (a := ⟨bl, p + 3, none⟩) (Ne.symm hdb) (.int .i64 m.c)).other (a := ⟨bl, p + 4, none⟩) (Ne.symm hdb) (.int .i64 m.l)).other (a := ⟨bl, p + 5, none⟩) (Ne.symm hdb) (.int .u64 m.d.x0)).other (a := ⟨bl, p + 6, none⟩) (Ne.symm hdb) (.int .u64 m.d.x1)).other (a := ⟨bl, p + 7, none⟩) (Ne.symm hdb) (.int .u64 m.d.x2)).other (a := ⟨bl, p + 8, none⟩) (Ne.symm hdb) (.int .u64 m.d.x3)).other (a := ⟨bl, p + 9, none⟩) (Ne.symm hdb) (.int .u64 m.d.x4)).other (a := ⟨bl, p + 10, none⟩) (Ne.symm hdb) (.int .u64 m.d.x5)).other (a := ⟨bl, p + 11, none⟩) (Ne.symm hdb) (.int .u64 m.d.x6)).other (a := ⟨bl, p + 12, none⟩) (Ne.symm hdb) (.int .u64 m.d.x7)
  have hDs : Chg [bl] wa _ := (((((((((((Chg.refl [bl] wa).setCell (p := ⟨bl, p + 2, none⟩) (fun _ => List.mem_singleton.2 rfl) (.int .i64 m.k)).setCell (p := ⟨bl, p + 3, none⟩) (fun _ => List.mem_singleton.2 rfl) (.int .i64 m.c)).setCell (p := ⟨bl, p + 4, none⟩) (fun _ => List.mem_singleton.2 rfl) (.int .i64 m.l)).setCell (p := ⟨bl, p + 5, none⟩) (fun _ => List.mem_singleton.2 rfl) (.int .u64 m.d.x0)).setCell (p := ⟨bl, p + 6, none⟩) (fun _ => List.mem_singleton.2 rfl) (.int .u64 m.d.x1)).setCell (p := ⟨bl, p + 7, none⟩) (fun _ => List.mem_singleton.2 rfl) (.int .u64 m.d.x2)).setCell (p := ⟨bl, p + 8, none⟩) (fun _ => List.mem_singleton.2 rfl) (.int .u64 m.d.x3)).setCell (p := ⟨bl, p + 9, none⟩) (fun _ => List.mem_singleton.2 rfl) (.int .u64 m.d.x4)).setCell (p := ⟨bl, p + 10, none⟩) (fun _ => List.mem_singleton.2 rfl) (.int .u64 m.d.x5)).setCell (p := ⟨bl, p + 11, none⟩) (fun _ => List.mem_singleton.2 rfl) (.int .u64 m.d.x6)).setCell (p := ⟨bl, p + 12, none⟩) (fun _ => List.mem_singleton.2 rfl) (.int .u64 m.d.x7)
  have HD2 := Lib.hid (HD.out.turn hDs hE (by rw [List.length_set]; exact HD.out.len))
  replace HC := Lib.hid hC; replace HB := Lib.hid hB
  clear hC hB hDs hE HD m0 m1 m2 m3 m4 m5 m6 m7 m8 m9 m10 mlt blt e2 f2 e3 f3 e4 f4 e5 f5 e6 f6 e7 f7 e8 f8 e9 f9 e10 f10 e11 f11 e12 f12
  generalize World.setCell (World.setCell (World.setCell (World.setCell (World.setCell (World.setCell (World.setCell (World.setCell (World.setCell (World.setCell (World.setCell _ _ _) _ _) _ _) _ _) _ _) _ _) _ _) _ _) _ _) _ _) _ _ = w2 at *
  have hi2 : i < (es.set i { es[i] with un := m }).length := by rw [List.length_set]; exact hi
  replace HD2 : Hid (DirAt w2 d bm bw bl n cores ws (es.set i { es[i] with un := m })) := HD2
  have hcell : ∀ j, j < 16 → w2.cell? ⟨bl, p + j, none⟩ = (encE { es[i] with un := m })[j]? := fun j hj => by
    have := HD2.out.ents.cell hi2 hj
    rw [List.getElem_set_self, HP.out] at this; exact this
  have HCell := Lib.hid hcell
  clear hcell
  have mlt : b < w2.heap.size := HB.out.lt
  have blt : bl < w2.heap.size := Blk.lt HD2.out.ents
  have e0 : w2.cell? ⟨bl, p, none⟩ = some (.int .i64 es[i].ow) := HCell.out 0 (by decide)
  have f0 : w2.frozen? ⟨bl, p, none⟩ = false := HD2.out.ents.free _
  have e13 : w2.cell? ⟨bl, p + 13, none⟩ = some (.int .i64 es[i].ph) := HCell.out 13 (by decide)
  have f13 : w2.frozen? ⟨bl, p + 13, none⟩ = false := HD2.out.ents.free _
  have e14 : w2.cell? ⟨bl, p + 14, none⟩ = some (.int .u8 es[i].ak) := HCell.out 14 (by decide)
  have f14 : w2.frozen? ⟨bl, p + 14, none⟩ = false := HD2.out.ents.free _
  have m0 : w2.cell? ⟨b, 0, none⟩ = some (.int .i64 m.k) := HB.out.cell 0
  have m2 : w2.cell? ⟨b, 2, none⟩ = some (.int .i64 m.l) := HB.out.cell 2
  by_cases hk : m.k = 2
  · have HM := Lib.hid (show recM es[i] m = ⟨13, es[i].ow, m.l, {}⟩ from by unfold recM; rw [if_pos hk])
    rw [hk] at m0
    have HK := Lib.hid hk; clear hk
    have hs4 : (2 : Int) ^ es[i].ow.toNat % 256 = shl1 es[i].ow := rfl
    go_wp2_with fail
    go_region
    go_wp2_with fail
    have hE := HD2.out.ents.set hi2 (j := 13) (by decide) (v := .int .i64 2) (e := { es[i] with un := m, ph := 2 }) (by rw [List.getElem_set_self]; rfl)
    have hi3 : i < (es.set i { es[i] with un := m, ph := 2 }).length := by rw [List.length_set]; exact hi
    rw [List.set_set] at hE
    replace hE := EntsAt.set hE hi3 (j := 14) (by decide) (v := .int .u8 (shl1 es[i].ow)) (e := recE es[i] m) (by rw [List.getElem_set_self]; rfl)
    rw [List.set_set, HP.out] at hE
    have hDs := (((Chg.refl [bl] w2).setCell (p := ⟨bl, p + 13, none⟩) (fun _ => List.mem_singleton.2 rfl) (.int .i64 2)).setCell (p := ⟨bl, p + 14, none⟩) (fun _ => List.mem_singleton.2 rfl) (.int .u8 (shl1 es[i].ow))).drew
    have HD3 := Lib.hid (HD2.out.turn hDs (Blk.drew hE) (by have := HD2.out.len; rw [List.length_set] at this ⊢; exact this))
    replace HC := Lib.hid (HC.out.trans hDs)
    replace HB := Lib.hid (hDs.blk HB.out (by simp; exact hdb))
    clear hDs hE e0 e13 e14 f0 f13 f14 m0 m2 mlt blt
    generalize World.drew _ = w3 at *
    have hi4 : i < (es.set i (recE es[i] m)).length := by rw [List.length_set]; exact hi
    replace HD3 : Hid (DirAt w3 d bm bw bl n cores ws (es.set i (recE es[i] m))) := HD3
    have e0 : w3.cell? ⟨bl, p, none⟩ = some (.int .i64 es[i].ow) := by have := HD3.out.ents.cell hi4 (j := 0) (by decide); rw [List.getElem_set_self, HP.out] at this; exact this
    have m2 : w3.cell? ⟨b, 2, none⟩ = some (.int .i64 m.l) := HB.out.cell 2
    have mlt : b < w3.heap.size := HB.out.lt
    have blt : bl < w3.heap.size := Blk.lt HD3.out.ents
    go_wp2_with fail
    go_still_tail 8, (by kernel_rfl)
    go_wp2_with fail
    have hx := ((HC.out.drew).alloc (.cells #[.int .i64 13, .int .i64 es[i].ow, .int .i64 m.l, .int .u64 0, .int .u64 0, .int .u64 0, .int .u64 0, .int .u64 0, .int .u64 0, .int .u64 0, .int .u64 0] 33))
    have hbk := Blk.new w3.drew [.int .i64 13, .int .i64 es[i].ow, .int .i64 m.l, .int .u64 0, .int .u64 0, .int .u64 0, .int .u64 0, .int .u64 0, .int .u64 0, .int .u64 0, .int .u64 0] 33
    have hD4 := HD3.out.look (((Chg.refl [] w3).drew).alloc (.cells #[.int .i64 13, .int .i64 es[i].ow, .int .i64 m.l, .int .u64 0, .int .u64 0, .int .u64 0, .int .u64 0, .int .u64 0, .int .u64 0, .int .u64 0, .int .u64 0] 33))
    have hsz : w.heap.size ≤ w3.drew.heap.size := HC.out.size
    go_ret
    refine ⟨_, rfl, ?_, hD4, hx⟩
    rw [HM.out]
    exact row_of_blk hbk rfl hsz (by decide)
  · have HM := Lib.hid (show recM es[i] m = ⟨12, es[i].ow, m.l, {}⟩ from by unfold recM; rw [if_neg hk])
    have hk2 : (m.k == 2) = false := by simpa using hk
    have HK := Lib.hid hk; clear hk
    have hs4 : (2 : Int) ^ es[i].ow.toNat % 256 = shl1 es[i].ow := rfl
    go_wp2_with fail
    go_region
    go_wp2_with fail
    have hE := HD2.out.ents.set hi2 (j := 13) (by decide) (v := .int .i64 2) (e := { es[i] with un := m, ph := 2 }) (by rw [List.getElem_set_self]; rfl)
    have hi3 : i < (es.set i { es[i] with un := m, ph := 2 }).length := by rw [List.length_set]; exact hi
    rw [List.set_set] at hE
    replace hE := EntsAt.set hE hi3 (j := 14) (by decide) (v := .int .u8 (shl1 es[i].ow)) (e := recE es[i] m) (by rw [List.getElem_set_self]; rfl)
    rw [List.set_set, HP.out] at hE
    have hDs := (((Chg.refl [bl] w2).setCell (p := ⟨bl, p + 13, none⟩) (fun _ => List.mem_singleton.2 rfl) (.int .i64 2)).setCell (p := ⟨bl, p + 14, none⟩) (fun _ => List.mem_singleton.2 rfl) (.int .u8 (shl1 es[i].ow))).drew
    have HD3 := Lib.hid (HD2.out.turn hDs (Blk.drew hE) (by have := HD2.out.len; rw [List.length_set] at this ⊢; exact this))
    replace HC := Lib.hid (HC.out.trans hDs)
    replace HB := Lib.hid (hDs.blk HB.out (by simp; exact hdb))
    clear hDs hE e0 e13 e14 f0 f13 f14 m0 m2 mlt blt
    generalize World.drew _ = w3 at *
    have hi4 : i < (es.set i (recE es[i] m)).length := by rw [List.length_set]; exact hi
    replace HD3 : Hid (DirAt w3 d bm bw bl n cores ws (es.set i (recE es[i] m))) := HD3
    have e0 : w3.cell? ⟨bl, p, none⟩ = some (.int .i64 es[i].ow) := by have := HD3.out.ents.cell hi4 (j := 0) (by decide); rw [List.getElem_set_self, HP.out] at this; exact this
    have m2 : w3.cell? ⟨b, 2, none⟩ = some (.int .i64 m.l) := HB.out.cell 2
    have mlt : b < w3.heap.size := HB.out.lt
    have blt : bl < w3.heap.size := Blk.lt HD3.out.ents
    go_wp2_with fail
    go_still_tail 8, (by kernel_rfl)
    go_wp2_with fail
    have hx := ((HC.out.drew).alloc (.cells #[.int .i64 12, .int .i64 es[i].ow, .int .i64 m.l, .int .u64 0, .int .u64 0, .int .u64 0, .int .u64 0, .int .u64 0, .int .u64 0, .int .u64 0, .int .u64 0] 33))
    have hbk := Blk.new w3.drew [.int .i64 12, .int .i64 es[i].ow, .int .i64 m.l, .int .u64 0, .int .u64 0, .int .u64 0, .int .u64 0, .int .u64 0, .int .u64 0, .int .u64 0, .int .u64 0] 33
    have hD4 := HD3.out.look (((Chg.refl [] w3).drew).alloc (.cells #[.int .i64 12, .int .i64 es[i].ow, .int .i64 m.l, .int .u64 0, .int .u64 0, .int .u64 0, .int .u64 0, .int .u64 0, .int .u64 0, .int .u64 0, .int .u64 0] 33))
    have hsz : w.heap.size ≤ w3.drew.heap.size := HC.out.size
    go_ret
    refine ⟨_, rfl, ?_, hD4, hx⟩
    rw [HM.out]
    exact row_of_blk hbk rfl hsz (by decide)
end Go.Proofs.Ytepdhajgemmoiaa
