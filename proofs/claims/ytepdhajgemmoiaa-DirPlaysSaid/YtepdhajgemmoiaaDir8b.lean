/- A directory's begin that grants. -/
import Derived.Test.YtepdhajgemmoiaaDir8
namespace Go.Proofs.Ytepdhajgemmoiaa
set_option maxRecDepth 100000
open Go.RowKit Go.Shelf


set_option maxHeartbeats 8000000 in
theorem begin_gr (w : World) (d bm bw bl n : Nat) (cores : Int) (ws : List Int) (es : List EntV) (i : Nat) (hi : i < es.length) (m : MsgV) (hc : 0 ≤ m.c ∧ m.c < 4) (ho : es[i].ow < 0) (hg : m.k = 1 ∨ notB es[i].sh m.c = 0) (hl : 0 ≤ m.l ∧ m.l < n) (D : DirAt w d bm bw bl n cores ws es) :
    Calls Try.prog 27 #[.pointer (some ⟨d, 0, none⟩), .pointer (some ⟨bl, i * 16, none⟩), .agg #[.int .i64 m.k, .int .i64 m.c, .int .i64 m.l, .int .u64 m.d.x0, .int .u64 m.d.x1, .int .u64 m.d.x2, .int .u64 m.d.x3, .int .u64 m.d.x4, .int .u64 m.d.x5, .int .u64 m.d.x6, .int .u64 m.d.x7]] w (OutPost w d bm bw bl n cores ws (es.set i (grantE (askE es[i] m))) [grantM (askE es[i] m) (lineV n ws m.l)]) := by
  obtain ⟨c0, c1⟩ := hc
  have hal : Chg [] w (w.alloc (.cells #[.int .i64 m.k, .int .i64 m.c, .int .i64 m.l, .int .u64 m.d.x0, .int .u64 m.d.x1, .int .u64 m.d.x2, .int .u64 m.d.x3, .int .u64 m.d.x4, .int .u64 m.d.x5, .int .u64 m.d.x6, .int .u64 m.d.x7] 33)) := (Chg.refl [] w).alloc _
  have HD := Lib.hid (D.look hal)
  have HB := Lib.hid (Blk.new w [.int .i64 m.k, .int .i64 m.c, .int .i64 m.l, .int .u64 m.d.x0, .int .u64 m.d.x1, .int .u64 m.d.x2, .int .u64 m.d.x3, .int .u64 m.d.x4, .int .u64 m.d.x5, .int .u64 m.d.x6, .int .u64 m.d.x7] 33)
  have HC := Lib.hid (hal.mono (T := [bl]) (by simp))
  have hbl0 : bl < w.heap.size := Blk.lt D.ents
  clear D hal
  go_enter Try.func27, Try.ntmps27
  go_upto_region 1 with fail
  generalize World.alloc _ _ = wa at *
  obtain ⟨b, hb⟩ : ∃ b, w.heap.size = b := ⟨_, rfl⟩
  have HNb := Lib.hid hb
  rw [hb] at HB hbl0 ⊢
  clear hb
  have m0 : wa.cell? ⟨b, 0, none⟩ = some (.int .i64 m.k) := HB.out.cell 0
  have m1 : wa.cell? ⟨b, 1, none⟩ = some (.int .i64 m.c) := HB.out.cell 1
  have m2 : wa.cell? ⟨b, 2, none⟩ = some (.int .i64 m.l) := HB.out.cell 2
  have m3 : wa.cell? ⟨b, 3, none⟩ = some (.int .u64 m.d.x0) := HB.out.cell 3
  have m4 : wa.cell? ⟨b, 4, none⟩ = some (.int .u64 m.d.x1) := HB.out.cell 4
  have m5 : wa.cell? ⟨b, 5, none⟩ = some (.int .u64 m.d.x2) := HB.out.cell 5
  have m6 : wa.cell? ⟨b, 6, none⟩ = some (.int .u64 m.d.x3) := HB.out.cell 6
  have m7 : wa.cell? ⟨b, 7, none⟩ = some (.int .u64 m.d.x4) := HB.out.cell 7
  have m8 : wa.cell? ⟨b, 8, none⟩ = some (.int .u64 m.d.x5) := HB.out.cell 8
  have m9 : wa.cell? ⟨b, 9, none⟩ = some (.int .u64 m.d.x6) := HB.out.cell 9
  have m10 : wa.cell? ⟨b, 10, none⟩ = some (.int .u64 m.d.x7) := HB.out.cell 10
  have mlt : b < wa.heap.size := HB.out.lt
  have blt : bl < wa.heap.size := Blk.lt HD.out.ents
  have hdb : b ≠ bl := by omega
  obtain ⟨p, hp⟩ : ∃ p, i * 16 = p := ⟨_, rfl⟩
  have e2 : wa.cell? ⟨bl, p + 2, none⟩ = some (.int .i64 es[i].un.k) := by rw [← hp]; exact HD.out.ents.cell hi (j := 2) (by decide)
  have f2 : wa.frozen? ⟨bl, p + 2, none⟩ = false := HD.out.ents.free _
  have e3 : wa.cell? ⟨bl, p + 3, none⟩ = some (.int .i64 es[i].un.c) := by rw [← hp]; exact HD.out.ents.cell hi (j := 3) (by decide)
  have f3 : wa.frozen? ⟨bl, p + 3, none⟩ = false := HD.out.ents.free _
  have e4 : wa.cell? ⟨bl, p + 4, none⟩ = some (.int .i64 es[i].un.l) := by rw [← hp]; exact HD.out.ents.cell hi (j := 4) (by decide)
  have f4 : wa.frozen? ⟨bl, p + 4, none⟩ = false := HD.out.ents.free _
  have e5 : wa.cell? ⟨bl, p + 5, none⟩ = some (.int .u64 es[i].un.d.x0) := by rw [← hp]; exact HD.out.ents.cell hi (j := 5) (by decide)
  have f5 : wa.frozen? ⟨bl, p + 5, none⟩ = false := HD.out.ents.free _
  have e6 : wa.cell? ⟨bl, p + 6, none⟩ = some (.int .u64 es[i].un.d.x1) := by rw [← hp]; exact HD.out.ents.cell hi (j := 6) (by decide)
  have f6 : wa.frozen? ⟨bl, p + 6, none⟩ = false := HD.out.ents.free _
  have e7 : wa.cell? ⟨bl, p + 7, none⟩ = some (.int .u64 es[i].un.d.x2) := by rw [← hp]; exact HD.out.ents.cell hi (j := 7) (by decide)
  have f7 : wa.frozen? ⟨bl, p + 7, none⟩ = false := HD.out.ents.free _
  have e8 : wa.cell? ⟨bl, p + 8, none⟩ = some (.int .u64 es[i].un.d.x3) := by rw [← hp]; exact HD.out.ents.cell hi (j := 8) (by decide)
  have f8 : wa.frozen? ⟨bl, p + 8, none⟩ = false := HD.out.ents.free _
  have e9 : wa.cell? ⟨bl, p + 9, none⟩ = some (.int .u64 es[i].un.d.x4) := by rw [← hp]; exact HD.out.ents.cell hi (j := 9) (by decide)
  have f9 : wa.frozen? ⟨bl, p + 9, none⟩ = false := HD.out.ents.free _
  have e10 : wa.cell? ⟨bl, p + 10, none⟩ = some (.int .u64 es[i].un.d.x5) := by rw [← hp]; exact HD.out.ents.cell hi (j := 10) (by decide)
  have f10 : wa.frozen? ⟨bl, p + 10, none⟩ = false := HD.out.ents.free _
  have e11 : wa.cell? ⟨bl, p + 11, none⟩ = some (.int .u64 es[i].un.d.x6) := by rw [← hp]; exact HD.out.ents.cell hi (j := 11) (by decide)
  have f11 : wa.frozen? ⟨bl, p + 11, none⟩ = false := HD.out.ents.free _
  have e12 : wa.cell? ⟨bl, p + 12, none⟩ = some (.int .u64 es[i].un.d.x7) := by rw [← hp]; exact HD.out.ents.cell hi (j := 12) (by decide)
  have f12 : wa.frozen? ⟨bl, p + 12, none⟩ = false := HD.out.ents.free _
  have HP := Lib.hid hp
  rw [hp]
  clear hp
  go_upto_region 2 with fail
  have hE := HD.out.ents
  replace hE := hE.set hi (j := 2) (by decide) (v := .int .i64 m.k) (e := { es[i] with un := ⟨m.k, es[i].un.c, es[i].un.l, ⟨es[i].un.d.x0, es[i].un.d.x1, es[i].un.d.x2, es[i].un.d.x3, es[i].un.d.x4, es[i].un.d.x5, es[i].un.d.x6, es[i].un.d.x7⟩⟩ }) rfl
  replace hE := EntsAt.set hE (by rw [List.length_set]; exact hi) (j := 3) (by decide) (v := .int .i64 m.c) (e := { es[i] with un := ⟨m.k, m.c, es[i].un.l, ⟨es[i].un.d.x0, es[i].un.d.x1, es[i].un.d.x2, es[i].un.d.x3, es[i].un.d.x4, es[i].un.d.x5, es[i].un.d.x6, es[i].un.d.x7⟩⟩ }) (by rw [List.getElem_set_self]; rfl)
  rw [List.set_set] at hE
  replace hE := EntsAt.set hE (by rw [List.length_set]; exact hi) (j := 4) (by decide) (v := .int .i64 m.l) (e := { es[i] with un := ⟨m.k, m.c, m.l, ⟨es[i].un.d.x0, es[i].un.d.x1, es[i].un.d.x2, es[i].un.d.x3, es[i].un.d.x4, es[i].un.d.x5, es[i].un.d.x6, es[i].un.d.x7⟩⟩ }) (by rw [List.getElem_set_self]; rfl)
  rw [List.set_set] at hE
  replace hE := EntsAt.set hE (by rw [List.length_set]; exact hi) (j := 5) (by decide) (v := .int .u64 m.d.x0) (e := { es[i] with un := ⟨m.k, m.c, m.l, ⟨m.d.x0, es[i].un.d.x1, es[i].un.d.x2, es[i].un.d.x3, es[i].un.d.x4, es[i].un.d.x5, es[i].un.d.x6, es[i].un.d.x7⟩⟩ }) (by rw [List.getElem_set_self]; rfl)
  rw [List.set_set] at hE
  replace hE := EntsAt.set hE (by rw [List.length_set]; exact hi) (j := 6) (by decide) (v := .int .u64 m.d.x1) (e := { es[i] with un := ⟨m.k, m.c, m.l, ⟨m.d.x0, m.d.x1, es[i].un.d.x2, es[i].un.d.x3, es[i].un.d.x4, es[i].un.d.x5, es[i].un.d.x6, es[i].un.d.x7⟩⟩ }) (by rw [List.getElem_set_self]; rfl)
  rw [List.set_set] at hE
  replace hE := EntsAt.set hE (by rw [List.length_set]; exact hi) (j := 7) (by decide) (v := .int .u64 m.d.x2) (e := { es[i] with un := ⟨m.k, m.c, m.l, ⟨m.d.x0, m.d.x1, m.d.x2, es[i].un.d.x3, es[i].un.d.x4, es[i].un.d.x5, es[i].un.d.x6, es[i].un.d.x7⟩⟩ }) (by rw [List.getElem_set_self]; rfl)
  rw [List.set_set] at hE
  replace hE := EntsAt.set hE (by rw [List.length_set]; exact hi) (j := 8) (by decide) (v := .int .u64 m.d.x3) (e := { es[i] with un := ⟨m.k, m.c, m.l, ⟨m.d.x0, m.d.x1, m.d.x2, m.d.x3, es[i].un.d.x4, es[i].un.d.x5, es[i].un.d.x6, es[i].un.d.x7⟩⟩ }) (by rw [List.getElem_set_self]; rfl)
  rw [List.set_set] at hE
  replace hE := EntsAt.set hE (by rw [List.length_set]; exact hi) (j := 9) (by decide) (v := .int .u64 m.d.x4) (e := { es[i] with un := ⟨m.k, m.c, m.l, ⟨m.d.x0, m.d.x1, m.d.x2, m.d.x3, m.d.x4, es[i].un.d.x5, es[i].un.d.x6, es[i].un.d.x7⟩⟩ }) (by rw [List.getElem_set_self]; rfl)
  rw [List.set_set] at hE
  replace hE := EntsAt.set hE (by rw [List.length_set]; exact hi) (j := 10) (by decide) (v := .int .u64 m.d.x5) (e := { es[i] with un := ⟨m.k, m.c, m.l, ⟨m.d.x0, m.d.x1, m.d.x2, m.d.x3, m.d.x4, m.d.x5, es[i].un.d.x6, es[i].un.d.x7⟩⟩ }) (by rw [List.getElem_set_self]; rfl)
  rw [List.set_set] at hE
  replace hE := EntsAt.set hE (by rw [List.length_set]; exact hi) (j := 11) (by decide) (v := .int .u64 m.d.x6) (e := { es[i] with un := ⟨m.k, m.c, m.l, ⟨m.d.x0, m.d.x1, m.d.x2, m.d.x3, m.d.x4, m.d.x5, m.d.x6, es[i].un.d.x7⟩⟩ }) (by rw [List.getElem_set_self]; rfl)
  rw [List.set_set] at hE
  replace hE := EntsAt.set hE (by rw [List.length_set]; exact hi) (j := 12) (by decide) (v := .int .u64 m.d.x7) (e := { es[i] with un := ⟨m.k, m.c, m.l, ⟨m.d.x0, m.d.x1, m.d.x2, m.d.x3, m.d.x4, m.d.x5, m.d.x6, m.d.x7⟩⟩ }) (by rw [List.getElem_set_self]; rfl)
  rw [List.set_set] at hE
  rw [HP.out] at hE
  have hC := (((((((((((HC.out).setCell (p := ⟨bl, p + 2, none⟩) (fun _ => List.mem_singleton.2 rfl) (.int .i64 m.k)).setCell (p := ⟨bl, p + 3, none⟩) (fun _ => List.mem_singleton.2 rfl) (.int .i64 m.c)).setCell (p := ⟨bl, p + 4, none⟩) (fun _ => List.mem_singleton.2 rfl) (.int .i64 m.l)).setCell (p := ⟨bl, p + 5, none⟩) (fun _ => List.mem_singleton.2 rfl) (.int .u64 m.d.x0)).setCell (p := ⟨bl, p + 6, none⟩) (fun _ => List.mem_singleton.2 rfl) (.int .u64 m.d.x1)).setCell (p := ⟨bl, p + 7, none⟩) (fun _ => List.mem_singleton.2 rfl) (.int .u64 m.d.x2)).setCell (p := ⟨bl, p + 8, none⟩) (fun _ => List.mem_singleton.2 rfl) (.int .u64 m.d.x3)).setCell (p := ⟨bl, p + 9, none⟩) (fun _ => List.mem_singleton.2 rfl) (.int .u64 m.d.x4)).setCell (p := ⟨bl, p + 10, none⟩) (fun _ => List.mem_singleton.2 rfl) (.int .u64 m.d.x5)).setCell (p := ⟨bl, p + 11, none⟩) (fun _ => List.mem_singleton.2 rfl) (.int .u64 m.d.x6)).setCell (p := ⟨bl, p + 12, none⟩) (fun _ => List.mem_singleton.2 rfl) (.int .u64 m.d.x7)
  have hB := (((((((((((HB.out).other (a := ⟨bl, p + 2, none⟩) (Ne.symm hdb) (.int .i64 m.k)).other (a := ⟨bl, p + 3, none⟩) (Ne.symm hdb) (.int .i64 m.c)).other (a := ⟨bl, p + 4, none⟩) (Ne.symm hdb) (.int .i64 m.l)).other (a := ⟨bl, p + 5, none⟩) (Ne.symm hdb) (.int .u64 m.d.x0)).other (a := ⟨bl, p + 6, none⟩) (Ne.symm hdb) (.int .u64 m.d.x1)).other (a := ⟨bl, p + 7, none⟩) (Ne.symm hdb) (.int .u64 m.d.x2)).other (a := ⟨bl, p + 8, none⟩) (Ne.symm hdb) (.int .u64 m.d.x3)).other (a := ⟨bl, p + 9, none⟩) (Ne.symm hdb) (.int .u64 m.d.x4)).other (a := ⟨bl, p + 10, none⟩) (Ne.symm hdb) (.int .u64 m.d.x5)).other (a := ⟨bl, p + 11, none⟩) (Ne.symm hdb) (.int .u64 m.d.x6)).other (a := ⟨bl, p + 12, none⟩) (Ne.symm hdb) (.int .u64 m.d.x7)
  have hDs : Chg [bl] wa _ := (((((((((((Chg.refl [bl] wa).setCell (p := ⟨bl, p + 2, none⟩) (fun _ => List.mem_singleton.2 rfl) (.int .i64 m.k)).setCell (p := ⟨bl, p + 3, none⟩) (fun _ => List.mem_singleton.2 rfl) (.int .i64 m.c)).setCell (p := ⟨bl, p + 4, none⟩) (fun _ => List.mem_singleton.2 rfl) (.int .i64 m.l)).setCell (p := ⟨bl, p + 5, none⟩) (fun _ => List.mem_singleton.2 rfl) (.int .u64 m.d.x0)).setCell (p := ⟨bl, p + 6, none⟩) (fun _ => List.mem_singleton.2 rfl) (.int .u64 m.d.x1)).setCell (p := ⟨bl, p + 7, none⟩) (fun _ => List.mem_singleton.2 rfl) (.int .u64 m.d.x2)).setCell (p := ⟨bl, p + 8, none⟩) (fun _ => List.mem_singleton.2 rfl) (.int .u64 m.d.x3)).setCell (p := ⟨bl, p + 9, none⟩) (fun _ => List.mem_singleton.2 rfl) (.int .u64 m.d.x4)).setCell (p := ⟨bl, p + 10, none⟩) (fun _ => List.mem_singleton.2 rfl) (.int .u64 m.d.x5)).setCell (p := ⟨bl, p + 11, none⟩) (fun _ => List.mem_singleton.2 rfl) (.int .u64 m.d.x6)).setCell (p := ⟨bl, p + 12, none⟩) (fun _ => List.mem_singleton.2 rfl) (.int .u64 m.d.x7)
  have HD2 := Lib.hid (HD.out.turn hDs hE (by rw [List.length_set]; exact HD.out.len))
  replace HC := Lib.hid hC; replace HB := Lib.hid hB
  clear hC hB hDs hE HD m0 m1 m2 m3 m4 m5 m6 m7 m8 m9 m10 mlt blt e2 f2 e3 f3 e4 f4 e5 f5 e6 f6 e7 f7 e8 f8 e9 f9 e10 f10 e11 f11 e12 f12
  generalize World.setCell (World.setCell (World.setCell (World.setCell (World.setCell (World.setCell (World.setCell (World.setCell (World.setCell (World.setCell (World.setCell _ _ _) _ _) _ _) _ _) _ _) _ _) _ _) _ _) _ _) _ _) _ _ = w2 at *
  have hi2 : i < (es.set i { es[i] with un := m }).length := by rw [List.length_set]; exact hi
  replace HD2 : Hid (DirAt w2 d bm bw bl n cores ws (es.set i { es[i] with un := m })) := HD2
  have hcell : ∀ j, j < 16 → w2.cell? ⟨bl, p + j, none⟩ = (encE { es[i] with un := m })[j]? := fun j hj => by
    have := HD2.out.ents.cell hi2 hj
    rw [List.getElem_set_self, HP.out] at this; exact this
  have HCell := Lib.hid hcell
  clear hcell
  have mlt : b < w2.heap.size := HB.out.lt
  have blt : bl < w2.heap.size := Blk.lt HD2.out.ents
  have e0 : w2.cell? ⟨bl, p, none⟩ = some (.int .i64 es[i].ow) := HCell.out 0 (by decide)
  have f0 : w2.frozen? ⟨bl, p, none⟩ = false := HD2.out.ents.free _
  have e1 : w2.cell? ⟨bl, p + 1, none⟩ = some (.int .u8 es[i].sh) := HCell.out 1 (by decide)
  have f1 : w2.frozen? ⟨bl, p + 1, none⟩ = false := HD2.out.ents.free _
  have e14 : w2.cell? ⟨bl, p + 14, none⟩ = some (.int .u8 es[i].ak) := HCell.out 14 (by decide)
  have f14 : w2.frozen? ⟨bl, p + 14, none⟩ = false := HD2.out.ents.free _
  have m0 : w2.cell? ⟨b, 0, none⟩ = some (.int .i64 m.k) := HB.out.cell 0
  have m1 : w2.cell? ⟨b, 1, none⟩ = some (.int .i64 m.c) := HB.out.cell 1
  have hov : decide (0 ≤ es[i].ow) = false := by simp; omega
  go_wp2_with fail
  go_still_tail 11, (by kernel_rfl)
  go_upto_region 9 with fail
  have hE := HD2.out.ents.set hi2 (j := 14) (by decide) (v := .int .u8 (bits .andNot .u8 es[i].sh (2 ^ m.c.toNat % 256))) (e := askE es[i] m) (by rw [List.getElem_set_self]; rfl)
  rw [List.set_set, HP.out] at hE
  have hDs := ((Chg.refl [bl] w2).setCell (p := ⟨bl, p + 14, none⟩) (fun _ => List.mem_singleton.2 rfl) (.int .u8 (bits .andNot .u8 es[i].sh (2 ^ m.c.toNat % 256)))).drew
  have HD3 := Lib.hid (HD2.out.turn hDs (Blk.drew hE) (by have := HD2.out.len; rw [List.length_set] at this ⊢; exact this))
  replace HC := Lib.hid (HC.out.trans hDs)
  replace HB := Lib.hid (hDs.blk HB.out (by simp; exact hdb))
  clear hDs hE e0 e1 e14 f0 f1 f14 m0 m1 mlt blt hov
  generalize World.drew _ = w3 at *
  have hi4 : i < (es.set i (askE es[i] m)).length := by rw [List.length_set]; exact hi
  replace HD3 : Hid (DirAt w3 d bm bw bl n cores ws (es.set i (askE es[i] m))) := HD3
  have mlt : b < w3.heap.size := HB.out.lt
  have blt : bl < w3.heap.size := Blk.lt HD3.out.ents
  have m0 : w3.cell? ⟨b, 0, none⟩ = some (.int .i64 m.k) := HB.out.cell 0
  have e14 : w3.cell? ⟨bl, p + 14, none⟩ = some (.int .u8 (notB es[i].sh m.c)) := by have := HD3.out.ents.cell hi4 (j := 14) (by decide); rw [List.getElem_set_self, HP.out] at this; exact this
  have HG := Lib.hid (show Calls Try.prog 29 #[.pointer (some ⟨d, 0, none⟩), .pointer (some ⟨bl, p, none⟩)] w3 fun e w' => e = .returned (grantM (askE es[i] m) (lineV n ws m.l)).val ∧ DirAt w' d bm bw bl n cores ws (es.set i (grantE (askE es[i] m))) ∧ Chg [bl] w3 w' from by
    have h := grant_any w3 d bm bw bl n cores ws (es.set i (askE es[i] m)) i hi4 (by rw [List.getElem_set_self]; exact ⟨c0, c1⟩) (by rw [List.getElem_set_self]; exact hl) HD3.out
    rw [List.getElem_set_self, List.set_set, HP.out] at h
    exact h)
  obtain ⟨g, hgm⟩ : ∃ g, grantM (askE es[i] m) (lineV n ws m.l) = g := ⟨_, rfl⟩
  rw [hgm] at HG
  obtain ⟨gk, gc, gl, g0, g1, g2, g3, g4, g5, g6, g7⟩ := g
  have HGm := Lib.hid hgm
  clear hgm hl
  by_cases hk : m.k = 1
  · rw [hk] at m0
    have HK := Lib.hid hk; clear hk hg
    go_wp2_with fail
    refine HG.out.mono ?_
    rintro e w5 ⟨rfl, hD5, hx5⟩
    have HD5 := Lib.hid hD5; have HC5 := Lib.hid (HC.out.trans hx5)
    clear hD5 hx5
    simp only [MsgV.val]
    go_wp2_with fail
    have hx := HC5.out.alloc (.cells #[.int .i64 gk, .int .i64 gc, .int .i64 gl, .int .u64 g0, .int .u64 g1, .int .u64 g2, .int .u64 g3, .int .u64 g4, .int .u64 g5, .int .u64 g6, .int .u64 g7] 33)
    have hbk := Blk.new w5 [.int .i64 gk, .int .i64 gc, .int .i64 gl, .int .u64 g0, .int .u64 g1, .int .u64 g2, .int .u64 g3, .int .u64 g4, .int .u64 g5, .int .u64 g6, .int .u64 g7] 33
    have hD6 := HD5.out.look ((Chg.refl [] w5).alloc (.cells #[.int .i64 gk, .int .i64 gc, .int .i64 gl, .int .u64 g0, .int .u64 g1, .int .u64 g2, .int .u64 g3, .int .u64 g4, .int .u64 g5, .int .u64 g6, .int .u64 g7] 33))
    have hsz : w.heap.size ≤ w5.heap.size := HC5.out.size
    go_ret
    refine ⟨_, rfl, ?_, hD6, hx⟩
    rw [HGm.out]
    exact row_of_blk hbk rfl hsz (by decide)
  · have hk2 : (m.k == 1) = false := by simpa using hk
    have h0 : notB es[i].sh m.c = 0 := hg.resolve_left hk
    rw [h0] at e14
    have HK := Lib.hid hk; clear hk hg h0
    go_wp2_with fail
    refine HG.out.mono ?_
    rintro e w5 ⟨rfl, hD5, hx5⟩
    have HD5 := Lib.hid hD5; have HC5 := Lib.hid (HC.out.trans hx5)
    clear hD5 hx5
    simp only [MsgV.val]
    go_wp2_with fail
    have hx := HC5.out.alloc (.cells #[.int .i64 gk, .int .i64 gc, .int .i64 gl, .int .u64 g0, .int .u64 g1, .int .u64 g2, .int .u64 g3, .int .u64 g4, .int .u64 g5, .int .u64 g6, .int .u64 g7] 33)
    have hbk := Blk.new w5 [.int .i64 gk, .int .i64 gc, .int .i64 gl, .int .u64 g0, .int .u64 g1, .int .u64 g2, .int .u64 g3, .int .u64 g4, .int .u64 g5, .int .u64 g6, .int .u64 g7] 33
    have hD6 := HD5.out.look ((Chg.refl [] w5).alloc (.cells #[.int .i64 gk, .int .i64 gc, .int .i64 gl, .int .u64 g0, .int .u64 g1, .int .u64 g2, .int .u64 g3, .int .u64 g4, .int .u64 g5, .int .u64 g6, .int .u64 g7] 33))
    have hsz : w.heap.size ≤ w5.heap.size := HC5.out.size
    go_ret
    refine ⟨_, rfl, ?_, hD6, hx⟩
    rw [HGm.out]
    exact row_of_blk hbk rfl hsz (by decide)
end Go.Proofs.Ytepdhajgemmoiaa
