/- A directory's grant. -/
import Derived.Test.YtepdhajgemmoiaaDirE
import Derived.Deep.RegionWith
import Derived.Deep.CutBlock
import Derived.StillTailTactics
namespace Go.Proofs.Ytepdhajgemmoiaa
set_option maxRecDepth 100000
open Go.RowKit

/-- A directory at block d. -/
structure DirAt (w : World) (d bm bw bl n : Nat) (cores : Int) (ws : List Int) (es : List EntV) : Prop where
  blk : Blk w d [.pointer (some ⟨bm, 0, none⟩), .int .i64 cores, .slice (some ⟨bl, 0, none⟩) n n] 75
  mem : MemAt w bm bw n ws
  ents : EntsAt w bl es
  len : es.length = n
section
variable {w w' : World} {d bm bw bl n : Nat} {cores : Int} {ws : List Int} {es : List EntV} (D : DirAt w d bm bw bl n cores ws es)
include D
theorem DirAt.nd : d ≠ bl := D.blk.ne D.ents (by decide)
theorem DirAt.nm : bm ≠ bl := by obtain ⟨_, a⟩ := D.mem.m; exact a.ne D.ents (by decide)
theorem DirAt.nw : bw ≠ bl := by obtain ⟨_, a⟩ := D.mem.l; exact a.ne D.ents (by decide)
theorem DirAt.look (hC : Chg [] w w') : DirAt w' d bm bw bl n cores ws es := ⟨hC.blk D.blk (by simp), D.mem.chg hC (by simp) (by simp), hC.blk D.ents (by simp), D.len⟩
/-- The entries turned. -/
theorem DirAt.turn {es' : List EntV} (hC : Chg [bl] w w') (hE : EntsAt w' bl es') (hl : es'.length = n) : DirAt w' d bm bw bl n cores ws es' :=
  ⟨hC.blk D.blk (by simpa using D.nd), D.mem.chg hC (by simpa using D.nm) (by simpa using D.nw), hE, hl⟩
end

def lineV (n : Nat) (ws : List Int) (i : Int) : L8 := match memLine n ws i with
  | [x0, x1, x2, x3, x4, x5, x6, x7] => ⟨x0, x1, x2, x3, x4, x5, x6, x7⟩
  | _ => {}
theorem memLine_shape (n : Nat) (ws : List Int) (i : Int) : ∃ x0 x1 x2 x3 x4 x5 x6 x7, memLine n ws i = [x0, x1, x2, x3, x4, x5, x6, x7] := by
  unfold memLine
  split
  · exact ⟨_, _, _, _, _, _, _, _, rfl⟩
  · exact ⟨_, _, _, _, _, _, _, _, rfl⟩
theorem u64s_line (n : Nat) (ws : List Int) (i : Int) : u64s (memLine n ws i) = (lineV n ws i).val := by
  obtain ⟨x0, x1, x2, x3, x4, x5, x6, x7, e⟩ := memLine_shape n ws i
  unfold lineV; rw [e]; rfl
theorem Line_v {w : World} {bm bw n : Nat} {ws : List Int} {i : Int} (hM : MemAt w bm bw n ws) :
    Calls Try.prog 32 #[.pointer (some ⟨bm, 0, none⟩), .int .i64 i] w fun e w' => e = .returned (.tuple #[(lineV n ws i).val, .int .i64 (memErr n i)]) ∧ Chg [] w w' := by
  refine (Line_any w bm bw n ws i hM).mono ?_
  rintro e w' ⟨rfl, h⟩
  exact ⟨by rw [u64s_line], h⟩

def orB (s c : Int) : Int := bits .or .u8 s (2 ^ c.toNat % 256)
def grantE (e : EntV) : EntV := if e.un.k = 1 then { e with ph := 4, ak := 0, sh := orB e.sh e.un.c } else { e with ph := 4, ak := 0, ow := e.un.c, sh := 0 }
def grantM (e : EntV) (v : L8) : MsgV := ⟨if e.un.k = 1 then 14 else 15, e.un.c, e.un.l, v⟩

set_option maxHeartbeats 2000000 in
theorem grant_any (w : World) (d bm bw bl n : Nat) (cores : Int) (ws : List Int) (es : List EntV) (i : Nat) (hi : i < es.length) (hc : 0 ≤ es[i].un.c ∧ es[i].un.c < 4) (hl : 0 ≤ es[i].un.l ∧ es[i].un.l < n) (D : DirAt w d bm bw bl n cores ws es) :
    Calls Try.prog 29 #[.pointer (some ⟨d, 0, none⟩), .pointer (some ⟨bl, i * 16, none⟩)] w fun e w' => e = .returned (grantM es[i] (lineV n ws es[i].un.l)).val ∧ DirAt w' d bm bw bl n cores ws (es.set i (grantE es[i])) ∧ Chg [bl] w w' := by
  have HD := Lib.hid D
  have HC := Lib.hid hc
  have HL := Lib.hid hl
  have hdb := D.nd
  have hbl : bl < w.heap.size := Blk.lt D.ents
  have hdl : d < w.heap.size := D.blk.lt
  have c0 : w.cell? ⟨d, 0, none⟩ = some (.pointer (some ⟨bm, 0, none⟩)) := D.blk.cell 0
  have e1 : w.cell? ⟨bl, i * 16 + 1, none⟩ = some (.int .u8 es[i].sh) := D.ents.cell hi (by decide)
  have e2 : w.cell? ⟨bl, i * 16 + 2, none⟩ = some (.int .i64 es[i].un.k) := D.ents.cell hi (by decide)
  have e3 : w.cell? ⟨bl, i * 16 + 3, none⟩ = some (.int .i64 es[i].un.c) := D.ents.cell hi (by decide)
  have e4 : w.cell? ⟨bl, i * 16 + 4, none⟩ = some (.int .i64 es[i].un.l) := D.ents.cell hi (by decide)
  have e0 : w.cell? ⟨bl, i * 16, none⟩ = some (.int .i64 es[i].ow) := D.ents.cell hi (j := 0) (by decide)
  have e13 : w.cell? ⟨bl, i * 16 + 13, none⟩ = some (.int .i64 es[i].ph) := D.ents.cell hi (by decide)
  have e14 : w.cell? ⟨bl, i * 16 + 14, none⟩ = some (.int .u8 es[i].ak) := D.ents.cell hi (by decide)
  have f0 : w.frozen? ⟨bl, i * 16, none⟩ = false := D.ents.free _
  have f1 : w.frozen? ⟨bl, i * 16 + 1, none⟩ = false := D.ents.free _
  have f13 : w.frozen? ⟨bl, i * 16 + 13, none⟩ = false := D.ents.free _
  have f14 : w.frozen? ⟨bl, i * 16 + 14, none⟩ = false := D.ents.free _
  generalize hp : i * 16 = p at *
  clear D hc hl
  go_enter Try.func29, Try.ntmps29
  obtain ⟨v, hv⟩ : ∃ v, lineV n ws es[i].un.l = v := ⟨_, rfl⟩
  have HLn : Hid (∀ w' : World, MemAt w' bm bw n ws → Calls Try.prog 32 #[.pointer (some ⟨bm, 0, none⟩), .int .i64 es[i].un.l] w' fun e w2 => e = .returned (.tuple #[v.val, .int .i64 (memErr n es[i].un.l)]) ∧ Chg [] w' w2) := Lib.hid (fun w' hM => by rw [← hv]; exact Line_v hM)
  rw [hv]
  clear hv
  obtain ⟨x0, x1, x2, x3, x4, x5, x6, x7⟩ := v
  unfold L8.val at HLn
  go_wp2_with fail
  have hE1 := HD.out.ents.set hi (j := 13) (by decide) (v := .int .i64 4) (e := { es[i] with ph := 4 }) rfl
  have hi1 : i < (es.set i { es[i] with ph := 4 }).length := by rw [List.length_set]; exact hi
  have hE2 := hE1.set hi1 (j := 14) (by decide) (v := .int .u8 0) (e := { es[i] with ph := 4, ak := 0 }) (by rw [List.getElem_set_self]; rfl)
  rw [List.set_set, hp] at hE2
  have hC0 : Chg [bl] w (((w.setCell ⟨bl, p + 13, none⟩ (.int .i64 4)).setCell ⟨bl, p + 14, none⟩ (.int .u8 0)).alloc (.cells #[.int .i64 0, .int .i64 0, .int .i64 0, .int .u64 0, .int .u64 0, .int .u64 0, .int .u64 0, .int .u64 0, .int .u64 0, .int .u64 0, .int .u64 0] 33)) := (((Chg.refl _ _).setCell (by simp) _).setCell (by simp) _).alloc _
  have hE0 := Blk.alloc hE2 (.cells #[.int .i64 0, .int .i64 0, .int .i64 0, .int .u64 0, .int .u64 0, .int .u64 0, .int .u64 0, .int .u64 0, .int .u64 0, .int .u64 0, .int .u64 0] 33)
  have hR0 : Blk (((w.setCell ⟨bl, p + 13, none⟩ (.int .i64 4)).setCell ⟨bl, p + 14, none⟩ (.int .u8 0)).alloc (.cells #[.int .i64 0, .int .i64 0, .int .i64 0, .int .u64 0, .int .u64 0, .int .u64 0, .int .u64 0, .int .u64 0, .int .u64 0, .int .u64 0, .int .u64 0] 33)) w.heap.size [.int .i64 0, .int .i64 0, .int .i64 0, .int .u64 0, .int .u64 0, .int .u64 0, .int .u64 0, .int .u64 0, .int .u64 0, .int .u64 0, .int .u64 0] 33 := by
    have := Blk.new ((w.setCell ⟨bl, p + 13, none⟩ (.int .i64 4)).setCell ⟨bl, p + 14, none⟩ (.int .u8 0)) [.int .i64 0, .int .i64 0, .int .i64 0, .int .u64 0, .int .u64 0, .int .u64 0, .int .u64 0, .int .u64 0, .int .u64 0, .int .u64 0, .int .u64 0] 33
    simpa using this
  have hD0 := HD.out.turn hC0 hE0 (by rw [List.length_set]; exact HD.out.len)
  have HD0 := Lib.hid hD0
  have HC0 := Lib.hid hC0
  have HE0 := Lib.hid (show EntsAt _ bl _ from hE0)
  have HR0 := Lib.hid hR0
  clear hE1 hE2 hE0 hD0 hC0 hR0 e0 e1 e2 e3 e4 e13 e14 f0 f1 f13 f14 c0 hi1 hbl hdl
  generalize World.alloc (World.setCell _ _ _) _ = w0 at *
  have c0 : w0.cell? ⟨d, 0, none⟩ = some (.pointer (some ⟨bm, 0, none⟩)) := HD0.out.blk.cell 0
  have hi2 : i < (es.set i { es[i] with ph := 4, ak := 0 }).length := by rw [List.length_set]; exact hi
  have hcell : ∀ j, j < 16 → w0.cell? ⟨bl, p + j, none⟩ = (encE { es[i] with ph := 4, ak := 0 })[j]? := fun j hj => by
    have := HE0.out.cell hi2 hj
    rw [List.getElem_set_self, hp] at this; exact this
  have e4 : w0.cell? ⟨bl, p + 4, none⟩ = some (.int .i64 es[i].un.l) := hcell 4 (by decide)
  have HCell := Lib.hid hcell
  clear hcell
  have hbl : bl < w0.heap.size := Blk.lt HE0.out
  have hdl : d < w0.heap.size := HD0.out.blk.lt
  go_cut [5, 6] from 14 to 26 (fun s5 s6 wx => ∃ b5, s5 = .pointer (some ⟨b5, 0, none⟩) ∧ Blk wx b5 [.int .u64 x0, .int .u64 x1, .int .u64 x2, .int .u64 x3, .int .u64 x4, .int .u64 x5, .int .u64 x6, .int .u64 x7] 31 ∧ Chg [] w0 wx ∧ w0.heap.size ≤ b5)
  case first =>
    have HX := Lib.hid ((Chg.refl [] w0).drew)
    go_region_with (go_at_call 32; refine (HLn.out _ (by first | exact HD0.out.mem.drew | exact (HD0.out.mem.alloc _).drew)).mono ?_; rintro e w' ⟨rfl, hx⟩; (first | (have hx' : Chg [] w0 w' := (by with_reducible exact HX.out.trans hx); replace HX := Lib.hid hx'; clear hx hx') | (have hx' : Chg [] w0 w' := (by with_reducible exact (((Chg.refl [] w0).alloc _).drew).trans hx); replace HX := Lib.hid hx'; have hZ := hx.blk (Blk.new w0 [.int .u64 0, .int .u64 0, .int .u64 0, .int .u64 0, .int .u64 0, .int .u64 0, .int .u64 0, .int .u64 0] 31).drew (by simp); have z0 : w'.cell? ⟨w0.heap.size, 0, none⟩ = some (.int .u64 0) := hZ.cell 0; have fz0 : w'.frozen? ⟨w0.heap.size, 0, none⟩ = false := hZ.free 0; have z1 : w'.cell? ⟨w0.heap.size, 1, none⟩ = some (.int .u64 0) := hZ.cell 1; have fz1 : w'.frozen? ⟨w0.heap.size, 1, none⟩ = false := hZ.free 1; have z2 : w'.cell? ⟨w0.heap.size, 2, none⟩ = some (.int .u64 0) := hZ.cell 2; have fz2 : w'.frozen? ⟨w0.heap.size, 2, none⟩ = false := hZ.free 2; have z3 : w'.cell? ⟨w0.heap.size, 3, none⟩ = some (.int .u64 0) := hZ.cell 3; have fz3 : w'.frozen? ⟨w0.heap.size, 3, none⟩ = false := hZ.free 3; have z4 : w'.cell? ⟨w0.heap.size, 4, none⟩ = some (.int .u64 0) := hZ.cell 4; have fz4 : w'.frozen? ⟨w0.heap.size, 4, none⟩ = false := hZ.free 4; have z5 : w'.cell? ⟨w0.heap.size, 5, none⟩ = some (.int .u64 0) := hZ.cell 5; have fz5 : w'.frozen? ⟨w0.heap.size, 5, none⟩ = false := hZ.free 5; have z6 : w'.cell? ⟨w0.heap.size, 6, none⟩ = some (.int .u64 0) := hZ.cell 6; have fz6 : w'.frozen? ⟨w0.heap.size, 6, none⟩ = false := hZ.free 6; have z7 : w'.cell? ⟨w0.heap.size, 7, none⟩ = some (.int .u64 0) := hZ.cell 7; have fz7 : w'.frozen? ⟨w0.heap.size, 7, none⟩ = false := hZ.free 7; have HZZ := Lib.hid hZ; clear hZ hx hx')))
    all_goals
      go_wp2_with fail
      go_meet
      first
        | (have hB8 := (((((((HZZ.out.set 0 (.int .u64 x0)).set 1 (.int .u64 x1)).set 2 (.int .u64 x2)).set 3 (.int .u64 x3)).set 4 (.int .u64 x4)).set 5 (.int .u64 x5)).set 6 (.int .u64 x6)).set 7 (.int .u64 x7); refine ⟨w0.heap.size, rfl, hB8, ?_, Nat.le_refl _⟩; exact ((((((((HX.out.setCell (fun h => absurd h (Nat.lt_irrefl _)) _).setCell (fun h => absurd h (Nat.lt_irrefl _)) _).setCell (fun h => absurd h (Nat.lt_irrefl _)) _).setCell (fun h => absurd h (Nat.lt_irrefl _)) _).setCell (fun h => absurd h (Nat.lt_irrefl _)) _).setCell (fun h => absurd h (Nat.lt_irrefl _)) _).setCell (fun h => absurd h (Nat.lt_irrefl _)) _).setCell (fun h => absurd h (Nat.lt_irrefl _)) _))
        | exact ⟨_, rfl, Blk.new _ _ _, HX.out.alloc _, HX.out.size⟩
  case rest =>
    obtain ⟨b5, rfl, hB5, hC5, hb5⟩ := hcut
    rename World => w5
    have HB5 := Lib.hid hB5
    have HC5 := Lib.hid hC5
    have HD5 := Lib.hid (HD0.out.look hC5)
    have HE5 := Lib.hid (show EntsAt w5 bl _ from hC5.blk HE0.out (by simp))
    have HR5 := Lib.hid (hC5.blk HR0.out (by simp))
    clear c0 e4
    have e1 : w5.cell? ⟨bl, p + 1, none⟩ = some (.int .u8 es[i].sh) := (hC5.cell0 hbl _).trans (HCell.out 1 (by decide))
    have e2 : w5.cell? ⟨bl, p + 2, none⟩ = some (.int .i64 es[i].un.k) := (hC5.cell0 hbl _).trans (HCell.out 2 (by decide))
    have e3 : w5.cell? ⟨bl, p + 3, none⟩ = some (.int .i64 es[i].un.c) := (hC5.cell0 hbl _).trans (HCell.out 3 (by decide))
    have e4 : w5.cell? ⟨bl, p + 4, none⟩ = some (.int .i64 es[i].un.l) := (hC5.cell0 hbl _).trans (HCell.out 4 (by decide))
    have l0 : w5.cell? ⟨b5, 0, none⟩ = some (.int .u64 x0) := hB5.cell 0
    have l1 : w5.cell? ⟨b5, 1, none⟩ = some (.int .u64 x1) := hB5.cell 1
    have l2 : w5.cell? ⟨b5, 2, none⟩ = some (.int .u64 x2) := hB5.cell 2
    have l3 : w5.cell? ⟨b5, 3, none⟩ = some (.int .u64 x3) := hB5.cell 3
    have l4 : w5.cell? ⟨b5, 4, none⟩ = some (.int .u64 x4) := hB5.cell 4
    have l5 : w5.cell? ⟨b5, 5, none⟩ = some (.int .u64 x5) := hB5.cell 5
    have l6 : w5.cell? ⟨b5, 6, none⟩ = some (.int .u64 x6) := hB5.cell 6
    have l7 : w5.cell? ⟨b5, 7, none⟩ = some (.int .u64 x7) := hB5.cell 7
    have hbl5 : bl < w5.heap.size := Blk.lt HE5.out
    have hb55 : b5 < w5.heap.size := hB5.lt
    clear hB5 hC5 hb5 hbl hdl
    go_wp2_with fail
    go_region
    have hC7 := ((Chg.refl [] w5).alloc (.cells #[.int .i64 14, .int .i64 es[i].un.c, .int .i64 es[i].un.l, .int .u64 x0, .int .u64 x1, .int .u64 x2, .int .u64 x3, .int .u64 x4, .int .u64 x5, .int .u64 x6, .int .u64 x7] 33)).drew
    have HC7 := Lib.hid hC7
    have HB7 := Lib.hid (Blk.new w5 [.int .i64 14, .int .i64 es[i].un.c, .int .i64 es[i].un.l, .int .u64 x0, .int .u64 x1, .int .u64 x2, .int .u64 x3, .int .u64 x4, .int .u64 x5, .int .u64 x6, .int .u64 x7] 33).drew
    have HD7 := Lib.hid (HD5.out.look hC7)
    have HE7 := Lib.hid (show EntsAt _ bl _ from hC7.blk HE5.out (by simp))
    have HR7 := Lib.hid (hC7.blk HR5.out (by simp))
    have hn7 : w5.heap.size ≠ w.heap.size := fun e => by have := HR5.out.lt; omega
    have hb7w : w.heap.size < w5.heap.size := HR5.out.lt
    have hn8 : w5.heap.size ≠ bl := fun e => by omega
    have hn9 : w.heap.size ≠ bl := HR5.out.ne HE5.out (by decide)
    clear hC7 e1 e2 e3 e4 l0 l1 l2 l3 l4 l5 l6 l7
    generalize World.drew _ = w7 at *
    obtain ⟨b7, hb7⟩ : ∃ b, w5.heap.size = b := ⟨_, rfl⟩
    rw [hb7] at HB7 hn7 hn8 hb7w ⊢
    clear hb7 hbl5 hb55
    have m0 : w7.cell? ⟨b7, 0, none⟩ = some (.int .i64 14) := HB7.out.cell 0
    have m1 : w7.cell? ⟨b7, 1, none⟩ = some (.int .i64 es[i].un.c) := HB7.out.cell 1
    have m2 : w7.cell? ⟨b7, 2, none⟩ = some (.int .i64 es[i].un.l) := HB7.out.cell 2
    have m3 : w7.cell? ⟨b7, 3, none⟩ = some (.int .u64 x0) := HB7.out.cell 3
    have m4 : w7.cell? ⟨b7, 4, none⟩ = some (.int .u64 x1) := HB7.out.cell 4
    have m5 : w7.cell? ⟨b7, 5, none⟩ = some (.int .u64 x2) := HB7.out.cell 5
    have m6 : w7.cell? ⟨b7, 6, none⟩ = some (.int .u64 x3) := HB7.out.cell 6
    have m7 : w7.cell? ⟨b7, 7, none⟩ = some (.int .u64 x4) := HB7.out.cell 7
    have m8 : w7.cell? ⟨b7, 8, none⟩ = some (.int .u64 x5) := HB7.out.cell 8
    have m9 : w7.cell? ⟨b7, 9, none⟩ = some (.int .u64 x6) := HB7.out.cell 9
    have m10 : w7.cell? ⟨b7, 10, none⟩ = some (.int .u64 x7) := HB7.out.cell 10
    have r0 : w7.cell? ⟨w.heap.size, 0, none⟩ = some (.int .i64 0) := HR7.out.cell 0
    have q0 : w7.frozen? ⟨w.heap.size, 0, none⟩ = false := HR7.out.free 0
    have r1 : w7.cell? ⟨w.heap.size, 1, none⟩ = some (.int .i64 0) := HR7.out.cell 1
    have q1 : w7.frozen? ⟨w.heap.size, 1, none⟩ = false := HR7.out.free 1
    have r2 : w7.cell? ⟨w.heap.size, 2, none⟩ = some (.int .i64 0) := HR7.out.cell 2
    have q2 : w7.frozen? ⟨w.heap.size, 2, none⟩ = false := HR7.out.free 2
    have r3 : w7.cell? ⟨w.heap.size, 3, none⟩ = some (.int .u64 0) := HR7.out.cell 3
    have q3 : w7.frozen? ⟨w.heap.size, 3, none⟩ = false := HR7.out.free 3
    have r4 : w7.cell? ⟨w.heap.size, 4, none⟩ = some (.int .u64 0) := HR7.out.cell 4
    have q4 : w7.frozen? ⟨w.heap.size, 4, none⟩ = false := HR7.out.free 4
    have r5 : w7.cell? ⟨w.heap.size, 5, none⟩ = some (.int .u64 0) := HR7.out.cell 5
    have q5 : w7.frozen? ⟨w.heap.size, 5, none⟩ = false := HR7.out.free 5
    have r6 : w7.cell? ⟨w.heap.size, 6, none⟩ = some (.int .u64 0) := HR7.out.cell 6
    have q6 : w7.frozen? ⟨w.heap.size, 6, none⟩ = false := HR7.out.free 6
    have r7 : w7.cell? ⟨w.heap.size, 7, none⟩ = some (.int .u64 0) := HR7.out.cell 7
    have q7 : w7.frozen? ⟨w.heap.size, 7, none⟩ = false := HR7.out.free 7
    have r8 : w7.cell? ⟨w.heap.size, 8, none⟩ = some (.int .u64 0) := HR7.out.cell 8
    have q8 : w7.frozen? ⟨w.heap.size, 8, none⟩ = false := HR7.out.free 8
    have r9 : w7.cell? ⟨w.heap.size, 9, none⟩ = some (.int .u64 0) := HR7.out.cell 9
    have q9 : w7.frozen? ⟨w.heap.size, 9, none⟩ = false := HR7.out.free 9
    have r10 : w7.cell? ⟨w.heap.size, 10, none⟩ = some (.int .u64 0) := HR7.out.cell 10
    have q10 : w7.frozen? ⟨w.heap.size, 10, none⟩ = false := HR7.out.free 10
    have hi7 : i < (es.set i { es[i] with ph := 4, ak := 0 }).length := hi2
    have hc7 : ∀ j, j < 16 → w7.cell? ⟨bl, p + j, none⟩ = (encE { es[i] with ph := 4, ak := 0 })[j]? := fun j hj => by
      have := HE7.out.cell hi7 hj
      rw [List.getElem_set_self, hp] at this; exact this
    have e0 : w7.cell? ⟨bl, p, none⟩ = some (.int .i64 es[i].ow) := hc7 0 (by decide)
    have e1 : w7.cell? ⟨bl, p + 1, none⟩ = some (.int .u8 es[i].sh) := hc7 1 (by decide)
    have e2 : w7.cell? ⟨bl, p + 2, none⟩ = some (.int .i64 es[i].un.k) := hc7 2 (by decide)
    have e3 : w7.cell? ⟨bl, p + 3, none⟩ = some (.int .i64 es[i].un.c) := hc7 3 (by decide)
    have f0 : w7.frozen? ⟨bl, p, none⟩ = false := HE7.out.free _
    have f1 : w7.frozen? ⟨bl, p + 1, none⟩ = false := HE7.out.free _
    have hcc : 0 ≤ es[i].un.c := HC.out.1
    have g0 : w7.frozen? ⟨b7, 0, none⟩ = false := HB7.out.free 0
    clear hc7
    by_cases hk : es[i].un.k = 1
    · rw [hk] at e2
      have hcl : es[i].un.c < 4 := HC.out.2
      go_wp2_with fail
      go_still_tail 13, (by kernel_rfl)
      go_wp2_with fail
      have hE8 : EntsAt (w7.setCell ⟨bl, p + 1, none⟩ (.int .u8 (orB es[i].sh es[i].un.c))) bl (es.set i (grantE es[i])) := by
        have h := HE7.out.set hi7 (j := 1) (by decide) (v := .int .u8 (orB es[i].sh es[i].un.c)) (e := grantE es[i]) (by rw [List.getElem_set_self]; unfold grantE; rw [if_pos hk]; rfl)
        rw [List.set_set, hp] at h; exact h
      have hC8 := (((((((((((((((HC0.out.trans (HC5.out.mono (T := [bl]) (by simp))).trans (HC7.out.mono (T := [bl]) (by simp)))).setCell (p := ⟨bl, p + 1, none⟩) (fun _ => List.mem_singleton.2 rfl) (.int .u8 (orB es[i].sh es[i].un.c))).setCell (p := ⟨w.heap.size, 0, none⟩) (fun h => absurd h (Nat.lt_irrefl _)) (.int .i64 14)).setCell (p := ⟨w.heap.size, 1, none⟩) (fun h => absurd h (Nat.lt_irrefl _)) (.int .i64 es[i].un.c)).setCell (p := ⟨w.heap.size, 2, none⟩) (fun h => absurd h (Nat.lt_irrefl _)) (.int .i64 es[i].un.l)).setCell (p := ⟨w.heap.size, 3, none⟩) (fun h => absurd h (Nat.lt_irrefl _)) (.int .u64 x0)).setCell (p := ⟨w.heap.size, 4, none⟩) (fun h => absurd h (Nat.lt_irrefl _)) (.int .u64 x1)).setCell (p := ⟨w.heap.size, 5, none⟩) (fun h => absurd h (Nat.lt_irrefl _)) (.int .u64 x2)).setCell (p := ⟨w.heap.size, 6, none⟩) (fun h => absurd h (Nat.lt_irrefl _)) (.int .u64 x3)).setCell (p := ⟨w.heap.size, 7, none⟩) (fun h => absurd h (Nat.lt_irrefl _)) (.int .u64 x4)).setCell (p := ⟨w.heap.size, 8, none⟩) (fun h => absurd h (Nat.lt_irrefl _)) (.int .u64 x5)).setCell (p := ⟨w.heap.size, 9, none⟩) (fun h => absurd h (Nat.lt_irrefl _)) (.int .u64 x6)).setCell (p := ⟨w.heap.size, 10, none⟩) (fun h => absurd h (Nat.lt_irrefl _)) (.int .u64 x7)).drew
      have hR8 := (((((((((((((HR7.out).other (a := ⟨bl, p + 1, none⟩) (Ne.symm hn9) (.int .u8 (orB es[i].sh es[i].un.c))).set 0 (.int .i64 14)).set 1 (.int .i64 es[i].un.c)).set 2 (.int .i64 es[i].un.l)).set 3 (.int .u64 x0)).set 4 (.int .u64 x1)).set 5 (.int .u64 x2)).set 6 (.int .u64 x3)).set 7 (.int .u64 x4)).set 8 (.int .u64 x5)).set 9 (.int .u64 x6)).set 10 (.int .u64 x7)).drew
      have hE9 := Blk.drew (Blk.other (Blk.other (Blk.other (Blk.other (Blk.other (Blk.other (Blk.other (Blk.other (Blk.other (Blk.other (Blk.other (hE8) (a := ⟨w.heap.size, 0, none⟩) hn9 (.int .i64 14)) (a := ⟨w.heap.size, 1, none⟩) hn9 (.int .i64 es[i].un.c)) (a := ⟨w.heap.size, 2, none⟩) hn9 (.int .i64 es[i].un.l)) (a := ⟨w.heap.size, 3, none⟩) hn9 (.int .u64 x0)) (a := ⟨w.heap.size, 4, none⟩) hn9 (.int .u64 x1)) (a := ⟨w.heap.size, 5, none⟩) hn9 (.int .u64 x2)) (a := ⟨w.heap.size, 6, none⟩) hn9 (.int .u64 x3)) (a := ⟨w.heap.size, 7, none⟩) hn9 (.int .u64 x4)) (a := ⟨w.heap.size, 8, none⟩) hn9 (.int .u64 x5)) (a := ⟨w.heap.size, 9, none⟩) hn9 (.int .u64 x6)) (a := ⟨w.heap.size, 10, none⟩) hn9 (.int .u64 x7))
      simp only [List.set_cons_zero, List.set_cons_succ] at hR8
      have hsv : bits BinOp.or IntKind.u8 es[i].sh (2 ^ es[i].un.c.toNat % 256) = orB es[i].sh es[i].un.c := rfl
      rw [hsv]
      clear hsv
      generalize orB es[i].sh es[i].un.c = ob at hC8 hR8 hE9 ⊢
      have HC8 := Lib.hid hC8; have HR8 := Lib.hid hR8; have HE9 := Lib.hid hE9
      clear hC8 hR8 hE9 hE8
      generalize World.drew _ = wf at *
      refine bodyPost_ret (v := .agg #[.int .i64 14, .int .i64 es[i].un.c, .int .i64 es[i].un.l, .int .u64 x0, .int .u64 x1, .int .u64 x2, .int .u64 x3, .int .u64 x4, .int .u64 x5, .int .u64 x6, .int .u64 x7]) ?_ rfl ⟨?_, HD.out.turn HC8.out HE9.out (by rw [List.length_set]; exact HD.out.len), HC8.out⟩
      · have hz := HR8.out.cell
        have z0 := hz 0
        have z1 := hz 1
        have z2 := hz 2
        have z3 := hz 3
        have z4 := hz 4
        have z5 := hz 5
        have z6 := hz 6
        have z7 := hz 7
        have z8 := hz 8
        have z9 := hz 9
        have z10 := hz 10
        simp only [List.getElem?_cons_zero, List.getElem?_cons_succ] at z0 z1 z2 z3 z4 z5 z6 z7 z8 z9 z10
        simp [results, Try.results29, go_sem, z0, z1, z2, z3, z4, z5, z6, z7, z8, z9, z10]
      · unfold grantM MsgV.val; rw [if_pos hk]
    · have hk' : (es[i].un.k == 1) = false := by simpa using hk
      have HK := Lib.hid hk
      clear hk
      go_wp2_with fail
      have hE8 : EntsAt ((w7.setCell ⟨bl, p, none⟩ (.int .i64 es[i].un.c)).setCell ⟨bl, p + 1, none⟩ (.int .u8 0)) bl (es.set i (grantE es[i])) := by
        have h := HE7.out.set hi7 (j := 0) (by decide) (v := .int .i64 es[i].un.c) (e := { es[i] with ph := 4, ak := 0, ow := es[i].un.c }) (by rw [List.getElem_set_self]; rfl)
        rw [List.set_set, hp] at h
        have h1 : i < (es.set i { es[i] with ph := 4, ak := 0, ow := es[i].un.c }).length := by rw [List.length_set]; exact hi
        have h := EntsAt.set h h1 (j := 1) (by decide) (v := .int .u8 0) (e := grantE es[i]) (by rw [List.getElem_set_self]; unfold grantE; rw [if_neg HK.out]; rfl)
        rw [List.set_set, hp] at h; exact h
      have hC8 := ((((((((((((((((HC0.out.trans (HC5.out.mono (T := [bl]) (by simp))).trans (HC7.out.mono (T := [bl]) (by simp)))).setCell (p := ⟨bl, p, none⟩) (fun _ => List.mem_singleton.2 rfl) (.int .i64 es[i].un.c)).setCell (p := ⟨bl, p + 1, none⟩) (fun _ => List.mem_singleton.2 rfl) (.int .u8 0)).setCell (p := ⟨b7, 0, none⟩) (fun h => absurd h (show ¬ b7 < w.heap.size by omega)) (.int .i64 15)).setCell (p := ⟨w.heap.size, 0, none⟩) (fun h => absurd h (Nat.lt_irrefl _)) (.int .i64 15)).setCell (p := ⟨w.heap.size, 1, none⟩) (fun h => absurd h (Nat.lt_irrefl _)) (.int .i64 es[i].un.c)).setCell (p := ⟨w.heap.size, 2, none⟩) (fun h => absurd h (Nat.lt_irrefl _)) (.int .i64 es[i].un.l)).setCell (p := ⟨w.heap.size, 3, none⟩) (fun h => absurd h (Nat.lt_irrefl _)) (.int .u64 x0)).setCell (p := ⟨w.heap.size, 4, none⟩) (fun h => absurd h (Nat.lt_irrefl _)) (.int .u64 x1)).setCell (p := ⟨w.heap.size, 5, none⟩) (fun h => absurd h (Nat.lt_irrefl _)) (.int .u64 x2)).setCell (p := ⟨w.heap.size, 6, none⟩) (fun h => absurd h (Nat.lt_irrefl _)) (.int .u64 x3)).setCell (p := ⟨w.heap.size, 7, none⟩) (fun h => absurd h (Nat.lt_irrefl _)) (.int .u64 x4)).setCell (p := ⟨w.heap.size, 8, none⟩) (fun h => absurd h (Nat.lt_irrefl _)) (.int .u64 x5)).setCell (p := ⟨w.heap.size, 9, none⟩) (fun h => absurd h (Nat.lt_irrefl _)) (.int .u64 x6)).setCell (p := ⟨w.heap.size, 10, none⟩) (fun h => absurd h (Nat.lt_irrefl _)) (.int .u64 x7)
      have hR8 := ((((((((((((((HR7.out).other (a := ⟨bl, p, none⟩) (Ne.symm hn9) (.int .i64 es[i].un.c)).other (a := ⟨bl, p + 1, none⟩) (Ne.symm hn9) (.int .u8 0)).other (a := ⟨b7, 0, none⟩) hn7 (.int .i64 15)).set 0 (.int .i64 15)).set 1 (.int .i64 es[i].un.c)).set 2 (.int .i64 es[i].un.l)).set 3 (.int .u64 x0)).set 4 (.int .u64 x1)).set 5 (.int .u64 x2)).set 6 (.int .u64 x3)).set 7 (.int .u64 x4)).set 8 (.int .u64 x5)).set 9 (.int .u64 x6)).set 10 (.int .u64 x7)
      have hE9 := Blk.other (Blk.other (Blk.other (Blk.other (Blk.other (Blk.other (Blk.other (Blk.other (Blk.other (Blk.other (Blk.other (Blk.other hE8 (a := ⟨b7, 0, none⟩) hn8 (.int .i64 15)) (a := ⟨w.heap.size, 0, none⟩) hn9 (.int .i64 15)) (a := ⟨w.heap.size, 1, none⟩) hn9 (.int .i64 es[i].un.c)) (a := ⟨w.heap.size, 2, none⟩) hn9 (.int .i64 es[i].un.l)) (a := ⟨w.heap.size, 3, none⟩) hn9 (.int .u64 x0)) (a := ⟨w.heap.size, 4, none⟩) hn9 (.int .u64 x1)) (a := ⟨w.heap.size, 5, none⟩) hn9 (.int .u64 x2)) (a := ⟨w.heap.size, 6, none⟩) hn9 (.int .u64 x3)) (a := ⟨w.heap.size, 7, none⟩) hn9 (.int .u64 x4)) (a := ⟨w.heap.size, 8, none⟩) hn9 (.int .u64 x5)) (a := ⟨w.heap.size, 9, none⟩) hn9 (.int .u64 x6)) (a := ⟨w.heap.size, 10, none⟩) hn9 (.int .u64 x7)
      simp only [List.set_cons_zero, List.set_cons_succ] at hR8
      have HC8 := Lib.hid hC8; have HR8 := Lib.hid hR8; have HE9 := Lib.hid hE9
      clear hC8 hR8 hE9 hE8
      generalize World.setCell _ _ _ = wf at *
      refine bodyPost_ret (v := .agg #[.int .i64 15, .int .i64 es[i].un.c, .int .i64 es[i].un.l, .int .u64 x0, .int .u64 x1, .int .u64 x2, .int .u64 x3, .int .u64 x4, .int .u64 x5, .int .u64 x6, .int .u64 x7]) ?_ rfl ⟨?_, HD.out.turn HC8.out HE9.out (by rw [List.length_set]; exact HD.out.len), HC8.out⟩
      · have hz := HR8.out.cell
        have z0 := hz 0
        have z1 := hz 1
        have z2 := hz 2
        have z3 := hz 3
        have z4 := hz 4
        have z5 := hz 5
        have z6 := hz 6
        have z7 := hz 7
        have z8 := hz 8
        have z9 := hz 9
        have z10 := hz 10
        simp only [List.getElem?_cons_zero, List.getElem?_cons_succ] at z0 z1 z2 z3 z4 z5 z6 z7 z8 z9 z10
        simp [results, Try.results29, go_sem, z0, z1, z2, z3, z4, z5, z6, z7, z8, z9, z10]
      · unfold grantM MsgV.val; rw [if_neg HK.out]

end Go.Proofs.Ytepdhajgemmoiaa
