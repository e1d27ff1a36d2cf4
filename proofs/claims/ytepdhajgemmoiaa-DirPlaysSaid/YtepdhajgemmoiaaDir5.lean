/- A directory's may. -/
import Derived.Test.YtepdhajgemmoiaaDir4
namespace Go.Proofs.Ytepdhajgemmoiaa
set_option maxRecDepth 100000
open Go.RowKit

def hasB (s c : Int) : Bool := bits .and .u8 s (2 ^ c.toNat % 256) != 0
def mayB (e : EntV) (m : MsgV) : Bool :=
  if m.k = 1 ∨ m.k = 2 then !((e.ph != 0) && (e.ph != 4) && (e.un.c == m.c)) && ((e.ow != m.c) || (e.ph == 2)) && !(e.wl.any (fun x => x.c == m.c)) else
  if m.k = 4 then (e.ph == 1) && hasB e.ak m.c else
  if m.k = 5 then (e.ph == 2) && (e.ow == m.c) else
  if m.k = 6 then (e.ph == 2) && hasB e.ak m.c else
  if m.k = 3 then e.ow == m.c else
  if m.k = 7 then (e.ph == 4) && (e.un.c == m.c) else false

set_option maxHeartbeats 20000000 in
theorem may_4 (w : World) (bl : Nat) (es : List EntV) (i : Nat) (hi : i < es.length) (c l : Int) (d : L8) (hc : 0 ≤ c ∧ c < 4) (HE : EntsAt w bl es) (hW : WaitAt w es[i].wt es[i].wl) :
    Calls Try.prog 26 #[.pointer (some ⟨bl, i * 16, none⟩), .agg #[.int .i64 4, .int .i64 c, .int .i64 l, .int .u64 d.x0, .int .u64 d.x1, .int .u64 d.x2, .int .u64 d.x3, .int .u64 d.x4, .int .u64 d.x5, .int .u64 d.x6, .int .u64 d.x7]] w fun e w' => e = .returned (.bool (mayB es[i] ⟨4, c, l, d⟩)) ∧ Chg [] w w' := by
  obtain ⟨c0, c1⟩ := hc
  have HWt := Lib.hid (hW.chg ((Chg.refl [] w).alloc (.cells #[.int .i64 4, .int .i64 c, .int .i64 l, .int .u64 d.x0, .int .u64 d.x1, .int .u64 d.x2, .int .u64 d.x3, .int .u64 d.x4, .int .u64 d.x5, .int .u64 d.x6, .int .u64 d.x7] 33)) (by simp))
  have HEn := Lib.hid (show EntsAt _ bl es from Blk.alloc HE (.cells #[.int .i64 4, .int .i64 c, .int .i64 l, .int .u64 d.x0, .int .u64 d.x1, .int .u64 d.x2, .int .u64 d.x3, .int .u64 d.x4, .int .u64 d.x5, .int .u64 d.x6, .int .u64 d.x7] 33))
  have HB := Lib.hid (Blk.new w [.int .i64 4, .int .i64 c, .int .i64 l, .int .u64 d.x0, .int .u64 d.x1, .int .u64 d.x2, .int .u64 d.x3, .int .u64 d.x4, .int .u64 d.x5, .int .u64 d.x6, .int .u64 d.x7] 33)
  have HC := Lib.hid ((Chg.refl [] w).alloc (.cells #[.int .i64 4, .int .i64 c, .int .i64 l, .int .u64 d.x0, .int .u64 d.x1, .int .u64 d.x2, .int .u64 d.x3, .int .u64 d.x4, .int .u64 d.x5, .int .u64 d.x6, .int .u64 d.x7] 33))
  clear HE hW
  by_cases hph : es[i].ph = 1
  · have HR := Lib.hid (show mayB es[i] ⟨4, c, l, d⟩ = hasB es[i].ak c from by simp [mayB, hph])
    go_enter Try.func26, Try.ntmps26
    go_upto_region 3 with fail
    generalize World.alloc _ _ = wa at *
    obtain ⟨b, hb⟩ : ∃ b, w.heap.size = b := ⟨_, rfl⟩
    rw [hb] at HB ⊢
    clear hb
    have m1 : wa.cell? ⟨b, 1, none⟩ = some (.int .i64 c) := HB.out.cell 1
    have mlt : b < wa.heap.size := HB.out.lt
    have blt : bl < wa.heap.size := Blk.lt HEn.out
    have e14 : wa.cell? ⟨bl, i * 16 + 14, none⟩ = some (.int .u8 es[i].ak) := HEn.out.cell hi (j := 14) (by decide)
    have e13 : wa.cell? ⟨bl, i * 16 + 13, none⟩ = some (.int .i64 1) := by rw [← hph]; exact HEn.out.cell hi (j := 13) (by decide)
    generalize i * 16 = p at *
    go_wp2_with fail
    go_quiet (fail)
    go_wp2_with fail
    go_ret
    exact ⟨ret_bool HR.out.symm, HC.out.drewN _⟩
  · have HR := Lib.hid (show mayB es[i] ⟨4, c, l, d⟩ = false from by simp [mayB, hph])
    have hph2 : (es[i].ph == 1) = false := by simpa using hph
    go_enter Try.func26, Try.ntmps26
    go_upto_region 3 with fail
    generalize World.alloc _ _ = wa at *
    obtain ⟨b, hb⟩ : ∃ b, w.heap.size = b := ⟨_, rfl⟩
    rw [hb] at HB ⊢
    clear hb
    have m1 : wa.cell? ⟨b, 1, none⟩ = some (.int .i64 c) := HB.out.cell 1
    have mlt : b < wa.heap.size := HB.out.lt
    have blt : bl < wa.heap.size := Blk.lt HEn.out
    have e13 : wa.cell? ⟨bl, i * 16 + 13, none⟩ = some (.int .i64 es[i].ph) := HEn.out.cell hi (j := 13) (by decide)
    generalize i * 16 = p at *
    clear hph
    go_wp2_with fail
    go_quiet (fail)
    go_wp2_with fail
    go_ret
    exact ⟨ret_bool HR.out.symm, HC.out.drewN _⟩
set_option maxHeartbeats 20000000 in
theorem may_6 (w : World) (bl : Nat) (es : List EntV) (i : Nat) (hi : i < es.length) (c l : Int) (d : L8) (hc : 0 ≤ c ∧ c < 4) (HE : EntsAt w bl es) (hW : WaitAt w es[i].wt es[i].wl) :
    Calls Try.prog 26 #[.pointer (some ⟨bl, i * 16, none⟩), .agg #[.int .i64 6, .int .i64 c, .int .i64 l, .int .u64 d.x0, .int .u64 d.x1, .int .u64 d.x2, .int .u64 d.x3, .int .u64 d.x4, .int .u64 d.x5, .int .u64 d.x6, .int .u64 d.x7]] w fun e w' => e = .returned (.bool (mayB es[i] ⟨6, c, l, d⟩)) ∧ Chg [] w w' := by
  obtain ⟨c0, c1⟩ := hc
  have HWt := Lib.hid (hW.chg ((Chg.refl [] w).alloc (.cells #[.int .i64 6, .int .i64 c, .int .i64 l, .int .u64 d.x0, .int .u64 d.x1, .int .u64 d.x2, .int .u64 d.x3, .int .u64 d.x4, .int .u64 d.x5, .int .u64 d.x6, .int .u64 d.x7] 33)) (by simp))
  have HEn := Lib.hid (show EntsAt _ bl es from Blk.alloc HE (.cells #[.int .i64 6, .int .i64 c, .int .i64 l, .int .u64 d.x0, .int .u64 d.x1, .int .u64 d.x2, .int .u64 d.x3, .int .u64 d.x4, .int .u64 d.x5, .int .u64 d.x6, .int .u64 d.x7] 33))
  have HB := Lib.hid (Blk.new w [.int .i64 6, .int .i64 c, .int .i64 l, .int .u64 d.x0, .int .u64 d.x1, .int .u64 d.x2, .int .u64 d.x3, .int .u64 d.x4, .int .u64 d.x5, .int .u64 d.x6, .int .u64 d.x7] 33)
  have HC := Lib.hid ((Chg.refl [] w).alloc (.cells #[.int .i64 6, .int .i64 c, .int .i64 l, .int .u64 d.x0, .int .u64 d.x1, .int .u64 d.x2, .int .u64 d.x3, .int .u64 d.x4, .int .u64 d.x5, .int .u64 d.x6, .int .u64 d.x7] 33))
  clear HE hW
  by_cases hph : es[i].ph = 2
  · have HR := Lib.hid (show mayB es[i] ⟨6, c, l, d⟩ = hasB es[i].ak c from by simp [mayB, hph])
    go_enter Try.func26, Try.ntmps26
    go_upto_region 3 with fail
    generalize World.alloc _ _ = wa at *
    obtain ⟨b, hb⟩ : ∃ b, w.heap.size = b := ⟨_, rfl⟩
    rw [hb] at HB ⊢
    clear hb
    have m1 : wa.cell? ⟨b, 1, none⟩ = some (.int .i64 c) := HB.out.cell 1
    have mlt : b < wa.heap.size := HB.out.lt
    have blt : bl < wa.heap.size := Blk.lt HEn.out
    have e14 : wa.cell? ⟨bl, i * 16 + 14, none⟩ = some (.int .u8 es[i].ak) := HEn.out.cell hi (j := 14) (by decide)
    have e13 : wa.cell? ⟨bl, i * 16 + 13, none⟩ = some (.int .i64 2) := by rw [← hph]; exact HEn.out.cell hi (j := 13) (by decide)
    generalize i * 16 = p at *
    go_wp2_with fail
    go_quiet (fail)
    go_wp2_with fail
    go_ret
    exact ⟨ret_bool HR.out.symm, HC.out.drewN _⟩
  · have HR := Lib.hid (show mayB es[i] ⟨6, c, l, d⟩ = false from by simp [mayB, hph])
    have hph2 : (es[i].ph == 2) = false := by simpa using hph
    go_enter Try.func26, Try.ntmps26
    go_upto_region 3 with fail
    generalize World.alloc _ _ = wa at *
    obtain ⟨b, hb⟩ : ∃ b, w.heap.size = b := ⟨_, rfl⟩
    rw [hb] at HB ⊢
    clear hb
    have m1 : wa.cell? ⟨b, 1, none⟩ = some (.int .i64 c) := HB.out.cell 1
    have mlt : b < wa.heap.size := HB.out.lt
    have blt : bl < wa.heap.size := Blk.lt HEn.out
    have e13 : wa.cell? ⟨bl, i * 16 + 13, none⟩ = some (.int .i64 es[i].ph) := HEn.out.cell hi (j := 13) (by decide)
    generalize i * 16 = p at *
    clear hph
    go_wp2_with fail
    go_quiet (fail)
    go_wp2_with fail
    go_ret
    exact ⟨ret_bool HR.out.symm, HC.out.drewN _⟩
set_option maxHeartbeats 20000000 in
theorem may_5 (w : World) (bl : Nat) (es : List EntV) (i : Nat) (hi : i < es.length) (c l : Int) (d : L8) (hc : 0 ≤ c ∧ c < 4) (HE : EntsAt w bl es) (hW : WaitAt w es[i].wt es[i].wl) :
    Calls Try.prog 26 #[.pointer (some ⟨bl, i * 16, none⟩), .agg #[.int .i64 5, .int .i64 c, .int .i64 l, .int .u64 d.x0, .int .u64 d.x1, .int .u64 d.x2, .int .u64 d.x3, .int .u64 d.x4, .int .u64 d.x5, .int .u64 d.x6, .int .u64 d.x7]] w fun e w' => e = .returned (.bool (mayB es[i] ⟨5, c, l, d⟩)) ∧ Chg [] w w' := by
  obtain ⟨c0, c1⟩ := hc
  have HWt := Lib.hid (hW.chg ((Chg.refl [] w).alloc (.cells #[.int .i64 5, .int .i64 c, .int .i64 l, .int .u64 d.x0, .int .u64 d.x1, .int .u64 d.x2, .int .u64 d.x3, .int .u64 d.x4, .int .u64 d.x5, .int .u64 d.x6, .int .u64 d.x7] 33)) (by simp))
  have HEn := Lib.hid (show EntsAt _ bl es from Blk.alloc HE (.cells #[.int .i64 5, .int .i64 c, .int .i64 l, .int .u64 d.x0, .int .u64 d.x1, .int .u64 d.x2, .int .u64 d.x3, .int .u64 d.x4, .int .u64 d.x5, .int .u64 d.x6, .int .u64 d.x7] 33))
  have HB := Lib.hid (Blk.new w [.int .i64 5, .int .i64 c, .int .i64 l, .int .u64 d.x0, .int .u64 d.x1, .int .u64 d.x2, .int .u64 d.x3, .int .u64 d.x4, .int .u64 d.x5, .int .u64 d.x6, .int .u64 d.x7] 33)
  have HC := Lib.hid ((Chg.refl [] w).alloc (.cells #[.int .i64 5, .int .i64 c, .int .i64 l, .int .u64 d.x0, .int .u64 d.x1, .int .u64 d.x2, .int .u64 d.x3, .int .u64 d.x4, .int .u64 d.x5, .int .u64 d.x6, .int .u64 d.x7] 33))
  clear HE hW
  by_cases hph : es[i].ph = 2
  · have HR := Lib.hid (show mayB es[i] ⟨5, c, l, d⟩ = (es[i].ow == c) from by simp [mayB, hph])
    go_enter Try.func26, Try.ntmps26
    go_upto_region 3 with fail
    generalize World.alloc _ _ = wa at *
    obtain ⟨b, hb⟩ : ∃ b, w.heap.size = b := ⟨_, rfl⟩
    rw [hb] at HB ⊢
    clear hb
    have m1 : wa.cell? ⟨b, 1, none⟩ = some (.int .i64 c) := HB.out.cell 1
    have mlt : b < wa.heap.size := HB.out.lt
    have blt : bl < wa.heap.size := Blk.lt HEn.out
    have e0 : wa.cell? ⟨bl, i * 16, none⟩ = some (.int .i64 es[i].ow) := HEn.out.cell hi (j := 0) (by decide)
    have e13 : wa.cell? ⟨bl, i * 16 + 13, none⟩ = some (.int .i64 2) := by rw [← hph]; exact HEn.out.cell hi (j := 13) (by decide)
    generalize i * 16 = p at *
    go_wp2_with fail
    go_quiet (fail)
    go_wp2_with fail
    go_ret
    exact ⟨ret_bool HR.out.symm, HC.out.drewN _⟩
  · have HR := Lib.hid (show mayB es[i] ⟨5, c, l, d⟩ = false from by simp [mayB, hph])
    have hph2 : (es[i].ph == 2) = false := by simpa using hph
    go_enter Try.func26, Try.ntmps26
    go_upto_region 3 with fail
    generalize World.alloc _ _ = wa at *
    obtain ⟨b, hb⟩ : ∃ b, w.heap.size = b := ⟨_, rfl⟩
    rw [hb] at HB ⊢
    clear hb
    have m1 : wa.cell? ⟨b, 1, none⟩ = some (.int .i64 c) := HB.out.cell 1
    have mlt : b < wa.heap.size := HB.out.lt
    have blt : bl < wa.heap.size := Blk.lt HEn.out
    have e13 : wa.cell? ⟨bl, i * 16 + 13, none⟩ = some (.int .i64 es[i].ph) := HEn.out.cell hi (j := 13) (by decide)
    clear hph
    generalize i * 16 = p at *
    go_wp2_with fail
    go_quiet (fail)
    go_wp2_with fail
    go_ret
    exact ⟨ret_bool HR.out.symm, HC.out.drewN _⟩
set_option maxHeartbeats 20000000 in
theorem may_3 (w : World) (bl : Nat) (es : List EntV) (i : Nat) (hi : i < es.length) (c l : Int) (d : L8) (hc : 0 ≤ c ∧ c < 4) (HE : EntsAt w bl es) (hW : WaitAt w es[i].wt es[i].wl) :
    Calls Try.prog 26 #[.pointer (some ⟨bl, i * 16, none⟩), .agg #[.int .i64 3, .int .i64 c, .int .i64 l, .int .u64 d.x0, .int .u64 d.x1, .int .u64 d.x2, .int .u64 d.x3, .int .u64 d.x4, .int .u64 d.x5, .int .u64 d.x6, .int .u64 d.x7]] w fun e w' => e = .returned (.bool (mayB es[i] ⟨3, c, l, d⟩)) ∧ Chg [] w w' := by
  obtain ⟨c0, c1⟩ := hc
  have HWt := Lib.hid (hW.chg ((Chg.refl [] w).alloc (.cells #[.int .i64 3, .int .i64 c, .int .i64 l, .int .u64 d.x0, .int .u64 d.x1, .int .u64 d.x2, .int .u64 d.x3, .int .u64 d.x4, .int .u64 d.x5, .int .u64 d.x6, .int .u64 d.x7] 33)) (by simp))
  have HEn := Lib.hid (show EntsAt _ bl es from Blk.alloc HE (.cells #[.int .i64 3, .int .i64 c, .int .i64 l, .int .u64 d.x0, .int .u64 d.x1, .int .u64 d.x2, .int .u64 d.x3, .int .u64 d.x4, .int .u64 d.x5, .int .u64 d.x6, .int .u64 d.x7] 33))
  have HB := Lib.hid (Blk.new w [.int .i64 3, .int .i64 c, .int .i64 l, .int .u64 d.x0, .int .u64 d.x1, .int .u64 d.x2, .int .u64 d.x3, .int .u64 d.x4, .int .u64 d.x5, .int .u64 d.x6, .int .u64 d.x7] 33)
  have HC := Lib.hid ((Chg.refl [] w).alloc (.cells #[.int .i64 3, .int .i64 c, .int .i64 l, .int .u64 d.x0, .int .u64 d.x1, .int .u64 d.x2, .int .u64 d.x3, .int .u64 d.x4, .int .u64 d.x5, .int .u64 d.x6, .int .u64 d.x7] 33))
  clear HE hW
  have HR := Lib.hid (show mayB es[i] ⟨3, c, l, d⟩ = (es[i].ow == c) from by simp [mayB])
  go_enter Try.func26, Try.ntmps26
  go_upto_region 3 with fail
  generalize World.alloc _ _ = wa at *
  obtain ⟨b, hb⟩ : ∃ b, w.heap.size = b := ⟨_, rfl⟩
  rw [hb] at HB ⊢
  clear hb
  have m1 : wa.cell? ⟨b, 1, none⟩ = some (.int .i64 c) := HB.out.cell 1
  have mlt : b < wa.heap.size := HB.out.lt
  have blt : bl < wa.heap.size := Blk.lt HEn.out
  have e0 : wa.cell? ⟨bl, i * 16, none⟩ = some (.int .i64 es[i].ow) := HEn.out.cell hi (j := 0) (by decide)
  generalize i * 16 = p at *
  go_wp2_with fail
  go_quiet (fail)
  go_wp2_with fail
  go_ret
  exact ⟨ret_bool HR.out.symm, HC.out.drewN _⟩
set_option maxHeartbeats 20000000 in
theorem may_7 (w : World) (bl : Nat) (es : List EntV) (i : Nat) (hi : i < es.length) (c l : Int) (d : L8) (hc : 0 ≤ c ∧ c < 4) (HE : EntsAt w bl es) (hW : WaitAt w es[i].wt es[i].wl) :
    Calls Try.prog 26 #[.pointer (some ⟨bl, i * 16, none⟩), .agg #[.int .i64 7, .int .i64 c, .int .i64 l, .int .u64 d.x0, .int .u64 d.x1, .int .u64 d.x2, .int .u64 d.x3, .int .u64 d.x4, .int .u64 d.x5, .int .u64 d.x6, .int .u64 d.x7]] w fun e w' => e = .returned (.bool (mayB es[i] ⟨7, c, l, d⟩)) ∧ Chg [] w w' := by
  obtain ⟨c0, c1⟩ := hc
  have HWt := Lib.hid (hW.chg ((Chg.refl [] w).alloc (.cells #[.int .i64 7, .int .i64 c, .int .i64 l, .int .u64 d.x0, .int .u64 d.x1, .int .u64 d.x2, .int .u64 d.x3, .int .u64 d.x4, .int .u64 d.x5, .int .u64 d.x6, .int .u64 d.x7] 33)) (by simp))
  have HEn := Lib.hid (show EntsAt _ bl es from Blk.alloc HE (.cells #[.int .i64 7, .int .i64 c, .int .i64 l, .int .u64 d.x0, .int .u64 d.x1, .int .u64 d.x2, .int .u64 d.x3, .int .u64 d.x4, .int .u64 d.x5, .int .u64 d.x6, .int .u64 d.x7] 33))
  have HB := Lib.hid (Blk.new w [.int .i64 7, .int .i64 c, .int .i64 l, .int .u64 d.x0, .int .u64 d.x1, .int .u64 d.x2, .int .u64 d.x3, .int .u64 d.x4, .int .u64 d.x5, .int .u64 d.x6, .int .u64 d.x7] 33)
  have HC := Lib.hid ((Chg.refl [] w).alloc (.cells #[.int .i64 7, .int .i64 c, .int .i64 l, .int .u64 d.x0, .int .u64 d.x1, .int .u64 d.x2, .int .u64 d.x3, .int .u64 d.x4, .int .u64 d.x5, .int .u64 d.x6, .int .u64 d.x7] 33))
  clear HE hW
  by_cases hph : es[i].ph = 4
  · have HR := Lib.hid (show mayB es[i] ⟨7, c, l, d⟩ = (es[i].un.c == c) from by simp [mayB, hph])
    go_enter Try.func26, Try.ntmps26
    go_upto_region 3 with fail
    generalize World.alloc _ _ = wa at *
    obtain ⟨b, hb⟩ : ∃ b, w.heap.size = b := ⟨_, rfl⟩
    rw [hb] at HB ⊢
    clear hb
    have m1 : wa.cell? ⟨b, 1, none⟩ = some (.int .i64 c) := HB.out.cell 1
    have mlt : b < wa.heap.size := HB.out.lt
    have blt : bl < wa.heap.size := Blk.lt HEn.out
    have e2 : wa.cell? ⟨bl, i * 16 + 2, none⟩ = some (.int .i64 es[i].un.k) := HEn.out.cell hi (j := 2) (by decide)
    have e3 : wa.cell? ⟨bl, i * 16 + 3, none⟩ = some (.int .i64 es[i].un.c) := HEn.out.cell hi (j := 3) (by decide)
    have e4 : wa.cell? ⟨bl, i * 16 + 4, none⟩ = some (.int .i64 es[i].un.l) := HEn.out.cell hi (j := 4) (by decide)
    have e5 : wa.cell? ⟨bl, i * 16 + 5, none⟩ = some (.int .u64 es[i].un.d.x0) := HEn.out.cell hi (j := 5) (by decide)
    have e6 : wa.cell? ⟨bl, i * 16 + 6, none⟩ = some (.int .u64 es[i].un.d.x1) := HEn.out.cell hi (j := 6) (by decide)
    have e7 : wa.cell? ⟨bl, i * 16 + 7, none⟩ = some (.int .u64 es[i].un.d.x2) := HEn.out.cell hi (j := 7) (by decide)
    have e8 : wa.cell? ⟨bl, i * 16 + 8, none⟩ = some (.int .u64 es[i].un.d.x3) := HEn.out.cell hi (j := 8) (by decide)
    have e9 : wa.cell? ⟨bl, i * 16 + 9, none⟩ = some (.int .u64 es[i].un.d.x4) := HEn.out.cell hi (j := 9) (by decide)
    have e10 : wa.cell? ⟨bl, i * 16 + 10, none⟩ = some (.int .u64 es[i].un.d.x5) := HEn.out.cell hi (j := 10) (by decide)
    have e11 : wa.cell? ⟨bl, i * 16 + 11, none⟩ = some (.int .u64 es[i].un.d.x6) := HEn.out.cell hi (j := 11) (by decide)
    have e12 : wa.cell? ⟨bl, i * 16 + 12, none⟩ = some (.int .u64 es[i].un.d.x7) := HEn.out.cell hi (j := 12) (by decide)
    have e13 : wa.cell? ⟨bl, i * 16 + 13, none⟩ = some (.int .i64 4) := by rw [← hph]; exact HEn.out.cell hi (j := 13) (by decide)
    generalize i * 16 = p at *
    go_wp2_with fail
    have mb : wa.cell? ⟨b, 1, none⟩ = some (.int .i64 c) := m1
    refine (may1_any _ b ⟨0, c, l, d⟩ es[i].un mb mlt).mono ?_
    rintro e w2 ⟨rfl, hx⟩
    have HX := Lib.hid (HC.out.trans hx)
    clear hx
    go_wp2_with fail
    go_ret
    exact ⟨ret_bool HR.out.symm, HX.out⟩
  · have HR := Lib.hid (show mayB es[i] ⟨7, c, l, d⟩ = false from by simp [mayB, hph])
    have hph2 : (es[i].ph == 4) = false := by simpa using hph
    go_enter Try.func26, Try.ntmps26
    go_upto_region 3 with fail
    generalize World.alloc _ _ = wa at *
    obtain ⟨b, hb⟩ : ∃ b, w.heap.size = b := ⟨_, rfl⟩
    rw [hb] at HB ⊢
    clear hb
    have m1 : wa.cell? ⟨b, 1, none⟩ = some (.int .i64 c) := HB.out.cell 1
    have mlt : b < wa.heap.size := HB.out.lt
    have blt : bl < wa.heap.size := Blk.lt HEn.out
    have e13 : wa.cell? ⟨bl, i * 16 + 13, none⟩ = some (.int .i64 es[i].ph) := HEn.out.cell hi (j := 13) (by decide)
    clear hph
    generalize i * 16 = p at *
    go_wp2_with fail
    go_ret
    exact ⟨ret_bool HR.out.symm, HC.out⟩
set_option maxHeartbeats 20000000 in
theorem may_x (w : World) (bl : Nat) (es : List EntV) (i : Nat) (hi : i < es.length) (k c l : Int) (d : L8) (hc : 0 ≤ c ∧ c < 4) (hk : k ≠ 1 ∧ k ≠ 2 ∧ k ≠ 3 ∧ k ≠ 4 ∧ k ≠ 5 ∧ k ≠ 6 ∧ k ≠ 7) (HE : EntsAt w bl es) (hW : WaitAt w es[i].wt es[i].wl) :
    Calls Try.prog 26 #[.pointer (some ⟨bl, i * 16, none⟩), .agg #[.int .i64 k, .int .i64 c, .int .i64 l, .int .u64 d.x0, .int .u64 d.x1, .int .u64 d.x2, .int .u64 d.x3, .int .u64 d.x4, .int .u64 d.x5, .int .u64 d.x6, .int .u64 d.x7]] w fun e w' => e = .returned (.bool (mayB es[i] ⟨k, c, l, d⟩)) ∧ Chg [] w w' := by
  obtain ⟨c0, c1⟩ := hc
  have HWt := Lib.hid (hW.chg ((Chg.refl [] w).alloc (.cells #[.int .i64 k, .int .i64 c, .int .i64 l, .int .u64 d.x0, .int .u64 d.x1, .int .u64 d.x2, .int .u64 d.x3, .int .u64 d.x4, .int .u64 d.x5, .int .u64 d.x6, .int .u64 d.x7] 33)) (by simp))
  have HEn := Lib.hid (show EntsAt _ bl es from Blk.alloc HE (.cells #[.int .i64 k, .int .i64 c, .int .i64 l, .int .u64 d.x0, .int .u64 d.x1, .int .u64 d.x2, .int .u64 d.x3, .int .u64 d.x4, .int .u64 d.x5, .int .u64 d.x6, .int .u64 d.x7] 33))
  have HB := Lib.hid (Blk.new w [.int .i64 k, .int .i64 c, .int .i64 l, .int .u64 d.x0, .int .u64 d.x1, .int .u64 d.x2, .int .u64 d.x3, .int .u64 d.x4, .int .u64 d.x5, .int .u64 d.x6, .int .u64 d.x7] 33)
  have HC := Lib.hid ((Chg.refl [] w).alloc (.cells #[.int .i64 k, .int .i64 c, .int .i64 l, .int .u64 d.x0, .int .u64 d.x1, .int .u64 d.x2, .int .u64 d.x3, .int .u64 d.x4, .int .u64 d.x5, .int .u64 d.x6, .int .u64 d.x7] 33))
  clear HE hW
  obtain ⟨k1, k2, k3, k4, k5, k6, k7⟩ := hk
  have HR := Lib.hid (show mayB es[i] ⟨k, c, l, d⟩ = false from by simp [mayB, k1, k2, k3, k4, k5, k6, k7])
  have q1 : (k == 1) = false := by simpa using k1
  have q2 : (k == 2) = false := by simpa using k2
  have q3 : (k == 3) = false := by simpa using k3
  have q4 : (k == 4) = false := by simpa using k4
  have q5 : (k == 5) = false := by simpa using k5
  have q6 : (k == 6) = false := by simpa using k6
  have q7 : (k == 7) = false := by simpa using k7
  clear k1 k2 k3 k4 k5 k6 k7
  go_enter Try.func26, Try.ntmps26
  go_upto_region 3 with fail
  generalize World.alloc _ _ = wa at *
  obtain ⟨b, hb⟩ : ∃ b, w.heap.size = b := ⟨_, rfl⟩
  rw [hb] at HB ⊢
  clear hb
  have m1 : wa.cell? ⟨b, 1, none⟩ = some (.int .i64 c) := HB.out.cell 1
  have mlt : b < wa.heap.size := HB.out.lt
  have blt : bl < wa.heap.size := Blk.lt HEn.out
  go_wp2_with fail
  go_ret
  exact ⟨ret_bool HR.out.symm, HC.out⟩
end Go.Proofs.Ytepdhajgemmoiaa
