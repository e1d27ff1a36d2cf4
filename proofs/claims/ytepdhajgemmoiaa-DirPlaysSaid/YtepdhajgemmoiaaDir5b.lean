/- A directory's may, of a GetM. -/
import Derived.Test.YtepdhajgemmoiaaDir5
namespace Go.Proofs.Ytepdhajgemmoiaa
set_option maxRecDepth 100000
open Go.RowKit

set_option maxHeartbeats 20000000 in
theorem may_2 (w : World) (bl : Nat) (es : List EntV) (i : Nat) (hi : i < es.length) (c l : Int) (d : L8) (hc : 0 ≤ c ∧ c < 4) (HE : EntsAt w bl es) (hW : WaitAt w es[i].wt es[i].wl) :
    Calls Try.prog 26 #[.pointer (some ⟨bl, i * 16, none⟩), .agg #[.int .i64 2, .int .i64 c, .int .i64 l, .int .u64 d.x0, .int .u64 d.x1, .int .u64 d.x2, .int .u64 d.x3, .int .u64 d.x4, .int .u64 d.x5, .int .u64 d.x6, .int .u64 d.x7]] w fun e w' => e = .returned (.bool (mayB es[i] ⟨2, c, l, d⟩)) ∧ Chg [] w w' := by
  obtain ⟨c0, c1⟩ := hc
  have HWt := Lib.hid (hW.chg ((Chg.refl [] w).alloc (.cells #[.int .i64 2, .int .i64 c, .int .i64 l, .int .u64 d.x0, .int .u64 d.x1, .int .u64 d.x2, .int .u64 d.x3, .int .u64 d.x4, .int .u64 d.x5, .int .u64 d.x6, .int .u64 d.x7] 33)) (by simp))
  have HEn := Lib.hid (show EntsAt _ bl es from Blk.alloc HE (.cells #[.int .i64 2, .int .i64 c, .int .i64 l, .int .u64 d.x0, .int .u64 d.x1, .int .u64 d.x2, .int .u64 d.x3, .int .u64 d.x4, .int .u64 d.x5, .int .u64 d.x6, .int .u64 d.x7] 33))
  have HB := Lib.hid (Blk.new w [.int .i64 2, .int .i64 c, .int .i64 l, .int .u64 d.x0, .int .u64 d.x1, .int .u64 d.x2, .int .u64 d.x3, .int .u64 d.x4, .int .u64 d.x5, .int .u64 d.x6, .int .u64 d.x7] 33)
  have HC := Lib.hid ((Chg.refl [] w).alloc (.cells #[.int .i64 2, .int .i64 c, .int .i64 l, .int .u64 d.x0, .int .u64 d.x1, .int .u64 d.x2, .int .u64 d.x3, .int .u64 d.x4, .int .u64 d.x5, .int .u64 d.x6, .int .u64 d.x7] 33))
  clear HE hW
  have hB : mayB es[i] ⟨2, c, l, d⟩ = (!((es[i].ph != 0) && (es[i].ph != 4) && (es[i].un.c == c)) && ((es[i].ow != c) || (es[i].ph == 2)) && !(es[i].wl.any (fun x => x.c == c))) := by simp [mayB]
  by_cases hph : es[i].ph = 0
  · by_cases how : es[i].ow = c
    · have HR := Lib.hid (show mayB es[i] ⟨2, c, l, d⟩ = false from by rw [hB, hph, how]; simp)
      have how2 : (es[i].ow != c) = false := by simpa using how
      have HOw := Lib.hid how; clear how
      go_enter Try.func26, Try.ntmps26
      go_upto_region 3 with fail
      generalize World.alloc _ _ = wa at *
      obtain ⟨b, hb⟩ : ∃ b, w.heap.size = b := ⟨_, rfl⟩
      rw [hb] at HB ⊢
      clear hb
      have m1 : wa.cell? ⟨b, 1, none⟩ = some (.int .i64 c) := HB.out.cell 1
      have mlt : b < wa.heap.size := HB.out.lt
      have blt : bl < wa.heap.size := Blk.lt HEn.out
      have e2 : wa.cell? ⟨bl, i * 16 + 2, none⟩ = some (.int .i64 es[i].un.k) := HEn.out.cell hi (j := 2) (by decide)
      have e3 : wa.cell? ⟨bl, i * 16 + 3, none⟩ = some (.int .i64 es[i].un.c) := HEn.out.cell hi (j := 3) (by decide)
      have e4 : wa.cell? ⟨bl, i * 16 + 4, none⟩ = some (.int .i64 es[i].un.l) := HEn.out.cell hi (j := 4) (by decide)
      have e5 : wa.cell? ⟨bl, i * 16 + 5, none⟩ = some (.int .u64 es[i].un.d.x0) := HEn.out.cell hi (j := 5) (by decide)
      have e6 : wa.cell? ⟨bl, i * 16 + 6, none⟩ = some (.int .u64 es[i].un.d.x1) := HEn.out.cell hi (j := 6) (by decide)
      have e7 : wa.cell? ⟨bl, i * 16 + 7, none⟩ = some (.int .u64 es[i].un.d.x2) := HEn.out.cell hi (j := 7) (by decide)
      have e8 : wa.cell? ⟨bl, i * 16 + 8, none⟩ = some (.int .u64 es[i].un.d.x3) := HEn.out.cell hi (j := 8) (by decide)
      have e9 : wa.cell? ⟨bl, i * 16 + 9, none⟩ = some (.int .u64 es[i].un.d.x4) := HEn.out.cell hi (j := 9) (by decide)
      have e10 : wa.cell? ⟨bl, i * 16 + 10, none⟩ = some (.int .u64 es[i].un.d.x5) := HEn.out.cell hi (j := 10) (by decide)
      have e11 : wa.cell? ⟨bl, i * 16 + 11, none⟩ = some (.int .u64 es[i].un.d.x6) := HEn.out.cell hi (j := 11) (by decide)
      have e12 : wa.cell? ⟨bl, i * 16 + 12, none⟩ = some (.int .u64 es[i].un.d.x7) := HEn.out.cell hi (j := 12) (by decide)
      have e0 : wa.cell? ⟨bl, i * 16, none⟩ = some (.int .i64 es[i].ow) := HEn.out.cell hi (j := 0) (by decide)
      have e15 : wa.cell? ⟨bl, i * 16 + 15, none⟩ = some es[i].wt := HEn.out.cell hi (j := 15) (by decide)
      have e13 : wa.cell? ⟨bl, i * 16 + 13, none⟩ = some (.int .i64 0) := by rw [← hph]; exact HEn.out.cell hi (j := 13) (by decide)
      clear hph hB
      generalize i * 16 = p at *
      go_wp2_with fail
      go_quiet (fail)
      go_wp2_with fail
      go_ret
      exact ⟨ret_bool HR.out.symm, (HC.out.trans (Chg.refl [] wa)).drewN _⟩
    · have how2 : (es[i].ow != c) = true := by simpa using how
      have HR := Lib.hid (show mayB es[i] ⟨2, c, l, d⟩ = !(es[i].wl.any (fun x => x.c == c)) from by rw [hB, hph, how2]; simp)
      have HOw := Lib.hid how; clear how
      go_enter Try.func26, Try.ntmps26
      go_upto_region 3 with fail
      generalize World.alloc _ _ = wa at *
      obtain ⟨b, hb⟩ : ∃ b, w.heap.size = b := ⟨_, rfl⟩
      rw [hb] at HB ⊢
      clear hb
      have m1 : wa.cell? ⟨b, 1, none⟩ = some (.int .i64 c) := HB.out.cell 1
      have mlt : b < wa.heap.size := HB.out.lt
      have blt : bl < wa.heap.size := Blk.lt HEn.out
      have e2 : wa.cell? ⟨bl, i * 16 + 2, none⟩ = some (.int .i64 es[i].un.k) := HEn.out.cell hi (j := 2) (by decide)
      have e3 : wa.cell? ⟨bl, i * 16 + 3, none⟩ = some (.int .i64 es[i].un.c) := HEn.out.cell hi (j := 3) (by decide)
      have e4 : wa.cell? ⟨bl, i * 16 + 4, none⟩ = some (.int .i64 es[i].un.l) := HEn.out.cell hi (j := 4) (by decide)
      have e5 : wa.cell? ⟨bl, i * 16 + 5, none⟩ = some (.int .u64 es[i].un.d.x0) := HEn.out.cell hi (j := 5) (by decide)
      have e6 : wa.cell? ⟨bl, i * 16 + 6, none⟩ = some (.int .u64 es[i].un.d.x1) := HEn.out.cell hi (j := 6) (by decide)
      have e7 : wa.cell? ⟨bl, i * 16 + 7, none⟩ = some (.int .u64 es[i].un.d.x2) := HEn.out.cell hi (j := 7) (by decide)
      have e8 : wa.cell? ⟨bl, i * 16 + 8, none⟩ = some (.int .u64 es[i].un.d.x3) := HEn.out.cell hi (j := 8) (by decide)
      have e9 : wa.cell? ⟨bl, i * 16 + 9, none⟩ = some (.int .u64 es[i].un.d.x4) := HEn.out.cell hi (j := 9) (by decide)
      have e10 : wa.cell? ⟨bl, i * 16 + 10, none⟩ = some (.int .u64 es[i].un.d.x5) := HEn.out.cell hi (j := 10) (by decide)
      have e11 : wa.cell? ⟨bl, i * 16 + 11, none⟩ = some (.int .u64 es[i].un.d.x6) := HEn.out.cell hi (j := 11) (by decide)
      have e12 : wa.cell? ⟨bl, i * 16 + 12, none⟩ = some (.int .u64 es[i].un.d.x7) := HEn.out.cell hi (j := 12) (by decide)
      have e0 : wa.cell? ⟨bl, i * 16, none⟩ = some (.int .i64 es[i].ow) := HEn.out.cell hi (j := 0) (by decide)
      have e15 : wa.cell? ⟨bl, i * 16 + 15, none⟩ = some es[i].wt := HEn.out.cell hi (j := 15) (by decide)
      have e13 : wa.cell? ⟨bl, i * 16 + 13, none⟩ = some (.int .i64 0) := by rw [← hph]; exact HEn.out.cell hi (j := 13) (by decide)
      clear hph hB
      generalize i * 16 = p at *
      go_wp2_with fail
      have HWd := Lib.hid ((HWt.out.chg (Chg.refl [] wa) (by simp)).chg ((Chg.refl [] wa).drew) (by simp))
      have HXd := Lib.hid ((HC.out.trans (Chg.refl [] wa)).drew)
      have m1d : (World.drew wa).cell? ⟨b, 1, none⟩ = some (.int .i64 c) := m1
      have mltd : b < (World.drew wa).heap.size := mlt
      go_still_tail 24, (by kernel_rfl)
      go_wp2_with fail
      refine (ContainsFunc_any _ es[i].wt es[i].wl ⟨2, c, l, d⟩ b m1d mltd HWd.out).mono ?_
      rintro e w3 ⟨rfl, hx3⟩
      have HZ := Lib.hid (HXd.out.trans hx3)
      clear hx3
      go_wp2_with fail
      go_ret
      exact ⟨ret_bool HR.out.symm, HZ.out⟩
  by_cases hph : es[i].ph = 4
  · by_cases how : es[i].ow = c
    · have HR := Lib.hid (show mayB es[i] ⟨2, c, l, d⟩ = false from by rw [hB, hph, how]; simp)
      have how2 : (es[i].ow != c) = false := by simpa using how
      have HOw := Lib.hid how; clear how
      go_enter Try.func26, Try.ntmps26
      go_upto_region 3 with fail
      generalize World.alloc _ _ = wa at *
      obtain ⟨b, hb⟩ : ∃ b, w.heap.size = b := ⟨_, rfl⟩
      rw [hb] at HB ⊢
      clear hb
      have m1 : wa.cell? ⟨b, 1, none⟩ = some (.int .i64 c) := HB.out.cell 1
      have mlt : b < wa.heap.size := HB.out.lt
      have blt : bl < wa.heap.size := Blk.lt HEn.out
      have e2 : wa.cell? ⟨bl, i * 16 + 2, none⟩ = some (.int .i64 es[i].un.k) := HEn.out.cell hi (j := 2) (by decide)
      have e3 : wa.cell? ⟨bl, i * 16 + 3, none⟩ = some (.int .i64 es[i].un.c) := HEn.out.cell hi (j := 3) (by decide)
      have e4 : wa.cell? ⟨bl, i * 16 + 4, none⟩ = some (.int .i64 es[i].un.l) := HEn.out.cell hi (j := 4) (by decide)
      have e5 : wa.cell? ⟨bl, i * 16 + 5, none⟩ = some (.int .u64 es[i].un.d.x0) := HEn.out.cell hi (j := 5) (by decide)
      have e6 : wa.cell? ⟨bl, i * 16 + 6, none⟩ = some (.int .u64 es[i].un.d.x1) := HEn.out.cell hi (j := 6) (by decide)
      have e7 : wa.cell? ⟨bl, i * 16 + 7, none⟩ = some (.int .u64 es[i].un.d.x2) := HEn.out.cell hi (j := 7) (by decide)
      have e8 : wa.cell? ⟨bl, i * 16 + 8, none⟩ = some (.int .u64 es[i].un.d.x3) := HEn.out.cell hi (j := 8) (by decide)
      have e9 : wa.cell? ⟨bl, i * 16 + 9, none⟩ = some (.int .u64 es[i].un.d.x4) := HEn.out.cell hi (j := 9) (by decide)
      have e10 : wa.cell? ⟨bl, i * 16 + 10, none⟩ = some (.int .u64 es[i].un.d.x5) := HEn.out.cell hi (j := 10) (by decide)
      have e11 : wa.cell? ⟨bl, i * 16 + 11, none⟩ = some (.int .u64 es[i].un.d.x6) := HEn.out.cell hi (j := 11) (by decide)
      have e12 : wa.cell? ⟨bl, i * 16 + 12, none⟩ = some (.int .u64 es[i].un.d.x7) := HEn.out.cell hi (j := 12) (by decide)
      have e0 : wa.cell? ⟨bl, i * 16, none⟩ = some (.int .i64 es[i].ow) := HEn.out.cell hi (j := 0) (by decide)
      have e15 : wa.cell? ⟨bl, i * 16 + 15, none⟩ = some es[i].wt := HEn.out.cell hi (j := 15) (by decide)
      have e13 : wa.cell? ⟨bl, i * 16 + 13, none⟩ = some (.int .i64 4) := by rw [← hph]; exact HEn.out.cell hi (j := 13) (by decide)
      clear hph hB
      generalize i * 16 = p at *
      go_wp2_with fail
      go_quiet (fail)
      go_wp2_with fail
      go_ret
      exact ⟨ret_bool HR.out.symm, (HC.out.trans (Chg.refl [] wa)).drewN _⟩
    · have how2 : (es[i].ow != c) = true := by simpa using how
      have HR := Lib.hid (show mayB es[i] ⟨2, c, l, d⟩ = !(es[i].wl.any (fun x => x.c == c)) from by rw [hB, hph, how2]; simp)
      have HOw := Lib.hid how; clear how
      go_enter Try.func26, Try.ntmps26
      go_upto_region 3 with fail
      generalize World.alloc _ _ = wa at *
      obtain ⟨b, hb⟩ : ∃ b, w.heap.size = b := ⟨_, rfl⟩
      rw [hb] at HB ⊢
      clear hb
      have m1 : wa.cell? ⟨b, 1, none⟩ = some (.int .i64 c) := HB.out.cell 1
      have mlt : b < wa.heap.size := HB.out.lt
      have blt : bl < wa.heap.size := Blk.lt HEn.out
      have e2 : wa.cell? ⟨bl, i * 16 + 2, none⟩ = some (.int .i64 es[i].un.k) := HEn.out.cell hi (j := 2) (by decide)
      have e3 : wa.cell? ⟨bl, i * 16 + 3, none⟩ = some (.int .i64 es[i].un.c) := HEn.out.cell hi (j := 3) (by decide)
      have e4 : wa.cell? ⟨bl, i * 16 + 4, none⟩ = some (.int .i64 es[i].un.l) := HEn.out.cell hi (j := 4) (by decide)
      have e5 : wa.cell? ⟨bl, i * 16 + 5, none⟩ = some (.int .u64 es[i].un.d.x0) := HEn.out.cell hi (j := 5) (by decide)
      have e6 : wa.cell? ⟨bl, i * 16 + 6, none⟩ = some (.int .u64 es[i].un.d.x1) := HEn.out.cell hi (j := 6) (by decide)
      have e7 : wa.cell? ⟨bl, i * 16 + 7, none⟩ = some (.int .u64 es[i].un.d.x2) := HEn.out.cell hi (j := 7) (by decide)
      have e8 : wa.cell? ⟨bl, i * 16 + 8, none⟩ = some (.int .u64 es[i].un.d.x3) := HEn.out.cell hi (j := 8) (by decide)
      have e9 : wa.cell? ⟨bl, i * 16 + 9, none⟩ = some (.int .u64 es[i].un.d.x4) := HEn.out.cell hi (j := 9) (by decide)
      have e10 : wa.cell? ⟨bl, i * 16 + 10, none⟩ = some (.int .u64 es[i].un.d.x5) := HEn.out.cell hi (j := 10) (by decide)
      have e11 : wa.cell? ⟨bl, i * 16 + 11, none⟩ = some (.int .u64 es[i].un.d.x6) := HEn.out.cell hi (j := 11) (by decide)
      have e12 : wa.cell? ⟨bl, i * 16 + 12, none⟩ = some (.int .u64 es[i].un.d.x7) := HEn.out.cell hi (j := 12) (by decide)
      have e0 : wa.cell? ⟨bl, i * 16, none⟩ = some (.int .i64 es[i].ow) := HEn.out.cell hi (j := 0) (by decide)
      have e15 : wa.cell? ⟨bl, i * 16 + 15, none⟩ = some es[i].wt := HEn.out.cell hi (j := 15) (by decide)
      have e13 : wa.cell? ⟨bl, i * 16 + 13, none⟩ = some (.int .i64 4) := by rw [← hph]; exact HEn.out.cell hi (j := 13) (by decide)
      clear hph hB
      generalize i * 16 = p at *
      go_wp2_with fail
      have HWd := Lib.hid ((HWt.out.chg (Chg.refl [] wa) (by simp)).chg ((Chg.refl [] wa).drew) (by simp))
      have HXd := Lib.hid ((HC.out.trans (Chg.refl [] wa)).drew)
      have m1d : (World.drew wa).cell? ⟨b, 1, none⟩ = some (.int .i64 c) := m1
      have mltd : b < (World.drew wa).heap.size := mlt
      go_still_tail 24, (by kernel_rfl)
      go_wp2_with fail
      refine (ContainsFunc_any _ es[i].wt es[i].wl ⟨2, c, l, d⟩ b m1d mltd HWd.out).mono ?_
      rintro e w3 ⟨rfl, hx3⟩
      have HZ := Lib.hid (HXd.out.trans hx3)
      clear hx3
      go_wp2_with fail
      go_ret
      exact ⟨ret_bool HR.out.symm, HZ.out⟩
  rename_i hn0
  have n0 : (es[i].ph != 0) = true := by simpa using hn0
  have n4 : (es[i].ph != 4) = true := by simpa using hph
  have n0' : (es[i].ph == 0) = false := by simpa using hn0
  have n4' : (es[i].ph == 4) = false := by simpa using hph
  by_cases hun : es[i].un.c = c
  · have HR := Lib.hid (show mayB es[i] ⟨2, c, l, d⟩ = false from by rw [hB, n0, n4, hun]; simp)
    have hun2 : (es[i].un.c == c) = true := by simpa using hun
    have HUn := Lib.hid hun; have HPh := Lib.hid hph; have HN0 := Lib.hid hn0; clear hun hph hn0
    go_enter Try.func26, Try.ntmps26
    go_upto_region 3 with fail
    generalize World.alloc _ _ = wa at *
    obtain ⟨b, hb⟩ : ∃ b, w.heap.size = b := ⟨_, rfl⟩
    rw [hb] at HB ⊢
    clear hb
    have m1 : wa.cell? ⟨b, 1, none⟩ = some (.int .i64 c) := HB.out.cell 1
    have mlt : b < wa.heap.size := HB.out.lt
    have blt : bl < wa.heap.size := Blk.lt HEn.out
    have e2 : wa.cell? ⟨bl, i * 16 + 2, none⟩ = some (.int .i64 es[i].un.k) := HEn.out.cell hi (j := 2) (by decide)
    have e3 : wa.cell? ⟨bl, i * 16 + 3, none⟩ = some (.int .i64 es[i].un.c) := HEn.out.cell hi (j := 3) (by decide)
    have e4 : wa.cell? ⟨bl, i * 16 + 4, none⟩ = some (.int .i64 es[i].un.l) := HEn.out.cell hi (j := 4) (by decide)
    have e5 : wa.cell? ⟨bl, i * 16 + 5, none⟩ = some (.int .u64 es[i].un.d.x0) := HEn.out.cell hi (j := 5) (by decide)
    have e6 : wa.cell? ⟨bl, i * 16 + 6, none⟩ = some (.int .u64 es[i].un.d.x1) := HEn.out.cell hi (j := 6) (by decide)
    have e7 : wa.cell? ⟨bl, i * 16 + 7, none⟩ = some (.int .u64 es[i].un.d.x2) := HEn.out.cell hi (j := 7) (by decide)
    have e8 : wa.cell? ⟨bl, i * 16 + 8, none⟩ = some (.int .u64 es[i].un.d.x3) := HEn.out.cell hi (j := 8) (by decide)
    have e9 : wa.cell? ⟨bl, i * 16 + 9, none⟩ = some (.int .u64 es[i].un.d.x4) := HEn.out.cell hi (j := 9) (by decide)
    have e10 : wa.cell? ⟨bl, i * 16 + 10, none⟩ = some (.int .u64 es[i].un.d.x5) := HEn.out.cell hi (j := 10) (by decide)
    have e11 : wa.cell? ⟨bl, i * 16 + 11, none⟩ = some (.int .u64 es[i].un.d.x6) := HEn.out.cell hi (j := 11) (by decide)
    have e12 : wa.cell? ⟨bl, i * 16 + 12, none⟩ = some (.int .u64 es[i].un.d.x7) := HEn.out.cell hi (j := 12) (by decide)
    have e0 : wa.cell? ⟨bl, i * 16, none⟩ = some (.int .i64 es[i].ow) := HEn.out.cell hi (j := 0) (by decide)
    have e15 : wa.cell? ⟨bl, i * 16 + 15, none⟩ = some es[i].wt := HEn.out.cell hi (j := 15) (by decide)
    have e13 : wa.cell? ⟨bl, i * 16 + 13, none⟩ = some (.int .i64 es[i].ph) := HEn.out.cell hi (j := 13) (by decide)
    clear hB
    generalize i * 16 = p at *
    go_wp2_with fail
    have mb : wa.cell? ⟨b, 1, none⟩ = some (.int .i64 c) := m1
    refine (may1_any _ b ⟨0, c, l, d⟩ es[i].un mb mlt).mono ?_
    rintro e w2 ⟨rfl, hx⟩
    have m1 : w2.cell? ⟨b, 1, none⟩ = some (.int .i64 c) := (hx.cell0 mlt _).trans m1
    have e0 : w2.cell? ⟨bl, p, none⟩ = some (.int .i64 es[i].ow) := (hx.cell0 blt _).trans e0
    have e13 : w2.cell? ⟨bl, p + 13, none⟩ = some (.int .i64 _) := (hx.cell0 blt _).trans e13
    have e15 : w2.cell? ⟨bl, p + 15, none⟩ = some es[i].wt := (hx.cell0 blt _).trans e15
    have mlt : b < w2.heap.size := Nat.lt_of_lt_of_le mlt hx.size
    have blt : bl < w2.heap.size := Nat.lt_of_lt_of_le blt hx.size
    rw [hun2]
    have HX2 := Lib.hid hx; clear hx
    go_wp2_with fail
    go_quiet (fail)
    go_wp2_with fail
    go_ret
    exact ⟨ret_bool HR.out.symm, (HC.out.trans HX2.out).drewN _⟩
  have hun2 : (es[i].un.c == c) = false := by simpa using hun
  by_cases how : es[i].ow = c
  · have how2 : (es[i].ow != c) = false := by simpa using how
    by_cases hp2 : es[i].ph = 2
    · have HR := Lib.hid (show mayB es[i] ⟨2, c, l, d⟩ = !(es[i].wl.any (fun x => x.c == c)) from by rw [hB, hun2, how2, hp2]; simp)
      have h22 : (es[i].ph == 2) = true := by simpa using hp2
      have HUn := Lib.hid hun; have HPh := Lib.hid hph; have HN0 := Lib.hid hn0; have HOw := Lib.hid how; have HP2 := Lib.hid hp2; clear hun hph hn0 how hp2
      go_enter Try.func26, Try.ntmps26
      go_upto_region 3 with fail
      generalize World.alloc _ _ = wa at *
      obtain ⟨b, hb⟩ : ∃ b, w.heap.size = b := ⟨_, rfl⟩
      rw [hb] at HB ⊢
      clear hb
      have m1 : wa.cell? ⟨b, 1, none⟩ = some (.int .i64 c) := HB.out.cell 1
      have mlt : b < wa.heap.size := HB.out.lt
      have blt : bl < wa.heap.size := Blk.lt HEn.out
      have e2 : wa.cell? ⟨bl, i * 16 + 2, none⟩ = some (.int .i64 es[i].un.k) := HEn.out.cell hi (j := 2) (by decide)
      have e3 : wa.cell? ⟨bl, i * 16 + 3, none⟩ = some (.int .i64 es[i].un.c) := HEn.out.cell hi (j := 3) (by decide)
      have e4 : wa.cell? ⟨bl, i * 16 + 4, none⟩ = some (.int .i64 es[i].un.l) := HEn.out.cell hi (j := 4) (by decide)
      have e5 : wa.cell? ⟨bl, i * 16 + 5, none⟩ = some (.int .u64 es[i].un.d.x0) := HEn.out.cell hi (j := 5) (by decide)
      have e6 : wa.cell? ⟨bl, i * 16 + 6, none⟩ = some (.int .u64 es[i].un.d.x1) := HEn.out.cell hi (j := 6) (by decide)
      have e7 : wa.cell? ⟨bl, i * 16 + 7, none⟩ = some (.int .u64 es[i].un.d.x2) := HEn.out.cell hi (j := 7) (by decide)
      have e8 : wa.cell? ⟨bl, i * 16 + 8, none⟩ = some (.int .u64 es[i].un.d.x3) := HEn.out.cell hi (j := 8) (by decide)
      have e9 : wa.cell? ⟨bl, i * 16 + 9, none⟩ = some (.int .u64 es[i].un.d.x4) := HEn.out.cell hi (j := 9) (by decide)
      have e10 : wa.cell? ⟨bl, i * 16 + 10, none⟩ = some (.int .u64 es[i].un.d.x5) := HEn.out.cell hi (j := 10) (by decide)
      have e11 : wa.cell? ⟨bl, i * 16 + 11, none⟩ = some (.int .u64 es[i].un.d.x6) := HEn.out.cell hi (j := 11) (by decide)
      have e12 : wa.cell? ⟨bl, i * 16 + 12, none⟩ = some (.int .u64 es[i].un.d.x7) := HEn.out.cell hi (j := 12) (by decide)
      have e0 : wa.cell? ⟨bl, i * 16, none⟩ = some (.int .i64 es[i].ow) := HEn.out.cell hi (j := 0) (by decide)
      have e15 : wa.cell? ⟨bl, i * 16 + 15, none⟩ = some es[i].wt := HEn.out.cell hi (j := 15) (by decide)
      have e13 : wa.cell? ⟨bl, i * 16 + 13, none⟩ = some (.int .i64 es[i].ph) := HEn.out.cell hi (j := 13) (by decide)
      clear hB
      generalize i * 16 = p at *
      go_wp2_with fail
      have mb : wa.cell? ⟨b, 1, none⟩ = some (.int .i64 c) := m1
      refine (may1_any _ b ⟨0, c, l, d⟩ es[i].un mb mlt).mono ?_
      rintro e w2 ⟨rfl, hx⟩
      have m1 : w2.cell? ⟨b, 1, none⟩ = some (.int .i64 c) := (hx.cell0 mlt _).trans m1
      have e0 : w2.cell? ⟨bl, p, none⟩ = some (.int .i64 es[i].ow) := (hx.cell0 blt _).trans e0
      have e13 : w2.cell? ⟨bl, p + 13, none⟩ = some (.int .i64 _) := (hx.cell0 blt _).trans e13
      have e15 : w2.cell? ⟨bl, p + 15, none⟩ = some es[i].wt := (hx.cell0 blt _).trans e15
      have mlt : b < w2.heap.size := Nat.lt_of_lt_of_le mlt hx.size
      have blt : bl < w2.heap.size := Nat.lt_of_lt_of_le blt hx.size
      rw [hun2]
      have HX2 := Lib.hid hx; clear hx
      go_wp2_with fail
      have HWd := Lib.hid ((HWt.out.chg HX2.out (by simp)).chg ((Chg.refl [] w2).drew) (by simp))
      have HXd := Lib.hid ((HC.out.trans HX2.out).drew)
      have m1d : (World.drew w2).cell? ⟨b, 1, none⟩ = some (.int .i64 c) := m1
      have mltd : b < (World.drew w2).heap.size := mlt
      go_still_tail 24, (by kernel_rfl)
      go_wp2_with fail
      refine (ContainsFunc_any _ es[i].wt es[i].wl ⟨2, c, l, d⟩ b m1d mltd HWd.out).mono ?_
      rintro e w3 ⟨rfl, hx3⟩
      have HZ := Lib.hid (HXd.out.trans hx3)
      clear hx3
      go_wp2_with fail
      go_ret
      exact ⟨ret_bool HR.out.symm, HZ.out⟩
    · have h22 : (es[i].ph == 2) = false := by simpa using hp2
      have HR := Lib.hid (show mayB es[i] ⟨2, c, l, d⟩ = false from by rw [hB, hun2, how2, h22]; simp)
      have HUn := Lib.hid hun; have HPh := Lib.hid hph; have HN0 := Lib.hid hn0; have HOw := Lib.hid how; have HP2 := Lib.hid hp2; clear hun hph hn0 how hp2
      go_enter Try.func26, Try.ntmps26
      go_upto_region 3 with fail
      generalize World.alloc _ _ = wa at *
      obtain ⟨b, hb⟩ : ∃ b, w.heap.size = b := ⟨_, rfl⟩
      rw [hb] at HB ⊢
      clear hb
      have m1 : wa.cell? ⟨b, 1, none⟩ = some (.int .i64 c) := HB.out.cell 1
      have mlt : b < wa.heap.size := HB.out.lt
      have blt : bl < wa.heap.size := Blk.lt HEn.out
      have e2 : wa.cell? ⟨bl, i * 16 + 2, none⟩ = some (.int .i64 es[i].un.k) := HEn.out.cell hi (j := 2) (by decide)
      have e3 : wa.cell? ⟨bl, i * 16 + 3, none⟩ = some (.int .i64 es[i].un.c) := HEn.out.cell hi (j := 3) (by decide)
      have e4 : wa.cell? ⟨bl, i * 16 + 4, none⟩ = some (.int .i64 es[i].un.l) := HEn.out.cell hi (j := 4) (by decide)
      have e5 : wa.cell? ⟨bl, i * 16 + 5, none⟩ = some (.int .u64 es[i].un.d.x0) := HEn.out.cell hi (j := 5) (by decide)
      have e6 : wa.cell? ⟨bl, i * 16 + 6, none⟩ = some (.int .u64 es[i].un.d.x1) := HEn.out.cell hi (j := 6) (by decide)
      have e7 : wa.cell? ⟨bl, i * 16 + 7, none⟩ = some (.int .u64 es[i].un.d.x2) := HEn.out.cell hi (j := 7) (by decide)
      have e8 : wa.cell? ⟨bl, i * 16 + 8, none⟩ = some (.int .u64 es[i].un.d.x3) := HEn.out.cell hi (j := 8) (by decide)
      have e9 : wa.cell? ⟨bl, i * 16 + 9, none⟩ = some (.int .u64 es[i].un.d.x4) := HEn.out.cell hi (j := 9) (by decide)
      have e10 : wa.cell? ⟨bl, i * 16 + 10, none⟩ = some (.int .u64 es[i].un.d.x5) := HEn.out.cell hi (j := 10) (by decide)
      have e11 : wa.cell? ⟨bl, i * 16 + 11, none⟩ = some (.int .u64 es[i].un.d.x6) := HEn.out.cell hi (j := 11) (by decide)
      have e12 : wa.cell? ⟨bl, i * 16 + 12, none⟩ = some (.int .u64 es[i].un.d.x7) := HEn.out.cell hi (j := 12) (by decide)
      have e0 : wa.cell? ⟨bl, i * 16, none⟩ = some (.int .i64 es[i].ow) := HEn.out.cell hi (j := 0) (by decide)
      have e15 : wa.cell? ⟨bl, i * 16 + 15, none⟩ = some es[i].wt := HEn.out.cell hi (j := 15) (by decide)
      have e13 : wa.cell? ⟨bl, i * 16 + 13, none⟩ = some (.int .i64 es[i].ph) := HEn.out.cell hi (j := 13) (by decide)
      clear hB
      generalize i * 16 = p at *
      go_wp2_with fail
      have mb : wa.cell? ⟨b, 1, none⟩ = some (.int .i64 c) := m1
      refine (may1_any _ b ⟨0, c, l, d⟩ es[i].un mb mlt).mono ?_
      rintro e w2 ⟨rfl, hx⟩
      have m1 : w2.cell? ⟨b, 1, none⟩ = some (.int .i64 c) := (hx.cell0 mlt _).trans m1
      have e0 : w2.cell? ⟨bl, p, none⟩ = some (.int .i64 es[i].ow) := (hx.cell0 blt _).trans e0
      have e13 : w2.cell? ⟨bl, p + 13, none⟩ = some (.int .i64 _) := (hx.cell0 blt _).trans e13
      have e15 : w2.cell? ⟨bl, p + 15, none⟩ = some es[i].wt := (hx.cell0 blt _).trans e15
      have mlt : b < w2.heap.size := Nat.lt_of_lt_of_le mlt hx.size
      have blt : bl < w2.heap.size := Nat.lt_of_lt_of_le blt hx.size
      rw [hun2]
      have HX2 := Lib.hid hx; clear hx
      go_wp2_with fail
      go_quiet (fail)
      go_wp2_with fail
      go_ret
      exact ⟨ret_bool HR.out.symm, (HC.out.trans HX2.out).drewN _⟩
  · have how2 : (es[i].ow != c) = true := by simpa using how
    have HR := Lib.hid (show mayB es[i] ⟨2, c, l, d⟩ = !(es[i].wl.any (fun x => x.c == c)) from by rw [hB, hun2, how2]; simp)
    have HUn := Lib.hid hun; have HPh := Lib.hid hph; have HN0 := Lib.hid hn0; have HOw := Lib.hid how; clear hun hph hn0 how
    go_enter Try.func26, Try.ntmps26
    go_upto_region 3 with fail
    generalize World.alloc _ _ = wa at *
    obtain ⟨b, hb⟩ : ∃ b, w.heap.size = b := ⟨_, rfl⟩
    rw [hb] at HB ⊢
    clear hb
    have m1 : wa.cell? ⟨b, 1, none⟩ = some (.int .i64 c) := HB.out.cell 1
    have mlt : b < wa.heap.size := HB.out.lt
    have blt : bl < wa.heap.size := Blk.lt HEn.out
    have e2 : wa.cell? ⟨bl, i * 16 + 2, none⟩ = some (.int .i64 es[i].un.k) := HEn.out.cell hi (j := 2) (by decide)
    have e3 : wa.cell? ⟨bl, i * 16 + 3, none⟩ = some (.int .i64 es[i].un.c) := HEn.out.cell hi (j := 3) (by decide)
    have e4 : wa.cell? ⟨bl, i * 16 + 4, none⟩ = some (.int .i64 es[i].un.l) := HEn.out.cell hi (j := 4) (by decide)
    have e5 : wa.cell? ⟨bl, i * 16 + 5, none⟩ = some (.int .u64 es[i].un.d.x0) := HEn.out.cell hi (j := 5) (by decide)
    have e6 : wa.cell? ⟨bl, i * 16 + 6, none⟩ = some (.int .u64 es[i].un.d.x1) := HEn.out.cell hi (j := 6) (by decide)
    have e7 : wa.cell? ⟨bl, i * 16 + 7, none⟩ = some (.int .u64 es[i].un.d.x2) := HEn.out.cell hi (j := 7) (by decide)
    have e8 : wa.cell? ⟨bl, i * 16 + 8, none⟩ = some (.int .u64 es[i].un.d.x3) := HEn.out.cell hi (j := 8) (by decide)
    have e9 : wa.cell? ⟨bl, i * 16 + 9, none⟩ = some (.int .u64 es[i].un.d.x4) := HEn.out.cell hi (j := 9) (by decide)
    have e10 : wa.cell? ⟨bl, i * 16 + 10, none⟩ = some (.int .u64 es[i].un.d.x5) := HEn.out.cell hi (j := 10) (by decide)
    have e11 : wa.cell? ⟨bl, i * 16 + 11, none⟩ = some (.int .u64 es[i].un.d.x6) := HEn.out.cell hi (j := 11) (by decide)
    have e12 : wa.cell? ⟨bl, i * 16 + 12, none⟩ = some (.int .u64 es[i].un.d.x7) := HEn.out.cell hi (j := 12) (by decide)
    have e0 : wa.cell? ⟨bl, i * 16, none⟩ = some (.int .i64 es[i].ow) := HEn.out.cell hi (j := 0) (by decide)
    have e15 : wa.cell? ⟨bl, i * 16 + 15, none⟩ = some es[i].wt := HEn.out.cell hi (j := 15) (by decide)
    have e13 : wa.cell? ⟨bl, i * 16 + 13, none⟩ = some (.int .i64 es[i].ph) := HEn.out.cell hi (j := 13) (by decide)
    clear hB
    generalize i * 16 = p at *
    go_wp2_with fail
    have mb : wa.cell? ⟨b, 1, none⟩ = some (.int .i64 c) := m1
    refine (may1_any _ b ⟨0, c, l, d⟩ es[i].un mb mlt).mono ?_
    rintro e w2 ⟨rfl, hx⟩
    have m1 : w2.cell? ⟨b, 1, none⟩ = some (.int .i64 c) := (hx.cell0 mlt _).trans m1
    have e0 : w2.cell? ⟨bl, p, none⟩ = some (.int .i64 es[i].ow) := (hx.cell0 blt _).trans e0
    have e13 : w2.cell? ⟨bl, p + 13, none⟩ = some (.int .i64 _) := (hx.cell0 blt _).trans e13
    have e15 : w2.cell? ⟨bl, p + 15, none⟩ = some es[i].wt := (hx.cell0 blt _).trans e15
    have mlt : b < w2.heap.size := Nat.lt_of_lt_of_le mlt hx.size
    have blt : bl < w2.heap.size := Nat.lt_of_lt_of_le blt hx.size
    rw [hun2]
    have HX2 := Lib.hid hx; clear hx
    go_wp2_with fail
    have HWd := Lib.hid ((HWt.out.chg HX2.out (by simp)).chg ((Chg.refl [] w2).drew) (by simp))
    have HXd := Lib.hid ((HC.out.trans HX2.out).drew)
    have m1d : (World.drew w2).cell? ⟨b, 1, none⟩ = some (.int .i64 c) := m1
    have mltd : b < (World.drew w2).heap.size := mlt
    go_still_tail 24, (by kernel_rfl)
    go_wp2_with fail
    refine (ContainsFunc_any _ es[i].wt es[i].wl ⟨2, c, l, d⟩ b m1d mltd HWd.out).mono ?_
    rintro e w3 ⟨rfl, hx3⟩
    have HZ := Lib.hid (HXd.out.trans hx3)
    clear hx3
    go_wp2_with fail
    go_ret
    exact ⟨ret_bool HR.out.symm, HZ.out⟩end Go.Proofs.Ytepdhajgemmoiaa
