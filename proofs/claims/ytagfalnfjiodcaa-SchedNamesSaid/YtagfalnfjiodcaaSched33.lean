/- SchedNames. -/
import Derived.Test.YtagfalnfjiodcaaSched31
import Derived.Test.YtagfalnfjiodcaaSchedM5
namespace Go.Proofs.Ytagfalnfjiodcaa
open Go.RowKit

theorem NumsA.one (w : World) (x : Int) : NumsA (w.alloc (.cells #[.int .i64 x] 3)) (some ⟨w.heap.size, 0, none⟩) (w.alloc (.cells #[.int .i64 x] 3)).heap.size [x] := NumsA.of_blk (l := [x]) (Blk.new w [.int .i64 x] _)
theorem NumsA.none (w : World) : NumsA w none w.heap.size [] := fun i hi => absurd hi (by simp)

set_option maxRecDepth 100000 in
set_option maxHeartbeats 8000000 in
theorem SchedNames_any (W : World) : Calls Try.prog 11 #[] W (StaysPost W) := by
  go_enter Try.func11, Try.ntmps11
  go_wp2_with fail
  refine (Acts_any _ (some ⟨W.heap.size, 0, none⟩) 1 [1] 2 (by simp) (NumsA.one W 1)).mono ?_
  intro e w1 h
  rw [show actE [1] 2 = 0 from by decide, show actR [1] 2 = [(1, 1), (2, 0), (2, 0)] from by decide] at h
  obtain ⟨Aa, ca, rfl, hR, hC⟩ := h.sn
  have HR1 := Lib.hid hR
  have HC1 := Lib.hid (((Chg.refl [] W).alloc _).trans hC)
  clear h hR hC
  go_wp2_with fail
  refine (Rounds_any _ 5 1).mono ?_
  intro e w2 h
  rw [show mayN 5 1 = 240 from by decide] at h
  obtain ⟨A2, c2, rfl, _, _, hC⟩ := SPost.sn h
  have HR2 := Lib.hid (HR1.out.chg0 (hC))
  have HC2 := Lib.hid (HC1.out.trans (hC))
  clear h hC HR1 HC1
  go_wp2_with fail
  refine (Rounds_any _ 1 (-1)).mono ?_
  intro e w3 h
  rw [show mayN 1 (-1) = 2 from by decide] at h
  obtain ⟨A3, c3, rfl, _, _, hC⟩ := SPost.sn h
  have HR3 := Lib.hid (HR2.out.chg0 (hC))
  have HC3 := Lib.hid (HC2.out.trans (hC))
  clear h hC HR2 HC2
  go_wp2_with fail
  refine (Weights_any _ (some ⟨w3.heap.size, 0, none⟩) 1 [0] 1 (by simp) (NumsA.one w3 0)).mono ?_
  intro e w4 h
  rw [show mayL [0] 1 1 = 240 from by decide] at h
  obtain ⟨A4, c4, rfl, _, _, hC⟩ := SPost.sn h
  have HR4 := Lib.hid (HR3.out.chg0 (((Chg.refl [] w3).alloc _).trans hC))
  have HC4 := Lib.hid (HC3.out.trans (((Chg.refl [] w3).alloc _).trans hC))
  clear h hC HR3 HC3
  go_wp2_with fail
  refine (Acts_any _ (some ⟨w4.heap.size, 0, none⟩) 1 [4] 0 (by simp) (NumsA.one w4 4)).mono ?_
  intro e w5 h
  rw [show actE [4] 0 = 240 from by decide] at h
  obtain ⟨A5, c5, rfl, _, hC⟩ := h.sn
  have HR5 := Lib.hid (HR4.out.chg0 (((Chg.refl [] w4).alloc _).trans hC))
  have HC5 := Lib.hid (HC4.out.trans (((Chg.refl [] w4).alloc _).trans hC))
  clear h hC HR4 HC4
  go_wp2_with fail
  refine (Rounds_any _ 0 (-1)).mono ?_
  intro e w6 h
  rw [show mayN 0 (-1) = 240 from by decide] at h
  obtain ⟨A6, c6, rfl, _, _, hC⟩ := SPost.sn h
  have HR6 := Lib.hid (HR5.out.chg0 (hC))
  have HC6 := Lib.hid (HC5.out.trans (hC))
  clear h hC HR5 HC5
  go_wp2_with fail
  refine (Rounds_any _ 4 10001).mono ?_
  intro e w7 h
  rw [show mayN 4 10001 = 2 from by decide] at h
  obtain ⟨A7, c7, rfl, _, _, hC⟩ := SPost.sn h
  have HR7 := Lib.hid (HR6.out.chg0 (hC))
  have HC7 := Lib.hid (HC6.out.trans (hC))
  clear h hC HR6 HC6
  go_wp2_with fail
  refine (Ranks_any _ (some ⟨w7.heap.size, 0, none⟩) 1 [101] 1 (by simp) (NumsA.one w7 101)).mono ?_
  intro e w8 h
  rw [show mayL [101] 0 1 = 240 from by decide] at h
  obtain ⟨A8, c8, rfl, _, _, hC⟩ := SPost.sn h
  have HR8 := Lib.hid (HR7.out.chg0 (((Chg.refl [] w7).alloc _).trans hC))
  have HC8 := Lib.hid (HC7.out.trans (((Chg.refl [] w7).alloc _).trans hC))
  clear h hC HR7 HC7
  go_wp2_with fail
  refine (Ranks_any _ none 0 [] 1 (by simp) (NumsA.none w8)).mono ?_
  intro e w9 h
  rw [show mayL [] 0 1 = 240 from by decide] at h
  obtain ⟨A9, c9, rfl, _, _, hC⟩ := SPost.sn h
  have HR9 := Lib.hid (HR8.out.chg0 (hC))
  have HC9 := Lib.hid (HC8.out.trans (hC))
  clear h hC HR8 HC8
  go_wp2_with fail
  refine (Seeds_any _ (-1) 0 1 (by decide) (by decide)).mono ?_
  intro e w10 h
  rw [show mayN (-1) 1 = 240 from by decide] at h
  obtain ⟨A10, c10, rfl, _, _, hC⟩ := SPost.sn h
  have HR10 := Lib.hid (HR9.out.chg0 (hC))
  have HC10 := Lib.hid (HC9.out.trans (hC))
  clear h hC HR9 HC9
  go_wp2_with fail
  refine (Acts_any _ none 0 [] 101 (by simp) (NumsA.none w10)).mono ?_
  intro e w11 h
  rw [show actE [] 101 = 2 from by decide] at h
  obtain ⟨A11, c11, rfl, _, hC⟩ := h.sn
  have HR11 := Lib.hid (HR10.out.chg0 (hC))
  have HC11 := Lib.hid (HC10.out.trans (hC))
  clear h hC HR10 HC10
  go_wp2_with fail
  refine (Weights_any _ (some ⟨w11.heap.size, 0, none⟩) 1 [101] (-1) (by simp) (NumsA.one w11 101)).mono ?_
  intro e w12 h
  rw [show mayL [101] 1 (-1) = 240 from by decide] at h
  obtain ⟨A12, c12, rfl, _, _, hC⟩ := SPost.sn h
  have HR12 := Lib.hid (HR11.out.chg0 (((Chg.refl [] w11).alloc _).trans hC))
  have HC12 := Lib.hid (HC11.out.trans (((Chg.refl [] w11).alloc _).trans hC))
  clear h hC HR11 HC11
  obtain ⟨b, off, rfl, _, hc⟩ := HR12.out (by decide)
  have a0 : w12.cell? ⟨b, off, none⟩ = some (.int .i64 1) := hc 0 (by decide) 0 (by decide)
  have a1 : w12.cell? ⟨b, off + 1, none⟩ = some (.int .i64 1) := hc 0 (by decide) 1 (by decide)
  have a2 : w12.cell? ⟨b, off + 2, none⟩ = some (.int .i64 0) := hc 0 (by decide) 2 (by decide)
  have a3 : w12.cell? ⟨b, off + 3, none⟩ = some (.int .i64 2) := hc 1 (by decide) 0 (by decide)
  have a4 : w12.cell? ⟨b, off + 3 + 1, none⟩ = some (.int .i64 0) := hc 1 (by decide) 1 (by decide)
  have a5 : w12.cell? ⟨b, off + 3 + 2, none⟩ = some (.int .i64 0) := hc 1 (by decide) 2 (by decide)
  have a6 : w12.cell? ⟨b, off + 6, none⟩ = some (.int .i64 2) := hc 2 (by decide) 0 (by decide)
  have a7 : w12.cell? ⟨b, off + 6 + 1, none⟩ = some (.int .i64 0) := hc 2 (by decide) 1 (by decide)
  have a8 : w12.cell? ⟨b, off + 6 + 2, none⟩ = some (.int .i64 0) := hc 2 (by decide) 2 (by decide)
  clear hc
  go_wp2_with fail
  refine (Wait_any _ (some ⟨w12.heap.size, 0, none⟩) 5 [0, 1, 1, 0, 1] 0 (by simp) (NumsA.of_blk (l := [0, 1, 1, 0, 1]) (Blk.new w12 [.int .i64 0, .int .i64 1, .int .i64 1, .int .i64 0, .int .i64 1] _))).mono ?_
  rw [show (waitS 0 [0, 1, 1, 0, 1]).1 = 2 from by decide]
  rintro e w13 ⟨rfl, rfl⟩
  have HC13 := Lib.hid (HC12.out.alloc (.cells #[.int .i64 0, .int .i64 1, .int .i64 1, .int .i64 0, .int .i64 1] 3))
  clear HC12 HR12 a0 a1 a2 a3 a4 a5 a6 a7 a8
  generalize w12.alloc (.cells #[.int .i64 0, .int .i64 1, .int .i64 1, .int .i64 0, .int .i64 1] 3) = w13 at *
  go_wp2_with fail
  refine (Wait_any _ none 0 [] 0 (by simp) (NumsA.none w13)).mono ?_
  rw [show (waitS 0 []).1 = 0 from by decide]
  rintro e w14 ⟨rfl, rfl⟩
  go_wp2_with fail
  refine (CountsA_any _ (some ⟨w13.heap.size, 0, none⟩) 1 [1] 5 (by simp) (NumsA.one w13 1)).mono ?_
  intro e w14 h
  rw [show cntL [1] 5 = [] from by decide] at h
  obtain ⟨A14, c14, rfl, _, hC⟩ := h.sn
  have HC14 := Lib.hid (HC13.out.trans (((Chg.refl [] w13).alloc _).trans hC))
  clear h hC HC13
  go_wp2_with fail
  refine (CountsA_any _ none 0 [] 2 (by simp) (NumsA.none w14)).mono ?_
  intro e w15 h
  rw [show cntL [] 2 = [0, 0] from by decide] at h
  obtain ⟨A15, c15, rfl, _, hC⟩ := h.sn
  have HC15 := Lib.hid (HC14.out.trans hC)
  clear h hC HC14
  go_wp2_with fail
  refine (alive_any _).mono ?_
  rintro e w16 ⟨rfl, hC⟩
  have HC16 := Lib.hid (HC15.out.trans hC)
  clear hC HC15
  go_wp2_with fail
  go_ret
  exact ⟨rfl, HC16.out.to_below (by simp) (Nat.le_refl _)⟩

end Go.Proofs.Ytagfalnfjiodcaa
