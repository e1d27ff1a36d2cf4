/- A queue, a hash and a tree side by side: where they stand. -/
import Derived.Test.YthlhjahhjoclfaaCd17
import Derived.StillTailTactics
namespace Go.Proofs.Ythlhjahhjoclfaa
set_option maxRecDepth 100000
open Go.RowKit

structure Three (b0 b1 b2 bk c0 c1 c2 : Int) : Prop where
  h0 : 0 ≤ b0 ∧ b0 ≤ 49
  hk : bk = 1 ∨ bk = 2 ∨ bk = 4 ∨ bk = 8
  hc0 : 1 ≤ c0 ∧ c0 ≤ 9
  hc1 : 1 ≤ c1 ∧ c1 ≤ 9
  hc2 : 1 ≤ c2 ∧ c2 ≤ 9
  e1 : b1 = b0 + (2 + c0)
  e2 : b2 = b1 + (2 + bk + 3 * c1)
theorem size0 {bk c : Int} (h : 1 ≤ c ∧ c ≤ 9) : sizeK 0 bk c = 2 + c := by
  unfold sizeK; rw [if_pos rfl]; unfold qSize sizedV; rw [if_neg (by omega)]; omega
theorem size1 {bk c : Int} (hk : bk = 1 ∨ bk = 2 ∨ bk = 4 ∨ bk = 8) (h : 1 ≤ c ∧ c ≤ 9) : sizeK 1 bk c = 2 + bk + 3 * c := by
  unfold sizeK; rw [if_neg (by decide), if_pos rfl]; unfold hSize sizedV
  rw [if_pos (by rcases hk with rfl | rfl | rfl | rfl <;> decide), if_neg (by omega)]
theorem size2 {bk c : Int} (h : 1 ≤ c ∧ c ≤ 9) : sizeK 2 bk c = 3 + 4 * c := by
  unfold sizeK; rw [if_neg (by decide), if_neg (by decide)]; unfold tSize sizedV; rw [if_neg (by omega)]

theorem and3 (x : Int) : bits BinOp.and IntKind.u8 x 3 = 0 ∨ bits BinOp.and IntKind.u8 x 3 = 1 ∨ bits BinOp.and IntKind.u8 x 3 = 2 ∨ bits BinOp.and IntKind.u8 x 3 = 3 := by
  have e : (BitVec.ofInt IntKind.u8.bits (3 : Int)).toNat = 3 := by rfl
  have hl : (BitVec.ofInt IntKind.u8.bits x).toNat &&& 3 ≤ 3 := Nat.and_le_right
  have hb : bits BinOp.and IntKind.u8 x 3 = (((BitVec.ofInt IntKind.u8.bits x).toNat &&& 3 : Nat) : Int) := by
    simp only [bits, BitVec.toNat_and, e]
    exact IntWalk.u8_in _ (by omega)
  rw [hb]; omega

set_option maxHeartbeats 4000000 in
theorem trio_0 (w : World) (x0 x1 x2 : Int) (g0 : 0 ≤ x0 ∧ x0 ≤ 255) (g1 : 0 ≤ x1 ∧ x1 ≤ 255) (g2 : 0 ≤ x2 ∧ x2 ≤ 255) (hs : bits BinOp.and IntKind.u8 x1 3 = 0) :
    Calls Try.prog 21 #[.agg #[.int .u8 x0, .int .u8 x1, .int .u8 x2]] w fun e w' => ∃ b0 b1 b2 bk c0 c1 c2 : Int, Three b0 b1 b2 bk c0 c1 c2 ∧ e = .returned (.agg #[.int .i64 0, .int .i64 b0, .int .i64 bk, .int .i64 c0, .int .i64 1, .int .i64 b1, .int .i64 bk, .int .i64 c1, .int .i64 2, .int .i64 b2, .int .i64 bk, .int .i64 c2]) ∧ Chg [] w w' := by
  go_enter Try.func21, Try.ntmps21
  go_wp2_with fail
  refine wp_loop_rounds 4 ?_
  have hX := ((Blk.new w [.int .u8 x0, .int .u8 x1, .int .u8 x2] 45).alloc (.cells #[.int .i64 0, .int .i64 0, .int .i64 0, .int .i64 0, .int .i64 0, .int .i64 0, .int .i64 0, .int .i64 0, .int .i64 0, .int .i64 0, .int .i64 0, .int .i64 0] 48)).alloc (.cells #[.int .i64 0, .int .i64 0, .int .i64 0, .int .i64 0, .int .i64 0, .int .i64 0, .int .i64 0, .int .i64 0, .int .i64 0, .int .i64 0, .int .i64 0, .int .i64 0] 48)
  have hR := (Blk.new (w.alloc (.cells #[.int .u8 x0, .int .u8 x1, .int .u8 x2] 45)) [.int .i64 0, .int .i64 0, .int .i64 0, .int .i64 0, .int .i64 0, .int .i64 0, .int .i64 0, .int .i64 0, .int .i64 0, .int .i64 0, .int .i64 0, .int .i64 0] 48).alloc (.cells #[.int .i64 0, .int .i64 0, .int .i64 0, .int .i64 0, .int .i64 0, .int .i64 0, .int .i64 0, .int .i64 0, .int .i64 0, .int .i64 0, .int .i64 0, .int .i64 0] 48)
  have hL := Blk.new ((w.alloc (.cells #[.int .u8 x0, .int .u8 x1, .int .u8 x2] 45)).alloc (.cells #[.int .i64 0, .int .i64 0, .int .i64 0, .int .i64 0, .int .i64 0, .int .i64 0, .int .i64 0, .int .i64 0, .int .i64 0, .int .i64 0, .int .i64 0, .int .i64 0] 48)) [.int .i64 0, .int .i64 0, .int .i64 0, .int .i64 0, .int .i64 0, .int .i64 0, .int .i64 0, .int .i64 0, .int .i64 0, .int .i64 0, .int .i64 0, .int .i64 0] 48
  simp only [World.size_alloc] at hR hL
  have hC := (((Chg.refl [] w).alloc (.cells #[.int .u8 x0, .int .u8 x1, .int .u8 x2] 45)).alloc (.cells #[.int .i64 0, .int .i64 0, .int .i64 0, .int .i64 0, .int .i64 0, .int .i64 0, .int .i64 0, .int .i64 0, .int .i64 0, .int .i64 0, .int .i64 0, .int .i64 0] 48)).alloc (.cells #[.int .i64 0, .int .i64 0, .int .i64 0, .int .i64 0, .int .i64 0, .int .i64 0, .int .i64 0, .int .i64 0, .int .i64 0, .int .i64 0, .int .i64 0, .int .i64 0] 48)
  have HX := Lib.hid hX; have HR := Lib.hid hR; have HL := Lib.hid hL; have HC := Lib.hid hC
  clear hX hR hL hC
  generalize World.alloc (World.alloc (World.alloc _ _) _) _ = wa at *
  have hb0 : 0 ≤ x0 % 50 ∧ x0 % 50 ≤ 49 := by omega
  generalize x0 % 50 = bb0 at *
  rw [rounds_succ]
  have cx1 : wa.cell? ⟨w.heap.size, 1, none⟩ = some (.int .u8 x1) := HX.out.cell 1
  have cxk : wa.cell? ⟨w.heap.size, 0, none⟩ = some (.int .u8 x0) := HX.out.cell 0
  have f0 : wa.frozen? ⟨w.heap.size + 1 + 1, 0, none⟩ = false := HL.out.free 0
  have f1 : wa.frozen? ⟨w.heap.size + 1 + 1, 1, none⟩ = false := HL.out.free 1
  have f2 : wa.frozen? ⟨w.heap.size + 1 + 1, 2, none⟩ = false := HL.out.free 2
  have f3 : wa.frozen? ⟨w.heap.size + 1 + 1, 3, none⟩ = false := HL.out.free 3
  have hl : w.heap.size + 1 + 1 < wa.heap.size := HL.out.lt
  have hx : w.heap.size < wa.heap.size := HX.out.lt
  have o0 : wa.cell? ⟨w.heap.size + 1 + 1, 0, none⟩ = some (.int .i64 0) := HL.out.cell 0
  have o1 : wa.cell? ⟨w.heap.size + 1 + 1, 1, none⟩ = some (.int .i64 0) := HL.out.cell 1
  have o2 : wa.cell? ⟨w.heap.size + 1 + 1, 2, none⟩ = some (.int .i64 0) := HL.out.cell 2
  have o3 : wa.cell? ⟨w.heap.size + 1 + 1, 3, none⟩ = some (.int .i64 0) := HL.out.cell 3
  have hwa : IntKind.i64.wrap x0 = x0 := IntWalk.i64_in _ (by omega)
  have hwb : Int.tmod x0 9 = x0 % 9 := Int.tmod_eq_emod_of_nonneg (by omega)
  obtain ⟨cc0, hcc0⟩ : ∃ c, 1 + x0 % 9 = c := ⟨_, rfl⟩
  have hck0 : 1 ≤ cc0 ∧ cc0 ≤ 9 := by omega
  have hwc : IntKind.i64.wrap (1 + x0 % 9) = cc0 := by rw [hcc0]; exact IntWalk.i64_in _ (by omega)
  have hwd : IntKind.i64.wrap 1 = 1 := IntWalk.i64_in _ (by omega)
  have HCC0 := Lib.hid hcc0; clear hcc0
  go_wp2_with fail
  go_still_tail 15, (by kernel_rfl)
  go_wp2_with fail
  have hX2 := (((((HX.out).other (a := ⟨w.heap.size + 1 + 1, 0, none⟩) (show w.heap.size + 1 + 1 ≠ w.heap.size by omega) (.int .i64 0)).other (a := ⟨w.heap.size + 1 + 1, 1, none⟩) (show w.heap.size + 1 + 1 ≠ w.heap.size by omega) (.int .i64 bb0)).other (a := ⟨w.heap.size + 1 + 1, 2, none⟩) (show w.heap.size + 1 + 1 ≠ w.heap.size by omega) (.int .i64 1)).other (a := ⟨w.heap.size + 1 + 1, 3, none⟩) (show w.heap.size + 1 + 1 ≠ w.heap.size by omega) (.int .i64 cc0)).drew
  have hR2 := (((((HR.out).other (a := ⟨w.heap.size + 1 + 1, 0, none⟩) (show w.heap.size + 1 + 1 ≠ w.heap.size + 1 by omega) (.int .i64 0)).other (a := ⟨w.heap.size + 1 + 1, 1, none⟩) (show w.heap.size + 1 + 1 ≠ w.heap.size + 1 by omega) (.int .i64 bb0)).other (a := ⟨w.heap.size + 1 + 1, 2, none⟩) (show w.heap.size + 1 + 1 ≠ w.heap.size + 1 by omega) (.int .i64 1)).other (a := ⟨w.heap.size + 1 + 1, 3, none⟩) (show w.heap.size + 1 + 1 ≠ w.heap.size + 1 by omega) (.int .i64 cc0)).drew
  have hL2 := (((((HL.out).set 0 (.int .i64 0)).set 1 (.int .i64 bb0)).set 2 (.int .i64 1)).set 3 (.int .i64 cc0)).drew
  have hC2 := (((((HC.out).setCell (p := ⟨w.heap.size + 1 + 1, 0, none⟩) (fun h => absurd h (by simp; omega)) (.int .i64 0)).setCell (p := ⟨w.heap.size + 1 + 1, 1, none⟩) (fun h => absurd h (by simp; omega)) (.int .i64 bb0)).setCell (p := ⟨w.heap.size + 1 + 1, 2, none⟩) (fun h => absurd h (by simp; omega)) (.int .i64 1)).setCell (p := ⟨w.heap.size + 1 + 1, 3, none⟩) (fun h => absurd h (by simp; omega)) (.int .i64 cc0)).drew
  replace HX := Lib.hid hX2; replace HR := Lib.hid hR2; replace HL := Lib.hid hL2; replace HC := Lib.hid hC2
  simp only [List.set_cons_zero, List.set_cons_succ] at HL
  clear cx1 cxk f0 f1 f2 f3 o0 o1 o2 o3 hwa hwb hwc hwd hl hx hX2 hR2 hL2 hC2
  generalize World.drew (World.setCell (World.setCell (World.setCell (World.setCell _ _ _) _ _) _ _) _ _) = ws0 at *
  refine (Size_any _ 0 bb0 1 cc0 (by decide)).mono ?_
  rintro e wz0 ⟨rfl, hx⟩
  replace HX := Lib.hid (hx.blk HX.out (by simp)); replace HR := Lib.hid (hx.blk HR.out (by simp)); replace HL := Lib.hid (hx.blk HL.out (by simp)); replace HC := Lib.hid (HC.out.trans hx)
  clear hx
  rw [size0 hck0]
  have hbn1 : 0 ≤ bb0 + (2 + cc0) ∧ bb0 + (2 + cc0) ≤ 60 := by omega
  obtain ⟨bb1, hbb1⟩ : ∃ b, b = bb0 + (2 + cc0) := ⟨_, rfl⟩
  go_wp2_with fail
  rw [← hbb1] at hbn1 ⊢
  have HE1 := Lib.hid hbb1
  clear hbb1
  rw [rounds_succ]
  have cx1 : wz0.cell? ⟨w.heap.size, 1, none⟩ = some (.int .u8 x1) := HX.out.cell 1
  have f0 : wz0.frozen? ⟨w.heap.size + 1 + 1, 4, none⟩ = false := HL.out.free 4
  have f1 : wz0.frozen? ⟨w.heap.size + 1 + 1, 5, none⟩ = false := HL.out.free 5
  have f2 : wz0.frozen? ⟨w.heap.size + 1 + 1, 6, none⟩ = false := HL.out.free 6
  have f3 : wz0.frozen? ⟨w.heap.size + 1 + 1, 7, none⟩ = false := HL.out.free 7
  have hl : w.heap.size + 1 + 1 < wz0.heap.size := HL.out.lt
  have hx : w.heap.size < wz0.heap.size := HX.out.lt
  have o0 : wz0.cell? ⟨w.heap.size + 1 + 1, 4, none⟩ = some (.int .i64 0) := HL.out.cell 4
  have o1 : wz0.cell? ⟨w.heap.size + 1 + 1, 5, none⟩ = some (.int .i64 0) := HL.out.cell 5
  have o2 : wz0.cell? ⟨w.heap.size + 1 + 1, 6, none⟩ = some (.int .i64 0) := HL.out.cell 6
  have o3 : wz0.cell? ⟨w.heap.size + 1 + 1, 7, none⟩ = some (.int .i64 0) := HL.out.cell 7
  have hwa : IntKind.i64.wrap x1 = x1 := IntWalk.i64_in _ (by omega)
  have hwb : Int.tmod x1 9 = x1 % 9 := Int.tmod_eq_emod_of_nonneg (by omega)
  obtain ⟨cc1, hcc1⟩ : ∃ c, 1 + x1 % 9 = c := ⟨_, rfl⟩
  have hck1 : 1 ≤ cc1 ∧ cc1 ≤ 9 := by omega
  have hwc : IntKind.i64.wrap (1 + x1 % 9) = cc1 := by rw [hcc1]; exact IntWalk.i64_in _ (by omega)
  have hwd : IntKind.i64.wrap 1 = 1 := IntWalk.i64_in _ (by omega)
  have HCC1 := Lib.hid hcc1; clear hcc1
  go_wp2_with fail
  go_still_tail 15, (by kernel_rfl)
  go_wp2_with fail
  have hX2 := (((((HX.out).other (a := ⟨w.heap.size + 1 + 1, 4, none⟩) (show w.heap.size + 1 + 1 ≠ w.heap.size by omega) (.int .i64 1)).other (a := ⟨w.heap.size + 1 + 1, 5, none⟩) (show w.heap.size + 1 + 1 ≠ w.heap.size by omega) (.int .i64 bb1)).other (a := ⟨w.heap.size + 1 + 1, 6, none⟩) (show w.heap.size + 1 + 1 ≠ w.heap.size by omega) (.int .i64 1)).other (a := ⟨w.heap.size + 1 + 1, 7, none⟩) (show w.heap.size + 1 + 1 ≠ w.heap.size by omega) (.int .i64 cc1)).drew
  have hR2 := (((((HR.out).other (a := ⟨w.heap.size + 1 + 1, 4, none⟩) (show w.heap.size + 1 + 1 ≠ w.heap.size + 1 by omega) (.int .i64 1)).other (a := ⟨w.heap.size + 1 + 1, 5, none⟩) (show w.heap.size + 1 + 1 ≠ w.heap.size + 1 by omega) (.int .i64 bb1)).other (a := ⟨w.heap.size + 1 + 1, 6, none⟩) (show w.heap.size + 1 + 1 ≠ w.heap.size + 1 by omega) (.int .i64 1)).other (a := ⟨w.heap.size + 1 + 1, 7, none⟩) (show w.heap.size + 1 + 1 ≠ w.heap.size + 1 by omega) (.int .i64 cc1)).drew
  have hL2 := (((((HL.out).set 4 (.int .i64 1)).set 5 (.int .i64 bb1)).set 6 (.int .i64 1)).set 7 (.int .i64 cc1)).drew
  have hC2 := (((((HC.out).setCell (p := ⟨w.heap.size + 1 + 1, 4, none⟩) (fun h => absurd h (by simp; omega)) (.int .i64 1)).setCell (p := ⟨w.heap.size + 1 + 1, 5, none⟩) (fun h => absurd h (by simp; omega)) (.int .i64 bb1)).setCell (p := ⟨w.heap.size + 1 + 1, 6, none⟩) (fun h => absurd h (by simp; omega)) (.int .i64 1)).setCell (p := ⟨w.heap.size + 1 + 1, 7, none⟩) (fun h => absurd h (by simp; omega)) (.int .i64 cc1)).drew
  replace HX := Lib.hid hX2; replace HR := Lib.hid hR2; replace HL := Lib.hid hL2; replace HC := Lib.hid hC2
  simp only [List.set_cons_zero, List.set_cons_succ] at HL
  clear cx1  f0 f1 f2 f3 o0 o1 o2 o3 hwa hwb hwc hwd hl hx hX2 hR2 hL2 hC2
  generalize World.drew (World.setCell (World.setCell (World.setCell (World.setCell _ _ _) _ _) _ _) _ _) = ws1 at *
  refine (Size_any _ 1 bb1 1 cc1 (by decide)).mono ?_
  rintro e wz1 ⟨rfl, hx⟩
  replace HX := Lib.hid (hx.blk HX.out (by simp)); replace HR := Lib.hid (hx.blk HR.out (by simp)); replace HL := Lib.hid (hx.blk HL.out (by simp)); replace HC := Lib.hid (HC.out.trans hx)
  clear hx
  rw [show sizeK 1 1 cc1 = 3 + 3 * cc1 from (size1 (by decide) hck1).trans (by omega)]
  have hbn2 : 0 ≤ bb1 + (3 + 3 * cc1) ∧ bb1 + (3 + 3 * cc1) ≤ 100 := by omega
  obtain ⟨bb2, hbb2⟩ : ∃ b, b = bb1 + (3 + 3 * cc1) := ⟨_, rfl⟩
  go_wp2_with fail
  rw [← hbb2] at hbn2 ⊢
  have HE2 := Lib.hid hbb2
  clear hbb2
  rw [rounds_succ]
  have cx1 : wz1.cell? ⟨w.heap.size, 1, none⟩ = some (.int .u8 x1) := HX.out.cell 1
  have cxk : wz1.cell? ⟨w.heap.size, 2, none⟩ = some (.int .u8 x2) := HX.out.cell 2
  have f0 : wz1.frozen? ⟨w.heap.size + 1 + 1, 8, none⟩ = false := HL.out.free 8
  have f1 : wz1.frozen? ⟨w.heap.size + 1 + 1, 9, none⟩ = false := HL.out.free 9
  have f2 : wz1.frozen? ⟨w.heap.size + 1 + 1, 10, none⟩ = false := HL.out.free 10
  have f3 : wz1.frozen? ⟨w.heap.size + 1 + 1, 11, none⟩ = false := HL.out.free 11
  have hl : w.heap.size + 1 + 1 < wz1.heap.size := HL.out.lt
  have hx : w.heap.size < wz1.heap.size := HX.out.lt
  have o0 : wz1.cell? ⟨w.heap.size + 1 + 1, 8, none⟩ = some (.int .i64 0) := HL.out.cell 8
  have o1 : wz1.cell? ⟨w.heap.size + 1 + 1, 9, none⟩ = some (.int .i64 0) := HL.out.cell 9
  have o2 : wz1.cell? ⟨w.heap.size + 1 + 1, 10, none⟩ = some (.int .i64 0) := HL.out.cell 10
  have o3 : wz1.cell? ⟨w.heap.size + 1 + 1, 11, none⟩ = some (.int .i64 0) := HL.out.cell 11
  have hwa : IntKind.i64.wrap x2 = x2 := IntWalk.i64_in _ (by omega)
  have hwb : Int.tmod x2 9 = x2 % 9 := Int.tmod_eq_emod_of_nonneg (by omega)
  obtain ⟨cc2, hcc2⟩ : ∃ c, 1 + x2 % 9 = c := ⟨_, rfl⟩
  have hck2 : 1 ≤ cc2 ∧ cc2 ≤ 9 := by omega
  have hwc : IntKind.i64.wrap (1 + x2 % 9) = cc2 := by rw [hcc2]; exact IntWalk.i64_in _ (by omega)
  have hwd : IntKind.i64.wrap 1 = 1 := IntWalk.i64_in _ (by omega)
  have HCC2 := Lib.hid hcc2; clear hcc2
  go_wp2_with fail
  go_still_tail 15, (by kernel_rfl)
  go_wp2_with fail
  have hX2 := (((((HX.out).other (a := ⟨w.heap.size + 1 + 1, 8, none⟩) (show w.heap.size + 1 + 1 ≠ w.heap.size by omega) (.int .i64 2)).other (a := ⟨w.heap.size + 1 + 1, 9, none⟩) (show w.heap.size + 1 + 1 ≠ w.heap.size by omega) (.int .i64 bb2)).other (a := ⟨w.heap.size + 1 + 1, 10, none⟩) (show w.heap.size + 1 + 1 ≠ w.heap.size by omega) (.int .i64 1)).other (a := ⟨w.heap.size + 1 + 1, 11, none⟩) (show w.heap.size + 1 + 1 ≠ w.heap.size by omega) (.int .i64 cc2)).drew
  have hR2 := (((((HR.out).other (a := ⟨w.heap.size + 1 + 1, 8, none⟩) (show w.heap.size + 1 + 1 ≠ w.heap.size + 1 by omega) (.int .i64 2)).other (a := ⟨w.heap.size + 1 + 1, 9, none⟩) (show w.heap.size + 1 + 1 ≠ w.heap.size + 1 by omega) (.int .i64 bb2)).other (a := ⟨w.heap.size + 1 + 1, 10, none⟩) (show w.heap.size + 1 + 1 ≠ w.heap.size + 1 by omega) (.int .i64 1)).other (a := ⟨w.heap.size + 1 + 1, 11, none⟩) (show w.heap.size + 1 + 1 ≠ w.heap.size + 1 by omega) (.int .i64 cc2)).drew
  have hL2 := (((((HL.out).set 8 (.int .i64 2)).set 9 (.int .i64 bb2)).set 10 (.int .i64 1)).set 11 (.int .i64 cc2)).drew
  have hC2 := (((((HC.out).setCell (p := ⟨w.heap.size + 1 + 1, 8, none⟩) (fun h => absurd h (by simp; omega)) (.int .i64 2)).setCell (p := ⟨w.heap.size + 1 + 1, 9, none⟩) (fun h => absurd h (by simp; omega)) (.int .i64 bb2)).setCell (p := ⟨w.heap.size + 1 + 1, 10, none⟩) (fun h => absurd h (by simp; omega)) (.int .i64 1)).setCell (p := ⟨w.heap.size + 1 + 1, 11, none⟩) (fun h => absurd h (by simp; omega)) (.int .i64 cc2)).drew
  replace HX := Lib.hid hX2; replace HR := Lib.hid hR2; replace HL := Lib.hid hL2; replace HC := Lib.hid hC2
  simp only [List.set_cons_zero, List.set_cons_succ] at HL
  clear cx1 cxk f0 f1 f2 f3 o0 o1 o2 o3 hwa hwb hwc hwd hl hx hX2 hR2 hL2 hC2
  generalize World.drew (World.setCell (World.setCell (World.setCell (World.setCell _ _ _) _ _) _ _) _ _) = ws2 at *
  refine (Size_any _ 2 bb2 1 cc2 (by decide)).mono ?_
  rintro e wz2 ⟨rfl, hx⟩
  replace HX := Lib.hid (hx.blk HX.out (by simp)); replace HR := Lib.hid (hx.blk HR.out (by simp)); replace HL := Lib.hid (hx.blk HL.out (by simp)); replace HC := Lib.hid (HC.out.trans hx)
  clear hx
  rw [size2 hck2]
  have hbn3 : 0 ≤ bb2 + (3 + 4 * cc2) ∧ bb2 + (3 + 4 * cc2) ≤ 150 := by omega
  go_wp2_with fail
  rw [rounds_succ]
  have l0 : wz2.cell? ⟨w.heap.size + 1 + 1, 0, none⟩ = some (.int .i64 0) := HL.out.cell 0
  have r0 : wz2.cell? ⟨w.heap.size + 1, 0, none⟩ = some (.int .i64 0) := HR.out.cell 0
  have f0 : wz2.frozen? ⟨w.heap.size + 1, 0, none⟩ = false := HR.out.free 0
  have l1 : wz2.cell? ⟨w.heap.size + 1 + 1, 1, none⟩ = some (.int .i64 bb0) := HL.out.cell 1
  have r1 : wz2.cell? ⟨w.heap.size + 1, 1, none⟩ = some (.int .i64 0) := HR.out.cell 1
  have f1 : wz2.frozen? ⟨w.heap.size + 1, 1, none⟩ = false := HR.out.free 1
  have l2 : wz2.cell? ⟨w.heap.size + 1 + 1, 2, none⟩ = some (.int .i64 1) := HL.out.cell 2
  have r2 : wz2.cell? ⟨w.heap.size + 1, 2, none⟩ = some (.int .i64 0) := HR.out.cell 2
  have f2 : wz2.frozen? ⟨w.heap.size + 1, 2, none⟩ = false := HR.out.free 2
  have l3 : wz2.cell? ⟨w.heap.size + 1 + 1, 3, none⟩ = some (.int .i64 cc0) := HL.out.cell 3
  have r3 : wz2.cell? ⟨w.heap.size + 1, 3, none⟩ = some (.int .i64 0) := HR.out.cell 3
  have f3 : wz2.frozen? ⟨w.heap.size + 1, 3, none⟩ = false := HR.out.free 3
  have l4 : wz2.cell? ⟨w.heap.size + 1 + 1, 4, none⟩ = some (.int .i64 1) := HL.out.cell 4
  have r4 : wz2.cell? ⟨w.heap.size + 1, 4, none⟩ = some (.int .i64 0) := HR.out.cell 4
  have f4 : wz2.frozen? ⟨w.heap.size + 1, 4, none⟩ = false := HR.out.free 4
  have l5 : wz2.cell? ⟨w.heap.size + 1 + 1, 5, none⟩ = some (.int .i64 bb1) := HL.out.cell 5
  have r5 : wz2.cell? ⟨w.heap.size + 1, 5, none⟩ = some (.int .i64 0) := HR.out.cell 5
  have f5 : wz2.frozen? ⟨w.heap.size + 1, 5, none⟩ = false := HR.out.free 5
  have l6 : wz2.cell? ⟨w.heap.size + 1 + 1, 6, none⟩ = some (.int .i64 1) := HL.out.cell 6
  have r6 : wz2.cell? ⟨w.heap.size + 1, 6, none⟩ = some (.int .i64 0) := HR.out.cell 6
  have f6 : wz2.frozen? ⟨w.heap.size + 1, 6, none⟩ = false := HR.out.free 6
  have l7 : wz2.cell? ⟨w.heap.size + 1 + 1, 7, none⟩ = some (.int .i64 cc1) := HL.out.cell 7
  have r7 : wz2.cell? ⟨w.heap.size + 1, 7, none⟩ = some (.int .i64 0) := HR.out.cell 7
  have f7 : wz2.frozen? ⟨w.heap.size + 1, 7, none⟩ = false := HR.out.free 7
  have l8 : wz2.cell? ⟨w.heap.size + 1 + 1, 8, none⟩ = some (.int .i64 2) := HL.out.cell 8
  have r8 : wz2.cell? ⟨w.heap.size + 1, 8, none⟩ = some (.int .i64 0) := HR.out.cell 8
  have f8 : wz2.frozen? ⟨w.heap.size + 1, 8, none⟩ = false := HR.out.free 8
  have l9 : wz2.cell? ⟨w.heap.size + 1 + 1, 9, none⟩ = some (.int .i64 bb2) := HL.out.cell 9
  have r9 : wz2.cell? ⟨w.heap.size + 1, 9, none⟩ = some (.int .i64 0) := HR.out.cell 9
  have f9 : wz2.frozen? ⟨w.heap.size + 1, 9, none⟩ = false := HR.out.free 9
  have l10 : wz2.cell? ⟨w.heap.size + 1 + 1, 10, none⟩ = some (.int .i64 1) := HL.out.cell 10
  have r10 : wz2.cell? ⟨w.heap.size + 1, 10, none⟩ = some (.int .i64 0) := HR.out.cell 10
  have f10 : wz2.frozen? ⟨w.heap.size + 1, 10, none⟩ = false := HR.out.free 10
  have l11 : wz2.cell? ⟨w.heap.size + 1 + 1, 11, none⟩ = some (.int .i64 cc2) := HL.out.cell 11
  have r11 : wz2.cell? ⟨w.heap.size + 1, 11, none⟩ = some (.int .i64 0) := HR.out.cell 11
  have f11 : wz2.frozen? ⟨w.heap.size + 1, 11, none⟩ = false := HR.out.free 11
  have hl : w.heap.size + 1 + 1 < wz2.heap.size := HL.out.lt
  go_wp2_with fail
  have hC2 := ((((((((((((HC.out).setCell (p := ⟨w.heap.size + 1, 0, none⟩) (fun h => absurd h (by simp)) (.int .i64 0)).setCell (p := ⟨w.heap.size + 1, 1, none⟩) (fun h => absurd h (by simp)) (.int .i64 bb0)).setCell (p := ⟨w.heap.size + 1, 2, none⟩) (fun h => absurd h (by simp)) (.int .i64 1)).setCell (p := ⟨w.heap.size + 1, 3, none⟩) (fun h => absurd h (by simp)) (.int .i64 cc0)).setCell (p := ⟨w.heap.size + 1, 4, none⟩) (fun h => absurd h (by simp)) (.int .i64 1)).setCell (p := ⟨w.heap.size + 1, 5, none⟩) (fun h => absurd h (by simp)) (.int .i64 bb1)).setCell (p := ⟨w.heap.size + 1, 6, none⟩) (fun h => absurd h (by simp)) (.int .i64 1)).setCell (p := ⟨w.heap.size + 1, 7, none⟩) (fun h => absurd h (by simp)) (.int .i64 cc1)).setCell (p := ⟨w.heap.size + 1, 8, none⟩) (fun h => absurd h (by simp)) (.int .i64 2)).setCell (p := ⟨w.heap.size + 1, 9, none⟩) (fun h => absurd h (by simp)) (.int .i64 bb2)).setCell (p := ⟨w.heap.size + 1, 10, none⟩) (fun h => absurd h (by simp)) (.int .i64 1)).setCell (p := ⟨w.heap.size + 1, 11, none⟩) (fun h => absurd h (by simp)) (.int .i64 cc2)
  have hR2 := ((((((((((((HR.out).set 0 (.int .i64 0)).set 1 (.int .i64 bb0)).set 2 (.int .i64 1)).set 3 (.int .i64 cc0)).set 4 (.int .i64 1)).set 5 (.int .i64 bb1)).set 6 (.int .i64 1)).set 7 (.int .i64 cc1)).set 8 (.int .i64 2)).set 9 (.int .i64 bb2)).set 10 (.int .i64 1)).set 11 (.int .i64 cc2)
  simp only [List.set_cons_zero, List.set_cons_succ] at hR2
  have HC2 := Lib.hid hC2; have HR2 := Lib.hid hR2
  clear hC2 hR2 l0 r0 f0 l1 r1 f1 l2 r2 f2 l3 r3 f3 l4 r4 f4 l5 r5 f5 l6 r6 f6 l7 r7 f7 l8 r8 f8 l9 r9 f9 l10 r10 f10 l11 r11 f11
  refine bodyPost_ret (v := .agg #[.int .i64 0, .int .i64 bb0, .int .i64 1, .int .i64 cc0, .int .i64 1, .int .i64 bb1, .int .i64 1, .int .i64 cc1, .int .i64 2, .int .i64 bb2, .int .i64 1, .int .i64 cc2]) ?_ rfl ⟨bb0, bb1, bb2, 1, cc0, cc1, cc2, ⟨hb0.elim fun a b => ⟨a, b⟩, by decide, hck0, hck1, hck2, HE1.out, HE2.out.trans (by omega)⟩, rfl, HC2.out⟩
  have r0 := HR2.out.cell 0
  have r1 := HR2.out.cell 1
  have r2 := HR2.out.cell 2
  have r3 := HR2.out.cell 3
  have r4 := HR2.out.cell 4
  have r5 := HR2.out.cell 5
  have r6 := HR2.out.cell 6
  have r7 := HR2.out.cell 7
  have r8 := HR2.out.cell 8
  have r9 := HR2.out.cell 9
  have r10 := HR2.out.cell 10
  have r11 := HR2.out.cell 11
  simp only [List.getElem?_cons_zero, List.getElem?_cons_succ] at r0 r1 r2 r3 r4 r5 r6 r7 r8 r9 r10 r11
  simp [results, Try.results21, go_sem, r0, r1, r2, r3, r4, r5, r6, r7, r8, r9, r10, r11]

set_option maxHeartbeats 4000000 in
theorem trio_1 (w : World) (x0 x1 x2 : Int) (g0 : 0 ≤ x0 ∧ x0 ≤ 255) (g1 : 0 ≤ x1 ∧ x1 ≤ 255) (g2 : 0 ≤ x2 ∧ x2 ≤ 255) (hs : bits BinOp.and IntKind.u8 x1 3 = 1) :
    Calls Try.prog 21 #[.agg #[.int .u8 x0, .int .u8 x1, .int .u8 x2]] w fun e w' => ∃ b0 b1 b2 bk c0 c1 c2 : Int, Three b0 b1 b2 bk c0 c1 c2 ∧ e = .returned (.agg #[.int .i64 0, .int .i64 b0, .int .i64 bk, .int .i64 c0, .int .i64 1, .int .i64 b1, .int .i64 bk, .int .i64 c1, .int .i64 2, .int .i64 b2, .int .i64 bk, .int .i64 c2]) ∧ Chg [] w w' := by
  go_enter Try.func21, Try.ntmps21
  go_wp2_with fail
  refine wp_loop_rounds 4 ?_
  have hX := ((Blk.new w [.int .u8 x0, .int .u8 x1, .int .u8 x2] 45).alloc (.cells #[.int .i64 0, .int .i64 0, .int .i64 0, .int .i64 0, .int .i64 0, .int .i64 0, .int .i64 0, .int .i64 0, .int .i64 0, .int .i64 0, .int .i64 0, .int .i64 0] 48)).alloc (.cells #[.int .i64 0, .int .i64 0, .int .i64 0, .int .i64 0, .int .i64 0, .int .i64 0, .int .i64 0, .int .i64 0, .int .i64 0, .int .i64 0, .int .i64 0, .int .i64 0] 48)
  have hR := (Blk.new (w.alloc (.cells #[.int .u8 x0, .int .u8 x1, .int .u8 x2] 45)) [.int .i64 0, .int .i64 0, .int .i64 0, .int .i64 0, .int .i64 0, .int .i64 0, .int .i64 0, .int .i64 0, .int .i64 0, .int .i64 0, .int .i64 0, .int .i64 0] 48).alloc (.cells #[.int .i64 0, .int .i64 0, .int .i64 0, .int .i64 0, .int .i64 0, .int .i64 0, .int .i64 0, .int .i64 0, .int .i64 0, .int .i64 0, .int .i64 0, .int .i64 0] 48)
  have hL := Blk.new ((w.alloc (.cells #[.int .u8 x0, .int .u8 x1, .int .u8 x2] 45)).alloc (.cells #[.int .i64 0, .int .i64 0, .int .i64 0, .int .i64 0, .int .i64 0, .int .i64 0, .int .i64 0, .int .i64 0, .int .i64 0, .int .i64 0, .int .i64 0, .int .i64 0] 48)) [.int .i64 0, .int .i64 0, .int .i64 0, .int .i64 0, .int .i64 0, .int .i64 0, .int .i64 0, .int .i64 0, .int .i64 0, .int .i64 0, .int .i64 0, .int .i64 0] 48
  simp only [World.size_alloc] at hR hL
  have hC := (((Chg.refl [] w).alloc (.cells #[.int .u8 x0, .int .u8 x1, .int .u8 x2] 45)).alloc (.cells #[.int .i64 0, .int .i64 0, .int .i64 0, .int .i64 0, .int .i64 0, .int .i64 0, .int .i64 0, .int .i64 0, .int .i64 0, .int .i64 0, .int .i64 0, .int .i64 0] 48)).alloc (.cells #[.int .i64 0, .int .i64 0, .int .i64 0, .int .i64 0, .int .i64 0, .int .i64 0, .int .i64 0, .int .i64 0, .int .i64 0, .int .i64 0, .int .i64 0, .int .i64 0] 48)
  have HX := Lib.hid hX; have HR := Lib.hid hR; have HL := Lib.hid hL; have HC := Lib.hid hC
  clear hX hR hL hC
  generalize World.alloc (World.alloc (World.alloc _ _) _) _ = wa at *
  have hb0 : 0 ≤ x0 % 50 ∧ x0 % 50 ≤ 49 := by omega
  generalize x0 % 50 = bb0 at *
  rw [rounds_succ]
  have cx1 : wa.cell? ⟨w.heap.size, 1, none⟩ = some (.int .u8 x1) := HX.out.cell 1
  have cxk : wa.cell? ⟨w.heap.size, 0, none⟩ = some (.int .u8 x0) := HX.out.cell 0
  have f0 : wa.frozen? ⟨w.heap.size + 1 + 1, 0, none⟩ = false := HL.out.free 0
  have f1 : wa.frozen? ⟨w.heap.size + 1 + 1, 1, none⟩ = false := HL.out.free 1
  have f2 : wa.frozen? ⟨w.heap.size + 1 + 1, 2, none⟩ = false := HL.out.free 2
  have f3 : wa.frozen? ⟨w.heap.size + 1 + 1, 3, none⟩ = false := HL.out.free 3
  have hl : w.heap.size + 1 + 1 < wa.heap.size := HL.out.lt
  have hx : w.heap.size < wa.heap.size := HX.out.lt
  have o0 : wa.cell? ⟨w.heap.size + 1 + 1, 0, none⟩ = some (.int .i64 0) := HL.out.cell 0
  have o1 : wa.cell? ⟨w.heap.size + 1 + 1, 1, none⟩ = some (.int .i64 0) := HL.out.cell 1
  have o2 : wa.cell? ⟨w.heap.size + 1 + 1, 2, none⟩ = some (.int .i64 0) := HL.out.cell 2
  have o3 : wa.cell? ⟨w.heap.size + 1 + 1, 3, none⟩ = some (.int .i64 0) := HL.out.cell 3
  have hwa : IntKind.i64.wrap x0 = x0 := IntWalk.i64_in _ (by omega)
  have hwb : Int.tmod x0 9 = x0 % 9 := Int.tmod_eq_emod_of_nonneg (by omega)
  obtain ⟨cc0, hcc0⟩ : ∃ c, 1 + x0 % 9 = c := ⟨_, rfl⟩
  have hck0 : 1 ≤ cc0 ∧ cc0 ≤ 9 := by omega
  have hwc : IntKind.i64.wrap (1 + x0 % 9) = cc0 := by rw [hcc0]; exact IntWalk.i64_in _ (by omega)
  have hwd : IntKind.i64.wrap 2 = 2 := IntWalk.i64_in _ (by omega)
  have HCC0 := Lib.hid hcc0; clear hcc0
  go_wp2_with fail
  go_still_tail 15, (by kernel_rfl)
  go_wp2_with fail
  have hX2 := (((((HX.out).other (a := ⟨w.heap.size + 1 + 1, 0, none⟩) (show w.heap.size + 1 + 1 ≠ w.heap.size by omega) (.int .i64 0)).other (a := ⟨w.heap.size + 1 + 1, 1, none⟩) (show w.heap.size + 1 + 1 ≠ w.heap.size by omega) (.int .i64 bb0)).other (a := ⟨w.heap.size + 1 + 1, 2, none⟩) (show w.heap.size + 1 + 1 ≠ w.heap.size by omega) (.int .i64 2)).other (a := ⟨w.heap.size + 1 + 1, 3, none⟩) (show w.heap.size + 1 + 1 ≠ w.heap.size by omega) (.int .i64 cc0)).drew
  have hR2 := (((((HR.out).other (a := ⟨w.heap.size + 1 + 1, 0, none⟩) (show w.heap.size + 1 + 1 ≠ w.heap.size + 1 by omega) (.int .i64 0)).other (a := ⟨w.heap.size + 1 + 1, 1, none⟩) (show w.heap.size + 1 + 1 ≠ w.heap.size + 1 by omega) (.int .i64 bb0)).other (a := ⟨w.heap.size + 1 + 1, 2, none⟩) (show w.heap.size + 1 + 1 ≠ w.heap.size + 1 by omega) (.int .i64 2)).other (a := ⟨w.heap.size + 1 + 1, 3, none⟩) (show w.heap.size + 1 + 1 ≠ w.heap.size + 1 by omega) (.int .i64 cc0)).drew
  have hL2 := (((((HL.out).set 0 (.int .i64 0)).set 1 (.int .i64 bb0)).set 2 (.int .i64 2)).set 3 (.int .i64 cc0)).drew
  have hC2 := (((((HC.out).setCell (p := ⟨w.heap.size + 1 + 1, 0, none⟩) (fun h => absurd h (by simp; omega)) (.int .i64 0)).setCell (p := ⟨w.heap.size + 1 + 1, 1, none⟩) (fun h => absurd h (by simp; omega)) (.int .i64 bb0)).setCell (p := ⟨w.heap.size + 1 + 1, 2, none⟩) (fun h => absurd h (by simp; omega)) (.int .i64 2)).setCell (p := ⟨w.heap.size + 1 + 1, 3, none⟩) (fun h => absurd h (by simp; omega)) (.int .i64 cc0)).drew
  replace HX := Lib.hid hX2; replace HR := Lib.hid hR2; replace HL := Lib.hid hL2; replace HC := Lib.hid hC2
  simp only [List.set_cons_zero, List.set_cons_succ] at HL
  clear cx1 cxk f0 f1 f2 f3 o0 o1 o2 o3 hwa hwb hwc hwd hl hx hX2 hR2 hL2 hC2
  generalize World.drew (World.setCell (World.setCell (World.setCell (World.setCell _ _ _) _ _) _ _) _ _) = ws0 at *
  refine (Size_any _ 0 bb0 2 cc0 (by decide)).mono ?_
  rintro e wz0 ⟨rfl, hx⟩
  replace HX := Lib.hid (hx.blk HX.out (by simp)); replace HR := Lib.hid (hx.blk HR.out (by simp)); replace HL := Lib.hid (hx.blk HL.out (by simp)); replace HC := Lib.hid (HC.out.trans hx)
  clear hx
  rw [size0 hck0]
  have hbn1 : 0 ≤ bb0 + (2 + cc0) ∧ bb0 + (2 + cc0) ≤ 60 := by omega
  obtain ⟨bb1, hbb1⟩ : ∃ b, b = bb0 + (2 + cc0) := ⟨_, rfl⟩
  go_wp2_with fail
  rw [← hbb1] at hbn1 ⊢
  have HE1 := Lib.hid hbb1
  clear hbb1
  rw [rounds_succ]
  have cx1 : wz0.cell? ⟨w.heap.size, 1, none⟩ = some (.int .u8 x1) := HX.out.cell 1
  have f0 : wz0.frozen? ⟨w.heap.size + 1 + 1, 4, none⟩ = false := HL.out.free 4
  have f1 : wz0.frozen? ⟨w.heap.size + 1 + 1, 5, none⟩ = false := HL.out.free 5
  have f2 : wz0.frozen? ⟨w.heap.size + 1 + 1, 6, none⟩ = false := HL.out.free 6
  have f3 : wz0.frozen? ⟨w.heap.size + 1 + 1, 7, none⟩ = false := HL.out.free 7
  have hl : w.heap.size + 1 + 1 < wz0.heap.size := HL.out.lt
  have hx : w.heap.size < wz0.heap.size := HX.out.lt
  have o0 : wz0.cell? ⟨w.heap.size + 1 + 1, 4, none⟩ = some (.int .i64 0) := HL.out.cell 4
  have o1 : wz0.cell? ⟨w.heap.size + 1 + 1, 5, none⟩ = some (.int .i64 0) := HL.out.cell 5
  have o2 : wz0.cell? ⟨w.heap.size + 1 + 1, 6, none⟩ = some (.int .i64 0) := HL.out.cell 6
  have o3 : wz0.cell? ⟨w.heap.size + 1 + 1, 7, none⟩ = some (.int .i64 0) := HL.out.cell 7
  have hwa : IntKind.i64.wrap x1 = x1 := IntWalk.i64_in _ (by omega)
  have hwb : Int.tmod x1 9 = x1 % 9 := Int.tmod_eq_emod_of_nonneg (by omega)
  obtain ⟨cc1, hcc1⟩ : ∃ c, 1 + x1 % 9 = c := ⟨_, rfl⟩
  have hck1 : 1 ≤ cc1 ∧ cc1 ≤ 9 := by omega
  have hwc : IntKind.i64.wrap (1 + x1 % 9) = cc1 := by rw [hcc1]; exact IntWalk.i64_in _ (by omega)
  have hwd : IntKind.i64.wrap 2 = 2 := IntWalk.i64_in _ (by omega)
  have HCC1 := Lib.hid hcc1; clear hcc1
  go_wp2_with fail
  go_still_tail 15, (by kernel_rfl)
  go_wp2_with fail
  have hX2 := (((((HX.out).other (a := ⟨w.heap.size + 1 + 1, 4, none⟩) (show w.heap.size + 1 + 1 ≠ w.heap.size by omega) (.int .i64 1)).other (a := ⟨w.heap.size + 1 + 1, 5, none⟩) (show w.heap.size + 1 + 1 ≠ w.heap.size by omega) (.int .i64 bb1)).other (a := ⟨w.heap.size + 1 + 1, 6, none⟩) (show w.heap.size + 1 + 1 ≠ w.heap.size by omega) (.int .i64 2)).other (a := ⟨w.heap.size + 1 + 1, 7, none⟩) (show w.heap.size + 1 + 1 ≠ w.heap.size by omega) (.int .i64 cc1)).drew
  have hR2 := (((((HR.out).other (a := ⟨w.heap.size + 1 + 1, 4, none⟩) (show w.heap.size + 1 + 1 ≠ w.heap.size + 1 by omega) (.int .i64 1)).other (a := ⟨w.heap.size + 1 + 1, 5, none⟩) (show w.heap.size + 1 + 1 ≠ w.heap.size + 1 by omega) (.int .i64 bb1)).other (a := ⟨w.heap.size + 1 + 1, 6, none⟩) (show w.heap.size + 1 + 1 ≠ w.heap.size + 1 by omega) (.int .i64 2)).other (a := ⟨w.heap.size + 1 + 1, 7, none⟩) (show w.heap.size + 1 + 1 ≠ w.heap.size + 1 by omega) (.int .i64 cc1)).drew
  have hL2 := (((((HL.out).set 4 (.int .i64 1)).set 5 (.int .i64 bb1)).set 6 (.int .i64 2)).set 7 (.int .i64 cc1)).drew
  have hC2 := (((((HC.out).setCell (p := ⟨w.heap.size + 1 + 1, 4, none⟩) (fun h => absurd h (by simp; omega)) (.int .i64 1)).setCell (p := ⟨w.heap.size + 1 + 1, 5, none⟩) (fun h => absurd h (by simp; omega)) (.int .i64 bb1)).setCell (p := ⟨w.heap.size + 1 + 1, 6, none⟩) (fun h => absurd h (by simp; omega)) (.int .i64 2)).setCell (p := ⟨w.heap.size + 1 + 1, 7, none⟩) (fun h => absurd h (by simp; omega)) (.int .i64 cc1)).drew
  replace HX := Lib.hid hX2; replace HR := Lib.hid hR2; replace HL := Lib.hid hL2; replace HC := Lib.hid hC2
  simp only [List.set_cons_zero, List.set_cons_succ] at HL
  clear cx1  f0 f1 f2 f3 o0 o1 o2 o3 hwa hwb hwc hwd hl hx hX2 hR2 hL2 hC2
  generalize World.drew (World.setCell (World.setCell (World.setCell (World.setCell _ _ _) _ _) _ _) _ _) = ws1 at *
  refine (Size_any _ 1 bb1 2 cc1 (by decide)).mono ?_
  rintro e wz1 ⟨rfl, hx⟩
  replace HX := Lib.hid (hx.blk HX.out (by simp)); replace HR := Lib.hid (hx.blk HR.out (by simp)); replace HL := Lib.hid (hx.blk HL.out (by simp)); replace HC := Lib.hid (HC.out.trans hx)
  clear hx
  rw [show sizeK 1 2 cc1 = 4 + 3 * cc1 from (size1 (by decide) hck1).trans (by omega)]
  have hbn2 : 0 ≤ bb1 + (4 + 3 * cc1) ∧ bb1 + (4 + 3 * cc1) ≤ 100 := by omega
  obtain ⟨bb2, hbb2⟩ : ∃ b, b = bb1 + (4 + 3 * cc1) := ⟨_, rfl⟩
  go_wp2_with fail
  rw [← hbb2] at hbn2 ⊢
  have HE2 := Lib.hid hbb2
  clear hbb2
  rw [rounds_succ]
  have cx1 : wz1.cell? ⟨w.heap.size, 1, none⟩ = some (.int .u8 x1) := HX.out.cell 1
  have cxk : wz1.cell? ⟨w.heap.size, 2, none⟩ = some (.int .u8 x2) := HX.out.cell 2
  have f0 : wz1.frozen? ⟨w.heap.size + 1 + 1, 8, none⟩ = false := HL.out.free 8
  have f1 : wz1.frozen? ⟨w.heap.size + 1 + 1, 9, none⟩ = false := HL.out.free 9
  have f2 : wz1.frozen? ⟨w.heap.size + 1 + 1, 10, none⟩ = false := HL.out.free 10
  have f3 : wz1.frozen? ⟨w.heap.size + 1 + 1, 11, none⟩ = false := HL.out.free 11
  have hl : w.heap.size + 1 + 1 < wz1.heap.size := HL.out.lt
  have hx : w.heap.size < wz1.heap.size := HX.out.lt
  have o0 : wz1.cell? ⟨w.heap.size + 1 + 1, 8, none⟩ = some (.int .i64 0) := HL.out.cell 8
  have o1 : wz1.cell? ⟨w.heap.size + 1 + 1, 9, none⟩ = some (.int .i64 0) := HL.out.cell 9
  have o2 : wz1.cell? ⟨w.heap.size + 1 + 1, 10, none⟩ = some (.int .i64 0) := HL.out.cell 10
  have o3 : wz1.cell? ⟨w.heap.size + 1 + 1, 11, none⟩ = some (.int .i64 0) := HL.out.cell 11
  have hwa : IntKind.i64.wrap x2 = x2 := IntWalk.i64_in _ (by omega)
  have hwb : Int.tmod x2 9 = x2 % 9 := Int.tmod_eq_emod_of_nonneg (by omega)
  obtain ⟨cc2, hcc2⟩ : ∃ c, 1 + x2 % 9 = c := ⟨_, rfl⟩
  have hck2 : 1 ≤ cc2 ∧ cc2 ≤ 9 := by omega
  have hwc : IntKind.i64.wrap (1 + x2 % 9) = cc2 := by rw [hcc2]; exact IntWalk.i64_in _ (by omega)
  have hwd : IntKind.i64.wrap 2 = 2 := IntWalk.i64_in _ (by omega)
  have HCC2 := Lib.hid hcc2; clear hcc2
  go_wp2_with fail
  go_still_tail 15, (by kernel_rfl)
  go_wp2_with fail
  have hX2 := (((((HX.out).other (a := ⟨w.heap.size + 1 + 1, 8, none⟩) (show w.heap.size + 1 + 1 ≠ w.heap.size by omega) (.int .i64 2)).other (a := ⟨w.heap.size + 1 + 1, 9, none⟩) (show w.heap.size + 1 + 1 ≠ w.heap.size by omega) (.int .i64 bb2)).other (a := ⟨w.heap.size + 1 + 1, 10, none⟩) (show w.heap.size + 1 + 1 ≠ w.heap.size by omega) (.int .i64 2)).other (a := ⟨w.heap.size + 1 + 1, 11, none⟩) (show w.heap.size + 1 + 1 ≠ w.heap.size by omega) (.int .i64 cc2)).drew
  have hR2 := (((((HR.out).other (a := ⟨w.heap.size + 1 + 1, 8, none⟩) (show w.heap.size + 1 + 1 ≠ w.heap.size + 1 by omega) (.int .i64 2)).other (a := ⟨w.heap.size + 1 + 1, 9, none⟩) (show w.heap.size + 1 + 1 ≠ w.heap.size + 1 by omega) (.int .i64 bb2)).other (a := ⟨w.heap.size + 1 + 1, 10, none⟩) (show w.heap.size + 1 + 1 ≠ w.heap.size + 1 by omega) (.int .i64 2)).other (a := ⟨w.heap.size + 1 + 1, 11, none⟩) (show w.heap.size + 1 + 1 ≠ w.heap.size + 1 by omega) (.int .i64 cc2)).drew
  have hL2 := (((((HL.out).set 8 (.int .i64 2)).set 9 (.int .i64 bb2)).set 10 (.int .i64 2)).set 11 (.int .i64 cc2)).drew
  have hC2 := (((((HC.out).setCell (p := ⟨w.heap.size + 1 + 1, 8, none⟩) (fun h => absurd h (by simp; omega)) (.int .i64 2)).setCell (p := ⟨w.heap.size + 1 + 1, 9, none⟩) (fun h => absurd h (by simp; omega)) (.int .i64 bb2)).setCell (p := ⟨w.heap.size + 1 + 1, 10, none⟩) (fun h => absurd h (by simp; omega)) (.int .i64 2)).setCell (p := ⟨w.heap.size + 1 + 1, 11, none⟩) (fun h => absurd h (by simp; omega)) (.int .i64 cc2)).drew
  replace HX := Lib.hid hX2; replace HR := Lib.hid hR2; replace HL := Lib.hid hL2; replace HC := Lib.hid hC2
  simp only [List.set_cons_zero, List.set_cons_succ] at HL
  clear cx1 cxk f0 f1 f2 f3 o0 o1 o2 o3 hwa hwb hwc hwd hl hx hX2 hR2 hL2 hC2
  generalize World.drew (World.setCell (World.setCell (World.setCell (World.setCell _ _ _) _ _) _ _) _ _) = ws2 at *
  refine (Size_any _ 2 bb2 2 cc2 (by decide)).mono ?_
  rintro e wz2 ⟨rfl, hx⟩
  replace HX := Lib.hid (hx.blk HX.out (by simp)); replace HR := Lib.hid (hx.blk HR.out (by simp)); replace HL := Lib.hid (hx.blk HL.out (by simp)); replace HC := Lib.hid (HC.out.trans hx)
  clear hx
  rw [size2 hck2]
  have hbn3 : 0 ≤ bb2 + (3 + 4 * cc2) ∧ bb2 + (3 + 4 * cc2) ≤ 150 := by omega
  go_wp2_with fail
  rw [rounds_succ]
  have l0 : wz2.cell? ⟨w.heap.size + 1 + 1, 0, none⟩ = some (.int .i64 0) := HL.out.cell 0
  have r0 : wz2.cell? ⟨w.heap.size + 1, 0, none⟩ = some (.int .i64 0) := HR.out.cell 0
  have f0 : wz2.frozen? ⟨w.heap.size + 1, 0, none⟩ = false := HR.out.free 0
  have l1 : wz2.cell? ⟨w.heap.size + 1 + 1, 1, none⟩ = some (.int .i64 bb0) := HL.out.cell 1
  have r1 : wz2.cell? ⟨w.heap.size + 1, 1, none⟩ = some (.int .i64 0) := HR.out.cell 1
  have f1 : wz2.frozen? ⟨w.heap.size + 1, 1, none⟩ = false := HR.out.free 1
  have l2 : wz2.cell? ⟨w.heap.size + 1 + 1, 2, none⟩ = some (.int .i64 2) := HL.out.cell 2
  have r2 : wz2.cell? ⟨w.heap.size + 1, 2, none⟩ = some (.int .i64 0) := HR.out.cell 2
  have f2 : wz2.frozen? ⟨w.heap.size + 1, 2, none⟩ = false := HR.out.free 2
  have l3 : wz2.cell? ⟨w.heap.size + 1 + 1, 3, none⟩ = some (.int .i64 cc0) := HL.out.cell 3
  have r3 : wz2.cell? ⟨w.heap.size + 1, 3, none⟩ = some (.int .i64 0) := HR.out.cell 3
  have f3 : wz2.frozen? ⟨w.heap.size + 1, 3, none⟩ = false := HR.out.free 3
  have l4 : wz2.cell? ⟨w.heap.size + 1 + 1, 4, none⟩ = some (.int .i64 1) := HL.out.cell 4
  have r4 : wz2.cell? ⟨w.heap.size + 1, 4, none⟩ = some (.int .i64 0) := HR.out.cell 4
  have f4 : wz2.frozen? ⟨w.heap.size + 1, 4, none⟩ = false := HR.out.free 4
  have l5 : wz2.cell? ⟨w.heap.size + 1 + 1, 5, none⟩ = some (.int .i64 bb1) := HL.out.cell 5
  have r5 : wz2.cell? ⟨w.heap.size + 1, 5, none⟩ = some (.int .i64 0) := HR.out.cell 5
  have f5 : wz2.frozen? ⟨w.heap.size + 1, 5, none⟩ = false := HR.out.free 5
  have l6 : wz2.cell? ⟨w.heap.size + 1 + 1, 6, none⟩ = some (.int .i64 2) := HL.out.cell 6
  have r6 : wz2.cell? ⟨w.heap.size + 1, 6, none⟩ = some (.int .i64 0) := HR.out.cell 6
  have f6 : wz2.frozen? ⟨w.heap.size + 1, 6, none⟩ = false := HR.out.free 6
  have l7 : wz2.cell? ⟨w.heap.size + 1 + 1, 7, none⟩ = some (.int .i64 cc1) := HL.out.cell 7
  have r7 : wz2.cell? ⟨w.heap.size + 1, 7, none⟩ = some (.int .i64 0) := HR.out.cell 7
  have f7 : wz2.frozen? ⟨w.heap.size + 1, 7, none⟩ = false := HR.out.free 7
  have l8 : wz2.cell? ⟨w.heap.size + 1 + 1, 8, none⟩ = some (.int .i64 2) := HL.out.cell 8
  have r8 : wz2.cell? ⟨w.heap.size + 1, 8, none⟩ = some (.int .i64 0) := HR.out.cell 8
  have f8 : wz2.frozen? ⟨w.heap.size + 1, 8, none⟩ = false := HR.out.free 8
  have l9 : wz2.cell? ⟨w.heap.size + 1 + 1, 9, none⟩ = some (.int .i64 bb2) := HL.out.cell 9
  have r9 : wz2.cell? ⟨w.heap.size + 1, 9, none⟩ = some (.int .i64 0) := HR.out.cell 9
  have f9 : wz2.frozen? ⟨w.heap.size + 1, 9, none⟩ = false := HR.out.free 9
  have l10 : wz2.cell? ⟨w.heap.size + 1 + 1, 10, none⟩ = some (.int .i64 2) := HL.out.cell 10
  have r10 : wz2.cell? ⟨w.heap.size + 1, 10, none⟩ = some (.int .i64 0) := HR.out.cell 10
  have f10 : wz2.frozen? ⟨w.heap.size + 1, 10, none⟩ = false := HR.out.free 10
  have l11 : wz2.cell? ⟨w.heap.size + 1 + 1, 11, none⟩ = some (.int .i64 cc2) := HL.out.cell 11
  have r11 : wz2.cell? ⟨w.heap.size + 1, 11, none⟩ = some (.int .i64 0) := HR.out.cell 11
  have f11 : wz2.frozen? ⟨w.heap.size + 1, 11, none⟩ = false := HR.out.free 11
  have hl : w.heap.size + 1 + 1 < wz2.heap.size := HL.out.lt
  go_wp2_with fail
  have hC2 := ((((((((((((HC.out).setCell (p := ⟨w.heap.size + 1, 0, none⟩) (fun h => absurd h (by simp)) (.int .i64 0)).setCell (p := ⟨w.heap.size + 1, 1, none⟩) (fun h => absurd h (by simp)) (.int .i64 bb0)).setCell (p := ⟨w.heap.size + 1, 2, none⟩) (fun h => absurd h (by simp)) (.int .i64 2)).setCell (p := ⟨w.heap.size + 1, 3, none⟩) (fun h => absurd h (by simp)) (.int .i64 cc0)).setCell (p := ⟨w.heap.size + 1, 4, none⟩) (fun h => absurd h (by simp)) (.int .i64 1)).setCell (p := ⟨w.heap.size + 1, 5, none⟩) (fun h => absurd h (by simp)) (.int .i64 bb1)).setCell (p := ⟨w.heap.size + 1, 6, none⟩) (fun h => absurd h (by simp)) (.int .i64 2)).setCell (p := ⟨w.heap.size + 1, 7, none⟩) (fun h => absurd h (by simp)) (.int .i64 cc1)).setCell (p := ⟨w.heap.size + 1, 8, none⟩) (fun h => absurd h (by simp)) (.int .i64 2)).setCell (p := ⟨w.heap.size + 1, 9, none⟩) (fun h => absurd h (by simp)) (.int .i64 bb2)).setCell (p := ⟨w.heap.size + 1, 10, none⟩) (fun h => absurd h (by simp)) (.int .i64 2)).setCell (p := ⟨w.heap.size + 1, 11, none⟩) (fun h => absurd h (by simp)) (.int .i64 cc2)
  have hR2 := ((((((((((((HR.out).set 0 (.int .i64 0)).set 1 (.int .i64 bb0)).set 2 (.int .i64 2)).set 3 (.int .i64 cc0)).set 4 (.int .i64 1)).set 5 (.int .i64 bb1)).set 6 (.int .i64 2)).set 7 (.int .i64 cc1)).set 8 (.int .i64 2)).set 9 (.int .i64 bb2)).set 10 (.int .i64 2)).set 11 (.int .i64 cc2)
  simp only [List.set_cons_zero, List.set_cons_succ] at hR2
  have HC2 := Lib.hid hC2; have HR2 := Lib.hid hR2
  clear hC2 hR2 l0 r0 f0 l1 r1 f1 l2 r2 f2 l3 r3 f3 l4 r4 f4 l5 r5 f5 l6 r6 f6 l7 r7 f7 l8 r8 f8 l9 r9 f9 l10 r10 f10 l11 r11 f11
  refine bodyPost_ret (v := .agg #[.int .i64 0, .int .i64 bb0, .int .i64 2, .int .i64 cc0, .int .i64 1, .int .i64 bb1, .int .i64 2, .int .i64 cc1, .int .i64 2, .int .i64 bb2, .int .i64 2, .int .i64 cc2]) ?_ rfl ⟨bb0, bb1, bb2, 2, cc0, cc1, cc2, ⟨hb0.elim fun a b => ⟨a, b⟩, by decide, hck0, hck1, hck2, HE1.out, HE2.out.trans (by omega)⟩, rfl, HC2.out⟩
  have r0 := HR2.out.cell 0
  have r1 := HR2.out.cell 1
  have r2 := HR2.out.cell 2
  have r3 := HR2.out.cell 3
  have r4 := HR2.out.cell 4
  have r5 := HR2.out.cell 5
  have r6 := HR2.out.cell 6
  have r7 := HR2.out.cell 7
  have r8 := HR2.out.cell 8
  have r9 := HR2.out.cell 9
  have r10 := HR2.out.cell 10
  have r11 := HR2.out.cell 11
  simp only [List.getElem?_cons_zero, List.getElem?_cons_succ] at r0 r1 r2 r3 r4 r5 r6 r7 r8 r9 r10 r11
  simp [results, Try.results21, go_sem, r0, r1, r2, r3, r4, r5, r6, r7, r8, r9, r10, r11]

set_option maxHeartbeats 4000000 in
theorem trio_2 (w : World) (x0 x1 x2 : Int) (g0 : 0 ≤ x0 ∧ x0 ≤ 255) (g1 : 0 ≤ x1 ∧ x1 ≤ 255) (g2 : 0 ≤ x2 ∧ x2 ≤ 255) (hs : bits BinOp.and IntKind.u8 x1 3 = 2) :
    Calls Try.prog 21 #[.agg #[.int .u8 x0, .int .u8 x1, .int .u8 x2]] w fun e w' => ∃ b0 b1 b2 bk c0 c1 c2 : Int, Three b0 b1 b2 bk c0 c1 c2 ∧ e = .returned (.agg #[.int .i64 0, .int .i64 b0, .int .i64 bk, .int .i64 c0, .int .i64 1, .int .i64 b1, .int .i64 bk, .int .i64 c1, .int .i64 2, .int .i64 b2, .int .i64 bk, .int .i64 c2]) ∧ Chg [] w w' := by
  go_enter Try.func21, Try.ntmps21
  go_wp2_with fail
  refine wp_loop_rounds 4 ?_
  have hX := ((Blk.new w [.int .u8 x0, .int .u8 x1, .int .u8 x2] 45).alloc (.cells #[.int .i64 0, .int .i64 0, .int .i64 0, .int .i64 0, .int .i64 0, .int .i64 0, .int .i64 0, .int .i64 0, .int .i64 0, .int .i64 0, .int .i64 0, .int .i64 0] 48)).alloc (.cells #[.int .i64 0, .int .i64 0, .int .i64 0, .int .i64 0, .int .i64 0, .int .i64 0, .int .i64 0, .int .i64 0, .int .i64 0, .int .i64 0, .int .i64 0, .int .i64 0] 48)
  have hR := (Blk.new (w.alloc (.cells #[.int .u8 x0, .int .u8 x1, .int .u8 x2] 45)) [.int .i64 0, .int .i64 0, .int .i64 0, .int .i64 0, .int .i64 0, .int .i64 0, .int .i64 0, .int .i64 0, .int .i64 0, .int .i64 0, .int .i64 0, .int .i64 0] 48).alloc (.cells #[.int .i64 0, .int .i64 0, .int .i64 0, .int .i64 0, .int .i64 0, .int .i64 0, .int .i64 0, .int .i64 0, .int .i64 0, .int .i64 0, .int .i64 0, .int .i64 0] 48)
  have hL := Blk.new ((w.alloc (.cells #[.int .u8 x0, .int .u8 x1, .int .u8 x2] 45)).alloc (.cells #[.int .i64 0, .int .i64 0, .int .i64 0, .int .i64 0, .int .i64 0, .int .i64 0, .int .i64 0, .int .i64 0, .int .i64 0, .int .i64 0, .int .i64 0, .int .i64 0] 48)) [.int .i64 0, .int .i64 0, .int .i64 0, .int .i64 0, .int .i64 0, .int .i64 0, .int .i64 0, .int .i64 0, .int .i64 0, .int .i64 0, .int .i64 0, .int .i64 0] 48
  simp only [World.size_alloc] at hR hL
  have hC := (((Chg.refl [] w).alloc (.cells #[.int .u8 x0, .int .u8 x1, .int .u8 x2] 45)).alloc (.cells #[.int .i64 0, .int .i64 0, .int .i64 0, .int .i64 0, .int .i64 0, .int .i64 0, .int .i64 0, .int .i64 0, .int .i64 0, .int .i64 0, .int .i64 0, .int .i64 0] 48)).alloc (.cells #[.int .i64 0, .int .i64 0, .int .i64 0, .int .i64 0, .int .i64 0, .int .i64 0, .int .i64 0, .int .i64 0, .int .i64 0, .int .i64 0, .int .i64 0, .int .i64 0] 48)
  have HX := Lib.hid hX; have HR := Lib.hid hR; have HL := Lib.hid hL; have HC := Lib.hid hC
  clear hX hR hL hC
  generalize World.alloc (World.alloc (World.alloc _ _) _) _ = wa at *
  have hb0 : 0 ≤ x0 % 50 ∧ x0 % 50 ≤ 49 := by omega
  generalize x0 % 50 = bb0 at *
  rw [rounds_succ]
  have cx1 : wa.cell? ⟨w.heap.size, 1, none⟩ = some (.int .u8 x1) := HX.out.cell 1
  have cxk : wa.cell? ⟨w.heap.size, 0, none⟩ = some (.int .u8 x0) := HX.out.cell 0
  have f0 : wa.frozen? ⟨w.heap.size + 1 + 1, 0, none⟩ = false := HL.out.free 0
  have f1 : wa.frozen? ⟨w.heap.size + 1 + 1, 1, none⟩ = false := HL.out.free 1
  have f2 : wa.frozen? ⟨w.heap.size + 1 + 1, 2, none⟩ = false := HL.out.free 2
  have f3 : wa.frozen? ⟨w.heap.size + 1 + 1, 3, none⟩ = false := HL.out.free 3
  have hl : w.heap.size + 1 + 1 < wa.heap.size := HL.out.lt
  have hx : w.heap.size < wa.heap.size := HX.out.lt
  have o0 : wa.cell? ⟨w.heap.size + 1 + 1, 0, none⟩ = some (.int .i64 0) := HL.out.cell 0
  have o1 : wa.cell? ⟨w.heap.size + 1 + 1, 1, none⟩ = some (.int .i64 0) := HL.out.cell 1
  have o2 : wa.cell? ⟨w.heap.size + 1 + 1, 2, none⟩ = some (.int .i64 0) := HL.out.cell 2
  have o3 : wa.cell? ⟨w.heap.size + 1 + 1, 3, none⟩ = some (.int .i64 0) := HL.out.cell 3
  have hwa : IntKind.i64.wrap x0 = x0 := IntWalk.i64_in _ (by omega)
  have hwb : Int.tmod x0 9 = x0 % 9 := Int.tmod_eq_emod_of_nonneg (by omega)
  obtain ⟨cc0, hcc0⟩ : ∃ c, 1 + x0 % 9 = c := ⟨_, rfl⟩
  have hck0 : 1 ≤ cc0 ∧ cc0 ≤ 9 := by omega
  have hwc : IntKind.i64.wrap (1 + x0 % 9) = cc0 := by rw [hcc0]; exact IntWalk.i64_in _ (by omega)
  have hwd : IntKind.i64.wrap 4 = 4 := IntWalk.i64_in _ (by omega)
  have HCC0 := Lib.hid hcc0; clear hcc0
  go_wp2_with fail
  go_still_tail 15, (by kernel_rfl)
  go_wp2_with fail
  have hX2 := (((((HX.out).other (a := ⟨w.heap.size + 1 + 1, 0, none⟩) (show w.heap.size + 1 + 1 ≠ w.heap.size by omega) (.int .i64 0)).other (a := ⟨w.heap.size + 1 + 1, 1, none⟩) (show w.heap.size + 1 + 1 ≠ w.heap.size by omega) (.int .i64 bb0)).other (a := ⟨w.heap.size + 1 + 1, 2, none⟩) (show w.heap.size + 1 + 1 ≠ w.heap.size by omega) (.int .i64 4)).other (a := ⟨w.heap.size + 1 + 1, 3, none⟩) (show w.heap.size + 1 + 1 ≠ w.heap.size by omega) (.int .i64 cc0)).drew
  have hR2 := (((((HR.out).other (a := ⟨w.heap.size + 1 + 1, 0, none⟩) (show w.heap.size + 1 + 1 ≠ w.heap.size + 1 by omega) (.int .i64 0)).other (a := ⟨w.heap.size + 1 + 1, 1, none⟩) (show w.heap.size + 1 + 1 ≠ w.heap.size + 1 by omega) (.int .i64 bb0)).other (a := ⟨w.heap.size + 1 + 1, 2, none⟩) (show w.heap.size + 1 + 1 ≠ w.heap.size + 1 by omega) (.int .i64 4)).other (a := ⟨w.heap.size + 1 + 1, 3, none⟩) (show w.heap.size + 1 + 1 ≠ w.heap.size + 1 by omega) (.int .i64 cc0)).drew
  have hL2 := (((((HL.out).set 0 (.int .i64 0)).set 1 (.int .i64 bb0)).set 2 (.int .i64 4)).set 3 (.int .i64 cc0)).drew
  have hC2 := (((((HC.out).setCell (p := ⟨w.heap.size + 1 + 1, 0, none⟩) (fun h => absurd h (by simp; omega)) (.int .i64 0)).setCell (p := ⟨w.heap.size + 1 + 1, 1, none⟩) (fun h => absurd h (by simp; omega)) (.int .i64 bb0)).setCell (p := ⟨w.heap.size + 1 + 1, 2, none⟩) (fun h => absurd h (by simp; omega)) (.int .i64 4)).setCell (p := ⟨w.heap.size + 1 + 1, 3, none⟩) (fun h => absurd h (by simp; omega)) (.int .i64 cc0)).drew
  replace HX := Lib.hid hX2; replace HR := Lib.hid hR2; replace HL := Lib.hid hL2; replace HC := Lib.hid hC2
  simp only [List.set_cons_zero, List.set_cons_succ] at HL
  clear cx1 cxk f0 f1 f2 f3 o0 o1 o2 o3 hwa hwb hwc hwd hl hx hX2 hR2 hL2 hC2
  generalize World.drew (World.setCell (World.setCell (World.setCell (World.setCell _ _ _) _ _) _ _) _ _) = ws0 at *
  refine (Size_any _ 0 bb0 4 cc0 (by decide)).mono ?_
  rintro e wz0 ⟨rfl, hx⟩
  replace HX := Lib.hid (hx.blk HX.out (by simp)); replace HR := Lib.hid (hx.blk HR.out (by simp)); replace HL := Lib.hid (hx.blk HL.out (by simp)); replace HC := Lib.hid (HC.out.trans hx)
  clear hx
  rw [size0 hck0]
  have hbn1 : 0 ≤ bb0 + (2 + cc0) ∧ bb0 + (2 + cc0) ≤ 60 := by omega
  obtain ⟨bb1, hbb1⟩ : ∃ b, b = bb0 + (2 + cc0) := ⟨_, rfl⟩
  go_wp2_with fail
  rw [← hbb1] at hbn1 ⊢
  have HE1 := Lib.hid hbb1
  clear hbb1
  rw [rounds_succ]
  have cx1 : wz0.cell? ⟨w.heap.size, 1, none⟩ = some (.int .u8 x1) := HX.out.cell 1
  have f0 : wz0.frozen? ⟨w.heap.size + 1 + 1, 4, none⟩ = false := HL.out.free 4
  have f1 : wz0.frozen? ⟨w.heap.size + 1 + 1, 5, none⟩ = false := HL.out.free 5
  have f2 : wz0.frozen? ⟨w.heap.size + 1 + 1, 6, none⟩ = false := HL.out.free 6
  have f3 : wz0.frozen? ⟨w.heap.size + 1 + 1, 7, none⟩ = false := HL.out.free 7
  have hl : w.heap.size + 1 + 1 < wz0.heap.size := HL.out.lt
  have hx : w.heap.size < wz0.heap.size := HX.out.lt
  have o0 : wz0.cell? ⟨w.heap.size + 1 + 1, 4, none⟩ = some (.int .i64 0) := HL.out.cell 4
  have o1 : wz0.cell? ⟨w.heap.size + 1 + 1, 5, none⟩ = some (.int .i64 0) := HL.out.cell 5
  have o2 : wz0.cell? ⟨w.heap.size + 1 + 1, 6, none⟩ = some (.int .i64 0) := HL.out.cell 6
  have o3 : wz0.cell? ⟨w.heap.size + 1 + 1, 7, none⟩ = some (.int .i64 0) := HL.out.cell 7
  have hwa : IntKind.i64.wrap x1 = x1 := IntWalk.i64_in _ (by omega)
  have hwb : Int.tmod x1 9 = x1 % 9 := Int.tmod_eq_emod_of_nonneg (by omega)
  obtain ⟨cc1, hcc1⟩ : ∃ c, 1 + x1 % 9 = c := ⟨_, rfl⟩
  have hck1 : 1 ≤ cc1 ∧ cc1 ≤ 9 := by omega
  have hwc : IntKind.i64.wrap (1 + x1 % 9) = cc1 := by rw [hcc1]; exact IntWalk.i64_in _ (by omega)
  have hwd : IntKind.i64.wrap 4 = 4 := IntWalk.i64_in _ (by omega)
  have HCC1 := Lib.hid hcc1; clear hcc1
  go_wp2_with fail
  go_still_tail 15, (by kernel_rfl)
  go_wp2_with fail
  have hX2 := (((((HX.out).other (a := ⟨w.heap.size + 1 + 1, 4, none⟩) (show w.heap.size + 1 + 1 ≠ w.heap.size by omega) (.int .i64 1)).other (a := ⟨w.heap.size + 1 + 1, 5, none⟩) (show w.heap.size + 1 + 1 ≠ w.heap.size by omega) (.int .i64 bb1)).other (a := ⟨w.heap.size + 1 + 1, 6, none⟩) (show w.heap.size + 1 + 1 ≠ w.heap.size by omega) (.int .i64 4)).other (a := ⟨w.heap.size + 1 + 1, 7, none⟩) (show w.heap.size + 1 + 1 ≠ w.heap.size by omega) (.int .i64 cc1)).drew
  have hR2 := (((((HR.out).other (a := ⟨w.heap.size + 1 + 1, 4, none⟩) (show w.heap.size + 1 + 1 ≠ w.heap.size + 1 by omega) (.int .i64 1)).other (a := ⟨w.heap.size + 1 + 1, 5, none⟩) (show w.heap.size + 1 + 1 ≠ w.heap.size + 1 by omega) (.int .i64 bb1)).other (a := ⟨w.heap.size + 1 + 1, 6, none⟩) (show w.heap.size + 1 + 1 ≠ w.heap.size + 1 by omega) (.int .i64 4)).other (a := ⟨w.heap.size + 1 + 1, 7, none⟩) (show w.heap.size + 1 + 1 ≠ w.heap.size + 1 by omega) (.int .i64 cc1)).drew
  have hL2 := (((((HL.out).set 4 (.int .i64 1)).set 5 (.int .i64 bb1)).set 6 (.int .i64 4)).set 7 (.int .i64 cc1)).drew
  have hC2 := (((((HC.out).setCell (p := ⟨w.heap.size + 1 + 1, 4, none⟩) (fun h => absurd h (by simp; omega)) (.int .i64 1)).setCell (p := ⟨w.heap.size + 1 + 1, 5, none⟩) (fun h => absurd h (by simp; omega)) (.int .i64 bb1)).setCell (p := ⟨w.heap.size + 1 + 1, 6, none⟩) (fun h => absurd h (by simp; omega)) (.int .i64 4)).setCell (p := ⟨w.heap.size + 1 + 1, 7, none⟩) (fun h => absurd h (by simp; omega)) (.int .i64 cc1)).drew
  replace HX := Lib.hid hX2; replace HR := Lib.hid hR2; replace HL := Lib.hid hL2; replace HC := Lib.hid hC2
  simp only [List.set_cons_zero, List.set_cons_succ] at HL
  clear cx1  f0 f1 f2 f3 o0 o1 o2 o3 hwa hwb hwc hwd hl hx hX2 hR2 hL2 hC2
  generalize World.drew (World.setCell (World.setCell (World.setCell (World.setCell _ _ _) _ _) _ _) _ _) = ws1 at *
  refine (Size_any _ 1 bb1 4 cc1 (by decide)).mono ?_
  rintro e wz1 ⟨rfl, hx⟩
  replace HX := Lib.hid (hx.blk HX.out (by simp)); replace HR := Lib.hid (hx.blk HR.out (by simp)); replace HL := Lib.hid (hx.blk HL.out (by simp)); replace HC := Lib.hid (HC.out.trans hx)
  clear hx
  rw [show sizeK 1 4 cc1 = 6 + 3 * cc1 from (size1 (by decide) hck1).trans (by omega)]
  have hbn2 : 0 ≤ bb1 + (6 + 3 * cc1) ∧ bb1 + (6 + 3 * cc1) ≤ 100 := by omega
  obtain ⟨bb2, hbb2⟩ : ∃ b, b = bb1 + (6 + 3 * cc1) := ⟨_, rfl⟩
  go_wp2_with fail
  rw [← hbb2] at hbn2 ⊢
  have HE2 := Lib.hid hbb2
  clear hbb2
  rw [rounds_succ]
  have cx1 : wz1.cell? ⟨w.heap.size, 1, none⟩ = some (.int .u8 x1) := HX.out.cell 1
  have cxk : wz1.cell? ⟨w.heap.size, 2, none⟩ = some (.int .u8 x2) := HX.out.cell 2
  have f0 : wz1.frozen? ⟨w.heap.size + 1 + 1, 8, none⟩ = false := HL.out.free 8
  have f1 : wz1.frozen? ⟨w.heap.size + 1 + 1, 9, none⟩ = false := HL.out.free 9
  have f2 : wz1.frozen? ⟨w.heap.size + 1 + 1, 10, none⟩ = false := HL.out.free 10
  have f3 : wz1.frozen? ⟨w.heap.size + 1 + 1, 11, none⟩ = false := HL.out.free 11
  have hl : w.heap.size + 1 + 1 < wz1.heap.size := HL.out.lt
  have hx : w.heap.size < wz1.heap.size := HX.out.lt
  have o0 : wz1.cell? ⟨w.heap.size + 1 + 1, 8, none⟩ = some (.int .i64 0) := HL.out.cell 8
  have o1 : wz1.cell? ⟨w.heap.size + 1 + 1, 9, none⟩ = some (.int .i64 0) := HL.out.cell 9
  have o2 : wz1.cell? ⟨w.heap.size + 1 + 1, 10, none⟩ = some (.int .i64 0) := HL.out.cell 10
  have o3 : wz1.cell? ⟨w.heap.size + 1 + 1, 11, none⟩ = some (.int .i64 0) := HL.out.cell 11
  have hwa : IntKind.i64.wrap x2 = x2 := IntWalk.i64_in _ (by omega)
  have hwb : Int.tmod x2 9 = x2 % 9 := Int.tmod_eq_emod_of_nonneg (by omega)
  obtain ⟨cc2, hcc2⟩ : ∃ c, 1 + x2 % 9 = c := ⟨_, rfl⟩
  have hck2 : 1 ≤ cc2 ∧ cc2 ≤ 9 := by omega
  have hwc : IntKind.i64.wrap (1 + x2 % 9) = cc2 := by rw [hcc2]; exact IntWalk.i64_in _ (by omega)
  have hwd : IntKind.i64.wrap 4 = 4 := IntWalk.i64_in _ (by omega)
  have HCC2 := Lib.hid hcc2; clear hcc2
  go_wp2_with fail
  go_still_tail 15, (by kernel_rfl)
  go_wp2_with fail
  have hX2 := (((((HX.out).other (a := ⟨w.heap.size + 1 + 1, 8, none⟩) (show w.heap.size + 1 + 1 ≠ w.heap.size by omega) (.int .i64 2)).other (a := ⟨w.heap.size + 1 + 1, 9, none⟩) (show w.heap.size + 1 + 1 ≠ w.heap.size by omega) (.int .i64 bb2)).other (a := ⟨w.heap.size + 1 + 1, 10, none⟩) (show w.heap.size + 1 + 1 ≠ w.heap.size by omega) (.int .i64 4)).other (a := ⟨w.heap.size + 1 + 1, 11, none⟩) (show w.heap.size + 1 + 1 ≠ w.heap.size by omega) (.int .i64 cc2)).drew
  have hR2 := (((((HR.out).other (a := ⟨w.heap.size + 1 + 1, 8, none⟩) (show w.heap.size + 1 + 1 ≠ w.heap.size + 1 by omega) (.int .i64 2)).other (a := ⟨w.heap.size + 1 + 1, 9, none⟩) (show w.heap.size + 1 + 1 ≠ w.heap.size + 1 by omega) (.int .i64 bb2)).other (a := ⟨w.heap.size + 1 + 1, 10, none⟩) (show w.heap.size + 1 + 1 ≠ w.heap.size + 1 by omega) (.int .i64 4)).other (a := ⟨w.heap.size + 1 + 1, 11, none⟩) (show w.heap.size + 1 + 1 ≠ w.heap.size + 1 by omega) (.int .i64 cc2)).drew
  have hL2 := (((((HL.out).set 8 (.int .i64 2)).set 9 (.int .i64 bb2)).set 10 (.int .i64 4)).set 11 (.int .i64 cc2)).drew
  have hC2 := (((((HC.out).setCell (p := ⟨w.heap.size + 1 + 1, 8, none⟩) (fun h => absurd h (by simp; omega)) (.int .i64 2)).setCell (p := ⟨w.heap.size + 1 + 1, 9, none⟩) (fun h => absurd h (by simp; omega)) (.int .i64 bb2)).setCell (p := ⟨w.heap.size + 1 + 1, 10, none⟩) (fun h => absurd h (by simp; omega)) (.int .i64 4)).setCell (p := ⟨w.heap.size + 1 + 1, 11, none⟩) (fun h => absurd h (by simp; omega)) (.int .i64 cc2)).drew
  replace HX := Lib.hid hX2; replace HR := Lib.hid hR2; replace HL := Lib.hid hL2; replace HC := Lib.hid hC2
  simp only [List.set_cons_zero, List.set_cons_succ] at HL
  clear cx1 cxk f0 f1 f2 f3 o0 o1 o2 o3 hwa hwb hwc hwd hl hx hX2 hR2 hL2 hC2
  generalize World.drew (World.setCell (World.setCell (World.setCell (World.setCell _ _ _) _ _) _ _) _ _) = ws2 at *
  refine (Size_any _ 2 bb2 4 cc2 (by decide)).mono ?_
  rintro e wz2 ⟨rfl, hx⟩
  replace HX := Lib.hid (hx.blk HX.out (by simp)); replace HR := Lib.hid (hx.blk HR.out (by simp)); replace HL := Lib.hid (hx.blk HL.out (by simp)); replace HC := Lib.hid (HC.out.trans hx)
  clear hx
  rw [size2 hck2]
  have hbn3 : 0 ≤ bb2 + (3 + 4 * cc2) ∧ bb2 + (3 + 4 * cc2) ≤ 150 := by omega
  go_wp2_with fail
  rw [rounds_succ]
  have l0 : wz2.cell? ⟨w.heap.size + 1 + 1, 0, none⟩ = some (.int .i64 0) := HL.out.cell 0
  have r0 : wz2.cell? ⟨w.heap.size + 1, 0, none⟩ = some (.int .i64 0) := HR.out.cell 0
  have f0 : wz2.frozen? ⟨w.heap.size + 1, 0, none⟩ = false := HR.out.free 0
  have l1 : wz2.cell? ⟨w.heap.size + 1 + 1, 1, none⟩ = some (.int .i64 bb0) := HL.out.cell 1
  have r1 : wz2.cell? ⟨w.heap.size + 1, 1, none⟩ = some (.int .i64 0) := HR.out.cell 1
  have f1 : wz2.frozen? ⟨w.heap.size + 1, 1, none⟩ = false := HR.out.free 1
  have l2 : wz2.cell? ⟨w.heap.size + 1 + 1, 2, none⟩ = some (.int .i64 4) := HL.out.cell 2
  have r2 : wz2.cell? ⟨w.heap.size + 1, 2, none⟩ = some (.int .i64 0) := HR.out.cell 2
  have f2 : wz2.frozen? ⟨w.heap.size + 1, 2, none⟩ = false := HR.out.free 2
  have l3 : wz2.cell? ⟨w.heap.size + 1 + 1, 3, none⟩ = some (.int .i64 cc0) := HL.out.cell 3
  have r3 : wz2.cell? ⟨w.heap.size + 1, 3, none⟩ = some (.int .i64 0) := HR.out.cell 3
  have f3 : wz2.frozen? ⟨w.heap.size + 1, 3, none⟩ = false := HR.out.free 3
  have l4 : wz2.cell? ⟨w.heap.size + 1 + 1, 4, none⟩ = some (.int .i64 1) := HL.out.cell 4
  have r4 : wz2.cell? ⟨w.heap.size + 1, 4, none⟩ = some (.int .i64 0) := HR.out.cell 4
  have f4 : wz2.frozen? ⟨w.heap.size + 1, 4, none⟩ = false := HR.out.free 4
  have l5 : wz2.cell? ⟨w.heap.size + 1 + 1, 5, none⟩ = some (.int .i64 bb1) := HL.out.cell 5
  have r5 : wz2.cell? ⟨w.heap.size + 1, 5, none⟩ = some (.int .i64 0) := HR.out.cell 5
  have f5 : wz2.frozen? ⟨w.heap.size + 1, 5, none⟩ = false := HR.out.free 5
  have l6 : wz2.cell? ⟨w.heap.size + 1 + 1, 6, none⟩ = some (.int .i64 4) := HL.out.cell 6
  have r6 : wz2.cell? ⟨w.heap.size + 1, 6, none⟩ = some (.int .i64 0) := HR.out.cell 6
  have f6 : wz2.frozen? ⟨w.heap.size + 1, 6, none⟩ = false := HR.out.free 6
  have l7 : wz2.cell? ⟨w.heap.size + 1 + 1, 7, none⟩ = some (.int .i64 cc1) := HL.out.cell 7
  have r7 : wz2.cell? ⟨w.heap.size + 1, 7, none⟩ = some (.int .i64 0) := HR.out.cell 7
  have f7 : wz2.frozen? ⟨w.heap.size + 1, 7, none⟩ = false := HR.out.free 7
  have l8 : wz2.cell? ⟨w.heap.size + 1 + 1, 8, none⟩ = some (.int .i64 2) := HL.out.cell 8
  have r8 : wz2.cell? ⟨w.heap.size + 1, 8, none⟩ = some (.int .i64 0) := HR.out.cell 8
  have f8 : wz2.frozen? ⟨w.heap.size + 1, 8, none⟩ = false := HR.out.free 8
  have l9 : wz2.cell? ⟨w.heap.size + 1 + 1, 9, none⟩ = some (.int .i64 bb2) := HL.out.cell 9
  have r9 : wz2.cell? ⟨w.heap.size + 1, 9, none⟩ = some (.int .i64 0) := HR.out.cell 9
  have f9 : wz2.frozen? ⟨w.heap.size + 1, 9, none⟩ = false := HR.out.free 9
  have l10 : wz2.cell? ⟨w.heap.size + 1 + 1, 10, none⟩ = some (.int .i64 4) := HL.out.cell 10
  have r10 : wz2.cell? ⟨w.heap.size + 1, 10, none⟩ = some (.int .i64 0) := HR.out.cell 10
  have f10 : wz2.frozen? ⟨w.heap.size + 1, 10, none⟩ = false := HR.out.free 10
  have l11 : wz2.cell? ⟨w.heap.size + 1 + 1, 11, none⟩ = some (.int .i64 cc2) := HL.out.cell 11
  have r11 : wz2.cell? ⟨w.heap.size + 1, 11, none⟩ = some (.int .i64 0) := HR.out.cell 11
  have f11 : wz2.frozen? ⟨w.heap.size + 1, 11, none⟩ = false := HR.out.free 11
  have hl : w.heap.size + 1 + 1 < wz2.heap.size := HL.out.lt
  go_wp2_with fail
  have hC2 := ((((((((((((HC.out).setCell (p := ⟨w.heap.size + 1, 0, none⟩) (fun h => absurd h (by simp)) (.int .i64 0)).setCell (p := ⟨w.heap.size + 1, 1, none⟩) (fun h => absurd h (by simp)) (.int .i64 bb0)).setCell (p := ⟨w.heap.size + 1, 2, none⟩) (fun h => absurd h (by simp)) (.int .i64 4)).setCell (p := ⟨w.heap.size + 1, 3, none⟩) (fun h => absurd h (by simp)) (.int .i64 cc0)).setCell (p := ⟨w.heap.size + 1, 4, none⟩) (fun h => absurd h (by simp)) (.int .i64 1)).setCell (p := ⟨w.heap.size + 1, 5, none⟩) (fun h => absurd h (by simp)) (.int .i64 bb1)).setCell (p := ⟨w.heap.size + 1, 6, none⟩) (fun h => absurd h (by simp)) (.int .i64 4)).setCell (p := ⟨w.heap.size + 1, 7, none⟩) (fun h => absurd h (by simp)) (.int .i64 cc1)).setCell (p := ⟨w.heap.size + 1, 8, none⟩) (fun h => absurd h (by simp)) (.int .i64 2)).setCell (p := ⟨w.heap.size + 1, 9, none⟩) (fun h => absurd h (by simp)) (.int .i64 bb2)).setCell (p := ⟨w.heap.size + 1, 10, none⟩) (fun h => absurd h (by simp)) (.int .i64 4)).setCell (p := ⟨w.heap.size + 1, 11, none⟩) (fun h => absurd h (by simp)) (.int .i64 cc2)
  have hR2 := ((((((((((((HR.out).set 0 (.int .i64 0)).set 1 (.int .i64 bb0)).set 2 (.int .i64 4)).set 3 (.int .i64 cc0)).set 4 (.int .i64 1)).set 5 (.int .i64 bb1)).set 6 (.int .i64 4)).set 7 (.int .i64 cc1)).set 8 (.int .i64 2)).set 9 (.int .i64 bb2)).set 10 (.int .i64 4)).set 11 (.int .i64 cc2)
  simp only [List.set_cons_zero, List.set_cons_succ] at hR2
  have HC2 := Lib.hid hC2; have HR2 := Lib.hid hR2
  clear hC2 hR2 l0 r0 f0 l1 r1 f1 l2 r2 f2 l3 r3 f3 l4 r4 f4 l5 r5 f5 l6 r6 f6 l7 r7 f7 l8 r8 f8 l9 r9 f9 l10 r10 f10 l11 r11 f11
  refine bodyPost_ret (v := .agg #[.int .i64 0, .int .i64 bb0, .int .i64 4, .int .i64 cc0, .int .i64 1, .int .i64 bb1, .int .i64 4, .int .i64 cc1, .int .i64 2, .int .i64 bb2, .int .i64 4, .int .i64 cc2]) ?_ rfl ⟨bb0, bb1, bb2, 4, cc0, cc1, cc2, ⟨hb0.elim fun a b => ⟨a, b⟩, by decide, hck0, hck1, hck2, HE1.out, HE2.out.trans (by omega)⟩, rfl, HC2.out⟩
  have r0 := HR2.out.cell 0
  have r1 := HR2.out.cell 1
  have r2 := HR2.out.cell 2
  have r3 := HR2.out.cell 3
  have r4 := HR2.out.cell 4
  have r5 := HR2.out.cell 5
  have r6 := HR2.out.cell 6
  have r7 := HR2.out.cell 7
  have r8 := HR2.out.cell 8
  have r9 := HR2.out.cell 9
  have r10 := HR2.out.cell 10
  have r11 := HR2.out.cell 11
  simp only [List.getElem?_cons_zero, List.getElem?_cons_succ] at r0 r1 r2 r3 r4 r5 r6 r7 r8 r9 r10 r11
  simp [results, Try.results21, go_sem, r0, r1, r2, r3, r4, r5, r6, r7, r8, r9, r10, r11]

set_option maxHeartbeats 4000000 in
theorem trio_3 (w : World) (x0 x1 x2 : Int) (g0 : 0 ≤ x0 ∧ x0 ≤ 255) (g1 : 0 ≤ x1 ∧ x1 ≤ 255) (g2 : 0 ≤ x2 ∧ x2 ≤ 255) (hs : bits BinOp.and IntKind.u8 x1 3 = 3) :
    Calls Try.prog 21 #[.agg #[.int .u8 x0, .int .u8 x1, .int .u8 x2]] w fun e w' => ∃ b0 b1 b2 bk c0 c1 c2 : Int, Three b0 b1 b2 bk c0 c1 c2 ∧ e = .returned (.agg #[.int .i64 0, .int .i64 b0, .int .i64 bk, .int .i64 c0, .int .i64 1, .int .i64 b1, .int .i64 bk, .int .i64 c1, .int .i64 2, .int .i64 b2, .int .i64 bk, .int .i64 c2]) ∧ Chg [] w w' := by
  go_enter Try.func21, Try.ntmps21
  go_wp2_with fail
  refine wp_loop_rounds 4 ?_
  have hX := ((Blk.new w [.int .u8 x0, .int .u8 x1, .int .u8 x2] 45).alloc (.cells #[.int .i64 0, .int .i64 0, .int .i64 0, .int .i64 0, .int .i64 0, .int .i64 0, .int .i64 0, .int .i64 0, .int .i64 0, .int .i64 0, .int .i64 0, .int .i64 0] 48)).alloc (.cells #[.int .i64 0, .int .i64 0, .int .i64 0, .int .i64 0, .int .i64 0, .int .i64 0, .int .i64 0, .int .i64 0, .int .i64 0, .int .i64 0, .int .i64 0, .int .i64 0] 48)
  have hR := (Blk.new (w.alloc (.cells #[.int .u8 x0, .int .u8 x1, .int .u8 x2] 45)) [.int .i64 0, .int .i64 0, .int .i64 0, .int .i64 0, .int .i64 0, .int .i64 0, .int .i64 0, .int .i64 0, .int .i64 0, .int .i64 0, .int .i64 0, .int .i64 0] 48).alloc (.cells #[.int .i64 0, .int .i64 0, .int .i64 0, .int .i64 0, .int .i64 0, .int .i64 0, .int .i64 0, .int .i64 0, .int .i64 0, .int .i64 0, .int .i64 0, .int .i64 0] 48)
  have hL := Blk.new ((w.alloc (.cells #[.int .u8 x0, .int .u8 x1, .int .u8 x2] 45)).alloc (.cells #[.int .i64 0, .int .i64 0, .int .i64 0, .int .i64 0, .int .i64 0, .int .i64 0, .int .i64 0, .int .i64 0, .int .i64 0, .int .i64 0, .int .i64 0, .int .i64 0] 48)) [.int .i64 0, .int .i64 0, .int .i64 0, .int .i64 0, .int .i64 0, .int .i64 0, .int .i64 0, .int .i64 0, .int .i64 0, .int .i64 0, .int .i64 0, .int .i64 0] 48
  simp only [World.size_alloc] at hR hL
  have hC := (((Chg.refl [] w).alloc (.cells #[.int .u8 x0, .int .u8 x1, .int .u8 x2] 45)).alloc (.cells #[.int .i64 0, .int .i64 0, .int .i64 0, .int .i64 0, .int .i64 0, .int .i64 0, .int .i64 0, .int .i64 0, .int .i64 0, .int .i64 0, .int .i64 0, .int .i64 0] 48)).alloc (.cells #[.int .i64 0, .int .i64 0, .int .i64 0, .int .i64 0, .int .i64 0, .int .i64 0, .int .i64 0, .int .i64 0, .int .i64 0, .int .i64 0, .int .i64 0, .int .i64 0] 48)
  have HX := Lib.hid hX; have HR := Lib.hid hR; have HL := Lib.hid hL; have HC := Lib.hid hC
  clear hX hR hL hC
  generalize World.alloc (World.alloc (World.alloc _ _) _) _ = wa at *
  have hb0 : 0 ≤ x0 % 50 ∧ x0 % 50 ≤ 49 := by omega
  generalize x0 % 50 = bb0 at *
  rw [rounds_succ]
  have cx1 : wa.cell? ⟨w.heap.size, 1, none⟩ = some (.int .u8 x1) := HX.out.cell 1
  have cxk : wa.cell? ⟨w.heap.size, 0, none⟩ = some (.int .u8 x0) := HX.out.cell 0
  have f0 : wa.frozen? ⟨w.heap.size + 1 + 1, 0, none⟩ = false := HL.out.free 0
  have f1 : wa.frozen? ⟨w.heap.size + 1 + 1, 1, none⟩ = false := HL.out.free 1
  have f2 : wa.frozen? ⟨w.heap.size + 1 + 1, 2, none⟩ = false := HL.out.free 2
  have f3 : wa.frozen? ⟨w.heap.size + 1 + 1, 3, none⟩ = false := HL.out.free 3
  have hl : w.heap.size + 1 + 1 < wa.heap.size := HL.out.lt
  have hx : w.heap.size < wa.heap.size := HX.out.lt
  have o0 : wa.cell? ⟨w.heap.size + 1 + 1, 0, none⟩ = some (.int .i64 0) := HL.out.cell 0
  have o1 : wa.cell? ⟨w.heap.size + 1 + 1, 1, none⟩ = some (.int .i64 0) := HL.out.cell 1
  have o2 : wa.cell? ⟨w.heap.size + 1 + 1, 2, none⟩ = some (.int .i64 0) := HL.out.cell 2
  have o3 : wa.cell? ⟨w.heap.size + 1 + 1, 3, none⟩ = some (.int .i64 0) := HL.out.cell 3
  have hwa : IntKind.i64.wrap x0 = x0 := IntWalk.i64_in _ (by omega)
  have hwb : Int.tmod x0 9 = x0 % 9 := Int.tmod_eq_emod_of_nonneg (by omega)
  obtain ⟨cc0, hcc0⟩ : ∃ c, 1 + x0 % 9 = c := ⟨_, rfl⟩
  have hck0 : 1 ≤ cc0 ∧ cc0 ≤ 9 := by omega
  have hwc : IntKind.i64.wrap (1 + x0 % 9) = cc0 := by rw [hcc0]; exact IntWalk.i64_in _ (by omega)
  have hwd : IntKind.i64.wrap 8 = 8 := IntWalk.i64_in _ (by omega)
  have HCC0 := Lib.hid hcc0; clear hcc0
  go_wp2_with fail
  go_still_tail 15, (by kernel_rfl)
  go_wp2_with fail
  have hX2 := (((((HX.out).other (a := ⟨w.heap.size + 1 + 1, 0, none⟩) (show w.heap.size + 1 + 1 ≠ w.heap.size by omega) (.int .i64 0)).other (a := ⟨w.heap.size + 1 + 1, 1, none⟩) (show w.heap.size + 1 + 1 ≠ w.heap.size by omega) (.int .i64 bb0)).other (a := ⟨w.heap.size + 1 + 1, 2, none⟩) (show w.heap.size + 1 + 1 ≠ w.heap.size by omega) (.int .i64 8)).other (a := ⟨w.heap.size + 1 + 1, 3, none⟩) (show w.heap.size + 1 + 1 ≠ w.heap.size by omega) (.int .i64 cc0)).drew
  have hR2 := (((((HR.out).other (a := ⟨w.heap.size + 1 + 1, 0, none⟩) (show w.heap.size + 1 + 1 ≠ w.heap.size + 1 by omega) (.int .i64 0)).other (a := ⟨w.heap.size + 1 + 1, 1, none⟩) (show w.heap.size + 1 + 1 ≠ w.heap.size + 1 by omega) (.int .i64 bb0)).other (a := ⟨w.heap.size + 1 + 1, 2, none⟩) (show w.heap.size + 1 + 1 ≠ w.heap.size + 1 by omega) (.int .i64 8)).other (a := ⟨w.heap.size + 1 + 1, 3, none⟩) (show w.heap.size + 1 + 1 ≠ w.heap.size + 1 by omega) (.int .i64 cc0)).drew
  have hL2 := (((((HL.out).set 0 (.int .i64 0)).set 1 (.int .i64 bb0)).set 2 (.int .i64 8)).set 3 (.int .i64 cc0)).drew
  have hC2 := (((((HC.out).setCell (p := ⟨w.heap.size + 1 + 1, 0, none⟩) (fun h => absurd h (by simp; omega)) (.int .i64 0)).setCell (p := ⟨w.heap.size + 1 + 1, 1, none⟩) (fun h => absurd h (by simp; omega)) (.int .i64 bb0)).setCell (p := ⟨w.heap.size + 1 + 1, 2, none⟩) (fun h => absurd h (by simp; omega)) (.int .i64 8)).setCell (p := ⟨w.heap.size + 1 + 1, 3, none⟩) (fun h => absurd h (by simp; omega)) (.int .i64 cc0)).drew
  replace HX := Lib.hid hX2; replace HR := Lib.hid hR2; replace HL := Lib.hid hL2; replace HC := Lib.hid hC2
  simp only [List.set_cons_zero, List.set_cons_succ] at HL
  clear cx1 cxk f0 f1 f2 f3 o0 o1 o2 o3 hwa hwb hwc hwd hl hx hX2 hR2 hL2 hC2
  generalize World.drew (World.setCell (World.setCell (World.setCell (World.setCell _ _ _) _ _) _ _) _ _) = ws0 at *
  refine (Size_any _ 0 bb0 8 cc0 (by decide)).mono ?_
  rintro e wz0 ⟨rfl, hx⟩
  replace HX := Lib.hid (hx.blk HX.out (by simp)); replace HR := Lib.hid (hx.blk HR.out (by simp)); replace HL := Lib.hid (hx.blk HL.out (by simp)); replace HC := Lib.hid (HC.out.trans hx)
  clear hx
  rw [size0 hck0]
  have hbn1 : 0 ≤ bb0 + (2 + cc0) ∧ bb0 + (2 + cc0) ≤ 60 := by omega
  obtain ⟨bb1, hbb1⟩ : ∃ b, b = bb0 + (2 + cc0) := ⟨_, rfl⟩
  go_wp2_with fail
  rw [← hbb1] at hbn1 ⊢
  have HE1 := Lib.hid hbb1
  clear hbb1
  rw [rounds_succ]
  have cx1 : wz0.cell? ⟨w.heap.size, 1, none⟩ = some (.int .u8 x1) := HX.out.cell 1
  have f0 : wz0.frozen? ⟨w.heap.size + 1 + 1, 4, none⟩ = false := HL.out.free 4
  have f1 : wz0.frozen? ⟨w.heap.size + 1 + 1, 5, none⟩ = false := HL.out.free 5
  have f2 : wz0.frozen? ⟨w.heap.size + 1 + 1, 6, none⟩ = false := HL.out.free 6
  have f3 : wz0.frozen? ⟨w.heap.size + 1 + 1, 7, none⟩ = false := HL.out.free 7
  have hl : w.heap.size + 1 + 1 < wz0.heap.size := HL.out.lt
  have hx : w.heap.size < wz0.heap.size := HX.out.lt
  have o0 : wz0.cell? ⟨w.heap.size + 1 + 1, 4, none⟩ = some (.int .i64 0) := HL.out.cell 4
  have o1 : wz0.cell? ⟨w.heap.size + 1 + 1, 5, none⟩ = some (.int .i64 0) := HL.out.cell 5
  have o2 : wz0.cell? ⟨w.heap.size + 1 + 1, 6, none⟩ = some (.int .i64 0) := HL.out.cell 6
  have o3 : wz0.cell? ⟨w.heap.size + 1 + 1, 7, none⟩ = some (.int .i64 0) := HL.out.cell 7
  have hwa : IntKind.i64.wrap x1 = x1 := IntWalk.i64_in _ (by omega)
  have hwb : Int.tmod x1 9 = x1 % 9 := Int.tmod_eq_emod_of_nonneg (by omega)
  obtain ⟨cc1, hcc1⟩ : ∃ c, 1 + x1 % 9 = c := ⟨_, rfl⟩
  have hck1 : 1 ≤ cc1 ∧ cc1 ≤ 9 := by omega
  have hwc : IntKind.i64.wrap (1 + x1 % 9) = cc1 := by rw [hcc1]; exact IntWalk.i64_in _ (by omega)
  have hwd : IntKind.i64.wrap 8 = 8 := IntWalk.i64_in _ (by omega)
  have HCC1 := Lib.hid hcc1; clear hcc1
  go_wp2_with fail
  go_still_tail 15, (by kernel_rfl)
  go_wp2_with fail
  have hX2 := (((((HX.out).other (a := ⟨w.heap.size + 1 + 1, 4, none⟩) (show w.heap.size + 1 + 1 ≠ w.heap.size by omega) (.int .i64 1)).other (a := ⟨w.heap.size + 1 + 1, 5, none⟩) (show w.heap.size + 1 + 1 ≠ w.heap.size by omega) (.int .i64 bb1)).other (a := ⟨w.heap.size + 1 + 1, 6, none⟩) (show w.heap.size + 1 + 1 ≠ w.heap.size by omega) (.int .i64 8)).other (a := ⟨w.heap.size + 1 + 1, 7, none⟩) (show w.heap.size + 1 + 1 ≠ w.heap.size by omega) (.int .i64 cc1)).drew
  have hR2 := (((((HR.out).other (a := ⟨w.heap.size + 1 + 1, 4, none⟩) (show w.heap.size + 1 + 1 ≠ w.heap.size + 1 by omega) (.int .i64 1)).other (a := ⟨w.heap.size + 1 + 1, 5, none⟩) (show w.heap.size + 1 + 1 ≠ w.heap.size + 1 by omega) (.int .i64 bb1)).other (a := ⟨w.heap.size + 1 + 1, 6, none⟩) (show w.heap.size + 1 + 1 ≠ w.heap.size + 1 by omega) (.int .i64 8)).other (a := ⟨w.heap.size + 1 + 1, 7, none⟩) (show w.heap.size + 1 + 1 ≠ w.heap.size + 1 by omega) (.int .i64 cc1)).drew
  have hL2 := (((((HL.out).set 4 (.int .i64 1)).set 5 (.int .i64 bb1)).set 6 (.int .i64 8)).set 7 (.int .i64 cc1)).drew
  have hC2 := (((((HC.out).setCell (p := ⟨w.heap.size + 1 + 1, 4, none⟩) (fun h => absurd h (by simp; omega)) (.int .i64 1)).setCell (p := ⟨w.heap.size + 1 + 1, 5, none⟩) (fun h => absurd h (by simp; omega)) (.int .i64 bb1)).setCell (p := ⟨w.heap.size + 1 + 1, 6, none⟩) (fun h => absurd h (by simp; omega)) (.int .i64 8)).setCell (p := ⟨w.heap.size + 1 + 1, 7, none⟩) (fun h => absurd h (by simp; omega)) (.int .i64 cc1)).drew
  replace HX := Lib.hid hX2; replace HR := Lib.hid hR2; replace HL := Lib.hid hL2; replace HC := Lib.hid hC2
  simp only [List.set_cons_zero, List.set_cons_succ] at HL
  clear cx1  f0 f1 f2 f3 o0 o1 o2 o3 hwa hwb hwc hwd hl hx hX2 hR2 hL2 hC2
  generalize World.drew (World.setCell (World.setCell (World.setCell (World.setCell _ _ _) _ _) _ _) _ _) = ws1 at *
  refine (Size_any _ 1 bb1 8 cc1 (by decide)).mono ?_
  rintro e wz1 ⟨rfl, hx⟩
  replace HX := Lib.hid (hx.blk HX.out (by simp)); replace HR := Lib.hid (hx.blk HR.out (by simp)); replace HL := Lib.hid (hx.blk HL.out (by simp)); replace HC := Lib.hid (HC.out.trans hx)
  clear hx
  rw [show sizeK 1 8 cc1 = 10 + 3 * cc1 from (size1 (by decide) hck1).trans (by omega)]
  have hbn2 : 0 ≤ bb1 + (10 + 3 * cc1) ∧ bb1 + (10 + 3 * cc1) ≤ 100 := by omega
  obtain ⟨bb2, hbb2⟩ : ∃ b, b = bb1 + (10 + 3 * cc1) := ⟨_, rfl⟩
  go_wp2_with fail
  rw [← hbb2] at hbn2 ⊢
  have HE2 := Lib.hid hbb2
  clear hbb2
  rw [rounds_succ]
  have cx1 : wz1.cell? ⟨w.heap.size, 1, none⟩ = some (.int .u8 x1) := HX.out.cell 1
  have cxk : wz1.cell? ⟨w.heap.size, 2, none⟩ = some (.int .u8 x2) := HX.out.cell 2
  have f0 : wz1.frozen? ⟨w.heap.size + 1 + 1, 8, none⟩ = false := HL.out.free 8
  have f1 : wz1.frozen? ⟨w.heap.size + 1 + 1, 9, none⟩ = false := HL.out.free 9
  have f2 : wz1.frozen? ⟨w.heap.size + 1 + 1, 10, none⟩ = false := HL.out.free 10
  have f3 : wz1.frozen? ⟨w.heap.size + 1 + 1, 11, none⟩ = false := HL.out.free 11
  have hl : w.heap.size + 1 + 1 < wz1.heap.size := HL.out.lt
  have hx : w.heap.size < wz1.heap.size := HX.out.lt
  have o0 : wz1.cell? ⟨w.heap.size + 1 + 1, 8, none⟩ = some (.int .i64 0) := HL.out.cell 8
  have o1 : wz1.cell? ⟨w.heap.size + 1 + 1, 9, none⟩ = some (.int .i64 0) := HL.out.cell 9
  have o2 : wz1.cell? ⟨w.heap.size + 1 + 1, 10, none⟩ = some (.int .i64 0) := HL.out.cell 10
  have o3 : wz1.cell? ⟨w.heap.size + 1 + 1, 11, none⟩ = some (.int .i64 0) := HL.out.cell 11
  have hwa : IntKind.i64.wrap x2 = x2 := IntWalk.i64_in _ (by omega)
  have hwb : Int.tmod x2 9 = x2 % 9 := Int.tmod_eq_emod_of_nonneg (by omega)
  obtain ⟨cc2, hcc2⟩ : ∃ c, 1 + x2 % 9 = c := ⟨_, rfl⟩
  have hck2 : 1 ≤ cc2 ∧ cc2 ≤ 9 := by omega
  have hwc : IntKind.i64.wrap (1 + x2 % 9) = cc2 := by rw [hcc2]; exact IntWalk.i64_in _ (by omega)
  have hwd : IntKind.i64.wrap 8 = 8 := IntWalk.i64_in _ (by omega)
  have HCC2 := Lib.hid hcc2; clear hcc2
  go_wp2_with fail
  go_still_tail 15, (by kernel_rfl)
  go_wp2_with fail
  have hX2 := (((((HX.out).other (a := ⟨w.heap.size + 1 + 1, 8, none⟩) (show w.heap.size + 1 + 1 ≠ w.heap.size by omega) (.int .i64 2)).other (a := ⟨w.heap.size + 1 + 1, 9, none⟩) (show w.heap.size + 1 + 1 ≠ w.heap.size by omega) (.int .i64 bb2)).other (a := ⟨w.heap.size + 1 + 1, 10, none⟩) (show w.heap.size + 1 + 1 ≠ w.heap.size by omega) (.int .i64 8)).other (a := ⟨w.heap.size + 1 + 1, 11, none⟩) (show w.heap.size + 1 + 1 ≠ w.heap.size by omega) (.int .i64 cc2)).drew
  have hR2 := (((((HR.out).other (a := ⟨w.heap.size + 1 + 1, 8, none⟩) (show w.heap.size + 1 + 1 ≠ w.heap.size + 1 by omega) (.int .i64 2)).other (a := ⟨w.heap.size + 1 + 1, 9, none⟩) (show w.heap.size + 1 + 1 ≠ w.heap.size + 1 by omega) (.int .i64 bb2)).other (a := ⟨w.heap.size + 1 + 1, 10, none⟩) (show w.heap.size + 1 + 1 ≠ w.heap.size + 1 by omega) (.int .i64 8)).other (a := ⟨w.heap.size + 1 + 1, 11, none⟩) (show w.heap.size + 1 + 1 ≠ w.heap.size + 1 by omega) (.int .i64 cc2)).drew
  have hL2 := (((((HL.out).set 8 (.int .i64 2)).set 9 (.int .i64 bb2)).set 10 (.int .i64 8)).set 11 (.int .i64 cc2)).drew
  have hC2 := (((((HC.out).setCell (p := ⟨w.heap.size + 1 + 1, 8, none⟩) (fun h => absurd h (by simp; omega)) (.int .i64 2)).setCell (p := ⟨w.heap.size + 1 + 1, 9, none⟩) (fun h => absurd h (by simp; omega)) (.int .i64 bb2)).setCell (p := ⟨w.heap.size + 1 + 1, 10, none⟩) (fun h => absurd h (by simp; omega)) (.int .i64 8)).setCell (p := ⟨w.heap.size + 1 + 1, 11, none⟩) (fun h => absurd h (by simp; omega)) (.int .i64 cc2)).drew
  replace HX := Lib.hid hX2; replace HR := Lib.hid hR2; replace HL := Lib.hid hL2; replace HC := Lib.hid hC2
  simp only [List.set_cons_zero, List.set_cons_succ] at HL
  clear cx1 cxk f0 f1 f2 f3 o0 o1 o2 o3 hwa hwb hwc hwd hl hx hX2 hR2 hL2 hC2
  generalize World.drew (World.setCell (World.setCell (World.setCell (World.setCell _ _ _) _ _) _ _) _ _) = ws2 at *
  refine (Size_any _ 2 bb2 8 cc2 (by decide)).mono ?_
  rintro e wz2 ⟨rfl, hx⟩
  replace HX := Lib.hid (hx.blk HX.out (by simp)); replace HR := Lib.hid (hx.blk HR.out (by simp)); replace HL := Lib.hid (hx.blk HL.out (by simp)); replace HC := Lib.hid (HC.out.trans hx)
  clear hx
  rw [size2 hck2]
  have hbn3 : 0 ≤ bb2 + (3 + 4 * cc2) ∧ bb2 + (3 + 4 * cc2) ≤ 150 := by omega
  go_wp2_with fail
  rw [rounds_succ]
  have l0 : wz2.cell? ⟨w.heap.size + 1 + 1, 0, none⟩ = some (.int .i64 0) := HL.out.cell 0
  have r0 : wz2.cell? ⟨w.heap.size + 1, 0, none⟩ = some (.int .i64 0) := HR.out.cell 0
  have f0 : wz2.frozen? ⟨w.heap.size + 1, 0, none⟩ = false := HR.out.free 0
  have l1 : wz2.cell? ⟨w.heap.size + 1 + 1, 1, none⟩ = some (.int .i64 bb0) := HL.out.cell 1
  have r1 : wz2.cell? ⟨w.heap.size + 1, 1, none⟩ = some (.int .i64 0) := HR.out.cell 1
  have f1 : wz2.frozen? ⟨w.heap.size + 1, 1, none⟩ = false := HR.out.free 1
  have l2 : wz2.cell? ⟨w.heap.size + 1 + 1, 2, none⟩ = some (.int .i64 8) := HL.out.cell 2
  have r2 : wz2.cell? ⟨w.heap.size + 1, 2, none⟩ = some (.int .i64 0) := HR.out.cell 2
  have f2 : wz2.frozen? ⟨w.heap.size + 1, 2, none⟩ = false := HR.out.free 2
  have l3 : wz2.cell? ⟨w.heap.size + 1 + 1, 3, none⟩ = some (.int .i64 cc0) := HL.out.cell 3
  have r3 : wz2.cell? ⟨w.heap.size + 1, 3, none⟩ = some (.int .i64 0) := HR.out.cell 3
  have f3 : wz2.frozen? ⟨w.heap.size + 1, 3, none⟩ = false := HR.out.free 3
  have l4 : wz2.cell? ⟨w.heap.size + 1 + 1, 4, none⟩ = some (.int .i64 1) := HL.out.cell 4
  have r4 : wz2.cell? ⟨w.heap.size + 1, 4, none⟩ = some (.int .i64 0) := HR.out.cell 4
  have f4 : wz2.frozen? ⟨w.heap.size + 1, 4, none⟩ = false := HR.out.free 4
  have l5 : wz2.cell? ⟨w.heap.size + 1 + 1, 5, none⟩ = some (.int .i64 bb1) := HL.out.cell 5
  have r5 : wz2.cell? ⟨w.heap.size + 1, 5, none⟩ = some (.int .i64 0) := HR.out.cell 5
  have f5 : wz2.frozen? ⟨w.heap.size + 1, 5, none⟩ = false := HR.out.free 5
  have l6 : wz2.cell? ⟨w.heap.size + 1 + 1, 6, none⟩ = some (.int .i64 8) := HL.out.cell 6
  have r6 : wz2.cell? ⟨w.heap.size + 1, 6, none⟩ = some (.int .i64 0) := HR.out.cell 6
  have f6 : wz2.frozen? ⟨w.heap.size + 1, 6, none⟩ = false := HR.out.free 6
  have l7 : wz2.cell? ⟨w.heap.size + 1 + 1, 7, none⟩ = some (.int .i64 cc1) := HL.out.cell 7
  have r7 : wz2.cell? ⟨w.heap.size + 1, 7, none⟩ = some (.int .i64 0) := HR.out.cell 7
  have f7 : wz2.frozen? ⟨w.heap.size + 1, 7, none⟩ = false := HR.out.free 7
  have l8 : wz2.cell? ⟨w.heap.size + 1 + 1, 8, none⟩ = some (.int .i64 2) := HL.out.cell 8
  have r8 : wz2.cell? ⟨w.heap.size + 1, 8, none⟩ = some (.int .i64 0) := HR.out.cell 8
  have f8 : wz2.frozen? ⟨w.heap.size + 1, 8, none⟩ = false := HR.out.free 8
  have l9 : wz2.cell? ⟨w.heap.size + 1 + 1, 9, none⟩ = some (.int .i64 bb2) := HL.out.cell 9
  have r9 : wz2.cell? ⟨w.heap.size + 1, 9, none⟩ = some (.int .i64 0) := HR.out.cell 9
  have f9 : wz2.frozen? ⟨w.heap.size + 1, 9, none⟩ = false := HR.out.free 9
  have l10 : wz2.cell? ⟨w.heap.size + 1 + 1, 10, none⟩ = some (.int .i64 8) := HL.out.cell 10
  have r10 : wz2.cell? ⟨w.heap.size + 1, 10, none⟩ = some (.int .i64 0) := HR.out.cell 10
  have f10 : wz2.frozen? ⟨w.heap.size + 1, 10, none⟩ = false := HR.out.free 10
  have l11 : wz2.cell? ⟨w.heap.size + 1 + 1, 11, none⟩ = some (.int .i64 cc2) := HL.out.cell 11
  have r11 : wz2.cell? ⟨w.heap.size + 1, 11, none⟩ = some (.int .i64 0) := HR.out.cell 11
  have f11 : wz2.frozen? ⟨w.heap.size + 1, 11, none⟩ = false := HR.out.free 11
  have hl : w.heap.size + 1 + 1 < wz2.heap.size := HL.out.lt
  go_wp2_with fail
  have hC2 := ((((((((((((HC.out).setCell (p := ⟨w.heap.size + 1, 0, none⟩) (fun h => absurd h (by simp)) (.int .i64 0)).setCell (p := ⟨w.heap.size + 1, 1, none⟩) (fun h => absurd h (by simp)) (.int .i64 bb0)).setCell (p := ⟨w.heap.size + 1, 2, none⟩) (fun h => absurd h (by simp)) (.int .i64 8)).setCell (p := ⟨w.heap.size + 1, 3, none⟩) (fun h => absurd h (by simp)) (.int .i64 cc0)).setCell (p := ⟨w.heap.size + 1, 4, none⟩) (fun h => absurd h (by simp)) (.int .i64 1)).setCell (p := ⟨w.heap.size + 1, 5, none⟩) (fun h => absurd h (by simp)) (.int .i64 bb1)).setCell (p := ⟨w.heap.size + 1, 6, none⟩) (fun h => absurd h (by simp)) (.int .i64 8)).setCell (p := ⟨w.heap.size + 1, 7, none⟩) (fun h => absurd h (by simp)) (.int .i64 cc1)).setCell (p := ⟨w.heap.size + 1, 8, none⟩) (fun h => absurd h (by simp)) (.int .i64 2)).setCell (p := ⟨w.heap.size + 1, 9, none⟩) (fun h => absurd h (by simp)) (.int .i64 bb2)).setCell (p := ⟨w.heap.size + 1, 10, none⟩) (fun h => absurd h (by simp)) (.int .i64 8)).setCell (p := ⟨w.heap.size + 1, 11, none⟩) (fun h => absurd h (by simp)) (.int .i64 cc2)
  have hR2 := ((((((((((((HR.out).set 0 (.int .i64 0)).set 1 (.int .i64 bb0)).set 2 (.int .i64 8)).set 3 (.int .i64 cc0)).set 4 (.int .i64 1)).set 5 (.int .i64 bb1)).set 6 (.int .i64 8)).set 7 (.int .i64 cc1)).set 8 (.int .i64 2)).set 9 (.int .i64 bb2)).set 10 (.int .i64 8)).set 11 (.int .i64 cc2)
  simp only [List.set_cons_zero, List.set_cons_succ] at hR2
  have HC2 := Lib.hid hC2; have HR2 := Lib.hid hR2
  clear hC2 hR2 l0 r0 f0 l1 r1 f1 l2 r2 f2 l3 r3 f3 l4 r4 f4 l5 r5 f5 l6 r6 f6 l7 r7 f7 l8 r8 f8 l9 r9 f9 l10 r10 f10 l11 r11 f11
  refine bodyPost_ret (v := .agg #[.int .i64 0, .int .i64 bb0, .int .i64 8, .int .i64 cc0, .int .i64 1, .int .i64 bb1, .int .i64 8, .int .i64 cc1, .int .i64 2, .int .i64 bb2, .int .i64 8, .int .i64 cc2]) ?_ rfl ⟨bb0, bb1, bb2, 8, cc0, cc1, cc2, ⟨hb0.elim fun a b => ⟨a, b⟩, by decide, hck0, hck1, hck2, HE1.out, HE2.out.trans (by omega)⟩, rfl, HC2.out⟩
  have r0 := HR2.out.cell 0
  have r1 := HR2.out.cell 1
  have r2 := HR2.out.cell 2
  have r3 := HR2.out.cell 3
  have r4 := HR2.out.cell 4
  have r5 := HR2.out.cell 5
  have r6 := HR2.out.cell 6
  have r7 := HR2.out.cell 7
  have r8 := HR2.out.cell 8
  have r9 := HR2.out.cell 9
  have r10 := HR2.out.cell 10
  have r11 := HR2.out.cell 11
  simp only [List.getElem?_cons_zero, List.getElem?_cons_succ] at r0 r1 r2 r3 r4 r5 r6 r7 r8 r9 r10 r11
  simp [results, Try.results21, go_sem, r0, r1, r2, r3, r4, r5, r6, r7, r8, r9, r10, r11]

theorem trio_any (w : World) (x0 x1 x2 : Int) (g0 : 0 ≤ x0 ∧ x0 ≤ 255) (g1 : 0 ≤ x1 ∧ x1 ≤ 255) (g2 : 0 ≤ x2 ∧ x2 ≤ 255) :
    Calls Try.prog 21 #[.agg #[.int .u8 x0, .int .u8 x1, .int .u8 x2]] w fun e w' => ∃ b0 b1 b2 bk c0 c1 c2 : Int, Three b0 b1 b2 bk c0 c1 c2 ∧ e = .returned (.agg #[.int .i64 0, .int .i64 b0, .int .i64 bk, .int .i64 c0, .int .i64 1, .int .i64 b1, .int .i64 bk, .int .i64 c1, .int .i64 2, .int .i64 b2, .int .i64 bk, .int .i64 c2]) ∧ Chg [] w w' := by
  rcases and3 x1 with h | h | h | h
  · exact trio_0 w x0 x1 x2 g0 g1 g2 h
  · exact trio_1 w x0 x1 x2 g0 g1 g2 h
  · exact trio_2 w x0 x1 x2 g0 g1 g2 h
  · exact trio_3 w x0 x1 x2 g0 g1 g2 h

end Go.Proofs.Ythlhjahhjoclfaa
