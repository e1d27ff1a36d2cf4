/- usual and Code; that codes are codes. -/
import Derived.Test.YthlhjahhjoclfaaCd14
namespace Go.Proofs.Ythlhjahhjoclfaa
set_option maxRecDepth 100000
open Go.RowKit

/-- The code of a call. -/
def codeL (x c base bk cap k v : Int) : List Ins :=
  if x = 0 ∧ c = 0 then queuePushL base cap v else
  if x = 0 ∧ c = 1 then queuePopL base cap else
  if x = 1 ∧ c = 0 then hashPutL base bk cap k v else
  if x = 1 ∧ c = 1 then hashGetL base bk cap k else
  if x = 1 ∧ c = 2 then hashCutL base bk cap k else
  if x = 2 ∧ c = 0 then treePutL base cap k v else
  if x = 2 ∧ c = 1 then treeGetL base cap k else
  if x = 2 ∧ c = 2 then treeCutL base cap k else
  if x = 2 ∧ c = 3 then treeLeastL base cap else []

def usualB (x c : Int) : Bool := decide (0 ≤ c ∧ (x = 0 ∧ c < 2 ∨ x = 1 ∧ c < 3 ∨ x = 2 ∧ c < 4))

theorem Code_no_00 (w : World) (base bk cap k v : Int) (h : fitsB base (qSize cap) = false) : Calls Try.prog 17 #[.agg #[.int .i64 0, .int .i64 base, .int .i64 bk, .int .i64 cap], .agg #[.int .i64 0, .int .u64 k, .int .u64 v]] w (ApiNo w) := by
  have HF := Lib.hid h
  clear h
  go_enter Try.func17, Try.ntmps17
  go_wp2_with fail
  refine (QueuePush_no _ base cap v HF.out).mono ?_
  rintro e w1 ⟨rfl, hx⟩
  have HX := Lib.hid hx
  clear hx
  go_wp2_with fail
  go_ret2
  exact ⟨rfl, (((Chg.refl [] w).alloc _).alloc _).trans HX.out⟩

theorem Code_yes_00 (w : World) (base bk cap k v : Int) (hk0 : 0 ≤ k) (hk1 : k ≤ 18446744073709551615) (hv0 : 0 ≤ v) (hv1 : v ≤ 18446744073709551615) (h : fitsB base (qSize cap) = true) : Calls Try.prog 17 #[.agg #[.int .i64 0, .int .i64 base, .int .i64 bk, .int .i64 cap], .agg #[.int .i64 0, .int .u64 k, .int .u64 v]] w (ApiYes w (queuePushL base cap v)) := by
  have HF := Lib.hid h
  clear h
  go_enter Try.func17, Try.ntmps17
  go_wp2_with fail
  refine (QueuePush_yes _ base cap v hv0 hv1 HF.out).mono ?_
  rintro e w1 ⟨v, rfl, hr, hx⟩
  have HR := Lib.hid hr
  have HX := Lib.hid hx
  clear hr hx
  go_wp2_with fail
  go_ret2
  exact ⟨v, rfl, ownsRow_base HR.out (by simp; omega), (((Chg.refl [] w).alloc _).alloc _).trans HX.out⟩

theorem Code_no_01 (w : World) (base bk cap k v : Int) (h : fitsB base (qSize cap) = false) : Calls Try.prog 17 #[.agg #[.int .i64 0, .int .i64 base, .int .i64 bk, .int .i64 cap], .agg #[.int .i64 1, .int .u64 k, .int .u64 v]] w (ApiNo w) := by
  have HF := Lib.hid h
  clear h
  go_enter Try.func17, Try.ntmps17
  go_wp2_with fail
  refine (QueuePop_no _ base cap HF.out).mono ?_
  rintro e w1 ⟨rfl, hx⟩
  have HX := Lib.hid hx
  clear hx
  go_wp2_with fail
  go_ret2
  exact ⟨rfl, (((Chg.refl [] w).alloc _).alloc _).trans HX.out⟩

theorem Code_yes_01 (w : World) (base bk cap k v : Int) (hk0 : 0 ≤ k) (hk1 : k ≤ 18446744073709551615) (hv0 : 0 ≤ v) (hv1 : v ≤ 18446744073709551615) (h : fitsB base (qSize cap) = true) : Calls Try.prog 17 #[.agg #[.int .i64 0, .int .i64 base, .int .i64 bk, .int .i64 cap], .agg #[.int .i64 1, .int .u64 k, .int .u64 v]] w (ApiYes w (queuePopL base cap)) := by
  have HF := Lib.hid h
  clear h
  go_enter Try.func17, Try.ntmps17
  go_wp2_with fail
  refine (QueuePop_yes _ base cap  HF.out).mono ?_
  rintro e w1 ⟨v, rfl, hr, hx⟩
  have HR := Lib.hid hr
  have HX := Lib.hid hx
  clear hr hx
  go_wp2_with fail
  go_ret2
  exact ⟨v, rfl, ownsRow_base HR.out (by simp; omega), (((Chg.refl [] w).alloc _).alloc _).trans HX.out⟩

theorem Code_no_10 (w : World) (base bk cap k v : Int) (h : fitsB base (hSize bk cap) = false) : Calls Try.prog 17 #[.agg #[.int .i64 1, .int .i64 base, .int .i64 bk, .int .i64 cap], .agg #[.int .i64 0, .int .u64 k, .int .u64 v]] w (ApiNo w) := by
  have HF := Lib.hid h
  clear h
  go_enter Try.func17, Try.ntmps17
  go_wp2_with fail
  refine (HashPut_no _ base bk cap k v HF.out).mono ?_
  rintro e w1 ⟨rfl, hx⟩
  have HX := Lib.hid hx
  clear hx
  go_wp2_with fail
  go_ret2
  exact ⟨rfl, (((Chg.refl [] w).alloc _).alloc _).trans HX.out⟩

theorem Code_yes_10 (w : World) (base bk cap k v : Int) (hk0 : 0 ≤ k) (hk1 : k ≤ 18446744073709551615) (hv0 : 0 ≤ v) (hv1 : v ≤ 18446744073709551615) (h : fitsB base (hSize bk cap) = true) : Calls Try.prog 17 #[.agg #[.int .i64 1, .int .i64 base, .int .i64 bk, .int .i64 cap], .agg #[.int .i64 0, .int .u64 k, .int .u64 v]] w (ApiYes w (hashPutL base bk cap k v)) := by
  have HF := Lib.hid h
  clear h
  go_enter Try.func17, Try.ntmps17
  go_wp2_with fail
  refine (HashPut_yes _ base bk cap k v hk0 hk1 hv0 hv1 HF.out).mono ?_
  rintro e w1 ⟨v, rfl, hr, hx⟩
  have HR := Lib.hid hr
  have HX := Lib.hid hx
  clear hr hx
  go_wp2_with fail
  go_ret2
  exact ⟨v, rfl, ownsRow_base HR.out (by simp; omega), (((Chg.refl [] w).alloc _).alloc _).trans HX.out⟩

theorem Code_no_11 (w : World) (base bk cap k v : Int) (h : fitsB base (hSize bk cap) = false) : Calls Try.prog 17 #[.agg #[.int .i64 1, .int .i64 base, .int .i64 bk, .int .i64 cap], .agg #[.int .i64 1, .int .u64 k, .int .u64 v]] w (ApiNo w) := by
  have HF := Lib.hid h
  clear h
  go_enter Try.func17, Try.ntmps17
  go_wp2_with fail
  refine (HashGet_no _ base bk cap k HF.out).mono ?_
  rintro e w1 ⟨rfl, hx⟩
  have HX := Lib.hid hx
  clear hx
  go_wp2_with fail
  go_ret2
  exact ⟨rfl, (((Chg.refl [] w).alloc _).alloc _).trans HX.out⟩

theorem Code_yes_11 (w : World) (base bk cap k v : Int) (hk0 : 0 ≤ k) (hk1 : k ≤ 18446744073709551615) (hv0 : 0 ≤ v) (hv1 : v ≤ 18446744073709551615) (h : fitsB base (hSize bk cap) = true) : Calls Try.prog 17 #[.agg #[.int .i64 1, .int .i64 base, .int .i64 bk, .int .i64 cap], .agg #[.int .i64 1, .int .u64 k, .int .u64 v]] w (ApiYes w (hashGetL base bk cap k)) := by
  have HF := Lib.hid h
  clear h
  go_enter Try.func17, Try.ntmps17
  go_wp2_with fail
  refine (HashGet_yes _ base bk cap k hk0 hk1 HF.out).mono ?_
  rintro e w1 ⟨v, rfl, hr, hx⟩
  have HR := Lib.hid hr
  have HX := Lib.hid hx
  clear hr hx
  go_wp2_with fail
  go_ret2
  exact ⟨v, rfl, ownsRow_base HR.out (by simp; omega), (((Chg.refl [] w).alloc _).alloc _).trans HX.out⟩

theorem Code_no_12 (w : World) (base bk cap k v : Int) (h : fitsB base (hSize bk cap) = false) : Calls Try.prog 17 #[.agg #[.int .i64 1, .int .i64 base, .int .i64 bk, .int .i64 cap], .agg #[.int .i64 2, .int .u64 k, .int .u64 v]] w (ApiNo w) := by
  have HF := Lib.hid h
  clear h
  go_enter Try.func17, Try.ntmps17
  go_wp2_with fail
  refine (HashCut_no _ base bk cap k HF.out).mono ?_
  rintro e w1 ⟨rfl, hx⟩
  have HX := Lib.hid hx
  clear hx
  go_wp2_with fail
  go_ret2
  exact ⟨rfl, (((Chg.refl [] w).alloc _).alloc _).trans HX.out⟩

theorem Code_yes_12 (w : World) (base bk cap k v : Int) (hk0 : 0 ≤ k) (hk1 : k ≤ 18446744073709551615) (hv0 : 0 ≤ v) (hv1 : v ≤ 18446744073709551615) (h : fitsB base (hSize bk cap) = true) : Calls Try.prog 17 #[.agg #[.int .i64 1, .int .i64 base, .int .i64 bk, .int .i64 cap], .agg #[.int .i64 2, .int .u64 k, .int .u64 v]] w (ApiYes w (hashCutL base bk cap k)) := by
  have HF := Lib.hid h
  clear h
  go_enter Try.func17, Try.ntmps17
  go_wp2_with fail
  refine (HashCut_yes _ base bk cap k hk0 hk1 HF.out).mono ?_
  rintro e w1 ⟨v, rfl, hr, hx⟩
  have HR := Lib.hid hr
  have HX := Lib.hid hx
  clear hr hx
  go_wp2_with fail
  go_ret2
  exact ⟨v, rfl, ownsRow_base HR.out (by simp; omega), (((Chg.refl [] w).alloc _).alloc _).trans HX.out⟩

theorem Code_no_20 (w : World) (base bk cap k v : Int) (h : fitsB base (tSize cap) = false) : Calls Try.prog 17 #[.agg #[.int .i64 2, .int .i64 base, .int .i64 bk, .int .i64 cap], .agg #[.int .i64 0, .int .u64 k, .int .u64 v]] w (ApiNo w) := by
  have HF := Lib.hid h
  clear h
  go_enter Try.func17, Try.ntmps17
  go_wp2_with fail
  refine (TreePut_no _ base cap k v HF.out).mono ?_
  rintro e w1 ⟨rfl, hx⟩
  have HX := Lib.hid hx
  clear hx
  go_wp2_with fail
  go_ret2
  exact ⟨rfl, (((Chg.refl [] w).alloc _).alloc _).trans HX.out⟩

theorem Code_yes_20 (w : World) (base bk cap k v : Int) (hk0 : 0 ≤ k) (hk1 : k ≤ 18446744073709551615) (hv0 : 0 ≤ v) (hv1 : v ≤ 18446744073709551615) (h : fitsB base (tSize cap) = true) : Calls Try.prog 17 #[.agg #[.int .i64 2, .int .i64 base, .int .i64 bk, .int .i64 cap], .agg #[.int .i64 0, .int .u64 k, .int .u64 v]] w (ApiYes w (treePutL base cap k v)) := by
  have HF := Lib.hid h
  clear h
  go_enter Try.func17, Try.ntmps17
  go_wp2_with fail
  refine (TreePut_yes _ base cap k v hk0 hk1 hv0 hv1 HF.out).mono ?_
  rintro e w1 ⟨v, rfl, hr, hx⟩
  have HR := Lib.hid hr
  have HX := Lib.hid hx
  clear hr hx
  go_wp2_with fail
  go_ret2
  exact ⟨v, rfl, ownsRow_base HR.out (by simp; omega), (((Chg.refl [] w).alloc _).alloc _).trans HX.out⟩

theorem Code_no_21 (w : World) (base bk cap k v : Int) (h : fitsB base (tSize cap) = false) : Calls Try.prog 17 #[.agg #[.int .i64 2, .int .i64 base, .int .i64 bk, .int .i64 cap], .agg #[.int .i64 1, .int .u64 k, .int .u64 v]] w (ApiNo w) := by
  have HF := Lib.hid h
  clear h
  go_enter Try.func17, Try.ntmps17
  go_wp2_with fail
  refine (TreeGet_no _ base cap k HF.out).mono ?_
  rintro e w1 ⟨rfl, hx⟩
  have HX := Lib.hid hx
  clear hx
  go_wp2_with fail
  go_ret2
  exact ⟨rfl, (((Chg.refl [] w).alloc _).alloc _).trans HX.out⟩

theorem Code_yes_21 (w : World) (base bk cap k v : Int) (hk0 : 0 ≤ k) (hk1 : k ≤ 18446744073709551615) (hv0 : 0 ≤ v) (hv1 : v ≤ 18446744073709551615) (h : fitsB base (tSize cap) = true) : Calls Try.prog 17 #[.agg #[.int .i64 2, .int .i64 base, .int .i64 bk, .int .i64 cap], .agg #[.int .i64 1, .int .u64 k, .int .u64 v]] w (ApiYes w (treeGetL base cap k)) := by
  have HF := Lib.hid h
  clear h
  go_enter Try.func17, Try.ntmps17
  go_wp2_with fail
  refine (TreeGet_yes _ base cap k hk0 hk1 HF.out).mono ?_
  rintro e w1 ⟨v, rfl, hr, hx⟩
  have HR := Lib.hid hr
  have HX := Lib.hid hx
  clear hr hx
  go_wp2_with fail
  go_ret2
  exact ⟨v, rfl, ownsRow_base HR.out (by simp; omega), (((Chg.refl [] w).alloc _).alloc _).trans HX.out⟩

theorem Code_no_22 (w : World) (base bk cap k v : Int) (h : fitsB base (tSize cap) = false) : Calls Try.prog 17 #[.agg #[.int .i64 2, .int .i64 base, .int .i64 bk, .int .i64 cap], .agg #[.int .i64 2, .int .u64 k, .int .u64 v]] w (ApiNo w) := by
  have HF := Lib.hid h
  clear h
  go_enter Try.func17, Try.ntmps17
  go_wp2_with fail
  refine (TreeCut_no _ base cap k HF.out).mono ?_
  rintro e w1 ⟨rfl, hx⟩
  have HX := Lib.hid hx
  clear hx
  go_wp2_with fail
  go_ret2
  exact ⟨rfl, (((Chg.refl [] w).alloc _).alloc _).trans HX.out⟩

theorem Code_yes_22 (w : World) (base bk cap k v : Int) (hk0 : 0 ≤ k) (hk1 : k ≤ 18446744073709551615) (hv0 : 0 ≤ v) (hv1 : v ≤ 18446744073709551615) (h : fitsB base (tSize cap) = true) : Calls Try.prog 17 #[.agg #[.int .i64 2, .int .i64 base, .int .i64 bk, .int .i64 cap], .agg #[.int .i64 2, .int .u64 k, .int .u64 v]] w (ApiYes w (treeCutL base cap k)) := by
  have HF := Lib.hid h
  clear h
  go_enter Try.func17, Try.ntmps17
  go_wp2_with fail
  refine (TreeCut_yes _ base cap k hk0 hk1 HF.out).mono ?_
  rintro e w1 ⟨v, rfl, hr, hx⟩
  have HR := Lib.hid hr
  have HX := Lib.hid hx
  clear hr hx
  go_wp2_with fail
  go_ret2
  exact ⟨v, rfl, ownsRow_base HR.out (by simp; omega), (((Chg.refl [] w).alloc _).alloc _).trans HX.out⟩

theorem Code_no_23 (w : World) (base bk cap k v : Int) (h : fitsB base (tSize cap) = false) : Calls Try.prog 17 #[.agg #[.int .i64 2, .int .i64 base, .int .i64 bk, .int .i64 cap], .agg #[.int .i64 3, .int .u64 k, .int .u64 v]] w (ApiNo w) := by
  have HF := Lib.hid h
  clear h
  go_enter Try.func17, Try.ntmps17
  go_wp2_with fail
  refine (TreeLeast_no _ base cap HF.out).mono ?_
  rintro e w1 ⟨rfl, hx⟩
  have HX := Lib.hid hx
  clear hx
  go_wp2_with fail
  go_ret2
  exact ⟨rfl, (((Chg.refl [] w).alloc _).alloc _).trans HX.out⟩

theorem Code_yes_23 (w : World) (base bk cap k v : Int) (hk0 : 0 ≤ k) (hk1 : k ≤ 18446744073709551615) (hv0 : 0 ≤ v) (hv1 : v ≤ 18446744073709551615) (h : fitsB base (tSize cap) = true) : Calls Try.prog 17 #[.agg #[.int .i64 2, .int .i64 base, .int .i64 bk, .int .i64 cap], .agg #[.int .i64 3, .int .u64 k, .int .u64 v]] w (ApiYes w (treeLeastL base cap)) := by
  have HF := Lib.hid h
  clear h
  go_enter Try.func17, Try.ntmps17
  go_wp2_with fail
  refine (TreeLeast_yes _ base cap  HF.out).mono ?_
  rintro e w1 ⟨v, rfl, hr, hx⟩
  have HR := Lib.hid hr
  have HX := Lib.hid hx
  clear hr hx
  go_wp2_with fail
  go_ret2
  exact ⟨v, rfl, ownsRow_base HR.out (by simp; omega), (((Chg.refl [] w).alloc _).alloc _).trans HX.out⟩

theorem usual_cases {x c : Int} (h : usualB x c = true) : x = 0 ∧ c = 0 ∨ x = 0 ∧ c = 1 ∨ x = 1 ∧ c = 0 ∨ x = 1 ∧ c = 1 ∨ x = 1 ∧ c = 2 ∨ x = 2 ∧ c = 0 ∨ x = 2 ∧ c = 1 ∨ x = 2 ∧ c = 2 ∨ x = 2 ∧ c = 3 := by
  simp only [usualB, decide_eq_true_eq] at h
  omega
theorem Code_no (w : World) (x c base bk cap k v : Int) (hu : usualB x c = true) (h : fitsB base (sizeK x bk cap) = false) : Calls Try.prog 17 #[.agg #[.int .i64 x, .int .i64 base, .int .i64 bk, .int .i64 cap], .agg #[.int .i64 c, .int .u64 k, .int .u64 v]] w (ApiNo w) := by
  rcases usual_cases hu with ⟨rfl, rfl⟩ | ⟨rfl, rfl⟩ | ⟨rfl, rfl⟩ | ⟨rfl, rfl⟩ | ⟨rfl, rfl⟩ | ⟨rfl, rfl⟩ | ⟨rfl, rfl⟩ | ⟨rfl, rfl⟩ | ⟨rfl, rfl⟩
  · exact Code_no_00 w base bk cap k v h
  · exact Code_no_01 w base bk cap k v h
  · exact Code_no_10 w base bk cap k v h
  · exact Code_no_11 w base bk cap k v h
  · exact Code_no_12 w base bk cap k v h
  · exact Code_no_20 w base bk cap k v h
  · exact Code_no_21 w base bk cap k v h
  · exact Code_no_22 w base bk cap k v h
  · exact Code_no_23 w base bk cap k v h
theorem Code_yes (w : World) (x c base bk cap k v : Int) (hu : usualB x c = true) (hk0 : 0 ≤ k) (hk1 : k ≤ 18446744073709551615) (hv0 : 0 ≤ v) (hv1 : v ≤ 18446744073709551615) (h : fitsB base (sizeK x bk cap) = true) : Calls Try.prog 17 #[.agg #[.int .i64 x, .int .i64 base, .int .i64 bk, .int .i64 cap], .agg #[.int .i64 c, .int .u64 k, .int .u64 v]] w (ApiYes w (codeL x c base bk cap k v)) := by
  rcases usual_cases hu with ⟨rfl, rfl⟩ | ⟨rfl, rfl⟩ | ⟨rfl, rfl⟩ | ⟨rfl, rfl⟩ | ⟨rfl, rfl⟩ | ⟨rfl, rfl⟩ | ⟨rfl, rfl⟩ | ⟨rfl, rfl⟩ | ⟨rfl, rfl⟩
  · exact Code_yes_00 w base bk cap k v hk0 hk1 hv0 hv1 h
  · exact Code_yes_01 w base bk cap k v hk0 hk1 hv0 hv1 h
  · exact Code_yes_10 w base bk cap k v hk0 hk1 hv0 hv1 h
  · exact Code_yes_11 w base bk cap k v hk0 hk1 hv0 hv1 h
  · exact Code_yes_12 w base bk cap k v hk0 hk1 hv0 hv1 h
  · exact Code_yes_20 w base bk cap k v hk0 hk1 hv0 hv1 h
  · exact Code_yes_21 w base bk cap k v hk0 hk1 hv0 hv1 h
  · exact Code_yes_22 w base bk cap k v hk0 hk1 hv0 hv1 h
  · exact Code_yes_23 w base bk cap k v hk0 hk1 hv0 hv1 h

theorem usual_0lo (w : World) (c base bk cap k v : Int) (h : c < 0) : Calls Try.prog 16 #[.agg #[.int .i64 0, .int .i64 base, .int .i64 bk, .int .i64 cap], .agg #[.int .i64 c, .int .u64 k, .int .u64 v]] w fun e w' => e = .returned (.bool false) ∧ Chg [] w w' := by
  go_enter Try.func16, Try.ntmps16
  go_wp2_with fail
  go_ret
  refine ⟨ret_bool ?_, ((Chg.refl [] w).alloc _).alloc _⟩
  first | rfl | (simp; omega)

theorem usual_0in (w : World) (c base bk cap k v : Int) (h0 : 0 ≤ c) (h1 : c < 2) : Calls Try.prog 16 #[.agg #[.int .i64 0, .int .i64 base, .int .i64 bk, .int .i64 cap], .agg #[.int .i64 c, .int .u64 k, .int .u64 v]] w fun e w' => e = .returned (.bool true) ∧ Chg [] w w' := by
  go_enter Try.func16, Try.ntmps16
  go_wp2_with fail
  go_ret
  refine ⟨ret_bool ?_, ((Chg.refl [] w).alloc _).alloc _⟩
  first | rfl | (simp; omega)

theorem usual_0hi (w : World) (c base bk cap k v : Int) (h : 2 ≤ c) : Calls Try.prog 16 #[.agg #[.int .i64 0, .int .i64 base, .int .i64 bk, .int .i64 cap], .agg #[.int .i64 c, .int .u64 k, .int .u64 v]] w fun e w' => e = .returned (.bool false) ∧ Chg [] w w' := by
  have h0 : 0 ≤ c := by omega
  go_enter Try.func16, Try.ntmps16
  go_wp2_with fail
  go_ret
  refine ⟨ret_bool ?_, ((Chg.refl [] w).alloc _).alloc _⟩
  first | rfl | (simp; omega)

theorem usual_1lo (w : World) (c base bk cap k v : Int) (h : c < 0) : Calls Try.prog 16 #[.agg #[.int .i64 1, .int .i64 base, .int .i64 bk, .int .i64 cap], .agg #[.int .i64 c, .int .u64 k, .int .u64 v]] w fun e w' => e = .returned (.bool false) ∧ Chg [] w w' := by
  go_enter Try.func16, Try.ntmps16
  go_wp2_with fail
  go_ret
  refine ⟨ret_bool ?_, ((Chg.refl [] w).alloc _).alloc _⟩
  first | rfl | (simp; omega)

theorem usual_1in (w : World) (c base bk cap k v : Int) (h0 : 0 ≤ c) (h1 : c < 3) : Calls Try.prog 16 #[.agg #[.int .i64 1, .int .i64 base, .int .i64 bk, .int .i64 cap], .agg #[.int .i64 c, .int .u64 k, .int .u64 v]] w fun e w' => e = .returned (.bool true) ∧ Chg [] w w' := by
  go_enter Try.func16, Try.ntmps16
  go_wp2_with fail
  go_ret
  refine ⟨ret_bool ?_, ((Chg.refl [] w).alloc _).alloc _⟩
  first | rfl | (simp; omega)

theorem usual_1hi (w : World) (c base bk cap k v : Int) (h : 3 ≤ c) : Calls Try.prog 16 #[.agg #[.int .i64 1, .int .i64 base, .int .i64 bk, .int .i64 cap], .agg #[.int .i64 c, .int .u64 k, .int .u64 v]] w fun e w' => e = .returned (.bool false) ∧ Chg [] w w' := by
  have h0 : 0 ≤ c := by omega
  go_enter Try.func16, Try.ntmps16
  go_wp2_with fail
  go_ret
  refine ⟨ret_bool ?_, ((Chg.refl [] w).alloc _).alloc _⟩
  first | rfl | (simp; omega)

theorem usual_2lo (w : World) (c base bk cap k v : Int) (h : c < 0) : Calls Try.prog 16 #[.agg #[.int .i64 2, .int .i64 base, .int .i64 bk, .int .i64 cap], .agg #[.int .i64 c, .int .u64 k, .int .u64 v]] w fun e w' => e = .returned (.bool false) ∧ Chg [] w w' := by
  go_enter Try.func16, Try.ntmps16
  go_wp2_with fail
  go_ret
  refine ⟨ret_bool ?_, ((Chg.refl [] w).alloc _).alloc _⟩
  first | rfl | (simp; omega)

theorem usual_2in (w : World) (c base bk cap k v : Int) (h0 : 0 ≤ c) (h1 : c < 4) : Calls Try.prog 16 #[.agg #[.int .i64 2, .int .i64 base, .int .i64 bk, .int .i64 cap], .agg #[.int .i64 c, .int .u64 k, .int .u64 v]] w fun e w' => e = .returned (.bool true) ∧ Chg [] w w' := by
  go_enter Try.func16, Try.ntmps16
  go_wp2_with fail
  go_ret
  refine ⟨ret_bool ?_, ((Chg.refl [] w).alloc _).alloc _⟩
  first | rfl | (simp; omega)

theorem usual_2hi (w : World) (c base bk cap k v : Int) (h : 4 ≤ c) : Calls Try.prog 16 #[.agg #[.int .i64 2, .int .i64 base, .int .i64 bk, .int .i64 cap], .agg #[.int .i64 c, .int .u64 k, .int .u64 v]] w fun e w' => e = .returned (.bool false) ∧ Chg [] w w' := by
  have h0 : 0 ≤ c := by omega
  go_enter Try.func16, Try.ntmps16
  go_wp2_with fail
  go_ret
  refine ⟨ret_bool ?_, ((Chg.refl [] w).alloc _).alloc _⟩
  first | rfl | (simp; omega)

theorem usual_any (w : World) (x c base bk cap k v : Int) (hx : x = 0 ∨ x = 1 ∨ x = 2) : Calls Try.prog 16 #[.agg #[.int .i64 x, .int .i64 base, .int .i64 bk, .int .i64 cap], .agg #[.int .i64 c, .int .u64 k, .int .u64 v]] w fun e w' => e = .returned (.bool (usualB x c)) ∧ Chg [] w w' := by
  by_cases h0 : 0 ≤ c
  · rcases hx with rfl | rfl | rfl
    · by_cases h1 : c < 2
      · rw [show usualB 0 c = true from by simp [usualB]; omega]; exact usual_0in w c base bk cap k v h0 h1
      · rw [show usualB 0 c = false from by simp [usualB]; omega]; exact usual_0hi w c base bk cap k v (by omega)
    · by_cases h1 : c < 3
      · rw [show usualB 1 c = true from by simp [usualB]; omega]; exact usual_1in w c base bk cap k v h0 h1
      · rw [show usualB 1 c = false from by simp [usualB]; omega]; exact usual_1hi w c base bk cap k v (by omega)
    · by_cases h1 : c < 4
      · rw [show usualB 2 c = true from by simp [usualB]; omega]; exact usual_2in w c base bk cap k v h0 h1
      · rw [show usualB 2 c = false from by simp [usualB]; omega]; exact usual_2hi w c base bk cap k v (by omega)
  · rw [show usualB x c = false from by simp [usualB]; omega]
    rcases hx with rfl | rfl | rfl
    · exact usual_0lo w c base bk cap k v (by omega)
    · exact usual_1lo w c base bk cap k v (by omega)
    · exact usual_2lo w c base bk cap k v (by omega)

end Go.Proofs.Ythlhjahhjoclfaa
