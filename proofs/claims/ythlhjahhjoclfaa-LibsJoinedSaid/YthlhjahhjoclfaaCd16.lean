/- That codes are codes: the plain side. -/
import Derived.Test.YthlhjahhjoclfaaCd15
namespace Go.Proofs.Ythlhjahhjoclfaa
set_option maxRecDepth 100000
open Go.RowKit

def fitB (n : Nat) (i : Ins) : Bool := decide (2 ≤ i.op) && decide (i.op ≤ 18) && decide (0 ≤ i.a) && decide (i.a < 8) && decide (0 ≤ i.b) && decide (i.b < 8) && decide (0 ≤ i.c) && decide (i.c < 8) && (if decide (13 ≤ i.op) && decide (i.op ≤ 16) then decide (0 ≤ i.imm) && decide (i.imm ≤ n) else true)
def fitsL (l : List Ins) : Bool := decide (l.length ≤ 128) && decide (0 < l.length) && l.all (fitB l.length)
theorem fitI_of {n : Nat} {i : Ins} (h : fitB n i = true) : FitI n i := by
  simp only [fitB, Bool.and_eq_true, decide_eq_true_eq] at h
  obtain ⟨⟨⟨⟨⟨⟨⟨⟨h1, h2⟩, h3⟩, h4⟩, h5⟩, h6⟩, h7⟩, h8⟩, h9⟩ := h
  refine ⟨⟨h1, h2, h3, h4, h5, h6, h7, h8⟩, fun a b => ?_⟩
  rw [if_pos (by simp [a, b])] at h9
  simpa using h9
theorem fitsL_of {l : List Ins} (h : fitsL l = true) : l.length ≤ 128 ∧ 0 < l.length ∧ ∀ i ∈ l, FitI l.length i := by
  simp only [fitsL, Bool.and_eq_true, decide_eq_true_eq, List.all_eq_true] at h
  exact ⟨h.1.1, h.1.2, fun i hi => fitI_of (h.2 i hi)⟩
theorem number_cases (s : St) (a v : Int) : s.number a v = s.set a (wrap64 v) ∨ s.number a v = s.wide a v := by
  unfold St.number
  split
  · exact .inl rfl
  · exact .inr rfl

theorem fits_00 (base bk cap k v : Int) : fitsL (queuePushL base cap v) = true := by
  unfold queuePushL
  rcases number_cases St.none 3 v with e | e <;> rw [e] <;> kernel_rfl
theorem fits_01 (base bk cap k v : Int) : fitsL (queuePopL base cap) = true := by
  kernel_rfl
theorem fits_10 (base bk cap k v : Int) : fitsL (hashPutL base bk cap k v) = true := by
  unfold hashPutL hashS
  rcases number_cases St.none 3 k with e | e <;> rw [e]
  · rcases number_cases (St.none.set 3 (wrap64 k)) 4 v with e | e <;> rw [e] <;> kernel_rfl
  · rcases number_cases (St.none.wide 3 k) 4 v with e | e <;> rw [e] <;> kernel_rfl
theorem fits_11 (base bk cap k v : Int) : fitsL (hashGetL base bk cap k) = true := by
  unfold hashGetL hashS
  rcases number_cases St.none 3 k with e | e <;> rw [e]
  · rcases number_cases (St.none.set 3 (wrap64 k)) 4 0 with e | e <;> rw [e] <;> kernel_rfl
  · rcases number_cases (St.none.wide 3 k) 4 0 with e | e <;> rw [e] <;> kernel_rfl
theorem fits_12 (base bk cap k v : Int) : fitsL (hashCutL base bk cap k) = true := by
  unfold hashCutL hashS
  rcases number_cases St.none 3 k with e | e <;> rw [e]
  · rcases number_cases (St.none.set 3 (wrap64 k)) 4 0 with e | e <;> rw [e] <;> kernel_rfl
  · rcases number_cases (St.none.wide 3 k) 4 0 with e | e <;> rw [e] <;> kernel_rfl
theorem fits_20 (base bk cap k v : Int) : fitsL (treePutL base cap k v) = true := by
  unfold treePutL treeS
  rcases number_cases St.none 3 k with e | e <;> rw [e]
  · rcases number_cases (St.none.set 3 (wrap64 k)) 4 v with e | e <;> rw [e] <;> kernel_rfl
  · rcases number_cases (St.none.wide 3 k) 4 v with e | e <;> rw [e] <;> kernel_rfl
theorem fits_21 (base bk cap k v : Int) : fitsL (treeGetL base cap k) = true := by
  unfold treeGetL treeS
  rcases number_cases St.none 3 k with e | e <;> rw [e]
  · rcases number_cases (St.none.set 3 (wrap64 k)) 4 0 with e | e <;> rw [e] <;> kernel_rfl
  · rcases number_cases (St.none.wide 3 k) 4 0 with e | e <;> rw [e] <;> kernel_rfl
theorem fits_22 (base bk cap k v : Int) : fitsL (treeCutL base cap k) = true := by
  unfold treeCutL treeS
  rcases number_cases St.none 3 k with e | e <;> rw [e]
  · rcases number_cases (St.none.set 3 (wrap64 k)) 4 0 with e | e <;> rw [e] <;> kernel_rfl
  · rcases number_cases (St.none.wide 3 k) 4 0 with e | e <;> rw [e] <;> kernel_rfl
theorem fits_23 (base bk cap k v : Int) : fitsL (treeLeastL base cap) = true := by
  kernel_rfl
theorem codeL_fits (x c base bk cap k v : Int) (hu : usualB x c = true) : fitsL (codeL x c base bk cap k v) = true := by
  rcases usual_cases hu with ⟨rfl, rfl⟩ | ⟨rfl, rfl⟩ | ⟨rfl, rfl⟩ | ⟨rfl, rfl⟩ | ⟨rfl, rfl⟩ | ⟨rfl, rfl⟩ | ⟨rfl, rfl⟩ | ⟨rfl, rfl⟩ | ⟨rfl, rfl⟩
  · exact fits_00 base bk cap k v
  · exact fits_01 base bk cap k v
  · exact fits_10 base bk cap k v
  · exact fits_11 base bk cap k v
  · exact fits_12 base bk cap k v
  · exact fits_20 base bk cap k v
  · exact fits_21 base bk cap k v
  · exact fits_22 base bk cap k v
  · exact fits_23 base bk cap k v

end Go.Proofs.Ythlhjahhjoclfaa
