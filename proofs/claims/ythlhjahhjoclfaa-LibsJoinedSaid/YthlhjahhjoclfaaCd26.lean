/- That codes are made of what the machine knows; the chapter's first example, plain. -/
import Derived.Test.YthlhjahhjoclfaaCd25
namespace Go.Proofs.Ythlhjahhjoclfaa
set_option maxRecDepth 100000
open Go.RowKit

def useL (l : List Ins) : Bool := fitsL l && l.all (fun i => !(i.op == 6) && !(i.op == 8) && !(i.op == 10))
theorem useL_of {l : List Ins} (h : useL l = true) : l.length ≤ 128 ∧ 0 < l.length ∧ ∀ i ∈ l, UseI l.length i := by
  simp only [useL, Bool.and_eq_true, List.all_eq_true] at h
  obtain ⟨h1, h2, h3⟩ := fitsL_of h.1
  refine ⟨h1, h2, fun i hi => ⟨(h3 i hi).legal, ?_, (h3 i hi).imm⟩⟩
  have := h.2 i hi
  simpa [and_assoc] using this

theorem use_00 (base bk cap k v : Int) : useL (queuePushL base cap v) = true := by
  unfold queuePushL
  rcases number_cases St.none 3 v with e | e <;> rw [e] <;> kernel_rfl
theorem use_01 (base bk cap k v : Int) : useL (queuePopL base cap) = true := by
  kernel_rfl
theorem use_10 (base bk cap k v : Int) : useL (hashPutL base bk cap k v) = true := by
  unfold hashPutL hashS
  rcases number_cases St.none 3 k with e | e <;> rw [e]
  · rcases number_cases (St.none.set 3 (wrap64 k)) 4 v with e | e <;> rw [e] <;> kernel_rfl
  · rcases number_cases (St.none.wide 3 k) 4 v with e | e <;> rw [e] <;> kernel_rfl
theorem use_11 (base bk cap k v : Int) : useL (hashGetL base bk cap k) = true := by
  unfold hashGetL hashS
  rcases number_cases St.none 3 k with e | e <;> rw [e]
  · rcases number_cases (St.none.set 3 (wrap64 k)) 4 0 with e | e <;> rw [e] <;> kernel_rfl
  · rcases number_cases (St.none.wide 3 k) 4 0 with e | e <;> rw [e] <;> kernel_rfl
theorem use_12 (base bk cap k v : Int) : useL (hashCutL base bk cap k) = true := by
  unfold hashCutL hashS
  rcases number_cases St.none 3 k with e | e <;> rw [e]
  · rcases number_cases (St.none.set 3 (wrap64 k)) 4 0 with e | e <;> rw [e] <;> kernel_rfl
  · rcases number_cases (St.none.wide 3 k) 4 0 with e | e <;> rw [e] <;> kernel_rfl
theorem use_20 (base bk cap k v : Int) : useL (treePutL base cap k v) = true := by
  unfold treePutL treeS
  rcases number_cases St.none 3 k with e | e <;> rw [e]
  · rcases number_cases (St.none.set 3 (wrap64 k)) 4 v with e | e <;> rw [e] <;> kernel_rfl
  · rcases number_cases (St.none.wide 3 k) 4 v with e | e <;> rw [e] <;> kernel_rfl
theorem use_21 (base bk cap k v : Int) : useL (treeGetL base cap k) = true := by
  unfold treeGetL treeS
  rcases number_cases St.none 3 k with e | e <;> rw [e]
  · rcases number_cases (St.none.set 3 (wrap64 k)) 4 0 with e | e <;> rw [e] <;> kernel_rfl
  · rcases number_cases (St.none.wide 3 k) 4 0 with e | e <;> rw [e] <;> kernel_rfl
theorem use_22 (base bk cap k v : Int) : useL (treeCutL base cap k) = true := by
  unfold treeCutL treeS
  rcases number_cases St.none 3 k with e | e <;> rw [e]
  · rcases number_cases (St.none.set 3 (wrap64 k)) 4 0 with e | e <;> rw [e] <;> kernel_rfl
  · rcases number_cases (St.none.wide 3 k) 4 0 with e | e <;> rw [e] <;> kernel_rfl
theorem use_23 (base bk cap k v : Int) : useL (treeLeastL base cap) = true := by
  kernel_rfl
theorem codeL_use (x c base bk cap k v : Int) (hu : usualB x c = true) : useL (codeL x c base bk cap k v) = true := by
  rcases usual_cases hu with ⟨rfl, rfl⟩ | ⟨rfl, rfl⟩ | ⟨rfl, rfl⟩ | ⟨rfl, rfl⟩ | ⟨rfl, rfl⟩ | ⟨rfl, rfl⟩ | ⟨rfl, rfl⟩ | ⟨rfl, rfl⟩ | ⟨rfl, rfl⟩
  · exact use_00 base bk cap k v
  · exact use_01 base bk cap k v
  · exact use_10 base bk cap k v
  · exact use_11 base bk cap k v
  · exact use_12 base bk cap k v
  · exact use_20 base bk cap k v
  · exact use_21 base bk cap k v
  · exact use_22 base bk cap k v
  · exact use_23 base bk cap k v

def start9 (M : List Int) : Mach := ⟨M, [9, 9, 9, 9, 9, 9, 9, 9], 0, false, 0, 0, false⟩
def run9 (l : List Ins) (M : List Int) : Mach := runM l ((0 : Nat) : Int) ((504 : Nat) : Int) 20000 20001 (start9 M)
def ansOf (n : Nat) (mf : Mach) : List Int := if fineM n 1 mf = true then mf.regs.take 3 else [77, 0, 0]
theorem nine_ok : ∀ k : Nat, uok (rg [9, 9, 9, 9, 9, 9, 9, 9] k) := by
  intro k
  by_cases h : k < 8
  · rcases (by omega : k = 0 ∨ k = 1 ∨ k = 2 ∨ k = 3 ∨ k = 4 ∨ k = 5 ∨ k = 6 ∨ k = 7) with rfl | rfl | rfl | rfl | rfl | rfl | rfl | rfl <;> exact ⟨by decide, by decide⟩
  · have : rg [9, 9, 9, 9, 9, 9, 9, 9] k = 0 := by simp [rg, List.getD, List.getElem?_eq_none (show [(9 : Int), 9, 9, 9, 9, 9, 9, 9].length ≤ k by simp; omega)]
    rw [this]; exact ⟨by decide, by decide⟩
theorem run9_mem {l : List Ins} (hu : ∀ i ∈ l, UseI l.length i) {M : List Int} (hM : ∀ x ∈ M, uok x) : (run9 l M).mem.length = M.length ∧ ∀ x ∈ (run9 l M).mem, uok x := by
  have h := Keeps.run hu ((0 : Nat) : Int) ((504 : Nat) : Int) 20000 20001 (start9 M) ⟨rfl, nine_ok, rfl, hM, Nat.zero_le _⟩
  exact ⟨h.mem, h.mok⟩

def zeros : List Int := List.replicate 504 0
theorem zeros_ok : ∀ x ∈ zeros, uok x := fun x hx => by rw [List.eq_of_mem_replicate hx]; exact ⟨by decide, by decide⟩
def push7 : List Ins := queuePushL 0 2 7
def pop2 : List Ins := queuePopL 0 2
def M1 : List Int := (run9 push7 zeros).mem
def M2 : List Int := (run9 pop2 M1).mem
theorem alive_1 : ansOf push7.length (run9 push7 zeros) = [1, 0, 0] := by kernel_rfl
theorem alive_2 : ansOf pop2.length (run9 pop2 M1) = [1, 7, 0] := by kernel_rfl
theorem alive_3 : ansOf pop2.length (run9 pop2 M2) = [0, 0, 0] := by kernel_rfl
theorem push7_use : ∀ i ∈ push7, UseI push7.length i := (useL_of (use_00 0 0 2 0 7)).2.2
theorem pop2_use : ∀ i ∈ pop2, UseI pop2.length i := (useL_of (use_01 0 0 2 0 0)).2.2
theorem push7_len : push7.length ≤ 1024 := Nat.le_trans (useL_of (use_00 0 0 2 0 7)).1 (by decide)
theorem pop2_len : pop2.length ≤ 1024 := Nat.le_trans (useL_of (use_01 0 0 2 0 0)).1 (by decide)

end Go.Proofs.Ythlhjahhjoclfaa
