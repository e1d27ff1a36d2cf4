/- Which registers each code has set, and when; the plain side. -/
import Derived.Test.YthlhjahhjoclfaaCd37
namespace Go.Proofs.Ythlhjahhjoclfaa
set_option maxRecDepth 100000
open Go.RowKit

theorem hPut_flow (base bk cap k v : Int) : ∃ D, flowB D 0 (hashPutL base bk cap k v) = true ∧ D.getD 0 0 = 0 := by
  unfold hashPutL hashS
  rcases number_cases (St.none) 3 k with e | e
  · rw [e]
    rcases number_cases (((St.none).set 3 (wrap64 k))) 4 v with e | e
    · rw [e]
      exact ⟨[0, 8, 24, 25, 27, 31, 159, 159, 191, 191, 191, 191, 255, 255, 255, 255, 255, 255, 255, 255, 255, 255, 255, 255, 255, 255, 255, 255, 255, 255, 255, 255, 255, 255, 255, 255, 255, 255, 255, 255, 255, 255, 255], by kernel_rfl, rfl⟩
    · rw [e]
      exact ⟨[0, 8, 40, 56, 56, 120, 120, 120, 120, 120, 121, 123, 127, 255, 255, 255, 255, 255, 255, 255, 255, 255, 255, 255, 255, 255, 255, 255, 255, 255, 255, 255, 255, 255, 255, 255, 255, 255, 255, 255, 255, 255, 255, 255, 255, 255, 255, 255, 255, 255], by kernel_rfl, rfl⟩
  · rw [e]
    rcases number_cases (((St.none).wide 3 k)) 4 v with e | e
    · rw [e]
      exact ⟨[0, 32, 40, 40, 104, 104, 104, 104, 104, 120, 121, 123, 127, 255, 255, 255, 255, 255, 255, 255, 255, 255, 255, 255, 255, 255, 255, 255, 255, 255, 255, 255, 255, 255, 255, 255, 255, 255, 255, 255, 255, 255, 255, 255, 255, 255, 255, 255, 255, 255], by kernel_rfl, rfl⟩
    · rw [e]
      exact ⟨[0, 32, 40, 40, 104, 104, 104, 104, 104, 104, 120, 120, 120, 120, 120, 120, 120, 121, 123, 127, 255, 255, 255, 255, 255, 255, 255, 255, 255, 255, 255, 255, 255, 255, 255, 255, 255, 255, 255, 255, 255, 255, 255, 255, 255, 255, 255, 255, 255, 255, 255, 255, 255, 255, 255, 255, 255], by kernel_rfl, rfl⟩
theorem hGet_flow (base bk cap k : Int) : ∃ D, flowB D 0 (hashGetL base bk cap k) = true ∧ D.getD 0 0 = 0 := by
  unfold hashGetL hashS
  rcases number_cases (St.none) 3 k with e | e
  · rw [e]
    rcases number_cases (((St.none).set 3 (wrap64 k))) 4 0 with e | e
    · rw [e]
      exact ⟨[0, 8, 24, 25, 27, 31, 159, 159, 191, 191, 191, 191, 255, 255, 255, 255, 255, 255, 255, 255, 255, 255, 255], by kernel_rfl, rfl⟩
    · rw [e]
      exact ⟨[0, 8, 40, 56, 56, 120, 120, 120, 120, 120, 121, 123, 127, 255, 255, 255, 255, 255, 255, 255, 255, 255, 255, 255, 255, 255, 255, 255, 255, 255], by kernel_rfl, rfl⟩
  · rw [e]
    rcases number_cases (((St.none).wide 3 k)) 4 0 with e | e
    · rw [e]
      exact ⟨[0, 32, 40, 40, 104, 104, 104, 104, 104, 120, 121, 123, 127, 255, 255, 255, 255, 255, 255, 255, 255, 255, 255, 255, 255, 255, 255, 255, 255, 255], by kernel_rfl, rfl⟩
    · rw [e]
      exact ⟨[0, 32, 40, 40, 104, 104, 104, 104, 104, 104, 120, 120, 120, 120, 120, 120, 120, 121, 123, 127, 255, 255, 255, 255, 255, 255, 255, 255, 255, 255, 255, 255, 255, 255, 255, 255, 255], by kernel_rfl, rfl⟩
theorem hCut_flow (base bk cap k : Int) : ∃ D, flowB D 0 (hashCutL base bk cap k) = true ∧ D.getD 0 0 = 0 := by
  unfold hashCutL hashS
  rcases number_cases (St.none) 3 k with e | e
  · rw [e]
    rcases number_cases (((St.none).set 3 (wrap64 k))) 4 0 with e | e
    · rw [e]
      exact ⟨[0, 8, 24, 25, 27, 31, 159, 159, 191, 191, 191, 191, 255, 255, 255, 255, 255, 255, 255, 255, 255, 255, 255, 255, 255, 255, 255, 255], by kernel_rfl, rfl⟩
    · rw [e]
      exact ⟨[0, 8, 40, 56, 56, 120, 120, 120, 120, 120, 121, 123, 127, 255, 255, 255, 255, 255, 255, 255, 255, 255, 255, 255, 255, 255, 255, 255, 255, 255, 255, 255, 255, 255, 255], by kernel_rfl, rfl⟩
  · rw [e]
    rcases number_cases (((St.none).wide 3 k)) 4 0 with e | e
    · rw [e]
      exact ⟨[0, 32, 40, 40, 104, 104, 104, 104, 104, 120, 121, 123, 127, 255, 255, 255, 255, 255, 255, 255, 255, 255, 255, 255, 255, 255, 255, 255, 255, 255, 255, 255, 255, 255, 255], by kernel_rfl, rfl⟩
    · rw [e]
      exact ⟨[0, 32, 40, 40, 104, 104, 104, 104, 104, 104, 120, 120, 120, 120, 120, 120, 120, 121, 123, 127, 255, 255, 255, 255, 255, 255, 255, 255, 255, 255, 255, 255, 255, 255, 255, 255, 255, 255, 255, 255, 255, 255], by kernel_rfl, rfl⟩
theorem tPut_flow (base cap k v : Int) : ∃ D, flowB D 0 (treePutL base cap k v) = true ∧ D.getD 0 0 = 0 := by
  unfold treePutL treeS
  rcases number_cases (St.none) 3 k with e | e
  · rw [e]
    rcases number_cases (((St.none).set 3 (wrap64 k))) 4 v with e | e
    · rw [e]
      exact ⟨[0, 8, 24, 25, 27, 31, 159, 159, 191, 255, 255, 255, 255, 255, 255, 255, 255, 255, 255, 255, 255, 255, 255, 255, 255, 255, 255, 255, 255, 255, 255, 255, 255, 255, 255, 255, 255, 255, 255, 255, 255, 255, 255, 255, 255], by kernel_rfl, rfl⟩
    · rw [e]
      exact ⟨[0, 8, 40, 56, 56, 120, 120, 120, 120, 120, 121, 123, 127, 255, 255, 255, 255, 255, 255, 255, 255, 255, 255, 255, 255, 255, 255, 255, 255, 255, 255, 255, 255, 255, 255, 255, 255, 255, 255, 255, 255, 255, 255, 255, 255, 255, 255, 255, 255, 255, 255, 255], by kernel_rfl, rfl⟩
  · rw [e]
    rcases number_cases (((St.none).wide 3 k)) 4 v with e | e
    · rw [e]
      exact ⟨[0, 32, 40, 40, 104, 104, 104, 104, 104, 120, 121, 123, 127, 255, 255, 255, 255, 255, 255, 255, 255, 255, 255, 255, 255, 255, 255, 255, 255, 255, 255, 255, 255, 255, 255, 255, 255, 255, 255, 255, 255, 255, 255, 255, 255, 255, 255, 255, 255, 255, 255, 255], by kernel_rfl, rfl⟩
    · rw [e]
      exact ⟨[0, 32, 40, 40, 104, 104, 104, 104, 104, 104, 120, 120, 120, 120, 120, 120, 120, 121, 123, 127, 255, 255, 255, 255, 255, 255, 255, 255, 255, 255, 255, 255, 255, 255, 255, 255, 255, 255, 255, 255, 255, 255, 255, 255, 255, 255, 255, 255, 255, 255, 255, 255, 255, 255, 255, 255, 255, 255, 255], by kernel_rfl, rfl⟩
theorem tGet_flow (base cap k : Int) : ∃ D, flowB D 0 (treeGetL base cap k) = true ∧ D.getD 0 0 = 0 := by
  unfold treeGetL treeS
  rcases number_cases (St.none) 3 k with e | e
  · rw [e]
    rcases number_cases (((St.none).set 3 (wrap64 k))) 4 0 with e | e
    · rw [e]
      exact ⟨[0, 8, 24, 25, 27, 31, 159, 159, 191, 255, 255, 255, 255, 255, 255, 255, 255, 255, 255, 255, 255, 255, 255, 255], by kernel_rfl, rfl⟩
    · rw [e]
      exact ⟨[0, 8, 40, 56, 56, 120, 120, 120, 120, 120, 121, 123, 127, 255, 255, 255, 255, 255, 255, 255, 255, 255, 255, 255, 255, 255, 255, 255, 255, 255, 255], by kernel_rfl, rfl⟩
  · rw [e]
    rcases number_cases (((St.none).wide 3 k)) 4 0 with e | e
    · rw [e]
      exact ⟨[0, 32, 40, 40, 104, 104, 104, 104, 104, 120, 121, 123, 127, 255, 255, 255, 255, 255, 255, 255, 255, 255, 255, 255, 255, 255, 255, 255, 255, 255, 255], by kernel_rfl, rfl⟩
    · rw [e]
      exact ⟨[0, 32, 40, 40, 104, 104, 104, 104, 104, 104, 120, 120, 120, 120, 120, 120, 120, 121, 123, 127, 255, 255, 255, 255, 255, 255, 255, 255, 255, 255, 255, 255, 255, 255, 255, 255, 255, 255], by kernel_rfl, rfl⟩
theorem tCut_flow (base cap k : Int) : ∃ D, flowB D 0 (treeCutL base cap k) = true ∧ D.getD 0 0 = 0 := by
  unfold treeCutL treeS
  rcases number_cases (St.none) 3 k with e | e
  · rw [e]
    rcases number_cases (((St.none).set 3 (wrap64 k))) 4 0 with e | e
    · rw [e]
      exact ⟨[0, 8, 24, 25, 27, 31, 159, 159, 191, 255, 255, 255, 255, 255, 255, 255, 255, 255, 255, 255, 255, 255, 255, 255, 255, 255, 255, 255, 255, 255, 255, 255, 255, 255, 255, 255, 255, 255, 255, 255, 255, 255, 255, 255, 255, 255, 255, 255, 255], by kernel_rfl, rfl⟩
    · rw [e]
      exact ⟨[0, 8, 40, 56, 56, 120, 120, 120, 120, 120, 121, 123, 127, 255, 255, 255, 255, 255, 255, 255, 255, 255, 255, 255, 255, 255, 255, 255, 255, 255, 255, 255, 255, 255, 255, 255, 255, 255, 255, 255, 255, 255, 255, 255, 255, 255, 255, 255, 255, 255, 255, 255, 255, 255, 255, 255], by kernel_rfl, rfl⟩
  · rw [e]
    rcases number_cases (((St.none).wide 3 k)) 4 0 with e | e
    · rw [e]
      exact ⟨[0, 32, 40, 40, 104, 104, 104, 104, 104, 120, 121, 123, 127, 255, 255, 255, 255, 255, 255, 255, 255, 255, 255, 255, 255, 255, 255, 255, 255, 255, 255, 255, 255, 255, 255, 255, 255, 255, 255, 255, 255, 255, 255, 255, 255, 255, 255, 255, 255, 255, 255, 255, 255, 255, 255, 255], by kernel_rfl, rfl⟩
    · rw [e]
      exact ⟨[0, 32, 40, 40, 104, 104, 104, 104, 104, 104, 120, 120, 120, 120, 120, 120, 120, 121, 123, 127, 255, 255, 255, 255, 255, 255, 255, 255, 255, 255, 255, 255, 255, 255, 255, 255, 255, 255, 255, 255, 255, 255, 255, 255, 255, 255, 255, 255, 255, 255, 255, 255, 255, 255, 255, 255, 255, 255, 255, 255, 255, 255, 255], by kernel_rfl, rfl⟩
theorem tLeast_flow (base cap : Int) : ∃ D, flowB D 0 (treeLeastL base cap) = true ∧ D.getD 0 0 = 0 := by
  unfold treeLeastL
  exact ⟨[0, 1, 3, 7, 135, 135, 199, 199, 231, 231, 231, 231, 231, 231, 199, 199], by kernel_rfl, rfl⟩
theorem qPush_flow (base cap v : Int) : ∃ D, flowB D 0 (queuePushL base cap v) = true ∧ D.getD 0 0 = 0 := by
  unfold queuePushL
  rcases number_cases (St.none) 3 v with e | e
  · rw [e]
    exact ⟨[0, 8, 9, 11, 15, 143, 143, 159, 191, 191, 255, 255, 255, 255, 255, 255, 255, 255, 191, 191, 191], by kernel_rfl, rfl⟩
  · rw [e]
    exact ⟨[0, 32, 40, 40, 104, 104, 104, 104, 104, 105, 107, 111, 239, 239, 255, 255, 255, 255, 255, 255, 255, 255, 255, 255, 255, 255, 255, 255], by kernel_rfl, rfl⟩
theorem qPop_flow (base cap : Int) : ∃ D, flowB D 0 (queuePopL base cap) = true ∧ D.getD 0 0 = 0 := by
  unfold queuePopL
  exact ⟨[0, 1, 3, 7, 135, 135, 151, 151, 215, 215, 215, 215, 215, 215, 215, 247, 247, 247, 247, 151, 151, 151], by kernel_rfl, rfl⟩
theorem code_flow {x c : Int} (base bk cap k v : Int) (hu : usualB x c = true) : ∃ D, flowB D 0 (codeL x c base bk cap k v) = true ∧ D.getD 0 0 = 0 := by
  rcases usual_cases hu with ⟨rfl, rfl⟩ | ⟨rfl, rfl⟩ | ⟨rfl, rfl⟩ | ⟨rfl, rfl⟩ | ⟨rfl, rfl⟩ | ⟨rfl, rfl⟩ | ⟨rfl, rfl⟩ | ⟨rfl, rfl⟩ | ⟨rfl, rfl⟩
  · exact qPush_flow base cap v
  · exact qPop_flow base cap
  · exact hPut_flow base bk cap k v
  · exact hGet_flow base bk cap k
  · exact hCut_flow base bk cap k
  · exact tPut_flow base cap k v
  · exact tGet_flow base cap k
  · exact tCut_flow base cap k
  · exact tLeast_flow base cap
end Go.Proofs.Ythlhjahhjoclfaa
