/- The chapter's examples, plain. -/
import Derived.Test.YthlhjahhjoclfaaCd26
namespace Go.Proofs.Ythlhjahhjoclfaa
set_option maxRecDepth 100000
open Go.RowKit

/-- Codes, run one behind the other: what each answers. -/
def runs9 : List (List Ins) → List Int → List (List Int)
  | [], _ => []
  | l :: ls, M => ansOf l.length (run9 l M) :: runs9 ls (run9 l M).mem
def qCodes : List (List Ins) := [queuePushL 0 2 7, queuePushL 0 2 8, queuePushL 0 2 9, queuePopL 0 2, queuePopL 0 2, queuePopL 0 2]
def hCodes : List (List Ins) := [hashPutL 0 1 1 5 6, hashPutL 0 1 1 5 7, hashPutL 0 1 1 6 1, hashCutL 0 1 1 5, hashGetL 0 1 1 5]
def tCodes : List (List Ins) := [treePutL 0 3 5 1, treePutL 0 3 18446744073709551615 2, treePutL 0 3 3 4, treeLeastL 0 3, treeCutL 0 3 3, treeLeastL 0 3, treeGetL 0 3 18446744073709551615]
theorem q_runs : runs9 qCodes zeros = [[1, 0, 0], [1, 0, 0], [0, 0, 0], [1, 7, 0], [1, 8, 0], [0, 0, 0]] := by kernel_rfl
theorem h_runs : runs9 hCodes zeros = [[1, 0, 0], [2, 6, 0], [0, 0, 0], [1, 7, 0], [0, 0, 0]] := by kernel_rfl
theorem t_runs : runs9 tCodes zeros = [[1, 0, 0], [1, 0, 0], [1, 0, 0], [1, 3, 4], [1, 4, 0], [1, 5, 1], [1, 2, 0]] := by kernel_rfl
end Go.Proofs.Ythlhjahhjoclfaa
