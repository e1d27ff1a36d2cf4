/- A queue, a hash and a tree side by side: that each may stand there. -/
import Derived.Test.YthlhjahhjoclfaaCd39
import Derived.Test.YthlhjahhjoclfaaCd40
namespace Go.Proofs.Ythlhjahhjoclfaa
set_option maxRecDepth 100000
open Go.RowKit

theorem Three.pl {b0 b1 b2 bk c0 c1 c2 : Int} (h : Three b0 b1 b2 bk c0 c1 c2) : PlOk 0 b0 bk c0 ∧ PlOk 1 b1 bk c1 ∧ PlOk 2 b2 bk c2 ∧ sizeK 0 bk c0 = 2 + c0 ∧ sizeK 1 bk c1 = 2 + bk + 3 * c1 ∧ sizeK 2 bk c2 = 3 + 4 * c2 := by
  obtain ⟨h0, hk, h1, h2, h3, e1, e2⟩ := h
  have s0 := size0 (bk := bk) h1
  have s1 := size1 hk h2
  have s2 := size2 (bk := bk) h3
  refine ⟨⟨?_, ?_, ?_, ?_, ?_, ?_⟩, ⟨?_, ?_, ?_, ?_, ?_, ?_⟩, ⟨?_, ?_, ?_, ?_, ?_, ?_⟩, s0, s1, s2⟩ <;> first | omega | (first | rw [s0] | rw [s1] | rw [s2]; first | rfl | omega)

end Go.Proofs.Ythlhjahhjoclfaa
