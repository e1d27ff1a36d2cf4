/- Slices whose elements are read by a reader of one's own. No program in sight. -/
import Derived.Test.YthlhjahhjoclfaaOpen
namespace Go.Proofs.Ythlhjahhjoclfaa
open Go.RowKit Go.ChangeShapes Go.WideShapes Go.Deep

theorem open_slice_len {H : Type} {enc : TypeId × Value → H} {P : Program} {w : World} {base : Nat} {spare : Nat → Bool} {held : Bool} {α : Type} (E : α → List Value) (Q : α → Prop) (size : Nat) {fuel : Nat} {t e : TypeId} {v : Value} {x : DataW H × List MemPlace}
    (hu : P.underlying t = some (.slice e)) (hc : P.cellsOf e = size) (hpos : 0 < size) (hlen : ∀ a, (E a).length = size)
    (hel : ∀ fuel cs x, cs.length = size → DataW.trod enc P w base spare held fuel e cs = some x → ∃ a, cs = E a ∧ Q a)
    (h : DataW.trod enc P w base spare held fuel t [v] = some x) :
    ∃ (A : Option Addr) (cap : Nat) (xs : List α), v = .slice A xs.length cap ∧ xs.length ≤ cap ∧ cap ≤ maxLen ∧ (A = none → cap = 0) ∧ (∀ a ∈ xs, Q a) ∧ Rd w w.heap.size A size E xs := by
  rcases open_slice hu h with ⟨hcs, _⟩ | ⟨a, len, cap, m, n, D, Pl, hcs, _, hl, hm, hmm, _, hi⟩
  · simp only [List.cons.injEq, and_true] at hcs
    subst hcs
    exact ⟨none, 0, [], rfl, Nat.le_refl _, Nat.zero_le _, fun _ => rfl, by simp, fun h => absurd h (by simp)⟩
  · simp only [List.cons.injEq, and_true] at hcs
    subst hcs
    have hml : len ≤ m := by rw [hmm]; split <;> omega
    have hall : ∀ i, i < len → ∃ y : α, Q y ∧ ∀ j, j < size → w.cell? (a.add (i * size + j)) = (E y)[j]? := by
      intro i him
      obtain ⟨cs', hc1, ht⟩ := hi i (by omega)
      obtain ⟨_, hcl, hat⟩ := World.cells?_some hc1
      obtain ⟨y, rfl, hq⟩ := hel _ _ _ (by rw [hcl, hc]) ht
      refine ⟨y, hq, fun j hj => ?_⟩
      rw [hc] at hat
      rw [← Go.Deep.add_add, hat j hj]
    obtain ⟨xs, hxl, hx⟩ := choose_list len hall
    subst hxl
    refine ⟨some a, cap, xs, rfl, hl, hm, (fun h => by cases h), fun y hy => ?_, fun hn => ?_⟩
    · obtain ⟨i, hi', rfl⟩ := List.getElem_of_mem hy
      exact (hx i hi').1
    · obtain ⟨_, hc0⟩ := hx 0 hn
      have h00 := hc0 0 hpos
      rw [List.getElem?_eq_getElem (by rw [hlen]; exact hpos)] at h00
      simp only [Nat.zero_mul, Nat.zero_add] at h00
      have ha0 : a.add 0 = a := by simp [Addr.add]
      rw [ha0] at h00
      have hs := World.cell?_spot h00
      have hb := World.block_lt_of_cell? w a h00
      obtain ⟨b, off, spot⟩ := a
      subst hs
      refine ⟨b, off, rfl, hb, fun k hk j hj => ?_⟩
      have := (hx k hk).2 j hj
      rw [← this]
      unfold Addr.add
      split <;> simp_all

end Go.Proofs.Ythlhjahhjoclfaa
