/- Numbers that come in. -/
import Derived.Test.YtagfalnfjiodcaaSched4
import Derived.Test.YtagfalnfjiodcaaOpen
namespace Go.Proofs.Ytagfalnfjiodcaa
open Go.RowKit

abbrev one0 (ns : List Int) : Int := ns.getD 0 0
theorem numsA_of_rd {w : World} {A : Option Addr} {xs : List (List Int)} (hR : Rd w w.heap.size A 1 (fun ns => List.zipWith leafV [some .i64] ns) xs) (hfl : ∀ ns ∈ xs, ∃ cs, FlatRel [some .i64] cs ns) :
    NumsA w A w.heap.size (xs.map one0) := by
  intro i hi
  rw [List.length_map] at hi
  obtain ⟨b, off, e, hb, hc⟩ := hR (by omega)
  refine ⟨b, off, e, hb, ?_⟩
  have h := hc i hi 0 (by decide)
  obtain ⟨cs, hr⟩ := hfl _ (List.getElem_mem hi)
  obtain ⟨y, ns, hy, _, cs, hr⟩ := hr.cons_inv
  obtain rfl := hr.nil_inv
  rw [Nat.mul_one, Nat.add_zero] at h
  rw [h]
  simp [hy, leafV]
theorem nums_ok {xs : List (List Int)} (hfl : ∀ ns ∈ xs, ∃ cs, FlatRel [some .i64] cs ns) : ∀ x ∈ xs.map one0, -9223372036854775808 ≤ x ∧ x ≤ 9223372036854775807 := by
  intro x hx
  obtain ⟨ns, hns, rfl⟩ := List.mem_map.1 hx
  obtain ⟨cs, hr⟩ := hfl _ hns
  obtain ⟨y, ns, rfl, hy, cs, hr⟩ := hr.cons_inv
  obtain rfl := hr.nil_inv
  simp [leafOk, Lit.wf, IntKind.min, IntKind.max, IntKind.signed, IntKind.bits] at hy
  simp
  omega

end Go.Proofs.Ytagfalnfjiodcaa
