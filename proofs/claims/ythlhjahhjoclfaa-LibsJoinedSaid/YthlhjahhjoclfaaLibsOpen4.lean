/- Lists of turns that come in. -/
import Derived.Test.YthlhjahhjoclfaaCd46
import Derived.Test.YthlhjahhjoclfaaOpen3
namespace Go.Proofs.Ythlhjahhjoclfaa
open Go.RowKit Go.ChangeShapes Go.WideShapes Go.Deep

theorem flatTu : flat Try.prog 8 53 = some [some .u8, some .i64, some .u64, some .u64] := by kernel_rfl
theorem cellsTu : Try.prog.cellsOf 53 = 4 := by kernel_rfl

section
variable {H : Type} {enc : TypeId × Value → H} {w : World} {base : Nat} {spare : Nat → Bool} {held : Bool}
theorem open_turns {fuel : Nat} {v : Value} {x : DataW H × List MemPlace} (h : DataW.trod enc Try.prog w base spare held fuel 46 [v] = some x) :
    ∃ (A : Option Addr) (cap : Nat) (xs : List Tu), v = .slice A xs.length cap ∧ xs.length ≤ cap ∧ cap ≤ maxLen ∧ (A = none → cap = 0) ∧ (∀ o ∈ xs, TuOk o) ∧ Rd w w.heap.size A 4 encT xs := by
  obtain ⟨A, cap, xs, rfl, h1, h2, h3, h4, h5⟩ := open_flat_slice Try.underlying46 flatTu cellsTu (by decide) h
  refine ⟨A, cap, xs.map (fun ns => ⟨ns.getD 0 0, ns.getD 1 0, ns.getD 2 0, ns.getD 3 0⟩), by simp, by simpa using h1, h2, h3, fun o ho => ?_, ?_⟩
  · obtain ⟨ns, hns, rfl⟩ := List.mem_map.1 ho
    obtain ⟨cs, hr⟩ := h4 ns hns
    obtain ⟨a, ns, rfl, wa, cs, hr⟩ := hr.cons_inv
    obtain ⟨b, ns, rfl, wb, cs, hr⟩ := hr.cons_inv
    obtain ⟨c, ns, rfl, wc, cs, hr⟩ := hr.cons_inv
    obtain ⟨d, ns, rfl, wd, cs, hr⟩ := hr.cons_inv
    obtain rfl := hr.nil_inv
    exact ⟨u8ok_of wa, u64ok_of wc, u64ok_of wd⟩
  · refine h5.map (fun ns => (⟨ns.getD 0 0, ns.getD 1 0, ns.getD 2 0, ns.getD 3 0⟩ : Tu)) (fun ns hns => ?_)
    obtain ⟨cs, hr⟩ := h4 ns hns
    obtain ⟨a, ns, rfl, _, cs, hr⟩ := hr.cons_inv
    obtain ⟨b, ns, rfl, _, cs, hr⟩ := hr.cons_inv
    obtain ⟨c, ns, rfl, _, cs, hr⟩ := hr.cons_inv
    obtain ⟨d, ns, rfl, _, cs, hr⟩ := hr.cons_inv
    obtain rfl := hr.nil_inv
    rfl
end
end Go.Proofs.Ythlhjahhjoclfaa
