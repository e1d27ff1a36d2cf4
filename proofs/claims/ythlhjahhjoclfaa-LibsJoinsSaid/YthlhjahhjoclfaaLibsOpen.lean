/- Lists of lists of instructions that come in. -/
import Derived.Test.YthlhjahhjoclfaaLibs5
import Derived.Test.YthlhjahhjoclfaaOpen3
namespace Go.Proofs.Ythlhjahhjoclfaa
open Go.RowKit Go.ChangeShapes Go.WideShapes Go.Deep

theorem flatIns : flat Try.prog 8 25 = some [some .i64, some .i64, some .i64, some .i64, some .i64] := by kernel_rfl
theorem cellsIns : Try.prog.cellsOf 25 = 5 := by kernel_rfl
theorem cellsInss : Try.prog.cellsOf 23 = 1 := by kernel_rfl

section
variable {H : Type} {enc : TypeId × Value → H} {w : World} {base : Nat} {spare : Nat → Bool} {held : Bool}

theorem open_ins {fuel : Nat} {v : Value} {x : DataW H × List MemPlace} (h : DataW.trod enc Try.prog w base spare held fuel 23 [v] = some x) :
    ∃ s : Sl, v = .slice s.A s.l.length s.cap ∧ SlOk w w.heap.size s := by
  obtain ⟨A, cap, xs, rfl, h1, h2, h3, h4, h5⟩ := open_flat_slice Try.underlying23 flatIns cellsIns (by decide) h
  refine ⟨⟨A, cap, xs.map (fun ns => ⟨ns.getD 0 0, ns.getD 1 0, ns.getD 2 0, ns.getD 3 0, ns.getD 4 0⟩)⟩, by simp, by simpa using h1, h2, h3, ?_⟩
  refine h5.map (fun ns => (⟨ns.getD 0 0, ns.getD 1 0, ns.getD 2 0, ns.getD 3 0, ns.getD 4 0⟩ : Ins)) (fun ns hns => ?_)
  obtain ⟨cs, hr⟩ := h4 ns hns
  obtain ⟨a, ns, rfl, _, cs, hr⟩ := hr.cons_inv
  obtain ⟨b, ns, rfl, _, cs, hr⟩ := hr.cons_inv
  obtain ⟨c, ns, rfl, _, cs, hr⟩ := hr.cons_inv
  obtain ⟨d, ns, rfl, _, cs, hr⟩ := hr.cons_inv
  obtain ⟨e, ns, rfl, _, cs, hr⟩ := hr.cons_inv
  obtain rfl := hr.nil_inv
  rfl

theorem open_parts {fuel : Nat} {v : Value} {x : DataW H × List MemPlace} (h : DataW.trod enc Try.prog w base spare held fuel 22 [v] = some x) :
    ∃ (A : Option Addr) (cap : Nat) (xs : List Sl), v = .slice A xs.length cap ∧ xs.length ≤ cap ∧ cap ≤ maxLen ∧ (A = none → cap = 0) ∧ (∀ o ∈ xs, SlOk w w.heap.size o) ∧ Rd w w.heap.size A 1 encS xs :=
  open_slice_len encS (SlOk w w.heap.size) 1 Try.underlying22 cellsInss (by decide) (fun _ => rfl) (fun _ cs _ hl h => by
    obtain ⟨v, rfl⟩ := List.length_eq_one_iff.1 hl
    obtain ⟨s, rfl, hs⟩ := open_ins h
    exact ⟨s, rfl, hs⟩) h
end

end Go.Proofs.Ythlhjahhjoclfaa
