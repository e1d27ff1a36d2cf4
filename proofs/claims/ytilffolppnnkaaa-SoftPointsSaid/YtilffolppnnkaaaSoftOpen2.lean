/- Arguments of layer 8's laws opened: words, a clash. -/
import Derived.Test.YtilffolppnnkaaaSoft23
import Derived.Test.YtilffolppnnkaaaSoftOpen
namespace Go.Proofs.Ytilffolppnnkaaa
set_option maxRecDepth 100000
open Go.RowKit Go.ChangeShapes Go.WideShapes Go.Deep

theorem cellsClash : Try.prog.cellsOf 25 = 4 := by kernel_rfl
theorem flatU64 : flat Try.prog 8 23 = some [some .u64] := by kernel_rfl

section
variable {H : Type} {enc : TypeId × Value → H} {w : World} {base : Nat} {spare : Nat → Bool} {held : Bool}

theorem open_words {fuel : Nat} {v : Value} {x : DataW H × List MemPlace} (h : DataW.trod enc Try.prog w base spare held fuel 22 [v] = some x) :
    ∃ (A : Option Addr) (cap : Nat) (l : List Int), v = .slice A l.length cap ∧ l.length ≤ cap ∧ cap ≤ maxLen ∧ (A = none → cap = 0) ∧ (∀ y ∈ l, w64ok y) ∧ Rd w w.heap.size A 1 encU l :=
  open_slice_of encU w64ok 1 Try.underlying22 cellsU64 (by decide) (fun _ => rfl) (fun _ _ _ h => by
    obtain ⟨k, e0, _, w0⟩ := DataW.trod_int Try.underlying23 h
    exact ⟨k, e0, w64_of_wf w0⟩) h

theorem open_clash {v : Value} {d : DataW H} {p : List MemPlace} (hv : ∃ cs, v = .agg cs) (h : DataW.Trod enc Try.prog w base spare held 25 v d p) :
    ∃ (a b x : Int) (wr : Bool), v = .agg #[.int .i64 a, .int .i64 b, .int .u64 x, .bool wr] ∧ (Lit.int .i64 a).wf = true ∧ (Lit.int .i64 b).wf = true ∧ w64ok x := by
  obtain ⟨cs, rfl⟩ := hv
  obtain ⟨fuel, hf⟩ := h
  obtain ⟨xs, n, _, _, hlen, hxl, hi⟩ := DataW.trod_struct Try.underlying25 hf
  rw [cellsClash] at hlen
  obtain ⟨c0, c1, c2, c3, hcs⟩ : ∃ c0 c1 c2 c3, cs.toList = [c0, c1, c2, c3] := by
    have hlen' : cs.toList.length = 4 := hlen
    match hc : cs.toList, hlen' with
    | [c0, c1, c2, c3], _ => exact ⟨c0, c1, c2, c3, rfl⟩
  have f0 : DataW.trod enc Try.prog w base spare held n 3 (([c0, c1, c2, c3].drop 0).take (Try.prog.cellsOf 3)) = xs[0]? := hcs ▸ hi 0 _ rfl
  have f1 : DataW.trod enc Try.prog w base spare held n 3 (([c0, c1, c2, c3].drop 1).take (Try.prog.cellsOf 3)) = xs[1]? := hcs ▸ hi 1 _ rfl
  have f2 : DataW.trod enc Try.prog w base spare held n 23 (([c0, c1, c2, c3].drop 2).take (Try.prog.cellsOf 23)) = xs[2]? := hcs ▸ hi 2 _ rfl
  have f3 : DataW.trod enc Try.prog w base spare held n 4 (([c0, c1, c2, c3].drop 3).take (Try.prog.cellsOf 4)) = xs[3]? := hcs ▸ hi 3 _ rfl
  have hx4 : xs.length = 4 := hxl
  rw [List.getElem?_eq_getElem (by omega)] at f0 f1 f2 f3
  rw [cellsInt] at f0 f1
  rw [cellsU64] at f2
  rw [cellsBool] at f3
  obtain ⟨k, e0, _, w0⟩ := DataW.trod_int Try.underlying3 f0
  obtain ⟨a, e1, _, w1⟩ := DataW.trod_int Try.underlying3 f1
  obtain ⟨v, e2, _, w2⟩ := DataW.trod_int Try.underlying23 f2
  obtain ⟨b, e3, _⟩ := DataW.trod_bool Try.underlying4 f3
  simp at e0 e1 e2 e3
  subst e0 e1 e2 e3
  refine ⟨k, a, v, b, ?_, w0, w1, w64_of_wf w2⟩
  have : cs = [Value.int .i64 k, .int .i64 a, .int .u64 v, .bool b].toArray := by rw [← hcs]
  rw [this]
end

end Go.Proofs.Ytilffolppnnkaaa
