/- Arguments of layer 8's laws opened: paths' scripts, with how many there may be. -/
import Derived.Test.YtilffolppnnkaaaSoftOpen3
namespace Go.Proofs.Ytilffolppnnkaaa
set_option maxRecDepth 100000
open Go.RowKit Go.ChangeShapes Go.WideShapes Go.Deep

section
variable {H : Type} {enc : TypeId × Value → H} {w : World} {base : Nat} {spare : Nat → Bool} {held : Bool}

theorem open_mixL {v : Value} {d : DataW H} {p : List MemPlace} (hv : ∃ cs, v = .agg cs) (h : DataW.Trod enc Try.prog w base spare held 74 v d p) :
    ∃ (q : Int) (A : Option Addr) (cap : Nat) (ps : List SlO) (B : Option Addr) (cap' : Nat) (ks : List Int), v = .agg #[.int .u64 q, .slice A ps.length cap, .slice B ks.length cap'] ∧ w64ok q ∧
      (∀ s ∈ ps, SlOk w s) ∧ Rd w w.heap.size A 1 encSl ps ∧ (∀ y ∈ ks, (Lit.int .u8 y).wf = true) ∧ Rd w w.heap.size B 1 encK ks ∧ ps.length ≤ maxLen := by
  obtain ⟨cs, rfl⟩ := hv
  obtain ⟨fuel, hf⟩ := h
  obtain ⟨xs, n, _, _, hlen, hxl, hi⟩ := DataW.trod_struct Try.underlying74 hf
  rw [cellsMix] at hlen
  obtain ⟨c0, c1, c2, hcs⟩ : ∃ c0 c1 c2, cs.toList = [c0, c1, c2] := by
    have hlen' : cs.toList.length = 3 := hlen
    match hc : cs.toList, hlen' with
    | [c0, c1, c2], _ => exact ⟨c0, c1, c2, rfl⟩
  have f0 : DataW.trod enc Try.prog w base spare held n 23 (([c0, c1, c2].drop 0).take (Try.prog.cellsOf 23)) = xs[0]? := hcs ▸ hi 0 _ rfl
  have f1 : DataW.trod enc Try.prog w base spare held n 71 (([c0, c1, c2].drop 1).take (Try.prog.cellsOf 71)) = xs[1]? := hcs ▸ hi 1 _ rfl
  have f2 : DataW.trod enc Try.prog w base spare held n 72 (([c0, c1, c2].drop 2).take (Try.prog.cellsOf 72)) = xs[2]? := hcs ▸ hi 2 _ rfl
  have hx3 : xs.length = 3 := hxl
  rw [List.getElem?_eq_getElem (by omega)] at f0 f1 f2
  rw [cellsU64] at f0
  rw [cellsPaths] at f1
  rw [cellsPicks] at f2
  obtain ⟨q, e0, _, w0⟩ := DataW.trod_int Try.underlying23 f0
  obtain ⟨A, cap, ps, e1, m1, m2, _, h1, r1⟩ := open_paths f1
  obtain ⟨B, cap', ks, e2, _, _, _, h2, r2⟩ := open_picks f2
  simp at e0
  subst e0 e1 e2
  refine ⟨q, A, cap, ps, B, cap', ks, ?_, w64_of_wf w0, h1, r1, h2, r2, Nat.le_trans m1 m2⟩
  have : cs = [Value.int .u64 q, .slice A ps.length cap, .slice B ks.length cap'].toArray := by rw [← hcs]
  rw [this]
end

end Go.Proofs.Ytilffolppnnkaaa
