/- Arguments of layer 8's laws opened: paths' scripts, and whose turn it is. -/
import Derived.Test.YtilffolppnnkaaaSoftOpen2
import Derived.Test.YtilffolppnnkaaaOpen3
namespace Go.Proofs.Ytilffolppnnkaaa
set_option maxRecDepth 100000
open Go.RowKit Go.ChangeShapes Go.WideShapes Go.Deep

theorem cellsOps : Try.prog.cellsOf 41 = 1 := by kernel_rfl
theorem cellsPaths : Try.prog.cellsOf 71 = 1 := by kernel_rfl
theorem cellsPicks : Try.prog.cellsOf 72 = 1 := by kernel_rfl
theorem cellsU8 : Try.prog.cellsOf 5 = 1 := by kernel_rfl
theorem cellsMix : Try.prog.cellsOf 74 = 3 := by kernel_rfl

/-- A path's script. -/
structure SlO where
  A : Option Addr
  cap : Nat
  xs : List OpV
def encSl (s : SlO) : List Value := [.slice s.A s.xs.length s.cap]
def SlOk (w : World) (s : SlO) : Prop := (∀ o ∈ s.xs, OpOk o) ∧ Rd w w.heap.size s.A 4 encOpV s.xs
def encK (x : Int) : List Value := [.int .u8 x]

section
variable {H : Type} {enc : TypeId × Value → H} {w : World} {base : Nat} {spare : Nat → Bool} {held : Bool}

theorem open_paths {fuel : Nat} {v : Value} {x : DataW H × List MemPlace} (h : DataW.trod enc Try.prog w base spare held fuel 71 [v] = some x) :
    ∃ (A : Option Addr) (cap : Nat) (ps : List SlO), v = .slice A ps.length cap ∧ ps.length ≤ cap ∧ cap ≤ maxLen ∧ (A = none → cap = 0) ∧ (∀ s ∈ ps, SlOk w s) ∧ Rd w w.heap.size A 1 encSl ps :=
  open_slice_len encSl (SlOk w) 1 Try.underlying71 cellsOps (by decide) (fun _ => rfl) (fun fuel cs x hl h => by
    obtain ⟨c, rfl⟩ : ∃ c, cs = [c] := by
      match cs, hl with
      | [c], _ => exact ⟨c, rfl⟩
    obtain ⟨A, cap, xs, rfl, _, _, _, h1, h2⟩ := open_ops h
    exact ⟨⟨A, cap, xs⟩, rfl, h1, h2⟩) h
theorem open_picks {fuel : Nat} {v : Value} {x : DataW H × List MemPlace} (h : DataW.trod enc Try.prog w base spare held fuel 72 [v] = some x) :
    ∃ (A : Option Addr) (cap : Nat) (ks : List Int), v = .slice A ks.length cap ∧ ks.length ≤ cap ∧ cap ≤ maxLen ∧ (A = none → cap = 0) ∧ (∀ y ∈ ks, (Lit.int .u8 y).wf = true) ∧ Rd w w.heap.size A 1 encK ks :=
  open_slice_of encK (fun y => (Lit.int .u8 y).wf = true) 1 Try.underlying72 cellsU8 (by decide) (fun _ => rfl) (fun _ _ _ h => by
    obtain ⟨k, e0, _, w0⟩ := DataW.trod_int Try.underlying5 h
    exact ⟨k, e0, w0⟩) h

theorem open_mix {v : Value} {d : DataW H} {p : List MemPlace} (hv : ∃ cs, v = .agg cs) (h : DataW.Trod enc Try.prog w base spare held 74 v d p) :
    ∃ (q : Int) (A : Option Addr) (cap : Nat) (ps : List SlO) (B : Option Addr) (cap' : Nat) (ks : List Int), v = .agg #[.int .u64 q, .slice A ps.length cap, .slice B ks.length cap'] ∧ w64ok q ∧
      (∀ s ∈ ps, SlOk w s) ∧ Rd w w.heap.size A 1 encSl ps ∧ (∀ y ∈ ks, (Lit.int .u8 y).wf = true) ∧ Rd w w.heap.size B 1 encK ks := by
  obtain ⟨cs, rfl⟩ := hv
  obtain ⟨fuel, hf⟩ := h
  obtain ⟨xs, n, _, _, hlen, hxl, hi⟩ := DataW.trod_struct Try.underlying74 hf
  rw [cellsMix] at hlen
  obtain ⟨c0, c1, c2, hcs⟩ : ∃ c0 c1 c2, cs.toList = [c0, c1, c2] := by
    have hlen' : cs.toList.length = 3 := hlen
    match hc : cs.toList, hlen' with
    | [c0, c1, c2], _ => exact ⟨c0, c1, c2, rfl⟩
  have f0 : DataW.trod enc Try.prog w base spare held n 23 (([c0, c1, c2].drop 0).take (Try.prog.cellsOf 23)) = xs[0]? := hcs ▸ hi 0 _ rfl
  have f1 : DataW.trod enc Try.prog w base spare held n 71 (([c0, c1, c2].drop 1).take (Try.prog.cellsOf 71)) = xs[1]? := hcs ▸ hi 1 _ rfl
  have f2 : DataW.trod enc Try.prog w base spare held n 72 (([c0, c1, c2].drop 2).take (Try.prog.cellsOf 72)) = xs[2]? := hcs ▸ hi 2 _ rfl
  have hx3 : xs.length = 3 := hxl
  rw [List.getElem?_eq_getElem (by omega)] at f0 f1 f2
  rw [cellsU64] at f0
  rw [cellsPaths] at f1
  rw [cellsPicks] at f2
  obtain ⟨q, e0, _, w0⟩ := DataW.trod_int Try.underlying23 f0
  obtain ⟨A, cap, ps, e1, _, _, _, h1, r1⟩ := open_paths f1
  obtain ⟨B, cap', ks, e2, _, _, _, h2, r2⟩ := open_picks f2
  simp at e0
  subst e0 e1 e2
  refine ⟨q, A, cap, ps, B, cap', ks, ?_, w64_of_wf w0, h1, r1, h2, r2⟩
  have : cs = [Value.int .u64 q, .slice A ps.length cap, .slice B ks.length cap'].toArray := by rw [← hcs]
  rw [this]
end

end Go.Proofs.Ytilffolppnnkaaa
