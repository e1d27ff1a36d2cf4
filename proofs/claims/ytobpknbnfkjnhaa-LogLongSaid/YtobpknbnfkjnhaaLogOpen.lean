/- Arguments of logs' laws opened: calls, slices of them. -/
import Derived.Test.YtobpknbnfkjnhaaLog7
import Derived.Test.YtobpknbnfkjnhaaOpen2
namespace Go.Proofs.Ytobpknbnfkjnhaa
open Go.RowKit Go.ChangeShapes Go.WideShapes Go.Deep

theorem flatPair : flat Try.prog 8 39 = some [some .i64, some .u64] := by kernel_rfl
theorem cellsPair : Try.prog.cellsOf 39 = 2 := by kernel_rfl
theorem cellsInt : Try.prog.cellsOf 3 = 1 := by kernel_rfl
theorem cellsU64 : Try.prog.cellsOf 23 = 1 := by kernel_rfl
theorem cellsPairs : Try.prog.cellsOf 24 = 1 := by kernel_rfl
theorem cellsOp : Try.prog.cellsOf 26 = 4 := by kernel_rfl

theorem NRd.of_rd {w : World} {B : Nat} {A : Option Addr} {l : PL} (h : Rd w B A 2 encP l) : NRd w A B l := fun k hk => by
  obtain ⟨b, off, e, hb, hc⟩ := h (by omega)
  refine ⟨b, off, e, hb, ?_, ?_⟩
  · have : w.cell? ⟨b, off + k * 2, none⟩ = some (.int .i64 l[k].1) := hc k hk 0 (by decide)
    rw [this]; simp [hk]
  · have : w.cell? ⟨b, off + k * 2 + 1, none⟩ = some (.int .u64 l[k].2) := hc k hk 1 (by decide)
    rw [this]; simp [hk]

section
variable {H : Type} {enc : TypeId × Value → H} {w : World} {base : Nat} {spare : Nat → Bool} {held : Bool}

theorem open_pairs {fuel : Nat} {v : Value} {x : DataW H × List MemPlace} (h : DataW.trod enc Try.prog w base spare held fuel 24 [v] = some x) :
    ∃ (A : Option Addr) (cap : Nat) (l : PL), v = .slice A l.length cap ∧ l.length ≤ cap ∧ cap ≤ maxLen ∧ (A = none → cap = 0) ∧ PairsOk l ∧ Rd w w.heap.size A 2 encP l := by
  obtain ⟨A, cap, xs, rfl, h1, h2, h3, h4, h5⟩ := open_flat_slice Try.underlying24 flatPair cellsPair (by decide) h
  have hp : ∀ ns ∈ xs, ∃ q : Int × Int, ns = [q.1, q.2] ∧ (Lit.int .i64 q.1).wf = true ∧ (Lit.int .u64 q.2).wf = true := by
    intro ns hns
    obtain ⟨cs, hr⟩ := h4 ns hns
    obtain ⟨y, ns, rfl, wy, cs, hr⟩ := hr.cons_inv
    obtain ⟨z, ns, rfl, wz, cs, hr⟩ := hr.cons_inv
    obtain rfl := hr.nil_inv
    exact ⟨(y, z), rfl, wy, wz⟩
  refine ⟨A, cap, xs.map (fun ns => (ns.getD 0 0, ns.getD 1 0)), by rw [List.length_map], by rw [List.length_map]; exact h1, h2, h3, ?_, ?_⟩
  · intro p hp'
    obtain ⟨ns, hns, rfl⟩ := List.mem_map.1 hp'
    obtain ⟨q, rfl, w1, w2⟩ := hp ns hns
    exact ⟨w1, w2⟩
  · exact h5.map (fun ns => (ns.getD 0 0, ns.getD 1 0)) (fun ns hns => by obtain ⟨q, rfl, _⟩ := hp ns hns; rfl)

theorem open_op {fuel : Nat} {cs : List Value} {x : DataW H × List MemPlace} (h : DataW.trod enc Try.prog w base spare held fuel 26 cs = some x) : ∃ o : OpV, cs = encOpV o ∧ OpOk w o := by
  obtain ⟨xs, n, _, _, hlen, hxl, hi⟩ := DataW.trod_struct Try.underlying26 h
  rw [cellsOp] at hlen
  obtain ⟨c0, c1, c2, c3, rfl⟩ : ∃ c0 c1 c2 c3, cs = [c0, c1, c2, c3] := by
    match cs, hlen with
    | [c0, c1, c2, c3], _ => exact ⟨c0, c1, c2, c3, rfl⟩
  have f0 : DataW.trod enc Try.prog w base spare held n 3 (([c0, c1, c2, c3].drop 0).take (Try.prog.cellsOf 3)) = xs[0]? := hi 0 _ rfl
  have f1 : DataW.trod enc Try.prog w base spare held n 3 (([c0, c1, c2, c3].drop 1).take (Try.prog.cellsOf 3)) = xs[1]? := hi 1 _ rfl
  have f2 : DataW.trod enc Try.prog w base spare held n 23 (([c0, c1, c2, c3].drop 2).take (Try.prog.cellsOf 23)) = xs[2]? := hi 2 _ rfl
  have f3 : DataW.trod enc Try.prog w base spare held n 24 (([c0, c1, c2, c3].drop 3).take (Try.prog.cellsOf 24)) = xs[3]? := hi 3 _ rfl
  have hx4 : xs.length = 4 := hxl
  rw [List.getElem?_eq_getElem (by omega)] at f0 f1 f2 f3
  rw [cellsInt] at f0 f1
  rw [cellsU64] at f2
  rw [cellsPairs] at f3
  obtain ⟨k, e0, _, w0⟩ := DataW.trod_int Try.underlying3 f0
  obtain ⟨a, e1, _, w1⟩ := DataW.trod_int Try.underlying3 f1
  obtain ⟨v, e2, _, w2⟩ := DataW.trod_int Try.underlying23 f2
  simp at e0 e1 e2
  subst e0 e1 e2
  obtain ⟨nA, ncap, now, hv, h1, h2, h3, h4, h5⟩ := open_pairs f3
  subst hv
  exact ⟨⟨k, a, v, nA, ncap, now⟩, rfl, w1, w2, Nat.le_trans h1 h2, h4, NRd.of_rd h5⟩

theorem open_opv {v : Value} {d : DataW H} {p : List MemPlace} (hv : ∃ cs, v = .agg cs) (h : DataW.Trod enc Try.prog w base spare held 26 v d p) : ∃ o : OpV, v = .agg #[.int .i64 o.k, .int .i64 o.a, .int .u64 o.v, .slice o.nA o.now.length o.ncap] ∧ OpOk w o := by
  obtain ⟨cs, rfl⟩ := hv
  obtain ⟨fuel, hf⟩ := h
  obtain ⟨o, ho, hk⟩ := open_op hf
  refine ⟨o, ?_, hk⟩
  have ho' : cs.toList = encOpV o := ho
  have : cs = (encOpV o).toArray := by rw [← ho']
  rw [this]; rfl

theorem open_ops {fuel : Nat} {v : Value} {x : DataW H × List MemPlace} (h : DataW.trod enc Try.prog w base spare held fuel 22 [v] = some x) :
    ∃ (A : Option Addr) (cap : Nat) (xs : List OpV), v = .slice A xs.length cap ∧ xs.length ≤ cap ∧ cap ≤ maxLen ∧ (A = none → cap = 0) ∧ (∀ o ∈ xs, OpOk w o) ∧ Rd w w.heap.size A 4 encOpV xs :=
  open_slice_of encOpV (OpOk w) 4 Try.underlying22 cellsOp (by decide) (fun _ => rfl) (fun _ _ _ h => open_op h) h
end

end Go.Proofs.Ytobpknbnfkjnhaa
