/- MemStays: for every input the law returns true, and what came in reads as it did. -/
import Derived.Test.YtajgbhfhppendaaMem4
import Derived.Test.YtajgbhfhppendaaOpen
namespace Go.Proofs.Ytajgbhfhppendaa
open Go.ChangeShapes Go.WideShapes Go.ChangeAt Go.RowKit

theorem MemStays_own : ownKnob Try.prog.godebug = none := by kernel_rfl
theorem MemStays_laid : laidOutB Try.prog = true := by kernel_rfl
theorem MemStays_types : ∀ t ∈ Try.f3.params.toList, Try.prog.readableRec t = true ∧ t < Try.prog.types.size := by
  have h : (Try.f3.params.toList.all fun t => Try.prog.readableRec t && decide (t < Try.prog.types.size)) = true := by kernel_rfl
  intro t ht
  have := List.all_eq_true.1 h t ht
  simpa using this
theorem MemStays_flat0 : flat Try.prog 8 31 = some [some .i64, some .u64] := by kernel_rfl
theorem MemStays_cells0 : Try.prog.cellsOf 31 = 2 := by kernel_rfl

set_option maxRecDepth 100000 in
set_option maxHeartbeats 1000000 in
theorem MemStays_lifted (os : Os) (started : os.Started) (H : Type) (enc : TypeId × Value → H) :
    ReturnsInHanded {} Try.checked os 3 .any (Rows.memStaysSpec.pre6 enc Try.prog Try.f3 Rows.memStaysRow.domain false) (Rows.memStaysSpec.post enc Try.prog Try.f3 false true false false) := by
  refine returnsInHanded_of_change (C := Try.checked) MemStays_own started (by kernel_rfl) Try.func3
    (ChangeSpec.witness6 (enc := enc) (C := Try.checked) false ⟨#[], #[.slice none 0 0, .int .i64 0, .int .i64 0], []⟩ 8 (by kernel_rfl) (by kernel_rfl) (by kernel_rfl) (by kernel_rfl)) ?_
  intro W base args ds gs before hval0 hW hcnd _
  have hval : ∀ (j : Nat) t v, Try.f3.params[j]? = some t → args[j]? = some v → Value.okWide Try.prog W .any base t v := hval0
  have hW' := hW
  obtain ⟨p, q, hA0, hV, rfl, hfz, hnd⟩ := hW
  have hA : DataW.TrodAll enc Try.prog W 0 (fun _ => true) true Try.f3.params.toList args.toList ds p := hA0
  have hAk := hA
  rw [Try.params3] at hA hval
  obtain ⟨v0, vs0, d0, ds0, p0, q0, hargs, rfl, rfl, h0, r0⟩ := trodAll_cons hA
  obtain ⟨v1, vs1, d1, ds1, p1, q1, rfl, rfl, rfl, h1, r1⟩ := trodAll_cons r0
  obtain ⟨v2, vs2, d2, ds2, p2, q2, rfl, rfl, rfl, h2, r2⟩ := trodAll_cons r1
  obtain ⟨rfl, rfl, rfl⟩ := trodAll_nil r2
  obtain rfl : args = #[v0, v1, v2] := by cases args; simp_all
  obtain ⟨rfl, rfl⟩ := trodVars_none hV
  obtain ⟨A0, len0, cap0, rfl⟩ := okWide_slice Try.underlying22 (hval 0 22 v0 rfl rfl)
  obtain ⟨fuel0, hf0⟩ := h0
  obtain ⟨A0', cap0', xs0, hv0, hcl0, hcm0, _, hfl0, hR0⟩ := open_flat_slice Try.underlying22 MemStays_flat0 MemStays_cells0 (by decide) hf0
  obtain ⟨rfl, rfl, rfl⟩ : A0 = A0' ∧ len0 = xs0.length ∧ cap0 = cap0' := by simpa using hv0
  obtain ⟨a1, rfl, rfl, rfl, w1⟩ := open_int Try.underlying3 (hval 1 3 v1 rfl rfl) h1
  obtain ⟨a2, rfl, rfl, rfl, w2⟩ := open_int Try.underlying3 (hval 2 3 v2 rfl rfl) h2

  have key : Calls Try.prog 3 #[.slice A0 xs0.length cap0, .int .i64 a1, .int .i64 a2] W (StaysPost W) := by
    have hp : ∀ ns ∈ xs0, ∃ q : Int × Int, ns = [q.1, q.2] ∧ i64ok q.1 := by
      intro ns hns
      obtain ⟨cs, hr⟩ := hfl0 ns hns
      obtain ⟨x, ns, rfl, hx, cs, hr⟩ := hr.cons_inv
      obtain ⟨y, ns, rfl, hy, cs, hr⟩ := hr.cons_inv
      obtain rfl := hr.nil_inv
      exact ⟨(x, y), rfl, i64ok_of hx⟩
    have hm := hR0.map (enc' := encPair) (fun ns => (ns.getD 0 0, ns.getD 1 0)) (fun ns hns => by obtain ⟨q, rfl, _⟩ := hp ns hns; rfl)
    have := MemStays_any W A0 cap0 (xs0.map fun ns => (ns.getD 0 0, ns.getD 1 0)) a1 a2 hm (by
      intro q hq
      obtain ⟨ns, hns, rfl⟩ := List.mem_map.1 hq
      obtain ⟨q, rfl, ho⟩ := hp ns hns
      exact ho) (i64ok_of w1) (i64ok_of w2)
    simpa using this
  refine key.mono fun e W' ⟨he, bel⟩ => ?_
  subst he
  exact ⟨_, rfl, _, _, _, [], _, [], hW', trodAll_mk1 (shut_bool Try.underlying4 _), trodAll_below MemStays_laid bel MemStays_types hAk, rfl, bel.frame _, fun h => by cases h⟩

theorem MemStays_holds : Rows.MemStaysSaid :=
  OpenClaim.holds_of_wide 3 Try.f3 rfl rfl rfl rfl rfl rfl rfl ⟨rfl, rfl, rfl, rfl, rfl⟩ rfl rfl rfl rfl rfl (by kernel_rfl) Try.func3 (by kernel_rfl)
    (of_decide_eq_true (by kernel_rfl)) (by unfold Func.isWrapper; first | (rw [if_pos (by decide +kernel)]; kernel_rfl) | (rw [if_neg (by decide +kernel)]; exact ⟨rfl, rfl⟩))
    (fun os started H enc _ => MemStays_lifted os started H enc)

end Go.Proofs.Ytajgbhfhppendaa
