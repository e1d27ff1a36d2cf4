/- SchedActed: for every input the law returns true, and what came in reads as it did. -/
import Derived.Test.YtagfalnfjiodcaaSched32
import Derived.Test.YtagfalnfjiodcaaSchedOpen
import Derived.Test.YtagfalnfjiodcaaOpen
namespace Go.Proofs.Ytagfalnfjiodcaa
open Go.ChangeShapes Go.WideShapes Go.ChangeAt Go.RowKit

theorem SchedActed_own : ownKnob Try.prog.godebug = none := by kernel_rfl
theorem SchedActed_laid : laidOutB Try.prog = true := by kernel_rfl
theorem SchedActed_types : ∀ t ∈ Try.f10.params.toList, Try.prog.readableRec t = true ∧ t < Try.prog.types.size := by
  have h : (Try.f10.params.toList.all fun t => Try.prog.readableRec t && decide (t < Try.prog.types.size)) = true := by kernel_rfl
  intro t ht
  have := List.all_eq_true.1 h t ht
  simpa using this
theorem SchedActed_flat0 : flat Try.prog 8 3 = some [some .i64] := by kernel_rfl
theorem SchedActed_cells0 : Try.prog.cellsOf 3 = 1 := by kernel_rfl

set_option maxRecDepth 100000 in
set_option maxHeartbeats 1000000 in
theorem SchedActed_lifted (os : Os) (started : os.Started) (H : Type) (enc : TypeId × Value → H) :
    ReturnsInHanded {} Try.checked os 10 .any (Rows.schedActedSpec.pre6 enc Try.prog Try.f10 Rows.schedActedRow.domain false) (Rows.schedActedSpec.post enc Try.prog Try.f10 false true false false) := by
  refine returnsInHanded_of_change (C := Try.checked) SchedActed_own started (by kernel_rfl) Try.func10
    (ChangeSpec.witness6 (enc := enc) (C := Try.checked) false ⟨#[], #[.slice none 0 0, .int .i64 0], []⟩ 8 (by kernel_rfl) (by kernel_rfl) (by kernel_rfl) (by kernel_rfl)) ?_
  intro W base args ds gs before hval0 hW hcnd _
  have hval : ∀ (j : Nat) t v, Try.f10.params[j]? = some t → args[j]? = some v → Value.okWide Try.prog W .any base t v := hval0
  have hW' := hW
  obtain ⟨p, q, hA0, hV, rfl, hfz, hnd⟩ := hW
  have hA : DataW.TrodAll enc Try.prog W 0 (fun _ => true) true Try.f10.params.toList args.toList ds p := hA0
  have hAk := hA
  rw [Try.params10] at hA hval
  obtain ⟨v0, vs0, d0, ds0, p0, q0, hargs, rfl, rfl, h0, r0⟩ := trodAll_cons hA
  obtain ⟨v1, vs1, d1, ds1, p1, q1, rfl, rfl, rfl, h1, r1⟩ := trodAll_cons r0
  obtain ⟨rfl, rfl, rfl⟩ := trodAll_nil r1
  obtain rfl : args = #[v0, v1] := by cases args; simp_all
  obtain ⟨rfl, rfl⟩ := trodVars_none hV
  obtain ⟨A0, len0, cap0, rfl⟩ := okWide_slice Try.underlying23 (hval 0 23 v0 rfl rfl)
  obtain ⟨fuel0, hf0⟩ := h0
  obtain ⟨A0', cap0', xs0, hv0, hcl0, hcm0, hA00, hfl0, hR0⟩ := open_flat_slice Try.underlying23 SchedActed_flat0 SchedActed_cells0 (by decide) hf0
  obtain ⟨rfl, rfl, rfl⟩ : A0 = A0' ∧ len0 = xs0.length ∧ cap0 = cap0' := by simpa using hv0
  obtain ⟨a1, rfl, rfl, rfl, w1⟩ := open_int Try.underlying3 (hval 1 3 v1 rfl rfl) h1

  have key : Calls Try.prog 10 #[.slice A0 xs0.length cap0, .int .i64 a1] W (StaysPost W) := by
    have := SchedActed_any W A0 cap0 (xs0.map one0) a1 (numsA_of_rd hR0 hfl0) (by rw [List.length_map]; omega)
    rw [List.length_map] at this
    exact this
  refine key.mono fun e W' ⟨he, bel⟩ => ?_
  subst he
  exact ⟨_, rfl, _, _, _, [], _, [], hW', trodAll_mk1 (shut_bool Try.underlying4 _), trodAll_below SchedActed_laid bel SchedActed_types hAk, rfl, bel.frame _, fun h => by cases h⟩

theorem SchedActed_holds : Rows.SchedActedSaid :=
  OpenClaim.holds_of_wide 10 Try.f10 rfl rfl rfl rfl rfl rfl rfl ⟨rfl, rfl, rfl, rfl, rfl⟩ rfl rfl rfl rfl rfl (by kernel_rfl) Try.func10 (by kernel_rfl)
    (of_decide_eq_true (by kernel_rfl)) (by unfold Func.isWrapper; first | (rw [if_pos (by decide +kernel)]; kernel_rfl) | (rw [if_neg (by decide +kernel)]; exact ⟨rfl, rfl⟩))
    (fun os started H enc _ => SchedActed_lifted os started H enc)

end Go.Proofs.Ytagfalnfjiodcaa
