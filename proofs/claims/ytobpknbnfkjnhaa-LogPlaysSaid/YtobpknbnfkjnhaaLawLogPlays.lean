/- LogPlays: for every input the law returns true, and what came in reads as it did. -/
import Derived.Test.YtobpknbnfkjnhaaLogR15
import Derived.Test.YtobpknbnfkjnhaaLogOpen2
import Derived.Test.YtobpknbnfkjnhaaLog11
import Derived.Test.YtobpknbnfkjnhaaOpen
namespace Go.Proofs.Ytobpknbnfkjnhaa
open Go.ChangeShapes Go.WideShapes Go.ChangeAt Go.RowKit

theorem LogPlays_own : ownKnob Try.prog.godebug = none := by kernel_rfl
theorem LogPlays_laid : laidOutB Try.prog = true := by kernel_rfl
theorem LogPlays_types : ∀ t ∈ Try.f6.params.toList, Try.prog.readableRec t = true ∧ t < Try.prog.types.size := by
  have h : (Try.f6.params.toList.all fun t => Try.prog.readableRec t && decide (t < Try.prog.types.size)) = true := by kernel_rfl
  intro t ht
  have := List.all_eq_true.1 h t ht
  simpa using this

set_option maxRecDepth 100000 in
set_option maxHeartbeats 1000000 in
theorem LogPlays_lifted (os : Os) (started : os.Started) (H : Type) (enc : TypeId × Value → H) :
    ReturnsInHanded {} Try.checked os 6 .any (Rows.logPlaysSpec.pre6 enc Try.prog Try.f6 Rows.logPlaysRow.domain false) (Rows.logPlaysSpec.post enc Try.prog Try.f6 false true false false) := by
  refine returnsInHanded_of_change (C := Try.checked) LogPlays_own started (by kernel_rfl) Try.func6
    (ChangeSpec.witness6 (enc := enc) (C := Try.checked) false ⟨#[], #[.slice none 0 0], []⟩ 8 (by kernel_rfl) (by kernel_rfl) (by kernel_rfl) (by kernel_rfl)) ?_
  intro W base args ds gs before hval0 hW hcnd _
  have hval : ∀ (j : Nat) t v, Try.f6.params[j]? = some t → args[j]? = some v → Value.okWide Try.prog W .any base t v := hval0
  have hW' := hW
  obtain ⟨p, q, hA0, hV, rfl, hfz, hnd⟩ := hW
  have hA : DataW.TrodAll enc Try.prog W 0 (fun _ => true) true Try.f6.params.toList args.toList ds p := hA0
  have hAk := hA
  rw [Try.params6] at hA hval
  obtain ⟨v0, vs0, d0, ds0, p0, q0, hargs, rfl, rfl, h0, r0⟩ := trodAll_cons hA
  obtain ⟨rfl, rfl, rfl⟩ := trodAll_nil r0
  obtain rfl : args = #[v0] := by cases args; simp_all
  obtain ⟨rfl, rfl⟩ := trodVars_none hV
  obtain ⟨A0, len0, cap0, rfl⟩ := okWide_slice Try.underlying22 (hval 0 22 v0 rfl rfl)
  obtain ⟨fuel0, hf0⟩ := h0
  obtain ⟨A0', cap0', xs0, hv0, hcl0, hcm0, _, hq0, hR0⟩ := open_ops2 hf0
  obtain ⟨rfl, rfl, rfl⟩ : A0 = A0' ∧ len0 = xs0.length ∧ cap0 = cap0' := by simpa using hv0

  have key : Calls Try.prog 6 #[.slice A0 xs0.length cap0] W (StaysPost W) :=
    LogPlays_any W A0 cap0 xs0 hR0 hq0 (Nat.le_trans hcl0 hcm0)
  refine key.mono fun e W' ⟨he, bel⟩ => ?_
  subst he
  exact ⟨_, rfl, _, _, _, [], _, [], hW', trodAll_mk1 (shut_bool Try.underlying4 _), trodAll_below LogPlays_laid bel LogPlays_types hAk, rfl, bel.frame _, fun h => by cases h⟩

theorem LogPlays_holds : Rows.LogPlaysSaid :=
  OpenClaim.holds_of_wide 6 Try.f6 rfl rfl rfl rfl rfl rfl rfl ⟨rfl, rfl, rfl, rfl, rfl⟩ rfl rfl rfl rfl rfl (by kernel_rfl) Try.func6 (by kernel_rfl)
    (of_decide_eq_true (by kernel_rfl)) (by unfold Func.isWrapper; first | (rw [if_pos (by decide +kernel)]; kernel_rfl) | (rw [if_neg (by decide +kernel)]; exact ⟨rfl, rfl⟩))
    (fun os started H enc _ => LogPlays_lifted os started H enc)

end Go.Proofs.Ytobpknbnfkjnhaa
