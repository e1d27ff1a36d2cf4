/- SoftPoints: for every input the law returns true, and what came in reads as it did. -/
import Derived.Test.YtilffolppnnkaaaSoft47
import Derived.Test.YtilffolppnnkaaaSoftOpen4
import Derived.Test.YtilffolppnnkaaaOpen
namespace Go.Proofs.Ytilffolppnnkaaa
open Go.ChangeShapes Go.WideShapes Go.ChangeAt Go.RowKit

theorem SoftPoints_own : ownKnob Try.prog.godebug = none := by kernel_rfl
theorem SoftPoints_laid : laidOutB Try.prog = true := by kernel_rfl
theorem SoftPoints_types : ∀ t ∈ Try.f9.params.toList, Try.prog.readableRec t = true ∧ t < Try.prog.types.size := by
  have h : (Try.f9.params.toList.all fun t => Try.prog.readableRec t && decide (t < Try.prog.types.size)) = true := by kernel_rfl
  intro t ht
  have := List.all_eq_true.1 h t ht
  simpa using this

set_option maxRecDepth 100000 in
set_option maxHeartbeats 1000000 in
theorem SoftPoints_lifted (os : Os) (started : os.Started) (H : Type) (enc : TypeId × Value → H) :
    ReturnsInHanded {} Try.checked os 9 .any (Rows.softPointsSpec.pre6 enc Try.prog Try.f9 Rows.softPointsRow.domain false) (Rows.softPointsSpec.post enc Try.prog Try.f9 false true false false) := by
  refine returnsInHanded_of_change (C := Try.checked) SoftPoints_own started (by kernel_rfl) Try.func9
    (ChangeSpec.witness6 (enc := enc) (C := Try.checked) false ⟨#[], #[.slice none 0 0, .agg #[.int .u64 0, .slice none 0 0, .slice none 0 0]], []⟩ 8 (by kernel_rfl) (by kernel_rfl) (by kernel_rfl) (by kernel_rfl)) ?_
  intro W base args ds gs before hval0 hW hcnd _
  have hval : ∀ (j : Nat) t v, Try.f9.params[j]? = some t → args[j]? = some v → Value.okWide Try.prog W .any base t v := hval0
  have hW' := hW
  obtain ⟨p, q, hA0, hV, rfl, hfz, hnd⟩ := hW
  have hA : DataW.TrodAll enc Try.prog W 0 (fun _ => true) true Try.f9.params.toList args.toList ds p := hA0
  have hAk := hA
  rw [Try.params9] at hA hval
  obtain ⟨v0, vs0, d0, ds0, p0, q0, hargs, rfl, rfl, h0, r0⟩ := trodAll_cons hA
  obtain ⟨v1, vs1, d1, ds1, p1, q1, rfl, rfl, rfl, h1, r1⟩ := trodAll_cons r0
  obtain ⟨rfl, rfl, rfl⟩ := trodAll_nil r1
  obtain rfl : args = #[v0, v1] := by cases args; simp_all
  obtain ⟨rfl, rfl⟩ := trodVars_none hV
  obtain ⟨A0, len0, cap0, rfl⟩ := okWide_slice Try.underlying22 (hval 0 22 v0 rfl rfl)
  obtain ⟨fuel0, hf0⟩ := h0
  obtain ⟨A0', cap0', xs0, hv0, hcl0, hcm0, _, hq0, hR0⟩ := open_words hf0
  obtain ⟨rfl, rfl, rfl⟩ : A0 = A0' ∧ len0 = xs0.length ∧ cap0 = cap0' := by simpa using hv0
  obtain ⟨xq1, xA1, xc1, xp1, xB1, xd1, xk1, rfl, hq1⟩ := open_mixL (okWide_struct' Try.underlying74 (hval 1 74 v1 rfl rfl)) h1

  have key : Calls Try.prog 9 #[.slice A0 xs0.length cap0, .agg #[.int .u64 xq1, .slice xA1 xp1.length xc1, .slice xB1 xk1.length xd1]] W (StaysPost W) :=
    SoftPoints_any W A0 cap0 xs0 xq1 xA1 xc1 xp1 xB1 xd1 xk1 hq0 hR0 hq1.1 hq1.2.1 hq1.2.2.1 hq1.2.2.2.1 hq1.2.2.2.2.1 hq1.2.2.2.2.2
  refine key.mono fun e W' ⟨he, bel⟩ => ?_
  subst he
  exact ⟨_, rfl, _, _, _, [], _, [], hW', trodAll_mk1 (shut_bool Try.underlying4 _), trodAll_below SoftPoints_laid bel SoftPoints_types hAk, rfl, bel.frame _, fun h => by cases h⟩

theorem SoftPoints_holds : Rows.SoftPointsSaid :=
  OpenClaim.holds_of_wide 9 Try.f9 rfl rfl rfl rfl rfl rfl rfl ⟨rfl, rfl, rfl, rfl, rfl⟩ rfl rfl rfl rfl rfl (by kernel_rfl) Try.func9 (by kernel_rfl)
    (of_decide_eq_true (by kernel_rfl)) (by unfold Func.isWrapper; first | (rw [if_pos (by decide +kernel)]; kernel_rfl) | (rw [if_neg (by decide +kernel)]; exact ⟨rfl, rfl⟩))
    (fun os started H enc _ => SoftPoints_lifted os started H enc)

end Go.Proofs.Ytilffolppnnkaaa
