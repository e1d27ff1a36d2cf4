/- SoftAlone: for every input the law returns true, and what came in reads as it did. -/
import Derived.Test.YtilffolppnnkaaaSoft41
import Derived.Test.YtilffolppnnkaaaSoftOpen
import Derived.Test.YtilffolppnnkaaaSoftOpen2
import Derived.Test.YtilffolppnnkaaaOpen
namespace Go.Proofs.Ytilffolppnnkaaa
open Go.ChangeShapes Go.WideShapes Go.ChangeAt Go.RowKit

theorem SoftAlone_own : ownKnob Try.prog.godebug = none := by kernel_rfl
theorem SoftAlone_laid : laidOutB Try.prog = true := by kernel_rfl
theorem SoftAlone_types : ∀ t ∈ Try.f4.params.toList, Try.prog.readableRec t = true ∧ t < Try.prog.types.size := by
  have h : (Try.f4.params.toList.all fun t => Try.prog.readableRec t && decide (t < Try.prog.types.size)) = true := by kernel_rfl
  intro t ht
  have := List.all_eq_true.1 h t ht
  simpa using this

set_option maxRecDepth 100000 in
set_option maxHeartbeats 1000000 in
theorem SoftAlone_lifted (os : Os) (started : os.Started) (H : Type) (enc : TypeId × Value → H) :
    ReturnsInHanded {} Try.checked os 4 .any (Rows.softAloneSpec.pre6 enc Try.prog Try.f4 Rows.softAloneRow.domain false) (Rows.softAloneSpec.post enc Try.prog Try.f4 false true false false) := by
  refine returnsInHanded_of_change (C := Try.checked) SoftAlone_own started (by kernel_rfl) Try.func4
    (ChangeSpec.witness6 (enc := enc) (C := Try.checked) false ⟨#[], #[.slice none 0 0, .int .u64 0, .slice none 0 0], []⟩ 8 (by kernel_rfl) (by kernel_rfl) (by kernel_rfl) (by kernel_rfl)) ?_
  intro W base args ds gs before hval0 hW hcnd _
  have hval : ∀ (j : Nat) t v, Try.f4.params[j]? = some t → args[j]? = some v → Value.okWide Try.prog W .any base t v := hval0
  have hW' := hW
  obtain ⟨p, q, hA0, hV, rfl, hfz, hnd⟩ := hW
  have hA : DataW.TrodAll enc Try.prog W 0 (fun _ => true) true Try.f4.params.toList args.toList ds p := hA0
  have hAk := hA
  rw [Try.params4] at hA hval
  obtain ⟨v0, vs0, d0, ds0, p0, q0, hargs, rfl, rfl, h0, r0⟩ := trodAll_cons hA
  obtain ⟨v1, vs1, d1, ds1, p1, q1, rfl, rfl, rfl, h1, r1⟩ := trodAll_cons r0
  obtain ⟨v2, vs2, d2, ds2, p2, q2, rfl, rfl, rfl, h2, r2⟩ := trodAll_cons r1
  obtain ⟨rfl, rfl, rfl⟩ := trodAll_nil r2
  obtain rfl : args = #[v0, v1, v2] := by cases args; simp_all
  obtain ⟨rfl, rfl⟩ := trodVars_none hV
  obtain ⟨A0, len0, cap0, rfl⟩ := okWide_slice Try.underlying22 (hval 0 22 v0 rfl rfl)
  obtain ⟨fuel0, hf0⟩ := h0
  obtain ⟨A0', cap0', xs0, hv0, hcl0, hcm0, _, hq0, hR0⟩ := open_words hf0
  obtain ⟨rfl, rfl, rfl⟩ : A0 = A0' ∧ len0 = xs0.length ∧ cap0 = cap0' := by simpa using hv0
  obtain ⟨a1, rfl, rfl, rfl, w1⟩ := open_int Try.underlying23 (hval 1 23 v1 rfl rfl) h1
  obtain ⟨A2, len2, cap2, rfl⟩ := okWide_slice Try.underlying41 (hval 2 41 v2 rfl rfl)
  obtain ⟨fuel2, hf2⟩ := h2
  obtain ⟨A2', cap2', xs2, hv2, hcl2, hcm2, _, hq2, hR2⟩ := open_ops hf2
  obtain ⟨rfl, rfl, rfl⟩ : A2 = A2' ∧ len2 = xs2.length ∧ cap2 = cap2' := by simpa using hv2

  have key : Calls Try.prog 4 #[.slice A0 xs0.length cap0, .int .u64 a1, .slice A2 xs2.length cap2] W (StaysPost W) :=
    SoftAlone_any W A0 cap0 xs0 a1 A2 cap2 xs2 hq0 (w64_of_wf w1) hq2 hR0 hR2
  refine key.mono fun e W' ⟨he, bel⟩ => ?_
  subst he
  exact ⟨_, rfl, _, _, _, [], _, [], hW', trodAll_mk1 (shut_bool Try.underlying4 _), trodAll_below SoftAlone_laid bel SoftAlone_types hAk, rfl, bel.frame _, fun h => by cases h⟩

theorem SoftAlone_holds : Rows.SoftAloneSaid :=
  OpenClaim.holds_of_wide 4 Try.f4 rfl rfl rfl rfl rfl rfl rfl ⟨rfl, rfl, rfl, rfl, rfl⟩ rfl rfl rfl rfl rfl (by kernel_rfl) Try.func4 (by kernel_rfl)
    (of_decide_eq_true (by kernel_rfl)) (by unfold Func.isWrapper; first | (rw [if_pos (by decide +kernel)]; kernel_rfl) | (rw [if_neg (by decide +kernel)]; exact ⟨rfl, rfl⟩))
    (fun os started H enc _ => SoftAlone_lifted os started H enc)

end Go.Proofs.Ytilffolppnnkaaa
