/- LanesMost: for every input the law returns true, and what came in reads as it did. -/
import Derived.Test.YtdaehfilmhagiaaLanes8
import Derived.Test.YtdaehfilmhagiaaOpen
namespace Go.Proofs.Ytdaehfilmhagiaa
open Go.ChangeShapes Go.WideShapes Go.ChangeAt Go.RowKit

theorem LanesMost_own : ownKnob Try.prog.godebug = none := by kernel_rfl
theorem LanesMost_laid : laidOutB Try.prog = true := by kernel_rfl
theorem LanesMost_types : ∀ t ∈ Try.f5.params.toList, Try.prog.readableRec t = true ∧ t < Try.prog.types.size := by
  have h : (Try.f5.params.toList.all fun t => Try.prog.readableRec t && decide (t < Try.prog.types.size)) = true := by kernel_rfl
  intro t ht
  have := List.all_eq_true.1 h t ht
  simpa using this
theorem LanesMost_flat0 : flat Try.prog 8 23 = some [some .i64, some .i64, some .i64] := by kernel_rfl

set_option maxRecDepth 100000 in
set_option maxHeartbeats 1000000 in
theorem LanesMost_lifted (os : Os) (started : os.Started) (H : Type) (enc : TypeId × Value → H) :
    ReturnsInHanded {} Try.checked os 5 .any (Rows.lanesMostSpec.pre6 enc Try.prog Try.f5 Rows.lanesMostRow.domain false) (Rows.lanesMostSpec.post enc Try.prog Try.f5 false true false false) := by
  refine returnsInHanded_of_change (C := Try.checked) LanesMost_own started (by kernel_rfl) Try.func5
    (ChangeSpec.witness6 (enc := enc) (C := Try.checked) false ⟨#[], #[.agg #[.int .i64 0, .int .i64 0, .int .i64 0]], []⟩ 8 (by kernel_rfl) (by kernel_rfl) (by kernel_rfl) (by kernel_rfl)) ?_
  intro W base args ds gs before hval0 hW hcnd _
  have hval : ∀ (j : Nat) t v, Try.f5.params[j]? = some t → args[j]? = some v → Value.okWide Try.prog W .any base t v := hval0
  have hW' := hW
  obtain ⟨p, q, hA0, hV, rfl, hfz, hnd⟩ := hW
  have hA : DataW.TrodAll enc Try.prog W 0 (fun _ => true) true Try.f5.params.toList args.toList ds p := hA0
  have hAk := hA
  rw [Try.params5] at hA hval
  obtain ⟨v0, vs0, d0, ds0, p0, q0, hargs, rfl, rfl, h0, r0⟩ := trodAll_cons hA
  obtain ⟨rfl, rfl, rfl⟩ := trodAll_nil r0
  obtain rfl : args = #[v0] := by cases args; simp_all
  obtain ⟨rfl, rfl⟩ := trodVars_none hV
  obtain ⟨ns0, rfl, cs0, hr0⟩ := open_flat_agg (okWide_struct' Try.underlying23 (hval 0 23 v0 rfl rfl)) LanesMost_flat0 h0

  have key : Calls Try.prog 5 #[.agg (List.zipWith leafV [some .i64, some .i64, some .i64] ns0).toArray] W (StaysPost W) := by
    obtain ⟨x0, ns, rfl, _, cs, hr⟩ := hr0.cons_inv
    obtain ⟨x1, ns, rfl, _, cs, hr⟩ := hr.cons_inv
    obtain ⟨x2, ns, rfl, _, cs, hr⟩ := hr.cons_inv
    obtain rfl := hr.nil_inv
    exact LanesMost_any W x0 x1 x2
  refine key.mono fun e W' ⟨he, bel⟩ => ?_
  subst he
  exact ⟨_, rfl, _, _, _, [], _, [], hW', trodAll_mk1 (shut_bool Try.underlying4 _), trodAll_below LanesMost_laid bel LanesMost_types hAk, rfl, bel.frame _, fun h => by cases h⟩

theorem LanesMost_holds : Rows.LanesMostSaid :=
  OpenClaim.holds_of_wide 5 Try.f5 rfl rfl rfl rfl rfl rfl rfl ⟨rfl, rfl, rfl, rfl, rfl⟩ rfl rfl rfl rfl rfl (by kernel_rfl) Try.func5 (by kernel_rfl)
    (of_decide_eq_true (by kernel_rfl)) (by unfold Func.isWrapper; first | (rw [if_pos (by decide +kernel)]; kernel_rfl) | (rw [if_neg (by decide +kernel)]; exact ⟨rfl, rfl⟩))
    (fun os started H enc _ => LanesMost_lifted os started H enc)

end Go.Proofs.Ytdaehfilmhagiaa
