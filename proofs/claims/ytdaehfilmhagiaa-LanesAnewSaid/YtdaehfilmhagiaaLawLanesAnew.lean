/- LanesAnew: for every input the law returns true, and what came in reads as it did. -/
import Derived.Test.YtdaehfilmhagiaaLanes10
import Derived.Test.YtdaehfilmhagiaaOpen
namespace Go.Proofs.Ytdaehfilmhagiaa
open Go.ChangeShapes Go.WideShapes Go.ChangeAt Go.RowKit

theorem LanesAnew_own : ownKnob Try.prog.godebug = none := by kernel_rfl
theorem LanesAnew_laid : laidOutB Try.prog = true := by kernel_rfl
theorem LanesAnew_types : ∀ t ∈ Try.f7.params.toList, Try.prog.readableRec t = true ∧ t < Try.prog.types.size := by
  have h : (Try.f7.params.toList.all fun t => Try.prog.readableRec t && decide (t < Try.prog.types.size)) = true := by kernel_rfl
  intro t ht
  have := List.all_eq_true.1 h t ht
  simpa using this
theorem LanesAnew_flat0 : flat Try.prog 8 23 = some [some .i64, some .i64, some .i64] := by kernel_rfl
theorem LanesAnew_flat1 : flat Try.prog 8 49 = some [some .i64, some .i64] := by kernel_rfl
theorem LanesAnew_cells1 : Try.prog.cellsOf 49 = 2 := by kernel_rfl
theorem LanesAnew_flat2 : flat Try.prog 8 3 = some [some .i64] := by kernel_rfl
theorem LanesAnew_cells2 : Try.prog.cellsOf 3 = 1 := by kernel_rfl

set_option maxRecDepth 100000 in
set_option maxHeartbeats 1000000 in
theorem LanesAnew_lifted (os : Os) (started : os.Started) (H : Type) (enc : TypeId × Value → H) :
    ReturnsInHanded {} Try.checked os 7 .any (Rows.lanesAnewSpec.pre6 enc Try.prog Try.f7 Rows.lanesAnewRow.domain false) (Rows.lanesAnewSpec.post enc Try.prog Try.f7 false true false false) := by
  refine returnsInHanded_of_change (C := Try.checked) LanesAnew_own started (by kernel_rfl) Try.func7
    (ChangeSpec.witness6 (enc := enc) (C := Try.checked) false ⟨#[], #[.agg #[.int .i64 0, .int .i64 0, .int .i64 0], .slice none 0 0, .slice none 0 0], []⟩ 8 (by kernel_rfl) (by kernel_rfl) (by kernel_rfl) (by kernel_rfl)) ?_
  intro W base args ds gs before hval0 hW hcnd _
  have hval : ∀ (j : Nat) t v, Try.f7.params[j]? = some t → args[j]? = some v → Value.okWide Try.prog W .any base t v := hval0
  have hW' := hW
  obtain ⟨p, q, hA0, hV, rfl, hfz, hnd⟩ := hW
  have hA : DataW.TrodAll enc Try.prog W 0 (fun _ => true) true Try.f7.params.toList args.toList ds p := hA0
  have hAk := hA
  rw [Try.params7] at hA hval
  obtain ⟨v0, vs0, d0, ds0, p0, q0, hargs, rfl, rfl, h0, r0⟩ := trodAll_cons hA
  obtain ⟨v1, vs1, d1, ds1, p1, q1, rfl, rfl, rfl, h1, r1⟩ := trodAll_cons r0
  obtain ⟨v2, vs2, d2, ds2, p2, q2, rfl, rfl, rfl, h2, r2⟩ := trodAll_cons r1
  obtain ⟨rfl, rfl, rfl⟩ := trodAll_nil r2
  obtain rfl : args = #[v0, v1, v2] := by cases args; simp_all
  obtain ⟨rfl, rfl⟩ := trodVars_none hV
  obtain ⟨ns0, rfl, cs0, hr0⟩ := open_flat_agg (okWide_struct' Try.underlying23 (hval 0 23 v0 rfl rfl)) LanesAnew_flat0 h0
  obtain ⟨A1, len1, cap1, rfl⟩ := okWide_slice Try.underlying43 (hval 1 43 v1 rfl rfl)
  obtain ⟨fuel1, hf1⟩ := h1
  obtain ⟨A1', cap1', xs1, hv1, hcl1, hcm1, _, hfl1, hR1⟩ := open_flat_slice Try.underlying43 LanesAnew_flat1 LanesAnew_cells1 (by decide) hf1
  obtain ⟨rfl, rfl, rfl⟩ : A1 = A1' ∧ len1 = xs1.length ∧ cap1 = cap1' := by simpa using hv1
  obtain ⟨A2, len2, cap2, rfl⟩ := okWide_slice Try.underlying24 (hval 2 24 v2 rfl rfl)
  obtain ⟨fuel2, hf2⟩ := h2
  obtain ⟨A2', cap2', xs2, hv2, hcl2, hcm2, _, hfl2, hR2⟩ := open_flat_slice Try.underlying24 LanesAnew_flat2 LanesAnew_cells2 (by decide) hf2
  obtain ⟨rfl, rfl, rfl⟩ : A2 = A2' ∧ len2 = xs2.length ∧ cap2 = cap2' := by simpa using hv2

  have key : Calls Try.prog 7 #[.agg (List.zipWith leafV [some .i64, some .i64, some .i64] ns0).toArray, .slice A1 xs1.length cap1, .slice A2 xs2.length cap2] W (StaysPost W) := by
    obtain ⟨x0, ns, rfl, _, cs, hr⟩ := hr0.cons_inv
    obtain ⟨x1, ns, rfl, _, cs, hr⟩ := hr.cons_inv
    obtain ⟨x2, ns, rfl, _, cs, hr⟩ := hr.cons_inv
    obtain rfl := hr.nil_inv
    have hp1 : ∀ ns ∈ xs1, ∃ q : Int × Int, ns = [q.1, q.2] := by
      intro ns hns
      obtain ⟨cs, hr⟩ := hfl1 ns hns
      obtain ⟨x, ns, rfl, _, cs, hr⟩ := hr.cons_inv
      obtain ⟨y, ns, rfl, _, cs, hr⟩ := hr.cons_inv
      obtain rfl := hr.nil_inv
      exact ⟨(x, y), rfl⟩
    have hm1 := hR1.map (enc' := encOp) (fun ns => (ns.getD 0 0, ns.getD 1 0)) (fun ns hns => by obtain ⟨q, rfl⟩ := hp1 ns hns; rfl)
    have hm2 := hR2.map (enc' := encInt) (fun ns => ns.getD 0 0) (fun ns hns => by
      obtain ⟨cs, hr⟩ := hfl2 ns hns
      obtain ⟨x, ns, rfl, _, cs, hr⟩ := hr.cons_inv
      obtain rfl := hr.nil_inv
      rfl)
    have := LanesAnew_any W x0 x1 x2 A1 A2 cap1 cap2 (xs1.map fun ns => (ns.getD 0 0, ns.getD 1 0)) (xs2.map fun ns => ns.getD 0 0) hm1 hm2
    rw [List.length_map, List.length_map] at this
    exact this
  refine key.mono fun e W' ⟨he, bel⟩ => ?_
  subst he
  exact ⟨_, rfl, _, _, _, [], _, [], hW', trodAll_mk1 (shut_bool Try.underlying4 _), trodAll_below LanesAnew_laid bel LanesAnew_types hAk, rfl, bel.frame _, fun h => by cases h⟩

theorem LanesAnew_holds : Rows.LanesAnewSaid :=
  OpenClaim.holds_of_wide 7 Try.f7 rfl rfl rfl rfl rfl rfl rfl ⟨rfl, rfl, rfl, rfl, rfl⟩ rfl rfl rfl rfl rfl (by kernel_rfl) Try.func7 (by kernel_rfl)
    (of_decide_eq_true (by kernel_rfl)) (by unfold Func.isWrapper; first | (rw [if_pos (by decide +kernel)]; kernel_rfl) | (rw [if_neg (by decide +kernel)]; exact ⟨rfl, rfl⟩))
    (fun os started H enc _ => LanesAnew_lifted os started H enc)

end Go.Proofs.Ytdaehfilmhagiaa
