/- LanesPlays: for every input the law returns true, and what came in reads as it did. -/
import Derived.Test.YtdaehfilmhagiaaLanesR9
import Derived.Test.YtdaehfilmhagiaaOpen
namespace Go.Proofs.Ytdaehfilmhagiaa
open Go.ChangeShapes Go.WideShapes Go.ChangeAt Go.RowKit

theorem LanesPlays_own : ownKnob Try.prog.godebug = none := by kernel_rfl
theorem LanesPlays_laid : laidOutB Try.prog = true := by kernel_rfl
theorem LanesPlays_types : ∀ t ∈ Try.f6.params.toList, Try.prog.readableRec t = true ∧ t < Try.prog.types.size := by
  have h : (Try.f6.params.toList.all fun t => Try.prog.readableRec t && decide (t < Try.prog.types.size)) = true := by kernel_rfl
  intro t ht
  have := List.all_eq_true.1 h t ht
  simpa using this
theorem LanesPlays_flat0 : flat Try.prog 8 23 = some [some .i64, some .i64, some .i64] := by kernel_rfl
theorem LanesPlays_flat1 : flat Try.prog 8 49 = some [some .i64, some .i64] := by kernel_rfl
theorem LanesPlays_cells1 : Try.prog.cellsOf 49 = 2 := by kernel_rfl

set_option maxRecDepth 100000 in
set_option maxHeartbeats 1000000 in
theorem LanesPlays_lifted (os : Os) (started : os.Started) (H : Type) (enc : TypeId × Value → H) :
    ReturnsInHanded {} Try.checked os 6 .any (Rows.lanesPlaysSpec.pre6 enc Try.prog Try.f6 Rows.lanesPlaysRow.domain false) (Rows.lanesPlaysSpec.post enc Try.prog Try.f6 false true false false) := by
  refine returnsInHanded_of_change (C := Try.checked) LanesPlays_own started (by kernel_rfl) Try.func6
    (ChangeSpec.witness6 (enc := enc) (C := Try.checked) false ⟨#[], #[.agg #[.int .i64 0, .int .i64 0, .int .i64 0], .slice none 0 0], []⟩ 8 (by kernel_rfl) (by kernel_rfl) (by kernel_rfl) (by kernel_rfl)) ?_
  intro W base args ds gs before hval0 hW hcnd _
  have hval : ∀ (j : Nat) t v, Try.f6.params[j]? = some t → args[j]? = some v → Value.okWide Try.prog W .any base t v := hval0
  have hW' := hW
  obtain ⟨p, q, hA0, hV, rfl, hfz, hnd⟩ := hW
  have hA : DataW.TrodAll enc Try.prog W 0 (fun _ => true) true Try.f6.params.toList args.toList ds p := hA0
  have hAk := hA
  rw [Try.params6] at hA hval
  obtain ⟨v0, vs0, d0, ds0, p0, q0, hargs, rfl, rfl, h0, r0⟩ := trodAll_cons hA
  obtain ⟨v1, vs1, d1, ds1, p1, q1, rfl, rfl, rfl, h1, r1⟩ := trodAll_cons r0
  obtain ⟨rfl, rfl, rfl⟩ := trodAll_nil r1
  obtain rfl : args = #[v0, v1] := by cases args; simp_all
  obtain ⟨rfl, rfl⟩ := trodVars_none hV
  obtain ⟨ns0, rfl, cs0, hr0⟩ := open_flat_agg (okWide_struct' Try.underlying23 (hval 0 23 v0 rfl rfl)) LanesPlays_flat0 h0
  obtain ⟨A1, len1, cap1, rfl⟩ := okWide_slice Try.underlying43 (hval 1 43 v1 rfl rfl)
  obtain ⟨fuel1, hf1⟩ := h1
  obtain ⟨A1', cap1', xs1, hv1, hcl1, hcm1, _, hfl1, hR1⟩ := open_flat_slice Try.underlying43 LanesPlays_flat1 LanesPlays_cells1 (by decide) hf1
  obtain ⟨rfl, rfl, rfl⟩ : A1 = A1' ∧ len1 = xs1.length ∧ cap1 = cap1' := by simpa using hv1

  have key : Calls Try.prog 6 #[.agg (List.zipWith leafV [some .i64, some .i64, some .i64] ns0).toArray, .slice A1 xs1.length cap1] W (StaysPost W) := by
    obtain ⟨x0, ns, rfl, _, cs, hr⟩ := hr0.cons_inv
    obtain ⟨x1, ns, rfl, _, cs, hr⟩ := hr.cons_inv
    obtain ⟨x2, ns, rfl, _, cs, hr⟩ := hr.cons_inv
    obtain rfl := hr.nil_inv
    have hp1 : ∀ ns ∈ xs1, ∃ q : Int × Int, ns = [q.1, q.2] := by
      intro ns hns
      obtain ⟨cs, hr⟩ := hfl1 ns hns
      obtain ⟨x, ns, rfl, _, cs, hr⟩ := hr.cons_inv
      obtain ⟨y, ns, rfl, _, cs, hr⟩ := hr.cons_inv
      obtain rfl := hr.nil_inv
      exact ⟨(x, y), rfl⟩
    have hm1 := hR1.map (enc' := encOp) (fun ns => (ns.getD 0 0, ns.getD 1 0)) (fun ns hns => by obtain ⟨q, rfl⟩ := hp1 ns hns; rfl)
    have := LanesPlays_any W x0 x1 x2 A1 cap1 (xs1.map fun ns => (ns.getD 0 0, ns.getD 1 0)) hm1
    rw [List.length_map] at this
    exact this
  refine key.mono fun e W' ⟨he, bel⟩ => ?_
  subst he
  exact ⟨_, rfl, _, _, _, [], _, [], hW', trodAll_mk1 (shut_bool Try.underlying4 _), trodAll_below LanesPlays_laid bel LanesPlays_types hAk, rfl, bel.frame _, fun h => by cases h⟩

theorem LanesPlays_holds : Rows.LanesPlaysSaid :=
  OpenClaim.holds_of_wide 6 Try.f6 rfl rfl rfl rfl rfl rfl rfl ⟨rfl, rfl, rfl, rfl, rfl⟩ rfl rfl rfl rfl rfl (by kernel_rfl) Try.func6 (by kernel_rfl)
    (of_decide_eq_true (by kernel_rfl)) (by unfold Func.isWrapper; first | (rw [if_pos (by decide +kernel)]; kernel_rfl) | (rw [if_neg (by decide +kernel)]; exact ⟨rfl, rfl⟩))
    (fun os started H enc _ => LanesPlays_lifted os started H enc)

end Go.Proofs.Ytdaehfilmhagiaa
