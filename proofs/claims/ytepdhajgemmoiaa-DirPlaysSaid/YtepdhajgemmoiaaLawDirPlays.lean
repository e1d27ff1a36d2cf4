/- DirPlays: for every input the law returns true, and what came in reads as it did. -/
import Derived.Test.YtepdhajgemmoiaaRDPlays
import Derived.Test.YtepdhajgemmoiaaOpen
namespace Go.Proofs.Ytepdhajgemmoiaa
set_option linter.unusedSimpArgs false
set_option linter.unusedVariables false
open Go.ChangeShapes Go.WideShapes Go.ChangeAt Go.RowKit

theorem DirPlays_own : ownKnob Try.prog.godebug = none := by kernel_rfl
theorem DirPlays_laid : laidOutB Try.prog = true := by kernel_rfl
theorem DirPlays_types : ∀ t ∈ Try.f5.params.toList, Try.prog.readableRec t = true ∧ t < Try.prog.types.size := by
  have h : (Try.f5.params.toList.all fun t => Try.prog.readableRec t && decide (t < Try.prog.types.size)) = true := by kernel_rfl
  intro t ht
  have := List.all_eq_true.1 h t ht
  simpa using this
theorem DirPlays_flat0 : flat Try.prog 8 53 = some [some .i64, some .i64] := by kernel_rfl
theorem DirPlays_flat1 : flat Try.prog 8 31 = some [some .u64, some .u64, some .u64, some .u64, some .u64, some .u64, some .u64, some .u64] := by kernel_rfl
theorem DirPlays_cells1 : Try.prog.cellsOf 31 = 8 := by kernel_rfl
theorem DirPlays_flat2 : flat Try.prog 8 33 = some [some .i64, some .i64, some .i64, some .u64, some .u64, some .u64, some .u64, some .u64, some .u64, some .u64, some .u64] := by kernel_rfl
theorem DirPlays_cells2 : Try.prog.cellsOf 33 = 11 := by kernel_rfl

set_option maxRecDepth 100000 in
set_option maxHeartbeats 1000000 in
theorem DirPlays_lifted (os : Os) (started : os.Started) (H : Type) (enc : TypeId × Value → H) :
    ReturnsInHanded {} Try.checked os 5 .any (Rows.dirPlaysSpec.pre6 enc Try.prog Try.f5 Rows.dirPlaysRow.domain false) (Rows.dirPlaysSpec.post enc Try.prog Try.f5 false true false false) := by
  refine returnsInHanded_of_change (C := Try.checked) DirPlays_own started (by kernel_rfl) Try.func5
    (ChangeSpec.witness6 (enc := enc) (C := Try.checked) false ⟨#[], #[.agg #[.int .i64 0, .int .i64 0], .slice none 0 0, .slice none 0 0], []⟩ 8 (by kernel_rfl) (by kernel_rfl) (by kernel_rfl) (by kernel_rfl)) ?_
  intro W base args ds gs before hval0 hW hcnd _
  have hval : ∀ (j : Nat) t v, Try.f5.params[j]? = some t → args[j]? = some v → Value.okWide Try.prog W .any base t v := hval0
  have hW' := hW
  obtain ⟨p, q, hA0, hV, rfl, hfz, hnd⟩ := hW
  have hA : DataW.TrodAll enc Try.prog W 0 (fun _ => true) true Try.f5.params.toList args.toList ds p := hA0
  have hAk := hA
  rw [Try.params5] at hA hval
  obtain ⟨v0, vs0, d0, ds0, p0, q0, hargs, rfl, rfl, h0, r0⟩ := trodAll_cons hA
  obtain ⟨v1, vs1, d1, ds1, p1, q1, rfl, rfl, rfl, h1, r1⟩ := trodAll_cons r0
  obtain ⟨v2, vs2, d2, ds2, p2, q2, rfl, rfl, rfl, h2, r2⟩ := trodAll_cons r1
  obtain ⟨rfl, rfl, rfl⟩ := trodAll_nil r2
  obtain rfl : args = #[v0, v1, v2] := by cases args; simp_all
  obtain ⟨rfl, rfl⟩ := trodVars_none hV
  obtain ⟨ns0, rfl, cs0, hr0⟩ := open_flat_agg (okWide_array Try.underlying53 (hval 0 53 v0 rfl rfl)) DirPlays_flat0 h0
  obtain ⟨A1, len1, cap1, rfl⟩ := okWide_slice Try.underlying54 (hval 1 54 v1 rfl rfl)
  obtain ⟨fuel1, hf1⟩ := h1
  obtain ⟨A1', cap1', xs1, hv1, hcl1, hcm1, hA01, hfl1, hR1⟩ := open_flat_slice Try.underlying54 DirPlays_flat1 DirPlays_cells1 (by decide) hf1
  obtain ⟨rfl, rfl, rfl⟩ : A1 = A1' ∧ len1 = xs1.length ∧ cap1 = cap1' := by simpa using hv1
  obtain ⟨A2, len2, cap2, rfl⟩ := okWide_slice Try.underlying26 (hval 2 26 v2 rfl rfl)
  obtain ⟨fuel2, hf2⟩ := h2
  obtain ⟨A2', cap2', xs2, hv2, hcl2, hcm2, hA02, hfl2, hR2⟩ := open_flat_slice Try.underlying26 DirPlays_flat2 DirPlays_cells2 (by decide) hf2
  obtain ⟨rfl, rfl, rfl⟩ : A2 = A2' ∧ len2 = xs2.length ∧ cap2 = cap2' := by simpa using hv2

  have key : Calls Try.prog 5 #[.agg (List.zipWith leafV [some .i64, some .i64] ns0).toArray, .slice A1 xs1.length cap1, .slice A2 xs2.length cap2] W (StaysPost W) := by
    obtain ⟨a, ns, rfl, _, cs, hr⟩ := hr0.cons_inv
    obtain ⟨b, ns, rfl, _, cs, hr⟩ := hr.cons_inv
    obtain rfl := hr.nil_inv
    have hp : ∀ ns ∈ xs1, ∃ q : L8, ns = [q.x0, q.x1, q.x2, q.x3, q.x4, q.x5, q.x6, q.x7] := by
      intro ns hns
      obtain ⟨cs, hr⟩ := hfl1 ns hns
      obtain ⟨x0, ns, rfl, _, cs, hr⟩ := hr.cons_inv
      obtain ⟨x1, ns, rfl, _, cs, hr⟩ := hr.cons_inv
      obtain ⟨x2, ns, rfl, _, cs, hr⟩ := hr.cons_inv
      obtain ⟨x3, ns, rfl, _, cs, hr⟩ := hr.cons_inv
      obtain ⟨x4, ns, rfl, _, cs, hr⟩ := hr.cons_inv
      obtain ⟨x5, ns, rfl, _, cs, hr⟩ := hr.cons_inv
      obtain ⟨x6, ns, rfl, _, cs, hr⟩ := hr.cons_inv
      obtain ⟨x7, ns, rfl, _, cs, hr⟩ := hr.cons_inv
      obtain rfl := hr.nil_inv
      exact ⟨⟨x0, x1, x2, x3, x4, x5, x6, x7⟩, rfl⟩
    have hq : ∀ ns ∈ xs2, ∃ q : MsgV, ns = [q.k, q.c, q.l, q.d.x0, q.d.x1, q.d.x2, q.d.x3, q.d.x4, q.d.x5, q.d.x6, q.d.x7] := by
      intro ns hns
      obtain ⟨cs, hr⟩ := hfl2 ns hns
      obtain ⟨x0, ns, rfl, _, cs, hr⟩ := hr.cons_inv
      obtain ⟨x1, ns, rfl, _, cs, hr⟩ := hr.cons_inv
      obtain ⟨x2, ns, rfl, _, cs, hr⟩ := hr.cons_inv
      obtain ⟨x3, ns, rfl, _, cs, hr⟩ := hr.cons_inv
      obtain ⟨x4, ns, rfl, _, cs, hr⟩ := hr.cons_inv
      obtain ⟨x5, ns, rfl, _, cs, hr⟩ := hr.cons_inv
      obtain ⟨x6, ns, rfl, _, cs, hr⟩ := hr.cons_inv
      obtain ⟨x7, ns, rfl, _, cs, hr⟩ := hr.cons_inv
      obtain ⟨x8, ns, rfl, _, cs, hr⟩ := hr.cons_inv
      obtain ⟨x9, ns, rfl, _, cs, hr⟩ := hr.cons_inv
      obtain ⟨x10, ns, rfl, _, cs, hr⟩ := hr.cons_inv
      obtain rfl := hr.nil_inv
      exact ⟨⟨x0, x1, x2, ⟨x3, x4, x5, x6, x7, x8, x9, x10⟩⟩, rfl⟩
    have hm1 := hR1.map (enc' := encL8) (fun ns => (⟨ns.getD 0 0, ns.getD 1 0, ns.getD 2 0, ns.getD 3 0, ns.getD 4 0, ns.getD 5 0, ns.getD 6 0, ns.getD 7 0⟩ : L8)) (fun ns hns => by obtain ⟨q, rfl⟩ := hp ns hns; rfl)
    have hm2 := hR2.map (enc' := encM) (fun ns => (⟨ns.getD 0 0, ns.getD 1 0, ns.getD 2 0, ⟨ns.getD 3 0, ns.getD 4 0, ns.getD 5 0, ns.getD 6 0, ns.getD 7 0, ns.getD 8 0, ns.getD 9 0, ns.getD 10 0⟩⟩ : MsgV)) (fun ns hns => by obtain ⟨q, rfl⟩ := hq ns hns; rfl)
    have := DirPlays_any W a b A1 cap1 _ A2 cap2 _ (by rw [List.length_map]; exact Nat.le_trans hcl1 hcm1) (by rw [List.length_map]; exact Nat.le_trans hcl2 hcm2) hm1 hm2
    rw [List.length_map, List.length_map] at this
    exact this
  refine key.mono fun e W' ⟨he, bel⟩ => ?_
  subst he
  exact ⟨_, rfl, _, _, _, [], _, [], hW', trodAll_mk1 (shut_bool Try.underlying4 _), trodAll_below DirPlays_laid bel DirPlays_types hAk, rfl, bel.frame _, fun h => by cases h⟩

theorem DirPlays_holds : Rows.DirPlaysSaid :=
  OpenClaim.holds_of_wide 5 Try.f5 rfl rfl rfl rfl rfl rfl rfl ⟨rfl, rfl, rfl, rfl, rfl⟩ rfl rfl rfl rfl rfl (by kernel_rfl) Try.func5 (by kernel_rfl)
    (of_decide_eq_true (by kernel_rfl)) (by unfold Func.isWrapper; first | (rw [if_pos (by decide +kernel)]; kernel_rfl) | (rw [if_neg (by decide +kernel)]; exact ⟨rfl, rfl⟩))
    (fun os started H enc _ => DirPlays_lifted os started H enc)

end Go.Proofs.Ytepdhajgemmoiaa
