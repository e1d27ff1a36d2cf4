/- DirServes: for every input the law returns true, and what came in reads as it did. -/
import Derived.Test.YtepdhajgemmoiaaSrv10
import Derived.Test.YtepdhajgemmoiaaOpen
namespace Go.Proofs.Ytepdhajgemmoiaa
open Go.ChangeShapes Go.WideShapes Go.ChangeAt Go.RowKit

theorem DirServes_own : ownKnob Try.prog.godebug = none := by kernel_rfl
theorem DirServes_laid : laidOutB Try.prog = true := by kernel_rfl
theorem DirServes_types : ∀ t ∈ Try.f4.params.toList, Try.prog.readableRec t = true ∧ t < Try.prog.types.size := by
  have h : (Try.f4.params.toList.all fun t => Try.prog.readableRec t && decide (t < Try.prog.types.size)) = true := by kernel_rfl
  intro t ht
  have := List.all_eq_true.1 h t ht
  simpa using this
theorem DirServes_flat1 : flat Try.prog 8 49 = some [some .i64, some .i64, some .i64] := by kernel_rfl
theorem DirServes_cells1 : Try.prog.cellsOf 49 = 3 := by kernel_rfl

set_option maxRecDepth 100000 in
set_option maxHeartbeats 1000000 in
theorem DirServes_lifted (os : Os) (started : os.Started) (H : Type) (enc : TypeId × Value → H) :
    ReturnsInHanded {} Try.checked os 4 .any (Rows.dirServesSpec.pre6 enc Try.prog Try.f4 Rows.dirServesRow.domain false) (Rows.dirServesSpec.post enc Try.prog Try.f4 false true false false) := by
  refine returnsInHanded_of_change (C := Try.checked) DirServes_own started (by kernel_rfl) Try.func4
    (ChangeSpec.witness6 (enc := enc) (C := Try.checked) false ⟨#[], #[.int .i64 0, .slice none 0 0], []⟩ 8 (by kernel_rfl) (by kernel_rfl) (by kernel_rfl) (by kernel_rfl)) ?_
  intro W base args ds gs before hval0 hW hcnd _
  have hval : ∀ (j : Nat) t v, Try.f4.params[j]? = some t → args[j]? = some v → Value.okWide Try.prog W .any base t v := hval0
  have hW' := hW
  obtain ⟨p, q, hA0, hV, rfl, hfz, hnd⟩ := hW
  have hA : DataW.TrodAll enc Try.prog W 0 (fun _ => true) true Try.f4.params.toList args.toList ds p := hA0
  have hAk := hA
  rw [Try.params4] at hA hval
  obtain ⟨v0, vs0, d0, ds0, p0, q0, hargs, rfl, rfl, h0, r0⟩ := trodAll_cons hA
  obtain ⟨v1, vs1, d1, ds1, p1, q1, rfl, rfl, rfl, h1, r1⟩ := trodAll_cons r0
  obtain ⟨rfl, rfl, rfl⟩ := trodAll_nil r1
  obtain rfl : args = #[v0, v1] := by cases args; simp_all
  obtain ⟨rfl, rfl⟩ := trodVars_none hV
  obtain ⟨a0, rfl, rfl, rfl, w0⟩ := open_int Try.underlying3 (hval 0 3 v0 rfl rfl) h0
  obtain ⟨A1, len1, cap1, rfl⟩ := okWide_slice Try.underlying45 (hval 1 45 v1 rfl rfl)
  obtain ⟨fuel1, hf1⟩ := h1
  obtain ⟨A1', cap1', xs1, hv1, hcl1, hcm1, hA01, hfl1, hR1⟩ := open_flat_slice Try.underlying45 DirServes_flat1 DirServes_cells1 (by decide) hf1
  obtain ⟨rfl, rfl, rfl⟩ : A1 = A1' ∧ len1 = xs1.length ∧ cap1 = cap1' := by simpa using hv1

  have key : Calls Try.prog 4 #[.int .i64 a0, .slice A1 xs1.length cap1] W (StaysPost W) := by
    have hp : ∀ ns ∈ xs1, ∃ q : A3, ns = [q.x, q.y, q.z] := by
      intro ns hns
      obtain ⟨cs, hr⟩ := hfl1 ns hns
      obtain ⟨x, ns, rfl, _, cs, hr⟩ := hr.cons_inv
      obtain ⟨y, ns, rfl, _, cs, hr⟩ := hr.cons_inv
      obtain ⟨z, ns, rfl, _, cs, hr⟩ := hr.cons_inv
      obtain rfl := hr.nil_inv
      exact ⟨⟨x, y, z⟩, rfl⟩
    have hm := hR1.map (enc' := enc3) (fun ns => (⟨ns.getD 0 0, ns.getD 1 0, ns.getD 2 0⟩ : A3)) (fun ns hns => by obtain ⟨q, rfl⟩ := hp ns hns; rfl)
    have := DirServes_any W a0 A1 cap1 (xs1.map fun ns => (⟨ns.getD 0 0, ns.getD 1 0, ns.getD 2 0⟩ : A3)) (by rw [List.length_map]; exact Nat.le_trans hcl1 hcm1) hm
    simpa using this
  refine key.mono fun e W' ⟨he, bel⟩ => ?_
  subst he
  exact ⟨_, rfl, _, _, _, [], _, [], hW', trodAll_mk1 (shut_bool Try.underlying4 _), trodAll_below DirServes_laid bel DirServes_types hAk, rfl, bel.frame _, fun h => by cases h⟩

theorem DirServes_holds : Rows.DirServesSaid :=
  OpenClaim.holds_of_wide 4 Try.f4 rfl rfl rfl rfl rfl rfl rfl ⟨rfl, rfl, rfl, rfl, rfl⟩ rfl rfl rfl rfl rfl (by kernel_rfl) Try.func4 (by kernel_rfl)
    (of_decide_eq_true (by kernel_rfl)) (by unfold Func.isWrapper; first | (rw [if_pos (by decide +kernel)]; kernel_rfl) | (rw [if_neg (by decide +kernel)]; exact ⟨rfl, rfl⟩))
    (fun os started H enc _ => DirServes_lifted os started H enc)

end Go.Proofs.Ytepdhajgemmoiaa
