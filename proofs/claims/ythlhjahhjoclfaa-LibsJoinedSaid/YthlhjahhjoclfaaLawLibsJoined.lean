/- LibsJoined: for every input the law returns true, and what came in reads as it did. -/
import Derived.Test.YthlhjahhjoclfaaCd46
import Derived.Test.YthlhjahhjoclfaaLibsOpen4
import Derived.Test.YthlhjahhjoclfaaOpen
namespace Go.Proofs.Ythlhjahhjoclfaa
open Go.ChangeShapes Go.WideShapes Go.ChangeAt Go.RowKit

theorem LibsJoined_own : ownKnob Try.prog.godebug = none := by kernel_rfl
theorem LibsJoined_laid : laidOutB Try.prog = true := by kernel_rfl
theorem LibsJoined_types : ∀ t ∈ Try.f8.params.toList, Try.prog.readableRec t = true ∧ t < Try.prog.types.size := by
  have h : (Try.f8.params.toList.all fun t => Try.prog.readableRec t && decide (t < Try.prog.types.size)) = true := by kernel_rfl
  intro t ht
  have := List.all_eq_true.1 h t ht
  simpa using this
theorem LibsJoined_flat0 : flat Try.prog 8 45 = some [some .u8, some .u8, some .u8] := by kernel_rfl

set_option maxRecDepth 100000 in
set_option maxHeartbeats 1000000 in
theorem LibsJoined_lifted (os : Os) (started : os.Started) (H : Type) (enc : TypeId × Value → H) :
    ReturnsInHanded {} Try.checked os 8 .any (Rows.libsJoinedSpec.pre6 enc Try.prog Try.f8 Rows.libsJoinedRow.domain false) (Rows.libsJoinedSpec.post enc Try.prog Try.f8 false true false false) := by
  refine returnsInHanded_of_change (C := Try.checked) LibsJoined_own started (by kernel_rfl) Try.func8
    (ChangeSpec.witness6 (enc := enc) (C := Try.checked) false ⟨#[], #[.agg #[.int .u8 0, .int .u8 0, .int .u8 0], .slice none 0 0], []⟩ 8 (by kernel_rfl) (by kernel_rfl) (by kernel_rfl) (by kernel_rfl)) ?_
  intro W base args ds gs before hval0 hW hcnd _
  have hval : ∀ (j : Nat) t v, Try.f8.params[j]? = some t → args[j]? = some v → Value.okWide Try.prog W .any base t v := hval0
  have hW' := hW
  obtain ⟨p, q, hA0, hV, rfl, hfz, hnd⟩ := hW
  have hA : DataW.TrodAll enc Try.prog W 0 (fun _ => true) true Try.f8.params.toList args.toList ds p := hA0
  have hAk := hA
  rw [Try.params8] at hA hval
  obtain ⟨v0, vs0, d0, ds0, p0, q0, hargs, rfl, rfl, h0, r0⟩ := trodAll_cons hA
  obtain ⟨v1, vs1, d1, ds1, p1, q1, rfl, rfl, rfl, h1, r1⟩ := trodAll_cons r0
  obtain ⟨rfl, rfl, rfl⟩ := trodAll_nil r1
  obtain rfl : args = #[v0, v1] := by cases args; simp_all
  obtain ⟨rfl, rfl⟩ := trodVars_none hV
  obtain ⟨ns0, rfl, cs0, hr0⟩ := open_flat_agg (okWide_array Try.underlying45 (hval 0 45 v0 rfl rfl)) LibsJoined_flat0 h0
  obtain ⟨A1, len1, cap1, rfl⟩ := okWide_slice Try.underlying46 (hval 1 46 v1 rfl rfl)
  obtain ⟨fuel1, hf1⟩ := h1
  obtain ⟨A1', cap1', xs1, hv1, hcl1, hcm1, _, hq1, hR1⟩ := open_turns hf1
  obtain ⟨rfl, rfl, rfl⟩ : A1 = A1' ∧ len1 = xs1.length ∧ cap1 = cap1' := by simpa using hv1

  obtain ⟨x0, n0, rfl, wx0, _, hr0⟩ := hr0.cons_inv
  obtain ⟨x1, n0, rfl, wx1, _, hr0⟩ := hr0.cons_inv
  obtain ⟨x2, n0, rfl, wx2, _, hr0⟩ := hr0.cons_inv
  obtain rfl := hr0.nil_inv
  have key : Calls Try.prog 8 #[.agg #[.int .u8 x0, .int .u8 x1, .int .u8 x2], .slice A1 xs1.length cap1] W (StaysPost W) :=
    LibsJoined_any W A1 cap1 x0 x1 x2 xs1 (u8ok_of wx0) (u8ok_of wx1) (u8ok_of wx2) (Nat.le_trans hcl1 hcm1) hq1 hR1
  refine key.mono fun e W' ⟨he, bel⟩ => ?_
  subst he
  exact ⟨_, rfl, _, _, _, [], _, [], hW', trodAll_mk1 (shut_bool Try.underlying4 _), trodAll_below LibsJoined_laid bel LibsJoined_types hAk, rfl, bel.frame _, fun h => by cases h⟩

theorem LibsJoined_holds : Rows.LibsJoinedSaid :=
  OpenClaim.holds_of_wide 8 Try.f8 rfl rfl rfl rfl rfl rfl rfl ⟨rfl, rfl, rfl, rfl, rfl⟩ rfl rfl rfl rfl rfl (by kernel_rfl) Try.func8 (by kernel_rfl)
    (of_decide_eq_true (by kernel_rfl)) (by unfold Func.isWrapper; first | (rw [if_pos (by decide +kernel)]; kernel_rfl) | (rw [if_neg (by decide +kernel)]; exact ⟨rfl, rfl⟩))
    (fun os started H enc _ => LibsJoined_lifted os started H enc)

end Go.Proofs.Ythlhjahhjoclfaa
