/- LibsSame: for every input the law returns true, and what came in reads as it did. -/
import Derived.Test.YthlhjahhjoclfaaCd29
import Derived.Test.YthlhjahhjoclfaaOpen
namespace Go.Proofs.Ythlhjahhjoclfaa
open Go.ChangeShapes Go.WideShapes Go.ChangeAt Go.RowKit

theorem LibsSame_own : ownKnob Try.prog.godebug = none := by kernel_rfl
theorem LibsSame_laid : laidOutB Try.prog = true := by kernel_rfl
theorem LibsSame_types : ∀ t ∈ Try.f6.params.toList, Try.prog.readableRec t = true ∧ t < Try.prog.types.size := by
  have h : (Try.f6.params.toList.all fun t => Try.prog.readableRec t && decide (t < Try.prog.types.size)) = true := by kernel_rfl
  intro t ht
  have := List.all_eq_true.1 h t ht
  simpa using this
theorem LibsSame_flat0 : flat Try.prog 8 31 = some [some .i64, some .i64, some .i64, some .i64] := by kernel_rfl
theorem LibsSame_flat1 : flat Try.prog 8 34 = some [some .i64, some .u64, some .u64] := by kernel_rfl

set_option maxRecDepth 100000 in
set_option maxHeartbeats 1000000 in
theorem LibsSame_lifted (os : Os) (started : os.Started) (H : Type) (enc : TypeId × Value → H) :
    ReturnsInHanded {} Try.checked os 6 .any (Rows.libsSameSpec.pre6 enc Try.prog Try.f6 Rows.libsSameRow.domain false) (Rows.libsSameSpec.post enc Try.prog Try.f6 false true false false) := by
  refine returnsInHanded_of_change (C := Try.checked) LibsSame_own started (by kernel_rfl) Try.func6
    (ChangeSpec.witness6 (enc := enc) (C := Try.checked) false ⟨#[], #[.agg #[.int .i64 0, .int .i64 0, .int .i64 0, .int .i64 0], .agg #[.int .i64 0, .int .u64 0, .int .u64 0]], []⟩ 8 (by kernel_rfl) (by kernel_rfl) (by kernel_rfl) (by kernel_rfl)) ?_
  intro W base args ds gs before hval0 hW hcnd _
  have hval : ∀ (j : Nat) t v, Try.f6.params[j]? = some t → args[j]? = some v → Value.okWide Try.prog W .any base t v := hval0
  have hW' := hW
  obtain ⟨p, q, hA0, hV, rfl, hfz, hnd⟩ := hW
  have hA : DataW.TrodAll enc Try.prog W 0 (fun _ => true) true Try.f6.params.toList args.toList ds p := hA0
  have hAk := hA
  rw [Try.params6] at hA hval
  obtain ⟨v0, vs0, d0, ds0, p0, q0, hargs, rfl, rfl, h0, r0⟩ := trodAll_cons hA
  obtain ⟨v1, vs1, d1, ds1, p1, q1, rfl, rfl, rfl, h1, r1⟩ := trodAll_cons r0
  obtain ⟨rfl, rfl, rfl⟩ := trodAll_nil r1
  obtain rfl : args = #[v0, v1] := by cases args; simp_all
  obtain ⟨rfl, rfl⟩ := trodVars_none hV
  obtain ⟨ns0, rfl, cs0, hr0⟩ := open_flat_agg (okWide_struct' Try.underlying31 (hval 0 31 v0 rfl rfl)) LibsSame_flat0 h0
  obtain ⟨ns1, rfl, cs1, hr1⟩ := open_flat_agg (okWide_struct' Try.underlying34 (hval 1 34 v1 rfl rfl)) LibsSame_flat1 h1

  obtain ⟨x0, n0, rfl, _, _, hr0⟩ := hr0.cons_inv
  obtain ⟨x1, n0, rfl, _, _, hr0⟩ := hr0.cons_inv
  obtain ⟨x2, n0, rfl, _, _, hr0⟩ := hr0.cons_inv
  obtain ⟨x3, n0, rfl, _, _, hr0⟩ := hr0.cons_inv
  obtain rfl := hr0.nil_inv
  obtain ⟨y0, n1, rfl, _, _, hr1⟩ := hr1.cons_inv
  obtain ⟨y1, n1, rfl, wy1, _, hr1⟩ := hr1.cons_inv
  obtain ⟨y2, n1, rfl, wy2, _, hr1⟩ := hr1.cons_inv
  obtain rfl := hr1.nil_inv
  have key : Calls Try.prog 6 #[.agg #[.int .i64 x0, .int .i64 x1, .int .i64 x2, .int .i64 x3], .agg #[.int .i64 y0, .int .u64 y1, .int .u64 y2]] W (StaysPost W) :=
    LibsSame_any W x0 x1 x2 x3 y0 y1 y2 (u64ok_of wy1).1 (u64ok_of wy1).2 (u64ok_of wy2).1 (u64ok_of wy2).2
  refine key.mono fun e W' ⟨he, bel⟩ => ?_
  subst he
  exact ⟨_, rfl, _, _, _, [], _, [], hW', trodAll_mk1 (shut_bool Try.underlying4 _), trodAll_below LibsSame_laid bel LibsSame_types hAk, rfl, bel.frame _, fun h => by cases h⟩

theorem LibsSame_holds : Rows.LibsSameSaid :=
  OpenClaim.holds_of_wide 6 Try.f6 rfl rfl rfl rfl rfl rfl rfl ⟨rfl, rfl, rfl, rfl, rfl⟩ rfl rfl rfl rfl rfl (by kernel_rfl) Try.func6 (by kernel_rfl)
    (of_decide_eq_true (by kernel_rfl)) (by unfold Func.isWrapper; first | (rw [if_pos (by decide +kernel)]; kernel_rfl) | (rw [if_neg (by decide +kernel)]; exact ⟨rfl, rfl⟩))
    (fun os started H enc _ => LibsSame_lifted os started H enc)

end Go.Proofs.Ythlhjahhjoclfaa
