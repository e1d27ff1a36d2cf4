/- SchedEven: for every input the law returns true, and what came in reads as it did. -/
import Derived.Test.YtagfalnfjiodcaaSched12
import Derived.Test.YtagfalnfjiodcaaOpen
namespace Go.Proofs.Ytagfalnfjiodcaa
open Go.ChangeShapes Go.WideShapes Go.ChangeAt Go.RowKit

theorem SchedEven_own : ownKnob Try.prog.godebug = none := by kernel_rfl
theorem SchedEven_laid : laidOutB Try.prog = true := by kernel_rfl
theorem SchedEven_types : ∀ t ∈ Try.f6.params.toList, Try.prog.readableRec t = true ∧ t < Try.prog.types.size := by
  have h : (Try.f6.params.toList.all fun t => Try.prog.readableRec t && decide (t < Try.prog.types.size)) = true := by kernel_rfl
  intro t ht
  have := List.all_eq_true.1 h t ht
  simpa using this
theorem SchedEven_flat0 : flat Try.prog 8 48 = some [some .u8, some .u8, some .u8] := by kernel_rfl

set_option maxRecDepth 100000 in
set_option maxHeartbeats 1000000 in
theorem SchedEven_lifted (os : Os) (started : os.Started) (H : Type) (enc : TypeId × Value → H) :
    ReturnsInHanded {} Try.checked os 6 .any (Rows.schedEvenSpec.pre6 enc Try.prog Try.f6 Rows.schedEvenRow.domain false) (Rows.schedEvenSpec.post enc Try.prog Try.f6 false true false false) := by
  refine returnsInHanded_of_change (C := Try.checked) SchedEven_own started (by kernel_rfl) Try.func6
    (ChangeSpec.witness6 (enc := enc) (C := Try.checked) false ⟨#[], #[.agg #[.int .u8 0, .int .u8 0, .int .u8 0], .int .u16 0], []⟩ 8 (by kernel_rfl) (by kernel_rfl) (by kernel_rfl) (by kernel_rfl)) ?_
  intro W base args ds gs before hval0 hW hcnd _
  have hval : ∀ (j : Nat) t v, Try.f6.params[j]? = some t → args[j]? = some v → Value.okWide Try.prog W .any base t v := hval0
  have hW' := hW
  obtain ⟨p, q, hA0, hV, rfl, hfz, hnd⟩ := hW
  have hA : DataW.TrodAll enc Try.prog W 0 (fun _ => true) true Try.f6.params.toList args.toList ds p := hA0
  have hAk := hA
  rw [Try.params6] at hA hval
  obtain ⟨v0, vs0, d0, ds0, p0, q0, hargs, rfl, rfl, h0, r0⟩ := trodAll_cons hA
  obtain ⟨v1, vs1, d1, ds1, p1, q1, rfl, rfl, rfl, h1, r1⟩ := trodAll_cons r0
  obtain ⟨rfl, rfl, rfl⟩ := trodAll_nil r1
  obtain rfl : args = #[v0, v1] := by cases args; simp_all
  obtain ⟨rfl, rfl⟩ := trodVars_none hV
  obtain ⟨ns0, rfl, cs0, hr0⟩ := open_flat_agg (okWide_array Try.underlying48 (hval 0 48 v0 rfl rfl)) SchedEven_flat0 h0
  obtain ⟨a1, rfl, rfl, rfl, w1⟩ := open_int Try.underlying49 (hval 1 49 v1 rfl rfl) h1

  have key : Calls Try.prog 6 #[.agg (List.zipWith leafV [some .u8, some .u8, some .u8] ns0).toArray, .int .u16 a1] W (StaysPost W) := by
    obtain ⟨x0, ns, rfl, g0, cs, hr⟩ := hr0.cons_inv
    obtain ⟨x1, ns, rfl, g1, cs, hr⟩ := hr.cons_inv
    obtain ⟨x2, ns, rfl, g2, cs, hr⟩ := hr.cons_inv
    obtain rfl := hr.nil_inv
    exact SchedEven_any W x0 x1 x2 a1 (by have := g0; simp [leafOk, Lit.wf, IntKind.min, IntKind.max, IntKind.signed, IntKind.bits] at this; omega) (by have := g1; simp [leafOk, Lit.wf, IntKind.min, IntKind.max, IntKind.signed, IntKind.bits] at this; omega) (by have := g2; simp [leafOk, Lit.wf, IntKind.min, IntKind.max, IntKind.signed, IntKind.bits] at this; omega) (by have := w1; simp [Lit.wf, IntKind.min, IntKind.max, IntKind.signed, IntKind.bits] at this; omega)
  refine key.mono fun e W' ⟨he, bel⟩ => ?_
  subst he
  exact ⟨_, rfl, _, _, _, [], _, [], hW', trodAll_mk1 (shut_bool Try.underlying4 _), trodAll_below SchedEven_laid bel SchedEven_types hAk, rfl, bel.frame _, fun h => by cases h⟩

theorem SchedEven_holds : Rows.SchedEvenSaid :=
  OpenClaim.holds_of_wide 6 Try.f6 rfl rfl rfl rfl rfl rfl rfl ⟨rfl, rfl, rfl, rfl, rfl⟩ rfl rfl rfl rfl rfl (by kernel_rfl) Try.func6 (by kernel_rfl)
    (of_decide_eq_true (by kernel_rfl)) (by unfold Func.isWrapper; first | (rw [if_pos (by decide +kernel)]; kernel_rfl) | (rw [if_neg (by decide +kernel)]; exact ⟨rfl, rfl⟩))
    (fun os started H enc _ => SchedEven_lifted os started H enc)

end Go.Proofs.Ytagfalnfjiodcaa
