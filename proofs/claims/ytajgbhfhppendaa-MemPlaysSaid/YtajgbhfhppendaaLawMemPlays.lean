/- MemPlays: for every input the law returns true, and what came in reads as it did. -/
import Derived.Test.YtajgbhfhppendaaMem8
import Derived.Test.YtajgbhfhppendaaOpen
namespace Go.Proofs.Ytajgbhfhppendaa
open Go.ChangeShapes Go.WideShapes Go.ChangeAt Go.RowKit

theorem MemPlays_own : ownKnob Try.prog.godebug = none := by kernel_rfl
theorem MemPlays_laid : laidOutB Try.prog = true := by kernel_rfl
theorem MemPlays_types : ∀ t ∈ Try.f5.params.toList, Try.prog.readableRec t = true ∧ t < Try.prog.types.size := by
  have h : (Try.f5.params.toList.all fun t => Try.prog.readableRec t && decide (t < Try.prog.types.size)) = true := by kernel_rfl
  intro t ht
  have := List.all_eq_true.1 h t ht
  simpa using this
theorem MemPlays_flat1 : flat Try.prog 8 48 = some [some .i64, some .i64, some .u64, some .u64, some .u64, some .u64, some .u64, some .u64, some .u64, some .u64, some .u64] := by kernel_rfl
theorem MemPlays_cells1 : Try.prog.cellsOf 48 = 11 := by kernel_rfl

set_option maxRecDepth 100000 in
set_option maxHeartbeats 1000000 in
theorem MemPlays_lifted (os : Os) (started : os.Started) (H : Type) (enc : TypeId × Value → H) :
    ReturnsInHanded {} Try.checked os 5 .any (Rows.memPlaysSpec.pre6 enc Try.prog Try.f5 Rows.memPlaysRow.domain false) (Rows.memPlaysSpec.post enc Try.prog Try.f5 false true false false) := by
  refine returnsInHanded_of_change (C := Try.checked) MemPlays_own started (by kernel_rfl) Try.func5
    (ChangeSpec.witness6 (enc := enc) (C := Try.checked) false ⟨#[], #[.int .i64 0, .slice none 0 0], []⟩ 8 (by kernel_rfl) (by kernel_rfl) (by kernel_rfl) (by kernel_rfl)) ?_
  intro W base args ds gs before hval0 hW hcnd _
  have hval : ∀ (j : Nat) t v, Try.f5.params[j]? = some t → args[j]? = some v → Value.okWide Try.prog W .any base t v := hval0
  have hW' := hW
  obtain ⟨p, q, hA0, hV, rfl, hfz, hnd⟩ := hW
  have hA : DataW.TrodAll enc Try.prog W 0 (fun _ => true) true Try.f5.params.toList args.toList ds p := hA0
  have hAk := hA
  rw [Try.params5] at hA hval
  obtain ⟨v0, vs0, d0, ds0, p0, q0, hargs, rfl, rfl, h0, r0⟩ := trodAll_cons hA
  obtain ⟨v1, vs1, d1, ds1, p1, q1, rfl, rfl, rfl, h1, r1⟩ := trodAll_cons r0
  obtain ⟨rfl, rfl, rfl⟩ := trodAll_nil r1
  obtain rfl : args = #[v0, v1] := by cases args; simp_all
  obtain ⟨rfl, rfl⟩ := trodVars_none hV
  obtain ⟨a0, rfl, rfl, rfl, w0⟩ := open_int Try.underlying3 (hval 0 3 v0 rfl rfl) h0
  obtain ⟨A1, len1, cap1, rfl⟩ := okWide_slice Try.underlying41 (hval 1 41 v1 rfl rfl)
  obtain ⟨fuel1, hf1⟩ := h1
  obtain ⟨A1', cap1', xs1, hv1, hcl1, hcm1, _, hfl1, hR1⟩ := open_flat_slice Try.underlying41 MemPlays_flat1 MemPlays_cells1 (by decide) hf1
  obtain ⟨rfl, rfl, rfl⟩ : A1 = A1' ∧ len1 = xs1.length ∧ cap1 = cap1' := by simpa using hv1

  have key : Calls Try.prog 5 #[.int .i64 a0, .slice A1 xs1.length cap1] W (StaysPost W) := MemPlays_any W A1 cap1 xs1 a0 hfl1 hR1
  refine key.mono fun e W' ⟨he, bel⟩ => ?_
  subst he
  exact ⟨_, rfl, _, _, _, [], _, [], hW', trodAll_mk1 (shut_bool Try.underlying4 _), trodAll_below MemPlays_laid bel MemPlays_types hAk, rfl, bel.frame _, fun h => by cases h⟩

theorem MemPlays_holds : Rows.MemPlaysSaid :=
  OpenClaim.holds_of_wide 5 Try.f5 rfl rfl rfl rfl rfl rfl rfl ⟨rfl, rfl, rfl, rfl, rfl⟩ rfl rfl rfl rfl rfl (by kernel_rfl) Try.func5 (by kernel_rfl)
    (of_decide_eq_true (by kernel_rfl)) (by unfold Func.isWrapper; first | (rw [if_pos (by decide +kernel)]; kernel_rfl) | (rw [if_neg (by decide +kernel)]; exact ⟨rfl, rfl⟩))
    (fun os started H enc _ => MemPlays_lifted os started H enc)

end Go.Proofs.Ytajgbhfhppendaa
