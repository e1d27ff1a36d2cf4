/- SoftAlone, its range over what was written. -/
import Derived.Test.YtilffolppnnkaaaSoft39
namespace Go.Proofs.Ytilffolppnnkaaa
set_option maxRecDepth 100000
open Go.RowKit

theorem sameKey_i64 (a x : Int) : (Lit.int .i64 a).sameKey (.int .i64 x) = decide (a = x) := by
  simp [Lit.sameKey]

/-- So far has what was written come into what should be. -/
def PutRel (wr g : PL) (left : Lit → Bool) (gv : PL) : Prop :=
  (∀ a, getH gv a = if inH wr a && !left (.int .i64 a) then getH wr a else getH g a) ∧ (∀ a, inH gv a = inH g a) ∧ cntH gv = cntH g
theorem PutRel.start {wr g : PL} {left : Lit → Bool} (hl : ∀ a, left (.int .i64 a) = inH wr a) : PutRel wr g left g :=
  ⟨fun a => by rw [hl]; cases inH wr a <;> rfl, fun _ => rfl, rfl⟩
theorem PutRel.step {wr g gv : PL} {left : Lit → Bool} {x c : Int} (k : PutRel wr g left gv) (hx : inH wr x = true) (hg : inH g x = true) (hc : getH wr x = c) :
    PutRel wr g (fun z => left z && !z.sameKey (.int .i64 x)) ((x, c) :: gv) := by
  refine ⟨fun a => ?_, fun a => ?_, ?_⟩
  · rw [getH_cons]
    simp only [sameKey_i64]
    by_cases e : x = a
    · subst e; simp [hx, hc]
    · have e' : ¬ a = x := fun h => e h.symm
      rw [if_neg e, k.1]; simp [e']
  · rw [inH_cons, k.2.1]
    by_cases e : x = a
    · subst e; simp [hg]
    · simp [e]
  · rw [cntH_in (by rw [k.2.1]; exact hg), k.2.2]
theorem PutRel.ends {wr g gv : PL} {left : Lit → Bool} (k : PutRel wr g left gv) (hl : ∀ z, left z = false) : ∀ a, getH gv a = if inH wr a then getH wr a else getH g a := fun a => by
  rw [k.1, hl]; simp

/-- An entry that a range brings. -/
theorem come_in {D : DataW Unit} {h : PL} (h3 : ∀ a : Int, Maps.has D (.int .i64 a) = inH h a) (h4 : ∀ a : Int, D.atKey (.int .i64 a) (.lit (.int .u64 0)) = .lit (.int .u64 (getH h a))) {x c : Int} (hat : ∀ zd, D.atKey (.int .i64 x) zd = .lit (.int .u64 c)) : inH h x = true ∧ getH h x = c := by
  refine ⟨by rw [← h3]; exact Maps.has_true_of_atKey hat, ?_⟩
  have e := h4 x
  rw [hat] at e
  simp only [DataW.lit.injEq, Lit.int.injEq, true_and] at e
  exact e.symm

end Go.Proofs.Ytilffolppnnkaaa
