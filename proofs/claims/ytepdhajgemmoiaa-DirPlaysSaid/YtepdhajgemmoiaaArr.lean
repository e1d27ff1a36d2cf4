/- '==' on arrays of integers. No program in sight. -/
import Derived.Test.YtepdhajgemmoiaaLib
import Derived.ChangeKeysEq
namespace Go.Proofs.Ytepdhajgemmoiaa
open Go.RowKit

/-- Are two lists of numbers one? -/
def eqInts (l m : List Int) : Bool := decide (l = m)
theorem eqInts_self (l : List Int) : eqInts l l = true := by simp [eqInts]
theorem eqInts_iff {l m : List Int} : eqInts l m = true ↔ l = m := by simp [eqInts]

theorem run_eqItems_ints {P : Program} (w : World) (d : Nat) {e : TypeId} {k : IntKind} (he : P.underlying e = some (.int k)) :
    ∀ (n s : Nat) (l m : List Int), l.length = s + n → m.length = s + n → l.take s = m.take s →
      (Op.eqItems (d + 1) e 1 (l.map (Value.int k)).toArray (m.map (Value.int k)).toArray (List.range' s n)).run P w = .ok (eqInts l m) w
  | 0, s, l, m, hl, hm, ht => by
    have e1 : l = m := by
      rw [List.take_of_length_le (by omega), List.take_of_length_le (by omega)] at ht; exact ht
    subst e1
    simp [Op.eqItems, eqInts]
  | n + 1, s, l, m, hl, hm, ht => by
    have hsl : s < l.length := by omega
    have hsm : s < m.length := by omega
    have pl : (part e (l.map (Value.int k)).toArray s).run P w = .ok (.int k l[s]) w := by simp [part, isAgg, run_underlying he, hsl]
    have pm : (part e (m.map (Value.int k)).toArray s).run P w = .ok (.int k m[s]) w := by simp [part, isAgg, run_underlying he, hsm]
    simp only [List.range'_succ, Op.eqItems, Nat.mul_one, Sem.run_bind, pl, pm, Result.andThen_ok, run_equalIn_int w d e k k _ _ he]
    by_cases h : l[s] = m[s]
    · have ih := run_eqItems_ints w d he n (s + 1) l m (by omega) (by omega) (by rw [List.take_succ_eq_append_getElem hsl, List.take_succ_eq_append_getElem hsm, ht, h])
      simp only [h, beq_self_eq_true, Bool.not_true, Bool.false_eq_true, if_false]
      exact ih
    · have hne : ¬ l = m := fun e => h (by subst e; rfl)
      simp [h, eqInts, hne]

theorem run_eq_array {P : Program} (w : World) (d : Nat) {t e : TypeId} {n : Nat} {i : TypeInfo} {k : IntKind} (hu : P.underlying t = some (.array n e)) (hi : P.info? e = some i) (hc : P.cellsOf e = 1) (he : P.underlying e = some (.int k))
    (l m : List Int) (hl : l.length = n) (hm : m.length = n) :
    (Op.equalIn (d + 2) t (.agg (l.map (Value.int k)).toArray) (.agg (m.map (Value.int k)).toArray)).run P w = .ok (eqInts l m) w := by
  rw [run_equalIn_array w (d + 1) _ _ hu hi, hc, List.range_eq_range']
  exact run_eqItems_ints w d he n 0 l m (by omega) (by omega) rfl

end Go.Proofs.Ytepdhajgemmoiaa
