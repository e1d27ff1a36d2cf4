/- Even weights, even ranks come in rounds: plain. -/
import Derived.Test.YtagfalnfjiodcaaSched9
namespace Go.Proofs.Ytagfalnfjiodcaa
open Go.RowKit

theorem outs_eq {f g : Nat → Int} {n : Nat} (h : ∀ t, t < n → f t = g t) : outs f n = outs g n := by
  apply List.map_congr_left
  intro t ht
  exact h t (List.mem_range.1 ht)

def ev (k : Nat) (a : Int) (r : Nat) : IL := (List.range 4).map (fun i => if i < k then (r : Int) * a - (if i < r then (k : Int) * a else 0) else 0)
theorem ev_len (k : Nat) (a : Int) (r : Nat) : (ev k a r).length = 4 := by simp [ev]
theorem ev_get {k : Nat} {a : Int} {r i : Nat} (hi : i < 4) : (ev k a r)[i]'(by rw [ev_len]; exact hi) = if i < k then (r : Int) * a - (if i < r then (k : Int) * a else 0) else 0 := by simp [ev]
theorem ev_add {k : Nat} {a : Int} {r i : Nat} (hi : i < 4) (h : i < (wAdd (List.replicate k a) (ev k a r)).length) : (wAdd (List.replicate k a) (ev k a r))[i] = if i < k then (r : Int) * a + a - (if i < r then (k : Int) * a else 0) else 0 := by
  simp only [wAdd]
  rw [addK_get (by rw [ev_len]; exact hi), ev_get hi]
  by_cases h : i < k
  · simp [h]; omega
  · simp [h]

theorem ev_C {k : Nat} {a : Int} {r : Nat} (h1 : 1 ≤ k) (h4 : k ≤ 4) (ha : 1 ≤ a) (hr : r < k) : wC (List.replicate k a) (ev k a r) = r := by
  have hQ : 1 ≤ (k : Int) * a := by
    have := Int.mul_pos (a := (k : Int)) (b := a) (by omega) (by omega)
    omega
  unfold wC
  have hg : ∀ i (hi : i < ((wAdd (List.replicate k a) (ev k a r)).take (List.replicate k a).length).length), ((wAdd (List.replicate k a) (ev k a r)).take (List.replicate k a).length)[i] = (r : Int) * a + a - (if i < r then (k : Int) * a else 0) := by
    intro i hi
    have hi' : i < k := by simp at hi; omega
    rw [List.getElem_take, ev_add (by omega), if_pos hi']
  have hl : ((wAdd (List.replicate k a) (ev k a r)).take (List.replicate k a).length).length = k := by simp [wAdd, addK_len, ev_len]; omega
  refine gI_eq (by rw [hl]; exact hr) (fun i hi => ?_) (fun i hi hir => ?_)
  · rw [hg, hg, if_neg (Nat.lt_irrefl r)]; split <;> omega
  · rw [hg, hg, if_neg (Nat.lt_irrefl r), if_pos hir]; omega

theorem ev_next {k : Nat} {a : Int} {r : Nat} (h1 : 1 ≤ k) (h4 : k ≤ 4) (ha : 1 ≤ a) (hr : r < k) : wNext (List.replicate k a) (ev k a r) = ev k a ((r + 1) % k) := by
  have hs : (List.replicate k a).sum = (k : Int) * a := List.sum_replicate_int
  have hd : (wAdd (List.replicate k a) (ev k a r)).getD r 0 = (r : Int) * a + a := by
    have hl : r < (wAdd (List.replicate k a) (ev k a r)).length := by simp [wAdd, addK_len, ev_len]; omega
    have := ev_add (k := k) (a := a) (r := r) (i := r) (by omega) hl
    rw [if_pos hr, if_neg (Nat.lt_irrefl r)] at this
    simp [hl, this]
  have e0 : wNext (List.replicate k a) (ev k a r) = (wAdd (List.replicate k a) (ev k a r)).set r ((r : Int) * a + a - (k : Int) * a) := by unfold wNext; rw [ev_C h1 h4 ha hr, hd, hs]
  rw [e0]
  apply List.ext_getElem
  · simp [wAdd, addK_len, ev_len]
  · intro i hi1 hi2
    rw [ev_len] at hi2
    simp only [List.getElem_set, ev_get hi2]
    rw [ev_add hi2]
    by_cases e : r + 1 = k
    · have em : (r + 1) % k = 0 := by rw [e, Nat.mod_self]
      have eQ : (k : Int) * a = (r : Int) * a + a := by rw [← e]; push_cast; rw [Int.add_mul, Int.one_mul]
      rw [em, eQ]
      simp only [Int.ofNat_zero, Int.cast_ofNat_Int, Int.zero_mul, Nat.not_lt_zero, if_false]
      by_cases e1 : r = i
      · rw [if_pos e1]; simp
      · rw [if_neg e1]
        by_cases e2 : i < k
        · rw [if_pos e2, if_pos (by omega)]; simp
        · rw [if_neg e2]; simp
    · have em : (r + 1) % k = r + 1 := Nat.mod_eq_of_lt (by omega)
      have eP : ((r + 1 : Nat) : Int) * a = (r : Int) * a + a := by push_cast; rw [Int.add_mul, Int.one_mul]
      rw [em, eP]
      by_cases e1 : r = i
      · subst e1; rw [if_pos rfl, if_pos hr, if_pos (by omega)]
      · rw [if_neg e1]
        by_cases e2 : i < k
        · rw [if_pos e2, if_pos e2]
          by_cases e3 : i < r
          · rw [if_pos e3, if_pos (by omega)]
          · rw [if_neg e3, if_neg (by omega)]
        · rw [if_neg e2, if_neg e2]

theorem ev_St {k : Nat} {a : Int} (h1 : 1 ≤ k) (h4 : k ≤ 4) (ha : 1 ≤ a) (t : Nat) : wSt (List.replicate k a) t = ev k a (t % k) := by
  induction t with
  | zero =>
    rw [Nat.zero_mod, wSt]
    simp [ev, List.range_succ]
  | succ t ih =>
    rw [wSt, ih, ev_next h1 h4 ha (Nat.mod_lt _ (by omega)), Nat.mod_add_mod]
theorem even_weights {k : Nat} {a : Int} (h1 : 1 ≤ k) (h4 : k ≤ 4) (ha : 1 ≤ a) (n : Nat) : outs (fun t => ((wC (List.replicate k a) (wSt (List.replicate k a) t) : Nat) : Int)) n = outs (fun t => ((t % k : Nat) : Int)) n :=
  outs_eq (fun t _ => by rw [ev_St h1 h4 ha, ev_C h1 h4 ha (Nat.mod_lt _ (by omega))])

def rv (k t i : Nat) : Int := if t < k then (if i < t then (t : Int) - 1 - i else t) else (if i < t % k then ((t % k : Nat) : Int) - 1 - i else ((t % k : Nat) : Int) + k - 1 - i)
theorem ranks_C {k : Nat} {b : Int} {wa : IL} {t : Nat} (h1 : 1 ≤ k) (h4 : k ≤ 4) (h : ∀ i, i < k → wa.getD i 0 = rv k t i) : rC (List.replicate k b) wa = t % k := by
  unfold rC
  have hl : (rN (List.replicate k b) wa).length = k := by simp [rN]
  have hg : ∀ i (hi : i < (rN (List.replicate k b) wa).length), (rN (List.replicate k b) wa)[i] = b + rv k t i := by
    intro i hi
    have hi' : i < k := by omega
    have e := h i hi'
    simp only [rN, List.getElem_map, List.getElem_range]
    rw [e]
    simp [hi']
  have hm : t % k < k := Nat.mod_lt _ (by omega)
  have hr : ∀ i, i < k → rv k t i ≤ rv k t (t % k) := by
    intro i hi
    by_cases e : t < k
    · have em := Nat.mod_eq_of_lt e
      simp only [rv, e, if_true, em, Nat.lt_irrefl, if_false]
      split <;> omega
    · simp only [rv, e, if_false, Nat.lt_irrefl]
      split <;> omega
  have hr2 : ∀ i, i < t % k → rv k t i < rv k t (t % k) := by
    intro i hi
    by_cases e : t < k
    · have em := Nat.mod_eq_of_lt e
      rw [em] at hi
      simp only [rv, e, if_true, em, Nat.lt_irrefl, if_false, hi]
      omega
    · simp only [rv, e, if_false, Nat.lt_irrefl, hi, if_true]
      omega
  refine gI_eq (by rw [hl]; exact hm) (fun i hi => ?_) (fun i hi hir => ?_)
  · rw [hg, hg]; have := hr i (by omega); omega
  · rw [hg, hg]; have := hr2 i hir; omega

theorem ranks_St {k : Nat} {b : Int} (h1 : 1 ≤ k) (h4 : k ≤ 4) (t : Nat) : ∀ i, i < k → (rSt (List.replicate k b) t).getD i 0 = rv k t i := by
  induction t with
  | zero =>
    intro i hi
    have : (rSt (List.replicate k b) 0).getD i 0 = 0 := by
      rw [rSt]
      match i, (show i < 4 from by omega) with
      | 0, _ => rfl
      | 1, _ => rfl
      | 2, _ => rfl
      | 3, _ => rfl
    rw [this]
    simp [rv, show 0 < k from by omega]
  | succ t ih =>
    intro i hi
    have hC := ranks_C (b := b) h1 h4 ih
    have hl : i < (rSt (List.replicate k b) t).length := by rw [rSt_len]; omega
    have e : (rSt (List.replicate k b) (t + 1)).getD i 0 = if i = t % k then 0 else rv k t i + 1 := by
      have e0 := onL_get (c := t % k) hl
      have e1 := ih i hi
      rw [rSt, hC]
      have hl' : i < (onL (rSt (List.replicate k b) t) (t % k)).length := by rw [onL_len]; exact hl
      have e2 : (onL (rSt (List.replicate k b) t) (t % k)).getD i 0 = (onL (rSt (List.replicate k b) t) (t % k))[i] := by simp [hl']
      have e3 : (rSt (List.replicate k b) t).getD i 0 = (rSt (List.replicate k b) t)[i] := by simp [hl]
      rw [e2, e0, ← e3, e1]
    rw [e]
    clear e hC ih
    obtain rfl | rfl | rfl | rfl : k = 1 ∨ k = 2 ∨ k = 3 ∨ k = 4 := by omega
    all_goals
      unfold rv
      repeat' split
      all_goals omega
theorem even_ranks {k : Nat} {b : Int} (h1 : 1 ≤ k) (h4 : k ≤ 4) (n : Nat) : outs (fun t => ((rC (List.replicate k b) (rSt (List.replicate k b) t) : Nat) : Int)) n = outs (fun t => ((t % k : Nat) : Int)) n :=
  outs_eq (fun t _ => by rw [ranks_C h1 h4 (ranks_St h1 h4 t)])

end Go.Proofs.Ytagfalnfjiodcaa
