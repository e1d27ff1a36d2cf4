/- Weights: of each so many turns as the sum, each core has as many as its weight. Plain. -/
import Derived.Test.YtagfalnfjiodcaaSchedM1
namespace Go.Proofs.Ytagfalnfjiodcaa
open Go.RowKit

theorem sum_set {l : IL} {i : Nat} (h : i < l.length) (x : Int) : (l.set i x).sum = l.sum - l[i] + x := by
  induction l generalizing i with
  | nil => simp at h
  | cons a l ih =>
    cases i with
    | zero => simp; omega
    | succ i =>
      have := ih (i := i) (by simpa using h)
      simp [this]; omega
theorem sum_le_zero : ∀ {l : IL}, (∀ x ∈ l, x ≤ 0) → l.sum ≤ 0
  | [], _ => by simp
  | a :: l, h => by
    have := sum_le_zero (l := l) (fun x hx => h x (by simp [hx]))
    have := h a (by simp)
    simp; omega
theorem mx_pos {l : IL} (h : 1 ≤ l.sum) : 1 ≤ mx l := by
  refine Decidable.byContradiction fun hn => ?_
  have := sum_le_zero (l := l) (fun x hx => by have := mx_ge hx; omega)
  omega
theorem wAdd_sum {w cr : IL} (h : w.length ≤ 4) (h4 : cr.length = 4) : ((wAdd w cr).take w.length).sum = (cr.take w.length).sum + w.sum := by
  obtain ⟨a, b, c, d, rfl⟩ := four h4
  match w, h with
  | [], _ => simp
  | [x], _ => simp [wAdd, addK, List.mapIdx_cons]
  | [x, y], _ => simp [wAdd, addK, List.mapIdx_cons]; omega
  | [x, y, z], _ => simp [wAdd, addK, List.mapIdx_cons]; omega
  | [x, y, z, u], _ => simp [wAdd, addK, List.mapIdx_cons]; omega

/-- How often a core came. -/
def wN (w : IL) (t i : Nat) : Nat := (outs (fun t => ((wC w (wSt w t) : Nat) : Int)) t).count (i : Int)
theorem wN_zero (w : IL) (i : Nat) : wN w 0 i = 0 := rfl
theorem wN_succ (w : IL) (t i : Nat) : wN w (t + 1) i = wN w t i + if wC w (wSt w t) = i then 1 else 0 := by
  unfold wN
  rw [outs_succ, List.count_append, List.count_singleton]
  by_cases e : wC w (wSt w t) = i
  · simp [e]
  · simp [e]; omega

theorem wAdd_at {w cr : IL} {i : Nat} (h4 : cr.length = 4) (hi : i < 4) (h : i < (wAdd w cr).length) : (wAdd w cr)[i] = cr.getD i 0 + w.getD i 0 := by
  simp only [wAdd]
  rw [addK_get (by omega)]
  by_cases e : i < w.length
  · simp [e, show i < cr.length from by omega]
  · simp [e, show i < cr.length from by omega]
theorem wAdd_len (w cr : IL) : (wAdd w cr).length = cr.length := by rw [wAdd, addK_len]

theorem wSt_closed {w : IL} (t : Nat) : ∀ i, i < 4 → (wSt w t).getD i 0 = (t : Int) * w.getD i 0 - w.sum * (wN w t i : Int) := by
  induction t with
  | zero =>
    intro i hi
    rw [wN_zero]
    have : (wSt w 0).getD i 0 = 0 := by
      rw [wSt]
      match i, hi with
      | 0, _ => rfl
      | 1, _ => rfl
      | 2, _ => rfl
      | 3, _ => rfl
    rw [this]; simp
  | succ t ih =>
    intro i hi
    have hl : i < (wAdd w (wSt w t)).length := by rw [wAdd_len, wSt_len]; exact hi
    have e1 : (wSt w (t + 1)).getD i 0 = if wC w (wSt w t) = i then (wAdd w (wSt w t)).getD (wC w (wSt w t)) 0 - w.sum else (wAdd w (wSt w t))[i] := by
      rw [wSt, wNext, List.getD_eq_getElem?_getD, List.getElem?_set]
      by_cases e : wC w (wSt w t) = i
      · simp [e, hl]
      · simp [e, hl]
    have e2 := wAdd_at (w := w) (wSt_len w t) hi hl
    have e3 := ih i hi
    have em : ((t + 1 : Nat) : Int) * w.getD i 0 = (t : Int) * w.getD i 0 + w.getD i 0 := by push_cast; rw [Int.add_mul, Int.one_mul]
    rw [e1, wN_succ, em]
    by_cases e : wC w (wSt w t) = i
    · rw [if_pos e, if_pos e, e]
      have : (wAdd w (wSt w t)).getD i 0 = (wAdd w (wSt w t))[i] := by simp [hl]
      rw [this, e2, e3]
      push_cast
      rw [Int.mul_add, Int.mul_one]
      omega
    · rw [if_neg e, if_neg e, e2, e3]
      push_cast
      rw [Int.add_zero]
      omega

theorem wSt_sum {w : IL} (h : Within 1 w) (t : Nat) : ((wSt w t).take w.length).sum = 0 := by
  induction t with
  | zero =>
    rw [wSt]
    have h1 := h.1.1
    have h4 := h.1.2
    obtain e | e | e | e : w.length = 1 ∨ w.length = 2 ∨ w.length = 3 ∨ w.length = 4 := by omega
    all_goals rw [e]; rfl
  | succ t ih =>
    have hc := wC_lt h (wSt_len w t)
    have hl : wC w (wSt w t) < (wAdd w (wSt w t)).length := by rw [wAdd_len, wSt_len]; have := h.1.2; omega
    have hlt : wC w (wSt w t) < ((wAdd w (wSt w t)).take w.length).length := by rw [List.length_take]; omega
    rw [wSt, wNext, List.take_set, sum_set hlt, wAdd_sum h.1.2 (wSt_len w t), ih, List.getElem_take]
    have : (wAdd w (wSt w t)).getD (wC w (wSt w t)) 0 = (wAdd w (wSt w t))[wC w (wSt w t)] := by simp [hl]
    rw [this]
    omega
theorem sum_pos {w : IL} (h : Within 1 w) : 1 ≤ w.sum := by
  have h1 := h.1.1
  cases w with
  | nil => simp at h1
  | cons a l =>
    have : ∀ l : IL, (∀ x ∈ l, 1 ≤ x) → 0 ≤ l.sum := by
      intro l
      induction l with
      | nil => intro _; simp
      | cons a l ih => intro hx; have := ih (fun x h => hx x (by simp [h])); have := hx a (by simp); simp; omega
    have h2 := this l (fun x hx => (h.2 x (by simp [hx])).1)
    have h3 := (h.2 a (by simp)).1
    simp; omega

theorem wSt_gt {w : IL} (h : Within 1 w) (t : Nat) : ∀ i, i < w.length → -w.sum < (wSt w t).getD i 0 := by
  induction t with
  | zero =>
    intro i hi
    have hs := sum_pos h
    rw [wSt_closed 0 i (by have := h.1.2; omega), wN_zero]
    simp; omega
  | succ t ih =>
    intro i hi
    have h4 := h.1.2
    have hs := sum_pos h
    have hl : i < (wAdd w (wSt w t)).length := by rw [wAdd_len, wSt_len]; omega
    have e1 : (wSt w (t + 1)).getD i 0 = if wC w (wSt w t) = i then (wAdd w (wSt w t)).getD (wC w (wSt w t)) 0 - w.sum else (wAdd w (wSt w t))[i] := by
      rw [wSt, wNext, List.getD_eq_getElem?_getD, List.getElem?_set]
      by_cases e : wC w (wSt w t) = i
      · simp [e, hl]
      · simp [e, hl]
    rw [e1]
    by_cases e : wC w (wSt w t) = i
    · rw [if_pos e]
      have hne : 0 < ((wAdd w (wSt w t)).take w.length).length := by rw [List.length_take]; omega
      obtain ⟨g1, g2⟩ := gI_spec hne
      have hg := g2 g1
      have hm : 1 ≤ mx ((wAdd w (wSt w t)).take w.length) := mx_pos (by rw [wAdd_sum h4 (wSt_len w t), wSt_sum h]; omega)
      have hx : ((wAdd w (wSt w t)).take w.length)[gI ((wAdd w (wSt w t)).take w.length)] = (wAdd w (wSt w t)).getD (wC w (wSt w t)) 0 := by
        rw [List.getElem_take]
        have hl2 : wC w (wSt w t) < (wAdd w (wSt w t)).length := by rw [e]; exact hl
        have : (wAdd w (wSt w t)).getD (wC w (wSt w t)) 0 = (wAdd w (wSt w t))[wC w (wSt w t)] := by simp [hl2]
        rw [this]; rfl
      rw [hx] at hg
      omega
    · rw [if_neg e, wAdd_at (wSt_len w t) (by omega) hl]
      have := ih i hi
      have := (h.2 _ (List.getElem_mem hi)).1
      have : w.getD i 0 = w[i] := by simp [hi]
      omega

theorem wN_out {w : IL} (h : Within 1 w) (t : Nat) {i : Nat} (hi : w.length ≤ i) : wN w t i = 0 := by
  induction t with
  | zero => rfl
  | succ t ih =>
    have := wC_lt h (wSt_len w t)
    rw [wN_succ, ih, if_neg (by omega)]

/-- Of the first S turns each core has its weight. -/
theorem wN_sum {w : IL} (h : Within 1 w) : ∀ i, i < 4 → (wN w w.sum.toNat i : Int) = w.getD i 0 := by
  have hs := sum_pos h
  have h4 := h.1.2
  have eS : ((w.sum.toNat : Nat) : Int) = w.sum := by omega
  have hcl := wSt_closed (w := w) w.sum.toNat
  have hgt := wSt_gt h w.sum.toNat
  have hsum := wSt_sum h w.sum.toNat
  have hlen := wSt_len w w.sum.toNat
  rw [eS] at hcl
  have hge : ∀ i, i < w.length → 0 ≤ (wSt w w.sum.toNat).getD i 0 := by
    intro i hi
    have a := hcl i (by omega)
    have b := hgt i hi
    rw [← Int.mul_sub] at a
    rw [a] at b ⊢
    refine Int.mul_nonneg (by omega) ?_
    refine Decidable.byContradiction fun hn => ?_
    have : w.sum * (w.getD i 0 - (wN w w.sum.toNat i : Int)) ≤ w.sum * (-1) := Int.mul_le_mul_of_nonneg_left (by omega) (by omega)
    omega
  have hz : ∀ i, i < w.length → (wSt w w.sum.toNat).getD i 0 = 0 := by
    obtain ⟨a, b, c, d, e⟩ := four hlen
    rw [e] at hsum hge ⊢
    have h1 := h.1.1
    have g0 := hge 0
    have g1 := hge 1
    have g2 := hge 2
    have g3 := hge 3
    obtain eL | eL | eL | eL : w.length = 1 ∨ w.length = 2 ∨ w.length = 3 ∨ w.length = 4 := by omega
    all_goals
      rw [eL] at hsum g0 g1 g2 g3 ⊢
      simp at hsum g0 g1 g2 g3
      intro i hi
      match i, hi with
      | 0, _ => simp; omega
      | 1, _ => simp; omega
      | 2, _ => simp; omega
      | 3, _ => simp; omega
  intro i hi
  by_cases hw : i < w.length
  · have a := hcl i hi
    rw [hz i hw, ← Int.mul_sub] at a
    have := Int.mul_eq_zero.1 a.symm
    omega
  · rw [wN_out h _ (by omega)]
    simp [hw]

theorem wSt_period {w : IL} (h : Within 1 w) : wSt w w.sum.toNat = [0, 0, 0, 0] := by
  have hs := sum_pos h
  have eS : ((w.sum.toNat : Nat) : Int) = w.sum := by omega
  apply List.ext_getElem
  · rw [wSt_len]; rfl
  · intro i h1 h2
    have hi : i < 4 := by rw [wSt_len] at h1; exact h1
    have a := wSt_closed (w := w) w.sum.toNat i hi
    rw [wN_sum h i hi, eS, Int.sub_self] at a
    have : (wSt w w.sum.toNat).getD i 0 = (wSt w w.sum.toNat)[i] := by simp [h1]
    rw [← this, a]
    match i, hi with
    | 0, _ => rfl
    | 1, _ => rfl
    | 2, _ => rfl
    | 3, _ => rfl
theorem wSt_add {w : IL} (h : Within 1 w) (t : Nat) : wSt w (w.sum.toNat + t) = wSt w t := by
  induction t with
  | zero => rw [Nat.add_zero, wSt_period h]; rfl
  | succ t ih => rw [← Nat.add_assoc, wSt, ih]; rfl
theorem wN_add {w : IL} (h : Within 1 w) (t i : Nat) : wN w (w.sum.toNat + t) i = wN w w.sum.toNat i + wN w t i := by
  induction t with
  | zero => simp [wN_zero]
  | succ t ih => rw [← Nat.add_assoc, wN_succ, ih, wN_succ, wSt_add h]; omega
theorem outs_take (f : Nat → Int) {a b : Nat} (h : a ≤ b) : (outs f b).take a = outs f a := by
  rw [outs, outs, ← List.map_take, List.take_range, Nat.min_eq_left h]
/-- The theorem's second half. -/
theorem share {w : IL} (h : Within 1 w) (a : Nat) {i : Nat} (hi : i < w.length) :
    ((((outs (fun t => ((wC w (wSt w t) : Nat) : Int)) (a + w.sum.toNat)).drop a).count (i : Int) : Nat) : Int) = w.getD i 0 := by
  have h4 := h.1.2
  have e1 := wN_add h a i
  have e2 : wN w (w.sum.toNat + a) i = wN w a i + ((outs (fun t => ((wC w (wSt w t) : Nat) : Int)) (a + w.sum.toNat)).drop a).count (i : Int) := by
    have := List.take_append_drop a (outs (fun t => ((wC w (wSt w t) : Nat) : Int)) (a + w.sum.toNat))
    have hc : (outs (fun t => ((wC w (wSt w t) : Nat) : Int)) (a + w.sum.toNat)).count (i : Int) = ((outs (fun t => ((wC w (wSt w t) : Nat) : Int)) (a + w.sum.toNat)).take a).count (i : Int) + ((outs (fun t => ((wC w (wSt w t) : Nat) : Int)) (a + w.sum.toNat)).drop a).count (i : Int) := by
      rw [← List.count_append, this]
    rw [outs_take _ (by omega)] at hc
    rw [Nat.add_comm]
    exact hc
  have e3 := wN_sum h i (by omega)
  omega

end Go.Proofs.Ytagfalnfjiodcaa
