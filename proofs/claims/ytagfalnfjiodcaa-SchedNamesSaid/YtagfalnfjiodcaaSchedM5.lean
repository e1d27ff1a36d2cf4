/- Acts one by one; all turns are some core's. -/
import Derived.Test.YtagfalnfjiodcaaSched30
namespace Go.Proofs.Ytagfalnfjiodcaa
open Go.RowKit

theorem runF_none {c : Int} : ∀ {l : IL}, (∀ x ∈ l, x ≠ c) → runF c l = l.length
  | [], _ => rfl
  | x :: l, h => by
    simp only [runF, if_neg (h x (by simp))]
    rw [runF_none (l := l) (fun y hy => h y (by simp [hy]))]; rfl
theorem wait_none {c : Int} {l : IL} (h : ∀ x ∈ l, x ≠ c) : (waitS c l).1 = l.length := by
  have h1 := runF_le_wl c l
  have h2 := (lg_le c l l.length).2
  rw [lg_all, waitS_wl] at h2
  rw [waitS_wl]
  rw [runF_none h] at h1
  omega
def sumC (l : IL) : Nat → Nat
  | 0 => 0
  | k + 1 => sumC l k + l.count (k : Int)
theorem sumC_le (l : IL) : ∀ k, sumC l k ≤ k * l.length
  | 0 => by simp [sumC]
  | k + 1 => by
    have := sumC_le l k
    have := List.count_le_length (a := (k : Int)) (l := l)
    simp only [sumC, Nat.succ_mul]
    omega
theorem sumC_all {l : IL} (h : ∀ x ∈ l, 0 ≤ x ∧ x < 4) : sumC l 4 = l.length := by
  simp only [sumC]
  induction l with
  | nil => simp
  | cons x l ih =>
    have ih := ih (fun y hy => h y (by simp [hy]))
    have hx := h x (by simp)
    simp only [List.count_cons, List.length_cons]
    have hc : x = 0 ∨ x = 1 ∨ x = 2 ∨ x = 3 := by omega
    rcases hc with rfl | rfl | rfl | rfl <;> simp at ih ⊢ <;> omega
theorem outN_all {l : IL} (h : l.any outN = false) : ∀ x ∈ l, 0 ≤ x ∧ x < 4 := by
  intro x hx
  have := List.any_eq_false.1 h x hx
  simp [outN] at this
  omega
theorem actsL_get : ∀ (l : IL) (p i : Nat) (h : i < (actsL l p).length), (actsL l p)[i] = if i % (p + 1) = 0 then (1, l.getD (i / (p + 1)) 0) else (2, 0)
  | [], p, i, h => by simp [actsL] at h
  | c :: l, p, i, h => by
    have hl : (actsOf p c).length = p + 1 := by simp [actsOf]
    have e : actsL (c :: l) p = actsOf p c ++ actsL l p := by simp [actsL]
    by_cases hi : i < p + 1
    · have h1 : (actsL (c :: l) p)[i] = (actsOf p c)[i] := by simp only [e]; rw [List.getElem_append_left (by omega)]
      rw [h1, Nat.mod_eq_of_lt hi, Nat.div_eq_of_lt hi]
      by_cases h0 : i = 0
      · subst h0; simp [actsOf]
      · rw [if_neg h0]
        obtain ⟨j, rfl⟩ : ∃ j, i = j + 1 := ⟨i - 1, by omega⟩
        simp [actsOf]
    · have hlt : i - (p + 1) < (actsL l p).length := by rw [e, List.length_append, hl] at h; omega
      have h1 : (actsL (c :: l) p)[i] = (actsL l p)[i - (p + 1)] := by simp only [e]; rw [List.getElem_append_right (by omega)]; simp [hl]
      rw [h1, actsL_get l p _ hlt]
      have hm : (i - (p + 1)) % (p + 1) = i % (p + 1) := by rw [← Nat.mod_eq_sub_mod (by omega)]
      have hd : i / (p + 1) = (i - (p + 1)) / (p + 1) + 1 := by rw [Nat.div_eq_sub_div (by omega) (by omega)]
      rw [hm, hd]
      simp

end Go.Proofs.Ytagfalnfjiodcaa
