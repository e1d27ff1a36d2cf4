/- How long a core waits, by all beginnings. -/
import Derived.Test.YtagfalnfjiodcaaSched15
namespace Go.Proofs.Ytagfalnfjiodcaa
open Go.RowKit

/-- How many turns from the first one on are not a core's. -/
def runF (c : Int) : IL → Nat
  | [] => 0
  | x :: l => if x = c then 0 else runF c l + 1
def wl (c : Int) : IL → Int
  | [] => 0
  | x :: l => max (runF c (x :: l) : Int) (wl c l)
theorem runF_le_wl (c : Int) : ∀ l : IL, (runF c l : Int) ≤ wl c l
  | [] => Int.le_refl _
  | x :: l => Int.le_max_left _ _
theorem wl_nonneg (c : Int) (l : IL) : 0 ≤ wl c l := Int.le_trans (by omega) (runF_le_wl c l)
theorem wait_fold (c : Int) : ∀ (l : IL) (m n : Int), 0 ≤ n → n ≤ m → (l.foldl (fun s x => let n := if x = c then 0 else s.2 + 1; (max s.1 n, n)) (m, n)).1 = max m (max (n + runF c l) (wl c l))
  | [], m, n, h0, h => by simp only [List.foldl_nil, runF, wl]; omega
  | x :: l, m, n, h0, h => by
    rw [List.foldl_cons]
    have hw := runF_le_wl c l
    by_cases e : x = c
    · simp only [e, if_true]
      rw [wait_fold c l _ _ (by omega) (by omega)]
      simp only [wl, runF, if_true]
      omega
    · simp only [if_neg e]
      rw [wait_fold c l _ _ (by omega) (by omega)]
      simp only [wl, runF, if_neg e]
      omega
theorem waitS_wl (c : Int) (l : IL) : (waitS c l).1 = wl c l := by
  unfold waitS
  rw [wait_fold c l 0 0 (by omega) (by omega)]
  have := runF_le_wl c l
  omega

def lg (c : Int) (l : IL) : Nat → Int
  | 0 => 0
  | k + 1 => max (lg c l k) (runF c (l.drop k))
theorem lg_wl (c : Int) (l : IL) : ∀ k, k ≤ l.length → max (lg c l k) (wl c (l.drop k)) = wl c l
  | 0, _ => by have := wl_nonneg c l; simp only [lg, List.drop_zero]; omega
  | k + 1, h => by
    have ih := lg_wl c l k (by omega)
    rw [List.drop_eq_getElem_cons (by omega : k < l.length)] at ih
    simp only [wl] at ih
    simp only [lg]
    rw [List.drop_eq_getElem_cons (by omega : k < l.length)]
    omega
theorem lg_all (c : Int) (l : IL) : lg c l l.length = (waitS c l).1 := by
  have := lg_wl c l l.length (Nat.le_refl _)
  rw [List.drop_length] at this
  rw [waitS_wl, ← this]
  have h : ∀ k, 0 ≤ lg c l k := fun k => by
    induction k with
    | zero => exact Int.le_refl _
    | succ k ih => simp only [lg]; omega
  have := h l.length
  simp only [wl]
  omega
theorem lg_le (c : Int) (l : IL) : ∀ k, 0 ≤ lg c l k ∧ lg c l k ≤ l.length
  | 0 => ⟨Int.le_refl _, by simp [lg]⟩
  | k + 1 => by
    have ih := lg_le c l k
    have h2 : ∀ l : IL, runF c l ≤ l.length := fun l => by
      induction l with
      | nil => simp [runF]
      | cons x l ih => simp only [runF]; split <;> simp <;> omega
    have := h2 (l.drop k)
    rw [List.length_drop] at this
    simp only [lg]
    omega
theorem runF_eq {c : Int} : ∀ {l : IL} {n : Nat}, (∀ j (hj : j < l.length), j < n → l[j] ≠ c) → n ≤ l.length → (∀ hn : n < l.length, l[n] = c) → runF c l = n
  | [], n, _, h, _ => by simp at h; subst h; rfl
  | x :: l, 0, _, _, h => by have := h (by simp); simp at this; simp [runF, this]
  | x :: l, n + 1, h1, h2, h3 => by
    have h0 := h1 0 (by simp) (by omega)
    simp only [List.getElem_cons_zero] at h0
    simp only [runF, if_neg h0]
    rw [runF_eq (l := l) (n := n) (fun j hj hjn => by have := h1 (j + 1) (by simpa using hj) (by omega); simpa using this) (by simpa using h2) (fun hn => by have := h3 (by simpa using hn); simpa using this)]

end Go.Proofs.Ytagfalnfjiodcaa
