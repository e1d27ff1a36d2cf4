/- How long a core waits: plain. -/
import Derived.Test.YtagfalnfjiodcaaSchedM1
import Derived.Test.YtagfalnfjiodcaaSched8
import Derived.Test.YtagfalnfjiodcaaSched15
namespace Go.Proofs.Ytagfalnfjiodcaa
open Go.RowKit

theorem countP_same {l : List Nat} {P P' : Nat → Bool} (h : ∀ j ∈ l, P' j = P j) : l.countP P' = l.countP P := by
  induction l with
  | nil => rfl
  | cons a l ih => rw [List.countP_cons, List.countP_cons, ih (fun j hj => h j (by simp [hj])), h a (by simp)]
theorem countP_step {l : List Nat} (hn : l.Nodup) {c : Nat} (hc : c ∈ l) {P P' : Nat → Bool} (h : ∀ j, j ≠ c → P' j = P j) (h0 : P c = false) (h1 : P' c = true) : l.countP P' = l.countP P + 1 := by
  induction l with
  | nil => cases hc
  | cons a l ih =>
    obtain ⟨ha, hn'⟩ := List.nodup_cons.1 hn
    rw [List.countP_cons, List.countP_cons]
    by_cases e : a = c
    · subst e
      rw [countP_same (fun j hj => h j (fun e => ha (e ▸ hj))), h0, h1]
      simp
    · have hcl : c ∈ l := by rcases List.mem_cons.1 hc with e2 | e2; exact absurd e2.symm e; exact e2
      rw [ih hn' hcl, h a e]
      omega
theorem countP_lt {k i : Nat} (hi : i < k) {P : Nat → Bool} (h : P i = false) : (List.range k).countP P + 1 ≤ k := by
  have := countP_step (l := List.range k) List.nodup_range (c := i) (List.mem_range.2 hi) (P := P) (P' := fun j => P j || j == i) (fun j hj => by simp [hj]) h (by simp)
  have h2 := List.countP_le_length (p := fun j => P j || j == i) (l := List.range k)
  rw [List.length_range] at h2
  omega

/-- None waits long: who waits longer than so long is passed only by who waited nearly as long. -/
theorem aging {k : Nat} {top : Int} (ht : 0 ≤ top) {X : Nat → Nat → Int} {C : Nat → Nat} (h0 : ∀ i, X 0 i = 0) (hC : ∀ t, C t < k)
    (hs : ∀ t i, i < k → X (t + 1) i = if i = C t then 0 else X t i + 1) (hch : ∀ t i, i < k → top ≤ X t i → X t i - top ≤ X t (C t)) (t : Nat) :
    ∀ i, i < k → X t i ≤ top + ((List.range k).countP (fun j => decide (X t j < X t i - top)) : Nat) := by
  induction t with
  | zero => intro i _; rw [h0]; omega
  | succ t ih =>
    intro i hi
    by_cases e : i = C t
    · rw [hs t i hi, if_pos e]; omega
    · have hi' := ih i hi
      by_cases hx : top ≤ X t i
      · have hc := hch t i hi hx
        have hst := countP_step (l := List.range k) List.nodup_range (c := C t) (List.mem_range.2 (hC t)) (P := fun j => decide (j < k) && decide (X t j < X t i - top)) (P' := fun j => decide (j < k) && decide (X (t + 1) j < X (t + 1) i - top))
          (fun j hj => by
            by_cases hjk : j < k
            · have a := hs t j hjk
              have b := hs t i hi
              rw [if_neg hj] at a
              rw [if_neg e] at b
              rw [a, b]
              simp only [hjk, decide_true, Bool.true_and]
              exact decide_eq_decide.2 (by omega)
            · simp [hjk])
          (by simp [hC t]; omega)
          (by
            have a := hs t (C t) (hC t)
            have b := hs t i hi
            rw [if_pos rfl] at a
            rw [if_neg e] at b
            rw [a, b]
            simp [hC t]; omega)
        have c1 : (List.range k).countP (fun j => decide (j < k) && decide (X t j < X t i - top)) = (List.range k).countP (fun j => decide (X t j < X t i - top)) := countP_same (fun j hj => by simp [List.mem_range.1 hj])
        have c2 : (List.range k).countP (fun j => decide (j < k) && decide (X (t + 1) j < X (t + 1) i - top)) = (List.range k).countP (fun j => decide (X (t + 1) j < X (t + 1) i - top)) := countP_same (fun j hj => by simp [List.mem_range.1 hj])
        rw [c1, c2] at hst
        rw [hst]
        have b := hs t i hi
        rw [if_neg e] at b
        rw [b]
        push_cast
        omega
      · have b := hs t i hi
        rw [if_neg e] at b
        rw [b]
        omega
theorem aged {k : Nat} {top : Int} (ht : 0 ≤ top) {X : Nat → Nat → Int} {C : Nat → Nat} (h0 : ∀ i, X 0 i = 0) (hC : ∀ t, C t < k)
    (hs : ∀ t i, i < k → X (t + 1) i = if i = C t then 0 else X t i + 1) (hch : ∀ t i, i < k → top ≤ X t i → X t i - top ≤ X t (C t)) (t : Nat) {i : Nat} (hi : i < k) : X t i ≤ top + k := by
  have h1 := aging ht h0 hC hs hch t i hi
  have h2 := countP_lt hi (P := fun j => decide (X t j < X t i - top)) (by simp; omega)
  omega

theorem outs_get_last (f : Nat → Int) (t : Nat) : outs f (t + 1) = outs f t ++ [f t] := outs_succ f t
theorem waitS_outs {X : Nat → Nat → Int} {C : Nat → Nat} {i k : Nat} (hi : i < k) (h0 : ∀ i, X 0 i = 0) (hs : ∀ t i, i < k → X (t + 1) i = if i = C t then 0 else X t i + 1) {B : Int} (hB : ∀ t, X t i ≤ B) (hB0 : 0 ≤ B) (t : Nat) :
    (waitS (i : Int) (outs (fun t => (C t : Int)) t)).2 = X t i ∧ (waitS (i : Int) (outs (fun t => (C t : Int)) t)).1 ≤ B := by
  induction t with
  | zero => exact ⟨by rw [h0]; rfl, hB0⟩
  | succ t ih =>
    rw [outs_succ, waitS_snoc]
    have a := hs t i hi
    have b := hB (t + 1)
    by_cases e : i = C t
    · rw [if_pos e] at a
      rw [if_pos (by omega)]
      refine ⟨a.symm, ?_⟩
      show max _ _ ≤ B
      omega
    · rw [if_neg e] at a
      rw [if_neg (by omega), ih.1]
      refine ⟨a.symm, ?_⟩
      show max _ _ ≤ B
      omega

theorem onL_getD {l : IL} {c i : Nat} (h : i < l.length) : (onL l c).getD i 0 = if i = c then 0 else l.getD i 0 + 1 := by
  have e0 := onL_get (c := c) h
  have hl' : i < (onL l c).length := by rw [onL_len]; exact h
  have e2 : (onL l c).getD i 0 = (onL l c)[i] := by simp [hl']
  have e3 : l.getD i 0 = l[i] := by simp [h]
  rw [e2, e0, e3]

theorem zeros_getD (i : Nat) : ([0, 0, 0, 0] : IL).getD i 0 = 0 := by
  match i with
  | 0 => rfl
  | 1 => rfl
  | 2 => rfl
  | 3 => rfl
  | i + 4 => simp

theorem rN_get {p wa : IL} {i : Nat} (hi : i < p.length) (h : i < (rN p wa).length) : (rN p wa)[i] = p[i] + wa.getD i 0 := by simp [rN, hi]

/-- Ranks. -/
theorem soon_ranks {p : IL} (h : Within 0 p) {top : Int} (ht : ∀ x ∈ p, x ≤ top) (ht0 : 0 ≤ top) (n : Nat) {i : Nat} (hi : i < p.length) : (waitS (i : Int) (outs (fun t => ((rC p (rSt p t) : Nat) : Int)) n)).1 ≤ top + p.length := by
  have h4 := h.1.2
  have h0 : ∀ i, (rSt p 0).getD i 0 = 0 := fun i => zeros_getD i
  have hC : ∀ t, rC p (rSt p t) < p.length := fun t => rC_lt h _
  have hs : ∀ t i, i < p.length → (rSt p (t + 1)).getD i 0 = if i = rC p (rSt p t) then 0 else (rSt p t).getD i 0 + 1 := fun t i hi => by rw [rSt, onL_getD (by rw [rSt_len]; omega)]
  have hch : ∀ t i, i < p.length → top ≤ (rSt p t).getD i 0 → (rSt p t).getD i 0 - top ≤ (rSt p t).getD (rC p (rSt p t)) 0 := by
    intro t i hi _
    have hl : (rN p (rSt p t)).length = p.length := rN_len _ _
    obtain ⟨g1, g2⟩ := gI_spec (l := rN p (rSt p t)) (by omega)
    have hg := g2 g1
    have hge := mx_ge (List.getElem_mem (l := rN p (rSt p t)) (n := i) (by omega))
    have hgc : gI (rN p (rSt p t)) < p.length := by omega
    have e1 : (rN p (rSt p t))[i]'(by omega) = p[i] + (rSt p t).getD i 0 := by simp [rN, hi]
    have e2 : (rN p (rSt p t))[gI (rN p (rSt p t))] = p[gI (rN p (rSt p t))] + (rSt p t).getD (gI (rN p (rSt p t))) 0 := rN_get hgc g1
    have a := (h.2 _ (List.getElem_mem hi)).1
    have b := ht _ (List.getElem_mem hgc)
    show _ ≤ (rSt p t).getD (gI (rN p (rSt p t))) 0
    rw [e1] at hge
    rw [e2] at hg
    omega
  exact (waitS_outs (X := fun t i => (rSt p t).getD i 0) (C := fun t => rC p (rSt p t)) hi h0 hs (fun t => aged ht0 h0 hC hs hch t hi) (by omega) n).2

/-- Seeds. -/
theorem soon_seeds {n : Nat} (h1 : 1 ≤ n) (h4 : n ≤ 4) (x : Int) (m : Nat) {i : Nat} (hi : i < n) : (waitS (i : Int) (outs (fun t => ((sC n (sX x (t + 1)) (sSt n x t) : Nat) : Int)) m)).1 ≤ 4 * n := by
  have h0 : ∀ i, (sSt n x 0).getD i 0 = 0 := fun i => zeros_getD i
  have hC : ∀ t, sC n (sX x (t + 1)) (sSt n x t) < n := fun t => sC_lt h1 h4 _ (sSt_len _ _ _)
  have hs : ∀ t i, i < n → (sSt n x (t + 1)).getD i 0 = if i = sC n (sX x (t + 1)) (sSt n x t) then 0 else (sSt n x t).getD i 0 + 1 := fun t i hi => by rw [sSt, onL_getD (by rw [sSt_len]; omega)]
  have hch : ∀ t i, i < n → 3 * (n : Int) ≤ (sSt n x t).getD i 0 → (sSt n x t).getD i 0 - 3 * (n : Int) ≤ (sSt n x t).getD (sC n (sX x (t + 1)) (sSt n x t)) 0 := by
    intro t i hi hx
    have hl : ((sSt n x t).take n).length = n := by rw [List.length_take, sSt_len]; omega
    obtain ⟨g1, g2⟩ := gI_spec (l := (sSt n x t).take n) (by omega)
    have hg := g2 g1
    have hge := mx_ge (List.getElem_mem (l := (sSt n x t).take n) (n := i) (by omega))
    have hl4 := sSt_len n x t
    have e1 : ((sSt n x t).take n)[i]'(by omega) = (sSt n x t).getD i 0 := by rw [List.getElem_take]; simp [show i < (sSt n x t).length from by omega]
    have hgl : gI ((sSt n x t).take n) < (sSt n x t).length := by omega
    have e2 : ((sSt n x t).take n)[gI ((sSt n x t).take n)] = (sSt n x t).getD (gI ((sSt n x t).take n)) 0 := by rw [List.getElem_take]; simp [hgl]
    rw [e1] at hge
    rw [e2] at hg
    unfold sC
    rw [if_neg (by omega)]
    omega
  have := (waitS_outs (X := fun t i => (sSt n x t).getD i 0) (C := fun t => sC n (sX x (t + 1)) (sSt n x t)) (B := 3 * (n : Int) + n) hi h0 hs (fun t => aged (by omega) h0 hC hs hch t hi) (by omega) m).2
  omega

/-- Rounds. -/
theorem soon_rounds {k : Nat} (h1 : 1 ≤ k) (h4 : k ≤ 4) (n : Nat) {i : Nat} (hi : i < k) : (waitS (i : Int) (outs (fun t => ((t % k : Nat) : Int)) n)).1 ≤ k - 1 := by
  have h0 : ∀ i, rv k 0 i = 0 := fun i => by simp [rv, show 0 < k from by omega]
  have hs : ∀ t i, i < k → rv k (t + 1) i = if i = t % k then 0 else rv k t i + 1 := by
    intro t i hi
    obtain rfl | rfl | rfl | rfl : k = 1 ∨ k = 2 ∨ k = 3 ∨ k = 4 := by omega
    all_goals
      unfold rv
      repeat' split
      all_goals omega
  exact (waitS_outs (X := rv k) (C := fun t => t % k) (B := (k : Int) - 1) hi h0 hs (fun t => by
    have hm := Nat.mod_lt t (show k > 0 by omega)
    unfold rv
    repeat' split
    all_goals omega) (by omega) n).2

end Go.Proofs.Ytagfalnfjiodcaa
