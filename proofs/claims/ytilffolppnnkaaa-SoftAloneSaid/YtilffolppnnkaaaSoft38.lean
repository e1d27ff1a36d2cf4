/- SoftAlone, what it comes to: what stands behind each call. -/
import Derived.Test.YtilffolppnnkaaaSoft35
import Derived.Test.YtilffolppnnkaaaSoft36
namespace Go.Proofs.Ytilffolppnnkaaa
set_option maxRecDepth 100000
open Go.RowKit

/-- What should be, once the count is laid. -/
def glH (b : Bool) (g : PL) : PL := if b then (1, 1) :: (1, 0) :: g else (1, 0) :: g
theorem glH_at (b : Bool) (g : PL) (a : Int) : getH (glH b g) a = if 1 = a then (if b then 1 else 0) else getH g a := by
  cases b <;> simp only [glH, Bool.false_eq_true, if_false, if_true, getH_cons]
  split <;> rfl
theorem glH_in {g : PL} (b : Bool) (k : inH g 1 = true) (a : Int) : inH (glH b g) a = inH g a := by
  by_cases e : 1 = a
  · subst e; cases b <;> simp [glH, inH_cons, k]
  · cases b <;> simp [glH, inH_cons, e]
theorem cntH_gl {g : PL} (b : Bool) (k : inH g 1 = true) : cntH (glH b g) = cntH g := by
  have h1 : cntH ((1, 0) :: g) = cntH g := cntH_in k
  cases b
  · exact h1
  · show cntH ((1, 1) :: (1, 0) :: g) = _
    rw [cntH_in (by simp [inH_cons]), h1]

theorem Al.next {i : Nat} {s' : PS} {h' g' : PL} (hp : s'.ph = .idle) (heq : ∀ a, 1 ≠ a → getH h' a = getH g' a) (h1 : getH h' 1 = if s'.live then 1 else 0)
    (hk : ∀ a, inH h' a = decide (a = 0 ∨ a = 1 ∨ 8 ≤ a ∧ a < 208)) (gk : ∀ a, inH g' a = decide (a = 0 ∨ a = 1 ∨ 8 ≤ a ∧ a < 208)) (he : getH h' 0 % 2 = 0) (hz : 0 ≤ getH h' 0) (hm : getH h' 0 ≤ 2000 + 2 * ((i + 1 : Nat) : Int)) :
    Al (i + 1) s' h' (glH s'.live g') := by
  refine ⟨hp, fun a => ?_, hk, fun a => ?_, he, hz, hm, h1⟩
  · rw [glH_at]
    by_cases e : 1 = a
    · subst e; rw [if_pos rfl]; exact h1
    · rw [if_neg e]; exact heq a e
  · rw [glH_in _ (by rw [gk]; rfl)]; exact gk a

section
variable {i : Nat} {s : PS} {h g : PL} (A : Al i s h g)
include A
/-- Memory is as it was, but for the count. -/
theorem Al.cnt {s' : PS} {n : Int} (hp : s'.ph = .idle) (hn : n = if s'.live then 1 else 0) : Al (i + 1) s' ((1, n) :: h) (glH s'.live g) := by
  refine Al.next hp (fun a ha => ?_) ?_ (fun a => ?_) A.gk ?_ ?_ ?_
  · rw [getH_other _ _ ha]; exact A.eq a
  · rw [getH_same]; exact hn
  · rw [inH_cons, A.hk]
    by_cases e : 1 = a
    · subst e; rfl
    · simp [e]
  · rw [getH_other _ _ (by decide)]; exact A.even
  · rw [getH_other _ _ (by decide)]; exact A.zero
  · rw [getH_other _ _ (by decide)]; have := A.most; omega
/-- Memory is as it was. -/
theorem Al.stay {s' : PS} (hp : s'.ph = .idle) (hl : s'.live = s.live) : Al (i + 1) s' h (glH s'.live g) := by
  refine Al.next hp (fun a _ => A.eq a) ?_ A.hk A.gk A.even A.zero ?_
  · rw [hl]; exact A.one
  · have := A.most; omega
end

theorem cntH_back : ∀ (W : PL) (h : PL), (∀ q ∈ W, inH h q.1 = true) → cntH (backH W h) = cntH h ∧ ∀ a, inH (backH W h) a = inH h a
  | [], h, _ => ⟨rfl, fun _ => rfl⟩
  | q :: W, h, k => by
    have hq := k q (by simp)
    have hin : ∀ a, inH (q :: h) a = inH h a := fun a => by
      rw [show q = (q.1, q.2) from rfl, inH_cons]
      by_cases e : q.1 = a
      · subst e; simp [hq]
      · simp [e]
    obtain ⟨h1, h2⟩ := cntH_back W (q :: h) (fun x hx => by rw [hin]; exact k x (by simp [hx]))
    refine ⟨h1.trans (cntH_in (a := q.1) (v := q.2) hq), fun a => ?_⟩
    rw [show backH (q :: W) h = backH W (q :: h) from rfl, h2, hin]

theorem AlL.new {i : Nat} {s : PS} {h g : PL} (_ : Al i s h g) : AlL { s with R := [], W := [], value := 0, ended := 0, ph := .idle, snap := getH h 0, points := wrap64 (s.points + 1), live := true } ((1, 1) :: h) [] [] :=
  ⟨by simp only; rw [getH_other _ _ (by decide)], List.nodup_nil, List.nodup_nil, fun a e => (by cases e), fun _ => rfl, fun _ => rfl, fun _ => rfl, fun a e => (by cases e), Nat.zero_le _, Nat.zero_le _, fun a e => (by cases e)⟩

section
variable {s : PS} {h rd wr : PL} (L : AlL s h rd wr)
include L
theorem AlL.valued (x : Int) : AlL { s with value := x } h rd wr := ⟨L.snap, L.onceR, L.onceW, L.same, L.inR, L.rdv, L.inW, L.val, L.lr, L.lw, L.keys⟩
theorem AlL.stored {a v : Int} (ha : 8 ≤ a) (ha' : a < 208) (hr : inH wr a = true ∨ s.W.length ≠ 128) : AlL { s with W := wrL s.W a v } h rd ((a, v) :: wr) := by
  have hr' : isIn s.W a = true ∨ s.W.length ≠ 128 := by rw [L.inW]; exact hr
  have h0 : 0 ≤ a := by omega
  refine ⟨L.snap, L.onceR, once_wrL h0 hr' L.onceW, L.same, L.inR, L.rdv, fun b => ?_, fun b hb => ?_, L.lr, ?_, fun b hb => ?_⟩
  · simp only; rw [isIn_wrL h0 hr', inH_cons, L.inW]
  · simp only at hb ⊢
    rw [isIn_wrL h0 hr'] at hb
    rw [valOf_wrL h0 hr', getH_cons]
    by_cases e : a = b
    · rw [if_pos e, if_pos e]
    · rw [if_neg e, if_neg e]; exact L.val b (by simpa [e] using hb)
  · simp only
    rw [length_wrL h0 hr']
    have := L.lw
    split
    · exact this
    · rcases hr' with e | e
      · contradiction
      · omega
  · simp only at hb
    rw [isIn_wrL h0 hr'] at hb
    by_cases e : a = b
    · subst e; exact ⟨ha, ha'⟩
    · exact L.keys b (by simpa [e] using hb)
theorem AlL.loaded {a n : Int} (ha : 8 ≤ a) (hr : inH rd a = true ∨ s.R.length ≠ 128) :
    AlL { s with R := rdL s.R a (getH h a), value := getH h a, points := n, ph := .idle } h ((a, 1) :: rd) wr ∧ (rdL s.R a (getH h a)).length = upC s.R.length rd a := by
  have h0 : ¬ a < 0 := by omega
  by_cases hi : isIn s.R a = true
  · have e1 : rdL s.R a (getH h a) = s.R := by unfold rdL; rw [if_neg h0]; exact if_pos hi
    have e2 : inH rd a = true := by rw [← L.inR]; exact hi
    rw [e1]
    refine ⟨⟨L.snap, L.onceR, L.onceW, L.same, fun b => ?_, fun b => ?_, L.inW, L.val, L.lr, L.lw, L.keys⟩, by unfold upC; rw [if_pos e2]⟩
    · simp only; rw [inH_cons, L.inR]
      by_cases e : a = b
      · subst e; simp [e2]
      · simp [e]
    · rw [inH_cons, getH_cons, L.rdv]
      by_cases e : a = b
      · subst e; simp
      · simp [e]
  · have hi' : isIn s.R a = false := by simpa using hi
    have e2 : inH rd a = false := by rw [← L.inR]; exact hi'
    have hl : s.R.length ≠ 128 := by
      rcases hr with e | e
      · rw [e2] at e; cases e
      · exact e
    have hp : place s.R a = none := by
      cases e : place s.R a with
      | none => rfl
      | some j => simp [isIn, e] at hi'
    have e1 : rdL s.R a (getH h a) = s.R ++ [(a, getH h a)] := by
      unfold rdL putL; rw [if_neg h0, if_neg (by rw [hp]; simp), if_neg hl]
    rw [e1]
    refine ⟨⟨L.snap, once_snoc.2 ⟨L.onceR, hp⟩, L.onceW, fun b hb => ?_, fun b => ?_, fun b => ?_, L.inW, L.val, ?_, L.lw, L.keys⟩, by unfold upC; rw [e2]; simp⟩
    · simp only at hb ⊢
      rw [isIn_snoc hp] at hb
      rw [valOf_snoc hp]
      by_cases e : a = b
      · subst e; rw [if_pos rfl]
      · rw [if_neg e]; exact L.same b (by simpa [e] using hb)
    · simp only; rw [isIn_snoc hp, inH_cons, L.inR]
    · rw [inH_cons, getH_cons, L.rdv]
      by_cases e : a = b
      · subst e; simp
      · simp [e]
    · have := L.lr; simp; omega
end

theorem isIn_mem {W : PL} {q : Int × Int} (h : q ∈ W) : isIn W q.1 = true := by
  unfold isIn
  cases e : place W q.1 with
  | none => exact absurd rfl (place_none.1 e q h)
  | some i => rfl

section
variable {i : Nat} {s s' : PS} {h g rd wr gv : PL} (A : Al i s h g) (L : AlL s h rd wr)
include A L
theorem Al.backs (x : Int) : ∀ q ∈ s.W, inH ((0, x) :: h) q.1 = true := fun q hq => by
  have hk := L.keys q.1 (isIn_mem hq)
  rw [inH_cons, A.hk]
  simp [hk]
theorem Al.commit_in (x y : Int) (a : Int) : inH ((1, 0) :: (0, y) :: backH s.W ((0, x) :: h)) a = inH h a := by
  rw [inH_cons, inH_cons, (cntH_back s.W _ (A.backs L x)).2, inH_cons, A.hk]
  by_cases e0 : 0 = a
  · subst e0; rfl
  · by_cases e1 : 1 = a
    · subst e1; rfl
    · simp [e0, e1]
theorem Al.commit_cnt (x y : Int) : cntH ((1, 0) :: (0, y) :: backH s.W ((0, x) :: h)) = cntH h := by
  have h0 : inH h 0 = true := by rw [A.hk]; rfl
  have h1 : inH h 1 = true := by rw [A.hk]; rfl
  obtain ⟨c1, c2⟩ := cntH_back s.W _ (A.backs L x)
  rw [cntH_in, cntH_in, c1, cntH_in h0]
  · rw [c2, inH_cons, h0]; simp
  · rw [inH_cons, c2, inH_cons, h1]; simp
/-- A commit that wrote. -/
theorem Al.commit (hp : s'.ph = .idle) (hl : s'.live = false) (hv : ∀ a, getH gv a = if inH wr a then getH wr a else getH g a) (hg : ∀ a, inH gv a = inH g a) :
    Al (i + 1) s' ((1, 0) :: (0, getH h 0 + 2) :: backH s.W ((0, getH h 0 + 1) :: h)) (glH s'.live ((0, getH gv 0 + 2) :: gv)) := by
  have hin : ∀ a, inH wr a = true → 8 ≤ a ∧ a < 208 := fun a e => L.keys a (by rw [L.inW]; exact e)
  have hw0 : inH wr 0 = false := by
    cases e : inH wr 0 with
    | false => rfl
    | true => have := (hin 0 e).1; omega
  have e0 : getH gv 0 = getH h 0 := by rw [hv, hw0, A.eq]; rfl
  have z0 : getH ((1, 0) :: (0, getH h 0 + 2) :: backH s.W ((0, getH h 0 + 1) :: h)) 0 = getH h 0 + 2 := by rw [getH_other _ _ (by decide), getH_same]
  refine Al.next hp (fun a ha => ?_) ?_ (fun a => ?_) (fun a => ?_) ?_ ?_ ?_
  · rw [getH_other _ _ ha]
    by_cases ea : 0 = a
    · subst ea; rw [getH_same, getH_same, e0]
    · rw [getH_other _ _ ea, getH_other _ _ ea, getH_back _ _ _ L.onceW, L.inW, hv]
      by_cases ew : inH wr a = true
      · rw [if_pos ew, if_pos ew]; exact L.val a (by rw [L.inW]; exact ew)
      · rw [if_neg ew, if_neg ew, getH_other _ _ ea]; exact A.eq a
  · rw [getH_same, hl]; rfl
  · rw [A.commit_in L, A.hk]
  · rw [inH_cons, hg, A.gk]
    by_cases ea : 0 = a
    · subst ea; rfl
    · simp [ea]
  · rw [z0]; have := A.even; omega
  · rw [z0]; have := A.zero; omega
  · rw [z0]; have := A.most; omega
end

end Go.Proofs.Ytilffolppnnkaaa
