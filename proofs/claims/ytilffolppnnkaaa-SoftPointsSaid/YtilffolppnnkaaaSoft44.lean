/- SoftPoints, what it comes to: some paths over one memory. -/
import Derived.Test.YtilffolppnnkaaaSoft43
namespace Go.Proofs.Ytilffolppnnkaaa
set_option maxRecDepth 100000
open Go.RowKit

/-- How many of them are so. -/
def cn (f : PS → Bool) : List PS → Nat
  | [] => 0
  | s :: l => b01 (f s) + cn f l
theorem b01_le (b : Bool) : b01 b ≤ 1 := by cases b <;> decide
theorem b01_one {b : Bool} (h : b = true) : b01 b = 1 := by rw [h]; rfl
theorem b01_zero {b : Bool} (h : b = false) : b01 b = 0 := by rw [h]; rfl
theorem cn_set (f : PS → Bool) : ∀ (l : List PS) (i : Nat) (hi : i < l.length) (s' : PS), cn f (l.set i s') + b01 (f l[i]) = cn f l + b01 (f s')
  | s :: l, 0, _, s' => by simp only [List.set_cons_zero, cn, List.getElem_cons_zero]; omega
  | s :: l, i + 1, hi, s' => by
    have := cn_set f l i (by simpa using hi) s'
    simp only [List.set_cons_succ, cn, List.getElem_cons_succ]; omega
theorem cn_ge (f : PS → Bool) : ∀ (l : List PS) (i : Nat) (hi : i < l.length), b01 (f l[i]) ≤ cn f l
  | s :: l, 0, _ => by simp only [cn, List.getElem_cons_zero]; omega
  | s :: l, i + 1, hi => by
    have := cn_ge f l i (by simpa using hi)
    simp only [cn, List.getElem_cons_succ]; omega
theorem cn_zero {f : PS → Bool} {l : List PS} (h : cn f l = 0) {i : Nat} (hi : i < l.length) : f l[i] = false := by
  have := cn_ge f l i hi
  cases e : f l[i] with
  | false => rfl
  | true => rw [e] at this; simp [b01] at this; omega
theorem cn_two {f : PS → Bool} : ∀ {l : List PS} (_ : cn f l ≤ 1) {i j : Nat} (hi : i < l.length) (hj : j < l.length) (_ : i ≠ j) (_ : f l[j] = true), f l[i] = false
  | s :: l, h, 0, 0, _, _, hne, _ => absurd rfl hne
  | s :: l, h, 0, j + 1, hi, hj, _, e => by
    simp only [List.getElem_cons_succ] at e
    have := cn_ge f l j (by simpa using hj)
    rw [b01_one e] at this
    simp only [cn] at h
    simp only [List.getElem_cons_zero]
    cases e2 : f s with
    | false => rfl
    | true => rw [b01_one e2] at h; omega
  | s :: l, h, i + 1, 0, hi, hj, _, e => by
    simp only [List.getElem_cons_zero] at e
    simp only [cn] at h
    rw [b01_one e] at h
    simp only [List.getElem_cons_succ]
    exact cn_zero (by omega) (by simpa using hi)
  | s :: l, h, i + 1, j + 1, hi, hj, hne, e => by
    simp only [cn] at h
    simp only [List.getElem_cons_succ] at e ⊢
    exact cn_two (by omega) (by simpa using hi) (by simpa using hj) (by omega) e
theorem cn_snoc (f : PS → Bool) : ∀ (l : List PS) (s : PS), cn f (l ++ [s]) = cn f l + b01 (f s)
  | [], s => by simp [cn]
  | a :: l, s => by simp only [List.cons_append, cn, cn_snoc f l s]; omega
theorem cn_le (f : PS → Bool) : ∀ l : List PS, cn f l ≤ l.length
  | [] => Nat.le_refl _
  | s :: l => by have := cn_le f l; have := b01_le (f s); simp only [cn, List.length_cons]; omega
theorem cn_congr {f g : PS → Bool} : ∀ {l : List PS} (_ : ∀ s ∈ l, f s = g s), cn f l = cn g l
  | [], _ => rfl
  | s :: l, h => by simp only [cn]; rw [h s (by simp), cn_congr (fun x hx => h x (by simp [hx]))]

def PS.wr (s : PS) : Bool := s.ph.wr
/-- What is left to be written back, by all. -/
def leftA : List PS → PL
  | [] => []
  | s :: l => s.left ++ leftA l
theorem leftA_zero : ∀ {l : List PS} (_ : cn PS.wr l = 0), leftA l = []
  | [], _ => rfl
  | s :: l, h => by
    simp only [cn] at h
    have e : s.ph.wr = false := by
      cases e : s.ph.wr with
      | false => rfl
      | true => have : b01 s.wr = 1 := b01_one e; omega
    rw [leftA, left_nil e, leftA_zero (by omega)]; rfl
theorem leftA_one : ∀ {l : List PS} (_ : cn PS.wr l ≤ 1) {i : Nat} (hi : i < l.length) (_ : l[i].ph.wr = true), leftA l = l[i].left
  | s :: l, h, 0, hi, e => by
    simp only [List.getElem_cons_zero] at e ⊢
    simp only [cn] at h
    have : b01 s.wr = 1 := b01_one e
    rw [leftA, leftA_zero (by omega), List.append_nil]
  | s :: l, h, i + 1, hi, e => by
    simp only [List.getElem_cons_succ] at e ⊢
    simp only [cn] at h
    have hi' : i < l.length := by simpa using hi
    have h1 := cn_ge PS.wr l i hi'
    have h2 : b01 l[i].wr = 1 := b01_one e
    have e0 : s.ph.wr = false := by
      cases e0 : s.ph.wr with
      | false => rfl
      | true => have : b01 s.wr = 1 := b01_one e0; omega
    rw [leftA, left_nil e0, leftA_one (by omega) (by simpa using hi) e, List.nil_append]
theorem leftA_set : ∀ {l : List PS} {i : Nat} (hi : i < l.length) {s' : PS} (_ : s'.left = l[i].left), leftA (l.set i s') = leftA l
  | s :: l, 0, _, s', e => by simp only [List.getElem_cons_zero] at e; simp only [List.set_cons_zero, leftA, e]
  | s :: l, i + 1, hi, s', e => by
    simp only [List.getElem_cons_succ] at e
    simp only [List.set_cons_succ, leftA]
    rw [leftA_set (by simpa using hi) e]
theorem backH_congr {a : Int} : ∀ (W : PL) {h h' : PL} (_ : getH h a = getH h' a), getH (backH W h) a = getH (backH W h') a
  | [], _, _, e => e
  | q :: W, h, h', e => by
    show getH (backH W (q :: h)) a = getH (backH W (q :: h')) a
    refine backH_congr W ?_
    rw [show q = (q.1, q.2) from rfl, getH_cons, getH_cons, e]

/-- What stands between two turns. -/
structure SI (t : Nat) (h g : PL) (l : List PS) : Prop where
  pi : ∀ s ∈ l, PI h s
  lo : 0 ≤ getH h 0
  hi : getH h 0 ≤ 2000 + t
  od : getH h 0 % 2 = cn PS.wr l
  one : cn PS.wr l ≤ 1
  sh : ∀ a, 8 ≤ a → getH (backH (leftA l) h) a = getH g a
  ct : getH h 1 = cn PS.counted l
  pts : ∀ s ∈ l, 0 ≤ s.points ∧ s.points ≤ t

theorem PI.held {h h' : PL} {s : PS} (k : PI h s) (hw : s.ph.wr = true) (e : getH h' 0 = getH h 0) : PI h' s := by
  have hat := k.at_
  have key : s.live = true ∧ s.snap + 1 = getH h 0 := by
    cases hp : s.ph <;> rw [hp] at hat hw <;> first | exact hat | cases hw
  refine ⟨k.lo, by rw [e]; exact k.sn, k.se, k.rk, k.wk, k.wr, fun _ _ he => by rw [e] at he; omega, ?_⟩
  cases hp : s.ph <;> rw [hp] at hat hw <;> first | (simp only [Here]; rw [e]; exact hat) | cases hw

theorem mem_set {l : List PS} {i : Nat} {s' s : PS} (h : s ∈ l.set i s') : s = s' ∨ ∃ j, ∃ hj : j < l.length, j ≠ i ∧ s = l[j] := by
  obtain ⟨j, hj, e⟩ := List.getElem_of_mem h
  rw [List.getElem_set] at e
  split at e
  · exact .inl e.symm
  · rename_i hne
    exact .inr ⟨j, by simpa using hj, fun x => hne x.symm, e.symm⟩

/-- What should be, behind a step. -/
def shB (s s' : PS) (g : PL) : PL := if s'.writing && !s.writing then backH s'.W g else g

theorem SI.give {t : Nat} {h g : PL} {l : List PS} (S : SI t h g l) {i : Nat} (hi : i < l.length) (ok : l[i].ph.ok l[i].R l[i].W) (hb : l[i].busy = true) (ht : t ≤ 3000) (hn : l.length ≤ 3) :
    SI (t + 1) (stepM (l[i], h)).2 (shB l[i] (stepM (l[i], h)).1 g) (l.set i (stepM (l[i], h)).1) ∧
      ((stepM (l[i], h)).1.points = l[i].points ∨ (stepM (l[i], h)).1.points = l[i].points + 1 ∧ ReadAll (stepM (l[i], h)).2 (stepM (l[i], h)).1.R) := by
  have hmem : l[i] ∈ l := List.getElem_mem hi
  have kp := S.pi _ hmem
  have hcl := cn_le PS.counted l
  have hct := S.ct
  have hlo := S.lo
  have hhi := S.hi
  have hod := S.od
  have hone := S.one
  have st := kp.step ok hb (by omega) (by omega) (fun e => by have := cn_ge PS.counted l i hi; rw [b01_one e] at this; omega)
  generalize hx : stepM (l[i], h) = x at *
  obtain ⟨s', h'⟩ := x
  simp only at st ⊢
  have hcw := cn_set PS.wr l i hi s'
  have hcc := cn_set PS.counted l i hi s'
  have hpar := st.par
  have hgrow := st.grow
  have hlat := st.later.1
  have hpp := S.pts _ hmem
  have hpt : s'.points = l[i].points ∨ s'.points = l[i].points + 1 ∧ ReadAll h' s'.R := by
    rcases st.pts with e | ⟨e, hr⟩
    · exact .inl e
    · refine .inr ⟨?_, hr⟩
      rw [e]
      exact (by unfold wrap64; omega)
  have hw1 : b01 (l[i].wr) = b01 l[i].ph.wr := rfl
  have hw2 : b01 (s'.wr) = b01 s'.ph.wr := rfl
  have hl1 := b01_le l[i].ph.wr
  have hl2 := b01_le s'.ph.wr
  have hlo' : 0 ≤ getH h' 0 := by omega
  have hod' : getH h' 0 % 2 = cn PS.wr (l.set i s') := by omega
  have hone' : cn PS.wr (l.set i s') ≤ 1 := by omega
  refine ⟨⟨fun s hs => ?_, hlo', by omega, hod', hone', fun a ha => ?_, ?_, fun s hs => ?_⟩, hpt⟩
  · rcases mem_set hs with rfl | ⟨j, hj, hne, rfl⟩
    · exact st.pi
    · have kj := S.pi _ (List.getElem_mem hj)
      by_cases hwj : l[j].ph.wr = true
      · have hwi : l[i].ph.wr = false := cn_two (f := PS.wr) hone hi hj (Ne.symm hne) hwj
        have hc1 := cn_ge PS.wr l j hj
        rw [b01_one (b := l[j].wr) hwj] at hc1
        rw [b01_zero hwi] at hpar
        exact kj.held hwj (by omega)
      · exact kj.later (by simpa using hwj) st.later
  · rcases st.lft with ⟨h1, h2, h3, h4⟩ | ⟨h1, h2⟩
    · rw [b01_one h1, b01_zero h2] at hpar
      have hc0 : cn PS.wr l = 0 := by omega
      have hs := S.sh a ha
      rw [leftA_zero hc0] at hs
      have e1 : s'.writing = true := by rw [st.pi.wr]; exact h1
      have e2 : l[i].writing = false := by rw [kp.wr]; exact h2
      unfold shB
      rw [e1, e2]
      simp only [Bool.not_false, Bool.and_self, if_true]
      have hl := leftA_one hone' (i := i) (by simpa using hi) (by simp only [List.getElem_set_self]; exact h1)
      simp only [List.getElem_set_self] at hl
      rw [hl, h3]
      exact backH_congr _ ((h4 a ha).trans hs)
    · have e1 : shB l[i] s' g = g := by
        unfold shB
        cases e : s'.writing with
        | false => rfl
        | true =>
          have : l[i].writing = true := by rw [kp.wr]; exact h1 (by rw [← st.pi.wr]; exact e)
          rw [this]; rfl
      rw [e1]
      by_cases hwi : l[i].ph.wr = true
      · have hs := S.sh a ha
        rw [leftA_one hone hi hwi] at hs
        by_cases hw' : s'.ph.wr = true
        · have hl := leftA_one hone' (i := i) (by simpa using hi) (by simp only [List.getElem_set_self]; exact hw')
          simp only [List.getElem_set_self] at hl
          rw [hl, h2 a ha, hs]
        · have hw'' : s'.ph.wr = false := by simpa using hw'
          have h5 : b01 l[i].wr = 1 := b01_one hwi
          have h6 : b01 s'.wr = 0 := b01_zero hw''
          have hl := leftA_zero (l := l.set i s') (by omega)
          rw [hl, ← hs, ← h2 a ha, left_nil hw'']
      · have hwi' : l[i].ph.wr = false := by simpa using hwi
        have hw' : s'.ph.wr = false := by
          cases e : s'.ph.wr with
          | false => rfl
          | true => exact absurd (h1 e) hwi
        have h3 := h2 a ha
        rw [left_nil hwi', left_nil hw'] at h3
        rw [leftA_set hi (by rw [left_nil hwi', left_nil hw']), ← S.sh a ha]
        exact backH_congr _ h3
  · have := st.cnt
    rw [show b01 l[i].counted = b01 (PS.counted l[i]) from rfl] at this
    omega
  · rcases mem_set hs with rfl | ⟨j, hj, hne, rfl⟩
    · rcases hpt with e | ⟨e, _⟩ <;> omega
    · have := S.pts _ (List.getElem_mem hj); omega

theorem SI.begins {t : Nat} {h g : PL} {l : List PS} (S : SI t h g l) {i : Nat} (hi : i < l.length) (kd a v : Int) : SI (t + 1) h g (l.set i (l[i].begins kd a v 6)) := by
  have hmem : l[i] ∈ l := List.getElem_mem hi
  have kp := S.pi _ hmem
  obtain ⟨b1, b2, b3, b4, b5⟩ := kp.begins kd a v
  have hcw := cn_set PS.wr l i hi (l[i].begins kd a v 6)
  have hcc := cn_set PS.counted l i hi (l[i].begins kd a v 6)
  rw [show PS.wr (l[i].begins kd a v 6) = PS.wr l[i] from b4] at hcw
  rw [b3] at hcc
  refine ⟨fun s hs => ?_, S.lo, by have := S.hi; omega, by rw [S.od]; omega, by have := S.one; omega, fun a' ha => ?_, by rw [S.ct]; omega, fun s hs => ?_⟩
  · rcases mem_set hs with rfl | ⟨j, hj, _, rfl⟩
    · exact b1
    · exact S.pi _ (List.getElem_mem hj)
  · rw [leftA_set hi b5]; exact S.sh a' ha
  · rcases mem_set hs with rfl | ⟨j, hj, _, rfl⟩
    · rw [b2]; have := S.pts _ hmem; omega
    · have := S.pts _ (List.getElem_mem hj); omega
theorem SI.more {t : Nat} {h g : PL} {l : List PS} (S : SI t h g l) : SI (t + 1) h g l := ⟨S.pi, S.lo, by have := S.hi; omega, S.od, S.one, S.sh, S.ct, fun s hs => by have := S.pts s hs; omega⟩

/-- What is asked of each moment. -/
theorem SI.words {t : Nat} {h g : PL} {l : List PS} (S : SI t h g l) (hz : cn PS.wr l = 0) {a : Int} (ha : 8 ≤ a) : getH h a = getH g a := by
  have := S.sh a ha
  rw [leftA_zero hz] at this
  exact this
theorem SI.writes {t : Nat} {h g : PL} {l : List PS} (S : SI t h g l) : cn (fun s => s.writing) l = cn PS.wr l := cn_congr fun s hs => (S.pi s hs).wr
theorem SI.lives {t : Nat} {h g : PL} {l : List PS} (S : SI t h g l) (hb : ∀ s ∈ l, s.busy = false) : getH h 1 = cn (fun s => s.live) l := by
  rw [S.ct, cn_congr (f := PS.counted) (g := fun s => s.live) fun s hs => ?_]
  have := PS.busy_idle (hb s hs)
  simp [PS.counted, this, Ph.begun]

end Go.Proofs.Ytilffolppnnkaaa
