/- SoftAlone, what it comes to: a path alone with a memory. -/
import Derived.Test.YtilffolppnnkaaaSoft22
namespace Go.Proofs.Ytilffolppnnkaaa
set_option maxRecDepth 100000
open Go.RowKit

theorem wrap_fit {x : Int} (h : 0 ≤ x) (h' : x < 1000000) : IntKind.u64.wrap x = x := by
  simp only [IntKind.wrap, IntKind.signed, IntKind.bits]
  exact Int.emod_eq_of_lt h (by omega)

theorem place_snoc_none {l : PL} {a v : Int} (h : place l a = none) (b : Int) : place (l ++ [(a, v)]) b = if a = b then some l.length else place l b := by
  rw [place_snoc]
  by_cases e : a = b
  · subst e; rw [h]
  · rw [if_neg e]
    cases place l b <;> simp [e]
theorem isIn_snoc {l : PL} {a v : Int} (h : place l a = none) (b : Int) : isIn (l ++ [(a, v)]) b = (decide (a = b) || isIn l b) := by
  unfold isIn; rw [place_snoc_none h]
  by_cases e : a = b <;> simp [e]
theorem valOf_snoc {l : PL} {a v : Int} (h : place l a = none) (b : Int) : valOf (l ++ [(a, v)]) b = if a = b then v else valOf l b := by
  unfold valOf; rw [place_snoc_none h]
  by_cases e : a = b
  · simp [e]
  · rw [if_neg e, if_neg e]
    cases hp : place l b with
    | none => rfl
    | some i => simp [List.getElem?_append_left (place_lt hp).1]

section
variable {l : PL} {a v : Int} (ha : 0 ≤ a) (hr : isIn l a = true ∨ l.length ≠ 128)
theorem wrL_none (ha : 0 ≤ a) (hp : place l a = none) (hr : l.length ≠ 128) : wrL l a v = l ++ [(a, v)] := by
  unfold wrL putL; rw [if_neg (by omega), hp, if_neg hr]
theorem wrL_some {i : Nat} (ha : 0 ≤ a) (hp : place l a = some i) : wrL l a v = l.set i (a, v) := by
  unfold wrL; rw [if_neg (by omega), hp]
theorem place_set {i : Nat} (hp : place l a = some i) (b : Int) : place (l.set i (a, v)) b = place l b := by
  rw [place_fst, set_fst hp, ← place_fst]
theorem room_none (hr : isIn l a = true ∨ l.length ≠ 128) (hp : place l a = none) : l.length ≠ 128 := by
  rcases hr with h | h
  · simp [isIn, hp] at h
  · exact h
include ha hr
theorem isIn_wrL (b : Int) : isIn (wrL l a v) b = (decide (a = b) || isIn l b) := by
  cases hp : place l a with
  | none => rw [wrL_none ha hp (room_none hr hp), isIn_snoc hp]
  | some i =>
    rw [wrL_some ha hp]
    unfold isIn; rw [place_set hp]
    by_cases e : a = b
    · subst e; simp [hp]
    · simp [e]
theorem valOf_wrL (b : Int) : valOf (wrL l a v) b = if a = b then v else valOf l b := by
  cases hp : place l a with
  | none => rw [wrL_none ha hp (room_none hr hp), valOf_snoc hp]
  | some i =>
    rw [wrL_some ha hp]
    obtain ⟨hi, hia⟩ := place_lt hp
    unfold valOf; rw [place_set hp]
    by_cases e : a = b
    · subst e; rw [hp, if_pos rfl]; simp [hi]
    · rw [if_neg e]
      cases hb : place l b with
      | none => rfl
      | some j =>
        obtain ⟨hj, hjb⟩ := place_lt hb
        have hij : i ≠ j := by rintro rfl; exact e (by rw [← hia, ← hjb])
        simp [List.getElem?_set_ne hij]
theorem length_wrL : (wrL l a v).length = if isIn l a then l.length else l.length + 1 := by
  cases hp : place l a with
  | none => rw [wrL_none ha hp (room_none hr hp)]; simp [isIn, hp]
  | some i => rw [wrL_some ha hp]; simp [isIn, hp]
theorem once_wrL (ho : Once l) : Once (wrL l a v) := by
  cases hp : place l a with
  | none => rw [wrL_none ha hp (room_none hr hp)]; exact once_snoc.2 ⟨ho, hp⟩
  | some i => rw [wrL_some ha hp]; unfold Once; rw [set_fst hp]; exact ho
end

/-- What stands between two calls. -/
structure Al (i : Nat) (s : PS) (h g : PL) : Prop where
  ph : s.ph = .idle
  eq : ∀ a, getH h a = getH g a
  hk : ∀ a, inH h a = decide (a = 0 ∨ a = 1 ∨ 8 ≤ a ∧ a < 208)
  gk : ∀ a, inH g a = decide (a = 0 ∨ a = 1 ∨ 8 ≤ a ∧ a < 208)
  even : getH h 0 % 2 = 0
  zero : 0 ≤ getH h 0
  most : getH h 0 ≤ 2000 + 2 * (i : Int)
  one : getH h 1 = if s.live then 1 else 0

/-- What a live path has read and written. -/
structure AlL (s : PS) (h rd wr : PL) : Prop where
  snap : s.snap = getH h 0
  onceR : Once s.R
  onceW : Once s.W
  same : ∀ a, isIn s.R a = true → valOf s.R a = getH h a
  inR : ∀ a, isIn s.R a = inH rd a
  rdv : ∀ a, getH rd a = if inH rd a then 1 else 0
  inW : ∀ a, isIn s.W a = inH wr a
  val : ∀ a, isIn s.W a = true → valOf s.W a = getH wr a
  lr : s.R.length ≤ 128
  lw : s.W.length ≤ 128
  keys : ∀ a, isIn s.W a = true → 8 ≤ a ∧ a < 208

theorem ready_of {s : PS} (hp : s.ph = .idle) : s.ready = s.live := by
  unfold PS.ready PS.busy; rw [hp]; simp [Ph.busy]

/-- A call that changes nothing. -/
theorem al_idle {s : PS} (hp : s.ph = .idle) (h : PL) (n : Nat) : finM n (s, h) = (s, h) := finM_idle (by unfold PS.busy; rw [hp]; rfl)
theorem al_begin {i : Nat} {s : PS} {h g : PL} (A : Al i s h g) (hl : s.live = false) :
    finM 3000 (s.begin, h) = ({ s with R := [], W := [], value := 0, ended := 0, ph := .idle, snap := getH h 0, points := wrap64 (s.points + 1), live := true }, (1, 1) :: h) := by
  have hb : s.begin = { s with R := [], W := [], value := 0, ended := 0, ph := .beginN } := by
    unfold PS.begin PS.busy; rw [A.ph, hl]; simp [Ph.busy]
  rw [hb]
  have := run_begin (s := { s with R := [], W := [], value := 0, ended := 0, ph := .beginN }) (h := h) rfl A.even
  rw [show getH h 1 = 0 from by rw [A.one, hl]; rfl] at this
  exact this.ends (n := 3000) rfl (by decide)
theorem al_left {s : PS} {h : PL} {how : Int} (hp : s.ph = .leaveN how) (h1 : getH h 1 = 1) : finM 3000 (s, h) = ({ s with live := false, ended := how, ph := .idle }, (1, 0) :: h) := by
  have := run_leave (s := s) (h := h) hp
  rw [h1] at this
  exact this.ends (n := 3000) rfl (by decide)

section
variable {i : Nat} {s : PS} {h g rd wr : PL} {a v : Int} (A : Al i s h g) (L : AlL s h rd wr) (hl : s.live = true) (ha : 8 ≤ a)
include A L hl ha
theorem al_load_own (ho : inH wr a = true) : finM 3000 (s.load a, h) = ({ s with value := getH wr a }, h) := by
  have hi : isIn s.W a = true := by rw [L.inW]; exact ho
  have : s.load a = { s with value := getH wr a } := by
    unfold PS.load; rw [ready_of A.ph, hl, hi, L.val a hi]; simp [ha]
  rw [this]; exact al_idle (s := { s with value := getH wr a }) A.ph _ _
theorem al_load (ho : inH wr a = false) (hr : inH rd a = true ∨ s.R.length ≠ 128) :
    finM 3000 (s.load a, h) = ({ s with R := rdL s.R a (getH h a), value := getH h a, points := wrap64 (s.points + 1), ph := .idle }, h) := by
  rw [load_ready (by rw [ready_of A.ph, hl]) ha (by rw [L.inW]; exact ho)]
  have := run_load (s := { s with ph := .loadWord a }) (h := h) rfl L.snap.symm
  have hbad : badRead s.R a (getH h a) = false := by
    unfold badRead rdErr
    rw [if_neg (by omega)]
    by_cases hi : isIn s.R a = true
    · rw [L.same a hi]
      have : (place s.R a).isSome = true := hi
      simp [this]
    · have h2 : isIn s.R a = false := by simpa using hi
      have : (place s.R a).isSome = false := h2
      have h3 : s.R.length ≠ 128 := by
        rcases hr with e | e
        · rw [← L.inR, h2] at e; cases e
        · exact e
      simp [h2, this, putErr, h3]
  have e : ({ s with ph := .loadWord a } : PS).loaded a (getH h a) = { s with R := rdL s.R a (getH h a), value := getH h a, points := wrap64 (s.points + 1), ph := .idle } := by
    unfold PS.loaded
    simp only [hbad, Bool.false_eq_true, if_false]
  rw [e] at this
  exact this.ends rfl (by decide)
theorem al_load_full (ho : inH wr a = false) (hr : inH rd a = false) (hf : s.R.length = 128) :
    finM 3000 (s.load a, h) = ({ s with live := false, ended := 2, ph := .idle }, (1, 0) :: h) := by
  rw [load_ready (by rw [ready_of A.ph, hl]) ha (by rw [L.inW]; exact ho)]
  have := run_load (s := { s with ph := .loadWord a }) (h := h) rfl L.snap.symm
  have h2 : isIn s.R a = false := by rw [L.inR]; exact hr
  have h3 : (place s.R a).isSome = false := h2
  have hbad : badRead s.R a (getH h a) = true := by
    unfold badRead rdErr
    rw [if_neg (by omega), h2, h3]
    simp [putErr, hf]
  have hrd : rdL s.R a (getH h a) = s.R := by
    unfold rdL putL; rw [if_neg (by omega), h3]; simp [hf]
  have e : ({ s with ph := .loadWord a } : PS).loaded a (getH h a) = { s with ph := .leaveN 2 } := by
    unfold PS.loaded
    simp only [hbad, if_true, hrd]
  rw [e] at this
  have h1 : getH h 1 = 1 := by rw [A.one, hl]; rfl
  have h4 := run_leave (s := { s with ph := .leaveN 2 }) (h := h) (how := 2) rfl
  rw [h1] at h4
  exact (this.trans h4).ends (n := 3000) rfl (by decide)
theorem wrErr_zero (hr : inH wr a = true ∨ s.W.length ≠ 128) : wrErr s.W a = 0 := by
  have _hA := A
  have _hl := hl
  unfold wrErr rdErr
  rw [if_neg (by omega)]
  by_cases hi : isIn s.W a = true
  · exact if_pos hi
  · have h2 : isIn s.W a = false := by simpa using hi
    have h3 : (place s.W a).isSome = false := h2
    have h4 : s.W.length ≠ 128 := by
      rcases hr with e | e
      · rw [← L.inW, h2] at e; cases e
      · exact e
    rw [h3]; simp [putErr, h4]
theorem al_store (hr : inH wr a = true ∨ s.W.length ≠ 128) : finM 3000 (s.store a v, h) = ({ s with W := wrL s.W a v }, h) := by
  rw [store_ready (by rw [ready_of A.ph, hl]) ha (wrErr_zero A L hl ha hr)]
  exact al_idle (s := { s with W := wrL s.W a v }) A.ph _ _
theorem al_store_full (ho : inH wr a = false) (hf : s.W.length = 128) : finM 3000 (s.store a v, h) = ({ s with live := false, ended := 2, ph := .idle }, (1, 0) :: h) := by
  have h2 : (place s.W a).isSome = false := by have := L.inW a; rw [ho] at this; exact this
  have he : wrErr s.W a ≠ 0 := by
    unfold wrErr rdErr
    rw [if_neg (by omega), h2]; simp [putErr, hf]
  have : s.store a v = { s with ph := .leaveN 2 } := by
    unfold PS.store; rw [ready_of A.ph, hl, if_neg he]; simp [ha]
  rw [this]
  exact al_left rfl (by rw [A.one, hl]; rfl)
end
theorem al_quit {i : Nat} {s : PS} {h g : PL} (A : Al i s h g) (hl : s.live = true) : finM 3000 (s.quit, h) = ({ s with live := false, ended := 3, ph := .idle }, (1, 0) :: h) := by
  have : s.quit = { s with ph := .leaveN 3 } := by unfold PS.quit; rw [ready_of A.ph, hl]; rfl
  rw [this]
  exact al_left rfl (by rw [A.one, hl]; rfl)
theorem al_commit_none {i : Nat} {s : PS} {h g : PL} (A : Al i s h g) (hl : s.live = true) (hW : s.W = []) : finM 3000 (s.commit, h) = ({ s with live := false, ended := 1, ph := .idle }, (1, 0) :: h) := by
  have : s.commit = { s with ph := .leaveN 1 } := by unfold PS.commit; rw [ready_of A.ph, hl, if_pos rfl, if_pos hW]
  rw [this]
  exact al_left rfl (by rw [A.one, hl]; rfl)
theorem al_commit {i : Nat} {s : PS} {h g rd wr : PL} (A : Al i s h g) (L : AlL s h rd wr) (hl : s.live = true) (hi : (i : Int) ≤ 1000) (hW : s.W ≠ []) :
    finM 3000 (s.commit, h) = ({ s with points := wrap64 (s.points + 1), writing := false, live := false, ended := 1, ph := .idle }, (1, 0) :: (0, getH h 0 + 2) :: backH s.W ((0, getH h 0 + 1) :: h)) := by
  have : s.commit = { s with ph := .take } := by unfold PS.commit; rw [ready_of A.ph, hl, if_pos rfl, if_neg hW]
  rw [this]
  obtain ⟨j, h', hj, hr, hh⟩ := run_commit (s := { s with ph := .take }) (h := h) rfl L.snap.symm hW L.lw
  rw [hr.ends rfl (by omega), hh]
  have hz := A.zero
  have hm := A.most
  have w1 : IntKind.u64.wrap (s.snap + 1) = getH h 0 + 1 := by rw [L.snap]; exact wrap_fit (by omega) (by omega)
  have w2 : IntKind.u64.wrap (s.snap + 2) = getH h 0 + 2 := by rw [L.snap]; exact wrap_fit (by omega) (by omega)
  have h1 : isIn s.W 1 = false := by
    cases e : isIn s.W 1 with
    | false => rfl
    | true => have := (L.keys 1 e).1; omega
  simp only
  rw [w1, w2, getH_back _ _ _ L.onceW, h1, if_neg (by decide), getH_other _ _ (by decide), A.one, hl]
  rfl

end Go.Proofs.Ytilffolppnnkaaa
