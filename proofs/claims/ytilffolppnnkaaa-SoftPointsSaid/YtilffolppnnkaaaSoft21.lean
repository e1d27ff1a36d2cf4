/- A path of layer 8 alone with a memory: what its operations come to. -/
import Derived.Test.YtilffolppnnkaaaSoft17
namespace Go.Proofs.Ytilffolppnnkaaa
set_option maxRecDepth 100000
open Go.RowKit

/-- The same, step by step. -/
theorem st_beginN {s : PS} {h : PL} (hp : s.ph = .beginN) : stepM (s, h) = ({ s with ph := .beginCas (getH h 1) }, h) := by
  simp [stepM, PS.want, hp, wantOf, ansOk, ansH, PS.give]
theorem st_beginCas_yes {s : PS} {h : PL} {n : Int} (hp : s.ph = .beginCas n) (hn : getH h 1 = n) : stepM (s, h) = ({ s with ph := .beginSeq }, (1, IntKind.u64.wrap (n + 1)) :: h) := by
  simp [stepM, PS.want, hp, wantOf, ansOk, ansH, PS.give, hn]
theorem st_beginCas_no {s : PS} {h : PL} {n : Int} (hp : s.ph = .beginCas n) (hn : getH h 1 ≠ n) : stepM (s, h) = ({ s with ph := .beginN }, h) := by
  simp [stepM, PS.want, hp, wantOf, ansOk, ansH, PS.give, hn]
theorem st_beginSeq_odd {s : PS} {h : PL} (hp : s.ph = .beginSeq) (ho : getH h 0 % 2 = 1) : stepM (s, h) = (s, h) := by
  simp [stepM, PS.want, hp, wantOf, ansOk, ansH, PS.give, ho]
theorem st_beginSeq_even {s : PS} {h : PL} (hp : s.ph = .beginSeq) (ho : getH h 0 % 2 = 0) : stepM (s, h) = ({ s with ph := .idle, snap := getH h 0, points := wrap64 (s.points + 1), live := true }, h) := by
  simp [stepM, PS.want, hp, wantOf, ansOk, ansH, PS.give, ho]
theorem st_loadWord {s : PS} {h : PL} {a : Int} (hp : s.ph = .loadWord a) : stepM (s, h) = ({ s with ph := .loadSeq a (getH h a) }, h) := by
  simp [stepM, PS.want, hp, wantOf, ansOk, ansH, PS.give]
theorem st_loadSeq_eq {s : PS} {h : PL} {a u : Int} (hp : s.ph = .loadSeq a u) (hs : getH h 0 = s.snap) : stepM (s, h) = (s.loaded a u, h) := by
  simp [stepM, PS.want, hp, wantOf, ansOk, ansH, PS.give, hs, PS.loaded]
theorem st_loadSeq_ne {s : PS} {h : PL} {a u : Int} (hp : s.ph = .loadSeq a u) (hs : getH h 0 ≠ s.snap) : stepM (s, h) = ({ s with ph := .checkSeq (.fetch a) }, h) := by
  simp [stepM, PS.want, hp, wantOf, ansOk, ansH, PS.give, hs]
theorem st_checkSeq_odd {s : PS} {h : PL} {to : To} (hp : s.ph = .checkSeq to) (ho : getH h 0 % 2 = 1) : stepM (s, h) = (s, h) := by
  simp [stepM, PS.want, hp, wantOf, ansOk, ansH, PS.give, ho]
theorem st_checkSeq_even {s : PS} {h : PL} {to : To} (hp : s.ph = .checkSeq to) (ho : getH h 0 % 2 = 0) : stepM (s, h) = ({ s with ph := nextCheck s.R to (getH h 0) 0 }, h) := by
  simp [stepM, PS.want, hp, wantOf, ansOk, ansH, PS.give, ho]
theorem st_checkOne_yes {s : PS} {h : PL} {to : To} {g : Int} {i : Nat} (hp : s.ph = .checkOne to g i) (hv : getH h (s.R[i]?.getD (0, 0)).1 = (s.R[i]?.getD (0, 0)).2) : stepM (s, h) = ({ s with ph := nextCheck s.R to g (i + 1) }, h) := by
  simp [stepM, PS.want, hp, wantOf, ansOk, ansH, PS.give, hv]
theorem st_checkOne_no {s : PS} {h : PL} {to : To} {g : Int} {i : Nat} (hp : s.ph = .checkOne to g i) (hv : getH h (s.R[i]?.getD (0, 0)).1 ≠ (s.R[i]?.getD (0, 0)).2) : stepM (s, h) = ({ s with ph := .leaveN 2 }, h) := by
  simp [stepM, PS.want, hp, wantOf, ansOk, ansH, PS.give, hv]
theorem st_checkEnd_yes {s : PS} {h : PL} {to : To} {g : Int} (hp : s.ph = .checkEnd to g) (hv : getH h 0 = g) : stepM (s, h) = ({ s with snap := g, points := wrap64 (s.points + 1), ph := to.ph }, h) := by
  simp [stepM, PS.want, hp, wantOf, ansOk, ansH, PS.give, hv]
theorem st_checkEnd_no {s : PS} {h : PL} {to : To} {g : Int} (hp : s.ph = .checkEnd to g) (hv : getH h 0 ≠ g) : stepM (s, h) = ({ s with ph := .checkSeq to }, h) := by
  simp [stepM, PS.want, hp, wantOf, ansOk, ansH, PS.give, hv]
theorem st_take_yes {s : PS} {h : PL} (hp : s.ph = .take) (hv : getH h 0 = s.snap) : stepM (s, h) = ({ s with points := wrap64 (s.points + 1), writing := true, ph := .back 0 }, (0, IntKind.u64.wrap (s.snap + 1)) :: h) := by
  simp [stepM, PS.want, hp, wantOf, ansOk, ansH, PS.give, hv]
theorem st_take_no {s : PS} {h : PL} (hp : s.ph = .take) (hv : getH h 0 ≠ s.snap) : stepM (s, h) = ({ s with ph := .checkSeq .take }, h) := by
  simp [stepM, PS.want, hp, wantOf, ansOk, ansH, PS.give, hv]
theorem st_back {s : PS} {h : PL} {i : Nat} (hp : s.ph = .back i) : stepM (s, h) = ({ s with ph := if i + 1 < s.W.length then .back (i + 1) else .release }, (s.W[i]?.getD (0, 0)) :: h) := by
  simp [stepM, PS.want, hp, wantOf, ansOk, ansH, PS.give]
theorem st_release {s : PS} {h : PL} (hp : s.ph = .release) : stepM (s, h) = ({ s with writing := false, ph := .leaveN 1 }, (0, IntKind.u64.wrap (s.snap + 2)) :: h) := by
  simp [stepM, PS.want, hp, wantOf, ansOk, ansH, PS.give]
theorem st_leaveN {s : PS} {h : PL} {how : Int} (hp : s.ph = .leaveN how) : stepM (s, h) = ({ s with ph := .leaveCas how (getH h 1) }, h) := by
  simp [stepM, PS.want, hp, wantOf, ansOk, ansH, PS.give]
theorem st_leaveCas_yes {s : PS} {h : PL} {how n : Int} (hp : s.ph = .leaveCas how n) (hn : getH h 1 = n) : stepM (s, h) = ({ s with live := false, ended := how, ph := .idle }, (1, IntKind.u64.wrap (n + 18446744073709551615)) :: h) := by
  simp [stepM, PS.want, hp, wantOf, ansOk, ansH, PS.give, hn]
theorem st_leaveCas_no {s : PS} {h : PL} {how n : Int} (hp : s.ph = .leaveCas how n) (hn : getH h 1 ≠ n) : stepM (s, h) = ({ s with ph := .leaveN how }, h) := by
  simp [stepM, PS.want, hp, wantOf, ansOk, ansH, PS.give, hn]

/-- So many steps lead from one state to another. -/
def Runs (k : Nat) (x y : PS × PL) : Prop := ∀ n, finM (n + k) x = finM n y
theorem Runs.refl (x : PS × PL) : Runs 0 x x := fun _ => rfl
theorem Runs.trans {j k : Nat} {x y z : PS × PL} (h : Runs j x y) (g : Runs k y z) : Runs (k + j) x z := fun n => by rw [← Nat.add_assoc, h, g]
theorem Runs.step {k : Nat} {x y z : PS × PL} (hb : x.1.busy = true) (hs : stepM x = y) (g : Runs k y z) : Runs (k + 1) x z := fun n => by
  rw [← Nat.add_assoc, finM_busy hb, hs, g]
theorem Runs.ends {k n : Nat} {x y : PS × PL} (h : Runs k x y) (hy : y.1.busy = false) (hn : k ≤ n) : finM n x = y := by
  obtain ⟨j, rfl⟩ : ∃ j, n = j + k := ⟨n - k, by omega⟩
  rw [h, finM_idle hy]
theorem busy_of {s : PS} {p : Ph} (hp : s.ph = p) (hb : p.busy = true) : s.busy = true := by unfold PS.busy; rw [hp]; exact hb

theorem run_begin {s : PS} {h : PL} (hp : s.ph = .beginN) (he : getH h 0 % 2 = 0) : Runs 3 (s, h) ({ s with ph := .idle, snap := getH h 0, points := wrap64 (s.points + 1), live := true }, (1, IntKind.u64.wrap (getH h 1 + 1)) :: h) := by
  refine Runs.step (busy_of hp rfl) (st_beginN hp) (Runs.step rfl (st_beginCas_yes rfl rfl) (Runs.step rfl (st_beginSeq_even rfl ?_) ?_))
  · rw [getH_other _ _ (by decide)]; exact he
  · rw [getH_other _ _ (by decide)]; exact Runs.refl _
theorem run_leave {s : PS} {h : PL} {how : Int} (hp : s.ph = .leaveN how) : Runs 2 (s, h) ({ s with live := false, ended := how, ph := .idle }, (1, IntKind.u64.wrap (getH h 1 + 18446744073709551615)) :: h) :=
  Runs.step (busy_of hp rfl) (st_leaveN hp) (Runs.step rfl (st_leaveCas_yes rfl rfl) (Runs.refl _))
theorem run_load {s : PS} {h : PL} {a : Int} (hp : s.ph = .loadWord a) (hs : getH h 0 = s.snap) : Runs 2 (s, h) (s.loaded a (getH h a), h) := by
  refine Runs.step (busy_of hp rfl) (st_loadWord hp) (Runs.step rfl (st_loadSeq_eq rfl hs) ?_)
  exact Runs.refl _

/-- Is all that was read from one place on so? -/
def sameFrom (R : PL) (h : PL) (i : Nat) : Bool := (R.drop i).all fun q => decide (getH h q.1 = q.2)
theorem run_checks {h : PL} {to : To} {g : Int} : ∀ (k : Nat) (s : PS) (i : Nat), s.R.length - i ≤ k → i ≤ s.R.length → s.ph = nextCheck s.R to g i →
    ∃ j, j ≤ s.R.length - i ∧ Runs j (s, h) (if sameFrom s.R h i then { s with ph := .checkEnd to g } else { s with ph := .leaveN 2 }, h)
  | k, s, i, hk, hi, hp => by
    by_cases hlt : i < s.R.length
    · have hd : s.R.drop i = s.R[i] :: s.R.drop (i + 1) := List.drop_eq_getElem_cons hlt
      have hg : s.R[i]?.getD (0, 0) = s.R[i] := by simp [hlt]
      have hp' : s.ph = .checkOne to g i := by rw [hp, nextCheck, if_pos hlt]
      by_cases hv : getH h s.R[i].1 = s.R[i].2
      · match k, hk with
        | 0, hk => omega
        | k + 1, hk =>
          obtain ⟨j, hj, hr⟩ := run_checks (h := h) (to := to) (g := g) k { s with ph := nextCheck s.R to g (i + 1) } (i + 1) (by simp only; omega) (by simp only; omega) rfl
          refine ⟨j + 1, by simp only at hj; omega, Runs.step (busy_of hp' rfl) (st_checkOne_yes hp' (by rw [hg]; exact hv)) ?_⟩
          have hsf : sameFrom s.R h i = sameFrom s.R h (i + 1) := by unfold sameFrom; rw [hd, List.all_cons, hv, decide_eq_true rfl, Bool.true_and]
          rw [hsf]; exact hr
      · have hsf : sameFrom s.R h i = false := by unfold sameFrom; rw [hd, List.all_cons, decide_eq_false hv, Bool.false_and]
        rw [hsf]
        exact ⟨1, by omega, Runs.step (busy_of hp' rfl) (st_checkOne_no hp' (by rw [hg]; exact hv)) (Runs.refl _)⟩
    · have hsf : sameFrom s.R h i = true := by
        have : s.R.drop i = [] := List.drop_eq_nil_iff.2 (by omega)
        simp [sameFrom, this]
      rw [hsf]
      have hp' : s.ph = .checkEnd to g := by rw [hp, nextCheck, if_neg hlt]
      refine ⟨0, Nat.zero_le _, ?_⟩
      have : ({ s with ph := .checkEnd to g } : PS) = s := by cases s; simp only at hp'; rw [hp']
      simp only [if_true]; rw [this]; exact Runs.refl _

/-- A validation. -/
theorem run_validate {s : PS} {h : PL} {to : To} (hp : s.ph = .checkSeq to) (he : getH h 0 % 2 = 0) (h128 : s.R.length ≤ 128) :
    ∃ j, j ≤ 130 ∧ Runs j (s, h) (if sameFrom s.R h 0 then { s with snap := getH h 0, points := wrap64 (s.points + 1), ph := to.ph } else { s with ph := .leaveN 2 }, h) := by
  obtain ⟨j, hj, hr⟩ := run_checks (h := h) (to := to) (g := getH h 0) s.R.length { s with ph := nextCheck s.R to (getH h 0) 0 } 0 (by simp) (by simp) rfl
  simp only at hj hr
  have h1 := Runs.step (busy_of hp rfl) (st_checkSeq_even hp he) hr
  by_cases hs : sameFrom s.R h 0 = true
  · rw [hs] at h1 ⊢
    simp only [if_true] at h1 ⊢
    have h2 := Runs.step (x := ({ s with ph := .checkEnd to (getH h 0) }, h)) rfl (st_checkEnd_yes rfl rfl) (Runs.refl _)
    exact ⟨_, by omega, h1.trans h2⟩
  · have hs' : sameFrom s.R h 0 = false := by simpa using hs
    rw [hs'] at h1 ⊢
    exact ⟨_, by omega, h1⟩

/-- What is written back, from one place on. -/
def backH (W : PL) (h : PL) : PL := W.foldl (fun h q => q :: h) h
theorem run_back {s : PS} : ∀ (k : Nat) (h : PL) (i : Nat) (_ : s.W.length - i = k + 1) (_ : i < s.W.length), Runs (k + 1) ({ s with ph := .back i }, h) ({ s with ph := .release }, backH (s.W.drop i) h)
  | k, h, i, hk, hi => by
    have hd : s.W.drop i = s.W[i] :: s.W.drop (i + 1) := List.drop_eq_getElem_cons hi
    have hst := st_back (s := { s with ph := .back i }) (h := h) (i := i) rfl
    simp only at hst
    rw [show s.W[i]?.getD (0, 0) = s.W[i] from by simp [hi]] at hst
    match k, hk with
    | 0, hk =>
      rw [if_neg (by omega)] at hst
      refine Runs.step rfl hst ?_
      rw [hd, show s.W.drop (i + 1) = [] from List.drop_eq_nil_iff.2 (by omega)]
      exact Runs.refl _
    | k + 1, hk =>
      rw [if_pos (by omega)] at hst
      refine Runs.step rfl hst ?_
      have := run_back (s := s) k (s.W[i] :: h) (i + 1) (by omega) (by omega)
      rw [hd]
      exact this

/-- A commit whose sequence is the snapshot. -/
theorem run_commit {s : PS} {h : PL} (hp : s.ph = .take) (hs : getH h 0 = s.snap) (hW : s.W ≠ []) (h128 : s.W.length ≤ 128) :
    ∃ j h', j ≤ 140 ∧ Runs j (s, h) ({ s with points := wrap64 (s.points + 1), writing := false, live := false, ended := 1, ph := .idle }, h') ∧
      h' = (1, IntKind.u64.wrap (getH (backH s.W ((0, IntKind.u64.wrap (s.snap + 1)) :: h)) 1 + 18446744073709551615)) :: (0, IntKind.u64.wrap (s.snap + 2)) :: backH s.W ((0, IntKind.u64.wrap (s.snap + 1)) :: h) := by
  have hl := List.length_pos_iff.2 hW
  have h1 := Runs.step (busy_of hp rfl) (st_take_yes hp hs) (run_back (s := { s with points := wrap64 (s.points + 1), writing := true, ph := .back 0 }) (s.W.length - 1) ((0, IntKind.u64.wrap (s.snap + 1)) :: h) 0 (by simp only; omega) (by simp only; omega))
  simp only [List.drop_zero] at h1
  have h2 := h1.trans (Runs.step rfl (st_release rfl) (run_leave (how := 1) rfl))
  refine ⟨_, _, ?_, h2, ?_⟩
  · omega
  · simp only
    rw [getH_other _ _ (by decide)]

theorem getH_back (W : PL) (h : PL) (a : Int) (ho : Once W) : getH (backH W h) a = if isIn W a then valOf W a else getH h a := by
  refine list_snoc_ind (P := fun W => Once W → getH (backH W h) a = if isIn W a then valOf W a else getH h a) ?_ ?_ W ho
  · intro _; rfl
  · intro l p ih ho
    obtain ⟨h1, h2⟩ := once_snoc.1 ho
    have e : backH (l ++ [p]) h = p :: backH l h := by simp [backH]
    rw [e, getH_cons]
    have hpl := place_snoc l p a
    by_cases hpa : p.1 = a
    · subst hpa
      rw [if_pos rfl]
      rw [h2] at hpl
      simp only [if_true] at hpl
      simp [isIn, valOf, hpl]
    · rw [if_neg hpa, ih h1]
      cases hp : place l a with
      | none =>
        rw [hp] at hpl
        simp only [if_neg hpa] at hpl
        simp [isIn, hpl, hp]
      | some i =>
        rw [hp] at hpl
        have := (place_lt hp).1
        simp only at hpl
        simp [isIn, valOf, hpl, hp, List.getElem?_append_left this]

end Go.Proofs.Ytilffolppnnkaaa
