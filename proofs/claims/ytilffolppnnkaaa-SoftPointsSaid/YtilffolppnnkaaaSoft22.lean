/- SoftClash, what it comes to: two paths over one memory. -/
import Derived.Test.YtilffolppnnkaaaSoft21
import Derived.Test.YtilffolppnnkaaaSoft18
namespace Go.Proofs.Ytilffolppnnkaaa
set_option maxRecDepth 100000
open Go.RowKit

abbrev cP2 : PS := { snap := 6, points := 1, live := true }
abbrev cP4 (a v : Int) : PS := { snap := 6, points := 2, live := true, value := v, R := [(a, v)] }
abbrev cQ3 (a v : Int) : PS := { snap := 6, points := 1, live := true, W := [(a, v)] }
abbrev cQ5 (a v : Int) : PS := { snap := 6, points := 2, ended := 1, W := [(a, v)] }
abbrev hist1 (h : PL) : PL := (1, 1) :: h
abbrev hist2 (h : PL) : PL := (1, 2) :: hist1 h
abbrev hist3 (h : PL) (a v : Int) : PL := (1, 1) :: (0, 8) :: (a, v) :: (0, 7) :: hist2 h

theorem badRead_new {a v : Int} (ha : 0 ≤ a) : badRead [] a v = false := by
  have : rdErr [] a = 0 := by unfold rdErr putErr; rw [if_neg (by omega)]; rfl
  simp [badRead, isIn, place, this]
theorem rdL_new {a v : Int} (ha : 0 ≤ a) : rdL [] a v = [(a, v)] := by unfold rdL putL; rw [if_neg (by omega)]; rfl
theorem wrL_new {a v : Int} (ha : 0 ≤ a) : wrL [] a v = [(a, v)] := by unfold wrL putL; rw [if_neg (by omega)]; rfl
theorem wrErr_new {a : Int} (ha : 0 ≤ a) : wrErr [] a = 0 := by unfold wrErr rdErr putErr; rw [if_neg (by omega)]; rfl

theorem clash1 {h : PL} {n : Int} (e0 : getH h 0 = 6) (e1 : getH h 1 = n) : finM 3000 (PS.begin {}, h) = (cP2, (1, IntKind.u64.wrap (n + 1)) :: h) := by
  have := run_begin (s := PS.begin {}) (h := h) rfl (by rw [e0]; rfl)
  rw [e0, e1] at this
  have w1 : wrap64 ((PS.begin {}).points + 1) = 1 := by kernel_rfl
  rw [w1] at this
  exact this.ends (n := 3000) rfl (by decide)
theorem load_ready {s : PS} {a : Int} (hb : s.ready = true) (ha : 8 ≤ a) (hi : isIn s.W a = false) : s.load a = { s with ph := .loadWord a } := by
  unfold PS.load; rw [hb, hi]; simp [ha]
theorem clash2 {h : PL} {a : Int} (ha : 8 ≤ a) (e0 : getH h 0 = 6) : finM 3000 (cP2.load a, h) = (cP4 a (getH h a), h) := by
  rw [load_ready rfl ha rfl]
  have := run_load (s := { cP2 with ph := .loadWord a }) (h := h) rfl e0
  have e : ({ cP2 with ph := .loadWord a } : PS).loaded a (getH h a) = cP4 a (getH h a) := by
    unfold PS.loaded
    have w2 : wrap64 (1 + 1) = 2 := by kernel_rfl
    simp only [badRead_new (show 0 ≤ a by omega), rdL_new (show 0 ≤ a by omega), Bool.false_eq_true, if_false, w2]
  rw [e] at this
  exact this.ends rfl (by decide)
theorem store_ready {s : PS} {a v : Int} (hb : s.ready = true) (ha : 8 ≤ a) (hi : wrErr s.W a = 0) : s.store a v = { s with W := wrL s.W a v } := by
  unfold PS.store; rw [hb, hi]; simp [ha]
theorem clash3 {a v : Int} (ha : 8 ≤ a) : cP2.store a v = cQ3 a v := by
  rw [store_ready rfl ha (wrErr_new (by omega)), wrL_new (by omega)]
theorem clash4 {h : PL} {a v : Int} (ha : 8 ≤ a) (e0 : getH h 0 = 6) (e1 : getH h 1 = 0) : finM 3000 ((cQ3 a v).commit, hist2 h) = (cQ5 a v, hist3 h a v) := by
  have hc : (cQ3 a v).commit = { cQ3 a v with ph := .take } := by simp [PS.commit, PS.ready, PS.busy, Ph.busy]
  obtain ⟨j, h', hj, hr, hh⟩ := run_commit (s := { cQ3 a v with ph := .take }) (h := hist2 h) rfl (by rw [getH_other _ _ (by decide), getH_other _ _ (by decide)]; exact e0) (by simp) (by simp)
  rw [hc, hr.ends rfl (by omega), hh]
  simp only [backH, List.foldl_cons, List.foldl_nil]
  rw [getH_other _ _ (by omega), getH_other _ _ (by decide), getH_same]
  have w2 : wrap64 (1 + 1) = 2 := by kernel_rfl
  have w3 : IntKind.u64.wrap (2 + 18446744073709551615) = 1 := by decide
  have w4 : IntKind.u64.wrap (6 + 2) = 8 := by decide
  have w5 : IntKind.u64.wrap (6 + 1) = 7 := by decide
  rw [w2, w3, w4, w5]

section
variable {h : PL} {a b v x : Int}
theorem h3_0 (ha : 8 ≤ a) : getH (hist3 h a x) 0 = 8 := by rw [getH_other _ _ (by decide), getH_same]
theorem h3_1 : getH (hist3 h a x) 1 = 1 := by rw [getH_same]
theorem h3_a (ha : 8 ≤ a) : getH (hist3 h a x) a = x := by rw [getH_other _ _ (by omega), getH_other _ _ (by omega), getH_same]
theorem sf3 (ha : 8 ≤ a) : sameFrom [(a, v)] (hist3 h a x) 0 = decide (x = v) := by
  unfold sameFrom
  rw [List.drop_zero, List.all_cons, List.all_nil, h3_a ha, Bool.and_true]

abbrev cP6 (a v b u : Int) : PS := { snap := 6, points := 2, live := true, value := v, R := [(a, v)], W := [(b, u)] }
abbrev cPx (a v b u : Int) (ph : Ph) : PS := { ph := ph, snap := 6, points := 2, live := true, value := v, R := [(a, v)], W := [(b, u)] }
abbrev cPy (a v : Int) (ph : Ph) : PS := { ph := ph, snap := 6, points := 2, live := true, value := v, R := [(a, v)] }
theorem clash5 (hb : 8 ≤ b) {u : Int} : (cP4 a v).store b u = cP6 a v b u := by
  rw [store_ready rfl hb (wrErr_new (by omega)), wrL_new (by omega)]
theorem clash_commit {u : Int} : (cP6 a v b u).commit = cPx a v b u (.take) := by simp [PS.commit, PS.ready, PS.busy, Ph.busy]
/-- The words differ: it ends aborted. -/
theorem clash_no {s : PS} {to : To} (ha : 8 ≤ a) (hp : s.ph = .checkSeq to) (hR : s.R = [(a, v)]) (hx : x ≠ v) :
    ∃ j, j ≤ 140 ∧ Runs j (s, hist3 h a x) ({ s with live := false, ended := 2, ph := .idle }, (1, 0) :: hist3 h a x) := by
  obtain ⟨j, hj, hr⟩ := run_validate (s := s) (h := hist3 h a x) hp (by rw [h3_0 ha]; rfl) (by rw [hR]; exact (by decide : (1 : Nat) ≤ 128))
  rw [show sameFrom s.R (hist3 h a x) 0 = false from by rw [hR, sf3 ha, decide_eq_false hx]] at hr
  simp only [Bool.false_eq_true, if_false] at hr
  have h2 := hr.trans (run_leave (s := { s with ph := .leaveN 2 }) (h := hist3 h a x) (how := 2) rfl)
  rw [h3_1, show IntKind.u64.wrap (1 + 18446744073709551615) = 0 from by decide] at h2
  exact ⟨_, by omega, h2⟩
theorem clash_yes {s : PS} {to : To} (ha : 8 ≤ a) (hp : s.ph = .checkSeq to) (hR : s.R = [(a, v)]) (hx : x = v) :
    ∃ j, j ≤ 130 ∧ Runs j (s, hist3 h a x) ({ s with snap := 8, points := wrap64 (s.points + 1), ph := to.ph }, hist3 h a x) := by
  obtain ⟨j, hj, hr⟩ := run_validate (s := s) (h := hist3 h a x) hp (by rw [h3_0 ha]; rfl) (by rw [hR]; exact (by decide : (1 : Nat) ≤ 128))
  rw [show sameFrom s.R (hist3 h a x) 0 = true from by rw [hR, sf3 ha, decide_eq_true hx], h3_0 ha] at hr
  simp only [if_true] at hr
  exact ⟨j, hj, hr⟩

theorem clash6 (ha : 8 ≤ a) {u : Int} (hx : x ≠ v) : finM 3000 ((cP6 a v b u).commit, hist3 h a x) = ({ snap := 6, points := 2, value := v, R := [(a, v)], W := [(b, u)], ended := 2 }, (1, 0) :: hist3 h a x) := by
  rw [clash_commit]
  obtain ⟨j, hj, hr⟩ := clash_no (h := h) (x := x) (s := cPx a v b u (.checkSeq .take)) ha rfl rfl hx
  have := Runs.step (x := (cPx a v b u (.take), hist3 h a x)) rfl (st_take_no rfl (by rw [h3_0 ha]; exact (by decide : (8 : Int) ≠ 6))) hr
  exact this.ends rfl (by omega)
theorem clash7 (ha : 8 ≤ a) (hb : 8 ≤ b) {u : Int} (hx : x = v) : ∃ pt, finM 3000 ((cP6 a v b u).commit, hist3 h a x) = ({ snap := 8, points := pt, value := v, R := [(a, v)], W := [(b, u)], ended := 1 }, (1, 0) :: (0, 10) :: (b, u) :: (0, 9) :: hist3 h a x) := by
  rw [clash_commit]
  obtain ⟨j, hj, hr⟩ := clash_yes (h := h) (x := x) (s := cPx a v b u (.checkSeq .take)) ha rfl rfl hx
  have h1 := Runs.step (x := (cPx a v b u (.take), hist3 h a x)) rfl (st_take_no rfl (by rw [h3_0 ha]; exact (by decide : (8 : Int) ≠ 6))) hr
  obtain ⟨k, h', hk, hr2, hh⟩ := run_commit (s := { ph := .take, snap := 8, points := wrap64 (2 + 1), live := true, value := v, R := [(a, v)], W := [(b, u)] }) (h := hist3 h a x) rfl (h3_0 ha) (by simp) (by simp)
  have h2 := h1.trans hr2
  refine ⟨wrap64 (wrap64 (2 + 1) + 1), ?_⟩
  rw [h2.ends rfl (by omega), hh]
  simp only [backH, List.foldl_cons, List.foldl_nil]
  rw [getH_other _ _ (by omega), getH_other _ _ (by decide), h3_1]
  have w3 : IntKind.u64.wrap (1 + 18446744073709551615) = 0 := by decide
  have w4 : IntKind.u64.wrap (8 + 2) = 10 := by decide
  have w5 : IntKind.u64.wrap (8 + 1) = 9 := by decide
  rw [w3, w4, w5]
theorem clash_load (hb : 8 ≤ b) : (cP4 a v).load b = cPy a v (.loadWord b) := load_ready rfl hb rfl
theorem clash8 (ha : 8 ≤ a) (hb : 8 ≤ b) (hx : x ≠ v) : finM 3000 ((cP4 a v).load b, hist3 h a x) = ({ snap := 6, points := 2, value := v, R := [(a, v)], ended := 2 }, (1, 0) :: hist3 h a x) := by
  rw [clash_load hb]
  obtain ⟨j, hj, hr⟩ := clash_no (h := h) (x := x) (s := cPy a v (.checkSeq (.fetch b))) ha rfl rfl hx
  have := Runs.step (x := (cPy a v (.loadWord b), hist3 h a x)) rfl (st_loadWord rfl) (Runs.step rfl (st_loadSeq_ne rfl (by rw [h3_0 ha]; exact (by decide : (8 : Int) ≠ 6))) hr)
  exact this.ends rfl (by omega)
theorem clash9 (ha : 8 ≤ a) (hb : 8 ≤ b) (hx : x = v) : ∃ R pt, finM 3000 ((cP4 a v).load b, hist3 h a x) = ({ snap := 8, live := true, R := R, points := pt, value := getH (hist3 h a x) b }, hist3 h a x) := by
  rw [clash_load hb]
  obtain ⟨j, hj, hr⟩ := clash_yes (h := h) (x := x) (s := cPy a v (.checkSeq (.fetch b))) ha rfl rfl hx
  have h1 := Runs.step (x := (cPy a v (.loadWord b), hist3 h a x)) rfl (st_loadWord rfl) (Runs.step rfl (st_loadSeq_ne rfl (by rw [h3_0 ha]; exact (by decide : (8 : Int) ≠ 6))) hr)
  have h2 := h1.trans (run_load (s := { ph := .loadWord b, snap := 8, points := wrap64 (2 + 1), live := true, value := v, R := [(a, v)] }) (h := hist3 h a x) (a := b) rfl (h3_0 ha))
  have hbad : badRead [(a, v)] b (getH (hist3 h a x) b) = false := by
    by_cases e : a = b
    · subst e
      rw [h3_a ha, hx]
      have : place [(a, v)] a = some 0 := by simp [place]
      simp [badRead, isIn, valOf, rdErr, this, show ¬ a < 0 by omega]
    · have : place [(a, v)] b = none := by simp [place, e]
      simp [badRead, isIn, rdErr, putErr, this, show ¬ b < 0 by omega]
  have e : ({ ph := .loadWord b, snap := 8, points := wrap64 (2 + 1), live := true, value := v, R := [(a, v)] } : PS).loaded b (getH (hist3 h a x) b) = { snap := 8, live := true, R := rdL [(a, v)] b (getH (hist3 h a x) b), points := wrap64 (wrap64 (2 + 1) + 1), value := getH (hist3 h a x) b } := by
    unfold PS.loaded
    simp only [hbad, Bool.false_eq_true, if_false]
  refine ⟨rdL [(a, v)] b (getH (hist3 h a x) b), wrap64 (wrap64 (2 + 1) + 1), ?_⟩
  rw [← e]
  refine h2.ends ?_ (by omega)
  rw [e]; rfl
end

/-- A memory's words at first. -/
def firstH (ws : List Int) (s : Int) : Nat → PL
  | 0 => [(1, 0), (0, IntKind.u64.wrap (s * 2))]
  | k + 1 => if k < ws.length then (8 + (k : Int), ws[k]?.getD 0) :: (8 + (k : Int), 0) :: firstH ws s k else (8 + (k : Int), 0) :: firstH ws s k
theorem firstH_succ (ws : List Int) (s : Int) (k : Nat) : firstH ws s (k + 1) = if k < ws.length then (8 + (k : Int), ws[k]?.getD 0) :: (8 + (k : Int), 0) :: firstH ws s k else (8 + (k : Int), 0) :: firstH ws s k := rfl
theorem inH_first (ws : List Int) (s : Int) : ∀ (k : Nat) (a : Int), inH (firstH ws s k) a = decide (a = 0 ∨ a = 1 ∨ 8 ≤ a ∧ a < 8 + k)
  | 0, a => by
    simp only [firstH, inH_cons, inH_nil, Bool.or_false]
    by_cases h0 : a = 0
    · subst h0; rfl
    · by_cases h1 : a = 1
      · subst h1; rfl
      · have : ¬ (8 ≤ a ∧ a < 8 + ((0 : Nat) : Int)) := by omega
        simp [h0, h1, this, Ne.symm h0, Ne.symm h1]
  | k + 1, a => by
    have ih := inH_first ws s k a
    have key : (decide (8 + (k : Int) = a) || inH (firstH ws s k) a) = decide (a = 0 ∨ a = 1 ∨ 8 ≤ a ∧ a < 8 + ((k + 1 : Nat) : Int)) := by
      rw [ih, ← Bool.decide_or]
      congr 1
      apply propext
      constructor
      · rintro (h | h | h | h) <;> omega
      · rintro (h | h | h) <;> omega
    rw [firstH_succ]
    split
    · rw [inH_cons, inH_cons, ← Bool.or_assoc, Bool.or_self, key]
    · rw [inH_cons, key]
theorem getH_first (ws : List Int) (s : Int) : ∀ (k : Nat) (a : Int), getH (firstH ws s k) a = if a = 0 then IntKind.u64.wrap (s * 2) else if 8 ≤ a ∧ a < 8 + k then ws[(a - 8).toNat]?.getD 0 else 0
  | 0, a => by
    simp only [firstH, getH_cons, getH_nil]
    by_cases h0 : a = 0
    · subst h0; simp
    · by_cases h1 : a = 1
      · subst h1; simp
      · have : ¬ (8 ≤ a ∧ a < 8 + ((0 : Nat) : Int)) := by omega
        simp [h0, Ne.symm h0, Ne.symm h1]
        intro h; omega
  | k + 1, a => by
    have ih := getH_first ws s k a
    by_cases e : 8 + (k : Int) = a
    · subst e
      have e2 : ((8 + (k : Int)) - 8).toNat = k := by omega
      rw [if_neg (by omega), if_pos (by omega), e2]
      rw [firstH_succ]
      split
      · rw [getH_same]
      · rename_i hl
        rw [getH_same, List.getElem?_eq_none (by omega)]; rfl
    · have h1 : getH (firstH ws s (k + 1)) a = getH (firstH ws s k) a := by
        rw [firstH_succ]
        split
        · rw [getH_other _ _ e, getH_other _ _ e]
        · rw [getH_other _ _ e]
      rw [h1, ih]
      by_cases h0 : a = 0
      · rw [if_pos h0, if_pos h0]
      · rw [if_neg h0, if_neg h0]
        by_cases h2 : 8 ≤ a ∧ a < 8 + (k : Int)
        · rw [if_pos h2, if_pos (by omega)]
        · rw [if_neg h2, if_neg (by omega)]

end Go.Proofs.Ytilffolppnnkaaa
