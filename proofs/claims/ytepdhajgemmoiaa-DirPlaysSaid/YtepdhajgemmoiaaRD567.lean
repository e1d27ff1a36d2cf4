/- Sets as bits and as lists; Hear of both directories comes to the same. -/
import Derived.Test.YtepdhajgemmoiaaRD12s
import Derived.Test.YtepdhajgemmoiaaDir18
import Derived.Test.YtepdhajgemmoiaaDir1920
/- Sets of cores as bits, and as the reference's lists. -/
namespace Go.Proofs.Ytepdhajgemmoiaa
set_option linter.unusedSimpArgs false
set_option linter.unusedVariables false
set_option maxRecDepth 100000
set_option linter.unusedSimpArgs false
set_option linter.unusedVariables false
open Go.RowKit

/-- A set's cores, as numbers. -/
def coresI (s : Int) : List Int := (coresL s 4).map fun (j : Nat) => (j : Int)
theorem set_tab : ((List.range 16).all fun (s : Nat) => (List.range 4).all fun (c : Nat) =>
    decide (coresI (orB (s : Int) (c : Int)) = withL (coresI (s : Int)) (c : Int) 4) && decide (coresI (notB (s : Int) (c : Int)) = withoutL (coresI (s : Int)) (c : Int)) &&
    (hasB (s : Int) (c : Int) == decide ((c : Int) ∈ coresI (s : Int))) && ((notB (s : Int) (c : Int) == 0) == decide (withoutL (coresI (s : Int)) (c : Int) = [])) &&
    decide (0 ≤ orB (s : Int) (c : Int) ∧ orB (s : Int) (c : Int) < 16 ∧ 0 ≤ notB (s : Int) (c : Int) ∧ notB (s : Int) (c : Int) < 16 ∧ 0 ≤ shl1 (c : Int) ∧ shl1 (c : Int) < 16) && decide (coresI (shl1 (c : Int)) = [(c : Int)])) = true := by kernel_rfl
theorem set_at {s c : Int} (hs : 0 ≤ s ∧ s < 16) (hc : 0 ≤ c ∧ c < 4) : coresI (orB s c) = withL (coresI s) c 4 ∧ coresI (notB s c) = withoutL (coresI s) c ∧ hasB s c = decide (c ∈ coresI s) ∧ (notB s c = 0 ↔ withoutL (coresI s) c = []) ∧
    (0 ≤ orB s c ∧ orB s c < 16) ∧ (0 ≤ notB s c ∧ notB s c < 16) ∧ (0 ≤ shl1 c ∧ shl1 c < 16) ∧ coresI (shl1 c) = [c] := by
  obtain ⟨s, rfl⟩ := Int.eq_ofNat_of_zero_le hs.1
  obtain ⟨c, rfl⟩ := Int.eq_ofNat_of_zero_le hc.1
  have h := List.all_eq_true.1 (List.all_eq_true.1 set_tab s (List.mem_range.2 (by omega))) c (List.mem_range.2 (by omega))
  simp only [Bool.and_eq_true, decide_eq_true_eq, beq_iff_eq] at h
  obtain ⟨⟨⟨⟨⟨h1, h2⟩, h3⟩, h4⟩, h5⟩, h6⟩ := h
  refine ⟨h1, h2, h3, ?_, ⟨h5.1, h5.2.1⟩, ⟨h5.2.2.1, h5.2.2.2.1⟩, ⟨h5.2.2.2.2.1, h5.2.2.2.2.2⟩, h6⟩
  rw [Bool.eq_iff_iff] at h4
  simpa using h4
theorem coresI_zero : coresI 0 = [] := by kernel_rfl
end Go.Proofs.Ytepdhajgemmoiaa

/- The reference's Hear as a pure function; the directory's Hear comes to the same. -/
namespace Go.Proofs.Ytepdhajgemmoiaa
set_option linter.unusedSimpArgs false
set_option linter.unusedVariables false
set_option maxRecDepth 100000
set_option linter.unusedSimpArgs false
set_option linter.unusedVariables false
open Go.RowKit

/-- An entry of the reference, wherever its lists lie. -/
structure RV where
  ow : Int := -1
  sh : List Int := []
  un : MsgV := {}
  ph : Int := 0
  ak : List Int := []
  asked : Int := 0
  wl : List MsgV := []
def grantV (x : RV) : RV := if x.un.k = 1 then { x with ph := 4, sh := withL x.sh x.un.c 4 } else { x with ph := 4, ow := x.un.c, sh := [] }
def grantVM (x : RV) (i : Int) (v : L8) : MsgV := ⟨if x.un.k = 1 then 14 else 15, x.un.c, i, v⟩
def beginV (x : RV) (m : MsgV) : RV :=
  if 0 ≤ x.ow then { x with un := m, ph := 2, asked := x.ow }
  else if m.k = 1 ∨ withoutL x.sh m.c = [] then grantV { x with un := m } else { x with un := m, ph := 1, ak := withoutL x.sh m.c }
def beginVM (x : RV) (m : MsgV) (v : L8) : List MsgV :=
  if 0 ≤ x.ow then [⟨if m.k = 2 then 13 else 12, x.ow, m.l, {}⟩]
  else if m.k = 1 ∨ withoutL x.sh m.c = [] then [grantVM { x with un := m } m.l v] else (withoutL x.sh m.c).map fun j => ⟨11, j, m.l, {}⟩
def asksV (x : RV) (c : Int) : Bool := decide (x.ph ≠ 0 ∧ x.ph ≠ 4 ∧ x.un.c = c) || decide (x.ow = c ∧ x.ph ≠ 2) || x.wl.any (fun m => m.c == c)

/-- The same is known of a line. -/
structure Rel (e : EntV) (x : RV) : Prop where
  ow : e.ow = x.ow
  sh : coresI e.sh = x.sh
  un : e.un = x.un
  ph : e.ph = x.ph
  ak : e.ph = 1 → coresI e.ak = x.ak
  asked : e.ph = 2 → e.ak = shl1 x.asked ∧ 0 ≤ x.asked ∧ x.asked < 4
  wl : e.wl = x.wl
  bs : 0 ≤ e.sh ∧ e.sh < 16
  ba : 0 ≤ e.ak ∧ e.ak < 16

theorem grant_rel {e : EntV} {x : RV} (R : Rel e x) (hu : 0 ≤ e.un.c ∧ e.un.c < 4) : Rel (grantE e) (grantV x) := by
  have hs := set_at R.bs hu
  unfold grantE grantV
  rw [← R.un]
  by_cases h : e.un.k = 1
  · rw [if_pos h, if_pos h]
    exact ⟨R.ow, by show coresI (orB e.sh e.un.c) = withL x.sh e.un.c 4; rw [← R.sh]; exact hs.1, rfl, rfl, fun h => absurd (show (4 : Int) = 1 from h) (by decide), fun h => absurd (show (4 : Int) = 2 from h) (by decide), R.wl, hs.2.2.2.2.1, ⟨by show (0 : Int) ≤ 0; decide, by show (0 : Int) < 16; decide⟩⟩
  · rw [if_neg h, if_neg h]
    exact ⟨rfl, coresI_zero, rfl, rfl, fun h => absurd (show (4 : Int) = 1 from h) (by decide), fun h => absurd (show (4 : Int) = 2 from h) (by decide), R.wl, ⟨by show (0 : Int) ≤ 0; decide, by show (0 : Int) < 16; decide⟩, ⟨by show (0 : Int) ≤ 0; decide, by show (0 : Int) < 16; decide⟩⟩
theorem grantM_rel {e : EntV} {x : RV} (R : Rel e x) (i : Int) (hl : e.un.l = i) (v : L8) : grantM e v = grantVM x i v := by
  unfold grantM grantVM; rw [← R.un, hl]
theorem begin_rel {e : EntV} {x : RV} (R : Rel e x) {m : MsgV} (hc : 0 ≤ m.c ∧ m.c < 4) (how : e.ow = -1 ∨ 0 ≤ e.ow ∧ e.ow < 4) (v : L8) : Rel (beginE e m) (beginV x m) ∧ beginM e m v = beginVM x m v := by
  have hs := set_at R.bs hc
  unfold beginE beginM beginV beginVM
  rw [← R.ow]
  by_cases h0 : 0 ≤ e.ow
  · rw [if_pos h0, if_pos h0, if_pos h0, if_pos h0]
    have ho := set_at (s := 0) (by decide) (show 0 ≤ e.ow ∧ e.ow < 4 by omega)
    refine ⟨⟨rfl, R.sh, rfl, rfl, fun h => absurd (show (2 : Int) = 1 from h) (by decide), fun _ => ⟨by show shl1 e.ow = shl1 e.ow; rfl, h0, by show e.ow < 4; omega⟩, R.wl, R.bs, ho.2.2.2.2.2.2.1⟩, rfl⟩
  · rw [if_neg h0, if_neg h0, if_neg h0, if_neg h0]
    have hiff : (m.k = 1 ∨ notB e.sh m.c = 0) ↔ (m.k = 1 ∨ withoutL x.sh m.c = []) := by rw [← R.sh]; exact or_congr Iff.rfl hs.2.2.2.1
    by_cases h1 : m.k = 1 ∨ notB e.sh m.c = 0
    · rw [if_pos h1, if_pos h1, if_pos (hiff.1 h1), if_pos (hiff.1 h1)]
      refine ⟨?_, ?_⟩
      · have ha : grantE (askE e m) = grantE { e with un := m } := by unfold grantE askE; dsimp only
        rw [ha]
        exact grant_rel (e := { e with un := m }) (x := { x with un := m, ow := e.ow }) ⟨rfl, R.sh, rfl, R.ph, R.ak, R.asked, R.wl, R.bs, R.ba⟩ hc
      · rfl
    · rw [if_neg h1, if_neg h1, if_neg (fun h => h1 (hiff.2 h)), if_neg (fun h => h1 (hiff.2 h))]
      refine ⟨⟨rfl, R.sh, rfl, rfl, fun _ => ?_, fun h => absurd (show (1 : Int) = 2 from h) (by decide), R.wl, R.bs, hs.2.2.2.2.2.1⟩, ?_⟩
      · show coresI (notB e.sh m.c) = withoutL x.sh m.c
        rw [← R.sh]; exact hs.2.1
      · unfold ackM
        rw [← R.sh, ← hs.2.1]
        unfold coresI
        rw [List.map_map]; rfl
end Go.Proofs.Ytepdhajgemmoiaa

/- Hear of a directory and of the reference come to the same. -/
namespace Go.Proofs.Ytepdhajgemmoiaa
set_option linter.unusedSimpArgs false
set_option linter.unusedVariables false
set_option maxRecDepth 100000
set_option linter.unusedSimpArgs false
set_option linter.unusedVariables false
open Go.RowKit

/-- The reference's Hear of a line and a core that are there. -/
def hearV (n : Nat) (ws : List Int) (x : RV) (i : Nat) (m : MsgV) : List Int × RV × List MsgV × Int :=
  if m.k = 1 ∨ m.k = 2 then
    if asksV x m.c = true then (ws, x, [], 30)
    else if x.ph = 0 then (ws, beginV x ⟨m.k, m.c, (i : Int), {}⟩, beginVM x ⟨m.k, m.c, (i : Int), {}⟩ (lineV n ws i), 0)
    else (ws, { x with wl := x.wl ++ [⟨m.k, m.c, (i : Int), {}⟩] }, [], 0)
  else if m.k = 4 then
    if x.ph ≠ 1 ∨ m.c ∉ x.ak then (ws, x, [], 30)
    else if withoutL x.ak m.c = [] then (ws, grantV { x with sh := withoutL x.sh m.c, ak := withoutL x.ak m.c }, [grantVM { x with sh := withoutL x.sh m.c, ak := withoutL x.ak m.c } i (lineV n ws i)], 0)
    else (ws, { x with sh := withoutL x.sh m.c, ak := withoutL x.ak m.c }, [], 0)
  else if m.k = 5 then
    if x.ph ≠ 2 ∨ x.ow ≠ m.c then (ws, x, [], 30)
    else if x.un.k = 1 then (wsOf n ws i m.d, grantV { x with ow := -1, sh := withL x.sh m.c 4 }, [grantVM { x with ow := -1, sh := withL x.sh m.c 4 } i (lineV n (wsOf n ws i m.d) i)], 0)
    else (wsOf n ws i m.d, grantV { x with ow := -1 }, [grantVM { x with ow := -1 } i (lineV n (wsOf n ws i m.d) i)], 0)
  else if m.k = 6 then
    if x.ph ≠ 2 ∨ x.asked ≠ m.c then (ws, x, [], 30)
    else if x.ow < 0 then (ws, grantV x, [grantVM x i (lineV n ws i)], 0) else (ws, { x with ph := 3 }, [], 0)
  else if m.k = 3 then
    if x.ow ≠ m.c then (ws, x, [], 30)
    else if x.ph = 3 then (wsOf n ws i m.d, grantV { x with ow := -1 }, [⟨16, m.c, (i : Int), {}⟩, grantVM { x with ow := -1 } i (lineV n (wsOf n ws i m.d) i)], 0)
    else (wsOf n ws i m.d, { x with ow := -1 }, [⟨16, m.c, (i : Int), {}⟩], 0)
  else if m.k = 7 then
    if x.ph ≠ 4 ∨ x.un.c ≠ m.c then (ws, x, [], 30)
    else match x.wl with
      | [] => (ws, { x with ph := 0, un := {} }, [], 0)
      | nx :: l => (ws, beginV { x with ph := 0, un := {}, wl := l } nx, beginVM { x with ph := 0, un := {}, wl := l } nx (lineV n ws i), 0)
  else (ws, x, [], 30)

/-- What both come to. -/
def hearB (n : Nat) (ws : List Int) (e : EntV) (i : Nat) (m : MsgV) : List Int × EntV × List MsgV × Int := if mayB e m = true then ((hearE n ws e i m).1, (hearE n ws e i m).2.1, (hearE n ws e i m).2.2, 0) else (ws, e, [], 30)
def Alike (a : List Int × EntV × List MsgV × Int) (b : List Int × RV × List MsgV × Int) : Prop := a.1 = b.1 ∧ Rel a.2.1 b.2.1 ∧ a.2.2.1 = b.2.2.1 ∧ a.2.2.2 = b.2.2.2

theorem may_get {e : EntV} {x : RV} (R : Rel e x) {m : MsgV} (h12 : m.k = 1 ∨ m.k = 2) : mayB e m = !asksV x m.c := by
  unfold mayB asksV
  rw [if_pos h12, R.ph, R.un, R.ow, R.wl]
  by_cases h0 : x.ph = 0 <;> by_cases h4 : x.ph = 4 <;> by_cases h2 : x.ph = 2 <;> by_cases hu : x.un.c = m.c <;> by_cases ho : x.ow = m.c <;> simp [h0, h4, h2, hu, ho] <;> (try omega)

theorem hear_rel {cores : Int} {e : EntV} {x : RV} (R : Rel e x) (n : Nat) (ws : List Int) (i : Nat) (m : MsgV) (hE : EOk cores i e) (hc : 0 ≤ m.c ∧ m.c < cores) (hco : cores ≤ 4) : Alike (hearB n ws e i m) (hearV n ws x i m) := by
  have hc4 : 0 ≤ m.c ∧ m.c < 4 := by omega
  have how : e.ow = -1 ∨ 0 ≤ e.ow ∧ e.ow < 4 := hE.ow.imp id (fun h => ⟨h.1, by omega⟩)
  have bad : Alike (ws, e, [], 30) (ws, x, [], 30) := ⟨rfl, R, rfl, rfl⟩
  have hs := set_at R.bs hc4
  have ha := set_at R.ba hc4
  unfold hearB hearV
  by_cases h12 : m.k = 1 ∨ m.k = 2
  · rw [if_pos h12, may_get R h12]
    cases hq : asksV x m.c with
    | true => rw [if_neg (by decide), if_pos rfl]; exact bad
    | false =>
      rw [if_pos (by decide), if_neg (by decide)]
      unfold hearE
      rw [if_pos h12]
      by_cases h0 : e.ph = 0
      · rw [if_pos h0, if_pos (show x.ph = 0 from by rw [← R.ph]; exact h0)]
        have hb := begin_rel R (m := ⟨m.k, m.c, (i : Int), {}⟩) hc4 how (lineV n ws i)
        exact ⟨rfl, hb.1, hb.2, rfl⟩
      · rw [if_neg h0, if_neg (show ¬ x.ph = 0 from by rw [← R.ph]; exact h0)]
        exact ⟨rfl, ⟨R.ow, R.sh, R.un, R.ph, R.ak, R.asked, by show e.wl ++ _ = x.wl ++ _; rw [R.wl], R.bs, R.ba⟩, rfl, rfl⟩
  rw [if_neg h12]
  unfold mayB hearE
  rw [if_neg h12, if_neg h12]
  by_cases h4 : m.k = 4
  · rw [if_pos h4, if_pos h4, if_pos h4]
    by_cases hp : e.ph = 1
    · have hak := R.ak hp
      rw [ha.2.2.1, hak]
      by_cases hm : m.c ∈ x.ak
      · rw [if_pos (by simp [hp, hm]), if_neg (show ¬ (x.ph ≠ 1 ∨ m.c ∉ x.ak) from by rw [← R.ph]; simp [hp, hm])]
        have hz : notB e.ak m.c = 0 ↔ withoutL x.ak m.c = [] := by rw [← hak]; exact ha.2.2.2.1
        have RA : Rel (ackS e m.c) { x with sh := withoutL x.sh m.c, ak := withoutL x.ak m.c } := ⟨R.ow, by show coresI (notB e.sh m.c) = _; rw [hs.2.1, R.sh], R.un, R.ph, fun _ => by show coresI (notB e.ak m.c) = _; rw [ha.2.1, hak], fun h => absurd (show e.ph = 2 from h) (by omega), R.wl, hs.2.2.2.2.2.1, ha.2.2.2.2.2.1⟩
        obtain ⟨hu, hul⟩ := hE.un4 (by omega) hco
        by_cases hz0 : notB e.ak m.c = 0
        · rw [if_pos hz0, if_pos (hz.1 hz0)]
          exact ⟨rfl, grant_rel RA hu, by rw [grantM_rel RA i hul], rfl⟩
        · rw [if_neg hz0, if_neg (fun h => hz0 (hz.2 h))]
          exact ⟨rfl, RA, rfl, rfl⟩
      · rw [if_neg (by simp [hm]), if_pos (show x.ph ≠ 1 ∨ m.c ∉ x.ak from .inr hm)]; exact bad
    · rw [if_neg (by simp [hp]), if_pos (show x.ph ≠ 1 ∨ m.c ∉ x.ak from .inl (by rw [← R.ph]; exact hp))]; exact bad
  rw [if_neg h4, if_neg h4, if_neg h4]
  by_cases h5 : m.k = 5
  · rw [if_pos h5, if_pos h5, if_pos h5]
    by_cases hp : e.ph = 2 ∧ e.ow = m.c
    · rw [if_pos (by simp [hp.1, hp.2]), if_neg (show ¬ (x.ph ≠ 2 ∨ x.ow ≠ m.c) from by rw [← R.ph, ← R.ow]; simp [hp.1, hp.2])]
      obtain ⟨hu, hul⟩ := hE.un4 (by omega) hco
      by_cases hk : e.un.k = 1
      · rw [if_pos hk, if_pos (show x.un.k = 1 from by rw [← R.un]; exact hk)]
        have RG : Rel (gaveS e m.c) { x with ow := -1, sh := withL x.sh m.c 4 } := ⟨rfl, by show coresI (orB e.sh m.c) = _; rw [hs.1, R.sh], R.un, R.ph, R.ak, R.asked, R.wl, hs.2.2.2.2.1, R.ba⟩
        exact ⟨rfl, grant_rel RG hu, by rw [grantM_rel RG i hul], rfl⟩
      · rw [if_neg hk, if_neg (show ¬ x.un.k = 1 from by rw [← R.un]; exact hk)]
        have RG : Rel (noOw e) { x with ow := -1 } := ⟨rfl, R.sh, R.un, R.ph, R.ak, R.asked, R.wl, R.bs, R.ba⟩
        exact ⟨rfl, grant_rel RG hu, by rw [grantM_rel RG i hul], rfl⟩
    · rw [if_neg (by simp; intro a b; exact hp ⟨a, b⟩), if_pos (show x.ph ≠ 2 ∨ x.ow ≠ m.c from by rw [← R.ph, ← R.ow]; by_cases a : e.ph = 2; exact .inr (fun b => hp ⟨a, b⟩); exact .inl a)]; exact bad
  rw [if_neg h5, if_neg h5, if_neg h5]
  by_cases h6 : m.k = 6
  · rw [if_pos h6, if_pos h6, if_pos h6]
    by_cases hp : e.ph = 2
    · obtain ⟨hk1, hk2, hk3⟩ := R.asked hp
      have hsk := set_at (s := 0) (by decide) (show 0 ≤ x.asked ∧ x.asked < 4 from ⟨hk2, hk3⟩)
      have hin : hasB e.ak m.c = decide (m.c = x.asked) := by rw [ha.2.2.1, hk1, hsk.2.2.2.2.2.2.2]; simp
      rw [hin]
      by_cases hm : m.c = x.asked
      · rw [if_pos (by simp [hp, hm]), if_neg (show ¬ (x.ph ≠ 2 ∨ x.asked ≠ m.c) from by rw [← R.ph]; simp [hp, hm])]
        obtain ⟨hu, hul⟩ := hE.un4 (by omega) hco
        have how2 := R.ow
        have RP : Rel (toPut e) { x with ph := 3 } := ⟨R.ow, R.sh, R.un, rfl, fun h => absurd (show (3 : Int) = 1 from h) (by decide), fun h => absurd (show (3 : Int) = 2 from h) (by decide), R.wl, R.bs, R.ba⟩
        by_cases hw : 0 ≤ e.ow
        · rw [if_pos hw, if_neg (show ¬ x.ow < 0 by omega)]
          exact ⟨rfl, RP, rfl, rfl⟩
        · rw [if_neg hw, if_pos (show x.ow < 0 by omega)]
          have hg := grant_rel RP hu
          have e1 : grantV { x with ph := 3 } = grantV x := by unfold grantV; dsimp only
          rw [e1] at hg
          exact ⟨rfl, hg, by rw [grantM_rel RP i hul]; rfl, rfl⟩
      · rw [if_neg (by simp [hm]), if_pos (show x.ph ≠ 2 ∨ x.asked ≠ m.c from .inr (fun h => hm h.symm))]; exact bad
    · rw [if_neg (by simp [hp]), if_pos (show x.ph ≠ 2 ∨ x.asked ≠ m.c from .inl (by rw [← R.ph]; exact hp))]; exact bad
  rw [if_neg h6, if_neg h6, if_neg h6]
  by_cases h3 : m.k = 3
  · rw [if_pos h3, if_pos h3, if_pos h3]
    by_cases ho : e.ow = m.c
    · rw [if_pos (by simp [ho]), if_neg (show ¬ x.ow ≠ m.c from by rw [← R.ow]; simp [ho])]
      have RG : Rel (noOw e) { x with ow := -1 } := ⟨rfl, R.sh, R.un, R.ph, R.ak, R.asked, R.wl, R.bs, R.ba⟩
      by_cases hp : e.ph = 3
      · rw [if_pos hp, if_pos (show x.ph = 3 from by rw [← R.ph]; exact hp)]
        obtain ⟨hu, hul⟩ := hE.un4 (by omega) hco
        exact ⟨rfl, grant_rel RG hu, by rw [grantM_rel RG i hul], rfl⟩
      · rw [if_neg hp, if_neg (show ¬ x.ph = 3 from by rw [← R.ph]; exact hp)]
        exact ⟨rfl, RG, rfl, rfl⟩
    · rw [if_neg (by simp [ho]), if_pos (show x.ow ≠ m.c from by rw [← R.ow]; exact ho)]; exact bad
  rw [if_neg h3, if_neg h3, if_neg h3]
  by_cases h7 : m.k = 7
  · rw [if_pos h7, if_pos h7]
    by_cases hp : e.ph = 4 ∧ e.un.c = m.c
    · rw [if_pos (by simp [hp.1, hp.2]), if_neg (show ¬ (x.ph ≠ 4 ∨ x.un.c ≠ m.c) from by rw [← R.ph, ← R.un]; simp [hp.1, hp.2])]
      have hwx := R.wl
      cases hw : e.wl with
      | nil =>
        rw [hw] at hwx
        rw [← hwx]
        exact ⟨rfl, ⟨R.ow, R.sh, rfl, rfl, fun h => absurd (show (0 : Int) = 1 from h) (by decide), fun h => absurd (show (0 : Int) = 2 from h) (by decide), by show e.wl = _; rw [hw], R.bs, R.ba⟩, rfl, rfl⟩
      | cons nx l =>
        rw [hw] at hwx
        rw [← hwx]
        have hnx := hE.wl nx (by rw [hw]; exact List.mem_cons_self)
        have RN : Rel (nextE e e.wt l) { x with ph := 0, un := {}, wl := l } := ⟨R.ow, R.sh, rfl, rfl, fun h => absurd (show (0 : Int) = 1 from h) (by decide), fun h => absurd (show (0 : Int) = 2 from h) (by decide), rfl, R.bs, R.ba⟩
        have hb := begin_rel RN (m := nx) ⟨hnx.2.1.1, by have := hnx.2.1.2; omega⟩ how (lineV n ws i)
        exact ⟨rfl, hb.1, hb.2, rfl⟩
    · rw [if_neg (by simp; intro a b; exact hp ⟨a, b⟩), if_pos (show x.ph ≠ 4 ∨ x.un.c ≠ m.c from by rw [← R.ph, ← R.un]; by_cases a : e.ph = 4; exact .inr (fun b => hp ⟨a, b⟩); exact .inl a)]; exact bad
  · rw [if_neg h7, if_neg (by decide), if_neg h7]; exact bad
end Go.Proofs.Ytepdhajgemmoiaa

