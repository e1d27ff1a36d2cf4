/- SoftPoints, what it comes to: one path's step over a memory that others use. -/
import Derived.Test.YtilffolppnnkaaaSoft35
import Derived.Test.YtilffolppnnkaaaSoft18
namespace Go.Proofs.Ytilffolppnnkaaa
set_option maxRecDepth 100000
open Go.RowKit

/-- Does it write back? -/
def Ph.wr : Ph → Bool
  | .back _ => true
  | .release => true
  | _ => false
/-- Does it leave? -/
def Ph.leaves : Ph → Bool
  | .leaveN _ => true
  | .leaveCas _ _ => true
  | _ => false
/-- Is it counted ahead of being live? -/
def Ph.begun : Ph → Bool
  | .beginSeq => true
  | _ => false
def PS.counted (s : PS) : Bool := s.live || s.ph.begun
/-- What is left to be written back. -/
def PS.left (s : PS) : PL := match s.ph with
  | .back i => s.W.drop i
  | _ => []
def ToA : To → Prop
  | .fetch a => 8 ≤ a
  | .take => True
/-- All that was read is so. -/
def ReadAll (h R : PL) : Prop := ∀ q ∈ R, getH h q.1 = q.2
/-- What each place of a path says. -/
def Here (h R W : PL) (snap : Int) (live : Bool) : Ph → Prop
  | .idle => True
  | .beginN => live = false ∧ R = []
  | .beginCas _ => live = false ∧ R = []
  | .beginSeq => live = false ∧ R = []
  | .loadWord a => live = true ∧ 8 ≤ a
  | .loadSeq a u => live = true ∧ 8 ≤ a ∧ (getH h 0 = snap → getH h a = u)
  | .checkSeq to => live = true ∧ ToA to
  | .checkOne to g i => live = true ∧ ToA to ∧ g ≤ getH h 0 ∧ g % 2 = 0 ∧ (getH h 0 = g → ReadAll h (R.take i))
  | .checkEnd to g => live = true ∧ ToA to ∧ g ≤ getH h 0 ∧ g % 2 = 0 ∧ (getH h 0 = g → ReadAll h R)
  | .take => live = true
  | .back _ => live = true ∧ snap + 1 = getH h 0
  | .release => live = true ∧ snap + 1 = getH h 0
  | .leaveN _ => live = true
  | .leaveCas _ _ => live = true

/-- What a path is, beside a memory. -/
structure PI (h : PL) (s : PS) : Prop where
  lo : 0 ≤ s.snap
  sn : s.snap ≤ getH h 0
  se : s.snap % 2 = 0
  rk : ∀ q ∈ s.R, 8 ≤ q.1
  wk : ∀ q ∈ s.W, 8 ≤ q.1
  wr : s.writing = s.ph.wr
  v : s.live = true → s.ph.leaves = false → getH h 0 = s.snap → ReadAll h s.R
  at_ : Here h s.R s.W s.snap s.live s.ph

/-- A memory behind another one. -/
def Later (h h' : PL) : Prop := getH h 0 ≤ getH h' 0 ∧ (getH h' 0 % 2 = 0 → getH h' 0 = getH h 0 → ∀ a, 8 ≤ a → getH h' a = getH h a)
theorem Later.refl (h : PL) : Later h h := ⟨Int.le_refl _, fun _ _ _ _ => rfl⟩

theorem ReadAll.later {h h' R : PL} (k : ReadAll h R) (hR : ∀ q ∈ R, 8 ≤ q.1) (hs : ∀ a, 8 ≤ a → getH h' a = getH h a) : ReadAll h' R := fun q hq => by rw [hs _ (hR q hq)]; exact k q hq

theorem PI.later {h h' : PL} {s : PS} (k : PI h s) (hw : s.ph.wr = false) (hl : Later h h') : PI h' s := by
  obtain ⟨l1, l2⟩ := hl
  have hsame : ∀ g, g % 2 = 0 → g ≤ getH h 0 → getH h' 0 = g → getH h 0 = g ∧ ∀ a, 8 ≤ a → getH h' a = getH h a := fun g hg hle he => by
    have e : getH h' 0 = getH h 0 := by omega
    exact ⟨by omega, l2 (by omega) e⟩
  refine ⟨k.lo, by have := k.sn; omega, k.se, k.rk, k.wk, k.wr, fun hlv hle he => ?_, ?_⟩
  · obtain ⟨e1, e2⟩ := hsame _ k.se k.sn he
    exact (k.v hlv hle e1).later k.rk e2
  · have hat := k.at_
    cases hp : s.ph <;> rw [hp] at hat hw <;> simp only [Here] at hat ⊢ <;> try exact hat
    · refine ⟨hat.1, hat.2.1, fun he => ?_⟩
      obtain ⟨e1, e2⟩ := hsame _ k.se k.sn he
      rw [e2 _ hat.2.1]; exact hat.2.2 e1
    · obtain ⟨h1, h2, h3, h4, h5⟩ := hat
      refine ⟨h1, h2, by omega, h4, fun he => ?_⟩
      obtain ⟨e1, e2⟩ := hsame _ h4 h3 he
      exact (h5 e1).later (fun q hq => k.rk q (List.mem_of_mem_take hq)) e2
    · obtain ⟨h1, h2, h3, h4, h5⟩ := hat
      refine ⟨h1, h2, by omega, h4, fun he => ?_⟩
      obtain ⟨e1, e2⟩ := hsame _ h4 h3 he
      exact (h5 e1).later k.rk e2
    · cases hw
    · cases hw

def b01 (b : Bool) : Nat := if b then 1 else 0

/-- What a step of a path comes to. -/
structure Stepped (s : PS) (h : PL) (s' : PS) (h' : PL) : Prop where
  pi : PI h' s'
  later : Later h h'
  pts : s'.points = s.points ∨ s'.points = wrap64 (s.points + 1) ∧ ReadAll h' s'.R
  cnt : getH h' 1 + b01 s.counted = getH h 1 + b01 s'.counted
  par : getH h' 0 % 2 + b01 s.ph.wr = getH h 0 % 2 + b01 s'.ph.wr
  grow : getH h' 0 ≤ getH h 0 + 1
  lft : (s'.ph.wr = true ∧ s.ph.wr = false ∧ s'.left = s'.W ∧ ∀ a, 8 ≤ a → getH h' a = getH h a) ∨
    ((s'.ph.wr = true → s.ph.wr = true) ∧ ∀ a, 8 ≤ a → getH (backH s'.left h') a = getH (backH s.left h) a)

/-- A step that leaves memory. -/
theorem Stepped.look {s s' : PS} {h : PL} (pi : PI h s') (pts : s'.points = s.points ∨ s'.points = wrap64 (s.points + 1) ∧ ReadAll h s'.R) (hc : s'.counted = s.counted) (hw : s.ph.wr = false) (hw' : s'.ph.wr = false) : Stepped s h s' h := by
  have hl : ∀ p : PS, p.ph.wr = false → p.left = [] := fun p hp => by
    unfold PS.left; cases e : p.ph <;> rw [e] at hp <;> first | rfl | cases hp
  exact ⟨pi, Later.refl h, pts, by rw [hc], by rw [hw, hw'], by omega, .inr ⟨fun e => (by rw [hw'] at e; cases e), fun a _ => by rw [hl s hw, hl s' hw']⟩⟩

theorem mem_rdL {R : PL} {a u : Int} {q : Int × Int} (h : q ∈ rdL R a u) : q ∈ R ∨ q = (a, u) := by
  unfold rdL at h
  split at h
  · exact .inl h
  · split at h
    · exact .inl h
    · unfold putL at h
      split at h
      · exact .inl h
      · simpa using h
theorem mem_wrL {W : PL} {a v : Int} {q : Int × Int} (h : q ∈ wrL W a v) : q ∈ W ∨ q = (a, v) := by
  unfold wrL at h
  split at h
  · exact .inl h
  · split at h
    · exact (List.mem_or_eq_of_mem_set h)
    · unfold putL at h
      split at h
      · exact .inl h
      · simpa using h

theorem left_nil {s : PS} (hp : s.ph.wr = false) : s.left = [] := by
  unfold PS.left; cases e : s.ph <;> rw [e] at hp <;> first | rfl | cases hp
theorem later_cnt {h : PL} (n : Int) : Later h ((1, n) :: h) := by
  refine ⟨by rw [getH_other _ _ (by decide)]; exact Int.le_refl _, fun _ _ a ha => getH_other _ _ (by omega)⟩

theorem PI.step {s : PS} {h : PL} (k : PI h s) (ok : s.ph.ok s.R s.W) (hb : s.busy = true) (h0 : getH h 0 ≤ 900000) (h1 : 0 ≤ getH h 1 ∧ getH h 1 ≤ 100) (hc : s.counted = true → 1 ≤ getH h 1) :
    Stepped s h (stepM (s, h)).1 (stepM (s, h)).2 := by
  have hat := k.at_
  have hwr := k.wr
  cases hp : s.ph with
  | idle => unfold PS.busy at hb; rw [hp] at hb; cases hb
  | beginN =>
    rw [hp] at hat hwr
    rw [st_beginN hp]
    exact Stepped.look ⟨k.lo, k.sn, k.se, k.rk, k.wk, hwr, fun e => (by simp only at e; rw [hat.1] at e; cases e), hat⟩ (.inl rfl) (by simp [PS.counted, hp, Ph.begun]) (by rw [hp]; rfl) rfl
  | beginCas n =>
    rw [hp] at hat hwr
    by_cases hn : getH h 1 = n
    · rw [st_beginCas_yes hp hn]
      have hx : IntKind.u64.wrap (n + 1) = n + 1 := wrap_fit (by omega) (by omega)
      rw [hx]
      have e0 : getH ((1, n + 1) :: h) 0 = getH h 0 := getH_other _ _ (by decide)
      refine ⟨⟨k.lo, by simp only; rw [e0]; exact k.sn, k.se, k.rk, k.wk, hwr, fun e => (by simp only at e; rw [hat.1] at e; cases e), hat⟩, later_cnt _, .inl rfl, ?_, by rw [e0, hp]; rfl, by rw [e0]; omega, .inr ⟨fun e => (by cases e), fun a ha => ?_⟩⟩
      · rw [getH_same, hn]; simp [PS.counted, hp, Ph.begun, hat.1, b01]
      · rw [left_nil (s := s) (by rw [hp]; rfl), left_nil rfl]
        exact getH_other _ _ (by omega)
    · rw [st_beginCas_no hp hn]
      exact Stepped.look ⟨k.lo, k.sn, k.se, k.rk, k.wk, hwr, fun e => (by simp only at e; rw [hat.1] at e; cases e), hat⟩ (.inl rfl) (by simp [PS.counted, hp, Ph.begun]) (by rw [hp]; rfl) rfl
  | beginSeq =>
    rw [hp] at hat hwr
    have hlo : 0 ≤ getH h 0 := Int.le_trans k.lo k.sn
    by_cases ho : getH h 0 % 2 = 1
    · rw [st_beginSeq_odd hp ho]
      exact Stepped.look k (.inl rfl) rfl (by rw [hp]; rfl) (by rw [hp]; rfl)
    · have he : getH h 0 % 2 = 0 := by omega
      rw [st_beginSeq_even hp he]
      have hR : ReadAll h s.R := by rw [hat.2]; intro q hq; cases hq
      exact Stepped.look ⟨hlo, Int.le_refl _, he, k.rk, k.wk, hwr, fun _ _ _ => hR, trivial⟩ (.inr ⟨rfl, hR⟩) (by simp [PS.counted, hp, Ph.begun]) (by rw [hp]; rfl) rfl
  | loadWord a =>
    rw [hp] at hat hwr
    rw [st_loadWord hp]
    exact Stepped.look ⟨k.lo, k.sn, k.se, k.rk, k.wk, hwr, fun e _ he => k.v e (by rw [hp]; rfl) he, ⟨hat.1, hat.2, fun _ => rfl⟩⟩ (.inl rfl) (by simp [PS.counted, hp, Ph.begun]) (by rw [hp]; rfl) rfl
  | loadSeq a u =>
    rw [hp] at hat hwr
    obtain ⟨a1, a2, a3⟩ := hat
    by_cases hs : getH h 0 = s.snap
    · rw [st_loadSeq_eq hp hs]
      have hrk : ∀ q ∈ rdL s.R a u, 8 ≤ q.1 := fun q hq => (mem_rdL hq).elim (k.rk q) (fun e => by rw [e]; exact a2)
      have hR : ReadAll h (rdL s.R a u) := fun q hq => (mem_rdL hq).elim (k.v a1 (by rw [hp]; rfl) hs q) (fun e => by rw [e]; exact a3 hs)
      unfold PS.loaded
      by_cases hbad : badRead s.R a u = true
      · rw [if_pos hbad]
        exact Stepped.look ⟨k.lo, k.sn, k.se, hrk, k.wk, hwr, fun _ e => (by cases e), a1⟩ (.inl rfl) (by simp [PS.counted, hp, Ph.begun]) (by rw [hp]; rfl) rfl
      · rw [if_neg hbad]
        exact Stepped.look ⟨k.lo, k.sn, k.se, hrk, k.wk, hwr, fun _ _ _ => hR, trivial⟩ (.inr ⟨rfl, hR⟩) (by simp [PS.counted, hp, Ph.begun]) (by rw [hp]; rfl) rfl
    · rw [st_loadSeq_ne hp hs]
      exact Stepped.look ⟨k.lo, k.sn, k.se, k.rk, k.wk, hwr, fun e _ he => k.v e (by rw [hp]; rfl) he, ⟨a1, a2⟩⟩ (.inl rfl) (by simp [PS.counted, hp, Ph.begun]) (by rw [hp]; rfl) rfl
  | checkSeq to =>
    rw [hp] at hat hwr
    have hlo : 0 ≤ getH h 0 := Int.le_trans k.lo k.sn
    by_cases ho : getH h 0 % 2 = 1
    · rw [st_checkSeq_odd hp ho]
      exact Stepped.look k (.inl rfl) rfl (by rw [hp]; rfl) (by rw [hp]; rfl)
    · have he : getH h 0 % 2 = 0 := by omega
      rw [st_checkSeq_even hp he]
      unfold nextCheck
      by_cases hl : 0 < s.R.length
      · rw [if_pos hl]
        exact Stepped.look ⟨k.lo, k.sn, k.se, k.rk, k.wk, hwr, fun e _ he => k.v e (by rw [hp]; rfl) he, ⟨hat.1, hat.2, Int.le_refl _, he, fun _ q hq => by simp at hq⟩⟩ (.inl rfl) (by simp [PS.counted, hp, Ph.begun]) (by rw [hp]; rfl) rfl
      · rw [if_neg hl]
        have hnil : s.R = [] := List.eq_nil_iff_length_eq_zero.2 (by omega)
        exact Stepped.look ⟨k.lo, k.sn, k.se, k.rk, k.wk, hwr, fun e _ he => k.v e (by rw [hp]; rfl) he, ⟨hat.1, hat.2, Int.le_refl _, he, fun _ q hq => by simp only at hq; rw [hnil] at hq; cases hq⟩⟩ (.inl rfl) (by simp [PS.counted, hp, Ph.begun]) (by rw [hp]; rfl) rfl
  | checkOne to g i =>
    rw [hp] at hat hwr ok
    obtain ⟨a1, a2, a3, a4, a5⟩ := hat
    have hi : i < s.R.length := ok.2
    by_cases hv : getH h (s.R[i]?.getD (0, 0)).1 = (s.R[i]?.getD (0, 0)).2
    · rw [st_checkOne_yes hp hv]
      have hgi : s.R[i]?.getD (0, 0) = s.R[i] := by simp [hi]
      rw [hgi] at hv
      have hR : getH h 0 = g → ReadAll h (s.R.take (i + 1)) := fun e q hq => by
        rw [List.take_succ_eq_append_getElem hi, List.mem_append] at hq
        rcases hq with hq | hq
        · exact a5 e q hq
        · simp only [List.mem_singleton] at hq; rw [hq]; exact hv
      unfold nextCheck
      by_cases hl : i + 1 < s.R.length
      · rw [if_pos hl]
        exact Stepped.look ⟨k.lo, k.sn, k.se, k.rk, k.wk, hwr, fun e _ he => k.v e (by rw [hp]; rfl) he, ⟨a1, a2, a3, a4, hR⟩⟩ (.inl rfl) (by simp [PS.counted, hp, Ph.begun]) (by rw [hp]; rfl) rfl
      · rw [if_neg hl]
        rw [List.take_of_length_le (by omega)] at hR
        exact Stepped.look ⟨k.lo, k.sn, k.se, k.rk, k.wk, hwr, fun e _ he => k.v e (by rw [hp]; rfl) he, ⟨a1, a2, a3, a4, hR⟩⟩ (.inl rfl) (by simp [PS.counted, hp, Ph.begun]) (by rw [hp]; rfl) rfl
    · rw [st_checkOne_no hp hv]
      exact Stepped.look ⟨k.lo, k.sn, k.se, k.rk, k.wk, hwr, fun _ e => (by cases e), a1⟩ (.inl rfl) (by simp [PS.counted, hp, Ph.begun]) (by rw [hp]; rfl) rfl
  | checkEnd to g =>
    rw [hp] at hat hwr ok
    obtain ⟨a1, a2, a3, a4, a5⟩ := hat
    by_cases hv : getH h 0 = g
    · rw [st_checkEnd_yes hp hv]
      have hlo : 0 ≤ g := by have := k.lo; have := k.sn; omega
      cases to with
      | fetch a => exact Stepped.look ⟨hlo, by simp only; omega, a4, k.rk, k.wk, hwr, fun _ _ _ => a5 hv, ⟨a1, a2⟩⟩ (.inr ⟨rfl, a5 hv⟩) (by simp [PS.counted, hp, Ph.begun, To.ph]) (by rw [hp]; rfl) rfl
      | take => exact Stepped.look ⟨hlo, by simp only; omega, a4, k.rk, k.wk, hwr, fun _ _ _ => a5 hv, a1⟩ (.inr ⟨rfl, a5 hv⟩) (by simp [PS.counted, hp, Ph.begun, To.ph]) (by rw [hp]; rfl) rfl
    · rw [st_checkEnd_no hp hv]
      exact Stepped.look ⟨k.lo, k.sn, k.se, k.rk, k.wk, hwr, fun e _ he => k.v e (by rw [hp]; rfl) he, ⟨a1, a2⟩⟩ (.inl rfl) (by simp [PS.counted, hp, Ph.begun]) (by rw [hp]; rfl) rfl
  | take =>
    rw [hp] at hat hwr ok
    have hlo := k.lo
    have hse := k.se
    by_cases hv : getH h 0 = s.snap
    · rw [st_take_yes hp hv]
      have hx : IntKind.u64.wrap (s.snap + 1) = s.snap + 1 := wrap_fit (by omega) (by omega)
      rw [hx]
      have e0 : getH ((0, s.snap + 1) :: h) 0 = s.snap + 1 := getH_same _ _ _
      have ea : ∀ a, 8 ≤ a → getH ((0, s.snap + 1) :: h) a = getH h a := fun a ha => getH_other _ _ (by omega)
      refine ⟨⟨hlo, by simp only; rw [e0]; omega, hse, k.rk, k.wk, rfl, fun _ _ e => by simp only at e; rw [e0] at e; omega, ⟨hat, e0.symm⟩⟩, ⟨by rw [e0]; omega, fun e => by rw [e0] at e; omega⟩, .inr ⟨rfl, (k.v hat (by rw [hp]; rfl) hv).later k.rk ea⟩, ?_, ?_, by rw [e0]; omega, .inl ⟨rfl, by rw [hp]; rfl, rfl, ea⟩⟩
      · rw [getH_other _ _ (by decide)]; simp [PS.counted, hp, Ph.begun, hat]
      · rw [e0, hp, hv]; simp [Ph.wr, b01]; omega
    · rw [st_take_no hp hv]
      exact Stepped.look ⟨k.lo, k.sn, k.se, k.rk, k.wk, hwr, fun e _ he => k.v e (by rw [hp]; rfl) he, ⟨hat, trivial⟩⟩ (.inl rfl) (by simp [PS.counted, hp, Ph.begun]) (by rw [hp]; rfl) rfl
  | back i =>
    rw [hp] at hat hwr ok
    rw [st_back hp]
    have hi : i < s.W.length := ok
    have hgi : s.W[i]?.getD (0, 0) = s.W[i] := by simp [hi]
    rw [hgi]
    have hw8 : 8 ≤ s.W[i].1 := k.wk _ (List.getElem_mem hi)
    have e0 : getH (s.W[i] :: h) 0 = getH h 0 := getH_other (a := s.W[i].1) _ _ (by omega)
    have e1 : getH (s.W[i] :: h) 1 = getH h 1 := getH_other (a := s.W[i].1) _ _ (by omega)
    have hd : s.left = s.W[i] :: s.W.drop (i + 1) := by unfold PS.left; rw [hp]; exact List.drop_eq_getElem_cons hi
    have hodd : getH h 0 % 2 = 1 := by have := k.se; have := hat.2; omega
    by_cases hl : i + 1 < s.W.length
    · rw [if_pos hl]
      refine ⟨⟨k.lo, by simp only; rw [e0]; exact k.sn, k.se, k.rk, k.wk, hwr, fun _ _ e => by simp only at e; rw [e0] at e; have := hat.2; omega, ⟨hat.1, by rw [e0]; exact hat.2⟩⟩, ⟨by rw [e0]; exact Int.le_refl _, fun e => by rw [e0] at e; omega⟩, .inl rfl, ?_, by rw [e0, hp]; rfl, by rw [e0]; omega, .inr ⟨fun _ => by rw [hp]; rfl, fun a ha => ?_⟩⟩
      · rw [e1]; simp [PS.counted, hp, Ph.begun]
      · rw [hd]; rfl
    · rw [if_neg hl]
      refine ⟨⟨k.lo, by simp only; rw [e0]; exact k.sn, k.se, k.rk, k.wk, hwr, fun _ _ e => by simp only at e; rw [e0] at e; have := hat.2; omega, ⟨hat.1, by rw [e0]; exact hat.2⟩⟩, ⟨by rw [e0]; exact Int.le_refl _, fun e => by rw [e0] at e; omega⟩, .inl rfl, ?_, by rw [e0, hp]; rfl, by rw [e0]; omega, .inr ⟨fun _ => by rw [hp]; rfl, fun a ha => ?_⟩⟩
      · rw [e1]; simp [PS.counted, hp, Ph.begun]
      · rw [hd, List.drop_eq_nil_iff.2 (by omega)]; rfl
  | release =>
    rw [hp] at hat hwr
    rw [st_release hp]
    have hlo := k.lo
    have hse := k.se
    have h2 := hat.2
    have hx : IntKind.u64.wrap (s.snap + 2) = s.snap + 2 := wrap_fit (by omega) (by omega)
    rw [hx]
    have e0 : getH ((0, s.snap + 2) :: h) 0 = s.snap + 2 := getH_same _ _ _
    have ea : ∀ a, 8 ≤ a → getH ((0, s.snap + 2) :: h) a = getH h a := fun a ha => getH_other _ _ (by omega)
    refine ⟨⟨hlo, by simp only; rw [e0]; omega, hse, k.rk, k.wk, rfl, fun _ e => (by cases e), hat.1⟩, ⟨by rw [e0]; omega, fun _ e => by rw [e0] at e; omega⟩, .inl rfl, ?_, ?_, by rw [e0]; omega, .inr ⟨fun e => (by cases e), fun a ha => ?_⟩⟩
    · rw [getH_other _ _ (by decide)]; simp [PS.counted, hp, Ph.begun, hat.1]
    · rw [e0, hp, ← h2]; simp [Ph.wr, b01]; omega
    · rw [show s.left = [] by unfold PS.left; rw [hp]]; exact ea a ha
  | leaveN how =>
    rw [hp] at hat hwr
    rw [st_leaveN hp]
    exact Stepped.look ⟨k.lo, k.sn, k.se, k.rk, k.wk, hwr, fun _ e => (by cases e), hat⟩ (.inl rfl) (by simp [PS.counted, hp, Ph.begun]) (by rw [hp]; rfl) rfl
  | leaveCas how n =>
    rw [hp] at hat hwr
    have hat' : s.live = true := hat
    by_cases hn : getH h 1 = n
    · rw [st_leaveCas_yes hp hn]
      have hc1 := hc (by simp [PS.counted, hat'])
      have hx : IntKind.u64.wrap (n + 18446744073709551615) = n - 1 := by
        simp only [IntKind.wrap, IntKind.signed, IntKind.bits]
        show (n + 18446744073709551615) % 18446744073709551616 = n - 1
        omega
      rw [hx]
      have e0 : getH ((1, n - 1) :: h) 0 = getH h 0 := getH_other _ _ (by decide)
      refine ⟨⟨k.lo, by simp only; rw [e0]; exact k.sn, k.se, k.rk, k.wk, hwr, fun e => (by cases e), trivial⟩, later_cnt _, .inl rfl, ?_, by rw [e0, hp]; rfl, by rw [e0]; omega, .inr ⟨fun e => (by cases e), fun a ha => ?_⟩⟩
      · rw [getH_same, hn]; simp [PS.counted, Ph.begun, hat', b01]
      · rw [left_nil (s := s) (by rw [hp]; rfl), left_nil rfl]
        exact getH_other _ _ (by omega)
    · rw [st_leaveCas_no hp hn]
      exact Stepped.look ⟨k.lo, k.sn, k.se, k.rk, k.wk, hwr, fun _ e => (by cases e), hat⟩ (.inl rfl) (by simp [PS.counted, hp, Ph.begun]) (by rw [hp]; rfl) rfl

/-- A call that begins an operation. -/
theorem PI.begins {s : PS} {h : PL} (k : PI h s) (kd a v : Int) :
    PI h (s.begins kd a v 6) ∧ (s.begins kd a v 6).points = s.points ∧ (s.begins kd a v 6).counted = s.counted ∧ (s.begins kd a v 6).ph.wr = s.ph.wr ∧ (s.begins kd a v 6).left = s.left := by
  have hpl := (placeA_ok (a := a) (n := 6) (by decide) (by decide)).1
  have hidle : s.ready = true → s.ph = .idle ∧ s.live = true := fun hr => by
    unfold PS.ready at hr
    have h1 : s.busy = false ∧ s.live = true := by cases hb : s.busy <;> cases hl : s.live <;> simp [hb, hl] at hr ⊢
    exact ⟨PS.busy_idle h1.1, h1.2⟩
  unfold PS.begins
  split
  · unfold PS.begin
    by_cases hbl : (s.busy || s.live) = true
    · rw [if_pos hbl]; exact ⟨k, rfl, rfl, rfl, rfl⟩
    · rw [if_neg hbl]
      have h1 : s.busy = false ∧ s.live = false := by simpa using hbl
      have hp := PS.busy_idle h1.1
      have hw := k.wr
      rw [hp] at hw
      refine ⟨⟨k.lo, k.sn, k.se, fun q hq => (by cases hq), fun q hq => (by cases hq), hw, fun e => (by simp only at e; rw [h1.2] at e; cases e), ⟨h1.2, rfl⟩⟩, rfl, by simp [PS.counted, hp, Ph.begun], by rw [hp]; rfl, by unfold PS.left; rw [hp]⟩
  split
  · unfold PS.load
    split
    · rename_i hc
      simp only [Bool.and_eq_true] at hc
      obtain ⟨hp, hl⟩ := hidle hc.1
      have hw := k.wr
      rw [hp] at hw
      split
      · exact ⟨⟨k.lo, k.sn, k.se, k.rk, k.wk, k.wr, k.v, k.at_⟩, rfl, rfl, rfl, rfl⟩
      · exact ⟨⟨k.lo, k.sn, k.se, k.rk, k.wk, hw, fun e _ he => k.v e (by rw [hp]; rfl) he, ⟨hl, hpl⟩⟩, rfl, by simp [PS.counted, hp, Ph.begun], by rw [hp]; rfl, by unfold PS.left; rw [hp]⟩
    · exact ⟨k, rfl, rfl, rfl, rfl⟩
  split
  · unfold PS.store
    split
    · rename_i hc
      simp only [Bool.and_eq_true] at hc
      obtain ⟨hp, hl⟩ := hidle hc.1
      have hw := k.wr
      rw [hp] at hw
      split
      · refine ⟨⟨k.lo, k.sn, k.se, k.rk, fun q hq => (mem_wrL hq).elim (k.wk q) (fun e => by rw [e]; exact hpl), k.wr, k.v, ?_⟩, rfl, rfl, rfl, by unfold PS.left; simp only [hp]⟩
        simp only [hp]; trivial
      · exact ⟨⟨k.lo, k.sn, k.se, k.rk, k.wk, hw, fun _ e => (by cases e), hl⟩, rfl, by simp [PS.counted, hp, Ph.begun], by rw [hp]; rfl, by unfold PS.left; rw [hp]⟩
    · exact ⟨k, rfl, rfl, rfl, rfl⟩
  split
  · unfold PS.commit
    split
    · rename_i hc
      obtain ⟨hp, hl⟩ := hidle hc
      have hw := k.wr
      rw [hp] at hw
      split
      · exact ⟨⟨k.lo, k.sn, k.se, k.rk, k.wk, hw, fun _ e => (by cases e), hl⟩, rfl, by simp [PS.counted, hp, Ph.begun], by rw [hp]; rfl, by unfold PS.left; rw [hp]⟩
      · exact ⟨⟨k.lo, k.sn, k.se, k.rk, k.wk, hw, fun e _ he => k.v e (by rw [hp]; rfl) he, hl⟩, rfl, by simp [PS.counted, hp, Ph.begun], by rw [hp]; rfl, by unfold PS.left; rw [hp]⟩
    · exact ⟨k, rfl, rfl, rfl, rfl⟩
  split
  · unfold PS.quit
    split
    · rename_i hc
      obtain ⟨hp, hl⟩ := hidle hc
      have hw := k.wr
      rw [hp] at hw
      exact ⟨⟨k.lo, k.sn, k.se, k.rk, k.wk, hw, fun _ e => (by cases e), hl⟩, rfl, by simp [PS.counted, hp, Ph.begun], by rw [hp]; rfl, by unfold PS.left; rw [hp]⟩
    · exact ⟨k, rfl, rfl, rfl, rfl⟩
  · exact ⟨k, rfl, rfl, rfl, rfl⟩

end Go.Proofs.Ytilffolppnnkaaa
