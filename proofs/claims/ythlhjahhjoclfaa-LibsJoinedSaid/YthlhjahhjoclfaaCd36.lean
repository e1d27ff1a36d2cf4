/- Each code is its numbers and a body, and comes to its end within its words; the plain side. -/
import Derived.Test.YthlhjahhjoclfaaCd35
namespace Go.Proofs.Ythlhjahhjoclfaa
set_option maxRecDepth 100000
open Go.RowKit

def plainB (i : Ins) : Bool := decide (0 ≤ i.a) && decide (i.a < 8) && (i.op == 2 || i.op == 4 || i.op == 9)
theorem plain_step {l : List Ins} {lo hi : Int} {Q : Mach → Prop} {n : Nat} {M R : List Int} {pc : Nat} {ins : Bool} {bg st : Nat} (hR : R.length = 8) (i : Ins) (hl : l[pc]? = some i) (hp : plainB i = true)
    (h : ∀ R' st', R'.length = 8 → Ends l lo hi Q n ⟨M, R', pc + 1, ins, bg, st', false⟩) : Ends l lo hi Q (n + 1) ⟨M, R, pc, ins, bg, st, false⟩ := by
  obtain ⟨op, a, b, c, im⟩ := i
  simp only [plainB, Bool.and_eq_true, Bool.or_eq_true, decide_eq_true_eq, beq_iff_eq] at hp
  obtain ⟨⟨h0, h1⟩, h2⟩ := hp
  rcases h2 with (rfl | rfl) | rfl
  · refine Ends.step _ hl rfl ⟨fun h => by simp [doE] at h, fun h => by simp [doE] at h, fun h => by simp [doE] at h⟩ ?_
    exact h _ _ (by simpa using hR)
  · refine Ends.step _ hl rfl ⟨fun h => by simp [doE] at h, fun h => by simp [doE] at h, fun h => by simp [doE] at h⟩ ?_
    exact h _ _ (by simpa using hR)
  · refine Ends.step _ hl rfl ⟨fun h => by simp [doE] at h, fun h => by simp [doE] at h, fun h => by simp [doE] at h⟩ ?_
    exact h _ _ (by simpa using hR)
theorem pre_ends {l pre body : List Ins} {lo hi : Int} {Q : Mach → Prop} {n : Nat} {M : List Int} {ins : Bool} {bg : Nat} (hl : l = pre ++ body) (hp : pre.all plainB = true)
    (h : ∀ R st, R.length = 8 → Ends l lo hi Q n ⟨M, R, pre.length, ins, bg, st, false⟩) :
    ∀ k, k ≤ pre.length → ∀ R st, R.length = 8 → Ends l lo hi Q (n + k) ⟨M, R, pre.length - k, ins, bg, st, false⟩ := by
  intro k
  induction k with
  | zero => intro _ R st hR; exact h R st hR
  | succ k ih =>
    intro hk R st hR
    have hlt : pre.length - (k + 1) < pre.length := by omega
    refine plain_step hR (pre[pre.length - (k + 1)]) (by rw [hl, List.getElem?_append_left hlt, List.getElem?_eq_getElem hlt]) (List.all_eq_true.1 hp _ (List.getElem_mem hlt)) ?_
    intro R' st' hR'
    have := ih (by omega) R' st' hR'
    rwa [show pre.length - (k + 1) + 1 = pre.length - k by omega]
theorem all_ends {l pre body : List Ins} {lo hi : Int} {Q : Mach → Prop} {n : Nat} {M : List Int} {ins : Bool} {bg : Nat} (hl : l = pre ++ body) (hp : pre.all plainB = true) (hn : pre.length ≤ 16)
    (h : ∀ R st, R.length = 8 → Ends l lo hi Q n ⟨M, R, pre.length, ins, bg, st, false⟩) (R : List Int) (st : Nat) (hR : R.length = 8) : Ends l lo hi Q (n + 16) ⟨M, R, 0, ins, bg, st, false⟩ := by
  have := pre_ends hl hp h pre.length (Nat.le_refl _) R st hR
  rw [Nat.sub_self] at this
  exact this.more (by omega)
theorem body_at {l pre body : List Ins} (hl : l = pre ++ body) (j : Nat) : l[pre.length + j]? = body[j]? := by
  subst hl; rw [List.getElem?_append_right (by omega), Nat.add_sub_cancel_left]


theorem hPut_split (base bk cap k v : Int) : ∃ pre : List Ins, pre.all plainB = true ∧ pre.length ≤ 16 ∧ hashPutL base bk cap k v = pre ++ hPutB pre.length base bk cap := by
  unfold hashPutL hashS
  rcases number_cases (St.none) 3 k with e | e
  · rw [e]
    rcases number_cases (((St.none).set 3 (wrap64 k))) 4 v with e | e
    · rw [e]
      exact ⟨(((((St.none).set 3 (wrap64 k))).set 4 (wrap64 v))).list, by kernel_rfl, Nat.le_of_ble_eq_true (by kernel_rfl), by kernel_rfl⟩
    · rw [e]
      exact ⟨(((((St.none).set 3 (wrap64 k))).wide 4 v)).list, by kernel_rfl, Nat.le_of_ble_eq_true (by kernel_rfl), by kernel_rfl⟩
  · rw [e]
    rcases number_cases (((St.none).wide 3 k)) 4 v with e | e
    · rw [e]
      exact ⟨(((((St.none).wide 3 k)).set 4 (wrap64 v))).list, by kernel_rfl, Nat.le_of_ble_eq_true (by kernel_rfl), by kernel_rfl⟩
    · rw [e]
      exact ⟨(((((St.none).wide 3 k)).wide 4 v)).list, by kernel_rfl, Nat.le_of_ble_eq_true (by kernel_rfl), by kernel_rfl⟩
theorem hGet_split (base bk cap k : Int) : ∃ pre : List Ins, pre.all plainB = true ∧ pre.length ≤ 16 ∧ hashGetL base bk cap k = pre ++ hGetB pre.length base bk cap := by
  unfold hashGetL hashS
  rcases number_cases (St.none) 3 k with e | e
  · rw [e]
    rcases number_cases (((St.none).set 3 (wrap64 k))) 4 0 with e | e
    · rw [e]
      exact ⟨(((((St.none).set 3 (wrap64 k))).set 4 (wrap64 0))).list, by kernel_rfl, Nat.le_of_ble_eq_true (by kernel_rfl), by kernel_rfl⟩
    · rw [e]
      exact ⟨(((((St.none).set 3 (wrap64 k))).wide 4 0)).list, by kernel_rfl, Nat.le_of_ble_eq_true (by kernel_rfl), by kernel_rfl⟩
  · rw [e]
    rcases number_cases (((St.none).wide 3 k)) 4 0 with e | e
    · rw [e]
      exact ⟨(((((St.none).wide 3 k)).set 4 (wrap64 0))).list, by kernel_rfl, Nat.le_of_ble_eq_true (by kernel_rfl), by kernel_rfl⟩
    · rw [e]
      exact ⟨(((((St.none).wide 3 k)).wide 4 0)).list, by kernel_rfl, Nat.le_of_ble_eq_true (by kernel_rfl), by kernel_rfl⟩
theorem hCut_split (base bk cap k : Int) : ∃ pre : List Ins, pre.all plainB = true ∧ pre.length ≤ 16 ∧ hashCutL base bk cap k = pre ++ hCutB pre.length base bk cap := by
  unfold hashCutL hashS
  rcases number_cases (St.none) 3 k with e | e
  · rw [e]
    rcases number_cases (((St.none).set 3 (wrap64 k))) 4 0 with e | e
    · rw [e]
      exact ⟨(((((St.none).set 3 (wrap64 k))).set 4 (wrap64 0))).list, by kernel_rfl, Nat.le_of_ble_eq_true (by kernel_rfl), by kernel_rfl⟩
    · rw [e]
      exact ⟨(((((St.none).set 3 (wrap64 k))).wide 4 0)).list, by kernel_rfl, Nat.le_of_ble_eq_true (by kernel_rfl), by kernel_rfl⟩
  · rw [e]
    rcases number_cases (((St.none).wide 3 k)) 4 0 with e | e
    · rw [e]
      exact ⟨(((((St.none).wide 3 k)).set 4 (wrap64 0))).list, by kernel_rfl, Nat.le_of_ble_eq_true (by kernel_rfl), by kernel_rfl⟩
    · rw [e]
      exact ⟨(((((St.none).wide 3 k)).wide 4 0)).list, by kernel_rfl, Nat.le_of_ble_eq_true (by kernel_rfl), by kernel_rfl⟩
theorem tPut_split (base cap k v : Int) : ∃ pre : List Ins, pre.all plainB = true ∧ pre.length ≤ 16 ∧ treePutL base cap k v = pre ++ tPutB pre.length base cap := by
  unfold treePutL treeS
  rcases number_cases (St.none) 3 k with e | e
  · rw [e]
    rcases number_cases (((St.none).set 3 (wrap64 k))) 4 v with e | e
    · rw [e]
      exact ⟨(((((St.none).set 3 (wrap64 k))).set 4 (wrap64 v))).list, by kernel_rfl, Nat.le_of_ble_eq_true (by kernel_rfl), by kernel_rfl⟩
    · rw [e]
      exact ⟨(((((St.none).set 3 (wrap64 k))).wide 4 v)).list, by kernel_rfl, Nat.le_of_ble_eq_true (by kernel_rfl), by kernel_rfl⟩
  · rw [e]
    rcases number_cases (((St.none).wide 3 k)) 4 v with e | e
    · rw [e]
      exact ⟨(((((St.none).wide 3 k)).set 4 (wrap64 v))).list, by kernel_rfl, Nat.le_of_ble_eq_true (by kernel_rfl), by kernel_rfl⟩
    · rw [e]
      exact ⟨(((((St.none).wide 3 k)).wide 4 v)).list, by kernel_rfl, Nat.le_of_ble_eq_true (by kernel_rfl), by kernel_rfl⟩
theorem tGet_split (base cap k : Int) : ∃ pre : List Ins, pre.all plainB = true ∧ pre.length ≤ 16 ∧ treeGetL base cap k = pre ++ tGetB pre.length base cap := by
  unfold treeGetL treeS
  rcases number_cases (St.none) 3 k with e | e
  · rw [e]
    rcases number_cases (((St.none).set 3 (wrap64 k))) 4 0 with e | e
    · rw [e]
      exact ⟨(((((St.none).set 3 (wrap64 k))).set 4 (wrap64 0))).list, by kernel_rfl, Nat.le_of_ble_eq_true (by kernel_rfl), by kernel_rfl⟩
    · rw [e]
      exact ⟨(((((St.none).set 3 (wrap64 k))).wide 4 0)).list, by kernel_rfl, Nat.le_of_ble_eq_true (by kernel_rfl), by kernel_rfl⟩
  · rw [e]
    rcases number_cases (((St.none).wide 3 k)) 4 0 with e | e
    · rw [e]
      exact ⟨(((((St.none).wide 3 k)).set 4 (wrap64 0))).list, by kernel_rfl, Nat.le_of_ble_eq_true (by kernel_rfl), by kernel_rfl⟩
    · rw [e]
      exact ⟨(((((St.none).wide 3 k)).wide 4 0)).list, by kernel_rfl, Nat.le_of_ble_eq_true (by kernel_rfl), by kernel_rfl⟩
theorem tCut_split (base cap k : Int) : ∃ pre : List Ins, pre.all plainB = true ∧ pre.length ≤ 16 ∧ treeCutL base cap k = pre ++ tCutB pre.length base cap := by
  unfold treeCutL treeS
  rcases number_cases (St.none) 3 k with e | e
  · rw [e]
    rcases number_cases (((St.none).set 3 (wrap64 k))) 4 0 with e | e
    · rw [e]
      exact ⟨(((((St.none).set 3 (wrap64 k))).set 4 (wrap64 0))).list, by kernel_rfl, Nat.le_of_ble_eq_true (by kernel_rfl), by kernel_rfl⟩
    · rw [e]
      exact ⟨(((((St.none).set 3 (wrap64 k))).wide 4 0)).list, by kernel_rfl, Nat.le_of_ble_eq_true (by kernel_rfl), by kernel_rfl⟩
  · rw [e]
    rcases number_cases (((St.none).wide 3 k)) 4 0 with e | e
    · rw [e]
      exact ⟨(((((St.none).wide 3 k)).set 4 (wrap64 0))).list, by kernel_rfl, Nat.le_of_ble_eq_true (by kernel_rfl), by kernel_rfl⟩
    · rw [e]
      exact ⟨(((((St.none).wide 3 k)).wide 4 0)).list, by kernel_rfl, Nat.le_of_ble_eq_true (by kernel_rfl), by kernel_rfl⟩
theorem tLeast_split (base cap : Int) : ∃ pre : List Ins, pre.all plainB = true ∧ pre.length ≤ 16 ∧ treeLeastL base cap = pre ++ tLeastB pre.length base cap := by
  unfold treeLeastL
  exact ⟨(St.none).list, by kernel_rfl, Nat.le_of_ble_eq_true (by kernel_rfl), by kernel_rfl⟩
theorem qPush_split (base cap v : Int) : ∃ pre : List Ins, pre.all plainB = true ∧ pre.length ≤ 16 ∧ queuePushL base cap v = pre ++ qPushB pre.length base cap := by
  unfold queuePushL
  rcases number_cases (St.none) 3 v with e | e
  · rw [e]
    exact ⟨(((St.none).set 3 (wrap64 v))).list, by kernel_rfl, Nat.le_of_ble_eq_true (by kernel_rfl), by kernel_rfl⟩
  · rw [e]
    exact ⟨(((St.none).wide 3 v)).list, by kernel_rfl, Nat.le_of_ble_eq_true (by kernel_rfl), by kernel_rfl⟩
theorem qPop_split (base cap : Int) : ∃ pre : List Ins, pre.all plainB = true ∧ pre.length ≤ 16 ∧ queuePopL base cap = pre ++ qPopB pre.length base cap := by
  unfold queuePopL
  exact ⟨(St.none).list, by kernel_rfl, Nat.le_of_ble_eq_true (by kernel_rfl), by kernel_rfl⟩

/-- How a library's words stand. -/
def LOk (x base bk cap : Int) (B : Nat) (M : List Int) : Prop := if x = 0 then QOk base cap M else if x = 1 then HOk base bk cap B M else TOk base cap B M
/-- A place that a library may have. -/
structure PlOk (x base bk cap : Int) : Prop where
  b0 : 0 ≤ base
  k0 : 1 ≤ bk
  k1 : bk ≤ 64
  c0 : 1 ≤ cap
  s : sizeK x bk cap = if x = 0 then 2 + cap else if x = 1 then 2 + bk + 3 * cap else 3 + 4 * cap
  top : base + sizeK x bk cap ≤ 504

theorem qPush_code {base bk cap : Int} (k v : Int) (hp : PlOk 0 base bk cap) {B : Nat} {M : List Int} (h : LOk 0 base bk cap B M) (hM : M.length = 504) (R : List Int) (hR : R.length = 8) (bg st : Nat) :
    Ends (queuePushL base cap v) base (base + sizeK 0 bk cap) (Done (queuePushL base cap v) bg (LOk 0 base bk cap (B + 1))) (14 * B + 166) ⟨M, R, 0, false, bg, st, false⟩ := by
  obtain ⟨p0, p1, p2, p3, p4, p5⟩ := hp
  have hs : sizeK 0 bk cap = 2 + cap := p4
  rw [hs] at p5 ⊢
  obtain ⟨pre, h1, h2, h3⟩ := qPush_split base cap v
  refine all_ends h3 h1 h2 (fun R st hR => ?_) R st hR
  obtain ⟨r0, r1, r2, r3, r4, r5, r6, r7, rfl⟩ := eight hR
  have hlen := congrArg List.length h3
  rw [List.length_append] at hlen

  have hb : base + (2 + cap) = base + 2 + cap := by omega
  rw [hb] at p5 ⊢
  exact (qPush_ends ⟨p0, p3, p5⟩ (show QOk base cap M from h) hM pre.length (body_at h3) hlen _ r0 r1 r2 r3 r4 r5 r6 r7 rfl false rfl bg st).more (by omega)

theorem qPop_code {base bk cap : Int} (k v : Int) (hp : PlOk 0 base bk cap) {B : Nat} {M : List Int} (h : LOk 0 base bk cap B M) (hM : M.length = 504) (R : List Int) (hR : R.length = 8) (bg st : Nat) :
    Ends (queuePopL base cap) base (base + sizeK 0 bk cap) (Done (queuePopL base cap) bg (LOk 0 base bk cap (B + 1))) (14 * B + 166) ⟨M, R, 0, false, bg, st, false⟩ := by
  obtain ⟨p0, p1, p2, p3, p4, p5⟩ := hp
  have hs : sizeK 0 bk cap = 2 + cap := p4
  rw [hs] at p5 ⊢
  obtain ⟨pre, h1, h2, h3⟩ := qPop_split base cap
  refine all_ends h3 h1 h2 (fun R st hR => ?_) R st hR
  obtain ⟨r0, r1, r2, r3, r4, r5, r6, r7, rfl⟩ := eight hR
  have hlen := congrArg List.length h3
  rw [List.length_append] at hlen

  have hb : base + (2 + cap) = base + 2 + cap := by omega
  rw [hb] at p5 ⊢
  exact (qPop_ends ⟨p0, p3, p5⟩ (show QOk base cap M from h) hM pre.length (body_at h3) hlen _ r0 r1 r2 r3 r4 r5 r6 r7 rfl false rfl bg st).more (by omega)

theorem hPut_code {base bk cap : Int} (k v : Int) (hp : PlOk 1 base bk cap) {B : Nat} {M : List Int} (h : LOk 1 base bk cap B M) (hM : M.length = 504) (R : List Int) (hR : R.length = 8) (bg st : Nat) :
    Ends (hashPutL base bk cap k v) base (base + sizeK 1 bk cap) (Done (hashPutL base bk cap k v) bg (LOk 1 base bk cap (B + 1))) (14 * B + 166) ⟨M, R, 0, false, bg, st, false⟩ := by
  obtain ⟨p0, p1, p2, p3, p4, p5⟩ := hp
  have hs : sizeK 1 bk cap = 2 + bk + 3 * cap := p4
  rw [hs] at p5 ⊢
  obtain ⟨pre, h1, h2, h3⟩ := hPut_split base bk cap k v
  refine all_ends h3 h1 h2 (fun R st hR => ?_) R st hR
  obtain ⟨r0, r1, r2, r3, r4, r5, r6, r7, rfl⟩ := eight hR
  have hlen := congrArg List.length h3
  rw [List.length_append] at hlen

  have hb : base + (2 + bk + 3 * cap) = base + 2 + bk + 3 * cap := by omega
  rw [hb] at p5 ⊢
  obtain ⟨live, fr, rk, hh⟩ : HOk base bk cap B M := h
  exact (hPut_ends ⟨p0, p1, p2, p3, p5⟩ hh hM pre.length (body_at h3) hlen _ r0 r1 r2 r3 r4 r5 r6 r7 rfl false rfl bg st).more (by omega)

theorem hGet_code {base bk cap : Int} (k v : Int) (hp : PlOk 1 base bk cap) {B : Nat} {M : List Int} (h : LOk 1 base bk cap B M) (hM : M.length = 504) (R : List Int) (hR : R.length = 8) (bg st : Nat) :
    Ends (hashGetL base bk cap k) base (base + sizeK 1 bk cap) (Done (hashGetL base bk cap k) bg (LOk 1 base bk cap (B + 1))) (14 * B + 166) ⟨M, R, 0, false, bg, st, false⟩ := by
  obtain ⟨p0, p1, p2, p3, p4, p5⟩ := hp
  have hs : sizeK 1 bk cap = 2 + bk + 3 * cap := p4
  rw [hs] at p5 ⊢
  obtain ⟨pre, h1, h2, h3⟩ := hGet_split base bk cap k
  refine all_ends h3 h1 h2 (fun R st hR => ?_) R st hR
  obtain ⟨r0, r1, r2, r3, r4, r5, r6, r7, rfl⟩ := eight hR
  have hlen := congrArg List.length h3
  rw [List.length_append] at hlen

  have hb : base + (2 + bk + 3 * cap) = base + 2 + bk + 3 * cap := by omega
  rw [hb] at p5 ⊢
  obtain ⟨live, fr, rk, hh⟩ : HOk base bk cap B M := h
  exact (hGet_ends ⟨p0, p1, p2, p3, p5⟩ hh hM pre.length (body_at h3) hlen _ r0 r1 r2 r3 r4 r5 r6 r7 rfl false rfl bg st).more (by omega)

theorem hCut_code {base bk cap : Int} (k v : Int) (hp : PlOk 1 base bk cap) {B : Nat} {M : List Int} (h : LOk 1 base bk cap B M) (hM : M.length = 504) (R : List Int) (hR : R.length = 8) (bg st : Nat) :
    Ends (hashCutL base bk cap k) base (base + sizeK 1 bk cap) (Done (hashCutL base bk cap k) bg (LOk 1 base bk cap (B + 1))) (14 * B + 166) ⟨M, R, 0, false, bg, st, false⟩ := by
  obtain ⟨p0, p1, p2, p3, p4, p5⟩ := hp
  have hs : sizeK 1 bk cap = 2 + bk + 3 * cap := p4
  rw [hs] at p5 ⊢
  obtain ⟨pre, h1, h2, h3⟩ := hCut_split base bk cap k
  refine all_ends h3 h1 h2 (fun R st hR => ?_) R st hR
  obtain ⟨r0, r1, r2, r3, r4, r5, r6, r7, rfl⟩ := eight hR
  have hlen := congrArg List.length h3
  rw [List.length_append] at hlen

  have hb : base + (2 + bk + 3 * cap) = base + 2 + bk + 3 * cap := by omega
  rw [hb] at p5 ⊢
  obtain ⟨live, fr, rk, hh⟩ : HOk base bk cap B M := h
  exact (hCut_ends ⟨p0, p1, p2, p3, p5⟩ hh hM pre.length (body_at h3) hlen _ r0 r1 r2 r3 r4 r5 r6 r7 rfl false rfl bg st).more (by omega)

theorem tPut_code {base bk cap : Int} (k v : Int) (hp : PlOk 2 base bk cap) {B : Nat} {M : List Int} (h : LOk 2 base bk cap B M) (hM : M.length = 504) (R : List Int) (hR : R.length = 8) (bg st : Nat) :
    Ends (treePutL base cap k v) base (base + sizeK 2 bk cap) (Done (treePutL base cap k v) bg (LOk 2 base bk cap (B + 1))) (14 * B + 166) ⟨M, R, 0, false, bg, st, false⟩ := by
  obtain ⟨p0, p1, p2, p3, p4, p5⟩ := hp
  have hs : sizeK 2 bk cap = 3 + 4 * cap := p4
  rw [hs] at p5 ⊢
  obtain ⟨pre, h1, h2, h3⟩ := tPut_split base cap k v
  refine all_ends h3 h1 h2 (fun R st hR => ?_) R st hR
  obtain ⟨r0, r1, r2, r3, r4, r5, r6, r7, rfl⟩ := eight hR
  have hlen := congrArg List.length h3
  rw [List.length_append] at hlen

  have hb : base + (3 + 4 * cap) = base + 3 + 4 * cap := by omega
  rw [hb] at p5 ⊢
  obtain ⟨live, fr, rk, hh⟩ : TOk base cap B M := h
  exact (tPut_ends ⟨p0, p3, p5⟩ hh hM pre.length (body_at h3) hlen _ r0 r1 r2 r3 r4 r5 r6 r7 rfl false rfl bg st).more (by omega)

theorem tGet_code {base bk cap : Int} (k v : Int) (hp : PlOk 2 base bk cap) {B : Nat} {M : List Int} (h : LOk 2 base bk cap B M) (hM : M.length = 504) (R : List Int) (hR : R.length = 8) (bg st : Nat) :
    Ends (treeGetL base cap k) base (base + sizeK 2 bk cap) (Done (treeGetL base cap k) bg (LOk 2 base bk cap (B + 1))) (14 * B + 166) ⟨M, R, 0, false, bg, st, false⟩ := by
  obtain ⟨p0, p1, p2, p3, p4, p5⟩ := hp
  have hs : sizeK 2 bk cap = 3 + 4 * cap := p4
  rw [hs] at p5 ⊢
  obtain ⟨pre, h1, h2, h3⟩ := tGet_split base cap k
  refine all_ends h3 h1 h2 (fun R st hR => ?_) R st hR
  obtain ⟨r0, r1, r2, r3, r4, r5, r6, r7, rfl⟩ := eight hR
  have hlen := congrArg List.length h3
  rw [List.length_append] at hlen

  have hb : base + (3 + 4 * cap) = base + 3 + 4 * cap := by omega
  rw [hb] at p5 ⊢
  obtain ⟨live, fr, rk, hh⟩ : TOk base cap B M := h
  exact (tGet_ends ⟨p0, p3, p5⟩ hh hM pre.length (body_at h3) hlen _ r0 r1 r2 r3 r4 r5 r6 r7 rfl false rfl bg st).more (by omega)

theorem tCut_code {base bk cap : Int} (k v : Int) (hp : PlOk 2 base bk cap) {B : Nat} {M : List Int} (h : LOk 2 base bk cap B M) (hM : M.length = 504) (R : List Int) (hR : R.length = 8) (bg st : Nat) :
    Ends (treeCutL base cap k) base (base + sizeK 2 bk cap) (Done (treeCutL base cap k) bg (LOk 2 base bk cap (B + 1))) (14 * B + 166) ⟨M, R, 0, false, bg, st, false⟩ := by
  obtain ⟨p0, p1, p2, p3, p4, p5⟩ := hp
  have hs : sizeK 2 bk cap = 3 + 4 * cap := p4
  rw [hs] at p5 ⊢
  obtain ⟨pre, h1, h2, h3⟩ := tCut_split base cap k
  refine all_ends h3 h1 h2 (fun R st hR => ?_) R st hR
  obtain ⟨r0, r1, r2, r3, r4, r5, r6, r7, rfl⟩ := eight hR
  have hlen := congrArg List.length h3
  rw [List.length_append] at hlen

  have hb : base + (3 + 4 * cap) = base + 3 + 4 * cap := by omega
  rw [hb] at p5 ⊢
  obtain ⟨live, fr, rk, hh⟩ : TOk base cap B M := h
  exact (tCut_ends ⟨p0, p3, p5⟩ hh hM pre.length (body_at h3) hlen _ r0 r1 r2 r3 r4 r5 r6 r7 rfl false rfl bg st).more (by omega)

theorem tLeast_code {base bk cap : Int} (k v : Int) (hp : PlOk 2 base bk cap) {B : Nat} {M : List Int} (h : LOk 2 base bk cap B M) (hM : M.length = 504) (R : List Int) (hR : R.length = 8) (bg st : Nat) :
    Ends (treeLeastL base cap) base (base + sizeK 2 bk cap) (Done (treeLeastL base cap) bg (LOk 2 base bk cap (B + 1))) (14 * B + 166) ⟨M, R, 0, false, bg, st, false⟩ := by
  obtain ⟨p0, p1, p2, p3, p4, p5⟩ := hp
  have hs : sizeK 2 bk cap = 3 + 4 * cap := p4
  rw [hs] at p5 ⊢
  obtain ⟨pre, h1, h2, h3⟩ := tLeast_split base cap
  refine all_ends h3 h1 h2 (fun R st hR => ?_) R st hR
  obtain ⟨r0, r1, r2, r3, r4, r5, r6, r7, rfl⟩ := eight hR
  have hlen := congrArg List.length h3
  rw [List.length_append] at hlen

  have hb : base + (3 + 4 * cap) = base + 3 + 4 * cap := by omega
  rw [hb] at p5 ⊢
  obtain ⟨live, fr, rk, hh⟩ : TOk base cap B M := h
  exact (tLeast_ends ⟨p0, p3, p5⟩ hh hM pre.length (body_at h3) hlen _ r0 r1 r2 r3 r4 r5 r6 r7 rfl false rfl bg st).more (by omega)

theorem code_ends {x c base bk cap : Int} (k v : Int) (hu : usualB x c = true) (hp : PlOk x base bk cap) {B : Nat} {M : List Int} (h : LOk x base bk cap B M) (hM : M.length = 504) (R : List Int) (hR : R.length = 8) (bg st : Nat) :
    Ends (codeL x c base bk cap k v) base (base + sizeK x bk cap) (Done (codeL x c base bk cap k v) bg (LOk x base bk cap (B + 1))) (14 * B + 166) ⟨M, R, 0, false, bg, st, false⟩ := by
  rcases usual_cases hu with ⟨rfl, rfl⟩ | ⟨rfl, rfl⟩ | ⟨rfl, rfl⟩ | ⟨rfl, rfl⟩ | ⟨rfl, rfl⟩ | ⟨rfl, rfl⟩ | ⟨rfl, rfl⟩ | ⟨rfl, rfl⟩ | ⟨rfl, rfl⟩
  · exact qPush_code k v hp h hM R hR bg st
  · exact qPop_code k v hp h hM R hR bg st
  · exact hPut_code k v hp h hM R hR bg st
  · exact hGet_code k v hp h hM R hR bg st
  · exact hCut_code k v hp h hM R hR bg st
  · exact tPut_code k v hp h hM R hR bg st
  · exact tGet_code k v hp h hM R hR bg st
  · exact tCut_code k v hp h hM R hR bg st
  · exact tLeast_code k v hp h hM R hR bg st

theorem LOk.zero {x base bk cap : Int} (hp : PlOk x base bk cap) : LOk x base bk cap 0 zeros := by
  have hz : ∀ A, mm zeros A = 0 := fun A => by
    unfold mm zeros
    rw [List.getD]
    by_cases h : A.toNat < 504
    · rw [List.getElem?_replicate, if_pos h]; rfl
    · rw [List.getElem?_replicate, if_neg h]; rfl
  unfold LOk
  split
  · have := hp.c0
    exact ⟨by rw [hz]; omega, by rw [hz]; omega, by rw [hz]; omega, by rw [hz]; omega⟩
  · split
    · refine ⟨fun _ => False, fun _ => False, fun _ => 0, ⟨⟨fun _ h => h.elim, fun _ h => h.elim, fun _ h => h.elim, fun a _ => .inl (hz a), fun _ _ h => h.elim, .inl (hz _), fun _ h => h.elim, fun a b _ _ _ h => absurd (hz a) h, fun _ _ h => h.elim, fun _ h => h.elim⟩, ⟨0, by omega, by have := hp.c0; omega, by rw [hz]; omega⟩⟩⟩
    · refine ⟨fun _ => False, fun _ => False, fun _ => 0, ⟨⟨fun _ h => h.elim, fun _ h => h.elim, fun _ h => h.elim, fun a _ => .inl (hz a), fun _ _ h => h.elim, .inl (hz _), fun _ h => h.elim, fun a b _ _ _ h => absurd (hz a) h, fun _ _ h => h.elim, fun _ h => h.elim⟩, ⟨0, by omega, by have := hp.c0; omega, by rw [hz]; omega⟩⟩⟩
theorem LOk.same {x base bk cap : Int} (hx : x = 0 ∨ x = 1 ∨ x = 2) (hp : PlOk x base bk cap) {B : Nat} {M M' : List Int} (h : LOk x base bk cap B M) (he : ∀ A, base ≤ A → A < base + sizeK x bk cap → mm M' A = mm M A) : LOk x base bk cap B M' := by
  obtain ⟨p0, p1, p2, p3, p4, p5⟩ := hp
  rcases hx with rfl | rfl | rfl
  · have hs : sizeK 0 bk cap = 2 + cap := p4
    rw [hs] at he
    obtain ⟨h1, h2, h3, h4⟩ : QOk base cap M := h
    show QOk base cap M'
    unfold QOk
    rw [he base (by omega) (by omega), he (base + 1) (by omega) (by omega)]
    exact ⟨h1, h2, h3, h4⟩
  · have hs : sizeK 1 bk cap = 2 + bk + 3 * cap := p4
    rw [hs] at he p5
    obtain ⟨live, fr, rk, ⟨q, i, i0, i1, hi⟩⟩ : HOk base bk cap B M := h
    have hr : HR base bk cap := ⟨p0, p1, p2, p3, by omega⟩
    refine (show HOk base bk cap B M' from ⟨live, fr, rk, ⟨PInv.same (hSep hr) q (fun b hb => ?_), i, i0, i1, ?_⟩⟩)
    · have := hptr hr hb
      exact he b (by omega) (by omega)
    · rw [he base (by omega) (by omega)]; exact hi
  · have hs : sizeK 2 bk cap = 3 + 4 * cap := p4
    rw [hs] at he p5
    obtain ⟨live, fr, rk, ⟨q, i, i0, i1, hi⟩⟩ : TOk base cap B M := h
    have hr : TR base cap := ⟨p0, p3, by omega⟩
    refine (show TOk base cap B M' from ⟨live, fr, rk, ⟨PInv.same (tSep hr) q (fun b hb => ?_), i, i0, i1, ?_⟩⟩)
    · have := tptr hr hb
      exact he b (by omega) (by omega)
    · rw [he (base + 1) (by omega) (by omega)]; exact hi

end Go.Proofs.Ythlhjahhjoclfaa
