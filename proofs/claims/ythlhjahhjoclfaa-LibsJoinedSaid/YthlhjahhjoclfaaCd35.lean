/- That codes come to their ends: trees, queues; the plain side. -/
import Derived.Test.YthlhjahhjoclfaaCd34
namespace Go.Proofs.Ythlhjahhjoclfaa
set_option maxRecDepth 100000
open Go.RowKit

/-- A tree's words. -/
def tPS (base cap : Int) : PS where
  root a := a = base
  free := base + 2
  fresh := base + 1
  node n := ∃ i, 0 ≤ i ∧ i < cap ∧ n = 4 * i + 1
  lk n a := a = n + (base + 3 - 1 + 2) ∨ a = n + (base + 3 - 1 + 3)
  nx n := n + (base + 3 - 1 + 2)
  each := 4
  top := 4 * cap
structure TR (base cap : Int) : Prop where
  b0 : 0 ≤ base
  c0 : 1 ≤ cap
  top : base + 3 + 4 * cap ≤ 504
theorem tSep {base cap : Int} (h : TR base cap) : (tPS base cap).Sep := by
  have := h.b0; have := h.c0
  refine ⟨?_, ?_, ?_, ?_, ?_, ?_⟩ <;> simp only [tPS]
  · rintro n ⟨i, h1, h2, rfl⟩; omega
  · intro n _; exact .inl trivial
  · rintro n m a ⟨i, h1, h2, rfl⟩ ⟨j, h3, h4, rfl⟩ e f; omega
  · rintro n a ⟨i, h1, h2, rfl⟩ e; omega
  · intro a h1; omega
  · omega
structure TS (base cap : Int) (M : List Int) (B : Nat) (live fr : Int → Prop) (rk : Int → Nat) : Prop where
  p : PInv (tPS base cap) (mm M) B live fr rk
  f : ∃ i, 0 ≤ i ∧ i ≤ cap ∧ mm M (base + 1) = 4 * i
def TOk (base cap : Int) (B : Nat) (M : List Int) : Prop := ∃ live fr rk, TS base cap M B live fr rk
theorem tnode {base cap : Int} {n : Int} (h : (tPS base cap).node n) : 1 ≤ n ∧ n ≤ 4 * cap - 3 := by
  obtain ⟨i, h1, h2, rfl⟩ := h; omega
theorem tLW {base cap : Int} (hr : TR base cap) {M : List Int} {B : Nat} {live fr : Int → Prop} {rk : Int → Nat} (h : PInv (tPS base cap) (mm M) B live fr rk) {a : Int} (ha : LW (tPS base cap) live a) :
    base ≤ a ∧ a < base + 3 + 4 * cap ∧ (mm M a = 0 ∨ live (mm M a)) ∧ (tPS base cap).ptr a ∧ a ≠ base + 1 ∧ a ≠ base + 2 := by
  have := hr.b0; have := hr.c0
  rcases ha with ha | ⟨m, hm, ha⟩
  · have q := h.roots a ha
    simp only [tPS] at ha
    exact ⟨by omega, by omega, q, .inl ha, by omega, by omega⟩
  · have q := h.links m a hm ha
    have w := tnode (h.lnode m hm).1
    have r := (h.lnode m hm).1
    have ha' := ha
    simp only [tPS] at ha
    exact ⟨by omega, by omega, q, .inr (.inr (.inr ⟨m, r, ha'⟩)), by omega, by omega⟩
theorem tptr {base cap : Int} (hr : TR base cap) {b : Int} (h : (tPS base cap).ptr b) : base ≤ b ∧ b < base + 3 + 4 * cap := by
  have := hr.b0; have := hr.c0
  rcases h with h | h | h | ⟨m, hm, h⟩
  · simp only [tPS] at h; omega
  · simp only [tPS] at h; omega
  · simp only [tPS] at h; omega
  · have := tnode hm; simp only [tPS] at h; omega
theorem tword {base cap : Int} (hr : TR base cap) {b n : Int} (h : (tPS base cap).ptr b) (hn : (tPS base cap).node n) : b ≠ n + (base + 3 - 1 + 0) ∧ b ≠ n + (base + 3 - 1 + 1) := by
  have := hr.b0; have := hr.c0; have := tnode hn
  rcases h with h | h | h | ⟨m, hm, h⟩
  · simp only [tPS] at h; omega
  · simp only [tPS] at h; omega
  · simp only [tPS] at h; omega
  · obtain ⟨i, h1, h2, rfl⟩ := hn
    obtain ⟨j, h3, h4, rfl⟩ := hm
    simp only [tPS] at h; omega

section
variable {l : List Ins} {Q : Mach → Prop} {base cap : Int} (hr : TR base cap) {M : List Int} {B : Nat} {live fr : Int → Prop} {rk : Int → Nat} (h : PInv (tPS base cap) (mm M) B live fr rk) (hM : M.length = 504)
include hr h hM
theorem tsearch (s tn tf N : Nat) (key v : Int) (bg : Nat)
    (g0 : l[s]? = some ⟨11, 6, 5, 0, 0⟩) (g1 : l[s + 1]? = some ⟨14, 6, 7, 0, (tn : Int)⟩) (g2 : l[s + 2]? = some ⟨11, 2, 6, 0, base + 3 - 1 + 0⟩) (g3 : l[s + 3]? = some ⟨14, 2, 3, 0, (tf : Int)⟩)
    (g4 : l[s + 4]? = some ⟨16, 3, 2, 0, ((s + 8 : Nat) : Int)⟩) (g5 : l[s + 5]? = some ⟨2, 2, 0, 0, base + 3 - 1 + 3⟩) (g6 : l[s + 6]? = some ⟨4, 5, 6, 2, 0⟩) (g7 : l[s + 7]? = some ⟨13, 0, 0, 0, (s : Int)⟩)
    (g8 : l[s + 8]? = some ⟨2, 2, 0, 0, base + 3 - 1 + 2⟩) (g9 : l[s + 9]? = some ⟨4, 5, 6, 2, 0⟩) (g10 : l[s + 10]? = some ⟨13, 0, 0, 0, (s : Int)⟩)
    (hn : ∀ a r2 st, LW (tPS base cap) live a → mm M a = 0 → Ends l base (base + 3 + 4 * cap) Q N ⟨M, [0, 0, r2, key, v, a, 0, 0], tn, true, bg, st, false⟩)
    (hf : ∀ a x r2 st, LW (tPS base cap) live a → mm M a = x → live x → Ends l base (base + 3 + 4 * cap) Q N ⟨M, [0, 0, r2, key, v, a, x, 0], tf, true, bg, st, false⟩) :
    ∀ (k : Nat) (a r2 r6 : Int) (st : Nat), LW (tPS base cap) live a → (mm M a ≠ 0 → rk (mm M a) < k) → Ends l base (base + 3 + 4 * cap) Q (N + 8 * k + 4) ⟨M, [0, 0, r2, key, v, a, r6, 0], s, true, bg, st, false⟩ := by
  have hb0 := hr.b0; have hc0 := hr.c0; have htop := hr.top
  have hR : Rm M base (base + 3 + 4 * cap) := ⟨hr.b0, hr.top, hM⟩
  intro k
  induction k with
  | zero =>
    intro a r2 r6 st ha hk
    have q := tLW hr h ha
    have e0 : mm M a = 0 := Classical.byContradiction fun e => absurd (hk e) (by omega)
    refine st_ld a a 0 [0, 0, r2, key, v, a, 0, 0] 6 5 0 0 g0 hR rfl (by omega) (by omega) (by omega) (by omega) (by omega) e0 rfl ?_
    refine st_eq 0 0 tn 6 7 0 g1 rfl rfl (fun _ => ?_) (fun e => absurd rfl e)
    exact (hn a r2 _ ha e0).more (by omega)
  | succ k ih =>
    intro a r2 r6 st ha hk
    have q := tLW hr h ha
    obtain ⟨x, hx⟩ : ∃ x, mm M a = x := ⟨_, rfl⟩
    rw [hx] at q hk
    rw [show N + 8 * (k + 1) + 4 = (N + 8 * k + 4 + 6) + 1 + 1 by omega]
    refine st_ld a a x [0, 0, r2, key, v, a, x, 0] 6 5 0 0 g0 hR rfl (by omega) (by omega) (by omega) (by omega) (by omega) hx rfl ?_
    refine st_eq x 0 tn 6 7 0 g1 rfl rfl (fun e => ?_) (fun e => ?_)
    · subst e; exact (hn a r2 _ ha hx).more (by omega)
    · have hlx : live x := q.2.2.1.resolve_left e
      have hnx := tnode (h.lnode x hlx).1
      refine st_ld (x + (base + 3 - 1 + 0)) x _ [0, 0, mm M (x + (base + 3 - 1 + 0)), key, v, a, x, 0] 2 6 0 _ g2 hR rfl (by omega) (by omega) (by omega) (by omega) (by omega) rfl rfl ?_
      refine st_eq _ key tf 2 3 0 g3 rfl rfl (fun e2 => ?_) (fun e2 => ?_)
      · exact (hf a x _ _ ha hx hlx).more (by omega)
      · refine st_lt _ _ (s + 8) 3 2 0 g4 rfl rfl (fun e4 => ?_) (fun e4 => ?_)
        · refine st_set (base + 3 - 1 + 2) [0, 0, base + 3 - 1 + 2, key, v, a, x, 0] 2 0 0 _ g8 (u64_in (by omega) (by omega)) rfl ?_
          refine st_add (x + (base + 3 - 1 + 2)) x (base + 3 - 1 + 2) [0, 0, base + 3 - 1 + 2, key, v, x + (base + 3 - 1 + 2), x, 0] 5 6 2 0 g9 rfl rfl (u64_in (by omega) (by omega)) rfl ?_
          refine st_jump s 0 0 0 g10 ?_
          refine (ih _ _ _ _ (.inr ⟨x, hlx, .inl rfl⟩) (fun e3 => ?_)).more (by omega)
          have h1 := h.rank x (x + (base + 3 - 1 + 2)) hlx (.inl rfl) e3
          have h2 := hk e
          omega
        · refine st_set (base + 3 - 1 + 3) [0, 0, base + 3 - 1 + 3, key, v, a, x, 0] 2 0 0 _ g5 (u64_in (by omega) (by omega)) rfl ?_
          refine st_add (x + (base + 3 - 1 + 3)) x (base + 3 - 1 + 3) [0, 0, base + 3 - 1 + 3, key, v, x + (base + 3 - 1 + 3), x, 0] 5 6 2 0 g6 rfl rfl (u64_in (by omega) (by omega)) rfl ?_
          refine st_jump s 0 0 0 g7 ?_
          refine (ih _ _ _ _ (.inr ⟨x, hlx, .inr rfl⟩) (fun e3 => ?_)).more (by omega)
          have h1 := h.rank x (x + (base + 3 - 1 + 3)) hlx (.inr rfl) e3
          have h2 := hk e
          omega
theorem tdown (s tn N : Nat) (bg : Nat) (r1 a x : Int)
    (g0 : l[s]? = some ⟨11, 3, 4, 0, 0⟩) (g1 : l[s + 1]? = some ⟨11, 2, 3, 0, base + 3 - 1 + 2⟩) (g2 : l[s + 2]? = some ⟨14, 2, 7, 0, (tn : Int)⟩) (g3 : l[s + 3]? = some ⟨2, 2, 0, 0, base + 3 - 1 + 2⟩)
    (g4 : l[s + 4]? = some ⟨4, 4, 3, 2, 0⟩) (g5 : l[s + 5]? = some ⟨13, 0, 0, 0, (s : Int)⟩)
    (hn : ∀ b y st, LW (tPS base cap) live b → mm M b = y → live y → Ends l base (base + 3 + 4 * cap) Q N ⟨M, [0, r1, 0, y, b, a, x, 0], tn, true, bg, st, false⟩) :
    ∀ (k : Nat) (b r2 r3 : Int) (st : Nat), LW (tPS base cap) live b → mm M b ≠ 0 → rk (mm M b) < k → Ends l base (base + 3 + 4 * cap) Q (N + 6 * k + 4) ⟨M, [0, r1, r2, r3, b, a, x, 0], s, true, bg, st, false⟩ := by
  have hb0 := hr.b0; have hc0 := hr.c0; have htop := hr.top
  have hR : Rm M base (base + 3 + 4 * cap) := ⟨hr.b0, hr.top, hM⟩
  intro k
  induction k with
  | zero => intro b r2 r3 st _ _ hk; omega
  | succ k ih =>
    intro b r2 r3 st hb hz hk
    have q := tLW hr h hb
    obtain ⟨y, hy⟩ : ∃ y, mm M b = y := ⟨_, rfl⟩
    rw [hy] at q hk hz
    have hly : live y := q.2.2.1.resolve_left hz
    have hny := tnode (h.lnode y hly).1
    rw [show N + 6 * (k + 1) + 4 = (N + 6 * k + 4 + 3) + 1 + 1 + 1 by omega]
    refine st_ld b b y [0, r1, r2, y, b, a, x, 0] 3 4 0 0 g0 hR rfl (by omega) (by omega) (by omega) (by omega) (by omega) hy rfl ?_
    obtain ⟨z, hz2⟩ : ∃ z, mm M (y + (base + 3 - 1 + 2)) = z := ⟨_, rfl⟩
    refine st_ld (y + (base + 3 - 1 + 2)) y z [0, r1, z, y, b, a, x, 0] 2 3 0 _ g1 hR rfl (by omega) (by omega) (by omega) (by omega) (by omega) hz2 rfl ?_
    refine st_eq z 0 tn 2 7 0 g2 rfl rfl (fun e => ?_) (fun e => ?_)
    · subst e; exact (hn b y _ hb hy hly).more (by omega)
    · refine st_set (base + 3 - 1 + 2) [0, r1, base + 3 - 1 + 2, y, b, a, x, 0] 2 0 0 _ g3 (u64_in (by omega) (by omega)) rfl ?_
      refine st_add (y + (base + 3 - 1 + 2)) y (base + 3 - 1 + 2) [0, r1, base + 3 - 1 + 2, y, y + (base + 3 - 1 + 2), a, x, 0] 4 3 2 0 g4 rfl rfl (u64_in (by omega) (by omega)) rfl ?_
      refine st_jump s 0 0 0 g5 ?_
      have h1 := h.rank y (y + (base + 3 - 1 + 2)) hly (.inl rfl) (by rw [hz2]; exact e)
      exact ih _ _ _ _ (.inr ⟨y, hly, .inl rfl⟩) (by rw [hz2]; exact e) (by omega)
theorem tleast (s tn N : Nat) (bg : Nat) (r3 r4 : Int)
    (g0 : l[s]? = some ⟨11, 5, 6, 0, base + 3 - 1 + 2⟩) (g1 : l[s + 1]? = some ⟨14, 5, 7, 0, (tn : Int)⟩) (g2 : l[s + 2]? = some ⟨3, 6, 5, 0, 0⟩) (g3 : l[s + 3]? = some ⟨13, 0, 0, 0, (s : Int)⟩)
    (hn : ∀ y st, live y → Ends l base (base + 3 + 4 * cap) Q N ⟨M, [0, 0, 0, r3, r4, 0, y, 0], tn, true, bg, st, false⟩) :
    ∀ (k : Nat) (y r5 : Int) (st : Nat), live y → rk y < k → Ends l base (base + 3 + 4 * cap) Q (N + 4 * k + 4) ⟨M, [0, 0, 0, r3, r4, r5, y, 0], s, true, bg, st, false⟩ := by
  have hb0 := hr.b0; have hc0 := hr.c0; have htop := hr.top
  have hR : Rm M base (base + 3 + 4 * cap) := ⟨hr.b0, hr.top, hM⟩
  intro k
  induction k with
  | zero => intro y r5 st _ hk; omega
  | succ k ih =>
    intro y r5 st hly hk
    have hny := tnode (h.lnode y hly).1
    rw [show N + 4 * (k + 1) + 4 = (N + 4 * k + 4 + 2) + 1 + 1 by omega]
    obtain ⟨z, hz⟩ : ∃ z, mm M (y + (base + 3 - 1 + 2)) = z := ⟨_, rfl⟩
    have q := h.links y (y + (base + 3 - 1 + 2)) hly (.inl rfl)
    refine st_ld (y + (base + 3 - 1 + 2)) y z [0, 0, 0, r3, r4, z, y, 0] 5 6 0 _ g0 hR rfl (by omega) (by omega) (by omega) (by omega) (by omega) hz rfl ?_
    refine st_eq z 0 tn 5 7 0 g1 rfl rfl (fun e => ?_) (fun e => ?_)
    · subst e; exact (hn y _ hly).more (by omega)
    · refine st_mov z [0, 0, 0, r3, r4, z, z, 0] 6 5 0 0 g2 rfl rfl ?_
      refine st_jump s 0 0 0 g3 ?_
      rw [hz] at q
      have h1 := h.rank y (y + (base + 3 - 1 + 2)) hly (.inl rfl) (by rw [hz]; exact e)
      rw [hz] at h1
      exact ih z z _ (q.resolve_left e) (by omega)
end
theorem tGet_ends {l : List Ins} {base cap : Int} (hr : TR base cap) {M : List Int} {B : Nat} {live fr : Int → Prop} {rk : Int → Nat} (h : TS base cap M B live fr rk) (hM : M.length = 504) (P : Nat) (hl : ∀ j, l[P + j]? = (tGetB P base cap)[j]?) (hlen : l.length = P + 21) (R : List Int) (r0 r1 r2 k v r5 r6 r7 : Int) (hRg : R = [r0, r1, r2, k, v, r5, r6, r7]) (ins : Bool) (hin : ins = false) (bg st : Nat) :
    Ends l base (base + 3 + 4 * cap) (Done l bg (TOk base cap (B + 1))) (8 * B + 70) ⟨M, R, P, ins, bg, st, false⟩ := by
  subst hRg
  have hb0 := hr.b0; have hc0 := hr.c0; have htop := hr.top
  have hR : Rm M base (base + 3 + 4 * cap) := ⟨hr.b0, hr.top, hM⟩
  have hS := tSep hr
  refine st_set (0) [0, r1, r2, k, v, r5, r6, r7] 0 0 0 _ (hl 0) (u64_in (by omega) (by omega)) rfl ?_
  refine st_set (0) [0, 0, r2, k, v, r5, r6, r7] 1 0 0 _ (hl 1) (u64_in (by omega) (by omega)) rfl ?_
  refine st_set (0) [0, 0, 0, k, v, r5, r6, r7] 2 0 0 _ (hl 2) (u64_in (by omega) (by omega)) rfl ?_
  refine st_set (0) [0, 0, 0, k, v, r5, r6, 0] 7 0 0 _ (hl 3) (u64_in (by omega) (by omega)) rfl ?_
  refine Ends.beg 0 0 0 0 (hl 4) hin ?_
  refine st_set (base) [0, 0, 0, k, v, base, r6, 0] 5 0 0 _ (hl 5) (u64_in (by omega) (by omega)) rfl ?_
  have hlw : LW (tPS base cap) live base := .inl rfl
  have hrk : mm M base ≠ 0 → rk (mm M base) < B + 1 := fun e => by
    have := h.p.bound _ (((tLW hr h.p hlw).2.2.1).resolve_left e); omega
  refine (tsearch hr h.p hM (P + 6) (P + 19) (P + 17) 30 k v (bg + 1) (hl 6) (hl 7) (hl 8) (hl 9) (hl 10) (hl 11) (hl 12) (hl 13) (hl 14) (hl 15) (hl 16) ?_ ?_ (B + 1) _ _ _ _ hlw hrk).more (by omega)
  · intro a r2 st hlw h0
    refine st_set (0) [0, 0, 0, k, v, a, 0, 0] 2 0 0 _ (hl 19) (u64_in (by omega) (by omega)) rfl ?_
    refine Ends.fin 0 0 0 0 (hl 20) rfl ?_
    exact Ends.now ⟨by show P + 21 = _; rw [hlen], rfl, rfl, rfl, hR.len, ⟨live, fr, rk, ⟨h.p.up, h.f⟩⟩⟩
  · intro a x r2 st hlw hax hlx
    have hx := tnode (h.p.lnode x hlx).1
    refine st_ld (x + (base + 3 - 1 + 1)) (x) (mm M (x + (base + 3 - 1 + 1))) [0, mm M (x + (base + 3 - 1 + 1)), r2, k, v, a, x, 0] 1 6 0 _ (hl 17) hR rfl (by omega) (by omega) (by omega) (by omega) (by omega) rfl rfl ?_
    refine st_set (1) [1, mm M (x + (base + 3 - 1 + 1)), r2, k, v, a, x, 0] 0 0 0 _ (hl 18) (u64_in (by omega) (by omega)) rfl ?_
    refine st_set (0) [1, mm M (x + (base + 3 - 1 + 1)), 0, k, v, a, x, 0] 2 0 0 _ (hl 19) (u64_in (by omega) (by omega)) rfl ?_
    refine Ends.fin 0 0 0 0 (hl 20) rfl ?_
    exact Ends.now ⟨by show P + 21 = _; rw [hlen], rfl, rfl, rfl, hR.len, ⟨live, fr, rk, ⟨h.p.up, h.f⟩⟩⟩

theorem tPut_ends {l : List Ins} {base cap : Int} (hr : TR base cap) {M : List Int} {B : Nat} {live fr : Int → Prop} {rk : Int → Nat} (h : TS base cap M B live fr rk) (hM : M.length = 504) (P : Nat) (hl : ∀ j, l[P + j]? = (tPutB P base cap)[j]?) (hlen : l.length = P + 42) (R : List Int) (r0 r1 r2 k v r5 r6 r7 : Int) (hRg : R = [r0, r1, r2, k, v, r5, r6, r7]) (ins : Bool) (hin : ins = false) (bg st : Nat) :
    Ends l base (base + 3 + 4 * cap) (Done l bg (TOk base cap (B + 1))) (8 * B + 80) ⟨M, R, P, ins, bg, st, false⟩ := by
  subst hRg
  have hb0 := hr.b0; have hc0 := hr.c0; have htop := hr.top
  have hR : Rm M base (base + 3 + 4 * cap) := ⟨hr.b0, hr.top, hM⟩
  have hS := tSep hr
  refine st_set (0) [0, r1, r2, k, v, r5, r6, r7] 0 0 0 _ (hl 0) (u64_in (by omega) (by omega)) rfl ?_
  refine st_set (0) [0, 0, r2, k, v, r5, r6, r7] 1 0 0 _ (hl 1) (u64_in (by omega) (by omega)) rfl ?_
  refine st_set (0) [0, 0, 0, k, v, r5, r6, r7] 2 0 0 _ (hl 2) (u64_in (by omega) (by omega)) rfl ?_
  refine st_set (0) [0, 0, 0, k, v, r5, r6, 0] 7 0 0 _ (hl 3) (u64_in (by omega) (by omega)) rfl ?_
  refine Ends.beg 0 0 0 0 (hl 4) hin ?_
  refine st_set (base) [0, 0, 0, k, v, base, r6, 0] 5 0 0 _ (hl 5) (u64_in (by omega) (by omega)) rfl ?_
  have hlw : LW (tPS base cap) live base := .inl rfl
  have hrk : mm M base ≠ 0 → rk (mm M base) < B + 1 := fun e => by
    have := h.p.bound _ (((tLW hr h.p hlw).2.2.1).resolve_left e); omega
  refine (tsearch hr h.p hM (P + 6) (P + 21) (P + 17) 40 k v (bg + 1) (hl 6) (hl 7) (hl 8) (hl 9) (hl 10) (hl 11) (hl 12) (hl 13) (hl 14) (hl 15) (hl 16) ?_ ?_ (B + 1) _ _ _ _ hlw hrk).more (by omega)
  · intro a r2 st hlw h0
    have ha := tLW hr h.p hlw
    obtain ⟨i, i0, i1, hi⟩ := h.f
    obtain ⟨g, hg⟩ : ∃ zz, mm M (base + 2) = zz := ⟨_, rfl⟩
    refine st_ld (base + 2) (0) (g) [0, 0, r2, k, v, a, g, 0] 6 7 0 _ (hl 21) hR rfl (by omega) (by omega) (by omega) (by omega) (by omega) hg rfl ?_
    refine st_ne (g) (0) (P + 32) 6 7 0 (hl 22) rfl rfl (fun e => ?_) (fun e => ?_)
    · have hfr : fr g := (hg ▸ h.p.freeh).resolve_left e
      obtain ⟨n, hn⟩ : ∃ n, n = g := ⟨_, rfl⟩
      rw [← hn] at e hg hfr ⊢
      have hnn := (h.p.fnode n hfr).1
      have hnl : ¬ live n := fun q => h.p.disj n q hfr
      have hn : mm M (base + 2) = n := hg
      have han : a ≠ n + (base + 3 - 1 + 2) ∧ a ≠ n + (base + 3 - 1 + 3) := by
        have w : ¬ (tPS base cap).lk n a := fun e => by
          rcases hlw with q | ⟨m, hm, q⟩
          · exact (hS.lkf n a hnn e).2.2 q
          · exact hnl (hS.one n m a hnn (h.p.lnode m hm).1 e q ▸ hm)
        exact ⟨fun e => w (.inl e), fun e => w (.inr e)⟩
      have haw := tword hr ha.2.2.2.1 hnn
      have hnb := tnode hnn
      obtain ⟨d, hd⟩ : ∃ zz, mm M (n + (base + 3 - 1 + 2)) = zz := ⟨_, rfl⟩
      refine st_ld (n + (base + 3 - 1 + 2)) (n) (d) [0, 0, d, k, v, a, n, 0] 2 6 0 _ (hl 32) hR rfl (by omega) (by omega) (by omega) (by omega) (by omega) hd rfl ?_
      obtain ⟨M1, hM1⟩ : ∃ zz, M.set (base + 2 : Int).toNat (d) = zz := ⟨_, rfl⟩
      refine st_st (base + 2) (0) (d) M1 2 7 0 _ (hl 33) hR rfl (by omega) (by omega) (by omega) (by omega) (by omega) rfl hM1 ?_
      have hRM1 : Rm M1 _ _ := hM1 ▸ hR.set _ _
      have gM1 : ∀ B, 0 ≤ B → mm M1 B = if B = base + 2 then d else mm M B := fun B hB => by rw [← hM1]; exact mm_set hR.len _ (by omega) (by omega) hB
      obtain ⟨M2, hM2⟩ : ∃ zz, M1.set (n + (base + 3 - 1 + 0) : Int).toNat (k) = zz := ⟨_, rfl⟩
      refine st_st (n + (base + 3 - 1 + 0)) (n) (k) M2 3 6 0 _ (hl 34) hRM1 rfl (by omega) (by omega) (by omega) (by omega) (by omega) rfl hM2 ?_
      have hRM2 : Rm M2 _ _ := hM2 ▸ hRM1.set _ _
      have gM2 : ∀ B, 0 ≤ B → mm M2 B = if B = n + (base + 3 - 1 + 0) then k else mm M1 B := fun B hB => by rw [← hM2]; exact mm_set hRM1.len _ (by omega) (by omega) hB
      obtain ⟨M3, hM3⟩ : ∃ zz, M2.set (n + (base + 3 - 1 + 1) : Int).toNat (v) = zz := ⟨_, rfl⟩
      refine st_st (n + (base + 3 - 1 + 1)) (n) (v) M3 4 6 0 _ (hl 35) hRM2 rfl (by omega) (by omega) (by omega) (by omega) (by omega) rfl hM3 ?_
      have hRM3 : Rm M3 _ _ := hM3 ▸ hRM2.set _ _
      have gM3 : ∀ B, 0 ≤ B → mm M3 B = if B = n + (base + 3 - 1 + 1) then v else mm M2 B := fun B hB => by rw [← hM3]; exact mm_set hRM2.len _ (by omega) (by omega) hB
      obtain ⟨M4, hM4⟩ : ∃ zz, M3.set (n + (base + 3 - 1 + 2) : Int).toNat (0) = zz := ⟨_, rfl⟩
      refine st_st (n + (base + 3 - 1 + 2)) (n) (0) M4 7 6 0 _ (hl 36) hRM3 rfl (by omega) (by omega) (by omega) (by omega) (by omega) rfl hM4 ?_
      have hRM4 : Rm M4 _ _ := hM4 ▸ hRM3.set _ _
      have gM4 : ∀ B, 0 ≤ B → mm M4 B = if B = n + (base + 3 - 1 + 2) then 0 else mm M3 B := fun B hB => by rw [← hM4]; exact mm_set hRM3.len _ (by omega) (by omega) hB
      obtain ⟨M5, hM5⟩ : ∃ zz, M4.set (n + (base + 3 - 1 + 3) : Int).toNat (0) = zz := ⟨_, rfl⟩
      refine st_st (n + (base + 3 - 1 + 3)) (n) (0) M5 7 6 0 _ (hl 37) hRM4 rfl (by omega) (by omega) (by omega) (by omega) (by omega) rfl hM5 ?_
      have hRM5 : Rm M5 _ _ := hM5 ▸ hRM4.set _ _
      have gM5 : ∀ B, 0 ≤ B → mm M5 B = if B = n + (base + 3 - 1 + 3) then 0 else mm M4 B := fun B hB => by rw [← hM5]; exact mm_set hRM4.len _ (by omega) (by omega) hB
      obtain ⟨M6, hM6⟩ : ∃ zz, M5.set (a : Int).toNat (n) = zz := ⟨_, rfl⟩
      refine st_st (a) (a) (n) M6 6 5 0 _ (hl 38) hRM5 rfl (by omega) (by omega) (by omega) (by omega) (by omega) rfl hM6 ?_
      have hRM6 : Rm M6 _ _ := hM6 ▸ hRM5.set _ _
      have gM6 : ∀ B, 0 ≤ B → mm M6 B = if B = a then n else mm M5 B := fun B hB => by rw [← hM6]; exact mm_set hRM5.len _ (by omega) (by omega) hB
      refine st_set (1) [1, 0, d, k, v, a, n, 0] 0 0 0 _ (hl 39) (u64_in (by omega) (by omega)) rfl ?_
      have hinv : TOk base cap (B + 1) M6 := by
        refine ⟨_, _, _, ⟨putFree hS h.p a n hn (by omega) hlw h0 ?_ ?_ ?_ ?_, ?_⟩⟩
        · show mm M6 (base + 2) = mm M (n + (base + 3 - 1 + 2))
          rw [gM6 _ (by omega), gM5 _ (by omega), gM4 _ (by omega), gM3 _ (by omega), gM2 _ (by omega), gM1 _ (by omega), if_neg (by omega), if_neg (by omega), if_neg (by omega), if_neg (by omega), if_neg (by omega), if_pos rfl, hd]
        · rw [gM6 _ (by omega), if_pos rfl]
        · intro b hb
          have hb : b = n + (base + 3 - 1 + 2) ∨ b = n + (base + 3 - 1 + 3) := hb
          rcases hb with rfl | rfl
          · rw [gM6 _ (by omega), gM5 _ (by omega), gM4 _ (by omega), if_neg (Ne.symm han.1), if_neg (by omega), if_pos rfl]
          · rw [gM6 _ (by omega), gM5 _ (by omega), if_neg (Ne.symm han.2), if_pos rfl]
        · intro b hb hb1 hb2 hb3
          have hbb := tptr hr hb
          have hb1 : b ≠ base + 2 := hb1
          have hb3 : ¬ (b = n + (base + 3 - 1 + 2) ∨ b = n + (base + 3 - 1 + 3)) := hb3
          have hb4 := tword hr hb hnn
          rw [gM6 _ (by omega), gM5 _ (by omega), gM4 _ (by omega), gM3 _ (by omega), gM2 _ (by omega), gM1 _ (by omega), if_neg hb2, if_neg (fun e => hb3 (.inr e)), if_neg (fun e => hb3 (.inl e)), if_neg hb4.2, if_neg hb4.1, if_neg hb1]
        · exact ⟨i, i0, i1, by rw [gM6 _ (by omega), gM5 _ (by omega), gM4 _ (by omega), gM3 _ (by omega), gM2 _ (by omega), gM1 _ (by omega), if_neg (by omega), if_neg (by omega), if_neg (by omega), if_neg (by omega), if_neg (by omega), if_neg (by omega), hi]⟩
      refine st_set (0) [1, 0, 0, k, v, a, n, 0] 2 0 0 _ (hl 40) (u64_in (by omega) (by omega)) rfl ?_
      refine Ends.fin 0 0 0 0 (hl 41) rfl ?_
      exact Ends.now ⟨by show P + 42 = _; rw [hlen], rfl, rfl, rfl, hRM6.len, hinv⟩
    · obtain ⟨y, hy⟩ : ∃ zz, mm M (base + 1) = zz := ⟨_, rfl⟩
      refine st_ld (base + 1) (0) (y) [0, 0, r2, k, v, a, y, 0] 6 7 0 _ (hl 23) hR rfl (by omega) (by omega) (by omega) (by omega) (by omega) hy rfl ?_
      rw [hi] at hy
      refine st_set (4 * cap) [0, 0, 4 * cap, k, v, a, y, 0] 2 0 0 _ (hl 24) (u64_in (by omega) (by omega)) rfl ?_
      refine st_eq (y) (4 * cap) (P + 40) 6 2 0 (hl 25) rfl rfl (fun e2 => ?_) (fun e2 => ?_)
      · refine st_set (0) [0, 0, 0, k, v, a, y, 0] 2 0 0 _ (hl 40) (u64_in (by omega) (by omega)) rfl ?_
        refine Ends.fin 0 0 0 0 (hl 41) rfl ?_
        exact Ends.now ⟨by show P + 42 = _; rw [hlen], rfl, rfl, rfl, hR.len, ⟨live, fr, rk, ⟨h.p.up, h.f⟩⟩⟩
      · have hic : i < cap := by omega
        obtain ⟨n, hn⟩ : ∃ n, n = y + 1 := ⟨_, rfl⟩
        have hnn : (tPS base cap).node n := ⟨i, i0, hic, by omega⟩
        have hfy : mm M (tPS base cap).fresh = y := by show mm M (base + 1) = y; omega
        have hnl : ¬ live n := fun q => by have := (h.p.lnode n q).2; omega
        have han : a ≠ n + (base + 3 - 1 + 2) ∧ a ≠ n + (base + 3 - 1 + 3) := by
          have w : ¬ (tPS base cap).lk n a := fun e => by
            rcases hlw with q | ⟨m, hm, q⟩
            · exact (hS.lkf n a hnn e).2.2 q
            · exact hnl (hS.one n m a hnn (h.p.lnode m hm).1 e q ▸ hm)
          exact ⟨fun e => w (.inl e), fun e => w (.inr e)⟩
        have haw := tword hr ha.2.2.2.1 hnn
        have hnb := tnode hnn
        refine st_set (4) [0, 0, 4, k, v, a, y, 0] 2 0 0 _ (hl 26) (u64_in (by omega) (by omega)) rfl ?_
        refine st_add (y + 4) (y) (4) [0, 0, y + 4, k, v, a, y, 0] 2 6 2 0 (hl 27) rfl rfl (by rw [u64_in (by omega) (by omega)] <;> omega) rfl ?_
        obtain ⟨M1, hM1⟩ : ∃ zz, M.set (base + 1 : Int).toNat (y + 4) = zz := ⟨_, rfl⟩
        refine st_st (base + 1) (0) (y + 4) M1 2 7 0 _ (hl 28) hR rfl (by omega) (by omega) (by omega) (by omega) (by omega) rfl hM1 ?_
        have hRM1 : Rm M1 _ _ := hM1 ▸ hR.set _ _
        have gM1 : ∀ B, 0 ≤ B → mm M1 B = if B = base + 1 then y + 4 else mm M B := fun B hB => by rw [← hM1]; exact mm_set hR.len _ (by omega) (by omega) hB
        refine st_set (1) [0, 0, 1, k, v, a, y, 0] 2 0 0 _ (hl 29) (u64_in (by omega) (by omega)) rfl ?_
        refine st_add (n) (y) (1) [0, 0, 1, k, v, a, n, 0] 6 6 2 0 (hl 30) rfl rfl (by rw [u64_in (by omega) (by omega)] <;> omega) rfl ?_
        refine st_jump (P + 34) 0 0 0 (hl 31) ?_
        obtain ⟨M2, hM2⟩ : ∃ zz, M1.set (n + (base + 3 - 1 + 0) : Int).toNat (k) = zz := ⟨_, rfl⟩
        refine st_st (n + (base + 3 - 1 + 0)) (n) (k) M2 3 6 0 _ (hl 34) hRM1 rfl (by omega) (by omega) (by omega) (by omega) (by omega) rfl hM2 ?_
        have hRM2 : Rm M2 _ _ := hM2 ▸ hRM1.set _ _
        have gM2 : ∀ B, 0 ≤ B → mm M2 B = if B = n + (base + 3 - 1 + 0) then k else mm M1 B := fun B hB => by rw [← hM2]; exact mm_set hRM1.len _ (by omega) (by omega) hB
        obtain ⟨M3, hM3⟩ : ∃ zz, M2.set (n + (base + 3 - 1 + 1) : Int).toNat (v) = zz := ⟨_, rfl⟩
        refine st_st (n + (base + 3 - 1 + 1)) (n) (v) M3 4 6 0 _ (hl 35) hRM2 rfl (by omega) (by omega) (by omega) (by omega) (by omega) rfl hM3 ?_
        have hRM3 : Rm M3 _ _ := hM3 ▸ hRM2.set _ _
        have gM3 : ∀ B, 0 ≤ B → mm M3 B = if B = n + (base + 3 - 1 + 1) then v else mm M2 B := fun B hB => by rw [← hM3]; exact mm_set hRM2.len _ (by omega) (by omega) hB
        obtain ⟨M4, hM4⟩ : ∃ zz, M3.set (n + (base + 3 - 1 + 2) : Int).toNat (0) = zz := ⟨_, rfl⟩
        refine st_st (n + (base + 3 - 1 + 2)) (n) (0) M4 7 6 0 _ (hl 36) hRM3 rfl (by omega) (by omega) (by omega) (by omega) (by omega) rfl hM4 ?_
        have hRM4 : Rm M4 _ _ := hM4 ▸ hRM3.set _ _
        have gM4 : ∀ B, 0 ≤ B → mm M4 B = if B = n + (base + 3 - 1 + 2) then 0 else mm M3 B := fun B hB => by rw [← hM4]; exact mm_set hRM3.len _ (by omega) (by omega) hB
        obtain ⟨M5, hM5⟩ : ∃ zz, M4.set (n + (base + 3 - 1 + 3) : Int).toNat (0) = zz := ⟨_, rfl⟩
        refine st_st (n + (base + 3 - 1 + 3)) (n) (0) M5 7 6 0 _ (hl 37) hRM4 rfl (by omega) (by omega) (by omega) (by omega) (by omega) rfl hM5 ?_
        have hRM5 : Rm M5 _ _ := hM5 ▸ hRM4.set _ _
        have gM5 : ∀ B, 0 ≤ B → mm M5 B = if B = n + (base + 3 - 1 + 3) then 0 else mm M4 B := fun B hB => by rw [← hM5]; exact mm_set hRM4.len _ (by omega) (by omega) hB
        obtain ⟨M6, hM6⟩ : ∃ zz, M5.set (a : Int).toNat (n) = zz := ⟨_, rfl⟩
        refine st_st (a) (a) (n) M6 6 5 0 _ (hl 38) hRM5 rfl (by omega) (by omega) (by omega) (by omega) (by omega) rfl hM6 ?_
        have hRM6 : Rm M6 _ _ := hM6 ▸ hRM5.set _ _
        have gM6 : ∀ B, 0 ≤ B → mm M6 B = if B = a then n else mm M5 B := fun B hB => by rw [← hM6]; exact mm_set hRM5.len _ (by omega) (by omega) hB
        refine st_set (1) [1, 0, 1, k, v, a, n, 0] 0 0 0 _ (hl 39) (u64_in (by omega) (by omega)) rfl ?_
        have hinv : TOk base cap (B + 1) M6 := by
          refine ⟨_, _, _, ⟨putFresh hS h.p a n (by show n = mm M (base + 1) + 1; omega) hnn (by show (1 : Int) ≤ 4; omega) hlw h0 ?_ ?_ ?_ ?_, ?_⟩⟩
          · show mm M6 (base + 1) = mm M (base + 1) + 4
            rw [gM6 _ (by omega), gM5 _ (by omega), gM4 _ (by omega), gM3 _ (by omega), gM2 _ (by omega), gM1 _ (by omega), if_neg (by omega), if_neg (by omega), if_neg (by omega), if_neg (by omega), if_neg (by omega), if_pos rfl, hi]; omega
          · rw [gM6 _ (by omega), if_pos rfl]
          · intro b hb
            have hb : b = n + (base + 3 - 1 + 2) ∨ b = n + (base + 3 - 1 + 3) := hb
            rcases hb with rfl | rfl
            · rw [gM6 _ (by omega), gM5 _ (by omega), gM4 _ (by omega), if_neg (Ne.symm han.1), if_neg (by omega), if_pos rfl]
            · rw [gM6 _ (by omega), gM5 _ (by omega), if_neg (Ne.symm han.2), if_pos rfl]
          · intro b hb hb1 hb2 hb3
            have hbb := tptr hr hb
            have hb1 : b ≠ base + 1 := hb1
            have hb3 : ¬ (b = n + (base + 3 - 1 + 2) ∨ b = n + (base + 3 - 1 + 3)) := hb3
            have hb4 := tword hr hb hnn
            rw [gM6 _ (by omega), gM5 _ (by omega), gM4 _ (by omega), gM3 _ (by omega), gM2 _ (by omega), gM1 _ (by omega), if_neg hb2, if_neg (fun e => hb3 (.inr e)), if_neg (fun e => hb3 (.inl e)), if_neg hb4.2, if_neg hb4.1, if_neg hb1]
          · exact ⟨i + 1, by omega, by omega, by rw [gM6 _ (by omega), gM5 _ (by omega), gM4 _ (by omega), gM3 _ (by omega), gM2 _ (by omega), gM1 _ (by omega), if_neg (by omega), if_neg (by omega), if_neg (by omega), if_neg (by omega), if_neg (by omega), if_pos rfl]; omega⟩
        refine st_set (0) [1, 0, 0, k, v, a, n, 0] 2 0 0 _ (hl 40) (u64_in (by omega) (by omega)) rfl ?_
        refine Ends.fin 0 0 0 0 (hl 41) rfl ?_
        exact Ends.now ⟨by show P + 42 = _; rw [hlen], rfl, rfl, rfl, hRM6.len, hinv⟩
  · intro a x r2 st hlw hax hlx
    have hx := tnode (h.p.lnode x hlx).1
    refine st_ld (x + (base + 3 - 1 + 1)) (x) (mm M (x + (base + 3 - 1 + 1))) [0, mm M (x + (base + 3 - 1 + 1)), r2, k, v, a, x, 0] 1 6 0 _ (hl 17) hR rfl (by omega) (by omega) (by omega) (by omega) (by omega) rfl rfl ?_
    obtain ⟨M1, hM1⟩ : ∃ zz, M.set (x + (base + 3 - 1 + 1) : Int).toNat (v) = zz := ⟨_, rfl⟩
    refine st_st (x + (base + 3 - 1 + 1)) (x) (v) M1 4 6 0 _ (hl 18) hR rfl (by omega) (by omega) (by omega) (by omega) (by omega) rfl hM1 ?_
    have hRM1 : Rm M1 _ _ := hM1 ▸ hR.set _ _
    have gM1 : ∀ B, 0 ≤ B → mm M1 B = if B = x + (base + 3 - 1 + 1) then v else mm M B := fun B hB => by rw [← hM1]; exact mm_set hR.len _ (by omega) (by omega) hB
    refine st_set (2) [2, mm M (x + (base + 3 - 1 + 1)), r2, k, v, a, x, 0] 0 0 0 _ (hl 19) (u64_in (by omega) (by omega)) rfl ?_
    refine st_jump (P + 40) 0 0 0 (hl 20) ?_
    have hinv : TOk base cap (B + 1) M1 := by
      refine ⟨live, fr, rk, ⟨(PInv.same hS h.p (M' := mm M1) (fun b hb => ?_)).up, ?_⟩⟩
      · have hb4 := tword hr hb (h.p.lnode x hlx).1
        have hbb := tptr hr hb
        rw [gM1 _ (by omega), if_neg hb4.2]
      · obtain ⟨i, h1, h2, h3⟩ := h.f
        exact ⟨i, h1, h2, by rw [gM1 _ (by omega), if_neg (by omega), h3]⟩
    refine st_set (0) [2, mm M (x + (base + 3 - 1 + 1)), 0, k, v, a, x, 0] 2 0 0 _ (hl 40) (u64_in (by omega) (by omega)) rfl ?_
    refine Ends.fin 0 0 0 0 (hl 41) rfl ?_
    exact Ends.now ⟨by show P + 42 = _; rw [hlen], rfl, rfl, rfl, hRM1.len, hinv⟩

theorem tCut_one {l : List Ins} {base cap : Int} (hr : TR base cap) {M : List Int} {B : Nat} {live fr : Int → Prop} {rk : Int → Nat} (h : TS base cap M B live fr rk) (hM : M.length = 504) (P : Nat) (hl : ∀ j, l[P + j]? = (tCutB P base cap)[j]?) (hlen : l.length = P + 46) (r1 cc r3 r4 a x b₀ : Int) (hlw : LW (tPS base cap) live a) (hax : mm M a = x) (hx0 : x ≠ 0) (hb₀ : (tPS base cap).lk x b₀) (hcc : mm M b₀ = cc) (bg st : Nat) :
    Ends l base (base + 3 + 4 * cap) (Done l bg (TOk base cap (B + 1))) 20 ⟨M, [0, r1, cc, r3, r4, a, x, 0], P + 39, true, bg + 1, st, false⟩ := by
  have hb0 := hr.b0; have hc0 := hr.c0; have htop := hr.top
  have hR : Rm M base (base + 3 + 4 * cap) := ⟨hr.b0, hr.top, hM⟩
  have hS := tSep hr
  have hlx : live x := by
    have := (tLW hr h.p hlw).2.2.1
    rw [hax] at this; exact this.resolve_left hx0
  have hx := tnode (h.p.lnode x hlx).1
  have ha := tLW hr h.p hlw
  have hax2 : ¬ (tPS base cap).lk x a := fun e => by
    have := h.p.rank x a hlx e (by rw [hax]; omega); rw [hax] at this; omega
  have hax3 : a ≠ x + (base + 3 - 1 + 2) := fun e => hax2 (.inl e)
  obtain ⟨M1, hM1⟩ : ∃ zz, M.set (a : Int).toNat (cc) = zz := ⟨_, rfl⟩
  refine st_st (a) (a) (cc) M1 2 5 0 _ (hl 39) hR rfl (by omega) (by omega) (by omega) (by omega) (by omega) rfl hM1 ?_
  have hRM1 : Rm M1 _ _ := hM1 ▸ hR.set _ _
  have gM1 : ∀ B, 0 ≤ B → mm M1 B = if B = a then cc else mm M B := fun B hB => by rw [← hM1]; exact mm_set hR.len _ (by omega) (by omega) hB
  obtain ⟨g, hg⟩ : ∃ zz, mm M1 (base + 2) = zz := ⟨_, rfl⟩
  refine st_ld (base + 2) (0) (g) [0, r1, g, r3, r4, a, x, 0] 2 7 0 _ (hl 40) hRM1 rfl (by omega) (by omega) (by omega) (by omega) (by omega) hg rfl ?_
  obtain ⟨M2, hM2⟩ : ∃ zz, M1.set (x + (base + 3 - 1 + 2) : Int).toNat (g) = zz := ⟨_, rfl⟩
  refine st_st (x + (base + 3 - 1 + 2)) (x) (g) M2 2 6 0 _ (hl 41) hRM1 rfl (by omega) (by omega) (by omega) (by omega) (by omega) rfl hM2 ?_
  have hRM2 : Rm M2 _ _ := hM2 ▸ hRM1.set _ _
  have gM2 : ∀ B, 0 ≤ B → mm M2 B = if B = x + (base + 3 - 1 + 2) then g else mm M1 B := fun B hB => by rw [← hM2]; exact mm_set hRM1.len _ (by omega) (by omega) hB
  obtain ⟨M3, hM3⟩ : ∃ zz, M2.set (base + 2 : Int).toNat (x) = zz := ⟨_, rfl⟩
  refine st_st (base + 2) (0) (x) M3 6 7 0 _ (hl 42) hRM2 rfl (by omega) (by omega) (by omega) (by omega) (by omega) rfl hM3 ?_
  have hRM3 : Rm M3 _ _ := hM3 ▸ hRM2.set _ _
  have gM3 : ∀ B, 0 ≤ B → mm M3 B = if B = base + 2 then x else mm M2 B := fun B hB => by rw [← hM3]; exact mm_set hRM2.len _ (by omega) (by omega) hB
  refine st_set (1) [1, r1, g, r3, r4, a, x, 0] 0 0 0 _ (hl 43) (u64_in (by omega) (by omega)) rfl ?_
  have hinv : TOk base cap (B + 1) M3 := by
    refine ⟨_, _, _, ⟨(cutGive hS h.p a x b₀ hax hx0 hlw hb₀ ?_ ?_ ?_ ?_).up, ?_⟩⟩
    · rw [gM3 a (by omega), gM2 a (by omega), gM1 a (by omega), if_neg (by omega), if_neg hax3, if_pos rfl, hcc]
    · show mm M3 (x + (base + 3 - 1 + 2)) = mm M (base + 2)
      rw [gM3 _ (by omega), gM2 _ (by omega), if_neg (by omega), if_pos rfl, ← hg, gM1 _ (by omega), if_neg (by omega)]
    · show mm M3 (base + 2) = x
      rw [gM3 _ (by omega), if_pos rfl]
    · intro b hb hb1 hb2 hb3
      have hbb := tptr hr hb
      have hb1 : b ≠ base + 2 := hb1
      have hb3 : b ≠ x + (base + 3 - 1 + 2) := fun e => hb3 (.inl e)
      rw [gM3 _ (by omega), gM2 _ (by omega), gM1 _ (by omega), if_neg hb1, if_neg hb3, if_neg hb2]
    · obtain ⟨i, h1, h2, h3⟩ := h.f
      exact ⟨i, h1, h2, by rw [gM3 _ (by omega), gM2 _ (by omega), gM1 _ (by omega), if_neg (by omega), if_neg (by omega), if_neg (by omega), h3]⟩
  refine st_set (0) [1, r1, 0, r3, r4, a, x, 0] 2 0 0 _ (hl 44) (u64_in (by omega) (by omega)) rfl ?_
  refine Ends.fin 0 0 0 0 (hl 45) rfl ?_
  exact Ends.now ⟨by show P + 46 = _; rw [hlen], rfl, rfl, rfl, hRM3.len, hinv⟩

theorem tCut_ends {l : List Ins} {base cap : Int} (hr : TR base cap) {M : List Int} {B : Nat} {live fr : Int → Prop} {rk : Int → Nat} (h : TS base cap M B live fr rk) (hM : M.length = 504) (P : Nat) (hl : ∀ j, l[P + j]? = (tCutB P base cap)[j]?) (hlen : l.length = P + 46) (R : List Int) (r0 r1 r2 k v r5 r6 r7 : Int) (hRg : R = [r0, r1, r2, k, v, r5, r6, r7]) (ins : Bool) (hin : ins = false) (bg st : Nat) :
    Ends l base (base + 3 + 4 * cap) (Done l bg (TOk base cap (B + 1))) (14 * B + 150) ⟨M, R, P, ins, bg, st, false⟩ := by
  subst hRg
  have hb0 := hr.b0; have hc0 := hr.c0; have htop := hr.top
  have hR : Rm M base (base + 3 + 4 * cap) := ⟨hr.b0, hr.top, hM⟩
  have hS := tSep hr
  refine st_set (0) [0, r1, r2, k, v, r5, r6, r7] 0 0 0 _ (hl 0) (u64_in (by omega) (by omega)) rfl ?_
  refine st_set (0) [0, 0, r2, k, v, r5, r6, r7] 1 0 0 _ (hl 1) (u64_in (by omega) (by omega)) rfl ?_
  refine st_set (0) [0, 0, 0, k, v, r5, r6, r7] 2 0 0 _ (hl 2) (u64_in (by omega) (by omega)) rfl ?_
  refine st_set (0) [0, 0, 0, k, v, r5, r6, 0] 7 0 0 _ (hl 3) (u64_in (by omega) (by omega)) rfl ?_
  refine Ends.beg 0 0 0 0 (hl 4) hin ?_
  refine st_set (base) [0, 0, 0, k, v, base, r6, 0] 5 0 0 _ (hl 5) (u64_in (by omega) (by omega)) rfl ?_
  have hlw : LW (tPS base cap) live base := .inl rfl
  have hrk : mm M base ≠ 0 → rk (mm M base) < B + 1 := fun e => by
    have := h.p.bound _ (((tLW hr h.p hlw).2.2.1).resolve_left e); omega
  refine (tsearch hr h.p hM (P + 6) (P + 44) (P + 17) (6 * B + 60) k v (bg + 1) (hl 6) (hl 7) (hl 8) (hl 9) (hl 10) (hl 11) (hl 12) (hl 13) (hl 14) (hl 15) (hl 16) ?_ ?_ (B + 1) _ _ _ _ hlw hrk).more (by omega)
  · intro a r2 st hlw h0
    refine st_set (0) [0, 0, 0, k, v, a, 0, 0] 2 0 0 _ (hl 44) (u64_in (by omega) (by omega)) rfl ?_
    refine Ends.fin 0 0 0 0 (hl 45) rfl ?_
    exact Ends.now ⟨by show P + 46 = _; rw [hlen], rfl, rfl, rfl, hR.len, ⟨live, fr, rk, ⟨h.p.up, h.f⟩⟩⟩
  · intro a x r2 st hlw hax hlx
    have hx := tnode (h.p.lnode x hlx).1
    have hx0 : x ≠ 0 := by omega
    obtain ⟨w, hw⟩ : ∃ zz, mm M (x + (base + 3 - 1 + 1)) = zz := ⟨_, rfl⟩
    refine st_ld (x + (base + 3 - 1 + 1)) (x) (w) [0, w, r2, k, v, a, x, 0] 1 6 0 _ (hl 17) hR rfl (by omega) (by omega) (by omega) (by omega) (by omega) hw rfl ?_
    obtain ⟨y, hy⟩ : ∃ zz, mm M (x + (base + 3 - 1 + 3)) = zz := ⟨_, rfl⟩
    refine st_ld (x + (base + 3 - 1 + 3)) (x) (y) [0, w, y, k, v, a, x, 0] 2 6 0 _ (hl 18) hR rfl (by omega) (by omega) (by omega) (by omega) (by omega) hy rfl ?_
    obtain ⟨z, hz⟩ : ∃ zz, mm M (x + (base + 3 - 1 + 2)) = zz := ⟨_, rfl⟩
    refine st_ld (x + (base + 3 - 1 + 2)) (x) (z) [0, w, y, z, v, a, x, 0] 3 6 0 _ (hl 19) hR rfl (by omega) (by omega) (by omega) (by omega) (by omega) hz rfl ?_
    refine st_eq (z) (0) (P + 39) 3 7 0 (hl 20) rfl rfl (fun ez => ?_) (fun ez => ?_)
    · exact (tCut_one hr h hM P hl hlen _ _ _ _ a x (x + (base + 3 - 1 + 3)) hlw hax hx0 (.inr rfl) hy bg _).more (by omega)
    · refine st_eq (y) (0) (P + 38) 2 7 0 (hl 21) rfl rfl (fun ey => ?_) (fun ey => ?_)
      · refine st_mov (z) [0, w, z, z, v, a, x, 0] 2 3 0 0 (hl 38) rfl rfl ?_
        exact (tCut_one hr h hM P hl hlen _ _ _ _ a x (x + (base + 3 - 1 + 2)) hlw hax hx0 (.inl rfl) hz bg _).more (by omega)
      · refine st_set (base + 3 - 1 + 3) [0, w, base + 3 - 1 + 3, z, v, a, x, 0] 2 0 0 _ (hl 22) (u64_in (by omega) (by omega)) rfl ?_
        refine st_add (x + (base + 3 - 1 + 3)) (x) (base + 3 - 1 + 3) [0, w, base + 3 - 1 + 3, z, x + (base + 3 - 1 + 3), a, x, 0] 4 6 2 0 (hl 23) rfl rfl (by rw [u64_in (by omega) (by omega)] <;> omega) rfl ?_
        have hlw2 : LW (tPS base cap) live (x + (base + 3 - 1 + 3)) := .inr ⟨x, hlx, .inr rfl⟩
        have hly : live y := by
          have := (tLW hr h.p hlw2).2.2.1
          rw [hy] at this; exact this.resolve_left ey
        have hbd := h.p.bound y hly
        refine (tdown hr h.p hM (P + 24) (P + 30) 40 (bg + 1) w a x (hl 24) (hl 25) (hl 26) (hl 27) (hl 28) (hl 29) ?_ (B + 1) _ _ _ _ hlw2 (by rw [hy]; exact ey) (by rw [hy]; omega)).more (by omega)
        intro b s st hlb hb hls
        have hs := tnode (h.p.lnode s hls).1
        refine st_ld (s + (base + 3 - 1 + 0)) (s) (mm M (s + (base + 3 - 1 + 0))) [0, w, mm M (s + (base + 3 - 1 + 0)), s, b, a, x, 0] 2 3 0 _ (hl 30) hR rfl (by omega) (by omega) (by omega) (by omega) (by omega) rfl rfl ?_
        obtain ⟨M1, hM1⟩ : ∃ zz, M.set (x + (base + 3 - 1 + 0) : Int).toNat (mm M (s + (base + 3 - 1 + 0))) = zz := ⟨_, rfl⟩
        refine st_st (x + (base + 3 - 1 + 0)) (x) (mm M (s + (base + 3 - 1 + 0))) M1 2 6 0 _ (hl 31) hR rfl (by omega) (by omega) (by omega) (by omega) (by omega) rfl hM1 ?_
        have hRM1 : Rm M1 _ _ := hM1 ▸ hR.set _ _
        have gM1 : ∀ B, 0 ≤ B → mm M1 B = if B = x + (base + 3 - 1 + 0) then mm M (s + (base + 3 - 1 + 0)) else mm M B := fun B hB => by rw [← hM1]; exact mm_set hR.len _ (by omega) (by omega) hB
        refine st_ld (s + (base + 3 - 1 + 1)) (s) (mm M1 (s + (base + 3 - 1 + 1))) [0, w, mm M1 (s + (base + 3 - 1 + 1)), s, b, a, x, 0] 2 3 0 _ (hl 32) hRM1 rfl (by omega) (by omega) (by omega) (by omega) (by omega) rfl rfl ?_
        obtain ⟨M2, hM2⟩ : ∃ zz, M1.set (x + (base + 3 - 1 + 1) : Int).toNat (mm M1 (s + (base + 3 - 1 + 1))) = zz := ⟨_, rfl⟩
        refine st_st (x + (base + 3 - 1 + 1)) (x) (mm M1 (s + (base + 3 - 1 + 1))) M2 2 6 0 _ (hl 33) hRM1 rfl (by omega) (by omega) (by omega) (by omega) (by omega) rfl hM2 ?_
        have hRM2 : Rm M2 _ _ := hM2 ▸ hRM1.set _ _
        have gM2 : ∀ B, 0 ≤ B → mm M2 B = if B = x + (base + 3 - 1 + 1) then mm M1 (s + (base + 3 - 1 + 1)) else mm M1 B := fun B hB => by rw [← hM2]; exact mm_set hRM1.len _ (by omega) (by omega) hB
        refine st_mov (s) [0, w, mm M1 (s + (base + 3 - 1 + 1)), s, b, a, s, 0] 6 3 0 0 (hl 34) rfl rfl ?_
        refine st_mov (b) [0, w, mm M1 (s + (base + 3 - 1 + 1)), s, b, b, s, 0] 5 4 0 0 (hl 35) rfl rfl ?_
        obtain ⟨cc, hcc⟩ : ∃ zz, mm M2 (s + (base + 3 - 1 + 3)) = zz := ⟨_, rfl⟩
        refine st_ld (s + (base + 3 - 1 + 3)) (s) (cc) [0, w, cc, s, b, b, s, 0] 2 6 0 _ (hl 36) hRM2 rfl (by omega) (by omega) (by omega) (by omega) (by omega) hcc rfl ?_
        refine st_jump (P + 39) 0 0 0 (hl 37) ?_
        have hM2 : M2.length = 504 := hRM2.len
        have hw : ∀ b, (tPS base cap).ptr b → mm M2 b = mm M b := fun b hb => by
          have hb4 := tword hr hb (h.p.lnode x hlx).1
          have hbb := tptr hr hb
          rw [gM2 b (by omega), if_neg hb4.2, gM1 b (by omega), if_neg hb4.1]
        have h2 : TS base cap M2 B live fr rk := ⟨PInv.same hS h.p hw, by
          obtain ⟨i, h1, h2, h3⟩ := h.f
          exact ⟨i, h1, h2, by rw [show mm M2 (base + 1) = mm M (base + 1) from hw _ (.inr (.inr (.inl rfl))), h3]⟩⟩
        exact (tCut_one hr h2 hM2 P hl hlen _ _ _ _ b s (s + (base + 3 - 1 + 3)) hlb (by rw [hw b (tLW hr h.p hlb).2.2.2.1, hb]) (by omega) (.inr rfl) hcc bg _).more (by omega)

theorem tLeast_ends {l : List Ins} {base cap : Int} (hr : TR base cap) {M : List Int} {B : Nat} {live fr : Int → Prop} {rk : Int → Nat} (h : TS base cap M B live fr rk) (hM : M.length = 504) (P : Nat) (hl : ∀ j, l[P + j]? = (tLeastB P base cap)[j]?) (hlen : l.length = P + 15) (R : List Int) (r0 r1 r2 k v r5 r6 r7 : Int) (hRg : R = [r0, r1, r2, k, v, r5, r6, r7]) (ins : Bool) (hin : ins = false) (bg st : Nat) :
    Ends l base (base + 3 + 4 * cap) (Done l bg (TOk base cap (B + 1))) (4 * B + 50) ⟨M, R, P, ins, bg, st, false⟩ := by
  subst hRg
  have hb0 := hr.b0; have hc0 := hr.c0; have htop := hr.top
  have hR : Rm M base (base + 3 + 4 * cap) := ⟨hr.b0, hr.top, hM⟩
  have hS := tSep hr
  refine st_set (0) [0, r1, r2, k, v, r5, r6, r7] 0 0 0 _ (hl 0) (u64_in (by omega) (by omega)) rfl ?_
  refine st_set (0) [0, 0, r2, k, v, r5, r6, r7] 1 0 0 _ (hl 1) (u64_in (by omega) (by omega)) rfl ?_
  refine st_set (0) [0, 0, 0, k, v, r5, r6, r7] 2 0 0 _ (hl 2) (u64_in (by omega) (by omega)) rfl ?_
  refine st_set (0) [0, 0, 0, k, v, r5, r6, 0] 7 0 0 _ (hl 3) (u64_in (by omega) (by omega)) rfl ?_
  refine Ends.beg 0 0 0 0 (hl 4) hin ?_
  have hlw : LW (tPS base cap) live base := .inl rfl
  obtain ⟨y, hy⟩ : ∃ zz, mm M (base) = zz := ⟨_, rfl⟩
  refine st_ld (base) (0) (y) [0, 0, 0, k, v, r5, y, 0] 6 7 0 _ (hl 5) hR rfl (by omega) (by omega) (by omega) (by omega) (by omega) hy rfl ?_
  refine st_eq (y) (0) (P + 14) 6 7 0 (hl 6) rfl rfl (fun e => ?_) (fun e => ?_)
  · refine Ends.fin 0 0 0 0 (hl 14) rfl ?_
    exact Ends.now ⟨by show P + 15 = _; rw [hlen], rfl, rfl, rfl, hR.len, ⟨live, fr, rk, ⟨h.p.up, h.f⟩⟩⟩
  · have hly : live y := by
      have := (tLW hr h.p hlw).2.2.1
      rw [hy] at this; exact this.resolve_left e
    have hbd := h.p.bound y hly
    refine (tleast hr h.p hM (P + 7) (P + 11) 20 (bg + 1) k v (hl 7) (hl 8) (hl 9) (hl 10) ?_ (B + 1) _ _ _ hly (by omega)).more (by omega)
    intro y st hly
    have hyn := tnode (h.p.lnode y hly).1
    refine st_ld (y + (base + 3 - 1 + 0)) (y) (mm M (y + (base + 3 - 1 + 0))) [0, mm M (y + (base + 3 - 1 + 0)), 0, k, v, 0, y, 0] 1 6 0 _ (hl 11) hR rfl (by omega) (by omega) (by omega) (by omega) (by omega) rfl rfl ?_
    refine st_ld (y + (base + 3 - 1 + 1)) (y) (mm M (y + (base + 3 - 1 + 1))) [0, mm M (y + (base + 3 - 1 + 0)), mm M (y + (base + 3 - 1 + 1)), k, v, 0, y, 0] 2 6 0 _ (hl 12) hR rfl (by omega) (by omega) (by omega) (by omega) (by omega) rfl rfl ?_
    refine st_set (1) [1, mm M (y + (base + 3 - 1 + 0)), mm M (y + (base + 3 - 1 + 1)), k, v, 0, y, 0] 0 0 0 _ (hl 13) (u64_in (by omega) (by omega)) rfl ?_
    refine Ends.fin 0 0 0 0 (hl 14) rfl ?_
    exact Ends.now ⟨by show P + 15 = _; rw [hlen], rfl, rfl, rfl, hR.len, ⟨live, fr, rk, ⟨h.p.up, h.f⟩⟩⟩

structure QR (base cap : Int) : Prop where
  b0 : 0 ≤ base
  c0 : 1 ≤ cap
  top : base + 2 + cap ≤ 504
/-- A queue's words: where it begins, how many. -/
def QOk (base cap : Int) (M : List Int) : Prop := 0 ≤ mm M base ∧ mm M base < cap ∧ 0 ≤ mm M (base + 1) ∧ mm M (base + 1) ≤ cap

theorem qPush_ends {l : List Ins} {base cap : Int} (hr : QR base cap) {M : List Int} (h : QOk base cap M) (hM : M.length = 504) (P : Nat) (hl : ∀ j, l[P + j]? = (qPushB P base cap)[j]?) (hlen : l.length = P + 19) (R : List Int) (r0 r1 r2 k v r5 r6 r7 : Int) (hRg : R = [r0, r1, r2, k, v, r5, r6, r7]) (ins : Bool) (hin : ins = false) (bg st : Nat) :
    Ends l base (base + 2 + cap) (Done l bg (QOk base cap)) 60 ⟨M, R, P, ins, bg, st, false⟩ := by
  subst hRg
  have hb0 := hr.b0; have hc0 := hr.c0; have htop := hr.top
  have hR : Rm M base (base + 2 + cap) := ⟨hr.b0, hr.top, hM⟩
  obtain ⟨q0, q1, q2, q3⟩ := h
  refine st_set (0) [0, r1, r2, k, v, r5, r6, r7] 0 0 0 _ (hl 0) (u64_in (by omega) (by omega)) rfl ?_
  refine st_set (0) [0, 0, r2, k, v, r5, r6, r7] 1 0 0 _ (hl 1) (u64_in (by omega) (by omega)) rfl ?_
  refine st_set (0) [0, 0, 0, k, v, r5, r6, r7] 2 0 0 _ (hl 2) (u64_in (by omega) (by omega)) rfl ?_
  refine st_set (0) [0, 0, 0, k, v, r5, r6, 0] 7 0 0 _ (hl 3) (u64_in (by omega) (by omega)) rfl ?_
  refine Ends.beg 0 0 0 0 (hl 4) hin ?_
  obtain ⟨n, hn⟩ : ∃ zz, mm M (base + 1) = zz := ⟨_, rfl⟩
  refine st_ld (base + 1) (0) (n) [0, 0, 0, k, n, r5, r6, 0] 4 7 0 _ (hl 5) hR rfl (by omega) (by omega) (by omega) (by omega) (by omega) hn rfl ?_
  rw [hn] at q2 q3
  refine st_set (cap) [0, 0, 0, k, n, cap, r6, 0] 5 0 0 _ (hl 6) (u64_in (by omega) (by omega)) rfl ?_
  refine st_eq (n) (cap) (P + 17) 4 5 0 (hl 7) rfl rfl (fun e => ?_) (fun e => ?_)
  · refine st_set (0) [0, 0, 0, k, n, cap, r6, 0] 2 0 0 _ (hl 17) (u64_in (by omega) (by omega)) rfl ?_
    refine Ends.fin 0 0 0 0 (hl 18) rfl ?_
    exact Ends.now ⟨by show P + 19 = _; rw [hlen], rfl, rfl, rfl, hR.len, (show QOk base cap M from ⟨by omega, by omega, by omega, by omega⟩)⟩
  · obtain ⟨f, hf⟩ : ∃ zz, mm M (base) = zz := ⟨_, rfl⟩
    refine st_ld (base) (0) (f) [0, 0, 0, k, n, cap, f, 0] 6 7 0 _ (hl 8) hR rfl (by omega) (by omega) (by omega) (by omega) (by omega) hf rfl ?_
    rw [hf] at q0 q1
    refine st_add (f + n) (f) (n) [0, 0, 0, k, n, cap, f + n, 0] 6 6 4 0 (hl 9) rfl rfl (by rw [u64_in (by omega) (by omega)] <;> omega) rfl ?_
    refine st_lt (f + n) (cap) (P + 12) 6 5 0 (hl 10) rfl rfl (fun e2 => ?_) (fun e2 => ?_)
    · obtain ⟨M1, hM1⟩ : ∃ zz, M.set ((f + n) + (base + 2) : Int).toNat (k) = zz := ⟨_, rfl⟩
      refine st_st ((f + n) + (base + 2)) (f + n) (k) M1 3 6 0 _ (hl 12) hR rfl (by omega) (by omega) (by omega) (by omega) (by omega) rfl hM1 ?_
      have hRM1 : Rm M1 _ _ := hM1 ▸ hR.set _ _
      have gM1 : ∀ B, 0 ≤ B → mm M1 B = if B = (f + n) + (base + 2) then k else mm M B := fun B hB => by rw [← hM1]; exact mm_set hR.len _ (by omega) (by omega) hB
      refine st_set (1) [0, 0, 1, k, n, cap, f + n, 0] 2 0 0 _ (hl 13) (u64_in (by omega) (by omega)) rfl ?_
      refine st_add (n + 1) (n) (1) [0, 0, 1, k, n + 1, cap, f + n, 0] 4 4 2 0 (hl 14) rfl rfl (by rw [u64_in (by omega) (by omega)] <;> omega) rfl ?_
      obtain ⟨M2, hM2⟩ : ∃ zz, M1.set (base + 1 : Int).toNat (n + 1) = zz := ⟨_, rfl⟩
      refine st_st (base + 1) (0) (n + 1) M2 4 7 0 _ (hl 15) hRM1 rfl (by omega) (by omega) (by omega) (by omega) (by omega) rfl hM2 ?_
      have hRM2 : Rm M2 _ _ := hM2 ▸ hRM1.set _ _
      have gM2 : ∀ B, 0 ≤ B → mm M2 B = if B = base + 1 then n + 1 else mm M1 B := fun B hB => by rw [← hM2]; exact mm_set hRM1.len _ (by omega) (by omega) hB
      refine st_set (1) [1, 0, 1, k, n + 1, cap, f + n, 0] 0 0 0 _ (hl 16) (u64_in (by omega) (by omega)) rfl ?_
      have hinv : QOk base cap M2 := by
        have e1 : mm M2 base = f := by rw [gM2 _ (by omega), gM1 _ (by omega), if_neg (by omega), if_neg (by omega), hf]
        have e2 : mm M2 (base + 1) = n + 1 := by rw [gM2 _ (by omega), if_pos rfl]
        exact ⟨by omega, by omega, by omega, by omega⟩
      refine st_set (0) [1, 0, 0, k, n + 1, cap, f + n, 0] 2 0 0 _ (hl 17) (u64_in (by omega) (by omega)) rfl ?_
      refine Ends.fin 0 0 0 0 (hl 18) rfl ?_
      exact Ends.now ⟨by show P + 19 = _; rw [hlen], rfl, rfl, rfl, hRM2.len, hinv⟩
    · refine st_sub (f + n - cap) (f + n) (cap) [0, 0, 0, k, n, cap, f + n - cap, 0] 6 6 5 0 (hl 11) rfl rfl (by rw [u64_dn (by omega) (by omega)] <;> omega) rfl ?_
      obtain ⟨M1, hM1⟩ : ∃ zz, M.set ((f + n - cap) + (base + 2) : Int).toNat (k) = zz := ⟨_, rfl⟩
      refine st_st ((f + n - cap) + (base + 2)) (f + n - cap) (k) M1 3 6 0 _ (hl 12) hR rfl (by omega) (by omega) (by omega) (by omega) (by omega) rfl hM1 ?_
      have hRM1 : Rm M1 _ _ := hM1 ▸ hR.set _ _
      have gM1 : ∀ B, 0 ≤ B → mm M1 B = if B = (f + n - cap) + (base + 2) then k else mm M B := fun B hB => by rw [← hM1]; exact mm_set hR.len _ (by omega) (by omega) hB
      refine st_set (1) [0, 0, 1, k, n, cap, f + n - cap, 0] 2 0 0 _ (hl 13) (u64_in (by omega) (by omega)) rfl ?_
      refine st_add (n + 1) (n) (1) [0, 0, 1, k, n + 1, cap, f + n - cap, 0] 4 4 2 0 (hl 14) rfl rfl (by rw [u64_in (by omega) (by omega)] <;> omega) rfl ?_
      obtain ⟨M2, hM2⟩ : ∃ zz, M1.set (base + 1 : Int).toNat (n + 1) = zz := ⟨_, rfl⟩
      refine st_st (base + 1) (0) (n + 1) M2 4 7 0 _ (hl 15) hRM1 rfl (by omega) (by omega) (by omega) (by omega) (by omega) rfl hM2 ?_
      have hRM2 : Rm M2 _ _ := hM2 ▸ hRM1.set _ _
      have gM2 : ∀ B, 0 ≤ B → mm M2 B = if B = base + 1 then n + 1 else mm M1 B := fun B hB => by rw [← hM2]; exact mm_set hRM1.len _ (by omega) (by omega) hB
      refine st_set (1) [1, 0, 1, k, n + 1, cap, f + n - cap, 0] 0 0 0 _ (hl 16) (u64_in (by omega) (by omega)) rfl ?_
      have hinv : QOk base cap M2 := by
        have e1 : mm M2 base = f := by rw [gM2 _ (by omega), gM1 _ (by omega), if_neg (by omega), if_neg (by omega), hf]
        have e2 : mm M2 (base + 1) = n + 1 := by rw [gM2 _ (by omega), if_pos rfl]
        exact ⟨by omega, by omega, by omega, by omega⟩
      refine st_set (0) [1, 0, 0, k, n + 1, cap, f + n - cap, 0] 2 0 0 _ (hl 17) (u64_in (by omega) (by omega)) rfl ?_
      refine Ends.fin 0 0 0 0 (hl 18) rfl ?_
      exact Ends.now ⟨by show P + 19 = _; rw [hlen], rfl, rfl, rfl, hRM2.len, hinv⟩

theorem qPop_ends {l : List Ins} {base cap : Int} (hr : QR base cap) {M : List Int} (h : QOk base cap M) (hM : M.length = 504) (P : Nat) (hl : ∀ j, l[P + j]? = (qPopB P base cap)[j]?) (hlen : l.length = P + 21) (R : List Int) (r0 r1 r2 k v r5 r6 r7 : Int) (hRg : R = [r0, r1, r2, k, v, r5, r6, r7]) (ins : Bool) (hin : ins = false) (bg st : Nat) :
    Ends l base (base + 2 + cap) (Done l bg (QOk base cap)) 60 ⟨M, R, P, ins, bg, st, false⟩ := by
  subst hRg
  have hb0 := hr.b0; have hc0 := hr.c0; have htop := hr.top
  have hR : Rm M base (base + 2 + cap) := ⟨hr.b0, hr.top, hM⟩
  obtain ⟨q0, q1, q2, q3⟩ := h
  refine st_set (0) [0, r1, r2, k, v, r5, r6, r7] 0 0 0 _ (hl 0) (u64_in (by omega) (by omega)) rfl ?_
  refine st_set (0) [0, 0, r2, k, v, r5, r6, r7] 1 0 0 _ (hl 1) (u64_in (by omega) (by omega)) rfl ?_
  refine st_set (0) [0, 0, 0, k, v, r5, r6, r7] 2 0 0 _ (hl 2) (u64_in (by omega) (by omega)) rfl ?_
  refine st_set (0) [0, 0, 0, k, v, r5, r6, 0] 7 0 0 _ (hl 3) (u64_in (by omega) (by omega)) rfl ?_
  refine Ends.beg 0 0 0 0 (hl 4) hin ?_
  obtain ⟨n, hn⟩ : ∃ zz, mm M (base + 1) = zz := ⟨_, rfl⟩
  refine st_ld (base + 1) (0) (n) [0, 0, 0, k, n, r5, r6, 0] 4 7 0 _ (hl 5) hR rfl (by omega) (by omega) (by omega) (by omega) (by omega) hn rfl ?_
  rw [hn] at q2 q3
  refine st_eq (n) (0) (P + 19) 4 7 0 (hl 6) rfl rfl (fun e => ?_) (fun e => ?_)
  · refine st_set (0) [0, 0, 0, k, n, r5, r6, 0] 2 0 0 _ (hl 19) (u64_in (by omega) (by omega)) rfl ?_
    refine Ends.fin 0 0 0 0 (hl 20) rfl ?_
    exact Ends.now ⟨by show P + 21 = _; rw [hlen], rfl, rfl, rfl, hR.len, (show QOk base cap M from ⟨by omega, by omega, by omega, by omega⟩)⟩
  · obtain ⟨f, hf⟩ : ∃ zz, mm M (base) = zz := ⟨_, rfl⟩
    refine st_ld (base) (0) (f) [0, 0, 0, k, n, r5, f, 0] 6 7 0 _ (hl 7) hR rfl (by omega) (by omega) (by omega) (by omega) (by omega) hf rfl ?_
    rw [hf] at q0 q1
    refine st_ld (f + (base + 2)) (f) (mm M (f + (base + 2))) [0, mm M (f + (base + 2)), 0, k, n, r5, f, 0] 1 6 0 _ (hl 8) hR rfl (by omega) (by omega) (by omega) (by omega) (by omega) rfl rfl ?_
    refine st_set (u64 (-1)) [0, mm M (f + (base + 2)), u64 (-1), k, n, r5, f, 0] 2 0 0 _ (hl 9) (rfl) rfl ?_
    refine st_add (n - 1) (n) (u64 (-1)) [0, mm M (f + (base + 2)), u64 (-1), k, n - 1, r5, f, 0] 4 4 2 0 (hl 10) rfl rfl (u64_up (by omega) (by omega)) rfl ?_
    obtain ⟨M1, hM1⟩ : ∃ zz, M.set (base + 1 : Int).toNat (n - 1) = zz := ⟨_, rfl⟩
    refine st_st (base + 1) (0) (n - 1) M1 4 7 0 _ (hl 11) hR rfl (by omega) (by omega) (by omega) (by omega) (by omega) rfl hM1 ?_
    have hRM1 : Rm M1 _ _ := hM1 ▸ hR.set _ _
    have gM1 : ∀ B, 0 ≤ B → mm M1 B = if B = base + 1 then n - 1 else mm M B := fun B hB => by rw [← hM1]; exact mm_set hR.len _ (by omega) (by omega) hB
    refine st_set (1) [0, mm M (f + (base + 2)), 1, k, n - 1, r5, f, 0] 2 0 0 _ (hl 12) (u64_in (by omega) (by omega)) rfl ?_
    refine st_add (f + 1) (f) (1) [0, mm M (f + (base + 2)), 1, k, n - 1, r5, f + 1, 0] 6 6 2 0 (hl 13) rfl rfl (by rw [u64_in (by omega) (by omega)] <;> omega) rfl ?_
    refine st_set (cap) [0, mm M (f + (base + 2)), 1, k, n - 1, cap, f + 1, 0] 5 0 0 _ (hl 14) (u64_in (by omega) (by omega)) rfl ?_
    refine st_lt (f + 1) (cap) (P + 17) 6 5 0 (hl 15) rfl rfl (fun e2 => ?_) (fun e2 => ?_)
    · obtain ⟨M2, hM2⟩ : ∃ zz, M1.set (base : Int).toNat (f + 1) = zz := ⟨_, rfl⟩
      refine st_st (base) (0) (f + 1) M2 6 7 0 _ (hl 17) hRM1 rfl (by omega) (by omega) (by omega) (by omega) (by omega) rfl hM2 ?_
      have hRM2 : Rm M2 _ _ := hM2 ▸ hRM1.set _ _
      have gM2 : ∀ B, 0 ≤ B → mm M2 B = if B = base then f + 1 else mm M1 B := fun B hB => by rw [← hM2]; exact mm_set hRM1.len _ (by omega) (by omega) hB
      refine st_set (1) [1, mm M (f + (base + 2)), 1, k, n - 1, cap, f + 1, 0] 0 0 0 _ (hl 18) (u64_in (by omega) (by omega)) rfl ?_
      have hinv : QOk base cap M2 := by
        have e1 : mm M2 base = f + 1 := by rw [gM2 _ (by omega), if_pos rfl]
        have e2 : mm M2 (base + 1) = n - 1 := by rw [gM2 _ (by omega), gM1 _ (by omega), if_neg (by omega), if_pos rfl]
        exact ⟨by omega, by omega, by omega, by omega⟩
      refine st_set (0) [1, mm M (f + (base + 2)), 0, k, n - 1, cap, f + 1, 0] 2 0 0 _ (hl 19) (u64_in (by omega) (by omega)) rfl ?_
      refine Ends.fin 0 0 0 0 (hl 20) rfl ?_
      exact Ends.now ⟨by show P + 21 = _; rw [hlen], rfl, rfl, rfl, hRM2.len, hinv⟩
    · refine st_set (0) [0, mm M (f + (base + 2)), 1, k, n - 1, cap, 0, 0] 6 0 0 _ (hl 16) (u64_in (by omega) (by omega)) rfl ?_
      obtain ⟨M2, hM2⟩ : ∃ zz, M1.set (base : Int).toNat (0) = zz := ⟨_, rfl⟩
      refine st_st (base) (0) (0) M2 6 7 0 _ (hl 17) hRM1 rfl (by omega) (by omega) (by omega) (by omega) (by omega) rfl hM2 ?_
      have hRM2 : Rm M2 _ _ := hM2 ▸ hRM1.set _ _
      have gM2 : ∀ B, 0 ≤ B → mm M2 B = if B = base then 0 else mm M1 B := fun B hB => by rw [← hM2]; exact mm_set hRM1.len _ (by omega) (by omega) hB
      refine st_set (1) [1, mm M (f + (base + 2)), 1, k, n - 1, cap, 0, 0] 0 0 0 _ (hl 18) (u64_in (by omega) (by omega)) rfl ?_
      have hinv : QOk base cap M2 := by
        have e1 : mm M2 base = 0 := by rw [gM2 _ (by omega), if_pos rfl]
        have e2 : mm M2 (base + 1) = n - 1 := by rw [gM2 _ (by omega), gM1 _ (by omega), if_neg (by omega), if_pos rfl]
        exact ⟨by omega, by omega, by omega, by omega⟩
      refine st_set (0) [1, mm M (f + (base + 2)), 0, k, n - 1, cap, 0, 0] 2 0 0 _ (hl 19) (u64_in (by omega) (by omega)) rfl ?_
      refine Ends.fin 0 0 0 0 (hl 20) rfl ?_
      exact Ends.now ⟨by show P + 21 = _; rw [hlen], rfl, rfl, rfl, hRM2.len, hinv⟩
end Go.Proofs.Ythlhjahhjoclfaa
