/- That codes come to their ends, and what they touch: steps, hashes; the plain side. -/
import Derived.Test.YthlhjahhjoclfaaCd33
namespace Go.Proofs.Ythlhjahhjoclfaa
set_option maxRecDepth 100000
open Go.RowKit

theorem u64_in {x : Int} (h : 0 ≤ x) (h2 : x ≤ 1000000) : u64 x = x := IntWalk.u64_in x ⟨h, by omega⟩
theorem u64_up {x : Int} (h : 1 ≤ x) (h2 : x ≤ 1000000) : u64 (x + u64 (-1)) = x - 1 := by
  have e : ∀ y, u64 y = y % 18446744073709551616 := fun y => by unfold u64; simp [IntKind.wrap, IntKind.signed, IntKind.bits]
  rw [e, e]; omega
theorem u64_dn {x y : Int} (h : 0 ≤ x - y) (h2 : x - y ≤ 1000000) : u64 (x - y) = x - y := u64_in h h2
theorem and_le (x y : Int) (h : 0 ≤ y) (h2 : y ≤ 1000) : 0 ≤ bits BinOp.and IntKind.u64 x y ∧ bits BinOp.and IntKind.u64 x y ≤ y := by
  have e : (BitVec.ofInt IntKind.u64.bits y).toNat = y.toNat := by
    rw [BitVec.toNat_ofInt]; simp only [IntKind.bits]; omega
  have hb : bits BinOp.and IntKind.u64 x y = (((BitVec.ofInt IntKind.u64.bits x).toNat &&& y.toNat : Nat) : Int) := by
    simp only [bits, BitVec.toNat_and, e]
    have hl : (BitVec.ofInt IntKind.u64.bits x).toNat &&& y.toNat ≤ y.toNat := Nat.and_le_right
    exact IntWalk.u64_in _ ⟨by omega, by omega⟩
  rw [hb]
  have hl : (BitVec.ofInt IntKind.u64.bits x).toNat &&& y.toNat ≤ y.toNat := Nat.and_le_right
  omega
/-- What a step may do when all stays among the words from lo on, ahead of hi. -/
def fineE (lo hi : Int) (m : Mach) (e : Ef) : Prop :=
  (e.kind = 3 ∨ e.kind = 4 → m.inside = true ∧ lo ≤ e.addr ∧ e.addr < hi) ∧ (e.kind = 5 → m.inside = false) ∧ (e.kind = 6 → m.inside = true)
def Ends (l : List Ins) (lo hi : Int) (Q : Mach → Prop) : Nat → Mach → Prop
  | 0, m => Q m
  | n + 1, m => Q m ∨ ∃ i, l[m.pc]? = some i ∧ m.bad = false ∧ fineE lo hi m (doE i m.regs m.pc) ∧ Ends l lo hi Q n (actM 0 504 m (doE i m.regs m.pc))

section
variable {l : List Ins} {lo hi : Int} {Q : Mach → Prop}
theorem Ends.now {n : Nat} {m : Mach} (h : Q m) : Ends l lo hi Q n m := by
  cases n with
  | zero => exact h
  | succ n => exact .inl h
theorem Ends.more : ∀ {n k : Nat} {m : Mach}, Ends l lo hi Q n m → n ≤ k → Ends l lo hi Q k m
  | 0, k, m, h, _ => Ends.now h
  | n + 1, 0, m, h, hk => absurd hk (by omega)
  | n + 1, k + 1, m, h, hk => by
    rcases h with h | ⟨i, a, b, c, d⟩
    · exact .inl h
    · exact .inr ⟨i, a, b, c, Ends.more d (by omega)⟩
theorem Ends.step {n : Nat} {m : Mach} (i : Ins) (hl : l[m.pc]? = some i) (hb : m.bad = false) (hf : fineE lo hi m (doE i m.regs m.pc)) (h : Ends l lo hi Q n (actM 0 504 m (doE i m.regs m.pc))) : Ends l lo hi Q (n + 1) m := .inr ⟨i, hl, hb, hf, h⟩
theorem Ends.trans {Q' : Mach → Prop} : ∀ {n k : Nat} {m : Mach}, Ends l lo hi Q n m → (∀ m', Q m' → Ends l lo hi Q' k m') → Ends l lo hi Q' (n + k) m
  | 0, k, m, h, hq => by rw [Nat.zero_add]; exact hq m h
  | n + 1, k, m, h, hq => by
    rcases h with h | ⟨i, a, b, c, d⟩
    · exact (hq m h).more (by omega)
    · rw [show n + 1 + k = n + k + 1 by omega]; exact .inr ⟨i, a, b, c, Ends.trans d hq⟩

variable {n : Nat} {M R : List Int} {pc : Nat} {ins : Bool} {bg st : Nat}
theorem Ends.set (a : Nat) (b c : Int) (x : Int) (hl : l[pc]? = some ⟨2, a, b, c, x⟩) (h : Ends l lo hi Q n ⟨M, R.set a (u64 x), pc + 1, ins, bg, st + 1, false⟩) : Ends l lo hi Q (n + 1) ⟨M, R, pc, ins, bg, st, false⟩ :=
  Ends.step _ hl rfl ⟨fun h => by simp [doE] at h, fun h => by simp [doE] at h, fun h => by simp [doE] at h⟩ h
theorem Ends.mov (a b : Nat) (c x : Int) (hl : l[pc]? = some ⟨3, a, b, c, x⟩) (h : Ends l lo hi Q n ⟨M, R.set a (R.getD b 0), pc + 1, ins, bg, st + 1, false⟩) : Ends l lo hi Q (n + 1) ⟨M, R, pc, ins, bg, st, false⟩ :=
  Ends.step _ hl rfl ⟨fun h => by simp [doE] at h, fun h => by simp [doE] at h, fun h => by simp [doE] at h⟩ h
theorem Ends.add (a b c : Nat) (x : Int) (hl : l[pc]? = some ⟨4, a, b, c, x⟩) (h : Ends l lo hi Q n ⟨M, R.set a (u64 (R.getD b 0 + R.getD c 0)), pc + 1, ins, bg, st + 1, false⟩) : Ends l lo hi Q (n + 1) ⟨M, R, pc, ins, bg, st, false⟩ :=
  Ends.step _ hl rfl ⟨fun h => by simp [doE] at h, fun h => by simp [doE] at h, fun h => by simp [doE] at h⟩ h
theorem Ends.sub (a b c : Nat) (x : Int) (hl : l[pc]? = some ⟨5, a, b, c, x⟩) (h : Ends l lo hi Q n ⟨M, R.set a (u64 (R.getD b 0 - R.getD c 0)), pc + 1, ins, bg, st + 1, false⟩) : Ends l lo hi Q (n + 1) ⟨M, R, pc, ins, bg, st, false⟩ :=
  Ends.step _ hl rfl ⟨fun h => by simp [doE] at h, fun h => by simp [doE] at h, fun h => by simp [doE] at h⟩ h
theorem Ends.and (a b c : Nat) (x : Int) (hl : l[pc]? = some ⟨7, a, b, c, x⟩) (h : Ends l lo hi Q n ⟨M, R.set a (bits BinOp.and IntKind.u64 (R.getD b 0) (R.getD c 0)), pc + 1, ins, bg, st + 1, false⟩) : Ends l lo hi Q (n + 1) ⟨M, R, pc, ins, bg, st, false⟩ :=
  Ends.step _ hl rfl ⟨fun h => by simp [doE] at h, fun h => by simp [doE] at h, fun h => by simp [doE] at h⟩ h
theorem Ends.load (A : Int) (a b : Nat) (c x : Int) (hl : l[pc]? = some ⟨11, a, b, c, x⟩) (hi0 : ins = true) (hA : u64 (R.getD b 0 + u64 x) = A) (h0 : lo ≤ A) (h1 : A < hi) (hlo : 0 ≤ lo) (hhi : hi ≤ 504) (hM : M.length = 504)
    (h : Ends l lo hi Q n ⟨M, R.set a (M.getD A.toNat 0), pc + 1, ins, bg, st + 1, false⟩) : Ends l lo hi Q (n + 1) ⟨M, R, pc, ins, bg, st, false⟩ := by
  have e : (doE ⟨11, a, b, c, x⟩ R pc).addr = A := by rw [← hA]; rfl
  refine Ends.step _ hl rfl ⟨fun _ => by rw [e]; exact ⟨hi0, h0, h1⟩, fun h => by simp [doE] at h, fun h => by simp [doE] at h⟩ ?_
  have : actM 0 504 ⟨M, R, pc, ins, bg, st, false⟩ (doE ⟨11, a, b, c, x⟩ R pc) = ⟨M, R.set a (M.getD A.toNat 0), pc + 1, ins, bg, st + 1, false⟩ := by
    unfold actM
    rw [if_neg (by simp [doE]), if_neg (by simp [doE]), if_pos (by simp [doE]), if_neg (by rw [e]; simp only [hM, hi0]; intro q; rcases q with q | q | q | q <;> first | omega | cases q), if_pos (by simp [doE]), e]
    rfl
  rw [this]; exact h
theorem Ends.store (A : Int) (a b : Nat) (c x : Int) (hl : l[pc]? = some ⟨12, a, b, c, x⟩) (hi0 : ins = true) (hA : u64 (R.getD b 0 + u64 x) = A) (h0 : lo ≤ A) (h1 : A < hi) (hlo : 0 ≤ lo) (hhi : hi ≤ 504) (hM : M.length = 504)
    (h : Ends l lo hi Q n ⟨M.set A.toNat (R.getD a 0), R, pc + 1, ins, bg, st + 1, false⟩) : Ends l lo hi Q (n + 1) ⟨M, R, pc, ins, bg, st, false⟩ := by
  have e : (doE ⟨12, a, b, c, x⟩ R pc).addr = A := by rw [← hA]; rfl
  refine Ends.step _ hl rfl ⟨fun _ => by rw [e]; exact ⟨hi0, h0, h1⟩, fun h => by simp [doE] at h, fun h => by simp [doE] at h⟩ ?_
  have : actM 0 504 ⟨M, R, pc, ins, bg, st, false⟩ (doE ⟨12, a, b, c, x⟩ R pc) = ⟨M.set A.toNat (R.getD a 0), R, pc + 1, ins, bg, st + 1, false⟩ := by
    unfold actM
    rw [if_neg (by simp [doE]), if_neg (by simp [doE]), if_pos (by simp [doE]), if_neg (by rw [e]; simp only [hM, hi0]; intro q; rcases q with q | q | q | q <;> first | omega | cases q), if_neg (by simp [doE]), e]
    rfl
  rw [this]; exact h
theorem Ends.jump (t : Nat) (a b c : Int) (hl : l[pc]? = some ⟨13, a, b, c, (t : Int)⟩) (h : Ends l lo hi Q n ⟨M, R, t, ins, bg, st + 1, false⟩) : Ends l lo hi Q (n + 1) ⟨M, R, pc, ins, bg, st, false⟩ :=
  Ends.step _ hl rfl ⟨fun h => by simp [doE] at h, fun h => by simp [doE] at h, fun h => by simp [doE] at h⟩ h
theorem Ends.eq (t : Nat) (a b : Nat) (c : Int) (hl : l[pc]? = some ⟨14, a, b, c, (t : Int)⟩) (h1 : R.getD a 0 = R.getD b 0 → Ends l lo hi Q n ⟨M, R, t, ins, bg, st + 1, false⟩) (h2 : R.getD a 0 ≠ R.getD b 0 → Ends l lo hi Q n ⟨M, R, pc + 1, ins, bg, st + 1, false⟩) : Ends l lo hi Q (n + 1) ⟨M, R, pc, ins, bg, st, false⟩ := by
  by_cases e : R.getD a 0 = R.getD b 0
  · refine Ends.step _ hl rfl ⟨fun h => by simp [doE] at h, fun h => by simp [doE] at h, fun h => by simp [doE] at h⟩ ?_
    have : actM 0 504 ⟨M, R, pc, ins, bg, st, false⟩ (doE ⟨14, a, b, c, (t : Int)⟩ R pc) = ⟨M, R, t, ins, bg, st + 1, false⟩ := by
      simp only [actM, doE, rg]; simp; simp only [List.getD_eq_getElem?_getD] at e; rw [if_pos e]; rfl
    rw [this]; exact h1 e
  · refine Ends.step _ hl rfl ⟨fun h => by simp [doE] at h, fun h => by simp [doE] at h, fun h => by simp [doE] at h⟩ ?_
    have : actM 0 504 ⟨M, R, pc, ins, bg, st, false⟩ (doE ⟨14, a, b, c, (t : Int)⟩ R pc) = ⟨M, R, pc + 1, ins, bg, st + 1, false⟩ := by
      simp only [actM, doE, rg]; simp; simp only [List.getD_eq_getElem?_getD] at e; rw [if_neg e]; rfl
    rw [this]; exact h2 e
theorem Ends.ne (t : Nat) (a b : Nat) (c : Int) (hl : l[pc]? = some ⟨15, a, b, c, (t : Int)⟩) (h1 : R.getD a 0 ≠ R.getD b 0 → Ends l lo hi Q n ⟨M, R, t, ins, bg, st + 1, false⟩) (h2 : R.getD a 0 = R.getD b 0 → Ends l lo hi Q n ⟨M, R, pc + 1, ins, bg, st + 1, false⟩) : Ends l lo hi Q (n + 1) ⟨M, R, pc, ins, bg, st, false⟩ := by
  by_cases e : R.getD a 0 = R.getD b 0
  · refine Ends.step _ hl rfl ⟨fun h => by simp [doE] at h, fun h => by simp [doE] at h, fun h => by simp [doE] at h⟩ ?_
    have : actM 0 504 ⟨M, R, pc, ins, bg, st, false⟩ (doE ⟨15, a, b, c, (t : Int)⟩ R pc) = ⟨M, R, pc + 1, ins, bg, st + 1, false⟩ := by
      simp only [actM, doE, rg]; simp; simp only [List.getD_eq_getElem?_getD] at e; rw [if_pos e]; rfl
    rw [this]; exact h2 e
  · refine Ends.step _ hl rfl ⟨fun h => by simp [doE] at h, fun h => by simp [doE] at h, fun h => by simp [doE] at h⟩ ?_
    have : actM 0 504 ⟨M, R, pc, ins, bg, st, false⟩ (doE ⟨15, a, b, c, (t : Int)⟩ R pc) = ⟨M, R, t, ins, bg, st + 1, false⟩ := by
      simp only [actM, doE, rg]; simp; simp only [List.getD_eq_getElem?_getD] at e; rw [if_neg e]; rfl
    rw [this]; exact h1 e
theorem Ends.lt (t : Nat) (a b : Nat) (c : Int) (hl : l[pc]? = some ⟨16, a, b, c, (t : Int)⟩) (h1 : R.getD a 0 < R.getD b 0 → Ends l lo hi Q n ⟨M, R, t, ins, bg, st + 1, false⟩) (h2 : R.getD b 0 ≤ R.getD a 0 → Ends l lo hi Q n ⟨M, R, pc + 1, ins, bg, st + 1, false⟩) : Ends l lo hi Q (n + 1) ⟨M, R, pc, ins, bg, st, false⟩ := by
  by_cases e : R.getD a 0 < R.getD b 0
  · refine Ends.step _ hl rfl ⟨fun h => by simp [doE] at h, fun h => by simp [doE] at h, fun h => by simp [doE] at h⟩ ?_
    have : actM 0 504 ⟨M, R, pc, ins, bg, st, false⟩ (doE ⟨16, a, b, c, (t : Int)⟩ R pc) = ⟨M, R, t, ins, bg, st + 1, false⟩ := by
      simp only [actM, doE, rg]; simp; simp only [List.getD_eq_getElem?_getD] at e; rw [if_pos e]; rfl
    rw [this]; exact h1 e
  · refine Ends.step _ hl rfl ⟨fun h => by simp [doE] at h, fun h => by simp [doE] at h, fun h => by simp [doE] at h⟩ ?_
    have : actM 0 504 ⟨M, R, pc, ins, bg, st, false⟩ (doE ⟨16, a, b, c, (t : Int)⟩ R pc) = ⟨M, R, pc + 1, ins, bg, st + 1, false⟩ := by
      simp only [actM, doE, rg]; simp; simp only [List.getD_eq_getElem?_getD] at e; rw [if_neg e]; rfl
    rw [this]; exact h2 (by omega)
theorem Ends.beg (a b c x : Int) (hl : l[pc]? = some ⟨17, a, b, c, x⟩) (hi0 : ins = false) (h : Ends l lo hi Q n ⟨M, R, pc + 1, true, bg + 1, st + 1, false⟩) : Ends l lo hi Q (n + 1) ⟨M, R, pc, ins, bg, st, false⟩ := by
  subst hi0
  exact Ends.step _ hl rfl ⟨fun h => by simp [doE] at h, fun h => rfl, fun h => by simp [doE] at h⟩ h
theorem Ends.fin (a b c x : Int) (hl : l[pc]? = some ⟨18, a, b, c, x⟩) (hi0 : ins = true) (h : Ends l lo hi Q n ⟨M, R, pc + 1, false, bg, st + 1, false⟩) : Ends l lo hi Q (n + 1) ⟨M, R, pc, ins, bg, st, false⟩ := by
  subst hi0
  exact Ends.step _ hl rfl ⟨fun h => by simp [doE] at h, fun h => by simp [doE] at h, fun h => rfl⟩ h
end
def mm (M : List Int) (A : Int) : Int := M.getD A.toNat 0
theorem mm_set {M : List Int} (hM : M.length = 504) {A B : Int} (v : Int) (h0 : 0 ≤ A) (h1 : A < 504) (h2 : 0 ≤ B) : mm (M.set A.toNat v) B = if B = A then v else mm M B := by
  unfold mm
  by_cases e : B = A
  · subst e; rw [if_pos rfl]
    have : B.toNat < M.length := by omega
    simp [List.getD, this]
  · rw [if_neg e]
    have : A.toNat ≠ B.toNat := by omega
    simp [List.getD, List.getElem?_set_ne this]
/-- The words that a code has, and where. -/
structure Rm (M : List Int) (lo hi : Int) : Prop where
  lo : 0 ≤ lo
  hi : hi ≤ 504
  len : M.length = 504
theorem Rm.set {M : List Int} {lo hi : Int} (h : Rm M lo hi) (k : Nat) (v : Int) : Rm (M.set k v) lo hi := ⟨h.lo, h.hi, by rw [List.length_set]; exact h.len⟩
section
variable {l : List Ins} {lo hi : Int} {Q : Mach → Prop} {n : Nat} {M R : List Int} {pc : Nat} {ins : Bool} {bg st : Nat}
theorem st_set (v : Int) (R' : List Int) (a : Nat) (b c x : Int) (hl : l[pc]? = some ⟨2, a, b, c, x⟩) (hv : u64 x = v) (hR : R.set a v = R') (h : Ends l lo hi Q n ⟨M, R', pc + 1, ins, bg, st + 1, false⟩) : Ends l lo hi Q (n + 1) ⟨M, R, pc, ins, bg, st, false⟩ := by
  subst hv hR; exact Ends.set a b c x hl h
theorem st_mov (v : Int) (R' : List Int) (a b : Nat) (c x : Int) (hl : l[pc]? = some ⟨3, a, b, c, x⟩) (hv : R.getD b 0 = v) (hR : R.set a v = R') (h : Ends l lo hi Q n ⟨M, R', pc + 1, ins, bg, st + 1, false⟩) : Ends l lo hi Q (n + 1) ⟨M, R, pc, ins, bg, st, false⟩ := by
  subst hv hR; exact Ends.mov a b c x hl h
theorem st_add (v x y : Int) (R' : List Int) (a b c : Nat) (im : Int) (hl : l[pc]? = some ⟨4, a, b, c, im⟩) (hx : R.getD b 0 = x) (hy : R.getD c 0 = y) (hv : u64 (x + y) = v) (hR : R.set a v = R') (h : Ends l lo hi Q n ⟨M, R', pc + 1, ins, bg, st + 1, false⟩) : Ends l lo hi Q (n + 1) ⟨M, R, pc, ins, bg, st, false⟩ := by
  subst hv hR hx hy; exact Ends.add a b c im hl h
theorem st_sub (v x y : Int) (R' : List Int) (a b c : Nat) (im : Int) (hl : l[pc]? = some ⟨5, a, b, c, im⟩) (hx : R.getD b 0 = x) (hy : R.getD c 0 = y) (hv : u64 (x - y) = v) (hR : R.set a v = R') (h : Ends l lo hi Q n ⟨M, R', pc + 1, ins, bg, st + 1, false⟩) : Ends l lo hi Q (n + 1) ⟨M, R, pc, ins, bg, st, false⟩ := by
  subst hv hR hx hy; exact Ends.sub a b c im hl h
theorem st_and (v x y : Int) (R' : List Int) (a b c : Nat) (im : Int) (hl : l[pc]? = some ⟨7, a, b, c, im⟩) (hx : R.getD b 0 = x) (hy : R.getD c 0 = y) (hv : bits BinOp.and IntKind.u64 x y = v) (hR : R.set a v = R') (h : Ends l lo hi Q n ⟨M, R', pc + 1, ins, bg, st + 1, false⟩) : Ends l lo hi Q (n + 1) ⟨M, R, pc, ins, bg, st, false⟩ := by
  subst hv hR hx hy; exact Ends.and a b c im hl h
theorem adr {x y A : Int} (h : x + y = A) (hx : 0 ≤ x) (hy : 0 ≤ y) (hA : A < 504) : u64 (x + u64 y) = A := by
  rw [u64_in hy (by omega), u64_in (by omega) (by omega)]; exact h
theorem st_ld (A x v : Int) (R' : List Int) (a b : Nat) (c y : Int) (hl : l[pc]? = some ⟨11, a, b, c, y⟩) (hr : Rm M lo hi) (hx : R.getD b 0 = x) (hA : x + y = A) (b0 : 0 ≤ x) (b1 : 0 ≤ y) (h0 : lo ≤ A) (h1 : A < hi) (hv : mm M A = v) (hR : R.set a v = R') (h : Ends l lo hi Q n ⟨M, R', pc + 1, true, bg, st + 1, false⟩) : Ends l lo hi Q (n + 1) ⟨M, R, pc, true, bg, st, false⟩ := by
  subst hv hR; exact Ends.load A a b c y hl rfl (by rw [hx]; exact adr hA b0 b1 (by have := hr.hi; omega)) h0 h1 hr.lo hr.hi hr.len h
theorem st_st (A x v : Int) (M' : List Int) (a b : Nat) (c y : Int) (hl : l[pc]? = some ⟨12, a, b, c, y⟩) (hr : Rm M lo hi) (hx : R.getD b 0 = x) (hA : x + y = A) (b0 : 0 ≤ x) (b1 : 0 ≤ y) (h0 : lo ≤ A) (h1 : A < hi) (hv : R.getD a 0 = v) (hM : M.set A.toNat v = M') (h : Ends l lo hi Q n ⟨M', R, pc + 1, true, bg, st + 1, false⟩) : Ends l lo hi Q (n + 1) ⟨M, R, pc, true, bg, st, false⟩ := by
  subst hv hM; exact Ends.store A a b c y hl rfl (by rw [hx]; exact adr hA b0 b1 (by have := hr.hi; omega)) h0 h1 hr.lo hr.hi hr.len h
theorem st_jump (t : Nat) (a b c : Int) (hl : l[pc]? = some ⟨13, a, b, c, (t : Int)⟩) (h : Ends l lo hi Q n ⟨M, R, t, ins, bg, st + 1, false⟩) : Ends l lo hi Q (n + 1) ⟨M, R, pc, ins, bg, st, false⟩ := Ends.jump t a b c hl h
theorem st_eq (x y : Int) (t : Nat) (a b : Nat) (c : Int) (hl : l[pc]? = some ⟨14, a, b, c, (t : Int)⟩) (hx : R.getD a 0 = x) (hy : R.getD b 0 = y) (h1 : x = y → Ends l lo hi Q n ⟨M, R, t, ins, bg, st + 1, false⟩) (h2 : x ≠ y → Ends l lo hi Q n ⟨M, R, pc + 1, ins, bg, st + 1, false⟩) : Ends l lo hi Q (n + 1) ⟨M, R, pc, ins, bg, st, false⟩ := by
  subst hx hy; exact Ends.eq t a b c hl h1 h2
theorem st_ne (x y : Int) (t : Nat) (a b : Nat) (c : Int) (hl : l[pc]? = some ⟨15, a, b, c, (t : Int)⟩) (hx : R.getD a 0 = x) (hy : R.getD b 0 = y) (h1 : x ≠ y → Ends l lo hi Q n ⟨M, R, t, ins, bg, st + 1, false⟩) (h2 : x = y → Ends l lo hi Q n ⟨M, R, pc + 1, ins, bg, st + 1, false⟩) : Ends l lo hi Q (n + 1) ⟨M, R, pc, ins, bg, st, false⟩ := by
  subst hx hy; exact Ends.ne t a b c hl h1 h2
theorem st_lt (x y : Int) (t : Nat) (a b : Nat) (c : Int) (hl : l[pc]? = some ⟨16, a, b, c, (t : Int)⟩) (hx : R.getD a 0 = x) (hy : R.getD b 0 = y) (h1 : x < y → Ends l lo hi Q n ⟨M, R, t, ins, bg, st + 1, false⟩) (h2 : y ≤ x → Ends l lo hi Q n ⟨M, R, pc + 1, ins, bg, st + 1, false⟩) : Ends l lo hi Q (n + 1) ⟨M, R, pc, ins, bg, st, false⟩ := by
  subst hx hy; exact Ends.lt t a b c hl h1 h2
end
def hPutB (P : Nat) (base bk cap : Int) : List Ins := [
  ⟨2, 0, 0, 0, 0⟩,
  ⟨2, 1, 0, 0, 0⟩,
  ⟨2, 2, 0, 0, 0⟩,
  ⟨2, 7, 0, 0, 0⟩,
  ⟨17, 0, 0, 0, 0⟩,
  ⟨2, 5, 0, 0, bk - 1⟩,
  ⟨7, 5, 3, 5, 0⟩,
  ⟨2, 2, 0, 0, base + 1 + 1⟩,
  ⟨4, 5, 5, 2, 0⟩,
  ⟨11, 6, 5, 0, 0⟩,
  ⟨14, 6, 7, 0, ((P + 20 : Nat) : Int)⟩,
  ⟨11, 2, 6, 0, base + 2 + bk - 1 + 0⟩,
  ⟨14, 2, 3, 0, ((P + 16 : Nat) : Int)⟩,
  ⟨2, 2, 0, 0, base + 2 + bk - 1 + 2⟩,
  ⟨4, 5, 6, 2, 0⟩,
  ⟨13, 0, 0, 0, ((P + 9 : Nat) : Int)⟩,
  ⟨11, 1, 6, 0, base + 2 + bk - 1 + 1⟩,
  ⟨12, 4, 6, 0, base + 2 + bk - 1 + 1⟩,
  ⟨2, 0, 0, 0, 2⟩,
  ⟨13, 0, 0, 0, ((P + 38 : Nat) : Int)⟩,
  ⟨11, 6, 7, 0, base + 1⟩,
  ⟨15, 6, 7, 0, ((P + 31 : Nat) : Int)⟩,
  ⟨11, 6, 7, 0, base⟩,
  ⟨2, 2, 0, 0, 3 * cap⟩,
  ⟨14, 6, 2, 0, ((P + 38 : Nat) : Int)⟩,
  ⟨2, 2, 0, 0, 3⟩,
  ⟨4, 2, 6, 2, 0⟩,
  ⟨12, 2, 7, 0, base⟩,
  ⟨2, 2, 0, 0, 1⟩,
  ⟨4, 6, 6, 2, 0⟩,
  ⟨13, 0, 0, 0, ((P + 33 : Nat) : Int)⟩,
  ⟨11, 2, 6, 0, base + 2 + bk - 1 + 2⟩,
  ⟨12, 2, 7, 0, base + 1⟩,
  ⟨12, 3, 6, 0, base + 2 + bk - 1 + 0⟩,
  ⟨12, 4, 6, 0, base + 2 + bk - 1 + 1⟩,
  ⟨12, 7, 6, 0, base + 2 + bk - 1 + 2⟩,
  ⟨12, 6, 5, 0, 0⟩,
  ⟨2, 0, 0, 0, 1⟩,
  ⟨2, 2, 0, 0, 0⟩,
  ⟨18, 0, 0, 0, 0⟩]

def hGetB (P : Nat) (base bk cap : Int) : List Ins := [
  ⟨2, 0, 0, 0, 0⟩,
  ⟨2, 1, 0, 0, 0⟩,
  ⟨2, 2, 0, 0, 0⟩,
  ⟨2, 7, 0, 0, 0⟩,
  ⟨17, 0, 0, 0, 0⟩,
  ⟨2, 5, 0, 0, bk - 1⟩,
  ⟨7, 5, 3, 5, 0⟩,
  ⟨2, 2, 0, 0, base + 1 + 1⟩,
  ⟨4, 5, 5, 2, 0⟩,
  ⟨11, 6, 5, 0, 0⟩,
  ⟨14, 6, 7, 0, ((P + 18 : Nat) : Int)⟩,
  ⟨11, 2, 6, 0, base + 2 + bk - 1 + 0⟩,
  ⟨14, 2, 3, 0, ((P + 16 : Nat) : Int)⟩,
  ⟨2, 2, 0, 0, base + 2 + bk - 1 + 2⟩,
  ⟨4, 5, 6, 2, 0⟩,
  ⟨13, 0, 0, 0, ((P + 9 : Nat) : Int)⟩,
  ⟨11, 1, 6, 0, base + 2 + bk - 1 + 1⟩,
  ⟨2, 0, 0, 0, 1⟩,
  ⟨2, 2, 0, 0, 0⟩,
  ⟨18, 0, 0, 0, 0⟩]

def hCutB (P : Nat) (base bk cap : Int) : List Ins := [
  ⟨2, 0, 0, 0, 0⟩,
  ⟨2, 1, 0, 0, 0⟩,
  ⟨2, 2, 0, 0, 0⟩,
  ⟨2, 7, 0, 0, 0⟩,
  ⟨17, 0, 0, 0, 0⟩,
  ⟨2, 5, 0, 0, bk - 1⟩,
  ⟨7, 5, 3, 5, 0⟩,
  ⟨2, 2, 0, 0, base + 1 + 1⟩,
  ⟨4, 5, 5, 2, 0⟩,
  ⟨11, 6, 5, 0, 0⟩,
  ⟨14, 6, 7, 0, ((P + 23 : Nat) : Int)⟩,
  ⟨11, 2, 6, 0, base + 2 + bk - 1 + 0⟩,
  ⟨14, 2, 3, 0, ((P + 16 : Nat) : Int)⟩,
  ⟨2, 2, 0, 0, base + 2 + bk - 1 + 2⟩,
  ⟨4, 5, 6, 2, 0⟩,
  ⟨13, 0, 0, 0, ((P + 9 : Nat) : Int)⟩,
  ⟨11, 1, 6, 0, base + 2 + bk - 1 + 1⟩,
  ⟨11, 2, 6, 0, base + 2 + bk - 1 + 2⟩,
  ⟨12, 2, 5, 0, 0⟩,
  ⟨11, 2, 7, 0, base + 1⟩,
  ⟨12, 2, 6, 0, base + 2 + bk - 1 + 2⟩,
  ⟨12, 6, 7, 0, base + 1⟩,
  ⟨2, 0, 0, 0, 1⟩,
  ⟨2, 2, 0, 0, 0⟩,
  ⟨18, 0, 0, 0, 0⟩]

def tPutB (P : Nat) (base cap : Int) : List Ins := [
  ⟨2, 0, 0, 0, 0⟩,
  ⟨2, 1, 0, 0, 0⟩,
  ⟨2, 2, 0, 0, 0⟩,
  ⟨2, 7, 0, 0, 0⟩,
  ⟨17, 0, 0, 0, 0⟩,
  ⟨2, 5, 0, 0, base⟩,
  ⟨11, 6, 5, 0, 0⟩,
  ⟨14, 6, 7, 0, ((P + 21 : Nat) : Int)⟩,
  ⟨11, 2, 6, 0, base + 3 - 1 + 0⟩,
  ⟨14, 2, 3, 0, ((P + 17 : Nat) : Int)⟩,
  ⟨16, 3, 2, 0, ((P + 14 : Nat) : Int)⟩,
  ⟨2, 2, 0, 0, base + 3 - 1 + 3⟩,
  ⟨4, 5, 6, 2, 0⟩,
  ⟨13, 0, 0, 0, ((P + 6 : Nat) : Int)⟩,
  ⟨2, 2, 0, 0, base + 3 - 1 + 2⟩,
  ⟨4, 5, 6, 2, 0⟩,
  ⟨13, 0, 0, 0, ((P + 6 : Nat) : Int)⟩,
  ⟨11, 1, 6, 0, base + 3 - 1 + 1⟩,
  ⟨12, 4, 6, 0, base + 3 - 1 + 1⟩,
  ⟨2, 0, 0, 0, 2⟩,
  ⟨13, 0, 0, 0, ((P + 40 : Nat) : Int)⟩,
  ⟨11, 6, 7, 0, base + 2⟩,
  ⟨15, 6, 7, 0, ((P + 32 : Nat) : Int)⟩,
  ⟨11, 6, 7, 0, base + 1⟩,
  ⟨2, 2, 0, 0, 4 * cap⟩,
  ⟨14, 6, 2, 0, ((P + 40 : Nat) : Int)⟩,
  ⟨2, 2, 0, 0, 4⟩,
  ⟨4, 2, 6, 2, 0⟩,
  ⟨12, 2, 7, 0, base + 1⟩,
  ⟨2, 2, 0, 0, 1⟩,
  ⟨4, 6, 6, 2, 0⟩,
  ⟨13, 0, 0, 0, ((P + 34 : Nat) : Int)⟩,
  ⟨11, 2, 6, 0, base + 3 - 1 + 2⟩,
  ⟨12, 2, 7, 0, base + 2⟩,
  ⟨12, 3, 6, 0, base + 3 - 1 + 0⟩,
  ⟨12, 4, 6, 0, base + 3 - 1 + 1⟩,
  ⟨12, 7, 6, 0, base + 3 - 1 + 2⟩,
  ⟨12, 7, 6, 0, base + 3 - 1 + 3⟩,
  ⟨12, 6, 5, 0, 0⟩,
  ⟨2, 0, 0, 0, 1⟩,
  ⟨2, 2, 0, 0, 0⟩,
  ⟨18, 0, 0, 0, 0⟩]

def tGetB (P : Nat) (base cap : Int) : List Ins := [
  ⟨2, 0, 0, 0, 0⟩,
  ⟨2, 1, 0, 0, 0⟩,
  ⟨2, 2, 0, 0, 0⟩,
  ⟨2, 7, 0, 0, 0⟩,
  ⟨17, 0, 0, 0, 0⟩,
  ⟨2, 5, 0, 0, base⟩,
  ⟨11, 6, 5, 0, 0⟩,
  ⟨14, 6, 7, 0, ((P + 19 : Nat) : Int)⟩,
  ⟨11, 2, 6, 0, base + 3 - 1 + 0⟩,
  ⟨14, 2, 3, 0, ((P + 17 : Nat) : Int)⟩,
  ⟨16, 3, 2, 0, ((P + 14 : Nat) : Int)⟩,
  ⟨2, 2, 0, 0, base + 3 - 1 + 3⟩,
  ⟨4, 5, 6, 2, 0⟩,
  ⟨13, 0, 0, 0, ((P + 6 : Nat) : Int)⟩,
  ⟨2, 2, 0, 0, base + 3 - 1 + 2⟩,
  ⟨4, 5, 6, 2, 0⟩,
  ⟨13, 0, 0, 0, ((P + 6 : Nat) : Int)⟩,
  ⟨11, 1, 6, 0, base + 3 - 1 + 1⟩,
  ⟨2, 0, 0, 0, 1⟩,
  ⟨2, 2, 0, 0, 0⟩,
  ⟨18, 0, 0, 0, 0⟩]

def tCutB (P : Nat) (base cap : Int) : List Ins := [
  ⟨2, 0, 0, 0, 0⟩,
  ⟨2, 1, 0, 0, 0⟩,
  ⟨2, 2, 0, 0, 0⟩,
  ⟨2, 7, 0, 0, 0⟩,
  ⟨17, 0, 0, 0, 0⟩,
  ⟨2, 5, 0, 0, base⟩,
  ⟨11, 6, 5, 0, 0⟩,
  ⟨14, 6, 7, 0, ((P + 44 : Nat) : Int)⟩,
  ⟨11, 2, 6, 0, base + 3 - 1 + 0⟩,
  ⟨14, 2, 3, 0, ((P + 17 : Nat) : Int)⟩,
  ⟨16, 3, 2, 0, ((P + 14 : Nat) : Int)⟩,
  ⟨2, 2, 0, 0, base + 3 - 1 + 3⟩,
  ⟨4, 5, 6, 2, 0⟩,
  ⟨13, 0, 0, 0, ((P + 6 : Nat) : Int)⟩,
  ⟨2, 2, 0, 0, base + 3 - 1 + 2⟩,
  ⟨4, 5, 6, 2, 0⟩,
  ⟨13, 0, 0, 0, ((P + 6 : Nat) : Int)⟩,
  ⟨11, 1, 6, 0, base + 3 - 1 + 1⟩,
  ⟨11, 2, 6, 0, base + 3 - 1 + 3⟩,
  ⟨11, 3, 6, 0, base + 3 - 1 + 2⟩,
  ⟨14, 3, 7, 0, ((P + 39 : Nat) : Int)⟩,
  ⟨14, 2, 7, 0, ((P + 38 : Nat) : Int)⟩,
  ⟨2, 2, 0, 0, base + 3 - 1 + 3⟩,
  ⟨4, 4, 6, 2, 0⟩,
  ⟨11, 3, 4, 0, 0⟩,
  ⟨11, 2, 3, 0, base + 3 - 1 + 2⟩,
  ⟨14, 2, 7, 0, ((P + 30 : Nat) : Int)⟩,
  ⟨2, 2, 0, 0, base + 3 - 1 + 2⟩,
  ⟨4, 4, 3, 2, 0⟩,
  ⟨13, 0, 0, 0, ((P + 24 : Nat) : Int)⟩,
  ⟨11, 2, 3, 0, base + 3 - 1 + 0⟩,
  ⟨12, 2, 6, 0, base + 3 - 1 + 0⟩,
  ⟨11, 2, 3, 0, base + 3 - 1 + 1⟩,
  ⟨12, 2, 6, 0, base + 3 - 1 + 1⟩,
  ⟨3, 6, 3, 0, 0⟩,
  ⟨3, 5, 4, 0, 0⟩,
  ⟨11, 2, 6, 0, base + 3 - 1 + 3⟩,
  ⟨13, 0, 0, 0, ((P + 39 : Nat) : Int)⟩,
  ⟨3, 2, 3, 0, 0⟩,
  ⟨12, 2, 5, 0, 0⟩,
  ⟨11, 2, 7, 0, base + 2⟩,
  ⟨12, 2, 6, 0, base + 3 - 1 + 2⟩,
  ⟨12, 6, 7, 0, base + 2⟩,
  ⟨2, 0, 0, 0, 1⟩,
  ⟨2, 2, 0, 0, 0⟩,
  ⟨18, 0, 0, 0, 0⟩]

def tLeastB (P : Nat) (base cap : Int) : List Ins := [
  ⟨2, 0, 0, 0, 0⟩,
  ⟨2, 1, 0, 0, 0⟩,
  ⟨2, 2, 0, 0, 0⟩,
  ⟨2, 7, 0, 0, 0⟩,
  ⟨17, 0, 0, 0, 0⟩,
  ⟨11, 6, 7, 0, base⟩,
  ⟨14, 6, 7, 0, ((P + 14 : Nat) : Int)⟩,
  ⟨11, 5, 6, 0, base + 3 - 1 + 2⟩,
  ⟨14, 5, 7, 0, ((P + 11 : Nat) : Int)⟩,
  ⟨3, 6, 5, 0, 0⟩,
  ⟨13, 0, 0, 0, ((P + 7 : Nat) : Int)⟩,
  ⟨11, 1, 6, 0, base + 3 - 1 + 0⟩,
  ⟨11, 2, 6, 0, base + 3 - 1 + 1⟩,
  ⟨2, 0, 0, 0, 1⟩,
  ⟨18, 0, 0, 0, 0⟩]

def qPushB (P : Nat) (base cap : Int) : List Ins := [
  ⟨2, 0, 0, 0, 0⟩,
  ⟨2, 1, 0, 0, 0⟩,
  ⟨2, 2, 0, 0, 0⟩,
  ⟨2, 7, 0, 0, 0⟩,
  ⟨17, 0, 0, 0, 0⟩,
  ⟨11, 4, 7, 0, base + 1⟩,
  ⟨2, 5, 0, 0, cap⟩,
  ⟨14, 4, 5, 0, ((P + 17 : Nat) : Int)⟩,
  ⟨11, 6, 7, 0, base⟩,
  ⟨4, 6, 6, 4, 0⟩,
  ⟨16, 6, 5, 0, ((P + 12 : Nat) : Int)⟩,
  ⟨5, 6, 6, 5, 0⟩,
  ⟨12, 3, 6, 0, base + 2⟩,
  ⟨2, 2, 0, 0, 1⟩,
  ⟨4, 4, 4, 2, 0⟩,
  ⟨12, 4, 7, 0, base + 1⟩,
  ⟨2, 0, 0, 0, 1⟩,
  ⟨2, 2, 0, 0, 0⟩,
  ⟨18, 0, 0, 0, 0⟩]

def qPopB (P : Nat) (base cap : Int) : List Ins := [
  ⟨2, 0, 0, 0, 0⟩,
  ⟨2, 1, 0, 0, 0⟩,
  ⟨2, 2, 0, 0, 0⟩,
  ⟨2, 7, 0, 0, 0⟩,
  ⟨17, 0, 0, 0, 0⟩,
  ⟨11, 4, 7, 0, base + 1⟩,
  ⟨14, 4, 7, 0, ((P + 19 : Nat) : Int)⟩,
  ⟨11, 6, 7, 0, base⟩,
  ⟨11, 1, 6, 0, base + 2⟩,
  ⟨2, 2, 0, 0, -1⟩,
  ⟨4, 4, 4, 2, 0⟩,
  ⟨12, 4, 7, 0, base + 1⟩,
  ⟨2, 2, 0, 0, 1⟩,
  ⟨4, 6, 6, 2, 0⟩,
  ⟨2, 5, 0, 0, cap⟩,
  ⟨16, 6, 5, 0, ((P + 17 : Nat) : Int)⟩,
  ⟨2, 6, 0, 0, 0⟩,
  ⟨12, 6, 7, 0, base⟩,
  ⟨2, 0, 0, 0, 1⟩,
  ⟨2, 2, 0, 0, 0⟩,
  ⟨18, 0, 0, 0, 0⟩]

/-- A hash's words. -/
def hPS (base bk cap : Int) : PS where
  root a := base + 2 ≤ a ∧ a < base + 2 + bk
  free := base + 1
  fresh := base
  node n := ∃ i, 0 ≤ i ∧ i < cap ∧ n = 3 * i + 1
  lk n a := a = n + (base + 2 + bk - 1 + 2)
  nx n := n + (base + 2 + bk - 1 + 2)
  each := 3
  top := 3 * cap
structure HR (base bk cap : Int) : Prop where
  b0 : 0 ≤ base
  k0 : 1 ≤ bk
  k1 : bk ≤ 64
  c0 : 1 ≤ cap
  top : base + 2 + bk + 3 * cap ≤ 504
theorem hSep {base bk cap : Int} (h : HR base bk cap) : (hPS base bk cap).Sep := by
  have := h.b0; have := h.k0; have := h.c0
  refine ⟨?_, ?_, ?_, ?_, ?_, ?_⟩ <;> simp only [hPS]
  · rintro n ⟨i, h1, h2, rfl⟩; omega
  · intro n _; trivial
  · intro n m a _ _ e f; omega
  · rintro n a ⟨i, h1, h2, rfl⟩ e; omega
  · intro a ⟨h1, h2⟩; omega
  · omega
structure HS (base bk cap : Int) (M : List Int) (B : Nat) (live fr : Int → Prop) (rk : Int → Nat) : Prop where
  p : PInv (hPS base bk cap) (mm M) B live fr rk
  f : ∃ i, 0 ≤ i ∧ i ≤ cap ∧ mm M base = 3 * i
theorem hnode {base bk cap : Int} {n : Int} (h : (hPS base bk cap).node n) : 1 ≤ n ∧ n ≤ 3 * cap - 2 := by
  obtain ⟨i, h1, h2, rfl⟩ := h; omega
theorem hLW {base bk cap : Int} (hr : HR base bk cap) {M : List Int} {B : Nat} {live fr : Int → Prop} {rk : Int → Nat} (h : PInv (hPS base bk cap) (mm M) B live fr rk) {a : Int} (ha : LW (hPS base bk cap) live a) :
    base + 2 ≤ a ∧ a < base + 2 + bk + 3 * cap ∧ (mm M a = 0 ∨ live (mm M a)) ∧ (hPS base bk cap).ptr a ∧ a ≠ base ∧ a ≠ base + 1 := by
  have := hr.b0; have := hr.k0; have := hr.c0
  rcases ha with ha | ⟨m, hm, ha⟩
  · have q := h.roots a ha
    simp only [hPS] at ha
    exact ⟨by omega, by omega, q, .inl ha, by omega, by omega⟩
  · have q := h.links m a hm ha
    have w := hnode (h.lnode m hm).1
    have r := (h.lnode m hm).1
    simp only [hPS] at ha
    exact ⟨by omega, by omega, q, .inr (.inr (.inr ⟨m, r, ha⟩)), by omega, by omega⟩

section
variable {l : List Ins} {Q : Mach → Prop} {base bk cap : Int} (hr : HR base bk cap) {M : List Int} {B : Nat} {live fr : Int → Prop} {rk : Int → Nat} (h : PInv (hPS base bk cap) (mm M) B live fr rk) (hM : M.length = 504)
include hr h hM
theorem hsearch (s tn tf N : Nat) (key v : Int) (bg : Nat)
    (g0 : l[s]? = some ⟨11, 6, 5, 0, 0⟩) (g1 : l[s + 1]? = some ⟨14, 6, 7, 0, (tn : Int)⟩) (g2 : l[s + 2]? = some ⟨11, 2, 6, 0, base + 2 + bk - 1 + 0⟩) (g3 : l[s + 3]? = some ⟨14, 2, 3, 0, (tf : Int)⟩)
    (g4 : l[s + 4]? = some ⟨2, 2, 0, 0, base + 2 + bk - 1 + 2⟩) (g5 : l[s + 5]? = some ⟨4, 5, 6, 2, 0⟩) (g6 : l[s + 6]? = some ⟨13, 0, 0, 0, (s : Int)⟩)
    (hn : ∀ a r2 st, LW (hPS base bk cap) live a → mm M a = 0 → Ends l base (base + 2 + bk + 3 * cap) Q N ⟨M, [0, 0, r2, key, v, a, 0, 0], tn, true, bg, st, false⟩)
    (hf : ∀ a x r2 st, LW (hPS base bk cap) live a → mm M a = x → live x → Ends l base (base + 2 + bk + 3 * cap) Q N ⟨M, [0, 0, r2, key, v, a, x, 0], tf, true, bg, st, false⟩) :
    ∀ (k : Nat) (a r2 r6 : Int) (st : Nat), LW (hPS base bk cap) live a → (mm M a ≠ 0 → rk (mm M a) < k) → Ends l base (base + 2 + bk + 3 * cap) Q (N + 7 * k + 4) ⟨M, [0, 0, r2, key, v, a, r6, 0], s, true, bg, st, false⟩ := by
  have hb0 := hr.b0; have hk0 := hr.k0; have hc0 := hr.c0; have htop := hr.top
  have hR : Rm M base (base + 2 + bk + 3 * cap) := ⟨hr.b0, hr.top, hM⟩
  intro k
  induction k with
  | zero =>
    intro a r2 r6 st ha hk
    have q := hLW hr h ha
    have e0 : mm M a = 0 := Classical.byContradiction fun e => absurd (hk e) (by omega)
    refine st_ld a a 0 [0, 0, r2, key, v, a, 0, 0] 6 5 0 0 g0 hR rfl (by omega) (by omega) (by omega) (by omega) (by omega) e0 rfl ?_
    refine st_eq 0 0 tn 6 7 0 g1 rfl rfl (fun _ => ?_) (fun e => absurd rfl e)
    exact (hn a r2 _ ha e0).more (by omega)
  | succ k ih =>
    intro a r2 r6 st ha hk
    have q := hLW hr h ha
    obtain ⟨x, hx⟩ : ∃ x, mm M a = x := ⟨_, rfl⟩
    rw [hx] at q hk
    rw [show N + 7 * (k + 1) + 4 = (N + 7 * k + 4 + 5) + 1 + 1 by omega]
    refine st_ld a a x [0, 0, r2, key, v, a, x, 0] 6 5 0 0 g0 hR rfl (by omega) (by omega) (by omega) (by omega) (by omega) hx rfl ?_
    refine st_eq x 0 tn 6 7 0 g1 rfl rfl (fun e => ?_) (fun e => ?_)
    · subst e; exact (hn a r2 _ ha hx).more (by omega)
    · have hlx : live x := q.2.2.1.resolve_left e
      have hnx := hnode (h.lnode x hlx).1
      refine st_ld (x + (base + 2 + bk - 1 + 0)) x _ [0, 0, mm M (x + (base + 2 + bk - 1 + 0)), key, v, a, x, 0] 2 6 0 _ g2 hR rfl (by omega) (by omega) (by omega) (by omega) (by omega) rfl rfl ?_
      refine st_eq _ key tf 2 3 0 g3 rfl rfl (fun e2 => ?_) (fun e2 => ?_)
      · exact (hf a x _ _ ha hx hlx).more (by omega)
      · refine st_set (base + 2 + bk - 1 + 2) [0, 0, base + 2 + bk - 1 + 2, key, v, a, x, 0] 2 0 0 _ g4 (u64_in (by omega) (by omega)) rfl ?_
        refine st_add (x + (base + 2 + bk - 1 + 2)) x (base + 2 + bk - 1 + 2) [0, 0, base + 2 + bk - 1 + 2, key, v, x + (base + 2 + bk - 1 + 2), x, 0] 5 6 2 0 g5 rfl rfl (u64_in (by omega) (by omega)) rfl ?_
        refine st_jump s 0 0 0 g6 ?_
        refine ih _ _ _ _ (.inr ⟨x, hlx, rfl⟩) (fun e3 => ?_)
        have h1 := h.rank x (x + (base + 2 + bk - 1 + 2)) hlx rfl e3
        have h2 := hk e
        omega
end

def HOk (base bk cap : Int) (B : Nat) (M : List Int) : Prop := ∃ live fr rk, HS base bk cap M B live fr rk
/-- A code is at its end, and what it leaves. -/
def Done (l : List Ins) (bg : Nat) (I : List Int → Prop) (m : Mach) : Prop := m.pc = l.length ∧ m.bad = false ∧ m.inside = false ∧ m.begun = bg + 1 ∧ m.mem.length = 504 ∧ I m.mem
theorem PInv.up {p : PS} {M : Int → Int} {B : Nat} {live fr : Int → Prop} {rk : Int → Nat} (h : PInv p M B live fr rk) : PInv p M (B + 1) live fr rk :=
  ⟨h.lnode, h.fnode, h.disj, h.roots, h.links, h.freeh, h.freen, h.inj, h.rank, fun n hn => Nat.le_succ_of_le (h.bound n hn)⟩
theorem hptr {base bk cap : Int} (hr : HR base bk cap) {b : Int} (h : (hPS base bk cap).ptr b) : base ≤ b ∧ b < base + 2 + bk + 3 * cap := by
  have := hr.b0; have := hr.k0; have := hr.c0
  rcases h with h | h | h | ⟨m, hm, h⟩
  · simp only [hPS] at h; omega
  · simp only [hPS] at h; omega
  · simp only [hPS] at h; omega
  · have := hnode hm; simp only [hPS] at h; omega
theorem hword {base bk cap : Int} (hr : HR base bk cap) {b n : Int} (h : (hPS base bk cap).ptr b) (hn : (hPS base bk cap).node n) : b ≠ n + (base + 2 + bk - 1 + 0) ∧ b ≠ n + (base + 2 + bk - 1 + 1) := by
  have := hr.b0; have := hr.k0; have := hr.c0; have := hnode hn
  rcases h with h | h | h | ⟨m, hm, h⟩
  · simp only [hPS] at h; omega
  · simp only [hPS] at h; omega
  · simp only [hPS] at h; omega
  · obtain ⟨i, h1, h2, rfl⟩ := hn
    obtain ⟨j, h3, h4, rfl⟩ := hm
    simp only [hPS] at h; omega
theorem hGet_ends {l : List Ins} {base bk cap : Int} (hr : HR base bk cap) {M : List Int} {B : Nat} {live fr : Int → Prop} {rk : Int → Nat} (h : HS base bk cap M B live fr rk) (hM : M.length = 504) (P : Nat) (hl : ∀ j, l[P + j]? = (hGetB P base bk cap)[j]?) (hlen : l.length = P + 20) (R : List Int) (r0 r1 r2 k v r5 r6 r7 : Int) (hRg : R = [r0, r1, r2, k, v, r5, r6, r7]) (ins : Bool) (hin : ins = false) (bg st : Nat) :
    Ends l base (base + 2 + bk + 3 * cap) (Done l bg (HOk base bk cap (B + 1))) (7 * B + 60) ⟨M, R, P, ins, bg, st, false⟩ := by
  subst hRg
  have hb0 := hr.b0; have hk0 := hr.k0; have hk1 := hr.k1; have hc0 := hr.c0; have htop := hr.top
  have hR : Rm M base (base + 2 + bk + 3 * cap) := ⟨hr.b0, hr.top, hM⟩
  have hS := hSep hr
  refine st_set (0) [0, r1, r2, k, v, r5, r6, r7] 0 0 0 _ (hl 0) (u64_in (by omega) (by omega)) rfl ?_
  refine st_set (0) [0, 0, r2, k, v, r5, r6, r7] 1 0 0 _ (hl 1) (u64_in (by omega) (by omega)) rfl ?_
  refine st_set (0) [0, 0, 0, k, v, r5, r6, r7] 2 0 0 _ (hl 2) (u64_in (by omega) (by omega)) rfl ?_
  refine st_set (0) [0, 0, 0, k, v, r5, r6, 0] 7 0 0 _ (hl 3) (u64_in (by omega) (by omega)) rfl ?_
  refine Ends.beg 0 0 0 0 (hl 4) hin ?_
  refine st_set (bk - 1) [0, 0, 0, k, v, bk - 1, r6, 0] 5 0 0 _ (hl 5) (u64_in (by omega) (by omega)) rfl ?_
  obtain ⟨q, hq⟩ : ∃ x, bits BinOp.and IntKind.u64 k (bk - 1) = x := ⟨_, rfl⟩
  have hq2 := and_le k (bk - 1) (by omega) (by omega)
  rw [hq] at hq2
  refine st_and q k (bk - 1) [0, 0, 0, k, v, q, r6, 0] 5 3 5 0 (hl 6) rfl rfl hq rfl ?_
  refine st_set (base + 1 + 1) [0, 0, base + 1 + 1, k, v, q, r6, 0] 2 0 0 _ (hl 7) (u64_in (by omega) (by omega)) rfl ?_
  refine st_add (q + (base + 1 + 1)) (q) (base + 1 + 1) [0, 0, base + 1 + 1, k, v, q + (base + 1 + 1), r6, 0] 5 5 2 0 (hl 8) rfl rfl (by rw [u64_in (by omega) (by omega)] <;> omega) rfl ?_
  have hlw : LW (hPS base bk cap) live (q + (base + 1 + 1)) := .inl (by simp only [hPS]; omega)
  have hrk : mm M (q + (base + 1 + 1)) ≠ 0 → rk (mm M (q + (base + 1 + 1))) < B + 1 := fun e => by
    have := h.p.bound _ (((hLW hr h.p hlw).2.2.1).resolve_left e); omega
  refine (hsearch hr h.p hM (P + 9) (P + 18) (P + 16) 30 k v (bg + 1) (hl 9) (hl 10) (hl 11) (hl 12) (hl 13) (hl 14) (hl 15) ?_ ?_ (B + 1) _ _ _ _ hlw hrk).more (by omega)
  · intro a r2 st hlw h0
    refine st_set (0) [0, 0, 0, k, v, a, 0, 0] 2 0 0 _ (hl 18) (u64_in (by omega) (by omega)) rfl ?_
    refine Ends.fin 0 0 0 0 (hl 19) rfl ?_
    exact Ends.now ⟨by show P + 20 = _; rw [hlen], rfl, rfl, rfl, hR.len, ⟨live, fr, rk, ⟨h.p.up, h.f⟩⟩⟩
  · intro a x r2 st hlw hax hlx
    have hx := hnode (h.p.lnode x hlx).1
    refine st_ld (x + (base + 2 + bk - 1 + 1)) (x) (mm M (x + (base + 2 + bk - 1 + 1))) [0, mm M (x + (base + 2 + bk - 1 + 1)), r2, k, v, a, x, 0] 1 6 0 _ (hl 16) hR rfl (by omega) (by omega) (by omega) (by omega) (by omega) rfl rfl ?_
    refine st_set (1) [1, mm M (x + (base + 2 + bk - 1 + 1)), r2, k, v, a, x, 0] 0 0 0 _ (hl 17) (u64_in (by omega) (by omega)) rfl ?_
    refine st_set (0) [1, mm M (x + (base + 2 + bk - 1 + 1)), 0, k, v, a, x, 0] 2 0 0 _ (hl 18) (u64_in (by omega) (by omega)) rfl ?_
    refine Ends.fin 0 0 0 0 (hl 19) rfl ?_
    exact Ends.now ⟨by show P + 20 = _; rw [hlen], rfl, rfl, rfl, hR.len, ⟨live, fr, rk, ⟨h.p.up, h.f⟩⟩⟩

theorem hCut_ends {l : List Ins} {base bk cap : Int} (hr : HR base bk cap) {M : List Int} {B : Nat} {live fr : Int → Prop} {rk : Int → Nat} (h : HS base bk cap M B live fr rk) (hM : M.length = 504) (P : Nat) (hl : ∀ j, l[P + j]? = (hCutB P base bk cap)[j]?) (hlen : l.length = P + 25) (R : List Int) (r0 r1 r2 k v r5 r6 r7 : Int) (hRg : R = [r0, r1, r2, k, v, r5, r6, r7]) (ins : Bool) (hin : ins = false) (bg st : Nat) :
    Ends l base (base + 2 + bk + 3 * cap) (Done l bg (HOk base bk cap (B + 1))) (7 * B + 60) ⟨M, R, P, ins, bg, st, false⟩ := by
  subst hRg
  have hb0 := hr.b0; have hk0 := hr.k0; have hk1 := hr.k1; have hc0 := hr.c0; have htop := hr.top
  have hR : Rm M base (base + 2 + bk + 3 * cap) := ⟨hr.b0, hr.top, hM⟩
  have hS := hSep hr
  refine st_set (0) [0, r1, r2, k, v, r5, r6, r7] 0 0 0 _ (hl 0) (u64_in (by omega) (by omega)) rfl ?_
  refine st_set (0) [0, 0, r2, k, v, r5, r6, r7] 1 0 0 _ (hl 1) (u64_in (by omega) (by omega)) rfl ?_
  refine st_set (0) [0, 0, 0, k, v, r5, r6, r7] 2 0 0 _ (hl 2) (u64_in (by omega) (by omega)) rfl ?_
  refine st_set (0) [0, 0, 0, k, v, r5, r6, 0] 7 0 0 _ (hl 3) (u64_in (by omega) (by omega)) rfl ?_
  refine Ends.beg 0 0 0 0 (hl 4) hin ?_
  refine st_set (bk - 1) [0, 0, 0, k, v, bk - 1, r6, 0] 5 0 0 _ (hl 5) (u64_in (by omega) (by omega)) rfl ?_
  obtain ⟨q, hq⟩ : ∃ x, bits BinOp.and IntKind.u64 k (bk - 1) = x := ⟨_, rfl⟩
  have hq2 := and_le k (bk - 1) (by omega) (by omega)
  rw [hq] at hq2
  refine st_and q k (bk - 1) [0, 0, 0, k, v, q, r6, 0] 5 3 5 0 (hl 6) rfl rfl hq rfl ?_
  refine st_set (base + 1 + 1) [0, 0, base + 1 + 1, k, v, q, r6, 0] 2 0 0 _ (hl 7) (u64_in (by omega) (by omega)) rfl ?_
  refine st_add (q + (base + 1 + 1)) (q) (base + 1 + 1) [0, 0, base + 1 + 1, k, v, q + (base + 1 + 1), r6, 0] 5 5 2 0 (hl 8) rfl rfl (by rw [u64_in (by omega) (by omega)] <;> omega) rfl ?_
  have hlw : LW (hPS base bk cap) live (q + (base + 1 + 1)) := .inl (by simp only [hPS]; omega)
  have hrk : mm M (q + (base + 1 + 1)) ≠ 0 → rk (mm M (q + (base + 1 + 1))) < B + 1 := fun e => by
    have := h.p.bound _ (((hLW hr h.p hlw).2.2.1).resolve_left e); omega
  refine (hsearch hr h.p hM (P + 9) (P + 23) (P + 16) 30 k v (bg + 1) (hl 9) (hl 10) (hl 11) (hl 12) (hl 13) (hl 14) (hl 15) ?_ ?_ (B + 1) _ _ _ _ hlw hrk).more (by omega)
  · intro a r2 st hlw h0
    refine st_set (0) [0, 0, 0, k, v, a, 0, 0] 2 0 0 _ (hl 23) (u64_in (by omega) (by omega)) rfl ?_
    refine Ends.fin 0 0 0 0 (hl 24) rfl ?_
    exact Ends.now ⟨by show P + 25 = _; rw [hlen], rfl, rfl, rfl, hR.len, ⟨live, fr, rk, ⟨h.p.up, h.f⟩⟩⟩
  · intro a x r2 st hlw hax hlx
    have hx := hnode (h.p.lnode x hlx).1
    have ha := hLW hr h.p hlw
    refine st_ld (x + (base + 2 + bk - 1 + 1)) (x) (mm M (x + (base + 2 + bk - 1 + 1))) [0, mm M (x + (base + 2 + bk - 1 + 1)), r2, k, v, a, x, 0] 1 6 0 _ (hl 16) hR rfl (by omega) (by omega) (by omega) (by omega) (by omega) rfl rfl ?_
    obtain ⟨c, hc⟩ : ∃ zz, mm M (x + (base + 2 + bk - 1 + 2)) = zz := ⟨_, rfl⟩
    refine st_ld (x + (base + 2 + bk - 1 + 2)) (x) (c) [0, mm M (x + (base + 2 + bk - 1 + 1)), c, k, v, a, x, 0] 2 6 0 _ (hl 17) hR rfl (by omega) (by omega) (by omega) (by omega) (by omega) hc rfl ?_
    obtain ⟨M1, hM1⟩ : ∃ zz, M.set (a : Int).toNat (c) = zz := ⟨_, rfl⟩
    refine st_st (a) (a) (c) M1 2 5 0 _ (hl 18) hR rfl (by omega) (by omega) (by omega) (by omega) (by omega) rfl hM1 ?_
    have hRM1 : Rm M1 _ _ := hM1 ▸ hR.set _ _
    have gM1 : ∀ B, 0 ≤ B → mm M1 B = if B = a then c else mm M B := fun B hB => by rw [← hM1]; exact mm_set hR.len _ (by omega) (by omega) hB
    obtain ⟨g, hg⟩ : ∃ zz, mm M1 (base + 1) = zz := ⟨_, rfl⟩
    refine st_ld (base + 1) (0) (g) [0, mm M (x + (base + 2 + bk - 1 + 1)), g, k, v, a, x, 0] 2 7 0 _ (hl 19) hRM1 rfl (by omega) (by omega) (by omega) (by omega) (by omega) hg rfl ?_
    obtain ⟨M2, hM2⟩ : ∃ zz, M1.set (x + (base + 2 + bk - 1 + 2) : Int).toNat (g) = zz := ⟨_, rfl⟩
    refine st_st (x + (base + 2 + bk - 1 + 2)) (x) (g) M2 2 6 0 _ (hl 20) hRM1 rfl (by omega) (by omega) (by omega) (by omega) (by omega) rfl hM2 ?_
    have hRM2 : Rm M2 _ _ := hM2 ▸ hRM1.set _ _
    have gM2 : ∀ B, 0 ≤ B → mm M2 B = if B = x + (base + 2 + bk - 1 + 2) then g else mm M1 B := fun B hB => by rw [← hM2]; exact mm_set hRM1.len _ (by omega) (by omega) hB
    obtain ⟨M3, hM3⟩ : ∃ zz, M2.set (base + 1 : Int).toNat (x) = zz := ⟨_, rfl⟩
    refine st_st (base + 1) (0) (x) M3 6 7 0 _ (hl 21) hRM2 rfl (by omega) (by omega) (by omega) (by omega) (by omega) rfl hM3 ?_
    have hRM3 : Rm M3 _ _ := hM3 ▸ hRM2.set _ _
    have gM3 : ∀ B, 0 ≤ B → mm M3 B = if B = base + 1 then x else mm M2 B := fun B hB => by rw [← hM3]; exact mm_set hRM2.len _ (by omega) (by omega) hB
    refine st_set (1) [1, mm M (x + (base + 2 + bk - 1 + 1)), g, k, v, a, x, 0] 0 0 0 _ (hl 22) (u64_in (by omega) (by omega)) rfl ?_
    have hax2 : a ≠ x + (base + 2 + bk - 1 + 2) := fun e => by
      have := h.p.rank x a hlx e (by rw [hax]; omega); rw [hax] at this; omega
    have hinv : HOk base bk cap (B + 1) M3 := by
      refine ⟨_, _, _, ⟨(cutGive hS h.p a x (x + (base + 2 + bk - 1 + 2)) hax (by omega) hlw rfl ?_ ?_ ?_ ?_).up, ?_⟩⟩
      · rw [gM3 a (by omega), gM2 a (by omega), gM1 a (by omega), if_neg (by omega), if_neg hax2, if_pos rfl, hc]
      · show mm M3 (x + (base + 2 + bk - 1 + 2)) = mm M (base + 1)
        rw [gM3 _ (by omega), gM2 _ (by omega), if_neg (by omega), if_pos rfl, ← hg, gM1 _ (by omega), if_neg (by omega)]
      · show mm M3 (base + 1) = x
        rw [gM3 _ (by omega), if_pos rfl]
      · intro b hb hb1 hb2 hb3
        have hbb := hptr hr hb
        have hb1 : b ≠ base + 1 := hb1
        have hb3 : b ≠ x + (base + 2 + bk - 1 + 2) := hb3
        rw [gM3 _ (by omega), gM2 _ (by omega), gM1 _ (by omega), if_neg hb1, if_neg hb3, if_neg hb2]
      · obtain ⟨i, h1, h2, h3⟩ := h.f
        exact ⟨i, h1, h2, by rw [gM3 _ (by omega), gM2 _ (by omega), gM1 _ (by omega), if_neg (by omega), if_neg (by omega), if_neg (by omega), h3]⟩
    refine st_set (0) [1, mm M (x + (base + 2 + bk - 1 + 1)), 0, k, v, a, x, 0] 2 0 0 _ (hl 23) (u64_in (by omega) (by omega)) rfl ?_
    refine Ends.fin 0 0 0 0 (hl 24) rfl ?_
    exact Ends.now ⟨by show P + 25 = _; rw [hlen], rfl, rfl, rfl, hRM3.len, hinv⟩

theorem hPut_ends {l : List Ins} {base bk cap : Int} (hr : HR base bk cap) {M : List Int} {B : Nat} {live fr : Int → Prop} {rk : Int → Nat} (h : HS base bk cap M B live fr rk) (hM : M.length = 504) (P : Nat) (hl : ∀ j, l[P + j]? = (hPutB P base bk cap)[j]?) (hlen : l.length = P + 40) (R : List Int) (r0 r1 r2 k v r5 r6 r7 : Int) (hRg : R = [r0, r1, r2, k, v, r5, r6, r7]) (ins : Bool) (hin : ins = false) (bg st : Nat) :
    Ends l base (base + 2 + bk + 3 * cap) (Done l bg (HOk base bk cap (B + 1))) (7 * B + 60) ⟨M, R, P, ins, bg, st, false⟩ := by
  subst hRg
  have hb0 := hr.b0; have hk0 := hr.k0; have hk1 := hr.k1; have hc0 := hr.c0; have htop := hr.top
  have hR : Rm M base (base + 2 + bk + 3 * cap) := ⟨hr.b0, hr.top, hM⟩
  have hS := hSep hr
  refine st_set (0) [0, r1, r2, k, v, r5, r6, r7] 0 0 0 _ (hl 0) (u64_in (by omega) (by omega)) rfl ?_
  refine st_set (0) [0, 0, r2, k, v, r5, r6, r7] 1 0 0 _ (hl 1) (u64_in (by omega) (by omega)) rfl ?_
  refine st_set (0) [0, 0, 0, k, v, r5, r6, r7] 2 0 0 _ (hl 2) (u64_in (by omega) (by omega)) rfl ?_
  refine st_set (0) [0, 0, 0, k, v, r5, r6, 0] 7 0 0 _ (hl 3) (u64_in (by omega) (by omega)) rfl ?_
  refine Ends.beg 0 0 0 0 (hl 4) hin ?_
  refine st_set (bk - 1) [0, 0, 0, k, v, bk - 1, r6, 0] 5 0 0 _ (hl 5) (u64_in (by omega) (by omega)) rfl ?_
  obtain ⟨q, hq⟩ : ∃ x, bits BinOp.and IntKind.u64 k (bk - 1) = x := ⟨_, rfl⟩
  have hq2 := and_le k (bk - 1) (by omega) (by omega)
  rw [hq] at hq2
  refine st_and q k (bk - 1) [0, 0, 0, k, v, q, r6, 0] 5 3 5 0 (hl 6) rfl rfl hq rfl ?_
  refine st_set (base + 1 + 1) [0, 0, base + 1 + 1, k, v, q, r6, 0] 2 0 0 _ (hl 7) (u64_in (by omega) (by omega)) rfl ?_
  refine st_add (q + (base + 1 + 1)) (q) (base + 1 + 1) [0, 0, base + 1 + 1, k, v, q + (base + 1 + 1), r6, 0] 5 5 2 0 (hl 8) rfl rfl (by rw [u64_in (by omega) (by omega)] <;> omega) rfl ?_
  have hlw : LW (hPS base bk cap) live (q + (base + 1 + 1)) := .inl (by simp only [hPS]; omega)
  have hrk : mm M (q + (base + 1 + 1)) ≠ 0 → rk (mm M (q + (base + 1 + 1))) < B + 1 := fun e => by
    have := h.p.bound _ (((hLW hr h.p hlw).2.2.1).resolve_left e); omega
  refine (hsearch hr h.p hM (P + 9) (P + 20) (P + 16) 40 k v (bg + 1) (hl 9) (hl 10) (hl 11) (hl 12) (hl 13) (hl 14) (hl 15) ?_ ?_ (B + 1) _ _ _ _ hlw hrk).more (by omega)
  · intro a r2 st hlw h0
    have ha := hLW hr h.p hlw
    obtain ⟨i, i0, i1, hi⟩ := h.f
    obtain ⟨g, hg⟩ : ∃ zz, mm M (base + 1) = zz := ⟨_, rfl⟩
    refine st_ld (base + 1) (0) (g) [0, 0, r2, k, v, a, g, 0] 6 7 0 _ (hl 20) hR rfl (by omega) (by omega) (by omega) (by omega) (by omega) hg rfl ?_
    refine st_ne (g) (0) (P + 31) 6 7 0 (hl 21) rfl rfl (fun e => ?_) (fun e => ?_)
    · have hfr : fr g := (hg ▸ h.p.freeh).resolve_left e
      obtain ⟨n, hn⟩ : ∃ n, n = g := ⟨_, rfl⟩
      rw [← hn] at e hg hfr ⊢
      have hnn := (h.p.fnode n hfr).1
      have hnl : ¬ live n := fun q => h.p.disj n q hfr
      have hn : mm M (base + 1) = n := hg
      have han : a ≠ n + (base + 2 + bk - 1 + 2) := fun e => by
        rcases hlw with q | ⟨m, hm, q⟩
        · have q : base + 2 ≤ a ∧ a < base + 2 + bk := q
          have := hnode hnn; omega
        · have q : a = m + (base + 2 + bk - 1 + 2) := q
          exact hnl (by rw [show n = m by omega]; exact hm)
      have haw := hword hr ha.2.2.2.1 hnn
      have hnb := hnode hnn
      obtain ⟨d, hd⟩ : ∃ zz, mm M (n + (base + 2 + bk - 1 + 2)) = zz := ⟨_, rfl⟩
      refine st_ld (n + (base + 2 + bk - 1 + 2)) (n) (d) [0, 0, d, k, v, a, n, 0] 2 6 0 _ (hl 31) hR rfl (by omega) (by omega) (by omega) (by omega) (by omega) hd rfl ?_
      obtain ⟨M1, hM1⟩ : ∃ zz, M.set (base + 1 : Int).toNat (d) = zz := ⟨_, rfl⟩
      refine st_st (base + 1) (0) (d) M1 2 7 0 _ (hl 32) hR rfl (by omega) (by omega) (by omega) (by omega) (by omega) rfl hM1 ?_
      have hRM1 : Rm M1 _ _ := hM1 ▸ hR.set _ _
      have gM1 : ∀ B, 0 ≤ B → mm M1 B = if B = base + 1 then d else mm M B := fun B hB => by rw [← hM1]; exact mm_set hR.len _ (by omega) (by omega) hB
      obtain ⟨M2, hM2⟩ : ∃ zz, M1.set (n + (base + 2 + bk - 1 + 0) : Int).toNat (k) = zz := ⟨_, rfl⟩
      refine st_st (n + (base + 2 + bk - 1 + 0)) (n) (k) M2 3 6 0 _ (hl 33) hRM1 rfl (by omega) (by omega) (by omega) (by omega) (by omega) rfl hM2 ?_
      have hRM2 : Rm M2 _ _ := hM2 ▸ hRM1.set _ _
      have gM2 : ∀ B, 0 ≤ B → mm M2 B = if B = n + (base + 2 + bk - 1 + 0) then k else mm M1 B := fun B hB => by rw [← hM2]; exact mm_set hRM1.len _ (by omega) (by omega) hB
      obtain ⟨M3, hM3⟩ : ∃ zz, M2.set (n + (base + 2 + bk - 1 + 1) : Int).toNat (v) = zz := ⟨_, rfl⟩
      refine st_st (n + (base + 2 + bk - 1 + 1)) (n) (v) M3 4 6 0 _ (hl 34) hRM2 rfl (by omega) (by omega) (by omega) (by omega) (by omega) rfl hM3 ?_
      have hRM3 : Rm M3 _ _ := hM3 ▸ hRM2.set _ _
      have gM3 : ∀ B, 0 ≤ B → mm M3 B = if B = n + (base + 2 + bk - 1 + 1) then v else mm M2 B := fun B hB => by rw [← hM3]; exact mm_set hRM2.len _ (by omega) (by omega) hB
      obtain ⟨M4, hM4⟩ : ∃ zz, M3.set (n + (base + 2 + bk - 1 + 2) : Int).toNat (0) = zz := ⟨_, rfl⟩
      refine st_st (n + (base + 2 + bk - 1 + 2)) (n) (0) M4 7 6 0 _ (hl 35) hRM3 rfl (by omega) (by omega) (by omega) (by omega) (by omega) rfl hM4 ?_
      have hRM4 : Rm M4 _ _ := hM4 ▸ hRM3.set _ _
      have gM4 : ∀ B, 0 ≤ B → mm M4 B = if B = n + (base + 2 + bk - 1 + 2) then 0 else mm M3 B := fun B hB => by rw [← hM4]; exact mm_set hRM3.len _ (by omega) (by omega) hB
      obtain ⟨M5, hM5⟩ : ∃ zz, M4.set (a : Int).toNat (n) = zz := ⟨_, rfl⟩
      refine st_st (a) (a) (n) M5 6 5 0 _ (hl 36) hRM4 rfl (by omega) (by omega) (by omega) (by omega) (by omega) rfl hM5 ?_
      have hRM5 : Rm M5 _ _ := hM5 ▸ hRM4.set _ _
      have gM5 : ∀ B, 0 ≤ B → mm M5 B = if B = a then n else mm M4 B := fun B hB => by rw [← hM5]; exact mm_set hRM4.len _ (by omega) (by omega) hB
      refine st_set (1) [1, 0, d, k, v, a, n, 0] 0 0 0 _ (hl 37) (u64_in (by omega) (by omega)) rfl ?_
      have hinv : HOk base bk cap (B + 1) M5 := by
        refine ⟨_, _, _, ⟨putFree hS h.p a n hn (by omega) hlw h0 ?_ ?_ ?_ ?_, ?_⟩⟩
        · show mm M5 (base + 1) = mm M (n + (base + 2 + bk - 1 + 2))
          rw [gM5 _ (by omega), gM4 _ (by omega), gM3 _ (by omega), gM2 _ (by omega), gM1 _ (by omega), if_neg (by omega), if_neg (by omega), if_neg (by omega), if_neg (by omega), if_pos rfl, hd]
        · rw [gM5 _ (by omega), if_pos rfl]
        · intro b hb
          have hb : b = n + (base + 2 + bk - 1 + 2) := hb
          subst hb
          rw [gM5 _ (by omega), gM4 _ (by omega), if_neg (Ne.symm han), if_pos rfl]
        · intro b hb hb1 hb2 hb3
          have hbb := hptr hr hb
          have hb1 : b ≠ base + 1 := hb1
          have hb3 : b ≠ n + (base + 2 + bk - 1 + 2) := hb3
          have hb4 := hword hr hb hnn
          rw [gM5 _ (by omega), gM4 _ (by omega), gM3 _ (by omega), gM2 _ (by omega), gM1 _ (by omega), if_neg hb2, if_neg hb3, if_neg hb4.2, if_neg hb4.1, if_neg hb1]
        · exact ⟨i, i0, i1, by rw [gM5 _ (by omega), gM4 _ (by omega), gM3 _ (by omega), gM2 _ (by omega), gM1 _ (by omega), if_neg (by omega), if_neg (by omega), if_neg (by omega), if_neg (by omega), if_neg (by omega), hi]⟩
      refine st_set (0) [1, 0, 0, k, v, a, n, 0] 2 0 0 _ (hl 38) (u64_in (by omega) (by omega)) rfl ?_
      refine Ends.fin 0 0 0 0 (hl 39) rfl ?_
      exact Ends.now ⟨by show P + 40 = _; rw [hlen], rfl, rfl, rfl, hRM5.len, hinv⟩
    · obtain ⟨y, hy⟩ : ∃ zz, mm M (base) = zz := ⟨_, rfl⟩
      refine st_ld (base) (0) (y) [0, 0, r2, k, v, a, y, 0] 6 7 0 _ (hl 22) hR rfl (by omega) (by omega) (by omega) (by omega) (by omega) hy rfl ?_
      rw [hi] at hy
      refine st_set (3 * cap) [0, 0, 3 * cap, k, v, a, y, 0] 2 0 0 _ (hl 23) (u64_in (by omega) (by omega)) rfl ?_
      refine st_eq (y) (3 * cap) (P + 38) 6 2 0 (hl 24) rfl rfl (fun e2 => ?_) (fun e2 => ?_)
      · refine st_set (0) [0, 0, 0, k, v, a, y, 0] 2 0 0 _ (hl 38) (u64_in (by omega) (by omega)) rfl ?_
        refine Ends.fin 0 0 0 0 (hl 39) rfl ?_
        exact Ends.now ⟨by show P + 40 = _; rw [hlen], rfl, rfl, rfl, hR.len, ⟨live, fr, rk, ⟨h.p.up, h.f⟩⟩⟩
      · have hic : i < cap := by omega
        obtain ⟨n, hn⟩ : ∃ n, n = y + 1 := ⟨_, rfl⟩
        have hnn : (hPS base bk cap).node n := ⟨i, i0, hic, by omega⟩
        have hfy : mm M (hPS base bk cap).fresh = y := by show mm M base = y; omega
        have hnl : ¬ live n := fun q => by have := (h.p.lnode n q).2; omega
        have han : a ≠ n + (base + 2 + bk - 1 + 2) := fun e => by
          rcases hlw with q | ⟨m, hm, q⟩
          · have q : base + 2 ≤ a ∧ a < base + 2 + bk := q
            have := hnode hnn; omega
          · have q : a = m + (base + 2 + bk - 1 + 2) := q
            exact hnl (by rw [show n = m by omega]; exact hm)
        have haw := hword hr ha.2.2.2.1 hnn
        have hnb := hnode hnn
        refine st_set (3) [0, 0, 3, k, v, a, y, 0] 2 0 0 _ (hl 25) (u64_in (by omega) (by omega)) rfl ?_
        refine st_add (y + 3) (y) (3) [0, 0, y + 3, k, v, a, y, 0] 2 6 2 0 (hl 26) rfl rfl (by rw [u64_in (by omega) (by omega)] <;> omega) rfl ?_
        obtain ⟨M1, hM1⟩ : ∃ zz, M.set (base : Int).toNat (y + 3) = zz := ⟨_, rfl⟩
        refine st_st (base) (0) (y + 3) M1 2 7 0 _ (hl 27) hR rfl (by omega) (by omega) (by omega) (by omega) (by omega) rfl hM1 ?_
        have hRM1 : Rm M1 _ _ := hM1 ▸ hR.set _ _
        have gM1 : ∀ B, 0 ≤ B → mm M1 B = if B = base then y + 3 else mm M B := fun B hB => by rw [← hM1]; exact mm_set hR.len _ (by omega) (by omega) hB
        refine st_set (1) [0, 0, 1, k, v, a, y, 0] 2 0 0 _ (hl 28) (u64_in (by omega) (by omega)) rfl ?_
        refine st_add (n) (y) (1) [0, 0, 1, k, v, a, n, 0] 6 6 2 0 (hl 29) rfl rfl (by rw [u64_in (by omega) (by omega)] <;> omega) rfl ?_
        refine st_jump (P + 33) 0 0 0 (hl 30) ?_
        obtain ⟨M2, hM2⟩ : ∃ zz, M1.set (n + (base + 2 + bk - 1 + 0) : Int).toNat (k) = zz := ⟨_, rfl⟩
        refine st_st (n + (base + 2 + bk - 1 + 0)) (n) (k) M2 3 6 0 _ (hl 33) hRM1 rfl (by omega) (by omega) (by omega) (by omega) (by omega) rfl hM2 ?_
        have hRM2 : Rm M2 _ _ := hM2 ▸ hRM1.set _ _
        have gM2 : ∀ B, 0 ≤ B → mm M2 B = if B = n + (base + 2 + bk - 1 + 0) then k else mm M1 B := fun B hB => by rw [← hM2]; exact mm_set hRM1.len _ (by omega) (by omega) hB
        obtain ⟨M3, hM3⟩ : ∃ zz, M2.set (n + (base + 2 + bk - 1 + 1) : Int).toNat (v) = zz := ⟨_, rfl⟩
        refine st_st (n + (base + 2 + bk - 1 + 1)) (n) (v) M3 4 6 0 _ (hl 34) hRM2 rfl (by omega) (by omega) (by omega) (by omega) (by omega) rfl hM3 ?_
        have hRM3 : Rm M3 _ _ := hM3 ▸ hRM2.set _ _
        have gM3 : ∀ B, 0 ≤ B → mm M3 B = if B = n + (base + 2 + bk - 1 + 1) then v else mm M2 B := fun B hB => by rw [← hM3]; exact mm_set hRM2.len _ (by omega) (by omega) hB
        obtain ⟨M4, hM4⟩ : ∃ zz, M3.set (n + (base + 2 + bk - 1 + 2) : Int).toNat (0) = zz := ⟨_, rfl⟩
        refine st_st (n + (base + 2 + bk - 1 + 2)) (n) (0) M4 7 6 0 _ (hl 35) hRM3 rfl (by omega) (by omega) (by omega) (by omega) (by omega) rfl hM4 ?_
        have hRM4 : Rm M4 _ _ := hM4 ▸ hRM3.set _ _
        have gM4 : ∀ B, 0 ≤ B → mm M4 B = if B = n + (base + 2 + bk - 1 + 2) then 0 else mm M3 B := fun B hB => by rw [← hM4]; exact mm_set hRM3.len _ (by omega) (by omega) hB
        obtain ⟨M5, hM5⟩ : ∃ zz, M4.set (a : Int).toNat (n) = zz := ⟨_, rfl⟩
        refine st_st (a) (a) (n) M5 6 5 0 _ (hl 36) hRM4 rfl (by omega) (by omega) (by omega) (by omega) (by omega) rfl hM5 ?_
        have hRM5 : Rm M5 _ _ := hM5 ▸ hRM4.set _ _
        have gM5 : ∀ B, 0 ≤ B → mm M5 B = if B = a then n else mm M4 B := fun B hB => by rw [← hM5]; exact mm_set hRM4.len _ (by omega) (by omega) hB
        refine st_set (1) [1, 0, 1, k, v, a, n, 0] 0 0 0 _ (hl 37) (u64_in (by omega) (by omega)) rfl ?_
        have hinv : HOk base bk cap (B + 1) M5 := by
          refine ⟨_, _, _, ⟨putFresh hS h.p a n (by show n = mm M base + 1; omega) hnn (by show (1 : Int) ≤ 3; omega) hlw h0 ?_ ?_ ?_ ?_, ?_⟩⟩
          · show mm M5 base = mm M base + 3
            rw [gM5 _ (by omega), gM4 _ (by omega), gM3 _ (by omega), gM2 _ (by omega), gM1 _ (by omega), if_neg (by omega), if_neg (by omega), if_neg (by omega), if_neg (by omega), if_pos rfl, hi]; omega
          · rw [gM5 _ (by omega), if_pos rfl]
          · intro b hb
            have hb : b = n + (base + 2 + bk - 1 + 2) := hb
            subst hb
            rw [gM5 _ (by omega), gM4 _ (by omega), if_neg (Ne.symm han), if_pos rfl]
          · intro b hb hb1 hb2 hb3
            have hbb := hptr hr hb
            have hb1 : b ≠ base := hb1
            have hb3 : b ≠ n + (base + 2 + bk - 1 + 2) := hb3
            have hb4 := hword hr hb hnn
            rw [gM5 _ (by omega), gM4 _ (by omega), gM3 _ (by omega), gM2 _ (by omega), gM1 _ (by omega), if_neg hb2, if_neg hb3, if_neg hb4.2, if_neg hb4.1, if_neg hb1]
          · exact ⟨i + 1, by omega, by omega, by rw [gM5 _ (by omega), gM4 _ (by omega), gM3 _ (by omega), gM2 _ (by omega), gM1 _ (by omega), if_neg (by omega), if_neg (by omega), if_neg (by omega), if_neg (by omega), if_pos rfl]; omega⟩
        refine st_set (0) [1, 0, 0, k, v, a, n, 0] 2 0 0 _ (hl 38) (u64_in (by omega) (by omega)) rfl ?_
        refine Ends.fin 0 0 0 0 (hl 39) rfl ?_
        exact Ends.now ⟨by show P + 40 = _; rw [hlen], rfl, rfl, rfl, hRM5.len, hinv⟩
  · intro a x r2 st hlw hax hlx
    have hx := hnode (h.p.lnode x hlx).1
    have ha := hLW hr h.p hlw
    refine st_ld (x + (base + 2 + bk - 1 + 1)) (x) (mm M (x + (base + 2 + bk - 1 + 1))) [0, mm M (x + (base + 2 + bk - 1 + 1)), r2, k, v, a, x, 0] 1 6 0 _ (hl 16) hR rfl (by omega) (by omega) (by omega) (by omega) (by omega) rfl rfl ?_
    obtain ⟨M1, hM1⟩ : ∃ zz, M.set (x + (base + 2 + bk - 1 + 1) : Int).toNat (v) = zz := ⟨_, rfl⟩
    refine st_st (x + (base + 2 + bk - 1 + 1)) (x) (v) M1 4 6 0 _ (hl 17) hR rfl (by omega) (by omega) (by omega) (by omega) (by omega) rfl hM1 ?_
    have hRM1 : Rm M1 _ _ := hM1 ▸ hR.set _ _
    have gM1 : ∀ B, 0 ≤ B → mm M1 B = if B = x + (base + 2 + bk - 1 + 1) then v else mm M B := fun B hB => by rw [← hM1]; exact mm_set hR.len _ (by omega) (by omega) hB
    refine st_set (2) [2, mm M (x + (base + 2 + bk - 1 + 1)), r2, k, v, a, x, 0] 0 0 0 _ (hl 18) (u64_in (by omega) (by omega)) rfl ?_
    refine st_jump (P + 38) 0 0 0 (hl 19) ?_
    have hinv : HOk base bk cap (B + 1) M1 := by
      refine ⟨live, fr, rk, ⟨(PInv.same hS h.p (M' := mm M1) (fun b hb => ?_)).up, ?_⟩⟩
      · have hb4 := hword hr hb (h.p.lnode x hlx).1
        have hbb := hptr hr hb
        rw [gM1 _ (by omega), if_neg hb4.2]
      · obtain ⟨i, h1, h2, h3⟩ := h.f
        exact ⟨i, h1, h2, by rw [gM1 _ (by omega), if_neg (by omega), h3]⟩
    refine st_set (0) [2, mm M (x + (base + 2 + bk - 1 + 1)), 0, k, v, a, x, 0] 2 0 0 _ (hl 38) (u64_in (by omega) (by omega)) rfl ?_
    refine Ends.fin 0 0 0 0 (hl 39) rfl ?_
    exact Ends.now ⟨by show P + 40 = _; rw [hlen], rfl, rfl, rfl, hRM1.len, hinv⟩
end Go.Proofs.Ythlhjahhjoclfaa
