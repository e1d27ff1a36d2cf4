/- Two runs of a code that agree on its words and on what it reads go alike; the plain side. -/
import Derived.Test.YthlhjahhjoclfaaCd36
import Derived.Test.YthlhjahhjoclfaaLibs2
namespace Go.Proofs.Ythlhjahhjoclfaa
set_option maxRecDepth 100000
open Go.RowKit

def bitR (k : Int) : Nat := 2 ^ k.toNat
/-- Registers that are read, as bits. -/
def readsM (i : Ins) : Nat :=
  if i.op = 3 ∨ i.op = 11 then bitR i.b else
  if i.op = 4 ∨ i.op = 5 ∨ i.op = 7 ∨ i.op = 9 then bitR i.b ||| bitR i.c else
  if i.op = 12 ∨ i.op = 14 ∨ i.op = 15 ∨ i.op = 16 then bitR i.a ||| bitR i.b else 0
def writesM (i : Ins) : Nat := if i.op ≤ 11 then bitR i.a else 0
def succs (pc : Nat) (i : Ins) : List Nat := if i.op = 13 then [i.imm.toNat] else if i.op = 14 ∨ i.op = 15 ∨ i.op = 16 then [i.imm.toNat, pc + 1] else [pc + 1]
/-- Which registers a code has set at each place. -/
def flowB (D : List Nat) : Nat → List Ins → Bool
  | n, [] => D.getD n 0 &&& 7 == 7
  | n, i :: l => (readsM i &&& D.getD n 0 == readsM i) && ((succs n i).all fun s => D.getD s 0 &&& (D.getD n 0 ||| writesM i) == D.getD s 0) && flowB D (n + 1) l
structure Flow (D : List Nat) (pc : Nat) (i : Ins) : Prop where
  reads : ∀ k, (readsM i).testBit k = true → (D.getD pc 0).testBit k = true
  next : ∀ s ∈ succs pc i, ∀ k, (D.getD s 0).testBit k = true → (D.getD pc 0).testBit k = true ∨ (writesM i).testBit k = true
theorem flow_of {D : List Nat} : ∀ {l : List Ins} {n : Nat}, flowB D n l = true → (∀ (j : Nat) i, l[j]? = some i → Flow D (n + j) i) ∧ ∀ k, k < 3 → (D.getD (n + l.length) 0).testBit k = true
  | [], n, h => by
    refine ⟨fun j i hj => by simp at hj, fun k hk => ?_⟩
    simp only [flowB, beq_iff_eq] at h
    have : ((D.getD n 0 &&& 7 : Nat)).testBit k = (7 : Nat).testBit k := by rw [h]
    rw [Nat.testBit_and] at this
    rcases (by omega : k = 0 ∨ k = 1 ∨ k = 2) with rfl | rfl | rfl <;> simpa [Nat.testBit] using this
  | i :: l, n, h => by
    simp only [flowB, Bool.and_eq_true, beq_iff_eq, List.all_eq_true] at h
    obtain ⟨⟨h1, h2⟩, h3⟩ := h
    have ih := flow_of h3
    refine ⟨fun j i' hj => ?_, fun k hk => by have := ih.2 k hk; rwa [List.length_cons, show n + (l.length + 1) = n + 1 + l.length by omega]⟩
    cases j with
    | zero =>
      obtain rfl : i = i' := by simpa using hj
      refine ⟨fun k hk => ?_, fun s hs k hk => ?_⟩
      · rw [← h1, Nat.testBit_and, Bool.and_eq_true] at hk; exact hk.2
      · rw [← h2 s hs, Nat.testBit_and, Nat.testBit_or, Bool.and_eq_true, Bool.or_eq_true] at hk; exact hk.2
    | succ j => rw [show n + (j + 1) = n + 1 + j by omega]; exact ih.1 j i' (by simpa using hj)

structure Lk (D : List Nat) (a : Nat) (lo hi : Int) (m1 m2 : Mach) : Prop where
  r1 : m1.regs.length = 8
  r2 : m2.regs.length = 8
  agree : ∀ k : Nat, (D.getD m1.pc 0).testBit k = true → m1.regs.getD k 0 = m2.regs.getD k 0
  pc : m2.pc = m1.pc + a
  ins : m2.inside = m1.inside
  b1 : m1.bad = false
  b2 : m2.bad = false
  l1 : m1.mem.length = 504
  l2 : m2.mem.length = 504
  mem : ∀ A, lo ≤ A → A < hi → mm m2.mem A = mm m1.mem A

theorem bitR_test (k : Int) : (bitR k).testBit k.toNat = true := by simp [bitR, Nat.testBit_two_pow_self]

/-- What an instruction asks for, of two machines that agree on what it reads. -/
theorem doE_two {n : Nat} {i : Ins} (hu : UseI n i) (hn : n ≤ 128) {a : Nat} (ha : a ≤ 100000) {R1 R2 : List Int} {pc : Nat} (h : ∀ k, (readsM i).testBit k = true → R1.getD k 0 = R2.getD k 0) :
    ∃ kd reg val adr : Int, ∃ nx : Nat, doE i R1 pc = ⟨kd, nx, reg, val, adr⟩ ∧ doE (shI a i) R2 ((pc + a : Nat) : Int) = ⟨kd, ((nx + a : Nat) : Int), reg, val, adr⟩ ∧ nx ∈ succs pc i ∧
      (kd = 1 ∨ kd = 2 ∨ kd = 3 ∨ kd = 4 ∨ kd = 5 ∨ kd = 6) ∧ (kd = 1 ∨ kd = 3 → reg = i.a ∧ writesM i = bitR i.a ∧ 0 ≤ i.a) ∧ (kd ≠ 1 → kd ≠ 3 → writesM i = 0) := by
  obtain ⟨op, x, y, z, im⟩ := i
  obtain ⟨⟨o0, o1, a0, a1, b0, b1, c0, c1⟩, ⟨u6, u8, u10⟩, him⟩ := hu
  simp only at o0 o1 a0 a1 b0 b1 c0 c1 u6 u8 u10 him
  have hR : ∀ k : Int, (readsM ⟨op, x, y, z, im⟩).testBit k.toNat = true → rg R2 k = rg R1 k := fun k hk => (h _ hk).symm
  have e1 : ((pc + a : Nat) : Int) + 1 = ((pc + 1 + a : Nat) : Int) := by omega
  have e2 : ((pc : Nat) : Int) + 1 = ((pc + 1 : Nat) : Int) := by omega
  rcases (by omega : op = 2 ∨ op = 3 ∨ op = 4 ∨ op = 5 ∨ op = 7 ∨ op = 9 ∨ op = 11 ∨ op = 12 ∨ op = 13 ∨ op = 14 ∨ op = 15 ∨ op = 16 ∨ op = 17 ∨ op = 18) with rfl | rfl | rfl | rfl | rfl | rfl | rfl | rfl | rfl | rfl | rfl | rfl | rfl | rfl
  · exact ⟨1, x, _, 0, pc + 1, by simp [doE]; rfl, by simp [doE, shI]; omega, by simp [succs], by simp, by simp [writesM, a0], by simp⟩
  · have q := hR y (by simp [readsM, bitR_test])
    exact ⟨1, x, _, 0, pc + 1, by simp [doE]; rfl, by simp [doE, shI, q]; omega, by simp [succs], by simp, by simp [writesM, a0], by simp⟩
  · have q := hR y (by simp [readsM, Nat.testBit_or, bitR_test])
    have q2 := hR z (by simp [readsM, Nat.testBit_or, bitR_test])
    exact ⟨1, x, _, 0, pc + 1, by simp [doE]; rfl, by simp [doE, shI, q, q2]; omega, by simp [succs], by simp, by simp [writesM, a0], by simp⟩
  · have q := hR y (by simp [readsM, Nat.testBit_or, bitR_test])
    have q2 := hR z (by simp [readsM, Nat.testBit_or, bitR_test])
    exact ⟨1, x, _, 0, pc + 1, by simp [doE]; rfl, by simp [doE, shI, q, q2]; omega, by simp [succs], by simp, by simp [writesM, a0], by simp⟩
  · have q := hR y (by simp [readsM, Nat.testBit_or, bitR_test])
    have q2 := hR z (by simp [readsM, Nat.testBit_or, bitR_test])
    exact ⟨1, x, _, 0, pc + 1, by simp [doE]; rfl, by simp [doE, shI, q, q2]; omega, by simp [succs], by simp, by simp [writesM, a0], by simp⟩
  · have q := hR y (by simp [readsM, Nat.testBit_or, bitR_test])
    have q2 := hR z (by simp [readsM, Nat.testBit_or, bitR_test])
    exact ⟨1, x, _, 0, pc + 1, by simp [doE]; rfl, by simp [doE, shI, q, q2]; omega, by simp [succs], by simp, by simp [writesM, a0], by simp⟩
  · have q := hR y (by simp [readsM, bitR_test])
    exact ⟨3, x, 0, _, pc + 1, by simp [doE]; rfl, by simp [doE, shI, q]; omega, by simp [succs], by simp, by simp [writesM, a0], by simp⟩
  · have q := hR x (by simp [readsM, Nat.testBit_or, bitR_test])
    have q2 := hR y (by simp [readsM, Nat.testBit_or, bitR_test])
    exact ⟨4, 0, _, _, pc + 1, by simp [doE]; exact ⟨rfl, rfl⟩, by simp [doE, shI, q, q2]; omega, by simp [succs], by simp, by simp, by simp [writesM]⟩
  · have hi := him (by decide) (by decide)
    have hw : wrap64 (im + a) = im + a := IntWalk.wrap64_in _ (by omega)
    obtain ⟨t, rfl⟩ := Int.eq_ofNat_of_zero_le hi.1
    exact ⟨2, 0, 0, 0, t, by simp [doE], by simp [doE, shI, hw], by simp [succs], by simp, by simp, by simp [writesM]⟩
  · have hi := him (by decide) (by decide)
    have hw : wrap64 (im + a) = im + a := IntWalk.wrap64_in _ (by omega)
    obtain ⟨t, rfl⟩ := Int.eq_ofNat_of_zero_le hi.1
    have q := hR x (by simp [readsM, Nat.testBit_or, bitR_test])
    have q2 := hR y (by simp [readsM, Nat.testBit_or, bitR_test])
    by_cases hc : rg R1 x = rg R1 y
    · exact ⟨2, 0, 0, 0, t, by simp [doE, hc], by simp [doE, shI, hw, q, q2, hc], by simp [succs], by simp, by simp, by simp [writesM]⟩
    · exact ⟨2, 0, 0, 0, pc + 1, by simp [doE, hc], by simp [doE, shI, hw, q, q2, hc]; omega, by simp [succs], by simp, by simp, by simp [writesM]⟩
  · have hi := him (by decide) (by decide)
    have hw : wrap64 (im + a) = im + a := IntWalk.wrap64_in _ (by omega)
    obtain ⟨t, rfl⟩ := Int.eq_ofNat_of_zero_le hi.1
    have q := hR x (by simp [readsM, Nat.testBit_or, bitR_test])
    have q2 := hR y (by simp [readsM, Nat.testBit_or, bitR_test])
    by_cases hc : rg R1 x = rg R1 y
    · exact ⟨2, 0, 0, 0, pc + 1, by simp [doE, hc], by simp [doE, shI, hw, q, q2, hc]; omega, by simp [succs], by simp, by simp, by simp [writesM]⟩
    · exact ⟨2, 0, 0, 0, t, by simp [doE, hc], by simp [doE, shI, hw, q, q2, hc], by simp [succs], by simp, by simp, by simp [writesM]⟩
  · have hi := him (by decide) (by decide)
    have hw : wrap64 (im + a) = im + a := IntWalk.wrap64_in _ (by omega)
    obtain ⟨t, rfl⟩ := Int.eq_ofNat_of_zero_le hi.1
    have q := hR x (by simp [readsM, Nat.testBit_or, bitR_test])
    have q2 := hR y (by simp [readsM, Nat.testBit_or, bitR_test])
    by_cases hc : rg R1 x < rg R1 y
    · exact ⟨2, 0, 0, 0, t, by simp [doE, hc], by simp [doE, shI, hw, q, q2, hc], by simp [succs], by simp, by simp, by simp [writesM]⟩
    · exact ⟨2, 0, 0, 0, pc + 1, by simp [doE, hc], by simp [doE, shI, hw, q, q2, hc]; omega, by simp [succs], by simp, by simp, by simp [writesM]⟩
  · exact ⟨5, 0, 0, 0, pc + 1, by simp [doE], by simp [doE, shI]; omega, by simp [succs], by simp, by simp, by simp [writesM]⟩
  · exact ⟨6, 0, 0, 0, pc + 1, by simp [doE], by simp [doE, shI]; omega, by simp [succs], by simp, by simp, by simp [writesM]⟩

theorem getD_set_same {R : List Int} {k : Nat} {v : Int} (h : k < R.length) : (R.set k v).getD k 0 = v := by simp [List.getD, h]
theorem getD_set_ne {R : List Int} {k j : Nat} {v : Int} (h : j ≠ k) : (R.set j v).getD k 0 = R.getD k 0 := by simp [List.getD, List.getElem?_set_ne h]

/-- What a step leaves outside its words. -/
def Out (lo hi : Int) (M M' : List Int) : Prop := ∀ A, 0 ≤ A → ¬ (lo ≤ A ∧ A < hi) → mm M' A = mm M A
theorem Out.refl (lo hi : Int) (M : List Int) : Out lo hi M M := fun _ _ _ => rfl
theorem Out.trans {lo hi : Int} {M N P : List Int} (h : Out lo hi M N) (k : Out lo hi N P) : Out lo hi M P := fun A h0 h1 => (k A h0 h1).trans (h A h0 h1)

theorem step_two {D : List Nat} {a : Nat} {lo hi : Int} (hlo : 0 ≤ lo) (hhi : hi ≤ 504) {m1 m2 : Mach} (h : Lk D a lo hi m1 m2) {n : Nat} {i : Ins} (hu : UseI n i) (hn : n ≤ 128) (ha : a ≤ 100000) (hf : Flow D m1.pc i)
    (hfi : fineE lo hi m1 (doE i m1.regs m1.pc)) :
    Lk D a lo hi (actM 0 504 m1 (doE i m1.regs m1.pc)) (actM 0 504 m2 (doE (shI a i) m2.regs m2.pc)) ∧
      (actM 0 504 m1 (doE i m1.regs m1.pc)).steps = m1.steps + 1 ∧ (actM 0 504 m2 (doE (shI a i) m2.regs m2.pc)).steps = m2.steps + 1 ∧
      (actM 0 504 m2 (doE (shI a i) m2.regs m2.pc)).begun + m1.begun = m2.begun + (actM 0 504 m1 (doE i m1.regs m1.pc)).begun ∧
      Out lo hi m1.mem (actM 0 504 m1 (doE i m1.regs m1.pc)).mem ∧ Out lo hi m2.mem (actM 0 504 m2 (doE (shI a i) m2.regs m2.pc)).mem := by
  obtain ⟨kd, reg, val, adr, nx, e1, e2, hs, hkd, hw1, hw2⟩ := doE_two (R1 := m1.regs) (R2 := m2.regs) (pc := m1.pc) hu hn ha (fun k hk => h.agree k (hf.reads k hk))
  rw [← h.pc] at e2
  rw [e1, e2]
  rw [e1] at hfi
  have hnext := hf.next nx hs
  obtain ⟨r1, r2, ag, pc, ins, b1, b2, l1, l2, mem⟩ := h
  obtain ⟨M1, R1, p1, i1, g1, s1, d1⟩ := m1
  obtain ⟨M2, R2, p2, i2, g2, s2, d2⟩ := m2
  simp only at *
  subst ins b1 b2
  have keep : writesM i = 0 → ∀ k, (D.getD nx 0).testBit k = true → R1.getD k 0 = R2.getD k 0 := fun hw k hk => by
    rcases hnext k hk with q | q
    · exact ag k q
    · rw [hw] at q; simp at q
  have wrote : ∀ v, writesM i = bitR i.a → reg = i.a → ∀ k, (D.getD nx 0).testBit k = true → (R1.set reg.toNat v).getD k 0 = (R2.set reg.toNat v).getD k 0 := fun v hw hr k hk => by
    by_cases hk2 : k = reg.toNat
    · subst hk2
      by_cases hlt : reg.toNat < 8
      · rw [getD_set_same (by omega), getD_set_same (by omega)]
      · rw [List.getD, List.getD, List.getElem?_eq_none (by rw [List.length_set]; omega), List.getElem?_eq_none (by rw [List.length_set]; omega)]
    · rw [getD_set_ne (Ne.symm hk2), getD_set_ne (Ne.symm hk2)]
      rcases hnext k hk with q | q
      · exact ag k q
      · rw [hw, bitR, Nat.testBit_two_pow] at q
        rw [hr] at hk2
        exact absurd (by simpa using q) (Ne.symm hk2)
  rcases hkd with rfl | rfl | rfl | rfl | rfl | rfl
  · obtain ⟨w1, w2, w3⟩ := hw1 (.inl rfl)
    refine ⟨⟨by simpa [actM] using r1, by simpa [actM] using r2, ?_, by simp [actM]; omega, rfl, rfl, rfl, l1, l2, mem⟩, rfl, rfl, by simp [actM], Out.refl _ _ _, Out.refl _ _ _⟩
    simpa [actM] using wrote val w2 w1
  · refine ⟨⟨by simpa [actM] using r1, by simpa [actM] using r2, ?_, by simp [actM]; omega, rfl, rfl, rfl, l1, l2, mem⟩, rfl, rfl, by simp [actM], Out.refl _ _ _, Out.refl _ _ _⟩
    simpa [actM] using keep (hw2 (by decide) (by decide))
  · obtain ⟨w1, w2, w3⟩ := hw1 (.inr rfl)
    obtain ⟨f1, f2, f3⟩ := hfi.1 (.inl rfl)
    simp only at f1 f2 f3
    subst f1
    have n1 : ¬ (true = false ∨ adr < 0 ∨ 504 ≤ adr ∨ (M1.length : Int) ≤ adr) := by rw [l1]; intro q; rcases q with q | q | q | q <;> first | omega | cases q
    have n2 : ¬ (true = false ∨ adr < 0 ∨ 504 ≤ adr ∨ (M2.length : Int) ≤ adr) := by rw [l2]; intro q; rcases q with q | q | q | q <;> first | omega | cases q
    have hv : M2.getD adr.toNat 0 = M1.getD adr.toNat 0 := mem adr f2 f3
    have a1 : actM 0 504 ⟨M1, R1, p1, true, g1, s1, false⟩ ⟨3, nx, reg, val, adr⟩ = ⟨M1, R1.set reg.toNat (M1.getD adr.toNat 0), nx, true, g1, s1 + 1, false⟩ := by
      unfold actM; rw [if_neg (by simp), if_neg (by simp), if_pos (by simp), if_neg n1, if_pos rfl]; rfl
    have a2 : actM 0 504 ⟨M2, R2, p2, true, g2, s2, false⟩ ⟨3, ((nx + a : Nat) : Int), reg, val, adr⟩ = ⟨M2, R2.set reg.toNat (M1.getD adr.toNat 0), nx + a, true, g2, s2 + 1, false⟩ := by
      unfold actM; rw [if_neg (by simp), if_neg (by simp), if_pos (by simp), if_neg n2, if_pos rfl]; simp only [hv]; rfl
    rw [a1, a2]
    exact ⟨⟨by simpa using r1, by simpa using r2, wrote _ w2 w1, rfl, rfl, rfl, rfl, l1, l2, mem⟩, rfl, rfl, rfl, Out.refl _ _ _, Out.refl _ _ _⟩
  · obtain ⟨f1, f2, f3⟩ := hfi.1 (.inr rfl)
    simp only at f1 f2 f3
    subst f1
    have n1 : ¬ (true = false ∨ adr < 0 ∨ 504 ≤ adr ∨ (M1.length : Int) ≤ adr) := by rw [l1]; intro q; rcases q with q | q | q | q <;> first | omega | cases q
    have n2 : ¬ (true = false ∨ adr < 0 ∨ 504 ≤ adr ∨ (M2.length : Int) ≤ adr) := by rw [l2]; intro q; rcases q with q | q | q | q <;> first | omega | cases q
    have a1 : actM 0 504 ⟨M1, R1, p1, true, g1, s1, false⟩ ⟨4, nx, reg, val, adr⟩ = ⟨M1.set adr.toNat val, R1, nx, true, g1, s1 + 1, false⟩ := by
      unfold actM; rw [if_neg (by simp), if_neg (by simp), if_pos (by simp), if_neg n1, if_neg (by simp)]; rfl
    have a2 : actM 0 504 ⟨M2, R2, p2, true, g2, s2, false⟩ ⟨4, ((nx + a : Nat) : Int), reg, val, adr⟩ = ⟨M2.set adr.toNat val, R2, nx + a, true, g2, s2 + 1, false⟩ := by
      unfold actM; rw [if_neg (by simp), if_neg (by simp), if_pos (by simp), if_neg n2, if_neg (by simp)]; rfl
    rw [a1, a2]
    refine ⟨⟨r1, r2, keep (hw2 (by decide) (by decide)), rfl, rfl, rfl, rfl, by simpa using l1, by simpa using l2, fun A g0 g1 => ?_⟩, rfl, rfl, rfl, fun A g0 g1 => ?_, fun A g0 g1 => ?_⟩
    · simp only
      rw [mm_set l1 _ (by omega) (by omega) (by omega), mm_set l2 _ (by omega) (by omega) (by omega), mem A g0 g1]
    · simp only
      rw [mm_set l1 _ (by omega) (by omega) g0, if_neg (fun q => g1 (by omega))]
    · simp only
      rw [mm_set l2 _ (by omega) (by omega) g0, if_neg (fun q => g1 (by omega))]
  · have f := hfi.2.1 rfl
    simp only at f
    subst f
    refine ⟨⟨by simpa [actM] using r1, by simpa [actM] using r2, ?_, by simp [actM]; omega, by simp [actM], by simp [actM], by simp [actM], by simpa [actM] using l1, by simpa [actM] using l2, by simpa [actM] using mem⟩, by simp [actM], by simp [actM], by simp [actM]; omega, by simpa [actM] using Out.refl _ _ _, by simpa [actM] using Out.refl _ _ _⟩
    simpa [actM] using keep (hw2 (by decide) (by decide))
  · have f := hfi.2.2 rfl
    simp only at f
    subst f
    refine ⟨⟨by simpa [actM] using r1, by simpa [actM] using r2, ?_, by simp [actM]; omega, by simp [actM], by simp [actM], by simp [actM], by simpa [actM] using l1, by simpa [actM] using l2, by simpa [actM] using mem⟩, by simp [actM], by simp [actM], by simp [actM], by simpa [actM] using Out.refl _ _ _, by simpa [actM] using Out.refl _ _ _⟩
    simpa [actM] using keep (hw2 (by decide) (by decide))

/-- So many steps of a run, none bad. -/
def StepsM (l : List Ins) : Nat → Mach → Mach → Prop
  | 0, m, m' => m = m'
  | k + 1, m, m' => m.pc < l.length ∧ m.bad = false ∧ (stepM l 0 504 m).steps = m.steps + 1 ∧ StepsM l k (stepM l 0 504 m) m'
theorem StepsM.trans {l : List Ins} : ∀ {k j : Nat} {m m' m'' : Mach}, StepsM l k m m' → StepsM l j m' m'' → StepsM l (k + j) m m''
  | 0, j, m, m', m'', h, g => by rw [Nat.zero_add]; exact (show m = m' from h) ▸ g
  | k + 1, j, m, m', m'', h, g => by
    rw [show k + 1 + j = k + j + 1 by omega]
    exact ⟨h.1, h.2.1, h.2.2.1, StepsM.trans h.2.2.2 g⟩
theorem StepsM.steps {l : List Ins} : ∀ {k : Nat} {m m' : Mach}, StepsM l k m m' → m'.steps = m.steps + k
  | 0, m, m', h => by rw [show m = m' from h]; rfl
  | k + 1, m, m', h => by have := StepsM.steps h.2.2.2; rw [h.2.2.1] at this; omega
theorem StepsM.run {l : List Ins} {most : Nat} : ∀ {k : Nat} {m m' : Mach} (g : Nat), StepsM l k m m' → m.steps + k ≤ most → runM l 0 504 most (k + g) m = runM l 0 504 most g m'
  | 0, m, m', g, h, _ => by rw [show m = m' from h, Nat.zero_add]
  | k + 1, m, m', g, h, hk => by
    rw [show k + 1 + g = k + g + 1 by omega, runM, if_pos ⟨h.1, h.2.1⟩, if_neg (show ¬ most ≤ m.steps by omega)]
    exact StepsM.run g h.2.2.2 (by rw [h.2.2.1]; omega)
/-- A run that comes to its end. -/
theorem StepsM.ends {l : List Ins} {most k : Nat} {m m' : Mach} (h : StepsM l k m m') (hm : m.steps + k ≤ most) (hp : m'.pc = l.length) (g : Nat) (hg : k ≤ g) : runM l 0 504 most g m = m' := by
  have := StepsM.run (most := most) (g - k) h hm
  rw [show k + (g - k) = g by omega] at this
  rw [this]; exact runM_end _ _ _ _ _ _ (by omega)

theorem lock_go {D : List Nat} {a : Nat} {lo hi : Int} (hlo : 0 ≤ lo) (hhi : hi ≤ 504) {l J : List Ins} (hl : l.length ≤ 128) (hu : ∀ i ∈ l, UseI l.length i) (ha : a ≤ 100000) (hf : ∀ (j : Nat) i, l[j]? = some i → Flow D j i)
    (hJ : ∀ (j : Nat) i, l[j]? = some i → J[j + a]? = some (shI a i)) {Q : Mach → Prop} :
    ∀ (n : Nat) (m1 m2 : Mach), Ends l lo hi Q n m1 → Lk D a lo hi m1 m2 → ∃ k m1' m2', k ≤ n ∧ Q m1' ∧ StepsM l k m1 m1' ∧ StepsM J k m2 m2' ∧ Lk D a lo hi m1' m2' ∧
      m2'.begun + m1.begun = m2.begun + m1'.begun ∧ Out lo hi m1.mem m1'.mem ∧ Out lo hi m2.mem m2'.mem
  | 0, m1, m2, h, k => ⟨0, m1, m2, Nat.le_refl _, h, rfl, rfl, k, by omega, Out.refl _ _ _, Out.refl _ _ _⟩
  | n + 1, m1, m2, h, k => by
    rcases h with h | ⟨i, hi', hb, hfi, h⟩
    · exact ⟨0, m1, m2, Nat.zero_le _, h, rfl, rfl, k, by omega, Out.refl _ _ _, Out.refl _ _ _⟩
    · obtain ⟨hlt, he⟩ := List.getElem?_eq_some_iff.1 hi'
      have hm : i ∈ l := he ▸ List.getElem_mem hlt
      obtain ⟨q1, q2, q3, q4, q5, q6⟩ := step_two hlo hhi k (hu i hm) hl ha (hf _ _ hi') hfi
      have hj := hJ _ _ hi'
      rw [← k.pc] at hj
      obtain ⟨hlt2, _⟩ := List.getElem?_eq_some_iff.1 hj
      obtain ⟨c, m1', m2', g1, g2, g3, g4, g5, g6, g7, g8⟩ := lock_go hlo hhi hl hu ha hf hJ n _ _ h q1
      have s1 : stepM l 0 504 m1 = actM 0 504 m1 (doE i m1.regs m1.pc) := by unfold stepM; rw [hi']
      have s2 : stepM J 0 504 m2 = actM 0 504 m2 (doE (shI a i) m2.regs m2.pc) := by unfold stepM; rw [hj]
      refine ⟨c + 1, m1', m2', by omega, g2, ⟨hlt, k.b1, by rw [s1]; exact q2, by rw [s1]; exact g3⟩, ⟨hlt2, k.b2, by rw [s2]; exact q3, by rw [s2]; exact g4⟩, g5, by omega, q5.trans g7, q6.trans g8⟩

end Go.Proofs.Ythlhjahhjoclfaa
