/- What a code's run leaves, whatever stands beside its library; codes that were joined; the plain side. -/
import Derived.Test.YthlhjahhjoclfaaCd38
namespace Go.Proofs.Ythlhjahhjoclfaa
set_option maxRecDepth 100000
open Go.RowKit

theorem shI_zero {n : Nat} {i : Ins} (hu : UseI n i) (hn : n ≤ 128) : shI 0 i = i := by
  unfold shI
  split
  · rename_i h
    have := hu.imm h.1 h.2
    rw [show wrap64 (i.imm + 0) = i.imm by rw [Int.add_zero]; exact IntWalk.wrap64_in _ (by omega)]
  · rfl
theorem regs_three {R S : List Int} (hR : R.length = 8) (hS : S.length = 8) (h : ∀ k, k < 3 → R.getD k 0 = S.getD k 0) : S.take 3 = R.take 3 := by
  obtain ⟨a0, a1, a2, a3, a4, a5, a6, a7, rfl⟩ := eight hR
  obtain ⟨b0, b1, b2, b3, b4, b5, b6, b7, rfl⟩ := eight hS
  have h0 := h 0 (by decide); have h1 := h 1 (by decide); have h2 := h 2 (by decide)
  simp only [List.getD_cons_zero, List.getD_cons_succ] at h0 h1 h2
  rw [h0, h1, h2]; rfl
theorem mm_ext {M N : List Int} (hM : M.length = 504) (hN : N.length = 504) (h : ∀ A, 0 ≤ A → A < 504 → mm M A = mm N A) : M = N := by
  refine List.ext_getElem (by omega) fun j h1 h2 => ?_
  have := h j (by omega) (by omega)
  simpa [mm, List.getD, h1, h2] using this
theorem run9_of {l : List Ins} {M : List Int} {k : Nat} {m' : Mach} (h : StepsM l k (start9 M) m') (hk : k ≤ 20000) (hp : m'.pc = l.length) : run9 l M = m' :=
  StepsM.ends (most := 20000) h (by show 0 + k ≤ _; omega) hp 20001 (by omega)

/-- One code, over two memories that agree on its library's words. -/
theorem apart_step {x c base bk cap : Int} (k v : Int) (hu : usualB x c = true) (hp : PlOk x base bk cap) {B : Nat} (hB : B ≤ 1000) {M1 M2 : List Int} (h : LOk x base bk cap B M1) (l1 : M1.length = 504) (l2 : M2.length = 504)
    (hm : ∀ A, base ≤ A → A < base + sizeK x bk cap → mm M2 A = mm M1 A) {l : List Ins} (hl : codeL x c base bk cap k v = l) :
    ansOf l.length (run9 l M2) = ansOf l.length (run9 l M1) ∧ LOk x base bk cap (B + 1) (run9 l M1).mem ∧ (run9 l M1).mem.length = 504 ∧ (run9 l M2).mem.length = 504 ∧
      (∀ A, base ≤ A → A < base + sizeK x bk cap → mm (run9 l M2).mem A = mm (run9 l M1).mem A) ∧ Out base (base + sizeK x bk cap) M1 (run9 l M1).mem ∧ Out base (base + sizeK x bk cap) M2 (run9 l M2).mem := by
  obtain ⟨D, hD, hD0⟩ := code_flow base bk cap k v hu
  obtain ⟨u1, u2, u3⟩ := useL_of (codeL_use x c base bk cap k v hu)
  have he := code_ends k v hu hp h l1 [9, 9, 9, 9, 9, 9, 9, 9] rfl 0 0
  rw [hl] at hD u1 u2 u3 he
  obtain ⟨f1, f2⟩ := flow_of hD
  obtain ⟨n, m1', m2', g1, g2, g3, g4, g5, g6, g7, g8⟩ := lock_go hp.b0 hp.top (J := l) (a := 0) u1 u3 (by omega) (fun j i hj => by have := f1 j i hj; rwa [Nat.zero_add] at this)
    (fun j i hj => by
      rw [Nat.add_zero, hj]
      obtain ⟨hlt, hh⟩ := List.getElem?_eq_some_iff.1 hj
      rw [show ((0 : Nat) : Int) = 0 from rfl, shI_zero (u3 i (hh ▸ List.getElem_mem hlt)) u1]) _ _ (start9 M2) he
    ⟨rfl, rfl, fun _ _ => rfl, rfl, rfl, rfl, rfl, l1, l2, hm⟩
  obtain ⟨q1, q2, q3, q4, q5, q6⟩ := g2
  have e1 := run9_of g3 (by omega) q1
  have e2 := run9_of g4 (by omega) (by rw [g5.pc, q1]; rfl)
  rw [e1, e2]
  have hfine1 : fineM l.length 1 m1' = true := by simp [fineM, q1, q2, q3, q4]
  have hfine2 : fineM l.length 1 m2' = true := by
    have hb : m2'.begun = 1 := by have : m2'.begun + 0 = 0 + m1'.begun := g6; omega
    simp [fineM, g5.pc, q1, g5.b2, g5.ins, q3, hb]
  refine ⟨?_, q6, q5, g5.l2, g5.mem, g7, g8⟩
  unfold ansOf
  rw [if_pos hfine1, if_pos hfine2]
  exact regs_three g5.r1 g5.r2 fun k hk => g5.agree k (by rw [q1]; have := f2 k hk; rwa [Nat.zero_add] at this)

def start5 : Mach := ⟨zeros, [5, 5, 5, 0, 0, 0, 0, 0], 0, false, 0, 0, false⟩
/-- What codes leave one behind the other, run as one. -/
def JInv (P : List (List Ins)) (M last : List Int) : Prop :=
  ∀ J : List Ins, (∀ (j : Nat) i, (joinL P)[j]? = some i → J[j]? = some i) → ∃ k m', k ≤ 20000 * P.length ∧ StepsM J k start5 m' ∧ m'.pc = (joinL P).length ∧ m'.bad = false ∧ m'.inside = false ∧ m'.begun = P.length ∧ m'.mem = M ∧ m'.regs.length = 8 ∧ m'.regs.take 3 = last
theorem JInv.nil : JInv [] zeros [5, 5, 5] := fun J _ => ⟨0, start5, Nat.zero_le _, rfl, rfl, rfl, rfl, rfl, rfl, rfl, rfl⟩
theorem joined_step {x c base bk cap : Int} (k v : Int) (hu : usualB x c = true) (hp : PlOk x base bk cap) {B : Nat} (hB : B ≤ 1000) {M : List Int} (h : LOk x base bk cap B M) (l1 : M.length = 504)
    {P : List (List Ins)} {last : List Int} (hP : (joinL P).length ≤ 100000) (hJ : JInv P M last) {l : List Ins} (hl : codeL x c base bk cap k v = l) :
    JInv (P ++ [l]) (run9 l M).mem (ansOf l.length (run9 l M)) ∧ LOk x base bk cap (B + 1) (run9 l M).mem ∧ (run9 l M).mem.length = 504 ∧ Out base (base + sizeK x bk cap) M (run9 l M).mem := by
  obtain ⟨D, hD, hD0⟩ := code_flow base bk cap k v hu
  obtain ⟨u1, u2, u3⟩ := useL_of (codeL_use x c base bk cap k v hu)
  have he := code_ends k v hu hp h l1 [9, 9, 9, 9, 9, 9, 9, 9] rfl 0 0
  have ha := apart_step k v hu hp hB h l1 l1 (fun _ _ _ => rfl) hl
  refine ⟨fun J hJ2 => ?_, ha.2.1, ha.2.2.1, ha.2.2.2.2.2.1⟩
  rw [hl] at hD u1 u2 u3 he
  obtain ⟨f1, f2⟩ := flow_of hD
  rw [joinL_snoc] at hJ2 ⊢
  obtain ⟨k0, m0, j1, j2, j3, j4, j5, j6, j7, j8, j9⟩ := hJ J (fun j i hj => by
    obtain ⟨hlt, _⟩ := List.getElem?_eq_some_iff.1 hj
    exact hJ2 j i (by rw [List.getElem?_append_left hlt]; exact hj))
  obtain ⟨n, m1', m2', g1, g2, g3, g4, g5, g6, g7, g8⟩ := lock_go hp.b0 hp.top (J := J) (a := (joinL P).length) u1 u3 hP (fun j i hj => by have := f1 j i hj; rwa [Nat.zero_add] at this)
    (fun j i hj => hJ2 _ _ (by rw [List.getElem?_append_right (by omega), Nat.add_sub_cancel, List.getElem?_map, hj]; rfl)) _ _ m0 he
    ⟨rfl, j8, fun k hk => by rw [hD0] at hk; simp at hk, by rw [j3]; exact (Nat.zero_add _).symm, j5, rfl, j4, l1, by rw [j7]; exact l1, fun A _ _ => by rw [j7]⟩
  obtain ⟨q1, q2, q3, q4, q5, q6⟩ := g2
  have e1 := run9_of g3 (by omega) q1
  have hfine1 : fineM l.length 1 m1' = true := by simp [fineM, q1, q2, q3, q4]
  have hmem : m2'.mem = m1'.mem := mm_ext g5.l2 g5.l1 fun A a0 a1 => by
    by_cases hA : base ≤ A ∧ A < base + sizeK x bk cap
    · exact g5.mem A hA.1 hA.2
    · rw [g8 A a0 hA, g7 A a0 hA, j7]
  refine ⟨k0 + n, m2', by rw [List.length_append]; simp only [List.length_cons, List.length_nil]; omega, j2.trans g4, by rw [g5.pc, q1, List.length_append, List.length_map]; omega, g5.b2, by rw [g5.ins]; exact q3, ?_, by rw [hmem, e1], g5.r2, ?_⟩
  · have : m2'.begun + 0 = m0.begun + m1'.begun := g6
    rw [List.length_append]; simp only [List.length_cons, List.length_nil]; omega
  · rw [e1, ansOf, if_pos hfine1]
    exact regs_three g5.r1 g5.r2 fun k hk => g5.agree k (by rw [q1]; have := f2 k hk; rwa [Nat.zero_add] at this)
theorem joined_run {P : List (List Ins)} {M last : List Int} (hJ : JInv P M last) (hP : P.length ≤ 12) : ∃ m' : Mach, runM (joinL P) 0 504 240000 240001 start5 = m' ∧ fineM (joinL P).length P.length m' = true ∧ m'.mem = M ∧ m'.regs.take 3 = last := by
  obtain ⟨k, m', h1, h2, h3, h4, h5, h6, h7, h8, h9⟩ := hJ (joinL P) (fun _ _ h => h)
  exact ⟨m', StepsM.ends (most := 240000) h2 (by show 0 + k ≤ _; omega) h3 240001 (by omega), by simp [fineM, h3, h4, h5, h6], h7, h9⟩

/-- Libraries beside each other. -/
theorem LOk.beside {x base bk cap : Int} (hx : x = 0 ∨ x = 1 ∨ x = 2) (hp : PlOk x base bk cap) {B : Nat} {M M' : List Int} (h : LOk x base bk cap B M) {lo hi : Int} (ho : Out lo hi M M') (hd : hi ≤ base ∨ base + sizeK x bk cap ≤ lo) : LOk x base bk cap B M' :=
  h.same hx hp fun A a0 a1 => ho A (by have := hp.b0; omega) (by omega)
end Go.Proofs.Ythlhjahhjoclfaa
