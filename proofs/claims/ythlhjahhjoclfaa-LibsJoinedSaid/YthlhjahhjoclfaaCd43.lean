/- Three libraries in one memory, and each in a memory of its own: what calls by turns leave; the plain side. -/
import Derived.Test.YthlhjahhjoclfaaCd42
namespace Go.Proofs.Ythlhjahhjoclfaa
set_option maxRecDepth 100000
open Go.RowKit

def MOk504 (M : List Int) : Prop := M.length = 504 ∧ ∀ x ∈ M, uok x
theorem MOk504.zeros : MOk504 zeros := ⟨by simp [Go.Proofs.Ythlhjahhjoclfaa.zeros], zeros_ok⟩
def Agree (lo hi : Int) (M N : List Int) : Prop := ∀ A, lo ≤ A → A < hi → mm M A = mm N A
theorem Agree.out1 {lo hi lo' hi' : Int} {M N M' : List Int} (h : Agree lo hi M N) (ho : Out lo' hi' M M') (h0 : 0 ≤ lo) (hd : hi ≤ lo' ∨ hi' ≤ lo) : Agree lo hi M' N :=
  fun A a0 a1 => (ho A (by omega) (by omega)).trans (h A a0 a1)
structure ApIn (b0 b1 b2 bk c0 c1 c2 : Int) (i : Nat) (M N0 N1 N2 : List Int) : Prop where
  m : MOk504 M
  m0 : MOk504 N0
  m1 : MOk504 N1
  m2 : MOk504 N2
  q0 : ∃ B, B ≤ i ∧ LOk 0 b0 bk c0 B N0
  q1 : ∃ B, B ≤ i ∧ LOk 1 b1 bk c1 B N1
  q2 : ∃ B, B ≤ i ∧ LOk 2 b2 bk c2 B N2
  a0 : Agree b0 (b0 + sizeK 0 bk c0) M N0
  a1 : Agree b1 (b1 + sizeK 1 bk c1) M N1
  a2 : Agree b2 (b2 + sizeK 2 bk c2) M N2
theorem ApIn.start {b0 b1 b2 bk c0 c1 c2 : Int} (h : Three b0 b1 b2 bk c0 c1 c2) : ApIn b0 b1 b2 bk c0 c1 c2 0 zeros zeros zeros zeros := by
  obtain ⟨p0, p1, p2, _⟩ := h.pl
  exact ⟨.zeros, .zeros, .zeros, .zeros, ⟨0, Nat.le_refl _, .zero p0⟩, ⟨0, Nat.le_refl _, .zero p1⟩, ⟨0, Nat.le_refl _, .zero p2⟩, fun _ _ _ => rfl, fun _ _ _ => rfl, fun _ _ _ => rfl⟩
theorem ApIn.skip {b0 b1 b2 bk c0 c1 c2 : Int} {i : Nat} {M N0 N1 N2 : List Int} (h : ApIn b0 b1 b2 bk c0 c1 c2 i M N0 N1 N2) : ApIn b0 b1 b2 bk c0 c1 c2 (i + 1) M N0 N1 N2 := by
  obtain ⟨m, m0, m1, m2, ⟨B0, e0, q0⟩, ⟨B1, e1, q1⟩, ⟨B2, e2, q2⟩, a0, a1, a2⟩ := h
  exact ⟨m, m0, m1, m2, ⟨B0, by omega, q0⟩, ⟨B1, by omega, q1⟩, ⟨B2, by omega, q2⟩, a0, a1, a2⟩

theorem ApIn.step0 {b0 b1 b2 bk c0 c1 c2 : Int} (h3 : Three b0 b1 b2 bk c0 c1 c2) {i : Nat} (hi : i ≤ 900) {M N0 N1 N2 : List Int} (h : ApIn b0 b1 b2 bk c0 c1 c2 i M N0 N1 N2) {c : Int} (x v : Int) (hu : usualB 0 c = true) {l : List Ins} (hl : codeL 0 c b0 bk c0 x v = l) :
    ansOf l.length (run9 l M) = ansOf l.length (run9 l N0) ∧ ApIn b0 b1 b2 bk c0 c1 c2 (i + 1) (run9 l M).mem (run9 l N0).mem N1 N2 := by
  obtain ⟨p0, p1, p2, s0, s1, s2⟩ := h3.pl
  obtain ⟨h0, hk, hc0, hc1, hc2, e1, e2⟩ := h3
  obtain ⟨m, m0, m1, m2, q0, q1, q2, a0, a1, a2⟩ := h
  obtain ⟨u1, u2, u3⟩ := useL_of (codeL_use 0 c b0 bk c0 x v hu)
  rw [hl] at u1 u2 u3
  obtain ⟨B, hB, hq⟩ := q0
  obtain ⟨g1, g2, g3, g4, g5, g6, g7⟩ := apart_step x v hu p0 (by omega) hq m0.1 m.1 a0 hl
  have hm := run9_mem u3 m.2
  have hn := run9_mem u3 m0.2
  refine ⟨g1, ⟨⟨g4, hm.2⟩, ⟨g3, hn.2⟩, m1, m2, ⟨B + 1, by omega, g2⟩, q1.elim fun B h => ⟨B, by omega, h.2⟩, q2.elim fun B h => ⟨B, by omega, h.2⟩, g5, a1.out1 g7 p1.b0 (by omega), a2.out1 g7 p2.b0 (by omega)⟩⟩
theorem ApIn.step1 {b0 b1 b2 bk c0 c1 c2 : Int} (h3 : Three b0 b1 b2 bk c0 c1 c2) {i : Nat} (hi : i ≤ 900) {M N0 N1 N2 : List Int} (h : ApIn b0 b1 b2 bk c0 c1 c2 i M N0 N1 N2) {c : Int} (x v : Int) (hu : usualB 1 c = true) {l : List Ins} (hl : codeL 1 c b1 bk c1 x v = l) :
    ansOf l.length (run9 l M) = ansOf l.length (run9 l N1) ∧ ApIn b0 b1 b2 bk c0 c1 c2 (i + 1) (run9 l M).mem N0 (run9 l N1).mem N2 := by
  obtain ⟨p0, p1, p2, s0, s1, s2⟩ := h3.pl
  obtain ⟨h0, hk, hc0, hc1, hc2, e1, e2⟩ := h3
  obtain ⟨m, m0, m1, m2, q0, q1, q2, a0, a1, a2⟩ := h
  obtain ⟨u1, u2, u3⟩ := useL_of (codeL_use 1 c b1 bk c1 x v hu)
  rw [hl] at u1 u2 u3
  obtain ⟨B, hB, hq⟩ := q1
  obtain ⟨g1, g2, g3, g4, g5, g6, g7⟩ := apart_step x v hu p1 (by omega) hq m1.1 m.1 a1 hl
  have hm := run9_mem u3 m.2
  have hn := run9_mem u3 m1.2
  refine ⟨g1, ⟨⟨g4, hm.2⟩, m0, ⟨g3, hn.2⟩, m2, q0.elim fun B h => ⟨B, by omega, h.2⟩, ⟨B + 1, by omega, g2⟩, q2.elim fun B h => ⟨B, by omega, h.2⟩, a0.out1 g7 p0.b0 (by omega), g5, a2.out1 g7 p2.b0 (by omega)⟩⟩
theorem ApIn.step2 {b0 b1 b2 bk c0 c1 c2 : Int} (h3 : Three b0 b1 b2 bk c0 c1 c2) {i : Nat} (hi : i ≤ 900) {M N0 N1 N2 : List Int} (h : ApIn b0 b1 b2 bk c0 c1 c2 i M N0 N1 N2) {c : Int} (x v : Int) (hu : usualB 2 c = true) {l : List Ins} (hl : codeL 2 c b2 bk c2 x v = l) :
    ansOf l.length (run9 l M) = ansOf l.length (run9 l N2) ∧ ApIn b0 b1 b2 bk c0 c1 c2 (i + 1) (run9 l M).mem N0 N1 (run9 l N2).mem := by
  obtain ⟨p0, p1, p2, s0, s1, s2⟩ := h3.pl
  obtain ⟨h0, hk, hc0, hc1, hc2, e1, e2⟩ := h3
  obtain ⟨m, m0, m1, m2, q0, q1, q2, a0, a1, a2⟩ := h
  obtain ⟨u1, u2, u3⟩ := useL_of (codeL_use 2 c b2 bk c2 x v hu)
  rw [hl] at u1 u2 u3
  obtain ⟨B, hB, hq⟩ := q2
  obtain ⟨g1, g2, g3, g4, g5, g6, g7⟩ := apart_step x v hu p2 (by omega) hq m2.1 m.1 a2 hl
  have hm := run9_mem u3 m.2
  have hn := run9_mem u3 m2.2
  refine ⟨g1, ⟨⟨g4, hm.2⟩, m0, m1, ⟨g3, hn.2⟩, q0.elim fun B h => ⟨B, by omega, h.2⟩, q1.elim fun B h => ⟨B, by omega, h.2⟩, ⟨B + 1, by omega, g2⟩, a0.out1 g7 p0.b0 (by omega), a1.out1 g7 p1.b0 (by omega), g5⟩⟩

structure JoIn (b0 b1 b2 bk c0 c1 c2 : Int) (i : Nat) (M : List Int) : Prop where
  m : MOk504 M
  q0 : ∃ B, B ≤ i ∧ LOk 0 b0 bk c0 B M
  q1 : ∃ B, B ≤ i ∧ LOk 1 b1 bk c1 B M
  q2 : ∃ B, B ≤ i ∧ LOk 2 b2 bk c2 B M
theorem JoIn.start {b0 b1 b2 bk c0 c1 c2 : Int} (h : Three b0 b1 b2 bk c0 c1 c2) : JoIn b0 b1 b2 bk c0 c1 c2 0 zeros := by
  obtain ⟨p0, p1, p2, _⟩ := h.pl
  exact ⟨.zeros, ⟨0, Nat.le_refl _, .zero p0⟩, ⟨0, Nat.le_refl _, .zero p1⟩, ⟨0, Nat.le_refl _, .zero p2⟩⟩
theorem JoIn.skip {b0 b1 b2 bk c0 c1 c2 : Int} {i : Nat} {M : List Int} (h : JoIn b0 b1 b2 bk c0 c1 c2 i M) : JoIn b0 b1 b2 bk c0 c1 c2 (i + 1) M := by
  obtain ⟨m, ⟨B0, e0, q0⟩, ⟨B1, e1, q1⟩, ⟨B2, e2, q2⟩⟩ := h
  exact ⟨m, ⟨B0, by omega, q0⟩, ⟨B1, by omega, q1⟩, ⟨B2, by omega, q2⟩⟩

theorem JoIn.step0 {b0 b1 b2 bk c0 c1 c2 : Int} (h3 : Three b0 b1 b2 bk c0 c1 c2) {i : Nat} (hi : i ≤ 900) {M : List Int} (h : JoIn b0 b1 b2 bk c0 c1 c2 i M) {P : List (List Ins)} {last : List Int} (hP : (joinL P).length ≤ 100000) (hJ : JInv P M last) {c : Int} (x v : Int) (hu : usualB 0 c = true) {l : List Ins} (hl : codeL 0 c b0 bk c0 x v = l) :
    JInv (P ++ [l]) (run9 l M).mem (ansOf l.length (run9 l M)) ∧ JoIn b0 b1 b2 bk c0 c1 c2 (i + 1) (run9 l M).mem := by
  obtain ⟨p0, p1, p2, s0, s1, s2⟩ := h3.pl
  obtain ⟨h0, hk, hc0, hc1, hc2, e1, e2⟩ := h3
  obtain ⟨m, q0, q1, q2⟩ := h
  obtain ⟨u1, u2, u3⟩ := useL_of (codeL_use 0 c b0 bk c0 x v hu)
  rw [hl] at u1 u2 u3
  obtain ⟨B, hB, hq⟩ := q0
  obtain ⟨g1, g2, g3, g4⟩ := joined_step x v hu p0 (by omega) hq m.1 hP hJ hl
  refine ⟨g1, ⟨⟨g3, (run9_mem u3 m.2).2⟩, ⟨B + 1, by omega, g2⟩, q1.elim fun B h => ⟨B, by omega, h.2.beside (by decide) p1 g4 (by omega)⟩, q2.elim fun B h => ⟨B, by omega, h.2.beside (by decide) p2 g4 (by omega)⟩⟩⟩
theorem JoIn.step1 {b0 b1 b2 bk c0 c1 c2 : Int} (h3 : Three b0 b1 b2 bk c0 c1 c2) {i : Nat} (hi : i ≤ 900) {M : List Int} (h : JoIn b0 b1 b2 bk c0 c1 c2 i M) {P : List (List Ins)} {last : List Int} (hP : (joinL P).length ≤ 100000) (hJ : JInv P M last) {c : Int} (x v : Int) (hu : usualB 1 c = true) {l : List Ins} (hl : codeL 1 c b1 bk c1 x v = l) :
    JInv (P ++ [l]) (run9 l M).mem (ansOf l.length (run9 l M)) ∧ JoIn b0 b1 b2 bk c0 c1 c2 (i + 1) (run9 l M).mem := by
  obtain ⟨p0, p1, p2, s0, s1, s2⟩ := h3.pl
  obtain ⟨h0, hk, hc0, hc1, hc2, e1, e2⟩ := h3
  obtain ⟨m, q0, q1, q2⟩ := h
  obtain ⟨u1, u2, u3⟩ := useL_of (codeL_use 1 c b1 bk c1 x v hu)
  rw [hl] at u1 u2 u3
  obtain ⟨B, hB, hq⟩ := q1
  obtain ⟨g1, g2, g3, g4⟩ := joined_step x v hu p1 (by omega) hq m.1 hP hJ hl
  refine ⟨g1, ⟨⟨g3, (run9_mem u3 m.2).2⟩, q0.elim fun B h => ⟨B, by omega, h.2.beside (by decide) p0 g4 (by omega)⟩, ⟨B + 1, by omega, g2⟩, q2.elim fun B h => ⟨B, by omega, h.2.beside (by decide) p2 g4 (by omega)⟩⟩⟩
theorem JoIn.step2 {b0 b1 b2 bk c0 c1 c2 : Int} (h3 : Three b0 b1 b2 bk c0 c1 c2) {i : Nat} (hi : i ≤ 900) {M : List Int} (h : JoIn b0 b1 b2 bk c0 c1 c2 i M) {P : List (List Ins)} {last : List Int} (hP : (joinL P).length ≤ 100000) (hJ : JInv P M last) {c : Int} (x v : Int) (hu : usualB 2 c = true) {l : List Ins} (hl : codeL 2 c b2 bk c2 x v = l) :
    JInv (P ++ [l]) (run9 l M).mem (ansOf l.length (run9 l M)) ∧ JoIn b0 b1 b2 bk c0 c1 c2 (i + 1) (run9 l M).mem := by
  obtain ⟨p0, p1, p2, s0, s1, s2⟩ := h3.pl
  obtain ⟨h0, hk, hc0, hc1, hc2, e1, e2⟩ := h3
  obtain ⟨m, q0, q1, q2⟩ := h
  obtain ⟨u1, u2, u3⟩ := useL_of (codeL_use 2 c b2 bk c2 x v hu)
  rw [hl] at u1 u2 u3
  obtain ⟨B, hB, hq⟩ := q2
  obtain ⟨g1, g2, g3, g4⟩ := joined_step x v hu p2 (by omega) hq m.1 hP hJ hl
  refine ⟨g1, ⟨⟨g3, (run9_mem u3 m.2).2⟩, q0.elim fun B h => ⟨B, by omega, h.2.beside (by decide) p0 g4 (by omega)⟩, q1.elim fun B h => ⟨B, by omega, h.2.beside (by decide) p1 g4 (by omega)⟩, ⟨B + 1, by omega, g2⟩⟩⟩

end Go.Proofs.Ythlhjahhjoclfaa
