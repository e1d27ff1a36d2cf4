/- What a run keeps: the plain side. -/
import Derived.Test.YthlhjahhjoclfaaCd22
namespace Go.Proofs.Ythlhjahhjoclfaa
set_option maxRecDepth 100000
open Go.RowKit

theorem do_ok {n : Nat} {E : Ef} (k nx rx vl ad : Int) (hE : E = ⟨k, nx, rx, vl, ad⟩) (hk : k = 1 ∨ k = 2 ∨ k = 3 ∨ k = 4 ∨ k = 5 ∨ k = 6) (h1 : 0 ≤ nx) (h2 : nx ≤ n) (h3 : 0 ≤ rx) (h4 : rx < 8) (h5 : uok vl) (h6 : uok ad) : ∃ (kd : Int) (a b : Nat) (vl : Int) (c : Nat), E = ⟨kd, a, b, vl, c⟩ ∧ EfOk n kd a b vl c := by
  obtain ⟨a, rfl⟩ := Int.eq_ofNat_of_zero_le h1
  obtain ⟨b, rfl⟩ := Int.eq_ofNat_of_zero_le h3
  obtain ⟨c, rfl⟩ := Int.eq_ofNat_of_zero_le h6.1
  exact ⟨k, a, b, vl, c, hE, ⟨hk, by omega, by omega, h5, by have := h6.2; omega⟩⟩

theorem doE_ok (n pc : Nat) (i : Ins) (R : List Int) (hpc : pc < n) (hu : UseI n i) (hr : ∀ k : Nat, uok (rg R k)) : ∃ (kd : Int) (a b : Nat) (vl : Int) (c : Nat), doE i R pc = ⟨kd, a, b, vl, c⟩ ∧ EfOk n kd a b vl c := by
  obtain ⟨op, a, b, c, i⟩ := i
  obtain ⟨⟨o0, o1, a0, a1, b0, b1, c0, c1⟩, ⟨u6, u8, u10⟩, him⟩ := hu
  simp only at o0 o1 a0 a1 b0 b1 c0 c1 u6 u8 u10 him
  obtain ⟨an, rfl⟩ := Int.eq_ofNat_of_zero_le a0
  obtain ⟨bn, rfl⟩ := Int.eq_ofNat_of_zero_le b0
  obtain ⟨cn, rfl⟩ := Int.eq_ofNat_of_zero_le c0
  have z0 : uok 0 := ⟨by decide, by decide⟩
  rcases (by omega : op = 2 ∨ op = 3 ∨ op = 4 ∨ op = 5 ∨ op = 7 ∨ op = 9 ∨ op = 11 ∨ op = 12 ∨ op = 13 ∨ op = 14 ∨ op = 15 ∨ op = 16 ∨ op = 17 ∨ op = 18) with rfl | rfl | rfl | rfl | rfl | rfl | rfl | rfl | rfl | rfl | rfl | rfl | rfl | rfl
  · exact do_ok 1 (pc + 1) (an) (IntKind.u64.wrap i) (0) rfl (by decide) (by omega) (by omega) (by omega) (by omega) (wrap_ok _) z0
  · exact do_ok 1 (pc + 1) (an) (rg R bn) (0) rfl (by decide) (by omega) (by omega) (by omega) (by omega) (hr bn) z0
  · exact do_ok 1 (pc + 1) (an) (IntKind.u64.wrap (rg R bn + rg R cn)) (0) rfl (by decide) (by omega) (by omega) (by omega) (by omega) (wrap_ok _) z0
  · exact do_ok 1 (pc + 1) (an) (IntKind.u64.wrap (rg R bn - rg R cn)) (0) rfl (by decide) (by omega) (by omega) (by omega) (by omega) (wrap_ok _) z0
  · exact do_ok 1 (pc + 1) (an) (bits BinOp.and IntKind.u64 (rg R bn) (rg R cn)) (0) rfl (by decide) (by omega) (by omega) (by omega) (by omega) (and_ok _ _) z0
  · exact do_ok 1 (pc + 1) (an) (shlV ((rg R cn).toNat % 64) (rg R bn)) (0) rfl (by decide) (by omega) (by omega) (by omega) (by omega) (shl_ok _ (hr bn) _) z0
  · exact do_ok 3 (pc + 1) (an) (0) (IntKind.u64.wrap (rg R bn + IntKind.u64.wrap i)) rfl (by decide) (by omega) (by omega) (by omega) (by omega) z0 (wrap_ok _)
  · exact do_ok 4 (pc + 1) (0) (rg R an) (IntKind.u64.wrap (rg R bn + IntKind.u64.wrap i)) rfl (by decide) (by omega) (by omega) (by omega) (by omega) (hr an) (wrap_ok _)
  · have hi := him (by decide) (by decide)
    exact do_ok 2 (i) (0) (0) (0) rfl (by decide) (by omega) (by omega) (by omega) (by omega) z0 z0
  · have hi := him (by decide) (by decide)
    by_cases hcd : rg R an = rg R bn
    · exact do_ok 2 (i) (0) (0) (0) (doE_eq_y hcd) (by decide) (by omega) (by omega) (by omega) (by omega) z0 z0
    · exact do_ok 2 (pc + 1) (0) (0) (0) (doE_eq_n hcd) (by decide) (by omega) (by omega) (by omega) (by omega) z0 z0
  · have hi := him (by decide) (by decide)
    by_cases hcd : rg R an = rg R bn
    · exact do_ok 2 (pc + 1) (0) (0) (0) (doE_ne_y hcd) (by decide) (by omega) (by omega) (by omega) (by omega) z0 z0
    · exact do_ok 2 (i) (0) (0) (0) (doE_ne_n hcd) (by decide) (by omega) (by omega) (by omega) (by omega) z0 z0
  · have hi := him (by decide) (by decide)
    by_cases hcd : rg R an < rg R bn
    · exact do_ok 2 (i) (0) (0) (0) (doE_lt_y hcd) (by decide) (by omega) (by omega) (by omega) (by omega) z0 z0
    · exact do_ok 2 (pc + 1) (0) (0) (0) (doE_lt_n hcd) (by decide) (by omega) (by omega) (by omega) (by omega) z0 z0
  · exact do_ok 5 (pc + 1) (0) (0) (0) rfl (by decide) (by omega) (by omega) (by omega) (by omega) z0 z0
  · exact do_ok 6 (pc + 1) (0) (0) (0) rfl (by decide) (by omega) (by omega) (by omega) (by omega) z0 z0

structure Keeps (n N : Nat) (m : Mach) : Prop where
  regs : m.regs.length = 8
  rok : ∀ k : Nat, uok (rg m.regs k)
  mem : m.mem.length = N
  mok : ∀ x ∈ m.mem, uok x
  pc : m.pc ≤ n
theorem Keeps.act {n N : Nat} {m : Mach} (h : Keeps n N m) (fr til : Int) {kd : Int} {a b : Nat} {vl : Int} {c : Nat} (he : EfOk n kd a b vl c) : Keeps n N (actM fr til m ⟨kd, a, b, vl, c⟩) := by
  obtain ⟨h1, h2, h3, h4, h5⟩ := h
  have ha := he.next
  have hmv : uok (m.mem.getD c 0) := by
    by_cases hc : c < m.mem.length
    · rw [List.getD, List.getElem?_eq_getElem hc]; exact h4 _ (List.getElem_mem hc)
    · rw [List.getD, List.getElem?_eq_none (by omega)]; exact ⟨by decide, by decide⟩
  unfold actM
  simp only
  split
  · exact ⟨by simpa using h1, rg_set h2 he.value _, h3, h4, by simpa using ha⟩
  · split
    · exact ⟨h1, h2, h3, h4, by simpa using ha⟩
    · split
      · split
        · exact ⟨h1, h2, h3, h4, h5⟩
        · split
          · exact ⟨by simpa using h1, rg_set h2 (by simpa using hmv) _, h3, h4, by simpa using ha⟩
          · exact ⟨h1, h2, by simpa using h3, mem_set h4 he.value _, by simpa using ha⟩
      · split
        · split
          · exact ⟨h1, h2, h3, h4, h5⟩
          · exact ⟨h1, h2, h3, h4, by simpa using ha⟩
        · split
          · exact ⟨h1, h2, h3, h4, h5⟩
          · exact ⟨h1, h2, h3, h4, by simpa using ha⟩
theorem Keeps.run {l : List Ins} (hu : ∀ i ∈ l, UseI l.length i) {N : Nat} (fr til : Int) (most : Nat) : ∀ (g : Nat) (m : Mach), Keeps l.length N m → Keeps l.length N (runM l fr til most g m)
  | 0, m, h => h
  | g + 1, m, h => by
    unfold runM
    split
    · rename_i hc
      split
      · exact ⟨h.regs, h.rok, h.mem, h.mok, h.pc⟩
      · refine Keeps.run hu fr til most g _ ?_
        rw [stepM, List.getElem?_eq_getElem hc.1]
        obtain ⟨kd, a, b, vl, c, e, hok⟩ := doE_ok l.length m.pc (l[m.pc]'hc.1) m.regs hc.1 (hu _ (List.getElem_mem _)) h.rok
        simp only
        rw [e]
        exact h.act fr til hok
    · exact h

end Go.Proofs.Ythlhjahhjoclfaa
