/- The document's Do, whatever instruction of a code. -/
import Derived.Test.YthlhjahhjoclfaaCd19
import Derived.Test.YthlhjahhjoclfaaCd20
namespace Go.Proofs.Ythlhjahhjoclfaa
set_option maxRecDepth 100000
open Go.RowKit

def uok (x : Int) : Prop := 0 ≤ x ∧ x ≤ 18446744073709551615
theorem wrap_ok (x : Int) : uok (IntKind.u64.wrap x) := by
  have e : IntKind.u64.wrap x = x % 18446744073709551616 := by simp [IntKind.wrap, IntKind.signed, IntKind.bits]
  rw [e]; unfold uok; omega
theorem and_ok (x y : Int) : uok (bits BinOp.and IntKind.u64 x y) := wrap_ok _
theorem shl_ok (v : Int) (h : uok v) : ∀ n, uok (shlV n v)
  | 0 => h
  | _ + 1 => wrap_ok _
structure UseI (n : Nat) (i : Ins) : Prop where
  legal : LegalI i
  used : i.op ≠ 6 ∧ i.op ≠ 8 ∧ i.op ≠ 10
  imm : 13 ≤ i.op → i.op ≤ 16 → 0 ≤ i.imm ∧ i.imm ≤ n
structure EfOk (n : Nat) (kd : Int) (nx rx : Nat) (vl : Int) (ad : Nat) : Prop where
  kind : kd = 1 ∨ kd = 2 ∨ kd = 3 ∨ kd = 4 ∨ kd = 5 ∨ kd = 6
  next : nx ≤ n
  reg : rx < 8
  value : uok vl
  addr : ad ≤ 18446744073709551615
def DoPost (w : World) (n : Nat) (E : Ef) (e : Ending) (w' : World) : Prop := ∃ (kd : Int) (nx rx : Nat) (vl : Int) (ad : Nat), E = ⟨kd, nx, rx, vl, ad⟩ ∧ EfOk n kd nx rx vl ad ∧ e = .returned (.agg #[.int .i64 kd, .int .i64 nx, .int .i64 rx, .int .u64 vl, .int .u64 ad]) ∧ Chg [] w w'
theorem do_post {w w' : World} {n : Nat} {E : Ef} {e : Ending} (k nx rx vl ad : Int) (hE : E = ⟨k, nx, rx, vl, ad⟩) (he : e = .returned (.agg #[.int .i64 k, .int .i64 nx, .int .i64 rx, .int .u64 vl, .int .u64 ad])) (hc : Chg [] w w') (hk : k = 1 ∨ k = 2 ∨ k = 3 ∨ k = 4 ∨ k = 5 ∨ k = 6) (h1 : 0 ≤ nx) (h2 : nx ≤ n) (h3 : 0 ≤ rx) (h4 : rx < 8) (h5 : uok vl) (h6 : uok ad) : DoPost w n E e w' := by
  obtain ⟨a, rfl⟩ := Int.eq_ofNat_of_zero_le h1
  obtain ⟨b, rfl⟩ := Int.eq_ofNat_of_zero_le h3
  obtain ⟨c, rfl⟩ := Int.eq_ofNat_of_zero_le h6.1
  exact ⟨k, a, b, vl, c, hE, ⟨hk, by omega, by omega, h5, by have := h6.2; omega⟩, he, hc⟩

theorem doE_eq_y {r : List Int} {a b c i pc : Int} (h : rg r a = rg r b) : doE ⟨14, a, b, c, i⟩ r pc = ⟨2, i, 0, 0, 0⟩ := by
  show Ef.mk 2 (if rg r a = rg r b then _ else _) 0 0 0 = _
  rw [if_pos h]
theorem doE_eq_n {r : List Int} {a b c i pc : Int} (h : ¬ rg r a = rg r b) : doE ⟨14, a, b, c, i⟩ r pc = ⟨2, pc + 1, 0, 0, 0⟩ := by
  show Ef.mk 2 (if rg r a = rg r b then _ else _) 0 0 0 = _
  rw [if_neg h]
theorem doE_ne_y {r : List Int} {a b c i pc : Int} (h : rg r a = rg r b) : doE ⟨15, a, b, c, i⟩ r pc = ⟨2, pc + 1, 0, 0, 0⟩ := by
  show Ef.mk 2 (if rg r a = rg r b then _ else _) 0 0 0 = _
  rw [if_pos h]
theorem doE_ne_n {r : List Int} {a b c i pc : Int} (h : ¬ rg r a = rg r b) : doE ⟨15, a, b, c, i⟩ r pc = ⟨2, i, 0, 0, 0⟩ := by
  show Ef.mk 2 (if rg r a = rg r b then _ else _) 0 0 0 = _
  rw [if_neg h]
theorem doE_lt_y {r : List Int} {a b c i pc : Int} (h : rg r a < rg r b) : doE ⟨16, a, b, c, i⟩ r pc = ⟨2, i, 0, 0, 0⟩ := by
  show Ef.mk 2 (if rg r a < rg r b then _ else _) 0 0 0 = _
  rw [if_pos h]
theorem doE_lt_n {r : List Int} {a b c i pc : Int} (h : ¬ rg r a < rg r b) : doE ⟨16, a, b, c, i⟩ r pc = ⟨2, pc + 1, 0, 0, 0⟩ := by
  show Ef.mk 2 (if rg r a < rg r b then _ else _) 0 0 0 = _
  rw [if_neg h]

set_option maxHeartbeats 1000000 in
theorem Do_any (w : World) (n pc : Nat) (op a b c i : Int) (r0 r1 r2 r3 r4 r5 r6 r7 : Int) (hn : n ≤ 1024) (hpc : pc < n) (hu : UseI n ⟨op, a, b, c, i⟩) (hr : ∀ k : Nat, uok (rg [r0, r1, r2, r3, r4, r5, r6, r7] k)) :
    Calls Try.prog 64 #[.agg #[.int .i64 op, .int .i64 a, .int .i64 b, .int .i64 c, .int .i64 i], .agg #[.int .u64 r0, .int .u64 r1, .int .u64 r2, .int .u64 r3, .int .u64 r4, .int .u64 r5, .int .u64 r6, .int .u64 r7], .int .i64 pc] w (DoPost w n (doE ⟨op, a, b, c, i⟩ [r0, r1, r2, r3, r4, r5, r6, r7] pc)) := by
  obtain ⟨⟨o0, o1, a0, a1, b0, b1, c0, c1⟩, ⟨u6, u8, u10⟩, him⟩ := hu
  simp only at o0 o1 a0 a1 b0 b1 c0 c1 u6 u8 u10 him
  obtain ⟨an, rfl⟩ := Int.eq_ofNat_of_zero_le a0
  obtain ⟨bn, rfl⟩ := Int.eq_ofNat_of_zero_le b0
  obtain ⟨cn, rfl⟩ := Int.eq_ofNat_of_zero_le c0
  have ha : an < 8 := by omega
  have hb : bn < 8 := by omega
  have hc : cn < 8 := by omega
  have p0 : (0 : Int) ≤ (pc : Int) := by omega
  have p1 : (pc : Int) < 1024 := by omega
  have z0 : uok 0 := ⟨by decide, by decide⟩
  rcases (by omega : op = 2 ∨ op = 3 ∨ op = 4 ∨ op = 5 ∨ op = 7 ∨ op = 9 ∨ op = 11 ∨ op = 12 ∨ op = 13 ∨ op = 14 ∨ op = 15 ∨ op = 16 ∨ op = 17 ∨ op = 18) with rfl | rfl | rfl | rfl | rfl | rfl | rfl | rfl | rfl | rfl | rfl | rfl | rfl | rfl
  · exact (Do_2 w an bn cn i pc _ _ _ r0 r1 r2 r3 r4 r5 r6 r7 ha hb hc p0 p1 rfl rfl rfl).mono fun e w' ⟨he, hq⟩ => do_post 1 (pc + 1) (an) (IntKind.u64.wrap i) (0) rfl he hq (by decide) (by omega) (by omega) (by omega) (by omega) (wrap_ok _) z0
  · exact (Do_3 w an bn cn i pc _ _ _ r0 r1 r2 r3 r4 r5 r6 r7 ha hb hc p0 p1 rfl rfl rfl).mono fun e w' ⟨he, hq⟩ => do_post 1 (pc + 1) (an) (rg [r0, r1, r2, r3, r4, r5, r6, r7] bn) (0) rfl he hq (by decide) (by omega) (by omega) (by omega) (by omega) (hr bn) z0
  · exact (Do_4 w an bn cn i pc _ _ _ r0 r1 r2 r3 r4 r5 r6 r7 ha hb hc p0 p1 rfl rfl rfl).mono fun e w' ⟨he, hq⟩ => do_post 1 (pc + 1) (an) (IntKind.u64.wrap (rg [r0, r1, r2, r3, r4, r5, r6, r7] bn + rg [r0, r1, r2, r3, r4, r5, r6, r7] cn)) (0) rfl he hq (by decide) (by omega) (by omega) (by omega) (by omega) (wrap_ok _) z0
  · exact (Do_5 w an bn cn i pc _ _ _ r0 r1 r2 r3 r4 r5 r6 r7 ha hb hc p0 p1 rfl rfl rfl).mono fun e w' ⟨he, hq⟩ => do_post 1 (pc + 1) (an) (IntKind.u64.wrap (rg [r0, r1, r2, r3, r4, r5, r6, r7] bn - rg [r0, r1, r2, r3, r4, r5, r6, r7] cn)) (0) rfl he hq (by decide) (by omega) (by omega) (by omega) (by omega) (wrap_ok _) z0
  · exact (Do_7 w an bn cn i pc _ _ _ r0 r1 r2 r3 r4 r5 r6 r7 ha hb hc p0 p1 rfl rfl rfl).mono fun e w' ⟨he, hq⟩ => do_post 1 (pc + 1) (an) (bits BinOp.and IntKind.u64 (rg [r0, r1, r2, r3, r4, r5, r6, r7] bn) (rg [r0, r1, r2, r3, r4, r5, r6, r7] cn)) (0) rfl he hq (by decide) (by omega) (by omega) (by omega) (by omega) (and_ok _ _) z0
  · exact (Do_9 w an bn cn i pc _ _ _ r0 r1 r2 r3 r4 r5 r6 r7 ha hb hc p0 p1 rfl rfl rfl (hr cn).1 (hr cn).2).mono fun e w' ⟨he, hq⟩ => do_post 1 (pc + 1) (an) (shlV ((rg [r0, r1, r2, r3, r4, r5, r6, r7] cn).toNat % 64) (rg [r0, r1, r2, r3, r4, r5, r6, r7] bn)) (0) rfl he hq (by decide) (by omega) (by omega) (by omega) (by omega) (shl_ok _ (hr bn) _) z0
  · exact (Do_11 w an bn cn i pc _ _ _ r0 r1 r2 r3 r4 r5 r6 r7 ha hb hc p0 p1 rfl rfl rfl).mono fun e w' ⟨he, hq⟩ => do_post 3 (pc + 1) (an) (0) (IntKind.u64.wrap (rg [r0, r1, r2, r3, r4, r5, r6, r7] bn + IntKind.u64.wrap i)) rfl he hq (by decide) (by omega) (by omega) (by omega) (by omega) z0 (wrap_ok _)
  · exact (Do_12 w an bn cn i pc _ _ _ r0 r1 r2 r3 r4 r5 r6 r7 ha hb hc p0 p1 rfl rfl rfl).mono fun e w' ⟨he, hq⟩ => do_post 4 (pc + 1) (0) (rg [r0, r1, r2, r3, r4, r5, r6, r7] an) (IntKind.u64.wrap (rg [r0, r1, r2, r3, r4, r5, r6, r7] bn + IntKind.u64.wrap i)) rfl he hq (by decide) (by omega) (by omega) (by omega) (by omega) (hr an) (wrap_ok _)
  · have hi := him (by decide) (by decide)
    exact (Do_13 w an bn cn i pc _ _ _ r0 r1 r2 r3 r4 r5 r6 r7 ha hb hc p0 p1 rfl rfl rfl (him (by decide) (by decide)).1 (Int.le_trans (him (by decide) (by decide)).2 (by omega))).mono fun e w' ⟨he, hq⟩ => do_post 2 (i) (0) (0) (0) rfl he hq (by decide) (by omega) (by omega) (by omega) (by omega) z0 z0
  · have hi := him (by decide) (by decide)
    by_cases hcd : rg [r0, r1, r2, r3, r4, r5, r6, r7] an = rg [r0, r1, r2, r3, r4, r5, r6, r7] bn
    · exact (Do_14y w an bn cn i pc _ _ _ r0 r1 r2 r3 r4 r5 r6 r7 ha hb hc p0 p1 rfl rfl rfl (him (by decide) (by decide)).1 (Int.le_trans (him (by decide) (by decide)).2 (by omega)) (by simpa using hcd)).mono fun e w' ⟨he, hq⟩ => do_post 2 (i) (0) (0) (0) (doE_eq_y hcd) he hq (by decide) (by omega) (by omega) (by omega) (by omega) z0 z0
    · exact (Do_14n w an bn cn i pc _ _ _ r0 r1 r2 r3 r4 r5 r6 r7 ha hb hc p0 p1 rfl rfl rfl (him (by decide) (by decide)).1 (Int.le_trans (him (by decide) (by decide)).2 (by omega)) (by simpa using hcd)).mono fun e w' ⟨he, hq⟩ => do_post 2 (pc + 1) (0) (0) (0) (doE_eq_n hcd) he hq (by decide) (by omega) (by omega) (by omega) (by omega) z0 z0
  · have hi := him (by decide) (by decide)
    by_cases hcd : rg [r0, r1, r2, r3, r4, r5, r6, r7] an = rg [r0, r1, r2, r3, r4, r5, r6, r7] bn
    · exact (Do_15y w an bn cn i pc _ _ _ r0 r1 r2 r3 r4 r5 r6 r7 ha hb hc p0 p1 rfl rfl rfl (him (by decide) (by decide)).1 (Int.le_trans (him (by decide) (by decide)).2 (by omega)) (by simpa using hcd)).mono fun e w' ⟨he, hq⟩ => do_post 2 (pc + 1) (0) (0) (0) (doE_ne_y hcd) he hq (by decide) (by omega) (by omega) (by omega) (by omega) z0 z0
    · exact (Do_15n w an bn cn i pc _ _ _ r0 r1 r2 r3 r4 r5 r6 r7 ha hb hc p0 p1 rfl rfl rfl (him (by decide) (by decide)).1 (Int.le_trans (him (by decide) (by decide)).2 (by omega)) (by simpa using hcd)).mono fun e w' ⟨he, hq⟩ => do_post 2 (i) (0) (0) (0) (doE_ne_n hcd) he hq (by decide) (by omega) (by omega) (by omega) (by omega) z0 z0
  · have hi := him (by decide) (by decide)
    by_cases hcd : rg [r0, r1, r2, r3, r4, r5, r6, r7] an < rg [r0, r1, r2, r3, r4, r5, r6, r7] bn
    · exact (Do_16y w an bn cn i pc _ _ _ r0 r1 r2 r3 r4 r5 r6 r7 ha hb hc p0 p1 rfl rfl rfl (him (by decide) (by decide)).1 (Int.le_trans (him (by decide) (by decide)).2 (by omega)) (by simpa using hcd)).mono fun e w' ⟨he, hq⟩ => do_post 2 (i) (0) (0) (0) (doE_lt_y hcd) he hq (by decide) (by omega) (by omega) (by omega) (by omega) z0 z0
    · exact (Do_16n w an bn cn i pc _ _ _ r0 r1 r2 r3 r4 r5 r6 r7 ha hb hc p0 p1 rfl rfl rfl (him (by decide) (by decide)).1 (Int.le_trans (him (by decide) (by decide)).2 (by omega)) (by simpa using hcd)).mono fun e w' ⟨he, hq⟩ => do_post 2 (pc + 1) (0) (0) (0) (doE_lt_n hcd) he hq (by decide) (by omega) (by omega) (by omega) (by omega) z0 z0
  · exact (Do_17 w an bn cn i pc _ _ _ r0 r1 r2 r3 r4 r5 r6 r7 ha hb hc p0 p1 rfl rfl rfl).mono fun e w' ⟨he, hq⟩ => do_post 5 (pc + 1) (0) (0) (0) rfl he hq (by decide) (by omega) (by omega) (by omega) (by omega) z0 z0
  · exact (Do_18 w an bn cn i pc _ _ _ r0 r1 r2 r3 r4 r5 r6 r7 ha hb hc p0 p1 rfl rfl rfl).mono fun e w' ⟨he, hq⟩ => do_post 6 (pc + 1) (0) (0) (0) rfl he hq (by decide) (by omega) (by omega) (by omega) (by omega) z0 z0
end Go.Proofs.Ythlhjahhjoclfaa
