/- The closure of Seeds. -/
import Derived.Test.YtagfalnfjiodcaaSched7
import Derived.Laws.BitsAllLaws
namespace Go.Proofs.Ytagfalnfjiodcaa
open Go.RowKit

theorem xor_in (a b : Int) (h1 : 0 ≤ a) (h2 : a < 18446744073709551616) (h3 : 0 ≤ b) (h4 : b < 18446744073709551616) : 0 ≤ bits .xor .u64 a b ∧ bits .xor .u64 a b < 18446744073709551616 := by
  rw [u64_xor a b h1 h2 h3 h4]
  have := Nat.xor_lt_two_pow (n := 64) (x := a.toNat) (y := b.toNat) (by omega) (by omega)
  omega
def xA (x : Int) : Int := bits .xor .u64 x (x / 4096)
def xB (x : Int) : Int := bits .xor .u64 (xA x) (IntKind.u64.wrap (xA x * 33554432))
def xN (x : Int) : Int := bits .xor .u64 (xB x) (xB x / 134217728)
theorem u64_wrap_in (x : Int) : 0 ≤ IntKind.u64.wrap x ∧ IntKind.u64.wrap x < 18446744073709551616 := by
  have e : IntKind.u64.wrap x = x % 18446744073709551616 := by simp [IntKind.wrap, IntKind.signed, IntKind.bits]
  omega
theorem xN_in {x : Int} (h0 : 0 ≤ x) (h : x < 18446744073709551616) : 0 ≤ xN x ∧ xN x < 18446744073709551616 := by
  have ha := xor_in x (x / 4096) h0 h (by omega) (by omega)
  have hw := u64_wrap_in (xA x * 33554432)
  have hb := xor_in (xA x) _ ha.1 ha.2 hw.1 hw.2
  have hb' : 0 ≤ xB x ∧ xB x < 18446744073709551616 := hb
  exact xor_in (xB x) (xB x / 134217728) hb'.1 hb'.2 (by omega) (by omega)

/-- Whose turn it is: the state is the number behind its step, and who waited. -/
def sC (n : Nat) (x : Int) (wa : IL) : Nat := if wa.getD (gI (wa.take n)) 0 < 3 * (n : Int) then (x % n).toNat else gI (wa.take n)
def sX (x : Int) : Nat → Int
  | 0 => x
  | t + 1 => xN (sX x t)
def sSt (n : Nat) (x : Int) : Nat → IL
  | 0 => [0, 0, 0, 0]
  | t + 1 => onL (sSt n x t) (sC n (sX x (t + 1)) (sSt n x t))
theorem sSt_len (n : Nat) (x : Int) (t : Nat) : (sSt n x t).length = 4 := by
  induction t with
  | zero => rfl
  | succ t ih => rw [sSt, onL_len, ih]
theorem sSt_bound (n : Nat) (x : Int) (t : Nat) : ∀ y ∈ sSt n x t, 0 ≤ y ∧ y ≤ t := by
  induction t with
  | zero => intro x hx; simp [sSt] at hx; subst hx; simp
  | succ t ih =>
    rw [sSt]
    have := onL_bound (c := sC n (sX x (t + 1)) (sSt n x t)) ih
    intro x hx
    have := this x hx
    omega
theorem sX_in {x : Int} (h0 : 0 ≤ x) (h : x < 18446744073709551616) (t : Nat) : 0 ≤ sX x t ∧ sX x t < 18446744073709551616 := by
  induction t with
  | zero => exact ⟨h0, h⟩
  | succ t ih => exact xN_in ih.1 ih.2
theorem gI_take_lt {l : IL} {n : Nat} (h1 : 1 ≤ n) (h : n ≤ l.length) : gI (l.take n) < n := by
  have := (gI_spec (l := l.take n) (by simp; omega)).1
  simpa [Nat.min_eq_left h] using this
theorem sC_lt {n : Nat} (h1 : 1 ≤ n) (h4 : n ≤ 4) (x : Int) {wa : IL} (h : wa.length = 4) : sC n x wa < n := by
  have := gI_take_lt h1 (h.symm ▸ h4)
  have h2 : x % (n : Int) < n := Int.emod_lt_of_pos _ (by omega)
  have h3 : 0 ≤ x % (n : Int) := Int.emod_nonneg _ (by omega)
  unfold sC
  split <;> omega

set_option maxRecDepth 100000 in
set_option maxHeartbeats 2000000 in
theorem seeds1_any (W : World) (c0 c1 c2 n : Nat) (x : Int) (wa : IL) (h1 : 1 ≤ n) (h4n : n ≤ 4) (h4 : wa.length = 4) (hb : ∀ x ∈ wa, 0 ≤ x ∧ x ≤ 1000000) (hx0 : 0 ≤ x) (hx : x < 18446744073709551616) (hc0 : Blk W c0 [.int .u64 x] 22) (hc1 : Blk W c1 (wa.map (Value.int .i64)) 66) (hc2 : Blk W c2 [.int .i64 (n : Int)] 3) (h01 : c0 ≠ c1) (h02 : c0 ≠ c2) (h12 : c1 ≠ c2) :
    Calls Try.prog 37 #[.pointer (some ⟨c0, 0, none⟩), .pointer (some ⟨c1, 0, none⟩), .pointer (some ⟨c2, 0, none⟩)] W fun e w' => e = .returned (.int .i64 (sC n (xN x) wa : Int)) ∧ Blk w' c0 [.int .u64 (xN x)] 22 ∧ Blk w' c1 ((onL wa (sC n (xN x) wa)).map (Value.int .i64)) 66 ∧ TC [c0, c1] W w' := by
  have k0 : W.cell? ⟨c0, 0, none⟩ = some (.int .u64 x) := hc0.cell 0
  have f0 : W.frozen? ⟨c0, 0, none⟩ = false := hc0.free 0
  have k2 : W.cell? ⟨c2, 0, none⟩ = some (.int .i64 (n : Int)) := hc2.cell 0
  have hn1 : (1 : Int) ≤ n := by omega
  have hn4 : (n : Int) ≤ 4 := by omega
  have HC0 := Lib.hid hc0
  have HC1 := Lib.hid hc1
  have HC2 := Lib.hid hc2
  have HB := Lib.hid hb
  clear hc0 hc1 hc2 hb
  have hS : Blk (((W.setCell ⟨c0, 0, none⟩ (.int .u64 (xA x))).setCell ⟨c0, 0, none⟩ (.int .u64 (xB x))).setCell ⟨c0, 0, none⟩ (.int .u64 (xN x))) c0 [.int .u64 (xN x)] 22 := ((HC0.out.set 0 _).set 0 _).set 0 _
  have hT : TC [c0] W (((W.setCell ⟨c0, 0, none⟩ (.int .u64 (xA x))).setCell ⟨c0, 0, none⟩ (.int .u64 (xB x))).setCell ⟨c0, 0, none⟩ (.int .u64 (xN x))) := (((TC.refl _ _).setCell (by simp) _).setCell (by simp) _).setCell (by simp) _
  have hXin := xN_in hx0 hx
  have HS := Lib.hid hS
  have HT := Lib.hid hT
  have HX := Lib.hid hXin
  clear hS hT hXin
  go_enter Try.func37, Try.ntmps37
  go_wp2_with fail
  obtain ⟨w1, hw1, hS1, hT1⟩ : ∃ w1, w1 = (((W.setCell ⟨c0, 0, none⟩ (.int .u64 (bits .xor .u64 x (x / 4096)))).setCell ⟨c0, 0, none⟩ (.int .u64 (bits .xor .u64 (bits .xor .u64 x (x / 4096)) (IntKind.u64.wrap (bits .xor .u64 x (x / 4096) * 33554432))))).setCell ⟨c0, 0, none⟩ (.int .u64 (bits .xor .u64 (bits .xor .u64 (bits .xor .u64 x (x / 4096)) (IntKind.u64.wrap (bits .xor .u64 x (x / 4096) * 33554432))) (bits .xor .u64 (bits .xor .u64 x (x / 4096)) (IntKind.u64.wrap (bits .xor .u64 x (x / 4096) * 33554432)) / 134217728)))) ∧ Blk w1 c0 [.int .u64 (xN x)] 22 ∧ TC [c0] W w1 := ⟨_, rfl, HS.out, HT.out⟩
  rw [← hw1]
  clear hw1 HS HT
  obtain ⟨z3, hz3⟩ : ∃ z, z = bits .xor .u64 (bits .xor .u64 x (x / 4096)) (IntKind.u64.wrap (bits .xor .u64 x (x / 4096) * 33554432)) := ⟨_, rfl⟩
  rw [← hz3]
  obtain ⟨z4, hz4⟩ : ∃ z, z = bits .xor .u64 z3 (z3 / 134217728) := ⟨_, rfl⟩
  rw [← hz4]
  obtain ⟨z5, hz5⟩ : ∃ z, z = z3 / 134217728 := ⟨_, rfl⟩
  rw [← hz5]
  clear hz3 hz4 hz5
  obtain ⟨z1, hz1⟩ : ∃ z, z = bits .xor .u64 x (x / 4096) := ⟨_, rfl⟩
  rw [← hz1]
  obtain ⟨z2, hz2⟩ : ∃ z, z = IntKind.u64.wrap (z1 * 33554432) := ⟨_, rfl⟩
  rw [← hz2]
  obtain ⟨z0, hz0⟩ : ∃ z, z = x / 4096 := ⟨_, rfl⟩
  rw [← hz0]
  clear hz0 hz1 hz2
  have q0 : w1.cell? ⟨c0, 0, none⟩ = some (.int .u64 (xN x)) := hS1.cell 0
  have q2 : w1.cell? ⟨c2, 0, none⟩ = some (.int .i64 (n : Int)) := (hT1.1.blk HC2.out (by simpa using h02.symm)).cell 0
  have hB1 : Blk w1 c1 (wa.map (Value.int .i64)) 66 := hT1.1.blk HC1.out (by simpa using h01.symm)
  have hg := greatest_n w1 c1 4 n (wa.take n) (by simp; omega) (by omega) (by omega) ((Nums.of_blk hB1).take _)
  have hgl := gI_take_lt (l := wa) h1 (by omega)
  have hg4 : gI (wa.take n) < 4 := by omega
  have q1 : w1.cell? ⟨c1, gI (wa.take n), none⟩ = some (.int .i64 (wa.getD (gI (wa.take n)) 0)) := by
    rw [hB1.cell, List.getElem?_map]
    simp [h4, hg4]
  have hC4 := sC_lt h1 h4n (xN x) h4
  have hC4' : sC n (xN x) wa < 4 := by omega
  have hw := fun nd => wait_any (w1.drewN nd) c1 wa (sC n (xN x) wa) h4 hC4' HB.out (hB1.drewN nd)
  have HW := Lib.hid hw
  have HG := Lib.hid hg
  have HS1 := Lib.hid hS1
  have HT1 := Lib.hid hT1
  have hCd : (wa.getD (gI (wa.take n)) 0 < 3 * (n : Int) ∧ (sC n (xN x) wa : Int) = xN x % n) ∨ (¬ wa.getD (gI (wa.take n)) 0 < 3 * (n : Int) ∧ sC n (xN x) wa = gI (wa.take n)) := by
    unfold sC
    split
    · rename_i h
      exact .inl ⟨h, by rw [Int.toNat_of_nonneg (Int.emod_nonneg _ (by omega))]⟩
    · rename_i h
      exact .inr ⟨h, rfl⟩
  have HD := Lib.hid hCd
  have hcl : gI (wa.take n) < 4 := by omega
  have hwn : IntKind.u64.wrap (n : Int) = n := by rw [show IntKind.u64.wrap (n : Int) = (n : Int) % 18446744073709551616 from by simp [IntKind.wrap, IntKind.signed, IntKind.bits]]; omega
  clear hw hg hS1 hT1 hB1 hCd hC4 hgl
  refine HG.out.mono ?_
  clear HG
  rintro e w' ⟨rfl, rfl⟩
  generalize wa.getD (gI (wa.take n)) 0 = y at *
  generalize gI (wa.take n) = g at *
  obtain ⟨hXl, hXu⟩ := HX.out
  generalize hXE : xN x = X at *
  generalize hCE : sC n X wa = c at *
  go_wp2_with fail
  go_quiet (fail)
  rcases HD.out with ⟨hlt, he⟩ | ⟨hlt, he⟩
  · go_wp2_with fail
    rw [← he]
    refine (HW.out nq).mono ?_
    rintro e w' ⟨rfl, hb, ht⟩
    have HP := Lib.hid hb
    have HQ := Lib.hid (((HT1.out.drewN nq).mono (D := [c0, c1]) (by simp)).trans (ht.mono (D := [c0, c1]) (by simp)))
    have HR := Lib.hid (ht.1.blk (HS1.out.drewN nq) (by simpa using h01))
    clear hb ht
    go_wp2_with fail
    go_ret
    exact ⟨by rw [hXE, hCE, he]; rfl, by rw [hXE]; exact HR.out, by rw [hXE, hCE]; exact HP.out, HQ.out⟩
  · subst he
    go_wp2_with fail
    refine (HW.out nq).mono ?_
    rintro e w' ⟨rfl, hb, ht⟩
    have HP := Lib.hid hb
    have HQ := Lib.hid (((HT1.out.drewN nq).mono (D := [c0, c1]) (by simp)).trans (ht.mono (D := [c0, c1]) (by simp)))
    have HR := Lib.hid (ht.1.blk (HS1.out.drewN nq) (by simpa using h01))
    clear hb ht
    go_wp2_with fail
    go_ret
    exact ⟨by rw [hXE, hCE]; rfl, by rw [hXE]; exact HR.out, by rw [hXE, hCE]; exact HP.out, HQ.out⟩

end Go.Proofs.Ytagfalnfjiodcaa
