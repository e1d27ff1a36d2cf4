/- A code that comes about: a number; open. -/
import Derived.Test.YthlhjahhjoclfaaCd2
import Derived.Outline
namespace Go.Proofs.Ythlhjahhjoclfaa
set_option maxRecDepth 100000
open Go.RowKit

/-- What a number's parts are. -/
theorem and_mask (E : Int) (h0 : 0 ≤ E) (h1 : E ≤ 18446744073709551615) : bits BinOp.and IntKind.u64 E 2147483647 = E % 2147483648 := by
  have h := bits_and_u64_nat E.toNat 2147483647 (by omega) (by omega)
  rw [show (2147483647 : Nat) = 2 ^ 31 - 1 from rfl, Nat.and_two_pow_sub_one_eq_mod, Int.toNat_of_nonneg h0] at h
  have h2 : ((E.toNat % 2 ^ 31 : Nat) : Int) = E % 2147483648 := by omega
  exact h.trans h2

abbrev St.part (s : St) (a p : Int) : St := ((s.three 9 a a 5).set 6 p).three 4 a a 6
abbrev St.wide (s : St) (a v : Int) : St := (((s.set 5 31).set a (v / 4611686018427387904)).part a (v / 2147483648 % 2147483648)).part a (v % 2147483648)
def St.number (s : St) (a v : Int) : St := if -2147483648 ≤ wrap64 v ∧ wrap64 v ≤ 2147483647 then s.set a (wrap64 v) else s.wide a v

theorem CodeAt.mono {base n m : Nat} {w : World} {b : Nat} {s : St} (h : CodeAt base n w b s) (hm : n ≤ m) : CodeAt base m w b s := by
  obtain ⟨vl, mb, vg, h⟩ := h
  exact ⟨vl, mb, vg, h.blk, h.row, h.map, h.gos, h.bb, h.bm, ⟨Nat.le_trans h.ln.1 hm, Nat.le_trans h.ln.2.1 hm, Nat.le_trans h.ln.2.2 hm⟩, h.ok⟩

theorem number_small (base n : Nat) (w : World) (b : Nat) (s : St) (a v : Int) (hn : n ≤ 4900) (h1 : -2147483648 ≤ wrap64 v) (h2 : wrap64 v ≤ 2147483647) (h : CodeAt base n w b s) :
    Calls Try.prog 40 #[.pointer (some ⟨b, 0, none⟩), .int .i64 a, .int .u64 v] w (CPost base (n + 1) w b (s.set a (wrap64 v))) := by
  have HC := Lib.hid h
  clear h
  go_enter Try.func40, Try.ntmps40
  go_wp2_with fail
  refine (set_any base _ _ b _ _ _ (by omega) HC.out).mono ?_
  rintro e w1 ⟨rfl, hC, hK⟩
  go_wp2_with fail
  go_end0
  exact ⟨rfl, hC, hK⟩

set_option maxHeartbeats 2000000 in
theorem number_wide (base n : Nat) (w : World) (b : Nat) (s : St) (a v : Int) (hn : n ≤ 4900) (h0 : 0 ≤ v) (h1 : v ≤ 18446744073709551615) (h2 : wrap64 v < -2147483648 ∨ 2147483647 < wrap64 v) (h : CodeAt base n w b s) :
    Calls Try.prog 40 #[.pointer (some ⟨b, 0, none⟩), .int .i64 a, .int .u64 v] w (CPost base (n + 8) w b (s.wide a v)) := by
  have HC := Lib.hid h
  have HK := Lib.hid (Kp.refl base w)
  have e1 := and_mask (v / 2147483648) (by omega) (by omega)
  have e0 := and_mask v h0 h1
  have b1 : 0 ≤ v / 2147483648 % 2147483648 := by omega
  have b2 : v / 2147483648 % 2147483648 ≤ 2147483647 := by omega
  have b3 : 0 ≤ v % 2147483648 := by omega
  have b4 : v % 2147483648 ≤ 2147483647 := by omega
  clear h
  unfold St.wide
  generalize v / 2147483648 % 2147483648 = p1 at *
  generalize v % 2147483648 = p0 at *
  have HE1 := Lib.hid e1
  have HE0 := Lib.hid e0
  clear e0 e1
  have i0 : ∀ w, (Instr.index 104 (.agg #[.int .u64 p1, .int .u64 p0]) (.int .i64 0)).run Try.prog w = .ok (.int .u64 p1) w := fun _ => by kernel_rfl
  have i1 : ∀ w, (Instr.index 104 (.agg #[.int .u64 p1, .int .u64 p0]) (.int .i64 1)).run Try.prog w = .ok (.int .u64 p0) w := fun _ => by kernel_rfl
  rcases h2 with h2 | h2
  all_goals
    go_enter Try.func40, Try.ntmps40
    go_wp2_with fail
    refine (set_any base _ _ b _ _ _ (by omega) HC.out).mono ?_
    rintro e w1 ⟨rfl, hC, hK⟩
    replace HC := Lib.hid hC
    replace HK := Lib.hid (HK.out.trans hK)
    clear hC hK
    go_wp2_with fail
    refine (set_any base _ _ b _ _ _ (by omega) HC.out).mono ?_
    rintro e w2 ⟨rfl, hC, hK⟩
    replace HC := Lib.hid hC
    replace HK := Lib.hid (HK.out.trans hK)
    clear hC hK
    go_wp2_with fail
    simp only [HE1.out, HE0.out]
    refine wp_loop_rounds 3 ?_
    rw [rounds_succ]
    go_wp2_with fail
    refine (three_any base _ _ b _ _ _ _ _ (by omega) HC.out).mono ?_
    rintro e w3 ⟨rfl, hC, hK⟩
    replace HC := Lib.hid hC
    replace HK := Lib.hid (HK.out.trans hK)
    clear hC hK
    go_wp2_with fail
    refine (set_any base _ _ b _ _ _ (by omega) HC.out).mono ?_
    rintro e w4 ⟨rfl, hC, hK⟩
    replace HC := Lib.hid hC
    replace HK := Lib.hid (HK.out.trans hK)
    clear hC hK
    go_wp2_with fail
    refine (three_any base _ _ b _ _ _ _ _ (by omega) HC.out).mono ?_
    rintro e w5 ⟨rfl, hC, hK⟩
    replace HC := Lib.hid hC
    replace HK := Lib.hid (HK.out.trans hK)
    clear hC hK
    go_wp2_with fail
    rw [rounds_succ]
    go_wp2_with fail
    refine (three_any base _ _ b _ _ _ _ _ (by omega) HC.out).mono ?_
    rintro e w6 ⟨rfl, hC, hK⟩
    replace HC := Lib.hid hC
    replace HK := Lib.hid (HK.out.trans hK)
    clear hC hK
    go_wp2_with fail
    refine (set_any base _ _ b _ _ _ (by omega) HC.out).mono ?_
    rintro e w7 ⟨rfl, hC, hK⟩
    replace HC := Lib.hid hC
    replace HK := Lib.hid (HK.out.trans hK)
    clear hC hK
    go_wp2_with fail
    refine (three_any base _ _ b _ _ _ _ _ (by omega) HC.out).mono ?_
    rintro e w8 ⟨rfl, hC, hK⟩
    replace HC := Lib.hid hC
    replace HK := Lib.hid (HK.out.trans hK)
    clear hC hK
    go_wp2_with fail
    rw [rounds_succ]
    go_wp2_with fail
    go_end0
    exact ⟨rfl, HC.out, HK.out⟩

theorem number_any (base n : Nat) (w : World) (b : Nat) (s : St) (a v : Int) (hn : n ≤ 4900) (h0 : 0 ≤ v) (h1 : v ≤ 18446744073709551615) (h : CodeAt base n w b s) :
    Calls Try.prog 40 #[.pointer (some ⟨b, 0, none⟩), .int .i64 a, .int .u64 v] w (CPost base (n + 8) w b (s.number a v)) := by
  by_cases hc : -2147483648 ≤ wrap64 v ∧ wrap64 v ≤ 2147483647
  · rw [show s.number a v = s.set a (wrap64 v) from if_pos hc]
    exact (number_small base n w b s a v hn hc.1 hc.2 h).mono fun e w' ⟨he, hC, hK⟩ => ⟨he, hC.mono (by omega), hK⟩
  · rw [show s.number a v = s.wide a v from if_neg hc]
    exact number_wide base n w b s a v hn h0 h1 (by omega) h

set_option maxHeartbeats 1000000 in
theorem open_any (base n : Nat) (w : World) (b : Nat) (s : St) (hn : n ≤ 4900) (h : CodeAt base n w b s) :
    Calls Try.prog 41 #[.pointer (some ⟨b, 0, none⟩)] w (CPost base (n + 5) w b (((((s.set 0 0).set 1 0).set 2 0).set 7 0).three 17 0 0 0)) := by
  have HC := Lib.hid h
  have HK := Lib.hid (Kp.refl base w)
  clear h
  have i0 : ∀ w, (Instr.index 105 (.agg #[.int .i64 0, .int .i64 1, .int .i64 2, .int .i64 7]) (.int .i64 0)).run Try.prog w = .ok (.int .i64 0) w := fun _ => by kernel_rfl
  have i1 : ∀ w, (Instr.index 105 (.agg #[.int .i64 0, .int .i64 1, .int .i64 2, .int .i64 7]) (.int .i64 1)).run Try.prog w = .ok (.int .i64 1) w := fun _ => by kernel_rfl
  have i2 : ∀ w, (Instr.index 105 (.agg #[.int .i64 0, .int .i64 1, .int .i64 2, .int .i64 7]) (.int .i64 2)).run Try.prog w = .ok (.int .i64 2) w := fun _ => by kernel_rfl
  have i3 : ∀ w, (Instr.index 105 (.agg #[.int .i64 0, .int .i64 1, .int .i64 2, .int .i64 7]) (.int .i64 3)).run Try.prog w = .ok (.int .i64 7) w := fun _ => by kernel_rfl
  go_enter Try.func41, Try.ntmps41
  go_wp2_with fail
  refine wp_loop_rounds 5 ?_
  rw [rounds_succ]
  go_wp2_with fail
  refine (set_any base _ _ b _ _ _ (by omega) HC.out).mono ?_
  rintro e w1 ⟨rfl, hC, hK⟩
  replace HC := Lib.hid hC
  replace HK := Lib.hid (HK.out.trans hK)
  clear hC hK
  go_wp2_with fail
  rw [rounds_succ]
  go_wp2_with fail
  refine (set_any base _ _ b _ _ _ (by omega) HC.out).mono ?_
  rintro e w2 ⟨rfl, hC, hK⟩
  replace HC := Lib.hid hC
  replace HK := Lib.hid (HK.out.trans hK)
  clear hC hK
  go_wp2_with fail
  rw [rounds_succ]
  go_wp2_with fail
  refine (set_any base _ _ b _ _ _ (by omega) HC.out).mono ?_
  rintro e w3 ⟨rfl, hC, hK⟩
  replace HC := Lib.hid hC
  replace HK := Lib.hid (HK.out.trans hK)
  clear hC hK
  go_wp2_with fail
  rw [rounds_succ]
  go_wp2_with fail
  refine (set_any base _ _ b _ _ _ (by omega) HC.out).mono ?_
  rintro e w4 ⟨rfl, hC, hK⟩
  replace HC := Lib.hid hC
  replace HK := Lib.hid (HK.out.trans hK)
  clear hC hK
  go_wp2_with fail
  rw [rounds_succ]
  go_wp2_with fail
  refine (put_any base _ _ b _ ⟨17, 0, 0, 0, 0⟩ (by omega) HC.out).mono ?_
  rintro e w5 ⟨rfl, hC, hK⟩
  go_wp2_with fail
  go_end0
  exact ⟨rfl, hC, HK.out.trans hK⟩
end Go.Proofs.Ythlhjahhjoclfaa
