/- SchedActs. -/
import Derived.Test.YtagfalnfjiodcaaSched30
namespace Go.Proofs.Ytagfalnfjiodcaa
open Go.RowKit

abbrev RdA (w : World) (A : Option Addr) (l : List (Int × Int)) : Prop := Rd w w.heap.size A 3 encA l

set_option maxHeartbeats 1000000 in
theorem SameA_q (W : World) (A B : Option Addr) (cap cap' : Nat) (l : List (Int × Int)) (hm : l.length ≤ 100000) (hA : RdA W A l) (hB : RdA W B l) :
    Calls Try.prog 27 #[.slice A l.length cap, .slice B l.length cap'] W fun e w' => e = .returned (.bool true) ∧ ∃ q, w' = W.drewN q := by
  have HA := Lib.hid hA
  have HB := Lib.hid hB
  have hm' : (l.length : Int) ≤ 100000 := by omega
  clear hA hB
  go_enter Try.func27, Try.ntmps27
  go_wp2_with fail
  go_loopw [5] (fun i wr => ToldRel W l.length i wr) (fun i _ => l.length - (intOf i).toNat)
  case atStart => exact ⟨0, 0, Nat.zero_le _, rfl, rfl⟩
  case round =>
    obtain ⟨k, q, hk, rfl, rfl⟩ := hrel
    by_cases hlt : k < l.length
    · obtain ⟨b, off, rfl, _, c⟩ := HA.out (by omega)
      obtain ⟨b2, off2, rfl, _, d⟩ := HB.out (by omega)
      have c0 : W.cell? ⟨b, off + k * 3, none⟩ = some (.int .i64 l[k].1) := c k hlt 0 (by decide)
      have c1 : W.cell? ⟨b, off + k * 3 + 1, none⟩ = some (.int .i64 l[k].2) := c k hlt 1 (by decide)
      have c2 : W.cell? ⟨b, off + k * 3 + 2, none⟩ = some (.int .i64 0) := c k hlt 2 (by decide)
      have d0 : W.cell? ⟨b2, off2 + k * 3, none⟩ = some (.int .i64 l[k].1) := d k hlt 0 (by decide)
      have d1 : W.cell? ⟨b2, off2 + k * 3 + 1, none⟩ = some (.int .i64 l[k].2) := d k hlt 1 (by decide)
      have d2 : W.cell? ⟨b2, off2 + k * 3 + 2, none⟩ = some (.int .i64 0) := d k hlt 2 (by decide)
      clear c d
      generalize l[k].1 = x0 at *
      generalize l[k].2 = x1 at *
      go_wp2_with fail
      go_quiet (fail)
      go_wp2_with fail
      go_roundw
      case rel => exact ⟨k + 1, _, by omega, by go_num, rfl⟩
      case measure => simp [intOf]; omega
    · obtain rfl : k = l.length := by omega
      go_wp2_with fail
      go_ret
      exact ⟨rfl, q, rfl⟩

set_option maxHeartbeats 1000000 in
theorem Ints_q (W : World) (A B : Option Addr) (cap cap' : Nat) (l : IL) (hm : l.length ≤ 100000) (hA : NumsA W A W.heap.size l) (hB : NumsA W B W.heap.size l) :
    Calls Try.prog 22 #[.slice A l.length cap, .slice B l.length cap'] W fun e w' => e = .returned (.bool true) ∧ ∃ q, w' = W.drewN q := by
  have HA := Lib.hid hA
  have HB := Lib.hid hB
  have hm' : (l.length : Int) ≤ 100000 := by omega
  clear hA hB
  go_enter Try.func22, Try.ntmps22
  go_wp2_with fail
  go_loopw [5] (fun i wr => ToldRel W l.length i wr) (fun i _ => l.length - (intOf i).toNat)
  case atStart => exact ⟨0, 0, Nat.zero_le _, rfl, rfl⟩
  case round =>
    obtain ⟨k, q, hk, rfl, rfl⟩ := hrel
    by_cases hlt : k < l.length
    · obtain ⟨b, off, rfl, _, c1⟩ := HA.out k hlt
      obtain ⟨b2, off2, rfl, _, c2⟩ := HB.out k hlt
      generalize l[k] = lk at *
      go_wp2_with fail
      go_quiet (fail)
      go_wp2_with fail
      go_roundw
      case rel => exact ⟨k + 1, _, by omega, by go_num, rfl⟩
      case measure => simp [intOf]; omega
    · obtain rfl : k = l.length := by omega
      go_wp2_with fail
      go_ret
      exact ⟨rfl, q, rfl⟩

theorem quiet_left {P : Program} {f : FuncId} {args : Array Value} {w : World} {n : Nat} {v : Value}
    (h : Calls P f args (w.drewN n) fun e w' => e = .returned v ∧ w.drewN n = w') : Calls P f args (w.drewN n) fun e w'' => e = .returned v ∧ ∃ m, w'' = w.drewN m :=
  h.mono fun _ _ ⟨he, hm⟩ => ⟨he, n, hm.symm⟩

theorem actR_len (l : IL) (per : Int) (hl : l.length ≤ 300) : (actR l per).length ≤ 100000 := by
  unfold actR
  split
  · rename_i h
    rw [actsL_len]
    have hp : per.toNat ≤ 100 := by
      unfold actE at h
      split at h
      · cases h
      · split at h
        · cases h
        · omega
    exact Nat.le_trans (Nat.mul_le_mul hl (show per.toNat + 1 ≤ 101 by omega)) (by decide)
  · simp
theorem cntL_len (l : IL) (c : Int) : (cntL l c).length ≤ 100000 := by
  unfold cntL
  split
  · rw [cntK_len]; omega
  · simp

theorem APost.sn {W w' : World} {l : List (Int × Int)} {err : Int} {e : Ending} (h : APost W l err e w') : ∃ A c, e = .returned (.tuple #[.slice A l.length c, .int .i64 err]) ∧ RdA w' A l ∧ Chg [] W w' := by
  obtain ⟨v, rfl, hv, hC⟩ := h
  obtain ⟨A, c, rfl, _, _, _, hR, _⟩ := Rd.of_row encA_len hv
  exact ⟨A, c, rfl, hR, hC⟩
theorem OnPost.sn {W w' : World} {l : IL} {e : Ending} (h : OnPost W l e w') : ∃ A c, e = .returned (.slice A l.length c) ∧ NumsA w' A w'.heap.size l ∧ Chg [] W w' := by
  obtain ⟨v, rfl, hv, hC⟩ := h
  obtain ⟨A, c, rfl, _, hN⟩ := NumsA.of_row hv
  exact ⟨A, c, rfl, hN, hC⟩

set_option maxRecDepth 100000 in
set_option maxHeartbeats 4000000 in
theorem SchedActs_any (W : World) (A : Option Addr) (cap : Nat) (l : IL) (per x0 x1 : Int) (hcap : l.length ≤ cap) (hA0 : A = none → cap = 0) (hA : NumsA W A W.heap.size l) (hm : l.length ≤ maxLen) :
    Calls Try.prog 5 #[.slice A l.length cap, .int .i64 per, .agg #[.int .i64 x0, .int .i64 x1]] W (StaysPost W) := by
  unfold maxLen at hm
  by_cases hl : 300 < l.length
  · have hl' : (300 : Int) < l.length := by omega
    clear hA hA0 hcap
    go_enter Try.func5, Try.ntmps5
    go_wp2_with fail
    go_ret
    exact ⟨rfl, (Below.refl _ _).alloc (Nat.le_refl _) _⟩
  have hl3 : l.length ≤ 300 := by omega
  have hl' : (l.length : Int) ≤ 300 := by omega
  have hB0 := Blk.new W [.int .i64 x0, .int .i64 x1] 38
  have hC0 : Chg [] W (W.alloc (.cells #[.int .i64 x0, .int .i64 x1] 38)) := (Chg.refl _ _).alloc _
  have HT := Lib.hid (twin_any _ A cap l (by omega) hcap hA0 (hA.chg hC0))
  have HA0 := Lib.hid (hA.chg hC0)
  have HB0 := Lib.hid hB0
  have HC0 := Lib.hid hC0
  clear hA hA0 hcap hm hl hB0 hC0
  go_enter Try.func5, Try.ntmps5
  go_wp2_with fail
  refine HT.out.mono ?_
  intro e w1 h
  obtain ⟨g, c, rfl, hc, hN, hC⟩ := h
  have HN1 := Lib.hid hN
  have HA1 := Lib.hid (HA0.out.chg hC)
  have HX1 := Lib.hid (hC.blk HB0.out (by simp))
  have HC1 := Lib.hid (HC0.out.trans hC)
  have hcap : l.length ≤ c := by omega
  clear hN hC HT HC0 HB0 HA0
  go_wp2_with fail
  refine (Acts_any w1 (some ⟨g, 0, none⟩) c l per hl3 HN1.out.head).mono ?_
  intro e w2 h
  obtain ⟨Aa, ca, rfl, hR, hC⟩ := h.sn
  have HRa2 := Lib.hid hR
  have HN2 := Lib.hid (HN1.out.chg hC)
  have HA2 := Lib.hid (HA1.out.chg hC)
  have HX2 := Lib.hid (hC.blk HX1.out (by simp))
  have HC2 := Lib.hid (HC1.out.trans hC)
  clear h hR hC HN1 HA1 HX1 HC1
  go_wp2_with fail
  refine (ActsR_any w2 A cap l per hl3 HA2.out).mono ?_
  intro e w3 h
  obtain ⟨Ab, cb, rfl, hR, hC⟩ := h.sn
  have HRb3 := Lib.hid hR
  have HRa3 := Lib.hid (HRa2.out.chg0 hC)
  have HN3 := Lib.hid (HN2.out.chg hC)
  have HA3 := Lib.hid (HA2.out.chg hC)
  have hx3 := hC.blk HX2.out (by simp)
  have HX3 := Lib.hid hx3
  have HC3 := Lib.hid (HC2.out.trans hC)
  have z0 : w3.cell? ⟨W.heap.size, 0, none⟩ = some (.int .i64 x0) := hx3.cell 0
  clear h hR hC hx3 HN2 HA2 HX2 HC2 HRa2
  go_wp2_with fail
  go_still_tail 6, (by kernel_rfl)
  go_wp2_with fail
  refine (CountsA_any _ (some ⟨g, 0, none⟩) c l x0 (by omega) (HN3.out.chg ((Chg.refl [] w3).drewN 1)).head).mono ?_
  intro e w4 h
  obtain ⟨Ac, cc, rfl, hR, hC4⟩ := h.sn
  have hC := ((Chg.refl [] w3).drewN 1).trans hC4
  have HRc4 := Lib.hid hR
  have HRa4 := Lib.hid (HRa3.out.chg0 hC)
  have HRb4 := Lib.hid (HRb3.out.chg0 hC)
  have HN4 := Lib.hid (HN3.out.chg hC)
  have HA4 := Lib.hid (HA3.out.chg hC)
  have hx4 := hC.blk HX3.out (by simp)
  have HX4 := Lib.hid hx4
  have HC4 := Lib.hid (HC3.out.trans hC)
  have z0 : w4.cell? ⟨W.heap.size, 0, none⟩ = some (.int .i64 x0) := hx4.cell 0
  clear h hR hC hC4 hx4 HN3 HA3 HX3 HC3 HRa3 HRb3
  go_wp2_with fail
  refine (CountsR_any w4 A cap l x0 (by omega) HA4.out).mono ?_
  intro e w5 h
  obtain ⟨Ad, cd, rfl, hR, hC⟩ := h.sn
  have HRd5 := Lib.hid hR
  have HRa5 := Lib.hid (HRa4.out.chg0 hC)
  have HRb5 := Lib.hid (HRb4.out.chg0 hC)
  have HRc5 := Lib.hid (HRc4.out.chg hC)
  have hN5 := HN4.out.chg hC
  have HN5 := Lib.hid hN5
  have HA5 := Lib.hid (HA4.out.chg hC)
  have hx5 := hC.blk HX4.out (by simp)
  have HC5 := Lib.hid (HC4.out.trans hC)
  have z1 : w5.cell? ⟨W.heap.size, 1, none⟩ = some (.int .i64 x1) := hx5.cell 1
  have z7 : w5.cell? ⟨g, l.length, none⟩ = some (.int .i64 77) := by
    obtain ⟨b, off, e, _, hc⟩ := hN5 l.length (by simp)
    obtain ⟨rfl, rfl⟩ : g = b ∧ 0 = off := by simpa using e
    rw [Nat.zero_add] at hc
    simpa only [List.getElem_append_right (Nat.le_refl _), Nat.sub_self, List.getElem_cons_zero] using hc
  have hal := actR_len l per hl3
  have hcl := cntL_len l x0
  have hll : l.length ≤ 100000 := by omega
  have HD := Lib.hid (fun n => (Chg.refl [] w5).drewN n)
  clear h hR hC hx5 hN5 HN4 HA4 HX4 HC4 HRa4 HRb4 HRc4 z0
  have HAL := Lib.hid hal
  have HCL := Lib.hid hcl
  have HLL := Lib.hid hll
  clear hal hcl hll
  generalize actR l per = ra at *
  generalize actE l per = ea at *
  generalize cntL l x0 = rc at *
  go_wp2_with fail
  go_quiet (first
    | (go_at_call 27; exact Calls.quiet_of (SameA_q _ Aa Ab ca cb ra HAL.out (HRa5.out.chg0 (HD.out _)) (HRb5.out.chg0 (HD.out _))))
    | (go_at_call 22; exact Calls.quiet_of (Ints_q _ _ _ _ _ _ (by first | exact HCL.out | exact HLL.out) (by first | exact HRc5.out.chg (HD.out _) | exact (HN5.out.chg (HD.out _)).head) (by first | exact HRd5.out.chg (HD.out _) | exact HA5.out.chg (HD.out _))))
    | (go_at_call 28; exact quiet_left (Wait_any _ (some ⟨g, 0, none⟩) c l x1 HLL.out (HN5.out.chg (HD.out _)).head))
    | (go_at_call 29; exact quiet_left (WaitR_any _ A cap l x1 HLL.out (HA5.out.chg (HD.out _)))))
  go_wp2_with fail
  go_ret
  exact ⟨rfl, (HC5.out.drewN _).to_below (by simp) (Nat.le_refl _)⟩

end Go.Proofs.Ytagfalnfjiodcaa
