/- Seeds. -/
import Derived.Test.YtagfalnfjiodcaaSched9
namespace Go.Proofs.Ytagfalnfjiodcaa
open Go.RowKit

set_option maxRecDepth 100000 in
set_option maxHeartbeats 2000000 in
theorem Seeds_out (w : World) (c x m : Int) (h : c < 0 ∨ c = 0 ∨ c = 5 ∨ 5 < c) :
    Calls Try.prog 15 #[.int .i64 c, .int .u64 x, .int .i64 m] w (SPost w [] 240) := by
  obtain ⟨i0, hi, hz0, hz1, hz2⟩ := info_parts infoI64
  have main : ∀ k : Nat, (k = 0 ∨ k = 5) → mayL (List.replicate k 0) 0 m = 240 := fun k hk => by rw [mayL_zeros, if_pos (by omega)]
  rcases h with h | rfl | rfl | h
  · have HM := Lib.hid (main 0 (by decide))
    clear main
    go_enter Try.func15, Try.ntmps15
    go_wp2_with (first
      | (at_make; refine wpList_make_full _ rfl _ _ 23 rfl 0 3 i0 (.int .i64 0) 1 Try.underlying23 hi hz0 hz1 .i64 .i64 _ _ 0 rfl rfl rfl rfl (by rw [hz2]; decide) (by unfold maxLen; decide) (Nat.zero_le _) ?_; intro w1 hown hgrow; have HO := Lib.hid hown; have HG := Lib.hid (Chg.of_grown hgrow); clear hown hgrow))
    have hz : w1.ownsRow 0 3 1 (.slice (some ⟨w.heap.size + 1, 0, none⟩) 0 0) (List.replicate 0 (0 : Int)).length ((List.replicate 0 (0 : Int)).map (Value.int .i64)) := by
      have := HO.out
      rw [made_zero] at this
      simpa using this
    obtain ⟨A', cap', e1, _, hA⟩ := NumsA.of_row hz
    obtain ⟨rfl, rfl⟩ : some ⟨w.heap.size + 1, 0, none⟩ = A' ∧ 0 = cap' := by simpa using e1
    have hc := may_any w1 _ 0 _ 0 m (by simp) hA
    rw [List.length_replicate, HM.out] at hc
    have hC1 : Chg [] w w1 := ((Chg.refl [] w).alloc _).trans HG.out
    have HC1 := Lib.hid hC1
    clear hz hA hC1 e1
    refine hc.mono ?_
    clear hc
    rintro e w2 ⟨rfl, h2⟩
    have HC2 := Lib.hid (HC1.out.trans h2.1)
    clear h2
    go_wp2_with fail
    go_ret2
    exact SPost.bad HC2.out
  · have HM := Lib.hid (main 0 (by decide))
    clear main
    go_enter Try.func15, Try.ntmps15
    go_wp2_with (first
      | (at_make; refine wpList_make_full _ rfl _ _ 23 rfl 0 3 i0 (.int .i64 0) 1 Try.underlying23 hi hz0 hz1 .i64 .i64 _ _ 0 rfl rfl rfl rfl (by rw [hz2]; decide) (by unfold maxLen; decide) (Nat.zero_le _) ?_; intro w1 hown hgrow; have HO := Lib.hid hown; have HG := Lib.hid (Chg.of_grown hgrow); clear hown hgrow))
    have hz : w1.ownsRow 0 3 1 (.slice (some ⟨w.heap.size + 1, 0, none⟩) 0 0) (List.replicate 0 (0 : Int)).length ((List.replicate 0 (0 : Int)).map (Value.int .i64)) := by
      have := HO.out
      rw [made_zero] at this
      simpa using this
    obtain ⟨A', cap', e1, _, hA⟩ := NumsA.of_row hz
    obtain ⟨rfl, rfl⟩ : some ⟨w.heap.size + 1, 0, none⟩ = A' ∧ 0 = cap' := by simpa using e1
    have hc := may_any w1 _ 0 _ 0 m (by simp) hA
    rw [List.length_replicate, HM.out] at hc
    have hC1 : Chg [] w w1 := ((Chg.refl [] w).alloc _).trans HG.out
    have HC1 := Lib.hid hC1
    clear hz hA hC1 e1
    refine hc.mono ?_
    clear hc
    rintro e w2 ⟨rfl, h2⟩
    have HC2 := Lib.hid (HC1.out.trans h2.1)
    clear h2
    go_wp2_with fail
    go_ret2
    exact SPost.bad HC2.out
  · have HM := Lib.hid (main 5 (by decide))
    clear main
    go_enter Try.func15, Try.ntmps15
    go_wp2_with (first
      | (at_make; refine wpList_make_full _ rfl _ _ 23 rfl 0 3 i0 (.int .i64 0) 1 Try.underlying23 hi hz0 hz1 .i64 .i64 _ _ 5 rfl rfl rfl rfl (by rw [hz2]; decide) (by unfold maxLen; decide) (Nat.zero_le _) ?_; intro w1 hown hgrow; have HO := Lib.hid hown; have HG := Lib.hid (Chg.of_grown hgrow); clear hown hgrow))
    have hz : w1.ownsRow 0 3 1 (.slice (some ⟨w.heap.size + 1, 0, none⟩) 5 5) (List.replicate 5 (0 : Int)).length ((List.replicate 5 (0 : Int)).map (Value.int .i64)) := by
      have := HO.out
      rw [made_zero] at this
      simpa using this
    obtain ⟨A', cap', e1, _, hA⟩ := NumsA.of_row hz
    obtain ⟨rfl, rfl⟩ : some ⟨w.heap.size + 1, 0, none⟩ = A' ∧ 5 = cap' := by simpa using e1
    have hc := may_any w1 _ 5 _ 0 m (by simp) hA
    rw [List.length_replicate, HM.out] at hc
    have hC1 : Chg [] w w1 := ((Chg.refl [] w).alloc _).trans HG.out
    have HC1 := Lib.hid hC1
    clear hz hA hC1 e1
    refine hc.mono ?_
    clear hc
    rintro e w2 ⟨rfl, h2⟩
    have HC2 := Lib.hid (HC1.out.trans h2.1)
    clear h2
    go_wp2_with fail
    go_ret2
    exact SPost.bad HC2.out
  · have HM := Lib.hid (main 5 (by decide))
    clear main
    go_enter Try.func15, Try.ntmps15
    go_wp2_with (first
      | (at_make; refine wpList_make_full _ rfl _ _ 23 rfl 0 3 i0 (.int .i64 0) 1 Try.underlying23 hi hz0 hz1 .i64 .i64 _ _ 5 rfl rfl rfl rfl (by rw [hz2]; decide) (by unfold maxLen; decide) (Nat.zero_le _) ?_; intro w1 hown hgrow; have HO := Lib.hid hown; have HG := Lib.hid (Chg.of_grown hgrow); clear hown hgrow))
    have hz : w1.ownsRow 0 3 1 (.slice (some ⟨w.heap.size + 1, 0, none⟩) 5 5) (List.replicate 5 (0 : Int)).length ((List.replicate 5 (0 : Int)).map (Value.int .i64)) := by
      have := HO.out
      rw [made_zero] at this
      simpa using this
    obtain ⟨A', cap', e1, _, hA⟩ := NumsA.of_row hz
    obtain ⟨rfl, rfl⟩ : some ⟨w.heap.size + 1, 0, none⟩ = A' ∧ 5 = cap' := by simpa using e1
    have hc := may_any w1 _ 5 _ 0 m (by simp) hA
    rw [List.length_replicate, HM.out] at hc
    have hC1 : Chg [] w w1 := ((Chg.refl [] w).alloc _).trans HG.out
    have HC1 := Lib.hid hC1
    clear hz hA hC1 e1
    refine hc.mono ?_
    clear hc
    rintro e w2 ⟨rfl, h2⟩
    have HC2 := Lib.hid (HC1.out.trans h2.1)
    clear h2
    go_wp2_with fail
    go_ret2
    exact SPost.bad HC2.out

set_option maxRecDepth 100000 in
set_option maxHeartbeats 4000000 in
theorem Seeds_bad (w : World) (n : Nat) (x m : Int) (h1 : 1 ≤ n) (h4 : n ≤ 4) (hm : m < 0 ∨ 10000 < m) :
    Calls Try.prog 15 #[.int .i64 (n : Int), .int .u64 x, .int .i64 m] w (SPost w [] 2) := by
  obtain ⟨i0, hi, hz0, hz1, hz2⟩ := info_parts infoI64
  have hn1 : (1 : Int) ≤ n := by omega
  have hn4 : (n : Int) ≤ 4 := by omega
  have HM := Lib.hid (show mayL (List.replicate n 0) 0 m = 2 from by rw [mayL_zeros, if_neg (by omega), if_pos hm])
  clear hm
  have HB := Lib.hid (Blk.new w [.int .i64 (n : Int)] 3)
  go_enter Try.func15, Try.ntmps15
  go_wp2_with (first
    | (at_make; refine wpList_make_full _ rfl _ _ 23 rfl 0 3 i0 (.int .i64 0) 1 Try.underlying23 hi hz0 hz1 .i64 .i64 _ _ n rfl rfl rfl rfl (by rw [hz2]; omega) (by unfold maxLen; omega) (Nat.zero_le _) ?_; intro w1 hown hgrow; have HO := Lib.hid hown; have HG := Lib.hid (Chg.of_grown hgrow); clear hown hgrow))
  have hz : w1.ownsRow 0 3 1 (.slice (some ⟨w.heap.size + 1, 0, none⟩) n n) (List.replicate n (0 : Int)).length ((List.replicate n (0 : Int)).map (Value.int .i64)) := by
    have := HO.out
    rw [made_zero] at this
    simpa using this
  obtain ⟨A', cap', e1, _, hA⟩ := NumsA.of_row hz
  obtain ⟨rfl, rfl⟩ : some ⟨w.heap.size + 1, 0, none⟩ = A' ∧ n = cap' := by simpa using e1
  have hc := may_any w1 _ n _ 0 m (by simp; omega) hA
  rw [List.length_replicate, HM.out] at hc
  have hC1 : Chg [] w w1 := ((Chg.refl [] w).alloc _).trans HG.out
  have hB1 := HG.out.blk HB.out (by simp)
  have HB1 := Lib.hid hB1
  have HC1 := Lib.hid hC1
  clear hz hA hC1 hB1 e1
  refine hc.mono ?_
  clear hc
  rintro e w2 ⟨rfl, h2⟩
  have HC2 := Lib.hid (HC1.out.trans h2.1)
  have HB2 := Lib.hid (h2.1.blk HB1.out (by simp))
  have hs2 := HC1.out.size
  clear h2
  go_wp2_with fail
  go_ret2
  exact SPost.bad HC2.out

set_option maxRecDepth 100000 in
set_option maxHeartbeats 4000000 in
theorem Seeds_ok1 (w : World) (n M : Nat)  (h1 : 1 ≤ n) (h4 : n ≤ 4) (hM : M ≤ 10000) :
    Calls Try.prog 15 #[.int .i64 (n : Int), .int .u64 0, .int .i64 (M : Int)] w (SPost w (outs (fun t => ((sC n (sX 1 (t + 1)) (sSt n 1 t) : Nat) : Int)) M) 0) := by
  obtain ⟨i0, hi, hz0, hz1, hz2⟩ := info_parts infoI64
  have hn1 : (1 : Int) ≤ n := by omega
  have hn4 : (n : Int) ≤ 4 := by omega
  have HM := Lib.hid (show mayL (List.replicate n 0) 0 (M : Int) = 0 from by rw [mayL_zeros, if_neg (by omega), if_neg (by omega)])
  have HB := Lib.hid (Blk.new w [.int .i64 (n : Int)] 3)
  go_enter Try.func15, Try.ntmps15
  go_wp2_with (first
    | (at_make; refine wpList_make_full _ rfl _ _ 23 rfl 0 3 i0 (.int .i64 0) 1 Try.underlying23 hi hz0 hz1 .i64 .i64 _ _ n rfl rfl rfl rfl (by rw [hz2]; omega) (by unfold maxLen; omega) (Nat.zero_le _) ?_; intro w1 hown hgrow; have HO := Lib.hid hown; have HG := Lib.hid (Chg.of_grown hgrow); clear hown hgrow))
  have hz : w1.ownsRow 0 3 1 (.slice (some ⟨w.heap.size + 1, 0, none⟩) n n) (List.replicate n (0 : Int)).length ((List.replicate n (0 : Int)).map (Value.int .i64)) := by
    have := HO.out
    rw [made_zero] at this
    simpa using this
  obtain ⟨A', cap', e1, _, hA⟩ := NumsA.of_row hz
  obtain ⟨rfl, rfl⟩ : some ⟨w.heap.size + 1, 0, none⟩ = A' ∧ n = cap' := by simpa using e1
  have hc := may_any w1 _ n _ 0 (M : Int) (by simp; omega) hA
  rw [List.length_replicate, HM.out] at hc
  have hC1 : Chg [] w w1 := ((Chg.refl [] w).alloc _).trans HG.out
  have hB1 := HG.out.blk HB.out (by simp)
  have HB1 := Lib.hid hB1
  have HC1 := Lib.hid hC1
  clear hz hA hC1 hB1 e1
  refine hc.mono ?_
  clear hc
  rintro e w2 ⟨rfl, h2⟩
  have HC2 := Lib.hid (HC1.out.trans h2.1)
  have HB2 := Lib.hid (h2.1.blk HB1.out (by simp))
  have hs2 := HC1.out.size
  clear h2
  go_wp2_with fail
  refine (callsIn_wide.1 (turns_in 0 _ _ ⟨_, _, rfl⟩ _)).mono ?_
  rintro e w' ⟨rfl, rfl⟩
  go_wp2_with fail
  have hX0 : (0 : Int) ≤ 1 := by omega
  have hX1 : (1 : Int) < 18446744073709551616 := by omega
  have hwc : w.heap.size < w2.heap.size := HB2.out.lt
  have b0 := ((((Blk.new w2 [.int .u64 1] 22).alloc (.cells #[.int .i64 0, .int .i64 0, .int .i64 0, .int .i64 0] 66)).alloc (.cells #[.int .i64 (M : Int)] 3)).alloc (.cells #[.func (.func 37) #[] #[.pointer (some ⟨w2.heap.size, 0, none⟩), .pointer (some ⟨w2.heap.size + 1, 0, none⟩), .pointer (some ⟨w.heap.size, 0, none⟩)]] 64))
  have bw := ((Blk.new ((w2.alloc (.cells #[.int .u64 1] 22))) [.int .i64 0, .int .i64 0, .int .i64 0, .int .i64 0] 66).alloc (.cells #[.int .i64 (M : Int)] 3)).alloc (.cells #[.func (.func 37) #[] #[.pointer (some ⟨w2.heap.size, 0, none⟩), .pointer (some ⟨w2.heap.size + 1, 0, none⟩), .pointer (some ⟨w.heap.size, 0, none⟩)]] 64)
  have b1 := (Blk.new (((w2.alloc (.cells #[.int .u64 1] 22))).alloc (.cells #[.int .i64 0, .int .i64 0, .int .i64 0, .int .i64 0] 66)) [.int .i64 (M : Int)] 3).alloc (.cells #[.func (.func 37) #[] #[.pointer (some ⟨w2.heap.size, 0, none⟩), .pointer (some ⟨w2.heap.size + 1, 0, none⟩), .pointer (some ⟨w.heap.size, 0, none⟩)]] 64)
  have b2 := Blk.new ((((w2.alloc (.cells #[.int .u64 1] 22))).alloc (.cells #[.int .i64 0, .int .i64 0, .int .i64 0, .int .i64 0] 66)).alloc (.cells #[.int .i64 (M : Int)] 3)) [.func (.func 37) #[] #[.pointer (some ⟨w2.heap.size, 0, none⟩), .pointer (some ⟨w2.heap.size + 1, 0, none⟩), .pointer (some ⟨w.heap.size, 0, none⟩)]] 64
  have bc := ((((HB2.out.alloc (.cells #[.int .u64 1] 22)).alloc (.cells #[.int .i64 0, .int .i64 0, .int .i64 0, .int .i64 0] 66)).alloc (.cells #[.int .i64 (M : Int)] 3)).alloc (.cells #[.func (.func 37) #[] #[.pointer (some ⟨w2.heap.size, 0, none⟩), .pointer (some ⟨w2.heap.size + 1, 0, none⟩), .pointer (some ⟨w.heap.size, 0, none⟩)]] 64))
  have hC3 := ((((HC2.out.alloc (.cells #[.int .u64 1] 22)).alloc (.cells #[.int .i64 0, .int .i64 0, .int .i64 0, .int .i64 0] 66)).alloc (.cells #[.int .i64 (M : Int)] 3)).alloc (.cells #[.func (.func 37) #[] #[.pointer (some ⟨w2.heap.size, 0, none⟩), .pointer (some ⟨w2.heap.size + 1, 0, none⟩), .pointer (some ⟨w.heap.size, 0, none⟩)]] 64))
  simp only [World.size_alloc] at b1 b2 bw
  have hsz3 : (((((w2.alloc (.cells #[.int .u64 1] 22))).alloc (.cells #[.int .i64 0, .int .i64 0, .int .i64 0, .int .i64 0] 66)).alloc (.cells #[.int .i64 (M : Int)] 3)).alloc (.cells #[.func (.func 37) #[] #[.pointer (some ⟨w2.heap.size, 0, none⟩), .pointer (some ⟨w2.heap.size + 1, 0, none⟩), .pointer (some ⟨w.heap.size, 0, none⟩)]] 64)).heap.size = w2.heap.size + 1 + 1 + 1 + 1 := by simp
  generalize ((((w2.alloc (.cells #[.int .u64 1] 22))).alloc (.cells #[.int .i64 0, .int .i64 0, .int .i64 0, .int .i64 0] 66)).alloc (.cells #[.int .i64 (M : Int)] 3)).alloc (.cells #[.func (.func 37) #[] #[.pointer (some ⟨w2.heap.size, 0, none⟩), .pointer (some ⟨w2.heap.size + 1, 0, none⟩), .pointer (some ⟨w.heap.size, 0, none⟩)]] 64) = w3 at b0 b1 b2 bc bw hC3 hsz3 ⊢
  have hseq := turns_seeds 2 (Nat.le_refl _) (w2.heap.size + 1 + 1) (w2.heap.size + 1 + 1 + 1) w3.heap.size M w2.heap.size (w2.heap.size + 1) w.heap.size hM [w2.heap.size, w2.heap.size + 1] (fun t => ((sC n (sX 1 (t + 1)) (sSt n 1 t) : Nat) : Int)) (fun j W => Blk W w2.heap.size [.int .u64 (sX 1 j)] 22 ∧ Blk W (w2.heap.size + 1) ((sSt n 1 j).map (Value.int .i64)) 66 ∧ Blk W w.heap.size [.int .i64 (n : Int)] 3) (by simp; omega) (by simp; omega) (by omega) (by omega)
    (fun j W hj hS => (seeds1_any W w2.heap.size (w2.heap.size + 1) w.heap.size n (sX 1 j) (sSt n 1 j) h1 h4 (sSt_len _ _ _) (fun y hy => by have := sSt_bound n 1 j y hy; omega) (sX_in hX0 hX1 j).1 (sX_in hX0 hX1 j).2 hS.1 hS.2.1 hS.2.2 (by omega) (by omega) (by omega)).mono (fun e W' h => ⟨h.1, ⟨h.2.1, h.2.2.1, h.2.2.2.1.blk hS.2.2 (by simp; omega)⟩, h.2.2.2⟩))
    (fun j X Y hS hb => ⟨(hb.block _ (by omega)).trans hS.1, (hb.block _ (by omega)).trans hS.2.1, (hb.block _ (by omega)).trans hS.2.2⟩) w3 (Nat.le_refl _) ⟨b0, bw, bc⟩ b1 b2
  have hall := callsIn_wide.1 (all_in 3 (Nat.le_refl _) [w2.heap.size, w2.heap.size + 1] (w2.heap.size + 1 + 1) (w2.heap.size + 1 + 1 + 1) (outs (fun t => ((sC n (sX 1 (t + 1)) (sSt n 1 t) : Nat) : Int)) M) (by rw [outs_len]; exact hM) w3 (by simp; omega) (by rw [outs_len]; exact hseq))
  have HC3 := Lib.hid hC3
  have hws : w.heap.size ≤ w3.heap.size := by omega
  have HZ := Lib.hid hsz3
  clear hseq b0 b1 b2 bc bw hC3 hsz3
  refine hall.mono ?_
  clear hall
  rintro e w4 ⟨v, rfl, hv, hc⟩
  have HV := Lib.hid (ownsRow_base hv hws)
  have HC4 := Lib.hid (HC3.out.trans' hc (by simp; omega))
  clear hv hc
  go_wp2_with fail
  go_ret2
  exact ⟨v, rfl, HV.out, HC4.out⟩

set_option maxRecDepth 100000 in
set_option maxHeartbeats 4000000 in
theorem Seeds_okx (w : World) (n M : Nat) (x : Int) (h1 : 1 ≤ n) (h4 : n ≤ 4) (hM : M ≤ 10000) (hx1 : 1 ≤ x) (hx : x < 18446744073709551616) :
    Calls Try.prog 15 #[.int .i64 (n : Int), .int .u64 x, .int .i64 (M : Int)] w (SPost w (outs (fun t => ((sC n (sX x (t + 1)) (sSt n x t) : Nat) : Int)) M) 0) := by
  obtain ⟨i0, hi, hz0, hz1, hz2⟩ := info_parts infoI64
  have hn1 : (1 : Int) ≤ n := by omega
  have hn4 : (n : Int) ≤ 4 := by omega
  have HM := Lib.hid (show mayL (List.replicate n 0) 0 (M : Int) = 0 from by rw [mayL_zeros, if_neg (by omega), if_neg (by omega)])
  have HB := Lib.hid (Blk.new w [.int .i64 (n : Int)] 3)
  go_enter Try.func15, Try.ntmps15
  go_wp2_with (first
    | (at_make; refine wpList_make_full _ rfl _ _ 23 rfl 0 3 i0 (.int .i64 0) 1 Try.underlying23 hi hz0 hz1 .i64 .i64 _ _ n rfl rfl rfl rfl (by rw [hz2]; omega) (by unfold maxLen; omega) (Nat.zero_le _) ?_; intro w1 hown hgrow; have HO := Lib.hid hown; have HG := Lib.hid (Chg.of_grown hgrow); clear hown hgrow))
  have hz : w1.ownsRow 0 3 1 (.slice (some ⟨w.heap.size + 1, 0, none⟩) n n) (List.replicate n (0 : Int)).length ((List.replicate n (0 : Int)).map (Value.int .i64)) := by
    have := HO.out
    rw [made_zero] at this
    simpa using this
  obtain ⟨A', cap', e1, _, hA⟩ := NumsA.of_row hz
  obtain ⟨rfl, rfl⟩ : some ⟨w.heap.size + 1, 0, none⟩ = A' ∧ n = cap' := by simpa using e1
  have hc := may_any w1 _ n _ 0 (M : Int) (by simp; omega) hA
  rw [List.length_replicate, HM.out] at hc
  have hC1 : Chg [] w w1 := ((Chg.refl [] w).alloc _).trans HG.out
  have hB1 := HG.out.blk HB.out (by simp)
  have HB1 := Lib.hid hB1
  have HC1 := Lib.hid hC1
  clear hz hA hC1 hB1 e1
  refine hc.mono ?_
  clear hc
  rintro e w2 ⟨rfl, h2⟩
  have HC2 := Lib.hid (HC1.out.trans h2.1)
  have HB2 := Lib.hid (h2.1.blk HB1.out (by simp))
  have hs2 := HC1.out.size
  clear h2
  go_wp2_with fail
  refine (callsIn_wide.1 (turns_in 0 _ _ ⟨_, _, rfl⟩ _)).mono ?_
  rintro e w' ⟨rfl, rfl⟩
  go_wp2_with fail
  have hX0 : (0 : Int) ≤ x := by omega
  have hX1 : (x : Int) < 18446744073709551616 := by omega
  have hwc : w.heap.size < w2.heap.size := HB2.out.lt
  have b0 := ((((Blk.new w2 [.int .u64 x] 22).alloc (.cells #[.int .i64 0, .int .i64 0, .int .i64 0, .int .i64 0] 66)).alloc (.cells #[.int .i64 (M : Int)] 3)).alloc (.cells #[.func (.func 37) #[] #[.pointer (some ⟨w2.heap.size, 0, none⟩), .pointer (some ⟨w2.heap.size + 1, 0, none⟩), .pointer (some ⟨w.heap.size, 0, none⟩)]] 64))
  have bw := ((Blk.new ((w2.alloc (.cells #[.int .u64 x] 22))) [.int .i64 0, .int .i64 0, .int .i64 0, .int .i64 0] 66).alloc (.cells #[.int .i64 (M : Int)] 3)).alloc (.cells #[.func (.func 37) #[] #[.pointer (some ⟨w2.heap.size, 0, none⟩), .pointer (some ⟨w2.heap.size + 1, 0, none⟩), .pointer (some ⟨w.heap.size, 0, none⟩)]] 64)
  have b1 := (Blk.new (((w2.alloc (.cells #[.int .u64 x] 22))).alloc (.cells #[.int .i64 0, .int .i64 0, .int .i64 0, .int .i64 0] 66)) [.int .i64 (M : Int)] 3).alloc (.cells #[.func (.func 37) #[] #[.pointer (some ⟨w2.heap.size, 0, none⟩), .pointer (some ⟨w2.heap.size + 1, 0, none⟩), .pointer (some ⟨w.heap.size, 0, none⟩)]] 64)
  have b2 := Blk.new ((((w2.alloc (.cells #[.int .u64 x] 22))).alloc (.cells #[.int .i64 0, .int .i64 0, .int .i64 0, .int .i64 0] 66)).alloc (.cells #[.int .i64 (M : Int)] 3)) [.func (.func 37) #[] #[.pointer (some ⟨w2.heap.size, 0, none⟩), .pointer (some ⟨w2.heap.size + 1, 0, none⟩), .pointer (some ⟨w.heap.size, 0, none⟩)]] 64
  have bc := ((((HB2.out.alloc (.cells #[.int .u64 x] 22)).alloc (.cells #[.int .i64 0, .int .i64 0, .int .i64 0, .int .i64 0] 66)).alloc (.cells #[.int .i64 (M : Int)] 3)).alloc (.cells #[.func (.func 37) #[] #[.pointer (some ⟨w2.heap.size, 0, none⟩), .pointer (some ⟨w2.heap.size + 1, 0, none⟩), .pointer (some ⟨w.heap.size, 0, none⟩)]] 64))
  have hC3 := ((((HC2.out.alloc (.cells #[.int .u64 x] 22)).alloc (.cells #[.int .i64 0, .int .i64 0, .int .i64 0, .int .i64 0] 66)).alloc (.cells #[.int .i64 (M : Int)] 3)).alloc (.cells #[.func (.func 37) #[] #[.pointer (some ⟨w2.heap.size, 0, none⟩), .pointer (some ⟨w2.heap.size + 1, 0, none⟩), .pointer (some ⟨w.heap.size, 0, none⟩)]] 64))
  simp only [World.size_alloc] at b1 b2 bw
  have hsz3 : (((((w2.alloc (.cells #[.int .u64 x] 22))).alloc (.cells #[.int .i64 0, .int .i64 0, .int .i64 0, .int .i64 0] 66)).alloc (.cells #[.int .i64 (M : Int)] 3)).alloc (.cells #[.func (.func 37) #[] #[.pointer (some ⟨w2.heap.size, 0, none⟩), .pointer (some ⟨w2.heap.size + 1, 0, none⟩), .pointer (some ⟨w.heap.size, 0, none⟩)]] 64)).heap.size = w2.heap.size + 1 + 1 + 1 + 1 := by simp
  generalize ((((w2.alloc (.cells #[.int .u64 x] 22))).alloc (.cells #[.int .i64 0, .int .i64 0, .int .i64 0, .int .i64 0] 66)).alloc (.cells #[.int .i64 (M : Int)] 3)).alloc (.cells #[.func (.func 37) #[] #[.pointer (some ⟨w2.heap.size, 0, none⟩), .pointer (some ⟨w2.heap.size + 1, 0, none⟩), .pointer (some ⟨w.heap.size, 0, none⟩)]] 64) = w3 at b0 b1 b2 bc bw hC3 hsz3 ⊢
  have hseq := turns_seeds 2 (Nat.le_refl _) (w2.heap.size + 1 + 1) (w2.heap.size + 1 + 1 + 1) w3.heap.size M w2.heap.size (w2.heap.size + 1) w.heap.size hM [w2.heap.size, w2.heap.size + 1] (fun t => ((sC n (sX x (t + 1)) (sSt n x t) : Nat) : Int)) (fun j W => Blk W w2.heap.size [.int .u64 (sX x j)] 22 ∧ Blk W (w2.heap.size + 1) ((sSt n x j).map (Value.int .i64)) 66 ∧ Blk W w.heap.size [.int .i64 (n : Int)] 3) (by simp; omega) (by simp; omega) (by omega) (by omega)
    (fun j W hj hS => (seeds1_any W w2.heap.size (w2.heap.size + 1) w.heap.size n (sX x j) (sSt n x j) h1 h4 (sSt_len _ _ _) (fun y hy => by have := sSt_bound n x j y hy; omega) (sX_in hX0 hX1 j).1 (sX_in hX0 hX1 j).2 hS.1 hS.2.1 hS.2.2 (by omega) (by omega) (by omega)).mono (fun e W' h => ⟨h.1, ⟨h.2.1, h.2.2.1, h.2.2.2.1.blk hS.2.2 (by simp; omega)⟩, h.2.2.2⟩))
    (fun j X Y hS hb => ⟨(hb.block _ (by omega)).trans hS.1, (hb.block _ (by omega)).trans hS.2.1, (hb.block _ (by omega)).trans hS.2.2⟩) w3 (Nat.le_refl _) ⟨b0, bw, bc⟩ b1 b2
  have hall := callsIn_wide.1 (all_in 3 (Nat.le_refl _) [w2.heap.size, w2.heap.size + 1] (w2.heap.size + 1 + 1) (w2.heap.size + 1 + 1 + 1) (outs (fun t => ((sC n (sX x (t + 1)) (sSt n x t) : Nat) : Int)) M) (by rw [outs_len]; exact hM) w3 (by simp; omega) (by rw [outs_len]; exact hseq))
  have HC3 := Lib.hid hC3
  have hws : w.heap.size ≤ w3.heap.size := by omega
  have HZ := Lib.hid hsz3
  clear hseq b0 b1 b2 bc bw hC3 hsz3
  refine hall.mono ?_
  clear hall
  rintro e w4 ⟨v, rfl, hv, hc⟩
  have HV := Lib.hid (ownsRow_base hv hws)
  have HC4 := Lib.hid (HC3.out.trans' hc (by simp; omega))
  clear hv hc
  go_wp2_with fail
  go_ret2
  exact ⟨v, rfl, HV.out, HC4.out⟩

theorem Seeds_ok (w : World) (n M : Nat) (x : Int) (h1 : 1 ≤ n) (h4 : n ≤ 4) (hM : M ≤ 10000) (hx0 : 0 ≤ x) (hx : x < 18446744073709551616) :
    Calls Try.prog 15 #[.int .i64 (n : Int), .int .u64 x, .int .i64 (M : Int)] w (SPost w (outs (fun t => ((sC n (sX (max x 1) (t + 1)) (sSt n (max x 1) t) : Nat) : Int)) M) 0) := by
  by_cases h : x < 1
  · obtain rfl : x = 0 := by omega
    exact Seeds_ok1 w n M h1 h4 hM
  · rw [Int.max_eq_left (by omega)]
    exact Seeds_okx w n M x h1 h4 hM (by omega) hx

end Go.Proofs.Ytagfalnfjiodcaa
