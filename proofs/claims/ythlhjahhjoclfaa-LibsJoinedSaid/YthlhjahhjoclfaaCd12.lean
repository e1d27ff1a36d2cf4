/- The codes of a queue's calls, and of Least. -/
import Derived.Test.YthlhjahhjoclfaaCd11
namespace Go.Proofs.Ythlhjahhjoclfaa
set_option maxRecDepth 100000
open Go.RowKit

def queuePushL (base cap v : Int) : List Ins := ((((((((((((((St.none.number 3 v).opened).load 4 7 (base + 1)).set 5 cap).when 14 4 5 ⟨#[111, 117, 116]⟩).load 6 7 base).three 4 6 6 4).when 16 6 5 ⟨#[112, 117, 116]⟩).three 5 6 6 5).here ⟨#[112, 117, 116]⟩).store 3 6 (base + 2)).more 4 4 1 2).store 4 7 (base + 1)).set 0 1).out
theorem QueuePush_no (w : World) (base cap v : Int) (h : fitsB base (qSize cap) = false) :
    Calls Try.prog 23 #[.int .i64 base, .int .i64 cap, .int .u64 v] w (ApiNo w) := by
  have HF := Lib.hid h
  have HR := Lib.hid (qSize_range cap)
  clear h
  go_enter Try.func23, Try.ntmps23
  go_wp2_with fail
  refine (QueueSize_any _ cap).mono ?_
  rintro e w1 ⟨rfl, rfl⟩
  go_wp2_with fail
  refine (fits_any _ base _ HR.out.1 HR.out.2).mono ?_
  rintro e w1 ⟨rfl, rfl⟩
  rw [HF.out]
  go_wp2_with fail
  go_ret2
  exact ⟨rfl, Chg.refl _ _⟩

set_option maxHeartbeats 4000000 in
theorem QueuePush_yes (w : World) (base cap v : Int) (hv0 : 0 ≤ v) (hv1 : v ≤ 18446744073709551615) (h : fitsB base (qSize cap) = true) :
    Calls Try.prog 23 #[.int .i64 base, .int .i64 cap, .int .u64 v] w (ApiYes w (queuePushL base cap v)) := by
  have HF := Lib.hid h
  have HR := Lib.hid (qSize_range cap)
  have hb := fitsB_iff.1 h
  have hs := qSize_range cap
  have e3 : 0 ≤ base := hb.2.1
  have e4 : base ≤ 504 := by omega
  clear hb hs
  clear h
  go_enter Try.func23, Try.ntmps23
  go_wp2_with fail
  refine (QueueSize_any _ cap).mono ?_
  rintro e w1 ⟨rfl, rfl⟩
  go_wp2_with fail
  refine (fits_any _ base _ HR.out.1 HR.out.2).mono ?_
  rintro e w1 ⟨rfl, rfl⟩
  rw [HF.out]
  go_wp2_with fail
  refine (begin_any _).mono ?_
  rintro e w1 ⟨b, rfl, hC, hx⟩
  have HC := Lib.hid hC
  have HK := Lib.hid (Kp.of_nil (base := w.heap.size) hx)
  clear hC hx
  go_wp2_with fail
  refine (number_any _ _ _ b _ 3 v (by omega) hv0 hv1 HC.out).mono ?_
  rintro e w3 ⟨rfl, hC, hK⟩
  replace HC := Lib.hid hC
  replace HK := Lib.hid (HK.out.trans hK)
  clear hC
  clear hK
  go_wp2_with fail
  refine (open_any _ _ _ b _ (by omega) HC.out).mono ?_
  rintro e w4 ⟨rfl, hC, hK⟩
  replace HC := Lib.hid hC
  replace HK := Lib.hid (HK.out.trans hK)
  clear hC
  clear hK
  go_wp2_with fail
  refine (load_any _ _ _ b _ _ _ _ (by omega) HC.out).mono ?_
  rintro e w5 ⟨rfl, hC, hK⟩
  replace HC := Lib.hid hC
  replace HK := Lib.hid (HK.out.trans hK)
  clear hC
  clear hK
  go_wp2_with fail
  refine (set_any _ _ _ b _ _ _ (by omega) HC.out).mono ?_
  rintro e w6 ⟨rfl, hC, hK⟩
  replace HC := Lib.hid hC
  replace HK := Lib.hid (HK.out.trans hK)
  clear hC
  clear hK
  go_wp2_with fail
  refine (when_any _ _ _ b _ _ _ _ _ (by decide) (by omega) HC.out).mono ?_
  rintro e w7 ⟨rfl, hC, hK⟩
  replace HC := Lib.hid hC
  replace HK := Lib.hid (HK.out.trans hK)
  clear hC
  clear hK
  go_wp2_with fail
  refine (load_any _ _ _ b _ _ _ _ (by omega) HC.out).mono ?_
  rintro e w8 ⟨rfl, hC, hK⟩
  replace HC := Lib.hid hC
  replace HK := Lib.hid (HK.out.trans hK)
  clear hC
  clear hK
  go_wp2_with fail
  refine (three_any _ _ _ b _ _ _ _ _ (by omega) HC.out).mono ?_
  rintro e w9 ⟨rfl, hC, hK⟩
  replace HC := Lib.hid hC
  replace HK := Lib.hid (HK.out.trans hK)
  clear hC
  clear hK
  go_wp2_with fail
  refine (when_any _ _ _ b _ _ _ _ _ (by decide) (by omega) HC.out).mono ?_
  rintro e w10 ⟨rfl, hC, hK⟩
  replace HC := Lib.hid hC
  replace HK := Lib.hid (HK.out.trans hK)
  clear hC
  clear hK
  go_wp2_with fail
  refine (three_any _ _ _ b _ _ _ _ _ (by omega) HC.out).mono ?_
  rintro e w11 ⟨rfl, hC, hK⟩
  replace HC := Lib.hid hC
  replace HK := Lib.hid (HK.out.trans hK)
  clear hC
  clear hK
  go_wp2_with fail
  refine (here_any _ _ _ b _ _ (by decide) (by omega) HC.out).mono ?_
  rintro e w12 ⟨rfl, hC, hK⟩
  replace HC := Lib.hid hC
  replace HK := Lib.hid (HK.out.trans hK)
  clear hC
  clear hK
  go_wp2_with fail
  refine (store_any _ _ _ b _ _ _ _ (by omega) HC.out).mono ?_
  rintro e w13 ⟨rfl, hC, hK⟩
  replace HC := Lib.hid hC
  replace HK := Lib.hid (HK.out.trans hK)
  clear hC
  clear hK
  go_wp2_with fail
  refine (more_any _ _ _ b _ _ _ _ _ (by omega) HC.out).mono ?_
  rintro e w14 ⟨rfl, hC, hK⟩
  replace HC := Lib.hid hC
  replace HK := Lib.hid (HK.out.trans hK)
  clear hC
  clear hK
  go_wp2_with fail
  refine (store_any _ _ _ b _ _ _ _ (by omega) HC.out).mono ?_
  rintro e w15 ⟨rfl, hC, hK⟩
  replace HC := Lib.hid hC
  replace HK := Lib.hid (HK.out.trans hK)
  clear hC
  clear hK
  go_wp2_with fail
  refine (set_any _ _ _ b _ _ _ (by omega) HC.out).mono ?_
  rintro e w16 ⟨rfl, hC, hK⟩
  replace HC := Lib.hid hC
  replace HK := Lib.hid (HK.out.trans hK)
  clear hC
  clear hK
  go_wp2_with fail
  refine (out_in _ _ _ b _ _ (by omega) HC.out rfl).mono ?_
  rintro e w99 ⟨v, rfl, hr, hK⟩
  have HRR := Lib.hid hr
  replace HK := Lib.hid (HK.out.trans hK)
  clear hr hK
  go_wp2_with fail
  go_ret2
  exact ⟨_, rfl, HRR.out, HK.out.chg (Nat.le_refl _)⟩

def queuePopL (base cap : Int) : List Ins := ((((((((((((((St.none.opened).load 4 7 (base + 1)).when 14 4 7 ⟨#[111, 117, 116]⟩).load 6 7 base).load 1 6 (base + 2)).more 4 4 (-1) 2).store 4 7 (base + 1)).more 6 6 1 2).set 5 cap).when 16 6 5 ⟨#[112, 117, 116]⟩).set 6 0).here ⟨#[112, 117, 116]⟩).store 6 7 base).set 0 1).out
theorem QueuePop_no (w : World) (base cap : Int) (h : fitsB base (qSize cap) = false) :
    Calls Try.prog 24 #[.int .i64 base, .int .i64 cap] w (ApiNo w) := by
  have HF := Lib.hid h
  have HR := Lib.hid (qSize_range cap)
  clear h
  go_enter Try.func24, Try.ntmps24
  go_wp2_with fail
  refine (QueueSize_any _ cap).mono ?_
  rintro e w1 ⟨rfl, rfl⟩
  go_wp2_with fail
  refine (fits_any _ base _ HR.out.1 HR.out.2).mono ?_
  rintro e w1 ⟨rfl, rfl⟩
  rw [HF.out]
  go_wp2_with fail
  go_ret2
  exact ⟨rfl, Chg.refl _ _⟩

set_option maxHeartbeats 4000000 in
theorem QueuePop_yes (w : World) (base cap : Int) (h : fitsB base (qSize cap) = true) :
    Calls Try.prog 24 #[.int .i64 base, .int .i64 cap] w (ApiYes w (queuePopL base cap)) := by
  have HF := Lib.hid h
  have HR := Lib.hid (qSize_range cap)
  have hb := fitsB_iff.1 h
  have hs := qSize_range cap
  have e3 : 0 ≤ base := hb.2.1
  have e4 : base ≤ 504 := by omega
  clear hb hs
  clear h
  go_enter Try.func24, Try.ntmps24
  go_wp2_with fail
  refine (QueueSize_any _ cap).mono ?_
  rintro e w1 ⟨rfl, rfl⟩
  go_wp2_with fail
  refine (fits_any _ base _ HR.out.1 HR.out.2).mono ?_
  rintro e w1 ⟨rfl, rfl⟩
  rw [HF.out]
  go_wp2_with fail
  refine (begin_any _).mono ?_
  rintro e w1 ⟨b, rfl, hC, hx⟩
  have HC := Lib.hid hC
  have HK := Lib.hid (Kp.of_nil (base := w.heap.size) hx)
  clear hC hx
  go_wp2_with fail
  refine (open_any _ _ _ b _ (by omega) HC.out).mono ?_
  rintro e w3 ⟨rfl, hC, hK⟩
  replace HC := Lib.hid hC
  replace HK := Lib.hid (HK.out.trans hK)
  clear hC
  clear hK
  go_wp2_with fail
  refine (load_any _ _ _ b _ _ _ _ (by omega) HC.out).mono ?_
  rintro e w4 ⟨rfl, hC, hK⟩
  replace HC := Lib.hid hC
  replace HK := Lib.hid (HK.out.trans hK)
  clear hC
  clear hK
  go_wp2_with fail
  refine (when_any _ _ _ b _ _ _ _ _ (by decide) (by omega) HC.out).mono ?_
  rintro e w5 ⟨rfl, hC, hK⟩
  replace HC := Lib.hid hC
  replace HK := Lib.hid (HK.out.trans hK)
  clear hC
  clear hK
  go_wp2_with fail
  refine (load_any _ _ _ b _ _ _ _ (by omega) HC.out).mono ?_
  rintro e w6 ⟨rfl, hC, hK⟩
  replace HC := Lib.hid hC
  replace HK := Lib.hid (HK.out.trans hK)
  clear hC
  clear hK
  go_wp2_with fail
  refine (load_any _ _ _ b _ _ _ _ (by omega) HC.out).mono ?_
  rintro e w7 ⟨rfl, hC, hK⟩
  replace HC := Lib.hid hC
  replace HK := Lib.hid (HK.out.trans hK)
  clear hC
  clear hK
  go_wp2_with fail
  refine (more_any _ _ _ b _ _ _ _ _ (by omega) HC.out).mono ?_
  rintro e w8 ⟨rfl, hC, hK⟩
  replace HC := Lib.hid hC
  replace HK := Lib.hid (HK.out.trans hK)
  clear hC
  clear hK
  go_wp2_with fail
  refine (store_any _ _ _ b _ _ _ _ (by omega) HC.out).mono ?_
  rintro e w9 ⟨rfl, hC, hK⟩
  replace HC := Lib.hid hC
  replace HK := Lib.hid (HK.out.trans hK)
  clear hC
  clear hK
  go_wp2_with fail
  refine (more_any _ _ _ b _ _ _ _ _ (by omega) HC.out).mono ?_
  rintro e w10 ⟨rfl, hC, hK⟩
  replace HC := Lib.hid hC
  replace HK := Lib.hid (HK.out.trans hK)
  clear hC
  clear hK
  go_wp2_with fail
  refine (set_any _ _ _ b _ _ _ (by omega) HC.out).mono ?_
  rintro e w11 ⟨rfl, hC, hK⟩
  replace HC := Lib.hid hC
  replace HK := Lib.hid (HK.out.trans hK)
  clear hC
  clear hK
  go_wp2_with fail
  refine (when_any _ _ _ b _ _ _ _ _ (by decide) (by omega) HC.out).mono ?_
  rintro e w12 ⟨rfl, hC, hK⟩
  replace HC := Lib.hid hC
  replace HK := Lib.hid (HK.out.trans hK)
  clear hC
  clear hK
  go_wp2_with fail
  refine (set_any _ _ _ b _ _ _ (by omega) HC.out).mono ?_
  rintro e w13 ⟨rfl, hC, hK⟩
  replace HC := Lib.hid hC
  replace HK := Lib.hid (HK.out.trans hK)
  clear hC
  clear hK
  go_wp2_with fail
  refine (here_any _ _ _ b _ _ (by decide) (by omega) HC.out).mono ?_
  rintro e w14 ⟨rfl, hC, hK⟩
  replace HC := Lib.hid hC
  replace HK := Lib.hid (HK.out.trans hK)
  clear hC
  clear hK
  go_wp2_with fail
  refine (store_any _ _ _ b _ _ _ _ (by omega) HC.out).mono ?_
  rintro e w15 ⟨rfl, hC, hK⟩
  replace HC := Lib.hid hC
  replace HK := Lib.hid (HK.out.trans hK)
  clear hC
  clear hK
  go_wp2_with fail
  refine (set_any _ _ _ b _ _ _ (by omega) HC.out).mono ?_
  rintro e w16 ⟨rfl, hC, hK⟩
  replace HC := Lib.hid hC
  replace HK := Lib.hid (HK.out.trans hK)
  clear hC
  clear hK
  go_wp2_with fail
  refine (out_in _ _ _ b _ _ (by omega) HC.out rfl).mono ?_
  rintro e w99 ⟨v, rfl, hr, hK⟩
  have HRR := Lib.hid hr
  replace HK := Lib.hid (HK.out.trans hK)
  clear hr hK
  go_wp2_with fail
  go_ret2
  exact ⟨_, rfl, HRR.out, HK.out.chg (Nat.le_refl _)⟩

def treeLeastL (base cap : Int) : List Ins := (((((((((((((St.none.opened).load 6 7 base).when 14 6 7 ⟨#[111, 117, 116]⟩).here ⟨#[100, 111, 119, 110]⟩).load 5 6 ((tPool base cap).at 2)).when 14 5 7 ⟨#[104, 101, 114, 101]⟩).put ⟨3, 6, 5, 0, 0⟩).jump ⟨#[100, 111, 119, 110]⟩).here ⟨#[104, 101, 114, 101]⟩).load 1 6 ((tPool base cap).at 0)).load 2 6 ((tPool base cap).at 1)).set 0 1).here ⟨#[111, 117, 116]⟩).close
theorem TreeLeast_no (w : World) (base cap : Int) (h : fitsB base (tSize cap) = false) :
    Calls Try.prog 31 #[.int .i64 base, .int .i64 cap] w (ApiNo w) := by
  have HF := Lib.hid h
  have HR := Lib.hid (tSize_range cap)
  clear h
  go_enter Try.func31, Try.ntmps31
  go_wp2_with fail
  refine (TreeSize_any _ cap).mono ?_
  rintro e w1 ⟨rfl, rfl⟩
  go_wp2_with fail
  refine (fits_any _ base _ HR.out.1 HR.out.2).mono ?_
  rintro e w1 ⟨rfl, rfl⟩
  rw [HF.out]
  go_wp2_with fail
  go_ret2
  exact ⟨rfl, Chg.refl _ _⟩

set_option maxHeartbeats 4000000 in
theorem TreeLeast_yes (w : World) (base cap : Int) (h : fitsB base (tSize cap) = true) :
    Calls Try.prog 31 #[.int .i64 base, .int .i64 cap] w (ApiYes w (treeLeastL base cap)) := by
  have HF := Lib.hid h
  have HR := Lib.hid (tSize_range cap)
  have HPo := Lib.hid (tPool_ok h).1
  obtain ⟨_, e3, e4, e5, e6⟩ := tPool_ok h
  clear h
  go_enter Try.func31, Try.ntmps31
  go_wp2_with fail
  refine (TreeSize_any _ cap).mono ?_
  rintro e w1 ⟨rfl, rfl⟩
  go_wp2_with fail
  refine (fits_any _ base _ HR.out.1 HR.out.2).mono ?_
  rintro e w1 ⟨rfl, rfl⟩
  rw [HF.out]
  go_wp2_with fail
  refine (begin_any _).mono ?_
  rintro e w1 ⟨b, rfl, hC, hx⟩
  have HC := Lib.hid hC
  have HK := Lib.hid (Kp.of_nil (base := w.heap.size) hx)
  clear hC hx
  go_wp2_with fail
  refine (treePool_any _ base cap e3 e4).mono ?_
  rintro e w2 ⟨rfl, hx⟩
  replace HC := Lib.hid ((HC.out.chg hx).chg ((Chg.refl [] w2).alloc (.cells #[.int .i64 (base + 1), .int .i64 (base + 2), .int .i64 (base + 3), .int .i64 (4), .int .i64 (2), .int .i64 (cap)] 82)))
  have HB := Lib.hid (Blk.new w2 [.int .i64 (base + 1), .int .i64 (base + 2), .int .i64 (base + 3), .int .i64 (4), .int .i64 (2), .int .i64 (cap)] 82)
  replace HK := Lib.hid ((HK.out.trans (Kp.of_nil hx)).alloc (.cells #[.int .i64 (base + 1), .int .i64 (base + 2), .int .i64 (base + 3), .int .i64 (4), .int .i64 (2), .int .i64 (cap)] 82))
  clear hx
  have q0 : (w2.alloc (.cells #[.int .i64 (base + 1), .int .i64 (base + 2), .int .i64 (base + 3), .int .i64 (4), .int .i64 (2), .int .i64 (cap)] 82)).cell? ⟨w2.heap.size, 0, none⟩ = some (.int .i64 (base + 1)) := HB.out.cell 0
  have q1 : (w2.alloc (.cells #[.int .i64 (base + 1), .int .i64 (base + 2), .int .i64 (base + 3), .int .i64 (4), .int .i64 (2), .int .i64 (cap)] 82)).cell? ⟨w2.heap.size, 1, none⟩ = some (.int .i64 (base + 2)) := HB.out.cell 1
  have q2 : (w2.alloc (.cells #[.int .i64 (base + 1), .int .i64 (base + 2), .int .i64 (base + 3), .int .i64 (4), .int .i64 (2), .int .i64 (cap)] 82)).cell? ⟨w2.heap.size, 2, none⟩ = some (.int .i64 (base + 3)) := HB.out.cell 2
  have q3 : (w2.alloc (.cells #[.int .i64 (base + 1), .int .i64 (base + 2), .int .i64 (base + 3), .int .i64 (4), .int .i64 (2), .int .i64 (cap)] 82)).cell? ⟨w2.heap.size, 3, none⟩ = some (.int .i64 (4)) := HB.out.cell 3
  have q4 : (w2.alloc (.cells #[.int .i64 (base + 1), .int .i64 (base + 2), .int .i64 (base + 3), .int .i64 (4), .int .i64 (2), .int .i64 (cap)] 82)).cell? ⟨w2.heap.size, 4, none⟩ = some (.int .i64 (2)) := HB.out.cell 4
  have q5 : (w2.alloc (.cells #[.int .i64 (base + 1), .int .i64 (base + 2), .int .i64 (base + 3), .int .i64 (4), .int .i64 (2), .int .i64 (cap)] 82)).cell? ⟨w2.heap.size, 5, none⟩ = some (.int .i64 (cap)) := HB.out.cell 5
  go_wp2_with fail
  refine (open_any _ _ _ b _ (by omega) HC.out).mono ?_
  rintro e w3 ⟨rfl, hC, hK⟩
  replace HC := Lib.hid hC
  replace HK := Lib.hid (HK.out.trans hK)
  clear hC
  replace HB := Lib.hid (hK.blk HB.out rfl)
  clear hK q0 q1 q2 q3 q4 q5
  have q0 : w3.cell? ⟨w2.heap.size, 0, none⟩ = some (.int .i64 (base + 1)) := HB.out.cell 0
  have q1 : w3.cell? ⟨w2.heap.size, 1, none⟩ = some (.int .i64 (base + 2)) := HB.out.cell 1
  have q2 : w3.cell? ⟨w2.heap.size, 2, none⟩ = some (.int .i64 (base + 3)) := HB.out.cell 2
  have q3 : w3.cell? ⟨w2.heap.size, 3, none⟩ = some (.int .i64 (4)) := HB.out.cell 3
  have q4 : w3.cell? ⟨w2.heap.size, 4, none⟩ = some (.int .i64 (2)) := HB.out.cell 4
  have q5 : w3.cell? ⟨w2.heap.size, 5, none⟩ = some (.int .i64 (cap)) := HB.out.cell 5
  go_wp2_with fail
  refine (load_any _ _ _ b _ _ _ _ (by omega) HC.out).mono ?_
  rintro e w4 ⟨rfl, hC, hK⟩
  replace HC := Lib.hid hC
  replace HK := Lib.hid (HK.out.trans hK)
  clear hC
  replace HB := Lib.hid (hK.blk HB.out rfl)
  clear hK q0 q1 q2 q3 q4 q5
  have q0 : w4.cell? ⟨w2.heap.size, 0, none⟩ = some (.int .i64 (base + 1)) := HB.out.cell 0
  have q1 : w4.cell? ⟨w2.heap.size, 1, none⟩ = some (.int .i64 (base + 2)) := HB.out.cell 1
  have q2 : w4.cell? ⟨w2.heap.size, 2, none⟩ = some (.int .i64 (base + 3)) := HB.out.cell 2
  have q3 : w4.cell? ⟨w2.heap.size, 3, none⟩ = some (.int .i64 (4)) := HB.out.cell 3
  have q4 : w4.cell? ⟨w2.heap.size, 4, none⟩ = some (.int .i64 (2)) := HB.out.cell 4
  have q5 : w4.cell? ⟨w2.heap.size, 5, none⟩ = some (.int .i64 (cap)) := HB.out.cell 5
  go_wp2_with fail
  refine (when_any _ _ _ b _ _ _ _ _ (by decide) (by omega) HC.out).mono ?_
  rintro e w5 ⟨rfl, hC, hK⟩
  replace HC := Lib.hid hC
  replace HK := Lib.hid (HK.out.trans hK)
  clear hC
  replace HB := Lib.hid (hK.blk HB.out rfl)
  clear hK q0 q1 q2 q3 q4 q5
  have q0 : w5.cell? ⟨w2.heap.size, 0, none⟩ = some (.int .i64 (base + 1)) := HB.out.cell 0
  have q1 : w5.cell? ⟨w2.heap.size, 1, none⟩ = some (.int .i64 (base + 2)) := HB.out.cell 1
  have q2 : w5.cell? ⟨w2.heap.size, 2, none⟩ = some (.int .i64 (base + 3)) := HB.out.cell 2
  have q3 : w5.cell? ⟨w2.heap.size, 3, none⟩ = some (.int .i64 (4)) := HB.out.cell 3
  have q4 : w5.cell? ⟨w2.heap.size, 4, none⟩ = some (.int .i64 (2)) := HB.out.cell 4
  have q5 : w5.cell? ⟨w2.heap.size, 5, none⟩ = some (.int .i64 (cap)) := HB.out.cell 5
  go_wp2_with fail
  refine (here_any _ _ _ b _ _ (by decide) (by omega) HC.out).mono ?_
  rintro e w6 ⟨rfl, hC, hK⟩
  replace HC := Lib.hid hC
  replace HK := Lib.hid (HK.out.trans hK)
  clear hC
  replace HB := Lib.hid (hK.blk HB.out rfl)
  clear hK q0 q1 q2 q3 q4 q5
  have q0 : w6.cell? ⟨w2.heap.size, 0, none⟩ = some (.int .i64 (base + 1)) := HB.out.cell 0
  have q1 : w6.cell? ⟨w2.heap.size, 1, none⟩ = some (.int .i64 (base + 2)) := HB.out.cell 1
  have q2 : w6.cell? ⟨w2.heap.size, 2, none⟩ = some (.int .i64 (base + 3)) := HB.out.cell 2
  have q3 : w6.cell? ⟨w2.heap.size, 3, none⟩ = some (.int .i64 (4)) := HB.out.cell 3
  have q4 : w6.cell? ⟨w2.heap.size, 4, none⟩ = some (.int .i64 (2)) := HB.out.cell 4
  have q5 : w6.cell? ⟨w2.heap.size, 5, none⟩ = some (.int .i64 (cap)) := HB.out.cell 5
  go_wp2_with fail
  refine (at_any _ (tPool base cap) _ HPo.out (by decide) (by decide)).mono ?_
  rintro e w7 ⟨rfl, hx⟩
  replace HC := Lib.hid (HC.out.chg hx)
  replace HK := Lib.hid (HK.out.trans (Kp.of_nil hx))
  replace HB := Lib.hid (hx.blk HB.out (by simp))
  clear hx q0 q1 q2 q3 q4 q5
  have q0 : w7.cell? ⟨w2.heap.size, 0, none⟩ = some (.int .i64 (base + 1)) := HB.out.cell 0
  have q1 : w7.cell? ⟨w2.heap.size, 1, none⟩ = some (.int .i64 (base + 2)) := HB.out.cell 1
  have q2 : w7.cell? ⟨w2.heap.size, 2, none⟩ = some (.int .i64 (base + 3)) := HB.out.cell 2
  have q3 : w7.cell? ⟨w2.heap.size, 3, none⟩ = some (.int .i64 (4)) := HB.out.cell 3
  have q4 : w7.cell? ⟨w2.heap.size, 4, none⟩ = some (.int .i64 (2)) := HB.out.cell 4
  have q5 : w7.cell? ⟨w2.heap.size, 5, none⟩ = some (.int .i64 (cap)) := HB.out.cell 5
  go_wp2_with fail
  refine (load_any _ _ _ b _ _ _ _ (by omega) HC.out).mono ?_
  rintro e w8 ⟨rfl, hC, hK⟩
  replace HC := Lib.hid hC
  replace HK := Lib.hid (HK.out.trans hK)
  clear hC
  replace HB := Lib.hid (hK.blk HB.out rfl)
  clear hK q0 q1 q2 q3 q4 q5
  have q0 : w8.cell? ⟨w2.heap.size, 0, none⟩ = some (.int .i64 (base + 1)) := HB.out.cell 0
  have q1 : w8.cell? ⟨w2.heap.size, 1, none⟩ = some (.int .i64 (base + 2)) := HB.out.cell 1
  have q2 : w8.cell? ⟨w2.heap.size, 2, none⟩ = some (.int .i64 (base + 3)) := HB.out.cell 2
  have q3 : w8.cell? ⟨w2.heap.size, 3, none⟩ = some (.int .i64 (4)) := HB.out.cell 3
  have q4 : w8.cell? ⟨w2.heap.size, 4, none⟩ = some (.int .i64 (2)) := HB.out.cell 4
  have q5 : w8.cell? ⟨w2.heap.size, 5, none⟩ = some (.int .i64 (cap)) := HB.out.cell 5
  go_wp2_with fail
  refine (when_any _ _ _ b _ _ _ _ _ (by decide) (by omega) HC.out).mono ?_
  rintro e w9 ⟨rfl, hC, hK⟩
  replace HC := Lib.hid hC
  replace HK := Lib.hid (HK.out.trans hK)
  clear hC
  replace HB := Lib.hid (hK.blk HB.out rfl)
  clear hK q0 q1 q2 q3 q4 q5
  have q0 : w9.cell? ⟨w2.heap.size, 0, none⟩ = some (.int .i64 (base + 1)) := HB.out.cell 0
  have q1 : w9.cell? ⟨w2.heap.size, 1, none⟩ = some (.int .i64 (base + 2)) := HB.out.cell 1
  have q2 : w9.cell? ⟨w2.heap.size, 2, none⟩ = some (.int .i64 (base + 3)) := HB.out.cell 2
  have q3 : w9.cell? ⟨w2.heap.size, 3, none⟩ = some (.int .i64 (4)) := HB.out.cell 3
  have q4 : w9.cell? ⟨w2.heap.size, 4, none⟩ = some (.int .i64 (2)) := HB.out.cell 4
  have q5 : w9.cell? ⟨w2.heap.size, 5, none⟩ = some (.int .i64 (cap)) := HB.out.cell 5
  go_wp2_with fail
  refine (put_any _ _ _ b _ ⟨3, 6, 5, 0, 0⟩ (by omega) HC.out).mono ?_
  rintro e w10 ⟨rfl, hC, hK⟩
  replace HC := Lib.hid hC
  replace HK := Lib.hid (HK.out.trans hK)
  clear hC
  replace HB := Lib.hid (hK.blk HB.out rfl)
  clear hK q0 q1 q2 q3 q4 q5
  have q0 : w10.cell? ⟨w2.heap.size, 0, none⟩ = some (.int .i64 (base + 1)) := HB.out.cell 0
  have q1 : w10.cell? ⟨w2.heap.size, 1, none⟩ = some (.int .i64 (base + 2)) := HB.out.cell 1
  have q2 : w10.cell? ⟨w2.heap.size, 2, none⟩ = some (.int .i64 (base + 3)) := HB.out.cell 2
  have q3 : w10.cell? ⟨w2.heap.size, 3, none⟩ = some (.int .i64 (4)) := HB.out.cell 3
  have q4 : w10.cell? ⟨w2.heap.size, 4, none⟩ = some (.int .i64 (2)) := HB.out.cell 4
  have q5 : w10.cell? ⟨w2.heap.size, 5, none⟩ = some (.int .i64 (cap)) := HB.out.cell 5
  go_wp2_with fail
  refine (jump_any _ _ _ b _ _ (by decide) (by omega) HC.out).mono ?_
  rintro e w11 ⟨rfl, hC, hK⟩
  replace HC := Lib.hid hC
  replace HK := Lib.hid (HK.out.trans hK)
  clear hC
  replace HB := Lib.hid (hK.blk HB.out rfl)
  clear hK q0 q1 q2 q3 q4 q5
  have q0 : w11.cell? ⟨w2.heap.size, 0, none⟩ = some (.int .i64 (base + 1)) := HB.out.cell 0
  have q1 : w11.cell? ⟨w2.heap.size, 1, none⟩ = some (.int .i64 (base + 2)) := HB.out.cell 1
  have q2 : w11.cell? ⟨w2.heap.size, 2, none⟩ = some (.int .i64 (base + 3)) := HB.out.cell 2
  have q3 : w11.cell? ⟨w2.heap.size, 3, none⟩ = some (.int .i64 (4)) := HB.out.cell 3
  have q4 : w11.cell? ⟨w2.heap.size, 4, none⟩ = some (.int .i64 (2)) := HB.out.cell 4
  have q5 : w11.cell? ⟨w2.heap.size, 5, none⟩ = some (.int .i64 (cap)) := HB.out.cell 5
  go_wp2_with fail
  refine (here_any _ _ _ b _ _ (by decide) (by omega) HC.out).mono ?_
  rintro e w12 ⟨rfl, hC, hK⟩
  replace HC := Lib.hid hC
  replace HK := Lib.hid (HK.out.trans hK)
  clear hC
  replace HB := Lib.hid (hK.blk HB.out rfl)
  clear hK q0 q1 q2 q3 q4 q5
  have q0 : w12.cell? ⟨w2.heap.size, 0, none⟩ = some (.int .i64 (base + 1)) := HB.out.cell 0
  have q1 : w12.cell? ⟨w2.heap.size, 1, none⟩ = some (.int .i64 (base + 2)) := HB.out.cell 1
  have q2 : w12.cell? ⟨w2.heap.size, 2, none⟩ = some (.int .i64 (base + 3)) := HB.out.cell 2
  have q3 : w12.cell? ⟨w2.heap.size, 3, none⟩ = some (.int .i64 (4)) := HB.out.cell 3
  have q4 : w12.cell? ⟨w2.heap.size, 4, none⟩ = some (.int .i64 (2)) := HB.out.cell 4
  have q5 : w12.cell? ⟨w2.heap.size, 5, none⟩ = some (.int .i64 (cap)) := HB.out.cell 5
  go_wp2_with fail
  refine (at_any _ (tPool base cap) _ HPo.out (by decide) (by decide)).mono ?_
  rintro e w13 ⟨rfl, hx⟩
  replace HC := Lib.hid (HC.out.chg hx)
  replace HK := Lib.hid (HK.out.trans (Kp.of_nil hx))
  replace HB := Lib.hid (hx.blk HB.out (by simp))
  clear hx q0 q1 q2 q3 q4 q5
  have q0 : w13.cell? ⟨w2.heap.size, 0, none⟩ = some (.int .i64 (base + 1)) := HB.out.cell 0
  have q1 : w13.cell? ⟨w2.heap.size, 1, none⟩ = some (.int .i64 (base + 2)) := HB.out.cell 1
  have q2 : w13.cell? ⟨w2.heap.size, 2, none⟩ = some (.int .i64 (base + 3)) := HB.out.cell 2
  have q3 : w13.cell? ⟨w2.heap.size, 3, none⟩ = some (.int .i64 (4)) := HB.out.cell 3
  have q4 : w13.cell? ⟨w2.heap.size, 4, none⟩ = some (.int .i64 (2)) := HB.out.cell 4
  have q5 : w13.cell? ⟨w2.heap.size, 5, none⟩ = some (.int .i64 (cap)) := HB.out.cell 5
  go_wp2_with fail
  refine (load_any _ _ _ b _ _ _ _ (by omega) HC.out).mono ?_
  rintro e w14 ⟨rfl, hC, hK⟩
  replace HC := Lib.hid hC
  replace HK := Lib.hid (HK.out.trans hK)
  clear hC
  replace HB := Lib.hid (hK.blk HB.out rfl)
  clear hK q0 q1 q2 q3 q4 q5
  have q0 : w14.cell? ⟨w2.heap.size, 0, none⟩ = some (.int .i64 (base + 1)) := HB.out.cell 0
  have q1 : w14.cell? ⟨w2.heap.size, 1, none⟩ = some (.int .i64 (base + 2)) := HB.out.cell 1
  have q2 : w14.cell? ⟨w2.heap.size, 2, none⟩ = some (.int .i64 (base + 3)) := HB.out.cell 2
  have q3 : w14.cell? ⟨w2.heap.size, 3, none⟩ = some (.int .i64 (4)) := HB.out.cell 3
  have q4 : w14.cell? ⟨w2.heap.size, 4, none⟩ = some (.int .i64 (2)) := HB.out.cell 4
  have q5 : w14.cell? ⟨w2.heap.size, 5, none⟩ = some (.int .i64 (cap)) := HB.out.cell 5
  go_wp2_with fail
  refine (at_any _ (tPool base cap) _ HPo.out (by decide) (by decide)).mono ?_
  rintro e w15 ⟨rfl, hx⟩
  replace HC := Lib.hid (HC.out.chg hx)
  replace HK := Lib.hid (HK.out.trans (Kp.of_nil hx))
  replace HB := Lib.hid (hx.blk HB.out (by simp))
  clear hx q0 q1 q2 q3 q4 q5
  have q0 : w15.cell? ⟨w2.heap.size, 0, none⟩ = some (.int .i64 (base + 1)) := HB.out.cell 0
  have q1 : w15.cell? ⟨w2.heap.size, 1, none⟩ = some (.int .i64 (base + 2)) := HB.out.cell 1
  have q2 : w15.cell? ⟨w2.heap.size, 2, none⟩ = some (.int .i64 (base + 3)) := HB.out.cell 2
  have q3 : w15.cell? ⟨w2.heap.size, 3, none⟩ = some (.int .i64 (4)) := HB.out.cell 3
  have q4 : w15.cell? ⟨w2.heap.size, 4, none⟩ = some (.int .i64 (2)) := HB.out.cell 4
  have q5 : w15.cell? ⟨w2.heap.size, 5, none⟩ = some (.int .i64 (cap)) := HB.out.cell 5
  go_wp2_with fail
  refine (load_any _ _ _ b _ _ _ _ (by omega) HC.out).mono ?_
  rintro e w16 ⟨rfl, hC, hK⟩
  replace HC := Lib.hid hC
  replace HK := Lib.hid (HK.out.trans hK)
  clear hC
  replace HB := Lib.hid (hK.blk HB.out rfl)
  clear hK q0 q1 q2 q3 q4 q5
  have q0 : w16.cell? ⟨w2.heap.size, 0, none⟩ = some (.int .i64 (base + 1)) := HB.out.cell 0
  have q1 : w16.cell? ⟨w2.heap.size, 1, none⟩ = some (.int .i64 (base + 2)) := HB.out.cell 1
  have q2 : w16.cell? ⟨w2.heap.size, 2, none⟩ = some (.int .i64 (base + 3)) := HB.out.cell 2
  have q3 : w16.cell? ⟨w2.heap.size, 3, none⟩ = some (.int .i64 (4)) := HB.out.cell 3
  have q4 : w16.cell? ⟨w2.heap.size, 4, none⟩ = some (.int .i64 (2)) := HB.out.cell 4
  have q5 : w16.cell? ⟨w2.heap.size, 5, none⟩ = some (.int .i64 (cap)) := HB.out.cell 5
  go_wp2_with fail
  refine (set_any _ _ _ b _ _ _ (by omega) HC.out).mono ?_
  rintro e w17 ⟨rfl, hC, hK⟩
  replace HC := Lib.hid hC
  replace HK := Lib.hid (HK.out.trans hK)
  clear hC
  replace HB := Lib.hid (hK.blk HB.out rfl)
  clear hK q0 q1 q2 q3 q4 q5
  have q0 : w17.cell? ⟨w2.heap.size, 0, none⟩ = some (.int .i64 (base + 1)) := HB.out.cell 0
  have q1 : w17.cell? ⟨w2.heap.size, 1, none⟩ = some (.int .i64 (base + 2)) := HB.out.cell 1
  have q2 : w17.cell? ⟨w2.heap.size, 2, none⟩ = some (.int .i64 (base + 3)) := HB.out.cell 2
  have q3 : w17.cell? ⟨w2.heap.size, 3, none⟩ = some (.int .i64 (4)) := HB.out.cell 3
  have q4 : w17.cell? ⟨w2.heap.size, 4, none⟩ = some (.int .i64 (2)) := HB.out.cell 4
  have q5 : w17.cell? ⟨w2.heap.size, 5, none⟩ = some (.int .i64 (cap)) := HB.out.cell 5
  go_wp2_with fail
  refine (here_any _ _ _ b _ _ (by decide) (by omega) HC.out).mono ?_
  rintro e w18 ⟨rfl, hC, hK⟩
  replace HC := Lib.hid hC
  replace HK := Lib.hid (HK.out.trans hK)
  clear hC
  replace HB := Lib.hid (hK.blk HB.out rfl)
  clear hK q0 q1 q2 q3 q4 q5
  have q0 : w18.cell? ⟨w2.heap.size, 0, none⟩ = some (.int .i64 (base + 1)) := HB.out.cell 0
  have q1 : w18.cell? ⟨w2.heap.size, 1, none⟩ = some (.int .i64 (base + 2)) := HB.out.cell 1
  have q2 : w18.cell? ⟨w2.heap.size, 2, none⟩ = some (.int .i64 (base + 3)) := HB.out.cell 2
  have q3 : w18.cell? ⟨w2.heap.size, 3, none⟩ = some (.int .i64 (4)) := HB.out.cell 3
  have q4 : w18.cell? ⟨w2.heap.size, 4, none⟩ = some (.int .i64 (2)) := HB.out.cell 4
  have q5 : w18.cell? ⟨w2.heap.size, 5, none⟩ = some (.int .i64 (cap)) := HB.out.cell 5
  go_wp2_with fail
  refine (close_in _ _ _ b _ _ (by omega) HC.out rfl).mono ?_
  rintro e w99 ⟨v, rfl, hr, hK⟩
  have HRR := Lib.hid hr
  replace HK := Lib.hid (HK.out.trans hK)
  clear hr hK
  go_wp2_with fail
  go_ret2
  exact ⟨_, rfl, HRR.out, HK.out.chg (Nat.le_refl _)⟩

end Go.Proofs.Ythlhjahhjoclfaa
