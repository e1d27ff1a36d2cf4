/- A code that comes about: nodes are taken and given; closures. -/
import Derived.Test.YthlhjahhjoclfaaCd4
import Derived.Deep.RegionHeld3
namespace Go.Proofs.Ythlhjahhjoclfaa
set_option maxRecDepth 100000
open Go.RowKit

/-- Where nodes come from. -/
structure Po where
  fresh : Int
  free : Int
  nodes : Int
  each : Int
  next : Int
  cap : Int
structure PoOk (p : Po) : Prop where
  n0 : 0 ≤ p.nodes
  n1 : p.nodes ≤ 1000
  x0 : 0 ≤ p.next
  x1 : p.next ≤ 3
  m0 : 0 ≤ p.each * p.cap
  m1 : p.each * p.cap ≤ 5000
  f0 : 0 ≤ p.free
  f1 : p.free ≤ 1000
def Po.at (p : Po) (k : Int) : Int := p.nodes - 1 + k

theorem at_any (w : World) (p : Po) (k : Int) (hp : PoOk p) (h0 : 0 ≤ k) (h3 : k ≤ 3) :
    Calls Try.prog 53 #[.agg #[.int .i64 p.fresh, .int .i64 p.free, .int .i64 p.nodes, .int .i64 p.each, .int .i64 p.next, .int .i64 p.cap], .int .i64 k] w fun e w' => e = .returned (.int .i64 (p.at k)) ∧ Chg [] w w' := by
  have hp3 := hp.n0
  have hp4 := hp.n1
  go_enter Try.func53, Try.ntmps53
  go_wp2_with fail
  go_ret
  exact ⟨rfl, (Chg.refl _ _).alloc _⟩

def St.take (s : St) (p : Po) : St :=
  ((((((((((((s.load 6 7 p.free).when 15 6 7 ⟨#[97, 103, 97, 105, 110]⟩).load 6 7 p.fresh).set 2 (p.each * p.cap)).when 14 6 2 ⟨#[111, 117, 116]⟩).more 2 6 p.each 2).store 2 7 p.fresh).more 6 6 1 2).jump ⟨#[116, 97, 107, 101, 110]⟩).here ⟨#[97, 103, 97, 105, 110]⟩).load 2 6 (p.at p.next)).store 2 7 p.free).here ⟨#[116, 97, 107, 101, 110]⟩
def St.give (s : St) (p : Po) : St := ((s.load 2 7 p.free).store 2 6 (p.at p.next)).store 6 7 p.free

set_option maxHeartbeats 2000000 in
theorem take_any (base n : Nat) (w : World) (b : Nat) (s : St) (p : Po) (hp : PoOk p) (hn : n ≤ 4000) (h : CodeAt base n w b s) :
    Calls Try.prog 70 #[.pointer (some ⟨b, 0, none⟩), .agg #[.int .i64 p.fresh, .int .i64 p.free, .int .i64 p.nodes, .int .i64 p.each, .int .i64 p.next, .int .i64 p.cap]] w (CPost base (n + 18) w b (s.take p)) := by
  have HC := Lib.hid (h.chg ((Chg.refl [] w).alloc (.cells #[.int .i64 p.fresh, .int .i64 p.free, .int .i64 p.nodes, .int .i64 p.each, .int .i64 p.next, .int .i64 p.cap] 82)))
  have HB := Lib.hid (Blk.new w [.int .i64 p.fresh, .int .i64 p.free, .int .i64 p.nodes, .int .i64 p.each, .int .i64 p.next, .int .i64 p.cap] 82)
  have HK := Lib.hid ((Kp.refl base w).alloc (.cells #[.int .i64 p.fresh, .int .i64 p.free, .int .i64 p.nodes, .int .i64 p.each, .int .i64 p.next, .int .i64 p.cap] 82))
  clear h
  have hp1 := hp.m0
  have hp2 := hp.m1
  have hp3 := hp.n0
  have hp4 := hp.n1
  have q0 : (w.alloc (.cells #[.int .i64 p.fresh, .int .i64 p.free, .int .i64 p.nodes, .int .i64 p.each, .int .i64 p.next, .int .i64 p.cap] 82)).cell? ⟨w.heap.size, 0, none⟩ = some (.int .i64 p.fresh) := HB.out.cell 0
  have q1 : (w.alloc (.cells #[.int .i64 p.fresh, .int .i64 p.free, .int .i64 p.nodes, .int .i64 p.each, .int .i64 p.next, .int .i64 p.cap] 82)).cell? ⟨w.heap.size, 1, none⟩ = some (.int .i64 p.free) := HB.out.cell 1
  have q2 : (w.alloc (.cells #[.int .i64 p.fresh, .int .i64 p.free, .int .i64 p.nodes, .int .i64 p.each, .int .i64 p.next, .int .i64 p.cap] 82)).cell? ⟨w.heap.size, 2, none⟩ = some (.int .i64 p.nodes) := HB.out.cell 2
  have q3 : (w.alloc (.cells #[.int .i64 p.fresh, .int .i64 p.free, .int .i64 p.nodes, .int .i64 p.each, .int .i64 p.next, .int .i64 p.cap] 82)).cell? ⟨w.heap.size, 3, none⟩ = some (.int .i64 p.each) := HB.out.cell 3
  have q4 : (w.alloc (.cells #[.int .i64 p.fresh, .int .i64 p.free, .int .i64 p.nodes, .int .i64 p.each, .int .i64 p.next, .int .i64 p.cap] 82)).cell? ⟨w.heap.size, 4, none⟩ = some (.int .i64 p.next) := HB.out.cell 4
  have q5 : (w.alloc (.cells #[.int .i64 p.fresh, .int .i64 p.free, .int .i64 p.nodes, .int .i64 p.each, .int .i64 p.next, .int .i64 p.cap] 82)).cell? ⟨w.heap.size, 5, none⟩ = some (.int .i64 p.cap) := HB.out.cell 5
  go_enter Try.func70, Try.ntmps70
  go_wp2_with fail
  refine (load_any base _ _ b _ _ _ _ (by omega) HC.out).mono ?_
  rintro e w1 ⟨rfl, hC, hK⟩
  replace HC := Lib.hid hC
  replace HK := Lib.hid (HK.out.trans hK)
  replace HB := Lib.hid (hK.blk HB.out rfl)
  clear hC hK
  clear q0 q1 q2 q3 q4 q5
  have q0 : w1.cell? ⟨w.heap.size, 0, none⟩ = some (.int .i64 p.fresh) := HB.out.cell 0
  have q1 : w1.cell? ⟨w.heap.size, 1, none⟩ = some (.int .i64 p.free) := HB.out.cell 1
  have q2 : w1.cell? ⟨w.heap.size, 2, none⟩ = some (.int .i64 p.nodes) := HB.out.cell 2
  have q3 : w1.cell? ⟨w.heap.size, 3, none⟩ = some (.int .i64 p.each) := HB.out.cell 3
  have q4 : w1.cell? ⟨w.heap.size, 4, none⟩ = some (.int .i64 p.next) := HB.out.cell 4
  have q5 : w1.cell? ⟨w.heap.size, 5, none⟩ = some (.int .i64 p.cap) := HB.out.cell 5
  go_wp2_with fail
  refine (when_any base _ _ b _ _ _ _ _ (by decide) (by omega) HC.out).mono ?_
  rintro e w2 ⟨rfl, hC, hK⟩
  replace HC := Lib.hid hC
  replace HK := Lib.hid (HK.out.trans hK)
  replace HB := Lib.hid (hK.blk HB.out rfl)
  clear hC hK
  clear q0 q1 q2 q3 q4 q5
  have q0 : w2.cell? ⟨w.heap.size, 0, none⟩ = some (.int .i64 p.fresh) := HB.out.cell 0
  have q1 : w2.cell? ⟨w.heap.size, 1, none⟩ = some (.int .i64 p.free) := HB.out.cell 1
  have q2 : w2.cell? ⟨w.heap.size, 2, none⟩ = some (.int .i64 p.nodes) := HB.out.cell 2
  have q3 : w2.cell? ⟨w.heap.size, 3, none⟩ = some (.int .i64 p.each) := HB.out.cell 3
  have q4 : w2.cell? ⟨w.heap.size, 4, none⟩ = some (.int .i64 p.next) := HB.out.cell 4
  have q5 : w2.cell? ⟨w.heap.size, 5, none⟩ = some (.int .i64 p.cap) := HB.out.cell 5
  go_wp2_with fail
  refine (load_any base _ _ b _ _ _ _ (by omega) HC.out).mono ?_
  rintro e w3 ⟨rfl, hC, hK⟩
  replace HC := Lib.hid hC
  replace HK := Lib.hid (HK.out.trans hK)
  replace HB := Lib.hid (hK.blk HB.out rfl)
  clear hC hK
  clear q0 q1 q2 q3 q4 q5
  have q0 : w3.cell? ⟨w.heap.size, 0, none⟩ = some (.int .i64 p.fresh) := HB.out.cell 0
  have q1 : w3.cell? ⟨w.heap.size, 1, none⟩ = some (.int .i64 p.free) := HB.out.cell 1
  have q2 : w3.cell? ⟨w.heap.size, 2, none⟩ = some (.int .i64 p.nodes) := HB.out.cell 2
  have q3 : w3.cell? ⟨w.heap.size, 3, none⟩ = some (.int .i64 p.each) := HB.out.cell 3
  have q4 : w3.cell? ⟨w.heap.size, 4, none⟩ = some (.int .i64 p.next) := HB.out.cell 4
  have q5 : w3.cell? ⟨w.heap.size, 5, none⟩ = some (.int .i64 p.cap) := HB.out.cell 5
  go_wp2_with fail
  refine (set_any base _ _ b _ _ _ (by omega) HC.out).mono ?_
  rintro e w4 ⟨rfl, hC, hK⟩
  replace HC := Lib.hid hC
  replace HK := Lib.hid (HK.out.trans hK)
  replace HB := Lib.hid (hK.blk HB.out rfl)
  clear hC hK
  clear q0 q1 q2 q3 q4 q5
  have q0 : w4.cell? ⟨w.heap.size, 0, none⟩ = some (.int .i64 p.fresh) := HB.out.cell 0
  have q1 : w4.cell? ⟨w.heap.size, 1, none⟩ = some (.int .i64 p.free) := HB.out.cell 1
  have q2 : w4.cell? ⟨w.heap.size, 2, none⟩ = some (.int .i64 p.nodes) := HB.out.cell 2
  have q3 : w4.cell? ⟨w.heap.size, 3, none⟩ = some (.int .i64 p.each) := HB.out.cell 3
  have q4 : w4.cell? ⟨w.heap.size, 4, none⟩ = some (.int .i64 p.next) := HB.out.cell 4
  have q5 : w4.cell? ⟨w.heap.size, 5, none⟩ = some (.int .i64 p.cap) := HB.out.cell 5
  go_wp2_with fail
  refine (when_any base _ _ b _ _ _ _ _ (by decide) (by omega) HC.out).mono ?_
  rintro e w5 ⟨rfl, hC, hK⟩
  replace HC := Lib.hid hC
  replace HK := Lib.hid (HK.out.trans hK)
  replace HB := Lib.hid (hK.blk HB.out rfl)
  clear hC hK
  clear q0 q1 q2 q3 q4 q5
  have q0 : w5.cell? ⟨w.heap.size, 0, none⟩ = some (.int .i64 p.fresh) := HB.out.cell 0
  have q1 : w5.cell? ⟨w.heap.size, 1, none⟩ = some (.int .i64 p.free) := HB.out.cell 1
  have q2 : w5.cell? ⟨w.heap.size, 2, none⟩ = some (.int .i64 p.nodes) := HB.out.cell 2
  have q3 : w5.cell? ⟨w.heap.size, 3, none⟩ = some (.int .i64 p.each) := HB.out.cell 3
  have q4 : w5.cell? ⟨w.heap.size, 4, none⟩ = some (.int .i64 p.next) := HB.out.cell 4
  have q5 : w5.cell? ⟨w.heap.size, 5, none⟩ = some (.int .i64 p.cap) := HB.out.cell 5
  go_wp2_with fail
  refine (more_any base _ _ b _ _ _ _ _ (by omega) HC.out).mono ?_
  rintro e w6 ⟨rfl, hC, hK⟩
  replace HC := Lib.hid hC
  replace HK := Lib.hid (HK.out.trans hK)
  replace HB := Lib.hid (hK.blk HB.out rfl)
  clear hC hK
  clear q0 q1 q2 q3 q4 q5
  have q0 : w6.cell? ⟨w.heap.size, 0, none⟩ = some (.int .i64 p.fresh) := HB.out.cell 0
  have q1 : w6.cell? ⟨w.heap.size, 1, none⟩ = some (.int .i64 p.free) := HB.out.cell 1
  have q2 : w6.cell? ⟨w.heap.size, 2, none⟩ = some (.int .i64 p.nodes) := HB.out.cell 2
  have q3 : w6.cell? ⟨w.heap.size, 3, none⟩ = some (.int .i64 p.each) := HB.out.cell 3
  have q4 : w6.cell? ⟨w.heap.size, 4, none⟩ = some (.int .i64 p.next) := HB.out.cell 4
  have q5 : w6.cell? ⟨w.heap.size, 5, none⟩ = some (.int .i64 p.cap) := HB.out.cell 5
  go_wp2_with fail
  refine (store_any base _ _ b _ _ _ _ (by omega) HC.out).mono ?_
  rintro e w7 ⟨rfl, hC, hK⟩
  replace HC := Lib.hid hC
  replace HK := Lib.hid (HK.out.trans hK)
  replace HB := Lib.hid (hK.blk HB.out rfl)
  clear hC hK
  clear q0 q1 q2 q3 q4 q5
  have q0 : w7.cell? ⟨w.heap.size, 0, none⟩ = some (.int .i64 p.fresh) := HB.out.cell 0
  have q1 : w7.cell? ⟨w.heap.size, 1, none⟩ = some (.int .i64 p.free) := HB.out.cell 1
  have q2 : w7.cell? ⟨w.heap.size, 2, none⟩ = some (.int .i64 p.nodes) := HB.out.cell 2
  have q3 : w7.cell? ⟨w.heap.size, 3, none⟩ = some (.int .i64 p.each) := HB.out.cell 3
  have q4 : w7.cell? ⟨w.heap.size, 4, none⟩ = some (.int .i64 p.next) := HB.out.cell 4
  have q5 : w7.cell? ⟨w.heap.size, 5, none⟩ = some (.int .i64 p.cap) := HB.out.cell 5
  go_wp2_with fail
  refine (more_any base _ _ b _ _ _ _ _ (by omega) HC.out).mono ?_
  rintro e w8 ⟨rfl, hC, hK⟩
  replace HC := Lib.hid hC
  replace HK := Lib.hid (HK.out.trans hK)
  replace HB := Lib.hid (hK.blk HB.out rfl)
  clear hC hK
  clear q0 q1 q2 q3 q4 q5
  have q0 : w8.cell? ⟨w.heap.size, 0, none⟩ = some (.int .i64 p.fresh) := HB.out.cell 0
  have q1 : w8.cell? ⟨w.heap.size, 1, none⟩ = some (.int .i64 p.free) := HB.out.cell 1
  have q2 : w8.cell? ⟨w.heap.size, 2, none⟩ = some (.int .i64 p.nodes) := HB.out.cell 2
  have q3 : w8.cell? ⟨w.heap.size, 3, none⟩ = some (.int .i64 p.each) := HB.out.cell 3
  have q4 : w8.cell? ⟨w.heap.size, 4, none⟩ = some (.int .i64 p.next) := HB.out.cell 4
  have q5 : w8.cell? ⟨w.heap.size, 5, none⟩ = some (.int .i64 p.cap) := HB.out.cell 5
  go_wp2_with fail
  refine (jump_any base _ _ b _  _ (by decide) (by omega) HC.out).mono ?_
  rintro e w9 ⟨rfl, hC, hK⟩
  replace HC := Lib.hid hC
  replace HK := Lib.hid (HK.out.trans hK)
  replace HB := Lib.hid (hK.blk HB.out rfl)
  clear hC hK
  clear q0 q1 q2 q3 q4 q5
  have q0 : w9.cell? ⟨w.heap.size, 0, none⟩ = some (.int .i64 p.fresh) := HB.out.cell 0
  have q1 : w9.cell? ⟨w.heap.size, 1, none⟩ = some (.int .i64 p.free) := HB.out.cell 1
  have q2 : w9.cell? ⟨w.heap.size, 2, none⟩ = some (.int .i64 p.nodes) := HB.out.cell 2
  have q3 : w9.cell? ⟨w.heap.size, 3, none⟩ = some (.int .i64 p.each) := HB.out.cell 3
  have q4 : w9.cell? ⟨w.heap.size, 4, none⟩ = some (.int .i64 p.next) := HB.out.cell 4
  have q5 : w9.cell? ⟨w.heap.size, 5, none⟩ = some (.int .i64 p.cap) := HB.out.cell 5
  go_wp2_with fail
  refine (here_any base _ _ b _  _ (by decide) (by omega) HC.out).mono ?_
  rintro e w10 ⟨rfl, hC, hK⟩
  replace HC := Lib.hid hC
  replace HK := Lib.hid (HK.out.trans hK)
  replace HB := Lib.hid (hK.blk HB.out rfl)
  clear hC hK
  clear q0 q1 q2 q3 q4 q5
  have q0 : w10.cell? ⟨w.heap.size, 0, none⟩ = some (.int .i64 p.fresh) := HB.out.cell 0
  have q1 : w10.cell? ⟨w.heap.size, 1, none⟩ = some (.int .i64 p.free) := HB.out.cell 1
  have q2 : w10.cell? ⟨w.heap.size, 2, none⟩ = some (.int .i64 p.nodes) := HB.out.cell 2
  have q3 : w10.cell? ⟨w.heap.size, 3, none⟩ = some (.int .i64 p.each) := HB.out.cell 3
  have q4 : w10.cell? ⟨w.heap.size, 4, none⟩ = some (.int .i64 p.next) := HB.out.cell 4
  have q5 : w10.cell? ⟨w.heap.size, 5, none⟩ = some (.int .i64 p.cap) := HB.out.cell 5
  go_wp2_with fail
  refine (at_any _ p _ hp hp.x0 hp.x1).mono ?_
  rintro e w11 ⟨rfl, hx⟩
  replace HC := Lib.hid (HC.out.chg hx)
  replace HK := Lib.hid (HK.out.trans (Kp.of_nil hx))
  replace HB := Lib.hid (hx.blk HB.out (by simp))
  clear hx
  clear q0 q1 q2 q3 q4 q5
  have q0 : w11.cell? ⟨w.heap.size, 0, none⟩ = some (.int .i64 p.fresh) := HB.out.cell 0
  have q1 : w11.cell? ⟨w.heap.size, 1, none⟩ = some (.int .i64 p.free) := HB.out.cell 1
  have q2 : w11.cell? ⟨w.heap.size, 2, none⟩ = some (.int .i64 p.nodes) := HB.out.cell 2
  have q3 : w11.cell? ⟨w.heap.size, 3, none⟩ = some (.int .i64 p.each) := HB.out.cell 3
  have q4 : w11.cell? ⟨w.heap.size, 4, none⟩ = some (.int .i64 p.next) := HB.out.cell 4
  have q5 : w11.cell? ⟨w.heap.size, 5, none⟩ = some (.int .i64 p.cap) := HB.out.cell 5
  go_wp2_with fail
  refine (load_any base _ _ b _ _ _ _ (by omega) HC.out).mono ?_
  rintro e w12 ⟨rfl, hC, hK⟩
  replace HC := Lib.hid hC
  replace HK := Lib.hid (HK.out.trans hK)
  replace HB := Lib.hid (hK.blk HB.out rfl)
  clear hC hK
  clear q0 q1 q2 q3 q4 q5
  have q0 : w12.cell? ⟨w.heap.size, 0, none⟩ = some (.int .i64 p.fresh) := HB.out.cell 0
  have q1 : w12.cell? ⟨w.heap.size, 1, none⟩ = some (.int .i64 p.free) := HB.out.cell 1
  have q2 : w12.cell? ⟨w.heap.size, 2, none⟩ = some (.int .i64 p.nodes) := HB.out.cell 2
  have q3 : w12.cell? ⟨w.heap.size, 3, none⟩ = some (.int .i64 p.each) := HB.out.cell 3
  have q4 : w12.cell? ⟨w.heap.size, 4, none⟩ = some (.int .i64 p.next) := HB.out.cell 4
  have q5 : w12.cell? ⟨w.heap.size, 5, none⟩ = some (.int .i64 p.cap) := HB.out.cell 5
  go_wp2_with fail
  refine (store_any base _ _ b _ _ _ _ (by omega) HC.out).mono ?_
  rintro e w13 ⟨rfl, hC, hK⟩
  replace HC := Lib.hid hC
  replace HK := Lib.hid (HK.out.trans hK)
  replace HB := Lib.hid (hK.blk HB.out rfl)
  clear hC hK
  clear q0 q1 q2 q3 q4 q5
  have q0 : w13.cell? ⟨w.heap.size, 0, none⟩ = some (.int .i64 p.fresh) := HB.out.cell 0
  have q1 : w13.cell? ⟨w.heap.size, 1, none⟩ = some (.int .i64 p.free) := HB.out.cell 1
  have q2 : w13.cell? ⟨w.heap.size, 2, none⟩ = some (.int .i64 p.nodes) := HB.out.cell 2
  have q3 : w13.cell? ⟨w.heap.size, 3, none⟩ = some (.int .i64 p.each) := HB.out.cell 3
  have q4 : w13.cell? ⟨w.heap.size, 4, none⟩ = some (.int .i64 p.next) := HB.out.cell 4
  have q5 : w13.cell? ⟨w.heap.size, 5, none⟩ = some (.int .i64 p.cap) := HB.out.cell 5
  go_wp2_with fail
  refine (here_any base _ _ b _  _ (by decide) (by omega) HC.out).mono ?_
  rintro e w14 ⟨rfl, hC, hK⟩
  replace HC := Lib.hid hC
  replace HK := Lib.hid (HK.out.trans hK)
  replace HB := Lib.hid (hK.blk HB.out rfl)
  clear hC hK
  clear q0 q1 q2 q3 q4 q5
  have q0 : w14.cell? ⟨w.heap.size, 0, none⟩ = some (.int .i64 p.fresh) := HB.out.cell 0
  have q1 : w14.cell? ⟨w.heap.size, 1, none⟩ = some (.int .i64 p.free) := HB.out.cell 1
  have q2 : w14.cell? ⟨w.heap.size, 2, none⟩ = some (.int .i64 p.nodes) := HB.out.cell 2
  have q3 : w14.cell? ⟨w.heap.size, 3, none⟩ = some (.int .i64 p.each) := HB.out.cell 3
  have q4 : w14.cell? ⟨w.heap.size, 4, none⟩ = some (.int .i64 p.next) := HB.out.cell 4
  have q5 : w14.cell? ⟨w.heap.size, 5, none⟩ = some (.int .i64 p.cap) := HB.out.cell 5
  go_wp2_with fail
  go_end0
  exact ⟨rfl, HC.out, HK.out⟩

set_option maxHeartbeats 2000000 in
theorem give_any (base n : Nat) (w : World) (b : Nat) (s : St) (p : Po) (hp : PoOk p) (hn : n ≤ 4000) (h : CodeAt base n w b s) :
    Calls Try.prog 71 #[.pointer (some ⟨b, 0, none⟩), .agg #[.int .i64 p.fresh, .int .i64 p.free, .int .i64 p.nodes, .int .i64 p.each, .int .i64 p.next, .int .i64 p.cap]] w (CPost base (n + 3) w b (s.give p)) := by
  have HC := Lib.hid (h.chg ((Chg.refl [] w).alloc (.cells #[.int .i64 p.fresh, .int .i64 p.free, .int .i64 p.nodes, .int .i64 p.each, .int .i64 p.next, .int .i64 p.cap] 82)))
  have HB := Lib.hid (Blk.new w [.int .i64 p.fresh, .int .i64 p.free, .int .i64 p.nodes, .int .i64 p.each, .int .i64 p.next, .int .i64 p.cap] 82)
  have HK := Lib.hid ((Kp.refl base w).alloc (.cells #[.int .i64 p.fresh, .int .i64 p.free, .int .i64 p.nodes, .int .i64 p.each, .int .i64 p.next, .int .i64 p.cap] 82))
  clear h
  have hp1 := hp.m0
  have hp2 := hp.m1
  have hp3 := hp.n0
  have hp4 := hp.n1
  have q0 : (w.alloc (.cells #[.int .i64 p.fresh, .int .i64 p.free, .int .i64 p.nodes, .int .i64 p.each, .int .i64 p.next, .int .i64 p.cap] 82)).cell? ⟨w.heap.size, 0, none⟩ = some (.int .i64 p.fresh) := HB.out.cell 0
  have q1 : (w.alloc (.cells #[.int .i64 p.fresh, .int .i64 p.free, .int .i64 p.nodes, .int .i64 p.each, .int .i64 p.next, .int .i64 p.cap] 82)).cell? ⟨w.heap.size, 1, none⟩ = some (.int .i64 p.free) := HB.out.cell 1
  have q2 : (w.alloc (.cells #[.int .i64 p.fresh, .int .i64 p.free, .int .i64 p.nodes, .int .i64 p.each, .int .i64 p.next, .int .i64 p.cap] 82)).cell? ⟨w.heap.size, 2, none⟩ = some (.int .i64 p.nodes) := HB.out.cell 2
  have q3 : (w.alloc (.cells #[.int .i64 p.fresh, .int .i64 p.free, .int .i64 p.nodes, .int .i64 p.each, .int .i64 p.next, .int .i64 p.cap] 82)).cell? ⟨w.heap.size, 3, none⟩ = some (.int .i64 p.each) := HB.out.cell 3
  have q4 : (w.alloc (.cells #[.int .i64 p.fresh, .int .i64 p.free, .int .i64 p.nodes, .int .i64 p.each, .int .i64 p.next, .int .i64 p.cap] 82)).cell? ⟨w.heap.size, 4, none⟩ = some (.int .i64 p.next) := HB.out.cell 4
  have q5 : (w.alloc (.cells #[.int .i64 p.fresh, .int .i64 p.free, .int .i64 p.nodes, .int .i64 p.each, .int .i64 p.next, .int .i64 p.cap] 82)).cell? ⟨w.heap.size, 5, none⟩ = some (.int .i64 p.cap) := HB.out.cell 5
  go_enter Try.func71, Try.ntmps71
  go_wp2_with fail
  refine (load_any base _ _ b _ _ _ _ (by omega) HC.out).mono ?_
  rintro e w1 ⟨rfl, hC, hK⟩
  replace HC := Lib.hid hC
  replace HK := Lib.hid (HK.out.trans hK)
  replace HB := Lib.hid (hK.blk HB.out rfl)
  clear hC hK
  clear q0 q1 q2 q3 q4 q5
  have q0 : w1.cell? ⟨w.heap.size, 0, none⟩ = some (.int .i64 p.fresh) := HB.out.cell 0
  have q1 : w1.cell? ⟨w.heap.size, 1, none⟩ = some (.int .i64 p.free) := HB.out.cell 1
  have q2 : w1.cell? ⟨w.heap.size, 2, none⟩ = some (.int .i64 p.nodes) := HB.out.cell 2
  have q3 : w1.cell? ⟨w.heap.size, 3, none⟩ = some (.int .i64 p.each) := HB.out.cell 3
  have q4 : w1.cell? ⟨w.heap.size, 4, none⟩ = some (.int .i64 p.next) := HB.out.cell 4
  have q5 : w1.cell? ⟨w.heap.size, 5, none⟩ = some (.int .i64 p.cap) := HB.out.cell 5
  go_wp2_with fail
  refine (at_any _ p _ hp hp.x0 hp.x1).mono ?_
  rintro e w2 ⟨rfl, hx⟩
  replace HC := Lib.hid (HC.out.chg hx)
  replace HK := Lib.hid (HK.out.trans (Kp.of_nil hx))
  replace HB := Lib.hid (hx.blk HB.out (by simp))
  clear hx
  clear q0 q1 q2 q3 q4 q5
  have q0 : w2.cell? ⟨w.heap.size, 0, none⟩ = some (.int .i64 p.fresh) := HB.out.cell 0
  have q1 : w2.cell? ⟨w.heap.size, 1, none⟩ = some (.int .i64 p.free) := HB.out.cell 1
  have q2 : w2.cell? ⟨w.heap.size, 2, none⟩ = some (.int .i64 p.nodes) := HB.out.cell 2
  have q3 : w2.cell? ⟨w.heap.size, 3, none⟩ = some (.int .i64 p.each) := HB.out.cell 3
  have q4 : w2.cell? ⟨w.heap.size, 4, none⟩ = some (.int .i64 p.next) := HB.out.cell 4
  have q5 : w2.cell? ⟨w.heap.size, 5, none⟩ = some (.int .i64 p.cap) := HB.out.cell 5
  go_wp2_with fail
  refine (store_any base _ _ b _ _ _ _ (by omega) HC.out).mono ?_
  rintro e w3 ⟨rfl, hC, hK⟩
  replace HC := Lib.hid hC
  replace HK := Lib.hid (HK.out.trans hK)
  replace HB := Lib.hid (hK.blk HB.out rfl)
  clear hC hK
  clear q0 q1 q2 q3 q4 q5
  have q0 : w3.cell? ⟨w.heap.size, 0, none⟩ = some (.int .i64 p.fresh) := HB.out.cell 0
  have q1 : w3.cell? ⟨w.heap.size, 1, none⟩ = some (.int .i64 p.free) := HB.out.cell 1
  have q2 : w3.cell? ⟨w.heap.size, 2, none⟩ = some (.int .i64 p.nodes) := HB.out.cell 2
  have q3 : w3.cell? ⟨w.heap.size, 3, none⟩ = some (.int .i64 p.each) := HB.out.cell 3
  have q4 : w3.cell? ⟨w.heap.size, 4, none⟩ = some (.int .i64 p.next) := HB.out.cell 4
  have q5 : w3.cell? ⟨w.heap.size, 5, none⟩ = some (.int .i64 p.cap) := HB.out.cell 5
  go_wp2_with fail
  refine (store_any base _ _ b _ _ _ _ (by omega) HC.out).mono ?_
  rintro e w4 ⟨rfl, hC, hK⟩
  replace HC := Lib.hid hC
  replace HK := Lib.hid (HK.out.trans hK)
  replace HB := Lib.hid (hK.blk HB.out rfl)
  clear hC hK
  clear q0 q1 q2 q3 q4 q5
  have q0 : w4.cell? ⟨w.heap.size, 0, none⟩ = some (.int .i64 p.fresh) := HB.out.cell 0
  have q1 : w4.cell? ⟨w.heap.size, 1, none⟩ = some (.int .i64 p.free) := HB.out.cell 1
  have q2 : w4.cell? ⟨w.heap.size, 2, none⟩ = some (.int .i64 p.nodes) := HB.out.cell 2
  have q3 : w4.cell? ⟨w.heap.size, 3, none⟩ = some (.int .i64 p.each) := HB.out.cell 3
  have q4 : w4.cell? ⟨w.heap.size, 4, none⟩ = some (.int .i64 p.next) := HB.out.cell 4
  have q5 : w4.cell? ⟨w.heap.size, 5, none⟩ = some (.int .i64 p.cap) := HB.out.cell 5
  go_wp2_with fail
  go_end0
  exact ⟨rfl, HC.out, HK.out⟩

end Go.Proofs.Ythlhjahhjoclfaa
