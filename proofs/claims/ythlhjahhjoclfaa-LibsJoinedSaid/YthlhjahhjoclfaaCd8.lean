/- Looking through a bucket and through a tree. -/
import Derived.Test.YthlhjahhjoclfaaCd7
namespace Go.Proofs.Ythlhjahhjoclfaa
set_option maxRecDepth 100000
open Go.RowKit
theorem chain1_clo (base : Nat) (b cb pb : Nat) (p : Po) (hp : PoOk p) : Clo base b cb pb p 75 2 (fun s => s.chain1 p) := fun n w s hn hcb hpb h => chain1_any base n w b cb pb s p hp (by omega) hcb hpb h
theorem chain1_enters : ∀ (args : Array Value) (w : World), (callFunc 75 args).run Try.prog w = .ok (.enter 75 args) w := fun _ _ => by kernel_rfl

theorem descend1_clo (base : Nat) (b cb pb : Nat) (p : Po) (hp : PoOk p) : Clo base b cb pb p 76 9 (fun s => s.descend1 p) := fun n w s hn hcb hpb h => descend1_any base n w b cb pb s p hp (by omega) hcb hpb h
theorem descend1_enters : ∀ (args : Array Value) (w : World), (callFunc 76 args).run Try.prog w = .ok (.enter 76 args) w := fun _ _ => by kernel_rfl

theorem hput1_clo (base : Nat) (b cb pb : Nat) (p : Po) (hp : PoOk p) : Clo base b cb pb p 52 1 (fun s => s.hput1 p) := fun n w s hn hcb hpb h => hput1_any base n w b cb pb s p hp (by omega) hcb hpb h
theorem hput1_enters : ∀ (args : Array Value) (w : World), (callFunc 52 args).run Try.prog w = .ok (.enter 52 args) w := fun _ _ => by kernel_rfl

theorem hcut1_clo (base : Nat) (b cb pb : Nat) (p : Po) (hp : PoOk p) : Clo base b cb pb p 55 2 (fun s => s.hcut1 p) := fun n w s hn hcb hpb h => hcut1_any base n w b cb pb s p hp (by omega) hcb hpb h
theorem hcut1_enters : ∀ (args : Array Value) (w : World), (callFunc 55 args).run Try.prog w = .ok (.enter 55 args) w := fun _ _ => by kernel_rfl

theorem tput1_clo (base : Nat) (b cb pb : Nat) (p : Po) (hp : PoOk p) : Clo base b cb pb p 58 2 (fun s => s.tput1 p) := fun n w s hn hcb hpb h => tput1_any base n w b cb pb s p hp (by omega) hcb hpb h
theorem tput1_enters : ∀ (args : Array Value) (w : World), (callFunc 58 args).run Try.prog w = .ok (.enter 58 args) w := fun _ _ => by kernel_rfl

theorem tcut1_clo (base : Nat) (b cb pb : Nat) (p : Po) (hp : PoOk p) : Clo base b cb pb p 63 31 (fun s => s.tcut1 p) := fun n w s hn hcb hpb h => tcut1_any base n w b cb pb s p hp (by omega) hcb hpb h
theorem tcut1_enters : ∀ (args : Array Value) (w : World), (callFunc 63 args).run Try.prog w = .ok (.enter 63 args) w := fun _ _ => by kernel_rfl

set_option maxHeartbeats 2000000 in
theorem chain_any (base n : Nat) (w : World) (b : Nat) (s : St) (p : Po) (k : Int) (hp : PoOk p) (hn : n ≤ 2000) (hk1 : 1 ≤ k) (hk2 : k ≤ 64) (h : CodeAt base n w b s) :
    Calls Try.prog 69 #[.pointer (some ⟨b, 0, none⟩), .agg #[.int .i64 p.fresh, .int .i64 p.free, .int .i64 p.nodes, .int .i64 p.each, .int .i64 p.next, .int .i64 p.cap], .int .i64 k] w (CPost base (n + 20) w b (s.chain p k)) := by
  have HC := Lib.hid (h.chg (((Chg.refl [] w).alloc (.cells #[.pointer (some ⟨b, 0, none⟩)] 72)).alloc (.cells #[.int .i64 p.fresh, .int .i64 p.free, .int .i64 p.nodes, .int .i64 p.each, .int .i64 p.next, .int .i64 p.cap] 82)))
  have HB : Hid (Blk ((w.alloc (.cells #[.pointer (some ⟨b, 0, none⟩)] 72)).alloc (.cells #[.int .i64 p.fresh, .int .i64 p.free, .int .i64 p.nodes, .int .i64 p.each, .int .i64 p.next, .int .i64 p.cap] 82)) (w.heap.size + 1) [.int .i64 p.fresh, .int .i64 p.free, .int .i64 p.nodes, .int .i64 p.each, .int .i64 p.next, .int .i64 p.cap] 82) := Lib.hid (by have := Blk.new (w.alloc (.cells #[.pointer (some ⟨b, 0, none⟩)] 72)) [.int .i64 p.fresh, .int .i64 p.free, .int .i64 p.nodes, .int .i64 p.each, .int .i64 p.next, .int .i64 p.cap] 82; simpa using this)
  have HD := Lib.hid ((Blk.new w [.pointer (some ⟨b, 0, none⟩)] 72).alloc (.cells #[.int .i64 p.fresh, .int .i64 p.free, .int .i64 p.nodes, .int .i64 p.each, .int .i64 p.next, .int .i64 p.cap] 82))
  have HK := Lib.hid (((Kp.refl base w).alloc (.cells #[.pointer (some ⟨b, 0, none⟩)] 72)).alloc (.cells #[.int .i64 p.fresh, .int .i64 p.free, .int .i64 p.nodes, .int .i64 p.each, .int .i64 p.next, .int .i64 p.cap] 82))
  have hmf : ∀ (fn : Fn) (first cap : Array Value) (w : World), (Instr.makeFunc fn first cap).run Try.prog w = .ok (.func fn first cap) w := fun _ _ _ _ => rfl
  have hfr0 := hp.f0
  have hfr1 := hp.f1
  clear h
  have d0 : ((w.alloc (.cells #[.pointer (some ⟨b, 0, none⟩)] 72)).alloc (.cells #[.int .i64 p.fresh, .int .i64 p.free, .int .i64 p.nodes, .int .i64 p.each, .int .i64 p.next, .int .i64 p.cap] 82)).cell? ⟨w.heap.size, 0, none⟩ = some (.pointer (some ⟨b, 0, none⟩)) := HD.out.cell 0
  have q0 : ((w.alloc (.cells #[.pointer (some ⟨b, 0, none⟩)] 72)).alloc (.cells #[.int .i64 p.fresh, .int .i64 p.free, .int .i64 p.nodes, .int .i64 p.each, .int .i64 p.next, .int .i64 p.cap] 82)).cell? ⟨w.heap.size + 1, 0, none⟩ = some (.int .i64 p.fresh) := HB.out.cell 0
  have q1 : ((w.alloc (.cells #[.pointer (some ⟨b, 0, none⟩)] 72)).alloc (.cells #[.int .i64 p.fresh, .int .i64 p.free, .int .i64 p.nodes, .int .i64 p.each, .int .i64 p.next, .int .i64 p.cap] 82)).cell? ⟨w.heap.size + 1, 1, none⟩ = some (.int .i64 p.free) := HB.out.cell 1
  have q2 : ((w.alloc (.cells #[.pointer (some ⟨b, 0, none⟩)] 72)).alloc (.cells #[.int .i64 p.fresh, .int .i64 p.free, .int .i64 p.nodes, .int .i64 p.each, .int .i64 p.next, .int .i64 p.cap] 82)).cell? ⟨w.heap.size + 1, 2, none⟩ = some (.int .i64 p.nodes) := HB.out.cell 2
  have q3 : ((w.alloc (.cells #[.pointer (some ⟨b, 0, none⟩)] 72)).alloc (.cells #[.int .i64 p.fresh, .int .i64 p.free, .int .i64 p.nodes, .int .i64 p.each, .int .i64 p.next, .int .i64 p.cap] 82)).cell? ⟨w.heap.size + 1, 3, none⟩ = some (.int .i64 p.each) := HB.out.cell 3
  have q4 : ((w.alloc (.cells #[.pointer (some ⟨b, 0, none⟩)] 72)).alloc (.cells #[.int .i64 p.fresh, .int .i64 p.free, .int .i64 p.nodes, .int .i64 p.each, .int .i64 p.next, .int .i64 p.cap] 82)).cell? ⟨w.heap.size + 1, 4, none⟩ = some (.int .i64 p.next) := HB.out.cell 4
  have q5 : ((w.alloc (.cells #[.pointer (some ⟨b, 0, none⟩)] 72)).alloc (.cells #[.int .i64 p.fresh, .int .i64 p.free, .int .i64 p.nodes, .int .i64 p.each, .int .i64 p.next, .int .i64 p.cap] 82)).cell? ⟨w.heap.size + 1, 5, none⟩ = some (.int .i64 p.cap) := HB.out.cell 5
  go_enter Try.func69, Try.ntmps69
  go_wp2_with fail
  refine (set_any base _ _ b _ _ _ (by omega) HC.out).mono ?_
  rintro e w1 ⟨rfl, hC, hK⟩
  replace HC := Lib.hid hC
  replace HK := Lib.hid (HK.out.trans hK)
  replace HB := Lib.hid (hK.blk HB.out rfl)
  replace HD := Lib.hid (hK.blk HD.out rfl)
  clear hC hK d0 q0 q1 q2 q3 q4 q5
  have d0 : w1.cell? ⟨w.heap.size, 0, none⟩ = some (.pointer (some ⟨b, 0, none⟩)) := HD.out.cell 0
  have q0 : w1.cell? ⟨w.heap.size + 1, 0, none⟩ = some (.int .i64 p.fresh) := HB.out.cell 0
  have q1 : w1.cell? ⟨w.heap.size + 1, 1, none⟩ = some (.int .i64 p.free) := HB.out.cell 1
  have q2 : w1.cell? ⟨w.heap.size + 1, 2, none⟩ = some (.int .i64 p.nodes) := HB.out.cell 2
  have q3 : w1.cell? ⟨w.heap.size + 1, 3, none⟩ = some (.int .i64 p.each) := HB.out.cell 3
  have q4 : w1.cell? ⟨w.heap.size + 1, 4, none⟩ = some (.int .i64 p.next) := HB.out.cell 4
  have q5 : w1.cell? ⟨w.heap.size + 1, 5, none⟩ = some (.int .i64 p.cap) := HB.out.cell 5
  go_wp2_with fail
  refine (three_any base _ _ b _ _ _ _ _ (by omega) HC.out).mono ?_
  rintro e w2 ⟨rfl, hC, hK⟩
  replace HC := Lib.hid hC
  replace HK := Lib.hid (HK.out.trans hK)
  replace HB := Lib.hid (hK.blk HB.out rfl)
  replace HD := Lib.hid (hK.blk HD.out rfl)
  clear hC hK d0 q0 q1 q2 q3 q4 q5
  have d0 : w2.cell? ⟨w.heap.size, 0, none⟩ = some (.pointer (some ⟨b, 0, none⟩)) := HD.out.cell 0
  have q0 : w2.cell? ⟨w.heap.size + 1, 0, none⟩ = some (.int .i64 p.fresh) := HB.out.cell 0
  have q1 : w2.cell? ⟨w.heap.size + 1, 1, none⟩ = some (.int .i64 p.free) := HB.out.cell 1
  have q2 : w2.cell? ⟨w.heap.size + 1, 2, none⟩ = some (.int .i64 p.nodes) := HB.out.cell 2
  have q3 : w2.cell? ⟨w.heap.size + 1, 3, none⟩ = some (.int .i64 p.each) := HB.out.cell 3
  have q4 : w2.cell? ⟨w.heap.size + 1, 4, none⟩ = some (.int .i64 p.next) := HB.out.cell 4
  have q5 : w2.cell? ⟨w.heap.size + 1, 5, none⟩ = some (.int .i64 p.cap) := HB.out.cell 5
  go_wp2_with fail
  refine (more_any base _ _ b _ _ _ _ _ (by omega) HC.out).mono ?_
  rintro e w3 ⟨rfl, hC, hK⟩
  replace HC := Lib.hid hC
  replace HK := Lib.hid (HK.out.trans hK)
  replace HB := Lib.hid (hK.blk HB.out rfl)
  replace HD := Lib.hid (hK.blk HD.out rfl)
  clear hC hK d0 q0 q1 q2 q3 q4 q5
  have d0 : w3.cell? ⟨w.heap.size, 0, none⟩ = some (.pointer (some ⟨b, 0, none⟩)) := HD.out.cell 0
  have q0 : w3.cell? ⟨w.heap.size + 1, 0, none⟩ = some (.int .i64 p.fresh) := HB.out.cell 0
  have q1 : w3.cell? ⟨w.heap.size + 1, 1, none⟩ = some (.int .i64 p.free) := HB.out.cell 1
  have q2 : w3.cell? ⟨w.heap.size + 1, 2, none⟩ = some (.int .i64 p.nodes) := HB.out.cell 2
  have q3 : w3.cell? ⟨w.heap.size + 1, 3, none⟩ = some (.int .i64 p.each) := HB.out.cell 3
  have q4 : w3.cell? ⟨w.heap.size + 1, 4, none⟩ = some (.int .i64 p.next) := HB.out.cell 4
  have q5 : w3.cell? ⟨w.heap.size + 1, 5, none⟩ = some (.int .i64 p.cap) := HB.out.cell 5
  go_wp2_with fail
  refine (search_any base _ _ b _ p hp (by omega) _ _ _ chain1_enters 2 _ (by decide) (chain1_clo base b _ _ p hp) HD.out HB.out HC.out).mono ?_
  rintro e w4 ⟨rfl, hC, hK⟩
  replace HC := Lib.hid hC
  replace HK := Lib.hid (HK.out.trans hK)
  replace HB := Lib.hid (hK.blk HB.out rfl)
  replace HD := Lib.hid (hK.blk HD.out rfl)
  clear hC hK d0 q0 q1 q2 q3 q4 q5
  have d0 : w4.cell? ⟨w.heap.size, 0, none⟩ = some (.pointer (some ⟨b, 0, none⟩)) := HD.out.cell 0
  have q0 : w4.cell? ⟨w.heap.size + 1, 0, none⟩ = some (.int .i64 p.fresh) := HB.out.cell 0
  have q1 : w4.cell? ⟨w.heap.size + 1, 1, none⟩ = some (.int .i64 p.free) := HB.out.cell 1
  have q2 : w4.cell? ⟨w.heap.size + 1, 2, none⟩ = some (.int .i64 p.nodes) := HB.out.cell 2
  have q3 : w4.cell? ⟨w.heap.size + 1, 3, none⟩ = some (.int .i64 p.each) := HB.out.cell 3
  have q4 : w4.cell? ⟨w.heap.size + 1, 4, none⟩ = some (.int .i64 p.next) := HB.out.cell 4
  have q5 : w4.cell? ⟨w.heap.size + 1, 5, none⟩ = some (.int .i64 p.cap) := HB.out.cell 5
  go_wp2_with fail
  go_end0
  exact ⟨rfl, HC.out.mono (by omega), HK.out⟩

set_option maxHeartbeats 2000000 in
theorem descend_any (base n : Nat) (w : World) (b : Nat) (s : St) (p : Po) (k : Int) (hp : PoOk p) (hn : n ≤ 2000) (h : CodeAt base n w b s) :
    Calls Try.prog 72 #[.pointer (some ⟨b, 0, none⟩), .agg #[.int .i64 p.fresh, .int .i64 p.free, .int .i64 p.nodes, .int .i64 p.each, .int .i64 p.next, .int .i64 p.cap], .int .i64 k] w (CPost base (n + 20) w b (s.descend p k)) := by
  have HC := Lib.hid (h.chg (((Chg.refl [] w).alloc (.cells #[.pointer (some ⟨b, 0, none⟩)] 72)).alloc (.cells #[.int .i64 p.fresh, .int .i64 p.free, .int .i64 p.nodes, .int .i64 p.each, .int .i64 p.next, .int .i64 p.cap] 82)))
  have HB : Hid (Blk ((w.alloc (.cells #[.pointer (some ⟨b, 0, none⟩)] 72)).alloc (.cells #[.int .i64 p.fresh, .int .i64 p.free, .int .i64 p.nodes, .int .i64 p.each, .int .i64 p.next, .int .i64 p.cap] 82)) (w.heap.size + 1) [.int .i64 p.fresh, .int .i64 p.free, .int .i64 p.nodes, .int .i64 p.each, .int .i64 p.next, .int .i64 p.cap] 82) := Lib.hid (by have := Blk.new (w.alloc (.cells #[.pointer (some ⟨b, 0, none⟩)] 72)) [.int .i64 p.fresh, .int .i64 p.free, .int .i64 p.nodes, .int .i64 p.each, .int .i64 p.next, .int .i64 p.cap] 82; simpa using this)
  have HD := Lib.hid ((Blk.new w [.pointer (some ⟨b, 0, none⟩)] 72).alloc (.cells #[.int .i64 p.fresh, .int .i64 p.free, .int .i64 p.nodes, .int .i64 p.each, .int .i64 p.next, .int .i64 p.cap] 82))
  have HK := Lib.hid (((Kp.refl base w).alloc (.cells #[.pointer (some ⟨b, 0, none⟩)] 72)).alloc (.cells #[.int .i64 p.fresh, .int .i64 p.free, .int .i64 p.nodes, .int .i64 p.each, .int .i64 p.next, .int .i64 p.cap] 82))
  have hmf : ∀ (fn : Fn) (first cap : Array Value) (w : World), (Instr.makeFunc fn first cap).run Try.prog w = .ok (.func fn first cap) w := fun _ _ _ _ => rfl
  have hfr0 := hp.f0
  have hfr1 := hp.f1
  clear h
  have d0 : ((w.alloc (.cells #[.pointer (some ⟨b, 0, none⟩)] 72)).alloc (.cells #[.int .i64 p.fresh, .int .i64 p.free, .int .i64 p.nodes, .int .i64 p.each, .int .i64 p.next, .int .i64 p.cap] 82)).cell? ⟨w.heap.size, 0, none⟩ = some (.pointer (some ⟨b, 0, none⟩)) := HD.out.cell 0
  have q0 : ((w.alloc (.cells #[.pointer (some ⟨b, 0, none⟩)] 72)).alloc (.cells #[.int .i64 p.fresh, .int .i64 p.free, .int .i64 p.nodes, .int .i64 p.each, .int .i64 p.next, .int .i64 p.cap] 82)).cell? ⟨w.heap.size + 1, 0, none⟩ = some (.int .i64 p.fresh) := HB.out.cell 0
  have q1 : ((w.alloc (.cells #[.pointer (some ⟨b, 0, none⟩)] 72)).alloc (.cells #[.int .i64 p.fresh, .int .i64 p.free, .int .i64 p.nodes, .int .i64 p.each, .int .i64 p.next, .int .i64 p.cap] 82)).cell? ⟨w.heap.size + 1, 1, none⟩ = some (.int .i64 p.free) := HB.out.cell 1
  have q2 : ((w.alloc (.cells #[.pointer (some ⟨b, 0, none⟩)] 72)).alloc (.cells #[.int .i64 p.fresh, .int .i64 p.free, .int .i64 p.nodes, .int .i64 p.each, .int .i64 p.next, .int .i64 p.cap] 82)).cell? ⟨w.heap.size + 1, 2, none⟩ = some (.int .i64 p.nodes) := HB.out.cell 2
  have q3 : ((w.alloc (.cells #[.pointer (some ⟨b, 0, none⟩)] 72)).alloc (.cells #[.int .i64 p.fresh, .int .i64 p.free, .int .i64 p.nodes, .int .i64 p.each, .int .i64 p.next, .int .i64 p.cap] 82)).cell? ⟨w.heap.size + 1, 3, none⟩ = some (.int .i64 p.each) := HB.out.cell 3
  have q4 : ((w.alloc (.cells #[.pointer (some ⟨b, 0, none⟩)] 72)).alloc (.cells #[.int .i64 p.fresh, .int .i64 p.free, .int .i64 p.nodes, .int .i64 p.each, .int .i64 p.next, .int .i64 p.cap] 82)).cell? ⟨w.heap.size + 1, 4, none⟩ = some (.int .i64 p.next) := HB.out.cell 4
  have q5 : ((w.alloc (.cells #[.pointer (some ⟨b, 0, none⟩)] 72)).alloc (.cells #[.int .i64 p.fresh, .int .i64 p.free, .int .i64 p.nodes, .int .i64 p.each, .int .i64 p.next, .int .i64 p.cap] 82)).cell? ⟨w.heap.size + 1, 5, none⟩ = some (.int .i64 p.cap) := HB.out.cell 5
  go_enter Try.func72, Try.ntmps72
  go_wp2_with fail
  refine (set_any base _ _ b _ _ _ (by omega) HC.out).mono ?_
  rintro e w1 ⟨rfl, hC, hK⟩
  replace HC := Lib.hid hC
  replace HK := Lib.hid (HK.out.trans hK)
  replace HB := Lib.hid (hK.blk HB.out rfl)
  replace HD := Lib.hid (hK.blk HD.out rfl)
  clear hC hK d0 q0 q1 q2 q3 q4 q5
  have d0 : w1.cell? ⟨w.heap.size, 0, none⟩ = some (.pointer (some ⟨b, 0, none⟩)) := HD.out.cell 0
  have q0 : w1.cell? ⟨w.heap.size + 1, 0, none⟩ = some (.int .i64 p.fresh) := HB.out.cell 0
  have q1 : w1.cell? ⟨w.heap.size + 1, 1, none⟩ = some (.int .i64 p.free) := HB.out.cell 1
  have q2 : w1.cell? ⟨w.heap.size + 1, 2, none⟩ = some (.int .i64 p.nodes) := HB.out.cell 2
  have q3 : w1.cell? ⟨w.heap.size + 1, 3, none⟩ = some (.int .i64 p.each) := HB.out.cell 3
  have q4 : w1.cell? ⟨w.heap.size + 1, 4, none⟩ = some (.int .i64 p.next) := HB.out.cell 4
  have q5 : w1.cell? ⟨w.heap.size + 1, 5, none⟩ = some (.int .i64 p.cap) := HB.out.cell 5
  go_wp2_with fail
  refine (search_any base _ _ b _ p hp (by omega) _ _ _ descend1_enters 9 _ (by decide) (descend1_clo base b _ _ p hp) HD.out HB.out HC.out).mono ?_
  rintro e w2 ⟨rfl, hC, hK⟩
  replace HC := Lib.hid hC
  replace HK := Lib.hid (HK.out.trans hK)
  replace HB := Lib.hid (hK.blk HB.out rfl)
  replace HD := Lib.hid (hK.blk HD.out rfl)
  clear hC hK d0 q0 q1 q2 q3 q4 q5
  have d0 : w2.cell? ⟨w.heap.size, 0, none⟩ = some (.pointer (some ⟨b, 0, none⟩)) := HD.out.cell 0
  have q0 : w2.cell? ⟨w.heap.size + 1, 0, none⟩ = some (.int .i64 p.fresh) := HB.out.cell 0
  have q1 : w2.cell? ⟨w.heap.size + 1, 1, none⟩ = some (.int .i64 p.free) := HB.out.cell 1
  have q2 : w2.cell? ⟨w.heap.size + 1, 2, none⟩ = some (.int .i64 p.nodes) := HB.out.cell 2
  have q3 : w2.cell? ⟨w.heap.size + 1, 3, none⟩ = some (.int .i64 p.each) := HB.out.cell 3
  have q4 : w2.cell? ⟨w.heap.size + 1, 4, none⟩ = some (.int .i64 p.next) := HB.out.cell 4
  have q5 : w2.cell? ⟨w.heap.size + 1, 5, none⟩ = some (.int .i64 p.cap) := HB.out.cell 5
  go_wp2_with fail
  go_end0
  exact ⟨rfl, HC.out.mono (by omega), HK.out⟩

end Go.Proofs.Ythlhjahhjoclfaa
