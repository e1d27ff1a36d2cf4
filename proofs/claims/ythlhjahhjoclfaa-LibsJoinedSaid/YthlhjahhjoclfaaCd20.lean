/- The document's Do: load to end. -/
import Derived.Test.YthlhjahhjoclfaaCd18
namespace Go.Proofs.Ythlhjahhjoclfaa
set_option maxRecDepth 100000
open Go.RowKit

set_option maxHeartbeats 2000000 in
theorem Do_11 (w : World) (an bn cn : Nat) (i pc x y z : Int) (r0 r1 r2 r3 r4 r5 r6 r7 : Int) (a1 : an < 8) (b1 : bn < 8) (c1 : cn < 8) (p0 : 0 ≤ pc) (p1 : pc < 1024) (hx : rg [r0, r1, r2, r3, r4, r5, r6, r7] an = x) (hy : rg [r0, r1, r2, r3, r4, r5, r6, r7] bn = y) (hz : rg [r0, r1, r2, r3, r4, r5, r6, r7] cn = z) :
    Calls Try.prog 64 #[.agg #[.int .i64 11, .int .i64 an, .int .i64 bn, .int .i64 cn, .int .i64 i], .agg #[.int .u64 r0, .int .u64 r1, .int .u64 r2, .int .u64 r3, .int .u64 r4, .int .u64 r5, .int .u64 r6, .int .u64 r7], .int .i64 pc] w fun e w' => e = .returned (.agg #[.int .i64 (3), .int .i64 (pc + 1), .int .i64 (an), .int .u64 (0), .int .u64 (IntKind.u64.wrap (y + IntKind.u64.wrap i))]) ∧ Chg [] w w' := by
  have HI := Lib.hid (((Blk.new w [.int .i64 11, .int .i64 an, .int .i64 bn, .int .i64 cn, .int .i64 i] 25).alloc (.cells #[.int .u64 r0, .int .u64 r1, .int .u64 r2, .int .u64 r3, .int .u64 r4, .int .u64 r5, .int .u64 r6, .int .u64 r7] 63)).alloc (.cells #[.int .i64 0, .int .i64 0, .int .i64 0, .int .u64 0, .int .u64 0] 91))
  have HR : Hid (Blk (((w.alloc (.cells #[.int .i64 11, .int .i64 an, .int .i64 bn, .int .i64 cn, .int .i64 i] 25)).alloc (.cells #[.int .u64 r0, .int .u64 r1, .int .u64 r2, .int .u64 r3, .int .u64 r4, .int .u64 r5, .int .u64 r6, .int .u64 r7] 63)).alloc (.cells #[.int .i64 0, .int .i64 0, .int .i64 0, .int .u64 0, .int .u64 0] 91)) (w.heap.size + 1) [.int .u64 r0, .int .u64 r1, .int .u64 r2, .int .u64 r3, .int .u64 r4, .int .u64 r5, .int .u64 r6, .int .u64 r7] 63) := Lib.hid (by
    have := (Blk.new (w.alloc (.cells #[.int .i64 11, .int .i64 an, .int .i64 bn, .int .i64 cn, .int .i64 i] 25)) [.int .u64 r0, .int .u64 r1, .int .u64 r2, .int .u64 r3, .int .u64 r4, .int .u64 r5, .int .u64 r6, .int .u64 r7] 63).alloc (.cells #[.int .i64 0, .int .i64 0, .int .i64 0, .int .u64 0, .int .u64 0] 91); simpa using this)
  have HE : Hid (Blk (((w.alloc (.cells #[.int .i64 11, .int .i64 an, .int .i64 bn, .int .i64 cn, .int .i64 i] 25)).alloc (.cells #[.int .u64 r0, .int .u64 r1, .int .u64 r2, .int .u64 r3, .int .u64 r4, .int .u64 r5, .int .u64 r6, .int .u64 r7] 63)).alloc (.cells #[.int .i64 0, .int .i64 0, .int .i64 0, .int .u64 0, .int .u64 0] 91)) (w.heap.size + 1 + 1) [.int .i64 0, .int .i64 0, .int .i64 0, .int .u64 0, .int .u64 0] 91) := Lib.hid (by
    have := Blk.new ((w.alloc (.cells #[.int .i64 11, .int .i64 an, .int .i64 bn, .int .i64 cn, .int .i64 i] 25)).alloc (.cells #[.int .u64 r0, .int .u64 r1, .int .u64 r2, .int .u64 r3, .int .u64 r4, .int .u64 r5, .int .u64 r6, .int .u64 r7] 63)) [.int .i64 0, .int .i64 0, .int .i64 0, .int .u64 0, .int .u64 0] 91; simpa using this)
  have HC := Lib.hid ((((Chg.refl [] w).alloc (.cells #[.int .i64 11, .int .i64 an, .int .i64 bn, .int .i64 cn, .int .i64 i] 25)).alloc (.cells #[.int .u64 r0, .int .u64 r1, .int .u64 r2, .int .u64 r3, .int .u64 r4, .int .u64 r5, .int .u64 r6, .int .u64 r7] 63)).alloc (.cells #[.int .i64 0, .int .i64 0, .int .i64 0, .int .u64 0, .int .u64 0] 91))
  have HXYZ := And.intro (Lib.hid hx) (And.intro (Lib.hid hy) (Lib.hid hz))
  clear hx hy hz
  have hi0 : (((w.alloc (.cells #[.int .i64 11, .int .i64 an, .int .i64 bn, .int .i64 cn, .int .i64 i] 25)).alloc (.cells #[.int .u64 r0, .int .u64 r1, .int .u64 r2, .int .u64 r3, .int .u64 r4, .int .u64 r5, .int .u64 r6, .int .u64 r7] 63)).alloc (.cells #[.int .i64 0, .int .i64 0, .int .i64 0, .int .u64 0, .int .u64 0] 91)).cell? ⟨w.heap.size, 0, none⟩ = some (.int .i64 11) := HI.out.cell 0
  go_enter Try.func64, Try.ntmps64
  go_wp2_with fail
  refine (ShapeOf_11 _).mono ?_
  rintro e w1 ⟨s, rfl, hx⟩
  replace HI := Lib.hid ((hx.blk HI.out (by simp)).alloc (.cells #[.string s, .bool true, .bool true, .bool false, .bool true] 95))
  replace HR := Lib.hid ((hx.blk HR.out (by simp)).alloc (.cells #[.string s, .bool true, .bool true, .bool false, .bool true] 95))
  replace HE := Lib.hid ((hx.blk HE.out (by simp)).alloc (.cells #[.string s, .bool true, .bool true, .bool false, .bool true] 95))
  have HS := Lib.hid (Blk.new w1 [.string s, .bool true, .bool true, .bool false, .bool true] 95)
  replace HC := Lib.hid ((HC.out.trans hx).alloc (.cells #[.string s, .bool true, .bool true, .bool false, .bool true] 95))
  clear hx hi0
  have j0 : (w1.alloc (.cells #[.string s, .bool true, .bool true, .bool false, .bool true] 95)).cell? ⟨w.heap.size, 0, none⟩ = some (.int .i64 11) := HI.out.cell 0
  have j1 : (w1.alloc (.cells #[.string s, .bool true, .bool true, .bool false, .bool true] 95)).cell? ⟨w.heap.size, 1, none⟩ = some (.int .i64 an) := HI.out.cell 1
  have j2 : (w1.alloc (.cells #[.string s, .bool true, .bool true, .bool false, .bool true] 95)).cell? ⟨w.heap.size, 2, none⟩ = some (.int .i64 bn) := HI.out.cell 2
  have j3 : (w1.alloc (.cells #[.string s, .bool true, .bool true, .bool false, .bool true] 95)).cell? ⟨w.heap.size, 3, none⟩ = some (.int .i64 cn) := HI.out.cell 3
  have j4 : (w1.alloc (.cells #[.string s, .bool true, .bool true, .bool false, .bool true] 95)).cell? ⟨w.heap.size, 4, none⟩ = some (.int .i64 i) := HI.out.cell 4
  have jl : w.heap.size < (w1.alloc (.cells #[.string s, .bool true, .bool true, .bool false, .bool true] 95)).heap.size := HI.out.lt
  go_wp2_with fail
  refine (Legal_11 _ an bn cn i (by omega) (by omega) (by omega) (by omega) (by omega) (by omega)).mono ?_
  rintro e w2 ⟨rfl, hx⟩
  replace HI := Lib.hid (hx.blk HI.out (by simp))
  replace HR := Lib.hid (hx.blk HR.out (by simp))
  replace HE := Lib.hid (hx.blk HE.out (by simp))
  replace HS := Lib.hid (hx.blk HS.out (by simp))
  replace HC := Lib.hid (HC.out.trans hx)
  clear hx j0 j1 j2 j3 j4 jl
  have j0 : w2.cell? ⟨w.heap.size, 0, none⟩ = some (.int .i64 11) := HI.out.cell 0
  have j1 : w2.cell? ⟨w.heap.size, 1, none⟩ = some (.int .i64 an) := HI.out.cell 1
  have j2 : w2.cell? ⟨w.heap.size, 2, none⟩ = some (.int .i64 bn) := HI.out.cell 2
  have j3 : w2.cell? ⟨w.heap.size, 3, none⟩ = some (.int .i64 cn) := HI.out.cell 3
  have j4 : w2.cell? ⟨w.heap.size, 4, none⟩ = some (.int .i64 i) := HI.out.cell 4
  have m0 : w2.cell? ⟨w.heap.size + 1, an, none⟩ = some (.int .u64 x) := (reg_cell HR.out (by assumption)).trans (by rw [HXYZ.1.out])
  have m1 : w2.cell? ⟨w.heap.size + 1, bn, none⟩ = some (.int .u64 y) := (reg_cell HR.out (by assumption)).trans (by rw [HXYZ.2.1.out])
  have m2 : w2.cell? ⟨w.heap.size + 1, cn, none⟩ = some (.int .u64 z) := (reg_cell HR.out (by assumption)).trans (by rw [HXYZ.2.2.out])
  have n0 : w2.cell? ⟨w.heap.size + 1 + 1, 0, none⟩ = some (.int .i64 0) := HE.out.cell 0
  have f0 : w2.frozen? ⟨w.heap.size + 1 + 1, 0, none⟩ = false := HE.out.free 0
  have n1 : w2.cell? ⟨w.heap.size + 1 + 1, 1, none⟩ = some (.int .i64 0) := HE.out.cell 1
  have f1 : w2.frozen? ⟨w.heap.size + 1 + 1, 1, none⟩ = false := HE.out.free 1
  have n2 : w2.cell? ⟨w.heap.size + 1 + 1, 2, none⟩ = some (.int .i64 0) := HE.out.cell 2
  have f2 : w2.frozen? ⟨w.heap.size + 1 + 1, 2, none⟩ = false := HE.out.free 2
  have n3 : w2.cell? ⟨w.heap.size + 1 + 1, 3, none⟩ = some (.int .u64 0) := HE.out.cell 3
  have f3 : w2.frozen? ⟨w.heap.size + 1 + 1, 3, none⟩ = false := HE.out.free 3
  have n4 : w2.cell? ⟨w.heap.size + 1 + 1, 4, none⟩ = some (.int .u64 0) := HE.out.cell 4
  have f4 : w2.frozen? ⟨w.heap.size + 1 + 1, 4, none⟩ = false := HE.out.free 4
  have s0 : w2.cell? ⟨w1.heap.size, 1, none⟩ = some (.bool true) := HS.out.cell 1
  have s1 : w2.cell? ⟨w1.heap.size, 2, none⟩ = some (.bool true) := HS.out.cell 2
  have s2 : w2.cell? ⟨w1.heap.size, 3, none⟩ = some (.bool false) := HS.out.cell 3
  have l0 : w.heap.size < w2.heap.size := HI.out.lt
  have l1 : w.heap.size + 1 < w2.heap.size := HR.out.lt
  have l2 : w.heap.size + 1 + 1 < w2.heap.size := HE.out.lt
  have l3 : w1.heap.size < w2.heap.size := HS.out.lt
  have t0 := HE.out
  have t1 := t0.set 0 (.int .i64 (3))
  have c0 : (w2.setCell ⟨w.heap.size + 1 + 1, 0, none⟩ (.int .i64 (3))).cell? ⟨w.heap.size + 1 + 1, 0, none⟩ = some (.int .i64 (3)) := t1.cell 0
  have t2 := t1.set 1 (.int .i64 (pc + 1))
  have c1 : ((w2.setCell ⟨w.heap.size + 1 + 1, 0, none⟩ (.int .i64 (3))).setCell ⟨w.heap.size + 1 + 1, 1, none⟩ (.int .i64 (pc + 1))).cell? ⟨w.heap.size + 1 + 1, 1, none⟩ = some (.int .i64 (pc + 1)) := t2.cell 1
  have t3 := t2.set 2 (.int .i64 (an))
  have c2 : (((w2.setCell ⟨w.heap.size + 1 + 1, 0, none⟩ (.int .i64 (3))).setCell ⟨w.heap.size + 1 + 1, 1, none⟩ (.int .i64 (pc + 1))).setCell ⟨w.heap.size + 1 + 1, 2, none⟩ (.int .i64 (an))).cell? ⟨w.heap.size + 1 + 1, 2, none⟩ = some (.int .i64 (an)) := t3.cell 2
  have t4 := t3.set 3 (.int .u64 (0))
  have c3 : ((((w2.setCell ⟨w.heap.size + 1 + 1, 0, none⟩ (.int .i64 (3))).setCell ⟨w.heap.size + 1 + 1, 1, none⟩ (.int .i64 (pc + 1))).setCell ⟨w.heap.size + 1 + 1, 2, none⟩ (.int .i64 (an))).setCell ⟨w.heap.size + 1 + 1, 3, none⟩ (.int .u64 (0))).cell? ⟨w.heap.size + 1 + 1, 3, none⟩ = some (.int .u64 (0)) := t4.cell 3
  have t5 := t4.set 4 (.int .u64 (IntKind.u64.wrap (y + IntKind.u64.wrap i)))
  have c4 : (((((w2.setCell ⟨w.heap.size + 1 + 1, 0, none⟩ (.int .i64 (3))).setCell ⟨w.heap.size + 1 + 1, 1, none⟩ (.int .i64 (pc + 1))).setCell ⟨w.heap.size + 1 + 1, 2, none⟩ (.int .i64 (an))).setCell ⟨w.heap.size + 1 + 1, 3, none⟩ (.int .u64 (0))).setCell ⟨w.heap.size + 1 + 1, 4, none⟩ (.int .u64 (IntKind.u64.wrap (y + IntKind.u64.wrap i)))).cell? ⟨w.heap.size + 1 + 1, 4, none⟩ = some (.int .u64 (IntKind.u64.wrap (y + IntKind.u64.wrap i))) := t5.cell 4
  have HF := And.intro (Lib.hid c0) (And.intro (Lib.hid c1) (And.intro (Lib.hid c2) (And.intro (Lib.hid c3) (Lib.hid c4))))
  clear t0 t1 t2 t3 t4 t5 c0 c1 c2 c3 c4
  go_wp2_with fail
  refine bodyPost_ret (v := .agg #[.int .i64 (3), .int .i64 (pc + 1), .int .i64 (an), .int .u64 (0), .int .u64 (IntKind.u64.wrap (y + IntKind.u64.wrap i))]) ?_ rfl ⟨rfl, ?_⟩
  · simp [results, Try.results64, go_sem, HF.1.out, HF.2.1.out, HF.2.2.1.out, HF.2.2.2.1.out, HF.2.2.2.2.out, l2]
  · have h2 := HC.out
    have hb2 : ¬ w.heap.size + 1 + 1 < w.heap.size := by omega
    repeat (first | with_reducible exact h2 | with_reducible refine Chg.setCell ?_ (fun h => absurd h hb2) _ | with_reducible refine Chg.alloc ?_ _)

set_option maxHeartbeats 2000000 in
theorem Do_12 (w : World) (an bn cn : Nat) (i pc x y z : Int) (r0 r1 r2 r3 r4 r5 r6 r7 : Int) (a1 : an < 8) (b1 : bn < 8) (c1 : cn < 8) (p0 : 0 ≤ pc) (p1 : pc < 1024) (hx : rg [r0, r1, r2, r3, r4, r5, r6, r7] an = x) (hy : rg [r0, r1, r2, r3, r4, r5, r6, r7] bn = y) (hz : rg [r0, r1, r2, r3, r4, r5, r6, r7] cn = z) :
    Calls Try.prog 64 #[.agg #[.int .i64 12, .int .i64 an, .int .i64 bn, .int .i64 cn, .int .i64 i], .agg #[.int .u64 r0, .int .u64 r1, .int .u64 r2, .int .u64 r3, .int .u64 r4, .int .u64 r5, .int .u64 r6, .int .u64 r7], .int .i64 pc] w fun e w' => e = .returned (.agg #[.int .i64 (4), .int .i64 (pc + 1), .int .i64 (0), .int .u64 (x), .int .u64 (IntKind.u64.wrap (y + IntKind.u64.wrap i))]) ∧ Chg [] w w' := by
  have HI := Lib.hid (((Blk.new w [.int .i64 12, .int .i64 an, .int .i64 bn, .int .i64 cn, .int .i64 i] 25).alloc (.cells #[.int .u64 r0, .int .u64 r1, .int .u64 r2, .int .u64 r3, .int .u64 r4, .int .u64 r5, .int .u64 r6, .int .u64 r7] 63)).alloc (.cells #[.int .i64 0, .int .i64 0, .int .i64 0, .int .u64 0, .int .u64 0] 91))
  have HR : Hid (Blk (((w.alloc (.cells #[.int .i64 12, .int .i64 an, .int .i64 bn, .int .i64 cn, .int .i64 i] 25)).alloc (.cells #[.int .u64 r0, .int .u64 r1, .int .u64 r2, .int .u64 r3, .int .u64 r4, .int .u64 r5, .int .u64 r6, .int .u64 r7] 63)).alloc (.cells #[.int .i64 0, .int .i64 0, .int .i64 0, .int .u64 0, .int .u64 0] 91)) (w.heap.size + 1) [.int .u64 r0, .int .u64 r1, .int .u64 r2, .int .u64 r3, .int .u64 r4, .int .u64 r5, .int .u64 r6, .int .u64 r7] 63) := Lib.hid (by
    have := (Blk.new (w.alloc (.cells #[.int .i64 12, .int .i64 an, .int .i64 bn, .int .i64 cn, .int .i64 i] 25)) [.int .u64 r0, .int .u64 r1, .int .u64 r2, .int .u64 r3, .int .u64 r4, .int .u64 r5, .int .u64 r6, .int .u64 r7] 63).alloc (.cells #[.int .i64 0, .int .i64 0, .int .i64 0, .int .u64 0, .int .u64 0] 91); simpa using this)
  have HE : Hid (Blk (((w.alloc (.cells #[.int .i64 12, .int .i64 an, .int .i64 bn, .int .i64 cn, .int .i64 i] 25)).alloc (.cells #[.int .u64 r0, .int .u64 r1, .int .u64 r2, .int .u64 r3, .int .u64 r4, .int .u64 r5, .int .u64 r6, .int .u64 r7] 63)).alloc (.cells #[.int .i64 0, .int .i64 0, .int .i64 0, .int .u64 0, .int .u64 0] 91)) (w.heap.size + 1 + 1) [.int .i64 0, .int .i64 0, .int .i64 0, .int .u64 0, .int .u64 0] 91) := Lib.hid (by
    have := Blk.new ((w.alloc (.cells #[.int .i64 12, .int .i64 an, .int .i64 bn, .int .i64 cn, .int .i64 i] 25)).alloc (.cells #[.int .u64 r0, .int .u64 r1, .int .u64 r2, .int .u64 r3, .int .u64 r4, .int .u64 r5, .int .u64 r6, .int .u64 r7] 63)) [.int .i64 0, .int .i64 0, .int .i64 0, .int .u64 0, .int .u64 0] 91; simpa using this)
  have HC := Lib.hid ((((Chg.refl [] w).alloc (.cells #[.int .i64 12, .int .i64 an, .int .i64 bn, .int .i64 cn, .int .i64 i] 25)).alloc (.cells #[.int .u64 r0, .int .u64 r1, .int .u64 r2, .int .u64 r3, .int .u64 r4, .int .u64 r5, .int .u64 r6, .int .u64 r7] 63)).alloc (.cells #[.int .i64 0, .int .i64 0, .int .i64 0, .int .u64 0, .int .u64 0] 91))
  have HXYZ := And.intro (Lib.hid hx) (And.intro (Lib.hid hy) (Lib.hid hz))
  clear hx hy hz
  have hi0 : (((w.alloc (.cells #[.int .i64 12, .int .i64 an, .int .i64 bn, .int .i64 cn, .int .i64 i] 25)).alloc (.cells #[.int .u64 r0, .int .u64 r1, .int .u64 r2, .int .u64 r3, .int .u64 r4, .int .u64 r5, .int .u64 r6, .int .u64 r7] 63)).alloc (.cells #[.int .i64 0, .int .i64 0, .int .i64 0, .int .u64 0, .int .u64 0] 91)).cell? ⟨w.heap.size, 0, none⟩ = some (.int .i64 12) := HI.out.cell 0
  go_enter Try.func64, Try.ntmps64
  go_wp2_with fail
  refine (ShapeOf_12 _).mono ?_
  rintro e w1 ⟨s, rfl, hx⟩
  replace HI := Lib.hid ((hx.blk HI.out (by simp)).alloc (.cells #[.string s, .bool true, .bool true, .bool false, .bool true] 95))
  replace HR := Lib.hid ((hx.blk HR.out (by simp)).alloc (.cells #[.string s, .bool true, .bool true, .bool false, .bool true] 95))
  replace HE := Lib.hid ((hx.blk HE.out (by simp)).alloc (.cells #[.string s, .bool true, .bool true, .bool false, .bool true] 95))
  have HS := Lib.hid (Blk.new w1 [.string s, .bool true, .bool true, .bool false, .bool true] 95)
  replace HC := Lib.hid ((HC.out.trans hx).alloc (.cells #[.string s, .bool true, .bool true, .bool false, .bool true] 95))
  clear hx hi0
  have j0 : (w1.alloc (.cells #[.string s, .bool true, .bool true, .bool false, .bool true] 95)).cell? ⟨w.heap.size, 0, none⟩ = some (.int .i64 12) := HI.out.cell 0
  have j1 : (w1.alloc (.cells #[.string s, .bool true, .bool true, .bool false, .bool true] 95)).cell? ⟨w.heap.size, 1, none⟩ = some (.int .i64 an) := HI.out.cell 1
  have j2 : (w1.alloc (.cells #[.string s, .bool true, .bool true, .bool false, .bool true] 95)).cell? ⟨w.heap.size, 2, none⟩ = some (.int .i64 bn) := HI.out.cell 2
  have j3 : (w1.alloc (.cells #[.string s, .bool true, .bool true, .bool false, .bool true] 95)).cell? ⟨w.heap.size, 3, none⟩ = some (.int .i64 cn) := HI.out.cell 3
  have j4 : (w1.alloc (.cells #[.string s, .bool true, .bool true, .bool false, .bool true] 95)).cell? ⟨w.heap.size, 4, none⟩ = some (.int .i64 i) := HI.out.cell 4
  have jl : w.heap.size < (w1.alloc (.cells #[.string s, .bool true, .bool true, .bool false, .bool true] 95)).heap.size := HI.out.lt
  go_wp2_with fail
  refine (Legal_12 _ an bn cn i (by omega) (by omega) (by omega) (by omega) (by omega) (by omega)).mono ?_
  rintro e w2 ⟨rfl, hx⟩
  replace HI := Lib.hid (hx.blk HI.out (by simp))
  replace HR := Lib.hid (hx.blk HR.out (by simp))
  replace HE := Lib.hid (hx.blk HE.out (by simp))
  replace HS := Lib.hid (hx.blk HS.out (by simp))
  replace HC := Lib.hid (HC.out.trans hx)
  clear hx j0 j1 j2 j3 j4 jl
  have j0 : w2.cell? ⟨w.heap.size, 0, none⟩ = some (.int .i64 12) := HI.out.cell 0
  have j1 : w2.cell? ⟨w.heap.size, 1, none⟩ = some (.int .i64 an) := HI.out.cell 1
  have j2 : w2.cell? ⟨w.heap.size, 2, none⟩ = some (.int .i64 bn) := HI.out.cell 2
  have j3 : w2.cell? ⟨w.heap.size, 3, none⟩ = some (.int .i64 cn) := HI.out.cell 3
  have j4 : w2.cell? ⟨w.heap.size, 4, none⟩ = some (.int .i64 i) := HI.out.cell 4
  have m0 : w2.cell? ⟨w.heap.size + 1, an, none⟩ = some (.int .u64 x) := (reg_cell HR.out (by assumption)).trans (by rw [HXYZ.1.out])
  have m1 : w2.cell? ⟨w.heap.size + 1, bn, none⟩ = some (.int .u64 y) := (reg_cell HR.out (by assumption)).trans (by rw [HXYZ.2.1.out])
  have m2 : w2.cell? ⟨w.heap.size + 1, cn, none⟩ = some (.int .u64 z) := (reg_cell HR.out (by assumption)).trans (by rw [HXYZ.2.2.out])
  have n0 : w2.cell? ⟨w.heap.size + 1 + 1, 0, none⟩ = some (.int .i64 0) := HE.out.cell 0
  have f0 : w2.frozen? ⟨w.heap.size + 1 + 1, 0, none⟩ = false := HE.out.free 0
  have n1 : w2.cell? ⟨w.heap.size + 1 + 1, 1, none⟩ = some (.int .i64 0) := HE.out.cell 1
  have f1 : w2.frozen? ⟨w.heap.size + 1 + 1, 1, none⟩ = false := HE.out.free 1
  have n2 : w2.cell? ⟨w.heap.size + 1 + 1, 2, none⟩ = some (.int .i64 0) := HE.out.cell 2
  have f2 : w2.frozen? ⟨w.heap.size + 1 + 1, 2, none⟩ = false := HE.out.free 2
  have n3 : w2.cell? ⟨w.heap.size + 1 + 1, 3, none⟩ = some (.int .u64 0) := HE.out.cell 3
  have f3 : w2.frozen? ⟨w.heap.size + 1 + 1, 3, none⟩ = false := HE.out.free 3
  have n4 : w2.cell? ⟨w.heap.size + 1 + 1, 4, none⟩ = some (.int .u64 0) := HE.out.cell 4
  have f4 : w2.frozen? ⟨w.heap.size + 1 + 1, 4, none⟩ = false := HE.out.free 4
  have s0 : w2.cell? ⟨w1.heap.size, 1, none⟩ = some (.bool true) := HS.out.cell 1
  have s1 : w2.cell? ⟨w1.heap.size, 2, none⟩ = some (.bool true) := HS.out.cell 2
  have s2 : w2.cell? ⟨w1.heap.size, 3, none⟩ = some (.bool false) := HS.out.cell 3
  have l0 : w.heap.size < w2.heap.size := HI.out.lt
  have l1 : w.heap.size + 1 < w2.heap.size := HR.out.lt
  have l2 : w.heap.size + 1 + 1 < w2.heap.size := HE.out.lt
  have l3 : w1.heap.size < w2.heap.size := HS.out.lt
  have t0 := HE.out
  have t1 := t0.set 0 (.int .i64 (4))
  have c0 : (w2.setCell ⟨w.heap.size + 1 + 1, 0, none⟩ (.int .i64 (4))).cell? ⟨w.heap.size + 1 + 1, 0, none⟩ = some (.int .i64 (4)) := t1.cell 0
  have t2 := t1.set 1 (.int .i64 (pc + 1))
  have c1 : ((w2.setCell ⟨w.heap.size + 1 + 1, 0, none⟩ (.int .i64 (4))).setCell ⟨w.heap.size + 1 + 1, 1, none⟩ (.int .i64 (pc + 1))).cell? ⟨w.heap.size + 1 + 1, 1, none⟩ = some (.int .i64 (pc + 1)) := t2.cell 1
  have t3 := t2.set 2 (.int .i64 (0))
  have c2 : (((w2.setCell ⟨w.heap.size + 1 + 1, 0, none⟩ (.int .i64 (4))).setCell ⟨w.heap.size + 1 + 1, 1, none⟩ (.int .i64 (pc + 1))).setCell ⟨w.heap.size + 1 + 1, 2, none⟩ (.int .i64 (0))).cell? ⟨w.heap.size + 1 + 1, 2, none⟩ = some (.int .i64 (0)) := t3.cell 2
  have t4 := t3.set 3 (.int .u64 (x))
  have c3 : ((((w2.setCell ⟨w.heap.size + 1 + 1, 0, none⟩ (.int .i64 (4))).setCell ⟨w.heap.size + 1 + 1, 1, none⟩ (.int .i64 (pc + 1))).setCell ⟨w.heap.size + 1 + 1, 2, none⟩ (.int .i64 (0))).setCell ⟨w.heap.size + 1 + 1, 3, none⟩ (.int .u64 (x))).cell? ⟨w.heap.size + 1 + 1, 3, none⟩ = some (.int .u64 (x)) := t4.cell 3
  have t5 := t4.set 4 (.int .u64 (IntKind.u64.wrap (y + IntKind.u64.wrap i)))
  have c4 : (((((w2.setCell ⟨w.heap.size + 1 + 1, 0, none⟩ (.int .i64 (4))).setCell ⟨w.heap.size + 1 + 1, 1, none⟩ (.int .i64 (pc + 1))).setCell ⟨w.heap.size + 1 + 1, 2, none⟩ (.int .i64 (0))).setCell ⟨w.heap.size + 1 + 1, 3, none⟩ (.int .u64 (x))).setCell ⟨w.heap.size + 1 + 1, 4, none⟩ (.int .u64 (IntKind.u64.wrap (y + IntKind.u64.wrap i)))).cell? ⟨w.heap.size + 1 + 1, 4, none⟩ = some (.int .u64 (IntKind.u64.wrap (y + IntKind.u64.wrap i))) := t5.cell 4
  have HF := And.intro (Lib.hid c0) (And.intro (Lib.hid c1) (And.intro (Lib.hid c2) (And.intro (Lib.hid c3) (Lib.hid c4))))
  clear t0 t1 t2 t3 t4 t5 c0 c1 c2 c3 c4
  go_wp2_with fail
  refine bodyPost_ret (v := .agg #[.int .i64 (4), .int .i64 (pc + 1), .int .i64 (0), .int .u64 (x), .int .u64 (IntKind.u64.wrap (y + IntKind.u64.wrap i))]) ?_ rfl ⟨rfl, ?_⟩
  · simp [results, Try.results64, go_sem, HF.1.out, HF.2.1.out, HF.2.2.1.out, HF.2.2.2.1.out, HF.2.2.2.2.out, l2]
  · have h2 := HC.out
    have hb2 : ¬ w.heap.size + 1 + 1 < w.heap.size := by omega
    repeat (first | with_reducible exact h2 | with_reducible refine Chg.setCell ?_ (fun h => absurd h hb2) _ | with_reducible refine Chg.alloc ?_ _)

set_option maxHeartbeats 2000000 in
theorem Do_13 (w : World) (an bn cn : Nat) (i pc x y z : Int) (r0 r1 r2 r3 r4 r5 r6 r7 : Int) (a1 : an < 8) (b1 : bn < 8) (c1 : cn < 8) (p0 : 0 ≤ pc) (p1 : pc < 1024) (hx : rg [r0, r1, r2, r3, r4, r5, r6, r7] an = x) (hy : rg [r0, r1, r2, r3, r4, r5, r6, r7] bn = y) (hz : rg [r0, r1, r2, r3, r4, r5, r6, r7] cn = z) (i0 : 0 ≤ i) (i1 : i ≤ 1024) :
    Calls Try.prog 64 #[.agg #[.int .i64 13, .int .i64 an, .int .i64 bn, .int .i64 cn, .int .i64 i], .agg #[.int .u64 r0, .int .u64 r1, .int .u64 r2, .int .u64 r3, .int .u64 r4, .int .u64 r5, .int .u64 r6, .int .u64 r7], .int .i64 pc] w fun e w' => e = .returned (.agg #[.int .i64 (2), .int .i64 (i), .int .i64 (0), .int .u64 (0), .int .u64 (0)]) ∧ Chg [] w w' := by
  have HI := Lib.hid (((Blk.new w [.int .i64 13, .int .i64 an, .int .i64 bn, .int .i64 cn, .int .i64 i] 25).alloc (.cells #[.int .u64 r0, .int .u64 r1, .int .u64 r2, .int .u64 r3, .int .u64 r4, .int .u64 r5, .int .u64 r6, .int .u64 r7] 63)).alloc (.cells #[.int .i64 0, .int .i64 0, .int .i64 0, .int .u64 0, .int .u64 0] 91))
  have HR : Hid (Blk (((w.alloc (.cells #[.int .i64 13, .int .i64 an, .int .i64 bn, .int .i64 cn, .int .i64 i] 25)).alloc (.cells #[.int .u64 r0, .int .u64 r1, .int .u64 r2, .int .u64 r3, .int .u64 r4, .int .u64 r5, .int .u64 r6, .int .u64 r7] 63)).alloc (.cells #[.int .i64 0, .int .i64 0, .int .i64 0, .int .u64 0, .int .u64 0] 91)) (w.heap.size + 1) [.int .u64 r0, .int .u64 r1, .int .u64 r2, .int .u64 r3, .int .u64 r4, .int .u64 r5, .int .u64 r6, .int .u64 r7] 63) := Lib.hid (by
    have := (Blk.new (w.alloc (.cells #[.int .i64 13, .int .i64 an, .int .i64 bn, .int .i64 cn, .int .i64 i] 25)) [.int .u64 r0, .int .u64 r1, .int .u64 r2, .int .u64 r3, .int .u64 r4, .int .u64 r5, .int .u64 r6, .int .u64 r7] 63).alloc (.cells #[.int .i64 0, .int .i64 0, .int .i64 0, .int .u64 0, .int .u64 0] 91); simpa using this)
  have HE : Hid (Blk (((w.alloc (.cells #[.int .i64 13, .int .i64 an, .int .i64 bn, .int .i64 cn, .int .i64 i] 25)).alloc (.cells #[.int .u64 r0, .int .u64 r1, .int .u64 r2, .int .u64 r3, .int .u64 r4, .int .u64 r5, .int .u64 r6, .int .u64 r7] 63)).alloc (.cells #[.int .i64 0, .int .i64 0, .int .i64 0, .int .u64 0, .int .u64 0] 91)) (w.heap.size + 1 + 1) [.int .i64 0, .int .i64 0, .int .i64 0, .int .u64 0, .int .u64 0] 91) := Lib.hid (by
    have := Blk.new ((w.alloc (.cells #[.int .i64 13, .int .i64 an, .int .i64 bn, .int .i64 cn, .int .i64 i] 25)).alloc (.cells #[.int .u64 r0, .int .u64 r1, .int .u64 r2, .int .u64 r3, .int .u64 r4, .int .u64 r5, .int .u64 r6, .int .u64 r7] 63)) [.int .i64 0, .int .i64 0, .int .i64 0, .int .u64 0, .int .u64 0] 91; simpa using this)
  have HC := Lib.hid ((((Chg.refl [] w).alloc (.cells #[.int .i64 13, .int .i64 an, .int .i64 bn, .int .i64 cn, .int .i64 i] 25)).alloc (.cells #[.int .u64 r0, .int .u64 r1, .int .u64 r2, .int .u64 r3, .int .u64 r4, .int .u64 r5, .int .u64 r6, .int .u64 r7] 63)).alloc (.cells #[.int .i64 0, .int .i64 0, .int .i64 0, .int .u64 0, .int .u64 0] 91))
  have HXYZ := And.intro (Lib.hid hx) (And.intro (Lib.hid hy) (Lib.hid hz))
  clear hx hy hz
  have hi0 : (((w.alloc (.cells #[.int .i64 13, .int .i64 an, .int .i64 bn, .int .i64 cn, .int .i64 i] 25)).alloc (.cells #[.int .u64 r0, .int .u64 r1, .int .u64 r2, .int .u64 r3, .int .u64 r4, .int .u64 r5, .int .u64 r6, .int .u64 r7] 63)).alloc (.cells #[.int .i64 0, .int .i64 0, .int .i64 0, .int .u64 0, .int .u64 0] 91)).cell? ⟨w.heap.size, 0, none⟩ = some (.int .i64 13) := HI.out.cell 0
  go_enter Try.func64, Try.ntmps64
  go_wp2_with fail
  refine (ShapeOf_13 _).mono ?_
  rintro e w1 ⟨s, rfl, hx⟩
  replace HI := Lib.hid ((hx.blk HI.out (by simp)).alloc (.cells #[.string s, .bool false, .bool false, .bool false, .bool true] 95))
  replace HR := Lib.hid ((hx.blk HR.out (by simp)).alloc (.cells #[.string s, .bool false, .bool false, .bool false, .bool true] 95))
  replace HE := Lib.hid ((hx.blk HE.out (by simp)).alloc (.cells #[.string s, .bool false, .bool false, .bool false, .bool true] 95))
  have HS := Lib.hid (Blk.new w1 [.string s, .bool false, .bool false, .bool false, .bool true] 95)
  replace HC := Lib.hid ((HC.out.trans hx).alloc (.cells #[.string s, .bool false, .bool false, .bool false, .bool true] 95))
  clear hx hi0
  have j0 : (w1.alloc (.cells #[.string s, .bool false, .bool false, .bool false, .bool true] 95)).cell? ⟨w.heap.size, 0, none⟩ = some (.int .i64 13) := HI.out.cell 0
  have j1 : (w1.alloc (.cells #[.string s, .bool false, .bool false, .bool false, .bool true] 95)).cell? ⟨w.heap.size, 1, none⟩ = some (.int .i64 an) := HI.out.cell 1
  have j2 : (w1.alloc (.cells #[.string s, .bool false, .bool false, .bool false, .bool true] 95)).cell? ⟨w.heap.size, 2, none⟩ = some (.int .i64 bn) := HI.out.cell 2
  have j3 : (w1.alloc (.cells #[.string s, .bool false, .bool false, .bool false, .bool true] 95)).cell? ⟨w.heap.size, 3, none⟩ = some (.int .i64 cn) := HI.out.cell 3
  have j4 : (w1.alloc (.cells #[.string s, .bool false, .bool false, .bool false, .bool true] 95)).cell? ⟨w.heap.size, 4, none⟩ = some (.int .i64 i) := HI.out.cell 4
  have jl : w.heap.size < (w1.alloc (.cells #[.string s, .bool false, .bool false, .bool false, .bool true] 95)).heap.size := HI.out.lt
  go_wp2_with fail
  refine (Legal_13 _ an bn cn i (by omega) (by omega) (by omega) (by omega) (by omega) (by omega)).mono ?_
  rintro e w2 ⟨rfl, hx⟩
  replace HI := Lib.hid (hx.blk HI.out (by simp))
  replace HR := Lib.hid (hx.blk HR.out (by simp))
  replace HE := Lib.hid (hx.blk HE.out (by simp))
  replace HS := Lib.hid (hx.blk HS.out (by simp))
  replace HC := Lib.hid (HC.out.trans hx)
  clear hx j0 j1 j2 j3 j4 jl
  have j0 : w2.cell? ⟨w.heap.size, 0, none⟩ = some (.int .i64 13) := HI.out.cell 0
  have j1 : w2.cell? ⟨w.heap.size, 1, none⟩ = some (.int .i64 an) := HI.out.cell 1
  have j2 : w2.cell? ⟨w.heap.size, 2, none⟩ = some (.int .i64 bn) := HI.out.cell 2
  have j3 : w2.cell? ⟨w.heap.size, 3, none⟩ = some (.int .i64 cn) := HI.out.cell 3
  have j4 : w2.cell? ⟨w.heap.size, 4, none⟩ = some (.int .i64 i) := HI.out.cell 4
  have m0 : w2.cell? ⟨w.heap.size + 1, an, none⟩ = some (.int .u64 x) := (reg_cell HR.out (by assumption)).trans (by rw [HXYZ.1.out])
  have m1 : w2.cell? ⟨w.heap.size + 1, bn, none⟩ = some (.int .u64 y) := (reg_cell HR.out (by assumption)).trans (by rw [HXYZ.2.1.out])
  have m2 : w2.cell? ⟨w.heap.size + 1, cn, none⟩ = some (.int .u64 z) := (reg_cell HR.out (by assumption)).trans (by rw [HXYZ.2.2.out])
  have n0 : w2.cell? ⟨w.heap.size + 1 + 1, 0, none⟩ = some (.int .i64 0) := HE.out.cell 0
  have f0 : w2.frozen? ⟨w.heap.size + 1 + 1, 0, none⟩ = false := HE.out.free 0
  have n1 : w2.cell? ⟨w.heap.size + 1 + 1, 1, none⟩ = some (.int .i64 0) := HE.out.cell 1
  have f1 : w2.frozen? ⟨w.heap.size + 1 + 1, 1, none⟩ = false := HE.out.free 1
  have n2 : w2.cell? ⟨w.heap.size + 1 + 1, 2, none⟩ = some (.int .i64 0) := HE.out.cell 2
  have f2 : w2.frozen? ⟨w.heap.size + 1 + 1, 2, none⟩ = false := HE.out.free 2
  have n3 : w2.cell? ⟨w.heap.size + 1 + 1, 3, none⟩ = some (.int .u64 0) := HE.out.cell 3
  have f3 : w2.frozen? ⟨w.heap.size + 1 + 1, 3, none⟩ = false := HE.out.free 3
  have n4 : w2.cell? ⟨w.heap.size + 1 + 1, 4, none⟩ = some (.int .u64 0) := HE.out.cell 4
  have f4 : w2.frozen? ⟨w.heap.size + 1 + 1, 4, none⟩ = false := HE.out.free 4
  have s0 : w2.cell? ⟨w1.heap.size, 1, none⟩ = some (.bool false) := HS.out.cell 1
  have s1 : w2.cell? ⟨w1.heap.size, 2, none⟩ = some (.bool false) := HS.out.cell 2
  have s2 : w2.cell? ⟨w1.heap.size, 3, none⟩ = some (.bool false) := HS.out.cell 3
  have l0 : w.heap.size < w2.heap.size := HI.out.lt
  have l1 : w.heap.size + 1 < w2.heap.size := HR.out.lt
  have l2 : w.heap.size + 1 + 1 < w2.heap.size := HE.out.lt
  have l3 : w1.heap.size < w2.heap.size := HS.out.lt
  have t0 := HE.out
  have t1 := t0.set 0 (.int .i64 (2))
  have c0 : (w2.setCell ⟨w.heap.size + 1 + 1, 0, none⟩ (.int .i64 (2))).cell? ⟨w.heap.size + 1 + 1, 0, none⟩ = some (.int .i64 (2)) := t1.cell 0
  have t2 := t1.set 1 (.int .i64 (i))
  have c1 : ((w2.setCell ⟨w.heap.size + 1 + 1, 0, none⟩ (.int .i64 (2))).setCell ⟨w.heap.size + 1 + 1, 1, none⟩ (.int .i64 (i))).cell? ⟨w.heap.size + 1 + 1, 1, none⟩ = some (.int .i64 (i)) := t2.cell 1
  have t3 := t2.set 2 (.int .i64 (0))
  have c2 : (((w2.setCell ⟨w.heap.size + 1 + 1, 0, none⟩ (.int .i64 (2))).setCell ⟨w.heap.size + 1 + 1, 1, none⟩ (.int .i64 (i))).setCell ⟨w.heap.size + 1 + 1, 2, none⟩ (.int .i64 (0))).cell? ⟨w.heap.size + 1 + 1, 2, none⟩ = some (.int .i64 (0)) := t3.cell 2
  have t4 := t3.set 3 (.int .u64 (0))
  have c3 : ((((w2.setCell ⟨w.heap.size + 1 + 1, 0, none⟩ (.int .i64 (2))).setCell ⟨w.heap.size + 1 + 1, 1, none⟩ (.int .i64 (i))).setCell ⟨w.heap.size + 1 + 1, 2, none⟩ (.int .i64 (0))).setCell ⟨w.heap.size + 1 + 1, 3, none⟩ (.int .u64 (0))).cell? ⟨w.heap.size + 1 + 1, 3, none⟩ = some (.int .u64 (0)) := t4.cell 3
  have t5 := t4.set 4 (.int .u64 (0))
  have c4 : (((((w2.setCell ⟨w.heap.size + 1 + 1, 0, none⟩ (.int .i64 (2))).setCell ⟨w.heap.size + 1 + 1, 1, none⟩ (.int .i64 (i))).setCell ⟨w.heap.size + 1 + 1, 2, none⟩ (.int .i64 (0))).setCell ⟨w.heap.size + 1 + 1, 3, none⟩ (.int .u64 (0))).setCell ⟨w.heap.size + 1 + 1, 4, none⟩ (.int .u64 (0))).cell? ⟨w.heap.size + 1 + 1, 4, none⟩ = some (.int .u64 (0)) := t5.cell 4
  have HF := And.intro (Lib.hid c0) (And.intro (Lib.hid c1) (And.intro (Lib.hid c2) (And.intro (Lib.hid c3) (Lib.hid c4))))
  clear t0 t1 t2 t3 t4 t5 c0 c1 c2 c3 c4
  go_wp2_with fail
  refine bodyPost_ret (v := .agg #[.int .i64 (2), .int .i64 (i), .int .i64 (0), .int .u64 (0), .int .u64 (0)]) ?_ rfl ⟨rfl, ?_⟩
  · simp [results, Try.results64, go_sem, HF.1.out, HF.2.1.out, HF.2.2.1.out, HF.2.2.2.1.out, HF.2.2.2.2.out, l2]
  · have h2 := HC.out
    have hb2 : ¬ w.heap.size + 1 + 1 < w.heap.size := by omega
    repeat (first | with_reducible exact h2 | with_reducible refine Chg.setCell ?_ (fun h => absurd h hb2) _ | with_reducible refine Chg.alloc ?_ _)

set_option maxHeartbeats 2000000 in
theorem Do_14y (w : World) (an bn cn : Nat) (i pc x y z : Int) (r0 r1 r2 r3 r4 r5 r6 r7 : Int) (a1 : an < 8) (b1 : bn < 8) (c1 : cn < 8) (p0 : 0 ≤ pc) (p1 : pc < 1024) (hx : rg [r0, r1, r2, r3, r4, r5, r6, r7] an = x) (hy : rg [r0, r1, r2, r3, r4, r5, r6, r7] bn = y) (hz : rg [r0, r1, r2, r3, r4, r5, r6, r7] cn = z) (i0 : 0 ≤ i) (i1 : i ≤ 1024) (hq : (x == y) = true) :
    Calls Try.prog 64 #[.agg #[.int .i64 14, .int .i64 an, .int .i64 bn, .int .i64 cn, .int .i64 i], .agg #[.int .u64 r0, .int .u64 r1, .int .u64 r2, .int .u64 r3, .int .u64 r4, .int .u64 r5, .int .u64 r6, .int .u64 r7], .int .i64 pc] w fun e w' => e = .returned (.agg #[.int .i64 (2), .int .i64 (i), .int .i64 (0), .int .u64 (0), .int .u64 (0)]) ∧ Chg [] w w' := by
  have HI := Lib.hid (((Blk.new w [.int .i64 14, .int .i64 an, .int .i64 bn, .int .i64 cn, .int .i64 i] 25).alloc (.cells #[.int .u64 r0, .int .u64 r1, .int .u64 r2, .int .u64 r3, .int .u64 r4, .int .u64 r5, .int .u64 r6, .int .u64 r7] 63)).alloc (.cells #[.int .i64 0, .int .i64 0, .int .i64 0, .int .u64 0, .int .u64 0] 91))
  have HR : Hid (Blk (((w.alloc (.cells #[.int .i64 14, .int .i64 an, .int .i64 bn, .int .i64 cn, .int .i64 i] 25)).alloc (.cells #[.int .u64 r0, .int .u64 r1, .int .u64 r2, .int .u64 r3, .int .u64 r4, .int .u64 r5, .int .u64 r6, .int .u64 r7] 63)).alloc (.cells #[.int .i64 0, .int .i64 0, .int .i64 0, .int .u64 0, .int .u64 0] 91)) (w.heap.size + 1) [.int .u64 r0, .int .u64 r1, .int .u64 r2, .int .u64 r3, .int .u64 r4, .int .u64 r5, .int .u64 r6, .int .u64 r7] 63) := Lib.hid (by
    have := (Blk.new (w.alloc (.cells #[.int .i64 14, .int .i64 an, .int .i64 bn, .int .i64 cn, .int .i64 i] 25)) [.int .u64 r0, .int .u64 r1, .int .u64 r2, .int .u64 r3, .int .u64 r4, .int .u64 r5, .int .u64 r6, .int .u64 r7] 63).alloc (.cells #[.int .i64 0, .int .i64 0, .int .i64 0, .int .u64 0, .int .u64 0] 91); simpa using this)
  have HE : Hid (Blk (((w.alloc (.cells #[.int .i64 14, .int .i64 an, .int .i64 bn, .int .i64 cn, .int .i64 i] 25)).alloc (.cells #[.int .u64 r0, .int .u64 r1, .int .u64 r2, .int .u64 r3, .int .u64 r4, .int .u64 r5, .int .u64 r6, .int .u64 r7] 63)).alloc (.cells #[.int .i64 0, .int .i64 0, .int .i64 0, .int .u64 0, .int .u64 0] 91)) (w.heap.size + 1 + 1) [.int .i64 0, .int .i64 0, .int .i64 0, .int .u64 0, .int .u64 0] 91) := Lib.hid (by
    have := Blk.new ((w.alloc (.cells #[.int .i64 14, .int .i64 an, .int .i64 bn, .int .i64 cn, .int .i64 i] 25)).alloc (.cells #[.int .u64 r0, .int .u64 r1, .int .u64 r2, .int .u64 r3, .int .u64 r4, .int .u64 r5, .int .u64 r6, .int .u64 r7] 63)) [.int .i64 0, .int .i64 0, .int .i64 0, .int .u64 0, .int .u64 0] 91; simpa using this)
  have HC := Lib.hid ((((Chg.refl [] w).alloc (.cells #[.int .i64 14, .int .i64 an, .int .i64 bn, .int .i64 cn, .int .i64 i] 25)).alloc (.cells #[.int .u64 r0, .int .u64 r1, .int .u64 r2, .int .u64 r3, .int .u64 r4, .int .u64 r5, .int .u64 r6, .int .u64 r7] 63)).alloc (.cells #[.int .i64 0, .int .i64 0, .int .i64 0, .int .u64 0, .int .u64 0] 91))
  have HXYZ := And.intro (Lib.hid hx) (And.intro (Lib.hid hy) (Lib.hid hz))
  clear hx hy hz
  have hi0 : (((w.alloc (.cells #[.int .i64 14, .int .i64 an, .int .i64 bn, .int .i64 cn, .int .i64 i] 25)).alloc (.cells #[.int .u64 r0, .int .u64 r1, .int .u64 r2, .int .u64 r3, .int .u64 r4, .int .u64 r5, .int .u64 r6, .int .u64 r7] 63)).alloc (.cells #[.int .i64 0, .int .i64 0, .int .i64 0, .int .u64 0, .int .u64 0] 91)).cell? ⟨w.heap.size, 0, none⟩ = some (.int .i64 14) := HI.out.cell 0
  go_enter Try.func64, Try.ntmps64
  go_wp2_with fail
  refine (ShapeOf_14 _).mono ?_
  rintro e w1 ⟨s, rfl, hx⟩
  replace HI := Lib.hid ((hx.blk HI.out (by simp)).alloc (.cells #[.string s, .bool true, .bool true, .bool false, .bool true] 95))
  replace HR := Lib.hid ((hx.blk HR.out (by simp)).alloc (.cells #[.string s, .bool true, .bool true, .bool false, .bool true] 95))
  replace HE := Lib.hid ((hx.blk HE.out (by simp)).alloc (.cells #[.string s, .bool true, .bool true, .bool false, .bool true] 95))
  have HS := Lib.hid (Blk.new w1 [.string s, .bool true, .bool true, .bool false, .bool true] 95)
  replace HC := Lib.hid ((HC.out.trans hx).alloc (.cells #[.string s, .bool true, .bool true, .bool false, .bool true] 95))
  clear hx hi0
  have j0 : (w1.alloc (.cells #[.string s, .bool true, .bool true, .bool false, .bool true] 95)).cell? ⟨w.heap.size, 0, none⟩ = some (.int .i64 14) := HI.out.cell 0
  have j1 : (w1.alloc (.cells #[.string s, .bool true, .bool true, .bool false, .bool true] 95)).cell? ⟨w.heap.size, 1, none⟩ = some (.int .i64 an) := HI.out.cell 1
  have j2 : (w1.alloc (.cells #[.string s, .bool true, .bool true, .bool false, .bool true] 95)).cell? ⟨w.heap.size, 2, none⟩ = some (.int .i64 bn) := HI.out.cell 2
  have j3 : (w1.alloc (.cells #[.string s, .bool true, .bool true, .bool false, .bool true] 95)).cell? ⟨w.heap.size, 3, none⟩ = some (.int .i64 cn) := HI.out.cell 3
  have j4 : (w1.alloc (.cells #[.string s, .bool true, .bool true, .bool false, .bool true] 95)).cell? ⟨w.heap.size, 4, none⟩ = some (.int .i64 i) := HI.out.cell 4
  have jl : w.heap.size < (w1.alloc (.cells #[.string s, .bool true, .bool true, .bool false, .bool true] 95)).heap.size := HI.out.lt
  go_wp2_with fail
  refine (Legal_14 _ an bn cn i (by omega) (by omega) (by omega) (by omega) (by omega) (by omega)).mono ?_
  rintro e w2 ⟨rfl, hx⟩
  replace HI := Lib.hid (hx.blk HI.out (by simp))
  replace HR := Lib.hid (hx.blk HR.out (by simp))
  replace HE := Lib.hid (hx.blk HE.out (by simp))
  replace HS := Lib.hid (hx.blk HS.out (by simp))
  replace HC := Lib.hid (HC.out.trans hx)
  clear hx j0 j1 j2 j3 j4 jl
  have j0 : w2.cell? ⟨w.heap.size, 0, none⟩ = some (.int .i64 14) := HI.out.cell 0
  have j1 : w2.cell? ⟨w.heap.size, 1, none⟩ = some (.int .i64 an) := HI.out.cell 1
  have j2 : w2.cell? ⟨w.heap.size, 2, none⟩ = some (.int .i64 bn) := HI.out.cell 2
  have j3 : w2.cell? ⟨w.heap.size, 3, none⟩ = some (.int .i64 cn) := HI.out.cell 3
  have j4 : w2.cell? ⟨w.heap.size, 4, none⟩ = some (.int .i64 i) := HI.out.cell 4
  have m0 : w2.cell? ⟨w.heap.size + 1, an, none⟩ = some (.int .u64 x) := (reg_cell HR.out (by assumption)).trans (by rw [HXYZ.1.out])
  have m1 : w2.cell? ⟨w.heap.size + 1, bn, none⟩ = some (.int .u64 y) := (reg_cell HR.out (by assumption)).trans (by rw [HXYZ.2.1.out])
  have m2 : w2.cell? ⟨w.heap.size + 1, cn, none⟩ = some (.int .u64 z) := (reg_cell HR.out (by assumption)).trans (by rw [HXYZ.2.2.out])
  have n0 : w2.cell? ⟨w.heap.size + 1 + 1, 0, none⟩ = some (.int .i64 0) := HE.out.cell 0
  have f0 : w2.frozen? ⟨w.heap.size + 1 + 1, 0, none⟩ = false := HE.out.free 0
  have n1 : w2.cell? ⟨w.heap.size + 1 + 1, 1, none⟩ = some (.int .i64 0) := HE.out.cell 1
  have f1 : w2.frozen? ⟨w.heap.size + 1 + 1, 1, none⟩ = false := HE.out.free 1
  have n2 : w2.cell? ⟨w.heap.size + 1 + 1, 2, none⟩ = some (.int .i64 0) := HE.out.cell 2
  have f2 : w2.frozen? ⟨w.heap.size + 1 + 1, 2, none⟩ = false := HE.out.free 2
  have n3 : w2.cell? ⟨w.heap.size + 1 + 1, 3, none⟩ = some (.int .u64 0) := HE.out.cell 3
  have f3 : w2.frozen? ⟨w.heap.size + 1 + 1, 3, none⟩ = false := HE.out.free 3
  have n4 : w2.cell? ⟨w.heap.size + 1 + 1, 4, none⟩ = some (.int .u64 0) := HE.out.cell 4
  have f4 : w2.frozen? ⟨w.heap.size + 1 + 1, 4, none⟩ = false := HE.out.free 4
  have s0 : w2.cell? ⟨w1.heap.size, 1, none⟩ = some (.bool true) := HS.out.cell 1
  have s1 : w2.cell? ⟨w1.heap.size, 2, none⟩ = some (.bool true) := HS.out.cell 2
  have s2 : w2.cell? ⟨w1.heap.size, 3, none⟩ = some (.bool false) := HS.out.cell 3
  have l0 : w.heap.size < w2.heap.size := HI.out.lt
  have l1 : w.heap.size + 1 < w2.heap.size := HR.out.lt
  have l2 : w.heap.size + 1 + 1 < w2.heap.size := HE.out.lt
  have l3 : w1.heap.size < w2.heap.size := HS.out.lt
  have t0 := HE.out
  have t1 := t0.set 0 (.int .i64 (2))
  have c0 : (w2.setCell ⟨w.heap.size + 1 + 1, 0, none⟩ (.int .i64 (2))).cell? ⟨w.heap.size + 1 + 1, 0, none⟩ = some (.int .i64 (2)) := t1.cell 0
  have t2 := t1.set 1 (.int .i64 (i))
  have c1 : ((w2.setCell ⟨w.heap.size + 1 + 1, 0, none⟩ (.int .i64 (2))).setCell ⟨w.heap.size + 1 + 1, 1, none⟩ (.int .i64 (i))).cell? ⟨w.heap.size + 1 + 1, 1, none⟩ = some (.int .i64 (i)) := t2.cell 1
  have t3 := t2.set 2 (.int .i64 (0))
  have c2 : (((w2.setCell ⟨w.heap.size + 1 + 1, 0, none⟩ (.int .i64 (2))).setCell ⟨w.heap.size + 1 + 1, 1, none⟩ (.int .i64 (i))).setCell ⟨w.heap.size + 1 + 1, 2, none⟩ (.int .i64 (0))).cell? ⟨w.heap.size + 1 + 1, 2, none⟩ = some (.int .i64 (0)) := t3.cell 2
  have t4 := t3.set 3 (.int .u64 (0))
  have c3 : ((((w2.setCell ⟨w.heap.size + 1 + 1, 0, none⟩ (.int .i64 (2))).setCell ⟨w.heap.size + 1 + 1, 1, none⟩ (.int .i64 (i))).setCell ⟨w.heap.size + 1 + 1, 2, none⟩ (.int .i64 (0))).setCell ⟨w.heap.size + 1 + 1, 3, none⟩ (.int .u64 (0))).cell? ⟨w.heap.size + 1 + 1, 3, none⟩ = some (.int .u64 (0)) := t4.cell 3
  have t5 := t4.set 4 (.int .u64 (0))
  have c4 : (((((w2.setCell ⟨w.heap.size + 1 + 1, 0, none⟩ (.int .i64 (2))).setCell ⟨w.heap.size + 1 + 1, 1, none⟩ (.int .i64 (i))).setCell ⟨w.heap.size + 1 + 1, 2, none⟩ (.int .i64 (0))).setCell ⟨w.heap.size + 1 + 1, 3, none⟩ (.int .u64 (0))).setCell ⟨w.heap.size + 1 + 1, 4, none⟩ (.int .u64 (0))).cell? ⟨w.heap.size + 1 + 1, 4, none⟩ = some (.int .u64 (0)) := t5.cell 4
  have HF := And.intro (Lib.hid c0) (And.intro (Lib.hid c1) (And.intro (Lib.hid c2) (And.intro (Lib.hid c3) (Lib.hid c4))))
  clear t0 t1 t2 t3 t4 t5 c0 c1 c2 c3 c4
  go_wp2_with fail
  refine bodyPost_ret (v := .agg #[.int .i64 (2), .int .i64 (i), .int .i64 (0), .int .u64 (0), .int .u64 (0)]) ?_ rfl ⟨rfl, ?_⟩
  · simp [results, Try.results64, go_sem, HF.1.out, HF.2.1.out, HF.2.2.1.out, HF.2.2.2.1.out, HF.2.2.2.2.out, l2]
  · have h2 := HC.out
    have hb2 : ¬ w.heap.size + 1 + 1 < w.heap.size := by omega
    repeat (first | with_reducible exact h2 | with_reducible refine Chg.setCell ?_ (fun h => absurd h hb2) _ | with_reducible refine Chg.alloc ?_ _)

set_option maxHeartbeats 2000000 in
theorem Do_14n (w : World) (an bn cn : Nat) (i pc x y z : Int) (r0 r1 r2 r3 r4 r5 r6 r7 : Int) (a1 : an < 8) (b1 : bn < 8) (c1 : cn < 8) (p0 : 0 ≤ pc) (p1 : pc < 1024) (hx : rg [r0, r1, r2, r3, r4, r5, r6, r7] an = x) (hy : rg [r0, r1, r2, r3, r4, r5, r6, r7] bn = y) (hz : rg [r0, r1, r2, r3, r4, r5, r6, r7] cn = z) (i0 : 0 ≤ i) (i1 : i ≤ 1024) (hq : (x == y) = false) :
    Calls Try.prog 64 #[.agg #[.int .i64 14, .int .i64 an, .int .i64 bn, .int .i64 cn, .int .i64 i], .agg #[.int .u64 r0, .int .u64 r1, .int .u64 r2, .int .u64 r3, .int .u64 r4, .int .u64 r5, .int .u64 r6, .int .u64 r7], .int .i64 pc] w fun e w' => e = .returned (.agg #[.int .i64 (2), .int .i64 (pc + 1), .int .i64 (0), .int .u64 (0), .int .u64 (0)]) ∧ Chg [] w w' := by
  have HI := Lib.hid (((Blk.new w [.int .i64 14, .int .i64 an, .int .i64 bn, .int .i64 cn, .int .i64 i] 25).alloc (.cells #[.int .u64 r0, .int .u64 r1, .int .u64 r2, .int .u64 r3, .int .u64 r4, .int .u64 r5, .int .u64 r6, .int .u64 r7] 63)).alloc (.cells #[.int .i64 0, .int .i64 0, .int .i64 0, .int .u64 0, .int .u64 0] 91))
  have HR : Hid (Blk (((w.alloc (.cells #[.int .i64 14, .int .i64 an, .int .i64 bn, .int .i64 cn, .int .i64 i] 25)).alloc (.cells #[.int .u64 r0, .int .u64 r1, .int .u64 r2, .int .u64 r3, .int .u64 r4, .int .u64 r5, .int .u64 r6, .int .u64 r7] 63)).alloc (.cells #[.int .i64 0, .int .i64 0, .int .i64 0, .int .u64 0, .int .u64 0] 91)) (w.heap.size + 1) [.int .u64 r0, .int .u64 r1, .int .u64 r2, .int .u64 r3, .int .u64 r4, .int .u64 r5, .int .u64 r6, .int .u64 r7] 63) := Lib.hid (by
    have := (Blk.new (w.alloc (.cells #[.int .i64 14, .int .i64 an, .int .i64 bn, .int .i64 cn, .int .i64 i] 25)) [.int .u64 r0, .int .u64 r1, .int .u64 r2, .int .u64 r3, .int .u64 r4, .int .u64 r5, .int .u64 r6, .int .u64 r7] 63).alloc (.cells #[.int .i64 0, .int .i64 0, .int .i64 0, .int .u64 0, .int .u64 0] 91); simpa using this)
  have HE : Hid (Blk (((w.alloc (.cells #[.int .i64 14, .int .i64 an, .int .i64 bn, .int .i64 cn, .int .i64 i] 25)).alloc (.cells #[.int .u64 r0, .int .u64 r1, .int .u64 r2, .int .u64 r3, .int .u64 r4, .int .u64 r5, .int .u64 r6, .int .u64 r7] 63)).alloc (.cells #[.int .i64 0, .int .i64 0, .int .i64 0, .int .u64 0, .int .u64 0] 91)) (w.heap.size + 1 + 1) [.int .i64 0, .int .i64 0, .int .i64 0, .int .u64 0, .int .u64 0] 91) := Lib.hid (by
    have := Blk.new ((w.alloc (.cells #[.int .i64 14, .int .i64 an, .int .i64 bn, .int .i64 cn, .int .i64 i] 25)).alloc (.cells #[.int .u64 r0, .int .u64 r1, .int .u64 r2, .int .u64 r3, .int .u64 r4, .int .u64 r5, .int .u64 r6, .int .u64 r7] 63)) [.int .i64 0, .int .i64 0, .int .i64 0, .int .u64 0, .int .u64 0] 91; simpa using this)
  have HC := Lib.hid ((((Chg.refl [] w).alloc (.cells #[.int .i64 14, .int .i64 an, .int .i64 bn, .int .i64 cn, .int .i64 i] 25)).alloc (.cells #[.int .u64 r0, .int .u64 r1, .int .u64 r2, .int .u64 r3, .int .u64 r4, .int .u64 r5, .int .u64 r6, .int .u64 r7] 63)).alloc (.cells #[.int .i64 0, .int .i64 0, .int .i64 0, .int .u64 0, .int .u64 0] 91))
  have HXYZ := And.intro (Lib.hid hx) (And.intro (Lib.hid hy) (Lib.hid hz))
  clear hx hy hz
  have hi0 : (((w.alloc (.cells #[.int .i64 14, .int .i64 an, .int .i64 bn, .int .i64 cn, .int .i64 i] 25)).alloc (.cells #[.int .u64 r0, .int .u64 r1, .int .u64 r2, .int .u64 r3, .int .u64 r4, .int .u64 r5, .int .u64 r6, .int .u64 r7] 63)).alloc (.cells #[.int .i64 0, .int .i64 0, .int .i64 0, .int .u64 0, .int .u64 0] 91)).cell? ⟨w.heap.size, 0, none⟩ = some (.int .i64 14) := HI.out.cell 0
  go_enter Try.func64, Try.ntmps64
  go_wp2_with fail
  refine (ShapeOf_14 _).mono ?_
  rintro e w1 ⟨s, rfl, hx⟩
  replace HI := Lib.hid ((hx.blk HI.out (by simp)).alloc (.cells #[.string s, .bool true, .bool true, .bool false, .bool true] 95))
  replace HR := Lib.hid ((hx.blk HR.out (by simp)).alloc (.cells #[.string s, .bool true, .bool true, .bool false, .bool true] 95))
  replace HE := Lib.hid ((hx.blk HE.out (by simp)).alloc (.cells #[.string s, .bool true, .bool true, .bool false, .bool true] 95))
  have HS := Lib.hid (Blk.new w1 [.string s, .bool true, .bool true, .bool false, .bool true] 95)
  replace HC := Lib.hid ((HC.out.trans hx).alloc (.cells #[.string s, .bool true, .bool true, .bool false, .bool true] 95))
  clear hx hi0
  have j0 : (w1.alloc (.cells #[.string s, .bool true, .bool true, .bool false, .bool true] 95)).cell? ⟨w.heap.size, 0, none⟩ = some (.int .i64 14) := HI.out.cell 0
  have j1 : (w1.alloc (.cells #[.string s, .bool true, .bool true, .bool false, .bool true] 95)).cell? ⟨w.heap.size, 1, none⟩ = some (.int .i64 an) := HI.out.cell 1
  have j2 : (w1.alloc (.cells #[.string s, .bool true, .bool true, .bool false, .bool true] 95)).cell? ⟨w.heap.size, 2, none⟩ = some (.int .i64 bn) := HI.out.cell 2
  have j3 : (w1.alloc (.cells #[.string s, .bool true, .bool true, .bool false, .bool true] 95)).cell? ⟨w.heap.size, 3, none⟩ = some (.int .i64 cn) := HI.out.cell 3
  have j4 : (w1.alloc (.cells #[.string s, .bool true, .bool true, .bool false, .bool true] 95)).cell? ⟨w.heap.size, 4, none⟩ = some (.int .i64 i) := HI.out.cell 4
  have jl : w.heap.size < (w1.alloc (.cells #[.string s, .bool true, .bool true, .bool false, .bool true] 95)).heap.size := HI.out.lt
  go_wp2_with fail
  refine (Legal_14 _ an bn cn i (by omega) (by omega) (by omega) (by omega) (by omega) (by omega)).mono ?_
  rintro e w2 ⟨rfl, hx⟩
  replace HI := Lib.hid (hx.blk HI.out (by simp))
  replace HR := Lib.hid (hx.blk HR.out (by simp))
  replace HE := Lib.hid (hx.blk HE.out (by simp))
  replace HS := Lib.hid (hx.blk HS.out (by simp))
  replace HC := Lib.hid (HC.out.trans hx)
  clear hx j0 j1 j2 j3 j4 jl
  have j0 : w2.cell? ⟨w.heap.size, 0, none⟩ = some (.int .i64 14) := HI.out.cell 0
  have j1 : w2.cell? ⟨w.heap.size, 1, none⟩ = some (.int .i64 an) := HI.out.cell 1
  have j2 : w2.cell? ⟨w.heap.size, 2, none⟩ = some (.int .i64 bn) := HI.out.cell 2
  have j3 : w2.cell? ⟨w.heap.size, 3, none⟩ = some (.int .i64 cn) := HI.out.cell 3
  have j4 : w2.cell? ⟨w.heap.size, 4, none⟩ = some (.int .i64 i) := HI.out.cell 4
  have m0 : w2.cell? ⟨w.heap.size + 1, an, none⟩ = some (.int .u64 x) := (reg_cell HR.out (by assumption)).trans (by rw [HXYZ.1.out])
  have m1 : w2.cell? ⟨w.heap.size + 1, bn, none⟩ = some (.int .u64 y) := (reg_cell HR.out (by assumption)).trans (by rw [HXYZ.2.1.out])
  have m2 : w2.cell? ⟨w.heap.size + 1, cn, none⟩ = some (.int .u64 z) := (reg_cell HR.out (by assumption)).trans (by rw [HXYZ.2.2.out])
  have n0 : w2.cell? ⟨w.heap.size + 1 + 1, 0, none⟩ = some (.int .i64 0) := HE.out.cell 0
  have f0 : w2.frozen? ⟨w.heap.size + 1 + 1, 0, none⟩ = false := HE.out.free 0
  have n1 : w2.cell? ⟨w.heap.size + 1 + 1, 1, none⟩ = some (.int .i64 0) := HE.out.cell 1
  have f1 : w2.frozen? ⟨w.heap.size + 1 + 1, 1, none⟩ = false := HE.out.free 1
  have n2 : w2.cell? ⟨w.heap.size + 1 + 1, 2, none⟩ = some (.int .i64 0) := HE.out.cell 2
  have f2 : w2.frozen? ⟨w.heap.size + 1 + 1, 2, none⟩ = false := HE.out.free 2
  have n3 : w2.cell? ⟨w.heap.size + 1 + 1, 3, none⟩ = some (.int .u64 0) := HE.out.cell 3
  have f3 : w2.frozen? ⟨w.heap.size + 1 + 1, 3, none⟩ = false := HE.out.free 3
  have n4 : w2.cell? ⟨w.heap.size + 1 + 1, 4, none⟩ = some (.int .u64 0) := HE.out.cell 4
  have f4 : w2.frozen? ⟨w.heap.size + 1 + 1, 4, none⟩ = false := HE.out.free 4
  have s0 : w2.cell? ⟨w1.heap.size, 1, none⟩ = some (.bool true) := HS.out.cell 1
  have s1 : w2.cell? ⟨w1.heap.size, 2, none⟩ = some (.bool true) := HS.out.cell 2
  have s2 : w2.cell? ⟨w1.heap.size, 3, none⟩ = some (.bool false) := HS.out.cell 3
  have l0 : w.heap.size < w2.heap.size := HI.out.lt
  have l1 : w.heap.size + 1 < w2.heap.size := HR.out.lt
  have l2 : w.heap.size + 1 + 1 < w2.heap.size := HE.out.lt
  have l3 : w1.heap.size < w2.heap.size := HS.out.lt
  have t0 := HE.out
  have t1 := t0.set 0 (.int .i64 (2))
  have c0 : (w2.setCell ⟨w.heap.size + 1 + 1, 0, none⟩ (.int .i64 (2))).cell? ⟨w.heap.size + 1 + 1, 0, none⟩ = some (.int .i64 (2)) := t1.cell 0
  have t2 := t1.set 1 (.int .i64 (pc + 1))
  have c1 : ((w2.setCell ⟨w.heap.size + 1 + 1, 0, none⟩ (.int .i64 (2))).setCell ⟨w.heap.size + 1 + 1, 1, none⟩ (.int .i64 (pc + 1))).cell? ⟨w.heap.size + 1 + 1, 1, none⟩ = some (.int .i64 (pc + 1)) := t2.cell 1
  have t3 := t2.set 2 (.int .i64 (0))
  have c2 : (((w2.setCell ⟨w.heap.size + 1 + 1, 0, none⟩ (.int .i64 (2))).setCell ⟨w.heap.size + 1 + 1, 1, none⟩ (.int .i64 (pc + 1))).setCell ⟨w.heap.size + 1 + 1, 2, none⟩ (.int .i64 (0))).cell? ⟨w.heap.size + 1 + 1, 2, none⟩ = some (.int .i64 (0)) := t3.cell 2
  have t4 := t3.set 3 (.int .u64 (0))
  have c3 : ((((w2.setCell ⟨w.heap.size + 1 + 1, 0, none⟩ (.int .i64 (2))).setCell ⟨w.heap.size + 1 + 1, 1, none⟩ (.int .i64 (pc + 1))).setCell ⟨w.heap.size + 1 + 1, 2, none⟩ (.int .i64 (0))).setCell ⟨w.heap.size + 1 + 1, 3, none⟩ (.int .u64 (0))).cell? ⟨w.heap.size + 1 + 1, 3, none⟩ = some (.int .u64 (0)) := t4.cell 3
  have t5 := t4.set 4 (.int .u64 (0))
  have c4 : (((((w2.setCell ⟨w.heap.size + 1 + 1, 0, none⟩ (.int .i64 (2))).setCell ⟨w.heap.size + 1 + 1, 1, none⟩ (.int .i64 (pc + 1))).setCell ⟨w.heap.size + 1 + 1, 2, none⟩ (.int .i64 (0))).setCell ⟨w.heap.size + 1 + 1, 3, none⟩ (.int .u64 (0))).setCell ⟨w.heap.size + 1 + 1, 4, none⟩ (.int .u64 (0))).cell? ⟨w.heap.size + 1 + 1, 4, none⟩ = some (.int .u64 (0)) := t5.cell 4
  have HF := And.intro (Lib.hid c0) (And.intro (Lib.hid c1) (And.intro (Lib.hid c2) (And.intro (Lib.hid c3) (Lib.hid c4))))
  clear t0 t1 t2 t3 t4 t5 c0 c1 c2 c3 c4
  go_wp2_with fail
  refine bodyPost_ret (v := .agg #[.int .i64 (2), .int .i64 (pc + 1), .int .i64 (0), .int .u64 (0), .int .u64 (0)]) ?_ rfl ⟨rfl, ?_⟩
  · simp [results, Try.results64, go_sem, HF.1.out, HF.2.1.out, HF.2.2.1.out, HF.2.2.2.1.out, HF.2.2.2.2.out, l2]
  · have h2 := HC.out
    have hb2 : ¬ w.heap.size + 1 + 1 < w.heap.size := by omega
    repeat (first | with_reducible exact h2 | with_reducible refine Chg.setCell ?_ (fun h => absurd h hb2) _ | with_reducible refine Chg.alloc ?_ _)

set_option maxHeartbeats 2000000 in
theorem Do_15y (w : World) (an bn cn : Nat) (i pc x y z : Int) (r0 r1 r2 r3 r4 r5 r6 r7 : Int) (a1 : an < 8) (b1 : bn < 8) (c1 : cn < 8) (p0 : 0 ≤ pc) (p1 : pc < 1024) (hx : rg [r0, r1, r2, r3, r4, r5, r6, r7] an = x) (hy : rg [r0, r1, r2, r3, r4, r5, r6, r7] bn = y) (hz : rg [r0, r1, r2, r3, r4, r5, r6, r7] cn = z) (i0 : 0 ≤ i) (i1 : i ≤ 1024) (hq : (x != y) = false) :
    Calls Try.prog 64 #[.agg #[.int .i64 15, .int .i64 an, .int .i64 bn, .int .i64 cn, .int .i64 i], .agg #[.int .u64 r0, .int .u64 r1, .int .u64 r2, .int .u64 r3, .int .u64 r4, .int .u64 r5, .int .u64 r6, .int .u64 r7], .int .i64 pc] w fun e w' => e = .returned (.agg #[.int .i64 (2), .int .i64 (pc + 1), .int .i64 (0), .int .u64 (0), .int .u64 (0)]) ∧ Chg [] w w' := by
  have HI := Lib.hid (((Blk.new w [.int .i64 15, .int .i64 an, .int .i64 bn, .int .i64 cn, .int .i64 i] 25).alloc (.cells #[.int .u64 r0, .int .u64 r1, .int .u64 r2, .int .u64 r3, .int .u64 r4, .int .u64 r5, .int .u64 r6, .int .u64 r7] 63)).alloc (.cells #[.int .i64 0, .int .i64 0, .int .i64 0, .int .u64 0, .int .u64 0] 91))
  have HR : Hid (Blk (((w.alloc (.cells #[.int .i64 15, .int .i64 an, .int .i64 bn, .int .i64 cn, .int .i64 i] 25)).alloc (.cells #[.int .u64 r0, .int .u64 r1, .int .u64 r2, .int .u64 r3, .int .u64 r4, .int .u64 r5, .int .u64 r6, .int .u64 r7] 63)).alloc (.cells #[.int .i64 0, .int .i64 0, .int .i64 0, .int .u64 0, .int .u64 0] 91)) (w.heap.size + 1) [.int .u64 r0, .int .u64 r1, .int .u64 r2, .int .u64 r3, .int .u64 r4, .int .u64 r5, .int .u64 r6, .int .u64 r7] 63) := Lib.hid (by
    have := (Blk.new (w.alloc (.cells #[.int .i64 15, .int .i64 an, .int .i64 bn, .int .i64 cn, .int .i64 i] 25)) [.int .u64 r0, .int .u64 r1, .int .u64 r2, .int .u64 r3, .int .u64 r4, .int .u64 r5, .int .u64 r6, .int .u64 r7] 63).alloc (.cells #[.int .i64 0, .int .i64 0, .int .i64 0, .int .u64 0, .int .u64 0] 91); simpa using this)
  have HE : Hid (Blk (((w.alloc (.cells #[.int .i64 15, .int .i64 an, .int .i64 bn, .int .i64 cn, .int .i64 i] 25)).alloc (.cells #[.int .u64 r0, .int .u64 r1, .int .u64 r2, .int .u64 r3, .int .u64 r4, .int .u64 r5, .int .u64 r6, .int .u64 r7] 63)).alloc (.cells #[.int .i64 0, .int .i64 0, .int .i64 0, .int .u64 0, .int .u64 0] 91)) (w.heap.size + 1 + 1) [.int .i64 0, .int .i64 0, .int .i64 0, .int .u64 0, .int .u64 0] 91) := Lib.hid (by
    have := Blk.new ((w.alloc (.cells #[.int .i64 15, .int .i64 an, .int .i64 bn, .int .i64 cn, .int .i64 i] 25)).alloc (.cells #[.int .u64 r0, .int .u64 r1, .int .u64 r2, .int .u64 r3, .int .u64 r4, .int .u64 r5, .int .u64 r6, .int .u64 r7] 63)) [.int .i64 0, .int .i64 0, .int .i64 0, .int .u64 0, .int .u64 0] 91; simpa using this)
  have HC := Lib.hid ((((Chg.refl [] w).alloc (.cells #[.int .i64 15, .int .i64 an, .int .i64 bn, .int .i64 cn, .int .i64 i] 25)).alloc (.cells #[.int .u64 r0, .int .u64 r1, .int .u64 r2, .int .u64 r3, .int .u64 r4, .int .u64 r5, .int .u64 r6, .int .u64 r7] 63)).alloc (.cells #[.int .i64 0, .int .i64 0, .int .i64 0, .int .u64 0, .int .u64 0] 91))
  have HXYZ := And.intro (Lib.hid hx) (And.intro (Lib.hid hy) (Lib.hid hz))
  clear hx hy hz
  have hi0 : (((w.alloc (.cells #[.int .i64 15, .int .i64 an, .int .i64 bn, .int .i64 cn, .int .i64 i] 25)).alloc (.cells #[.int .u64 r0, .int .u64 r1, .int .u64 r2, .int .u64 r3, .int .u64 r4, .int .u64 r5, .int .u64 r6, .int .u64 r7] 63)).alloc (.cells #[.int .i64 0, .int .i64 0, .int .i64 0, .int .u64 0, .int .u64 0] 91)).cell? ⟨w.heap.size, 0, none⟩ = some (.int .i64 15) := HI.out.cell 0
  go_enter Try.func64, Try.ntmps64
  go_wp2_with fail
  refine (ShapeOf_15 _).mono ?_
  rintro e w1 ⟨s, rfl, hx⟩
  replace HI := Lib.hid ((hx.blk HI.out (by simp)).alloc (.cells #[.string s, .bool true, .bool true, .bool false, .bool true] 95))
  replace HR := Lib.hid ((hx.blk HR.out (by simp)).alloc (.cells #[.string s, .bool true, .bool true, .bool false, .bool true] 95))
  replace HE := Lib.hid ((hx.blk HE.out (by simp)).alloc (.cells #[.string s, .bool true, .bool true, .bool false, .bool true] 95))
  have HS := Lib.hid (Blk.new w1 [.string s, .bool true, .bool true, .bool false, .bool true] 95)
  replace HC := Lib.hid ((HC.out.trans hx).alloc (.cells #[.string s, .bool true, .bool true, .bool false, .bool true] 95))
  clear hx hi0
  have j0 : (w1.alloc (.cells #[.string s, .bool true, .bool true, .bool false, .bool true] 95)).cell? ⟨w.heap.size, 0, none⟩ = some (.int .i64 15) := HI.out.cell 0
  have j1 : (w1.alloc (.cells #[.string s, .bool true, .bool true, .bool false, .bool true] 95)).cell? ⟨w.heap.size, 1, none⟩ = some (.int .i64 an) := HI.out.cell 1
  have j2 : (w1.alloc (.cells #[.string s, .bool true, .bool true, .bool false, .bool true] 95)).cell? ⟨w.heap.size, 2, none⟩ = some (.int .i64 bn) := HI.out.cell 2
  have j3 : (w1.alloc (.cells #[.string s, .bool true, .bool true, .bool false, .bool true] 95)).cell? ⟨w.heap.size, 3, none⟩ = some (.int .i64 cn) := HI.out.cell 3
  have j4 : (w1.alloc (.cells #[.string s, .bool true, .bool true, .bool false, .bool true] 95)).cell? ⟨w.heap.size, 4, none⟩ = some (.int .i64 i) := HI.out.cell 4
  have jl : w.heap.size < (w1.alloc (.cells #[.string s, .bool true, .bool true, .bool false, .bool true] 95)).heap.size := HI.out.lt
  go_wp2_with fail
  refine (Legal_15 _ an bn cn i (by omega) (by omega) (by omega) (by omega) (by omega) (by omega)).mono ?_
  rintro e w2 ⟨rfl, hx⟩
  replace HI := Lib.hid (hx.blk HI.out (by simp))
  replace HR := Lib.hid (hx.blk HR.out (by simp))
  replace HE := Lib.hid (hx.blk HE.out (by simp))
  replace HS := Lib.hid (hx.blk HS.out (by simp))
  replace HC := Lib.hid (HC.out.trans hx)
  clear hx j0 j1 j2 j3 j4 jl
  have j0 : w2.cell? ⟨w.heap.size, 0, none⟩ = some (.int .i64 15) := HI.out.cell 0
  have j1 : w2.cell? ⟨w.heap.size, 1, none⟩ = some (.int .i64 an) := HI.out.cell 1
  have j2 : w2.cell? ⟨w.heap.size, 2, none⟩ = some (.int .i64 bn) := HI.out.cell 2
  have j3 : w2.cell? ⟨w.heap.size, 3, none⟩ = some (.int .i64 cn) := HI.out.cell 3
  have j4 : w2.cell? ⟨w.heap.size, 4, none⟩ = some (.int .i64 i) := HI.out.cell 4
  have m0 : w2.cell? ⟨w.heap.size + 1, an, none⟩ = some (.int .u64 x) := (reg_cell HR.out (by assumption)).trans (by rw [HXYZ.1.out])
  have m1 : w2.cell? ⟨w.heap.size + 1, bn, none⟩ = some (.int .u64 y) := (reg_cell HR.out (by assumption)).trans (by rw [HXYZ.2.1.out])
  have m2 : w2.cell? ⟨w.heap.size + 1, cn, none⟩ = some (.int .u64 z) := (reg_cell HR.out (by assumption)).trans (by rw [HXYZ.2.2.out])
  have n0 : w2.cell? ⟨w.heap.size + 1 + 1, 0, none⟩ = some (.int .i64 0) := HE.out.cell 0
  have f0 : w2.frozen? ⟨w.heap.size + 1 + 1, 0, none⟩ = false := HE.out.free 0
  have n1 : w2.cell? ⟨w.heap.size + 1 + 1, 1, none⟩ = some (.int .i64 0) := HE.out.cell 1
  have f1 : w2.frozen? ⟨w.heap.size + 1 + 1, 1, none⟩ = false := HE.out.free 1
  have n2 : w2.cell? ⟨w.heap.size + 1 + 1, 2, none⟩ = some (.int .i64 0) := HE.out.cell 2
  have f2 : w2.frozen? ⟨w.heap.size + 1 + 1, 2, none⟩ = false := HE.out.free 2
  have n3 : w2.cell? ⟨w.heap.size + 1 + 1, 3, none⟩ = some (.int .u64 0) := HE.out.cell 3
  have f3 : w2.frozen? ⟨w.heap.size + 1 + 1, 3, none⟩ = false := HE.out.free 3
  have n4 : w2.cell? ⟨w.heap.size + 1 + 1, 4, none⟩ = some (.int .u64 0) := HE.out.cell 4
  have f4 : w2.frozen? ⟨w.heap.size + 1 + 1, 4, none⟩ = false := HE.out.free 4
  have s0 : w2.cell? ⟨w1.heap.size, 1, none⟩ = some (.bool true) := HS.out.cell 1
  have s1 : w2.cell? ⟨w1.heap.size, 2, none⟩ = some (.bool true) := HS.out.cell 2
  have s2 : w2.cell? ⟨w1.heap.size, 3, none⟩ = some (.bool false) := HS.out.cell 3
  have l0 : w.heap.size < w2.heap.size := HI.out.lt
  have l1 : w.heap.size + 1 < w2.heap.size := HR.out.lt
  have l2 : w.heap.size + 1 + 1 < w2.heap.size := HE.out.lt
  have l3 : w1.heap.size < w2.heap.size := HS.out.lt
  have t0 := HE.out
  have t1 := t0.set 0 (.int .i64 (2))
  have c0 : (w2.setCell ⟨w.heap.size + 1 + 1, 0, none⟩ (.int .i64 (2))).cell? ⟨w.heap.size + 1 + 1, 0, none⟩ = some (.int .i64 (2)) := t1.cell 0
  have t2 := t1.set 1 (.int .i64 (pc + 1))
  have c1 : ((w2.setCell ⟨w.heap.size + 1 + 1, 0, none⟩ (.int .i64 (2))).setCell ⟨w.heap.size + 1 + 1, 1, none⟩ (.int .i64 (pc + 1))).cell? ⟨w.heap.size + 1 + 1, 1, none⟩ = some (.int .i64 (pc + 1)) := t2.cell 1
  have t3 := t2.set 2 (.int .i64 (0))
  have c2 : (((w2.setCell ⟨w.heap.size + 1 + 1, 0, none⟩ (.int .i64 (2))).setCell ⟨w.heap.size + 1 + 1, 1, none⟩ (.int .i64 (pc + 1))).setCell ⟨w.heap.size + 1 + 1, 2, none⟩ (.int .i64 (0))).cell? ⟨w.heap.size + 1 + 1, 2, none⟩ = some (.int .i64 (0)) := t3.cell 2
  have t4 := t3.set 3 (.int .u64 (0))
  have c3 : ((((w2.setCell ⟨w.heap.size + 1 + 1, 0, none⟩ (.int .i64 (2))).setCell ⟨w.heap.size + 1 + 1, 1, none⟩ (.int .i64 (pc + 1))).setCell ⟨w.heap.size + 1 + 1, 2, none⟩ (.int .i64 (0))).setCell ⟨w.heap.size + 1 + 1, 3, none⟩ (.int .u64 (0))).cell? ⟨w.heap.size + 1 + 1, 3, none⟩ = some (.int .u64 (0)) := t4.cell 3
  have t5 := t4.set 4 (.int .u64 (0))
  have c4 : (((((w2.setCell ⟨w.heap.size + 1 + 1, 0, none⟩ (.int .i64 (2))).setCell ⟨w.heap.size + 1 + 1, 1, none⟩ (.int .i64 (pc + 1))).setCell ⟨w.heap.size + 1 + 1, 2, none⟩ (.int .i64 (0))).setCell ⟨w.heap.size + 1 + 1, 3, none⟩ (.int .u64 (0))).setCell ⟨w.heap.size + 1 + 1, 4, none⟩ (.int .u64 (0))).cell? ⟨w.heap.size + 1 + 1, 4, none⟩ = some (.int .u64 (0)) := t5.cell 4
  have HF := And.intro (Lib.hid c0) (And.intro (Lib.hid c1) (And.intro (Lib.hid c2) (And.intro (Lib.hid c3) (Lib.hid c4))))
  clear t0 t1 t2 t3 t4 t5 c0 c1 c2 c3 c4
  go_wp2_with fail
  refine bodyPost_ret (v := .agg #[.int .i64 (2), .int .i64 (pc + 1), .int .i64 (0), .int .u64 (0), .int .u64 (0)]) ?_ rfl ⟨rfl, ?_⟩
  · simp [results, Try.results64, go_sem, HF.1.out, HF.2.1.out, HF.2.2.1.out, HF.2.2.2.1.out, HF.2.2.2.2.out, l2]
  · have h2 := HC.out
    have hb2 : ¬ w.heap.size + 1 + 1 < w.heap.size := by omega
    repeat (first | with_reducible exact h2 | with_reducible refine Chg.setCell ?_ (fun h => absurd h hb2) _ | with_reducible refine Chg.alloc ?_ _)

set_option maxHeartbeats 2000000 in
theorem Do_15n (w : World) (an bn cn : Nat) (i pc x y z : Int) (r0 r1 r2 r3 r4 r5 r6 r7 : Int) (a1 : an < 8) (b1 : bn < 8) (c1 : cn < 8) (p0 : 0 ≤ pc) (p1 : pc < 1024) (hx : rg [r0, r1, r2, r3, r4, r5, r6, r7] an = x) (hy : rg [r0, r1, r2, r3, r4, r5, r6, r7] bn = y) (hz : rg [r0, r1, r2, r3, r4, r5, r6, r7] cn = z) (i0 : 0 ≤ i) (i1 : i ≤ 1024) (hq : (x != y) = true) :
    Calls Try.prog 64 #[.agg #[.int .i64 15, .int .i64 an, .int .i64 bn, .int .i64 cn, .int .i64 i], .agg #[.int .u64 r0, .int .u64 r1, .int .u64 r2, .int .u64 r3, .int .u64 r4, .int .u64 r5, .int .u64 r6, .int .u64 r7], .int .i64 pc] w fun e w' => e = .returned (.agg #[.int .i64 (2), .int .i64 (i), .int .i64 (0), .int .u64 (0), .int .u64 (0)]) ∧ Chg [] w w' := by
  have HI := Lib.hid (((Blk.new w [.int .i64 15, .int .i64 an, .int .i64 bn, .int .i64 cn, .int .i64 i] 25).alloc (.cells #[.int .u64 r0, .int .u64 r1, .int .u64 r2, .int .u64 r3, .int .u64 r4, .int .u64 r5, .int .u64 r6, .int .u64 r7] 63)).alloc (.cells #[.int .i64 0, .int .i64 0, .int .i64 0, .int .u64 0, .int .u64 0] 91))
  have HR : Hid (Blk (((w.alloc (.cells #[.int .i64 15, .int .i64 an, .int .i64 bn, .int .i64 cn, .int .i64 i] 25)).alloc (.cells #[.int .u64 r0, .int .u64 r1, .int .u64 r2, .int .u64 r3, .int .u64 r4, .int .u64 r5, .int .u64 r6, .int .u64 r7] 63)).alloc (.cells #[.int .i64 0, .int .i64 0, .int .i64 0, .int .u64 0, .int .u64 0] 91)) (w.heap.size + 1) [.int .u64 r0, .int .u64 r1, .int .u64 r2, .int .u64 r3, .int .u64 r4, .int .u64 r5, .int .u64 r6, .int .u64 r7] 63) := Lib.hid (by
    have := (Blk.new (w.alloc (.cells #[.int .i64 15, .int .i64 an, .int .i64 bn, .int .i64 cn, .int .i64 i] 25)) [.int .u64 r0, .int .u64 r1, .int .u64 r2, .int .u64 r3, .int .u64 r4, .int .u64 r5, .int .u64 r6, .int .u64 r7] 63).alloc (.cells #[.int .i64 0, .int .i64 0, .int .i64 0, .int .u64 0, .int .u64 0] 91); simpa using this)
  have HE : Hid (Blk (((w.alloc (.cells #[.int .i64 15, .int .i64 an, .int .i64 bn, .int .i64 cn, .int .i64 i] 25)).alloc (.cells #[.int .u64 r0, .int .u64 r1, .int .u64 r2, .int .u64 r3, .int .u64 r4, .int .u64 r5, .int .u64 r6, .int .u64 r7] 63)).alloc (.cells #[.int .i64 0, .int .i64 0, .int .i64 0, .int .u64 0, .int .u64 0] 91)) (w.heap.size + 1 + 1) [.int .i64 0, .int .i64 0, .int .i64 0, .int .u64 0, .int .u64 0] 91) := Lib.hid (by
    have := Blk.new ((w.alloc (.cells #[.int .i64 15, .int .i64 an, .int .i64 bn, .int .i64 cn, .int .i64 i] 25)).alloc (.cells #[.int .u64 r0, .int .u64 r1, .int .u64 r2, .int .u64 r3, .int .u64 r4, .int .u64 r5, .int .u64 r6, .int .u64 r7] 63)) [.int .i64 0, .int .i64 0, .int .i64 0, .int .u64 0, .int .u64 0] 91; simpa using this)
  have HC := Lib.hid ((((Chg.refl [] w).alloc (.cells #[.int .i64 15, .int .i64 an, .int .i64 bn, .int .i64 cn, .int .i64 i] 25)).alloc (.cells #[.int .u64 r0, .int .u64 r1, .int .u64 r2, .int .u64 r3, .int .u64 r4, .int .u64 r5, .int .u64 r6, .int .u64 r7] 63)).alloc (.cells #[.int .i64 0, .int .i64 0, .int .i64 0, .int .u64 0, .int .u64 0] 91))
  have HXYZ := And.intro (Lib.hid hx) (And.intro (Lib.hid hy) (Lib.hid hz))
  clear hx hy hz
  have hi0 : (((w.alloc (.cells #[.int .i64 15, .int .i64 an, .int .i64 bn, .int .i64 cn, .int .i64 i] 25)).alloc (.cells #[.int .u64 r0, .int .u64 r1, .int .u64 r2, .int .u64 r3, .int .u64 r4, .int .u64 r5, .int .u64 r6, .int .u64 r7] 63)).alloc (.cells #[.int .i64 0, .int .i64 0, .int .i64 0, .int .u64 0, .int .u64 0] 91)).cell? ⟨w.heap.size, 0, none⟩ = some (.int .i64 15) := HI.out.cell 0
  go_enter Try.func64, Try.ntmps64
  go_wp2_with fail
  refine (ShapeOf_15 _).mono ?_
  rintro e w1 ⟨s, rfl, hx⟩
  replace HI := Lib.hid ((hx.blk HI.out (by simp)).alloc (.cells #[.string s, .bool true, .bool true, .bool false, .bool true] 95))
  replace HR := Lib.hid ((hx.blk HR.out (by simp)).alloc (.cells #[.string s, .bool true, .bool true, .bool false, .bool true] 95))
  replace HE := Lib.hid ((hx.blk HE.out (by simp)).alloc (.cells #[.string s, .bool true, .bool true, .bool false, .bool true] 95))
  have HS := Lib.hid (Blk.new w1 [.string s, .bool true, .bool true, .bool false, .bool true] 95)
  replace HC := Lib.hid ((HC.out.trans hx).alloc (.cells #[.string s, .bool true, .bool true, .bool false, .bool true] 95))
  clear hx hi0
  have j0 : (w1.alloc (.cells #[.string s, .bool true, .bool true, .bool false, .bool true] 95)).cell? ⟨w.heap.size, 0, none⟩ = some (.int .i64 15) := HI.out.cell 0
  have j1 : (w1.alloc (.cells #[.string s, .bool true, .bool true, .bool false, .bool true] 95)).cell? ⟨w.heap.size, 1, none⟩ = some (.int .i64 an) := HI.out.cell 1
  have j2 : (w1.alloc (.cells #[.string s, .bool true, .bool true, .bool false, .bool true] 95)).cell? ⟨w.heap.size, 2, none⟩ = some (.int .i64 bn) := HI.out.cell 2
  have j3 : (w1.alloc (.cells #[.string s, .bool true, .bool true, .bool false, .bool true] 95)).cell? ⟨w.heap.size, 3, none⟩ = some (.int .i64 cn) := HI.out.cell 3
  have j4 : (w1.alloc (.cells #[.string s, .bool true, .bool true, .bool false, .bool true] 95)).cell? ⟨w.heap.size, 4, none⟩ = some (.int .i64 i) := HI.out.cell 4
  have jl : w.heap.size < (w1.alloc (.cells #[.string s, .bool true, .bool true, .bool false, .bool true] 95)).heap.size := HI.out.lt
  go_wp2_with fail
  refine (Legal_15 _ an bn cn i (by omega) (by omega) (by omega) (by omega) (by omega) (by omega)).mono ?_
  rintro e w2 ⟨rfl, hx⟩
  replace HI := Lib.hid (hx.blk HI.out (by simp))
  replace HR := Lib.hid (hx.blk HR.out (by simp))
  replace HE := Lib.hid (hx.blk HE.out (by simp))
  replace HS := Lib.hid (hx.blk HS.out (by simp))
  replace HC := Lib.hid (HC.out.trans hx)
  clear hx j0 j1 j2 j3 j4 jl
  have j0 : w2.cell? ⟨w.heap.size, 0, none⟩ = some (.int .i64 15) := HI.out.cell 0
  have j1 : w2.cell? ⟨w.heap.size, 1, none⟩ = some (.int .i64 an) := HI.out.cell 1
  have j2 : w2.cell? ⟨w.heap.size, 2, none⟩ = some (.int .i64 bn) := HI.out.cell 2
  have j3 : w2.cell? ⟨w.heap.size, 3, none⟩ = some (.int .i64 cn) := HI.out.cell 3
  have j4 : w2.cell? ⟨w.heap.size, 4, none⟩ = some (.int .i64 i) := HI.out.cell 4
  have m0 : w2.cell? ⟨w.heap.size + 1, an, none⟩ = some (.int .u64 x) := (reg_cell HR.out (by assumption)).trans (by rw [HXYZ.1.out])
  have m1 : w2.cell? ⟨w.heap.size + 1, bn, none⟩ = some (.int .u64 y) := (reg_cell HR.out (by assumption)).trans (by rw [HXYZ.2.1.out])
  have m2 : w2.cell? ⟨w.heap.size + 1, cn, none⟩ = some (.int .u64 z) := (reg_cell HR.out (by assumption)).trans (by rw [HXYZ.2.2.out])
  have n0 : w2.cell? ⟨w.heap.size + 1 + 1, 0, none⟩ = some (.int .i64 0) := HE.out.cell 0
  have f0 : w2.frozen? ⟨w.heap.size + 1 + 1, 0, none⟩ = false := HE.out.free 0
  have n1 : w2.cell? ⟨w.heap.size + 1 + 1, 1, none⟩ = some (.int .i64 0) := HE.out.cell 1
  have f1 : w2.frozen? ⟨w.heap.size + 1 + 1, 1, none⟩ = false := HE.out.free 1
  have n2 : w2.cell? ⟨w.heap.size + 1 + 1, 2, none⟩ = some (.int .i64 0) := HE.out.cell 2
  have f2 : w2.frozen? ⟨w.heap.size + 1 + 1, 2, none⟩ = false := HE.out.free 2
  have n3 : w2.cell? ⟨w.heap.size + 1 + 1, 3, none⟩ = some (.int .u64 0) := HE.out.cell 3
  have f3 : w2.frozen? ⟨w.heap.size + 1 + 1, 3, none⟩ = false := HE.out.free 3
  have n4 : w2.cell? ⟨w.heap.size + 1 + 1, 4, none⟩ = some (.int .u64 0) := HE.out.cell 4
  have f4 : w2.frozen? ⟨w.heap.size + 1 + 1, 4, none⟩ = false := HE.out.free 4
  have s0 : w2.cell? ⟨w1.heap.size, 1, none⟩ = some (.bool true) := HS.out.cell 1
  have s1 : w2.cell? ⟨w1.heap.size, 2, none⟩ = some (.bool true) := HS.out.cell 2
  have s2 : w2.cell? ⟨w1.heap.size, 3, none⟩ = some (.bool false) := HS.out.cell 3
  have l0 : w.heap.size < w2.heap.size := HI.out.lt
  have l1 : w.heap.size + 1 < w2.heap.size := HR.out.lt
  have l2 : w.heap.size + 1 + 1 < w2.heap.size := HE.out.lt
  have l3 : w1.heap.size < w2.heap.size := HS.out.lt
  have t0 := HE.out
  have t1 := t0.set 0 (.int .i64 (2))
  have c0 : (w2.setCell ⟨w.heap.size + 1 + 1, 0, none⟩ (.int .i64 (2))).cell? ⟨w.heap.size + 1 + 1, 0, none⟩ = some (.int .i64 (2)) := t1.cell 0
  have t2 := t1.set 1 (.int .i64 (i))
  have c1 : ((w2.setCell ⟨w.heap.size + 1 + 1, 0, none⟩ (.int .i64 (2))).setCell ⟨w.heap.size + 1 + 1, 1, none⟩ (.int .i64 (i))).cell? ⟨w.heap.size + 1 + 1, 1, none⟩ = some (.int .i64 (i)) := t2.cell 1
  have t3 := t2.set 2 (.int .i64 (0))
  have c2 : (((w2.setCell ⟨w.heap.size + 1 + 1, 0, none⟩ (.int .i64 (2))).setCell ⟨w.heap.size + 1 + 1, 1, none⟩ (.int .i64 (i))).setCell ⟨w.heap.size + 1 + 1, 2, none⟩ (.int .i64 (0))).cell? ⟨w.heap.size + 1 + 1, 2, none⟩ = some (.int .i64 (0)) := t3.cell 2
  have t4 := t3.set 3 (.int .u64 (0))
  have c3 : ((((w2.setCell ⟨w.heap.size + 1 + 1, 0, none⟩ (.int .i64 (2))).setCell ⟨w.heap.size + 1 + 1, 1, none⟩ (.int .i64 (i))).setCell ⟨w.heap.size + 1 + 1, 2, none⟩ (.int .i64 (0))).setCell ⟨w.heap.size + 1 + 1, 3, none⟩ (.int .u64 (0))).cell? ⟨w.heap.size + 1 + 1, 3, none⟩ = some (.int .u64 (0)) := t4.cell 3
  have t5 := t4.set 4 (.int .u64 (0))
  have c4 : (((((w2.setCell ⟨w.heap.size + 1 + 1, 0, none⟩ (.int .i64 (2))).setCell ⟨w.heap.size + 1 + 1, 1, none⟩ (.int .i64 (i))).setCell ⟨w.heap.size + 1 + 1, 2, none⟩ (.int .i64 (0))).setCell ⟨w.heap.size + 1 + 1, 3, none⟩ (.int .u64 (0))).setCell ⟨w.heap.size + 1 + 1, 4, none⟩ (.int .u64 (0))).cell? ⟨w.heap.size + 1 + 1, 4, none⟩ = some (.int .u64 (0)) := t5.cell 4
  have HF := And.intro (Lib.hid c0) (And.intro (Lib.hid c1) (And.intro (Lib.hid c2) (And.intro (Lib.hid c3) (Lib.hid c4))))
  clear t0 t1 t2 t3 t4 t5 c0 c1 c2 c3 c4
  go_wp2_with fail
  refine bodyPost_ret (v := .agg #[.int .i64 (2), .int .i64 (i), .int .i64 (0), .int .u64 (0), .int .u64 (0)]) ?_ rfl ⟨rfl, ?_⟩
  · simp [results, Try.results64, go_sem, HF.1.out, HF.2.1.out, HF.2.2.1.out, HF.2.2.2.1.out, HF.2.2.2.2.out, l2]
  · have h2 := HC.out
    have hb2 : ¬ w.heap.size + 1 + 1 < w.heap.size := by omega
    repeat (first | with_reducible exact h2 | with_reducible refine Chg.setCell ?_ (fun h => absurd h hb2) _ | with_reducible refine Chg.alloc ?_ _)

set_option maxHeartbeats 2000000 in
theorem Do_16y (w : World) (an bn cn : Nat) (i pc x y z : Int) (r0 r1 r2 r3 r4 r5 r6 r7 : Int) (a1 : an < 8) (b1 : bn < 8) (c1 : cn < 8) (p0 : 0 ≤ pc) (p1 : pc < 1024) (hx : rg [r0, r1, r2, r3, r4, r5, r6, r7] an = x) (hy : rg [r0, r1, r2, r3, r4, r5, r6, r7] bn = y) (hz : rg [r0, r1, r2, r3, r4, r5, r6, r7] cn = z) (i0 : 0 ≤ i) (i1 : i ≤ 1024) (hq : decide (x < y) = true) :
    Calls Try.prog 64 #[.agg #[.int .i64 16, .int .i64 an, .int .i64 bn, .int .i64 cn, .int .i64 i], .agg #[.int .u64 r0, .int .u64 r1, .int .u64 r2, .int .u64 r3, .int .u64 r4, .int .u64 r5, .int .u64 r6, .int .u64 r7], .int .i64 pc] w fun e w' => e = .returned (.agg #[.int .i64 (2), .int .i64 (i), .int .i64 (0), .int .u64 (0), .int .u64 (0)]) ∧ Chg [] w w' := by
  have HI := Lib.hid (((Blk.new w [.int .i64 16, .int .i64 an, .int .i64 bn, .int .i64 cn, .int .i64 i] 25).alloc (.cells #[.int .u64 r0, .int .u64 r1, .int .u64 r2, .int .u64 r3, .int .u64 r4, .int .u64 r5, .int .u64 r6, .int .u64 r7] 63)).alloc (.cells #[.int .i64 0, .int .i64 0, .int .i64 0, .int .u64 0, .int .u64 0] 91))
  have HR : Hid (Blk (((w.alloc (.cells #[.int .i64 16, .int .i64 an, .int .i64 bn, .int .i64 cn, .int .i64 i] 25)).alloc (.cells #[.int .u64 r0, .int .u64 r1, .int .u64 r2, .int .u64 r3, .int .u64 r4, .int .u64 r5, .int .u64 r6, .int .u64 r7] 63)).alloc (.cells #[.int .i64 0, .int .i64 0, .int .i64 0, .int .u64 0, .int .u64 0] 91)) (w.heap.size + 1) [.int .u64 r0, .int .u64 r1, .int .u64 r2, .int .u64 r3, .int .u64 r4, .int .u64 r5, .int .u64 r6, .int .u64 r7] 63) := Lib.hid (by
    have := (Blk.new (w.alloc (.cells #[.int .i64 16, .int .i64 an, .int .i64 bn, .int .i64 cn, .int .i64 i] 25)) [.int .u64 r0, .int .u64 r1, .int .u64 r2, .int .u64 r3, .int .u64 r4, .int .u64 r5, .int .u64 r6, .int .u64 r7] 63).alloc (.cells #[.int .i64 0, .int .i64 0, .int .i64 0, .int .u64 0, .int .u64 0] 91); simpa using this)
  have HE : Hid (Blk (((w.alloc (.cells #[.int .i64 16, .int .i64 an, .int .i64 bn, .int .i64 cn, .int .i64 i] 25)).alloc (.cells #[.int .u64 r0, .int .u64 r1, .int .u64 r2, .int .u64 r3, .int .u64 r4, .int .u64 r5, .int .u64 r6, .int .u64 r7] 63)).alloc (.cells #[.int .i64 0, .int .i64 0, .int .i64 0, .int .u64 0, .int .u64 0] 91)) (w.heap.size + 1 + 1) [.int .i64 0, .int .i64 0, .int .i64 0, .int .u64 0, .int .u64 0] 91) := Lib.hid (by
    have := Blk.new ((w.alloc (.cells #[.int .i64 16, .int .i64 an, .int .i64 bn, .int .i64 cn, .int .i64 i] 25)).alloc (.cells #[.int .u64 r0, .int .u64 r1, .int .u64 r2, .int .u64 r3, .int .u64 r4, .int .u64 r5, .int .u64 r6, .int .u64 r7] 63)) [.int .i64 0, .int .i64 0, .int .i64 0, .int .u64 0, .int .u64 0] 91; simpa using this)
  have HC := Lib.hid ((((Chg.refl [] w).alloc (.cells #[.int .i64 16, .int .i64 an, .int .i64 bn, .int .i64 cn, .int .i64 i] 25)).alloc (.cells #[.int .u64 r0, .int .u64 r1, .int .u64 r2, .int .u64 r3, .int .u64 r4, .int .u64 r5, .int .u64 r6, .int .u64 r7] 63)).alloc (.cells #[.int .i64 0, .int .i64 0, .int .i64 0, .int .u64 0, .int .u64 0] 91))
  have HXYZ := And.intro (Lib.hid hx) (And.intro (Lib.hid hy) (Lib.hid hz))
  clear hx hy hz
  have hi0 : (((w.alloc (.cells #[.int .i64 16, .int .i64 an, .int .i64 bn, .int .i64 cn, .int .i64 i] 25)).alloc (.cells #[.int .u64 r0, .int .u64 r1, .int .u64 r2, .int .u64 r3, .int .u64 r4, .int .u64 r5, .int .u64 r6, .int .u64 r7] 63)).alloc (.cells #[.int .i64 0, .int .i64 0, .int .i64 0, .int .u64 0, .int .u64 0] 91)).cell? ⟨w.heap.size, 0, none⟩ = some (.int .i64 16) := HI.out.cell 0
  go_enter Try.func64, Try.ntmps64
  go_wp2_with fail
  refine (ShapeOf_16 _).mono ?_
  rintro e w1 ⟨s, rfl, hx⟩
  replace HI := Lib.hid ((hx.blk HI.out (by simp)).alloc (.cells #[.string s, .bool true, .bool true, .bool false, .bool true] 95))
  replace HR := Lib.hid ((hx.blk HR.out (by simp)).alloc (.cells #[.string s, .bool true, .bool true, .bool false, .bool true] 95))
  replace HE := Lib.hid ((hx.blk HE.out (by simp)).alloc (.cells #[.string s, .bool true, .bool true, .bool false, .bool true] 95))
  have HS := Lib.hid (Blk.new w1 [.string s, .bool true, .bool true, .bool false, .bool true] 95)
  replace HC := Lib.hid ((HC.out.trans hx).alloc (.cells #[.string s, .bool true, .bool true, .bool false, .bool true] 95))
  clear hx hi0
  have j0 : (w1.alloc (.cells #[.string s, .bool true, .bool true, .bool false, .bool true] 95)).cell? ⟨w.heap.size, 0, none⟩ = some (.int .i64 16) := HI.out.cell 0
  have j1 : (w1.alloc (.cells #[.string s, .bool true, .bool true, .bool false, .bool true] 95)).cell? ⟨w.heap.size, 1, none⟩ = some (.int .i64 an) := HI.out.cell 1
  have j2 : (w1.alloc (.cells #[.string s, .bool true, .bool true, .bool false, .bool true] 95)).cell? ⟨w.heap.size, 2, none⟩ = some (.int .i64 bn) := HI.out.cell 2
  have j3 : (w1.alloc (.cells #[.string s, .bool true, .bool true, .bool false, .bool true] 95)).cell? ⟨w.heap.size, 3, none⟩ = some (.int .i64 cn) := HI.out.cell 3
  have j4 : (w1.alloc (.cells #[.string s, .bool true, .bool true, .bool false, .bool true] 95)).cell? ⟨w.heap.size, 4, none⟩ = some (.int .i64 i) := HI.out.cell 4
  have jl : w.heap.size < (w1.alloc (.cells #[.string s, .bool true, .bool true, .bool false, .bool true] 95)).heap.size := HI.out.lt
  go_wp2_with fail
  refine (Legal_16 _ an bn cn i (by omega) (by omega) (by omega) (by omega) (by omega) (by omega)).mono ?_
  rintro e w2 ⟨rfl, hx⟩
  replace HI := Lib.hid (hx.blk HI.out (by simp))
  replace HR := Lib.hid (hx.blk HR.out (by simp))
  replace HE := Lib.hid (hx.blk HE.out (by simp))
  replace HS := Lib.hid (hx.blk HS.out (by simp))
  replace HC := Lib.hid (HC.out.trans hx)
  clear hx j0 j1 j2 j3 j4 jl
  have j0 : w2.cell? ⟨w.heap.size, 0, none⟩ = some (.int .i64 16) := HI.out.cell 0
  have j1 : w2.cell? ⟨w.heap.size, 1, none⟩ = some (.int .i64 an) := HI.out.cell 1
  have j2 : w2.cell? ⟨w.heap.size, 2, none⟩ = some (.int .i64 bn) := HI.out.cell 2
  have j3 : w2.cell? ⟨w.heap.size, 3, none⟩ = some (.int .i64 cn) := HI.out.cell 3
  have j4 : w2.cell? ⟨w.heap.size, 4, none⟩ = some (.int .i64 i) := HI.out.cell 4
  have m0 : w2.cell? ⟨w.heap.size + 1, an, none⟩ = some (.int .u64 x) := (reg_cell HR.out (by assumption)).trans (by rw [HXYZ.1.out])
  have m1 : w2.cell? ⟨w.heap.size + 1, bn, none⟩ = some (.int .u64 y) := (reg_cell HR.out (by assumption)).trans (by rw [HXYZ.2.1.out])
  have m2 : w2.cell? ⟨w.heap.size + 1, cn, none⟩ = some (.int .u64 z) := (reg_cell HR.out (by assumption)).trans (by rw [HXYZ.2.2.out])
  have n0 : w2.cell? ⟨w.heap.size + 1 + 1, 0, none⟩ = some (.int .i64 0) := HE.out.cell 0
  have f0 : w2.frozen? ⟨w.heap.size + 1 + 1, 0, none⟩ = false := HE.out.free 0
  have n1 : w2.cell? ⟨w.heap.size + 1 + 1, 1, none⟩ = some (.int .i64 0) := HE.out.cell 1
  have f1 : w2.frozen? ⟨w.heap.size + 1 + 1, 1, none⟩ = false := HE.out.free 1
  have n2 : w2.cell? ⟨w.heap.size + 1 + 1, 2, none⟩ = some (.int .i64 0) := HE.out.cell 2
  have f2 : w2.frozen? ⟨w.heap.size + 1 + 1, 2, none⟩ = false := HE.out.free 2
  have n3 : w2.cell? ⟨w.heap.size + 1 + 1, 3, none⟩ = some (.int .u64 0) := HE.out.cell 3
  have f3 : w2.frozen? ⟨w.heap.size + 1 + 1, 3, none⟩ = false := HE.out.free 3
  have n4 : w2.cell? ⟨w.heap.size + 1 + 1, 4, none⟩ = some (.int .u64 0) := HE.out.cell 4
  have f4 : w2.frozen? ⟨w.heap.size + 1 + 1, 4, none⟩ = false := HE.out.free 4
  have s0 : w2.cell? ⟨w1.heap.size, 1, none⟩ = some (.bool true) := HS.out.cell 1
  have s1 : w2.cell? ⟨w1.heap.size, 2, none⟩ = some (.bool true) := HS.out.cell 2
  have s2 : w2.cell? ⟨w1.heap.size, 3, none⟩ = some (.bool false) := HS.out.cell 3
  have l0 : w.heap.size < w2.heap.size := HI.out.lt
  have l1 : w.heap.size + 1 < w2.heap.size := HR.out.lt
  have l2 : w.heap.size + 1 + 1 < w2.heap.size := HE.out.lt
  have l3 : w1.heap.size < w2.heap.size := HS.out.lt
  have t0 := HE.out
  have t1 := t0.set 0 (.int .i64 (2))
  have c0 : (w2.setCell ⟨w.heap.size + 1 + 1, 0, none⟩ (.int .i64 (2))).cell? ⟨w.heap.size + 1 + 1, 0, none⟩ = some (.int .i64 (2)) := t1.cell 0
  have t2 := t1.set 1 (.int .i64 (i))
  have c1 : ((w2.setCell ⟨w.heap.size + 1 + 1, 0, none⟩ (.int .i64 (2))).setCell ⟨w.heap.size + 1 + 1, 1, none⟩ (.int .i64 (i))).cell? ⟨w.heap.size + 1 + 1, 1, none⟩ = some (.int .i64 (i)) := t2.cell 1
  have t3 := t2.set 2 (.int .i64 (0))
  have c2 : (((w2.setCell ⟨w.heap.size + 1 + 1, 0, none⟩ (.int .i64 (2))).setCell ⟨w.heap.size + 1 + 1, 1, none⟩ (.int .i64 (i))).setCell ⟨w.heap.size + 1 + 1, 2, none⟩ (.int .i64 (0))).cell? ⟨w.heap.size + 1 + 1, 2, none⟩ = some (.int .i64 (0)) := t3.cell 2
  have t4 := t3.set 3 (.int .u64 (0))
  have c3 : ((((w2.setCell ⟨w.heap.size + 1 + 1, 0, none⟩ (.int .i64 (2))).setCell ⟨w.heap.size + 1 + 1, 1, none⟩ (.int .i64 (i))).setCell ⟨w.heap.size + 1 + 1, 2, none⟩ (.int .i64 (0))).setCell ⟨w.heap.size + 1 + 1, 3, none⟩ (.int .u64 (0))).cell? ⟨w.heap.size + 1 + 1, 3, none⟩ = some (.int .u64 (0)) := t4.cell 3
  have t5 := t4.set 4 (.int .u64 (0))
  have c4 : (((((w2.setCell ⟨w.heap.size + 1 + 1, 0, none⟩ (.int .i64 (2))).setCell ⟨w.heap.size + 1 + 1, 1, none⟩ (.int .i64 (i))).setCell ⟨w.heap.size + 1 + 1, 2, none⟩ (.int .i64 (0))).setCell ⟨w.heap.size + 1 + 1, 3, none⟩ (.int .u64 (0))).setCell ⟨w.heap.size + 1 + 1, 4, none⟩ (.int .u64 (0))).cell? ⟨w.heap.size + 1 + 1, 4, none⟩ = some (.int .u64 (0)) := t5.cell 4
  have HF := And.intro (Lib.hid c0) (And.intro (Lib.hid c1) (And.intro (Lib.hid c2) (And.intro (Lib.hid c3) (Lib.hid c4))))
  clear t0 t1 t2 t3 t4 t5 c0 c1 c2 c3 c4
  go_wp2_with fail
  refine bodyPost_ret (v := .agg #[.int .i64 (2), .int .i64 (i), .int .i64 (0), .int .u64 (0), .int .u64 (0)]) ?_ rfl ⟨rfl, ?_⟩
  · simp [results, Try.results64, go_sem, HF.1.out, HF.2.1.out, HF.2.2.1.out, HF.2.2.2.1.out, HF.2.2.2.2.out, l2]
  · have h2 := HC.out
    have hb2 : ¬ w.heap.size + 1 + 1 < w.heap.size := by omega
    repeat (first | with_reducible exact h2 | with_reducible refine Chg.setCell ?_ (fun h => absurd h hb2) _ | with_reducible refine Chg.alloc ?_ _)

set_option maxHeartbeats 2000000 in
theorem Do_16n (w : World) (an bn cn : Nat) (i pc x y z : Int) (r0 r1 r2 r3 r4 r5 r6 r7 : Int) (a1 : an < 8) (b1 : bn < 8) (c1 : cn < 8) (p0 : 0 ≤ pc) (p1 : pc < 1024) (hx : rg [r0, r1, r2, r3, r4, r5, r6, r7] an = x) (hy : rg [r0, r1, r2, r3, r4, r5, r6, r7] bn = y) (hz : rg [r0, r1, r2, r3, r4, r5, r6, r7] cn = z) (i0 : 0 ≤ i) (i1 : i ≤ 1024) (hq : decide (x < y) = false) :
    Calls Try.prog 64 #[.agg #[.int .i64 16, .int .i64 an, .int .i64 bn, .int .i64 cn, .int .i64 i], .agg #[.int .u64 r0, .int .u64 r1, .int .u64 r2, .int .u64 r3, .int .u64 r4, .int .u64 r5, .int .u64 r6, .int .u64 r7], .int .i64 pc] w fun e w' => e = .returned (.agg #[.int .i64 (2), .int .i64 (pc + 1), .int .i64 (0), .int .u64 (0), .int .u64 (0)]) ∧ Chg [] w w' := by
  have HI := Lib.hid (((Blk.new w [.int .i64 16, .int .i64 an, .int .i64 bn, .int .i64 cn, .int .i64 i] 25).alloc (.cells #[.int .u64 r0, .int .u64 r1, .int .u64 r2, .int .u64 r3, .int .u64 r4, .int .u64 r5, .int .u64 r6, .int .u64 r7] 63)).alloc (.cells #[.int .i64 0, .int .i64 0, .int .i64 0, .int .u64 0, .int .u64 0] 91))
  have HR : Hid (Blk (((w.alloc (.cells #[.int .i64 16, .int .i64 an, .int .i64 bn, .int .i64 cn, .int .i64 i] 25)).alloc (.cells #[.int .u64 r0, .int .u64 r1, .int .u64 r2, .int .u64 r3, .int .u64 r4, .int .u64 r5, .int .u64 r6, .int .u64 r7] 63)).alloc (.cells #[.int .i64 0, .int .i64 0, .int .i64 0, .int .u64 0, .int .u64 0] 91)) (w.heap.size + 1) [.int .u64 r0, .int .u64 r1, .int .u64 r2, .int .u64 r3, .int .u64 r4, .int .u64 r5, .int .u64 r6, .int .u64 r7] 63) := Lib.hid (by
    have := (Blk.new (w.alloc (.cells #[.int .i64 16, .int .i64 an, .int .i64 bn, .int .i64 cn, .int .i64 i] 25)) [.int .u64 r0, .int .u64 r1, .int .u64 r2, .int .u64 r3, .int .u64 r4, .int .u64 r5, .int .u64 r6, .int .u64 r7] 63).alloc (.cells #[.int .i64 0, .int .i64 0, .int .i64 0, .int .u64 0, .int .u64 0] 91); simpa using this)
  have HE : Hid (Blk (((w.alloc (.cells #[.int .i64 16, .int .i64 an, .int .i64 bn, .int .i64 cn, .int .i64 i] 25)).alloc (.cells #[.int .u64 r0, .int .u64 r1, .int .u64 r2, .int .u64 r3, .int .u64 r4, .int .u64 r5, .int .u64 r6, .int .u64 r7] 63)).alloc (.cells #[.int .i64 0, .int .i64 0, .int .i64 0, .int .u64 0, .int .u64 0] 91)) (w.heap.size + 1 + 1) [.int .i64 0, .int .i64 0, .int .i64 0, .int .u64 0, .int .u64 0] 91) := Lib.hid (by
    have := Blk.new ((w.alloc (.cells #[.int .i64 16, .int .i64 an, .int .i64 bn, .int .i64 cn, .int .i64 i] 25)).alloc (.cells #[.int .u64 r0, .int .u64 r1, .int .u64 r2, .int .u64 r3, .int .u64 r4, .int .u64 r5, .int .u64 r6, .int .u64 r7] 63)) [.int .i64 0, .int .i64 0, .int .i64 0, .int .u64 0, .int .u64 0] 91; simpa using this)
  have HC := Lib.hid ((((Chg.refl [] w).alloc (.cells #[.int .i64 16, .int .i64 an, .int .i64 bn, .int .i64 cn, .int .i64 i] 25)).alloc (.cells #[.int .u64 r0, .int .u64 r1, .int .u64 r2, .int .u64 r3, .int .u64 r4, .int .u64 r5, .int .u64 r6, .int .u64 r7] 63)).alloc (.cells #[.int .i64 0, .int .i64 0, .int .i64 0, .int .u64 0, .int .u64 0] 91))
  have HXYZ := And.intro (Lib.hid hx) (And.intro (Lib.hid hy) (Lib.hid hz))
  clear hx hy hz
  have hi0 : (((w.alloc (.cells #[.int .i64 16, .int .i64 an, .int .i64 bn, .int .i64 cn, .int .i64 i] 25)).alloc (.cells #[.int .u64 r0, .int .u64 r1, .int .u64 r2, .int .u64 r3, .int .u64 r4, .int .u64 r5, .int .u64 r6, .int .u64 r7] 63)).alloc (.cells #[.int .i64 0, .int .i64 0, .int .i64 0, .int .u64 0, .int .u64 0] 91)).cell? ⟨w.heap.size, 0, none⟩ = some (.int .i64 16) := HI.out.cell 0
  go_enter Try.func64, Try.ntmps64
  go_wp2_with fail
  refine (ShapeOf_16 _).mono ?_
  rintro e w1 ⟨s, rfl, hx⟩
  replace HI := Lib.hid ((hx.blk HI.out (by simp)).alloc (.cells #[.string s, .bool true, .bool true, .bool false, .bool true] 95))
  replace HR := Lib.hid ((hx.blk HR.out (by simp)).alloc (.cells #[.string s, .bool true, .bool true, .bool false, .bool true] 95))
  replace HE := Lib.hid ((hx.blk HE.out (by simp)).alloc (.cells #[.string s, .bool true, .bool true, .bool false, .bool true] 95))
  have HS := Lib.hid (Blk.new w1 [.string s, .bool true, .bool true, .bool false, .bool true] 95)
  replace HC := Lib.hid ((HC.out.trans hx).alloc (.cells #[.string s, .bool true, .bool true, .bool false, .bool true] 95))
  clear hx hi0
  have j0 : (w1.alloc (.cells #[.string s, .bool true, .bool true, .bool false, .bool true] 95)).cell? ⟨w.heap.size, 0, none⟩ = some (.int .i64 16) := HI.out.cell 0
  have j1 : (w1.alloc (.cells #[.string s, .bool true, .bool true, .bool false, .bool true] 95)).cell? ⟨w.heap.size, 1, none⟩ = some (.int .i64 an) := HI.out.cell 1
  have j2 : (w1.alloc (.cells #[.string s, .bool true, .bool true, .bool false, .bool true] 95)).cell? ⟨w.heap.size, 2, none⟩ = some (.int .i64 bn) := HI.out.cell 2
  have j3 : (w1.alloc (.cells #[.string s, .bool true, .bool true, .bool false, .bool true] 95)).cell? ⟨w.heap.size, 3, none⟩ = some (.int .i64 cn) := HI.out.cell 3
  have j4 : (w1.alloc (.cells #[.string s, .bool true, .bool true, .bool false, .bool true] 95)).cell? ⟨w.heap.size, 4, none⟩ = some (.int .i64 i) := HI.out.cell 4
  have jl : w.heap.size < (w1.alloc (.cells #[.string s, .bool true, .bool true, .bool false, .bool true] 95)).heap.size := HI.out.lt
  go_wp2_with fail
  refine (Legal_16 _ an bn cn i (by omega) (by omega) (by omega) (by omega) (by omega) (by omega)).mono ?_
  rintro e w2 ⟨rfl, hx⟩
  replace HI := Lib.hid (hx.blk HI.out (by simp))
  replace HR := Lib.hid (hx.blk HR.out (by simp))
  replace HE := Lib.hid (hx.blk HE.out (by simp))
  replace HS := Lib.hid (hx.blk HS.out (by simp))
  replace HC := Lib.hid (HC.out.trans hx)
  clear hx j0 j1 j2 j3 j4 jl
  have j0 : w2.cell? ⟨w.heap.size, 0, none⟩ = some (.int .i64 16) := HI.out.cell 0
  have j1 : w2.cell? ⟨w.heap.size, 1, none⟩ = some (.int .i64 an) := HI.out.cell 1
  have j2 : w2.cell? ⟨w.heap.size, 2, none⟩ = some (.int .i64 bn) := HI.out.cell 2
  have j3 : w2.cell? ⟨w.heap.size, 3, none⟩ = some (.int .i64 cn) := HI.out.cell 3
  have j4 : w2.cell? ⟨w.heap.size, 4, none⟩ = some (.int .i64 i) := HI.out.cell 4
  have m0 : w2.cell? ⟨w.heap.size + 1, an, none⟩ = some (.int .u64 x) := (reg_cell HR.out (by assumption)).trans (by rw [HXYZ.1.out])
  have m1 : w2.cell? ⟨w.heap.size + 1, bn, none⟩ = some (.int .u64 y) := (reg_cell HR.out (by assumption)).trans (by rw [HXYZ.2.1.out])
  have m2 : w2.cell? ⟨w.heap.size + 1, cn, none⟩ = some (.int .u64 z) := (reg_cell HR.out (by assumption)).trans (by rw [HXYZ.2.2.out])
  have n0 : w2.cell? ⟨w.heap.size + 1 + 1, 0, none⟩ = some (.int .i64 0) := HE.out.cell 0
  have f0 : w2.frozen? ⟨w.heap.size + 1 + 1, 0, none⟩ = false := HE.out.free 0
  have n1 : w2.cell? ⟨w.heap.size + 1 + 1, 1, none⟩ = some (.int .i64 0) := HE.out.cell 1
  have f1 : w2.frozen? ⟨w.heap.size + 1 + 1, 1, none⟩ = false := HE.out.free 1
  have n2 : w2.cell? ⟨w.heap.size + 1 + 1, 2, none⟩ = some (.int .i64 0) := HE.out.cell 2
  have f2 : w2.frozen? ⟨w.heap.size + 1 + 1, 2, none⟩ = false := HE.out.free 2
  have n3 : w2.cell? ⟨w.heap.size + 1 + 1, 3, none⟩ = some (.int .u64 0) := HE.out.cell 3
  have f3 : w2.frozen? ⟨w.heap.size + 1 + 1, 3, none⟩ = false := HE.out.free 3
  have n4 : w2.cell? ⟨w.heap.size + 1 + 1, 4, none⟩ = some (.int .u64 0) := HE.out.cell 4
  have f4 : w2.frozen? ⟨w.heap.size + 1 + 1, 4, none⟩ = false := HE.out.free 4
  have s0 : w2.cell? ⟨w1.heap.size, 1, none⟩ = some (.bool true) := HS.out.cell 1
  have s1 : w2.cell? ⟨w1.heap.size, 2, none⟩ = some (.bool true) := HS.out.cell 2
  have s2 : w2.cell? ⟨w1.heap.size, 3, none⟩ = some (.bool false) := HS.out.cell 3
  have l0 : w.heap.size < w2.heap.size := HI.out.lt
  have l1 : w.heap.size + 1 < w2.heap.size := HR.out.lt
  have l2 : w.heap.size + 1 + 1 < w2.heap.size := HE.out.lt
  have l3 : w1.heap.size < w2.heap.size := HS.out.lt
  have t0 := HE.out
  have t1 := t0.set 0 (.int .i64 (2))
  have c0 : (w2.setCell ⟨w.heap.size + 1 + 1, 0, none⟩ (.int .i64 (2))).cell? ⟨w.heap.size + 1 + 1, 0, none⟩ = some (.int .i64 (2)) := t1.cell 0
  have t2 := t1.set 1 (.int .i64 (pc + 1))
  have c1 : ((w2.setCell ⟨w.heap.size + 1 + 1, 0, none⟩ (.int .i64 (2))).setCell ⟨w.heap.size + 1 + 1, 1, none⟩ (.int .i64 (pc + 1))).cell? ⟨w.heap.size + 1 + 1, 1, none⟩ = some (.int .i64 (pc + 1)) := t2.cell 1
  have t3 := t2.set 2 (.int .i64 (0))
  have c2 : (((w2.setCell ⟨w.heap.size + 1 + 1, 0, none⟩ (.int .i64 (2))).setCell ⟨w.heap.size + 1 + 1, 1, none⟩ (.int .i64 (pc + 1))).setCell ⟨w.heap.size + 1 + 1, 2, none⟩ (.int .i64 (0))).cell? ⟨w.heap.size + 1 + 1, 2, none⟩ = some (.int .i64 (0)) := t3.cell 2
  have t4 := t3.set 3 (.int .u64 (0))
  have c3 : ((((w2.setCell ⟨w.heap.size + 1 + 1, 0, none⟩ (.int .i64 (2))).setCell ⟨w.heap.size + 1 + 1, 1, none⟩ (.int .i64 (pc + 1))).setCell ⟨w.heap.size + 1 + 1, 2, none⟩ (.int .i64 (0))).setCell ⟨w.heap.size + 1 + 1, 3, none⟩ (.int .u64 (0))).cell? ⟨w.heap.size + 1 + 1, 3, none⟩ = some (.int .u64 (0)) := t4.cell 3
  have t5 := t4.set 4 (.int .u64 (0))
  have c4 : (((((w2.setCell ⟨w.heap.size + 1 + 1, 0, none⟩ (.int .i64 (2))).setCell ⟨w.heap.size + 1 + 1, 1, none⟩ (.int .i64 (pc + 1))).setCell ⟨w.heap.size + 1 + 1, 2, none⟩ (.int .i64 (0))).setCell ⟨w.heap.size + 1 + 1, 3, none⟩ (.int .u64 (0))).setCell ⟨w.heap.size + 1 + 1, 4, none⟩ (.int .u64 (0))).cell? ⟨w.heap.size + 1 + 1, 4, none⟩ = some (.int .u64 (0)) := t5.cell 4
  have HF := And.intro (Lib.hid c0) (And.intro (Lib.hid c1) (And.intro (Lib.hid c2) (And.intro (Lib.hid c3) (Lib.hid c4))))
  clear t0 t1 t2 t3 t4 t5 c0 c1 c2 c3 c4
  go_wp2_with fail
  refine bodyPost_ret (v := .agg #[.int .i64 (2), .int .i64 (pc + 1), .int .i64 (0), .int .u64 (0), .int .u64 (0)]) ?_ rfl ⟨rfl, ?_⟩
  · simp [results, Try.results64, go_sem, HF.1.out, HF.2.1.out, HF.2.2.1.out, HF.2.2.2.1.out, HF.2.2.2.2.out, l2]
  · have h2 := HC.out
    have hb2 : ¬ w.heap.size + 1 + 1 < w.heap.size := by omega
    repeat (first | with_reducible exact h2 | with_reducible refine Chg.setCell ?_ (fun h => absurd h hb2) _ | with_reducible refine Chg.alloc ?_ _)

set_option maxHeartbeats 2000000 in
theorem Do_17 (w : World) (an bn cn : Nat) (i pc x y z : Int) (r0 r1 r2 r3 r4 r5 r6 r7 : Int) (a1 : an < 8) (b1 : bn < 8) (c1 : cn < 8) (p0 : 0 ≤ pc) (p1 : pc < 1024) (hx : rg [r0, r1, r2, r3, r4, r5, r6, r7] an = x) (hy : rg [r0, r1, r2, r3, r4, r5, r6, r7] bn = y) (hz : rg [r0, r1, r2, r3, r4, r5, r6, r7] cn = z) :
    Calls Try.prog 64 #[.agg #[.int .i64 17, .int .i64 an, .int .i64 bn, .int .i64 cn, .int .i64 i], .agg #[.int .u64 r0, .int .u64 r1, .int .u64 r2, .int .u64 r3, .int .u64 r4, .int .u64 r5, .int .u64 r6, .int .u64 r7], .int .i64 pc] w fun e w' => e = .returned (.agg #[.int .i64 (5), .int .i64 (pc + 1), .int .i64 (0), .int .u64 (0), .int .u64 (0)]) ∧ Chg [] w w' := by
  have HI := Lib.hid (((Blk.new w [.int .i64 17, .int .i64 an, .int .i64 bn, .int .i64 cn, .int .i64 i] 25).alloc (.cells #[.int .u64 r0, .int .u64 r1, .int .u64 r2, .int .u64 r3, .int .u64 r4, .int .u64 r5, .int .u64 r6, .int .u64 r7] 63)).alloc (.cells #[.int .i64 0, .int .i64 0, .int .i64 0, .int .u64 0, .int .u64 0] 91))
  have HR : Hid (Blk (((w.alloc (.cells #[.int .i64 17, .int .i64 an, .int .i64 bn, .int .i64 cn, .int .i64 i] 25)).alloc (.cells #[.int .u64 r0, .int .u64 r1, .int .u64 r2, .int .u64 r3, .int .u64 r4, .int .u64 r5, .int .u64 r6, .int .u64 r7] 63)).alloc (.cells #[.int .i64 0, .int .i64 0, .int .i64 0, .int .u64 0, .int .u64 0] 91)) (w.heap.size + 1) [.int .u64 r0, .int .u64 r1, .int .u64 r2, .int .u64 r3, .int .u64 r4, .int .u64 r5, .int .u64 r6, .int .u64 r7] 63) := Lib.hid (by
    have := (Blk.new (w.alloc (.cells #[.int .i64 17, .int .i64 an, .int .i64 bn, .int .i64 cn, .int .i64 i] 25)) [.int .u64 r0, .int .u64 r1, .int .u64 r2, .int .u64 r3, .int .u64 r4, .int .u64 r5, .int .u64 r6, .int .u64 r7] 63).alloc (.cells #[.int .i64 0, .int .i64 0, .int .i64 0, .int .u64 0, .int .u64 0] 91); simpa using this)
  have HE : Hid (Blk (((w.alloc (.cells #[.int .i64 17, .int .i64 an, .int .i64 bn, .int .i64 cn, .int .i64 i] 25)).alloc (.cells #[.int .u64 r0, .int .u64 r1, .int .u64 r2, .int .u64 r3, .int .u64 r4, .int .u64 r5, .int .u64 r6, .int .u64 r7] 63)).alloc (.cells #[.int .i64 0, .int .i64 0, .int .i64 0, .int .u64 0, .int .u64 0] 91)) (w.heap.size + 1 + 1) [.int .i64 0, .int .i64 0, .int .i64 0, .int .u64 0, .int .u64 0] 91) := Lib.hid (by
    have := Blk.new ((w.alloc (.cells #[.int .i64 17, .int .i64 an, .int .i64 bn, .int .i64 cn, .int .i64 i] 25)).alloc (.cells #[.int .u64 r0, .int .u64 r1, .int .u64 r2, .int .u64 r3, .int .u64 r4, .int .u64 r5, .int .u64 r6, .int .u64 r7] 63)) [.int .i64 0, .int .i64 0, .int .i64 0, .int .u64 0, .int .u64 0] 91; simpa using this)
  have HC := Lib.hid ((((Chg.refl [] w).alloc (.cells #[.int .i64 17, .int .i64 an, .int .i64 bn, .int .i64 cn, .int .i64 i] 25)).alloc (.cells #[.int .u64 r0, .int .u64 r1, .int .u64 r2, .int .u64 r3, .int .u64 r4, .int .u64 r5, .int .u64 r6, .int .u64 r7] 63)).alloc (.cells #[.int .i64 0, .int .i64 0, .int .i64 0, .int .u64 0, .int .u64 0] 91))
  have HXYZ := And.intro (Lib.hid hx) (And.intro (Lib.hid hy) (Lib.hid hz))
  clear hx hy hz
  have hi0 : (((w.alloc (.cells #[.int .i64 17, .int .i64 an, .int .i64 bn, .int .i64 cn, .int .i64 i] 25)).alloc (.cells #[.int .u64 r0, .int .u64 r1, .int .u64 r2, .int .u64 r3, .int .u64 r4, .int .u64 r5, .int .u64 r6, .int .u64 r7] 63)).alloc (.cells #[.int .i64 0, .int .i64 0, .int .i64 0, .int .u64 0, .int .u64 0] 91)).cell? ⟨w.heap.size, 0, none⟩ = some (.int .i64 17) := HI.out.cell 0
  go_enter Try.func64, Try.ntmps64
  go_wp2_with fail
  refine (ShapeOf_17 _).mono ?_
  rintro e w1 ⟨s, rfl, hx⟩
  replace HI := Lib.hid ((hx.blk HI.out (by simp)).alloc (.cells #[.string s, .bool false, .bool false, .bool false, .bool false] 95))
  replace HR := Lib.hid ((hx.blk HR.out (by simp)).alloc (.cells #[.string s, .bool false, .bool false, .bool false, .bool false] 95))
  replace HE := Lib.hid ((hx.blk HE.out (by simp)).alloc (.cells #[.string s, .bool false, .bool false, .bool false, .bool false] 95))
  have HS := Lib.hid (Blk.new w1 [.string s, .bool false, .bool false, .bool false, .bool false] 95)
  replace HC := Lib.hid ((HC.out.trans hx).alloc (.cells #[.string s, .bool false, .bool false, .bool false, .bool false] 95))
  clear hx hi0
  have j0 : (w1.alloc (.cells #[.string s, .bool false, .bool false, .bool false, .bool false] 95)).cell? ⟨w.heap.size, 0, none⟩ = some (.int .i64 17) := HI.out.cell 0
  have j1 : (w1.alloc (.cells #[.string s, .bool false, .bool false, .bool false, .bool false] 95)).cell? ⟨w.heap.size, 1, none⟩ = some (.int .i64 an) := HI.out.cell 1
  have j2 : (w1.alloc (.cells #[.string s, .bool false, .bool false, .bool false, .bool false] 95)).cell? ⟨w.heap.size, 2, none⟩ = some (.int .i64 bn) := HI.out.cell 2
  have j3 : (w1.alloc (.cells #[.string s, .bool false, .bool false, .bool false, .bool false] 95)).cell? ⟨w.heap.size, 3, none⟩ = some (.int .i64 cn) := HI.out.cell 3
  have j4 : (w1.alloc (.cells #[.string s, .bool false, .bool false, .bool false, .bool false] 95)).cell? ⟨w.heap.size, 4, none⟩ = some (.int .i64 i) := HI.out.cell 4
  have jl : w.heap.size < (w1.alloc (.cells #[.string s, .bool false, .bool false, .bool false, .bool false] 95)).heap.size := HI.out.lt
  go_wp2_with fail
  refine (Legal_17 _ an bn cn i (by omega) (by omega) (by omega) (by omega) (by omega) (by omega)).mono ?_
  rintro e w2 ⟨rfl, hx⟩
  replace HI := Lib.hid (hx.blk HI.out (by simp))
  replace HR := Lib.hid (hx.blk HR.out (by simp))
  replace HE := Lib.hid (hx.blk HE.out (by simp))
  replace HS := Lib.hid (hx.blk HS.out (by simp))
  replace HC := Lib.hid (HC.out.trans hx)
  clear hx j0 j1 j2 j3 j4 jl
  have j0 : w2.cell? ⟨w.heap.size, 0, none⟩ = some (.int .i64 17) := HI.out.cell 0
  have j1 : w2.cell? ⟨w.heap.size, 1, none⟩ = some (.int .i64 an) := HI.out.cell 1
  have j2 : w2.cell? ⟨w.heap.size, 2, none⟩ = some (.int .i64 bn) := HI.out.cell 2
  have j3 : w2.cell? ⟨w.heap.size, 3, none⟩ = some (.int .i64 cn) := HI.out.cell 3
  have j4 : w2.cell? ⟨w.heap.size, 4, none⟩ = some (.int .i64 i) := HI.out.cell 4
  have m0 : w2.cell? ⟨w.heap.size + 1, an, none⟩ = some (.int .u64 x) := (reg_cell HR.out (by assumption)).trans (by rw [HXYZ.1.out])
  have m1 : w2.cell? ⟨w.heap.size + 1, bn, none⟩ = some (.int .u64 y) := (reg_cell HR.out (by assumption)).trans (by rw [HXYZ.2.1.out])
  have m2 : w2.cell? ⟨w.heap.size + 1, cn, none⟩ = some (.int .u64 z) := (reg_cell HR.out (by assumption)).trans (by rw [HXYZ.2.2.out])
  have n0 : w2.cell? ⟨w.heap.size + 1 + 1, 0, none⟩ = some (.int .i64 0) := HE.out.cell 0
  have f0 : w2.frozen? ⟨w.heap.size + 1 + 1, 0, none⟩ = false := HE.out.free 0
  have n1 : w2.cell? ⟨w.heap.size + 1 + 1, 1, none⟩ = some (.int .i64 0) := HE.out.cell 1
  have f1 : w2.frozen? ⟨w.heap.size + 1 + 1, 1, none⟩ = false := HE.out.free 1
  have n2 : w2.cell? ⟨w.heap.size + 1 + 1, 2, none⟩ = some (.int .i64 0) := HE.out.cell 2
  have f2 : w2.frozen? ⟨w.heap.size + 1 + 1, 2, none⟩ = false := HE.out.free 2
  have n3 : w2.cell? ⟨w.heap.size + 1 + 1, 3, none⟩ = some (.int .u64 0) := HE.out.cell 3
  have f3 : w2.frozen? ⟨w.heap.size + 1 + 1, 3, none⟩ = false := HE.out.free 3
  have n4 : w2.cell? ⟨w.heap.size + 1 + 1, 4, none⟩ = some (.int .u64 0) := HE.out.cell 4
  have f4 : w2.frozen? ⟨w.heap.size + 1 + 1, 4, none⟩ = false := HE.out.free 4
  have s0 : w2.cell? ⟨w1.heap.size, 1, none⟩ = some (.bool false) := HS.out.cell 1
  have s1 : w2.cell? ⟨w1.heap.size, 2, none⟩ = some (.bool false) := HS.out.cell 2
  have s2 : w2.cell? ⟨w1.heap.size, 3, none⟩ = some (.bool false) := HS.out.cell 3
  have l0 : w.heap.size < w2.heap.size := HI.out.lt
  have l1 : w.heap.size + 1 < w2.heap.size := HR.out.lt
  have l2 : w.heap.size + 1 + 1 < w2.heap.size := HE.out.lt
  have l3 : w1.heap.size < w2.heap.size := HS.out.lt
  have t0 := HE.out
  have t1 := t0.set 0 (.int .i64 (5))
  have c0 : (w2.setCell ⟨w.heap.size + 1 + 1, 0, none⟩ (.int .i64 (5))).cell? ⟨w.heap.size + 1 + 1, 0, none⟩ = some (.int .i64 (5)) := t1.cell 0
  have t2 := t1.set 1 (.int .i64 (pc + 1))
  have c1 : ((w2.setCell ⟨w.heap.size + 1 + 1, 0, none⟩ (.int .i64 (5))).setCell ⟨w.heap.size + 1 + 1, 1, none⟩ (.int .i64 (pc + 1))).cell? ⟨w.heap.size + 1 + 1, 1, none⟩ = some (.int .i64 (pc + 1)) := t2.cell 1
  have t3 := t2.set 2 (.int .i64 (0))
  have c2 : (((w2.setCell ⟨w.heap.size + 1 + 1, 0, none⟩ (.int .i64 (5))).setCell ⟨w.heap.size + 1 + 1, 1, none⟩ (.int .i64 (pc + 1))).setCell ⟨w.heap.size + 1 + 1, 2, none⟩ (.int .i64 (0))).cell? ⟨w.heap.size + 1 + 1, 2, none⟩ = some (.int .i64 (0)) := t3.cell 2
  have t4 := t3.set 3 (.int .u64 (0))
  have c3 : ((((w2.setCell ⟨w.heap.size + 1 + 1, 0, none⟩ (.int .i64 (5))).setCell ⟨w.heap.size + 1 + 1, 1, none⟩ (.int .i64 (pc + 1))).setCell ⟨w.heap.size + 1 + 1, 2, none⟩ (.int .i64 (0))).setCell ⟨w.heap.size + 1 + 1, 3, none⟩ (.int .u64 (0))).cell? ⟨w.heap.size + 1 + 1, 3, none⟩ = some (.int .u64 (0)) := t4.cell 3
  have t5 := t4.set 4 (.int .u64 (0))
  have c4 : (((((w2.setCell ⟨w.heap.size + 1 + 1, 0, none⟩ (.int .i64 (5))).setCell ⟨w.heap.size + 1 + 1, 1, none⟩ (.int .i64 (pc + 1))).setCell ⟨w.heap.size + 1 + 1, 2, none⟩ (.int .i64 (0))).setCell ⟨w.heap.size + 1 + 1, 3, none⟩ (.int .u64 (0))).setCell ⟨w.heap.size + 1 + 1, 4, none⟩ (.int .u64 (0))).cell? ⟨w.heap.size + 1 + 1, 4, none⟩ = some (.int .u64 (0)) := t5.cell 4
  have HF := And.intro (Lib.hid c0) (And.intro (Lib.hid c1) (And.intro (Lib.hid c2) (And.intro (Lib.hid c3) (Lib.hid c4))))
  clear t0 t1 t2 t3 t4 t5 c0 c1 c2 c3 c4
  go_wp2_with fail
  refine bodyPost_ret (v := .agg #[.int .i64 (5), .int .i64 (pc + 1), .int .i64 (0), .int .u64 (0), .int .u64 (0)]) ?_ rfl ⟨rfl, ?_⟩
  · simp [results, Try.results64, go_sem, HF.1.out, HF.2.1.out, HF.2.2.1.out, HF.2.2.2.1.out, HF.2.2.2.2.out, l2]
  · have h2 := HC.out
    have hb2 : ¬ w.heap.size + 1 + 1 < w.heap.size := by omega
    repeat (first | with_reducible exact h2 | with_reducible refine Chg.setCell ?_ (fun h => absurd h hb2) _ | with_reducible refine Chg.alloc ?_ _)

set_option maxHeartbeats 2000000 in
theorem Do_18 (w : World) (an bn cn : Nat) (i pc x y z : Int) (r0 r1 r2 r3 r4 r5 r6 r7 : Int) (a1 : an < 8) (b1 : bn < 8) (c1 : cn < 8) (p0 : 0 ≤ pc) (p1 : pc < 1024) (hx : rg [r0, r1, r2, r3, r4, r5, r6, r7] an = x) (hy : rg [r0, r1, r2, r3, r4, r5, r6, r7] bn = y) (hz : rg [r0, r1, r2, r3, r4, r5, r6, r7] cn = z) :
    Calls Try.prog 64 #[.agg #[.int .i64 18, .int .i64 an, .int .i64 bn, .int .i64 cn, .int .i64 i], .agg #[.int .u64 r0, .int .u64 r1, .int .u64 r2, .int .u64 r3, .int .u64 r4, .int .u64 r5, .int .u64 r6, .int .u64 r7], .int .i64 pc] w fun e w' => e = .returned (.agg #[.int .i64 (6), .int .i64 (pc + 1), .int .i64 (0), .int .u64 (0), .int .u64 (0)]) ∧ Chg [] w w' := by
  have HI := Lib.hid (((Blk.new w [.int .i64 18, .int .i64 an, .int .i64 bn, .int .i64 cn, .int .i64 i] 25).alloc (.cells #[.int .u64 r0, .int .u64 r1, .int .u64 r2, .int .u64 r3, .int .u64 r4, .int .u64 r5, .int .u64 r6, .int .u64 r7] 63)).alloc (.cells #[.int .i64 0, .int .i64 0, .int .i64 0, .int .u64 0, .int .u64 0] 91))
  have HR : Hid (Blk (((w.alloc (.cells #[.int .i64 18, .int .i64 an, .int .i64 bn, .int .i64 cn, .int .i64 i] 25)).alloc (.cells #[.int .u64 r0, .int .u64 r1, .int .u64 r2, .int .u64 r3, .int .u64 r4, .int .u64 r5, .int .u64 r6, .int .u64 r7] 63)).alloc (.cells #[.int .i64 0, .int .i64 0, .int .i64 0, .int .u64 0, .int .u64 0] 91)) (w.heap.size + 1) [.int .u64 r0, .int .u64 r1, .int .u64 r2, .int .u64 r3, .int .u64 r4, .int .u64 r5, .int .u64 r6, .int .u64 r7] 63) := Lib.hid (by
    have := (Blk.new (w.alloc (.cells #[.int .i64 18, .int .i64 an, .int .i64 bn, .int .i64 cn, .int .i64 i] 25)) [.int .u64 r0, .int .u64 r1, .int .u64 r2, .int .u64 r3, .int .u64 r4, .int .u64 r5, .int .u64 r6, .int .u64 r7] 63).alloc (.cells #[.int .i64 0, .int .i64 0, .int .i64 0, .int .u64 0, .int .u64 0] 91); simpa using this)
  have HE : Hid (Blk (((w.alloc (.cells #[.int .i64 18, .int .i64 an, .int .i64 bn, .int .i64 cn, .int .i64 i] 25)).alloc (.cells #[.int .u64 r0, .int .u64 r1, .int .u64 r2, .int .u64 r3, .int .u64 r4, .int .u64 r5, .int .u64 r6, .int .u64 r7] 63)).alloc (.cells #[.int .i64 0, .int .i64 0, .int .i64 0, .int .u64 0, .int .u64 0] 91)) (w.heap.size + 1 + 1) [.int .i64 0, .int .i64 0, .int .i64 0, .int .u64 0, .int .u64 0] 91) := Lib.hid (by
    have := Blk.new ((w.alloc (.cells #[.int .i64 18, .int .i64 an, .int .i64 bn, .int .i64 cn, .int .i64 i] 25)).alloc (.cells #[.int .u64 r0, .int .u64 r1, .int .u64 r2, .int .u64 r3, .int .u64 r4, .int .u64 r5, .int .u64 r6, .int .u64 r7] 63)) [.int .i64 0, .int .i64 0, .int .i64 0, .int .u64 0, .int .u64 0] 91; simpa using this)
  have HC := Lib.hid ((((Chg.refl [] w).alloc (.cells #[.int .i64 18, .int .i64 an, .int .i64 bn, .int .i64 cn, .int .i64 i] 25)).alloc (.cells #[.int .u64 r0, .int .u64 r1, .int .u64 r2, .int .u64 r3, .int .u64 r4, .int .u64 r5, .int .u64 r6, .int .u64 r7] 63)).alloc (.cells #[.int .i64 0, .int .i64 0, .int .i64 0, .int .u64 0, .int .u64 0] 91))
  have HXYZ := And.intro (Lib.hid hx) (And.intro (Lib.hid hy) (Lib.hid hz))
  clear hx hy hz
  have hi0 : (((w.alloc (.cells #[.int .i64 18, .int .i64 an, .int .i64 bn, .int .i64 cn, .int .i64 i] 25)).alloc (.cells #[.int .u64 r0, .int .u64 r1, .int .u64 r2, .int .u64 r3, .int .u64 r4, .int .u64 r5, .int .u64 r6, .int .u64 r7] 63)).alloc (.cells #[.int .i64 0, .int .i64 0, .int .i64 0, .int .u64 0, .int .u64 0] 91)).cell? ⟨w.heap.size, 0, none⟩ = some (.int .i64 18) := HI.out.cell 0
  go_enter Try.func64, Try.ntmps64
  go_wp2_with fail
  refine (ShapeOf_18 _).mono ?_
  rintro e w1 ⟨s, rfl, hx⟩
  replace HI := Lib.hid ((hx.blk HI.out (by simp)).alloc (.cells #[.string s, .bool false, .bool false, .bool false, .bool false] 95))
  replace HR := Lib.hid ((hx.blk HR.out (by simp)).alloc (.cells #[.string s, .bool false, .bool false, .bool false, .bool false] 95))
  replace HE := Lib.hid ((hx.blk HE.out (by simp)).alloc (.cells #[.string s, .bool false, .bool false, .bool false, .bool false] 95))
  have HS := Lib.hid (Blk.new w1 [.string s, .bool false, .bool false, .bool false, .bool false] 95)
  replace HC := Lib.hid ((HC.out.trans hx).alloc (.cells #[.string s, .bool false, .bool false, .bool false, .bool false] 95))
  clear hx hi0
  have j0 : (w1.alloc (.cells #[.string s, .bool false, .bool false, .bool false, .bool false] 95)).cell? ⟨w.heap.size, 0, none⟩ = some (.int .i64 18) := HI.out.cell 0
  have j1 : (w1.alloc (.cells #[.string s, .bool false, .bool false, .bool false, .bool false] 95)).cell? ⟨w.heap.size, 1, none⟩ = some (.int .i64 an) := HI.out.cell 1
  have j2 : (w1.alloc (.cells #[.string s, .bool false, .bool false, .bool false, .bool false] 95)).cell? ⟨w.heap.size, 2, none⟩ = some (.int .i64 bn) := HI.out.cell 2
  have j3 : (w1.alloc (.cells #[.string s, .bool false, .bool false, .bool false, .bool false] 95)).cell? ⟨w.heap.size, 3, none⟩ = some (.int .i64 cn) := HI.out.cell 3
  have j4 : (w1.alloc (.cells #[.string s, .bool false, .bool false, .bool false, .bool false] 95)).cell? ⟨w.heap.size, 4, none⟩ = some (.int .i64 i) := HI.out.cell 4
  have jl : w.heap.size < (w1.alloc (.cells #[.string s, .bool false, .bool false, .bool false, .bool false] 95)).heap.size := HI.out.lt
  go_wp2_with fail
  refine (Legal_18 _ an bn cn i (by omega) (by omega) (by omega) (by omega) (by omega) (by omega)).mono ?_
  rintro e w2 ⟨rfl, hx⟩
  replace HI := Lib.hid (hx.blk HI.out (by simp))
  replace HR := Lib.hid (hx.blk HR.out (by simp))
  replace HE := Lib.hid (hx.blk HE.out (by simp))
  replace HS := Lib.hid (hx.blk HS.out (by simp))
  replace HC := Lib.hid (HC.out.trans hx)
  clear hx j0 j1 j2 j3 j4 jl
  have j0 : w2.cell? ⟨w.heap.size, 0, none⟩ = some (.int .i64 18) := HI.out.cell 0
  have j1 : w2.cell? ⟨w.heap.size, 1, none⟩ = some (.int .i64 an) := HI.out.cell 1
  have j2 : w2.cell? ⟨w.heap.size, 2, none⟩ = some (.int .i64 bn) := HI.out.cell 2
  have j3 : w2.cell? ⟨w.heap.size, 3, none⟩ = some (.int .i64 cn) := HI.out.cell 3
  have j4 : w2.cell? ⟨w.heap.size, 4, none⟩ = some (.int .i64 i) := HI.out.cell 4
  have m0 : w2.cell? ⟨w.heap.size + 1, an, none⟩ = some (.int .u64 x) := (reg_cell HR.out (by assumption)).trans (by rw [HXYZ.1.out])
  have m1 : w2.cell? ⟨w.heap.size + 1, bn, none⟩ = some (.int .u64 y) := (reg_cell HR.out (by assumption)).trans (by rw [HXYZ.2.1.out])
  have m2 : w2.cell? ⟨w.heap.size + 1, cn, none⟩ = some (.int .u64 z) := (reg_cell HR.out (by assumption)).trans (by rw [HXYZ.2.2.out])
  have n0 : w2.cell? ⟨w.heap.size + 1 + 1, 0, none⟩ = some (.int .i64 0) := HE.out.cell 0
  have f0 : w2.frozen? ⟨w.heap.size + 1 + 1, 0, none⟩ = false := HE.out.free 0
  have n1 : w2.cell? ⟨w.heap.size + 1 + 1, 1, none⟩ = some (.int .i64 0) := HE.out.cell 1
  have f1 : w2.frozen? ⟨w.heap.size + 1 + 1, 1, none⟩ = false := HE.out.free 1
  have n2 : w2.cell? ⟨w.heap.size + 1 + 1, 2, none⟩ = some (.int .i64 0) := HE.out.cell 2
  have f2 : w2.frozen? ⟨w.heap.size + 1 + 1, 2, none⟩ = false := HE.out.free 2
  have n3 : w2.cell? ⟨w.heap.size + 1 + 1, 3, none⟩ = some (.int .u64 0) := HE.out.cell 3
  have f3 : w2.frozen? ⟨w.heap.size + 1 + 1, 3, none⟩ = false := HE.out.free 3
  have n4 : w2.cell? ⟨w.heap.size + 1 + 1, 4, none⟩ = some (.int .u64 0) := HE.out.cell 4
  have f4 : w2.frozen? ⟨w.heap.size + 1 + 1, 4, none⟩ = false := HE.out.free 4
  have s0 : w2.cell? ⟨w1.heap.size, 1, none⟩ = some (.bool false) := HS.out.cell 1
  have s1 : w2.cell? ⟨w1.heap.size, 2, none⟩ = some (.bool false) := HS.out.cell 2
  have s2 : w2.cell? ⟨w1.heap.size, 3, none⟩ = some (.bool false) := HS.out.cell 3
  have l0 : w.heap.size < w2.heap.size := HI.out.lt
  have l1 : w.heap.size + 1 < w2.heap.size := HR.out.lt
  have l2 : w.heap.size + 1 + 1 < w2.heap.size := HE.out.lt
  have l3 : w1.heap.size < w2.heap.size := HS.out.lt
  have t0 := HE.out
  have t1 := t0.set 0 (.int .i64 (6))
  have c0 : (w2.setCell ⟨w.heap.size + 1 + 1, 0, none⟩ (.int .i64 (6))).cell? ⟨w.heap.size + 1 + 1, 0, none⟩ = some (.int .i64 (6)) := t1.cell 0
  have t2 := t1.set 1 (.int .i64 (pc + 1))
  have c1 : ((w2.setCell ⟨w.heap.size + 1 + 1, 0, none⟩ (.int .i64 (6))).setCell ⟨w.heap.size + 1 + 1, 1, none⟩ (.int .i64 (pc + 1))).cell? ⟨w.heap.size + 1 + 1, 1, none⟩ = some (.int .i64 (pc + 1)) := t2.cell 1
  have t3 := t2.set 2 (.int .i64 (0))
  have c2 : (((w2.setCell ⟨w.heap.size + 1 + 1, 0, none⟩ (.int .i64 (6))).setCell ⟨w.heap.size + 1 + 1, 1, none⟩ (.int .i64 (pc + 1))).setCell ⟨w.heap.size + 1 + 1, 2, none⟩ (.int .i64 (0))).cell? ⟨w.heap.size + 1 + 1, 2, none⟩ = some (.int .i64 (0)) := t3.cell 2
  have t4 := t3.set 3 (.int .u64 (0))
  have c3 : ((((w2.setCell ⟨w.heap.size + 1 + 1, 0, none⟩ (.int .i64 (6))).setCell ⟨w.heap.size + 1 + 1, 1, none⟩ (.int .i64 (pc + 1))).setCell ⟨w.heap.size + 1 + 1, 2, none⟩ (.int .i64 (0))).setCell ⟨w.heap.size + 1 + 1, 3, none⟩ (.int .u64 (0))).cell? ⟨w.heap.size + 1 + 1, 3, none⟩ = some (.int .u64 (0)) := t4.cell 3
  have t5 := t4.set 4 (.int .u64 (0))
  have c4 : (((((w2.setCell ⟨w.heap.size + 1 + 1, 0, none⟩ (.int .i64 (6))).setCell ⟨w.heap.size + 1 + 1, 1, none⟩ (.int .i64 (pc + 1))).setCell ⟨w.heap.size + 1 + 1, 2, none⟩ (.int .i64 (0))).setCell ⟨w.heap.size + 1 + 1, 3, none⟩ (.int .u64 (0))).setCell ⟨w.heap.size + 1 + 1, 4, none⟩ (.int .u64 (0))).cell? ⟨w.heap.size + 1 + 1, 4, none⟩ = some (.int .u64 (0)) := t5.cell 4
  have HF := And.intro (Lib.hid c0) (And.intro (Lib.hid c1) (And.intro (Lib.hid c2) (And.intro (Lib.hid c3) (Lib.hid c4))))
  clear t0 t1 t2 t3 t4 t5 c0 c1 c2 c3 c4
  go_wp2_with fail
  refine bodyPost_ret (v := .agg #[.int .i64 (6), .int .i64 (pc + 1), .int .i64 (0), .int .u64 (0), .int .u64 (0)]) ?_ rfl ⟨rfl, ?_⟩
  · simp [results, Try.results64, go_sem, HF.1.out, HF.2.1.out, HF.2.2.1.out, HF.2.2.2.1.out, HF.2.2.2.2.out, l2]
  · have h2 := HC.out
    have hb2 : ¬ w.heap.size + 1 + 1 < w.heap.size := by omega
    repeat (first | with_reducible exact h2 | with_reducible refine Chg.setCell ?_ (fun h => absurd h hb2) _ | with_reducible refine Chg.alloc ?_ _)

end Go.Proofs.Ythlhjahhjoclfaa
