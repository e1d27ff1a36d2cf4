/- A directory's other methods: Memory, Set, Under. -/
import Derived.Test.YtepdhajgemmoiaaDir19
namespace Go.Proofs.Ytepdhajgemmoiaa
set_option maxRecDepth 100000
open Go.RowKit

theorem DMemory_any (w : World) (d bm bw bl n : Nat) (cores : Int) (ws : List Int) (es ks : List EntV) (i : Int) (K : Knows w d bm bw bl n cores ws es ks) :
    Calls Try.prog 12 #[.pointer (some ⟨d, 0, none⟩), .int .i64 i] w (LinePost w n ws i) := by
  have d0 : w.cell? ⟨d, 0, none⟩ = some (.pointer (some ⟨bm, 0, none⟩)) := K.D.D.blk.cell 0
  have dlt : d < w.heap.size := K.D.D.blk.lt
  have hL := Lib.hid (fun o => Line_any (w.alloc o) bm bw n ws i (K.D.D.mem.alloc o))
  clear K
  obtain ⟨x0, x1, x2, x3, x4, x5, x6, x7, hx⟩ := memLine_shape n ws i
  have HX := Lib.hid hx; clear hx
  obtain ⟨er, her⟩ : ∃ er, memErr n i = er := ⟨_, rfl⟩
  have HE := Lib.hid her; clear her
  go_enter Try.func12, Try.ntmps12
  go_wp2_with fail
  refine (hL.out _).mono ?_
  rintro e w1 ⟨rfl, h⟩
  rw [HX.out, HE.out]
  simp only [u64s, List.map_cons, List.map_nil]
  have hk := ((Chg.refl [] w).alloc _).trans h
  have HK := Lib.hid hk
  clear hk
  have r0 : w1.heap[w.heap.size]? = (w.alloc (.cells #[.int .u64 0, .int .u64 0, .int .u64 0, .int .u64 0, .int .u64 0, .int .u64 0, .int .u64 0, .int .u64 0] 31)).heap[w.heap.size]? := h.block _ (by simp) (by simp)
  rw [Blk.new w [.int .u64 0, .int .u64 0, .int .u64 0, .int .u64 0, .int .u64 0, .int .u64 0, .int .u64 0, .int .u64 0] 31] at r0
  have HB := Lib.hid (show Blk w1 w.heap.size [.int .u64 0, .int .u64 0, .int .u64 0, .int .u64 0, .int .u64 0, .int .u64 0, .int .u64 0, .int .u64 0] 31 from r0)
  clear h r0 d0
  have r0 : w1.cell? ⟨w.heap.size, 0, none⟩ = some (.int .u64 0) := HB.out.cell 0; have q0 : w1.frozen? ⟨w.heap.size, 0, none⟩ = false := HB.out.free 0; have r1 : w1.cell? ⟨w.heap.size, 1, none⟩ = some (.int .u64 0) := HB.out.cell 1; have q1 : w1.frozen? ⟨w.heap.size, 1, none⟩ = false := HB.out.free 1; have r2 : w1.cell? ⟨w.heap.size, 2, none⟩ = some (.int .u64 0) := HB.out.cell 2; have q2 : w1.frozen? ⟨w.heap.size, 2, none⟩ = false := HB.out.free 2; have r3 : w1.cell? ⟨w.heap.size, 3, none⟩ = some (.int .u64 0) := HB.out.cell 3; have q3 : w1.frozen? ⟨w.heap.size, 3, none⟩ = false := HB.out.free 3; have r4 : w1.cell? ⟨w.heap.size, 4, none⟩ = some (.int .u64 0) := HB.out.cell 4; have q4 : w1.frozen? ⟨w.heap.size, 4, none⟩ = false := HB.out.free 4; have r5 : w1.cell? ⟨w.heap.size, 5, none⟩ = some (.int .u64 0) := HB.out.cell 5; have q5 : w1.frozen? ⟨w.heap.size, 5, none⟩ = false := HB.out.free 5; have r6 : w1.cell? ⟨w.heap.size, 6, none⟩ = some (.int .u64 0) := HB.out.cell 6; have q6 : w1.frozen? ⟨w.heap.size, 6, none⟩ = false := HB.out.free 6; have r7 : w1.cell? ⟨w.heap.size, 7, none⟩ = some (.int .u64 0) := HB.out.cell 7; have q7 : w1.frozen? ⟨w.heap.size, 7, none⟩ = false := HB.out.free 7
  go_wp2_with fail
  have hB2 : Blk _ w.heap.size [.int .u64 x0, .int .u64 x1, .int .u64 x2, .int .u64 x3, .int .u64 x4, .int .u64 x5, .int .u64 x6, .int .u64 x7] 31 := ((((((((HB.out.set 0 (.int .u64 x0)).set 1 (.int .u64 x1)).set 2 (.int .u64 x2)).set 3 (.int .u64 x3)).set 4 (.int .u64 x4)).set 5 (.int .u64 x5)).set 6 (.int .u64 x6)).set 7 (.int .u64 x7))
  have hk2 := ((((((((HK.out.setCell (p := ⟨w.heap.size, 0, none⟩) (fun h => absurd h (Nat.lt_irrefl _)) (.int .u64 x0)).setCell (p := ⟨w.heap.size, 1, none⟩) (fun h => absurd h (Nat.lt_irrefl _)) (.int .u64 x1)).setCell (p := ⟨w.heap.size, 2, none⟩) (fun h => absurd h (Nat.lt_irrefl _)) (.int .u64 x2)).setCell (p := ⟨w.heap.size, 3, none⟩) (fun h => absurd h (Nat.lt_irrefl _)) (.int .u64 x3)).setCell (p := ⟨w.heap.size, 4, none⟩) (fun h => absurd h (Nat.lt_irrefl _)) (.int .u64 x4)).setCell (p := ⟨w.heap.size, 5, none⟩) (fun h => absurd h (Nat.lt_irrefl _)) (.int .u64 x5)).setCell (p := ⟨w.heap.size, 6, none⟩) (fun h => absurd h (Nat.lt_irrefl _)) (.int .u64 x6)).setCell (p := ⟨w.heap.size, 7, none⟩) (fun h => absurd h (Nat.lt_irrefl _)) (.int .u64 x7))
  have HB2 := Lib.hid hB2
  have HK2 := Lib.hid hk2
  clear hB2 hk2 HB HK r0 r1 r2 r3 r4 r5 r6 r7 q0 q1 q2 q3 q4 q5 q6 q7 hL
  generalize World.setCell _ _ _ = w2 at *
  have r0 : w2.cell? ⟨w.heap.size, 0, none⟩ = some (.int .u64 x0) := HB2.out.cell 0; have r1 : w2.cell? ⟨w.heap.size, 1, none⟩ = some (.int .u64 x1) := HB2.out.cell 1; have r2 : w2.cell? ⟨w.heap.size, 2, none⟩ = some (.int .u64 x2) := HB2.out.cell 2; have r3 : w2.cell? ⟨w.heap.size, 3, none⟩ = some (.int .u64 x3) := HB2.out.cell 3; have r4 : w2.cell? ⟨w.heap.size, 4, none⟩ = some (.int .u64 x4) := HB2.out.cell 4; have r5 : w2.cell? ⟨w.heap.size, 5, none⟩ = some (.int .u64 x5) := HB2.out.cell 5; have r6 : w2.cell? ⟨w.heap.size, 6, none⟩ = some (.int .u64 x6) := HB2.out.cell 6; have r7 : w2.cell? ⟨w.heap.size, 7, none⟩ = some (.int .u64 x7) := HB2.out.cell 7
  refine bodyPost_ret (v := .tuple #[.agg #[.int .u64 x0, .int .u64 x1, .int .u64 x2, .int .u64 x3, .int .u64 x4, .int .u64 x5, .int .u64 x6, .int .u64 x7], .int .i64 er]) ?_ rfl ⟨?_, ?_⟩
  · simp [results, Try.results12, go_sem, r0, r1, r2, r3, r4, r5, r6, r7]
  · rw [HX.out, HE.out]; rfl
  · exact HK2.out
theorem DMemory_nil (w : World) (i : Int) :
    Calls Try.prog 12 #[.pointer none, .int .i64 i] w fun e w' => e = .returned (.tuple #[.agg #[.int .u64 0, .int .u64 0, .int .u64 0, .int .u64 0, .int .u64 0, .int .u64 0, .int .u64 0, .int .u64 0], .int .i64 1]) ∧ Chg [] w w' := by
  go_enter Try.func12, Try.ntmps12
  go_wp2
  refine bodyPost_ret (v := .tuple #[.agg #[.int .u64 0, .int .u64 0, .int .u64 0, .int .u64 0, .int .u64 0, .int .u64 0, .int .u64 0, .int .u64 0], .int .i64 1]) ?_ rfl ⟨rfl, (Chg.refl _ _).alloc _⟩
  simp [results, Try.results12, go_sem]
theorem DSet_nil (w : World) (i : Int) (x0 x1 x2 x3 x4 x5 x6 x7 : Int) :
    Calls Try.prog 13 #[.pointer none, .int .i64 i, .agg #[.int .u64 x0, .int .u64 x1, .int .u64 x2, .int .u64 x3, .int .u64 x4, .int .u64 x5, .int .u64 x6, .int .u64 x7]] w fun e w' => e = .returned (.int .i64 1) ∧ Chg [] w w' := by
  go_enter Try.func13, Try.ntmps13
  go_wp2
  go_ret
  exact ⟨rfl, (Chg.refl _ _).alloc _⟩
theorem DSet_any (w : World) (d bm bw bl n : Nat) (cores : Int) (ws : List Int) (es ks : List EntV) (i : Int) (x0 x1 x2 x3 x4 x5 x6 x7 : Int) (K : Knows w d bm bw bl n cores ws es ks) :
    Calls Try.prog 13 #[.pointer (some ⟨d, 0, none⟩), .int .i64 i, .agg #[.int .u64 x0, .int .u64 x1, .int .u64 x2, .int .u64 x3, .int .u64 x4, .int .u64 x5, .int .u64 x6, .int .u64 x7]] w (fun e w' => e = .returned (.int .i64 (memErr n i)) ∧ Chg [bw] w w' ∧ Knows w' d bm bw bl n cores (memSet n ws i x0 x1 x2 x3 x4 x5 x6 x7) es ks) := by
  have d0 : w.cell? ⟨d, 0, none⟩ = some (.pointer (some ⟨bm, 0, none⟩)) := K.D.D.blk.cell 0
  have dlt : d < w.heap.size := K.D.D.blk.lt
  have HS := Lib.hid (fun W (k : MemAt W bm bw n ws) => Set_any W bm bw n ws i x0 x1 x2 x3 x4 x5 x6 x7 k)
  have HMm := Lib.hid K.D.D.mem
  have HK := Lib.hid K
  clear K
  go_enter Try.func13, Try.ntmps13
  go_wp2_with fail
  go_region_with (go_at_call 28; refine (HS.out _ ((HMm.out.alloc _).drew)).mono ?_; rintro e w1 ⟨rfl, hM, h⟩; have HC := Lib.hid ((((Chg.refl [bw] w).alloc (.cells #[.int .u64 x0, .int .u64 x1, .int .u64 x2, .int .u64 x3, .int .u64 x4, .int .u64 x5, .int .u64 x6, .int .u64 x7] 31)).drew).trans h); have HM := Lib.hid hM; clear hM h)
  all_goals (go_wp2_with fail; go_ret; exact ⟨rfl, HC.out, HK.out.D.mem HC.out HM.out, HK.out.ks, HK.out.ok, HK.out.co⟩)
theorem DUnder_nil (w : World) (i : Int) :
    Calls Try.prog 14 #[.pointer none, .int .i64 i] w fun e w' => e = .returned (.tuple #[.agg #[.int .i64 0, .int .i64 0, .int .i64 0, .int .u64 0, .int .u64 0, .int .u64 0, .int .u64 0, .int .u64 0, .int .u64 0, .int .u64 0, .int .u64 0], .bool false]) ∧ Chg [] w w' := by
  have hA := Lib.hid (fun w => dat_nil w i)
  go_enter Try.func14, Try.ntmps14
  go_wp2_with fail
  refine (hA.out _).mono ?_
  rintro e w1 ⟨rfl, rfl⟩
  go_wp2_with fail
  refine bodyPost_ret (v := .tuple #[.agg #[.int .i64 0, .int .i64 0, .int .i64 0, .int .u64 0, .int .u64 0, .int .u64 0, .int .u64 0, .int .u64 0, .int .u64 0, .int .u64 0, .int .u64 0], .bool false]) ?_ rfl ⟨rfl, (Chg.refl _ _).alloc _⟩
  simp [results, Try.results14, go_sem]
end Go.Proofs.Ytepdhajgemmoiaa
