/- A core's answer. -/
import Derived.Test.YtepdhajgemmoiaaSrv1
namespace Go.Proofs.Ytepdhajgemmoiaa
set_option maxRecDepth 100000
set_option linter.unusedSimpArgs false
set_option linter.unusedVariables false
open Go.RowKit



set_option maxHeartbeats 8000000 in
theorem wans_11 {N0 : Nat} {w : World} {b d bm bw bl bc : Nat} {vi vo : Value} {es : List EntV} {e0 : EntV} {S : SvS} {made got : Int} (c : Nat) (hc : c < S.hs.length) (l x0 x1 x2 x3 x4 x5 x6 x7 ys y0 y1 y2 y3 y4 y5 y6 y7 : Int) (ya yb : Bool) (hy : S.hs[c] = ⟨ys, ⟨y0, y1, y2, y3, y4, y5, y6, y7⟩, ya, yb⟩) (hlen : S.inn.length ≤ 1000) (hcl : S.hs.length ≤ 4) (hx : ys < 2) (H : SvW N0 w b d bm bw bl bc vi vo es e0 S made got) :
    Calls Try.prog 35 #[.pointer (some ⟨b, 0, none⟩), .agg #[.int .i64 11, .int .i64 (c : Int), .int .i64 l, .int .u64 x0, .int .u64 x1, .int .u64 x2, .int .u64 x3, .int .u64 x4, .int .u64 x5, .int .u64 x6, .int .u64 x7]] w (SvPost N0 w b d bm bw bl bc e0 { S with hs := S.hs.set c ⟨0, ⟨y0, y1, y2, y3, y4, y5, y6, y7⟩, ya, yb⟩, inn := S.inn ++ [⟨4, (c : Int), l, {}⟩] } made got) := by
  obtain ⟨j0, hj, hz0, hz1, hz2⟩ := info_parts infoMsg
  have hal : Chg [] w (w.alloc (.cells #[.int .i64 11, .int .i64 (c : Int), .int .i64 l, .int .u64 x0, .int .u64 x1, .int .u64 x2, .int .u64 x3, .int .u64 x4, .int .u64 x5, .int .u64 x6, .int .u64 x7] 33)) := (Chg.refl [] w).alloc _
  have HSv := Lib.hid (H.look hal)
  have HB := Lib.hid (Blk.new w [.int .i64 11, .int .i64 (c : Int), .int .i64 l, .int .u64 x0, .int .u64 x1, .int .u64 x2, .int .u64 x3, .int .u64 x4, .int .u64 x5, .int .u64 x6, .int .u64 x7] 33)
  have HBl := Lib.hid (hal.to_below (B := N0) (fun x hx => absurd hx (by simp)) H.lo.2.2)
  have HBn := Lib.hid (H.fresh (x := w.heap.size) (Nat.le_refl _))
  have HY := Lib.hid hy; have HLn := Lib.hid hlen; have HX := Lib.hid hx
  have hnl : (S.hs.length : Int) ≤ 4 := by omega
  have hci : (c : Int) < S.hs.length := by omega
  have hc0 : (0 : Int) ≤ c := Int.natCast_nonneg _
  clear hal H hy hlen
  go_enter Try.func35, Try.ntmps35
  go_upto_region 1 with fail
  generalize World.alloc _ _ = wa at *
  obtain ⟨bm0, hb⟩ : ∃ b, w.heap.size = b := ⟨_, rfl⟩
  rw [hb] at HB HBn ⊢
  clear hb
  have m0 : wa.cell? ⟨bm0, 0, none⟩ = some (.int .i64 11) := HB.out.cell 0
  have m1 : wa.cell? ⟨bm0, 1, none⟩ = some (.int .i64 (c : Int)) := HB.out.cell 1
  have m2 : wa.cell? ⟨bm0, 2, none⟩ = some (.int .i64 l) := HB.out.cell 2
  have m3 : wa.cell? ⟨bm0, 3, none⟩ = some (.int .u64 x0) := HB.out.cell 3
  have m4 : wa.cell? ⟨bm0, 4, none⟩ = some (.int .u64 x1) := HB.out.cell 4
  have m5 : wa.cell? ⟨bm0, 5, none⟩ = some (.int .u64 x2) := HB.out.cell 5
  have m6 : wa.cell? ⟨bm0, 6, none⟩ = some (.int .u64 x3) := HB.out.cell 6
  have m7 : wa.cell? ⟨bm0, 7, none⟩ = some (.int .u64 x4) := HB.out.cell 7
  have m8 : wa.cell? ⟨bm0, 8, none⟩ = some (.int .u64 x5) := HB.out.cell 8
  have m9 : wa.cell? ⟨bm0, 9, none⟩ = some (.int .u64 x6) := HB.out.cell 9
  have m10 : wa.cell? ⟨bm0, 10, none⟩ = some (.int .u64 x7) := HB.out.cell 10
  have mlt : bm0 < wa.heap.size := HB.out.lt
  have b1 : wa.cell? ⟨b, 1, none⟩ = some (.slice (some ⟨bc, 0, none⟩) S.hs.length S.hs.length) := HSv.out.blk.cell 1
  have h0 : wa.cell? ⟨bc, c * 11, none⟩ = some (.int .i64 ys) := by have := HSv.out.hon.cell (c * 11 + 0); rw [flat_get encH_len S.hs c hc 0 (by decide), HY.out] at this; exact this
  have h1 : wa.cell? ⟨bc, c * 11 + 1, none⟩ = some (.int .u64 y0) := by have := HSv.out.hon.cell (c * 11 + 1); rw [flat_get encH_len S.hs c hc 1 (by decide), HY.out] at this; exact this
  have h2 : wa.cell? ⟨bc, c * 11 + 2, none⟩ = some (.int .u64 y1) := by have := HSv.out.hon.cell (c * 11 + 2); rw [flat_get encH_len S.hs c hc 2 (by decide), HY.out] at this; exact this
  have h3 : wa.cell? ⟨bc, c * 11 + 3, none⟩ = some (.int .u64 y2) := by have := HSv.out.hon.cell (c * 11 + 3); rw [flat_get encH_len S.hs c hc 3 (by decide), HY.out] at this; exact this
  have h4 : wa.cell? ⟨bc, c * 11 + 4, none⟩ = some (.int .u64 y3) := by have := HSv.out.hon.cell (c * 11 + 4); rw [flat_get encH_len S.hs c hc 4 (by decide), HY.out] at this; exact this
  have h5 : wa.cell? ⟨bc, c * 11 + 5, none⟩ = some (.int .u64 y4) := by have := HSv.out.hon.cell (c * 11 + 5); rw [flat_get encH_len S.hs c hc 5 (by decide), HY.out] at this; exact this
  have h6 : wa.cell? ⟨bc, c * 11 + 6, none⟩ = some (.int .u64 y5) := by have := HSv.out.hon.cell (c * 11 + 6); rw [flat_get encH_len S.hs c hc 6 (by decide), HY.out] at this; exact this
  have h7 : wa.cell? ⟨bc, c * 11 + 7, none⟩ = some (.int .u64 y6) := by have := HSv.out.hon.cell (c * 11 + 7); rw [flat_get encH_len S.hs c hc 7 (by decide), HY.out] at this; exact this
  have h8 : wa.cell? ⟨bc, c * 11 + 8, none⟩ = some (.int .u64 y7) := by have := HSv.out.hon.cell (c * 11 + 8); rw [flat_get encH_len S.hs c hc 8 (by decide), HY.out] at this; exact this
  have h9 : wa.cell? ⟨bc, c * 11 + 9, none⟩ = some (.bool ya) := by have := HSv.out.hon.cell (c * 11 + 9); rw [flat_get encH_len S.hs c hc 9 (by decide), HY.out] at this; exact this
  have h10 : wa.cell? ⟨bc, c * 11 + 10, none⟩ = some (.bool yb) := by have := HSv.out.hon.cell (c * 11 + 10); rw [flat_get encH_len S.hs c hc 10 (by decide), HY.out] at this; exact this
  have blt : b < wa.heap.size := HSv.out.blk.lt
  have clt : bc < wa.heap.size := HSv.out.hon.lt
  go_region_held3 (fun w' => w'.cell? ⟨b, 1, none⟩ = some (.slice (some ⟨bc, 0, none⟩) S.hs.length S.hs.length) ∧ w'.cell? ⟨bm0, 1, none⟩ = some (.int .i64 (c : Int)) ∧ w'.cell? ⟨bc, c * 11, none⟩ = some (.int .i64 ys) ∧ w'.cell? ⟨bc, c * 11 + 1, none⟩ = some (.int .u64 y0) ∧ w'.cell? ⟨bc, c * 11 + 2, none⟩ = some (.int .u64 y1) ∧ w'.cell? ⟨bc, c * 11 + 3, none⟩ = some (.int .u64 y2) ∧ w'.cell? ⟨bc, c * 11 + 4, none⟩ = some (.int .u64 y3) ∧ w'.cell? ⟨bc, c * 11 + 5, none⟩ = some (.int .u64 y4) ∧ w'.cell? ⟨bc, c * 11 + 6, none⟩ = some (.int .u64 y5) ∧ w'.cell? ⟨bc, c * 11 + 7, none⟩ = some (.int .u64 y6) ∧ w'.cell? ⟨bc, c * 11 + 8, none⟩ = some (.int .u64 y7) ∧ w'.cell? ⟨bc, c * 11 + 9, none⟩ = some (.bool ya) ∧ w'.cell? ⟨bc, c * 11 + 10, none⟩ = some (.bool yb)) (first | with_reducible exact ⟨b1, m1, h0, h1, h2, h3, h4, h5, h6, h7, h8, h9, h10⟩ | go_keep) (fail)
  clear m0 h0 m1 h1 m2 h2 m3 h3 m4 h4 m5 h5 m6 h6 m7 h7 m8 h8 m9 h9 m10 h10 b1
  have hk1 := ((Chg.refl [] wa).alloc (.cells #[.int .i64 ys, .int .u64 y0, .int .u64 y1, .int .u64 y2, .int .u64 y3, .int .u64 y4, .int .u64 y5, .int .u64 y6, .int .u64 y7, .bool ya, .bool yb] 91)).drew
  have HBx := Lib.hid (Blk.drew (Blk.new wa [.int .i64 ys, .int .u64 y0, .int .u64 y1, .int .u64 y2, .int .u64 y3, .int .u64 y4, .int .u64 y5, .int .u64 y6, .int .u64 y7, .bool ya, .bool yb] 91))
  have HAx := Lib.hid (HSv.out.fresh (x := wa.heap.size) (Nat.le_refl _))
  have hbx : bm0 < wa.heap.size := mlt
  replace HBl := Lib.hid (HBl.out.trans (hk1.to_below (B := N0) (fun x hx => absurd hx (by simp)) (HSv.out.lo.2.2))); replace HSv := Lib.hid (HSv.out.look hk1); replace HB := Lib.hid (hk1.blk HB.out (by simp))
  clear hk1 mlt blt clt
  generalize World.drew _ = w1 at *
  obtain ⟨bx, hbxx⟩ : ∃ b, wa.heap.size = b := ⟨_, rfl⟩
  rw [hbxx] at HBx HAx hbx ⊢
  clear hbxx
  have xlt : bx < w1.heap.size := HBx.out.lt
  have m0 : w1.cell? ⟨bm0, 0, none⟩ = some (.int .i64 11) := HB.out.cell 0
  have m1 : w1.cell? ⟨bm0, 1, none⟩ = some (.int .i64 (c : Int)) := HB.out.cell 1
  have m2 : w1.cell? ⟨bm0, 2, none⟩ = some (.int .i64 l) := HB.out.cell 2
  have m3 : w1.cell? ⟨bm0, 3, none⟩ = some (.int .u64 x0) := HB.out.cell 3
  have m4 : w1.cell? ⟨bm0, 4, none⟩ = some (.int .u64 x1) := HB.out.cell 4
  have m5 : w1.cell? ⟨bm0, 5, none⟩ = some (.int .u64 x2) := HB.out.cell 5
  have m6 : w1.cell? ⟨bm0, 6, none⟩ = some (.int .u64 x3) := HB.out.cell 6
  have m7 : w1.cell? ⟨bm0, 7, none⟩ = some (.int .u64 x4) := HB.out.cell 7
  have m8 : w1.cell? ⟨bm0, 8, none⟩ = some (.int .u64 x5) := HB.out.cell 8
  have m9 : w1.cell? ⟨bm0, 9, none⟩ = some (.int .u64 x6) := HB.out.cell 9
  have m10 : w1.cell? ⟨bm0, 10, none⟩ = some (.int .u64 x7) := HB.out.cell 10
  have mlt : bm0 < w1.heap.size := HB.out.lt
  go_upto_region 3 with fail
  have hk2 := (Chg.refl [] w1).alloc (.cells #[.int .i64 0, .int .i64 (c : Int), .int .i64 l, .int .u64 0, .int .u64 0, .int .u64 0, .int .u64 0, .int .u64 0, .int .u64 0, .int .u64 0, .int .u64 0] 33)
  have HBk := Lib.hid (Blk.new w1 [.int .i64 0, .int .i64 (c : Int), .int .i64 l, .int .u64 0, .int .u64 0, .int .u64 0, .int .u64 0, .int .u64 0, .int .u64 0, .int .u64 0, .int .u64 0] 33)
  have HAk := Lib.hid (HSv.out.fresh (x := w1.heap.size) (Nat.le_refl _))
  have hbk1 : bm0 < w1.heap.size := mlt; have hbk2 : bx < w1.heap.size := xlt
  replace HBl := Lib.hid (HBl.out.trans (hk2.to_below (B := N0) (fun x hx => absurd hx (by simp)) (HSv.out.lo.2.2))); replace HSv := Lib.hid (HSv.out.look hk2); replace HB := Lib.hid (hk2.blk HB.out (by simp)); replace HBx := Lib.hid (hk2.blk HBx.out (by simp))
  clear hk2 mlt xlt m0 m1 m2 m3 m4 m5 m6 m7 m8 m9 m10
  generalize World.alloc _ _ = w2 at *
  obtain ⟨bk, hbkk⟩ : ∃ b, w1.heap.size = b := ⟨_, rfl⟩
  rw [hbkk] at HBk HAk hbk1 hbk2 ⊢
  clear hbkk
  have hn1 : bm0 ≠ bx := by omega
  have hn2 : bm0 ≠ bk := by omega
  have hn3 : bx ≠ bk := by omega
  have hn4 : bm0 ≠ b := HBn.out.nb; have hn5 : bx ≠ b := HAx.out.nb; have hn6 : bk ≠ b := HAk.out.nb
  have m0 : w2.cell? ⟨bm0, 0, none⟩ = some (.int .i64 11) := HB.out.cell 0
  have m1 : w2.cell? ⟨bm0, 1, none⟩ = some (.int .i64 (c : Int)) := HB.out.cell 1
  have m2 : w2.cell? ⟨bm0, 2, none⟩ = some (.int .i64 l) := HB.out.cell 2
  have m3 : w2.cell? ⟨bm0, 3, none⟩ = some (.int .u64 x0) := HB.out.cell 3
  have m4 : w2.cell? ⟨bm0, 4, none⟩ = some (.int .u64 x1) := HB.out.cell 4
  have m5 : w2.cell? ⟨bm0, 5, none⟩ = some (.int .u64 x2) := HB.out.cell 5
  have m6 : w2.cell? ⟨bm0, 6, none⟩ = some (.int .u64 x3) := HB.out.cell 6
  have m7 : w2.cell? ⟨bm0, 7, none⟩ = some (.int .u64 x4) := HB.out.cell 7
  have m8 : w2.cell? ⟨bm0, 8, none⟩ = some (.int .u64 x5) := HB.out.cell 8
  have m9 : w2.cell? ⟨bm0, 9, none⟩ = some (.int .u64 x6) := HB.out.cell 9
  have m10 : w2.cell? ⟨bm0, 10, none⟩ = some (.int .u64 x7) := HB.out.cell 10
  have mlt : bm0 < w2.heap.size := HB.out.lt
  have x_0 : w2.cell? ⟨bx, 0, none⟩ = some (.int .i64 ys) := HBx.out.cell 0
  have g_0 : w2.frozen? ⟨bx, 0, none⟩ = false := HBx.out.free 0
  have x_1 : w2.cell? ⟨bx, 1, none⟩ = some (.int .u64 y0) := HBx.out.cell 1
  have g_1 : w2.frozen? ⟨bx, 1, none⟩ = false := HBx.out.free 1
  have x_2 : w2.cell? ⟨bx, 2, none⟩ = some (.int .u64 y1) := HBx.out.cell 2
  have g_2 : w2.frozen? ⟨bx, 2, none⟩ = false := HBx.out.free 2
  have x_3 : w2.cell? ⟨bx, 3, none⟩ = some (.int .u64 y2) := HBx.out.cell 3
  have g_3 : w2.frozen? ⟨bx, 3, none⟩ = false := HBx.out.free 3
  have x_4 : w2.cell? ⟨bx, 4, none⟩ = some (.int .u64 y3) := HBx.out.cell 4
  have g_4 : w2.frozen? ⟨bx, 4, none⟩ = false := HBx.out.free 4
  have x_5 : w2.cell? ⟨bx, 5, none⟩ = some (.int .u64 y4) := HBx.out.cell 5
  have g_5 : w2.frozen? ⟨bx, 5, none⟩ = false := HBx.out.free 5
  have x_6 : w2.cell? ⟨bx, 6, none⟩ = some (.int .u64 y5) := HBx.out.cell 6
  have g_6 : w2.frozen? ⟨bx, 6, none⟩ = false := HBx.out.free 6
  have x_7 : w2.cell? ⟨bx, 7, none⟩ = some (.int .u64 y6) := HBx.out.cell 7
  have g_7 : w2.frozen? ⟨bx, 7, none⟩ = false := HBx.out.free 7
  have x_8 : w2.cell? ⟨bx, 8, none⟩ = some (.int .u64 y7) := HBx.out.cell 8
  have g_8 : w2.frozen? ⟨bx, 8, none⟩ = false := HBx.out.free 8
  have x_9 : w2.cell? ⟨bx, 9, none⟩ = some (.bool ya) := HBx.out.cell 9
  have g_9 : w2.frozen? ⟨bx, 9, none⟩ = false := HBx.out.free 9
  have x_10 : w2.cell? ⟨bx, 10, none⟩ = some (.bool yb) := HBx.out.cell 10
  have g_10 : w2.frozen? ⟨bx, 10, none⟩ = false := HBx.out.free 10
  have k_0 : w2.cell? ⟨bk, 0, none⟩ = some (.int .i64 0) := HBk.out.cell 0
  have l_0 : w2.frozen? ⟨bk, 0, none⟩ = false := HBk.out.free 0
  have k_1 : w2.cell? ⟨bk, 1, none⟩ = some (.int .i64 (c : Int)) := HBk.out.cell 1
  have l_1 : w2.frozen? ⟨bk, 1, none⟩ = false := HBk.out.free 1
  have k_2 : w2.cell? ⟨bk, 2, none⟩ = some (.int .i64 l) := HBk.out.cell 2
  have l_2 : w2.frozen? ⟨bk, 2, none⟩ = false := HBk.out.free 2
  have k_3 : w2.cell? ⟨bk, 3, none⟩ = some (.int .u64 0) := HBk.out.cell 3
  have l_3 : w2.frozen? ⟨bk, 3, none⟩ = false := HBk.out.free 3
  have k_4 : w2.cell? ⟨bk, 4, none⟩ = some (.int .u64 0) := HBk.out.cell 4
  have l_4 : w2.frozen? ⟨bk, 4, none⟩ = false := HBk.out.free 4
  have k_5 : w2.cell? ⟨bk, 5, none⟩ = some (.int .u64 0) := HBk.out.cell 5
  have l_5 : w2.frozen? ⟨bk, 5, none⟩ = false := HBk.out.free 5
  have k_6 : w2.cell? ⟨bk, 6, none⟩ = some (.int .u64 0) := HBk.out.cell 6
  have l_6 : w2.frozen? ⟨bk, 6, none⟩ = false := HBk.out.free 6
  have k_7 : w2.cell? ⟨bk, 7, none⟩ = some (.int .u64 0) := HBk.out.cell 7
  have l_7 : w2.frozen? ⟨bk, 7, none⟩ = false := HBk.out.free 7
  have k_8 : w2.cell? ⟨bk, 8, none⟩ = some (.int .u64 0) := HBk.out.cell 8
  have l_8 : w2.frozen? ⟨bk, 8, none⟩ = false := HBk.out.free 8
  have k_9 : w2.cell? ⟨bk, 9, none⟩ = some (.int .u64 0) := HBk.out.cell 9
  have l_9 : w2.frozen? ⟨bk, 9, none⟩ = false := HBk.out.free 9
  have k_10 : w2.cell? ⟨bk, 10, none⟩ = some (.int .u64 0) := HBk.out.cell 10
  have l_10 : w2.frozen? ⟨bk, 10, none⟩ = false := HBk.out.free 10
  have xlt : bx < w2.heap.size := HBx.out.lt
  have klt : bk < w2.heap.size := HBk.out.lt
  have blt : b < w2.heap.size := HSv.out.blk.lt
  have b1 : w2.cell? ⟨b, 1, none⟩ = some (.slice (some ⟨bc, 0, none⟩) S.hs.length S.hs.length) := HSv.out.blk.cell 1
  have f1 : w2.frozen? ⟨b, 1, none⟩ = false := HSv.out.blk.free 1
  have b2 : w2.cell? ⟨b, 2, none⟩ = some (vi) := HSv.out.blk.cell 2
  have f2 : w2.frozen? ⟨b, 2, none⟩ = false := HSv.out.blk.free 2
  have b5 : w2.cell? ⟨b, 5, none⟩ = some (.int .i64 got) := HSv.out.blk.cell 5
  have f5 : w2.frozen? ⟨b, 5, none⟩ = false := HSv.out.blk.free 5
  have b6 : w2.cell? ⟨b, 6, none⟩ = some (.int .u64 S.val) := HSv.out.blk.cell 6
  have f6 : w2.frozen? ⟨b, 6, none⟩ = false := HSv.out.blk.free 6
  have b7 : w2.cell? ⟨b, 7, none⟩ = some (.bool true) := HSv.out.blk.cell 7
  have f7 : w2.frozen? ⟨b, 7, none⟩ = false := HSv.out.blk.free 7
  go_upto_region 29 with fail
  have hF := HSv.out.field 7 (.bool true) S.val made got rfl
  replace HBl := Lib.hid (HBl.out.trans hF.2); replace HSv := Lib.hid hF.1; clear hF
  replace HB := Lib.hid (HB.out.other (a := ⟨b, 7, none⟩) (Ne.symm hn4) (.bool true))
  replace HBx := Lib.hid (HBx.out.other (a := ⟨b, 7, none⟩) (Ne.symm hn5) (.bool true))
  replace HBk := Lib.hid (HBk.out.other (a := ⟨b, 7, none⟩) (Ne.symm hn6) (.bool true))
  have hF := SvW.aside HSv.out ((Chg.refl [bx] _).setCell (p := ⟨bx, 0, none⟩) (fun _ => List.mem_singleton.2 rfl) (.int .i64 0)) (fun x hx => by rw [List.mem_singleton.1 hx]; exact HAx.out)
  replace HBl := Lib.hid (HBl.out.trans hF.2); replace HSv := Lib.hid hF.1; clear hF
  replace HBx := Lib.hid (HBx.out.set 0 (.int .i64 0))
  replace HBk := Lib.hid (HBk.out.other (a := ⟨bx, 0, none⟩) (hn3) (.int .i64 0))
  replace HB := Lib.hid (HB.out.other (a := ⟨bx, 0, none⟩) (Ne.symm hn1) (.int .i64 0))
  have hF := SvW.aside HSv.out ((Chg.refl [bk] _).setCell (p := ⟨bk, 0, none⟩) (fun _ => List.mem_singleton.2 rfl) (.int .i64 4)) (fun x hx => by rw [List.mem_singleton.1 hx]; exact HAk.out)
  replace HBl := Lib.hid (HBl.out.trans hF.2); replace HSv := Lib.hid hF.1; clear hF
  replace HBk := Lib.hid (HBk.out.set 0 (.int .i64 4))
  replace HBx := Lib.hid (HBx.out.other (a := ⟨bk, 0, none⟩) (Ne.symm hn3) (.int .i64 4))
  replace HB := Lib.hid (HB.out.other (a := ⟨bk, 0, none⟩) (Ne.symm hn2) (.int .i64 4))
  have HBx2 : Hid (Blk _ bx [.int .i64 0, .int .u64 y0, .int .u64 y1, .int .u64 y2, .int .u64 y3, .int .u64 y4, .int .u64 y5, .int .u64 y6, .int .u64 y7, .bool ya, .bool yb] 91) := HBx
  have HBk2 : Hid (Blk _ bk [.int .i64 4, .int .i64 (c : Int), .int .i64 l, .int .u64 0, .int .u64 0, .int .u64 0, .int .u64 0, .int .u64 0, .int .u64 0, .int .u64 0, .int .u64 0] 33) := HBk
  clear HBx HBk
  clear mlt xlt klt blt m0 m1 m2 m3 m4 m5 m6 m7 m8 m9 m10 x_0 g_0 k_0 l_0 x_1 g_1 k_1 l_1 x_2 g_2 k_2 l_2 x_3 g_3 k_3 l_3 x_4 g_4 k_4 l_4 x_5 g_5 k_5 l_5 x_6 g_6 k_6 l_6 x_7 g_7 k_7 l_7 x_8 g_8 k_8 l_8 x_9 g_9 k_9 l_9 x_10 g_10 k_10 l_10 b1 f1 b2 f2 b5 f5 b6 f6 b7 f7
  generalize World.setCell _ _ _ = w3 at *
  have m1 : w3.cell? ⟨bm0, 1, none⟩ = some (.int .i64 (c : Int)) := HB.out.cell 1
  have b1 : w3.cell? ⟨b, 1, none⟩ = some (.slice (some ⟨bc, 0, none⟩) S.hs.length S.hs.length) := HSv.out.blk.cell 1
  have x_0 : w3.cell? ⟨bx, 0, none⟩ = some (.int .i64 0) := HBx2.out.cell 0
  have x_1 : w3.cell? ⟨bx, 1, none⟩ = some (.int .u64 y0) := HBx2.out.cell 1
  have x_2 : w3.cell? ⟨bx, 2, none⟩ = some (.int .u64 y1) := HBx2.out.cell 2
  have x_3 : w3.cell? ⟨bx, 3, none⟩ = some (.int .u64 y2) := HBx2.out.cell 3
  have x_4 : w3.cell? ⟨bx, 4, none⟩ = some (.int .u64 y3) := HBx2.out.cell 4
  have x_5 : w3.cell? ⟨bx, 5, none⟩ = some (.int .u64 y4) := HBx2.out.cell 5
  have x_6 : w3.cell? ⟨bx, 6, none⟩ = some (.int .u64 y5) := HBx2.out.cell 6
  have x_7 : w3.cell? ⟨bx, 7, none⟩ = some (.int .u64 y6) := HBx2.out.cell 7
  have x_8 : w3.cell? ⟨bx, 8, none⟩ = some (.int .u64 y7) := HBx2.out.cell 8
  have x_9 : w3.cell? ⟨bx, 9, none⟩ = some (.bool ya) := HBx2.out.cell 9
  have x_10 : w3.cell? ⟨bx, 10, none⟩ = some (.bool yb) := HBx2.out.cell 10
  have h0 : w3.cell? ⟨bc, c * 11, none⟩ = some (.int .i64 ys) := by have := HSv.out.hon.cell (c * 11 + 0); rw [flat_get encH_len S.hs c hc 0 (by decide), HY.out] at this; exact this
  have fc0 : w3.frozen? ⟨bc, c * 11, none⟩ = false := HSv.out.hon.free _
  have h1 : w3.cell? ⟨bc, c * 11 + 1, none⟩ = some (.int .u64 y0) := by have := HSv.out.hon.cell (c * 11 + 1); rw [flat_get encH_len S.hs c hc 1 (by decide), HY.out] at this; exact this
  have fc1 : w3.frozen? ⟨bc, c * 11 + 1, none⟩ = false := HSv.out.hon.free _
  have h2 : w3.cell? ⟨bc, c * 11 + 2, none⟩ = some (.int .u64 y1) := by have := HSv.out.hon.cell (c * 11 + 2); rw [flat_get encH_len S.hs c hc 2 (by decide), HY.out] at this; exact this
  have fc2 : w3.frozen? ⟨bc, c * 11 + 2, none⟩ = false := HSv.out.hon.free _
  have h3 : w3.cell? ⟨bc, c * 11 + 3, none⟩ = some (.int .u64 y2) := by have := HSv.out.hon.cell (c * 11 + 3); rw [flat_get encH_len S.hs c hc 3 (by decide), HY.out] at this; exact this
  have fc3 : w3.frozen? ⟨bc, c * 11 + 3, none⟩ = false := HSv.out.hon.free _
  have h4 : w3.cell? ⟨bc, c * 11 + 4, none⟩ = some (.int .u64 y3) := by have := HSv.out.hon.cell (c * 11 + 4); rw [flat_get encH_len S.hs c hc 4 (by decide), HY.out] at this; exact this
  have fc4 : w3.frozen? ⟨bc, c * 11 + 4, none⟩ = false := HSv.out.hon.free _
  have h5 : w3.cell? ⟨bc, c * 11 + 5, none⟩ = some (.int .u64 y4) := by have := HSv.out.hon.cell (c * 11 + 5); rw [flat_get encH_len S.hs c hc 5 (by decide), HY.out] at this; exact this
  have fc5 : w3.frozen? ⟨bc, c * 11 + 5, none⟩ = false := HSv.out.hon.free _
  have h6 : w3.cell? ⟨bc, c * 11 + 6, none⟩ = some (.int .u64 y5) := by have := HSv.out.hon.cell (c * 11 + 6); rw [flat_get encH_len S.hs c hc 6 (by decide), HY.out] at this; exact this
  have fc6 : w3.frozen? ⟨bc, c * 11 + 6, none⟩ = false := HSv.out.hon.free _
  have h7 : w3.cell? ⟨bc, c * 11 + 7, none⟩ = some (.int .u64 y6) := by have := HSv.out.hon.cell (c * 11 + 7); rw [flat_get encH_len S.hs c hc 7 (by decide), HY.out] at this; exact this
  have fc7 : w3.frozen? ⟨bc, c * 11 + 7, none⟩ = false := HSv.out.hon.free _
  have h8 : w3.cell? ⟨bc, c * 11 + 8, none⟩ = some (.int .u64 y7) := by have := HSv.out.hon.cell (c * 11 + 8); rw [flat_get encH_len S.hs c hc 8 (by decide), HY.out] at this; exact this
  have fc8 : w3.frozen? ⟨bc, c * 11 + 8, none⟩ = false := HSv.out.hon.free _
  have h9 : w3.cell? ⟨bc, c * 11 + 9, none⟩ = some (.bool ya) := by have := HSv.out.hon.cell (c * 11 + 9); rw [flat_get encH_len S.hs c hc 9 (by decide), HY.out] at this; exact this
  have fc9 : w3.frozen? ⟨bc, c * 11 + 9, none⟩ = false := HSv.out.hon.free _
  have h10 : w3.cell? ⟨bc, c * 11 + 10, none⟩ = some (.bool yb) := by have := HSv.out.hon.cell (c * 11 + 10); rw [flat_get encH_len S.hs c hc 10 (by decide), HY.out] at this; exact this
  have fc10 : w3.frozen? ⟨bc, c * 11 + 10, none⟩ = false := HSv.out.hon.free _
  have xlt : bx < w3.heap.size := HBx2.out.lt; have blt : b < w3.heap.size := HSv.out.blk.lt; have clt : bc < w3.heap.size := HSv.out.hon.lt; have mlt : bm0 < w3.heap.size := HB.out.lt
  have hn7 : bx ≠ bc := HAx.out.nc; have hn8 : b ≠ bc := HSv.out.ne; have hn9 : bm0 ≠ bc := HBn.out.nc
  have hT1 : Chg [bc] w3 (((((((((((w3.setCell ⟨bc, c * 11, none⟩ (.int .i64 0)).setCell ⟨bc, c * 11 + 1, none⟩ (.int .u64 y0)).setCell ⟨bc, c * 11 + 2, none⟩ (.int .u64 y1)).setCell ⟨bc, c * 11 + 3, none⟩ (.int .u64 y2)).setCell ⟨bc, c * 11 + 4, none⟩ (.int .u64 y3)).setCell ⟨bc, c * 11 + 5, none⟩ (.int .u64 y4)).setCell ⟨bc, c * 11 + 6, none⟩ (.int .u64 y5)).setCell ⟨bc, c * 11 + 7, none⟩ (.int .u64 y6)).setCell ⟨bc, c * 11 + 8, none⟩ (.int .u64 y7)).setCell ⟨bc, c * 11 + 9, none⟩ (.bool ya)).setCell ⟨bc, c * 11 + 10, none⟩ (.bool yb)).drew := (hon_set11 HSv.out.hon hc ⟨0, ⟨y0, y1, y2, y3, y4, y5, y6, y7⟩, ya, yb⟩).2.drew
  have hq1 : b ∉ [bc] := by simpa using hn8
  have hq2 : bm0 ∉ [bc] := by simpa using hn9
  have hq3 : bx ∉ [bc] := by simpa using hn7
  go_region_held3 (fun w' => w'.cell? ⟨b, 1, none⟩ = some (.slice (some ⟨bc, 0, none⟩) S.hs.length S.hs.length) ∧ w'.cell? ⟨bm0, 1, none⟩ = some (.int .i64 (c : Int)) ∧ w'.cell? ⟨bx, 0, none⟩ = some (.int .i64 0) ∧ w'.cell? ⟨bx, 1, none⟩ = some (.int .u64 y0) ∧ w'.cell? ⟨bx, 2, none⟩ = some (.int .u64 y1) ∧ w'.cell? ⟨bx, 3, none⟩ = some (.int .u64 y2) ∧ w'.cell? ⟨bx, 4, none⟩ = some (.int .u64 y3) ∧ w'.cell? ⟨bx, 5, none⟩ = some (.int .u64 y4) ∧ w'.cell? ⟨bx, 6, none⟩ = some (.int .u64 y5) ∧ w'.cell? ⟨bx, 7, none⟩ = some (.int .u64 y6) ∧ w'.cell? ⟨bx, 8, none⟩ = some (.int .u64 y7) ∧ w'.cell? ⟨bx, 9, none⟩ = some (.bool ya) ∧ w'.cell? ⟨bx, 10, none⟩ = some (.bool yb)) (first | with_reducible exact ⟨b1, m1, x_0, x_1, x_2, x_3, x_4, x_5, x_6, x_7, x_8, x_9, x_10⟩ | with_reducible exact ⟨(hT1.cell blt hq1 _).trans b1, (hT1.cell mlt hq2 _).trans m1, (hT1.cell xlt hq3 _).trans x_0, (hT1.cell xlt hq3 _).trans x_1, (hT1.cell xlt hq3 _).trans x_2, (hT1.cell xlt hq3 _).trans x_3, (hT1.cell xlt hq3 _).trans x_4, (hT1.cell xlt hq3 _).trans x_5, (hT1.cell xlt hq3 _).trans x_6, (hT1.cell xlt hq3 _).trans x_7, (hT1.cell xlt hq3 _).trans x_8, (hT1.cell xlt hq3 _).trans x_9, (hT1.cell xlt hq3 _).trans x_10⟩ | go_keep) (fail)
  have hT0 := hon_set11 HSv.out.hon hc ⟨0, ⟨y0, y1, y2, y3, y4, y5, y6, y7⟩, ya, yb⟩
  have hT := And.intro hT0.1.drew hT0.2.drew
  clear hT0
  have hBk4 := hT.2.blk HBk2.out (by simpa using HAk.out.nc)
  have hS4 := HSv.out.honTurn (hs' := S.hs.set c ⟨0, ⟨y0, y1, y2, y3, y4, y5, y6, y7⟩, ya, yb⟩) (by rw [List.length_set]) hT.2 hT.1
  have HSv4 := Lib.hid hS4.1; have HBl4 := Lib.hid (HBl.out.trans hS4.2)
  have HBk4 := Lib.hid hBk4
  clear hT hT1 hq1 hq2 hq3 hS4 HSv HBl m1 b1 xlt blt clt mlt hBk4 x_0 h0 fc0 x_1 h1 fc1 x_2 h2 fc2 x_3 h3 fc3 x_4 h4 fc4 x_5 h5 fc5 x_6 h6 fc6 x_7 h7 fc7 x_8 h8 fc8 x_9 h9 fc9 x_10 h10 fc10
  generalize World.drew _ = w4 at *
  have k_0 : w4.cell? ⟨bk, 0, none⟩ = some (.int .i64 4) := HBk4.out.cell 0
  have k_1 : w4.cell? ⟨bk, 1, none⟩ = some (.int .i64 (c : Int)) := HBk4.out.cell 1
  have k_2 : w4.cell? ⟨bk, 2, none⟩ = some (.int .i64 l) := HBk4.out.cell 2
  have k_3 : w4.cell? ⟨bk, 3, none⟩ = some (.int .u64 0) := HBk4.out.cell 3
  have k_4 : w4.cell? ⟨bk, 4, none⟩ = some (.int .u64 0) := HBk4.out.cell 4
  have k_5 : w4.cell? ⟨bk, 5, none⟩ = some (.int .u64 0) := HBk4.out.cell 5
  have k_6 : w4.cell? ⟨bk, 6, none⟩ = some (.int .u64 0) := HBk4.out.cell 6
  have k_7 : w4.cell? ⟨bk, 7, none⟩ = some (.int .u64 0) := HBk4.out.cell 7
  have k_8 : w4.cell? ⟨bk, 8, none⟩ = some (.int .u64 0) := HBk4.out.cell 8
  have k_9 : w4.cell? ⟨bk, 9, none⟩ = some (.int .u64 0) := HBk4.out.cell 9
  have k_10 : w4.cell? ⟨bk, 10, none⟩ = some (.int .u64 0) := HBk4.out.cell 10
  have klt : bk < w4.heap.size := HBk4.out.lt; have blt : b < w4.heap.size := HSv4.out.blk.lt
  have b2 : w4.cell? ⟨b, 2, none⟩ = some vi := HSv4.out.blk.cell 2; have f2 : w4.frozen? ⟨b, 2, none⟩ = false := HSv4.out.blk.free 2
  have HNr := Lib.hid HSv4.out.notRow.1.1
  have HOw : Hid (w4.drew.ownsRow N0 33 11 vi S.inn.length (S.inn.flatMap encM)) := Lib.hid HSv4.out.inn
  go_upto_region 30 with fail
  go_region_law (refine step_append_row (by rfl) (.tmp 128) (.tmp 130) (by rfl) j0 hj hz0 hz1 hz2 (by rfl) (HOw.out.alloc _) ⟨w4.heap.size, 0, none⟩ 1 (by rfl) ⟨4, (c : Int), l, ⟨0, 0, 0, 0, 0, 0, 0, 0⟩⟩ (cells_new w4.drew [.int .i64 4, .int .i64 (c : Int), .int .i64 l, .int .u64 0, .int .u64 0, .int .u64 0, .int .u64 0, .int .u64 0, .int .u64 0, .int .u64 0, .int .u64 0] _) (by have := HLn.out; omega) (Nat.le_trans HSv4.out.lo.2.2 (by simp)) ?_; intro v5 w5 ho5 hg5 hb5; have hk5 := (((Chg.refl (rowB vi) w4).drew).alloc (.cells #[.int .i64 4, .int .i64 (c : Int), .int .i64 l, .int .u64 0, .int .u64 0, .int .u64 0, .int .u64 0, .int .u64 0, .int .u64 0, .int .u64 0, .int .u64 0] 33)).trans (Chg.of_grown hg5); have hr5 := rowB_grew hb5 (n := w4.heap.size) (by simp); have HO5 := Lib.hid ho5; have HK5 := Lib.hid hk5; have HR5 := Lib.hid hr5; obtain ⟨A5, c5, hv5, _, _, _, _⟩ := ownsRow_cell ho5; clear ho5 hg5 hb5 hk5 hr5; subst hv5; have q2 : w5.cell? ⟨b, 2, none⟩ = some vi := (HK5.out.cell blt HNr.out 2).trans b2; have g2 : w5.frozen? ⟨b, 2, none⟩ = false := (HK5.out.blk HSv4.out.blk HNr.out).free 2)
  all_goals (have hG := HSv4.out.innNew (inn' := S.inn ++ [⟨4, (c : Int), l, {}⟩]) HK5.out (by rw [List.length_append, List.flatMap_append]; exact HO5.out) HR5.out; have HZ := Lib.hid (And.intro hG.1 (HBl4.out.trans hG.2)); clear hG; refine bodyPost_ret (results_none rfl _ _ _) rfl ?_; exact ⟨rfl, ⟨_, _, _, HZ.out.1⟩, HZ.out.2⟩)


set_option maxHeartbeats 8000000 in
theorem wans_12y {N0 : Nat} {w : World} {b d bm bw bl bc : Nat} {vi vo : Value} {es : List EntV} {e0 : EntV} {S : SvS} {made got : Int} (c : Nat) (hc : c < S.hs.length) (l x0 x1 x2 x3 x4 x5 x6 x7 ys y0 y1 y2 y3 y4 y5 y6 y7 : Int) (ya yb : Bool) (hy : S.hs[c] = ⟨ys, ⟨y0, y1, y2, y3, y4, y5, y6, y7⟩, ya, yb⟩) (hlen : S.inn.length ≤ 1000) (hcl : S.hs.length ≤ 4) (hx : ys = 2) (H : SvW N0 w b d bm bw bl bc vi vo es e0 S made got) :
    Calls Try.prog 35 #[.pointer (some ⟨b, 0, none⟩), .agg #[.int .i64 12, .int .i64 (c : Int), .int .i64 l, .int .u64 x0, .int .u64 x1, .int .u64 x2, .int .u64 x3, .int .u64 x4, .int .u64 x5, .int .u64 x6, .int .u64 x7]] w (SvPost N0 w b d bm bw bl bc e0 { S with hs := S.hs.set c ⟨1, ⟨y0, y1, y2, y3, y4, y5, y6, y7⟩, ya, yb⟩, inn := S.inn ++ [⟨5, (c : Int), l, ⟨y0, y1, y2, y3, y4, y5, y6, y7⟩⟩] } made got) := by
  obtain ⟨j0, hj, hz0, hz1, hz2⟩ := info_parts infoMsg
  have hal : Chg [] w (w.alloc (.cells #[.int .i64 12, .int .i64 (c : Int), .int .i64 l, .int .u64 x0, .int .u64 x1, .int .u64 x2, .int .u64 x3, .int .u64 x4, .int .u64 x5, .int .u64 x6, .int .u64 x7] 33)) := (Chg.refl [] w).alloc _
  have HSv := Lib.hid (H.look hal)
  have HB := Lib.hid (Blk.new w [.int .i64 12, .int .i64 (c : Int), .int .i64 l, .int .u64 x0, .int .u64 x1, .int .u64 x2, .int .u64 x3, .int .u64 x4, .int .u64 x5, .int .u64 x6, .int .u64 x7] 33)
  have HBl := Lib.hid (hal.to_below (B := N0) (fun x hx => absurd hx (by simp)) H.lo.2.2)
  have HBn := Lib.hid (H.fresh (x := w.heap.size) (Nat.le_refl _))
  have HY := Lib.hid hy; have HLn := Lib.hid hlen; have HX := Lib.hid hx
  subst hx
  have hnl : (S.hs.length : Int) ≤ 4 := by omega
  have hci : (c : Int) < S.hs.length := by omega
  have hc0 : (0 : Int) ≤ c := Int.natCast_nonneg _
  clear hal H hy hlen
  go_enter Try.func35, Try.ntmps35
  go_upto_region 1 with fail
  generalize World.alloc _ _ = wa at *
  obtain ⟨bm0, hb⟩ : ∃ b, w.heap.size = b := ⟨_, rfl⟩
  rw [hb] at HB HBn ⊢
  clear hb
  have m0 : wa.cell? ⟨bm0, 0, none⟩ = some (.int .i64 12) := HB.out.cell 0
  have m1 : wa.cell? ⟨bm0, 1, none⟩ = some (.int .i64 (c : Int)) := HB.out.cell 1
  have m2 : wa.cell? ⟨bm0, 2, none⟩ = some (.int .i64 l) := HB.out.cell 2
  have m3 : wa.cell? ⟨bm0, 3, none⟩ = some (.int .u64 x0) := HB.out.cell 3
  have m4 : wa.cell? ⟨bm0, 4, none⟩ = some (.int .u64 x1) := HB.out.cell 4
  have m5 : wa.cell? ⟨bm0, 5, none⟩ = some (.int .u64 x2) := HB.out.cell 5
  have m6 : wa.cell? ⟨bm0, 6, none⟩ = some (.int .u64 x3) := HB.out.cell 6
  have m7 : wa.cell? ⟨bm0, 7, none⟩ = some (.int .u64 x4) := HB.out.cell 7
  have m8 : wa.cell? ⟨bm0, 8, none⟩ = some (.int .u64 x5) := HB.out.cell 8
  have m9 : wa.cell? ⟨bm0, 9, none⟩ = some (.int .u64 x6) := HB.out.cell 9
  have m10 : wa.cell? ⟨bm0, 10, none⟩ = some (.int .u64 x7) := HB.out.cell 10
  have mlt : bm0 < wa.heap.size := HB.out.lt
  have b1 : wa.cell? ⟨b, 1, none⟩ = some (.slice (some ⟨bc, 0, none⟩) S.hs.length S.hs.length) := HSv.out.blk.cell 1
  have h0 : wa.cell? ⟨bc, c * 11, none⟩ = some (.int .i64 2) := by have := HSv.out.hon.cell (c * 11 + 0); rw [flat_get encH_len S.hs c hc 0 (by decide), HY.out] at this; exact this
  have h1 : wa.cell? ⟨bc, c * 11 + 1, none⟩ = some (.int .u64 y0) := by have := HSv.out.hon.cell (c * 11 + 1); rw [flat_get encH_len S.hs c hc 1 (by decide), HY.out] at this; exact this
  have h2 : wa.cell? ⟨bc, c * 11 + 2, none⟩ = some (.int .u64 y1) := by have := HSv.out.hon.cell (c * 11 + 2); rw [flat_get encH_len S.hs c hc 2 (by decide), HY.out] at this; exact this
  have h3 : wa.cell? ⟨bc, c * 11 + 3, none⟩ = some (.int .u64 y2) := by have := HSv.out.hon.cell (c * 11 + 3); rw [flat_get encH_len S.hs c hc 3 (by decide), HY.out] at this; exact this
  have h4 : wa.cell? ⟨bc, c * 11 + 4, none⟩ = some (.int .u64 y3) := by have := HSv.out.hon.cell (c * 11 + 4); rw [flat_get encH_len S.hs c hc 4 (by decide), HY.out] at this; exact this
  have h5 : wa.cell? ⟨bc, c * 11 + 5, none⟩ = some (.int .u64 y4) := by have := HSv.out.hon.cell (c * 11 + 5); rw [flat_get encH_len S.hs c hc 5 (by decide), HY.out] at this; exact this
  have h6 : wa.cell? ⟨bc, c * 11 + 6, none⟩ = some (.int .u64 y5) := by have := HSv.out.hon.cell (c * 11 + 6); rw [flat_get encH_len S.hs c hc 6 (by decide), HY.out] at this; exact this
  have h7 : wa.cell? ⟨bc, c * 11 + 7, none⟩ = some (.int .u64 y6) := by have := HSv.out.hon.cell (c * 11 + 7); rw [flat_get encH_len S.hs c hc 7 (by decide), HY.out] at this; exact this
  have h8 : wa.cell? ⟨bc, c * 11 + 8, none⟩ = some (.int .u64 y7) := by have := HSv.out.hon.cell (c * 11 + 8); rw [flat_get encH_len S.hs c hc 8 (by decide), HY.out] at this; exact this
  have h9 : wa.cell? ⟨bc, c * 11 + 9, none⟩ = some (.bool ya) := by have := HSv.out.hon.cell (c * 11 + 9); rw [flat_get encH_len S.hs c hc 9 (by decide), HY.out] at this; exact this
  have h10 : wa.cell? ⟨bc, c * 11 + 10, none⟩ = some (.bool yb) := by have := HSv.out.hon.cell (c * 11 + 10); rw [flat_get encH_len S.hs c hc 10 (by decide), HY.out] at this; exact this
  have blt : b < wa.heap.size := HSv.out.blk.lt
  have clt : bc < wa.heap.size := HSv.out.hon.lt
  go_region_held3 (fun w' => w'.cell? ⟨b, 1, none⟩ = some (.slice (some ⟨bc, 0, none⟩) S.hs.length S.hs.length) ∧ w'.cell? ⟨bm0, 1, none⟩ = some (.int .i64 (c : Int)) ∧ w'.cell? ⟨bc, c * 11, none⟩ = some (.int .i64 2) ∧ w'.cell? ⟨bc, c * 11 + 1, none⟩ = some (.int .u64 y0) ∧ w'.cell? ⟨bc, c * 11 + 2, none⟩ = some (.int .u64 y1) ∧ w'.cell? ⟨bc, c * 11 + 3, none⟩ = some (.int .u64 y2) ∧ w'.cell? ⟨bc, c * 11 + 4, none⟩ = some (.int .u64 y3) ∧ w'.cell? ⟨bc, c * 11 + 5, none⟩ = some (.int .u64 y4) ∧ w'.cell? ⟨bc, c * 11 + 6, none⟩ = some (.int .u64 y5) ∧ w'.cell? ⟨bc, c * 11 + 7, none⟩ = some (.int .u64 y6) ∧ w'.cell? ⟨bc, c * 11 + 8, none⟩ = some (.int .u64 y7) ∧ w'.cell? ⟨bc, c * 11 + 9, none⟩ = some (.bool ya) ∧ w'.cell? ⟨bc, c * 11 + 10, none⟩ = some (.bool yb)) (first | with_reducible exact ⟨b1, m1, h0, h1, h2, h3, h4, h5, h6, h7, h8, h9, h10⟩ | go_keep) (fail)
  clear m0 h0 m1 h1 m2 h2 m3 h3 m4 h4 m5 h5 m6 h6 m7 h7 m8 h8 m9 h9 m10 h10 b1
  have hk1 := ((Chg.refl [] wa).alloc (.cells #[.int .i64 2, .int .u64 y0, .int .u64 y1, .int .u64 y2, .int .u64 y3, .int .u64 y4, .int .u64 y5, .int .u64 y6, .int .u64 y7, .bool ya, .bool yb] 91)).drew
  have HBx := Lib.hid (Blk.drew (Blk.new wa [.int .i64 2, .int .u64 y0, .int .u64 y1, .int .u64 y2, .int .u64 y3, .int .u64 y4, .int .u64 y5, .int .u64 y6, .int .u64 y7, .bool ya, .bool yb] 91))
  have HAx := Lib.hid (HSv.out.fresh (x := wa.heap.size) (Nat.le_refl _))
  have hbx : bm0 < wa.heap.size := mlt
  replace HBl := Lib.hid (HBl.out.trans (hk1.to_below (B := N0) (fun x hx => absurd hx (by simp)) (HSv.out.lo.2.2))); replace HSv := Lib.hid (HSv.out.look hk1); replace HB := Lib.hid (hk1.blk HB.out (by simp))
  clear hk1 mlt blt clt
  generalize World.drew _ = w1 at *
  obtain ⟨bx, hbxx⟩ : ∃ b, wa.heap.size = b := ⟨_, rfl⟩
  rw [hbxx] at HBx HAx hbx ⊢
  clear hbxx
  have xlt : bx < w1.heap.size := HBx.out.lt
  have m0 : w1.cell? ⟨bm0, 0, none⟩ = some (.int .i64 12) := HB.out.cell 0
  have m1 : w1.cell? ⟨bm0, 1, none⟩ = some (.int .i64 (c : Int)) := HB.out.cell 1
  have m2 : w1.cell? ⟨bm0, 2, none⟩ = some (.int .i64 l) := HB.out.cell 2
  have m3 : w1.cell? ⟨bm0, 3, none⟩ = some (.int .u64 x0) := HB.out.cell 3
  have m4 : w1.cell? ⟨bm0, 4, none⟩ = some (.int .u64 x1) := HB.out.cell 4
  have m5 : w1.cell? ⟨bm0, 5, none⟩ = some (.int .u64 x2) := HB.out.cell 5
  have m6 : w1.cell? ⟨bm0, 6, none⟩ = some (.int .u64 x3) := HB.out.cell 6
  have m7 : w1.cell? ⟨bm0, 7, none⟩ = some (.int .u64 x4) := HB.out.cell 7
  have m8 : w1.cell? ⟨bm0, 8, none⟩ = some (.int .u64 x5) := HB.out.cell 8
  have m9 : w1.cell? ⟨bm0, 9, none⟩ = some (.int .u64 x6) := HB.out.cell 9
  have m10 : w1.cell? ⟨bm0, 10, none⟩ = some (.int .u64 x7) := HB.out.cell 10
  have mlt : bm0 < w1.heap.size := HB.out.lt
  go_upto_region 3 with fail
  have hk2 := (Chg.refl [] w1).alloc (.cells #[.int .i64 0, .int .i64 (c : Int), .int .i64 l, .int .u64 0, .int .u64 0, .int .u64 0, .int .u64 0, .int .u64 0, .int .u64 0, .int .u64 0, .int .u64 0] 33)
  have HBk := Lib.hid (Blk.new w1 [.int .i64 0, .int .i64 (c : Int), .int .i64 l, .int .u64 0, .int .u64 0, .int .u64 0, .int .u64 0, .int .u64 0, .int .u64 0, .int .u64 0, .int .u64 0] 33)
  have HAk := Lib.hid (HSv.out.fresh (x := w1.heap.size) (Nat.le_refl _))
  have hbk1 : bm0 < w1.heap.size := mlt; have hbk2 : bx < w1.heap.size := xlt
  replace HBl := Lib.hid (HBl.out.trans (hk2.to_below (B := N0) (fun x hx => absurd hx (by simp)) (HSv.out.lo.2.2))); replace HSv := Lib.hid (HSv.out.look hk2); replace HB := Lib.hid (hk2.blk HB.out (by simp)); replace HBx := Lib.hid (hk2.blk HBx.out (by simp))
  clear hk2 mlt xlt m0 m1 m2 m3 m4 m5 m6 m7 m8 m9 m10
  generalize World.alloc _ _ = w2 at *
  obtain ⟨bk, hbkk⟩ : ∃ b, w1.heap.size = b := ⟨_, rfl⟩
  rw [hbkk] at HBk HAk hbk1 hbk2 ⊢
  clear hbkk
  have hn1 : bm0 ≠ bx := by omega
  have hn2 : bm0 ≠ bk := by omega
  have hn3 : bx ≠ bk := by omega
  have hn4 : bm0 ≠ b := HBn.out.nb; have hn5 : bx ≠ b := HAx.out.nb; have hn6 : bk ≠ b := HAk.out.nb
  have m0 : w2.cell? ⟨bm0, 0, none⟩ = some (.int .i64 12) := HB.out.cell 0
  have m1 : w2.cell? ⟨bm0, 1, none⟩ = some (.int .i64 (c : Int)) := HB.out.cell 1
  have m2 : w2.cell? ⟨bm0, 2, none⟩ = some (.int .i64 l) := HB.out.cell 2
  have m3 : w2.cell? ⟨bm0, 3, none⟩ = some (.int .u64 x0) := HB.out.cell 3
  have m4 : w2.cell? ⟨bm0, 4, none⟩ = some (.int .u64 x1) := HB.out.cell 4
  have m5 : w2.cell? ⟨bm0, 5, none⟩ = some (.int .u64 x2) := HB.out.cell 5
  have m6 : w2.cell? ⟨bm0, 6, none⟩ = some (.int .u64 x3) := HB.out.cell 6
  have m7 : w2.cell? ⟨bm0, 7, none⟩ = some (.int .u64 x4) := HB.out.cell 7
  have m8 : w2.cell? ⟨bm0, 8, none⟩ = some (.int .u64 x5) := HB.out.cell 8
  have m9 : w2.cell? ⟨bm0, 9, none⟩ = some (.int .u64 x6) := HB.out.cell 9
  have m10 : w2.cell? ⟨bm0, 10, none⟩ = some (.int .u64 x7) := HB.out.cell 10
  have mlt : bm0 < w2.heap.size := HB.out.lt
  have x_0 : w2.cell? ⟨bx, 0, none⟩ = some (.int .i64 2) := HBx.out.cell 0
  have g_0 : w2.frozen? ⟨bx, 0, none⟩ = false := HBx.out.free 0
  have x_1 : w2.cell? ⟨bx, 1, none⟩ = some (.int .u64 y0) := HBx.out.cell 1
  have g_1 : w2.frozen? ⟨bx, 1, none⟩ = false := HBx.out.free 1
  have x_2 : w2.cell? ⟨bx, 2, none⟩ = some (.int .u64 y1) := HBx.out.cell 2
  have g_2 : w2.frozen? ⟨bx, 2, none⟩ = false := HBx.out.free 2
  have x_3 : w2.cell? ⟨bx, 3, none⟩ = some (.int .u64 y2) := HBx.out.cell 3
  have g_3 : w2.frozen? ⟨bx, 3, none⟩ = false := HBx.out.free 3
  have x_4 : w2.cell? ⟨bx, 4, none⟩ = some (.int .u64 y3) := HBx.out.cell 4
  have g_4 : w2.frozen? ⟨bx, 4, none⟩ = false := HBx.out.free 4
  have x_5 : w2.cell? ⟨bx, 5, none⟩ = some (.int .u64 y4) := HBx.out.cell 5
  have g_5 : w2.frozen? ⟨bx, 5, none⟩ = false := HBx.out.free 5
  have x_6 : w2.cell? ⟨bx, 6, none⟩ = some (.int .u64 y5) := HBx.out.cell 6
  have g_6 : w2.frozen? ⟨bx, 6, none⟩ = false := HBx.out.free 6
  have x_7 : w2.cell? ⟨bx, 7, none⟩ = some (.int .u64 y6) := HBx.out.cell 7
  have g_7 : w2.frozen? ⟨bx, 7, none⟩ = false := HBx.out.free 7
  have x_8 : w2.cell? ⟨bx, 8, none⟩ = some (.int .u64 y7) := HBx.out.cell 8
  have g_8 : w2.frozen? ⟨bx, 8, none⟩ = false := HBx.out.free 8
  have x_9 : w2.cell? ⟨bx, 9, none⟩ = some (.bool ya) := HBx.out.cell 9
  have g_9 : w2.frozen? ⟨bx, 9, none⟩ = false := HBx.out.free 9
  have x_10 : w2.cell? ⟨bx, 10, none⟩ = some (.bool yb) := HBx.out.cell 10
  have g_10 : w2.frozen? ⟨bx, 10, none⟩ = false := HBx.out.free 10
  have k_0 : w2.cell? ⟨bk, 0, none⟩ = some (.int .i64 0) := HBk.out.cell 0
  have l_0 : w2.frozen? ⟨bk, 0, none⟩ = false := HBk.out.free 0
  have k_1 : w2.cell? ⟨bk, 1, none⟩ = some (.int .i64 (c : Int)) := HBk.out.cell 1
  have l_1 : w2.frozen? ⟨bk, 1, none⟩ = false := HBk.out.free 1
  have k_2 : w2.cell? ⟨bk, 2, none⟩ = some (.int .i64 l) := HBk.out.cell 2
  have l_2 : w2.frozen? ⟨bk, 2, none⟩ = false := HBk.out.free 2
  have k_3 : w2.cell? ⟨bk, 3, none⟩ = some (.int .u64 0) := HBk.out.cell 3
  have l_3 : w2.frozen? ⟨bk, 3, none⟩ = false := HBk.out.free 3
  have k_4 : w2.cell? ⟨bk, 4, none⟩ = some (.int .u64 0) := HBk.out.cell 4
  have l_4 : w2.frozen? ⟨bk, 4, none⟩ = false := HBk.out.free 4
  have k_5 : w2.cell? ⟨bk, 5, none⟩ = some (.int .u64 0) := HBk.out.cell 5
  have l_5 : w2.frozen? ⟨bk, 5, none⟩ = false := HBk.out.free 5
  have k_6 : w2.cell? ⟨bk, 6, none⟩ = some (.int .u64 0) := HBk.out.cell 6
  have l_6 : w2.frozen? ⟨bk, 6, none⟩ = false := HBk.out.free 6
  have k_7 : w2.cell? ⟨bk, 7, none⟩ = some (.int .u64 0) := HBk.out.cell 7
  have l_7 : w2.frozen? ⟨bk, 7, none⟩ = false := HBk.out.free 7
  have k_8 : w2.cell? ⟨bk, 8, none⟩ = some (.int .u64 0) := HBk.out.cell 8
  have l_8 : w2.frozen? ⟨bk, 8, none⟩ = false := HBk.out.free 8
  have k_9 : w2.cell? ⟨bk, 9, none⟩ = some (.int .u64 0) := HBk.out.cell 9
  have l_9 : w2.frozen? ⟨bk, 9, none⟩ = false := HBk.out.free 9
  have k_10 : w2.cell? ⟨bk, 10, none⟩ = some (.int .u64 0) := HBk.out.cell 10
  have l_10 : w2.frozen? ⟨bk, 10, none⟩ = false := HBk.out.free 10
  have xlt : bx < w2.heap.size := HBx.out.lt
  have klt : bk < w2.heap.size := HBk.out.lt
  have blt : b < w2.heap.size := HSv.out.blk.lt
  have b1 : w2.cell? ⟨b, 1, none⟩ = some (.slice (some ⟨bc, 0, none⟩) S.hs.length S.hs.length) := HSv.out.blk.cell 1
  have f1 : w2.frozen? ⟨b, 1, none⟩ = false := HSv.out.blk.free 1
  have b2 : w2.cell? ⟨b, 2, none⟩ = some (vi) := HSv.out.blk.cell 2
  have f2 : w2.frozen? ⟨b, 2, none⟩ = false := HSv.out.blk.free 2
  have b5 : w2.cell? ⟨b, 5, none⟩ = some (.int .i64 got) := HSv.out.blk.cell 5
  have f5 : w2.frozen? ⟨b, 5, none⟩ = false := HSv.out.blk.free 5
  have b6 : w2.cell? ⟨b, 6, none⟩ = some (.int .u64 S.val) := HSv.out.blk.cell 6
  have f6 : w2.frozen? ⟨b, 6, none⟩ = false := HSv.out.blk.free 6
  have b7 : w2.cell? ⟨b, 7, none⟩ = some (.bool true) := HSv.out.blk.cell 7
  have f7 : w2.frozen? ⟨b, 7, none⟩ = false := HSv.out.blk.free 7
  go_upto_region 29 with fail
  have hF := SvW.aside HSv.out ((Chg.refl [bk] _).setCell (p := ⟨bk, 0, none⟩) (fun _ => List.mem_singleton.2 rfl) (.int .i64 6)) (fun x hx => by rw [List.mem_singleton.1 hx]; exact HAk.out)
  replace HBl := Lib.hid (HBl.out.trans hF.2); replace HSv := Lib.hid hF.1; clear hF
  replace HBk := Lib.hid (HBk.out.set 0 (.int .i64 6))
  replace HBx := Lib.hid (HBx.out.other (a := ⟨bk, 0, none⟩) (Ne.symm hn3) (.int .i64 6))
  replace HB := Lib.hid (HB.out.other (a := ⟨bk, 0, none⟩) (Ne.symm hn2) (.int .i64 6))
  have hF := SvW.aside HSv.out ((Chg.refl [bk] _).setCell (p := ⟨bk, 0, none⟩) (fun _ => List.mem_singleton.2 rfl) (.int .i64 5)) (fun x hx => by rw [List.mem_singleton.1 hx]; exact HAk.out)
  replace HBl := Lib.hid (HBl.out.trans hF.2); replace HSv := Lib.hid hF.1; clear hF
  replace HBk := Lib.hid (HBk.out.set 0 (.int .i64 5))
  replace HBx := Lib.hid (HBx.out.other (a := ⟨bk, 0, none⟩) (Ne.symm hn3) (.int .i64 5))
  replace HB := Lib.hid (HB.out.other (a := ⟨bk, 0, none⟩) (Ne.symm hn2) (.int .i64 5))
  have hF := SvW.aside HSv.out ((Chg.refl [bk] _).setCell (p := ⟨bk, 3, none⟩) (fun _ => List.mem_singleton.2 rfl) (.int .u64 y0)) (fun x hx => by rw [List.mem_singleton.1 hx]; exact HAk.out)
  replace HBl := Lib.hid (HBl.out.trans hF.2); replace HSv := Lib.hid hF.1; clear hF
  replace HBk := Lib.hid (HBk.out.set 3 (.int .u64 y0))
  replace HBx := Lib.hid (HBx.out.other (a := ⟨bk, 3, none⟩) (Ne.symm hn3) (.int .u64 y0))
  replace HB := Lib.hid (HB.out.other (a := ⟨bk, 3, none⟩) (Ne.symm hn2) (.int .u64 y0))
  have hF := SvW.aside HSv.out ((Chg.refl [bk] _).setCell (p := ⟨bk, 4, none⟩) (fun _ => List.mem_singleton.2 rfl) (.int .u64 y1)) (fun x hx => by rw [List.mem_singleton.1 hx]; exact HAk.out)
  replace HBl := Lib.hid (HBl.out.trans hF.2); replace HSv := Lib.hid hF.1; clear hF
  replace HBk := Lib.hid (HBk.out.set 4 (.int .u64 y1))
  replace HBx := Lib.hid (HBx.out.other (a := ⟨bk, 4, none⟩) (Ne.symm hn3) (.int .u64 y1))
  replace HB := Lib.hid (HB.out.other (a := ⟨bk, 4, none⟩) (Ne.symm hn2) (.int .u64 y1))
  have hF := SvW.aside HSv.out ((Chg.refl [bk] _).setCell (p := ⟨bk, 5, none⟩) (fun _ => List.mem_singleton.2 rfl) (.int .u64 y2)) (fun x hx => by rw [List.mem_singleton.1 hx]; exact HAk.out)
  replace HBl := Lib.hid (HBl.out.trans hF.2); replace HSv := Lib.hid hF.1; clear hF
  replace HBk := Lib.hid (HBk.out.set 5 (.int .u64 y2))
  replace HBx := Lib.hid (HBx.out.other (a := ⟨bk, 5, none⟩) (Ne.symm hn3) (.int .u64 y2))
  replace HB := Lib.hid (HB.out.other (a := ⟨bk, 5, none⟩) (Ne.symm hn2) (.int .u64 y2))
  have hF := SvW.aside HSv.out ((Chg.refl [bk] _).setCell (p := ⟨bk, 6, none⟩) (fun _ => List.mem_singleton.2 rfl) (.int .u64 y3)) (fun x hx => by rw [List.mem_singleton.1 hx]; exact HAk.out)
  replace HBl := Lib.hid (HBl.out.trans hF.2); replace HSv := Lib.hid hF.1; clear hF
  replace HBk := Lib.hid (HBk.out.set 6 (.int .u64 y3))
  replace HBx := Lib.hid (HBx.out.other (a := ⟨bk, 6, none⟩) (Ne.symm hn3) (.int .u64 y3))
  replace HB := Lib.hid (HB.out.other (a := ⟨bk, 6, none⟩) (Ne.symm hn2) (.int .u64 y3))
  have hF := SvW.aside HSv.out ((Chg.refl [bk] _).setCell (p := ⟨bk, 7, none⟩) (fun _ => List.mem_singleton.2 rfl) (.int .u64 y4)) (fun x hx => by rw [List.mem_singleton.1 hx]; exact HAk.out)
  replace HBl := Lib.hid (HBl.out.trans hF.2); replace HSv := Lib.hid hF.1; clear hF
  replace HBk := Lib.hid (HBk.out.set 7 (.int .u64 y4))
  replace HBx := Lib.hid (HBx.out.other (a := ⟨bk, 7, none⟩) (Ne.symm hn3) (.int .u64 y4))
  replace HB := Lib.hid (HB.out.other (a := ⟨bk, 7, none⟩) (Ne.symm hn2) (.int .u64 y4))
  have hF := SvW.aside HSv.out ((Chg.refl [bk] _).setCell (p := ⟨bk, 8, none⟩) (fun _ => List.mem_singleton.2 rfl) (.int .u64 y5)) (fun x hx => by rw [List.mem_singleton.1 hx]; exact HAk.out)
  replace HBl := Lib.hid (HBl.out.trans hF.2); replace HSv := Lib.hid hF.1; clear hF
  replace HBk := Lib.hid (HBk.out.set 8 (.int .u64 y5))
  replace HBx := Lib.hid (HBx.out.other (a := ⟨bk, 8, none⟩) (Ne.symm hn3) (.int .u64 y5))
  replace HB := Lib.hid (HB.out.other (a := ⟨bk, 8, none⟩) (Ne.symm hn2) (.int .u64 y5))
  have hF := SvW.aside HSv.out ((Chg.refl [bk] _).setCell (p := ⟨bk, 9, none⟩) (fun _ => List.mem_singleton.2 rfl) (.int .u64 y6)) (fun x hx => by rw [List.mem_singleton.1 hx]; exact HAk.out)
  replace HBl := Lib.hid (HBl.out.trans hF.2); replace HSv := Lib.hid hF.1; clear hF
  replace HBk := Lib.hid (HBk.out.set 9 (.int .u64 y6))
  replace HBx := Lib.hid (HBx.out.other (a := ⟨bk, 9, none⟩) (Ne.symm hn3) (.int .u64 y6))
  replace HB := Lib.hid (HB.out.other (a := ⟨bk, 9, none⟩) (Ne.symm hn2) (.int .u64 y6))
  have hF := SvW.aside HSv.out ((Chg.refl [bk] _).setCell (p := ⟨bk, 10, none⟩) (fun _ => List.mem_singleton.2 rfl) (.int .u64 y7)) (fun x hx => by rw [List.mem_singleton.1 hx]; exact HAk.out)
  replace HBl := Lib.hid (HBl.out.trans hF.2); replace HSv := Lib.hid hF.1; clear hF
  replace HBk := Lib.hid (HBk.out.set 10 (.int .u64 y7))
  replace HBx := Lib.hid (HBx.out.other (a := ⟨bk, 10, none⟩) (Ne.symm hn3) (.int .u64 y7))
  replace HB := Lib.hid (HB.out.other (a := ⟨bk, 10, none⟩) (Ne.symm hn2) (.int .u64 y7))
  have hF := SvW.aside HSv.out ((Chg.refl [bx] _).setCell (p := ⟨bx, 0, none⟩) (fun _ => List.mem_singleton.2 rfl) (.int .i64 0)) (fun x hx => by rw [List.mem_singleton.1 hx]; exact HAx.out)
  replace HBl := Lib.hid (HBl.out.trans hF.2); replace HSv := Lib.hid hF.1; clear hF
  replace HBx := Lib.hid (HBx.out.set 0 (.int .i64 0))
  replace HBk := Lib.hid (HBk.out.other (a := ⟨bx, 0, none⟩) (hn3) (.int .i64 0))
  replace HB := Lib.hid (HB.out.other (a := ⟨bx, 0, none⟩) (Ne.symm hn1) (.int .i64 0))
  have hF := SvW.aside HSv.out ((Chg.refl [bx] _).setCell (p := ⟨bx, 0, none⟩) (fun _ => List.mem_singleton.2 rfl) (.int .i64 1)) (fun x hx => by rw [List.mem_singleton.1 hx]; exact HAx.out)
  replace HBl := Lib.hid (HBl.out.trans hF.2); replace HSv := Lib.hid hF.1; clear hF
  replace HBx := Lib.hid (HBx.out.set 0 (.int .i64 1))
  replace HBk := Lib.hid (HBk.out.other (a := ⟨bx, 0, none⟩) (hn3) (.int .i64 1))
  replace HB := Lib.hid (HB.out.other (a := ⟨bx, 0, none⟩) (Ne.symm hn1) (.int .i64 1))
  have HBx2 : Hid (Blk _ bx [.int .i64 1, .int .u64 y0, .int .u64 y1, .int .u64 y2, .int .u64 y3, .int .u64 y4, .int .u64 y5, .int .u64 y6, .int .u64 y7, .bool ya, .bool yb] 91) := HBx
  have HBk2 : Hid (Blk _ bk [.int .i64 5, .int .i64 (c : Int), .int .i64 l, .int .u64 y0, .int .u64 y1, .int .u64 y2, .int .u64 y3, .int .u64 y4, .int .u64 y5, .int .u64 y6, .int .u64 y7] 33) := HBk
  clear HBx HBk
  clear mlt xlt klt blt m0 m1 m2 m3 m4 m5 m6 m7 m8 m9 m10 x_0 g_0 k_0 l_0 x_1 g_1 k_1 l_1 x_2 g_2 k_2 l_2 x_3 g_3 k_3 l_3 x_4 g_4 k_4 l_4 x_5 g_5 k_5 l_5 x_6 g_6 k_6 l_6 x_7 g_7 k_7 l_7 x_8 g_8 k_8 l_8 x_9 g_9 k_9 l_9 x_10 g_10 k_10 l_10 b1 f1 b2 f2 b5 f5 b6 f6 b7 f7
  generalize World.setCell _ _ _ = w3 at *
  have m1 : w3.cell? ⟨bm0, 1, none⟩ = some (.int .i64 (c : Int)) := HB.out.cell 1
  have b1 : w3.cell? ⟨b, 1, none⟩ = some (.slice (some ⟨bc, 0, none⟩) S.hs.length S.hs.length) := HSv.out.blk.cell 1
  have x_0 : w3.cell? ⟨bx, 0, none⟩ = some (.int .i64 1) := HBx2.out.cell 0
  have x_1 : w3.cell? ⟨bx, 1, none⟩ = some (.int .u64 y0) := HBx2.out.cell 1
  have x_2 : w3.cell? ⟨bx, 2, none⟩ = some (.int .u64 y1) := HBx2.out.cell 2
  have x_3 : w3.cell? ⟨bx, 3, none⟩ = some (.int .u64 y2) := HBx2.out.cell 3
  have x_4 : w3.cell? ⟨bx, 4, none⟩ = some (.int .u64 y3) := HBx2.out.cell 4
  have x_5 : w3.cell? ⟨bx, 5, none⟩ = some (.int .u64 y4) := HBx2.out.cell 5
  have x_6 : w3.cell? ⟨bx, 6, none⟩ = some (.int .u64 y5) := HBx2.out.cell 6
  have x_7 : w3.cell? ⟨bx, 7, none⟩ = some (.int .u64 y6) := HBx2.out.cell 7
  have x_8 : w3.cell? ⟨bx, 8, none⟩ = some (.int .u64 y7) := HBx2.out.cell 8
  have x_9 : w3.cell? ⟨bx, 9, none⟩ = some (.bool ya) := HBx2.out.cell 9
  have x_10 : w3.cell? ⟨bx, 10, none⟩ = some (.bool yb) := HBx2.out.cell 10
  have h0 : w3.cell? ⟨bc, c * 11, none⟩ = some (.int .i64 2) := by have := HSv.out.hon.cell (c * 11 + 0); rw [flat_get encH_len S.hs c hc 0 (by decide), HY.out] at this; exact this
  have fc0 : w3.frozen? ⟨bc, c * 11, none⟩ = false := HSv.out.hon.free _
  have h1 : w3.cell? ⟨bc, c * 11 + 1, none⟩ = some (.int .u64 y0) := by have := HSv.out.hon.cell (c * 11 + 1); rw [flat_get encH_len S.hs c hc 1 (by decide), HY.out] at this; exact this
  have fc1 : w3.frozen? ⟨bc, c * 11 + 1, none⟩ = false := HSv.out.hon.free _
  have h2 : w3.cell? ⟨bc, c * 11 + 2, none⟩ = some (.int .u64 y1) := by have := HSv.out.hon.cell (c * 11 + 2); rw [flat_get encH_len S.hs c hc 2 (by decide), HY.out] at this; exact this
  have fc2 : w3.frozen? ⟨bc, c * 11 + 2, none⟩ = false := HSv.out.hon.free _
  have h3 : w3.cell? ⟨bc, c * 11 + 3, none⟩ = some (.int .u64 y2) := by have := HSv.out.hon.cell (c * 11 + 3); rw [flat_get encH_len S.hs c hc 3 (by decide), HY.out] at this; exact this
  have fc3 : w3.frozen? ⟨bc, c * 11 + 3, none⟩ = false := HSv.out.hon.free _
  have h4 : w3.cell? ⟨bc, c * 11 + 4, none⟩ = some (.int .u64 y3) := by have := HSv.out.hon.cell (c * 11 + 4); rw [flat_get encH_len S.hs c hc 4 (by decide), HY.out] at this; exact this
  have fc4 : w3.frozen? ⟨bc, c * 11 + 4, none⟩ = false := HSv.out.hon.free _
  have h5 : w3.cell? ⟨bc, c * 11 + 5, none⟩ = some (.int .u64 y4) := by have := HSv.out.hon.cell (c * 11 + 5); rw [flat_get encH_len S.hs c hc 5 (by decide), HY.out] at this; exact this
  have fc5 : w3.frozen? ⟨bc, c * 11 + 5, none⟩ = false := HSv.out.hon.free _
  have h6 : w3.cell? ⟨bc, c * 11 + 6, none⟩ = some (.int .u64 y5) := by have := HSv.out.hon.cell (c * 11 + 6); rw [flat_get encH_len S.hs c hc 6 (by decide), HY.out] at this; exact this
  have fc6 : w3.frozen? ⟨bc, c * 11 + 6, none⟩ = false := HSv.out.hon.free _
  have h7 : w3.cell? ⟨bc, c * 11 + 7, none⟩ = some (.int .u64 y6) := by have := HSv.out.hon.cell (c * 11 + 7); rw [flat_get encH_len S.hs c hc 7 (by decide), HY.out] at this; exact this
  have fc7 : w3.frozen? ⟨bc, c * 11 + 7, none⟩ = false := HSv.out.hon.free _
  have h8 : w3.cell? ⟨bc, c * 11 + 8, none⟩ = some (.int .u64 y7) := by have := HSv.out.hon.cell (c * 11 + 8); rw [flat_get encH_len S.hs c hc 8 (by decide), HY.out] at this; exact this
  have fc8 : w3.frozen? ⟨bc, c * 11 + 8, none⟩ = false := HSv.out.hon.free _
  have h9 : w3.cell? ⟨bc, c * 11 + 9, none⟩ = some (.bool ya) := by have := HSv.out.hon.cell (c * 11 + 9); rw [flat_get encH_len S.hs c hc 9 (by decide), HY.out] at this; exact this
  have fc9 : w3.frozen? ⟨bc, c * 11 + 9, none⟩ = false := HSv.out.hon.free _
  have h10 : w3.cell? ⟨bc, c * 11 + 10, none⟩ = some (.bool yb) := by have := HSv.out.hon.cell (c * 11 + 10); rw [flat_get encH_len S.hs c hc 10 (by decide), HY.out] at this; exact this
  have fc10 : w3.frozen? ⟨bc, c * 11 + 10, none⟩ = false := HSv.out.hon.free _
  have xlt : bx < w3.heap.size := HBx2.out.lt; have blt : b < w3.heap.size := HSv.out.blk.lt; have clt : bc < w3.heap.size := HSv.out.hon.lt; have mlt : bm0 < w3.heap.size := HB.out.lt
  have hn7 : bx ≠ bc := HAx.out.nc; have hn8 : b ≠ bc := HSv.out.ne; have hn9 : bm0 ≠ bc := HBn.out.nc
  have hT1 : Chg [bc] w3 (((((((((((w3.setCell ⟨bc, c * 11, none⟩ (.int .i64 1)).setCell ⟨bc, c * 11 + 1, none⟩ (.int .u64 y0)).setCell ⟨bc, c * 11 + 2, none⟩ (.int .u64 y1)).setCell ⟨bc, c * 11 + 3, none⟩ (.int .u64 y2)).setCell ⟨bc, c * 11 + 4, none⟩ (.int .u64 y3)).setCell ⟨bc, c * 11 + 5, none⟩ (.int .u64 y4)).setCell ⟨bc, c * 11 + 6, none⟩ (.int .u64 y5)).setCell ⟨bc, c * 11 + 7, none⟩ (.int .u64 y6)).setCell ⟨bc, c * 11 + 8, none⟩ (.int .u64 y7)).setCell ⟨bc, c * 11 + 9, none⟩ (.bool ya)).setCell ⟨bc, c * 11 + 10, none⟩ (.bool yb)).drew := (hon_set11 HSv.out.hon hc ⟨1, ⟨y0, y1, y2, y3, y4, y5, y6, y7⟩, ya, yb⟩).2.drew
  have hq1 : b ∉ [bc] := by simpa using hn8
  have hq2 : bm0 ∉ [bc] := by simpa using hn9
  have hq3 : bx ∉ [bc] := by simpa using hn7
  go_region_held3 (fun w' => w'.cell? ⟨b, 1, none⟩ = some (.slice (some ⟨bc, 0, none⟩) S.hs.length S.hs.length) ∧ w'.cell? ⟨bm0, 1, none⟩ = some (.int .i64 (c : Int)) ∧ w'.cell? ⟨bx, 0, none⟩ = some (.int .i64 1) ∧ w'.cell? ⟨bx, 1, none⟩ = some (.int .u64 y0) ∧ w'.cell? ⟨bx, 2, none⟩ = some (.int .u64 y1) ∧ w'.cell? ⟨bx, 3, none⟩ = some (.int .u64 y2) ∧ w'.cell? ⟨bx, 4, none⟩ = some (.int .u64 y3) ∧ w'.cell? ⟨bx, 5, none⟩ = some (.int .u64 y4) ∧ w'.cell? ⟨bx, 6, none⟩ = some (.int .u64 y5) ∧ w'.cell? ⟨bx, 7, none⟩ = some (.int .u64 y6) ∧ w'.cell? ⟨bx, 8, none⟩ = some (.int .u64 y7) ∧ w'.cell? ⟨bx, 9, none⟩ = some (.bool ya) ∧ w'.cell? ⟨bx, 10, none⟩ = some (.bool yb)) (first | with_reducible exact ⟨b1, m1, x_0, x_1, x_2, x_3, x_4, x_5, x_6, x_7, x_8, x_9, x_10⟩ | with_reducible exact ⟨(hT1.cell blt hq1 _).trans b1, (hT1.cell mlt hq2 _).trans m1, (hT1.cell xlt hq3 _).trans x_0, (hT1.cell xlt hq3 _).trans x_1, (hT1.cell xlt hq3 _).trans x_2, (hT1.cell xlt hq3 _).trans x_3, (hT1.cell xlt hq3 _).trans x_4, (hT1.cell xlt hq3 _).trans x_5, (hT1.cell xlt hq3 _).trans x_6, (hT1.cell xlt hq3 _).trans x_7, (hT1.cell xlt hq3 _).trans x_8, (hT1.cell xlt hq3 _).trans x_9, (hT1.cell xlt hq3 _).trans x_10⟩ | go_keep) (fail)
  have hT0 := hon_set11 HSv.out.hon hc ⟨1, ⟨y0, y1, y2, y3, y4, y5, y6, y7⟩, ya, yb⟩
  have hT := And.intro hT0.1.drew hT0.2.drew
  clear hT0
  have hBk4 := hT.2.blk HBk2.out (by simpa using HAk.out.nc)
  have hS4 := HSv.out.honTurn (hs' := S.hs.set c ⟨1, ⟨y0, y1, y2, y3, y4, y5, y6, y7⟩, ya, yb⟩) (by rw [List.length_set]) hT.2 hT.1
  have HSv4 := Lib.hid hS4.1; have HBl4 := Lib.hid (HBl.out.trans hS4.2)
  have HBk4 := Lib.hid hBk4
  clear hT hT1 hq1 hq2 hq3 hS4 HSv HBl m1 b1 xlt blt clt mlt hBk4 x_0 h0 fc0 x_1 h1 fc1 x_2 h2 fc2 x_3 h3 fc3 x_4 h4 fc4 x_5 h5 fc5 x_6 h6 fc6 x_7 h7 fc7 x_8 h8 fc8 x_9 h9 fc9 x_10 h10 fc10
  generalize World.drew _ = w4 at *
  have k_0 : w4.cell? ⟨bk, 0, none⟩ = some (.int .i64 5) := HBk4.out.cell 0
  have k_1 : w4.cell? ⟨bk, 1, none⟩ = some (.int .i64 (c : Int)) := HBk4.out.cell 1
  have k_2 : w4.cell? ⟨bk, 2, none⟩ = some (.int .i64 l) := HBk4.out.cell 2
  have k_3 : w4.cell? ⟨bk, 3, none⟩ = some (.int .u64 y0) := HBk4.out.cell 3
  have k_4 : w4.cell? ⟨bk, 4, none⟩ = some (.int .u64 y1) := HBk4.out.cell 4
  have k_5 : w4.cell? ⟨bk, 5, none⟩ = some (.int .u64 y2) := HBk4.out.cell 5
  have k_6 : w4.cell? ⟨bk, 6, none⟩ = some (.int .u64 y3) := HBk4.out.cell 6
  have k_7 : w4.cell? ⟨bk, 7, none⟩ = some (.int .u64 y4) := HBk4.out.cell 7
  have k_8 : w4.cell? ⟨bk, 8, none⟩ = some (.int .u64 y5) := HBk4.out.cell 8
  have k_9 : w4.cell? ⟨bk, 9, none⟩ = some (.int .u64 y6) := HBk4.out.cell 9
  have k_10 : w4.cell? ⟨bk, 10, none⟩ = some (.int .u64 y7) := HBk4.out.cell 10
  have klt : bk < w4.heap.size := HBk4.out.lt; have blt : b < w4.heap.size := HSv4.out.blk.lt
  have b2 : w4.cell? ⟨b, 2, none⟩ = some vi := HSv4.out.blk.cell 2; have f2 : w4.frozen? ⟨b, 2, none⟩ = false := HSv4.out.blk.free 2
  have HNr := Lib.hid HSv4.out.notRow.1.1
  have HOw : Hid (w4.drew.ownsRow N0 33 11 vi S.inn.length (S.inn.flatMap encM)) := Lib.hid HSv4.out.inn
  go_upto_region 30 with fail
  go_region_law (refine step_append_row (by rfl) (.tmp 128) (.tmp 130) (by rfl) j0 hj hz0 hz1 hz2 (by rfl) (HOw.out.alloc _) ⟨w4.heap.size, 0, none⟩ 1 (by rfl) ⟨5, (c : Int), l, ⟨y0, y1, y2, y3, y4, y5, y6, y7⟩⟩ (cells_new w4.drew [.int .i64 5, .int .i64 (c : Int), .int .i64 l, .int .u64 y0, .int .u64 y1, .int .u64 y2, .int .u64 y3, .int .u64 y4, .int .u64 y5, .int .u64 y6, .int .u64 y7] _) (by have := HLn.out; omega) (Nat.le_trans HSv4.out.lo.2.2 (by simp)) ?_; intro v5 w5 ho5 hg5 hb5; have hk5 := (((Chg.refl (rowB vi) w4).drew).alloc (.cells #[.int .i64 5, .int .i64 (c : Int), .int .i64 l, .int .u64 y0, .int .u64 y1, .int .u64 y2, .int .u64 y3, .int .u64 y4, .int .u64 y5, .int .u64 y6, .int .u64 y7] 33)).trans (Chg.of_grown hg5); have hr5 := rowB_grew hb5 (n := w4.heap.size) (by simp); have HO5 := Lib.hid ho5; have HK5 := Lib.hid hk5; have HR5 := Lib.hid hr5; obtain ⟨A5, c5, hv5, _, _, _, _⟩ := ownsRow_cell ho5; clear ho5 hg5 hb5 hk5 hr5; subst hv5; have q2 : w5.cell? ⟨b, 2, none⟩ = some vi := (HK5.out.cell blt HNr.out 2).trans b2; have g2 : w5.frozen? ⟨b, 2, none⟩ = false := (HK5.out.blk HSv4.out.blk HNr.out).free 2)
  all_goals (have hG := HSv4.out.innNew (inn' := S.inn ++ [⟨5, (c : Int), l, ⟨y0, y1, y2, y3, y4, y5, y6, y7⟩⟩]) HK5.out (by rw [List.length_append, List.flatMap_append]; exact HO5.out) HR5.out; have HZ := Lib.hid (And.intro hG.1 (HBl4.out.trans hG.2)); clear hG; refine bodyPost_ret (results_none rfl _ _ _) rfl ?_; exact ⟨rfl, ⟨_, _, _, HZ.out.1⟩, HZ.out.2⟩)


set_option maxHeartbeats 8000000 in
theorem wans_12n {N0 : Nat} {w : World} {b d bm bw bl bc : Nat} {vi vo : Value} {es : List EntV} {e0 : EntV} {S : SvS} {made got : Int} (c : Nat) (hc : c < S.hs.length) (l x0 x1 x2 x3 x4 x5 x6 x7 ys y0 y1 y2 y3 y4 y5 y6 y7 : Int) (ya yb : Bool) (hy : S.hs[c] = ⟨ys, ⟨y0, y1, y2, y3, y4, y5, y6, y7⟩, ya, yb⟩) (hlen : S.inn.length ≤ 1000) (hcl : S.hs.length ≤ 4) (hx : ys ≠ 2) (H : SvW N0 w b d bm bw bl bc vi vo es e0 S made got) :
    Calls Try.prog 35 #[.pointer (some ⟨b, 0, none⟩), .agg #[.int .i64 12, .int .i64 (c : Int), .int .i64 l, .int .u64 x0, .int .u64 x1, .int .u64 x2, .int .u64 x3, .int .u64 x4, .int .u64 x5, .int .u64 x6, .int .u64 x7]] w (SvPost N0 w b d bm bw bl bc e0 { S with hs := S.hs.set c ⟨ys, ⟨y0, y1, y2, y3, y4, y5, y6, y7⟩, ya, yb⟩, inn := S.inn ++ [⟨6, (c : Int), l, {}⟩] } made got) := by
  obtain ⟨j0, hj, hz0, hz1, hz2⟩ := info_parts infoMsg
  have hal : Chg [] w (w.alloc (.cells #[.int .i64 12, .int .i64 (c : Int), .int .i64 l, .int .u64 x0, .int .u64 x1, .int .u64 x2, .int .u64 x3, .int .u64 x4, .int .u64 x5, .int .u64 x6, .int .u64 x7] 33)) := (Chg.refl [] w).alloc _
  have HSv := Lib.hid (H.look hal)
  have HB := Lib.hid (Blk.new w [.int .i64 12, .int .i64 (c : Int), .int .i64 l, .int .u64 x0, .int .u64 x1, .int .u64 x2, .int .u64 x3, .int .u64 x4, .int .u64 x5, .int .u64 x6, .int .u64 x7] 33)
  have HBl := Lib.hid (hal.to_below (B := N0) (fun x hx => absurd hx (by simp)) H.lo.2.2)
  have HBn := Lib.hid (H.fresh (x := w.heap.size) (Nat.le_refl _))
  have HY := Lib.hid hy; have HLn := Lib.hid hlen; have HX := Lib.hid hx
  have hx2 : (ys == 2) = false := by simpa using hx
  clear hx
  have hnl : (S.hs.length : Int) ≤ 4 := by omega
  have hci : (c : Int) < S.hs.length := by omega
  have hc0 : (0 : Int) ≤ c := Int.natCast_nonneg _
  clear hal H hy hlen
  go_enter Try.func35, Try.ntmps35
  go_upto_region 1 with fail
  generalize World.alloc _ _ = wa at *
  obtain ⟨bm0, hb⟩ : ∃ b, w.heap.size = b := ⟨_, rfl⟩
  rw [hb] at HB HBn ⊢
  clear hb
  have m0 : wa.cell? ⟨bm0, 0, none⟩ = some (.int .i64 12) := HB.out.cell 0
  have m1 : wa.cell? ⟨bm0, 1, none⟩ = some (.int .i64 (c : Int)) := HB.out.cell 1
  have m2 : wa.cell? ⟨bm0, 2, none⟩ = some (.int .i64 l) := HB.out.cell 2
  have m3 : wa.cell? ⟨bm0, 3, none⟩ = some (.int .u64 x0) := HB.out.cell 3
  have m4 : wa.cell? ⟨bm0, 4, none⟩ = some (.int .u64 x1) := HB.out.cell 4
  have m5 : wa.cell? ⟨bm0, 5, none⟩ = some (.int .u64 x2) := HB.out.cell 5
  have m6 : wa.cell? ⟨bm0, 6, none⟩ = some (.int .u64 x3) := HB.out.cell 6
  have m7 : wa.cell? ⟨bm0, 7, none⟩ = some (.int .u64 x4) := HB.out.cell 7
  have m8 : wa.cell? ⟨bm0, 8, none⟩ = some (.int .u64 x5) := HB.out.cell 8
  have m9 : wa.cell? ⟨bm0, 9, none⟩ = some (.int .u64 x6) := HB.out.cell 9
  have m10 : wa.cell? ⟨bm0, 10, none⟩ = some (.int .u64 x7) := HB.out.cell 10
  have mlt : bm0 < wa.heap.size := HB.out.lt
  have b1 : wa.cell? ⟨b, 1, none⟩ = some (.slice (some ⟨bc, 0, none⟩) S.hs.length S.hs.length) := HSv.out.blk.cell 1
  have h0 : wa.cell? ⟨bc, c * 11, none⟩ = some (.int .i64 ys) := by have := HSv.out.hon.cell (c * 11 + 0); rw [flat_get encH_len S.hs c hc 0 (by decide), HY.out] at this; exact this
  have h1 : wa.cell? ⟨bc, c * 11 + 1, none⟩ = some (.int .u64 y0) := by have := HSv.out.hon.cell (c * 11 + 1); rw [flat_get encH_len S.hs c hc 1 (by decide), HY.out] at this; exact this
  have h2 : wa.cell? ⟨bc, c * 11 + 2, none⟩ = some (.int .u64 y1) := by have := HSv.out.hon.cell (c * 11 + 2); rw [flat_get encH_len S.hs c hc 2 (by decide), HY.out] at this; exact this
  have h3 : wa.cell? ⟨bc, c * 11 + 3, none⟩ = some (.int .u64 y2) := by have := HSv.out.hon.cell (c * 11 + 3); rw [flat_get encH_len S.hs c hc 3 (by decide), HY.out] at this; exact this
  have h4 : wa.cell? ⟨bc, c * 11 + 4, none⟩ = some (.int .u64 y3) := by have := HSv.out.hon.cell (c * 11 + 4); rw [flat_get encH_len S.hs c hc 4 (by decide), HY.out] at this; exact this
  have h5 : wa.cell? ⟨bc, c * 11 + 5, none⟩ = some (.int .u64 y4) := by have := HSv.out.hon.cell (c * 11 + 5); rw [flat_get encH_len S.hs c hc 5 (by decide), HY.out] at this; exact this
  have h6 : wa.cell? ⟨bc, c * 11 + 6, none⟩ = some (.int .u64 y5) := by have := HSv.out.hon.cell (c * 11 + 6); rw [flat_get encH_len S.hs c hc 6 (by decide), HY.out] at this; exact this
  have h7 : wa.cell? ⟨bc, c * 11 + 7, none⟩ = some (.int .u64 y6) := by have := HSv.out.hon.cell (c * 11 + 7); rw [flat_get encH_len S.hs c hc 7 (by decide), HY.out] at this; exact this
  have h8 : wa.cell? ⟨bc, c * 11 + 8, none⟩ = some (.int .u64 y7) := by have := HSv.out.hon.cell (c * 11 + 8); rw [flat_get encH_len S.hs c hc 8 (by decide), HY.out] at this; exact this
  have h9 : wa.cell? ⟨bc, c * 11 + 9, none⟩ = some (.bool ya) := by have := HSv.out.hon.cell (c * 11 + 9); rw [flat_get encH_len S.hs c hc 9 (by decide), HY.out] at this; exact this
  have h10 : wa.cell? ⟨bc, c * 11 + 10, none⟩ = some (.bool yb) := by have := HSv.out.hon.cell (c * 11 + 10); rw [flat_get encH_len S.hs c hc 10 (by decide), HY.out] at this; exact this
  have blt : b < wa.heap.size := HSv.out.blk.lt
  have clt : bc < wa.heap.size := HSv.out.hon.lt
  go_region_held3 (fun w' => w'.cell? ⟨b, 1, none⟩ = some (.slice (some ⟨bc, 0, none⟩) S.hs.length S.hs.length) ∧ w'.cell? ⟨bm0, 1, none⟩ = some (.int .i64 (c : Int)) ∧ w'.cell? ⟨bc, c * 11, none⟩ = some (.int .i64 ys) ∧ w'.cell? ⟨bc, c * 11 + 1, none⟩ = some (.int .u64 y0) ∧ w'.cell? ⟨bc, c * 11 + 2, none⟩ = some (.int .u64 y1) ∧ w'.cell? ⟨bc, c * 11 + 3, none⟩ = some (.int .u64 y2) ∧ w'.cell? ⟨bc, c * 11 + 4, none⟩ = some (.int .u64 y3) ∧ w'.cell? ⟨bc, c * 11 + 5, none⟩ = some (.int .u64 y4) ∧ w'.cell? ⟨bc, c * 11 + 6, none⟩ = some (.int .u64 y5) ∧ w'.cell? ⟨bc, c * 11 + 7, none⟩ = some (.int .u64 y6) ∧ w'.cell? ⟨bc, c * 11 + 8, none⟩ = some (.int .u64 y7) ∧ w'.cell? ⟨bc, c * 11 + 9, none⟩ = some (.bool ya) ∧ w'.cell? ⟨bc, c * 11 + 10, none⟩ = some (.bool yb)) (first | with_reducible exact ⟨b1, m1, h0, h1, h2, h3, h4, h5, h6, h7, h8, h9, h10⟩ | go_keep) (fail)
  clear m0 h0 m1 h1 m2 h2 m3 h3 m4 h4 m5 h5 m6 h6 m7 h7 m8 h8 m9 h9 m10 h10 b1
  have hk1 := ((Chg.refl [] wa).alloc (.cells #[.int .i64 ys, .int .u64 y0, .int .u64 y1, .int .u64 y2, .int .u64 y3, .int .u64 y4, .int .u64 y5, .int .u64 y6, .int .u64 y7, .bool ya, .bool yb] 91)).drew
  have HBx := Lib.hid (Blk.drew (Blk.new wa [.int .i64 ys, .int .u64 y0, .int .u64 y1, .int .u64 y2, .int .u64 y3, .int .u64 y4, .int .u64 y5, .int .u64 y6, .int .u64 y7, .bool ya, .bool yb] 91))
  have HAx := Lib.hid (HSv.out.fresh (x := wa.heap.size) (Nat.le_refl _))
  have hbx : bm0 < wa.heap.size := mlt
  replace HBl := Lib.hid (HBl.out.trans (hk1.to_below (B := N0) (fun x hx => absurd hx (by simp)) (HSv.out.lo.2.2))); replace HSv := Lib.hid (HSv.out.look hk1); replace HB := Lib.hid (hk1.blk HB.out (by simp))
  clear hk1 mlt blt clt
  generalize World.drew _ = w1 at *
  obtain ⟨bx, hbxx⟩ : ∃ b, wa.heap.size = b := ⟨_, rfl⟩
  rw [hbxx] at HBx HAx hbx ⊢
  clear hbxx
  have xlt : bx < w1.heap.size := HBx.out.lt
  have m0 : w1.cell? ⟨bm0, 0, none⟩ = some (.int .i64 12) := HB.out.cell 0
  have m1 : w1.cell? ⟨bm0, 1, none⟩ = some (.int .i64 (c : Int)) := HB.out.cell 1
  have m2 : w1.cell? ⟨bm0, 2, none⟩ = some (.int .i64 l) := HB.out.cell 2
  have m3 : w1.cell? ⟨bm0, 3, none⟩ = some (.int .u64 x0) := HB.out.cell 3
  have m4 : w1.cell? ⟨bm0, 4, none⟩ = some (.int .u64 x1) := HB.out.cell 4
  have m5 : w1.cell? ⟨bm0, 5, none⟩ = some (.int .u64 x2) := HB.out.cell 5
  have m6 : w1.cell? ⟨bm0, 6, none⟩ = some (.int .u64 x3) := HB.out.cell 6
  have m7 : w1.cell? ⟨bm0, 7, none⟩ = some (.int .u64 x4) := HB.out.cell 7
  have m8 : w1.cell? ⟨bm0, 8, none⟩ = some (.int .u64 x5) := HB.out.cell 8
  have m9 : w1.cell? ⟨bm0, 9, none⟩ = some (.int .u64 x6) := HB.out.cell 9
  have m10 : w1.cell? ⟨bm0, 10, none⟩ = some (.int .u64 x7) := HB.out.cell 10
  have mlt : bm0 < w1.heap.size := HB.out.lt
  go_upto_region 3 with fail
  have hk2 := (Chg.refl [] w1).alloc (.cells #[.int .i64 0, .int .i64 (c : Int), .int .i64 l, .int .u64 0, .int .u64 0, .int .u64 0, .int .u64 0, .int .u64 0, .int .u64 0, .int .u64 0, .int .u64 0] 33)
  have HBk := Lib.hid (Blk.new w1 [.int .i64 0, .int .i64 (c : Int), .int .i64 l, .int .u64 0, .int .u64 0, .int .u64 0, .int .u64 0, .int .u64 0, .int .u64 0, .int .u64 0, .int .u64 0] 33)
  have HAk := Lib.hid (HSv.out.fresh (x := w1.heap.size) (Nat.le_refl _))
  have hbk1 : bm0 < w1.heap.size := mlt; have hbk2 : bx < w1.heap.size := xlt
  replace HBl := Lib.hid (HBl.out.trans (hk2.to_below (B := N0) (fun x hx => absurd hx (by simp)) (HSv.out.lo.2.2))); replace HSv := Lib.hid (HSv.out.look hk2); replace HB := Lib.hid (hk2.blk HB.out (by simp)); replace HBx := Lib.hid (hk2.blk HBx.out (by simp))
  clear hk2 mlt xlt m0 m1 m2 m3 m4 m5 m6 m7 m8 m9 m10
  generalize World.alloc _ _ = w2 at *
  obtain ⟨bk, hbkk⟩ : ∃ b, w1.heap.size = b := ⟨_, rfl⟩
  rw [hbkk] at HBk HAk hbk1 hbk2 ⊢
  clear hbkk
  have hn1 : bm0 ≠ bx := by omega
  have hn2 : bm0 ≠ bk := by omega
  have hn3 : bx ≠ bk := by omega
  have hn4 : bm0 ≠ b := HBn.out.nb; have hn5 : bx ≠ b := HAx.out.nb; have hn6 : bk ≠ b := HAk.out.nb
  have m0 : w2.cell? ⟨bm0, 0, none⟩ = some (.int .i64 12) := HB.out.cell 0
  have m1 : w2.cell? ⟨bm0, 1, none⟩ = some (.int .i64 (c : Int)) := HB.out.cell 1
  have m2 : w2.cell? ⟨bm0, 2, none⟩ = some (.int .i64 l) := HB.out.cell 2
  have m3 : w2.cell? ⟨bm0, 3, none⟩ = some (.int .u64 x0) := HB.out.cell 3
  have m4 : w2.cell? ⟨bm0, 4, none⟩ = some (.int .u64 x1) := HB.out.cell 4
  have m5 : w2.cell? ⟨bm0, 5, none⟩ = some (.int .u64 x2) := HB.out.cell 5
  have m6 : w2.cell? ⟨bm0, 6, none⟩ = some (.int .u64 x3) := HB.out.cell 6
  have m7 : w2.cell? ⟨bm0, 7, none⟩ = some (.int .u64 x4) := HB.out.cell 7
  have m8 : w2.cell? ⟨bm0, 8, none⟩ = some (.int .u64 x5) := HB.out.cell 8
  have m9 : w2.cell? ⟨bm0, 9, none⟩ = some (.int .u64 x6) := HB.out.cell 9
  have m10 : w2.cell? ⟨bm0, 10, none⟩ = some (.int .u64 x7) := HB.out.cell 10
  have mlt : bm0 < w2.heap.size := HB.out.lt
  have x_0 : w2.cell? ⟨bx, 0, none⟩ = some (.int .i64 ys) := HBx.out.cell 0
  have g_0 : w2.frozen? ⟨bx, 0, none⟩ = false := HBx.out.free 0
  have x_1 : w2.cell? ⟨bx, 1, none⟩ = some (.int .u64 y0) := HBx.out.cell 1
  have g_1 : w2.frozen? ⟨bx, 1, none⟩ = false := HBx.out.free 1
  have x_2 : w2.cell? ⟨bx, 2, none⟩ = some (.int .u64 y1) := HBx.out.cell 2
  have g_2 : w2.frozen? ⟨bx, 2, none⟩ = false := HBx.out.free 2
  have x_3 : w2.cell? ⟨bx, 3, none⟩ = some (.int .u64 y2) := HBx.out.cell 3
  have g_3 : w2.frozen? ⟨bx, 3, none⟩ = false := HBx.out.free 3
  have x_4 : w2.cell? ⟨bx, 4, none⟩ = some (.int .u64 y3) := HBx.out.cell 4
  have g_4 : w2.frozen? ⟨bx, 4, none⟩ = false := HBx.out.free 4
  have x_5 : w2.cell? ⟨bx, 5, none⟩ = some (.int .u64 y4) := HBx.out.cell 5
  have g_5 : w2.frozen? ⟨bx, 5, none⟩ = false := HBx.out.free 5
  have x_6 : w2.cell? ⟨bx, 6, none⟩ = some (.int .u64 y5) := HBx.out.cell 6
  have g_6 : w2.frozen? ⟨bx, 6, none⟩ = false := HBx.out.free 6
  have x_7 : w2.cell? ⟨bx, 7, none⟩ = some (.int .u64 y6) := HBx.out.cell 7
  have g_7 : w2.frozen? ⟨bx, 7, none⟩ = false := HBx.out.free 7
  have x_8 : w2.cell? ⟨bx, 8, none⟩ = some (.int .u64 y7) := HBx.out.cell 8
  have g_8 : w2.frozen? ⟨bx, 8, none⟩ = false := HBx.out.free 8
  have x_9 : w2.cell? ⟨bx, 9, none⟩ = some (.bool ya) := HBx.out.cell 9
  have g_9 : w2.frozen? ⟨bx, 9, none⟩ = false := HBx.out.free 9
  have x_10 : w2.cell? ⟨bx, 10, none⟩ = some (.bool yb) := HBx.out.cell 10
  have g_10 : w2.frozen? ⟨bx, 10, none⟩ = false := HBx.out.free 10
  have k_0 : w2.cell? ⟨bk, 0, none⟩ = some (.int .i64 0) := HBk.out.cell 0
  have l_0 : w2.frozen? ⟨bk, 0, none⟩ = false := HBk.out.free 0
  have k_1 : w2.cell? ⟨bk, 1, none⟩ = some (.int .i64 (c : Int)) := HBk.out.cell 1
  have l_1 : w2.frozen? ⟨bk, 1, none⟩ = false := HBk.out.free 1
  have k_2 : w2.cell? ⟨bk, 2, none⟩ = some (.int .i64 l) := HBk.out.cell 2
  have l_2 : w2.frozen? ⟨bk, 2, none⟩ = false := HBk.out.free 2
  have k_3 : w2.cell? ⟨bk, 3, none⟩ = some (.int .u64 0) := HBk.out.cell 3
  have l_3 : w2.frozen? ⟨bk, 3, none⟩ = false := HBk.out.free 3
  have k_4 : w2.cell? ⟨bk, 4, none⟩ = some (.int .u64 0) := HBk.out.cell 4
  have l_4 : w2.frozen? ⟨bk, 4, none⟩ = false := HBk.out.free 4
  have k_5 : w2.cell? ⟨bk, 5, none⟩ = some (.int .u64 0) := HBk.out.cell 5
  have l_5 : w2.frozen? ⟨bk, 5, none⟩ = false := HBk.out.free 5
  have k_6 : w2.cell? ⟨bk, 6, none⟩ = some (.int .u64 0) := HBk.out.cell 6
  have l_6 : w2.frozen? ⟨bk, 6, none⟩ = false := HBk.out.free 6
  have k_7 : w2.cell? ⟨bk, 7, none⟩ = some (.int .u64 0) := HBk.out.cell 7
  have l_7 : w2.frozen? ⟨bk, 7, none⟩ = false := HBk.out.free 7
  have k_8 : w2.cell? ⟨bk, 8, none⟩ = some (.int .u64 0) := HBk.out.cell 8
  have l_8 : w2.frozen? ⟨bk, 8, none⟩ = false := HBk.out.free 8
  have k_9 : w2.cell? ⟨bk, 9, none⟩ = some (.int .u64 0) := HBk.out.cell 9
  have l_9 : w2.frozen? ⟨bk, 9, none⟩ = false := HBk.out.free 9
  have k_10 : w2.cell? ⟨bk, 10, none⟩ = some (.int .u64 0) := HBk.out.cell 10
  have l_10 : w2.frozen? ⟨bk, 10, none⟩ = false := HBk.out.free 10
  have xlt : bx < w2.heap.size := HBx.out.lt
  have klt : bk < w2.heap.size := HBk.out.lt
  have blt : b < w2.heap.size := HSv.out.blk.lt
  have b1 : w2.cell? ⟨b, 1, none⟩ = some (.slice (some ⟨bc, 0, none⟩) S.hs.length S.hs.length) := HSv.out.blk.cell 1
  have f1 : w2.frozen? ⟨b, 1, none⟩ = false := HSv.out.blk.free 1
  have b2 : w2.cell? ⟨b, 2, none⟩ = some (vi) := HSv.out.blk.cell 2
  have f2 : w2.frozen? ⟨b, 2, none⟩ = false := HSv.out.blk.free 2
  have b5 : w2.cell? ⟨b, 5, none⟩ = some (.int .i64 got) := HSv.out.blk.cell 5
  have f5 : w2.frozen? ⟨b, 5, none⟩ = false := HSv.out.blk.free 5
  have b6 : w2.cell? ⟨b, 6, none⟩ = some (.int .u64 S.val) := HSv.out.blk.cell 6
  have f6 : w2.frozen? ⟨b, 6, none⟩ = false := HSv.out.blk.free 6
  have b7 : w2.cell? ⟨b, 7, none⟩ = some (.bool true) := HSv.out.blk.cell 7
  have f7 : w2.frozen? ⟨b, 7, none⟩ = false := HSv.out.blk.free 7
  go_upto_region 29 with fail
  have hF := SvW.aside HSv.out ((Chg.refl [bk] _).setCell (p := ⟨bk, 0, none⟩) (fun _ => List.mem_singleton.2 rfl) (.int .i64 6)) (fun x hx => by rw [List.mem_singleton.1 hx]; exact HAk.out)
  replace HBl := Lib.hid (HBl.out.trans hF.2); replace HSv := Lib.hid hF.1; clear hF
  replace HBk := Lib.hid (HBk.out.set 0 (.int .i64 6))
  replace HBx := Lib.hid (HBx.out.other (a := ⟨bk, 0, none⟩) (Ne.symm hn3) (.int .i64 6))
  replace HB := Lib.hid (HB.out.other (a := ⟨bk, 0, none⟩) (Ne.symm hn2) (.int .i64 6))
  have HBx2 : Hid (Blk _ bx [.int .i64 ys, .int .u64 y0, .int .u64 y1, .int .u64 y2, .int .u64 y3, .int .u64 y4, .int .u64 y5, .int .u64 y6, .int .u64 y7, .bool ya, .bool yb] 91) := HBx
  have HBk2 : Hid (Blk _ bk [.int .i64 6, .int .i64 (c : Int), .int .i64 l, .int .u64 0, .int .u64 0, .int .u64 0, .int .u64 0, .int .u64 0, .int .u64 0, .int .u64 0, .int .u64 0] 33) := HBk
  clear HBx HBk
  clear mlt xlt klt blt m0 m1 m2 m3 m4 m5 m6 m7 m8 m9 m10 x_0 g_0 k_0 l_0 x_1 g_1 k_1 l_1 x_2 g_2 k_2 l_2 x_3 g_3 k_3 l_3 x_4 g_4 k_4 l_4 x_5 g_5 k_5 l_5 x_6 g_6 k_6 l_6 x_7 g_7 k_7 l_7 x_8 g_8 k_8 l_8 x_9 g_9 k_9 l_9 x_10 g_10 k_10 l_10 b1 f1 b2 f2 b5 f5 b6 f6 b7 f7
  generalize World.setCell _ _ _ = w3 at *
  have m1 : w3.cell? ⟨bm0, 1, none⟩ = some (.int .i64 (c : Int)) := HB.out.cell 1
  have b1 : w3.cell? ⟨b, 1, none⟩ = some (.slice (some ⟨bc, 0, none⟩) S.hs.length S.hs.length) := HSv.out.blk.cell 1
  have x_0 : w3.cell? ⟨bx, 0, none⟩ = some (.int .i64 ys) := HBx2.out.cell 0
  have x_1 : w3.cell? ⟨bx, 1, none⟩ = some (.int .u64 y0) := HBx2.out.cell 1
  have x_2 : w3.cell? ⟨bx, 2, none⟩ = some (.int .u64 y1) := HBx2.out.cell 2
  have x_3 : w3.cell? ⟨bx, 3, none⟩ = some (.int .u64 y2) := HBx2.out.cell 3
  have x_4 : w3.cell? ⟨bx, 4, none⟩ = some (.int .u64 y3) := HBx2.out.cell 4
  have x_5 : w3.cell? ⟨bx, 5, none⟩ = some (.int .u64 y4) := HBx2.out.cell 5
  have x_6 : w3.cell? ⟨bx, 6, none⟩ = some (.int .u64 y5) := HBx2.out.cell 6
  have x_7 : w3.cell? ⟨bx, 7, none⟩ = some (.int .u64 y6) := HBx2.out.cell 7
  have x_8 : w3.cell? ⟨bx, 8, none⟩ = some (.int .u64 y7) := HBx2.out.cell 8
  have x_9 : w3.cell? ⟨bx, 9, none⟩ = some (.bool ya) := HBx2.out.cell 9
  have x_10 : w3.cell? ⟨bx, 10, none⟩ = some (.bool yb) := HBx2.out.cell 10
  have h0 : w3.cell? ⟨bc, c * 11, none⟩ = some (.int .i64 ys) := by have := HSv.out.hon.cell (c * 11 + 0); rw [flat_get encH_len S.hs c hc 0 (by decide), HY.out] at this; exact this
  have fc0 : w3.frozen? ⟨bc, c * 11, none⟩ = false := HSv.out.hon.free _
  have h1 : w3.cell? ⟨bc, c * 11 + 1, none⟩ = some (.int .u64 y0) := by have := HSv.out.hon.cell (c * 11 + 1); rw [flat_get encH_len S.hs c hc 1 (by decide), HY.out] at this; exact this
  have fc1 : w3.frozen? ⟨bc, c * 11 + 1, none⟩ = false := HSv.out.hon.free _
  have h2 : w3.cell? ⟨bc, c * 11 + 2, none⟩ = some (.int .u64 y1) := by have := HSv.out.hon.cell (c * 11 + 2); rw [flat_get encH_len S.hs c hc 2 (by decide), HY.out] at this; exact this
  have fc2 : w3.frozen? ⟨bc, c * 11 + 2, none⟩ = false := HSv.out.hon.free _
  have h3 : w3.cell? ⟨bc, c * 11 + 3, none⟩ = some (.int .u64 y2) := by have := HSv.out.hon.cell (c * 11 + 3); rw [flat_get encH_len S.hs c hc 3 (by decide), HY.out] at this; exact this
  have fc3 : w3.frozen? ⟨bc, c * 11 + 3, none⟩ = false := HSv.out.hon.free _
  have h4 : w3.cell? ⟨bc, c * 11 + 4, none⟩ = some (.int .u64 y3) := by have := HSv.out.hon.cell (c * 11 + 4); rw [flat_get encH_len S.hs c hc 4 (by decide), HY.out] at this; exact this
  have fc4 : w3.frozen? ⟨bc, c * 11 + 4, none⟩ = false := HSv.out.hon.free _
  have h5 : w3.cell? ⟨bc, c * 11 + 5, none⟩ = some (.int .u64 y4) := by have := HSv.out.hon.cell (c * 11 + 5); rw [flat_get encH_len S.hs c hc 5 (by decide), HY.out] at this; exact this
  have fc5 : w3.frozen? ⟨bc, c * 11 + 5, none⟩ = false := HSv.out.hon.free _
  have h6 : w3.cell? ⟨bc, c * 11 + 6, none⟩ = some (.int .u64 y5) := by have := HSv.out.hon.cell (c * 11 + 6); rw [flat_get encH_len S.hs c hc 6 (by decide), HY.out] at this; exact this
  have fc6 : w3.frozen? ⟨bc, c * 11 + 6, none⟩ = false := HSv.out.hon.free _
  have h7 : w3.cell? ⟨bc, c * 11 + 7, none⟩ = some (.int .u64 y6) := by have := HSv.out.hon.cell (c * 11 + 7); rw [flat_get encH_len S.hs c hc 7 (by decide), HY.out] at this; exact this
  have fc7 : w3.frozen? ⟨bc, c * 11 + 7, none⟩ = false := HSv.out.hon.free _
  have h8 : w3.cell? ⟨bc, c * 11 + 8, none⟩ = some (.int .u64 y7) := by have := HSv.out.hon.cell (c * 11 + 8); rw [flat_get encH_len S.hs c hc 8 (by decide), HY.out] at this; exact this
  have fc8 : w3.frozen? ⟨bc, c * 11 + 8, none⟩ = false := HSv.out.hon.free _
  have h9 : w3.cell? ⟨bc, c * 11 + 9, none⟩ = some (.bool ya) := by have := HSv.out.hon.cell (c * 11 + 9); rw [flat_get encH_len S.hs c hc 9 (by decide), HY.out] at this; exact this
  have fc9 : w3.frozen? ⟨bc, c * 11 + 9, none⟩ = false := HSv.out.hon.free _
  have h10 : w3.cell? ⟨bc, c * 11 + 10, none⟩ = some (.bool yb) := by have := HSv.out.hon.cell (c * 11 + 10); rw [flat_get encH_len S.hs c hc 10 (by decide), HY.out] at this; exact this
  have fc10 : w3.frozen? ⟨bc, c * 11 + 10, none⟩ = false := HSv.out.hon.free _
  have xlt : bx < w3.heap.size := HBx2.out.lt; have blt : b < w3.heap.size := HSv.out.blk.lt; have clt : bc < w3.heap.size := HSv.out.hon.lt; have mlt : bm0 < w3.heap.size := HB.out.lt
  have hn7 : bx ≠ bc := HAx.out.nc; have hn8 : b ≠ bc := HSv.out.ne; have hn9 : bm0 ≠ bc := HBn.out.nc
  have hT1 : Chg [bc] w3 (((((((((((w3.setCell ⟨bc, c * 11, none⟩ (.int .i64 ys)).setCell ⟨bc, c * 11 + 1, none⟩ (.int .u64 y0)).setCell ⟨bc, c * 11 + 2, none⟩ (.int .u64 y1)).setCell ⟨bc, c * 11 + 3, none⟩ (.int .u64 y2)).setCell ⟨bc, c * 11 + 4, none⟩ (.int .u64 y3)).setCell ⟨bc, c * 11 + 5, none⟩ (.int .u64 y4)).setCell ⟨bc, c * 11 + 6, none⟩ (.int .u64 y5)).setCell ⟨bc, c * 11 + 7, none⟩ (.int .u64 y6)).setCell ⟨bc, c * 11 + 8, none⟩ (.int .u64 y7)).setCell ⟨bc, c * 11 + 9, none⟩ (.bool ya)).setCell ⟨bc, c * 11 + 10, none⟩ (.bool yb)).drew := (hon_set11 HSv.out.hon hc ⟨ys, ⟨y0, y1, y2, y3, y4, y5, y6, y7⟩, ya, yb⟩).2.drew
  have hq1 : b ∉ [bc] := by simpa using hn8
  have hq2 : bm0 ∉ [bc] := by simpa using hn9
  have hq3 : bx ∉ [bc] := by simpa using hn7
  go_region_held3 (fun w' => w'.cell? ⟨b, 1, none⟩ = some (.slice (some ⟨bc, 0, none⟩) S.hs.length S.hs.length) ∧ w'.cell? ⟨bm0, 1, none⟩ = some (.int .i64 (c : Int)) ∧ w'.cell? ⟨bx, 0, none⟩ = some (.int .i64 ys) ∧ w'.cell? ⟨bx, 1, none⟩ = some (.int .u64 y0) ∧ w'.cell? ⟨bx, 2, none⟩ = some (.int .u64 y1) ∧ w'.cell? ⟨bx, 3, none⟩ = some (.int .u64 y2) ∧ w'.cell? ⟨bx, 4, none⟩ = some (.int .u64 y3) ∧ w'.cell? ⟨bx, 5, none⟩ = some (.int .u64 y4) ∧ w'.cell? ⟨bx, 6, none⟩ = some (.int .u64 y5) ∧ w'.cell? ⟨bx, 7, none⟩ = some (.int .u64 y6) ∧ w'.cell? ⟨bx, 8, none⟩ = some (.int .u64 y7) ∧ w'.cell? ⟨bx, 9, none⟩ = some (.bool ya) ∧ w'.cell? ⟨bx, 10, none⟩ = some (.bool yb)) (first | with_reducible exact ⟨b1, m1, x_0, x_1, x_2, x_3, x_4, x_5, x_6, x_7, x_8, x_9, x_10⟩ | with_reducible exact ⟨(hT1.cell blt hq1 _).trans b1, (hT1.cell mlt hq2 _).trans m1, (hT1.cell xlt hq3 _).trans x_0, (hT1.cell xlt hq3 _).trans x_1, (hT1.cell xlt hq3 _).trans x_2, (hT1.cell xlt hq3 _).trans x_3, (hT1.cell xlt hq3 _).trans x_4, (hT1.cell xlt hq3 _).trans x_5, (hT1.cell xlt hq3 _).trans x_6, (hT1.cell xlt hq3 _).trans x_7, (hT1.cell xlt hq3 _).trans x_8, (hT1.cell xlt hq3 _).trans x_9, (hT1.cell xlt hq3 _).trans x_10⟩ | go_keep) (fail)
  have hT0 := hon_set11 HSv.out.hon hc ⟨ys, ⟨y0, y1, y2, y3, y4, y5, y6, y7⟩, ya, yb⟩
  have hT := And.intro hT0.1.drew hT0.2.drew
  clear hT0
  have hBk4 := hT.2.blk HBk2.out (by simpa using HAk.out.nc)
  have hS4 := HSv.out.honTurn (hs' := S.hs.set c ⟨ys, ⟨y0, y1, y2, y3, y4, y5, y6, y7⟩, ya, yb⟩) (by rw [List.length_set]) hT.2 hT.1
  have HSv4 := Lib.hid hS4.1; have HBl4 := Lib.hid (HBl.out.trans hS4.2)
  have HBk4 := Lib.hid hBk4
  clear hT hT1 hq1 hq2 hq3 hS4 HSv HBl m1 b1 xlt blt clt mlt hBk4 x_0 h0 fc0 x_1 h1 fc1 x_2 h2 fc2 x_3 h3 fc3 x_4 h4 fc4 x_5 h5 fc5 x_6 h6 fc6 x_7 h7 fc7 x_8 h8 fc8 x_9 h9 fc9 x_10 h10 fc10
  generalize World.drew _ = w4 at *
  have k_0 : w4.cell? ⟨bk, 0, none⟩ = some (.int .i64 6) := HBk4.out.cell 0
  have k_1 : w4.cell? ⟨bk, 1, none⟩ = some (.int .i64 (c : Int)) := HBk4.out.cell 1
  have k_2 : w4.cell? ⟨bk, 2, none⟩ = some (.int .i64 l) := HBk4.out.cell 2
  have k_3 : w4.cell? ⟨bk, 3, none⟩ = some (.int .u64 0) := HBk4.out.cell 3
  have k_4 : w4.cell? ⟨bk, 4, none⟩ = some (.int .u64 0) := HBk4.out.cell 4
  have k_5 : w4.cell? ⟨bk, 5, none⟩ = some (.int .u64 0) := HBk4.out.cell 5
  have k_6 : w4.cell? ⟨bk, 6, none⟩ = some (.int .u64 0) := HBk4.out.cell 6
  have k_7 : w4.cell? ⟨bk, 7, none⟩ = some (.int .u64 0) := HBk4.out.cell 7
  have k_8 : w4.cell? ⟨bk, 8, none⟩ = some (.int .u64 0) := HBk4.out.cell 8
  have k_9 : w4.cell? ⟨bk, 9, none⟩ = some (.int .u64 0) := HBk4.out.cell 9
  have k_10 : w4.cell? ⟨bk, 10, none⟩ = some (.int .u64 0) := HBk4.out.cell 10
  have klt : bk < w4.heap.size := HBk4.out.lt; have blt : b < w4.heap.size := HSv4.out.blk.lt
  have b2 : w4.cell? ⟨b, 2, none⟩ = some vi := HSv4.out.blk.cell 2; have f2 : w4.frozen? ⟨b, 2, none⟩ = false := HSv4.out.blk.free 2
  have HNr := Lib.hid HSv4.out.notRow.1.1
  have HOw : Hid (w4.drew.ownsRow N0 33 11 vi S.inn.length (S.inn.flatMap encM)) := Lib.hid HSv4.out.inn
  go_upto_region 30 with fail
  go_region_law (refine step_append_row (by rfl) (.tmp 128) (.tmp 130) (by rfl) j0 hj hz0 hz1 hz2 (by rfl) (HOw.out.alloc _) ⟨w4.heap.size, 0, none⟩ 1 (by rfl) ⟨6, (c : Int), l, ⟨0, 0, 0, 0, 0, 0, 0, 0⟩⟩ (cells_new w4.drew [.int .i64 6, .int .i64 (c : Int), .int .i64 l, .int .u64 0, .int .u64 0, .int .u64 0, .int .u64 0, .int .u64 0, .int .u64 0, .int .u64 0, .int .u64 0] _) (by have := HLn.out; omega) (Nat.le_trans HSv4.out.lo.2.2 (by simp)) ?_; intro v5 w5 ho5 hg5 hb5; have hk5 := (((Chg.refl (rowB vi) w4).drew).alloc (.cells #[.int .i64 6, .int .i64 (c : Int), .int .i64 l, .int .u64 0, .int .u64 0, .int .u64 0, .int .u64 0, .int .u64 0, .int .u64 0, .int .u64 0, .int .u64 0] 33)).trans (Chg.of_grown hg5); have hr5 := rowB_grew hb5 (n := w4.heap.size) (by simp); have HO5 := Lib.hid ho5; have HK5 := Lib.hid hk5; have HR5 := Lib.hid hr5; obtain ⟨A5, c5, hv5, _, _, _, _⟩ := ownsRow_cell ho5; clear ho5 hg5 hb5 hk5 hr5; subst hv5; have q2 : w5.cell? ⟨b, 2, none⟩ = some vi := (HK5.out.cell blt HNr.out 2).trans b2; have g2 : w5.frozen? ⟨b, 2, none⟩ = false := (HK5.out.blk HSv4.out.blk HNr.out).free 2)
  all_goals (have hG := HSv4.out.innNew (inn' := S.inn ++ [⟨6, (c : Int), l, {}⟩]) HK5.out (by rw [List.length_append, List.flatMap_append]; exact HO5.out) HR5.out; have HZ := Lib.hid (And.intro hG.1 (HBl4.out.trans hG.2)); clear hG; refine bodyPost_ret (results_none rfl _ _ _) rfl ?_; exact ⟨rfl, ⟨_, _, _, HZ.out.1⟩, HZ.out.2⟩)


set_option maxHeartbeats 8000000 in
theorem wans_13y {N0 : Nat} {w : World} {b d bm bw bl bc : Nat} {vi vo : Value} {es : List EntV} {e0 : EntV} {S : SvS} {made got : Int} (c : Nat) (hc : c < S.hs.length) (l x0 x1 x2 x3 x4 x5 x6 x7 ys y0 y1 y2 y3 y4 y5 y6 y7 : Int) (ya yb : Bool) (hy : S.hs[c] = ⟨ys, ⟨y0, y1, y2, y3, y4, y5, y6, y7⟩, ya, yb⟩) (hlen : S.inn.length ≤ 1000) (hcl : S.hs.length ≤ 4) (hx : ys = 2) (H : SvW N0 w b d bm bw bl bc vi vo es e0 S made got) :
    Calls Try.prog 35 #[.pointer (some ⟨b, 0, none⟩), .agg #[.int .i64 13, .int .i64 (c : Int), .int .i64 l, .int .u64 x0, .int .u64 x1, .int .u64 x2, .int .u64 x3, .int .u64 x4, .int .u64 x5, .int .u64 x6, .int .u64 x7]] w (SvPost N0 w b d bm bw bl bc e0 { S with hs := S.hs.set c ⟨0, ⟨y0, y1, y2, y3, y4, y5, y6, y7⟩, ya, yb⟩, inn := S.inn ++ [⟨5, (c : Int), l, ⟨y0, y1, y2, y3, y4, y5, y6, y7⟩⟩] } made got) := by
  obtain ⟨j0, hj, hz0, hz1, hz2⟩ := info_parts infoMsg
  have hal : Chg [] w (w.alloc (.cells #[.int .i64 13, .int .i64 (c : Int), .int .i64 l, .int .u64 x0, .int .u64 x1, .int .u64 x2, .int .u64 x3, .int .u64 x4, .int .u64 x5, .int .u64 x6, .int .u64 x7] 33)) := (Chg.refl [] w).alloc _
  have HSv := Lib.hid (H.look hal)
  have HB := Lib.hid (Blk.new w [.int .i64 13, .int .i64 (c : Int), .int .i64 l, .int .u64 x0, .int .u64 x1, .int .u64 x2, .int .u64 x3, .int .u64 x4, .int .u64 x5, .int .u64 x6, .int .u64 x7] 33)
  have HBl := Lib.hid (hal.to_below (B := N0) (fun x hx => absurd hx (by simp)) H.lo.2.2)
  have HBn := Lib.hid (H.fresh (x := w.heap.size) (Nat.le_refl _))
  have HY := Lib.hid hy; have HLn := Lib.hid hlen; have HX := Lib.hid hx
  subst hx
  have hnl : (S.hs.length : Int) ≤ 4 := by omega
  have hci : (c : Int) < S.hs.length := by omega
  have hc0 : (0 : Int) ≤ c := Int.natCast_nonneg _
  clear hal H hy hlen
  go_enter Try.func35, Try.ntmps35
  go_upto_region 1 with fail
  generalize World.alloc _ _ = wa at *
  obtain ⟨bm0, hb⟩ : ∃ b, w.heap.size = b := ⟨_, rfl⟩
  rw [hb] at HB HBn ⊢
  clear hb
  have m0 : wa.cell? ⟨bm0, 0, none⟩ = some (.int .i64 13) := HB.out.cell 0
  have m1 : wa.cell? ⟨bm0, 1, none⟩ = some (.int .i64 (c : Int)) := HB.out.cell 1
  have m2 : wa.cell? ⟨bm0, 2, none⟩ = some (.int .i64 l) := HB.out.cell 2
  have m3 : wa.cell? ⟨bm0, 3, none⟩ = some (.int .u64 x0) := HB.out.cell 3
  have m4 : wa.cell? ⟨bm0, 4, none⟩ = some (.int .u64 x1) := HB.out.cell 4
  have m5 : wa.cell? ⟨bm0, 5, none⟩ = some (.int .u64 x2) := HB.out.cell 5
  have m6 : wa.cell? ⟨bm0, 6, none⟩ = some (.int .u64 x3) := HB.out.cell 6
  have m7 : wa.cell? ⟨bm0, 7, none⟩ = some (.int .u64 x4) := HB.out.cell 7
  have m8 : wa.cell? ⟨bm0, 8, none⟩ = some (.int .u64 x5) := HB.out.cell 8
  have m9 : wa.cell? ⟨bm0, 9, none⟩ = some (.int .u64 x6) := HB.out.cell 9
  have m10 : wa.cell? ⟨bm0, 10, none⟩ = some (.int .u64 x7) := HB.out.cell 10
  have mlt : bm0 < wa.heap.size := HB.out.lt
  have b1 : wa.cell? ⟨b, 1, none⟩ = some (.slice (some ⟨bc, 0, none⟩) S.hs.length S.hs.length) := HSv.out.blk.cell 1
  have h0 : wa.cell? ⟨bc, c * 11, none⟩ = some (.int .i64 2) := by have := HSv.out.hon.cell (c * 11 + 0); rw [flat_get encH_len S.hs c hc 0 (by decide), HY.out] at this; exact this
  have h1 : wa.cell? ⟨bc, c * 11 + 1, none⟩ = some (.int .u64 y0) := by have := HSv.out.hon.cell (c * 11 + 1); rw [flat_get encH_len S.hs c hc 1 (by decide), HY.out] at this; exact this
  have h2 : wa.cell? ⟨bc, c * 11 + 2, none⟩ = some (.int .u64 y1) := by have := HSv.out.hon.cell (c * 11 + 2); rw [flat_get encH_len S.hs c hc 2 (by decide), HY.out] at this; exact this
  have h3 : wa.cell? ⟨bc, c * 11 + 3, none⟩ = some (.int .u64 y2) := by have := HSv.out.hon.cell (c * 11 + 3); rw [flat_get encH_len S.hs c hc 3 (by decide), HY.out] at this; exact this
  have h4 : wa.cell? ⟨bc, c * 11 + 4, none⟩ = some (.int .u64 y3) := by have := HSv.out.hon.cell (c * 11 + 4); rw [flat_get encH_len S.hs c hc 4 (by decide), HY.out] at this; exact this
  have h5 : wa.cell? ⟨bc, c * 11 + 5, none⟩ = some (.int .u64 y4) := by have := HSv.out.hon.cell (c * 11 + 5); rw [flat_get encH_len S.hs c hc 5 (by decide), HY.out] at this; exact this
  have h6 : wa.cell? ⟨bc, c * 11 + 6, none⟩ = some (.int .u64 y5) := by have := HSv.out.hon.cell (c * 11 + 6); rw [flat_get encH_len S.hs c hc 6 (by decide), HY.out] at this; exact this
  have h7 : wa.cell? ⟨bc, c * 11 + 7, none⟩ = some (.int .u64 y6) := by have := HSv.out.hon.cell (c * 11 + 7); rw [flat_get encH_len S.hs c hc 7 (by decide), HY.out] at this; exact this
  have h8 : wa.cell? ⟨bc, c * 11 + 8, none⟩ = some (.int .u64 y7) := by have := HSv.out.hon.cell (c * 11 + 8); rw [flat_get encH_len S.hs c hc 8 (by decide), HY.out] at this; exact this
  have h9 : wa.cell? ⟨bc, c * 11 + 9, none⟩ = some (.bool ya) := by have := HSv.out.hon.cell (c * 11 + 9); rw [flat_get encH_len S.hs c hc 9 (by decide), HY.out] at this; exact this
  have h10 : wa.cell? ⟨bc, c * 11 + 10, none⟩ = some (.bool yb) := by have := HSv.out.hon.cell (c * 11 + 10); rw [flat_get encH_len S.hs c hc 10 (by decide), HY.out] at this; exact this
  have blt : b < wa.heap.size := HSv.out.blk.lt
  have clt : bc < wa.heap.size := HSv.out.hon.lt
  go_region_held3 (fun w' => w'.cell? ⟨b, 1, none⟩ = some (.slice (some ⟨bc, 0, none⟩) S.hs.length S.hs.length) ∧ w'.cell? ⟨bm0, 1, none⟩ = some (.int .i64 (c : Int)) ∧ w'.cell? ⟨bc, c * 11, none⟩ = some (.int .i64 2) ∧ w'.cell? ⟨bc, c * 11 + 1, none⟩ = some (.int .u64 y0) ∧ w'.cell? ⟨bc, c * 11 + 2, none⟩ = some (.int .u64 y1) ∧ w'.cell? ⟨bc, c * 11 + 3, none⟩ = some (.int .u64 y2) ∧ w'.cell? ⟨bc, c * 11 + 4, none⟩ = some (.int .u64 y3) ∧ w'.cell? ⟨bc, c * 11 + 5, none⟩ = some (.int .u64 y4) ∧ w'.cell? ⟨bc, c * 11 + 6, none⟩ = some (.int .u64 y5) ∧ w'.cell? ⟨bc, c * 11 + 7, none⟩ = some (.int .u64 y6) ∧ w'.cell? ⟨bc, c * 11 + 8, none⟩ = some (.int .u64 y7) ∧ w'.cell? ⟨bc, c * 11 + 9, none⟩ = some (.bool ya) ∧ w'.cell? ⟨bc, c * 11 + 10, none⟩ = some (.bool yb)) (first | with_reducible exact ⟨b1, m1, h0, h1, h2, h3, h4, h5, h6, h7, h8, h9, h10⟩ | go_keep) (fail)
  clear m0 h0 m1 h1 m2 h2 m3 h3 m4 h4 m5 h5 m6 h6 m7 h7 m8 h8 m9 h9 m10 h10 b1
  have hk1 := ((Chg.refl [] wa).alloc (.cells #[.int .i64 2, .int .u64 y0, .int .u64 y1, .int .u64 y2, .int .u64 y3, .int .u64 y4, .int .u64 y5, .int .u64 y6, .int .u64 y7, .bool ya, .bool yb] 91)).drew
  have HBx := Lib.hid (Blk.drew (Blk.new wa [.int .i64 2, .int .u64 y0, .int .u64 y1, .int .u64 y2, .int .u64 y3, .int .u64 y4, .int .u64 y5, .int .u64 y6, .int .u64 y7, .bool ya, .bool yb] 91))
  have HAx := Lib.hid (HSv.out.fresh (x := wa.heap.size) (Nat.le_refl _))
  have hbx : bm0 < wa.heap.size := mlt
  replace HBl := Lib.hid (HBl.out.trans (hk1.to_below (B := N0) (fun x hx => absurd hx (by simp)) (HSv.out.lo.2.2))); replace HSv := Lib.hid (HSv.out.look hk1); replace HB := Lib.hid (hk1.blk HB.out (by simp))
  clear hk1 mlt blt clt
  generalize World.drew _ = w1 at *
  obtain ⟨bx, hbxx⟩ : ∃ b, wa.heap.size = b := ⟨_, rfl⟩
  rw [hbxx] at HBx HAx hbx ⊢
  clear hbxx
  have xlt : bx < w1.heap.size := HBx.out.lt
  have m0 : w1.cell? ⟨bm0, 0, none⟩ = some (.int .i64 13) := HB.out.cell 0
  have m1 : w1.cell? ⟨bm0, 1, none⟩ = some (.int .i64 (c : Int)) := HB.out.cell 1
  have m2 : w1.cell? ⟨bm0, 2, none⟩ = some (.int .i64 l) := HB.out.cell 2
  have m3 : w1.cell? ⟨bm0, 3, none⟩ = some (.int .u64 x0) := HB.out.cell 3
  have m4 : w1.cell? ⟨bm0, 4, none⟩ = some (.int .u64 x1) := HB.out.cell 4
  have m5 : w1.cell? ⟨bm0, 5, none⟩ = some (.int .u64 x2) := HB.out.cell 5
  have m6 : w1.cell? ⟨bm0, 6, none⟩ = some (.int .u64 x3) := HB.out.cell 6
  have m7 : w1.cell? ⟨bm0, 7, none⟩ = some (.int .u64 x4) := HB.out.cell 7
  have m8 : w1.cell? ⟨bm0, 8, none⟩ = some (.int .u64 x5) := HB.out.cell 8
  have m9 : w1.cell? ⟨bm0, 9, none⟩ = some (.int .u64 x6) := HB.out.cell 9
  have m10 : w1.cell? ⟨bm0, 10, none⟩ = some (.int .u64 x7) := HB.out.cell 10
  have mlt : bm0 < w1.heap.size := HB.out.lt
  go_upto_region 3 with fail
  have hk2 := (Chg.refl [] w1).alloc (.cells #[.int .i64 0, .int .i64 (c : Int), .int .i64 l, .int .u64 0, .int .u64 0, .int .u64 0, .int .u64 0, .int .u64 0, .int .u64 0, .int .u64 0, .int .u64 0] 33)
  have HBk := Lib.hid (Blk.new w1 [.int .i64 0, .int .i64 (c : Int), .int .i64 l, .int .u64 0, .int .u64 0, .int .u64 0, .int .u64 0, .int .u64 0, .int .u64 0, .int .u64 0, .int .u64 0] 33)
  have HAk := Lib.hid (HSv.out.fresh (x := w1.heap.size) (Nat.le_refl _))
  have hbk1 : bm0 < w1.heap.size := mlt; have hbk2 : bx < w1.heap.size := xlt
  replace HBl := Lib.hid (HBl.out.trans (hk2.to_below (B := N0) (fun x hx => absurd hx (by simp)) (HSv.out.lo.2.2))); replace HSv := Lib.hid (HSv.out.look hk2); replace HB := Lib.hid (hk2.blk HB.out (by simp)); replace HBx := Lib.hid (hk2.blk HBx.out (by simp))
  clear hk2 mlt xlt m0 m1 m2 m3 m4 m5 m6 m7 m8 m9 m10
  generalize World.alloc _ _ = w2 at *
  obtain ⟨bk, hbkk⟩ : ∃ b, w1.heap.size = b := ⟨_, rfl⟩
  rw [hbkk] at HBk HAk hbk1 hbk2 ⊢
  clear hbkk
  have hn1 : bm0 ≠ bx := by omega
  have hn2 : bm0 ≠ bk := by omega
  have hn3 : bx ≠ bk := by omega
  have hn4 : bm0 ≠ b := HBn.out.nb; have hn5 : bx ≠ b := HAx.out.nb; have hn6 : bk ≠ b := HAk.out.nb
  have m0 : w2.cell? ⟨bm0, 0, none⟩ = some (.int .i64 13) := HB.out.cell 0
  have m1 : w2.cell? ⟨bm0, 1, none⟩ = some (.int .i64 (c : Int)) := HB.out.cell 1
  have m2 : w2.cell? ⟨bm0, 2, none⟩ = some (.int .i64 l) := HB.out.cell 2
  have m3 : w2.cell? ⟨bm0, 3, none⟩ = some (.int .u64 x0) := HB.out.cell 3
  have m4 : w2.cell? ⟨bm0, 4, none⟩ = some (.int .u64 x1) := HB.out.cell 4
  have m5 : w2.cell? ⟨bm0, 5, none⟩ = some (.int .u64 x2) := HB.out.cell 5
  have m6 : w2.cell? ⟨bm0, 6, none⟩ = some (.int .u64 x3) := HB.out.cell 6
  have m7 : w2.cell? ⟨bm0, 7, none⟩ = some (.int .u64 x4) := HB.out.cell 7
  have m8 : w2.cell? ⟨bm0, 8, none⟩ = some (.int .u64 x5) := HB.out.cell 8
  have m9 : w2.cell? ⟨bm0, 9, none⟩ = some (.int .u64 x6) := HB.out.cell 9
  have m10 : w2.cell? ⟨bm0, 10, none⟩ = some (.int .u64 x7) := HB.out.cell 10
  have mlt : bm0 < w2.heap.size := HB.out.lt
  have x_0 : w2.cell? ⟨bx, 0, none⟩ = some (.int .i64 2) := HBx.out.cell 0
  have g_0 : w2.frozen? ⟨bx, 0, none⟩ = false := HBx.out.free 0
  have x_1 : w2.cell? ⟨bx, 1, none⟩ = some (.int .u64 y0) := HBx.out.cell 1
  have g_1 : w2.frozen? ⟨bx, 1, none⟩ = false := HBx.out.free 1
  have x_2 : w2.cell? ⟨bx, 2, none⟩ = some (.int .u64 y1) := HBx.out.cell 2
  have g_2 : w2.frozen? ⟨bx, 2, none⟩ = false := HBx.out.free 2
  have x_3 : w2.cell? ⟨bx, 3, none⟩ = some (.int .u64 y2) := HBx.out.cell 3
  have g_3 : w2.frozen? ⟨bx, 3, none⟩ = false := HBx.out.free 3
  have x_4 : w2.cell? ⟨bx, 4, none⟩ = some (.int .u64 y3) := HBx.out.cell 4
  have g_4 : w2.frozen? ⟨bx, 4, none⟩ = false := HBx.out.free 4
  have x_5 : w2.cell? ⟨bx, 5, none⟩ = some (.int .u64 y4) := HBx.out.cell 5
  have g_5 : w2.frozen? ⟨bx, 5, none⟩ = false := HBx.out.free 5
  have x_6 : w2.cell? ⟨bx, 6, none⟩ = some (.int .u64 y5) := HBx.out.cell 6
  have g_6 : w2.frozen? ⟨bx, 6, none⟩ = false := HBx.out.free 6
  have x_7 : w2.cell? ⟨bx, 7, none⟩ = some (.int .u64 y6) := HBx.out.cell 7
  have g_7 : w2.frozen? ⟨bx, 7, none⟩ = false := HBx.out.free 7
  have x_8 : w2.cell? ⟨bx, 8, none⟩ = some (.int .u64 y7) := HBx.out.cell 8
  have g_8 : w2.frozen? ⟨bx, 8, none⟩ = false := HBx.out.free 8
  have x_9 : w2.cell? ⟨bx, 9, none⟩ = some (.bool ya) := HBx.out.cell 9
  have g_9 : w2.frozen? ⟨bx, 9, none⟩ = false := HBx.out.free 9
  have x_10 : w2.cell? ⟨bx, 10, none⟩ = some (.bool yb) := HBx.out.cell 10
  have g_10 : w2.frozen? ⟨bx, 10, none⟩ = false := HBx.out.free 10
  have k_0 : w2.cell? ⟨bk, 0, none⟩ = some (.int .i64 0) := HBk.out.cell 0
  have l_0 : w2.frozen? ⟨bk, 0, none⟩ = false := HBk.out.free 0
  have k_1 : w2.cell? ⟨bk, 1, none⟩ = some (.int .i64 (c : Int)) := HBk.out.cell 1
  have l_1 : w2.frozen? ⟨bk, 1, none⟩ = false := HBk.out.free 1
  have k_2 : w2.cell? ⟨bk, 2, none⟩ = some (.int .i64 l) := HBk.out.cell 2
  have l_2 : w2.frozen? ⟨bk, 2, none⟩ = false := HBk.out.free 2
  have k_3 : w2.cell? ⟨bk, 3, none⟩ = some (.int .u64 0) := HBk.out.cell 3
  have l_3 : w2.frozen? ⟨bk, 3, none⟩ = false := HBk.out.free 3
  have k_4 : w2.cell? ⟨bk, 4, none⟩ = some (.int .u64 0) := HBk.out.cell 4
  have l_4 : w2.frozen? ⟨bk, 4, none⟩ = false := HBk.out.free 4
  have k_5 : w2.cell? ⟨bk, 5, none⟩ = some (.int .u64 0) := HBk.out.cell 5
  have l_5 : w2.frozen? ⟨bk, 5, none⟩ = false := HBk.out.free 5
  have k_6 : w2.cell? ⟨bk, 6, none⟩ = some (.int .u64 0) := HBk.out.cell 6
  have l_6 : w2.frozen? ⟨bk, 6, none⟩ = false := HBk.out.free 6
  have k_7 : w2.cell? ⟨bk, 7, none⟩ = some (.int .u64 0) := HBk.out.cell 7
  have l_7 : w2.frozen? ⟨bk, 7, none⟩ = false := HBk.out.free 7
  have k_8 : w2.cell? ⟨bk, 8, none⟩ = some (.int .u64 0) := HBk.out.cell 8
  have l_8 : w2.frozen? ⟨bk, 8, none⟩ = false := HBk.out.free 8
  have k_9 : w2.cell? ⟨bk, 9, none⟩ = some (.int .u64 0) := HBk.out.cell 9
  have l_9 : w2.frozen? ⟨bk, 9, none⟩ = false := HBk.out.free 9
  have k_10 : w2.cell? ⟨bk, 10, none⟩ = some (.int .u64 0) := HBk.out.cell 10
  have l_10 : w2.frozen? ⟨bk, 10, none⟩ = false := HBk.out.free 10
  have xlt : bx < w2.heap.size := HBx.out.lt
  have klt : bk < w2.heap.size := HBk.out.lt
  have blt : b < w2.heap.size := HSv.out.blk.lt
  have b1 : w2.cell? ⟨b, 1, none⟩ = some (.slice (some ⟨bc, 0, none⟩) S.hs.length S.hs.length) := HSv.out.blk.cell 1
  have f1 : w2.frozen? ⟨b, 1, none⟩ = false := HSv.out.blk.free 1
  have b2 : w2.cell? ⟨b, 2, none⟩ = some (vi) := HSv.out.blk.cell 2
  have f2 : w2.frozen? ⟨b, 2, none⟩ = false := HSv.out.blk.free 2
  have b5 : w2.cell? ⟨b, 5, none⟩ = some (.int .i64 got) := HSv.out.blk.cell 5
  have f5 : w2.frozen? ⟨b, 5, none⟩ = false := HSv.out.blk.free 5
  have b6 : w2.cell? ⟨b, 6, none⟩ = some (.int .u64 S.val) := HSv.out.blk.cell 6
  have f6 : w2.frozen? ⟨b, 6, none⟩ = false := HSv.out.blk.free 6
  have b7 : w2.cell? ⟨b, 7, none⟩ = some (.bool true) := HSv.out.blk.cell 7
  have f7 : w2.frozen? ⟨b, 7, none⟩ = false := HSv.out.blk.free 7
  go_upto_region 29 with fail
  have hF := SvW.aside HSv.out ((Chg.refl [bk] _).setCell (p := ⟨bk, 0, none⟩) (fun _ => List.mem_singleton.2 rfl) (.int .i64 6)) (fun x hx => by rw [List.mem_singleton.1 hx]; exact HAk.out)
  replace HBl := Lib.hid (HBl.out.trans hF.2); replace HSv := Lib.hid hF.1; clear hF
  replace HBk := Lib.hid (HBk.out.set 0 (.int .i64 6))
  replace HBx := Lib.hid (HBx.out.other (a := ⟨bk, 0, none⟩) (Ne.symm hn3) (.int .i64 6))
  replace HB := Lib.hid (HB.out.other (a := ⟨bk, 0, none⟩) (Ne.symm hn2) (.int .i64 6))
  have hF := SvW.aside HSv.out ((Chg.refl [bk] _).setCell (p := ⟨bk, 0, none⟩) (fun _ => List.mem_singleton.2 rfl) (.int .i64 5)) (fun x hx => by rw [List.mem_singleton.1 hx]; exact HAk.out)
  replace HBl := Lib.hid (HBl.out.trans hF.2); replace HSv := Lib.hid hF.1; clear hF
  replace HBk := Lib.hid (HBk.out.set 0 (.int .i64 5))
  replace HBx := Lib.hid (HBx.out.other (a := ⟨bk, 0, none⟩) (Ne.symm hn3) (.int .i64 5))
  replace HB := Lib.hid (HB.out.other (a := ⟨bk, 0, none⟩) (Ne.symm hn2) (.int .i64 5))
  have hF := SvW.aside HSv.out ((Chg.refl [bk] _).setCell (p := ⟨bk, 3, none⟩) (fun _ => List.mem_singleton.2 rfl) (.int .u64 y0)) (fun x hx => by rw [List.mem_singleton.1 hx]; exact HAk.out)
  replace HBl := Lib.hid (HBl.out.trans hF.2); replace HSv := Lib.hid hF.1; clear hF
  replace HBk := Lib.hid (HBk.out.set 3 (.int .u64 y0))
  replace HBx := Lib.hid (HBx.out.other (a := ⟨bk, 3, none⟩) (Ne.symm hn3) (.int .u64 y0))
  replace HB := Lib.hid (HB.out.other (a := ⟨bk, 3, none⟩) (Ne.symm hn2) (.int .u64 y0))
  have hF := SvW.aside HSv.out ((Chg.refl [bk] _).setCell (p := ⟨bk, 4, none⟩) (fun _ => List.mem_singleton.2 rfl) (.int .u64 y1)) (fun x hx => by rw [List.mem_singleton.1 hx]; exact HAk.out)
  replace HBl := Lib.hid (HBl.out.trans hF.2); replace HSv := Lib.hid hF.1; clear hF
  replace HBk := Lib.hid (HBk.out.set 4 (.int .u64 y1))
  replace HBx := Lib.hid (HBx.out.other (a := ⟨bk, 4, none⟩) (Ne.symm hn3) (.int .u64 y1))
  replace HB := Lib.hid (HB.out.other (a := ⟨bk, 4, none⟩) (Ne.symm hn2) (.int .u64 y1))
  have hF := SvW.aside HSv.out ((Chg.refl [bk] _).setCell (p := ⟨bk, 5, none⟩) (fun _ => List.mem_singleton.2 rfl) (.int .u64 y2)) (fun x hx => by rw [List.mem_singleton.1 hx]; exact HAk.out)
  replace HBl := Lib.hid (HBl.out.trans hF.2); replace HSv := Lib.hid hF.1; clear hF
  replace HBk := Lib.hid (HBk.out.set 5 (.int .u64 y2))
  replace HBx := Lib.hid (HBx.out.other (a := ⟨bk, 5, none⟩) (Ne.symm hn3) (.int .u64 y2))
  replace HB := Lib.hid (HB.out.other (a := ⟨bk, 5, none⟩) (Ne.symm hn2) (.int .u64 y2))
  have hF := SvW.aside HSv.out ((Chg.refl [bk] _).setCell (p := ⟨bk, 6, none⟩) (fun _ => List.mem_singleton.2 rfl) (.int .u64 y3)) (fun x hx => by rw [List.mem_singleton.1 hx]; exact HAk.out)
  replace HBl := Lib.hid (HBl.out.trans hF.2); replace HSv := Lib.hid hF.1; clear hF
  replace HBk := Lib.hid (HBk.out.set 6 (.int .u64 y3))
  replace HBx := Lib.hid (HBx.out.other (a := ⟨bk, 6, none⟩) (Ne.symm hn3) (.int .u64 y3))
  replace HB := Lib.hid (HB.out.other (a := ⟨bk, 6, none⟩) (Ne.symm hn2) (.int .u64 y3))
  have hF := SvW.aside HSv.out ((Chg.refl [bk] _).setCell (p := ⟨bk, 7, none⟩) (fun _ => List.mem_singleton.2 rfl) (.int .u64 y4)) (fun x hx => by rw [List.mem_singleton.1 hx]; exact HAk.out)
  replace HBl := Lib.hid (HBl.out.trans hF.2); replace HSv := Lib.hid hF.1; clear hF
  replace HBk := Lib.hid (HBk.out.set 7 (.int .u64 y4))
  replace HBx := Lib.hid (HBx.out.other (a := ⟨bk, 7, none⟩) (Ne.symm hn3) (.int .u64 y4))
  replace HB := Lib.hid (HB.out.other (a := ⟨bk, 7, none⟩) (Ne.symm hn2) (.int .u64 y4))
  have hF := SvW.aside HSv.out ((Chg.refl [bk] _).setCell (p := ⟨bk, 8, none⟩) (fun _ => List.mem_singleton.2 rfl) (.int .u64 y5)) (fun x hx => by rw [List.mem_singleton.1 hx]; exact HAk.out)
  replace HBl := Lib.hid (HBl.out.trans hF.2); replace HSv := Lib.hid hF.1; clear hF
  replace HBk := Lib.hid (HBk.out.set 8 (.int .u64 y5))
  replace HBx := Lib.hid (HBx.out.other (a := ⟨bk, 8, none⟩) (Ne.symm hn3) (.int .u64 y5))
  replace HB := Lib.hid (HB.out.other (a := ⟨bk, 8, none⟩) (Ne.symm hn2) (.int .u64 y5))
  have hF := SvW.aside HSv.out ((Chg.refl [bk] _).setCell (p := ⟨bk, 9, none⟩) (fun _ => List.mem_singleton.2 rfl) (.int .u64 y6)) (fun x hx => by rw [List.mem_singleton.1 hx]; exact HAk.out)
  replace HBl := Lib.hid (HBl.out.trans hF.2); replace HSv := Lib.hid hF.1; clear hF
  replace HBk := Lib.hid (HBk.out.set 9 (.int .u64 y6))
  replace HBx := Lib.hid (HBx.out.other (a := ⟨bk, 9, none⟩) (Ne.symm hn3) (.int .u64 y6))
  replace HB := Lib.hid (HB.out.other (a := ⟨bk, 9, none⟩) (Ne.symm hn2) (.int .u64 y6))
  have hF := SvW.aside HSv.out ((Chg.refl [bk] _).setCell (p := ⟨bk, 10, none⟩) (fun _ => List.mem_singleton.2 rfl) (.int .u64 y7)) (fun x hx => by rw [List.mem_singleton.1 hx]; exact HAk.out)
  replace HBl := Lib.hid (HBl.out.trans hF.2); replace HSv := Lib.hid hF.1; clear hF
  replace HBk := Lib.hid (HBk.out.set 10 (.int .u64 y7))
  replace HBx := Lib.hid (HBx.out.other (a := ⟨bk, 10, none⟩) (Ne.symm hn3) (.int .u64 y7))
  replace HB := Lib.hid (HB.out.other (a := ⟨bk, 10, none⟩) (Ne.symm hn2) (.int .u64 y7))
  have hF := SvW.aside HSv.out ((Chg.refl [bx] _).setCell (p := ⟨bx, 0, none⟩) (fun _ => List.mem_singleton.2 rfl) (.int .i64 0)) (fun x hx => by rw [List.mem_singleton.1 hx]; exact HAx.out)
  replace HBl := Lib.hid (HBl.out.trans hF.2); replace HSv := Lib.hid hF.1; clear hF
  replace HBx := Lib.hid (HBx.out.set 0 (.int .i64 0))
  replace HBk := Lib.hid (HBk.out.other (a := ⟨bx, 0, none⟩) (hn3) (.int .i64 0))
  replace HB := Lib.hid (HB.out.other (a := ⟨bx, 0, none⟩) (Ne.symm hn1) (.int .i64 0))
  have HBx2 : Hid (Blk _ bx [.int .i64 0, .int .u64 y0, .int .u64 y1, .int .u64 y2, .int .u64 y3, .int .u64 y4, .int .u64 y5, .int .u64 y6, .int .u64 y7, .bool ya, .bool yb] 91) := HBx
  have HBk2 : Hid (Blk _ bk [.int .i64 5, .int .i64 (c : Int), .int .i64 l, .int .u64 y0, .int .u64 y1, .int .u64 y2, .int .u64 y3, .int .u64 y4, .int .u64 y5, .int .u64 y6, .int .u64 y7] 33) := HBk
  clear HBx HBk
  clear mlt xlt klt blt m0 m1 m2 m3 m4 m5 m6 m7 m8 m9 m10 x_0 g_0 k_0 l_0 x_1 g_1 k_1 l_1 x_2 g_2 k_2 l_2 x_3 g_3 k_3 l_3 x_4 g_4 k_4 l_4 x_5 g_5 k_5 l_5 x_6 g_6 k_6 l_6 x_7 g_7 k_7 l_7 x_8 g_8 k_8 l_8 x_9 g_9 k_9 l_9 x_10 g_10 k_10 l_10 b1 f1 b2 f2 b5 f5 b6 f6 b7 f7
  generalize World.setCell _ _ _ = w3 at *
  have m1 : w3.cell? ⟨bm0, 1, none⟩ = some (.int .i64 (c : Int)) := HB.out.cell 1
  have b1 : w3.cell? ⟨b, 1, none⟩ = some (.slice (some ⟨bc, 0, none⟩) S.hs.length S.hs.length) := HSv.out.blk.cell 1
  have x_0 : w3.cell? ⟨bx, 0, none⟩ = some (.int .i64 0) := HBx2.out.cell 0
  have x_1 : w3.cell? ⟨bx, 1, none⟩ = some (.int .u64 y0) := HBx2.out.cell 1
  have x_2 : w3.cell? ⟨bx, 2, none⟩ = some (.int .u64 y1) := HBx2.out.cell 2
  have x_3 : w3.cell? ⟨bx, 3, none⟩ = some (.int .u64 y2) := HBx2.out.cell 3
  have x_4 : w3.cell? ⟨bx, 4, none⟩ = some (.int .u64 y3) := HBx2.out.cell 4
  have x_5 : w3.cell? ⟨bx, 5, none⟩ = some (.int .u64 y4) := HBx2.out.cell 5
  have x_6 : w3.cell? ⟨bx, 6, none⟩ = some (.int .u64 y5) := HBx2.out.cell 6
  have x_7 : w3.cell? ⟨bx, 7, none⟩ = some (.int .u64 y6) := HBx2.out.cell 7
  have x_8 : w3.cell? ⟨bx, 8, none⟩ = some (.int .u64 y7) := HBx2.out.cell 8
  have x_9 : w3.cell? ⟨bx, 9, none⟩ = some (.bool ya) := HBx2.out.cell 9
  have x_10 : w3.cell? ⟨bx, 10, none⟩ = some (.bool yb) := HBx2.out.cell 10
  have h0 : w3.cell? ⟨bc, c * 11, none⟩ = some (.int .i64 2) := by have := HSv.out.hon.cell (c * 11 + 0); rw [flat_get encH_len S.hs c hc 0 (by decide), HY.out] at this; exact this
  have fc0 : w3.frozen? ⟨bc, c * 11, none⟩ = false := HSv.out.hon.free _
  have h1 : w3.cell? ⟨bc, c * 11 + 1, none⟩ = some (.int .u64 y0) := by have := HSv.out.hon.cell (c * 11 + 1); rw [flat_get encH_len S.hs c hc 1 (by decide), HY.out] at this; exact this
  have fc1 : w3.frozen? ⟨bc, c * 11 + 1, none⟩ = false := HSv.out.hon.free _
  have h2 : w3.cell? ⟨bc, c * 11 + 2, none⟩ = some (.int .u64 y1) := by have := HSv.out.hon.cell (c * 11 + 2); rw [flat_get encH_len S.hs c hc 2 (by decide), HY.out] at this; exact this
  have fc2 : w3.frozen? ⟨bc, c * 11 + 2, none⟩ = false := HSv.out.hon.free _
  have h3 : w3.cell? ⟨bc, c * 11 + 3, none⟩ = some (.int .u64 y2) := by have := HSv.out.hon.cell (c * 11 + 3); rw [flat_get encH_len S.hs c hc 3 (by decide), HY.out] at this; exact this
  have fc3 : w3.frozen? ⟨bc, c * 11 + 3, none⟩ = false := HSv.out.hon.free _
  have h4 : w3.cell? ⟨bc, c * 11 + 4, none⟩ = some (.int .u64 y3) := by have := HSv.out.hon.cell (c * 11 + 4); rw [flat_get encH_len S.hs c hc 4 (by decide), HY.out] at this; exact this
  have fc4 : w3.frozen? ⟨bc, c * 11 + 4, none⟩ = false := HSv.out.hon.free _
  have h5 : w3.cell? ⟨bc, c * 11 + 5, none⟩ = some (.int .u64 y4) := by have := HSv.out.hon.cell (c * 11 + 5); rw [flat_get encH_len S.hs c hc 5 (by decide), HY.out] at this; exact this
  have fc5 : w3.frozen? ⟨bc, c * 11 + 5, none⟩ = false := HSv.out.hon.free _
  have h6 : w3.cell? ⟨bc, c * 11 + 6, none⟩ = some (.int .u64 y5) := by have := HSv.out.hon.cell (c * 11 + 6); rw [flat_get encH_len S.hs c hc 6 (by decide), HY.out] at this; exact this
  have fc6 : w3.frozen? ⟨bc, c * 11 + 6, none⟩ = false := HSv.out.hon.free _
  have h7 : w3.cell? ⟨bc, c * 11 + 7, none⟩ = some (.int .u64 y6) := by have := HSv.out.hon.cell (c * 11 + 7); rw [flat_get encH_len S.hs c hc 7 (by decide), HY.out] at this; exact this
  have fc7 : w3.frozen? ⟨bc, c * 11 + 7, none⟩ = false := HSv.out.hon.free _
  have h8 : w3.cell? ⟨bc, c * 11 + 8, none⟩ = some (.int .u64 y7) := by have := HSv.out.hon.cell (c * 11 + 8); rw [flat_get encH_len S.hs c hc 8 (by decide), HY.out] at this; exact this
  have fc8 : w3.frozen? ⟨bc, c * 11 + 8, none⟩ = false := HSv.out.hon.free _
  have h9 : w3.cell? ⟨bc, c * 11 + 9, none⟩ = some (.bool ya) := by have := HSv.out.hon.cell (c * 11 + 9); rw [flat_get encH_len S.hs c hc 9 (by decide), HY.out] at this; exact this
  have fc9 : w3.frozen? ⟨bc, c * 11 + 9, none⟩ = false := HSv.out.hon.free _
  have h10 : w3.cell? ⟨bc, c * 11 + 10, none⟩ = some (.bool yb) := by have := HSv.out.hon.cell (c * 11 + 10); rw [flat_get encH_len S.hs c hc 10 (by decide), HY.out] at this; exact this
  have fc10 : w3.frozen? ⟨bc, c * 11 + 10, none⟩ = false := HSv.out.hon.free _
  have xlt : bx < w3.heap.size := HBx2.out.lt; have blt : b < w3.heap.size := HSv.out.blk.lt; have clt : bc < w3.heap.size := HSv.out.hon.lt; have mlt : bm0 < w3.heap.size := HB.out.lt
  have hn7 : bx ≠ bc := HAx.out.nc; have hn8 : b ≠ bc := HSv.out.ne; have hn9 : bm0 ≠ bc := HBn.out.nc
  have hT1 : Chg [bc] w3 (((((((((((w3.setCell ⟨bc, c * 11, none⟩ (.int .i64 0)).setCell ⟨bc, c * 11 + 1, none⟩ (.int .u64 y0)).setCell ⟨bc, c * 11 + 2, none⟩ (.int .u64 y1)).setCell ⟨bc, c * 11 + 3, none⟩ (.int .u64 y2)).setCell ⟨bc, c * 11 + 4, none⟩ (.int .u64 y3)).setCell ⟨bc, c * 11 + 5, none⟩ (.int .u64 y4)).setCell ⟨bc, c * 11 + 6, none⟩ (.int .u64 y5)).setCell ⟨bc, c * 11 + 7, none⟩ (.int .u64 y6)).setCell ⟨bc, c * 11 + 8, none⟩ (.int .u64 y7)).setCell ⟨bc, c * 11 + 9, none⟩ (.bool ya)).setCell ⟨bc, c * 11 + 10, none⟩ (.bool yb)).drew := (hon_set11 HSv.out.hon hc ⟨0, ⟨y0, y1, y2, y3, y4, y5, y6, y7⟩, ya, yb⟩).2.drew
  have hq1 : b ∉ [bc] := by simpa using hn8
  have hq2 : bm0 ∉ [bc] := by simpa using hn9
  have hq3 : bx ∉ [bc] := by simpa using hn7
  go_region_held3 (fun w' => w'.cell? ⟨b, 1, none⟩ = some (.slice (some ⟨bc, 0, none⟩) S.hs.length S.hs.length) ∧ w'.cell? ⟨bm0, 1, none⟩ = some (.int .i64 (c : Int)) ∧ w'.cell? ⟨bx, 0, none⟩ = some (.int .i64 0) ∧ w'.cell? ⟨bx, 1, none⟩ = some (.int .u64 y0) ∧ w'.cell? ⟨bx, 2, none⟩ = some (.int .u64 y1) ∧ w'.cell? ⟨bx, 3, none⟩ = some (.int .u64 y2) ∧ w'.cell? ⟨bx, 4, none⟩ = some (.int .u64 y3) ∧ w'.cell? ⟨bx, 5, none⟩ = some (.int .u64 y4) ∧ w'.cell? ⟨bx, 6, none⟩ = some (.int .u64 y5) ∧ w'.cell? ⟨bx, 7, none⟩ = some (.int .u64 y6) ∧ w'.cell? ⟨bx, 8, none⟩ = some (.int .u64 y7) ∧ w'.cell? ⟨bx, 9, none⟩ = some (.bool ya) ∧ w'.cell? ⟨bx, 10, none⟩ = some (.bool yb)) (first | with_reducible exact ⟨b1, m1, x_0, x_1, x_2, x_3, x_4, x_5, x_6, x_7, x_8, x_9, x_10⟩ | with_reducible exact ⟨(hT1.cell blt hq1 _).trans b1, (hT1.cell mlt hq2 _).trans m1, (hT1.cell xlt hq3 _).trans x_0, (hT1.cell xlt hq3 _).trans x_1, (hT1.cell xlt hq3 _).trans x_2, (hT1.cell xlt hq3 _).trans x_3, (hT1.cell xlt hq3 _).trans x_4, (hT1.cell xlt hq3 _).trans x_5, (hT1.cell xlt hq3 _).trans x_6, (hT1.cell xlt hq3 _).trans x_7, (hT1.cell xlt hq3 _).trans x_8, (hT1.cell xlt hq3 _).trans x_9, (hT1.cell xlt hq3 _).trans x_10⟩ | go_keep) (fail)
  have hT0 := hon_set11 HSv.out.hon hc ⟨0, ⟨y0, y1, y2, y3, y4, y5, y6, y7⟩, ya, yb⟩
  have hT := And.intro hT0.1.drew hT0.2.drew
  clear hT0
  have hBk4 := hT.2.blk HBk2.out (by simpa using HAk.out.nc)
  have hS4 := HSv.out.honTurn (hs' := S.hs.set c ⟨0, ⟨y0, y1, y2, y3, y4, y5, y6, y7⟩, ya, yb⟩) (by rw [List.length_set]) hT.2 hT.1
  have HSv4 := Lib.hid hS4.1; have HBl4 := Lib.hid (HBl.out.trans hS4.2)
  have HBk4 := Lib.hid hBk4
  clear hT hT1 hq1 hq2 hq3 hS4 HSv HBl m1 b1 xlt blt clt mlt hBk4 x_0 h0 fc0 x_1 h1 fc1 x_2 h2 fc2 x_3 h3 fc3 x_4 h4 fc4 x_5 h5 fc5 x_6 h6 fc6 x_7 h7 fc7 x_8 h8 fc8 x_9 h9 fc9 x_10 h10 fc10
  generalize World.drew _ = w4 at *
  have k_0 : w4.cell? ⟨bk, 0, none⟩ = some (.int .i64 5) := HBk4.out.cell 0
  have k_1 : w4.cell? ⟨bk, 1, none⟩ = some (.int .i64 (c : Int)) := HBk4.out.cell 1
  have k_2 : w4.cell? ⟨bk, 2, none⟩ = some (.int .i64 l) := HBk4.out.cell 2
  have k_3 : w4.cell? ⟨bk, 3, none⟩ = some (.int .u64 y0) := HBk4.out.cell 3
  have k_4 : w4.cell? ⟨bk, 4, none⟩ = some (.int .u64 y1) := HBk4.out.cell 4
  have k_5 : w4.cell? ⟨bk, 5, none⟩ = some (.int .u64 y2) := HBk4.out.cell 5
  have k_6 : w4.cell? ⟨bk, 6, none⟩ = some (.int .u64 y3) := HBk4.out.cell 6
  have k_7 : w4.cell? ⟨bk, 7, none⟩ = some (.int .u64 y4) := HBk4.out.cell 7
  have k_8 : w4.cell? ⟨bk, 8, none⟩ = some (.int .u64 y5) := HBk4.out.cell 8
  have k_9 : w4.cell? ⟨bk, 9, none⟩ = some (.int .u64 y6) := HBk4.out.cell 9
  have k_10 : w4.cell? ⟨bk, 10, none⟩ = some (.int .u64 y7) := HBk4.out.cell 10
  have klt : bk < w4.heap.size := HBk4.out.lt; have blt : b < w4.heap.size := HSv4.out.blk.lt
  have b2 : w4.cell? ⟨b, 2, none⟩ = some vi := HSv4.out.blk.cell 2; have f2 : w4.frozen? ⟨b, 2, none⟩ = false := HSv4.out.blk.free 2
  have HNr := Lib.hid HSv4.out.notRow.1.1
  have HOw : Hid (w4.drew.ownsRow N0 33 11 vi S.inn.length (S.inn.flatMap encM)) := Lib.hid HSv4.out.inn
  go_upto_region 30 with fail
  go_region_law (refine step_append_row (by rfl) (.tmp 128) (.tmp 130) (by rfl) j0 hj hz0 hz1 hz2 (by rfl) (HOw.out.alloc _) ⟨w4.heap.size, 0, none⟩ 1 (by rfl) ⟨5, (c : Int), l, ⟨y0, y1, y2, y3, y4, y5, y6, y7⟩⟩ (cells_new w4.drew [.int .i64 5, .int .i64 (c : Int), .int .i64 l, .int .u64 y0, .int .u64 y1, .int .u64 y2, .int .u64 y3, .int .u64 y4, .int .u64 y5, .int .u64 y6, .int .u64 y7] _) (by have := HLn.out; omega) (Nat.le_trans HSv4.out.lo.2.2 (by simp)) ?_; intro v5 w5 ho5 hg5 hb5; have hk5 := (((Chg.refl (rowB vi) w4).drew).alloc (.cells #[.int .i64 5, .int .i64 (c : Int), .int .i64 l, .int .u64 y0, .int .u64 y1, .int .u64 y2, .int .u64 y3, .int .u64 y4, .int .u64 y5, .int .u64 y6, .int .u64 y7] 33)).trans (Chg.of_grown hg5); have hr5 := rowB_grew hb5 (n := w4.heap.size) (by simp); have HO5 := Lib.hid ho5; have HK5 := Lib.hid hk5; have HR5 := Lib.hid hr5; obtain ⟨A5, c5, hv5, _, _, _, _⟩ := ownsRow_cell ho5; clear ho5 hg5 hb5 hk5 hr5; subst hv5; have q2 : w5.cell? ⟨b, 2, none⟩ = some vi := (HK5.out.cell blt HNr.out 2).trans b2; have g2 : w5.frozen? ⟨b, 2, none⟩ = false := (HK5.out.blk HSv4.out.blk HNr.out).free 2)
  all_goals (have hG := HSv4.out.innNew (inn' := S.inn ++ [⟨5, (c : Int), l, ⟨y0, y1, y2, y3, y4, y5, y6, y7⟩⟩]) HK5.out (by rw [List.length_append, List.flatMap_append]; exact HO5.out) HR5.out; have HZ := Lib.hid (And.intro hG.1 (HBl4.out.trans hG.2)); clear hG; refine bodyPost_ret (results_none rfl _ _ _) rfl ?_; exact ⟨rfl, ⟨_, _, _, HZ.out.1⟩, HZ.out.2⟩)



set_option maxHeartbeats 8000000 in
theorem wans_13n {N0 : Nat} {w : World} {b d bm bw bl bc : Nat} {vi vo : Value} {es : List EntV} {e0 : EntV} {S : SvS} {made got : Int} (c : Nat) (hc : c < S.hs.length) (l x0 x1 x2 x3 x4 x5 x6 x7 ys y0 y1 y2 y3 y4 y5 y6 y7 : Int) (ya yb : Bool) (hy : S.hs[c] = ⟨ys, ⟨y0, y1, y2, y3, y4, y5, y6, y7⟩, ya, yb⟩) (hlen : S.inn.length ≤ 1000) (hcl : S.hs.length ≤ 4) (hx : ys ≠ 2) (H : SvW N0 w b d bm bw bl bc vi vo es e0 S made got) :
    Calls Try.prog 35 #[.pointer (some ⟨b, 0, none⟩), .agg #[.int .i64 13, .int .i64 (c : Int), .int .i64 l, .int .u64 x0, .int .u64 x1, .int .u64 x2, .int .u64 x3, .int .u64 x4, .int .u64 x5, .int .u64 x6, .int .u64 x7]] w (SvPost N0 w b d bm bw bl bc e0 { S with hs := S.hs.set c ⟨ys, ⟨y0, y1, y2, y3, y4, y5, y6, y7⟩, ya, yb⟩, inn := S.inn ++ [⟨6, (c : Int), l, {}⟩] } made got) := by
  obtain ⟨j0, hj, hz0, hz1, hz2⟩ := info_parts infoMsg
  have hal : Chg [] w (w.alloc (.cells #[.int .i64 13, .int .i64 (c : Int), .int .i64 l, .int .u64 x0, .int .u64 x1, .int .u64 x2, .int .u64 x3, .int .u64 x4, .int .u64 x5, .int .u64 x6, .int .u64 x7] 33)) := (Chg.refl [] w).alloc _
  have HSv := Lib.hid (H.look hal)
  have HB := Lib.hid (Blk.new w [.int .i64 13, .int .i64 (c : Int), .int .i64 l, .int .u64 x0, .int .u64 x1, .int .u64 x2, .int .u64 x3, .int .u64 x4, .int .u64 x5, .int .u64 x6, .int .u64 x7] 33)
  have HBl := Lib.hid (hal.to_below (B := N0) (fun x hx => absurd hx (by simp)) H.lo.2.2)
  have HBn := Lib.hid (H.fresh (x := w.heap.size) (Nat.le_refl _))
  have HY := Lib.hid hy; have HLn := Lib.hid hlen; have HX := Lib.hid hx
  have hx2 : (ys == 2) = false := by simpa using hx
  clear hx
  have hnl : (S.hs.length : Int) ≤ 4 := by omega
  have hci : (c : Int) < S.hs.length := by omega
  have hc0 : (0 : Int) ≤ c := Int.natCast_nonneg _
  clear hal H hy hlen
  go_enter Try.func35, Try.ntmps35
  go_upto_region 1 with fail
  generalize World.alloc _ _ = wa at *
  obtain ⟨bm0, hb⟩ : ∃ b, w.heap.size = b := ⟨_, rfl⟩
  rw [hb] at HB HBn ⊢
  clear hb
  have m0 : wa.cell? ⟨bm0, 0, none⟩ = some (.int .i64 13) := HB.out.cell 0
  have m1 : wa.cell? ⟨bm0, 1, none⟩ = some (.int .i64 (c : Int)) := HB.out.cell 1
  have m2 : wa.cell? ⟨bm0, 2, none⟩ = some (.int .i64 l) := HB.out.cell 2
  have m3 : wa.cell? ⟨bm0, 3, none⟩ = some (.int .u64 x0) := HB.out.cell 3
  have m4 : wa.cell? ⟨bm0, 4, none⟩ = some (.int .u64 x1) := HB.out.cell 4
  have m5 : wa.cell? ⟨bm0, 5, none⟩ = some (.int .u64 x2) := HB.out.cell 5
  have m6 : wa.cell? ⟨bm0, 6, none⟩ = some (.int .u64 x3) := HB.out.cell 6
  have m7 : wa.cell? ⟨bm0, 7, none⟩ = some (.int .u64 x4) := HB.out.cell 7
  have m8 : wa.cell? ⟨bm0, 8, none⟩ = some (.int .u64 x5) := HB.out.cell 8
  have m9 : wa.cell? ⟨bm0, 9, none⟩ = some (.int .u64 x6) := HB.out.cell 9
  have m10 : wa.cell? ⟨bm0, 10, none⟩ = some (.int .u64 x7) := HB.out.cell 10
  have mlt : bm0 < wa.heap.size := HB.out.lt
  have b1 : wa.cell? ⟨b, 1, none⟩ = some (.slice (some ⟨bc, 0, none⟩) S.hs.length S.hs.length) := HSv.out.blk.cell 1
  have h0 : wa.cell? ⟨bc, c * 11, none⟩ = some (.int .i64 ys) := by have := HSv.out.hon.cell (c * 11 + 0); rw [flat_get encH_len S.hs c hc 0 (by decide), HY.out] at this; exact this
  have h1 : wa.cell? ⟨bc, c * 11 + 1, none⟩ = some (.int .u64 y0) := by have := HSv.out.hon.cell (c * 11 + 1); rw [flat_get encH_len S.hs c hc 1 (by decide), HY.out] at this; exact this
  have h2 : wa.cell? ⟨bc, c * 11 + 2, none⟩ = some (.int .u64 y1) := by have := HSv.out.hon.cell (c * 11 + 2); rw [flat_get encH_len S.hs c hc 2 (by decide), HY.out] at this; exact this
  have h3 : wa.cell? ⟨bc, c * 11 + 3, none⟩ = some (.int .u64 y2) := by have := HSv.out.hon.cell (c * 11 + 3); rw [flat_get encH_len S.hs c hc 3 (by decide), HY.out] at this; exact this
  have h4 : wa.cell? ⟨bc, c * 11 + 4, none⟩ = some (.int .u64 y3) := by have := HSv.out.hon.cell (c * 11 + 4); rw [flat_get encH_len S.hs c hc 4 (by decide), HY.out] at this; exact this
  have h5 : wa.cell? ⟨bc, c * 11 + 5, none⟩ = some (.int .u64 y4) := by have := HSv.out.hon.cell (c * 11 + 5); rw [flat_get encH_len S.hs c hc 5 (by decide), HY.out] at this; exact this
  have h6 : wa.cell? ⟨bc, c * 11 + 6, none⟩ = some (.int .u64 y5) := by have := HSv.out.hon.cell (c * 11 + 6); rw [flat_get encH_len S.hs c hc 6 (by decide), HY.out] at this; exact this
  have h7 : wa.cell? ⟨bc, c * 11 + 7, none⟩ = some (.int .u64 y6) := by have := HSv.out.hon.cell (c * 11 + 7); rw [flat_get encH_len S.hs c hc 7 (by decide), HY.out] at this; exact this
  have h8 : wa.cell? ⟨bc, c * 11 + 8, none⟩ = some (.int .u64 y7) := by have := HSv.out.hon.cell (c * 11 + 8); rw [flat_get encH_len S.hs c hc 8 (by decide), HY.out] at this; exact this
  have h9 : wa.cell? ⟨bc, c * 11 + 9, none⟩ = some (.bool ya) := by have := HSv.out.hon.cell (c * 11 + 9); rw [flat_get encH_len S.hs c hc 9 (by decide), HY.out] at this; exact this
  have h10 : wa.cell? ⟨bc, c * 11 + 10, none⟩ = some (.bool yb) := by have := HSv.out.hon.cell (c * 11 + 10); rw [flat_get encH_len S.hs c hc 10 (by decide), HY.out] at this; exact this
  have blt : b < wa.heap.size := HSv.out.blk.lt
  have clt : bc < wa.heap.size := HSv.out.hon.lt
  go_region_held3 (fun w' => w'.cell? ⟨b, 1, none⟩ = some (.slice (some ⟨bc, 0, none⟩) S.hs.length S.hs.length) ∧ w'.cell? ⟨bm0, 1, none⟩ = some (.int .i64 (c : Int)) ∧ w'.cell? ⟨bc, c * 11, none⟩ = some (.int .i64 ys) ∧ w'.cell? ⟨bc, c * 11 + 1, none⟩ = some (.int .u64 y0) ∧ w'.cell? ⟨bc, c * 11 + 2, none⟩ = some (.int .u64 y1) ∧ w'.cell? ⟨bc, c * 11 + 3, none⟩ = some (.int .u64 y2) ∧ w'.cell? ⟨bc, c * 11 + 4, none⟩ = some (.int .u64 y3) ∧ w'.cell? ⟨bc, c * 11 + 5, none⟩ = some (.int .u64 y4) ∧ w'.cell? ⟨bc, c * 11 + 6, none⟩ = some (.int .u64 y5) ∧ w'.cell? ⟨bc, c * 11 + 7, none⟩ = some (.int .u64 y6) ∧ w'.cell? ⟨bc, c * 11 + 8, none⟩ = some (.int .u64 y7) ∧ w'.cell? ⟨bc, c * 11 + 9, none⟩ = some (.bool ya) ∧ w'.cell? ⟨bc, c * 11 + 10, none⟩ = some (.bool yb)) (first | with_reducible exact ⟨b1, m1, h0, h1, h2, h3, h4, h5, h6, h7, h8, h9, h10⟩ | go_keep) (fail)
  clear m0 h0 m1 h1 m2 h2 m3 h3 m4 h4 m5 h5 m6 h6 m7 h7 m8 h8 m9 h9 m10 h10 b1
  have hk1 := ((Chg.refl [] wa).alloc (.cells #[.int .i64 ys, .int .u64 y0, .int .u64 y1, .int .u64 y2, .int .u64 y3, .int .u64 y4, .int .u64 y5, .int .u64 y6, .int .u64 y7, .bool ya, .bool yb] 91)).drew
  have HBx := Lib.hid (Blk.drew (Blk.new wa [.int .i64 ys, .int .u64 y0, .int .u64 y1, .int .u64 y2, .int .u64 y3, .int .u64 y4, .int .u64 y5, .int .u64 y6, .int .u64 y7, .bool ya, .bool yb] 91))
  have HAx := Lib.hid (HSv.out.fresh (x := wa.heap.size) (Nat.le_refl _))
  have hbx : bm0 < wa.heap.size := mlt
  replace HBl := Lib.hid (HBl.out.trans (hk1.to_below (B := N0) (fun x hx => absurd hx (by simp)) (HSv.out.lo.2.2))); replace HSv := Lib.hid (HSv.out.look hk1); replace HB := Lib.hid (hk1.blk HB.out (by simp))
  clear hk1 mlt blt clt
  generalize World.drew _ = w1 at *
  obtain ⟨bx, hbxx⟩ : ∃ b, wa.heap.size = b := ⟨_, rfl⟩
  rw [hbxx] at HBx HAx hbx ⊢
  clear hbxx
  have xlt : bx < w1.heap.size := HBx.out.lt
  have m0 : w1.cell? ⟨bm0, 0, none⟩ = some (.int .i64 13) := HB.out.cell 0
  have m1 : w1.cell? ⟨bm0, 1, none⟩ = some (.int .i64 (c : Int)) := HB.out.cell 1
  have m2 : w1.cell? ⟨bm0, 2, none⟩ = some (.int .i64 l) := HB.out.cell 2
  have m3 : w1.cell? ⟨bm0, 3, none⟩ = some (.int .u64 x0) := HB.out.cell 3
  have m4 : w1.cell? ⟨bm0, 4, none⟩ = some (.int .u64 x1) := HB.out.cell 4
  have m5 : w1.cell? ⟨bm0, 5, none⟩ = some (.int .u64 x2) := HB.out.cell 5
  have m6 : w1.cell? ⟨bm0, 6, none⟩ = some (.int .u64 x3) := HB.out.cell 6
  have m7 : w1.cell? ⟨bm0, 7, none⟩ = some (.int .u64 x4) := HB.out.cell 7
  have m8 : w1.cell? ⟨bm0, 8, none⟩ = some (.int .u64 x5) := HB.out.cell 8
  have m9 : w1.cell? ⟨bm0, 9, none⟩ = some (.int .u64 x6) := HB.out.cell 9
  have m10 : w1.cell? ⟨bm0, 10, none⟩ = some (.int .u64 x7) := HB.out.cell 10
  have mlt : bm0 < w1.heap.size := HB.out.lt
  go_upto_region 3 with fail
  have hk2 := (Chg.refl [] w1).alloc (.cells #[.int .i64 0, .int .i64 (c : Int), .int .i64 l, .int .u64 0, .int .u64 0, .int .u64 0, .int .u64 0, .int .u64 0, .int .u64 0, .int .u64 0, .int .u64 0] 33)
  have HBk := Lib.hid (Blk.new w1 [.int .i64 0, .int .i64 (c : Int), .int .i64 l, .int .u64 0, .int .u64 0, .int .u64 0, .int .u64 0, .int .u64 0, .int .u64 0, .int .u64 0, .int .u64 0] 33)
  have HAk := Lib.hid (HSv.out.fresh (x := w1.heap.size) (Nat.le_refl _))
  have hbk1 : bm0 < w1.heap.size := mlt; have hbk2 : bx < w1.heap.size := xlt
  replace HBl := Lib.hid (HBl.out.trans (hk2.to_below (B := N0) (fun x hx => absurd hx (by simp)) (HSv.out.lo.2.2))); replace HSv := Lib.hid (HSv.out.look hk2); replace HB := Lib.hid (hk2.blk HB.out (by simp)); replace HBx := Lib.hid (hk2.blk HBx.out (by simp))
  clear hk2 mlt xlt m0 m1 m2 m3 m4 m5 m6 m7 m8 m9 m10
  generalize World.alloc _ _ = w2 at *
  obtain ⟨bk, hbkk⟩ : ∃ b, w1.heap.size = b := ⟨_, rfl⟩
  rw [hbkk] at HBk HAk hbk1 hbk2 ⊢
  clear hbkk
  have hn1 : bm0 ≠ bx := by omega
  have hn2 : bm0 ≠ bk := by omega
  have hn3 : bx ≠ bk := by omega
  have hn4 : bm0 ≠ b := HBn.out.nb; have hn5 : bx ≠ b := HAx.out.nb; have hn6 : bk ≠ b := HAk.out.nb
  have m0 : w2.cell? ⟨bm0, 0, none⟩ = some (.int .i64 13) := HB.out.cell 0
  have m1 : w2.cell? ⟨bm0, 1, none⟩ = some (.int .i64 (c : Int)) := HB.out.cell 1
  have m2 : w2.cell? ⟨bm0, 2, none⟩ = some (.int .i64 l) := HB.out.cell 2
  have m3 : w2.cell? ⟨bm0, 3, none⟩ = some (.int .u64 x0) := HB.out.cell 3
  have m4 : w2.cell? ⟨bm0, 4, none⟩ = some (.int .u64 x1) := HB.out.cell 4
  have m5 : w2.cell? ⟨bm0, 5, none⟩ = some (.int .u64 x2) := HB.out.cell 5
  have m6 : w2.cell? ⟨bm0, 6, none⟩ = some (.int .u64 x3) := HB.out.cell 6
  have m7 : w2.cell? ⟨bm0, 7, none⟩ = some (.int .u64 x4) := HB.out.cell 7
  have m8 : w2.cell? ⟨bm0, 8, none⟩ = some (.int .u64 x5) := HB.out.cell 8
  have m9 : w2.cell? ⟨bm0, 9, none⟩ = some (.int .u64 x6) := HB.out.cell 9
  have m10 : w2.cell? ⟨bm0, 10, none⟩ = some (.int .u64 x7) := HB.out.cell 10
  have mlt : bm0 < w2.heap.size := HB.out.lt
  have x_0 : w2.cell? ⟨bx, 0, none⟩ = some (.int .i64 ys) := HBx.out.cell 0
  have g_0 : w2.frozen? ⟨bx, 0, none⟩ = false := HBx.out.free 0
  have x_1 : w2.cell? ⟨bx, 1, none⟩ = some (.int .u64 y0) := HBx.out.cell 1
  have g_1 : w2.frozen? ⟨bx, 1, none⟩ = false := HBx.out.free 1
  have x_2 : w2.cell? ⟨bx, 2, none⟩ = some (.int .u64 y1) := HBx.out.cell 2
  have g_2 : w2.frozen? ⟨bx, 2, none⟩ = false := HBx.out.free 2
  have x_3 : w2.cell? ⟨bx, 3, none⟩ = some (.int .u64 y2) := HBx.out.cell 3
  have g_3 : w2.frozen? ⟨bx, 3, none⟩ = false := HBx.out.free 3
  have x_4 : w2.cell? ⟨bx, 4, none⟩ = some (.int .u64 y3) := HBx.out.cell 4
  have g_4 : w2.frozen? ⟨bx, 4, none⟩ = false := HBx.out.free 4
  have x_5 : w2.cell? ⟨bx, 5, none⟩ = some (.int .u64 y4) := HBx.out.cell 5
  have g_5 : w2.frozen? ⟨bx, 5, none⟩ = false := HBx.out.free 5
  have x_6 : w2.cell? ⟨bx, 6, none⟩ = some (.int .u64 y5) := HBx.out.cell 6
  have g_6 : w2.frozen? ⟨bx, 6, none⟩ = false := HBx.out.free 6
  have x_7 : w2.cell? ⟨bx, 7, none⟩ = some (.int .u64 y6) := HBx.out.cell 7
  have g_7 : w2.frozen? ⟨bx, 7, none⟩ = false := HBx.out.free 7
  have x_8 : w2.cell? ⟨bx, 8, none⟩ = some (.int .u64 y7) := HBx.out.cell 8
  have g_8 : w2.frozen? ⟨bx, 8, none⟩ = false := HBx.out.free 8
  have x_9 : w2.cell? ⟨bx, 9, none⟩ = some (.bool ya) := HBx.out.cell 9
  have g_9 : w2.frozen? ⟨bx, 9, none⟩ = false := HBx.out.free 9
  have x_10 : w2.cell? ⟨bx, 10, none⟩ = some (.bool yb) := HBx.out.cell 10
  have g_10 : w2.frozen? ⟨bx, 10, none⟩ = false := HBx.out.free 10
  have k_0 : w2.cell? ⟨bk, 0, none⟩ = some (.int .i64 0) := HBk.out.cell 0
  have l_0 : w2.frozen? ⟨bk, 0, none⟩ = false := HBk.out.free 0
  have k_1 : w2.cell? ⟨bk, 1, none⟩ = some (.int .i64 (c : Int)) := HBk.out.cell 1
  have l_1 : w2.frozen? ⟨bk, 1, none⟩ = false := HBk.out.free 1
  have k_2 : w2.cell? ⟨bk, 2, none⟩ = some (.int .i64 l) := HBk.out.cell 2
  have l_2 : w2.frozen? ⟨bk, 2, none⟩ = false := HBk.out.free 2
  have k_3 : w2.cell? ⟨bk, 3, none⟩ = some (.int .u64 0) := HBk.out.cell 3
  have l_3 : w2.frozen? ⟨bk, 3, none⟩ = false := HBk.out.free 3
  have k_4 : w2.cell? ⟨bk, 4, none⟩ = some (.int .u64 0) := HBk.out.cell 4
  have l_4 : w2.frozen? ⟨bk, 4, none⟩ = false := HBk.out.free 4
  have k_5 : w2.cell? ⟨bk, 5, none⟩ = some (.int .u64 0) := HBk.out.cell 5
  have l_5 : w2.frozen? ⟨bk, 5, none⟩ = false := HBk.out.free 5
  have k_6 : w2.cell? ⟨bk, 6, none⟩ = some (.int .u64 0) := HBk.out.cell 6
  have l_6 : w2.frozen? ⟨bk, 6, none⟩ = false := HBk.out.free 6
  have k_7 : w2.cell? ⟨bk, 7, none⟩ = some (.int .u64 0) := HBk.out.cell 7
  have l_7 : w2.frozen? ⟨bk, 7, none⟩ = false := HBk.out.free 7
  have k_8 : w2.cell? ⟨bk, 8, none⟩ = some (.int .u64 0) := HBk.out.cell 8
  have l_8 : w2.frozen? ⟨bk, 8, none⟩ = false := HBk.out.free 8
  have k_9 : w2.cell? ⟨bk, 9, none⟩ = some (.int .u64 0) := HBk.out.cell 9
  have l_9 : w2.frozen? ⟨bk, 9, none⟩ = false := HBk.out.free 9
  have k_10 : w2.cell? ⟨bk, 10, none⟩ = some (.int .u64 0) := HBk.out.cell 10
  have l_10 : w2.frozen? ⟨bk, 10, none⟩ = false := HBk.out.free 10
  have xlt : bx < w2.heap.size := HBx.out.lt
  have klt : bk < w2.heap.size := HBk.out.lt
  have blt : b < w2.heap.size := HSv.out.blk.lt
  have b1 : w2.cell? ⟨b, 1, none⟩ = some (.slice (some ⟨bc, 0, none⟩) S.hs.length S.hs.length) := HSv.out.blk.cell 1
  have f1 : w2.frozen? ⟨b, 1, none⟩ = false := HSv.out.blk.free 1
  have b2 : w2.cell? ⟨b, 2, none⟩ = some (vi) := HSv.out.blk.cell 2
  have f2 : w2.frozen? ⟨b, 2, none⟩ = false := HSv.out.blk.free 2
  have b5 : w2.cell? ⟨b, 5, none⟩ = some (.int .i64 got) := HSv.out.blk.cell 5
  have f5 : w2.frozen? ⟨b, 5, none⟩ = false := HSv.out.blk.free 5
  have b6 : w2.cell? ⟨b, 6, none⟩ = some (.int .u64 S.val) := HSv.out.blk.cell 6
  have f6 : w2.frozen? ⟨b, 6, none⟩ = false := HSv.out.blk.free 6
  have b7 : w2.cell? ⟨b, 7, none⟩ = some (.bool true) := HSv.out.blk.cell 7
  have f7 : w2.frozen? ⟨b, 7, none⟩ = false := HSv.out.blk.free 7
  go_upto_region 29 with fail
  have hF := SvW.aside HSv.out ((Chg.refl [bk] _).setCell (p := ⟨bk, 0, none⟩) (fun _ => List.mem_singleton.2 rfl) (.int .i64 6)) (fun x hx => by rw [List.mem_singleton.1 hx]; exact HAk.out)
  replace HBl := Lib.hid (HBl.out.trans hF.2); replace HSv := Lib.hid hF.1; clear hF
  replace HBk := Lib.hid (HBk.out.set 0 (.int .i64 6))
  replace HBx := Lib.hid (HBx.out.other (a := ⟨bk, 0, none⟩) (Ne.symm hn3) (.int .i64 6))
  replace HB := Lib.hid (HB.out.other (a := ⟨bk, 0, none⟩) (Ne.symm hn2) (.int .i64 6))
  have HBx2 : Hid (Blk _ bx [.int .i64 ys, .int .u64 y0, .int .u64 y1, .int .u64 y2, .int .u64 y3, .int .u64 y4, .int .u64 y5, .int .u64 y6, .int .u64 y7, .bool ya, .bool yb] 91) := HBx
  have HBk2 : Hid (Blk _ bk [.int .i64 6, .int .i64 (c : Int), .int .i64 l, .int .u64 0, .int .u64 0, .int .u64 0, .int .u64 0, .int .u64 0, .int .u64 0, .int .u64 0, .int .u64 0] 33) := HBk
  clear HBx HBk
  clear mlt xlt klt blt m0 m1 m2 m3 m4 m5 m6 m7 m8 m9 m10 x_0 g_0 k_0 l_0 x_1 g_1 k_1 l_1 x_2 g_2 k_2 l_2 x_3 g_3 k_3 l_3 x_4 g_4 k_4 l_4 x_5 g_5 k_5 l_5 x_6 g_6 k_6 l_6 x_7 g_7 k_7 l_7 x_8 g_8 k_8 l_8 x_9 g_9 k_9 l_9 x_10 g_10 k_10 l_10 b1 f1 b2 f2 b5 f5 b6 f6 b7 f7
  generalize World.setCell _ _ _ = w3 at *
  have m1 : w3.cell? ⟨bm0, 1, none⟩ = some (.int .i64 (c : Int)) := HB.out.cell 1
  have b1 : w3.cell? ⟨b, 1, none⟩ = some (.slice (some ⟨bc, 0, none⟩) S.hs.length S.hs.length) := HSv.out.blk.cell 1
  have x_0 : w3.cell? ⟨bx, 0, none⟩ = some (.int .i64 ys) := HBx2.out.cell 0
  have x_1 : w3.cell? ⟨bx, 1, none⟩ = some (.int .u64 y0) := HBx2.out.cell 1
  have x_2 : w3.cell? ⟨bx, 2, none⟩ = some (.int .u64 y1) := HBx2.out.cell 2
  have x_3 : w3.cell? ⟨bx, 3, none⟩ = some (.int .u64 y2) := HBx2.out.cell 3
  have x_4 : w3.cell? ⟨bx, 4, none⟩ = some (.int .u64 y3) := HBx2.out.cell 4
  have x_5 : w3.cell? ⟨bx, 5, none⟩ = some (.int .u64 y4) := HBx2.out.cell 5
  have x_6 : w3.cell? ⟨bx, 6, none⟩ = some (.int .u64 y5) := HBx2.out.cell 6
  have x_7 : w3.cell? ⟨bx, 7, none⟩ = some (.int .u64 y6) := HBx2.out.cell 7
  have x_8 : w3.cell? ⟨bx, 8, none⟩ = some (.int .u64 y7) := HBx2.out.cell 8
  have x_9 : w3.cell? ⟨bx, 9, none⟩ = some (.bool ya) := HBx2.out.cell 9
  have x_10 : w3.cell? ⟨bx, 10, none⟩ = some (.bool yb) := HBx2.out.cell 10
  have h0 : w3.cell? ⟨bc, c * 11, none⟩ = some (.int .i64 ys) := by have := HSv.out.hon.cell (c * 11 + 0); rw [flat_get encH_len S.hs c hc 0 (by decide), HY.out] at this; exact this
  have fc0 : w3.frozen? ⟨bc, c * 11, none⟩ = false := HSv.out.hon.free _
  have h1 : w3.cell? ⟨bc, c * 11 + 1, none⟩ = some (.int .u64 y0) := by have := HSv.out.hon.cell (c * 11 + 1); rw [flat_get encH_len S.hs c hc 1 (by decide), HY.out] at this; exact this
  have fc1 : w3.frozen? ⟨bc, c * 11 + 1, none⟩ = false := HSv.out.hon.free _
  have h2 : w3.cell? ⟨bc, c * 11 + 2, none⟩ = some (.int .u64 y1) := by have := HSv.out.hon.cell (c * 11 + 2); rw [flat_get encH_len S.hs c hc 2 (by decide), HY.out] at this; exact this
  have fc2 : w3.frozen? ⟨bc, c * 11 + 2, none⟩ = false := HSv.out.hon.free _
  have h3 : w3.cell? ⟨bc, c * 11 + 3, none⟩ = some (.int .u64 y2) := by have := HSv.out.hon.cell (c * 11 + 3); rw [flat_get encH_len S.hs c hc 3 (by decide), HY.out] at this; exact this
  have fc3 : w3.frozen? ⟨bc, c * 11 + 3, none⟩ = false := HSv.out.hon.free _
  have h4 : w3.cell? ⟨bc, c * 11 + 4, none⟩ = some (.int .u64 y3) := by have := HSv.out.hon.cell (c * 11 + 4); rw [flat_get encH_len S.hs c hc 4 (by decide), HY.out] at this; exact this
  have fc4 : w3.frozen? ⟨bc, c * 11 + 4, none⟩ = false := HSv.out.hon.free _
  have h5 : w3.cell? ⟨bc, c * 11 + 5, none⟩ = some (.int .u64 y4) := by have := HSv.out.hon.cell (c * 11 + 5); rw [flat_get encH_len S.hs c hc 5 (by decide), HY.out] at this; exact this
  have fc5 : w3.frozen? ⟨bc, c * 11 + 5, none⟩ = false := HSv.out.hon.free _
  have h6 : w3.cell? ⟨bc, c * 11 + 6, none⟩ = some (.int .u64 y5) := by have := HSv.out.hon.cell (c * 11 + 6); rw [flat_get encH_len S.hs c hc 6 (by decide), HY.out] at this; exact this
  have fc6 : w3.frozen? ⟨bc, c * 11 + 6, none⟩ = false := HSv.out.hon.free _
  have h7 : w3.cell? ⟨bc, c * 11 + 7, none⟩ = some (.int .u64 y6) := by have := HSv.out.hon.cell (c * 11 + 7); rw [flat_get encH_len S.hs c hc 7 (by decide), HY.out] at this; exact this
  have fc7 : w3.frozen? ⟨bc, c * 11 + 7, none⟩ = false := HSv.out.hon.free _
  have h8 : w3.cell? ⟨bc, c * 11 + 8, none⟩ = some (.int .u64 y7) := by have := HSv.out.hon.cell (c * 11 + 8); rw [flat_get encH_len S.hs c hc 8 (by decide), HY.out] at this; exact this
  have fc8 : w3.frozen? ⟨bc, c * 11 + 8, none⟩ = false := HSv.out.hon.free _
  have h9 : w3.cell? ⟨bc, c * 11 + 9, none⟩ = some (.bool ya) := by have := HSv.out.hon.cell (c * 11 + 9); rw [flat_get encH_len S.hs c hc 9 (by decide), HY.out] at this; exact this
  have fc9 : w3.frozen? ⟨bc, c * 11 + 9, none⟩ = false := HSv.out.hon.free _
  have h10 : w3.cell? ⟨bc, c * 11 + 10, none⟩ = some (.bool yb) := by have := HSv.out.hon.cell (c * 11 + 10); rw [flat_get encH_len S.hs c hc 10 (by decide), HY.out] at this; exact this
  have fc10 : w3.frozen? ⟨bc, c * 11 + 10, none⟩ = false := HSv.out.hon.free _
  have xlt : bx < w3.heap.size := HBx2.out.lt; have blt : b < w3.heap.size := HSv.out.blk.lt; have clt : bc < w3.heap.size := HSv.out.hon.lt; have mlt : bm0 < w3.heap.size := HB.out.lt
  have hn7 : bx ≠ bc := HAx.out.nc; have hn8 : b ≠ bc := HSv.out.ne; have hn9 : bm0 ≠ bc := HBn.out.nc
  have hT1 : Chg [bc] w3 (((((((((((w3.setCell ⟨bc, c * 11, none⟩ (.int .i64 ys)).setCell ⟨bc, c * 11 + 1, none⟩ (.int .u64 y0)).setCell ⟨bc, c * 11 + 2, none⟩ (.int .u64 y1)).setCell ⟨bc, c * 11 + 3, none⟩ (.int .u64 y2)).setCell ⟨bc, c * 11 + 4, none⟩ (.int .u64 y3)).setCell ⟨bc, c * 11 + 5, none⟩ (.int .u64 y4)).setCell ⟨bc, c * 11 + 6, none⟩ (.int .u64 y5)).setCell ⟨bc, c * 11 + 7, none⟩ (.int .u64 y6)).setCell ⟨bc, c * 11 + 8, none⟩ (.int .u64 y7)).setCell ⟨bc, c * 11 + 9, none⟩ (.bool ya)).setCell ⟨bc, c * 11 + 10, none⟩ (.bool yb)).drew := (hon_set11 HSv.out.hon hc ⟨ys, ⟨y0, y1, y2, y3, y4, y5, y6, y7⟩, ya, yb⟩).2.drew
  have hq1 : b ∉ [bc] := by simpa using hn8
  have hq2 : bm0 ∉ [bc] := by simpa using hn9
  have hq3 : bx ∉ [bc] := by simpa using hn7
  go_region_held3 (fun w' => w'.cell? ⟨b, 1, none⟩ = some (.slice (some ⟨bc, 0, none⟩) S.hs.length S.hs.length) ∧ w'.cell? ⟨bm0, 1, none⟩ = some (.int .i64 (c : Int)) ∧ w'.cell? ⟨bx, 0, none⟩ = some (.int .i64 ys) ∧ w'.cell? ⟨bx, 1, none⟩ = some (.int .u64 y0) ∧ w'.cell? ⟨bx, 2, none⟩ = some (.int .u64 y1) ∧ w'.cell? ⟨bx, 3, none⟩ = some (.int .u64 y2) ∧ w'.cell? ⟨bx, 4, none⟩ = some (.int .u64 y3) ∧ w'.cell? ⟨bx, 5, none⟩ = some (.int .u64 y4) ∧ w'.cell? ⟨bx, 6, none⟩ = some (.int .u64 y5) ∧ w'.cell? ⟨bx, 7, none⟩ = some (.int .u64 y6) ∧ w'.cell? ⟨bx, 8, none⟩ = some (.int .u64 y7) ∧ w'.cell? ⟨bx, 9, none⟩ = some (.bool ya) ∧ w'.cell? ⟨bx, 10, none⟩ = some (.bool yb)) (first | with_reducible exact ⟨b1, m1, x_0, x_1, x_2, x_3, x_4, x_5, x_6, x_7, x_8, x_9, x_10⟩ | with_reducible exact ⟨(hT1.cell blt hq1 _).trans b1, (hT1.cell mlt hq2 _).trans m1, (hT1.cell xlt hq3 _).trans x_0, (hT1.cell xlt hq3 _).trans x_1, (hT1.cell xlt hq3 _).trans x_2, (hT1.cell xlt hq3 _).trans x_3, (hT1.cell xlt hq3 _).trans x_4, (hT1.cell xlt hq3 _).trans x_5, (hT1.cell xlt hq3 _).trans x_6, (hT1.cell xlt hq3 _).trans x_7, (hT1.cell xlt hq3 _).trans x_8, (hT1.cell xlt hq3 _).trans x_9, (hT1.cell xlt hq3 _).trans x_10⟩ | go_keep) (fail)
  have hT0 := hon_set11 HSv.out.hon hc ⟨ys, ⟨y0, y1, y2, y3, y4, y5, y6, y7⟩, ya, yb⟩
  have hT := And.intro hT0.1.drew hT0.2.drew
  clear hT0
  have hBk4 := hT.2.blk HBk2.out (by simpa using HAk.out.nc)
  have hS4 := HSv.out.honTurn (hs' := S.hs.set c ⟨ys, ⟨y0, y1, y2, y3, y4, y5, y6, y7⟩, ya, yb⟩) (by rw [List.length_set]) hT.2 hT.1
  have HSv4 := Lib.hid hS4.1; have HBl4 := Lib.hid (HBl.out.trans hS4.2)
  have HBk4 := Lib.hid hBk4
  clear hT hT1 hq1 hq2 hq3 hS4 HSv HBl m1 b1 xlt blt clt mlt hBk4 x_0 h0 fc0 x_1 h1 fc1 x_2 h2 fc2 x_3 h3 fc3 x_4 h4 fc4 x_5 h5 fc5 x_6 h6 fc6 x_7 h7 fc7 x_8 h8 fc8 x_9 h9 fc9 x_10 h10 fc10
  generalize World.drew _ = w4 at *
  have k_0 : w4.cell? ⟨bk, 0, none⟩ = some (.int .i64 6) := HBk4.out.cell 0
  have k_1 : w4.cell? ⟨bk, 1, none⟩ = some (.int .i64 (c : Int)) := HBk4.out.cell 1
  have k_2 : w4.cell? ⟨bk, 2, none⟩ = some (.int .i64 l) := HBk4.out.cell 2
  have k_3 : w4.cell? ⟨bk, 3, none⟩ = some (.int .u64 0) := HBk4.out.cell 3
  have k_4 : w4.cell? ⟨bk, 4, none⟩ = some (.int .u64 0) := HBk4.out.cell 4
  have k_5 : w4.cell? ⟨bk, 5, none⟩ = some (.int .u64 0) := HBk4.out.cell 5
  have k_6 : w4.cell? ⟨bk, 6, none⟩ = some (.int .u64 0) := HBk4.out.cell 6
  have k_7 : w4.cell? ⟨bk, 7, none⟩ = some (.int .u64 0) := HBk4.out.cell 7
  have k_8 : w4.cell? ⟨bk, 8, none⟩ = some (.int .u64 0) := HBk4.out.cell 8
  have k_9 : w4.cell? ⟨bk, 9, none⟩ = some (.int .u64 0) := HBk4.out.cell 9
  have k_10 : w4.cell? ⟨bk, 10, none⟩ = some (.int .u64 0) := HBk4.out.cell 10
  have klt : bk < w4.heap.size := HBk4.out.lt; have blt : b < w4.heap.size := HSv4.out.blk.lt
  have b2 : w4.cell? ⟨b, 2, none⟩ = some vi := HSv4.out.blk.cell 2; have f2 : w4.frozen? ⟨b, 2, none⟩ = false := HSv4.out.blk.free 2
  have HNr := Lib.hid HSv4.out.notRow.1.1
  have HOw : Hid (w4.drew.ownsRow N0 33 11 vi S.inn.length (S.inn.flatMap encM)) := Lib.hid HSv4.out.inn
  go_upto_region 30 with fail
  go_region_law (refine step_append_row (by rfl) (.tmp 128) (.tmp 130) (by rfl) j0 hj hz0 hz1 hz2 (by rfl) (HOw.out.alloc _) ⟨w4.heap.size, 0, none⟩ 1 (by rfl) ⟨6, (c : Int), l, ⟨0, 0, 0, 0, 0, 0, 0, 0⟩⟩ (cells_new w4.drew [.int .i64 6, .int .i64 (c : Int), .int .i64 l, .int .u64 0, .int .u64 0, .int .u64 0, .int .u64 0, .int .u64 0, .int .u64 0, .int .u64 0, .int .u64 0] _) (by have := HLn.out; omega) (Nat.le_trans HSv4.out.lo.2.2 (by simp)) ?_; intro v5 w5 ho5 hg5 hb5; have hk5 := (((Chg.refl (rowB vi) w4).drew).alloc (.cells #[.int .i64 6, .int .i64 (c : Int), .int .i64 l, .int .u64 0, .int .u64 0, .int .u64 0, .int .u64 0, .int .u64 0, .int .u64 0, .int .u64 0, .int .u64 0] 33)).trans (Chg.of_grown hg5); have hr5 := rowB_grew hb5 (n := w4.heap.size) (by simp); have HO5 := Lib.hid ho5; have HK5 := Lib.hid hk5; have HR5 := Lib.hid hr5; obtain ⟨A5, c5, hv5, _, _, _, _⟩ := ownsRow_cell ho5; clear ho5 hg5 hb5 hk5 hr5; subst hv5; have q2 : w5.cell? ⟨b, 2, none⟩ = some vi := (HK5.out.cell blt HNr.out 2).trans b2; have g2 : w5.frozen? ⟨b, 2, none⟩ = false := (HK5.out.blk HSv4.out.blk HNr.out).free 2)
  all_goals (have hG := HSv4.out.innNew (inn' := S.inn ++ [⟨6, (c : Int), l, {}⟩]) HK5.out (by rw [List.length_append, List.flatMap_append]; exact HO5.out) HR5.out; have HZ := Lib.hid (And.intro hG.1 (HBl4.out.trans hG.2)); clear hG; refine bodyPost_ret (results_none rfl _ _ _) rfl ?_; exact ⟨rfl, ⟨_, _, _, HZ.out.1⟩, HZ.out.2⟩)


set_option maxHeartbeats 8000000 in
theorem wans_14 {N0 : Nat} {w : World} {b d bm bw bl bc : Nat} {vi vo : Value} {es : List EntV} {e0 : EntV} {S : SvS} {made got : Int} (c : Nat) (hc : c < S.hs.length) (l x0 x1 x2 x3 x4 x5 x6 x7 ys y0 y1 y2 y3 y4 y5 y6 y7 : Int) (ya yb : Bool) (hy : S.hs[c] = ⟨ys, ⟨y0, y1, y2, y3, y4, y5, y6, y7⟩, ya, yb⟩) (hlen : S.inn.length ≤ 1000) (hcl : S.hs.length ≤ 4) (hx : ya = true) (H : SvW N0 w b d bm bw bl bc vi vo es e0 S made got) :
    Calls Try.prog 35 #[.pointer (some ⟨b, 0, none⟩), .agg #[.int .i64 14, .int .i64 (c : Int), .int .i64 l, .int .u64 S.val, .int .u64 x1, .int .u64 x2, .int .u64 x3, .int .u64 x4, .int .u64 x5, .int .u64 x6, .int .u64 x7]] w (SvPost N0 w b d bm bw bl bc e0 { S with hs := S.hs.set c ⟨1, ⟨S.val, x1, x2, x3, x4, x5, x6, x7⟩, false, yb⟩, inn := S.inn ++ [⟨7, (c : Int), l, {}⟩] } made (wrap64 (got + 1))) := by
  obtain ⟨j0, hj, hz0, hz1, hz2⟩ := info_parts infoMsg
  have hal : Chg [] w (w.alloc (.cells #[.int .i64 14, .int .i64 (c : Int), .int .i64 l, .int .u64 S.val, .int .u64 x1, .int .u64 x2, .int .u64 x3, .int .u64 x4, .int .u64 x5, .int .u64 x6, .int .u64 x7] 33)) := (Chg.refl [] w).alloc _
  have HSv := Lib.hid (H.look hal)
  have HB := Lib.hid (Blk.new w [.int .i64 14, .int .i64 (c : Int), .int .i64 l, .int .u64 S.val, .int .u64 x1, .int .u64 x2, .int .u64 x3, .int .u64 x4, .int .u64 x5, .int .u64 x6, .int .u64 x7] 33)
  have HBl := Lib.hid (hal.to_below (B := N0) (fun x hx => absurd hx (by simp)) H.lo.2.2)
  have HBn := Lib.hid (H.fresh (x := w.heap.size) (Nat.le_refl _))
  have HY := Lib.hid hy; have HLn := Lib.hid hlen; have HX := Lib.hid hx
  subst hx
  have hnl : (S.hs.length : Int) ≤ 4 := by omega
  have hci : (c : Int) < S.hs.length := by omega
  have hc0 : (0 : Int) ≤ c := Int.natCast_nonneg _
  clear hal H hy hlen
  go_enter Try.func35, Try.ntmps35
  go_upto_region 1 with fail
  generalize World.alloc _ _ = wa at *
  obtain ⟨bm0, hb⟩ : ∃ b, w.heap.size = b := ⟨_, rfl⟩
  rw [hb] at HB HBn ⊢
  clear hb
  have m0 : wa.cell? ⟨bm0, 0, none⟩ = some (.int .i64 14) := HB.out.cell 0
  have m1 : wa.cell? ⟨bm0, 1, none⟩ = some (.int .i64 (c : Int)) := HB.out.cell 1
  have m2 : wa.cell? ⟨bm0, 2, none⟩ = some (.int .i64 l) := HB.out.cell 2
  have m3 : wa.cell? ⟨bm0, 3, none⟩ = some (.int .u64 S.val) := HB.out.cell 3
  have m4 : wa.cell? ⟨bm0, 4, none⟩ = some (.int .u64 x1) := HB.out.cell 4
  have m5 : wa.cell? ⟨bm0, 5, none⟩ = some (.int .u64 x2) := HB.out.cell 5
  have m6 : wa.cell? ⟨bm0, 6, none⟩ = some (.int .u64 x3) := HB.out.cell 6
  have m7 : wa.cell? ⟨bm0, 7, none⟩ = some (.int .u64 x4) := HB.out.cell 7
  have m8 : wa.cell? ⟨bm0, 8, none⟩ = some (.int .u64 x5) := HB.out.cell 8
  have m9 : wa.cell? ⟨bm0, 9, none⟩ = some (.int .u64 x6) := HB.out.cell 9
  have m10 : wa.cell? ⟨bm0, 10, none⟩ = some (.int .u64 x7) := HB.out.cell 10
  have mlt : bm0 < wa.heap.size := HB.out.lt
  have b1 : wa.cell? ⟨b, 1, none⟩ = some (.slice (some ⟨bc, 0, none⟩) S.hs.length S.hs.length) := HSv.out.blk.cell 1
  have h0 : wa.cell? ⟨bc, c * 11, none⟩ = some (.int .i64 ys) := by have := HSv.out.hon.cell (c * 11 + 0); rw [flat_get encH_len S.hs c hc 0 (by decide), HY.out] at this; exact this
  have h1 : wa.cell? ⟨bc, c * 11 + 1, none⟩ = some (.int .u64 y0) := by have := HSv.out.hon.cell (c * 11 + 1); rw [flat_get encH_len S.hs c hc 1 (by decide), HY.out] at this; exact this
  have h2 : wa.cell? ⟨bc, c * 11 + 2, none⟩ = some (.int .u64 y1) := by have := HSv.out.hon.cell (c * 11 + 2); rw [flat_get encH_len S.hs c hc 2 (by decide), HY.out] at this; exact this
  have h3 : wa.cell? ⟨bc, c * 11 + 3, none⟩ = some (.int .u64 y2) := by have := HSv.out.hon.cell (c * 11 + 3); rw [flat_get encH_len S.hs c hc 3 (by decide), HY.out] at this; exact this
  have h4 : wa.cell? ⟨bc, c * 11 + 4, none⟩ = some (.int .u64 y3) := by have := HSv.out.hon.cell (c * 11 + 4); rw [flat_get encH_len S.hs c hc 4 (by decide), HY.out] at this; exact this
  have h5 : wa.cell? ⟨bc, c * 11 + 5, none⟩ = some (.int .u64 y4) := by have := HSv.out.hon.cell (c * 11 + 5); rw [flat_get encH_len S.hs c hc 5 (by decide), HY.out] at this; exact this
  have h6 : wa.cell? ⟨bc, c * 11 + 6, none⟩ = some (.int .u64 y5) := by have := HSv.out.hon.cell (c * 11 + 6); rw [flat_get encH_len S.hs c hc 6 (by decide), HY.out] at this; exact this
  have h7 : wa.cell? ⟨bc, c * 11 + 7, none⟩ = some (.int .u64 y6) := by have := HSv.out.hon.cell (c * 11 + 7); rw [flat_get encH_len S.hs c hc 7 (by decide), HY.out] at this; exact this
  have h8 : wa.cell? ⟨bc, c * 11 + 8, none⟩ = some (.int .u64 y7) := by have := HSv.out.hon.cell (c * 11 + 8); rw [flat_get encH_len S.hs c hc 8 (by decide), HY.out] at this; exact this
  have h9 : wa.cell? ⟨bc, c * 11 + 9, none⟩ = some (.bool true) := by have := HSv.out.hon.cell (c * 11 + 9); rw [flat_get encH_len S.hs c hc 9 (by decide), HY.out] at this; exact this
  have h10 : wa.cell? ⟨bc, c * 11 + 10, none⟩ = some (.bool yb) := by have := HSv.out.hon.cell (c * 11 + 10); rw [flat_get encH_len S.hs c hc 10 (by decide), HY.out] at this; exact this
  have blt : b < wa.heap.size := HSv.out.blk.lt
  have clt : bc < wa.heap.size := HSv.out.hon.lt
  go_region_held3 (fun w' => w'.cell? ⟨b, 1, none⟩ = some (.slice (some ⟨bc, 0, none⟩) S.hs.length S.hs.length) ∧ w'.cell? ⟨bm0, 1, none⟩ = some (.int .i64 (c : Int)) ∧ w'.cell? ⟨bc, c * 11, none⟩ = some (.int .i64 ys) ∧ w'.cell? ⟨bc, c * 11 + 1, none⟩ = some (.int .u64 y0) ∧ w'.cell? ⟨bc, c * 11 + 2, none⟩ = some (.int .u64 y1) ∧ w'.cell? ⟨bc, c * 11 + 3, none⟩ = some (.int .u64 y2) ∧ w'.cell? ⟨bc, c * 11 + 4, none⟩ = some (.int .u64 y3) ∧ w'.cell? ⟨bc, c * 11 + 5, none⟩ = some (.int .u64 y4) ∧ w'.cell? ⟨bc, c * 11 + 6, none⟩ = some (.int .u64 y5) ∧ w'.cell? ⟨bc, c * 11 + 7, none⟩ = some (.int .u64 y6) ∧ w'.cell? ⟨bc, c * 11 + 8, none⟩ = some (.int .u64 y7) ∧ w'.cell? ⟨bc, c * 11 + 9, none⟩ = some (.bool true) ∧ w'.cell? ⟨bc, c * 11 + 10, none⟩ = some (.bool yb)) (first | with_reducible exact ⟨b1, m1, h0, h1, h2, h3, h4, h5, h6, h7, h8, h9, h10⟩ | go_keep) (fail)
  clear m0 h0 m1 h1 m2 h2 m3 h3 m4 h4 m5 h5 m6 h6 m7 h7 m8 h8 m9 h9 m10 h10 b1
  have hk1 := ((Chg.refl [] wa).alloc (.cells #[.int .i64 ys, .int .u64 y0, .int .u64 y1, .int .u64 y2, .int .u64 y3, .int .u64 y4, .int .u64 y5, .int .u64 y6, .int .u64 y7, .bool true, .bool yb] 91)).drew
  have HBx := Lib.hid (Blk.drew (Blk.new wa [.int .i64 ys, .int .u64 y0, .int .u64 y1, .int .u64 y2, .int .u64 y3, .int .u64 y4, .int .u64 y5, .int .u64 y6, .int .u64 y7, .bool true, .bool yb] 91))
  have HAx := Lib.hid (HSv.out.fresh (x := wa.heap.size) (Nat.le_refl _))
  have hbx : bm0 < wa.heap.size := mlt
  replace HBl := Lib.hid (HBl.out.trans (hk1.to_below (B := N0) (fun x hx => absurd hx (by simp)) (HSv.out.lo.2.2))); replace HSv := Lib.hid (HSv.out.look hk1); replace HB := Lib.hid (hk1.blk HB.out (by simp))
  clear hk1 mlt blt clt
  generalize World.drew _ = w1 at *
  obtain ⟨bx, hbxx⟩ : ∃ b, wa.heap.size = b := ⟨_, rfl⟩
  rw [hbxx] at HBx HAx hbx ⊢
  clear hbxx
  have xlt : bx < w1.heap.size := HBx.out.lt
  have m0 : w1.cell? ⟨bm0, 0, none⟩ = some (.int .i64 14) := HB.out.cell 0
  have m1 : w1.cell? ⟨bm0, 1, none⟩ = some (.int .i64 (c : Int)) := HB.out.cell 1
  have m2 : w1.cell? ⟨bm0, 2, none⟩ = some (.int .i64 l) := HB.out.cell 2
  have m3 : w1.cell? ⟨bm0, 3, none⟩ = some (.int .u64 S.val) := HB.out.cell 3
  have m4 : w1.cell? ⟨bm0, 4, none⟩ = some (.int .u64 x1) := HB.out.cell 4
  have m5 : w1.cell? ⟨bm0, 5, none⟩ = some (.int .u64 x2) := HB.out.cell 5
  have m6 : w1.cell? ⟨bm0, 6, none⟩ = some (.int .u64 x3) := HB.out.cell 6
  have m7 : w1.cell? ⟨bm0, 7, none⟩ = some (.int .u64 x4) := HB.out.cell 7
  have m8 : w1.cell? ⟨bm0, 8, none⟩ = some (.int .u64 x5) := HB.out.cell 8
  have m9 : w1.cell? ⟨bm0, 9, none⟩ = some (.int .u64 x6) := HB.out.cell 9
  have m10 : w1.cell? ⟨bm0, 10, none⟩ = some (.int .u64 x7) := HB.out.cell 10
  have mlt : bm0 < w1.heap.size := HB.out.lt
  go_upto_region 3 with fail
  have hk2 := (Chg.refl [] w1).alloc (.cells #[.int .i64 0, .int .i64 (c : Int), .int .i64 l, .int .u64 0, .int .u64 0, .int .u64 0, .int .u64 0, .int .u64 0, .int .u64 0, .int .u64 0, .int .u64 0] 33)
  have HBk := Lib.hid (Blk.new w1 [.int .i64 0, .int .i64 (c : Int), .int .i64 l, .int .u64 0, .int .u64 0, .int .u64 0, .int .u64 0, .int .u64 0, .int .u64 0, .int .u64 0, .int .u64 0] 33)
  have HAk := Lib.hid (HSv.out.fresh (x := w1.heap.size) (Nat.le_refl _))
  have hbk1 : bm0 < w1.heap.size := mlt; have hbk2 : bx < w1.heap.size := xlt
  replace HBl := Lib.hid (HBl.out.trans (hk2.to_below (B := N0) (fun x hx => absurd hx (by simp)) (HSv.out.lo.2.2))); replace HSv := Lib.hid (HSv.out.look hk2); replace HB := Lib.hid (hk2.blk HB.out (by simp)); replace HBx := Lib.hid (hk2.blk HBx.out (by simp))
  clear hk2 mlt xlt m0 m1 m2 m3 m4 m5 m6 m7 m8 m9 m10
  generalize World.alloc _ _ = w2 at *
  obtain ⟨bk, hbkk⟩ : ∃ b, w1.heap.size = b := ⟨_, rfl⟩
  rw [hbkk] at HBk HAk hbk1 hbk2 ⊢
  clear hbkk
  have hn1 : bm0 ≠ bx := by omega
  have hn2 : bm0 ≠ bk := by omega
  have hn3 : bx ≠ bk := by omega
  have hn4 : bm0 ≠ b := HBn.out.nb; have hn5 : bx ≠ b := HAx.out.nb; have hn6 : bk ≠ b := HAk.out.nb
  have m0 : w2.cell? ⟨bm0, 0, none⟩ = some (.int .i64 14) := HB.out.cell 0
  have m1 : w2.cell? ⟨bm0, 1, none⟩ = some (.int .i64 (c : Int)) := HB.out.cell 1
  have m2 : w2.cell? ⟨bm0, 2, none⟩ = some (.int .i64 l) := HB.out.cell 2
  have m3 : w2.cell? ⟨bm0, 3, none⟩ = some (.int .u64 S.val) := HB.out.cell 3
  have m4 : w2.cell? ⟨bm0, 4, none⟩ = some (.int .u64 x1) := HB.out.cell 4
  have m5 : w2.cell? ⟨bm0, 5, none⟩ = some (.int .u64 x2) := HB.out.cell 5
  have m6 : w2.cell? ⟨bm0, 6, none⟩ = some (.int .u64 x3) := HB.out.cell 6
  have m7 : w2.cell? ⟨bm0, 7, none⟩ = some (.int .u64 x4) := HB.out.cell 7
  have m8 : w2.cell? ⟨bm0, 8, none⟩ = some (.int .u64 x5) := HB.out.cell 8
  have m9 : w2.cell? ⟨bm0, 9, none⟩ = some (.int .u64 x6) := HB.out.cell 9
  have m10 : w2.cell? ⟨bm0, 10, none⟩ = some (.int .u64 x7) := HB.out.cell 10
  have mlt : bm0 < w2.heap.size := HB.out.lt
  have x_0 : w2.cell? ⟨bx, 0, none⟩ = some (.int .i64 ys) := HBx.out.cell 0
  have g_0 : w2.frozen? ⟨bx, 0, none⟩ = false := HBx.out.free 0
  have x_1 : w2.cell? ⟨bx, 1, none⟩ = some (.int .u64 y0) := HBx.out.cell 1
  have g_1 : w2.frozen? ⟨bx, 1, none⟩ = false := HBx.out.free 1
  have x_2 : w2.cell? ⟨bx, 2, none⟩ = some (.int .u64 y1) := HBx.out.cell 2
  have g_2 : w2.frozen? ⟨bx, 2, none⟩ = false := HBx.out.free 2
  have x_3 : w2.cell? ⟨bx, 3, none⟩ = some (.int .u64 y2) := HBx.out.cell 3
  have g_3 : w2.frozen? ⟨bx, 3, none⟩ = false := HBx.out.free 3
  have x_4 : w2.cell? ⟨bx, 4, none⟩ = some (.int .u64 y3) := HBx.out.cell 4
  have g_4 : w2.frozen? ⟨bx, 4, none⟩ = false := HBx.out.free 4
  have x_5 : w2.cell? ⟨bx, 5, none⟩ = some (.int .u64 y4) := HBx.out.cell 5
  have g_5 : w2.frozen? ⟨bx, 5, none⟩ = false := HBx.out.free 5
  have x_6 : w2.cell? ⟨bx, 6, none⟩ = some (.int .u64 y5) := HBx.out.cell 6
  have g_6 : w2.frozen? ⟨bx, 6, none⟩ = false := HBx.out.free 6
  have x_7 : w2.cell? ⟨bx, 7, none⟩ = some (.int .u64 y6) := HBx.out.cell 7
  have g_7 : w2.frozen? ⟨bx, 7, none⟩ = false := HBx.out.free 7
  have x_8 : w2.cell? ⟨bx, 8, none⟩ = some (.int .u64 y7) := HBx.out.cell 8
  have g_8 : w2.frozen? ⟨bx, 8, none⟩ = false := HBx.out.free 8
  have x_9 : w2.cell? ⟨bx, 9, none⟩ = some (.bool true) := HBx.out.cell 9
  have g_9 : w2.frozen? ⟨bx, 9, none⟩ = false := HBx.out.free 9
  have x_10 : w2.cell? ⟨bx, 10, none⟩ = some (.bool yb) := HBx.out.cell 10
  have g_10 : w2.frozen? ⟨bx, 10, none⟩ = false := HBx.out.free 10
  have k_0 : w2.cell? ⟨bk, 0, none⟩ = some (.int .i64 0) := HBk.out.cell 0
  have l_0 : w2.frozen? ⟨bk, 0, none⟩ = false := HBk.out.free 0
  have k_1 : w2.cell? ⟨bk, 1, none⟩ = some (.int .i64 (c : Int)) := HBk.out.cell 1
  have l_1 : w2.frozen? ⟨bk, 1, none⟩ = false := HBk.out.free 1
  have k_2 : w2.cell? ⟨bk, 2, none⟩ = some (.int .i64 l) := HBk.out.cell 2
  have l_2 : w2.frozen? ⟨bk, 2, none⟩ = false := HBk.out.free 2
  have k_3 : w2.cell? ⟨bk, 3, none⟩ = some (.int .u64 0) := HBk.out.cell 3
  have l_3 : w2.frozen? ⟨bk, 3, none⟩ = false := HBk.out.free 3
  have k_4 : w2.cell? ⟨bk, 4, none⟩ = some (.int .u64 0) := HBk.out.cell 4
  have l_4 : w2.frozen? ⟨bk, 4, none⟩ = false := HBk.out.free 4
  have k_5 : w2.cell? ⟨bk, 5, none⟩ = some (.int .u64 0) := HBk.out.cell 5
  have l_5 : w2.frozen? ⟨bk, 5, none⟩ = false := HBk.out.free 5
  have k_6 : w2.cell? ⟨bk, 6, none⟩ = some (.int .u64 0) := HBk.out.cell 6
  have l_6 : w2.frozen? ⟨bk, 6, none⟩ = false := HBk.out.free 6
  have k_7 : w2.cell? ⟨bk, 7, none⟩ = some (.int .u64 0) := HBk.out.cell 7
  have l_7 : w2.frozen? ⟨bk, 7, none⟩ = false := HBk.out.free 7
  have k_8 : w2.cell? ⟨bk, 8, none⟩ = some (.int .u64 0) := HBk.out.cell 8
  have l_8 : w2.frozen? ⟨bk, 8, none⟩ = false := HBk.out.free 8
  have k_9 : w2.cell? ⟨bk, 9, none⟩ = some (.int .u64 0) := HBk.out.cell 9
  have l_9 : w2.frozen? ⟨bk, 9, none⟩ = false := HBk.out.free 9
  have k_10 : w2.cell? ⟨bk, 10, none⟩ = some (.int .u64 0) := HBk.out.cell 10
  have l_10 : w2.frozen? ⟨bk, 10, none⟩ = false := HBk.out.free 10
  have xlt : bx < w2.heap.size := HBx.out.lt
  have klt : bk < w2.heap.size := HBk.out.lt
  have blt : b < w2.heap.size := HSv.out.blk.lt
  have b1 : w2.cell? ⟨b, 1, none⟩ = some (.slice (some ⟨bc, 0, none⟩) S.hs.length S.hs.length) := HSv.out.blk.cell 1
  have f1 : w2.frozen? ⟨b, 1, none⟩ = false := HSv.out.blk.free 1
  have b2 : w2.cell? ⟨b, 2, none⟩ = some (vi) := HSv.out.blk.cell 2
  have f2 : w2.frozen? ⟨b, 2, none⟩ = false := HSv.out.blk.free 2
  have b5 : w2.cell? ⟨b, 5, none⟩ = some (.int .i64 got) := HSv.out.blk.cell 5
  have f5 : w2.frozen? ⟨b, 5, none⟩ = false := HSv.out.blk.free 5
  have b6 : w2.cell? ⟨b, 6, none⟩ = some (.int .u64 S.val) := HSv.out.blk.cell 6
  have f6 : w2.frozen? ⟨b, 6, none⟩ = false := HSv.out.blk.free 6
  have b7 : w2.cell? ⟨b, 7, none⟩ = some (.bool true) := HSv.out.blk.cell 7
  have f7 : w2.frozen? ⟨b, 7, none⟩ = false := HSv.out.blk.free 7
  go_upto_region 19 with fail
  have t7 : (w2.setCell ⟨b, 7, none⟩ (.bool true)).drew.cell? ⟨b, 7, none⟩ = some (.bool true) := (HSv.out.blk.set 7 (.bool true)).drew.cell 7
  have t6 : (w2.setCell ⟨b, 7, none⟩ (.bool true)).drew.cell? ⟨b, 6, none⟩ = some (.int .u64 S.val) := (HSv.out.blk.set 7 (.bool true)).drew.cell 6
  have t9 : (w2.setCell ⟨b, 7, none⟩ (.bool true)).drew.cell? ⟨bx, 9, none⟩ = some (.bool true) := (HBx.out.other (a := ⟨b, 7, none⟩) (Ne.symm hn5) (.bool true)).drew.cell 9
  have t3 : (w2.setCell ⟨b, 7, none⟩ (.bool true)).drew.cell? ⟨bm0, 3, none⟩ = some (.int .u64 S.val) := (HB.out.other (a := ⟨b, 7, none⟩) (Ne.symm hn4) (.bool true)).drew.cell 3
  go_region_held3 (fun w' => w'.cell? ⟨b, 7, none⟩ = some (.bool true) ∧ w'.cell? ⟨b, 6, none⟩ = some (.int .u64 S.val) ∧ w'.cell? ⟨bx, 9, none⟩ = some (.bool true) ∧ w'.cell? ⟨bm0, 3, none⟩ = some (.int .u64 S.val)) (first | with_reducible exact ⟨b7, b6, x_9, m3⟩ | with_reducible exact ⟨t7, t6, t9, t3⟩ | go_keep) (fail)
  clear t7 t6 t9 t3
  go_upto_region 21 with fail
  have hF := HSv.out.field 7 (.bool true) S.val made got rfl
  replace HBl := Lib.hid (HBl.out.trans hF.2); replace HSv := Lib.hid hF.1; clear hF
  replace HB := Lib.hid (HB.out.other (a := ⟨b, 7, none⟩) (Ne.symm hn4) (.bool true))
  replace HBx := Lib.hid (HBx.out.other (a := ⟨b, 7, none⟩) (Ne.symm hn5) (.bool true))
  replace HBk := Lib.hid (HBk.out.other (a := ⟨b, 7, none⟩) (Ne.symm hn6) (.bool true))
  have hF := HSv.out.field 5 (.int .i64 (wrap64 (got + 1))) S.val made (wrap64 (got + 1)) rfl
  replace HBl := Lib.hid (HBl.out.trans hF.2); replace HSv := Lib.hid hF.1; clear hF
  replace HB := Lib.hid (HB.out.other (a := ⟨b, 5, none⟩) (Ne.symm hn4) (.int .i64 (wrap64 (got + 1))))
  replace HBx := Lib.hid (HBx.out.other (a := ⟨b, 5, none⟩) (Ne.symm hn5) (.int .i64 (wrap64 (got + 1))))
  replace HBk := Lib.hid (HBk.out.other (a := ⟨b, 5, none⟩) (Ne.symm hn6) (.int .i64 (wrap64 (got + 1))))
  replace HBl := Lib.hid (HBl.out.trans (((Chg.refl [] _).drew).to_below (B := N0) (fun x hx => absurd hx (by simp)) HSv.out.lo.2.2)); replace HSv := Lib.hid (HSv.out.look ((Chg.refl [] _).drew)); replace HB := Lib.hid HB.out.drew; replace HBx := Lib.hid HBx.out.drew; replace HBk := Lib.hid HBk.out.drew
  clear mlt xlt klt blt m0 m1 m2 m3 m4 m5 m6 m7 m8 m9 m10 x_0 g_0 k_0 l_0 x_1 g_1 k_1 l_1 x_2 g_2 k_2 l_2 x_3 g_3 k_3 l_3 x_4 g_4 k_4 l_4 x_5 g_5 k_5 l_5 x_6 g_6 k_6 l_6 x_7 g_7 k_7 l_7 x_8 g_8 k_8 l_8 x_9 g_9 k_9 l_9 x_10 g_10 k_10 l_10 b1 f1 b2 f2 b5 f5 b6 f6 b7 f7
  generalize ((w2.setCell ⟨b, 7, none⟩ (.bool true)).setCell ⟨b, 5, none⟩ (.int .i64 (wrap64 (got + 1)))).drew = w2b at *
  rename_i hHeld K1 a1
  clear hHeld
  have m0 : w2b.cell? ⟨bm0, 0, none⟩ = some (.int .i64 14) := HB.out.cell 0
  have m1 : w2b.cell? ⟨bm0, 1, none⟩ = some (.int .i64 (c : Int)) := HB.out.cell 1
  have m2 : w2b.cell? ⟨bm0, 2, none⟩ = some (.int .i64 l) := HB.out.cell 2
  have m3 : w2b.cell? ⟨bm0, 3, none⟩ = some (.int .u64 S.val) := HB.out.cell 3
  have m4 : w2b.cell? ⟨bm0, 4, none⟩ = some (.int .u64 x1) := HB.out.cell 4
  have m5 : w2b.cell? ⟨bm0, 5, none⟩ = some (.int .u64 x2) := HB.out.cell 5
  have m6 : w2b.cell? ⟨bm0, 6, none⟩ = some (.int .u64 x3) := HB.out.cell 6
  have m7 : w2b.cell? ⟨bm0, 7, none⟩ = some (.int .u64 x4) := HB.out.cell 7
  have m8 : w2b.cell? ⟨bm0, 8, none⟩ = some (.int .u64 x5) := HB.out.cell 8
  have m9 : w2b.cell? ⟨bm0, 9, none⟩ = some (.int .u64 x6) := HB.out.cell 9
  have m10 : w2b.cell? ⟨bm0, 10, none⟩ = some (.int .u64 x7) := HB.out.cell 10
  have mlt : bm0 < w2b.heap.size := HB.out.lt
  have x_0 : w2b.cell? ⟨bx, 0, none⟩ = some (.int .i64 ys) := HBx.out.cell 0
  have g_0 : w2b.frozen? ⟨bx, 0, none⟩ = false := HBx.out.free 0
  have x_1 : w2b.cell? ⟨bx, 1, none⟩ = some (.int .u64 y0) := HBx.out.cell 1
  have g_1 : w2b.frozen? ⟨bx, 1, none⟩ = false := HBx.out.free 1
  have x_2 : w2b.cell? ⟨bx, 2, none⟩ = some (.int .u64 y1) := HBx.out.cell 2
  have g_2 : w2b.frozen? ⟨bx, 2, none⟩ = false := HBx.out.free 2
  have x_3 : w2b.cell? ⟨bx, 3, none⟩ = some (.int .u64 y2) := HBx.out.cell 3
  have g_3 : w2b.frozen? ⟨bx, 3, none⟩ = false := HBx.out.free 3
  have x_4 : w2b.cell? ⟨bx, 4, none⟩ = some (.int .u64 y3) := HBx.out.cell 4
  have g_4 : w2b.frozen? ⟨bx, 4, none⟩ = false := HBx.out.free 4
  have x_5 : w2b.cell? ⟨bx, 5, none⟩ = some (.int .u64 y4) := HBx.out.cell 5
  have g_5 : w2b.frozen? ⟨bx, 5, none⟩ = false := HBx.out.free 5
  have x_6 : w2b.cell? ⟨bx, 6, none⟩ = some (.int .u64 y5) := HBx.out.cell 6
  have g_6 : w2b.frozen? ⟨bx, 6, none⟩ = false := HBx.out.free 6
  have x_7 : w2b.cell? ⟨bx, 7, none⟩ = some (.int .u64 y6) := HBx.out.cell 7
  have g_7 : w2b.frozen? ⟨bx, 7, none⟩ = false := HBx.out.free 7
  have x_8 : w2b.cell? ⟨bx, 8, none⟩ = some (.int .u64 y7) := HBx.out.cell 8
  have g_8 : w2b.frozen? ⟨bx, 8, none⟩ = false := HBx.out.free 8
  have x_9 : w2b.cell? ⟨bx, 9, none⟩ = some (.bool true) := HBx.out.cell 9
  have g_9 : w2b.frozen? ⟨bx, 9, none⟩ = false := HBx.out.free 9
  have x_10 : w2b.cell? ⟨bx, 10, none⟩ = some (.bool yb) := HBx.out.cell 10
  have g_10 : w2b.frozen? ⟨bx, 10, none⟩ = false := HBx.out.free 10
  have k_0 : w2b.cell? ⟨bk, 0, none⟩ = some (.int .i64 0) := HBk.out.cell 0
  have l_0 : w2b.frozen? ⟨bk, 0, none⟩ = false := HBk.out.free 0
  have k_1 : w2b.cell? ⟨bk, 1, none⟩ = some (.int .i64 (c : Int)) := HBk.out.cell 1
  have l_1 : w2b.frozen? ⟨bk, 1, none⟩ = false := HBk.out.free 1
  have k_2 : w2b.cell? ⟨bk, 2, none⟩ = some (.int .i64 l) := HBk.out.cell 2
  have l_2 : w2b.frozen? ⟨bk, 2, none⟩ = false := HBk.out.free 2
  have k_3 : w2b.cell? ⟨bk, 3, none⟩ = some (.int .u64 0) := HBk.out.cell 3
  have l_3 : w2b.frozen? ⟨bk, 3, none⟩ = false := HBk.out.free 3
  have k_4 : w2b.cell? ⟨bk, 4, none⟩ = some (.int .u64 0) := HBk.out.cell 4
  have l_4 : w2b.frozen? ⟨bk, 4, none⟩ = false := HBk.out.free 4
  have k_5 : w2b.cell? ⟨bk, 5, none⟩ = some (.int .u64 0) := HBk.out.cell 5
  have l_5 : w2b.frozen? ⟨bk, 5, none⟩ = false := HBk.out.free 5
  have k_6 : w2b.cell? ⟨bk, 6, none⟩ = some (.int .u64 0) := HBk.out.cell 6
  have l_6 : w2b.frozen? ⟨bk, 6, none⟩ = false := HBk.out.free 6
  have k_7 : w2b.cell? ⟨bk, 7, none⟩ = some (.int .u64 0) := HBk.out.cell 7
  have l_7 : w2b.frozen? ⟨bk, 7, none⟩ = false := HBk.out.free 7
  have k_8 : w2b.cell? ⟨bk, 8, none⟩ = some (.int .u64 0) := HBk.out.cell 8
  have l_8 : w2b.frozen? ⟨bk, 8, none⟩ = false := HBk.out.free 8
  have k_9 : w2b.cell? ⟨bk, 9, none⟩ = some (.int .u64 0) := HBk.out.cell 9
  have l_9 : w2b.frozen? ⟨bk, 9, none⟩ = false := HBk.out.free 9
  have k_10 : w2b.cell? ⟨bk, 10, none⟩ = some (.int .u64 0) := HBk.out.cell 10
  have l_10 : w2b.frozen? ⟨bk, 10, none⟩ = false := HBk.out.free 10
  have xlt : bx < w2b.heap.size := HBx.out.lt
  have klt : bk < w2b.heap.size := HBk.out.lt
  have blt : b < w2b.heap.size := HSv.out.blk.lt
  have b1 : w2b.cell? ⟨b, 1, none⟩ = some (.slice (some ⟨bc, 0, none⟩) S.hs.length S.hs.length) := HSv.out.blk.cell 1
  have f1 : w2b.frozen? ⟨b, 1, none⟩ = false := HSv.out.blk.free 1
  have b2 : w2b.cell? ⟨b, 2, none⟩ = some (vi) := HSv.out.blk.cell 2
  have f2 : w2b.frozen? ⟨b, 2, none⟩ = false := HSv.out.blk.free 2
  have b5 : w2b.cell? ⟨b, 5, none⟩ = some (.int .i64 (wrap64 (got + 1))) := HSv.out.blk.cell 5
  have f5 : w2b.frozen? ⟨b, 5, none⟩ = false := HSv.out.blk.free 5
  have b6 : w2b.cell? ⟨b, 6, none⟩ = some (.int .u64 S.val) := HSv.out.blk.cell 6
  have f6 : w2b.frozen? ⟨b, 6, none⟩ = false := HSv.out.blk.free 6
  have b7 : w2b.cell? ⟨b, 7, none⟩ = some (.bool true) := HSv.out.blk.cell 7
  have f7 : w2b.frozen? ⟨b, 7, none⟩ = false := HSv.out.blk.free 7
  go_upto_region 29 with fail
  have hF := SvW.aside HSv.out ((Chg.refl [bx] _).setCell (p := ⟨bx, 9, none⟩) (fun _ => List.mem_singleton.2 rfl) (.bool false)) (fun x hx => by rw [List.mem_singleton.1 hx]; exact HAx.out)
  replace HBl := Lib.hid (HBl.out.trans hF.2); replace HSv := Lib.hid hF.1; clear hF
  replace HBx := Lib.hid (HBx.out.set 9 (.bool false))
  replace HBk := Lib.hid (HBk.out.other (a := ⟨bx, 9, none⟩) (hn3) (.bool false))
  replace HB := Lib.hid (HB.out.other (a := ⟨bx, 9, none⟩) (Ne.symm hn1) (.bool false))
  have hF := SvW.aside HSv.out ((Chg.refl [bx] _).setCell (p := ⟨bx, 1, none⟩) (fun _ => List.mem_singleton.2 rfl) (.int .u64 S.val)) (fun x hx => by rw [List.mem_singleton.1 hx]; exact HAx.out)
  replace HBl := Lib.hid (HBl.out.trans hF.2); replace HSv := Lib.hid hF.1; clear hF
  replace HBx := Lib.hid (HBx.out.set 1 (.int .u64 S.val))
  replace HBk := Lib.hid (HBk.out.other (a := ⟨bx, 1, none⟩) (hn3) (.int .u64 S.val))
  replace HB := Lib.hid (HB.out.other (a := ⟨bx, 1, none⟩) (Ne.symm hn1) (.int .u64 S.val))
  have hF := SvW.aside HSv.out ((Chg.refl [bx] _).setCell (p := ⟨bx, 2, none⟩) (fun _ => List.mem_singleton.2 rfl) (.int .u64 x1)) (fun x hx => by rw [List.mem_singleton.1 hx]; exact HAx.out)
  replace HBl := Lib.hid (HBl.out.trans hF.2); replace HSv := Lib.hid hF.1; clear hF
  replace HBx := Lib.hid (HBx.out.set 2 (.int .u64 x1))
  replace HBk := Lib.hid (HBk.out.other (a := ⟨bx, 2, none⟩) (hn3) (.int .u64 x1))
  replace HB := Lib.hid (HB.out.other (a := ⟨bx, 2, none⟩) (Ne.symm hn1) (.int .u64 x1))
  have hF := SvW.aside HSv.out ((Chg.refl [bx] _).setCell (p := ⟨bx, 3, none⟩) (fun _ => List.mem_singleton.2 rfl) (.int .u64 x2)) (fun x hx => by rw [List.mem_singleton.1 hx]; exact HAx.out)
  replace HBl := Lib.hid (HBl.out.trans hF.2); replace HSv := Lib.hid hF.1; clear hF
  replace HBx := Lib.hid (HBx.out.set 3 (.int .u64 x2))
  replace HBk := Lib.hid (HBk.out.other (a := ⟨bx, 3, none⟩) (hn3) (.int .u64 x2))
  replace HB := Lib.hid (HB.out.other (a := ⟨bx, 3, none⟩) (Ne.symm hn1) (.int .u64 x2))
  have hF := SvW.aside HSv.out ((Chg.refl [bx] _).setCell (p := ⟨bx, 4, none⟩) (fun _ => List.mem_singleton.2 rfl) (.int .u64 x3)) (fun x hx => by rw [List.mem_singleton.1 hx]; exact HAx.out)
  replace HBl := Lib.hid (HBl.out.trans hF.2); replace HSv := Lib.hid hF.1; clear hF
  replace HBx := Lib.hid (HBx.out.set 4 (.int .u64 x3))
  replace HBk := Lib.hid (HBk.out.other (a := ⟨bx, 4, none⟩) (hn3) (.int .u64 x3))
  replace HB := Lib.hid (HB.out.other (a := ⟨bx, 4, none⟩) (Ne.symm hn1) (.int .u64 x3))
  have hF := SvW.aside HSv.out ((Chg.refl [bx] _).setCell (p := ⟨bx, 5, none⟩) (fun _ => List.mem_singleton.2 rfl) (.int .u64 x4)) (fun x hx => by rw [List.mem_singleton.1 hx]; exact HAx.out)
  replace HBl := Lib.hid (HBl.out.trans hF.2); replace HSv := Lib.hid hF.1; clear hF
  replace HBx := Lib.hid (HBx.out.set 5 (.int .u64 x4))
  replace HBk := Lib.hid (HBk.out.other (a := ⟨bx, 5, none⟩) (hn3) (.int .u64 x4))
  replace HB := Lib.hid (HB.out.other (a := ⟨bx, 5, none⟩) (Ne.symm hn1) (.int .u64 x4))
  have hF := SvW.aside HSv.out ((Chg.refl [bx] _).setCell (p := ⟨bx, 6, none⟩) (fun _ => List.mem_singleton.2 rfl) (.int .u64 x5)) (fun x hx => by rw [List.mem_singleton.1 hx]; exact HAx.out)
  replace HBl := Lib.hid (HBl.out.trans hF.2); replace HSv := Lib.hid hF.1; clear hF
  replace HBx := Lib.hid (HBx.out.set 6 (.int .u64 x5))
  replace HBk := Lib.hid (HBk.out.other (a := ⟨bx, 6, none⟩) (hn3) (.int .u64 x5))
  replace HB := Lib.hid (HB.out.other (a := ⟨bx, 6, none⟩) (Ne.symm hn1) (.int .u64 x5))
  have hF := SvW.aside HSv.out ((Chg.refl [bx] _).setCell (p := ⟨bx, 7, none⟩) (fun _ => List.mem_singleton.2 rfl) (.int .u64 x6)) (fun x hx => by rw [List.mem_singleton.1 hx]; exact HAx.out)
  replace HBl := Lib.hid (HBl.out.trans hF.2); replace HSv := Lib.hid hF.1; clear hF
  replace HBx := Lib.hid (HBx.out.set 7 (.int .u64 x6))
  replace HBk := Lib.hid (HBk.out.other (a := ⟨bx, 7, none⟩) (hn3) (.int .u64 x6))
  replace HB := Lib.hid (HB.out.other (a := ⟨bx, 7, none⟩) (Ne.symm hn1) (.int .u64 x6))
  have hF := SvW.aside HSv.out ((Chg.refl [bx] _).setCell (p := ⟨bx, 8, none⟩) (fun _ => List.mem_singleton.2 rfl) (.int .u64 x7)) (fun x hx => by rw [List.mem_singleton.1 hx]; exact HAx.out)
  replace HBl := Lib.hid (HBl.out.trans hF.2); replace HSv := Lib.hid hF.1; clear hF
  replace HBx := Lib.hid (HBx.out.set 8 (.int .u64 x7))
  replace HBk := Lib.hid (HBk.out.other (a := ⟨bx, 8, none⟩) (hn3) (.int .u64 x7))
  replace HB := Lib.hid (HB.out.other (a := ⟨bx, 8, none⟩) (Ne.symm hn1) (.int .u64 x7))
  have hF := SvW.aside HSv.out ((Chg.refl [bx] _).setCell (p := ⟨bx, 0, none⟩) (fun _ => List.mem_singleton.2 rfl) (.int .i64 1)) (fun x hx => by rw [List.mem_singleton.1 hx]; exact HAx.out)
  replace HBl := Lib.hid (HBl.out.trans hF.2); replace HSv := Lib.hid hF.1; clear hF
  replace HBx := Lib.hid (HBx.out.set 0 (.int .i64 1))
  replace HBk := Lib.hid (HBk.out.other (a := ⟨bx, 0, none⟩) (hn3) (.int .i64 1))
  replace HB := Lib.hid (HB.out.other (a := ⟨bx, 0, none⟩) (Ne.symm hn1) (.int .i64 1))
  have hF := SvW.aside HSv.out ((Chg.refl [bk] _).setCell (p := ⟨bk, 0, none⟩) (fun _ => List.mem_singleton.2 rfl) (.int .i64 7)) (fun x hx => by rw [List.mem_singleton.1 hx]; exact HAk.out)
  replace HBl := Lib.hid (HBl.out.trans hF.2); replace HSv := Lib.hid hF.1; clear hF
  replace HBk := Lib.hid (HBk.out.set 0 (.int .i64 7))
  replace HBx := Lib.hid (HBx.out.other (a := ⟨bk, 0, none⟩) (Ne.symm hn3) (.int .i64 7))
  replace HB := Lib.hid (HB.out.other (a := ⟨bk, 0, none⟩) (Ne.symm hn2) (.int .i64 7))
  have HBx2 : Hid (Blk _ bx [.int .i64 1, .int .u64 S.val, .int .u64 x1, .int .u64 x2, .int .u64 x3, .int .u64 x4, .int .u64 x5, .int .u64 x6, .int .u64 x7, .bool false, .bool yb] 91) := HBx
  have HBk2 : Hid (Blk _ bk [.int .i64 7, .int .i64 (c : Int), .int .i64 l, .int .u64 0, .int .u64 0, .int .u64 0, .int .u64 0, .int .u64 0, .int .u64 0, .int .u64 0, .int .u64 0] 33) := HBk
  clear HBx HBk
  clear mlt xlt klt blt m0 m1 m2 m3 m4 m5 m6 m7 m8 m9 m10 x_0 g_0 k_0 l_0 x_1 g_1 k_1 l_1 x_2 g_2 k_2 l_2 x_3 g_3 k_3 l_3 x_4 g_4 k_4 l_4 x_5 g_5 k_5 l_5 x_6 g_6 k_6 l_6 x_7 g_7 k_7 l_7 x_8 g_8 k_8 l_8 x_9 g_9 k_9 l_9 x_10 g_10 k_10 l_10 b1 f1 b2 f2 b5 f5 b6 f6 b7 f7
  generalize World.setCell _ _ _ = w3 at *
  have m1 : w3.cell? ⟨bm0, 1, none⟩ = some (.int .i64 (c : Int)) := HB.out.cell 1
  have b1 : w3.cell? ⟨b, 1, none⟩ = some (.slice (some ⟨bc, 0, none⟩) S.hs.length S.hs.length) := HSv.out.blk.cell 1
  have x_0 : w3.cell? ⟨bx, 0, none⟩ = some (.int .i64 1) := HBx2.out.cell 0
  have x_1 : w3.cell? ⟨bx, 1, none⟩ = some (.int .u64 S.val) := HBx2.out.cell 1
  have x_2 : w3.cell? ⟨bx, 2, none⟩ = some (.int .u64 x1) := HBx2.out.cell 2
  have x_3 : w3.cell? ⟨bx, 3, none⟩ = some (.int .u64 x2) := HBx2.out.cell 3
  have x_4 : w3.cell? ⟨bx, 4, none⟩ = some (.int .u64 x3) := HBx2.out.cell 4
  have x_5 : w3.cell? ⟨bx, 5, none⟩ = some (.int .u64 x4) := HBx2.out.cell 5
  have x_6 : w3.cell? ⟨bx, 6, none⟩ = some (.int .u64 x5) := HBx2.out.cell 6
  have x_7 : w3.cell? ⟨bx, 7, none⟩ = some (.int .u64 x6) := HBx2.out.cell 7
  have x_8 : w3.cell? ⟨bx, 8, none⟩ = some (.int .u64 x7) := HBx2.out.cell 8
  have x_9 : w3.cell? ⟨bx, 9, none⟩ = some (.bool false) := HBx2.out.cell 9
  have x_10 : w3.cell? ⟨bx, 10, none⟩ = some (.bool yb) := HBx2.out.cell 10
  have h0 : w3.cell? ⟨bc, c * 11, none⟩ = some (.int .i64 ys) := by have := HSv.out.hon.cell (c * 11 + 0); rw [flat_get encH_len S.hs c hc 0 (by decide), HY.out] at this; exact this
  have fc0 : w3.frozen? ⟨bc, c * 11, none⟩ = false := HSv.out.hon.free _
  have h1 : w3.cell? ⟨bc, c * 11 + 1, none⟩ = some (.int .u64 y0) := by have := HSv.out.hon.cell (c * 11 + 1); rw [flat_get encH_len S.hs c hc 1 (by decide), HY.out] at this; exact this
  have fc1 : w3.frozen? ⟨bc, c * 11 + 1, none⟩ = false := HSv.out.hon.free _
  have h2 : w3.cell? ⟨bc, c * 11 + 2, none⟩ = some (.int .u64 y1) := by have := HSv.out.hon.cell (c * 11 + 2); rw [flat_get encH_len S.hs c hc 2 (by decide), HY.out] at this; exact this
  have fc2 : w3.frozen? ⟨bc, c * 11 + 2, none⟩ = false := HSv.out.hon.free _
  have h3 : w3.cell? ⟨bc, c * 11 + 3, none⟩ = some (.int .u64 y2) := by have := HSv.out.hon.cell (c * 11 + 3); rw [flat_get encH_len S.hs c hc 3 (by decide), HY.out] at this; exact this
  have fc3 : w3.frozen? ⟨bc, c * 11 + 3, none⟩ = false := HSv.out.hon.free _
  have h4 : w3.cell? ⟨bc, c * 11 + 4, none⟩ = some (.int .u64 y3) := by have := HSv.out.hon.cell (c * 11 + 4); rw [flat_get encH_len S.hs c hc 4 (by decide), HY.out] at this; exact this
  have fc4 : w3.frozen? ⟨bc, c * 11 + 4, none⟩ = false := HSv.out.hon.free _
  have h5 : w3.cell? ⟨bc, c * 11 + 5, none⟩ = some (.int .u64 y4) := by have := HSv.out.hon.cell (c * 11 + 5); rw [flat_get encH_len S.hs c hc 5 (by decide), HY.out] at this; exact this
  have fc5 : w3.frozen? ⟨bc, c * 11 + 5, none⟩ = false := HSv.out.hon.free _
  have h6 : w3.cell? ⟨bc, c * 11 + 6, none⟩ = some (.int .u64 y5) := by have := HSv.out.hon.cell (c * 11 + 6); rw [flat_get encH_len S.hs c hc 6 (by decide), HY.out] at this; exact this
  have fc6 : w3.frozen? ⟨bc, c * 11 + 6, none⟩ = false := HSv.out.hon.free _
  have h7 : w3.cell? ⟨bc, c * 11 + 7, none⟩ = some (.int .u64 y6) := by have := HSv.out.hon.cell (c * 11 + 7); rw [flat_get encH_len S.hs c hc 7 (by decide), HY.out] at this; exact this
  have fc7 : w3.frozen? ⟨bc, c * 11 + 7, none⟩ = false := HSv.out.hon.free _
  have h8 : w3.cell? ⟨bc, c * 11 + 8, none⟩ = some (.int .u64 y7) := by have := HSv.out.hon.cell (c * 11 + 8); rw [flat_get encH_len S.hs c hc 8 (by decide), HY.out] at this; exact this
  have fc8 : w3.frozen? ⟨bc, c * 11 + 8, none⟩ = false := HSv.out.hon.free _
  have h9 : w3.cell? ⟨bc, c * 11 + 9, none⟩ = some (.bool true) := by have := HSv.out.hon.cell (c * 11 + 9); rw [flat_get encH_len S.hs c hc 9 (by decide), HY.out] at this; exact this
  have fc9 : w3.frozen? ⟨bc, c * 11 + 9, none⟩ = false := HSv.out.hon.free _
  have h10 : w3.cell? ⟨bc, c * 11 + 10, none⟩ = some (.bool yb) := by have := HSv.out.hon.cell (c * 11 + 10); rw [flat_get encH_len S.hs c hc 10 (by decide), HY.out] at this; exact this
  have fc10 : w3.frozen? ⟨bc, c * 11 + 10, none⟩ = false := HSv.out.hon.free _
  have xlt : bx < w3.heap.size := HBx2.out.lt; have blt : b < w3.heap.size := HSv.out.blk.lt; have clt : bc < w3.heap.size := HSv.out.hon.lt; have mlt : bm0 < w3.heap.size := HB.out.lt
  have hn7 : bx ≠ bc := HAx.out.nc; have hn8 : b ≠ bc := HSv.out.ne; have hn9 : bm0 ≠ bc := HBn.out.nc
  have hT1 : Chg [bc] w3 (((((((((((w3.setCell ⟨bc, c * 11, none⟩ (.int .i64 1)).setCell ⟨bc, c * 11 + 1, none⟩ (.int .u64 S.val)).setCell ⟨bc, c * 11 + 2, none⟩ (.int .u64 x1)).setCell ⟨bc, c * 11 + 3, none⟩ (.int .u64 x2)).setCell ⟨bc, c * 11 + 4, none⟩ (.int .u64 x3)).setCell ⟨bc, c * 11 + 5, none⟩ (.int .u64 x4)).setCell ⟨bc, c * 11 + 6, none⟩ (.int .u64 x5)).setCell ⟨bc, c * 11 + 7, none⟩ (.int .u64 x6)).setCell ⟨bc, c * 11 + 8, none⟩ (.int .u64 x7)).setCell ⟨bc, c * 11 + 9, none⟩ (.bool false)).setCell ⟨bc, c * 11 + 10, none⟩ (.bool yb)).drew := (hon_set11 HSv.out.hon hc ⟨1, ⟨S.val, x1, x2, x3, x4, x5, x6, x7⟩, false, yb⟩).2.drew
  have hq1 : b ∉ [bc] := by simpa using hn8
  have hq2 : bm0 ∉ [bc] := by simpa using hn9
  have hq3 : bx ∉ [bc] := by simpa using hn7
  go_region_held3 (fun w' => w'.cell? ⟨b, 1, none⟩ = some (.slice (some ⟨bc, 0, none⟩) S.hs.length S.hs.length) ∧ w'.cell? ⟨bm0, 1, none⟩ = some (.int .i64 (c : Int)) ∧ w'.cell? ⟨bx, 0, none⟩ = some (.int .i64 1) ∧ w'.cell? ⟨bx, 1, none⟩ = some (.int .u64 S.val) ∧ w'.cell? ⟨bx, 2, none⟩ = some (.int .u64 x1) ∧ w'.cell? ⟨bx, 3, none⟩ = some (.int .u64 x2) ∧ w'.cell? ⟨bx, 4, none⟩ = some (.int .u64 x3) ∧ w'.cell? ⟨bx, 5, none⟩ = some (.int .u64 x4) ∧ w'.cell? ⟨bx, 6, none⟩ = some (.int .u64 x5) ∧ w'.cell? ⟨bx, 7, none⟩ = some (.int .u64 x6) ∧ w'.cell? ⟨bx, 8, none⟩ = some (.int .u64 x7) ∧ w'.cell? ⟨bx, 9, none⟩ = some (.bool false) ∧ w'.cell? ⟨bx, 10, none⟩ = some (.bool yb)) (first | with_reducible exact ⟨b1, m1, x_0, x_1, x_2, x_3, x_4, x_5, x_6, x_7, x_8, x_9, x_10⟩ | with_reducible exact ⟨(hT1.cell blt hq1 _).trans b1, (hT1.cell mlt hq2 _).trans m1, (hT1.cell xlt hq3 _).trans x_0, (hT1.cell xlt hq3 _).trans x_1, (hT1.cell xlt hq3 _).trans x_2, (hT1.cell xlt hq3 _).trans x_3, (hT1.cell xlt hq3 _).trans x_4, (hT1.cell xlt hq3 _).trans x_5, (hT1.cell xlt hq3 _).trans x_6, (hT1.cell xlt hq3 _).trans x_7, (hT1.cell xlt hq3 _).trans x_8, (hT1.cell xlt hq3 _).trans x_9, (hT1.cell xlt hq3 _).trans x_10⟩ | go_keep) (fail)
  have hT0 := hon_set11 HSv.out.hon hc ⟨1, ⟨S.val, x1, x2, x3, x4, x5, x6, x7⟩, false, yb⟩
  have hT := And.intro hT0.1.drew hT0.2.drew
  clear hT0
  have hBk4 := hT.2.blk HBk2.out (by simpa using HAk.out.nc)
  have hS4 := HSv.out.honTurn (hs' := S.hs.set c ⟨1, ⟨S.val, x1, x2, x3, x4, x5, x6, x7⟩, false, yb⟩) (by rw [List.length_set]) hT.2 hT.1
  have HSv4 := Lib.hid hS4.1; have HBl4 := Lib.hid (HBl.out.trans hS4.2)
  have HBk4 := Lib.hid hBk4
  clear hT hT1 hq1 hq2 hq3 hS4 HSv HBl m1 b1 xlt blt clt mlt hBk4 x_0 h0 fc0 x_1 h1 fc1 x_2 h2 fc2 x_3 h3 fc3 x_4 h4 fc4 x_5 h5 fc5 x_6 h6 fc6 x_7 h7 fc7 x_8 h8 fc8 x_9 h9 fc9 x_10 h10 fc10
  generalize World.drew _ = w4 at *
  have k_0 : w4.cell? ⟨bk, 0, none⟩ = some (.int .i64 7) := HBk4.out.cell 0
  have k_1 : w4.cell? ⟨bk, 1, none⟩ = some (.int .i64 (c : Int)) := HBk4.out.cell 1
  have k_2 : w4.cell? ⟨bk, 2, none⟩ = some (.int .i64 l) := HBk4.out.cell 2
  have k_3 : w4.cell? ⟨bk, 3, none⟩ = some (.int .u64 0) := HBk4.out.cell 3
  have k_4 : w4.cell? ⟨bk, 4, none⟩ = some (.int .u64 0) := HBk4.out.cell 4
  have k_5 : w4.cell? ⟨bk, 5, none⟩ = some (.int .u64 0) := HBk4.out.cell 5
  have k_6 : w4.cell? ⟨bk, 6, none⟩ = some (.int .u64 0) := HBk4.out.cell 6
  have k_7 : w4.cell? ⟨bk, 7, none⟩ = some (.int .u64 0) := HBk4.out.cell 7
  have k_8 : w4.cell? ⟨bk, 8, none⟩ = some (.int .u64 0) := HBk4.out.cell 8
  have k_9 : w4.cell? ⟨bk, 9, none⟩ = some (.int .u64 0) := HBk4.out.cell 9
  have k_10 : w4.cell? ⟨bk, 10, none⟩ = some (.int .u64 0) := HBk4.out.cell 10
  have klt : bk < w4.heap.size := HBk4.out.lt; have blt : b < w4.heap.size := HSv4.out.blk.lt
  have b2 : w4.cell? ⟨b, 2, none⟩ = some vi := HSv4.out.blk.cell 2; have f2 : w4.frozen? ⟨b, 2, none⟩ = false := HSv4.out.blk.free 2
  have HNr := Lib.hid HSv4.out.notRow.1.1
  have HOw : Hid (w4.drew.ownsRow N0 33 11 vi S.inn.length (S.inn.flatMap encM)) := Lib.hid HSv4.out.inn
  go_upto_region 30 with fail
  go_region_law (refine step_append_row (by rfl) (.tmp 128) (.tmp 130) (by rfl) j0 hj hz0 hz1 hz2 (by rfl) (HOw.out.alloc _) ⟨w4.heap.size, 0, none⟩ 1 (by rfl) ⟨7, (c : Int), l, ⟨0, 0, 0, 0, 0, 0, 0, 0⟩⟩ (cells_new w4.drew [.int .i64 7, .int .i64 (c : Int), .int .i64 l, .int .u64 0, .int .u64 0, .int .u64 0, .int .u64 0, .int .u64 0, .int .u64 0, .int .u64 0, .int .u64 0] _) (by have := HLn.out; omega) (Nat.le_trans HSv4.out.lo.2.2 (by simp)) ?_; intro v5 w5 ho5 hg5 hb5; have hk5 := (((Chg.refl (rowB vi) w4).drew).alloc (.cells #[.int .i64 7, .int .i64 (c : Int), .int .i64 l, .int .u64 0, .int .u64 0, .int .u64 0, .int .u64 0, .int .u64 0, .int .u64 0, .int .u64 0, .int .u64 0] 33)).trans (Chg.of_grown hg5); have hr5 := rowB_grew hb5 (n := w4.heap.size) (by simp); have HO5 := Lib.hid ho5; have HK5 := Lib.hid hk5; have HR5 := Lib.hid hr5; obtain ⟨A5, c5, hv5, _, _, _, _⟩ := ownsRow_cell ho5; clear ho5 hg5 hb5 hk5 hr5; subst hv5; have q2 : w5.cell? ⟨b, 2, none⟩ = some vi := (HK5.out.cell blt HNr.out 2).trans b2; have g2 : w5.frozen? ⟨b, 2, none⟩ = false := (HK5.out.blk HSv4.out.blk HNr.out).free 2)
  all_goals (have hG := HSv4.out.innNew (inn' := S.inn ++ [⟨7, (c : Int), l, {}⟩]) HK5.out (by rw [List.length_append, List.flatMap_append]; exact HO5.out) HR5.out; have HZ := Lib.hid (And.intro hG.1 (HBl4.out.trans hG.2)); clear hG; refine bodyPost_ret (results_none rfl _ _ _) rfl ?_; exact ⟨rfl, ⟨_, _, _, HZ.out.1⟩, HZ.out.2⟩)


set_option maxHeartbeats 8000000 in
theorem wans_15 {N0 : Nat} {w : World} {b d bm bw bl bc : Nat} {vi vo : Value} {es : List EntV} {e0 : EntV} {S : SvS} {made got : Int} (c : Nat) (hc : c < S.hs.length) (l x0 x1 x2 x3 x4 x5 x6 x7 ys y0 y1 y2 y3 y4 y5 y6 y7 : Int) (ya yb : Bool) (hy : S.hs[c] = ⟨ys, ⟨y0, y1, y2, y3, y4, y5, y6, y7⟩, ya, yb⟩) (hlen : S.inn.length ≤ 1000) (hcl : S.hs.length ≤ 4) (hx : ya = true) (H : SvW N0 w b d bm bw bl bc vi vo es e0 S made got) :
    Calls Try.prog 35 #[.pointer (some ⟨b, 0, none⟩), .agg #[.int .i64 15, .int .i64 (c : Int), .int .i64 l, .int .u64 S.val, .int .u64 x1, .int .u64 x2, .int .u64 x3, .int .u64 x4, .int .u64 x5, .int .u64 x6, .int .u64 x7]] w (SvPost N0 w b d bm bw bl bc e0 { S with hs := S.hs.set c ⟨2, ⟨S.val, x1, x2, x3, x4, x5, x6, x7⟩, false, yb⟩, inn := S.inn ++ [⟨7, (c : Int), l, {}⟩] } made (wrap64 (got + 1))) := by
  obtain ⟨j0, hj, hz0, hz1, hz2⟩ := info_parts infoMsg
  have hal : Chg [] w (w.alloc (.cells #[.int .i64 15, .int .i64 (c : Int), .int .i64 l, .int .u64 S.val, .int .u64 x1, .int .u64 x2, .int .u64 x3, .int .u64 x4, .int .u64 x5, .int .u64 x6, .int .u64 x7] 33)) := (Chg.refl [] w).alloc _
  have HSv := Lib.hid (H.look hal)
  have HB := Lib.hid (Blk.new w [.int .i64 15, .int .i64 (c : Int), .int .i64 l, .int .u64 S.val, .int .u64 x1, .int .u64 x2, .int .u64 x3, .int .u64 x4, .int .u64 x5, .int .u64 x6, .int .u64 x7] 33)
  have HBl := Lib.hid (hal.to_below (B := N0) (fun x hx => absurd hx (by simp)) H.lo.2.2)
  have HBn := Lib.hid (H.fresh (x := w.heap.size) (Nat.le_refl _))
  have HY := Lib.hid hy; have HLn := Lib.hid hlen; have HX := Lib.hid hx
  subst hx
  have hnl : (S.hs.length : Int) ≤ 4 := by omega
  have hci : (c : Int) < S.hs.length := by omega
  have hc0 : (0 : Int) ≤ c := Int.natCast_nonneg _
  clear hal H hy hlen
  go_enter Try.func35, Try.ntmps35
  go_upto_region 1 with fail
  generalize World.alloc _ _ = wa at *
  obtain ⟨bm0, hb⟩ : ∃ b, w.heap.size = b := ⟨_, rfl⟩
  rw [hb] at HB HBn ⊢
  clear hb
  have m0 : wa.cell? ⟨bm0, 0, none⟩ = some (.int .i64 15) := HB.out.cell 0
  have m1 : wa.cell? ⟨bm0, 1, none⟩ = some (.int .i64 (c : Int)) := HB.out.cell 1
  have m2 : wa.cell? ⟨bm0, 2, none⟩ = some (.int .i64 l) := HB.out.cell 2
  have m3 : wa.cell? ⟨bm0, 3, none⟩ = some (.int .u64 S.val) := HB.out.cell 3
  have m4 : wa.cell? ⟨bm0, 4, none⟩ = some (.int .u64 x1) := HB.out.cell 4
  have m5 : wa.cell? ⟨bm0, 5, none⟩ = some (.int .u64 x2) := HB.out.cell 5
  have m6 : wa.cell? ⟨bm0, 6, none⟩ = some (.int .u64 x3) := HB.out.cell 6
  have m7 : wa.cell? ⟨bm0, 7, none⟩ = some (.int .u64 x4) := HB.out.cell 7
  have m8 : wa.cell? ⟨bm0, 8, none⟩ = some (.int .u64 x5) := HB.out.cell 8
  have m9 : wa.cell? ⟨bm0, 9, none⟩ = some (.int .u64 x6) := HB.out.cell 9
  have m10 : wa.cell? ⟨bm0, 10, none⟩ = some (.int .u64 x7) := HB.out.cell 10
  have mlt : bm0 < wa.heap.size := HB.out.lt
  have b1 : wa.cell? ⟨b, 1, none⟩ = some (.slice (some ⟨bc, 0, none⟩) S.hs.length S.hs.length) := HSv.out.blk.cell 1
  have h0 : wa.cell? ⟨bc, c * 11, none⟩ = some (.int .i64 ys) := by have := HSv.out.hon.cell (c * 11 + 0); rw [flat_get encH_len S.hs c hc 0 (by decide), HY.out] at this; exact this
  have h1 : wa.cell? ⟨bc, c * 11 + 1, none⟩ = some (.int .u64 y0) := by have := HSv.out.hon.cell (c * 11 + 1); rw [flat_get encH_len S.hs c hc 1 (by decide), HY.out] at this; exact this
  have h2 : wa.cell? ⟨bc, c * 11 + 2, none⟩ = some (.int .u64 y1) := by have := HSv.out.hon.cell (c * 11 + 2); rw [flat_get encH_len S.hs c hc 2 (by decide), HY.out] at this; exact this
  have h3 : wa.cell? ⟨bc, c * 11 + 3, none⟩ = some (.int .u64 y2) := by have := HSv.out.hon.cell (c * 11 + 3); rw [flat_get encH_len S.hs c hc 3 (by decide), HY.out] at this; exact this
  have h4 : wa.cell? ⟨bc, c * 11 + 4, none⟩ = some (.int .u64 y3) := by have := HSv.out.hon.cell (c * 11 + 4); rw [flat_get encH_len S.hs c hc 4 (by decide), HY.out] at this; exact this
  have h5 : wa.cell? ⟨bc, c * 11 + 5, none⟩ = some (.int .u64 y4) := by have := HSv.out.hon.cell (c * 11 + 5); rw [flat_get encH_len S.hs c hc 5 (by decide), HY.out] at this; exact this
  have h6 : wa.cell? ⟨bc, c * 11 + 6, none⟩ = some (.int .u64 y5) := by have := HSv.out.hon.cell (c * 11 + 6); rw [flat_get encH_len S.hs c hc 6 (by decide), HY.out] at this; exact this
  have h7 : wa.cell? ⟨bc, c * 11 + 7, none⟩ = some (.int .u64 y6) := by have := HSv.out.hon.cell (c * 11 + 7); rw [flat_get encH_len S.hs c hc 7 (by decide), HY.out] at this; exact this
  have h8 : wa.cell? ⟨bc, c * 11 + 8, none⟩ = some (.int .u64 y7) := by have := HSv.out.hon.cell (c * 11 + 8); rw [flat_get encH_len S.hs c hc 8 (by decide), HY.out] at this; exact this
  have h9 : wa.cell? ⟨bc, c * 11 + 9, none⟩ = some (.bool true) := by have := HSv.out.hon.cell (c * 11 + 9); rw [flat_get encH_len S.hs c hc 9 (by decide), HY.out] at this; exact this
  have h10 : wa.cell? ⟨bc, c * 11 + 10, none⟩ = some (.bool yb) := by have := HSv.out.hon.cell (c * 11 + 10); rw [flat_get encH_len S.hs c hc 10 (by decide), HY.out] at this; exact this
  have blt : b < wa.heap.size := HSv.out.blk.lt
  have clt : bc < wa.heap.size := HSv.out.hon.lt
  go_region_held3 (fun w' => w'.cell? ⟨b, 1, none⟩ = some (.slice (some ⟨bc, 0, none⟩) S.hs.length S.hs.length) ∧ w'.cell? ⟨bm0, 1, none⟩ = some (.int .i64 (c : Int)) ∧ w'.cell? ⟨bc, c * 11, none⟩ = some (.int .i64 ys) ∧ w'.cell? ⟨bc, c * 11 + 1, none⟩ = some (.int .u64 y0) ∧ w'.cell? ⟨bc, c * 11 + 2, none⟩ = some (.int .u64 y1) ∧ w'.cell? ⟨bc, c * 11 + 3, none⟩ = some (.int .u64 y2) ∧ w'.cell? ⟨bc, c * 11 + 4, none⟩ = some (.int .u64 y3) ∧ w'.cell? ⟨bc, c * 11 + 5, none⟩ = some (.int .u64 y4) ∧ w'.cell? ⟨bc, c * 11 + 6, none⟩ = some (.int .u64 y5) ∧ w'.cell? ⟨bc, c * 11 + 7, none⟩ = some (.int .u64 y6) ∧ w'.cell? ⟨bc, c * 11 + 8, none⟩ = some (.int .u64 y7) ∧ w'.cell? ⟨bc, c * 11 + 9, none⟩ = some (.bool true) ∧ w'.cell? ⟨bc, c * 11 + 10, none⟩ = some (.bool yb)) (first | with_reducible exact ⟨b1, m1, h0, h1, h2, h3, h4, h5, h6, h7, h8, h9, h10⟩ | go_keep) (fail)
  clear m0 h0 m1 h1 m2 h2 m3 h3 m4 h4 m5 h5 m6 h6 m7 h7 m8 h8 m9 h9 m10 h10 b1
  have hk1 := ((Chg.refl [] wa).alloc (.cells #[.int .i64 ys, .int .u64 y0, .int .u64 y1, .int .u64 y2, .int .u64 y3, .int .u64 y4, .int .u64 y5, .int .u64 y6, .int .u64 y7, .bool true, .bool yb] 91)).drew
  have HBx := Lib.hid (Blk.drew (Blk.new wa [.int .i64 ys, .int .u64 y0, .int .u64 y1, .int .u64 y2, .int .u64 y3, .int .u64 y4, .int .u64 y5, .int .u64 y6, .int .u64 y7, .bool true, .bool yb] 91))
  have HAx := Lib.hid (HSv.out.fresh (x := wa.heap.size) (Nat.le_refl _))
  have hbx : bm0 < wa.heap.size := mlt
  replace HBl := Lib.hid (HBl.out.trans (hk1.to_below (B := N0) (fun x hx => absurd hx (by simp)) (HSv.out.lo.2.2))); replace HSv := Lib.hid (HSv.out.look hk1); replace HB := Lib.hid (hk1.blk HB.out (by simp))
  clear hk1 mlt blt clt
  generalize World.drew _ = w1 at *
  obtain ⟨bx, hbxx⟩ : ∃ b, wa.heap.size = b := ⟨_, rfl⟩
  rw [hbxx] at HBx HAx hbx ⊢
  clear hbxx
  have xlt : bx < w1.heap.size := HBx.out.lt
  have m0 : w1.cell? ⟨bm0, 0, none⟩ = some (.int .i64 15) := HB.out.cell 0
  have m1 : w1.cell? ⟨bm0, 1, none⟩ = some (.int .i64 (c : Int)) := HB.out.cell 1
  have m2 : w1.cell? ⟨bm0, 2, none⟩ = some (.int .i64 l) := HB.out.cell 2
  have m3 : w1.cell? ⟨bm0, 3, none⟩ = some (.int .u64 S.val) := HB.out.cell 3
  have m4 : w1.cell? ⟨bm0, 4, none⟩ = some (.int .u64 x1) := HB.out.cell 4
  have m5 : w1.cell? ⟨bm0, 5, none⟩ = some (.int .u64 x2) := HB.out.cell 5
  have m6 : w1.cell? ⟨bm0, 6, none⟩ = some (.int .u64 x3) := HB.out.cell 6
  have m7 : w1.cell? ⟨bm0, 7, none⟩ = some (.int .u64 x4) := HB.out.cell 7
  have m8 : w1.cell? ⟨bm0, 8, none⟩ = some (.int .u64 x5) := HB.out.cell 8
  have m9 : w1.cell? ⟨bm0, 9, none⟩ = some (.int .u64 x6) := HB.out.cell 9
  have m10 : w1.cell? ⟨bm0, 10, none⟩ = some (.int .u64 x7) := HB.out.cell 10
  have mlt : bm0 < w1.heap.size := HB.out.lt
  go_upto_region 3 with fail
  have hk2 := (Chg.refl [] w1).alloc (.cells #[.int .i64 0, .int .i64 (c : Int), .int .i64 l, .int .u64 0, .int .u64 0, .int .u64 0, .int .u64 0, .int .u64 0, .int .u64 0, .int .u64 0, .int .u64 0] 33)
  have HBk := Lib.hid (Blk.new w1 [.int .i64 0, .int .i64 (c : Int), .int .i64 l, .int .u64 0, .int .u64 0, .int .u64 0, .int .u64 0, .int .u64 0, .int .u64 0, .int .u64 0, .int .u64 0] 33)
  have HAk := Lib.hid (HSv.out.fresh (x := w1.heap.size) (Nat.le_refl _))
  have hbk1 : bm0 < w1.heap.size := mlt; have hbk2 : bx < w1.heap.size := xlt
  replace HBl := Lib.hid (HBl.out.trans (hk2.to_below (B := N0) (fun x hx => absurd hx (by simp)) (HSv.out.lo.2.2))); replace HSv := Lib.hid (HSv.out.look hk2); replace HB := Lib.hid (hk2.blk HB.out (by simp)); replace HBx := Lib.hid (hk2.blk HBx.out (by simp))
  clear hk2 mlt xlt m0 m1 m2 m3 m4 m5 m6 m7 m8 m9 m10
  generalize World.alloc _ _ = w2 at *
  obtain ⟨bk, hbkk⟩ : ∃ b, w1.heap.size = b := ⟨_, rfl⟩
  rw [hbkk] at HBk HAk hbk1 hbk2 ⊢
  clear hbkk
  have hn1 : bm0 ≠ bx := by omega
  have hn2 : bm0 ≠ bk := by omega
  have hn3 : bx ≠ bk := by omega
  have hn4 : bm0 ≠ b := HBn.out.nb; have hn5 : bx ≠ b := HAx.out.nb; have hn6 : bk ≠ b := HAk.out.nb
  have m0 : w2.cell? ⟨bm0, 0, none⟩ = some (.int .i64 15) := HB.out.cell 0
  have m1 : w2.cell? ⟨bm0, 1, none⟩ = some (.int .i64 (c : Int)) := HB.out.cell 1
  have m2 : w2.cell? ⟨bm0, 2, none⟩ = some (.int .i64 l) := HB.out.cell 2
  have m3 : w2.cell? ⟨bm0, 3, none⟩ = some (.int .u64 S.val) := HB.out.cell 3
  have m4 : w2.cell? ⟨bm0, 4, none⟩ = some (.int .u64 x1) := HB.out.cell 4
  have m5 : w2.cell? ⟨bm0, 5, none⟩ = some (.int .u64 x2) := HB.out.cell 5
  have m6 : w2.cell? ⟨bm0, 6, none⟩ = some (.int .u64 x3) := HB.out.cell 6
  have m7 : w2.cell? ⟨bm0, 7, none⟩ = some (.int .u64 x4) := HB.out.cell 7
  have m8 : w2.cell? ⟨bm0, 8, none⟩ = some (.int .u64 x5) := HB.out.cell 8
  have m9 : w2.cell? ⟨bm0, 9, none⟩ = some (.int .u64 x6) := HB.out.cell 9
  have m10 : w2.cell? ⟨bm0, 10, none⟩ = some (.int .u64 x7) := HB.out.cell 10
  have mlt : bm0 < w2.heap.size := HB.out.lt
  have x_0 : w2.cell? ⟨bx, 0, none⟩ = some (.int .i64 ys) := HBx.out.cell 0
  have g_0 : w2.frozen? ⟨bx, 0, none⟩ = false := HBx.out.free 0
  have x_1 : w2.cell? ⟨bx, 1, none⟩ = some (.int .u64 y0) := HBx.out.cell 1
  have g_1 : w2.frozen? ⟨bx, 1, none⟩ = false := HBx.out.free 1
  have x_2 : w2.cell? ⟨bx, 2, none⟩ = some (.int .u64 y1) := HBx.out.cell 2
  have g_2 : w2.frozen? ⟨bx, 2, none⟩ = false := HBx.out.free 2
  have x_3 : w2.cell? ⟨bx, 3, none⟩ = some (.int .u64 y2) := HBx.out.cell 3
  have g_3 : w2.frozen? ⟨bx, 3, none⟩ = false := HBx.out.free 3
  have x_4 : w2.cell? ⟨bx, 4, none⟩ = some (.int .u64 y3) := HBx.out.cell 4
  have g_4 : w2.frozen? ⟨bx, 4, none⟩ = false := HBx.out.free 4
  have x_5 : w2.cell? ⟨bx, 5, none⟩ = some (.int .u64 y4) := HBx.out.cell 5
  have g_5 : w2.frozen? ⟨bx, 5, none⟩ = false := HBx.out.free 5
  have x_6 : w2.cell? ⟨bx, 6, none⟩ = some (.int .u64 y5) := HBx.out.cell 6
  have g_6 : w2.frozen? ⟨bx, 6, none⟩ = false := HBx.out.free 6
  have x_7 : w2.cell? ⟨bx, 7, none⟩ = some (.int .u64 y6) := HBx.out.cell 7
  have g_7 : w2.frozen? ⟨bx, 7, none⟩ = false := HBx.out.free 7
  have x_8 : w2.cell? ⟨bx, 8, none⟩ = some (.int .u64 y7) := HBx.out.cell 8
  have g_8 : w2.frozen? ⟨bx, 8, none⟩ = false := HBx.out.free 8
  have x_9 : w2.cell? ⟨bx, 9, none⟩ = some (.bool true) := HBx.out.cell 9
  have g_9 : w2.frozen? ⟨bx, 9, none⟩ = false := HBx.out.free 9
  have x_10 : w2.cell? ⟨bx, 10, none⟩ = some (.bool yb) := HBx.out.cell 10
  have g_10 : w2.frozen? ⟨bx, 10, none⟩ = false := HBx.out.free 10
  have k_0 : w2.cell? ⟨bk, 0, none⟩ = some (.int .i64 0) := HBk.out.cell 0
  have l_0 : w2.frozen? ⟨bk, 0, none⟩ = false := HBk.out.free 0
  have k_1 : w2.cell? ⟨bk, 1, none⟩ = some (.int .i64 (c : Int)) := HBk.out.cell 1
  have l_1 : w2.frozen? ⟨bk, 1, none⟩ = false := HBk.out.free 1
  have k_2 : w2.cell? ⟨bk, 2, none⟩ = some (.int .i64 l) := HBk.out.cell 2
  have l_2 : w2.frozen? ⟨bk, 2, none⟩ = false := HBk.out.free 2
  have k_3 : w2.cell? ⟨bk, 3, none⟩ = some (.int .u64 0) := HBk.out.cell 3
  have l_3 : w2.frozen? ⟨bk, 3, none⟩ = false := HBk.out.free 3
  have k_4 : w2.cell? ⟨bk, 4, none⟩ = some (.int .u64 0) := HBk.out.cell 4
  have l_4 : w2.frozen? ⟨bk, 4, none⟩ = false := HBk.out.free 4
  have k_5 : w2.cell? ⟨bk, 5, none⟩ = some (.int .u64 0) := HBk.out.cell 5
  have l_5 : w2.frozen? ⟨bk, 5, none⟩ = false := HBk.out.free 5
  have k_6 : w2.cell? ⟨bk, 6, none⟩ = some (.int .u64 0) := HBk.out.cell 6
  have l_6 : w2.frozen? ⟨bk, 6, none⟩ = false := HBk.out.free 6
  have k_7 : w2.cell? ⟨bk, 7, none⟩ = some (.int .u64 0) := HBk.out.cell 7
  have l_7 : w2.frozen? ⟨bk, 7, none⟩ = false := HBk.out.free 7
  have k_8 : w2.cell? ⟨bk, 8, none⟩ = some (.int .u64 0) := HBk.out.cell 8
  have l_8 : w2.frozen? ⟨bk, 8, none⟩ = false := HBk.out.free 8
  have k_9 : w2.cell? ⟨bk, 9, none⟩ = some (.int .u64 0) := HBk.out.cell 9
  have l_9 : w2.frozen? ⟨bk, 9, none⟩ = false := HBk.out.free 9
  have k_10 : w2.cell? ⟨bk, 10, none⟩ = some (.int .u64 0) := HBk.out.cell 10
  have l_10 : w2.frozen? ⟨bk, 10, none⟩ = false := HBk.out.free 10
  have xlt : bx < w2.heap.size := HBx.out.lt
  have klt : bk < w2.heap.size := HBk.out.lt
  have blt : b < w2.heap.size := HSv.out.blk.lt
  have b1 : w2.cell? ⟨b, 1, none⟩ = some (.slice (some ⟨bc, 0, none⟩) S.hs.length S.hs.length) := HSv.out.blk.cell 1
  have f1 : w2.frozen? ⟨b, 1, none⟩ = false := HSv.out.blk.free 1
  have b2 : w2.cell? ⟨b, 2, none⟩ = some (vi) := HSv.out.blk.cell 2
  have f2 : w2.frozen? ⟨b, 2, none⟩ = false := HSv.out.blk.free 2
  have b5 : w2.cell? ⟨b, 5, none⟩ = some (.int .i64 got) := HSv.out.blk.cell 5
  have f5 : w2.frozen? ⟨b, 5, none⟩ = false := HSv.out.blk.free 5
  have b6 : w2.cell? ⟨b, 6, none⟩ = some (.int .u64 S.val) := HSv.out.blk.cell 6
  have f6 : w2.frozen? ⟨b, 6, none⟩ = false := HSv.out.blk.free 6
  have b7 : w2.cell? ⟨b, 7, none⟩ = some (.bool true) := HSv.out.blk.cell 7
  have f7 : w2.frozen? ⟨b, 7, none⟩ = false := HSv.out.blk.free 7
  go_upto_region 19 with fail
  have t7 : (w2.setCell ⟨b, 7, none⟩ (.bool true)).drew.cell? ⟨b, 7, none⟩ = some (.bool true) := (HSv.out.blk.set 7 (.bool true)).drew.cell 7
  have t6 : (w2.setCell ⟨b, 7, none⟩ (.bool true)).drew.cell? ⟨b, 6, none⟩ = some (.int .u64 S.val) := (HSv.out.blk.set 7 (.bool true)).drew.cell 6
  have t9 : (w2.setCell ⟨b, 7, none⟩ (.bool true)).drew.cell? ⟨bx, 9, none⟩ = some (.bool true) := (HBx.out.other (a := ⟨b, 7, none⟩) (Ne.symm hn5) (.bool true)).drew.cell 9
  have t3 : (w2.setCell ⟨b, 7, none⟩ (.bool true)).drew.cell? ⟨bm0, 3, none⟩ = some (.int .u64 S.val) := (HB.out.other (a := ⟨b, 7, none⟩) (Ne.symm hn4) (.bool true)).drew.cell 3
  go_region_held3 (fun w' => w'.cell? ⟨b, 7, none⟩ = some (.bool true) ∧ w'.cell? ⟨b, 6, none⟩ = some (.int .u64 S.val) ∧ w'.cell? ⟨bx, 9, none⟩ = some (.bool true) ∧ w'.cell? ⟨bm0, 3, none⟩ = some (.int .u64 S.val)) (first | with_reducible exact ⟨b7, b6, x_9, m3⟩ | with_reducible exact ⟨t7, t6, t9, t3⟩ | go_keep) (fail)
  clear t7 t6 t9 t3
  go_upto_region 21 with fail
  have hF := HSv.out.field 7 (.bool true) S.val made got rfl
  replace HBl := Lib.hid (HBl.out.trans hF.2); replace HSv := Lib.hid hF.1; clear hF
  replace HB := Lib.hid (HB.out.other (a := ⟨b, 7, none⟩) (Ne.symm hn4) (.bool true))
  replace HBx := Lib.hid (HBx.out.other (a := ⟨b, 7, none⟩) (Ne.symm hn5) (.bool true))
  replace HBk := Lib.hid (HBk.out.other (a := ⟨b, 7, none⟩) (Ne.symm hn6) (.bool true))
  have hF := HSv.out.field 5 (.int .i64 (wrap64 (got + 1))) S.val made (wrap64 (got + 1)) rfl
  replace HBl := Lib.hid (HBl.out.trans hF.2); replace HSv := Lib.hid hF.1; clear hF
  replace HB := Lib.hid (HB.out.other (a := ⟨b, 5, none⟩) (Ne.symm hn4) (.int .i64 (wrap64 (got + 1))))
  replace HBx := Lib.hid (HBx.out.other (a := ⟨b, 5, none⟩) (Ne.symm hn5) (.int .i64 (wrap64 (got + 1))))
  replace HBk := Lib.hid (HBk.out.other (a := ⟨b, 5, none⟩) (Ne.symm hn6) (.int .i64 (wrap64 (got + 1))))
  replace HBl := Lib.hid (HBl.out.trans (((Chg.refl [] _).drew).to_below (B := N0) (fun x hx => absurd hx (by simp)) HSv.out.lo.2.2)); replace HSv := Lib.hid (HSv.out.look ((Chg.refl [] _).drew)); replace HB := Lib.hid HB.out.drew; replace HBx := Lib.hid HBx.out.drew; replace HBk := Lib.hid HBk.out.drew
  clear mlt xlt klt blt m0 m1 m2 m3 m4 m5 m6 m7 m8 m9 m10 x_0 g_0 k_0 l_0 x_1 g_1 k_1 l_1 x_2 g_2 k_2 l_2 x_3 g_3 k_3 l_3 x_4 g_4 k_4 l_4 x_5 g_5 k_5 l_5 x_6 g_6 k_6 l_6 x_7 g_7 k_7 l_7 x_8 g_8 k_8 l_8 x_9 g_9 k_9 l_9 x_10 g_10 k_10 l_10 b1 f1 b2 f2 b5 f5 b6 f6 b7 f7
  generalize ((w2.setCell ⟨b, 7, none⟩ (.bool true)).setCell ⟨b, 5, none⟩ (.int .i64 (wrap64 (got + 1)))).drew = w2b at *
  rename_i hHeld K1 a1
  clear hHeld
  have m0 : w2b.cell? ⟨bm0, 0, none⟩ = some (.int .i64 15) := HB.out.cell 0
  have m1 : w2b.cell? ⟨bm0, 1, none⟩ = some (.int .i64 (c : Int)) := HB.out.cell 1
  have m2 : w2b.cell? ⟨bm0, 2, none⟩ = some (.int .i64 l) := HB.out.cell 2
  have m3 : w2b.cell? ⟨bm0, 3, none⟩ = some (.int .u64 S.val) := HB.out.cell 3
  have m4 : w2b.cell? ⟨bm0, 4, none⟩ = some (.int .u64 x1) := HB.out.cell 4
  have m5 : w2b.cell? ⟨bm0, 5, none⟩ = some (.int .u64 x2) := HB.out.cell 5
  have m6 : w2b.cell? ⟨bm0, 6, none⟩ = some (.int .u64 x3) := HB.out.cell 6
  have m7 : w2b.cell? ⟨bm0, 7, none⟩ = some (.int .u64 x4) := HB.out.cell 7
  have m8 : w2b.cell? ⟨bm0, 8, none⟩ = some (.int .u64 x5) := HB.out.cell 8
  have m9 : w2b.cell? ⟨bm0, 9, none⟩ = some (.int .u64 x6) := HB.out.cell 9
  have m10 : w2b.cell? ⟨bm0, 10, none⟩ = some (.int .u64 x7) := HB.out.cell 10
  have mlt : bm0 < w2b.heap.size := HB.out.lt
  have x_0 : w2b.cell? ⟨bx, 0, none⟩ = some (.int .i64 ys) := HBx.out.cell 0
  have g_0 : w2b.frozen? ⟨bx, 0, none⟩ = false := HBx.out.free 0
  have x_1 : w2b.cell? ⟨bx, 1, none⟩ = some (.int .u64 y0) := HBx.out.cell 1
  have g_1 : w2b.frozen? ⟨bx, 1, none⟩ = false := HBx.out.free 1
  have x_2 : w2b.cell? ⟨bx, 2, none⟩ = some (.int .u64 y1) := HBx.out.cell 2
  have g_2 : w2b.frozen? ⟨bx, 2, none⟩ = false := HBx.out.free 2
  have x_3 : w2b.cell? ⟨bx, 3, none⟩ = some (.int .u64 y2) := HBx.out.cell 3
  have g_3 : w2b.frozen? ⟨bx, 3, none⟩ = false := HBx.out.free 3
  have x_4 : w2b.cell? ⟨bx, 4, none⟩ = some (.int .u64 y3) := HBx.out.cell 4
  have g_4 : w2b.frozen? ⟨bx, 4, none⟩ = false := HBx.out.free 4
  have x_5 : w2b.cell? ⟨bx, 5, none⟩ = some (.int .u64 y4) := HBx.out.cell 5
  have g_5 : w2b.frozen? ⟨bx, 5, none⟩ = false := HBx.out.free 5
  have x_6 : w2b.cell? ⟨bx, 6, none⟩ = some (.int .u64 y5) := HBx.out.cell 6
  have g_6 : w2b.frozen? ⟨bx, 6, none⟩ = false := HBx.out.free 6
  have x_7 : w2b.cell? ⟨bx, 7, none⟩ = some (.int .u64 y6) := HBx.out.cell 7
  have g_7 : w2b.frozen? ⟨bx, 7, none⟩ = false := HBx.out.free 7
  have x_8 : w2b.cell? ⟨bx, 8, none⟩ = some (.int .u64 y7) := HBx.out.cell 8
  have g_8 : w2b.frozen? ⟨bx, 8, none⟩ = false := HBx.out.free 8
  have x_9 : w2b.cell? ⟨bx, 9, none⟩ = some (.bool true) := HBx.out.cell 9
  have g_9 : w2b.frozen? ⟨bx, 9, none⟩ = false := HBx.out.free 9
  have x_10 : w2b.cell? ⟨bx, 10, none⟩ = some (.bool yb) := HBx.out.cell 10
  have g_10 : w2b.frozen? ⟨bx, 10, none⟩ = false := HBx.out.free 10
  have k_0 : w2b.cell? ⟨bk, 0, none⟩ = some (.int .i64 0) := HBk.out.cell 0
  have l_0 : w2b.frozen? ⟨bk, 0, none⟩ = false := HBk.out.free 0
  have k_1 : w2b.cell? ⟨bk, 1, none⟩ = some (.int .i64 (c : Int)) := HBk.out.cell 1
  have l_1 : w2b.frozen? ⟨bk, 1, none⟩ = false := HBk.out.free 1
  have k_2 : w2b.cell? ⟨bk, 2, none⟩ = some (.int .i64 l) := HBk.out.cell 2
  have l_2 : w2b.frozen? ⟨bk, 2, none⟩ = false := HBk.out.free 2
  have k_3 : w2b.cell? ⟨bk, 3, none⟩ = some (.int .u64 0) := HBk.out.cell 3
  have l_3 : w2b.frozen? ⟨bk, 3, none⟩ = false := HBk.out.free 3
  have k_4 : w2b.cell? ⟨bk, 4, none⟩ = some (.int .u64 0) := HBk.out.cell 4
  have l_4 : w2b.frozen? ⟨bk, 4, none⟩ = false := HBk.out.free 4
  have k_5 : w2b.cell? ⟨bk, 5, none⟩ = some (.int .u64 0) := HBk.out.cell 5
  have l_5 : w2b.frozen? ⟨bk, 5, none⟩ = false := HBk.out.free 5
  have k_6 : w2b.cell? ⟨bk, 6, none⟩ = some (.int .u64 0) := HBk.out.cell 6
  have l_6 : w2b.frozen? ⟨bk, 6, none⟩ = false := HBk.out.free 6
  have k_7 : w2b.cell? ⟨bk, 7, none⟩ = some (.int .u64 0) := HBk.out.cell 7
  have l_7 : w2b.frozen? ⟨bk, 7, none⟩ = false := HBk.out.free 7
  have k_8 : w2b.cell? ⟨bk, 8, none⟩ = some (.int .u64 0) := HBk.out.cell 8
  have l_8 : w2b.frozen? ⟨bk, 8, none⟩ = false := HBk.out.free 8
  have k_9 : w2b.cell? ⟨bk, 9, none⟩ = some (.int .u64 0) := HBk.out.cell 9
  have l_9 : w2b.frozen? ⟨bk, 9, none⟩ = false := HBk.out.free 9
  have k_10 : w2b.cell? ⟨bk, 10, none⟩ = some (.int .u64 0) := HBk.out.cell 10
  have l_10 : w2b.frozen? ⟨bk, 10, none⟩ = false := HBk.out.free 10
  have xlt : bx < w2b.heap.size := HBx.out.lt
  have klt : bk < w2b.heap.size := HBk.out.lt
  have blt : b < w2b.heap.size := HSv.out.blk.lt
  have b1 : w2b.cell? ⟨b, 1, none⟩ = some (.slice (some ⟨bc, 0, none⟩) S.hs.length S.hs.length) := HSv.out.blk.cell 1
  have f1 : w2b.frozen? ⟨b, 1, none⟩ = false := HSv.out.blk.free 1
  have b2 : w2b.cell? ⟨b, 2, none⟩ = some (vi) := HSv.out.blk.cell 2
  have f2 : w2b.frozen? ⟨b, 2, none⟩ = false := HSv.out.blk.free 2
  have b5 : w2b.cell? ⟨b, 5, none⟩ = some (.int .i64 (wrap64 (got + 1))) := HSv.out.blk.cell 5
  have f5 : w2b.frozen? ⟨b, 5, none⟩ = false := HSv.out.blk.free 5
  have b6 : w2b.cell? ⟨b, 6, none⟩ = some (.int .u64 S.val) := HSv.out.blk.cell 6
  have f6 : w2b.frozen? ⟨b, 6, none⟩ = false := HSv.out.blk.free 6
  have b7 : w2b.cell? ⟨b, 7, none⟩ = some (.bool true) := HSv.out.blk.cell 7
  have f7 : w2b.frozen? ⟨b, 7, none⟩ = false := HSv.out.blk.free 7
  go_upto_region 29 with fail
  have hF := SvW.aside HSv.out ((Chg.refl [bx] _).setCell (p := ⟨bx, 9, none⟩) (fun _ => List.mem_singleton.2 rfl) (.bool false)) (fun x hx => by rw [List.mem_singleton.1 hx]; exact HAx.out)
  replace HBl := Lib.hid (HBl.out.trans hF.2); replace HSv := Lib.hid hF.1; clear hF
  replace HBx := Lib.hid (HBx.out.set 9 (.bool false))
  replace HBk := Lib.hid (HBk.out.other (a := ⟨bx, 9, none⟩) (hn3) (.bool false))
  replace HB := Lib.hid (HB.out.other (a := ⟨bx, 9, none⟩) (Ne.symm hn1) (.bool false))
  have hF := SvW.aside HSv.out ((Chg.refl [bx] _).setCell (p := ⟨bx, 1, none⟩) (fun _ => List.mem_singleton.2 rfl) (.int .u64 S.val)) (fun x hx => by rw [List.mem_singleton.1 hx]; exact HAx.out)
  replace HBl := Lib.hid (HBl.out.trans hF.2); replace HSv := Lib.hid hF.1; clear hF
  replace HBx := Lib.hid (HBx.out.set 1 (.int .u64 S.val))
  replace HBk := Lib.hid (HBk.out.other (a := ⟨bx, 1, none⟩) (hn3) (.int .u64 S.val))
  replace HB := Lib.hid (HB.out.other (a := ⟨bx, 1, none⟩) (Ne.symm hn1) (.int .u64 S.val))
  have hF := SvW.aside HSv.out ((Chg.refl [bx] _).setCell (p := ⟨bx, 2, none⟩) (fun _ => List.mem_singleton.2 rfl) (.int .u64 x1)) (fun x hx => by rw [List.mem_singleton.1 hx]; exact HAx.out)
  replace HBl := Lib.hid (HBl.out.trans hF.2); replace HSv := Lib.hid hF.1; clear hF
  replace HBx := Lib.hid (HBx.out.set 2 (.int .u64 x1))
  replace HBk := Lib.hid (HBk.out.other (a := ⟨bx, 2, none⟩) (hn3) (.int .u64 x1))
  replace HB := Lib.hid (HB.out.other (a := ⟨bx, 2, none⟩) (Ne.symm hn1) (.int .u64 x1))
  have hF := SvW.aside HSv.out ((Chg.refl [bx] _).setCell (p := ⟨bx, 3, none⟩) (fun _ => List.mem_singleton.2 rfl) (.int .u64 x2)) (fun x hx => by rw [List.mem_singleton.1 hx]; exact HAx.out)
  replace HBl := Lib.hid (HBl.out.trans hF.2); replace HSv := Lib.hid hF.1; clear hF
  replace HBx := Lib.hid (HBx.out.set 3 (.int .u64 x2))
  replace HBk := Lib.hid (HBk.out.other (a := ⟨bx, 3, none⟩) (hn3) (.int .u64 x2))
  replace HB := Lib.hid (HB.out.other (a := ⟨bx, 3, none⟩) (Ne.symm hn1) (.int .u64 x2))
  have hF := SvW.aside HSv.out ((Chg.refl [bx] _).setCell (p := ⟨bx, 4, none⟩) (fun _ => List.mem_singleton.2 rfl) (.int .u64 x3)) (fun x hx => by rw [List.mem_singleton.1 hx]; exact HAx.out)
  replace HBl := Lib.hid (HBl.out.trans hF.2); replace HSv := Lib.hid hF.1; clear hF
  replace HBx := Lib.hid (HBx.out.set 4 (.int .u64 x3))
  replace HBk := Lib.hid (HBk.out.other (a := ⟨bx, 4, none⟩) (hn3) (.int .u64 x3))
  replace HB := Lib.hid (HB.out.other (a := ⟨bx, 4, none⟩) (Ne.symm hn1) (.int .u64 x3))
  have hF := SvW.aside HSv.out ((Chg.refl [bx] _).setCell (p := ⟨bx, 5, none⟩) (fun _ => List.mem_singleton.2 rfl) (.int .u64 x4)) (fun x hx => by rw [List.mem_singleton.1 hx]; exact HAx.out)
  replace HBl := Lib.hid (HBl.out.trans hF.2); replace HSv := Lib.hid hF.1; clear hF
  replace HBx := Lib.hid (HBx.out.set 5 (.int .u64 x4))
  replace HBk := Lib.hid (HBk.out.other (a := ⟨bx, 5, none⟩) (hn3) (.int .u64 x4))
  replace HB := Lib.hid (HB.out.other (a := ⟨bx, 5, none⟩) (Ne.symm hn1) (.int .u64 x4))
  have hF := SvW.aside HSv.out ((Chg.refl [bx] _).setCell (p := ⟨bx, 6, none⟩) (fun _ => List.mem_singleton.2 rfl) (.int .u64 x5)) (fun x hx => by rw [List.mem_singleton.1 hx]; exact HAx.out)
  replace HBl := Lib.hid (HBl.out.trans hF.2); replace HSv := Lib.hid hF.1; clear hF
  replace HBx := Lib.hid (HBx.out.set 6 (.int .u64 x5))
  replace HBk := Lib.hid (HBk.out.other (a := ⟨bx, 6, none⟩) (hn3) (.int .u64 x5))
  replace HB := Lib.hid (HB.out.other (a := ⟨bx, 6, none⟩) (Ne.symm hn1) (.int .u64 x5))
  have hF := SvW.aside HSv.out ((Chg.refl [bx] _).setCell (p := ⟨bx, 7, none⟩) (fun _ => List.mem_singleton.2 rfl) (.int .u64 x6)) (fun x hx => by rw [List.mem_singleton.1 hx]; exact HAx.out)
  replace HBl := Lib.hid (HBl.out.trans hF.2); replace HSv := Lib.hid hF.1; clear hF
  replace HBx := Lib.hid (HBx.out.set 7 (.int .u64 x6))
  replace HBk := Lib.hid (HBk.out.other (a := ⟨bx, 7, none⟩) (hn3) (.int .u64 x6))
  replace HB := Lib.hid (HB.out.other (a := ⟨bx, 7, none⟩) (Ne.symm hn1) (.int .u64 x6))
  have hF := SvW.aside HSv.out ((Chg.refl [bx] _).setCell (p := ⟨bx, 8, none⟩) (fun _ => List.mem_singleton.2 rfl) (.int .u64 x7)) (fun x hx => by rw [List.mem_singleton.1 hx]; exact HAx.out)
  replace HBl := Lib.hid (HBl.out.trans hF.2); replace HSv := Lib.hid hF.1; clear hF
  replace HBx := Lib.hid (HBx.out.set 8 (.int .u64 x7))
  replace HBk := Lib.hid (HBk.out.other (a := ⟨bx, 8, none⟩) (hn3) (.int .u64 x7))
  replace HB := Lib.hid (HB.out.other (a := ⟨bx, 8, none⟩) (Ne.symm hn1) (.int .u64 x7))
  have hF := SvW.aside HSv.out ((Chg.refl [bx] _).setCell (p := ⟨bx, 0, none⟩) (fun _ => List.mem_singleton.2 rfl) (.int .i64 2)) (fun x hx => by rw [List.mem_singleton.1 hx]; exact HAx.out)
  replace HBl := Lib.hid (HBl.out.trans hF.2); replace HSv := Lib.hid hF.1; clear hF
  replace HBx := Lib.hid (HBx.out.set 0 (.int .i64 2))
  replace HBk := Lib.hid (HBk.out.other (a := ⟨bx, 0, none⟩) (hn3) (.int .i64 2))
  replace HB := Lib.hid (HB.out.other (a := ⟨bx, 0, none⟩) (Ne.symm hn1) (.int .i64 2))
  have hF := SvW.aside HSv.out ((Chg.refl [bk] _).setCell (p := ⟨bk, 0, none⟩) (fun _ => List.mem_singleton.2 rfl) (.int .i64 7)) (fun x hx => by rw [List.mem_singleton.1 hx]; exact HAk.out)
  replace HBl := Lib.hid (HBl.out.trans hF.2); replace HSv := Lib.hid hF.1; clear hF
  replace HBk := Lib.hid (HBk.out.set 0 (.int .i64 7))
  replace HBx := Lib.hid (HBx.out.other (a := ⟨bk, 0, none⟩) (Ne.symm hn3) (.int .i64 7))
  replace HB := Lib.hid (HB.out.other (a := ⟨bk, 0, none⟩) (Ne.symm hn2) (.int .i64 7))
  have HBx2 : Hid (Blk _ bx [.int .i64 2, .int .u64 S.val, .int .u64 x1, .int .u64 x2, .int .u64 x3, .int .u64 x4, .int .u64 x5, .int .u64 x6, .int .u64 x7, .bool false, .bool yb] 91) := HBx
  have HBk2 : Hid (Blk _ bk [.int .i64 7, .int .i64 (c : Int), .int .i64 l, .int .u64 0, .int .u64 0, .int .u64 0, .int .u64 0, .int .u64 0, .int .u64 0, .int .u64 0, .int .u64 0] 33) := HBk
  clear HBx HBk
  clear mlt xlt klt blt m0 m1 m2 m3 m4 m5 m6 m7 m8 m9 m10 x_0 g_0 k_0 l_0 x_1 g_1 k_1 l_1 x_2 g_2 k_2 l_2 x_3 g_3 k_3 l_3 x_4 g_4 k_4 l_4 x_5 g_5 k_5 l_5 x_6 g_6 k_6 l_6 x_7 g_7 k_7 l_7 x_8 g_8 k_8 l_8 x_9 g_9 k_9 l_9 x_10 g_10 k_10 l_10 b1 f1 b2 f2 b5 f5 b6 f6 b7 f7
  generalize World.setCell _ _ _ = w3 at *
  have m1 : w3.cell? ⟨bm0, 1, none⟩ = some (.int .i64 (c : Int)) := HB.out.cell 1
  have b1 : w3.cell? ⟨b, 1, none⟩ = some (.slice (some ⟨bc, 0, none⟩) S.hs.length S.hs.length) := HSv.out.blk.cell 1
  have x_0 : w3.cell? ⟨bx, 0, none⟩ = some (.int .i64 2) := HBx2.out.cell 0
  have x_1 : w3.cell? ⟨bx, 1, none⟩ = some (.int .u64 S.val) := HBx2.out.cell 1
  have x_2 : w3.cell? ⟨bx, 2, none⟩ = some (.int .u64 x1) := HBx2.out.cell 2
  have x_3 : w3.cell? ⟨bx, 3, none⟩ = some (.int .u64 x2) := HBx2.out.cell 3
  have x_4 : w3.cell? ⟨bx, 4, none⟩ = some (.int .u64 x3) := HBx2.out.cell 4
  have x_5 : w3.cell? ⟨bx, 5, none⟩ = some (.int .u64 x4) := HBx2.out.cell 5
  have x_6 : w3.cell? ⟨bx, 6, none⟩ = some (.int .u64 x5) := HBx2.out.cell 6
  have x_7 : w3.cell? ⟨bx, 7, none⟩ = some (.int .u64 x6) := HBx2.out.cell 7
  have x_8 : w3.cell? ⟨bx, 8, none⟩ = some (.int .u64 x7) := HBx2.out.cell 8
  have x_9 : w3.cell? ⟨bx, 9, none⟩ = some (.bool false) := HBx2.out.cell 9
  have x_10 : w3.cell? ⟨bx, 10, none⟩ = some (.bool yb) := HBx2.out.cell 10
  have h0 : w3.cell? ⟨bc, c * 11, none⟩ = some (.int .i64 ys) := by have := HSv.out.hon.cell (c * 11 + 0); rw [flat_get encH_len S.hs c hc 0 (by decide), HY.out] at this; exact this
  have fc0 : w3.frozen? ⟨bc, c * 11, none⟩ = false := HSv.out.hon.free _
  have h1 : w3.cell? ⟨bc, c * 11 + 1, none⟩ = some (.int .u64 y0) := by have := HSv.out.hon.cell (c * 11 + 1); rw [flat_get encH_len S.hs c hc 1 (by decide), HY.out] at this; exact this
  have fc1 : w3.frozen? ⟨bc, c * 11 + 1, none⟩ = false := HSv.out.hon.free _
  have h2 : w3.cell? ⟨bc, c * 11 + 2, none⟩ = some (.int .u64 y1) := by have := HSv.out.hon.cell (c * 11 + 2); rw [flat_get encH_len S.hs c hc 2 (by decide), HY.out] at this; exact this
  have fc2 : w3.frozen? ⟨bc, c * 11 + 2, none⟩ = false := HSv.out.hon.free _
  have h3 : w3.cell? ⟨bc, c * 11 + 3, none⟩ = some (.int .u64 y2) := by have := HSv.out.hon.cell (c * 11 + 3); rw [flat_get encH_len S.hs c hc 3 (by decide), HY.out] at this; exact this
  have fc3 : w3.frozen? ⟨bc, c * 11 + 3, none⟩ = false := HSv.out.hon.free _
  have h4 : w3.cell? ⟨bc, c * 11 + 4, none⟩ = some (.int .u64 y3) := by have := HSv.out.hon.cell (c * 11 + 4); rw [flat_get encH_len S.hs c hc 4 (by decide), HY.out] at this; exact this
  have fc4 : w3.frozen? ⟨bc, c * 11 + 4, none⟩ = false := HSv.out.hon.free _
  have h5 : w3.cell? ⟨bc, c * 11 + 5, none⟩ = some (.int .u64 y4) := by have := HSv.out.hon.cell (c * 11 + 5); rw [flat_get encH_len S.hs c hc 5 (by decide), HY.out] at this; exact this
  have fc5 : w3.frozen? ⟨bc, c * 11 + 5, none⟩ = false := HSv.out.hon.free _
  have h6 : w3.cell? ⟨bc, c * 11 + 6, none⟩ = some (.int .u64 y5) := by have := HSv.out.hon.cell (c * 11 + 6); rw [flat_get encH_len S.hs c hc 6 (by decide), HY.out] at this; exact this
  have fc6 : w3.frozen? ⟨bc, c * 11 + 6, none⟩ = false := HSv.out.hon.free _
  have h7 : w3.cell? ⟨bc, c * 11 + 7, none⟩ = some (.int .u64 y6) := by have := HSv.out.hon.cell (c * 11 + 7); rw [flat_get encH_len S.hs c hc 7 (by decide), HY.out] at this; exact this
  have fc7 : w3.frozen? ⟨bc, c * 11 + 7, none⟩ = false := HSv.out.hon.free _
  have h8 : w3.cell? ⟨bc, c * 11 + 8, none⟩ = some (.int .u64 y7) := by have := HSv.out.hon.cell (c * 11 + 8); rw [flat_get encH_len S.hs c hc 8 (by decide), HY.out] at this; exact this
  have fc8 : w3.frozen? ⟨bc, c * 11 + 8, none⟩ = false := HSv.out.hon.free _
  have h9 : w3.cell? ⟨bc, c * 11 + 9, none⟩ = some (.bool true) := by have := HSv.out.hon.cell (c * 11 + 9); rw [flat_get encH_len S.hs c hc 9 (by decide), HY.out] at this; exact this
  have fc9 : w3.frozen? ⟨bc, c * 11 + 9, none⟩ = false := HSv.out.hon.free _
  have h10 : w3.cell? ⟨bc, c * 11 + 10, none⟩ = some (.bool yb) := by have := HSv.out.hon.cell (c * 11 + 10); rw [flat_get encH_len S.hs c hc 10 (by decide), HY.out] at this; exact this
  have fc10 : w3.frozen? ⟨bc, c * 11 + 10, none⟩ = false := HSv.out.hon.free _
  have xlt : bx < w3.heap.size := HBx2.out.lt; have blt : b < w3.heap.size := HSv.out.blk.lt; have clt : bc < w3.heap.size := HSv.out.hon.lt; have mlt : bm0 < w3.heap.size := HB.out.lt
  have hn7 : bx ≠ bc := HAx.out.nc; have hn8 : b ≠ bc := HSv.out.ne; have hn9 : bm0 ≠ bc := HBn.out.nc
  have hT1 : Chg [bc] w3 (((((((((((w3.setCell ⟨bc, c * 11, none⟩ (.int .i64 2)).setCell ⟨bc, c * 11 + 1, none⟩ (.int .u64 S.val)).setCell ⟨bc, c * 11 + 2, none⟩ (.int .u64 x1)).setCell ⟨bc, c * 11 + 3, none⟩ (.int .u64 x2)).setCell ⟨bc, c * 11 + 4, none⟩ (.int .u64 x3)).setCell ⟨bc, c * 11 + 5, none⟩ (.int .u64 x4)).setCell ⟨bc, c * 11 + 6, none⟩ (.int .u64 x5)).setCell ⟨bc, c * 11 + 7, none⟩ (.int .u64 x6)).setCell ⟨bc, c * 11 + 8, none⟩ (.int .u64 x7)).setCell ⟨bc, c * 11 + 9, none⟩ (.bool false)).setCell ⟨bc, c * 11 + 10, none⟩ (.bool yb)).drew := (hon_set11 HSv.out.hon hc ⟨2, ⟨S.val, x1, x2, x3, x4, x5, x6, x7⟩, false, yb⟩).2.drew
  have hq1 : b ∉ [bc] := by simpa using hn8
  have hq2 : bm0 ∉ [bc] := by simpa using hn9
  have hq3 : bx ∉ [bc] := by simpa using hn7
  go_region_held3 (fun w' => w'.cell? ⟨b, 1, none⟩ = some (.slice (some ⟨bc, 0, none⟩) S.hs.length S.hs.length) ∧ w'.cell? ⟨bm0, 1, none⟩ = some (.int .i64 (c : Int)) ∧ w'.cell? ⟨bx, 0, none⟩ = some (.int .i64 2) ∧ w'.cell? ⟨bx, 1, none⟩ = some (.int .u64 S.val) ∧ w'.cell? ⟨bx, 2, none⟩ = some (.int .u64 x1) ∧ w'.cell? ⟨bx, 3, none⟩ = some (.int .u64 x2) ∧ w'.cell? ⟨bx, 4, none⟩ = some (.int .u64 x3) ∧ w'.cell? ⟨bx, 5, none⟩ = some (.int .u64 x4) ∧ w'.cell? ⟨bx, 6, none⟩ = some (.int .u64 x5) ∧ w'.cell? ⟨bx, 7, none⟩ = some (.int .u64 x6) ∧ w'.cell? ⟨bx, 8, none⟩ = some (.int .u64 x7) ∧ w'.cell? ⟨bx, 9, none⟩ = some (.bool false) ∧ w'.cell? ⟨bx, 10, none⟩ = some (.bool yb)) (first | with_reducible exact ⟨b1, m1, x_0, x_1, x_2, x_3, x_4, x_5, x_6, x_7, x_8, x_9, x_10⟩ | with_reducible exact ⟨(hT1.cell blt hq1 _).trans b1, (hT1.cell mlt hq2 _).trans m1, (hT1.cell xlt hq3 _).trans x_0, (hT1.cell xlt hq3 _).trans x_1, (hT1.cell xlt hq3 _).trans x_2, (hT1.cell xlt hq3 _).trans x_3, (hT1.cell xlt hq3 _).trans x_4, (hT1.cell xlt hq3 _).trans x_5, (hT1.cell xlt hq3 _).trans x_6, (hT1.cell xlt hq3 _).trans x_7, (hT1.cell xlt hq3 _).trans x_8, (hT1.cell xlt hq3 _).trans x_9, (hT1.cell xlt hq3 _).trans x_10⟩ | go_keep) (fail)
  have hT0 := hon_set11 HSv.out.hon hc ⟨2, ⟨S.val, x1, x2, x3, x4, x5, x6, x7⟩, false, yb⟩
  have hT := And.intro hT0.1.drew hT0.2.drew
  clear hT0
  have hBk4 := hT.2.blk HBk2.out (by simpa using HAk.out.nc)
  have hS4 := HSv.out.honTurn (hs' := S.hs.set c ⟨2, ⟨S.val, x1, x2, x3, x4, x5, x6, x7⟩, false, yb⟩) (by rw [List.length_set]) hT.2 hT.1
  have HSv4 := Lib.hid hS4.1; have HBl4 := Lib.hid (HBl.out.trans hS4.2)
  have HBk4 := Lib.hid hBk4
  clear hT hT1 hq1 hq2 hq3 hS4 HSv HBl m1 b1 xlt blt clt mlt hBk4 x_0 h0 fc0 x_1 h1 fc1 x_2 h2 fc2 x_3 h3 fc3 x_4 h4 fc4 x_5 h5 fc5 x_6 h6 fc6 x_7 h7 fc7 x_8 h8 fc8 x_9 h9 fc9 x_10 h10 fc10
  generalize World.drew _ = w4 at *
  have k_0 : w4.cell? ⟨bk, 0, none⟩ = some (.int .i64 7) := HBk4.out.cell 0
  have k_1 : w4.cell? ⟨bk, 1, none⟩ = some (.int .i64 (c : Int)) := HBk4.out.cell 1
  have k_2 : w4.cell? ⟨bk, 2, none⟩ = some (.int .i64 l) := HBk4.out.cell 2
  have k_3 : w4.cell? ⟨bk, 3, none⟩ = some (.int .u64 0) := HBk4.out.cell 3
  have k_4 : w4.cell? ⟨bk, 4, none⟩ = some (.int .u64 0) := HBk4.out.cell 4
  have k_5 : w4.cell? ⟨bk, 5, none⟩ = some (.int .u64 0) := HBk4.out.cell 5
  have k_6 : w4.cell? ⟨bk, 6, none⟩ = some (.int .u64 0) := HBk4.out.cell 6
  have k_7 : w4.cell? ⟨bk, 7, none⟩ = some (.int .u64 0) := HBk4.out.cell 7
  have k_8 : w4.cell? ⟨bk, 8, none⟩ = some (.int .u64 0) := HBk4.out.cell 8
  have k_9 : w4.cell? ⟨bk, 9, none⟩ = some (.int .u64 0) := HBk4.out.cell 9
  have k_10 : w4.cell? ⟨bk, 10, none⟩ = some (.int .u64 0) := HBk4.out.cell 10
  have klt : bk < w4.heap.size := HBk4.out.lt; have blt : b < w4.heap.size := HSv4.out.blk.lt
  have b2 : w4.cell? ⟨b, 2, none⟩ = some vi := HSv4.out.blk.cell 2; have f2 : w4.frozen? ⟨b, 2, none⟩ = false := HSv4.out.blk.free 2
  have HNr := Lib.hid HSv4.out.notRow.1.1
  have HOw : Hid (w4.drew.ownsRow N0 33 11 vi S.inn.length (S.inn.flatMap encM)) := Lib.hid HSv4.out.inn
  go_upto_region 30 with fail
  go_region_law (refine step_append_row (by rfl) (.tmp 128) (.tmp 130) (by rfl) j0 hj hz0 hz1 hz2 (by rfl) (HOw.out.alloc _) ⟨w4.heap.size, 0, none⟩ 1 (by rfl) ⟨7, (c : Int), l, ⟨0, 0, 0, 0, 0, 0, 0, 0⟩⟩ (cells_new w4.drew [.int .i64 7, .int .i64 (c : Int), .int .i64 l, .int .u64 0, .int .u64 0, .int .u64 0, .int .u64 0, .int .u64 0, .int .u64 0, .int .u64 0, .int .u64 0] _) (by have := HLn.out; omega) (Nat.le_trans HSv4.out.lo.2.2 (by simp)) ?_; intro v5 w5 ho5 hg5 hb5; have hk5 := (((Chg.refl (rowB vi) w4).drew).alloc (.cells #[.int .i64 7, .int .i64 (c : Int), .int .i64 l, .int .u64 0, .int .u64 0, .int .u64 0, .int .u64 0, .int .u64 0, .int .u64 0, .int .u64 0, .int .u64 0] 33)).trans (Chg.of_grown hg5); have hr5 := rowB_grew hb5 (n := w4.heap.size) (by simp); have HO5 := Lib.hid ho5; have HK5 := Lib.hid hk5; have HR5 := Lib.hid hr5; obtain ⟨A5, c5, hv5, _, _, _, _⟩ := ownsRow_cell ho5; clear ho5 hg5 hb5 hk5 hr5; subst hv5; have q2 : w5.cell? ⟨b, 2, none⟩ = some vi := (HK5.out.cell blt HNr.out 2).trans b2; have g2 : w5.frozen? ⟨b, 2, none⟩ = false := (HK5.out.blk HSv4.out.blk HNr.out).free 2)
  all_goals (have hG := HSv4.out.innNew (inn' := S.inn ++ [⟨7, (c : Int), l, {}⟩]) HK5.out (by rw [List.length_append, List.flatMap_append]; exact HO5.out) HR5.out; have HZ := Lib.hid (And.intro hG.1 (HBl4.out.trans hG.2)); clear hG; refine bodyPost_ret (results_none rfl _ _ _) rfl ?_; exact ⟨rfl, ⟨_, _, _, HZ.out.1⟩, HZ.out.2⟩)


set_option maxHeartbeats 8000000 in
theorem wans_16 {N0 : Nat} {w : World} {b d bm bw bl bc : Nat} {vi vo : Value} {es : List EntV} {e0 : EntV} {S : SvS} {made got : Int} (c : Nat) (hc : c < S.hs.length) (l x0 x1 x2 x3 x4 x5 x6 x7 ys y0 y1 y2 y3 y4 y5 y6 y7 : Int) (ya yb : Bool) (hy : S.hs[c] = ⟨ys, ⟨y0, y1, y2, y3, y4, y5, y6, y7⟩, ya, yb⟩) (hlen : S.inn.length ≤ 1000) (hcl : S.hs.length ≤ 4) (hx : yb = true) (H : SvW N0 w b d bm bw bl bc vi vo es e0 S made got) :
    Calls Try.prog 35 #[.pointer (some ⟨b, 0, none⟩), .agg #[.int .i64 16, .int .i64 (c : Int), .int .i64 l, .int .u64 x0, .int .u64 x1, .int .u64 x2, .int .u64 x3, .int .u64 x4, .int .u64 x5, .int .u64 x6, .int .u64 x7]] w (SvPost N0 w b d bm bw bl bc e0 { S with hs := S.hs.set c ⟨ys, ⟨y0, y1, y2, y3, y4, y5, y6, y7⟩, ya, false⟩, inn := S.inn } made got) := by
  obtain ⟨j0, hj, hz0, hz1, hz2⟩ := info_parts infoMsg
  have hal : Chg [] w (w.alloc (.cells #[.int .i64 16, .int .i64 (c : Int), .int .i64 l, .int .u64 x0, .int .u64 x1, .int .u64 x2, .int .u64 x3, .int .u64 x4, .int .u64 x5, .int .u64 x6, .int .u64 x7] 33)) := (Chg.refl [] w).alloc _
  have HSv := Lib.hid (H.look hal)
  have HB := Lib.hid (Blk.new w [.int .i64 16, .int .i64 (c : Int), .int .i64 l, .int .u64 x0, .int .u64 x1, .int .u64 x2, .int .u64 x3, .int .u64 x4, .int .u64 x5, .int .u64 x6, .int .u64 x7] 33)
  have HBl := Lib.hid (hal.to_below (B := N0) (fun x hx => absurd hx (by simp)) H.lo.2.2)
  have HBn := Lib.hid (H.fresh (x := w.heap.size) (Nat.le_refl _))
  have HY := Lib.hid hy; have HLn := Lib.hid hlen; have HX := Lib.hid hx
  subst hx
  have hnl : (S.hs.length : Int) ≤ 4 := by omega
  have hci : (c : Int) < S.hs.length := by omega
  have hc0 : (0 : Int) ≤ c := Int.natCast_nonneg _
  clear hal H hy hlen
  go_enter Try.func35, Try.ntmps35
  go_upto_region 1 with fail
  generalize World.alloc _ _ = wa at *
  obtain ⟨bm0, hb⟩ : ∃ b, w.heap.size = b := ⟨_, rfl⟩
  rw [hb] at HB HBn ⊢
  clear hb
  have m0 : wa.cell? ⟨bm0, 0, none⟩ = some (.int .i64 16) := HB.out.cell 0
  have m1 : wa.cell? ⟨bm0, 1, none⟩ = some (.int .i64 (c : Int)) := HB.out.cell 1
  have m2 : wa.cell? ⟨bm0, 2, none⟩ = some (.int .i64 l) := HB.out.cell 2
  have m3 : wa.cell? ⟨bm0, 3, none⟩ = some (.int .u64 x0) := HB.out.cell 3
  have m4 : wa.cell? ⟨bm0, 4, none⟩ = some (.int .u64 x1) := HB.out.cell 4
  have m5 : wa.cell? ⟨bm0, 5, none⟩ = some (.int .u64 x2) := HB.out.cell 5
  have m6 : wa.cell? ⟨bm0, 6, none⟩ = some (.int .u64 x3) := HB.out.cell 6
  have m7 : wa.cell? ⟨bm0, 7, none⟩ = some (.int .u64 x4) := HB.out.cell 7
  have m8 : wa.cell? ⟨bm0, 8, none⟩ = some (.int .u64 x5) := HB.out.cell 8
  have m9 : wa.cell? ⟨bm0, 9, none⟩ = some (.int .u64 x6) := HB.out.cell 9
  have m10 : wa.cell? ⟨bm0, 10, none⟩ = some (.int .u64 x7) := HB.out.cell 10
  have mlt : bm0 < wa.heap.size := HB.out.lt
  have b1 : wa.cell? ⟨b, 1, none⟩ = some (.slice (some ⟨bc, 0, none⟩) S.hs.length S.hs.length) := HSv.out.blk.cell 1
  have h0 : wa.cell? ⟨bc, c * 11, none⟩ = some (.int .i64 ys) := by have := HSv.out.hon.cell (c * 11 + 0); rw [flat_get encH_len S.hs c hc 0 (by decide), HY.out] at this; exact this
  have h1 : wa.cell? ⟨bc, c * 11 + 1, none⟩ = some (.int .u64 y0) := by have := HSv.out.hon.cell (c * 11 + 1); rw [flat_get encH_len S.hs c hc 1 (by decide), HY.out] at this; exact this
  have h2 : wa.cell? ⟨bc, c * 11 + 2, none⟩ = some (.int .u64 y1) := by have := HSv.out.hon.cell (c * 11 + 2); rw [flat_get encH_len S.hs c hc 2 (by decide), HY.out] at this; exact this
  have h3 : wa.cell? ⟨bc, c * 11 + 3, none⟩ = some (.int .u64 y2) := by have := HSv.out.hon.cell (c * 11 + 3); rw [flat_get encH_len S.hs c hc 3 (by decide), HY.out] at this; exact this
  have h4 : wa.cell? ⟨bc, c * 11 + 4, none⟩ = some (.int .u64 y3) := by have := HSv.out.hon.cell (c * 11 + 4); rw [flat_get encH_len S.hs c hc 4 (by decide), HY.out] at this; exact this
  have h5 : wa.cell? ⟨bc, c * 11 + 5, none⟩ = some (.int .u64 y4) := by have := HSv.out.hon.cell (c * 11 + 5); rw [flat_get encH_len S.hs c hc 5 (by decide), HY.out] at this; exact this
  have h6 : wa.cell? ⟨bc, c * 11 + 6, none⟩ = some (.int .u64 y5) := by have := HSv.out.hon.cell (c * 11 + 6); rw [flat_get encH_len S.hs c hc 6 (by decide), HY.out] at this; exact this
  have h7 : wa.cell? ⟨bc, c * 11 + 7, none⟩ = some (.int .u64 y6) := by have := HSv.out.hon.cell (c * 11 + 7); rw [flat_get encH_len S.hs c hc 7 (by decide), HY.out] at this; exact this
  have h8 : wa.cell? ⟨bc, c * 11 + 8, none⟩ = some (.int .u64 y7) := by have := HSv.out.hon.cell (c * 11 + 8); rw [flat_get encH_len S.hs c hc 8 (by decide), HY.out] at this; exact this
  have h9 : wa.cell? ⟨bc, c * 11 + 9, none⟩ = some (.bool ya) := by have := HSv.out.hon.cell (c * 11 + 9); rw [flat_get encH_len S.hs c hc 9 (by decide), HY.out] at this; exact this
  have h10 : wa.cell? ⟨bc, c * 11 + 10, none⟩ = some (.bool true) := by have := HSv.out.hon.cell (c * 11 + 10); rw [flat_get encH_len S.hs c hc 10 (by decide), HY.out] at this; exact this
  have blt : b < wa.heap.size := HSv.out.blk.lt
  have clt : bc < wa.heap.size := HSv.out.hon.lt
  go_region_held3 (fun w' => w'.cell? ⟨b, 1, none⟩ = some (.slice (some ⟨bc, 0, none⟩) S.hs.length S.hs.length) ∧ w'.cell? ⟨bm0, 1, none⟩ = some (.int .i64 (c : Int)) ∧ w'.cell? ⟨bc, c * 11, none⟩ = some (.int .i64 ys) ∧ w'.cell? ⟨bc, c * 11 + 1, none⟩ = some (.int .u64 y0) ∧ w'.cell? ⟨bc, c * 11 + 2, none⟩ = some (.int .u64 y1) ∧ w'.cell? ⟨bc, c * 11 + 3, none⟩ = some (.int .u64 y2) ∧ w'.cell? ⟨bc, c * 11 + 4, none⟩ = some (.int .u64 y3) ∧ w'.cell? ⟨bc, c * 11 + 5, none⟩ = some (.int .u64 y4) ∧ w'.cell? ⟨bc, c * 11 + 6, none⟩ = some (.int .u64 y5) ∧ w'.cell? ⟨bc, c * 11 + 7, none⟩ = some (.int .u64 y6) ∧ w'.cell? ⟨bc, c * 11 + 8, none⟩ = some (.int .u64 y7) ∧ w'.cell? ⟨bc, c * 11 + 9, none⟩ = some (.bool ya) ∧ w'.cell? ⟨bc, c * 11 + 10, none⟩ = some (.bool true)) (first | with_reducible exact ⟨b1, m1, h0, h1, h2, h3, h4, h5, h6, h7, h8, h9, h10⟩ | go_keep) (fail)
  clear m0 h0 m1 h1 m2 h2 m3 h3 m4 h4 m5 h5 m6 h6 m7 h7 m8 h8 m9 h9 m10 h10 b1
  have hk1 := ((Chg.refl [] wa).alloc (.cells #[.int .i64 ys, .int .u64 y0, .int .u64 y1, .int .u64 y2, .int .u64 y3, .int .u64 y4, .int .u64 y5, .int .u64 y6, .int .u64 y7, .bool ya, .bool true] 91)).drew
  have HBx := Lib.hid (Blk.drew (Blk.new wa [.int .i64 ys, .int .u64 y0, .int .u64 y1, .int .u64 y2, .int .u64 y3, .int .u64 y4, .int .u64 y5, .int .u64 y6, .int .u64 y7, .bool ya, .bool true] 91))
  have HAx := Lib.hid (HSv.out.fresh (x := wa.heap.size) (Nat.le_refl _))
  have hbx : bm0 < wa.heap.size := mlt
  replace HBl := Lib.hid (HBl.out.trans (hk1.to_below (B := N0) (fun x hx => absurd hx (by simp)) (HSv.out.lo.2.2))); replace HSv := Lib.hid (HSv.out.look hk1); replace HB := Lib.hid (hk1.blk HB.out (by simp))
  clear hk1 mlt blt clt
  generalize World.drew _ = w1 at *
  obtain ⟨bx, hbxx⟩ : ∃ b, wa.heap.size = b := ⟨_, rfl⟩
  rw [hbxx] at HBx HAx hbx ⊢
  clear hbxx
  have xlt : bx < w1.heap.size := HBx.out.lt
  have m0 : w1.cell? ⟨bm0, 0, none⟩ = some (.int .i64 16) := HB.out.cell 0
  have m1 : w1.cell? ⟨bm0, 1, none⟩ = some (.int .i64 (c : Int)) := HB.out.cell 1
  have m2 : w1.cell? ⟨bm0, 2, none⟩ = some (.int .i64 l) := HB.out.cell 2
  have m3 : w1.cell? ⟨bm0, 3, none⟩ = some (.int .u64 x0) := HB.out.cell 3
  have m4 : w1.cell? ⟨bm0, 4, none⟩ = some (.int .u64 x1) := HB.out.cell 4
  have m5 : w1.cell? ⟨bm0, 5, none⟩ = some (.int .u64 x2) := HB.out.cell 5
  have m6 : w1.cell? ⟨bm0, 6, none⟩ = some (.int .u64 x3) := HB.out.cell 6
  have m7 : w1.cell? ⟨bm0, 7, none⟩ = some (.int .u64 x4) := HB.out.cell 7
  have m8 : w1.cell? ⟨bm0, 8, none⟩ = some (.int .u64 x5) := HB.out.cell 8
  have m9 : w1.cell? ⟨bm0, 9, none⟩ = some (.int .u64 x6) := HB.out.cell 9
  have m10 : w1.cell? ⟨bm0, 10, none⟩ = some (.int .u64 x7) := HB.out.cell 10
  have mlt : bm0 < w1.heap.size := HB.out.lt
  go_upto_region 3 with fail
  have hk2 := (Chg.refl [] w1).alloc (.cells #[.int .i64 0, .int .i64 (c : Int), .int .i64 l, .int .u64 0, .int .u64 0, .int .u64 0, .int .u64 0, .int .u64 0, .int .u64 0, .int .u64 0, .int .u64 0] 33)
  have HBk := Lib.hid (Blk.new w1 [.int .i64 0, .int .i64 (c : Int), .int .i64 l, .int .u64 0, .int .u64 0, .int .u64 0, .int .u64 0, .int .u64 0, .int .u64 0, .int .u64 0, .int .u64 0] 33)
  have HAk := Lib.hid (HSv.out.fresh (x := w1.heap.size) (Nat.le_refl _))
  have hbk1 : bm0 < w1.heap.size := mlt; have hbk2 : bx < w1.heap.size := xlt
  replace HBl := Lib.hid (HBl.out.trans (hk2.to_below (B := N0) (fun x hx => absurd hx (by simp)) (HSv.out.lo.2.2))); replace HSv := Lib.hid (HSv.out.look hk2); replace HB := Lib.hid (hk2.blk HB.out (by simp)); replace HBx := Lib.hid (hk2.blk HBx.out (by simp))
  clear hk2 mlt xlt m0 m1 m2 m3 m4 m5 m6 m7 m8 m9 m10
  generalize World.alloc _ _ = w2 at *
  obtain ⟨bk, hbkk⟩ : ∃ b, w1.heap.size = b := ⟨_, rfl⟩
  rw [hbkk] at HBk HAk hbk1 hbk2 ⊢
  clear hbkk
  have hn1 : bm0 ≠ bx := by omega
  have hn2 : bm0 ≠ bk := by omega
  have hn3 : bx ≠ bk := by omega
  have hn4 : bm0 ≠ b := HBn.out.nb; have hn5 : bx ≠ b := HAx.out.nb; have hn6 : bk ≠ b := HAk.out.nb
  have m0 : w2.cell? ⟨bm0, 0, none⟩ = some (.int .i64 16) := HB.out.cell 0
  have m1 : w2.cell? ⟨bm0, 1, none⟩ = some (.int .i64 (c : Int)) := HB.out.cell 1
  have m2 : w2.cell? ⟨bm0, 2, none⟩ = some (.int .i64 l) := HB.out.cell 2
  have m3 : w2.cell? ⟨bm0, 3, none⟩ = some (.int .u64 x0) := HB.out.cell 3
  have m4 : w2.cell? ⟨bm0, 4, none⟩ = some (.int .u64 x1) := HB.out.cell 4
  have m5 : w2.cell? ⟨bm0, 5, none⟩ = some (.int .u64 x2) := HB.out.cell 5
  have m6 : w2.cell? ⟨bm0, 6, none⟩ = some (.int .u64 x3) := HB.out.cell 6
  have m7 : w2.cell? ⟨bm0, 7, none⟩ = some (.int .u64 x4) := HB.out.cell 7
  have m8 : w2.cell? ⟨bm0, 8, none⟩ = some (.int .u64 x5) := HB.out.cell 8
  have m9 : w2.cell? ⟨bm0, 9, none⟩ = some (.int .u64 x6) := HB.out.cell 9
  have m10 : w2.cell? ⟨bm0, 10, none⟩ = some (.int .u64 x7) := HB.out.cell 10
  have mlt : bm0 < w2.heap.size := HB.out.lt
  have x_0 : w2.cell? ⟨bx, 0, none⟩ = some (.int .i64 ys) := HBx.out.cell 0
  have g_0 : w2.frozen? ⟨bx, 0, none⟩ = false := HBx.out.free 0
  have x_1 : w2.cell? ⟨bx, 1, none⟩ = some (.int .u64 y0) := HBx.out.cell 1
  have g_1 : w2.frozen? ⟨bx, 1, none⟩ = false := HBx.out.free 1
  have x_2 : w2.cell? ⟨bx, 2, none⟩ = some (.int .u64 y1) := HBx.out.cell 2
  have g_2 : w2.frozen? ⟨bx, 2, none⟩ = false := HBx.out.free 2
  have x_3 : w2.cell? ⟨bx, 3, none⟩ = some (.int .u64 y2) := HBx.out.cell 3
  have g_3 : w2.frozen? ⟨bx, 3, none⟩ = false := HBx.out.free 3
  have x_4 : w2.cell? ⟨bx, 4, none⟩ = some (.int .u64 y3) := HBx.out.cell 4
  have g_4 : w2.frozen? ⟨bx, 4, none⟩ = false := HBx.out.free 4
  have x_5 : w2.cell? ⟨bx, 5, none⟩ = some (.int .u64 y4) := HBx.out.cell 5
  have g_5 : w2.frozen? ⟨bx, 5, none⟩ = false := HBx.out.free 5
  have x_6 : w2.cell? ⟨bx, 6, none⟩ = some (.int .u64 y5) := HBx.out.cell 6
  have g_6 : w2.frozen? ⟨bx, 6, none⟩ = false := HBx.out.free 6
  have x_7 : w2.cell? ⟨bx, 7, none⟩ = some (.int .u64 y6) := HBx.out.cell 7
  have g_7 : w2.frozen? ⟨bx, 7, none⟩ = false := HBx.out.free 7
  have x_8 : w2.cell? ⟨bx, 8, none⟩ = some (.int .u64 y7) := HBx.out.cell 8
  have g_8 : w2.frozen? ⟨bx, 8, none⟩ = false := HBx.out.free 8
  have x_9 : w2.cell? ⟨bx, 9, none⟩ = some (.bool ya) := HBx.out.cell 9
  have g_9 : w2.frozen? ⟨bx, 9, none⟩ = false := HBx.out.free 9
  have x_10 : w2.cell? ⟨bx, 10, none⟩ = some (.bool true) := HBx.out.cell 10
  have g_10 : w2.frozen? ⟨bx, 10, none⟩ = false := HBx.out.free 10
  have k_0 : w2.cell? ⟨bk, 0, none⟩ = some (.int .i64 0) := HBk.out.cell 0
  have l_0 : w2.frozen? ⟨bk, 0, none⟩ = false := HBk.out.free 0
  have k_1 : w2.cell? ⟨bk, 1, none⟩ = some (.int .i64 (c : Int)) := HBk.out.cell 1
  have l_1 : w2.frozen? ⟨bk, 1, none⟩ = false := HBk.out.free 1
  have k_2 : w2.cell? ⟨bk, 2, none⟩ = some (.int .i64 l) := HBk.out.cell 2
  have l_2 : w2.frozen? ⟨bk, 2, none⟩ = false := HBk.out.free 2
  have k_3 : w2.cell? ⟨bk, 3, none⟩ = some (.int .u64 0) := HBk.out.cell 3
  have l_3 : w2.frozen? ⟨bk, 3, none⟩ = false := HBk.out.free 3
  have k_4 : w2.cell? ⟨bk, 4, none⟩ = some (.int .u64 0) := HBk.out.cell 4
  have l_4 : w2.frozen? ⟨bk, 4, none⟩ = false := HBk.out.free 4
  have k_5 : w2.cell? ⟨bk, 5, none⟩ = some (.int .u64 0) := HBk.out.cell 5
  have l_5 : w2.frozen? ⟨bk, 5, none⟩ = false := HBk.out.free 5
  have k_6 : w2.cell? ⟨bk, 6, none⟩ = some (.int .u64 0) := HBk.out.cell 6
  have l_6 : w2.frozen? ⟨bk, 6, none⟩ = false := HBk.out.free 6
  have k_7 : w2.cell? ⟨bk, 7, none⟩ = some (.int .u64 0) := HBk.out.cell 7
  have l_7 : w2.frozen? ⟨bk, 7, none⟩ = false := HBk.out.free 7
  have k_8 : w2.cell? ⟨bk, 8, none⟩ = some (.int .u64 0) := HBk.out.cell 8
  have l_8 : w2.frozen? ⟨bk, 8, none⟩ = false := HBk.out.free 8
  have k_9 : w2.cell? ⟨bk, 9, none⟩ = some (.int .u64 0) := HBk.out.cell 9
  have l_9 : w2.frozen? ⟨bk, 9, none⟩ = false := HBk.out.free 9
  have k_10 : w2.cell? ⟨bk, 10, none⟩ = some (.int .u64 0) := HBk.out.cell 10
  have l_10 : w2.frozen? ⟨bk, 10, none⟩ = false := HBk.out.free 10
  have xlt : bx < w2.heap.size := HBx.out.lt
  have klt : bk < w2.heap.size := HBk.out.lt
  have blt : b < w2.heap.size := HSv.out.blk.lt
  have b1 : w2.cell? ⟨b, 1, none⟩ = some (.slice (some ⟨bc, 0, none⟩) S.hs.length S.hs.length) := HSv.out.blk.cell 1
  have f1 : w2.frozen? ⟨b, 1, none⟩ = false := HSv.out.blk.free 1
  have b2 : w2.cell? ⟨b, 2, none⟩ = some (vi) := HSv.out.blk.cell 2
  have f2 : w2.frozen? ⟨b, 2, none⟩ = false := HSv.out.blk.free 2
  have b5 : w2.cell? ⟨b, 5, none⟩ = some (.int .i64 got) := HSv.out.blk.cell 5
  have f5 : w2.frozen? ⟨b, 5, none⟩ = false := HSv.out.blk.free 5
  have b6 : w2.cell? ⟨b, 6, none⟩ = some (.int .u64 S.val) := HSv.out.blk.cell 6
  have f6 : w2.frozen? ⟨b, 6, none⟩ = false := HSv.out.blk.free 6
  have b7 : w2.cell? ⟨b, 7, none⟩ = some (.bool true) := HSv.out.blk.cell 7
  have f7 : w2.frozen? ⟨b, 7, none⟩ = false := HSv.out.blk.free 7
  go_upto_region 28 with fail
  have hF := HSv.out.field 7 (.bool true) S.val made got rfl
  replace HBl := Lib.hid (HBl.out.trans hF.2); replace HSv := Lib.hid hF.1; clear hF
  replace HB := Lib.hid (HB.out.other (a := ⟨b, 7, none⟩) (Ne.symm hn4) (.bool true))
  replace HBx := Lib.hid (HBx.out.other (a := ⟨b, 7, none⟩) (Ne.symm hn5) (.bool true))
  replace HBk := Lib.hid (HBk.out.other (a := ⟨b, 7, none⟩) (Ne.symm hn6) (.bool true))
  have hF := SvW.aside HSv.out ((Chg.refl [bx] _).setCell (p := ⟨bx, 10, none⟩) (fun _ => List.mem_singleton.2 rfl) (.bool false)) (fun x hx => by rw [List.mem_singleton.1 hx]; exact HAx.out)
  replace HBl := Lib.hid (HBl.out.trans hF.2); replace HSv := Lib.hid hF.1; clear hF
  replace HBx := Lib.hid (HBx.out.set 10 (.bool false))
  replace HBk := Lib.hid (HBk.out.other (a := ⟨bx, 10, none⟩) (hn3) (.bool false))
  replace HB := Lib.hid (HB.out.other (a := ⟨bx, 10, none⟩) (Ne.symm hn1) (.bool false))
  have HBx2 : Hid (Blk _ bx [.int .i64 ys, .int .u64 y0, .int .u64 y1, .int .u64 y2, .int .u64 y3, .int .u64 y4, .int .u64 y5, .int .u64 y6, .int .u64 y7, .bool ya, .bool false] 91) := HBx
  clear HBx HBk
  clear mlt xlt klt blt m0 m1 m2 m3 m4 m5 m6 m7 m8 m9 m10 x_0 g_0 k_0 l_0 x_1 g_1 k_1 l_1 x_2 g_2 k_2 l_2 x_3 g_3 k_3 l_3 x_4 g_4 k_4 l_4 x_5 g_5 k_5 l_5 x_6 g_6 k_6 l_6 x_7 g_7 k_7 l_7 x_8 g_8 k_8 l_8 x_9 g_9 k_9 l_9 x_10 g_10 k_10 l_10 b1 f1 b2 f2 b5 f5 b6 f6 b7 f7
  generalize World.setCell _ _ _ = w3 at *
  have m1 : w3.cell? ⟨bm0, 1, none⟩ = some (.int .i64 (c : Int)) := HB.out.cell 1
  have b1 : w3.cell? ⟨b, 1, none⟩ = some (.slice (some ⟨bc, 0, none⟩) S.hs.length S.hs.length) := HSv.out.blk.cell 1
  have x_0 : w3.cell? ⟨bx, 0, none⟩ = some (.int .i64 ys) := HBx2.out.cell 0
  have x_1 : w3.cell? ⟨bx, 1, none⟩ = some (.int .u64 y0) := HBx2.out.cell 1
  have x_2 : w3.cell? ⟨bx, 2, none⟩ = some (.int .u64 y1) := HBx2.out.cell 2
  have x_3 : w3.cell? ⟨bx, 3, none⟩ = some (.int .u64 y2) := HBx2.out.cell 3
  have x_4 : w3.cell? ⟨bx, 4, none⟩ = some (.int .u64 y3) := HBx2.out.cell 4
  have x_5 : w3.cell? ⟨bx, 5, none⟩ = some (.int .u64 y4) := HBx2.out.cell 5
  have x_6 : w3.cell? ⟨bx, 6, none⟩ = some (.int .u64 y5) := HBx2.out.cell 6
  have x_7 : w3.cell? ⟨bx, 7, none⟩ = some (.int .u64 y6) := HBx2.out.cell 7
  have x_8 : w3.cell? ⟨bx, 8, none⟩ = some (.int .u64 y7) := HBx2.out.cell 8
  have x_9 : w3.cell? ⟨bx, 9, none⟩ = some (.bool ya) := HBx2.out.cell 9
  have x_10 : w3.cell? ⟨bx, 10, none⟩ = some (.bool false) := HBx2.out.cell 10
  have h0 : w3.cell? ⟨bc, c * 11, none⟩ = some (.int .i64 ys) := by have := HSv.out.hon.cell (c * 11 + 0); rw [flat_get encH_len S.hs c hc 0 (by decide), HY.out] at this; exact this
  have fc0 : w3.frozen? ⟨bc, c * 11, none⟩ = false := HSv.out.hon.free _
  have h1 : w3.cell? ⟨bc, c * 11 + 1, none⟩ = some (.int .u64 y0) := by have := HSv.out.hon.cell (c * 11 + 1); rw [flat_get encH_len S.hs c hc 1 (by decide), HY.out] at this; exact this
  have fc1 : w3.frozen? ⟨bc, c * 11 + 1, none⟩ = false := HSv.out.hon.free _
  have h2 : w3.cell? ⟨bc, c * 11 + 2, none⟩ = some (.int .u64 y1) := by have := HSv.out.hon.cell (c * 11 + 2); rw [flat_get encH_len S.hs c hc 2 (by decide), HY.out] at this; exact this
  have fc2 : w3.frozen? ⟨bc, c * 11 + 2, none⟩ = false := HSv.out.hon.free _
  have h3 : w3.cell? ⟨bc, c * 11 + 3, none⟩ = some (.int .u64 y2) := by have := HSv.out.hon.cell (c * 11 + 3); rw [flat_get encH_len S.hs c hc 3 (by decide), HY.out] at this; exact this
  have fc3 : w3.frozen? ⟨bc, c * 11 + 3, none⟩ = false := HSv.out.hon.free _
  have h4 : w3.cell? ⟨bc, c * 11 + 4, none⟩ = some (.int .u64 y3) := by have := HSv.out.hon.cell (c * 11 + 4); rw [flat_get encH_len S.hs c hc 4 (by decide), HY.out] at this; exact this
  have fc4 : w3.frozen? ⟨bc, c * 11 + 4, none⟩ = false := HSv.out.hon.free _
  have h5 : w3.cell? ⟨bc, c * 11 + 5, none⟩ = some (.int .u64 y4) := by have := HSv.out.hon.cell (c * 11 + 5); rw [flat_get encH_len S.hs c hc 5 (by decide), HY.out] at this; exact this
  have fc5 : w3.frozen? ⟨bc, c * 11 + 5, none⟩ = false := HSv.out.hon.free _
  have h6 : w3.cell? ⟨bc, c * 11 + 6, none⟩ = some (.int .u64 y5) := by have := HSv.out.hon.cell (c * 11 + 6); rw [flat_get encH_len S.hs c hc 6 (by decide), HY.out] at this; exact this
  have fc6 : w3.frozen? ⟨bc, c * 11 + 6, none⟩ = false := HSv.out.hon.free _
  have h7 : w3.cell? ⟨bc, c * 11 + 7, none⟩ = some (.int .u64 y6) := by have := HSv.out.hon.cell (c * 11 + 7); rw [flat_get encH_len S.hs c hc 7 (by decide), HY.out] at this; exact this
  have fc7 : w3.frozen? ⟨bc, c * 11 + 7, none⟩ = false := HSv.out.hon.free _
  have h8 : w3.cell? ⟨bc, c * 11 + 8, none⟩ = some (.int .u64 y7) := by have := HSv.out.hon.cell (c * 11 + 8); rw [flat_get encH_len S.hs c hc 8 (by decide), HY.out] at this; exact this
  have fc8 : w3.frozen? ⟨bc, c * 11 + 8, none⟩ = false := HSv.out.hon.free _
  have h9 : w3.cell? ⟨bc, c * 11 + 9, none⟩ = some (.bool ya) := by have := HSv.out.hon.cell (c * 11 + 9); rw [flat_get encH_len S.hs c hc 9 (by decide), HY.out] at this; exact this
  have fc9 : w3.frozen? ⟨bc, c * 11 + 9, none⟩ = false := HSv.out.hon.free _
  have h10 : w3.cell? ⟨bc, c * 11 + 10, none⟩ = some (.bool true) := by have := HSv.out.hon.cell (c * 11 + 10); rw [flat_get encH_len S.hs c hc 10 (by decide), HY.out] at this; exact this
  have fc10 : w3.frozen? ⟨bc, c * 11 + 10, none⟩ = false := HSv.out.hon.free _
  have xlt : bx < w3.heap.size := HBx2.out.lt; have blt : b < w3.heap.size := HSv.out.blk.lt; have clt : bc < w3.heap.size := HSv.out.hon.lt; have mlt : bm0 < w3.heap.size := HB.out.lt
  have hn7 : bx ≠ bc := HAx.out.nc; have hn8 : b ≠ bc := HSv.out.ne; have hn9 : bm0 ≠ bc := HBn.out.nc
  have hT1 : Chg [bc] w3 (((((((((((w3.setCell ⟨bc, c * 11, none⟩ (.int .i64 ys)).setCell ⟨bc, c * 11 + 1, none⟩ (.int .u64 y0)).setCell ⟨bc, c * 11 + 2, none⟩ (.int .u64 y1)).setCell ⟨bc, c * 11 + 3, none⟩ (.int .u64 y2)).setCell ⟨bc, c * 11 + 4, none⟩ (.int .u64 y3)).setCell ⟨bc, c * 11 + 5, none⟩ (.int .u64 y4)).setCell ⟨bc, c * 11 + 6, none⟩ (.int .u64 y5)).setCell ⟨bc, c * 11 + 7, none⟩ (.int .u64 y6)).setCell ⟨bc, c * 11 + 8, none⟩ (.int .u64 y7)).setCell ⟨bc, c * 11 + 9, none⟩ (.bool ya)).setCell ⟨bc, c * 11 + 10, none⟩ (.bool false)).drew := (hon_set11 HSv.out.hon hc ⟨ys, ⟨y0, y1, y2, y3, y4, y5, y6, y7⟩, ya, false⟩).2.drew
  have hq1 : b ∉ [bc] := by simpa using hn8
  have hq2 : bm0 ∉ [bc] := by simpa using hn9
  have hq3 : bx ∉ [bc] := by simpa using hn7
  go_region_held3 (fun w' => w'.cell? ⟨b, 1, none⟩ = some (.slice (some ⟨bc, 0, none⟩) S.hs.length S.hs.length) ∧ w'.cell? ⟨bm0, 1, none⟩ = some (.int .i64 (c : Int)) ∧ w'.cell? ⟨bx, 0, none⟩ = some (.int .i64 ys) ∧ w'.cell? ⟨bx, 1, none⟩ = some (.int .u64 y0) ∧ w'.cell? ⟨bx, 2, none⟩ = some (.int .u64 y1) ∧ w'.cell? ⟨bx, 3, none⟩ = some (.int .u64 y2) ∧ w'.cell? ⟨bx, 4, none⟩ = some (.int .u64 y3) ∧ w'.cell? ⟨bx, 5, none⟩ = some (.int .u64 y4) ∧ w'.cell? ⟨bx, 6, none⟩ = some (.int .u64 y5) ∧ w'.cell? ⟨bx, 7, none⟩ = some (.int .u64 y6) ∧ w'.cell? ⟨bx, 8, none⟩ = some (.int .u64 y7) ∧ w'.cell? ⟨bx, 9, none⟩ = some (.bool ya) ∧ w'.cell? ⟨bx, 10, none⟩ = some (.bool false)) (first | with_reducible exact ⟨b1, m1, x_0, x_1, x_2, x_3, x_4, x_5, x_6, x_7, x_8, x_9, x_10⟩ | with_reducible exact ⟨(hT1.cell blt hq1 _).trans b1, (hT1.cell mlt hq2 _).trans m1, (hT1.cell xlt hq3 _).trans x_0, (hT1.cell xlt hq3 _).trans x_1, (hT1.cell xlt hq3 _).trans x_2, (hT1.cell xlt hq3 _).trans x_3, (hT1.cell xlt hq3 _).trans x_4, (hT1.cell xlt hq3 _).trans x_5, (hT1.cell xlt hq3 _).trans x_6, (hT1.cell xlt hq3 _).trans x_7, (hT1.cell xlt hq3 _).trans x_8, (hT1.cell xlt hq3 _).trans x_9, (hT1.cell xlt hq3 _).trans x_10⟩ | go_keep) (fail)
  have hT0 := hon_set11 HSv.out.hon hc ⟨ys, ⟨y0, y1, y2, y3, y4, y5, y6, y7⟩, ya, false⟩
  have hT := And.intro hT0.1.drew hT0.2.drew
  clear hT0
  have hS4 := HSv.out.honTurn (hs' := S.hs.set c ⟨ys, ⟨y0, y1, y2, y3, y4, y5, y6, y7⟩, ya, false⟩) (by rw [List.length_set]) hT.2 hT.1
  have HSv4 := Lib.hid hS4.1; have HBl4 := Lib.hid (HBl.out.trans hS4.2)
  clear hT hT1 hq1 hq2 hq3 hS4 HSv HBl m1 b1 xlt blt clt mlt  x_0 h0 fc0 x_1 h1 fc1 x_2 h2 fc2 x_3 h3 fc3 x_4 h4 fc4 x_5 h5 fc5 x_6 h6 fc6 x_7 h7 fc7 x_8 h8 fc8 x_9 h9 fc9 x_10 h10 fc10
  go_wp2_with fail
  refine bodyPost_ret (results_none rfl _ _ _) rfl ?_
  exact ⟨rfl, ⟨_, _, _, HSv4.out⟩, HBl4.out⟩


theorem wanswer_any {N0 : Nat} {w : World} {b d bm bw bl bc : Nat} {vi vo : Value} {es : List EntV} {e0 : EntV} {S : SvS} {made got : Int} (c : Nat) (hc : c < S.hs.length) (hcl : S.hs.length ≤ 4) (hlen : S.inn.length ≤ 1000) (m : MsgV) (hmc : m.c = (c : Int))
    (hk : m.k = 11 ∨ m.k = 12 ∨ m.k = 13 ∨ m.k = 14 ∨ m.k = 15 ∨ m.k = 16) (h11 : m.k = 11 → S.hs[c].st < 2) (h14 : m.k = 14 ∨ m.k = 15 → S.hs[c].asks = true ∧ m.d.x0 = S.val) (h16 : m.k = 16 → S.hs[c].back = true) (H : SvW N0 w b d bm bw bl bc vi vo es e0 S made got) :
    Calls Try.prog 35 #[.pointer (some ⟨b, 0, none⟩), .agg #[.int .i64 m.k, .int .i64 m.c, .int .i64 m.l, .int .u64 m.d.x0, .int .u64 m.d.x1, .int .u64 m.d.x2, .int .u64 m.d.x3, .int .u64 m.d.x4, .int .u64 m.d.x5, .int .u64 m.d.x6, .int .u64 m.d.x7]] w
      (SvPost N0 w b d bm bw bl bc e0 { S with hs := S.hs.set c (ansH S.hs[c] m), inn := S.inn ++ ansM S.hs[c] m } made (if m.k = 14 ∨ m.k = 15 then wrap64 (got + 1) else got)) := by
  obtain ⟨k, mc, l, ⟨x0, x1, x2, x3, x4, x5, x6, x7⟩⟩ := m
  simp only at hmc hk h11 h14 h16 ⊢
  subst hmc
  obtain ⟨y, hy⟩ : ∃ y, S.hs[c] = y := ⟨_, rfl⟩
  rw [hy] at h11 h14 h16 ⊢
  obtain ⟨ys, ⟨y0, y1, y2, y3, y4, y5, y6, y7⟩, ya, yb⟩ := y
  simp only at h11 h14 h16
  rcases hk with rfl | rfl | rfl | rfl | rfl | rfl
  · have e1 : ansH ⟨ys, ⟨y0, y1, y2, y3, y4, y5, y6, y7⟩, ya, yb⟩ ⟨11, (c : Int), l, ⟨x0, x1, x2, x3, x4, x5, x6, x7⟩⟩ = ⟨0, ⟨y0, y1, y2, y3, y4, y5, y6, y7⟩, ya, yb⟩ := rfl
    have e2 : ansM ⟨ys, ⟨y0, y1, y2, y3, y4, y5, y6, y7⟩, ya, yb⟩ ⟨11, (c : Int), l, ⟨x0, x1, x2, x3, x4, x5, x6, x7⟩⟩ = [⟨4, (c : Int), l, {}⟩] := rfl
    rw [e1, e2, if_neg (by decide)]
    exact wans_11 c hc l x0 x1 x2 x3 x4 x5 x6 x7 ys y0 y1 y2 y3 y4 y5 y6 y7 ya yb hy hlen hcl (h11 rfl) H
  · by_cases h2 : ys = 2
    · have e1 : ansH ⟨ys, ⟨y0, y1, y2, y3, y4, y5, y6, y7⟩, ya, yb⟩ ⟨12, (c : Int), l, ⟨x0, x1, x2, x3, x4, x5, x6, x7⟩⟩ = ⟨1, ⟨y0, y1, y2, y3, y4, y5, y6, y7⟩, ya, yb⟩ := by simp [ansH, h2]
      have e2 : ansM ⟨ys, ⟨y0, y1, y2, y3, y4, y5, y6, y7⟩, ya, yb⟩ ⟨12, (c : Int), l, ⟨x0, x1, x2, x3, x4, x5, x6, x7⟩⟩ = [⟨5, (c : Int), l, ⟨y0, y1, y2, y3, y4, y5, y6, y7⟩⟩] := by simp [ansM, h2]
      rw [e1, e2, if_neg (by decide)]
      exact wans_12y c hc l x0 x1 x2 x3 x4 x5 x6 x7 ys y0 y1 y2 y3 y4 y5 y6 y7 ya yb hy hlen hcl h2 H
    · have e1 : ansH ⟨ys, ⟨y0, y1, y2, y3, y4, y5, y6, y7⟩, ya, yb⟩ ⟨12, (c : Int), l, ⟨x0, x1, x2, x3, x4, x5, x6, x7⟩⟩ = ⟨ys, ⟨y0, y1, y2, y3, y4, y5, y6, y7⟩, ya, yb⟩ := by simp [ansH, h2]
      have e2 : ansM ⟨ys, ⟨y0, y1, y2, y3, y4, y5, y6, y7⟩, ya, yb⟩ ⟨12, (c : Int), l, ⟨x0, x1, x2, x3, x4, x5, x6, x7⟩⟩ = [⟨6, (c : Int), l, {}⟩] := by simp [ansM, h2]
      rw [e1, e2, if_neg (by decide)]
      exact wans_12n c hc l x0 x1 x2 x3 x4 x5 x6 x7 ys y0 y1 y2 y3 y4 y5 y6 y7 ya yb hy hlen hcl h2 H
  · by_cases h2 : ys = 2
    · have e1 : ansH ⟨ys, ⟨y0, y1, y2, y3, y4, y5, y6, y7⟩, ya, yb⟩ ⟨13, (c : Int), l, ⟨x0, x1, x2, x3, x4, x5, x6, x7⟩⟩ = ⟨0, ⟨y0, y1, y2, y3, y4, y5, y6, y7⟩, ya, yb⟩ := by simp [ansH, h2]
      have e2 : ansM ⟨ys, ⟨y0, y1, y2, y3, y4, y5, y6, y7⟩, ya, yb⟩ ⟨13, (c : Int), l, ⟨x0, x1, x2, x3, x4, x5, x6, x7⟩⟩ = [⟨5, (c : Int), l, ⟨y0, y1, y2, y3, y4, y5, y6, y7⟩⟩] := by simp [ansM, h2]
      rw [e1, e2, if_neg (by decide)]
      exact wans_13y c hc l x0 x1 x2 x3 x4 x5 x6 x7 ys y0 y1 y2 y3 y4 y5 y6 y7 ya yb hy hlen hcl h2 H
    · have e1 : ansH ⟨ys, ⟨y0, y1, y2, y3, y4, y5, y6, y7⟩, ya, yb⟩ ⟨13, (c : Int), l, ⟨x0, x1, x2, x3, x4, x5, x6, x7⟩⟩ = ⟨ys, ⟨y0, y1, y2, y3, y4, y5, y6, y7⟩, ya, yb⟩ := by simp [ansH, h2]
      have e2 : ansM ⟨ys, ⟨y0, y1, y2, y3, y4, y5, y6, y7⟩, ya, yb⟩ ⟨13, (c : Int), l, ⟨x0, x1, x2, x3, x4, x5, x6, x7⟩⟩ = [⟨6, (c : Int), l, {}⟩] := by simp [ansM, h2]
      rw [e1, e2, if_neg (by decide)]
      exact wans_13n c hc l x0 x1 x2 x3 x4 x5 x6 x7 ys y0 y1 y2 y3 y4 y5 y6 y7 ya yb hy hlen hcl h2 H
  · obtain ⟨ha, hv⟩ := h14 (.inl rfl)
    subst hv
    have e1 : ansH ⟨ys, ⟨y0, y1, y2, y3, y4, y5, y6, y7⟩, ya, yb⟩ ⟨14, (c : Int), l, ⟨S.val, x1, x2, x3, x4, x5, x6, x7⟩⟩ = ⟨1, ⟨S.val, x1, x2, x3, x4, x5, x6, x7⟩, false, yb⟩ := rfl
    have e2 : ansM ⟨ys, ⟨y0, y1, y2, y3, y4, y5, y6, y7⟩, ya, yb⟩ ⟨14, (c : Int), l, ⟨S.val, x1, x2, x3, x4, x5, x6, x7⟩⟩ = [⟨7, (c : Int), l, {}⟩] := rfl
    rw [e1, e2, if_pos (by decide)]
    exact wans_14 c hc l 0 x1 x2 x3 x4 x5 x6 x7 ys y0 y1 y2 y3 y4 y5 y6 y7 ya yb hy hlen hcl ha H
  · obtain ⟨ha, hv⟩ := h14 (.inr rfl)
    subst hv
    have e1 : ansH ⟨ys, ⟨y0, y1, y2, y3, y4, y5, y6, y7⟩, ya, yb⟩ ⟨15, (c : Int), l, ⟨S.val, x1, x2, x3, x4, x5, x6, x7⟩⟩ = ⟨2, ⟨S.val, x1, x2, x3, x4, x5, x6, x7⟩, false, yb⟩ := rfl
    have e2 : ansM ⟨ys, ⟨y0, y1, y2, y3, y4, y5, y6, y7⟩, ya, yb⟩ ⟨15, (c : Int), l, ⟨S.val, x1, x2, x3, x4, x5, x6, x7⟩⟩ = [⟨7, (c : Int), l, {}⟩] := rfl
    rw [e1, e2, if_pos (by decide)]
    exact wans_15 c hc l 0 x1 x2 x3 x4 x5 x6 x7 ys y0 y1 y2 y3 y4 y5 y6 y7 ya yb hy hlen hcl ha H
  · have e1 : ansH ⟨ys, ⟨y0, y1, y2, y3, y4, y5, y6, y7⟩, ya, yb⟩ ⟨16, (c : Int), l, ⟨x0, x1, x2, x3, x4, x5, x6, x7⟩⟩ = ⟨ys, ⟨y0, y1, y2, y3, y4, y5, y6, y7⟩, ya, false⟩ := rfl
    have e2 : ansM ⟨ys, ⟨y0, y1, y2, y3, y4, y5, y6, y7⟩, ya, yb⟩ ⟨16, (c : Int), l, ⟨x0, x1, x2, x3, x4, x5, x6, x7⟩⟩ = [] := rfl
    rw [e1, e2, if_neg (by decide), List.append_nil]
    exact wans_16 c hc l x0 x1 x2 x3 x4 x5 x6 x7 ys y0 y1 y2 y3 y4 y5 y6 y7 ya yb hy hlen hcl (h16 rfl) H
end Go.Proofs.Ytepdhajgemmoiaa
