/- The world's act. -/
import Derived.Test.YtepdhajgemmoiaaSrv1
import Derived.Test.YtepdhajgemmoiaaSrv5
namespace Go.Proofs.Ytepdhajgemmoiaa
set_option maxRecDepth 100000
set_option linter.unusedSimpArgs false
set_option linter.unusedVariables false
open Go.RowKit



set_option maxHeartbeats 8000000 in
theorem wact_ask0 {N0 : Nat} {w : World} {b d bm bw bl bc : Nat} {vi vo : Value} {es : List EntV} {e0 : EntV} {S : SvS} {made got : Int} (c : Nat) (hc : c < S.hs.length) (x0 x1 x2 ys y0 y1 y2 y3 y4 y5 y6 y7 : Int) (ya yb : Bool) (hy : S.hs[c] = ⟨ys, ⟨y0, y1, y2, y3, y4, y5, y6, y7⟩, ya, yb⟩) (hx1 : 0 ≤ x1) (hct : x1.tmod (S.hs.length : Int) = (c : Int)) (hlen : S.inn.length ≤ 1000) (hcl : S.hs.length ≤ 4) (hx : ya = false ∧ yb = false ∧ ys < 1) (H : SvW N0 w b d bm bw bl bc vi vo es e0 S made got) :
    Calls Try.prog 16 #[.pointer (some ⟨b, 0, none⟩), .agg #[.int .i64 0, .int .i64 x1, .int .i64 x2]] w (SvPost N0 w b d bm bw bl bc e0 { S with hs := S.hs.set c ⟨ys, ⟨y0, y1, y2, y3, y4, y5, y6, y7⟩, true, false⟩, inn := S.inn ++ [⟨1, (c : Int), 1, {}⟩] } (wrap64 (made + 1)) got) := by
  obtain ⟨j0, hj, hz0, hz1, hz2⟩ := info_parts infoMsg
  have hal : Chg [] w (w.alloc (.cells #[.int .i64 0, .int .i64 x1, .int .i64 x2] 49)) := (Chg.refl [] w).alloc _
  have HSv := Lib.hid (H.look hal)
  have HB := Lib.hid (Blk.new w [.int .i64 0, .int .i64 x1, .int .i64 x2] 49)
  have HBl := Lib.hid (hal.to_below (B := N0) (fun x hx => absurd hx (by simp)) H.lo.2.2)
  have HBn := Lib.hid (H.fresh (x := w.heap.size) (Nat.le_refl _))
  have HY := Lib.hid hy; have HLn := Lib.hid hlen; have HX := Lib.hid hx
  obtain ⟨hxa, hxb, hxs⟩ := hx; subst hxa; subst hxb
  have hnl : (S.hs.length : Int) ≤ 4 := by omega
  have hci : (c : Int) < S.hs.length := by omega
  have hc0 : (0 : Int) ≤ c := Int.natCast_nonneg _
  have hnz : (S.hs.length : Int) ≠ 0 := by omega
  clear hal H hy hlen
  go_enter Try.func16, Try.ntmps16
  go_upto_region 1 with fail
  generalize World.alloc _ _ = wa at *
  obtain ⟨bx, hb⟩ : ∃ b, w.heap.size = b := ⟨_, rfl⟩
  rw [hb] at HB HBn ⊢
  clear hb
  have x_0 : wa.cell? ⟨bx, 0, none⟩ = some (.int .i64 0) := HB.out.cell 0
  have x_1 : wa.cell? ⟨bx, 1, none⟩ = some (.int .i64 x1) := HB.out.cell 1
  have x_2 : wa.cell? ⟨bx, 2, none⟩ = some (.int .i64 x2) := HB.out.cell 2
  have xlt : bx < wa.heap.size := HB.out.lt
  have b1 : wa.cell? ⟨b, 1, none⟩ = some (.slice (some ⟨bc, 0, none⟩) S.hs.length S.hs.length) := HSv.out.blk.cell 1
  have blt : b < wa.heap.size := HSv.out.blk.lt
  have clt : bc < wa.heap.size := HSv.out.hon.lt
  go_quiet (fail)
  have hq1 : Chg [] wa (wa.drewN nq) := (Chg.refl [] wa).drewN nq
  replace HBl := Lib.hid (HBl.out.trans (hq1.to_below (B := N0) (fun x hx => absurd hx (by simp)) HSv.out.lo.2.2)); replace HSv := Lib.hid (HSv.out.look hq1); replace HB := Lib.hid (hq1.blk HB.out (by simp))
  clear hq1 x_0 x_1 x_2 xlt b1 blt clt
  generalize World.drewN _ _ = w1 at *
  have b1 : w1.cell? ⟨b, 1, none⟩ = some (.slice (some ⟨bc, 0, none⟩) S.hs.length S.hs.length) := HSv.out.blk.cell 1
  have blt : b < w1.heap.size := HSv.out.blk.lt; have clt : bc < w1.heap.size := HSv.out.hon.lt; have xlt : bx < w1.heap.size := HB.out.lt
  have h0 : w1.cell? ⟨bc, c * 11, none⟩ = some (.int .i64 ys) := by have := HSv.out.hon.cell (c * 11 + 0); rw [flat_get encH_len S.hs c hc 0 (by decide), HY.out] at this; exact this
  have h1 : w1.cell? ⟨bc, c * 11 + 1, none⟩ = some (.int .u64 y0) := by have := HSv.out.hon.cell (c * 11 + 1); rw [flat_get encH_len S.hs c hc 1 (by decide), HY.out] at this; exact this
  have h2 : w1.cell? ⟨bc, c * 11 + 2, none⟩ = some (.int .u64 y1) := by have := HSv.out.hon.cell (c * 11 + 2); rw [flat_get encH_len S.hs c hc 2 (by decide), HY.out] at this; exact this
  have h3 : w1.cell? ⟨bc, c * 11 + 3, none⟩ = some (.int .u64 y2) := by have := HSv.out.hon.cell (c * 11 + 3); rw [flat_get encH_len S.hs c hc 3 (by decide), HY.out] at this; exact this
  have h4 : w1.cell? ⟨bc, c * 11 + 4, none⟩ = some (.int .u64 y3) := by have := HSv.out.hon.cell (c * 11 + 4); rw [flat_get encH_len S.hs c hc 4 (by decide), HY.out] at this; exact this
  have h5 : w1.cell? ⟨bc, c * 11 + 5, none⟩ = some (.int .u64 y4) := by have := HSv.out.hon.cell (c * 11 + 5); rw [flat_get encH_len S.hs c hc 5 (by decide), HY.out] at this; exact this
  have h6 : w1.cell? ⟨bc, c * 11 + 6, none⟩ = some (.int .u64 y5) := by have := HSv.out.hon.cell (c * 11 + 6); rw [flat_get encH_len S.hs c hc 6 (by decide), HY.out] at this; exact this
  have h7 : w1.cell? ⟨bc, c * 11 + 7, none⟩ = some (.int .u64 y6) := by have := HSv.out.hon.cell (c * 11 + 7); rw [flat_get encH_len S.hs c hc 7 (by decide), HY.out] at this; exact this
  have h8 : w1.cell? ⟨bc, c * 11 + 8, none⟩ = some (.int .u64 y7) := by have := HSv.out.hon.cell (c * 11 + 8); rw [flat_get encH_len S.hs c hc 8 (by decide), HY.out] at this; exact this
  have h9 : w1.cell? ⟨bc, c * 11 + 9, none⟩ = some (.bool false) := by have := HSv.out.hon.cell (c * 11 + 9); rw [flat_get encH_len S.hs c hc 9 (by decide), HY.out] at this; exact this
  have h10 : w1.cell? ⟨bc, c * 11 + 10, none⟩ = some (.bool false) := by have := HSv.out.hon.cell (c * 11 + 10); rw [flat_get encH_len S.hs c hc 10 (by decide), HY.out] at this; exact this
  go_upto_region 3 with fail
  have hk2 := (Chg.refl [] w1).alloc (.cells #[.int .i64 ys, .int .u64 y0, .int .u64 y1, .int .u64 y2, .int .u64 y3, .int .u64 y4, .int .u64 y5, .int .u64 y6, .int .u64 y7, .bool false, .bool false] 91)
  have HBh := Lib.hid (Blk.new w1 [.int .i64 ys, .int .u64 y0, .int .u64 y1, .int .u64 y2, .int .u64 y3, .int .u64 y4, .int .u64 y5, .int .u64 y6, .int .u64 y7, .bool false, .bool false] 91)
  have HAh := Lib.hid (HSv.out.fresh (x := w1.heap.size) (Nat.le_refl _))
  have hbk1 : bx < w1.heap.size := xlt
  replace HBl := Lib.hid (HBl.out.trans (hk2.to_below (B := N0) (fun x hx => absurd hx (by simp)) (HSv.out.lo.2.2))); replace HSv := Lib.hid (HSv.out.look hk2); replace HB := Lib.hid (hk2.blk HB.out (by simp))
  clear hk2 xlt blt clt b1 h0 h1 h2 h3 h4 h5 h6 h7 h8 h9 h10
  generalize World.alloc _ _ = w2 at *
  obtain ⟨bh, hbkk⟩ : ∃ b, w1.heap.size = b := ⟨_, rfl⟩
  rw [hbkk] at HBh HAh hbk1 ⊢
  clear hbkk
  have hn1 : bx ≠ bh := (by omega); have hn2 : bx ≠ b := HBn.out.nb; have hn3 : bh ≠ b := HAh.out.nb; have hn4 : bx ≠ bc := HBn.out.nc; have hn5 : bh ≠ bc := HAh.out.nc; have hn6 : b ≠ bc := HSv.out.ne
  have x_0 : w2.cell? ⟨bx, 0, none⟩ = some (.int .i64 0) := HB.out.cell 0
  have x_1 : w2.cell? ⟨bx, 1, none⟩ = some (.int .i64 x1) := HB.out.cell 1
  have x_2 : w2.cell? ⟨bx, 2, none⟩ = some (.int .i64 x2) := HB.out.cell 2
  have k_0 : w2.cell? ⟨bh, 0, none⟩ = some (.int .i64 ys) := HBh.out.cell 0
  have k_1 : w2.cell? ⟨bh, 1, none⟩ = some (.int .u64 y0) := HBh.out.cell 1
  have k_2 : w2.cell? ⟨bh, 2, none⟩ = some (.int .u64 y1) := HBh.out.cell 2
  have k_3 : w2.cell? ⟨bh, 3, none⟩ = some (.int .u64 y2) := HBh.out.cell 3
  have k_4 : w2.cell? ⟨bh, 4, none⟩ = some (.int .u64 y3) := HBh.out.cell 4
  have k_5 : w2.cell? ⟨bh, 5, none⟩ = some (.int .u64 y4) := HBh.out.cell 5
  have k_6 : w2.cell? ⟨bh, 6, none⟩ = some (.int .u64 y5) := HBh.out.cell 6
  have k_7 : w2.cell? ⟨bh, 7, none⟩ = some (.int .u64 y6) := HBh.out.cell 7
  have k_8 : w2.cell? ⟨bh, 8, none⟩ = some (.int .u64 y7) := HBh.out.cell 8
  have k_9 : w2.cell? ⟨bh, 9, none⟩ = some (.bool false) := HBh.out.cell 9
  have k_10 : w2.cell? ⟨bh, 10, none⟩ = some (.bool false) := HBh.out.cell 10
  have h0 : w2.cell? ⟨bc, c * 11, none⟩ = some (.int .i64 ys) := by have := HSv.out.hon.cell (c * 11 + 0); rw [flat_get encH_len S.hs c hc 0 (by decide), HY.out] at this; exact this
  have fc0 : w2.frozen? ⟨bc, c * 11, none⟩ = false := HSv.out.hon.free _
  have h1 : w2.cell? ⟨bc, c * 11 + 1, none⟩ = some (.int .u64 y0) := by have := HSv.out.hon.cell (c * 11 + 1); rw [flat_get encH_len S.hs c hc 1 (by decide), HY.out] at this; exact this
  have fc1 : w2.frozen? ⟨bc, c * 11 + 1, none⟩ = false := HSv.out.hon.free _
  have h2 : w2.cell? ⟨bc, c * 11 + 2, none⟩ = some (.int .u64 y1) := by have := HSv.out.hon.cell (c * 11 + 2); rw [flat_get encH_len S.hs c hc 2 (by decide), HY.out] at this; exact this
  have fc2 : w2.frozen? ⟨bc, c * 11 + 2, none⟩ = false := HSv.out.hon.free _
  have h3 : w2.cell? ⟨bc, c * 11 + 3, none⟩ = some (.int .u64 y2) := by have := HSv.out.hon.cell (c * 11 + 3); rw [flat_get encH_len S.hs c hc 3 (by decide), HY.out] at this; exact this
  have fc3 : w2.frozen? ⟨bc, c * 11 + 3, none⟩ = false := HSv.out.hon.free _
  have h4 : w2.cell? ⟨bc, c * 11 + 4, none⟩ = some (.int .u64 y3) := by have := HSv.out.hon.cell (c * 11 + 4); rw [flat_get encH_len S.hs c hc 4 (by decide), HY.out] at this; exact this
  have fc4 : w2.frozen? ⟨bc, c * 11 + 4, none⟩ = false := HSv.out.hon.free _
  have h5 : w2.cell? ⟨bc, c * 11 + 5, none⟩ = some (.int .u64 y4) := by have := HSv.out.hon.cell (c * 11 + 5); rw [flat_get encH_len S.hs c hc 5 (by decide), HY.out] at this; exact this
  have fc5 : w2.frozen? ⟨bc, c * 11 + 5, none⟩ = false := HSv.out.hon.free _
  have h6 : w2.cell? ⟨bc, c * 11 + 6, none⟩ = some (.int .u64 y5) := by have := HSv.out.hon.cell (c * 11 + 6); rw [flat_get encH_len S.hs c hc 6 (by decide), HY.out] at this; exact this
  have fc6 : w2.frozen? ⟨bc, c * 11 + 6, none⟩ = false := HSv.out.hon.free _
  have h7 : w2.cell? ⟨bc, c * 11 + 7, none⟩ = some (.int .u64 y6) := by have := HSv.out.hon.cell (c * 11 + 7); rw [flat_get encH_len S.hs c hc 7 (by decide), HY.out] at this; exact this
  have fc7 : w2.frozen? ⟨bc, c * 11 + 7, none⟩ = false := HSv.out.hon.free _
  have h8 : w2.cell? ⟨bc, c * 11 + 8, none⟩ = some (.int .u64 y7) := by have := HSv.out.hon.cell (c * 11 + 8); rw [flat_get encH_len S.hs c hc 8 (by decide), HY.out] at this; exact this
  have fc8 : w2.frozen? ⟨bc, c * 11 + 8, none⟩ = false := HSv.out.hon.free _
  have h9 : w2.cell? ⟨bc, c * 11 + 9, none⟩ = some (.bool false) := by have := HSv.out.hon.cell (c * 11 + 9); rw [flat_get encH_len S.hs c hc 9 (by decide), HY.out] at this; exact this
  have fc9 : w2.frozen? ⟨bc, c * 11 + 9, none⟩ = false := HSv.out.hon.free _
  have h10 : w2.cell? ⟨bc, c * 11 + 10, none⟩ = some (.bool false) := by have := HSv.out.hon.cell (c * 11 + 10); rw [flat_get encH_len S.hs c hc 10 (by decide), HY.out] at this; exact this
  have fc10 : w2.frozen? ⟨bc, c * 11 + 10, none⟩ = false := HSv.out.hon.free _
  have b1 : w2.cell? ⟨b, 1, none⟩ = some (.slice (some ⟨bc, 0, none⟩) S.hs.length S.hs.length) := HSv.out.blk.cell 1
  have f1 : w2.frozen? ⟨b, 1, none⟩ = false := HSv.out.blk.free 1
  have b2 : w2.cell? ⟨b, 2, none⟩ = some (vi) := HSv.out.blk.cell 2
  have f2 : w2.frozen? ⟨b, 2, none⟩ = false := HSv.out.blk.free 2
  have b3 : w2.cell? ⟨b, 3, none⟩ = some (vo) := HSv.out.blk.cell 3
  have f3 : w2.frozen? ⟨b, 3, none⟩ = false := HSv.out.blk.free 3
  have b4 : w2.cell? ⟨b, 4, none⟩ = some (.int .i64 made) := HSv.out.blk.cell 4
  have f4 : w2.frozen? ⟨b, 4, none⟩ = false := HSv.out.blk.free 4
  have b6 : w2.cell? ⟨b, 6, none⟩ = some (.int .u64 S.val) := HSv.out.blk.cell 6
  have f6 : w2.frozen? ⟨b, 6, none⟩ = false := HSv.out.blk.free 6
  have xlt : bx < w2.heap.size := HB.out.lt; have klt : bh < w2.heap.size := HBh.out.lt; have blt : b < w2.heap.size := HSv.out.blk.lt; have clt : bc < w2.heap.size := HSv.out.hon.lt
  go_upto_region 9 with fail
  have hT := HSv.out.hon
  replace hT := Blk.set hT (c * 11 + 9) (.bool true)
  rw [flat_set encH_len S.hs c hc 9 (by decide) (.bool true) ⟨ys, ⟨y0, y1, y2, y3, y4, y5, y6, y7⟩, true, false⟩ (by rw [HY.out]; rfl)] at hT
  have hTc := ((Chg.refl [bc] w2).setCell (p := ⟨bc, c * 11 + 9, none⟩) (fun _ => List.mem_singleton.2 rfl) (.bool true))
  have hS := HSv.out.honTurn (hs' := S.hs.set c ⟨ys, ⟨y0, y1, y2, y3, y4, y5, y6, y7⟩, true, false⟩) (by rw [List.length_set]) hTc hT
  have hF := hS.1.field 4 (.int .i64 (wrap64 (made + 1))) S.val (wrap64 (made + 1)) got rfl
  have HSv3 : Hid (SvW N0 _ b d bm bw bl bc vi vo es e0 { S with hs := S.hs.set c ⟨ys, ⟨y0, y1, y2, y3, y4, y5, y6, y7⟩, true, false⟩ } (wrap64 (made + 1)) got) := Lib.hid hF.1; have HBl3 := Lib.hid ((HBl.out.trans hS.2).trans hF.2)
  have HBx3 := Lib.hid ((HB.out.other (a := ⟨bc, c * 11 + 9, none⟩) (Ne.symm hn4) (.bool true)).other (a := ⟨b, 4, none⟩) (Ne.symm hn2) (.int .i64 (wrap64 (made + 1))))
  clear xlt klt blt clt x_0 x_1 x_2 k_0 h0 fc0 k_1 h1 fc1 k_2 h2 fc2 k_3 h3 fc3 k_4 h4 fc4 k_5 h5 fc5 k_6 h6 fc6 k_7 h7 fc7 k_8 h8 fc8 k_9 h9 fc9 k_10 h10 fc10 b1 f1 b2 f2 b3 f3 b4 f4 b6 f6
  clear hT hTc hS hF HSv HBl HB HBh
  generalize (w2.setCell ⟨bc, c * 11 + 9, none⟩ (.bool true)).setCell ⟨b, 4, none⟩ (.int .i64 (wrap64 (made + 1))) = w4 at *
  have b2 : w4.cell? ⟨b, 2, none⟩ = some vi := HSv3.out.blk.cell 2; have f2 : w4.frozen? ⟨b, 2, none⟩ = false := HSv3.out.blk.free 2; have x_0 : w4.cell? ⟨bx, 0, none⟩ = some (.int .i64 0) := HBx3.out.cell 0; have blt : b < w4.heap.size := HSv3.out.blk.lt; have xlt : bx < w4.heap.size := HBx3.out.lt
  have HNr := Lib.hid HSv3.out.notRow.1.1
  have HOw : Hid (w4.drew.ownsRow N0 33 11 vi S.inn.length (S.inn.flatMap encM)) := Lib.hid HSv3.out.inn
  go_region_law (refine step_append_row (by rfl) (.tmp 64) (.tmp 70) (by rfl) j0 hj hz0 hz1 hz2 (by rfl) (HOw.out.alloc _) ⟨w4.heap.size, 0, none⟩ 1 (by rfl) ⟨1, (c : Int), 1, ⟨0, 0, 0, 0, 0, 0, 0, 0⟩⟩ (cells_new w4.drew [.int .i64 1, .int .i64 (c : Int), .int .i64 1, .int .u64 0, .int .u64 0, .int .u64 0, .int .u64 0, .int .u64 0, .int .u64 0, .int .u64 0, .int .u64 0] _) (by have := HLn.out; omega) (Nat.le_trans HSv3.out.lo.2.2 (by simp)) ?_; intro v5 w5 ho5 hg5 hb5; have hk5 := (((Chg.refl (rowB vi) w4).drew).alloc (.cells #[.int .i64 1, .int .i64 (c : Int), .int .i64 1, .int .u64 0, .int .u64 0, .int .u64 0, .int .u64 0, .int .u64 0, .int .u64 0, .int .u64 0, .int .u64 0] 33)).trans (Chg.of_grown hg5); have hr5 := rowB_grew hb5 (n := w4.heap.size) (by simp); have HO5 := Lib.hid ho5; have HK5 := Lib.hid hk5; have HR5 := Lib.hid hr5; obtain ⟨A5, c5, hv5, _, _, _, _⟩ := ownsRow_cell ho5; clear ho5 hg5 hb5 hk5 hr5; subst hv5; have q2 : w5.cell? ⟨b, 2, none⟩ = some vi := (HK5.out.cell blt HNr.out 2).trans b2; have g2 : w5.frozen? ⟨b, 2, none⟩ = false := (HK5.out.blk HSv3.out.blk HNr.out).free 2; have qx : w5.cell? ⟨bx, 0, none⟩ = some (.int .i64 0) := (HK5.out.cell xlt HBn.out.ni 0).trans x_0)
  all_goals (have hG := HSv3.out.innNew (inn' := S.inn ++ [⟨1, (c : Int), 1, {}⟩]) HK5.out (by rw [List.length_append, List.flatMap_append]; exact HO5.out) HR5.out; have HZ := Lib.hid (And.intro hG.1 (HBl3.out.trans hG.2)); clear hG; go_wp2_with fail; refine bodyPost_ret (results_none rfl _ _ _) rfl ?_; exact ⟨rfl, ⟨_, _, _, HZ.out.1⟩, HZ.out.2⟩)


set_option maxHeartbeats 8000000 in
theorem wact_ask1 {N0 : Nat} {w : World} {b d bm bw bl bc : Nat} {vi vo : Value} {es : List EntV} {e0 : EntV} {S : SvS} {made got : Int} (c : Nat) (hc : c < S.hs.length) (x0 x1 x2 ys y0 y1 y2 y3 y4 y5 y6 y7 : Int) (ya yb : Bool) (hy : S.hs[c] = ⟨ys, ⟨y0, y1, y2, y3, y4, y5, y6, y7⟩, ya, yb⟩) (hx1 : 0 ≤ x1) (hct : x1.tmod (S.hs.length : Int) = (c : Int)) (hlen : S.inn.length ≤ 1000) (hcl : S.hs.length ≤ 4) (hx : ya = false ∧ yb = false ∧ ys < 2) (H : SvW N0 w b d bm bw bl bc vi vo es e0 S made got) :
    Calls Try.prog 16 #[.pointer (some ⟨b, 0, none⟩), .agg #[.int .i64 1, .int .i64 x1, .int .i64 x2]] w (SvPost N0 w b d bm bw bl bc e0 { S with hs := S.hs.set c ⟨ys, ⟨y0, y1, y2, y3, y4, y5, y6, y7⟩, true, false⟩, inn := S.inn ++ [⟨2, (c : Int), 1, {}⟩] } (wrap64 (made + 1)) got) := by
  obtain ⟨j0, hj, hz0, hz1, hz2⟩ := info_parts infoMsg
  have hal : Chg [] w (w.alloc (.cells #[.int .i64 1, .int .i64 x1, .int .i64 x2] 49)) := (Chg.refl [] w).alloc _
  have HSv := Lib.hid (H.look hal)
  have HB := Lib.hid (Blk.new w [.int .i64 1, .int .i64 x1, .int .i64 x2] 49)
  have HBl := Lib.hid (hal.to_below (B := N0) (fun x hx => absurd hx (by simp)) H.lo.2.2)
  have HBn := Lib.hid (H.fresh (x := w.heap.size) (Nat.le_refl _))
  have HY := Lib.hid hy; have HLn := Lib.hid hlen; have HX := Lib.hid hx
  obtain ⟨hxa, hxb, hxs⟩ := hx; subst hxa; subst hxb
  have hnl : (S.hs.length : Int) ≤ 4 := by omega
  have hci : (c : Int) < S.hs.length := by omega
  have hc0 : (0 : Int) ≤ c := Int.natCast_nonneg _
  have hnz : (S.hs.length : Int) ≠ 0 := by omega
  clear hal H hy hlen
  go_enter Try.func16, Try.ntmps16
  go_upto_region 1 with fail
  generalize World.alloc _ _ = wa at *
  obtain ⟨bx, hb⟩ : ∃ b, w.heap.size = b := ⟨_, rfl⟩
  rw [hb] at HB HBn ⊢
  clear hb
  have x_0 : wa.cell? ⟨bx, 0, none⟩ = some (.int .i64 1) := HB.out.cell 0
  have x_1 : wa.cell? ⟨bx, 1, none⟩ = some (.int .i64 x1) := HB.out.cell 1
  have x_2 : wa.cell? ⟨bx, 2, none⟩ = some (.int .i64 x2) := HB.out.cell 2
  have xlt : bx < wa.heap.size := HB.out.lt
  have b1 : wa.cell? ⟨b, 1, none⟩ = some (.slice (some ⟨bc, 0, none⟩) S.hs.length S.hs.length) := HSv.out.blk.cell 1
  have blt : b < wa.heap.size := HSv.out.blk.lt
  have clt : bc < wa.heap.size := HSv.out.hon.lt
  go_quiet (fail)
  have hq1 : Chg [] wa (wa.drewN nq) := (Chg.refl [] wa).drewN nq
  replace HBl := Lib.hid (HBl.out.trans (hq1.to_below (B := N0) (fun x hx => absurd hx (by simp)) HSv.out.lo.2.2)); replace HSv := Lib.hid (HSv.out.look hq1); replace HB := Lib.hid (hq1.blk HB.out (by simp))
  clear hq1 x_0 x_1 x_2 xlt b1 blt clt
  generalize World.drewN _ _ = w1 at *
  have b1 : w1.cell? ⟨b, 1, none⟩ = some (.slice (some ⟨bc, 0, none⟩) S.hs.length S.hs.length) := HSv.out.blk.cell 1
  have blt : b < w1.heap.size := HSv.out.blk.lt; have clt : bc < w1.heap.size := HSv.out.hon.lt; have xlt : bx < w1.heap.size := HB.out.lt
  have h0 : w1.cell? ⟨bc, c * 11, none⟩ = some (.int .i64 ys) := by have := HSv.out.hon.cell (c * 11 + 0); rw [flat_get encH_len S.hs c hc 0 (by decide), HY.out] at this; exact this
  have h1 : w1.cell? ⟨bc, c * 11 + 1, none⟩ = some (.int .u64 y0) := by have := HSv.out.hon.cell (c * 11 + 1); rw [flat_get encH_len S.hs c hc 1 (by decide), HY.out] at this; exact this
  have h2 : w1.cell? ⟨bc, c * 11 + 2, none⟩ = some (.int .u64 y1) := by have := HSv.out.hon.cell (c * 11 + 2); rw [flat_get encH_len S.hs c hc 2 (by decide), HY.out] at this; exact this
  have h3 : w1.cell? ⟨bc, c * 11 + 3, none⟩ = some (.int .u64 y2) := by have := HSv.out.hon.cell (c * 11 + 3); rw [flat_get encH_len S.hs c hc 3 (by decide), HY.out] at this; exact this
  have h4 : w1.cell? ⟨bc, c * 11 + 4, none⟩ = some (.int .u64 y3) := by have := HSv.out.hon.cell (c * 11 + 4); rw [flat_get encH_len S.hs c hc 4 (by decide), HY.out] at this; exact this
  have h5 : w1.cell? ⟨bc, c * 11 + 5, none⟩ = some (.int .u64 y4) := by have := HSv.out.hon.cell (c * 11 + 5); rw [flat_get encH_len S.hs c hc 5 (by decide), HY.out] at this; exact this
  have h6 : w1.cell? ⟨bc, c * 11 + 6, none⟩ = some (.int .u64 y5) := by have := HSv.out.hon.cell (c * 11 + 6); rw [flat_get encH_len S.hs c hc 6 (by decide), HY.out] at this; exact this
  have h7 : w1.cell? ⟨bc, c * 11 + 7, none⟩ = some (.int .u64 y6) := by have := HSv.out.hon.cell (c * 11 + 7); rw [flat_get encH_len S.hs c hc 7 (by decide), HY.out] at this; exact this
  have h8 : w1.cell? ⟨bc, c * 11 + 8, none⟩ = some (.int .u64 y7) := by have := HSv.out.hon.cell (c * 11 + 8); rw [flat_get encH_len S.hs c hc 8 (by decide), HY.out] at this; exact this
  have h9 : w1.cell? ⟨bc, c * 11 + 9, none⟩ = some (.bool false) := by have := HSv.out.hon.cell (c * 11 + 9); rw [flat_get encH_len S.hs c hc 9 (by decide), HY.out] at this; exact this
  have h10 : w1.cell? ⟨bc, c * 11 + 10, none⟩ = some (.bool false) := by have := HSv.out.hon.cell (c * 11 + 10); rw [flat_get encH_len S.hs c hc 10 (by decide), HY.out] at this; exact this
  go_upto_region 3 with fail
  have hk2 := (Chg.refl [] w1).alloc (.cells #[.int .i64 ys, .int .u64 y0, .int .u64 y1, .int .u64 y2, .int .u64 y3, .int .u64 y4, .int .u64 y5, .int .u64 y6, .int .u64 y7, .bool false, .bool false] 91)
  have HBh := Lib.hid (Blk.new w1 [.int .i64 ys, .int .u64 y0, .int .u64 y1, .int .u64 y2, .int .u64 y3, .int .u64 y4, .int .u64 y5, .int .u64 y6, .int .u64 y7, .bool false, .bool false] 91)
  have HAh := Lib.hid (HSv.out.fresh (x := w1.heap.size) (Nat.le_refl _))
  have hbk1 : bx < w1.heap.size := xlt
  replace HBl := Lib.hid (HBl.out.trans (hk2.to_below (B := N0) (fun x hx => absurd hx (by simp)) (HSv.out.lo.2.2))); replace HSv := Lib.hid (HSv.out.look hk2); replace HB := Lib.hid (hk2.blk HB.out (by simp))
  clear hk2 xlt blt clt b1 h0 h1 h2 h3 h4 h5 h6 h7 h8 h9 h10
  generalize World.alloc _ _ = w2 at *
  obtain ⟨bh, hbkk⟩ : ∃ b, w1.heap.size = b := ⟨_, rfl⟩
  rw [hbkk] at HBh HAh hbk1 ⊢
  clear hbkk
  have hn1 : bx ≠ bh := (by omega); have hn2 : bx ≠ b := HBn.out.nb; have hn3 : bh ≠ b := HAh.out.nb; have hn4 : bx ≠ bc := HBn.out.nc; have hn5 : bh ≠ bc := HAh.out.nc; have hn6 : b ≠ bc := HSv.out.ne
  have x_0 : w2.cell? ⟨bx, 0, none⟩ = some (.int .i64 1) := HB.out.cell 0
  have x_1 : w2.cell? ⟨bx, 1, none⟩ = some (.int .i64 x1) := HB.out.cell 1
  have x_2 : w2.cell? ⟨bx, 2, none⟩ = some (.int .i64 x2) := HB.out.cell 2
  have k_0 : w2.cell? ⟨bh, 0, none⟩ = some (.int .i64 ys) := HBh.out.cell 0
  have k_1 : w2.cell? ⟨bh, 1, none⟩ = some (.int .u64 y0) := HBh.out.cell 1
  have k_2 : w2.cell? ⟨bh, 2, none⟩ = some (.int .u64 y1) := HBh.out.cell 2
  have k_3 : w2.cell? ⟨bh, 3, none⟩ = some (.int .u64 y2) := HBh.out.cell 3
  have k_4 : w2.cell? ⟨bh, 4, none⟩ = some (.int .u64 y3) := HBh.out.cell 4
  have k_5 : w2.cell? ⟨bh, 5, none⟩ = some (.int .u64 y4) := HBh.out.cell 5
  have k_6 : w2.cell? ⟨bh, 6, none⟩ = some (.int .u64 y5) := HBh.out.cell 6
  have k_7 : w2.cell? ⟨bh, 7, none⟩ = some (.int .u64 y6) := HBh.out.cell 7
  have k_8 : w2.cell? ⟨bh, 8, none⟩ = some (.int .u64 y7) := HBh.out.cell 8
  have k_9 : w2.cell? ⟨bh, 9, none⟩ = some (.bool false) := HBh.out.cell 9
  have k_10 : w2.cell? ⟨bh, 10, none⟩ = some (.bool false) := HBh.out.cell 10
  have h0 : w2.cell? ⟨bc, c * 11, none⟩ = some (.int .i64 ys) := by have := HSv.out.hon.cell (c * 11 + 0); rw [flat_get encH_len S.hs c hc 0 (by decide), HY.out] at this; exact this
  have fc0 : w2.frozen? ⟨bc, c * 11, none⟩ = false := HSv.out.hon.free _
  have h1 : w2.cell? ⟨bc, c * 11 + 1, none⟩ = some (.int .u64 y0) := by have := HSv.out.hon.cell (c * 11 + 1); rw [flat_get encH_len S.hs c hc 1 (by decide), HY.out] at this; exact this
  have fc1 : w2.frozen? ⟨bc, c * 11 + 1, none⟩ = false := HSv.out.hon.free _
  have h2 : w2.cell? ⟨bc, c * 11 + 2, none⟩ = some (.int .u64 y1) := by have := HSv.out.hon.cell (c * 11 + 2); rw [flat_get encH_len S.hs c hc 2 (by decide), HY.out] at this; exact this
  have fc2 : w2.frozen? ⟨bc, c * 11 + 2, none⟩ = false := HSv.out.hon.free _
  have h3 : w2.cell? ⟨bc, c * 11 + 3, none⟩ = some (.int .u64 y2) := by have := HSv.out.hon.cell (c * 11 + 3); rw [flat_get encH_len S.hs c hc 3 (by decide), HY.out] at this; exact this
  have fc3 : w2.frozen? ⟨bc, c * 11 + 3, none⟩ = false := HSv.out.hon.free _
  have h4 : w2.cell? ⟨bc, c * 11 + 4, none⟩ = some (.int .u64 y3) := by have := HSv.out.hon.cell (c * 11 + 4); rw [flat_get encH_len S.hs c hc 4 (by decide), HY.out] at this; exact this
  have fc4 : w2.frozen? ⟨bc, c * 11 + 4, none⟩ = false := HSv.out.hon.free _
  have h5 : w2.cell? ⟨bc, c * 11 + 5, none⟩ = some (.int .u64 y4) := by have := HSv.out.hon.cell (c * 11 + 5); rw [flat_get encH_len S.hs c hc 5 (by decide), HY.out] at this; exact this
  have fc5 : w2.frozen? ⟨bc, c * 11 + 5, none⟩ = false := HSv.out.hon.free _
  have h6 : w2.cell? ⟨bc, c * 11 + 6, none⟩ = some (.int .u64 y5) := by have := HSv.out.hon.cell (c * 11 + 6); rw [flat_get encH_len S.hs c hc 6 (by decide), HY.out] at this; exact this
  have fc6 : w2.frozen? ⟨bc, c * 11 + 6, none⟩ = false := HSv.out.hon.free _
  have h7 : w2.cell? ⟨bc, c * 11 + 7, none⟩ = some (.int .u64 y6) := by have := HSv.out.hon.cell (c * 11 + 7); rw [flat_get encH_len S.hs c hc 7 (by decide), HY.out] at this; exact this
  have fc7 : w2.frozen? ⟨bc, c * 11 + 7, none⟩ = false := HSv.out.hon.free _
  have h8 : w2.cell? ⟨bc, c * 11 + 8, none⟩ = some (.int .u64 y7) := by have := HSv.out.hon.cell (c * 11 + 8); rw [flat_get encH_len S.hs c hc 8 (by decide), HY.out] at this; exact this
  have fc8 : w2.frozen? ⟨bc, c * 11 + 8, none⟩ = false := HSv.out.hon.free _
  have h9 : w2.cell? ⟨bc, c * 11 + 9, none⟩ = some (.bool false) := by have := HSv.out.hon.cell (c * 11 + 9); rw [flat_get encH_len S.hs c hc 9 (by decide), HY.out] at this; exact this
  have fc9 : w2.frozen? ⟨bc, c * 11 + 9, none⟩ = false := HSv.out.hon.free _
  have h10 : w2.cell? ⟨bc, c * 11 + 10, none⟩ = some (.bool false) := by have := HSv.out.hon.cell (c * 11 + 10); rw [flat_get encH_len S.hs c hc 10 (by decide), HY.out] at this; exact this
  have fc10 : w2.frozen? ⟨bc, c * 11 + 10, none⟩ = false := HSv.out.hon.free _
  have b1 : w2.cell? ⟨b, 1, none⟩ = some (.slice (some ⟨bc, 0, none⟩) S.hs.length S.hs.length) := HSv.out.blk.cell 1
  have f1 : w2.frozen? ⟨b, 1, none⟩ = false := HSv.out.blk.free 1
  have b2 : w2.cell? ⟨b, 2, none⟩ = some (vi) := HSv.out.blk.cell 2
  have f2 : w2.frozen? ⟨b, 2, none⟩ = false := HSv.out.blk.free 2
  have b3 : w2.cell? ⟨b, 3, none⟩ = some (vo) := HSv.out.blk.cell 3
  have f3 : w2.frozen? ⟨b, 3, none⟩ = false := HSv.out.blk.free 3
  have b4 : w2.cell? ⟨b, 4, none⟩ = some (.int .i64 made) := HSv.out.blk.cell 4
  have f4 : w2.frozen? ⟨b, 4, none⟩ = false := HSv.out.blk.free 4
  have b6 : w2.cell? ⟨b, 6, none⟩ = some (.int .u64 S.val) := HSv.out.blk.cell 6
  have f6 : w2.frozen? ⟨b, 6, none⟩ = false := HSv.out.blk.free 6
  have xlt : bx < w2.heap.size := HB.out.lt; have klt : bh < w2.heap.size := HBh.out.lt; have blt : b < w2.heap.size := HSv.out.blk.lt; have clt : bc < w2.heap.size := HSv.out.hon.lt
  go_upto_region 9 with fail
  have hT := HSv.out.hon
  replace hT := Blk.set hT (c * 11 + 9) (.bool true)
  rw [flat_set encH_len S.hs c hc 9 (by decide) (.bool true) ⟨ys, ⟨y0, y1, y2, y3, y4, y5, y6, y7⟩, true, false⟩ (by rw [HY.out]; rfl)] at hT
  have hTc := ((Chg.refl [bc] w2).setCell (p := ⟨bc, c * 11 + 9, none⟩) (fun _ => List.mem_singleton.2 rfl) (.bool true))
  have hS := HSv.out.honTurn (hs' := S.hs.set c ⟨ys, ⟨y0, y1, y2, y3, y4, y5, y6, y7⟩, true, false⟩) (by rw [List.length_set]) hTc hT
  have hF := hS.1.field 4 (.int .i64 (wrap64 (made + 1))) S.val (wrap64 (made + 1)) got rfl
  have HSv3 : Hid (SvW N0 _ b d bm bw bl bc vi vo es e0 { S with hs := S.hs.set c ⟨ys, ⟨y0, y1, y2, y3, y4, y5, y6, y7⟩, true, false⟩ } (wrap64 (made + 1)) got) := Lib.hid hF.1; have HBl3 := Lib.hid ((HBl.out.trans hS.2).trans hF.2)
  have HBx3 := Lib.hid ((HB.out.other (a := ⟨bc, c * 11 + 9, none⟩) (Ne.symm hn4) (.bool true)).other (a := ⟨b, 4, none⟩) (Ne.symm hn2) (.int .i64 (wrap64 (made + 1))))
  clear xlt klt blt clt x_0 x_1 x_2 k_0 h0 fc0 k_1 h1 fc1 k_2 h2 fc2 k_3 h3 fc3 k_4 h4 fc4 k_5 h5 fc5 k_6 h6 fc6 k_7 h7 fc7 k_8 h8 fc8 k_9 h9 fc9 k_10 h10 fc10 b1 f1 b2 f2 b3 f3 b4 f4 b6 f6
  clear hT hTc hS hF HSv HBl HB HBh
  generalize (w2.setCell ⟨bc, c * 11 + 9, none⟩ (.bool true)).setCell ⟨b, 4, none⟩ (.int .i64 (wrap64 (made + 1))) = w4 at *
  have b2 : w4.cell? ⟨b, 2, none⟩ = some vi := HSv3.out.blk.cell 2; have f2 : w4.frozen? ⟨b, 2, none⟩ = false := HSv3.out.blk.free 2; have x_0 : w4.cell? ⟨bx, 0, none⟩ = some (.int .i64 1) := HBx3.out.cell 0; have blt : b < w4.heap.size := HSv3.out.blk.lt; have xlt : bx < w4.heap.size := HBx3.out.lt
  have HNr := Lib.hid HSv3.out.notRow.1.1
  have HOw : Hid (w4.drew.ownsRow N0 33 11 vi S.inn.length (S.inn.flatMap encM)) := Lib.hid HSv3.out.inn
  go_region_law (refine step_append_row (by rfl) (.tmp 64) (.tmp 70) (by rfl) j0 hj hz0 hz1 hz2 (by rfl) (HOw.out.alloc _) ⟨w4.heap.size, 0, none⟩ 1 (by rfl) ⟨2, (c : Int), 1, ⟨0, 0, 0, 0, 0, 0, 0, 0⟩⟩ (cells_new w4.drew [.int .i64 2, .int .i64 (c : Int), .int .i64 1, .int .u64 0, .int .u64 0, .int .u64 0, .int .u64 0, .int .u64 0, .int .u64 0, .int .u64 0, .int .u64 0] _) (by have := HLn.out; omega) (Nat.le_trans HSv3.out.lo.2.2 (by simp)) ?_; intro v5 w5 ho5 hg5 hb5; have hk5 := (((Chg.refl (rowB vi) w4).drew).alloc (.cells #[.int .i64 2, .int .i64 (c : Int), .int .i64 1, .int .u64 0, .int .u64 0, .int .u64 0, .int .u64 0, .int .u64 0, .int .u64 0, .int .u64 0, .int .u64 0] 33)).trans (Chg.of_grown hg5); have hr5 := rowB_grew hb5 (n := w4.heap.size) (by simp); have HO5 := Lib.hid ho5; have HK5 := Lib.hid hk5; have HR5 := Lib.hid hr5; obtain ⟨A5, c5, hv5, _, _, _, _⟩ := ownsRow_cell ho5; clear ho5 hg5 hb5 hk5 hr5; subst hv5; have q2 : w5.cell? ⟨b, 2, none⟩ = some vi := (HK5.out.cell blt HNr.out 2).trans b2; have g2 : w5.frozen? ⟨b, 2, none⟩ = false := (HK5.out.blk HSv3.out.blk HNr.out).free 2; have qx : w5.cell? ⟨bx, 0, none⟩ = some (.int .i64 1) := (HK5.out.cell xlt HBn.out.ni 0).trans x_0)
  all_goals (have hG := HSv3.out.innNew (inn' := S.inn ++ [⟨2, (c : Int), 1, {}⟩]) HK5.out (by rw [List.length_append, List.flatMap_append]; exact HO5.out) HR5.out; have HZ := Lib.hid (And.intro hG.1 (HBl3.out.trans hG.2)); clear hG; go_wp2_with fail; refine bodyPost_ret (results_none rfl _ _ _) rfl ?_; exact ⟨rfl, ⟨_, _, _, HZ.out.1⟩, HZ.out.2⟩)


set_option maxHeartbeats 8000000 in
theorem wact_noask0 {N0 : Nat} {w : World} {b d bm bw bl bc : Nat} {vi vo : Value} {es : List EntV} {e0 : EntV} {S : SvS} {made got : Int} (c : Nat) (hc : c < S.hs.length) (x0 x1 x2 ys y0 y1 y2 y3 y4 y5 y6 y7 : Int) (ya yb : Bool) (hy : S.hs[c] = ⟨ys, ⟨y0, y1, y2, y3, y4, y5, y6, y7⟩, ya, yb⟩) (hx1 : 0 ≤ x1) (hct : x1.tmod (S.hs.length : Int) = (c : Int)) (hlen : S.inn.length ≤ 1000) (hcl : S.hs.length ≤ 4) (hx : ya = true ∨ yb = true ∨ ¬ ys < 1) (H : SvW N0 w b d bm bw bl bc vi vo es e0 S made got) :
    Calls Try.prog 16 #[.pointer (some ⟨b, 0, none⟩), .agg #[.int .i64 0, .int .i64 x1, .int .i64 x2]] w (SvPost N0 w b d bm bw bl bc e0 S made got) := by
  obtain ⟨j0, hj, hz0, hz1, hz2⟩ := info_parts infoMsg
  have hal : Chg [] w (w.alloc (.cells #[.int .i64 0, .int .i64 x1, .int .i64 x2] 49)) := (Chg.refl [] w).alloc _
  have HSv := Lib.hid (H.look hal)
  have HB := Lib.hid (Blk.new w [.int .i64 0, .int .i64 x1, .int .i64 x2] 49)
  have HBl := Lib.hid (hal.to_below (B := N0) (fun x hx => absurd hx (by simp)) H.lo.2.2)
  have HBn := Lib.hid (H.fresh (x := w.heap.size) (Nat.le_refl _))
  have HY := Lib.hid hy; have HLn := Lib.hid hlen; have HX := Lib.hid hx
  have hnl : (S.hs.length : Int) ≤ 4 := by omega
  have hci : (c : Int) < S.hs.length := by omega
  have hc0 : (0 : Int) ≤ c := Int.natCast_nonneg _
  have hnz : (S.hs.length : Int) ≠ 0 := by omega
  clear hal H hy hlen
  go_enter Try.func16, Try.ntmps16
  go_upto_region 1 with fail
  generalize World.alloc _ _ = wa at *
  obtain ⟨bx, hb⟩ : ∃ b, w.heap.size = b := ⟨_, rfl⟩
  rw [hb] at HB HBn ⊢
  clear hb
  have x_0 : wa.cell? ⟨bx, 0, none⟩ = some (.int .i64 0) := HB.out.cell 0
  have x_1 : wa.cell? ⟨bx, 1, none⟩ = some (.int .i64 x1) := HB.out.cell 1
  have x_2 : wa.cell? ⟨bx, 2, none⟩ = some (.int .i64 x2) := HB.out.cell 2
  have xlt : bx < wa.heap.size := HB.out.lt
  have b1 : wa.cell? ⟨b, 1, none⟩ = some (.slice (some ⟨bc, 0, none⟩) S.hs.length S.hs.length) := HSv.out.blk.cell 1
  have blt : b < wa.heap.size := HSv.out.blk.lt
  have clt : bc < wa.heap.size := HSv.out.hon.lt
  go_quiet (fail)
  have hq1 : Chg [] wa (wa.drewN nq) := (Chg.refl [] wa).drewN nq
  replace HBl := Lib.hid (HBl.out.trans (hq1.to_below (B := N0) (fun x hx => absurd hx (by simp)) HSv.out.lo.2.2)); replace HSv := Lib.hid (HSv.out.look hq1); replace HB := Lib.hid (hq1.blk HB.out (by simp))
  clear hq1 x_0 x_1 x_2 xlt b1 blt clt
  generalize World.drewN _ _ = w1 at *
  have b1 : w1.cell? ⟨b, 1, none⟩ = some (.slice (some ⟨bc, 0, none⟩) S.hs.length S.hs.length) := HSv.out.blk.cell 1
  have blt : b < w1.heap.size := HSv.out.blk.lt; have clt : bc < w1.heap.size := HSv.out.hon.lt; have xlt : bx < w1.heap.size := HB.out.lt
  have h0 : w1.cell? ⟨bc, c * 11, none⟩ = some (.int .i64 ys) := by have := HSv.out.hon.cell (c * 11 + 0); rw [flat_get encH_len S.hs c hc 0 (by decide), HY.out] at this; exact this
  have h1 : w1.cell? ⟨bc, c * 11 + 1, none⟩ = some (.int .u64 y0) := by have := HSv.out.hon.cell (c * 11 + 1); rw [flat_get encH_len S.hs c hc 1 (by decide), HY.out] at this; exact this
  have h2 : w1.cell? ⟨bc, c * 11 + 2, none⟩ = some (.int .u64 y1) := by have := HSv.out.hon.cell (c * 11 + 2); rw [flat_get encH_len S.hs c hc 2 (by decide), HY.out] at this; exact this
  have h3 : w1.cell? ⟨bc, c * 11 + 3, none⟩ = some (.int .u64 y2) := by have := HSv.out.hon.cell (c * 11 + 3); rw [flat_get encH_len S.hs c hc 3 (by decide), HY.out] at this; exact this
  have h4 : w1.cell? ⟨bc, c * 11 + 4, none⟩ = some (.int .u64 y3) := by have := HSv.out.hon.cell (c * 11 + 4); rw [flat_get encH_len S.hs c hc 4 (by decide), HY.out] at this; exact this
  have h5 : w1.cell? ⟨bc, c * 11 + 5, none⟩ = some (.int .u64 y4) := by have := HSv.out.hon.cell (c * 11 + 5); rw [flat_get encH_len S.hs c hc 5 (by decide), HY.out] at this; exact this
  have h6 : w1.cell? ⟨bc, c * 11 + 6, none⟩ = some (.int .u64 y5) := by have := HSv.out.hon.cell (c * 11 + 6); rw [flat_get encH_len S.hs c hc 6 (by decide), HY.out] at this; exact this
  have h7 : w1.cell? ⟨bc, c * 11 + 7, none⟩ = some (.int .u64 y6) := by have := HSv.out.hon.cell (c * 11 + 7); rw [flat_get encH_len S.hs c hc 7 (by decide), HY.out] at this; exact this
  have h8 : w1.cell? ⟨bc, c * 11 + 8, none⟩ = some (.int .u64 y7) := by have := HSv.out.hon.cell (c * 11 + 8); rw [flat_get encH_len S.hs c hc 8 (by decide), HY.out] at this; exact this
  have h9 : w1.cell? ⟨bc, c * 11 + 9, none⟩ = some (.bool ya) := by have := HSv.out.hon.cell (c * 11 + 9); rw [flat_get encH_len S.hs c hc 9 (by decide), HY.out] at this; exact this
  have h10 : w1.cell? ⟨bc, c * 11 + 10, none⟩ = some (.bool yb) := by have := HSv.out.hon.cell (c * 11 + 10); rw [flat_get encH_len S.hs c hc 10 (by decide), HY.out] at this; exact this
  go_upto_region 3 with fail
  have hk2 := (Chg.refl [] w1).alloc (.cells #[.int .i64 ys, .int .u64 y0, .int .u64 y1, .int .u64 y2, .int .u64 y3, .int .u64 y4, .int .u64 y5, .int .u64 y6, .int .u64 y7, .bool ya, .bool yb] 91)
  have HBh := Lib.hid (Blk.new w1 [.int .i64 ys, .int .u64 y0, .int .u64 y1, .int .u64 y2, .int .u64 y3, .int .u64 y4, .int .u64 y5, .int .u64 y6, .int .u64 y7, .bool ya, .bool yb] 91)
  have HAh := Lib.hid (HSv.out.fresh (x := w1.heap.size) (Nat.le_refl _))
  have hbk1 : bx < w1.heap.size := xlt
  replace HBl := Lib.hid (HBl.out.trans (hk2.to_below (B := N0) (fun x hx => absurd hx (by simp)) (HSv.out.lo.2.2))); replace HSv := Lib.hid (HSv.out.look hk2); replace HB := Lib.hid (hk2.blk HB.out (by simp))
  clear hk2 xlt blt clt b1 h0 h1 h2 h3 h4 h5 h6 h7 h8 h9 h10
  generalize World.alloc _ _ = w2 at *
  obtain ⟨bh, hbkk⟩ : ∃ b, w1.heap.size = b := ⟨_, rfl⟩
  rw [hbkk] at HBh HAh hbk1 ⊢
  clear hbkk
  have hn1 : bx ≠ bh := (by omega); have hn2 : bx ≠ b := HBn.out.nb; have hn3 : bh ≠ b := HAh.out.nb; have hn4 : bx ≠ bc := HBn.out.nc; have hn5 : bh ≠ bc := HAh.out.nc; have hn6 : b ≠ bc := HSv.out.ne
  have x_0 : w2.cell? ⟨bx, 0, none⟩ = some (.int .i64 0) := HB.out.cell 0
  have x_1 : w2.cell? ⟨bx, 1, none⟩ = some (.int .i64 x1) := HB.out.cell 1
  have x_2 : w2.cell? ⟨bx, 2, none⟩ = some (.int .i64 x2) := HB.out.cell 2
  have k_0 : w2.cell? ⟨bh, 0, none⟩ = some (.int .i64 ys) := HBh.out.cell 0
  have k_1 : w2.cell? ⟨bh, 1, none⟩ = some (.int .u64 y0) := HBh.out.cell 1
  have k_2 : w2.cell? ⟨bh, 2, none⟩ = some (.int .u64 y1) := HBh.out.cell 2
  have k_3 : w2.cell? ⟨bh, 3, none⟩ = some (.int .u64 y2) := HBh.out.cell 3
  have k_4 : w2.cell? ⟨bh, 4, none⟩ = some (.int .u64 y3) := HBh.out.cell 4
  have k_5 : w2.cell? ⟨bh, 5, none⟩ = some (.int .u64 y4) := HBh.out.cell 5
  have k_6 : w2.cell? ⟨bh, 6, none⟩ = some (.int .u64 y5) := HBh.out.cell 6
  have k_7 : w2.cell? ⟨bh, 7, none⟩ = some (.int .u64 y6) := HBh.out.cell 7
  have k_8 : w2.cell? ⟨bh, 8, none⟩ = some (.int .u64 y7) := HBh.out.cell 8
  have k_9 : w2.cell? ⟨bh, 9, none⟩ = some (.bool ya) := HBh.out.cell 9
  have k_10 : w2.cell? ⟨bh, 10, none⟩ = some (.bool yb) := HBh.out.cell 10
  have h0 : w2.cell? ⟨bc, c * 11, none⟩ = some (.int .i64 ys) := by have := HSv.out.hon.cell (c * 11 + 0); rw [flat_get encH_len S.hs c hc 0 (by decide), HY.out] at this; exact this
  have fc0 : w2.frozen? ⟨bc, c * 11, none⟩ = false := HSv.out.hon.free _
  have h1 : w2.cell? ⟨bc, c * 11 + 1, none⟩ = some (.int .u64 y0) := by have := HSv.out.hon.cell (c * 11 + 1); rw [flat_get encH_len S.hs c hc 1 (by decide), HY.out] at this; exact this
  have fc1 : w2.frozen? ⟨bc, c * 11 + 1, none⟩ = false := HSv.out.hon.free _
  have h2 : w2.cell? ⟨bc, c * 11 + 2, none⟩ = some (.int .u64 y1) := by have := HSv.out.hon.cell (c * 11 + 2); rw [flat_get encH_len S.hs c hc 2 (by decide), HY.out] at this; exact this
  have fc2 : w2.frozen? ⟨bc, c * 11 + 2, none⟩ = false := HSv.out.hon.free _
  have h3 : w2.cell? ⟨bc, c * 11 + 3, none⟩ = some (.int .u64 y2) := by have := HSv.out.hon.cell (c * 11 + 3); rw [flat_get encH_len S.hs c hc 3 (by decide), HY.out] at this; exact this
  have fc3 : w2.frozen? ⟨bc, c * 11 + 3, none⟩ = false := HSv.out.hon.free _
  have h4 : w2.cell? ⟨bc, c * 11 + 4, none⟩ = some (.int .u64 y3) := by have := HSv.out.hon.cell (c * 11 + 4); rw [flat_get encH_len S.hs c hc 4 (by decide), HY.out] at this; exact this
  have fc4 : w2.frozen? ⟨bc, c * 11 + 4, none⟩ = false := HSv.out.hon.free _
  have h5 : w2.cell? ⟨bc, c * 11 + 5, none⟩ = some (.int .u64 y4) := by have := HSv.out.hon.cell (c * 11 + 5); rw [flat_get encH_len S.hs c hc 5 (by decide), HY.out] at this; exact this
  have fc5 : w2.frozen? ⟨bc, c * 11 + 5, none⟩ = false := HSv.out.hon.free _
  have h6 : w2.cell? ⟨bc, c * 11 + 6, none⟩ = some (.int .u64 y5) := by have := HSv.out.hon.cell (c * 11 + 6); rw [flat_get encH_len S.hs c hc 6 (by decide), HY.out] at this; exact this
  have fc6 : w2.frozen? ⟨bc, c * 11 + 6, none⟩ = false := HSv.out.hon.free _
  have h7 : w2.cell? ⟨bc, c * 11 + 7, none⟩ = some (.int .u64 y6) := by have := HSv.out.hon.cell (c * 11 + 7); rw [flat_get encH_len S.hs c hc 7 (by decide), HY.out] at this; exact this
  have fc7 : w2.frozen? ⟨bc, c * 11 + 7, none⟩ = false := HSv.out.hon.free _
  have h8 : w2.cell? ⟨bc, c * 11 + 8, none⟩ = some (.int .u64 y7) := by have := HSv.out.hon.cell (c * 11 + 8); rw [flat_get encH_len S.hs c hc 8 (by decide), HY.out] at this; exact this
  have fc8 : w2.frozen? ⟨bc, c * 11 + 8, none⟩ = false := HSv.out.hon.free _
  have h9 : w2.cell? ⟨bc, c * 11 + 9, none⟩ = some (.bool ya) := by have := HSv.out.hon.cell (c * 11 + 9); rw [flat_get encH_len S.hs c hc 9 (by decide), HY.out] at this; exact this
  have fc9 : w2.frozen? ⟨bc, c * 11 + 9, none⟩ = false := HSv.out.hon.free _
  have h10 : w2.cell? ⟨bc, c * 11 + 10, none⟩ = some (.bool yb) := by have := HSv.out.hon.cell (c * 11 + 10); rw [flat_get encH_len S.hs c hc 10 (by decide), HY.out] at this; exact this
  have fc10 : w2.frozen? ⟨bc, c * 11 + 10, none⟩ = false := HSv.out.hon.free _
  have b1 : w2.cell? ⟨b, 1, none⟩ = some (.slice (some ⟨bc, 0, none⟩) S.hs.length S.hs.length) := HSv.out.blk.cell 1
  have f1 : w2.frozen? ⟨b, 1, none⟩ = false := HSv.out.blk.free 1
  have b2 : w2.cell? ⟨b, 2, none⟩ = some (vi) := HSv.out.blk.cell 2
  have f2 : w2.frozen? ⟨b, 2, none⟩ = false := HSv.out.blk.free 2
  have b3 : w2.cell? ⟨b, 3, none⟩ = some (vo) := HSv.out.blk.cell 3
  have f3 : w2.frozen? ⟨b, 3, none⟩ = false := HSv.out.blk.free 3
  have b4 : w2.cell? ⟨b, 4, none⟩ = some (.int .i64 made) := HSv.out.blk.cell 4
  have f4 : w2.frozen? ⟨b, 4, none⟩ = false := HSv.out.blk.free 4
  have b6 : w2.cell? ⟨b, 6, none⟩ = some (.int .u64 S.val) := HSv.out.blk.cell 6
  have f6 : w2.frozen? ⟨b, 6, none⟩ = false := HSv.out.blk.free 6
  have xlt : bx < w2.heap.size := HB.out.lt; have klt : bh < w2.heap.size := HBh.out.lt; have blt : b < w2.heap.size := HSv.out.blk.lt; have clt : bc < w2.heap.size := HSv.out.hon.lt
  cases ya with
  | true => go_wp2_with fail; refine bodyPost_ret (results_none rfl _ _ _) rfl ?_; exact ⟨rfl, ⟨_, _, _, HSv.out⟩, HBl.out⟩
  | false =>
    cases yb with
    | true => go_wp2_with fail; refine bodyPost_ret (results_none rfl _ _ _) rfl ?_; exact ⟨rfl, ⟨_, _, _, HSv.out⟩, HBl.out⟩
    | false =>
      have hns : ¬ ys < 1 := by simpa using HX.out
      clear hx
      go_wp2_with fail; refine bodyPost_ret (results_none rfl _ _ _) rfl ?_; exact ⟨rfl, ⟨_, _, _, HSv.out⟩, HBl.out⟩


set_option maxHeartbeats 8000000 in
theorem wact_noask1 {N0 : Nat} {w : World} {b d bm bw bl bc : Nat} {vi vo : Value} {es : List EntV} {e0 : EntV} {S : SvS} {made got : Int} (c : Nat) (hc : c < S.hs.length) (x0 x1 x2 ys y0 y1 y2 y3 y4 y5 y6 y7 : Int) (ya yb : Bool) (hy : S.hs[c] = ⟨ys, ⟨y0, y1, y2, y3, y4, y5, y6, y7⟩, ya, yb⟩) (hx1 : 0 ≤ x1) (hct : x1.tmod (S.hs.length : Int) = (c : Int)) (hlen : S.inn.length ≤ 1000) (hcl : S.hs.length ≤ 4) (hx : ya = true ∨ yb = true ∨ ¬ ys < 2) (H : SvW N0 w b d bm bw bl bc vi vo es e0 S made got) :
    Calls Try.prog 16 #[.pointer (some ⟨b, 0, none⟩), .agg #[.int .i64 1, .int .i64 x1, .int .i64 x2]] w (SvPost N0 w b d bm bw bl bc e0 S made got) := by
  obtain ⟨j0, hj, hz0, hz1, hz2⟩ := info_parts infoMsg
  have hal : Chg [] w (w.alloc (.cells #[.int .i64 1, .int .i64 x1, .int .i64 x2] 49)) := (Chg.refl [] w).alloc _
  have HSv := Lib.hid (H.look hal)
  have HB := Lib.hid (Blk.new w [.int .i64 1, .int .i64 x1, .int .i64 x2] 49)
  have HBl := Lib.hid (hal.to_below (B := N0) (fun x hx => absurd hx (by simp)) H.lo.2.2)
  have HBn := Lib.hid (H.fresh (x := w.heap.size) (Nat.le_refl _))
  have HY := Lib.hid hy; have HLn := Lib.hid hlen; have HX := Lib.hid hx
  have hnl : (S.hs.length : Int) ≤ 4 := by omega
  have hci : (c : Int) < S.hs.length := by omega
  have hc0 : (0 : Int) ≤ c := Int.natCast_nonneg _
  have hnz : (S.hs.length : Int) ≠ 0 := by omega
  clear hal H hy hlen
  go_enter Try.func16, Try.ntmps16
  go_upto_region 1 with fail
  generalize World.alloc _ _ = wa at *
  obtain ⟨bx, hb⟩ : ∃ b, w.heap.size = b := ⟨_, rfl⟩
  rw [hb] at HB HBn ⊢
  clear hb
  have x_0 : wa.cell? ⟨bx, 0, none⟩ = some (.int .i64 1) := HB.out.cell 0
  have x_1 : wa.cell? ⟨bx, 1, none⟩ = some (.int .i64 x1) := HB.out.cell 1
  have x_2 : wa.cell? ⟨bx, 2, none⟩ = some (.int .i64 x2) := HB.out.cell 2
  have xlt : bx < wa.heap.size := HB.out.lt
  have b1 : wa.cell? ⟨b, 1, none⟩ = some (.slice (some ⟨bc, 0, none⟩) S.hs.length S.hs.length) := HSv.out.blk.cell 1
  have blt : b < wa.heap.size := HSv.out.blk.lt
  have clt : bc < wa.heap.size := HSv.out.hon.lt
  go_quiet (fail)
  have hq1 : Chg [] wa (wa.drewN nq) := (Chg.refl [] wa).drewN nq
  replace HBl := Lib.hid (HBl.out.trans (hq1.to_below (B := N0) (fun x hx => absurd hx (by simp)) HSv.out.lo.2.2)); replace HSv := Lib.hid (HSv.out.look hq1); replace HB := Lib.hid (hq1.blk HB.out (by simp))
  clear hq1 x_0 x_1 x_2 xlt b1 blt clt
  generalize World.drewN _ _ = w1 at *
  have b1 : w1.cell? ⟨b, 1, none⟩ = some (.slice (some ⟨bc, 0, none⟩) S.hs.length S.hs.length) := HSv.out.blk.cell 1
  have blt : b < w1.heap.size := HSv.out.blk.lt; have clt : bc < w1.heap.size := HSv.out.hon.lt; have xlt : bx < w1.heap.size := HB.out.lt
  have h0 : w1.cell? ⟨bc, c * 11, none⟩ = some (.int .i64 ys) := by have := HSv.out.hon.cell (c * 11 + 0); rw [flat_get encH_len S.hs c hc 0 (by decide), HY.out] at this; exact this
  have h1 : w1.cell? ⟨bc, c * 11 + 1, none⟩ = some (.int .u64 y0) := by have := HSv.out.hon.cell (c * 11 + 1); rw [flat_get encH_len S.hs c hc 1 (by decide), HY.out] at this; exact this
  have h2 : w1.cell? ⟨bc, c * 11 + 2, none⟩ = some (.int .u64 y1) := by have := HSv.out.hon.cell (c * 11 + 2); rw [flat_get encH_len S.hs c hc 2 (by decide), HY.out] at this; exact this
  have h3 : w1.cell? ⟨bc, c * 11 + 3, none⟩ = some (.int .u64 y2) := by have := HSv.out.hon.cell (c * 11 + 3); rw [flat_get encH_len S.hs c hc 3 (by decide), HY.out] at this; exact this
  have h4 : w1.cell? ⟨bc, c * 11 + 4, none⟩ = some (.int .u64 y3) := by have := HSv.out.hon.cell (c * 11 + 4); rw [flat_get encH_len S.hs c hc 4 (by decide), HY.out] at this; exact this
  have h5 : w1.cell? ⟨bc, c * 11 + 5, none⟩ = some (.int .u64 y4) := by have := HSv.out.hon.cell (c * 11 + 5); rw [flat_get encH_len S.hs c hc 5 (by decide), HY.out] at this; exact this
  have h6 : w1.cell? ⟨bc, c * 11 + 6, none⟩ = some (.int .u64 y5) := by have := HSv.out.hon.cell (c * 11 + 6); rw [flat_get encH_len S.hs c hc 6 (by decide), HY.out] at this; exact this
  have h7 : w1.cell? ⟨bc, c * 11 + 7, none⟩ = some (.int .u64 y6) := by have := HSv.out.hon.cell (c * 11 + 7); rw [flat_get encH_len S.hs c hc 7 (by decide), HY.out] at this; exact this
  have h8 : w1.cell? ⟨bc, c * 11 + 8, none⟩ = some (.int .u64 y7) := by have := HSv.out.hon.cell (c * 11 + 8); rw [flat_get encH_len S.hs c hc 8 (by decide), HY.out] at this; exact this
  have h9 : w1.cell? ⟨bc, c * 11 + 9, none⟩ = some (.bool ya) := by have := HSv.out.hon.cell (c * 11 + 9); rw [flat_get encH_len S.hs c hc 9 (by decide), HY.out] at this; exact this
  have h10 : w1.cell? ⟨bc, c * 11 + 10, none⟩ = some (.bool yb) := by have := HSv.out.hon.cell (c * 11 + 10); rw [flat_get encH_len S.hs c hc 10 (by decide), HY.out] at this; exact this
  go_upto_region 3 with fail
  have hk2 := (Chg.refl [] w1).alloc (.cells #[.int .i64 ys, .int .u64 y0, .int .u64 y1, .int .u64 y2, .int .u64 y3, .int .u64 y4, .int .u64 y5, .int .u64 y6, .int .u64 y7, .bool ya, .bool yb] 91)
  have HBh := Lib.hid (Blk.new w1 [.int .i64 ys, .int .u64 y0, .int .u64 y1, .int .u64 y2, .int .u64 y3, .int .u64 y4, .int .u64 y5, .int .u64 y6, .int .u64 y7, .bool ya, .bool yb] 91)
  have HAh := Lib.hid (HSv.out.fresh (x := w1.heap.size) (Nat.le_refl _))
  have hbk1 : bx < w1.heap.size := xlt
  replace HBl := Lib.hid (HBl.out.trans (hk2.to_below (B := N0) (fun x hx => absurd hx (by simp)) (HSv.out.lo.2.2))); replace HSv := Lib.hid (HSv.out.look hk2); replace HB := Lib.hid (hk2.blk HB.out (by simp))
  clear hk2 xlt blt clt b1 h0 h1 h2 h3 h4 h5 h6 h7 h8 h9 h10
  generalize World.alloc _ _ = w2 at *
  obtain ⟨bh, hbkk⟩ : ∃ b, w1.heap.size = b := ⟨_, rfl⟩
  rw [hbkk] at HBh HAh hbk1 ⊢
  clear hbkk
  have hn1 : bx ≠ bh := (by omega); have hn2 : bx ≠ b := HBn.out.nb; have hn3 : bh ≠ b := HAh.out.nb; have hn4 : bx ≠ bc := HBn.out.nc; have hn5 : bh ≠ bc := HAh.out.nc; have hn6 : b ≠ bc := HSv.out.ne
  have x_0 : w2.cell? ⟨bx, 0, none⟩ = some (.int .i64 1) := HB.out.cell 0
  have x_1 : w2.cell? ⟨bx, 1, none⟩ = some (.int .i64 x1) := HB.out.cell 1
  have x_2 : w2.cell? ⟨bx, 2, none⟩ = some (.int .i64 x2) := HB.out.cell 2
  have k_0 : w2.cell? ⟨bh, 0, none⟩ = some (.int .i64 ys) := HBh.out.cell 0
  have k_1 : w2.cell? ⟨bh, 1, none⟩ = some (.int .u64 y0) := HBh.out.cell 1
  have k_2 : w2.cell? ⟨bh, 2, none⟩ = some (.int .u64 y1) := HBh.out.cell 2
  have k_3 : w2.cell? ⟨bh, 3, none⟩ = some (.int .u64 y2) := HBh.out.cell 3
  have k_4 : w2.cell? ⟨bh, 4, none⟩ = some (.int .u64 y3) := HBh.out.cell 4
  have k_5 : w2.cell? ⟨bh, 5, none⟩ = some (.int .u64 y4) := HBh.out.cell 5
  have k_6 : w2.cell? ⟨bh, 6, none⟩ = some (.int .u64 y5) := HBh.out.cell 6
  have k_7 : w2.cell? ⟨bh, 7, none⟩ = some (.int .u64 y6) := HBh.out.cell 7
  have k_8 : w2.cell? ⟨bh, 8, none⟩ = some (.int .u64 y7) := HBh.out.cell 8
  have k_9 : w2.cell? ⟨bh, 9, none⟩ = some (.bool ya) := HBh.out.cell 9
  have k_10 : w2.cell? ⟨bh, 10, none⟩ = some (.bool yb) := HBh.out.cell 10
  have h0 : w2.cell? ⟨bc, c * 11, none⟩ = some (.int .i64 ys) := by have := HSv.out.hon.cell (c * 11 + 0); rw [flat_get encH_len S.hs c hc 0 (by decide), HY.out] at this; exact this
  have fc0 : w2.frozen? ⟨bc, c * 11, none⟩ = false := HSv.out.hon.free _
  have h1 : w2.cell? ⟨bc, c * 11 + 1, none⟩ = some (.int .u64 y0) := by have := HSv.out.hon.cell (c * 11 + 1); rw [flat_get encH_len S.hs c hc 1 (by decide), HY.out] at this; exact this
  have fc1 : w2.frozen? ⟨bc, c * 11 + 1, none⟩ = false := HSv.out.hon.free _
  have h2 : w2.cell? ⟨bc, c * 11 + 2, none⟩ = some (.int .u64 y1) := by have := HSv.out.hon.cell (c * 11 + 2); rw [flat_get encH_len S.hs c hc 2 (by decide), HY.out] at this; exact this
  have fc2 : w2.frozen? ⟨bc, c * 11 + 2, none⟩ = false := HSv.out.hon.free _
  have h3 : w2.cell? ⟨bc, c * 11 + 3, none⟩ = some (.int .u64 y2) := by have := HSv.out.hon.cell (c * 11 + 3); rw [flat_get encH_len S.hs c hc 3 (by decide), HY.out] at this; exact this
  have fc3 : w2.frozen? ⟨bc, c * 11 + 3, none⟩ = false := HSv.out.hon.free _
  have h4 : w2.cell? ⟨bc, c * 11 + 4, none⟩ = some (.int .u64 y3) := by have := HSv.out.hon.cell (c * 11 + 4); rw [flat_get encH_len S.hs c hc 4 (by decide), HY.out] at this; exact this
  have fc4 : w2.frozen? ⟨bc, c * 11 + 4, none⟩ = false := HSv.out.hon.free _
  have h5 : w2.cell? ⟨bc, c * 11 + 5, none⟩ = some (.int .u64 y4) := by have := HSv.out.hon.cell (c * 11 + 5); rw [flat_get encH_len S.hs c hc 5 (by decide), HY.out] at this; exact this
  have fc5 : w2.frozen? ⟨bc, c * 11 + 5, none⟩ = false := HSv.out.hon.free _
  have h6 : w2.cell? ⟨bc, c * 11 + 6, none⟩ = some (.int .u64 y5) := by have := HSv.out.hon.cell (c * 11 + 6); rw [flat_get encH_len S.hs c hc 6 (by decide), HY.out] at this; exact this
  have fc6 : w2.frozen? ⟨bc, c * 11 + 6, none⟩ = false := HSv.out.hon.free _
  have h7 : w2.cell? ⟨bc, c * 11 + 7, none⟩ = some (.int .u64 y6) := by have := HSv.out.hon.cell (c * 11 + 7); rw [flat_get encH_len S.hs c hc 7 (by decide), HY.out] at this; exact this
  have fc7 : w2.frozen? ⟨bc, c * 11 + 7, none⟩ = false := HSv.out.hon.free _
  have h8 : w2.cell? ⟨bc, c * 11 + 8, none⟩ = some (.int .u64 y7) := by have := HSv.out.hon.cell (c * 11 + 8); rw [flat_get encH_len S.hs c hc 8 (by decide), HY.out] at this; exact this
  have fc8 : w2.frozen? ⟨bc, c * 11 + 8, none⟩ = false := HSv.out.hon.free _
  have h9 : w2.cell? ⟨bc, c * 11 + 9, none⟩ = some (.bool ya) := by have := HSv.out.hon.cell (c * 11 + 9); rw [flat_get encH_len S.hs c hc 9 (by decide), HY.out] at this; exact this
  have fc9 : w2.frozen? ⟨bc, c * 11 + 9, none⟩ = false := HSv.out.hon.free _
  have h10 : w2.cell? ⟨bc, c * 11 + 10, none⟩ = some (.bool yb) := by have := HSv.out.hon.cell (c * 11 + 10); rw [flat_get encH_len S.hs c hc 10 (by decide), HY.out] at this; exact this
  have fc10 : w2.frozen? ⟨bc, c * 11 + 10, none⟩ = false := HSv.out.hon.free _
  have b1 : w2.cell? ⟨b, 1, none⟩ = some (.slice (some ⟨bc, 0, none⟩) S.hs.length S.hs.length) := HSv.out.blk.cell 1
  have f1 : w2.frozen? ⟨b, 1, none⟩ = false := HSv.out.blk.free 1
  have b2 : w2.cell? ⟨b, 2, none⟩ = some (vi) := HSv.out.blk.cell 2
  have f2 : w2.frozen? ⟨b, 2, none⟩ = false := HSv.out.blk.free 2
  have b3 : w2.cell? ⟨b, 3, none⟩ = some (vo) := HSv.out.blk.cell 3
  have f3 : w2.frozen? ⟨b, 3, none⟩ = false := HSv.out.blk.free 3
  have b4 : w2.cell? ⟨b, 4, none⟩ = some (.int .i64 made) := HSv.out.blk.cell 4
  have f4 : w2.frozen? ⟨b, 4, none⟩ = false := HSv.out.blk.free 4
  have b6 : w2.cell? ⟨b, 6, none⟩ = some (.int .u64 S.val) := HSv.out.blk.cell 6
  have f6 : w2.frozen? ⟨b, 6, none⟩ = false := HSv.out.blk.free 6
  have xlt : bx < w2.heap.size := HB.out.lt; have klt : bh < w2.heap.size := HBh.out.lt; have blt : b < w2.heap.size := HSv.out.blk.lt; have clt : bc < w2.heap.size := HSv.out.hon.lt
  cases ya with
  | true => go_wp2_with fail; refine bodyPost_ret (results_none rfl _ _ _) rfl ?_; exact ⟨rfl, ⟨_, _, _, HSv.out⟩, HBl.out⟩
  | false =>
    cases yb with
    | true => go_wp2_with fail; refine bodyPost_ret (results_none rfl _ _ _) rfl ?_; exact ⟨rfl, ⟨_, _, _, HSv.out⟩, HBl.out⟩
    | false =>
      have hns : ¬ ys < 2 := by simpa using HX.out
      clear hx
      go_wp2_with fail; refine bodyPost_ret (results_none rfl _ _ _) rfl ?_; exact ⟨rfl, ⟨_, _, _, HSv.out⟩, HBl.out⟩


set_option maxHeartbeats 8000000 in
theorem wact_hear0 {N0 : Nat} {w : World} {b d bm bw bl bc : Nat} {vi vo : Value} {es : List EntV} {e0 : EntV} {S : SvS} {made got : Int} (c : Nat) (hc : c < S.hs.length) (x0 x1 x2 ys y0 y1 y2 y3 y4 y5 y6 y7 : Int) (ya yb : Bool) (hy : S.hs[c] = ⟨ys, ⟨y0, y1, y2, y3, y4, y5, y6, y7⟩, ya, yb⟩) (hx1 : 0 ≤ x1) (hct : x1.tmod (S.hs.length : Int) = (c : Int)) (hlen : S.inn.length ≤ 1000) (hcl : S.hs.length ≤ 4) (hx : S.inn = []) (H : SvW N0 w b d bm bw bl bc vi vo es e0 S made got) :
    Calls Try.prog 16 #[.pointer (some ⟨b, 0, none⟩), .agg #[.int .i64 2, .int .i64 x1, .int .i64 x2]] w (SvPost N0 w b d bm bw bl bc e0 S made got) := by
  obtain ⟨j0, hj, hz0, hz1, hz2⟩ := info_parts infoMsg
  have hal : Chg [] w (w.alloc (.cells #[.int .i64 2, .int .i64 x1, .int .i64 x2] 49)) := (Chg.refl [] w).alloc _
  have HSv := Lib.hid (H.look hal)
  have HB := Lib.hid (Blk.new w [.int .i64 2, .int .i64 x1, .int .i64 x2] 49)
  have HBl := Lib.hid (hal.to_below (B := N0) (fun x hx => absurd hx (by simp)) H.lo.2.2)
  have HBn := Lib.hid (H.fresh (x := w.heap.size) (Nat.le_refl _))
  have HY := Lib.hid hy; have HLn := Lib.hid hlen; have HX := Lib.hid hx
  clear hx
  have hnl : (S.hs.length : Int) ≤ 4 := by omega
  have hci : (c : Int) < S.hs.length := by omega
  have hc0 : (0 : Int) ≤ c := Int.natCast_nonneg _
  have hnz : (S.hs.length : Int) ≠ 0 := by omega
  clear hal H hy hlen
  go_enter Try.func16, Try.ntmps16
  go_upto_region 1 with fail
  generalize World.alloc _ _ = wa at *
  obtain ⟨bx, hb⟩ : ∃ b, w.heap.size = b := ⟨_, rfl⟩
  rw [hb] at HB HBn ⊢
  clear hb
  have x_0 : wa.cell? ⟨bx, 0, none⟩ = some (.int .i64 2) := HB.out.cell 0
  have x_1 : wa.cell? ⟨bx, 1, none⟩ = some (.int .i64 x1) := HB.out.cell 1
  have x_2 : wa.cell? ⟨bx, 2, none⟩ = some (.int .i64 x2) := HB.out.cell 2
  have xlt : bx < wa.heap.size := HB.out.lt
  have b1 : wa.cell? ⟨b, 1, none⟩ = some (.slice (some ⟨bc, 0, none⟩) S.hs.length S.hs.length) := HSv.out.blk.cell 1
  have blt : b < wa.heap.size := HSv.out.blk.lt
  have clt : bc < wa.heap.size := HSv.out.hon.lt
  go_quiet (fail)
  have hq1 : Chg [] wa (wa.drewN nq) := (Chg.refl [] wa).drewN nq
  replace HBl := Lib.hid (HBl.out.trans (hq1.to_below (B := N0) (fun x hx => absurd hx (by simp)) HSv.out.lo.2.2)); replace HSv := Lib.hid (HSv.out.look hq1); replace HB := Lib.hid (hq1.blk HB.out (by simp))
  clear hq1 x_0 x_1 x_2 xlt b1 blt clt
  generalize World.drewN _ _ = w1 at *
  have b1 : w1.cell? ⟨b, 1, none⟩ = some (.slice (some ⟨bc, 0, none⟩) S.hs.length S.hs.length) := HSv.out.blk.cell 1
  have blt : b < w1.heap.size := HSv.out.blk.lt; have clt : bc < w1.heap.size := HSv.out.hon.lt; have xlt : bx < w1.heap.size := HB.out.lt
  have h0 : w1.cell? ⟨bc, c * 11, none⟩ = some (.int .i64 ys) := by have := HSv.out.hon.cell (c * 11 + 0); rw [flat_get encH_len S.hs c hc 0 (by decide), HY.out] at this; exact this
  have h1 : w1.cell? ⟨bc, c * 11 + 1, none⟩ = some (.int .u64 y0) := by have := HSv.out.hon.cell (c * 11 + 1); rw [flat_get encH_len S.hs c hc 1 (by decide), HY.out] at this; exact this
  have h2 : w1.cell? ⟨bc, c * 11 + 2, none⟩ = some (.int .u64 y1) := by have := HSv.out.hon.cell (c * 11 + 2); rw [flat_get encH_len S.hs c hc 2 (by decide), HY.out] at this; exact this
  have h3 : w1.cell? ⟨bc, c * 11 + 3, none⟩ = some (.int .u64 y2) := by have := HSv.out.hon.cell (c * 11 + 3); rw [flat_get encH_len S.hs c hc 3 (by decide), HY.out] at this; exact this
  have h4 : w1.cell? ⟨bc, c * 11 + 4, none⟩ = some (.int .u64 y3) := by have := HSv.out.hon.cell (c * 11 + 4); rw [flat_get encH_len S.hs c hc 4 (by decide), HY.out] at this; exact this
  have h5 : w1.cell? ⟨bc, c * 11 + 5, none⟩ = some (.int .u64 y4) := by have := HSv.out.hon.cell (c * 11 + 5); rw [flat_get encH_len S.hs c hc 5 (by decide), HY.out] at this; exact this
  have h6 : w1.cell? ⟨bc, c * 11 + 6, none⟩ = some (.int .u64 y5) := by have := HSv.out.hon.cell (c * 11 + 6); rw [flat_get encH_len S.hs c hc 6 (by decide), HY.out] at this; exact this
  have h7 : w1.cell? ⟨bc, c * 11 + 7, none⟩ = some (.int .u64 y6) := by have := HSv.out.hon.cell (c * 11 + 7); rw [flat_get encH_len S.hs c hc 7 (by decide), HY.out] at this; exact this
  have h8 : w1.cell? ⟨bc, c * 11 + 8, none⟩ = some (.int .u64 y7) := by have := HSv.out.hon.cell (c * 11 + 8); rw [flat_get encH_len S.hs c hc 8 (by decide), HY.out] at this; exact this
  have h9 : w1.cell? ⟨bc, c * 11 + 9, none⟩ = some (.bool ya) := by have := HSv.out.hon.cell (c * 11 + 9); rw [flat_get encH_len S.hs c hc 9 (by decide), HY.out] at this; exact this
  have h10 : w1.cell? ⟨bc, c * 11 + 10, none⟩ = some (.bool yb) := by have := HSv.out.hon.cell (c * 11 + 10); rw [flat_get encH_len S.hs c hc 10 (by decide), HY.out] at this; exact this
  go_upto_region 3 with fail
  have hk2 := (Chg.refl [] w1).alloc (.cells #[.int .i64 ys, .int .u64 y0, .int .u64 y1, .int .u64 y2, .int .u64 y3, .int .u64 y4, .int .u64 y5, .int .u64 y6, .int .u64 y7, .bool ya, .bool yb] 91)
  have HBh := Lib.hid (Blk.new w1 [.int .i64 ys, .int .u64 y0, .int .u64 y1, .int .u64 y2, .int .u64 y3, .int .u64 y4, .int .u64 y5, .int .u64 y6, .int .u64 y7, .bool ya, .bool yb] 91)
  have HAh := Lib.hid (HSv.out.fresh (x := w1.heap.size) (Nat.le_refl _))
  have hbk1 : bx < w1.heap.size := xlt
  replace HBl := Lib.hid (HBl.out.trans (hk2.to_below (B := N0) (fun x hx => absurd hx (by simp)) (HSv.out.lo.2.2))); replace HSv := Lib.hid (HSv.out.look hk2); replace HB := Lib.hid (hk2.blk HB.out (by simp))
  clear hk2 xlt blt clt b1 h0 h1 h2 h3 h4 h5 h6 h7 h8 h9 h10
  generalize World.alloc _ _ = w2 at *
  obtain ⟨bh, hbkk⟩ : ∃ b, w1.heap.size = b := ⟨_, rfl⟩
  rw [hbkk] at HBh HAh hbk1 ⊢
  clear hbkk
  have hn1 : bx ≠ bh := (by omega); have hn2 : bx ≠ b := HBn.out.nb; have hn3 : bh ≠ b := HAh.out.nb; have hn4 : bx ≠ bc := HBn.out.nc; have hn5 : bh ≠ bc := HAh.out.nc; have hn6 : b ≠ bc := HSv.out.ne
  have x_0 : w2.cell? ⟨bx, 0, none⟩ = some (.int .i64 2) := HB.out.cell 0
  have x_1 : w2.cell? ⟨bx, 1, none⟩ = some (.int .i64 x1) := HB.out.cell 1
  have x_2 : w2.cell? ⟨bx, 2, none⟩ = some (.int .i64 x2) := HB.out.cell 2
  have k_0 : w2.cell? ⟨bh, 0, none⟩ = some (.int .i64 ys) := HBh.out.cell 0
  have k_1 : w2.cell? ⟨bh, 1, none⟩ = some (.int .u64 y0) := HBh.out.cell 1
  have k_2 : w2.cell? ⟨bh, 2, none⟩ = some (.int .u64 y1) := HBh.out.cell 2
  have k_3 : w2.cell? ⟨bh, 3, none⟩ = some (.int .u64 y2) := HBh.out.cell 3
  have k_4 : w2.cell? ⟨bh, 4, none⟩ = some (.int .u64 y3) := HBh.out.cell 4
  have k_5 : w2.cell? ⟨bh, 5, none⟩ = some (.int .u64 y4) := HBh.out.cell 5
  have k_6 : w2.cell? ⟨bh, 6, none⟩ = some (.int .u64 y5) := HBh.out.cell 6
  have k_7 : w2.cell? ⟨bh, 7, none⟩ = some (.int .u64 y6) := HBh.out.cell 7
  have k_8 : w2.cell? ⟨bh, 8, none⟩ = some (.int .u64 y7) := HBh.out.cell 8
  have k_9 : w2.cell? ⟨bh, 9, none⟩ = some (.bool ya) := HBh.out.cell 9
  have k_10 : w2.cell? ⟨bh, 10, none⟩ = some (.bool yb) := HBh.out.cell 10
  have h0 : w2.cell? ⟨bc, c * 11, none⟩ = some (.int .i64 ys) := by have := HSv.out.hon.cell (c * 11 + 0); rw [flat_get encH_len S.hs c hc 0 (by decide), HY.out] at this; exact this
  have fc0 : w2.frozen? ⟨bc, c * 11, none⟩ = false := HSv.out.hon.free _
  have h1 : w2.cell? ⟨bc, c * 11 + 1, none⟩ = some (.int .u64 y0) := by have := HSv.out.hon.cell (c * 11 + 1); rw [flat_get encH_len S.hs c hc 1 (by decide), HY.out] at this; exact this
  have fc1 : w2.frozen? ⟨bc, c * 11 + 1, none⟩ = false := HSv.out.hon.free _
  have h2 : w2.cell? ⟨bc, c * 11 + 2, none⟩ = some (.int .u64 y1) := by have := HSv.out.hon.cell (c * 11 + 2); rw [flat_get encH_len S.hs c hc 2 (by decide), HY.out] at this; exact this
  have fc2 : w2.frozen? ⟨bc, c * 11 + 2, none⟩ = false := HSv.out.hon.free _
  have h3 : w2.cell? ⟨bc, c * 11 + 3, none⟩ = some (.int .u64 y2) := by have := HSv.out.hon.cell (c * 11 + 3); rw [flat_get encH_len S.hs c hc 3 (by decide), HY.out] at this; exact this
  have fc3 : w2.frozen? ⟨bc, c * 11 + 3, none⟩ = false := HSv.out.hon.free _
  have h4 : w2.cell? ⟨bc, c * 11 + 4, none⟩ = some (.int .u64 y3) := by have := HSv.out.hon.cell (c * 11 + 4); rw [flat_get encH_len S.hs c hc 4 (by decide), HY.out] at this; exact this
  have fc4 : w2.frozen? ⟨bc, c * 11 + 4, none⟩ = false := HSv.out.hon.free _
  have h5 : w2.cell? ⟨bc, c * 11 + 5, none⟩ = some (.int .u64 y4) := by have := HSv.out.hon.cell (c * 11 + 5); rw [flat_get encH_len S.hs c hc 5 (by decide), HY.out] at this; exact this
  have fc5 : w2.frozen? ⟨bc, c * 11 + 5, none⟩ = false := HSv.out.hon.free _
  have h6 : w2.cell? ⟨bc, c * 11 + 6, none⟩ = some (.int .u64 y5) := by have := HSv.out.hon.cell (c * 11 + 6); rw [flat_get encH_len S.hs c hc 6 (by decide), HY.out] at this; exact this
  have fc6 : w2.frozen? ⟨bc, c * 11 + 6, none⟩ = false := HSv.out.hon.free _
  have h7 : w2.cell? ⟨bc, c * 11 + 7, none⟩ = some (.int .u64 y6) := by have := HSv.out.hon.cell (c * 11 + 7); rw [flat_get encH_len S.hs c hc 7 (by decide), HY.out] at this; exact this
  have fc7 : w2.frozen? ⟨bc, c * 11 + 7, none⟩ = false := HSv.out.hon.free _
  have h8 : w2.cell? ⟨bc, c * 11 + 8, none⟩ = some (.int .u64 y7) := by have := HSv.out.hon.cell (c * 11 + 8); rw [flat_get encH_len S.hs c hc 8 (by decide), HY.out] at this; exact this
  have fc8 : w2.frozen? ⟨bc, c * 11 + 8, none⟩ = false := HSv.out.hon.free _
  have h9 : w2.cell? ⟨bc, c * 11 + 9, none⟩ = some (.bool ya) := by have := HSv.out.hon.cell (c * 11 + 9); rw [flat_get encH_len S.hs c hc 9 (by decide), HY.out] at this; exact this
  have fc9 : w2.frozen? ⟨bc, c * 11 + 9, none⟩ = false := HSv.out.hon.free _
  have h10 : w2.cell? ⟨bc, c * 11 + 10, none⟩ = some (.bool yb) := by have := HSv.out.hon.cell (c * 11 + 10); rw [flat_get encH_len S.hs c hc 10 (by decide), HY.out] at this; exact this
  have fc10 : w2.frozen? ⟨bc, c * 11 + 10, none⟩ = false := HSv.out.hon.free _
  have b1 : w2.cell? ⟨b, 1, none⟩ = some (.slice (some ⟨bc, 0, none⟩) S.hs.length S.hs.length) := HSv.out.blk.cell 1
  have f1 : w2.frozen? ⟨b, 1, none⟩ = false := HSv.out.blk.free 1
  have b2 : w2.cell? ⟨b, 2, none⟩ = some (vi) := HSv.out.blk.cell 2
  have f2 : w2.frozen? ⟨b, 2, none⟩ = false := HSv.out.blk.free 2
  have b3 : w2.cell? ⟨b, 3, none⟩ = some (vo) := HSv.out.blk.cell 3
  have f3 : w2.frozen? ⟨b, 3, none⟩ = false := HSv.out.blk.free 3
  have b4 : w2.cell? ⟨b, 4, none⟩ = some (.int .i64 made) := HSv.out.blk.cell 4
  have f4 : w2.frozen? ⟨b, 4, none⟩ = false := HSv.out.blk.free 4
  have b6 : w2.cell? ⟨b, 6, none⟩ = some (.int .u64 S.val) := HSv.out.blk.cell 6
  have f6 : w2.frozen? ⟨b, 6, none⟩ = false := HSv.out.blk.free 6
  have xlt : bx < w2.heap.size := HB.out.lt; have klt : bh < w2.heap.size := HBh.out.lt; have blt : b < w2.heap.size := HSv.out.blk.lt; have clt : bc < w2.heap.size := HSv.out.hon.lt
  obtain ⟨A9, c9, hv9, _, _, _, _⟩ := ownsRow_cell HSv.out.inn
  rw [HX.out] at hv9
  rw [hv9] at b2
  simp only [List.length_nil] at b2
  clear hv9
  go_wp2_with fail
  refine bodyPost_ret (results_none rfl _ _ _) rfl ?_
  exact ⟨rfl, ⟨_, _, _, HSv.out⟩, HBl.out⟩


set_option maxHeartbeats 8000000 in
theorem wact_ans0 {N0 : Nat} {w : World} {b d bm bw bl bc : Nat} {vi vo : Value} {es : List EntV} {e0 : EntV} {S : SvS} {made got : Int} (c : Nat) (hc : c < S.hs.length) (x0 x1 x2 ys y0 y1 y2 y3 y4 y5 y6 y7 : Int) (ya yb : Bool) (hy : S.hs[c] = ⟨ys, ⟨y0, y1, y2, y3, y4, y5, y6, y7⟩, ya, yb⟩) (hx1 : 0 ≤ x1) (hct : x1.tmod (S.hs.length : Int) = (c : Int)) (hlen : S.inn.length ≤ 1000) (hcl : S.hs.length ≤ 4) (hx : S.out = []) (H : SvW N0 w b d bm bw bl bc vi vo es e0 S made got) :
    Calls Try.prog 16 #[.pointer (some ⟨b, 0, none⟩), .agg #[.int .i64 3, .int .i64 x1, .int .i64 x2]] w (SvPost N0 w b d bm bw bl bc e0 S made got) := by
  obtain ⟨j0, hj, hz0, hz1, hz2⟩ := info_parts infoMsg
  have hal : Chg [] w (w.alloc (.cells #[.int .i64 3, .int .i64 x1, .int .i64 x2] 49)) := (Chg.refl [] w).alloc _
  have HSv := Lib.hid (H.look hal)
  have HB := Lib.hid (Blk.new w [.int .i64 3, .int .i64 x1, .int .i64 x2] 49)
  have HBl := Lib.hid (hal.to_below (B := N0) (fun x hx => absurd hx (by simp)) H.lo.2.2)
  have HBn := Lib.hid (H.fresh (x := w.heap.size) (Nat.le_refl _))
  have HY := Lib.hid hy; have HLn := Lib.hid hlen; have HX := Lib.hid hx
  clear hx
  have hnl : (S.hs.length : Int) ≤ 4 := by omega
  have hci : (c : Int) < S.hs.length := by omega
  have hc0 : (0 : Int) ≤ c := Int.natCast_nonneg _
  have hnz : (S.hs.length : Int) ≠ 0 := by omega
  clear hal H hy hlen
  go_enter Try.func16, Try.ntmps16
  go_upto_region 1 with fail
  generalize World.alloc _ _ = wa at *
  obtain ⟨bx, hb⟩ : ∃ b, w.heap.size = b := ⟨_, rfl⟩
  rw [hb] at HB HBn ⊢
  clear hb
  have x_0 : wa.cell? ⟨bx, 0, none⟩ = some (.int .i64 3) := HB.out.cell 0
  have x_1 : wa.cell? ⟨bx, 1, none⟩ = some (.int .i64 x1) := HB.out.cell 1
  have x_2 : wa.cell? ⟨bx, 2, none⟩ = some (.int .i64 x2) := HB.out.cell 2
  have xlt : bx < wa.heap.size := HB.out.lt
  have b1 : wa.cell? ⟨b, 1, none⟩ = some (.slice (some ⟨bc, 0, none⟩) S.hs.length S.hs.length) := HSv.out.blk.cell 1
  have blt : b < wa.heap.size := HSv.out.blk.lt
  have clt : bc < wa.heap.size := HSv.out.hon.lt
  go_quiet (fail)
  have hq1 : Chg [] wa (wa.drewN nq) := (Chg.refl [] wa).drewN nq
  replace HBl := Lib.hid (HBl.out.trans (hq1.to_below (B := N0) (fun x hx => absurd hx (by simp)) HSv.out.lo.2.2)); replace HSv := Lib.hid (HSv.out.look hq1); replace HB := Lib.hid (hq1.blk HB.out (by simp))
  clear hq1 x_0 x_1 x_2 xlt b1 blt clt
  generalize World.drewN _ _ = w1 at *
  have b1 : w1.cell? ⟨b, 1, none⟩ = some (.slice (some ⟨bc, 0, none⟩) S.hs.length S.hs.length) := HSv.out.blk.cell 1
  have blt : b < w1.heap.size := HSv.out.blk.lt; have clt : bc < w1.heap.size := HSv.out.hon.lt; have xlt : bx < w1.heap.size := HB.out.lt
  have h0 : w1.cell? ⟨bc, c * 11, none⟩ = some (.int .i64 ys) := by have := HSv.out.hon.cell (c * 11 + 0); rw [flat_get encH_len S.hs c hc 0 (by decide), HY.out] at this; exact this
  have h1 : w1.cell? ⟨bc, c * 11 + 1, none⟩ = some (.int .u64 y0) := by have := HSv.out.hon.cell (c * 11 + 1); rw [flat_get encH_len S.hs c hc 1 (by decide), HY.out] at this; exact this
  have h2 : w1.cell? ⟨bc, c * 11 + 2, none⟩ = some (.int .u64 y1) := by have := HSv.out.hon.cell (c * 11 + 2); rw [flat_get encH_len S.hs c hc 2 (by decide), HY.out] at this; exact this
  have h3 : w1.cell? ⟨bc, c * 11 + 3, none⟩ = some (.int .u64 y2) := by have := HSv.out.hon.cell (c * 11 + 3); rw [flat_get encH_len S.hs c hc 3 (by decide), HY.out] at this; exact this
  have h4 : w1.cell? ⟨bc, c * 11 + 4, none⟩ = some (.int .u64 y3) := by have := HSv.out.hon.cell (c * 11 + 4); rw [flat_get encH_len S.hs c hc 4 (by decide), HY.out] at this; exact this
  have h5 : w1.cell? ⟨bc, c * 11 + 5, none⟩ = some (.int .u64 y4) := by have := HSv.out.hon.cell (c * 11 + 5); rw [flat_get encH_len S.hs c hc 5 (by decide), HY.out] at this; exact this
  have h6 : w1.cell? ⟨bc, c * 11 + 6, none⟩ = some (.int .u64 y5) := by have := HSv.out.hon.cell (c * 11 + 6); rw [flat_get encH_len S.hs c hc 6 (by decide), HY.out] at this; exact this
  have h7 : w1.cell? ⟨bc, c * 11 + 7, none⟩ = some (.int .u64 y6) := by have := HSv.out.hon.cell (c * 11 + 7); rw [flat_get encH_len S.hs c hc 7 (by decide), HY.out] at this; exact this
  have h8 : w1.cell? ⟨bc, c * 11 + 8, none⟩ = some (.int .u64 y7) := by have := HSv.out.hon.cell (c * 11 + 8); rw [flat_get encH_len S.hs c hc 8 (by decide), HY.out] at this; exact this
  have h9 : w1.cell? ⟨bc, c * 11 + 9, none⟩ = some (.bool ya) := by have := HSv.out.hon.cell (c * 11 + 9); rw [flat_get encH_len S.hs c hc 9 (by decide), HY.out] at this; exact this
  have h10 : w1.cell? ⟨bc, c * 11 + 10, none⟩ = some (.bool yb) := by have := HSv.out.hon.cell (c * 11 + 10); rw [flat_get encH_len S.hs c hc 10 (by decide), HY.out] at this; exact this
  go_upto_region 3 with fail
  have hk2 := (Chg.refl [] w1).alloc (.cells #[.int .i64 ys, .int .u64 y0, .int .u64 y1, .int .u64 y2, .int .u64 y3, .int .u64 y4, .int .u64 y5, .int .u64 y6, .int .u64 y7, .bool ya, .bool yb] 91)
  have HBh := Lib.hid (Blk.new w1 [.int .i64 ys, .int .u64 y0, .int .u64 y1, .int .u64 y2, .int .u64 y3, .int .u64 y4, .int .u64 y5, .int .u64 y6, .int .u64 y7, .bool ya, .bool yb] 91)
  have HAh := Lib.hid (HSv.out.fresh (x := w1.heap.size) (Nat.le_refl _))
  have hbk1 : bx < w1.heap.size := xlt
  replace HBl := Lib.hid (HBl.out.trans (hk2.to_below (B := N0) (fun x hx => absurd hx (by simp)) (HSv.out.lo.2.2))); replace HSv := Lib.hid (HSv.out.look hk2); replace HB := Lib.hid (hk2.blk HB.out (by simp))
  clear hk2 xlt blt clt b1 h0 h1 h2 h3 h4 h5 h6 h7 h8 h9 h10
  generalize World.alloc _ _ = w2 at *
  obtain ⟨bh, hbkk⟩ : ∃ b, w1.heap.size = b := ⟨_, rfl⟩
  rw [hbkk] at HBh HAh hbk1 ⊢
  clear hbkk
  have hn1 : bx ≠ bh := (by omega); have hn2 : bx ≠ b := HBn.out.nb; have hn3 : bh ≠ b := HAh.out.nb; have hn4 : bx ≠ bc := HBn.out.nc; have hn5 : bh ≠ bc := HAh.out.nc; have hn6 : b ≠ bc := HSv.out.ne
  have x_0 : w2.cell? ⟨bx, 0, none⟩ = some (.int .i64 3) := HB.out.cell 0
  have x_1 : w2.cell? ⟨bx, 1, none⟩ = some (.int .i64 x1) := HB.out.cell 1
  have x_2 : w2.cell? ⟨bx, 2, none⟩ = some (.int .i64 x2) := HB.out.cell 2
  have k_0 : w2.cell? ⟨bh, 0, none⟩ = some (.int .i64 ys) := HBh.out.cell 0
  have k_1 : w2.cell? ⟨bh, 1, none⟩ = some (.int .u64 y0) := HBh.out.cell 1
  have k_2 : w2.cell? ⟨bh, 2, none⟩ = some (.int .u64 y1) := HBh.out.cell 2
  have k_3 : w2.cell? ⟨bh, 3, none⟩ = some (.int .u64 y2) := HBh.out.cell 3
  have k_4 : w2.cell? ⟨bh, 4, none⟩ = some (.int .u64 y3) := HBh.out.cell 4
  have k_5 : w2.cell? ⟨bh, 5, none⟩ = some (.int .u64 y4) := HBh.out.cell 5
  have k_6 : w2.cell? ⟨bh, 6, none⟩ = some (.int .u64 y5) := HBh.out.cell 6
  have k_7 : w2.cell? ⟨bh, 7, none⟩ = some (.int .u64 y6) := HBh.out.cell 7
  have k_8 : w2.cell? ⟨bh, 8, none⟩ = some (.int .u64 y7) := HBh.out.cell 8
  have k_9 : w2.cell? ⟨bh, 9, none⟩ = some (.bool ya) := HBh.out.cell 9
  have k_10 : w2.cell? ⟨bh, 10, none⟩ = some (.bool yb) := HBh.out.cell 10
  have h0 : w2.cell? ⟨bc, c * 11, none⟩ = some (.int .i64 ys) := by have := HSv.out.hon.cell (c * 11 + 0); rw [flat_get encH_len S.hs c hc 0 (by decide), HY.out] at this; exact this
  have fc0 : w2.frozen? ⟨bc, c * 11, none⟩ = false := HSv.out.hon.free _
  have h1 : w2.cell? ⟨bc, c * 11 + 1, none⟩ = some (.int .u64 y0) := by have := HSv.out.hon.cell (c * 11 + 1); rw [flat_get encH_len S.hs c hc 1 (by decide), HY.out] at this; exact this
  have fc1 : w2.frozen? ⟨bc, c * 11 + 1, none⟩ = false := HSv.out.hon.free _
  have h2 : w2.cell? ⟨bc, c * 11 + 2, none⟩ = some (.int .u64 y1) := by have := HSv.out.hon.cell (c * 11 + 2); rw [flat_get encH_len S.hs c hc 2 (by decide), HY.out] at this; exact this
  have fc2 : w2.frozen? ⟨bc, c * 11 + 2, none⟩ = false := HSv.out.hon.free _
  have h3 : w2.cell? ⟨bc, c * 11 + 3, none⟩ = some (.int .u64 y2) := by have := HSv.out.hon.cell (c * 11 + 3); rw [flat_get encH_len S.hs c hc 3 (by decide), HY.out] at this; exact this
  have fc3 : w2.frozen? ⟨bc, c * 11 + 3, none⟩ = false := HSv.out.hon.free _
  have h4 : w2.cell? ⟨bc, c * 11 + 4, none⟩ = some (.int .u64 y3) := by have := HSv.out.hon.cell (c * 11 + 4); rw [flat_get encH_len S.hs c hc 4 (by decide), HY.out] at this; exact this
  have fc4 : w2.frozen? ⟨bc, c * 11 + 4, none⟩ = false := HSv.out.hon.free _
  have h5 : w2.cell? ⟨bc, c * 11 + 5, none⟩ = some (.int .u64 y4) := by have := HSv.out.hon.cell (c * 11 + 5); rw [flat_get encH_len S.hs c hc 5 (by decide), HY.out] at this; exact this
  have fc5 : w2.frozen? ⟨bc, c * 11 + 5, none⟩ = false := HSv.out.hon.free _
  have h6 : w2.cell? ⟨bc, c * 11 + 6, none⟩ = some (.int .u64 y5) := by have := HSv.out.hon.cell (c * 11 + 6); rw [flat_get encH_len S.hs c hc 6 (by decide), HY.out] at this; exact this
  have fc6 : w2.frozen? ⟨bc, c * 11 + 6, none⟩ = false := HSv.out.hon.free _
  have h7 : w2.cell? ⟨bc, c * 11 + 7, none⟩ = some (.int .u64 y6) := by have := HSv.out.hon.cell (c * 11 + 7); rw [flat_get encH_len S.hs c hc 7 (by decide), HY.out] at this; exact this
  have fc7 : w2.frozen? ⟨bc, c * 11 + 7, none⟩ = false := HSv.out.hon.free _
  have h8 : w2.cell? ⟨bc, c * 11 + 8, none⟩ = some (.int .u64 y7) := by have := HSv.out.hon.cell (c * 11 + 8); rw [flat_get encH_len S.hs c hc 8 (by decide), HY.out] at this; exact this
  have fc8 : w2.frozen? ⟨bc, c * 11 + 8, none⟩ = false := HSv.out.hon.free _
  have h9 : w2.cell? ⟨bc, c * 11 + 9, none⟩ = some (.bool ya) := by have := HSv.out.hon.cell (c * 11 + 9); rw [flat_get encH_len S.hs c hc 9 (by decide), HY.out] at this; exact this
  have fc9 : w2.frozen? ⟨bc, c * 11 + 9, none⟩ = false := HSv.out.hon.free _
  have h10 : w2.cell? ⟨bc, c * 11 + 10, none⟩ = some (.bool yb) := by have := HSv.out.hon.cell (c * 11 + 10); rw [flat_get encH_len S.hs c hc 10 (by decide), HY.out] at this; exact this
  have fc10 : w2.frozen? ⟨bc, c * 11 + 10, none⟩ = false := HSv.out.hon.free _
  have b1 : w2.cell? ⟨b, 1, none⟩ = some (.slice (some ⟨bc, 0, none⟩) S.hs.length S.hs.length) := HSv.out.blk.cell 1
  have f1 : w2.frozen? ⟨b, 1, none⟩ = false := HSv.out.blk.free 1
  have b2 : w2.cell? ⟨b, 2, none⟩ = some (vi) := HSv.out.blk.cell 2
  have f2 : w2.frozen? ⟨b, 2, none⟩ = false := HSv.out.blk.free 2
  have b3 : w2.cell? ⟨b, 3, none⟩ = some (vo) := HSv.out.blk.cell 3
  have f3 : w2.frozen? ⟨b, 3, none⟩ = false := HSv.out.blk.free 3
  have b4 : w2.cell? ⟨b, 4, none⟩ = some (.int .i64 made) := HSv.out.blk.cell 4
  have f4 : w2.frozen? ⟨b, 4, none⟩ = false := HSv.out.blk.free 4
  have b6 : w2.cell? ⟨b, 6, none⟩ = some (.int .u64 S.val) := HSv.out.blk.cell 6
  have f6 : w2.frozen? ⟨b, 6, none⟩ = false := HSv.out.blk.free 6
  have xlt : bx < w2.heap.size := HB.out.lt; have klt : bh < w2.heap.size := HBh.out.lt; have blt : b < w2.heap.size := HSv.out.blk.lt; have clt : bc < w2.heap.size := HSv.out.hon.lt
  obtain ⟨A9, c9, hv9, _, _, _, _⟩ := ownsRow_cell HSv.out.out
  rw [HX.out] at hv9
  rw [hv9] at b3
  simp only [List.length_nil] at b3
  clear hv9
  go_wp2_with fail
  refine bodyPost_ret (results_none rfl _ _ _) rfl ?_
  exact ⟨rfl, ⟨_, _, _, HSv.out⟩, HBl.out⟩


set_option maxHeartbeats 8000000 in
theorem wact_none {N0 : Nat} {w : World} {b d bm bw bl bc : Nat} {vi vo : Value} {es : List EntV} {e0 : EntV} {S : SvS} {made got : Int} (c : Nat) (hc : c < S.hs.length) (x0 x1 x2 ys y0 y1 y2 y3 y4 y5 y6 y7 : Int) (ya yb : Bool) (hy : S.hs[c] = ⟨ys, ⟨y0, y1, y2, y3, y4, y5, y6, y7⟩, ya, yb⟩) (hx1 : 0 ≤ x1) (hct : x1.tmod (S.hs.length : Int) = (c : Int)) (hlen : S.inn.length ≤ 1000) (hcl : S.hs.length ≤ 4) (hx : x0 ≠ 0 ∧ x0 ≠ 1 ∧ x0 ≠ 2 ∧ x0 ≠ 3 ∧ x0 ≠ 4 ∧ x0 ≠ 5) (H : SvW N0 w b d bm bw bl bc vi vo es e0 S made got) :
    Calls Try.prog 16 #[.pointer (some ⟨b, 0, none⟩), .agg #[.int .i64 x0, .int .i64 x1, .int .i64 x2]] w (SvPost N0 w b d bm bw bl bc e0 S made got) := by
  obtain ⟨j0, hj, hz0, hz1, hz2⟩ := info_parts infoMsg
  have hal : Chg [] w (w.alloc (.cells #[.int .i64 x0, .int .i64 x1, .int .i64 x2] 49)) := (Chg.refl [] w).alloc _
  have HSv := Lib.hid (H.look hal)
  have HB := Lib.hid (Blk.new w [.int .i64 x0, .int .i64 x1, .int .i64 x2] 49)
  have HBl := Lib.hid (hal.to_below (B := N0) (fun x hx => absurd hx (by simp)) H.lo.2.2)
  have HBn := Lib.hid (H.fresh (x := w.heap.size) (Nat.le_refl _))
  have HY := Lib.hid hy; have HLn := Lib.hid hlen; have HX := Lib.hid hx
  obtain ⟨q0, q1, q2, q3, q4, q5⟩ := hx
  have z0 : (x0 == 0) = false := by simpa using q0
  have z1 : (x0 == 1) = false := by simpa using q1
  have z2 : (x0 == 2) = false := by simpa using q2
  have z3 : (x0 == 3) = false := by simpa using q3
  have z4 : (x0 == 4) = false := by simpa using q4
  have z5 : (x0 == 5) = false := by simpa using q5
  clear q0 q1 q2 q3 q4 q5
  have hnl : (S.hs.length : Int) ≤ 4 := by omega
  have hci : (c : Int) < S.hs.length := by omega
  have hc0 : (0 : Int) ≤ c := Int.natCast_nonneg _
  have hnz : (S.hs.length : Int) ≠ 0 := by omega
  clear hal H hy hlen
  go_enter Try.func16, Try.ntmps16
  go_upto_region 1 with fail
  generalize World.alloc _ _ = wa at *
  obtain ⟨bx, hb⟩ : ∃ b, w.heap.size = b := ⟨_, rfl⟩
  rw [hb] at HB HBn ⊢
  clear hb
  have x_0 : wa.cell? ⟨bx, 0, none⟩ = some (.int .i64 x0) := HB.out.cell 0
  have x_1 : wa.cell? ⟨bx, 1, none⟩ = some (.int .i64 x1) := HB.out.cell 1
  have x_2 : wa.cell? ⟨bx, 2, none⟩ = some (.int .i64 x2) := HB.out.cell 2
  have xlt : bx < wa.heap.size := HB.out.lt
  have b1 : wa.cell? ⟨b, 1, none⟩ = some (.slice (some ⟨bc, 0, none⟩) S.hs.length S.hs.length) := HSv.out.blk.cell 1
  have blt : b < wa.heap.size := HSv.out.blk.lt
  have clt : bc < wa.heap.size := HSv.out.hon.lt
  go_quiet (fail)
  have hq1 : Chg [] wa (wa.drewN nq) := (Chg.refl [] wa).drewN nq
  replace HBl := Lib.hid (HBl.out.trans (hq1.to_below (B := N0) (fun x hx => absurd hx (by simp)) HSv.out.lo.2.2)); replace HSv := Lib.hid (HSv.out.look hq1); replace HB := Lib.hid (hq1.blk HB.out (by simp))
  clear hq1 x_0 x_1 x_2 xlt b1 blt clt
  generalize World.drewN _ _ = w1 at *
  have b1 : w1.cell? ⟨b, 1, none⟩ = some (.slice (some ⟨bc, 0, none⟩) S.hs.length S.hs.length) := HSv.out.blk.cell 1
  have blt : b < w1.heap.size := HSv.out.blk.lt; have clt : bc < w1.heap.size := HSv.out.hon.lt; have xlt : bx < w1.heap.size := HB.out.lt
  have h0 : w1.cell? ⟨bc, c * 11, none⟩ = some (.int .i64 ys) := by have := HSv.out.hon.cell (c * 11 + 0); rw [flat_get encH_len S.hs c hc 0 (by decide), HY.out] at this; exact this
  have h1 : w1.cell? ⟨bc, c * 11 + 1, none⟩ = some (.int .u64 y0) := by have := HSv.out.hon.cell (c * 11 + 1); rw [flat_get encH_len S.hs c hc 1 (by decide), HY.out] at this; exact this
  have h2 : w1.cell? ⟨bc, c * 11 + 2, none⟩ = some (.int .u64 y1) := by have := HSv.out.hon.cell (c * 11 + 2); rw [flat_get encH_len S.hs c hc 2 (by decide), HY.out] at this; exact this
  have h3 : w1.cell? ⟨bc, c * 11 + 3, none⟩ = some (.int .u64 y2) := by have := HSv.out.hon.cell (c * 11 + 3); rw [flat_get encH_len S.hs c hc 3 (by decide), HY.out] at this; exact this
  have h4 : w1.cell? ⟨bc, c * 11 + 4, none⟩ = some (.int .u64 y3) := by have := HSv.out.hon.cell (c * 11 + 4); rw [flat_get encH_len S.hs c hc 4 (by decide), HY.out] at this; exact this
  have h5 : w1.cell? ⟨bc, c * 11 + 5, none⟩ = some (.int .u64 y4) := by have := HSv.out.hon.cell (c * 11 + 5); rw [flat_get encH_len S.hs c hc 5 (by decide), HY.out] at this; exact this
  have h6 : w1.cell? ⟨bc, c * 11 + 6, none⟩ = some (.int .u64 y5) := by have := HSv.out.hon.cell (c * 11 + 6); rw [flat_get encH_len S.hs c hc 6 (by decide), HY.out] at this; exact this
  have h7 : w1.cell? ⟨bc, c * 11 + 7, none⟩ = some (.int .u64 y6) := by have := HSv.out.hon.cell (c * 11 + 7); rw [flat_get encH_len S.hs c hc 7 (by decide), HY.out] at this; exact this
  have h8 : w1.cell? ⟨bc, c * 11 + 8, none⟩ = some (.int .u64 y7) := by have := HSv.out.hon.cell (c * 11 + 8); rw [flat_get encH_len S.hs c hc 8 (by decide), HY.out] at this; exact this
  have h9 : w1.cell? ⟨bc, c * 11 + 9, none⟩ = some (.bool ya) := by have := HSv.out.hon.cell (c * 11 + 9); rw [flat_get encH_len S.hs c hc 9 (by decide), HY.out] at this; exact this
  have h10 : w1.cell? ⟨bc, c * 11 + 10, none⟩ = some (.bool yb) := by have := HSv.out.hon.cell (c * 11 + 10); rw [flat_get encH_len S.hs c hc 10 (by decide), HY.out] at this; exact this
  go_upto_region 3 with fail
  have hk2 := (Chg.refl [] w1).alloc (.cells #[.int .i64 ys, .int .u64 y0, .int .u64 y1, .int .u64 y2, .int .u64 y3, .int .u64 y4, .int .u64 y5, .int .u64 y6, .int .u64 y7, .bool ya, .bool yb] 91)
  have HBh := Lib.hid (Blk.new w1 [.int .i64 ys, .int .u64 y0, .int .u64 y1, .int .u64 y2, .int .u64 y3, .int .u64 y4, .int .u64 y5, .int .u64 y6, .int .u64 y7, .bool ya, .bool yb] 91)
  have HAh := Lib.hid (HSv.out.fresh (x := w1.heap.size) (Nat.le_refl _))
  have hbk1 : bx < w1.heap.size := xlt
  replace HBl := Lib.hid (HBl.out.trans (hk2.to_below (B := N0) (fun x hx => absurd hx (by simp)) (HSv.out.lo.2.2))); replace HSv := Lib.hid (HSv.out.look hk2); replace HB := Lib.hid (hk2.blk HB.out (by simp))
  clear hk2 xlt blt clt b1 h0 h1 h2 h3 h4 h5 h6 h7 h8 h9 h10
  generalize World.alloc _ _ = w2 at *
  obtain ⟨bh, hbkk⟩ : ∃ b, w1.heap.size = b := ⟨_, rfl⟩
  rw [hbkk] at HBh HAh hbk1 ⊢
  clear hbkk
  have hn1 : bx ≠ bh := (by omega); have hn2 : bx ≠ b := HBn.out.nb; have hn3 : bh ≠ b := HAh.out.nb; have hn4 : bx ≠ bc := HBn.out.nc; have hn5 : bh ≠ bc := HAh.out.nc; have hn6 : b ≠ bc := HSv.out.ne
  have x_0 : w2.cell? ⟨bx, 0, none⟩ = some (.int .i64 x0) := HB.out.cell 0
  have x_1 : w2.cell? ⟨bx, 1, none⟩ = some (.int .i64 x1) := HB.out.cell 1
  have x_2 : w2.cell? ⟨bx, 2, none⟩ = some (.int .i64 x2) := HB.out.cell 2
  have k_0 : w2.cell? ⟨bh, 0, none⟩ = some (.int .i64 ys) := HBh.out.cell 0
  have k_1 : w2.cell? ⟨bh, 1, none⟩ = some (.int .u64 y0) := HBh.out.cell 1
  have k_2 : w2.cell? ⟨bh, 2, none⟩ = some (.int .u64 y1) := HBh.out.cell 2
  have k_3 : w2.cell? ⟨bh, 3, none⟩ = some (.int .u64 y2) := HBh.out.cell 3
  have k_4 : w2.cell? ⟨bh, 4, none⟩ = some (.int .u64 y3) := HBh.out.cell 4
  have k_5 : w2.cell? ⟨bh, 5, none⟩ = some (.int .u64 y4) := HBh.out.cell 5
  have k_6 : w2.cell? ⟨bh, 6, none⟩ = some (.int .u64 y5) := HBh.out.cell 6
  have k_7 : w2.cell? ⟨bh, 7, none⟩ = some (.int .u64 y6) := HBh.out.cell 7
  have k_8 : w2.cell? ⟨bh, 8, none⟩ = some (.int .u64 y7) := HBh.out.cell 8
  have k_9 : w2.cell? ⟨bh, 9, none⟩ = some (.bool ya) := HBh.out.cell 9
  have k_10 : w2.cell? ⟨bh, 10, none⟩ = some (.bool yb) := HBh.out.cell 10
  have h0 : w2.cell? ⟨bc, c * 11, none⟩ = some (.int .i64 ys) := by have := HSv.out.hon.cell (c * 11 + 0); rw [flat_get encH_len S.hs c hc 0 (by decide), HY.out] at this; exact this
  have fc0 : w2.frozen? ⟨bc, c * 11, none⟩ = false := HSv.out.hon.free _
  have h1 : w2.cell? ⟨bc, c * 11 + 1, none⟩ = some (.int .u64 y0) := by have := HSv.out.hon.cell (c * 11 + 1); rw [flat_get encH_len S.hs c hc 1 (by decide), HY.out] at this; exact this
  have fc1 : w2.frozen? ⟨bc, c * 11 + 1, none⟩ = false := HSv.out.hon.free _
  have h2 : w2.cell? ⟨bc, c * 11 + 2, none⟩ = some (.int .u64 y1) := by have := HSv.out.hon.cell (c * 11 + 2); rw [flat_get encH_len S.hs c hc 2 (by decide), HY.out] at this; exact this
  have fc2 : w2.frozen? ⟨bc, c * 11 + 2, none⟩ = false := HSv.out.hon.free _
  have h3 : w2.cell? ⟨bc, c * 11 + 3, none⟩ = some (.int .u64 y2) := by have := HSv.out.hon.cell (c * 11 + 3); rw [flat_get encH_len S.hs c hc 3 (by decide), HY.out] at this; exact this
  have fc3 : w2.frozen? ⟨bc, c * 11 + 3, none⟩ = false := HSv.out.hon.free _
  have h4 : w2.cell? ⟨bc, c * 11 + 4, none⟩ = some (.int .u64 y3) := by have := HSv.out.hon.cell (c * 11 + 4); rw [flat_get encH_len S.hs c hc 4 (by decide), HY.out] at this; exact this
  have fc4 : w2.frozen? ⟨bc, c * 11 + 4, none⟩ = false := HSv.out.hon.free _
  have h5 : w2.cell? ⟨bc, c * 11 + 5, none⟩ = some (.int .u64 y4) := by have := HSv.out.hon.cell (c * 11 + 5); rw [flat_get encH_len S.hs c hc 5 (by decide), HY.out] at this; exact this
  have fc5 : w2.frozen? ⟨bc, c * 11 + 5, none⟩ = false := HSv.out.hon.free _
  have h6 : w2.cell? ⟨bc, c * 11 + 6, none⟩ = some (.int .u64 y5) := by have := HSv.out.hon.cell (c * 11 + 6); rw [flat_get encH_len S.hs c hc 6 (by decide), HY.out] at this; exact this
  have fc6 : w2.frozen? ⟨bc, c * 11 + 6, none⟩ = false := HSv.out.hon.free _
  have h7 : w2.cell? ⟨bc, c * 11 + 7, none⟩ = some (.int .u64 y6) := by have := HSv.out.hon.cell (c * 11 + 7); rw [flat_get encH_len S.hs c hc 7 (by decide), HY.out] at this; exact this
  have fc7 : w2.frozen? ⟨bc, c * 11 + 7, none⟩ = false := HSv.out.hon.free _
  have h8 : w2.cell? ⟨bc, c * 11 + 8, none⟩ = some (.int .u64 y7) := by have := HSv.out.hon.cell (c * 11 + 8); rw [flat_get encH_len S.hs c hc 8 (by decide), HY.out] at this; exact this
  have fc8 : w2.frozen? ⟨bc, c * 11 + 8, none⟩ = false := HSv.out.hon.free _
  have h9 : w2.cell? ⟨bc, c * 11 + 9, none⟩ = some (.bool ya) := by have := HSv.out.hon.cell (c * 11 + 9); rw [flat_get encH_len S.hs c hc 9 (by decide), HY.out] at this; exact this
  have fc9 : w2.frozen? ⟨bc, c * 11 + 9, none⟩ = false := HSv.out.hon.free _
  have h10 : w2.cell? ⟨bc, c * 11 + 10, none⟩ = some (.bool yb) := by have := HSv.out.hon.cell (c * 11 + 10); rw [flat_get encH_len S.hs c hc 10 (by decide), HY.out] at this; exact this
  have fc10 : w2.frozen? ⟨bc, c * 11 + 10, none⟩ = false := HSv.out.hon.free _
  have b1 : w2.cell? ⟨b, 1, none⟩ = some (.slice (some ⟨bc, 0, none⟩) S.hs.length S.hs.length) := HSv.out.blk.cell 1
  have f1 : w2.frozen? ⟨b, 1, none⟩ = false := HSv.out.blk.free 1
  have b2 : w2.cell? ⟨b, 2, none⟩ = some (vi) := HSv.out.blk.cell 2
  have f2 : w2.frozen? ⟨b, 2, none⟩ = false := HSv.out.blk.free 2
  have b3 : w2.cell? ⟨b, 3, none⟩ = some (vo) := HSv.out.blk.cell 3
  have f3 : w2.frozen? ⟨b, 3, none⟩ = false := HSv.out.blk.free 3
  have b4 : w2.cell? ⟨b, 4, none⟩ = some (.int .i64 made) := HSv.out.blk.cell 4
  have f4 : w2.frozen? ⟨b, 4, none⟩ = false := HSv.out.blk.free 4
  have b6 : w2.cell? ⟨b, 6, none⟩ = some (.int .u64 S.val) := HSv.out.blk.cell 6
  have f6 : w2.frozen? ⟨b, 6, none⟩ = false := HSv.out.blk.free 6
  have xlt : bx < w2.heap.size := HB.out.lt; have klt : bh < w2.heap.size := HBh.out.lt; have blt : b < w2.heap.size := HSv.out.blk.lt; have clt : bc < w2.heap.size := HSv.out.hon.lt
  go_wp2_with fail
  refine bodyPost_ret (results_none rfl _ _ _) rfl ?_
  exact ⟨rfl, ⟨_, _, _, HSv.out⟩, HBl.out⟩


set_option maxHeartbeats 8000000 in
theorem wact_write {N0 : Nat} {w : World} {b d bm bw bl bc : Nat} {vi vo : Value} {es : List EntV} {e0 : EntV} {S : SvS} {made got : Int} (c : Nat) (hc : c < S.hs.length) (x0 x1 x2 ys y0 y1 y2 y3 y4 y5 y6 y7 : Int) (ya yb : Bool) (hy : S.hs[c] = ⟨ys, ⟨y0, y1, y2, y3, y4, y5, y6, y7⟩, ya, yb⟩) (hx1 : 0 ≤ x1) (hct : x1.tmod (S.hs.length : Int) = (c : Int)) (hlen : S.inn.length ≤ 1000) (hcl : S.hs.length ≤ 4) (hx : ys = 2) (H : SvW N0 w b d bm bw bl bc vi vo es e0 S made got) :
    Calls Try.prog 16 #[.pointer (some ⟨b, 0, none⟩), .agg #[.int .i64 4, .int .i64 x1, .int .i64 x2]] w (SvPost N0 w b d bm bw bl bc e0 { S with hs := S.hs.set c ⟨2, ⟨(IntKind.u64.wrap (S.val + 1)), y1, y2, y3, y4, y5, y6, y7⟩, ya, yb⟩, val := (IntKind.u64.wrap (S.val + 1)) } made got) := by
  obtain ⟨j0, hj, hz0, hz1, hz2⟩ := info_parts infoMsg
  have hal : Chg [] w (w.alloc (.cells #[.int .i64 4, .int .i64 x1, .int .i64 x2] 49)) := (Chg.refl [] w).alloc _
  have HSv := Lib.hid (H.look hal)
  have HB := Lib.hid (Blk.new w [.int .i64 4, .int .i64 x1, .int .i64 x2] 49)
  have HBl := Lib.hid (hal.to_below (B := N0) (fun x hx => absurd hx (by simp)) H.lo.2.2)
  have HBn := Lib.hid (H.fresh (x := w.heap.size) (Nat.le_refl _))
  have HY := Lib.hid hy; have HLn := Lib.hid hlen; have HX := Lib.hid hx
  subst hx
  have hnl : (S.hs.length : Int) ≤ 4 := by omega
  have hci : (c : Int) < S.hs.length := by omega
  have hc0 : (0 : Int) ≤ c := Int.natCast_nonneg _
  have hnz : (S.hs.length : Int) ≠ 0 := by omega
  clear hal H hy hlen
  go_enter Try.func16, Try.ntmps16
  go_upto_region 1 with fail
  generalize World.alloc _ _ = wa at *
  obtain ⟨bx, hb⟩ : ∃ b, w.heap.size = b := ⟨_, rfl⟩
  rw [hb] at HB HBn ⊢
  clear hb
  have x_0 : wa.cell? ⟨bx, 0, none⟩ = some (.int .i64 4) := HB.out.cell 0
  have x_1 : wa.cell? ⟨bx, 1, none⟩ = some (.int .i64 x1) := HB.out.cell 1
  have x_2 : wa.cell? ⟨bx, 2, none⟩ = some (.int .i64 x2) := HB.out.cell 2
  have xlt : bx < wa.heap.size := HB.out.lt
  have b1 : wa.cell? ⟨b, 1, none⟩ = some (.slice (some ⟨bc, 0, none⟩) S.hs.length S.hs.length) := HSv.out.blk.cell 1
  have blt : b < wa.heap.size := HSv.out.blk.lt
  have clt : bc < wa.heap.size := HSv.out.hon.lt
  go_quiet (fail)
  have hq1 : Chg [] wa (wa.drewN nq) := (Chg.refl [] wa).drewN nq
  replace HBl := Lib.hid (HBl.out.trans (hq1.to_below (B := N0) (fun x hx => absurd hx (by simp)) HSv.out.lo.2.2)); replace HSv := Lib.hid (HSv.out.look hq1); replace HB := Lib.hid (hq1.blk HB.out (by simp))
  clear hq1 x_0 x_1 x_2 xlt b1 blt clt
  generalize World.drewN _ _ = w1 at *
  have b1 : w1.cell? ⟨b, 1, none⟩ = some (.slice (some ⟨bc, 0, none⟩) S.hs.length S.hs.length) := HSv.out.blk.cell 1
  have blt : b < w1.heap.size := HSv.out.blk.lt; have clt : bc < w1.heap.size := HSv.out.hon.lt; have xlt : bx < w1.heap.size := HB.out.lt
  have h0 : w1.cell? ⟨bc, c * 11, none⟩ = some (.int .i64 2) := by have := HSv.out.hon.cell (c * 11 + 0); rw [flat_get encH_len S.hs c hc 0 (by decide), HY.out] at this; exact this
  have h1 : w1.cell? ⟨bc, c * 11 + 1, none⟩ = some (.int .u64 y0) := by have := HSv.out.hon.cell (c * 11 + 1); rw [flat_get encH_len S.hs c hc 1 (by decide), HY.out] at this; exact this
  have h2 : w1.cell? ⟨bc, c * 11 + 2, none⟩ = some (.int .u64 y1) := by have := HSv.out.hon.cell (c * 11 + 2); rw [flat_get encH_len S.hs c hc 2 (by decide), HY.out] at this; exact this
  have h3 : w1.cell? ⟨bc, c * 11 + 3, none⟩ = some (.int .u64 y2) := by have := HSv.out.hon.cell (c * 11 + 3); rw [flat_get encH_len S.hs c hc 3 (by decide), HY.out] at this; exact this
  have h4 : w1.cell? ⟨bc, c * 11 + 4, none⟩ = some (.int .u64 y3) := by have := HSv.out.hon.cell (c * 11 + 4); rw [flat_get encH_len S.hs c hc 4 (by decide), HY.out] at this; exact this
  have h5 : w1.cell? ⟨bc, c * 11 + 5, none⟩ = some (.int .u64 y4) := by have := HSv.out.hon.cell (c * 11 + 5); rw [flat_get encH_len S.hs c hc 5 (by decide), HY.out] at this; exact this
  have h6 : w1.cell? ⟨bc, c * 11 + 6, none⟩ = some (.int .u64 y5) := by have := HSv.out.hon.cell (c * 11 + 6); rw [flat_get encH_len S.hs c hc 6 (by decide), HY.out] at this; exact this
  have h7 : w1.cell? ⟨bc, c * 11 + 7, none⟩ = some (.int .u64 y6) := by have := HSv.out.hon.cell (c * 11 + 7); rw [flat_get encH_len S.hs c hc 7 (by decide), HY.out] at this; exact this
  have h8 : w1.cell? ⟨bc, c * 11 + 8, none⟩ = some (.int .u64 y7) := by have := HSv.out.hon.cell (c * 11 + 8); rw [flat_get encH_len S.hs c hc 8 (by decide), HY.out] at this; exact this
  have h9 : w1.cell? ⟨bc, c * 11 + 9, none⟩ = some (.bool ya) := by have := HSv.out.hon.cell (c * 11 + 9); rw [flat_get encH_len S.hs c hc 9 (by decide), HY.out] at this; exact this
  have h10 : w1.cell? ⟨bc, c * 11 + 10, none⟩ = some (.bool yb) := by have := HSv.out.hon.cell (c * 11 + 10); rw [flat_get encH_len S.hs c hc 10 (by decide), HY.out] at this; exact this
  go_upto_region 3 with fail
  have hk2 := (Chg.refl [] w1).alloc (.cells #[.int .i64 2, .int .u64 y0, .int .u64 y1, .int .u64 y2, .int .u64 y3, .int .u64 y4, .int .u64 y5, .int .u64 y6, .int .u64 y7, .bool ya, .bool yb] 91)
  have HBh := Lib.hid (Blk.new w1 [.int .i64 2, .int .u64 y0, .int .u64 y1, .int .u64 y2, .int .u64 y3, .int .u64 y4, .int .u64 y5, .int .u64 y6, .int .u64 y7, .bool ya, .bool yb] 91)
  have HAh := Lib.hid (HSv.out.fresh (x := w1.heap.size) (Nat.le_refl _))
  have hbk1 : bx < w1.heap.size := xlt
  replace HBl := Lib.hid (HBl.out.trans (hk2.to_below (B := N0) (fun x hx => absurd hx (by simp)) (HSv.out.lo.2.2))); replace HSv := Lib.hid (HSv.out.look hk2); replace HB := Lib.hid (hk2.blk HB.out (by simp))
  clear hk2 xlt blt clt b1 h0 h1 h2 h3 h4 h5 h6 h7 h8 h9 h10
  generalize World.alloc _ _ = w2 at *
  obtain ⟨bh, hbkk⟩ : ∃ b, w1.heap.size = b := ⟨_, rfl⟩
  rw [hbkk] at HBh HAh hbk1 ⊢
  clear hbkk
  have hn1 : bx ≠ bh := (by omega); have hn2 : bx ≠ b := HBn.out.nb; have hn3 : bh ≠ b := HAh.out.nb; have hn4 : bx ≠ bc := HBn.out.nc; have hn5 : bh ≠ bc := HAh.out.nc; have hn6 : b ≠ bc := HSv.out.ne
  have x_0 : w2.cell? ⟨bx, 0, none⟩ = some (.int .i64 4) := HB.out.cell 0
  have x_1 : w2.cell? ⟨bx, 1, none⟩ = some (.int .i64 x1) := HB.out.cell 1
  have x_2 : w2.cell? ⟨bx, 2, none⟩ = some (.int .i64 x2) := HB.out.cell 2
  have k_0 : w2.cell? ⟨bh, 0, none⟩ = some (.int .i64 2) := HBh.out.cell 0
  have k_1 : w2.cell? ⟨bh, 1, none⟩ = some (.int .u64 y0) := HBh.out.cell 1
  have k_2 : w2.cell? ⟨bh, 2, none⟩ = some (.int .u64 y1) := HBh.out.cell 2
  have k_3 : w2.cell? ⟨bh, 3, none⟩ = some (.int .u64 y2) := HBh.out.cell 3
  have k_4 : w2.cell? ⟨bh, 4, none⟩ = some (.int .u64 y3) := HBh.out.cell 4
  have k_5 : w2.cell? ⟨bh, 5, none⟩ = some (.int .u64 y4) := HBh.out.cell 5
  have k_6 : w2.cell? ⟨bh, 6, none⟩ = some (.int .u64 y5) := HBh.out.cell 6
  have k_7 : w2.cell? ⟨bh, 7, none⟩ = some (.int .u64 y6) := HBh.out.cell 7
  have k_8 : w2.cell? ⟨bh, 8, none⟩ = some (.int .u64 y7) := HBh.out.cell 8
  have k_9 : w2.cell? ⟨bh, 9, none⟩ = some (.bool ya) := HBh.out.cell 9
  have k_10 : w2.cell? ⟨bh, 10, none⟩ = some (.bool yb) := HBh.out.cell 10
  have h0 : w2.cell? ⟨bc, c * 11, none⟩ = some (.int .i64 2) := by have := HSv.out.hon.cell (c * 11 + 0); rw [flat_get encH_len S.hs c hc 0 (by decide), HY.out] at this; exact this
  have fc0 : w2.frozen? ⟨bc, c * 11, none⟩ = false := HSv.out.hon.free _
  have h1 : w2.cell? ⟨bc, c * 11 + 1, none⟩ = some (.int .u64 y0) := by have := HSv.out.hon.cell (c * 11 + 1); rw [flat_get encH_len S.hs c hc 1 (by decide), HY.out] at this; exact this
  have fc1 : w2.frozen? ⟨bc, c * 11 + 1, none⟩ = false := HSv.out.hon.free _
  have h2 : w2.cell? ⟨bc, c * 11 + 2, none⟩ = some (.int .u64 y1) := by have := HSv.out.hon.cell (c * 11 + 2); rw [flat_get encH_len S.hs c hc 2 (by decide), HY.out] at this; exact this
  have fc2 : w2.frozen? ⟨bc, c * 11 + 2, none⟩ = false := HSv.out.hon.free _
  have h3 : w2.cell? ⟨bc, c * 11 + 3, none⟩ = some (.int .u64 y2) := by have := HSv.out.hon.cell (c * 11 + 3); rw [flat_get encH_len S.hs c hc 3 (by decide), HY.out] at this; exact this
  have fc3 : w2.frozen? ⟨bc, c * 11 + 3, none⟩ = false := HSv.out.hon.free _
  have h4 : w2.cell? ⟨bc, c * 11 + 4, none⟩ = some (.int .u64 y3) := by have := HSv.out.hon.cell (c * 11 + 4); rw [flat_get encH_len S.hs c hc 4 (by decide), HY.out] at this; exact this
  have fc4 : w2.frozen? ⟨bc, c * 11 + 4, none⟩ = false := HSv.out.hon.free _
  have h5 : w2.cell? ⟨bc, c * 11 + 5, none⟩ = some (.int .u64 y4) := by have := HSv.out.hon.cell (c * 11 + 5); rw [flat_get encH_len S.hs c hc 5 (by decide), HY.out] at this; exact this
  have fc5 : w2.frozen? ⟨bc, c * 11 + 5, none⟩ = false := HSv.out.hon.free _
  have h6 : w2.cell? ⟨bc, c * 11 + 6, none⟩ = some (.int .u64 y5) := by have := HSv.out.hon.cell (c * 11 + 6); rw [flat_get encH_len S.hs c hc 6 (by decide), HY.out] at this; exact this
  have fc6 : w2.frozen? ⟨bc, c * 11 + 6, none⟩ = false := HSv.out.hon.free _
  have h7 : w2.cell? ⟨bc, c * 11 + 7, none⟩ = some (.int .u64 y6) := by have := HSv.out.hon.cell (c * 11 + 7); rw [flat_get encH_len S.hs c hc 7 (by decide), HY.out] at this; exact this
  have fc7 : w2.frozen? ⟨bc, c * 11 + 7, none⟩ = false := HSv.out.hon.free _
  have h8 : w2.cell? ⟨bc, c * 11 + 8, none⟩ = some (.int .u64 y7) := by have := HSv.out.hon.cell (c * 11 + 8); rw [flat_get encH_len S.hs c hc 8 (by decide), HY.out] at this; exact this
  have fc8 : w2.frozen? ⟨bc, c * 11 + 8, none⟩ = false := HSv.out.hon.free _
  have h9 : w2.cell? ⟨bc, c * 11 + 9, none⟩ = some (.bool ya) := by have := HSv.out.hon.cell (c * 11 + 9); rw [flat_get encH_len S.hs c hc 9 (by decide), HY.out] at this; exact this
  have fc9 : w2.frozen? ⟨bc, c * 11 + 9, none⟩ = false := HSv.out.hon.free _
  have h10 : w2.cell? ⟨bc, c * 11 + 10, none⟩ = some (.bool yb) := by have := HSv.out.hon.cell (c * 11 + 10); rw [flat_get encH_len S.hs c hc 10 (by decide), HY.out] at this; exact this
  have fc10 : w2.frozen? ⟨bc, c * 11 + 10, none⟩ = false := HSv.out.hon.free _
  have b1 : w2.cell? ⟨b, 1, none⟩ = some (.slice (some ⟨bc, 0, none⟩) S.hs.length S.hs.length) := HSv.out.blk.cell 1
  have f1 : w2.frozen? ⟨b, 1, none⟩ = false := HSv.out.blk.free 1
  have b2 : w2.cell? ⟨b, 2, none⟩ = some (vi) := HSv.out.blk.cell 2
  have f2 : w2.frozen? ⟨b, 2, none⟩ = false := HSv.out.blk.free 2
  have b3 : w2.cell? ⟨b, 3, none⟩ = some (vo) := HSv.out.blk.cell 3
  have f3 : w2.frozen? ⟨b, 3, none⟩ = false := HSv.out.blk.free 3
  have b4 : w2.cell? ⟨b, 4, none⟩ = some (.int .i64 made) := HSv.out.blk.cell 4
  have f4 : w2.frozen? ⟨b, 4, none⟩ = false := HSv.out.blk.free 4
  have b6 : w2.cell? ⟨b, 6, none⟩ = some (.int .u64 S.val) := HSv.out.blk.cell 6
  have f6 : w2.frozen? ⟨b, 6, none⟩ = false := HSv.out.blk.free 6
  have xlt : bx < w2.heap.size := HB.out.lt; have klt : bh < w2.heap.size := HBh.out.lt; have blt : b < w2.heap.size := HSv.out.blk.lt; have clt : bc < w2.heap.size := HSv.out.hon.lt
  go_upto_region 23 with fail
  have hF := HSv.out.field 6 (.int .u64 (IntKind.u64.wrap (S.val + 1))) (IntKind.u64.wrap (S.val + 1)) made got rfl
  have HSv3 : Hid (SvW N0 _ b d bm bw bl bc vi vo es e0 { S with val := (IntKind.u64.wrap (S.val + 1)) } made got) := Lib.hid hF.1; have HBl3 := Lib.hid (HBl.out.trans hF.2)
  clear xlt klt blt clt x_0 x_1 x_2 k_0 h0 fc0 k_1 h1 fc1 k_2 h2 fc2 k_3 h3 fc3 k_4 h4 fc4 k_5 h5 fc5 k_6 h6 fc6 k_7 h7 fc7 k_8 h8 fc8 k_9 h9 fc9 k_10 h10 fc10 b1 f1 b2 f2 b3 f3 b4 f4 b6 f6
  clear hF HSv HBl HB HBh
  generalize w2.setCell ⟨b, 6, none⟩ (.int .u64 (IntKind.u64.wrap (S.val + 1))) = w4 at *
  obtain ⟨V, hV⟩ : ∃ V, (IntKind.u64.wrap (S.val + 1)) = V := ⟨_, rfl⟩
  rw [hV] at HSv3 ⊢
  clear hV
  have b1 : w4.cell? ⟨b, 1, none⟩ = some (.slice (some ⟨bc, 0, none⟩) S.hs.length S.hs.length) := HSv3.out.blk.cell 1; have b6 : w4.cell? ⟨b, 6, none⟩ = some (.int .u64 V) := HSv3.out.blk.cell 6; have blt : b < w4.heap.size := HSv3.out.blk.lt; have clt : bc < w4.heap.size := HSv3.out.hon.lt
  have h1 : w4.cell? ⟨bc, c * 11 + 1, none⟩ = some (.int .u64 y0) := by have := HSv3.out.hon.cell (c * 11 + 1); rw [flat_get encH_len S.hs c hc 1 (by decide), HY.out] at this; exact this
  have fc1 : w4.frozen? ⟨bc, c * 11 + 1, none⟩ = false := HSv3.out.hon.free _
  have hT := HSv3.out.hon
  replace hT := Blk.set hT (c * 11 + 1) (.int .u64 V)
  rw [flat_set encH_len S.hs c hc 1 (by decide) (.int .u64 V) ⟨2, ⟨V, y1, y2, y3, y4, y5, y6, y7⟩, ya, yb⟩ (by rw [HY.out]; rfl)] at hT
  have hTc := ((Chg.refl [bc] w4).setCell (p := ⟨bc, c * 11 + 1, none⟩) (fun _ => List.mem_singleton.2 rfl) (.int .u64 V))
  have hq1 : b ∉ [bc] := by simpa using hn6
  have hTd := hTc.drew
  go_region_held3 (fun w' => w'.cell? ⟨b, 1, none⟩ = some (.slice (some ⟨bc, 0, none⟩) S.hs.length S.hs.length) ∧ w'.cell? ⟨b, 6, none⟩ = some (.int .u64 V)) (first | with_reducible exact ⟨b1, b6⟩ | with_reducible exact ⟨(hTd.cell blt hq1 _).trans b1, (hTd.cell blt hq1 _).trans b6⟩ | go_keep) (fail)
  have hS := HSv3.out.honTurn (hs' := S.hs.set c ⟨2, ⟨V, y1, y2, y3, y4, y5, y6, y7⟩, ya, yb⟩) (by rw [List.length_set]) hTd hT.drew
  have HZ := Lib.hid (And.intro hS.1 (HBl3.out.trans hS.2))
  clear hS hT hTc hTd
  go_wp2_with fail
  refine bodyPost_ret (results_none rfl _ _ _) rfl ?_
  exact ⟨rfl, ⟨_, _, _, HZ.out.1⟩, HZ.out.2⟩


set_option maxHeartbeats 8000000 in
theorem wact_write0 {N0 : Nat} {w : World} {b d bm bw bl bc : Nat} {vi vo : Value} {es : List EntV} {e0 : EntV} {S : SvS} {made got : Int} (c : Nat) (hc : c < S.hs.length) (x0 x1 x2 ys y0 y1 y2 y3 y4 y5 y6 y7 : Int) (ya yb : Bool) (hy : S.hs[c] = ⟨ys, ⟨y0, y1, y2, y3, y4, y5, y6, y7⟩, ya, yb⟩) (hx1 : 0 ≤ x1) (hct : x1.tmod (S.hs.length : Int) = (c : Int)) (hlen : S.inn.length ≤ 1000) (hcl : S.hs.length ≤ 4) (hx : ys ≠ 2) (H : SvW N0 w b d bm bw bl bc vi vo es e0 S made got) :
    Calls Try.prog 16 #[.pointer (some ⟨b, 0, none⟩), .agg #[.int .i64 4, .int .i64 x1, .int .i64 x2]] w (SvPost N0 w b d bm bw bl bc e0 S made got) := by
  obtain ⟨j0, hj, hz0, hz1, hz2⟩ := info_parts infoMsg
  have hal : Chg [] w (w.alloc (.cells #[.int .i64 4, .int .i64 x1, .int .i64 x2] 49)) := (Chg.refl [] w).alloc _
  have HSv := Lib.hid (H.look hal)
  have HB := Lib.hid (Blk.new w [.int .i64 4, .int .i64 x1, .int .i64 x2] 49)
  have HBl := Lib.hid (hal.to_below (B := N0) (fun x hx => absurd hx (by simp)) H.lo.2.2)
  have HBn := Lib.hid (H.fresh (x := w.heap.size) (Nat.le_refl _))
  have HY := Lib.hid hy; have HLn := Lib.hid hlen; have HX := Lib.hid hx
  have hxs : (ys == 2) = false := by simpa using hx
  clear hx
  have hnl : (S.hs.length : Int) ≤ 4 := by omega
  have hci : (c : Int) < S.hs.length := by omega
  have hc0 : (0 : Int) ≤ c := Int.natCast_nonneg _
  have hnz : (S.hs.length : Int) ≠ 0 := by omega
  clear hal H hy hlen
  go_enter Try.func16, Try.ntmps16
  go_upto_region 1 with fail
  generalize World.alloc _ _ = wa at *
  obtain ⟨bx, hb⟩ : ∃ b, w.heap.size = b := ⟨_, rfl⟩
  rw [hb] at HB HBn ⊢
  clear hb
  have x_0 : wa.cell? ⟨bx, 0, none⟩ = some (.int .i64 4) := HB.out.cell 0
  have x_1 : wa.cell? ⟨bx, 1, none⟩ = some (.int .i64 x1) := HB.out.cell 1
  have x_2 : wa.cell? ⟨bx, 2, none⟩ = some (.int .i64 x2) := HB.out.cell 2
  have xlt : bx < wa.heap.size := HB.out.lt
  have b1 : wa.cell? ⟨b, 1, none⟩ = some (.slice (some ⟨bc, 0, none⟩) S.hs.length S.hs.length) := HSv.out.blk.cell 1
  have blt : b < wa.heap.size := HSv.out.blk.lt
  have clt : bc < wa.heap.size := HSv.out.hon.lt
  go_quiet (fail)
  have hq1 : Chg [] wa (wa.drewN nq) := (Chg.refl [] wa).drewN nq
  replace HBl := Lib.hid (HBl.out.trans (hq1.to_below (B := N0) (fun x hx => absurd hx (by simp)) HSv.out.lo.2.2)); replace HSv := Lib.hid (HSv.out.look hq1); replace HB := Lib.hid (hq1.blk HB.out (by simp))
  clear hq1 x_0 x_1 x_2 xlt b1 blt clt
  generalize World.drewN _ _ = w1 at *
  have b1 : w1.cell? ⟨b, 1, none⟩ = some (.slice (some ⟨bc, 0, none⟩) S.hs.length S.hs.length) := HSv.out.blk.cell 1
  have blt : b < w1.heap.size := HSv.out.blk.lt; have clt : bc < w1.heap.size := HSv.out.hon.lt; have xlt : bx < w1.heap.size := HB.out.lt
  have h0 : w1.cell? ⟨bc, c * 11, none⟩ = some (.int .i64 ys) := by have := HSv.out.hon.cell (c * 11 + 0); rw [flat_get encH_len S.hs c hc 0 (by decide), HY.out] at this; exact this
  have h1 : w1.cell? ⟨bc, c * 11 + 1, none⟩ = some (.int .u64 y0) := by have := HSv.out.hon.cell (c * 11 + 1); rw [flat_get encH_len S.hs c hc 1 (by decide), HY.out] at this; exact this
  have h2 : w1.cell? ⟨bc, c * 11 + 2, none⟩ = some (.int .u64 y1) := by have := HSv.out.hon.cell (c * 11 + 2); rw [flat_get encH_len S.hs c hc 2 (by decide), HY.out] at this; exact this
  have h3 : w1.cell? ⟨bc, c * 11 + 3, none⟩ = some (.int .u64 y2) := by have := HSv.out.hon.cell (c * 11 + 3); rw [flat_get encH_len S.hs c hc 3 (by decide), HY.out] at this; exact this
  have h4 : w1.cell? ⟨bc, c * 11 + 4, none⟩ = some (.int .u64 y3) := by have := HSv.out.hon.cell (c * 11 + 4); rw [flat_get encH_len S.hs c hc 4 (by decide), HY.out] at this; exact this
  have h5 : w1.cell? ⟨bc, c * 11 + 5, none⟩ = some (.int .u64 y4) := by have := HSv.out.hon.cell (c * 11 + 5); rw [flat_get encH_len S.hs c hc 5 (by decide), HY.out] at this; exact this
  have h6 : w1.cell? ⟨bc, c * 11 + 6, none⟩ = some (.int .u64 y5) := by have := HSv.out.hon.cell (c * 11 + 6); rw [flat_get encH_len S.hs c hc 6 (by decide), HY.out] at this; exact this
  have h7 : w1.cell? ⟨bc, c * 11 + 7, none⟩ = some (.int .u64 y6) := by have := HSv.out.hon.cell (c * 11 + 7); rw [flat_get encH_len S.hs c hc 7 (by decide), HY.out] at this; exact this
  have h8 : w1.cell? ⟨bc, c * 11 + 8, none⟩ = some (.int .u64 y7) := by have := HSv.out.hon.cell (c * 11 + 8); rw [flat_get encH_len S.hs c hc 8 (by decide), HY.out] at this; exact this
  have h9 : w1.cell? ⟨bc, c * 11 + 9, none⟩ = some (.bool ya) := by have := HSv.out.hon.cell (c * 11 + 9); rw [flat_get encH_len S.hs c hc 9 (by decide), HY.out] at this; exact this
  have h10 : w1.cell? ⟨bc, c * 11 + 10, none⟩ = some (.bool yb) := by have := HSv.out.hon.cell (c * 11 + 10); rw [flat_get encH_len S.hs c hc 10 (by decide), HY.out] at this; exact this
  go_upto_region 3 with fail
  have hk2 := (Chg.refl [] w1).alloc (.cells #[.int .i64 ys, .int .u64 y0, .int .u64 y1, .int .u64 y2, .int .u64 y3, .int .u64 y4, .int .u64 y5, .int .u64 y6, .int .u64 y7, .bool ya, .bool yb] 91)
  have HBh := Lib.hid (Blk.new w1 [.int .i64 ys, .int .u64 y0, .int .u64 y1, .int .u64 y2, .int .u64 y3, .int .u64 y4, .int .u64 y5, .int .u64 y6, .int .u64 y7, .bool ya, .bool yb] 91)
  have HAh := Lib.hid (HSv.out.fresh (x := w1.heap.size) (Nat.le_refl _))
  have hbk1 : bx < w1.heap.size := xlt
  replace HBl := Lib.hid (HBl.out.trans (hk2.to_below (B := N0) (fun x hx => absurd hx (by simp)) (HSv.out.lo.2.2))); replace HSv := Lib.hid (HSv.out.look hk2); replace HB := Lib.hid (hk2.blk HB.out (by simp))
  clear hk2 xlt blt clt b1 h0 h1 h2 h3 h4 h5 h6 h7 h8 h9 h10
  generalize World.alloc _ _ = w2 at *
  obtain ⟨bh, hbkk⟩ : ∃ b, w1.heap.size = b := ⟨_, rfl⟩
  rw [hbkk] at HBh HAh hbk1 ⊢
  clear hbkk
  have hn1 : bx ≠ bh := (by omega); have hn2 : bx ≠ b := HBn.out.nb; have hn3 : bh ≠ b := HAh.out.nb; have hn4 : bx ≠ bc := HBn.out.nc; have hn5 : bh ≠ bc := HAh.out.nc; have hn6 : b ≠ bc := HSv.out.ne
  have x_0 : w2.cell? ⟨bx, 0, none⟩ = some (.int .i64 4) := HB.out.cell 0
  have x_1 : w2.cell? ⟨bx, 1, none⟩ = some (.int .i64 x1) := HB.out.cell 1
  have x_2 : w2.cell? ⟨bx, 2, none⟩ = some (.int .i64 x2) := HB.out.cell 2
  have k_0 : w2.cell? ⟨bh, 0, none⟩ = some (.int .i64 ys) := HBh.out.cell 0
  have k_1 : w2.cell? ⟨bh, 1, none⟩ = some (.int .u64 y0) := HBh.out.cell 1
  have k_2 : w2.cell? ⟨bh, 2, none⟩ = some (.int .u64 y1) := HBh.out.cell 2
  have k_3 : w2.cell? ⟨bh, 3, none⟩ = some (.int .u64 y2) := HBh.out.cell 3
  have k_4 : w2.cell? ⟨bh, 4, none⟩ = some (.int .u64 y3) := HBh.out.cell 4
  have k_5 : w2.cell? ⟨bh, 5, none⟩ = some (.int .u64 y4) := HBh.out.cell 5
  have k_6 : w2.cell? ⟨bh, 6, none⟩ = some (.int .u64 y5) := HBh.out.cell 6
  have k_7 : w2.cell? ⟨bh, 7, none⟩ = some (.int .u64 y6) := HBh.out.cell 7
  have k_8 : w2.cell? ⟨bh, 8, none⟩ = some (.int .u64 y7) := HBh.out.cell 8
  have k_9 : w2.cell? ⟨bh, 9, none⟩ = some (.bool ya) := HBh.out.cell 9
  have k_10 : w2.cell? ⟨bh, 10, none⟩ = some (.bool yb) := HBh.out.cell 10
  have h0 : w2.cell? ⟨bc, c * 11, none⟩ = some (.int .i64 ys) := by have := HSv.out.hon.cell (c * 11 + 0); rw [flat_get encH_len S.hs c hc 0 (by decide), HY.out] at this; exact this
  have fc0 : w2.frozen? ⟨bc, c * 11, none⟩ = false := HSv.out.hon.free _
  have h1 : w2.cell? ⟨bc, c * 11 + 1, none⟩ = some (.int .u64 y0) := by have := HSv.out.hon.cell (c * 11 + 1); rw [flat_get encH_len S.hs c hc 1 (by decide), HY.out] at this; exact this
  have fc1 : w2.frozen? ⟨bc, c * 11 + 1, none⟩ = false := HSv.out.hon.free _
  have h2 : w2.cell? ⟨bc, c * 11 + 2, none⟩ = some (.int .u64 y1) := by have := HSv.out.hon.cell (c * 11 + 2); rw [flat_get encH_len S.hs c hc 2 (by decide), HY.out] at this; exact this
  have fc2 : w2.frozen? ⟨bc, c * 11 + 2, none⟩ = false := HSv.out.hon.free _
  have h3 : w2.cell? ⟨bc, c * 11 + 3, none⟩ = some (.int .u64 y2) := by have := HSv.out.hon.cell (c * 11 + 3); rw [flat_get encH_len S.hs c hc 3 (by decide), HY.out] at this; exact this
  have fc3 : w2.frozen? ⟨bc, c * 11 + 3, none⟩ = false := HSv.out.hon.free _
  have h4 : w2.cell? ⟨bc, c * 11 + 4, none⟩ = some (.int .u64 y3) := by have := HSv.out.hon.cell (c * 11 + 4); rw [flat_get encH_len S.hs c hc 4 (by decide), HY.out] at this; exact this
  have fc4 : w2.frozen? ⟨bc, c * 11 + 4, none⟩ = false := HSv.out.hon.free _
  have h5 : w2.cell? ⟨bc, c * 11 + 5, none⟩ = some (.int .u64 y4) := by have := HSv.out.hon.cell (c * 11 + 5); rw [flat_get encH_len S.hs c hc 5 (by decide), HY.out] at this; exact this
  have fc5 : w2.frozen? ⟨bc, c * 11 + 5, none⟩ = false := HSv.out.hon.free _
  have h6 : w2.cell? ⟨bc, c * 11 + 6, none⟩ = some (.int .u64 y5) := by have := HSv.out.hon.cell (c * 11 + 6); rw [flat_get encH_len S.hs c hc 6 (by decide), HY.out] at this; exact this
  have fc6 : w2.frozen? ⟨bc, c * 11 + 6, none⟩ = false := HSv.out.hon.free _
  have h7 : w2.cell? ⟨bc, c * 11 + 7, none⟩ = some (.int .u64 y6) := by have := HSv.out.hon.cell (c * 11 + 7); rw [flat_get encH_len S.hs c hc 7 (by decide), HY.out] at this; exact this
  have fc7 : w2.frozen? ⟨bc, c * 11 + 7, none⟩ = false := HSv.out.hon.free _
  have h8 : w2.cell? ⟨bc, c * 11 + 8, none⟩ = some (.int .u64 y7) := by have := HSv.out.hon.cell (c * 11 + 8); rw [flat_get encH_len S.hs c hc 8 (by decide), HY.out] at this; exact this
  have fc8 : w2.frozen? ⟨bc, c * 11 + 8, none⟩ = false := HSv.out.hon.free _
  have h9 : w2.cell? ⟨bc, c * 11 + 9, none⟩ = some (.bool ya) := by have := HSv.out.hon.cell (c * 11 + 9); rw [flat_get encH_len S.hs c hc 9 (by decide), HY.out] at this; exact this
  have fc9 : w2.frozen? ⟨bc, c * 11 + 9, none⟩ = false := HSv.out.hon.free _
  have h10 : w2.cell? ⟨bc, c * 11 + 10, none⟩ = some (.bool yb) := by have := HSv.out.hon.cell (c * 11 + 10); rw [flat_get encH_len S.hs c hc 10 (by decide), HY.out] at this; exact this
  have fc10 : w2.frozen? ⟨bc, c * 11 + 10, none⟩ = false := HSv.out.hon.free _
  have b1 : w2.cell? ⟨b, 1, none⟩ = some (.slice (some ⟨bc, 0, none⟩) S.hs.length S.hs.length) := HSv.out.blk.cell 1
  have f1 : w2.frozen? ⟨b, 1, none⟩ = false := HSv.out.blk.free 1
  have b2 : w2.cell? ⟨b, 2, none⟩ = some (vi) := HSv.out.blk.cell 2
  have f2 : w2.frozen? ⟨b, 2, none⟩ = false := HSv.out.blk.free 2
  have b3 : w2.cell? ⟨b, 3, none⟩ = some (vo) := HSv.out.blk.cell 3
  have f3 : w2.frozen? ⟨b, 3, none⟩ = false := HSv.out.blk.free 3
  have b4 : w2.cell? ⟨b, 4, none⟩ = some (.int .i64 made) := HSv.out.blk.cell 4
  have f4 : w2.frozen? ⟨b, 4, none⟩ = false := HSv.out.blk.free 4
  have b6 : w2.cell? ⟨b, 6, none⟩ = some (.int .u64 S.val) := HSv.out.blk.cell 6
  have f6 : w2.frozen? ⟨b, 6, none⟩ = false := HSv.out.blk.free 6
  have xlt : bx < w2.heap.size := HB.out.lt; have klt : bh < w2.heap.size := HBh.out.lt; have blt : b < w2.heap.size := HSv.out.blk.lt; have clt : bc < w2.heap.size := HSv.out.hon.lt
  go_wp2_with fail
  refine bodyPost_ret (results_none rfl _ _ _) rfl ?_
  exact ⟨rfl, ⟨_, _, _, HSv.out⟩, HBl.out⟩


set_option maxHeartbeats 8000000 in
theorem wact_drop {N0 : Nat} {w : World} {b d bm bw bl bc : Nat} {vi vo : Value} {es : List EntV} {e0 : EntV} {S : SvS} {made got : Int} (c : Nat) (hc : c < S.hs.length) (x0 x1 x2 ys y0 y1 y2 y3 y4 y5 y6 y7 : Int) (ya yb : Bool) (hy : S.hs[c] = ⟨ys, ⟨y0, y1, y2, y3, y4, y5, y6, y7⟩, ya, yb⟩) (hx1 : 0 ≤ x1) (hct : x1.tmod (S.hs.length : Int) = (c : Int)) (hlen : S.inn.length ≤ 1000) (hcl : S.hs.length ≤ 4) (hx : ys ≠ 2) (H : SvW N0 w b d bm bw bl bc vi vo es e0 S made got) :
    Calls Try.prog 16 #[.pointer (some ⟨b, 0, none⟩), .agg #[.int .i64 5, .int .i64 x1, .int .i64 x2]] w (SvPost N0 w b d bm bw bl bc e0 { S with hs := S.hs.set c ⟨0, ⟨y0, y1, y2, y3, y4, y5, y6, y7⟩, ya, yb⟩ } made got) := by
  obtain ⟨j0, hj, hz0, hz1, hz2⟩ := info_parts infoMsg
  have hal : Chg [] w (w.alloc (.cells #[.int .i64 5, .int .i64 x1, .int .i64 x2] 49)) := (Chg.refl [] w).alloc _
  have HSv := Lib.hid (H.look hal)
  have HB := Lib.hid (Blk.new w [.int .i64 5, .int .i64 x1, .int .i64 x2] 49)
  have HBl := Lib.hid (hal.to_below (B := N0) (fun x hx => absurd hx (by simp)) H.lo.2.2)
  have HBn := Lib.hid (H.fresh (x := w.heap.size) (Nat.le_refl _))
  have HY := Lib.hid hy; have HLn := Lib.hid hlen; have HX := Lib.hid hx
  have hxs : (ys == 2) = false := by simpa using hx
  clear hx
  have hnl : (S.hs.length : Int) ≤ 4 := by omega
  have hci : (c : Int) < S.hs.length := by omega
  have hc0 : (0 : Int) ≤ c := Int.natCast_nonneg _
  have hnz : (S.hs.length : Int) ≠ 0 := by omega
  clear hal H hy hlen
  go_enter Try.func16, Try.ntmps16
  go_upto_region 1 with fail
  generalize World.alloc _ _ = wa at *
  obtain ⟨bx, hb⟩ : ∃ b, w.heap.size = b := ⟨_, rfl⟩
  rw [hb] at HB HBn ⊢
  clear hb
  have x_0 : wa.cell? ⟨bx, 0, none⟩ = some (.int .i64 5) := HB.out.cell 0
  have x_1 : wa.cell? ⟨bx, 1, none⟩ = some (.int .i64 x1) := HB.out.cell 1
  have x_2 : wa.cell? ⟨bx, 2, none⟩ = some (.int .i64 x2) := HB.out.cell 2
  have xlt : bx < wa.heap.size := HB.out.lt
  have b1 : wa.cell? ⟨b, 1, none⟩ = some (.slice (some ⟨bc, 0, none⟩) S.hs.length S.hs.length) := HSv.out.blk.cell 1
  have blt : b < wa.heap.size := HSv.out.blk.lt
  have clt : bc < wa.heap.size := HSv.out.hon.lt
  go_quiet (fail)
  have hq1 : Chg [] wa (wa.drewN nq) := (Chg.refl [] wa).drewN nq
  replace HBl := Lib.hid (HBl.out.trans (hq1.to_below (B := N0) (fun x hx => absurd hx (by simp)) HSv.out.lo.2.2)); replace HSv := Lib.hid (HSv.out.look hq1); replace HB := Lib.hid (hq1.blk HB.out (by simp))
  clear hq1 x_0 x_1 x_2 xlt b1 blt clt
  generalize World.drewN _ _ = w1 at *
  have b1 : w1.cell? ⟨b, 1, none⟩ = some (.slice (some ⟨bc, 0, none⟩) S.hs.length S.hs.length) := HSv.out.blk.cell 1
  have blt : b < w1.heap.size := HSv.out.blk.lt; have clt : bc < w1.heap.size := HSv.out.hon.lt; have xlt : bx < w1.heap.size := HB.out.lt
  have h0 : w1.cell? ⟨bc, c * 11, none⟩ = some (.int .i64 ys) := by have := HSv.out.hon.cell (c * 11 + 0); rw [flat_get encH_len S.hs c hc 0 (by decide), HY.out] at this; exact this
  have h1 : w1.cell? ⟨bc, c * 11 + 1, none⟩ = some (.int .u64 y0) := by have := HSv.out.hon.cell (c * 11 + 1); rw [flat_get encH_len S.hs c hc 1 (by decide), HY.out] at this; exact this
  have h2 : w1.cell? ⟨bc, c * 11 + 2, none⟩ = some (.int .u64 y1) := by have := HSv.out.hon.cell (c * 11 + 2); rw [flat_get encH_len S.hs c hc 2 (by decide), HY.out] at this; exact this
  have h3 : w1.cell? ⟨bc, c * 11 + 3, none⟩ = some (.int .u64 y2) := by have := HSv.out.hon.cell (c * 11 + 3); rw [flat_get encH_len S.hs c hc 3 (by decide), HY.out] at this; exact this
  have h4 : w1.cell? ⟨bc, c * 11 + 4, none⟩ = some (.int .u64 y3) := by have := HSv.out.hon.cell (c * 11 + 4); rw [flat_get encH_len S.hs c hc 4 (by decide), HY.out] at this; exact this
  have h5 : w1.cell? ⟨bc, c * 11 + 5, none⟩ = some (.int .u64 y4) := by have := HSv.out.hon.cell (c * 11 + 5); rw [flat_get encH_len S.hs c hc 5 (by decide), HY.out] at this; exact this
  have h6 : w1.cell? ⟨bc, c * 11 + 6, none⟩ = some (.int .u64 y5) := by have := HSv.out.hon.cell (c * 11 + 6); rw [flat_get encH_len S.hs c hc 6 (by decide), HY.out] at this; exact this
  have h7 : w1.cell? ⟨bc, c * 11 + 7, none⟩ = some (.int .u64 y6) := by have := HSv.out.hon.cell (c * 11 + 7); rw [flat_get encH_len S.hs c hc 7 (by decide), HY.out] at this; exact this
  have h8 : w1.cell? ⟨bc, c * 11 + 8, none⟩ = some (.int .u64 y7) := by have := HSv.out.hon.cell (c * 11 + 8); rw [flat_get encH_len S.hs c hc 8 (by decide), HY.out] at this; exact this
  have h9 : w1.cell? ⟨bc, c * 11 + 9, none⟩ = some (.bool ya) := by have := HSv.out.hon.cell (c * 11 + 9); rw [flat_get encH_len S.hs c hc 9 (by decide), HY.out] at this; exact this
  have h10 : w1.cell? ⟨bc, c * 11 + 10, none⟩ = some (.bool yb) := by have := HSv.out.hon.cell (c * 11 + 10); rw [flat_get encH_len S.hs c hc 10 (by decide), HY.out] at this; exact this
  go_upto_region 3 with fail
  have hk2 := (Chg.refl [] w1).alloc (.cells #[.int .i64 ys, .int .u64 y0, .int .u64 y1, .int .u64 y2, .int .u64 y3, .int .u64 y4, .int .u64 y5, .int .u64 y6, .int .u64 y7, .bool ya, .bool yb] 91)
  have HBh := Lib.hid (Blk.new w1 [.int .i64 ys, .int .u64 y0, .int .u64 y1, .int .u64 y2, .int .u64 y3, .int .u64 y4, .int .u64 y5, .int .u64 y6, .int .u64 y7, .bool ya, .bool yb] 91)
  have HAh := Lib.hid (HSv.out.fresh (x := w1.heap.size) (Nat.le_refl _))
  have hbk1 : bx < w1.heap.size := xlt
  replace HBl := Lib.hid (HBl.out.trans (hk2.to_below (B := N0) (fun x hx => absurd hx (by simp)) (HSv.out.lo.2.2))); replace HSv := Lib.hid (HSv.out.look hk2); replace HB := Lib.hid (hk2.blk HB.out (by simp))
  clear hk2 xlt blt clt b1 h0 h1 h2 h3 h4 h5 h6 h7 h8 h9 h10
  generalize World.alloc _ _ = w2 at *
  obtain ⟨bh, hbkk⟩ : ∃ b, w1.heap.size = b := ⟨_, rfl⟩
  rw [hbkk] at HBh HAh hbk1 ⊢
  clear hbkk
  have hn1 : bx ≠ bh := (by omega); have hn2 : bx ≠ b := HBn.out.nb; have hn3 : bh ≠ b := HAh.out.nb; have hn4 : bx ≠ bc := HBn.out.nc; have hn5 : bh ≠ bc := HAh.out.nc; have hn6 : b ≠ bc := HSv.out.ne
  have x_0 : w2.cell? ⟨bx, 0, none⟩ = some (.int .i64 5) := HB.out.cell 0
  have x_1 : w2.cell? ⟨bx, 1, none⟩ = some (.int .i64 x1) := HB.out.cell 1
  have x_2 : w2.cell? ⟨bx, 2, none⟩ = some (.int .i64 x2) := HB.out.cell 2
  have k_0 : w2.cell? ⟨bh, 0, none⟩ = some (.int .i64 ys) := HBh.out.cell 0
  have k_1 : w2.cell? ⟨bh, 1, none⟩ = some (.int .u64 y0) := HBh.out.cell 1
  have k_2 : w2.cell? ⟨bh, 2, none⟩ = some (.int .u64 y1) := HBh.out.cell 2
  have k_3 : w2.cell? ⟨bh, 3, none⟩ = some (.int .u64 y2) := HBh.out.cell 3
  have k_4 : w2.cell? ⟨bh, 4, none⟩ = some (.int .u64 y3) := HBh.out.cell 4
  have k_5 : w2.cell? ⟨bh, 5, none⟩ = some (.int .u64 y4) := HBh.out.cell 5
  have k_6 : w2.cell? ⟨bh, 6, none⟩ = some (.int .u64 y5) := HBh.out.cell 6
  have k_7 : w2.cell? ⟨bh, 7, none⟩ = some (.int .u64 y6) := HBh.out.cell 7
  have k_8 : w2.cell? ⟨bh, 8, none⟩ = some (.int .u64 y7) := HBh.out.cell 8
  have k_9 : w2.cell? ⟨bh, 9, none⟩ = some (.bool ya) := HBh.out.cell 9
  have k_10 : w2.cell? ⟨bh, 10, none⟩ = some (.bool yb) := HBh.out.cell 10
  have h0 : w2.cell? ⟨bc, c * 11, none⟩ = some (.int .i64 ys) := by have := HSv.out.hon.cell (c * 11 + 0); rw [flat_get encH_len S.hs c hc 0 (by decide), HY.out] at this; exact this
  have fc0 : w2.frozen? ⟨bc, c * 11, none⟩ = false := HSv.out.hon.free _
  have h1 : w2.cell? ⟨bc, c * 11 + 1, none⟩ = some (.int .u64 y0) := by have := HSv.out.hon.cell (c * 11 + 1); rw [flat_get encH_len S.hs c hc 1 (by decide), HY.out] at this; exact this
  have fc1 : w2.frozen? ⟨bc, c * 11 + 1, none⟩ = false := HSv.out.hon.free _
  have h2 : w2.cell? ⟨bc, c * 11 + 2, none⟩ = some (.int .u64 y1) := by have := HSv.out.hon.cell (c * 11 + 2); rw [flat_get encH_len S.hs c hc 2 (by decide), HY.out] at this; exact this
  have fc2 : w2.frozen? ⟨bc, c * 11 + 2, none⟩ = false := HSv.out.hon.free _
  have h3 : w2.cell? ⟨bc, c * 11 + 3, none⟩ = some (.int .u64 y2) := by have := HSv.out.hon.cell (c * 11 + 3); rw [flat_get encH_len S.hs c hc 3 (by decide), HY.out] at this; exact this
  have fc3 : w2.frozen? ⟨bc, c * 11 + 3, none⟩ = false := HSv.out.hon.free _
  have h4 : w2.cell? ⟨bc, c * 11 + 4, none⟩ = some (.int .u64 y3) := by have := HSv.out.hon.cell (c * 11 + 4); rw [flat_get encH_len S.hs c hc 4 (by decide), HY.out] at this; exact this
  have fc4 : w2.frozen? ⟨bc, c * 11 + 4, none⟩ = false := HSv.out.hon.free _
  have h5 : w2.cell? ⟨bc, c * 11 + 5, none⟩ = some (.int .u64 y4) := by have := HSv.out.hon.cell (c * 11 + 5); rw [flat_get encH_len S.hs c hc 5 (by decide), HY.out] at this; exact this
  have fc5 : w2.frozen? ⟨bc, c * 11 + 5, none⟩ = false := HSv.out.hon.free _
  have h6 : w2.cell? ⟨bc, c * 11 + 6, none⟩ = some (.int .u64 y5) := by have := HSv.out.hon.cell (c * 11 + 6); rw [flat_get encH_len S.hs c hc 6 (by decide), HY.out] at this; exact this
  have fc6 : w2.frozen? ⟨bc, c * 11 + 6, none⟩ = false := HSv.out.hon.free _
  have h7 : w2.cell? ⟨bc, c * 11 + 7, none⟩ = some (.int .u64 y6) := by have := HSv.out.hon.cell (c * 11 + 7); rw [flat_get encH_len S.hs c hc 7 (by decide), HY.out] at this; exact this
  have fc7 : w2.frozen? ⟨bc, c * 11 + 7, none⟩ = false := HSv.out.hon.free _
  have h8 : w2.cell? ⟨bc, c * 11 + 8, none⟩ = some (.int .u64 y7) := by have := HSv.out.hon.cell (c * 11 + 8); rw [flat_get encH_len S.hs c hc 8 (by decide), HY.out] at this; exact this
  have fc8 : w2.frozen? ⟨bc, c * 11 + 8, none⟩ = false := HSv.out.hon.free _
  have h9 : w2.cell? ⟨bc, c * 11 + 9, none⟩ = some (.bool ya) := by have := HSv.out.hon.cell (c * 11 + 9); rw [flat_get encH_len S.hs c hc 9 (by decide), HY.out] at this; exact this
  have fc9 : w2.frozen? ⟨bc, c * 11 + 9, none⟩ = false := HSv.out.hon.free _
  have h10 : w2.cell? ⟨bc, c * 11 + 10, none⟩ = some (.bool yb) := by have := HSv.out.hon.cell (c * 11 + 10); rw [flat_get encH_len S.hs c hc 10 (by decide), HY.out] at this; exact this
  have fc10 : w2.frozen? ⟨bc, c * 11 + 10, none⟩ = false := HSv.out.hon.free _
  have b1 : w2.cell? ⟨b, 1, none⟩ = some (.slice (some ⟨bc, 0, none⟩) S.hs.length S.hs.length) := HSv.out.blk.cell 1
  have f1 : w2.frozen? ⟨b, 1, none⟩ = false := HSv.out.blk.free 1
  have b2 : w2.cell? ⟨b, 2, none⟩ = some (vi) := HSv.out.blk.cell 2
  have f2 : w2.frozen? ⟨b, 2, none⟩ = false := HSv.out.blk.free 2
  have b3 : w2.cell? ⟨b, 3, none⟩ = some (vo) := HSv.out.blk.cell 3
  have f3 : w2.frozen? ⟨b, 3, none⟩ = false := HSv.out.blk.free 3
  have b4 : w2.cell? ⟨b, 4, none⟩ = some (.int .i64 made) := HSv.out.blk.cell 4
  have f4 : w2.frozen? ⟨b, 4, none⟩ = false := HSv.out.blk.free 4
  have b6 : w2.cell? ⟨b, 6, none⟩ = some (.int .u64 S.val) := HSv.out.blk.cell 6
  have f6 : w2.frozen? ⟨b, 6, none⟩ = false := HSv.out.blk.free 6
  have xlt : bx < w2.heap.size := HB.out.lt; have klt : bh < w2.heap.size := HBh.out.lt; have blt : b < w2.heap.size := HSv.out.blk.lt; have clt : bc < w2.heap.size := HSv.out.hon.lt
  go_wp2_with fail
  have hT := HSv.out.hon
  replace hT := Blk.set hT (c * 11 + 0) (.int .i64 0)
  rw [flat_set encH_len S.hs c hc 0 (by decide) (.int .i64 0) ⟨0, ⟨y0, y1, y2, y3, y4, y5, y6, y7⟩, ya, yb⟩ (by rw [HY.out]; rfl)] at hT
  have hTc := ((Chg.refl [bc] w2).setCell (p := ⟨bc, c * 11 + 0, none⟩) (fun _ => List.mem_singleton.2 rfl) (.int .i64 0))
  have hS := HSv.out.honTurn (hs' := S.hs.set c ⟨0, ⟨y0, y1, y2, y3, y4, y5, y6, y7⟩, ya, yb⟩) (by rw [List.length_set]) hTc hT
  have HZ := Lib.hid (And.intro hS.1 (HBl.out.trans hS.2))
  clear hS hT hTc
  refine bodyPost_ret (results_none rfl _ _ _) rfl ?_
  exact ⟨rfl, ⟨_, _, _, HZ.out.1⟩, HZ.out.2⟩


set_option maxHeartbeats 8000000 in
theorem wact_drop2 {N0 : Nat} {w : World} {b d bm bw bl bc : Nat} {vi vo : Value} {es : List EntV} {e0 : EntV} {S : SvS} {made got : Int} (c : Nat) (hc : c < S.hs.length) (x0 x1 x2 ys y0 y1 y2 y3 y4 y5 y6 y7 : Int) (ya yb : Bool) (hy : S.hs[c] = ⟨ys, ⟨y0, y1, y2, y3, y4, y5, y6, y7⟩, ya, yb⟩) (hx1 : 0 ≤ x1) (hct : x1.tmod (S.hs.length : Int) = (c : Int)) (hlen : S.inn.length ≤ 1000) (hcl : S.hs.length ≤ 4) (hx : ys = 2) (H : SvW N0 w b d bm bw bl bc vi vo es e0 S made got) :
    Calls Try.prog 16 #[.pointer (some ⟨b, 0, none⟩), .agg #[.int .i64 5, .int .i64 x1, .int .i64 x2]] w (SvPost N0 w b d bm bw bl bc e0 { S with hs := S.hs.set c ⟨0, ⟨y0, y1, y2, y3, y4, y5, y6, y7⟩, ya, true⟩, inn := S.inn ++ [⟨3, (c : Int), 1, ⟨y0, y1, y2, y3, y4, y5, y6, y7⟩⟩] } made got) := by
  obtain ⟨j0, hj, hz0, hz1, hz2⟩ := info_parts infoMsg
  have hal : Chg [] w (w.alloc (.cells #[.int .i64 5, .int .i64 x1, .int .i64 x2] 49)) := (Chg.refl [] w).alloc _
  have HSv := Lib.hid (H.look hal)
  have HB := Lib.hid (Blk.new w [.int .i64 5, .int .i64 x1, .int .i64 x2] 49)
  have HBl := Lib.hid (hal.to_below (B := N0) (fun x hx => absurd hx (by simp)) H.lo.2.2)
  have HBn := Lib.hid (H.fresh (x := w.heap.size) (Nat.le_refl _))
  have HY := Lib.hid hy; have HLn := Lib.hid hlen; have HX := Lib.hid hx
  subst hx
  have hnl : (S.hs.length : Int) ≤ 4 := by omega
  have hci : (c : Int) < S.hs.length := by omega
  have hc0 : (0 : Int) ≤ c := Int.natCast_nonneg _
  have hnz : (S.hs.length : Int) ≠ 0 := by omega
  clear hal H hy hlen
  go_enter Try.func16, Try.ntmps16
  go_upto_region 1 with fail
  generalize World.alloc _ _ = wa at *
  obtain ⟨bx, hb⟩ : ∃ b, w.heap.size = b := ⟨_, rfl⟩
  rw [hb] at HB HBn ⊢
  clear hb
  have x_0 : wa.cell? ⟨bx, 0, none⟩ = some (.int .i64 5) := HB.out.cell 0
  have x_1 : wa.cell? ⟨bx, 1, none⟩ = some (.int .i64 x1) := HB.out.cell 1
  have x_2 : wa.cell? ⟨bx, 2, none⟩ = some (.int .i64 x2) := HB.out.cell 2
  have xlt : bx < wa.heap.size := HB.out.lt
  have b1 : wa.cell? ⟨b, 1, none⟩ = some (.slice (some ⟨bc, 0, none⟩) S.hs.length S.hs.length) := HSv.out.blk.cell 1
  have blt : b < wa.heap.size := HSv.out.blk.lt
  have clt : bc < wa.heap.size := HSv.out.hon.lt
  go_quiet (fail)
  have hq1 : Chg [] wa (wa.drewN nq) := (Chg.refl [] wa).drewN nq
  replace HBl := Lib.hid (HBl.out.trans (hq1.to_below (B := N0) (fun x hx => absurd hx (by simp)) HSv.out.lo.2.2)); replace HSv := Lib.hid (HSv.out.look hq1); replace HB := Lib.hid (hq1.blk HB.out (by simp))
  clear hq1 x_0 x_1 x_2 xlt b1 blt clt
  generalize World.drewN _ _ = w1 at *
  have b1 : w1.cell? ⟨b, 1, none⟩ = some (.slice (some ⟨bc, 0, none⟩) S.hs.length S.hs.length) := HSv.out.blk.cell 1
  have blt : b < w1.heap.size := HSv.out.blk.lt; have clt : bc < w1.heap.size := HSv.out.hon.lt; have xlt : bx < w1.heap.size := HB.out.lt
  have h0 : w1.cell? ⟨bc, c * 11, none⟩ = some (.int .i64 2) := by have := HSv.out.hon.cell (c * 11 + 0); rw [flat_get encH_len S.hs c hc 0 (by decide), HY.out] at this; exact this
  have h1 : w1.cell? ⟨bc, c * 11 + 1, none⟩ = some (.int .u64 y0) := by have := HSv.out.hon.cell (c * 11 + 1); rw [flat_get encH_len S.hs c hc 1 (by decide), HY.out] at this; exact this
  have h2 : w1.cell? ⟨bc, c * 11 + 2, none⟩ = some (.int .u64 y1) := by have := HSv.out.hon.cell (c * 11 + 2); rw [flat_get encH_len S.hs c hc 2 (by decide), HY.out] at this; exact this
  have h3 : w1.cell? ⟨bc, c * 11 + 3, none⟩ = some (.int .u64 y2) := by have := HSv.out.hon.cell (c * 11 + 3); rw [flat_get encH_len S.hs c hc 3 (by decide), HY.out] at this; exact this
  have h4 : w1.cell? ⟨bc, c * 11 + 4, none⟩ = some (.int .u64 y3) := by have := HSv.out.hon.cell (c * 11 + 4); rw [flat_get encH_len S.hs c hc 4 (by decide), HY.out] at this; exact this
  have h5 : w1.cell? ⟨bc, c * 11 + 5, none⟩ = some (.int .u64 y4) := by have := HSv.out.hon.cell (c * 11 + 5); rw [flat_get encH_len S.hs c hc 5 (by decide), HY.out] at this; exact this
  have h6 : w1.cell? ⟨bc, c * 11 + 6, none⟩ = some (.int .u64 y5) := by have := HSv.out.hon.cell (c * 11 + 6); rw [flat_get encH_len S.hs c hc 6 (by decide), HY.out] at this; exact this
  have h7 : w1.cell? ⟨bc, c * 11 + 7, none⟩ = some (.int .u64 y6) := by have := HSv.out.hon.cell (c * 11 + 7); rw [flat_get encH_len S.hs c hc 7 (by decide), HY.out] at this; exact this
  have h8 : w1.cell? ⟨bc, c * 11 + 8, none⟩ = some (.int .u64 y7) := by have := HSv.out.hon.cell (c * 11 + 8); rw [flat_get encH_len S.hs c hc 8 (by decide), HY.out] at this; exact this
  have h9 : w1.cell? ⟨bc, c * 11 + 9, none⟩ = some (.bool ya) := by have := HSv.out.hon.cell (c * 11 + 9); rw [flat_get encH_len S.hs c hc 9 (by decide), HY.out] at this; exact this
  have h10 : w1.cell? ⟨bc, c * 11 + 10, none⟩ = some (.bool yb) := by have := HSv.out.hon.cell (c * 11 + 10); rw [flat_get encH_len S.hs c hc 10 (by decide), HY.out] at this; exact this
  go_upto_region 3 with fail
  have hk2 := (Chg.refl [] w1).alloc (.cells #[.int .i64 2, .int .u64 y0, .int .u64 y1, .int .u64 y2, .int .u64 y3, .int .u64 y4, .int .u64 y5, .int .u64 y6, .int .u64 y7, .bool ya, .bool yb] 91)
  have HBh := Lib.hid (Blk.new w1 [.int .i64 2, .int .u64 y0, .int .u64 y1, .int .u64 y2, .int .u64 y3, .int .u64 y4, .int .u64 y5, .int .u64 y6, .int .u64 y7, .bool ya, .bool yb] 91)
  have HAh := Lib.hid (HSv.out.fresh (x := w1.heap.size) (Nat.le_refl _))
  have hbk1 : bx < w1.heap.size := xlt
  replace HBl := Lib.hid (HBl.out.trans (hk2.to_below (B := N0) (fun x hx => absurd hx (by simp)) (HSv.out.lo.2.2))); replace HSv := Lib.hid (HSv.out.look hk2); replace HB := Lib.hid (hk2.blk HB.out (by simp))
  clear hk2 xlt blt clt b1 h0 h1 h2 h3 h4 h5 h6 h7 h8 h9 h10
  generalize World.alloc _ _ = w2 at *
  obtain ⟨bh, hbkk⟩ : ∃ b, w1.heap.size = b := ⟨_, rfl⟩
  rw [hbkk] at HBh HAh hbk1 ⊢
  clear hbkk
  have hn1 : bx ≠ bh := (by omega); have hn2 : bx ≠ b := HBn.out.nb; have hn3 : bh ≠ b := HAh.out.nb; have hn4 : bx ≠ bc := HBn.out.nc; have hn5 : bh ≠ bc := HAh.out.nc; have hn6 : b ≠ bc := HSv.out.ne
  have x_0 : w2.cell? ⟨bx, 0, none⟩ = some (.int .i64 5) := HB.out.cell 0
  have x_1 : w2.cell? ⟨bx, 1, none⟩ = some (.int .i64 x1) := HB.out.cell 1
  have x_2 : w2.cell? ⟨bx, 2, none⟩ = some (.int .i64 x2) := HB.out.cell 2
  have k_0 : w2.cell? ⟨bh, 0, none⟩ = some (.int .i64 2) := HBh.out.cell 0
  have k_1 : w2.cell? ⟨bh, 1, none⟩ = some (.int .u64 y0) := HBh.out.cell 1
  have k_2 : w2.cell? ⟨bh, 2, none⟩ = some (.int .u64 y1) := HBh.out.cell 2
  have k_3 : w2.cell? ⟨bh, 3, none⟩ = some (.int .u64 y2) := HBh.out.cell 3
  have k_4 : w2.cell? ⟨bh, 4, none⟩ = some (.int .u64 y3) := HBh.out.cell 4
  have k_5 : w2.cell? ⟨bh, 5, none⟩ = some (.int .u64 y4) := HBh.out.cell 5
  have k_6 : w2.cell? ⟨bh, 6, none⟩ = some (.int .u64 y5) := HBh.out.cell 6
  have k_7 : w2.cell? ⟨bh, 7, none⟩ = some (.int .u64 y6) := HBh.out.cell 7
  have k_8 : w2.cell? ⟨bh, 8, none⟩ = some (.int .u64 y7) := HBh.out.cell 8
  have k_9 : w2.cell? ⟨bh, 9, none⟩ = some (.bool ya) := HBh.out.cell 9
  have k_10 : w2.cell? ⟨bh, 10, none⟩ = some (.bool yb) := HBh.out.cell 10
  have h0 : w2.cell? ⟨bc, c * 11, none⟩ = some (.int .i64 2) := by have := HSv.out.hon.cell (c * 11 + 0); rw [flat_get encH_len S.hs c hc 0 (by decide), HY.out] at this; exact this
  have fc0 : w2.frozen? ⟨bc, c * 11, none⟩ = false := HSv.out.hon.free _
  have h1 : w2.cell? ⟨bc, c * 11 + 1, none⟩ = some (.int .u64 y0) := by have := HSv.out.hon.cell (c * 11 + 1); rw [flat_get encH_len S.hs c hc 1 (by decide), HY.out] at this; exact this
  have fc1 : w2.frozen? ⟨bc, c * 11 + 1, none⟩ = false := HSv.out.hon.free _
  have h2 : w2.cell? ⟨bc, c * 11 + 2, none⟩ = some (.int .u64 y1) := by have := HSv.out.hon.cell (c * 11 + 2); rw [flat_get encH_len S.hs c hc 2 (by decide), HY.out] at this; exact this
  have fc2 : w2.frozen? ⟨bc, c * 11 + 2, none⟩ = false := HSv.out.hon.free _
  have h3 : w2.cell? ⟨bc, c * 11 + 3, none⟩ = some (.int .u64 y2) := by have := HSv.out.hon.cell (c * 11 + 3); rw [flat_get encH_len S.hs c hc 3 (by decide), HY.out] at this; exact this
  have fc3 : w2.frozen? ⟨bc, c * 11 + 3, none⟩ = false := HSv.out.hon.free _
  have h4 : w2.cell? ⟨bc, c * 11 + 4, none⟩ = some (.int .u64 y3) := by have := HSv.out.hon.cell (c * 11 + 4); rw [flat_get encH_len S.hs c hc 4 (by decide), HY.out] at this; exact this
  have fc4 : w2.frozen? ⟨bc, c * 11 + 4, none⟩ = false := HSv.out.hon.free _
  have h5 : w2.cell? ⟨bc, c * 11 + 5, none⟩ = some (.int .u64 y4) := by have := HSv.out.hon.cell (c * 11 + 5); rw [flat_get encH_len S.hs c hc 5 (by decide), HY.out] at this; exact this
  have fc5 : w2.frozen? ⟨bc, c * 11 + 5, none⟩ = false := HSv.out.hon.free _
  have h6 : w2.cell? ⟨bc, c * 11 + 6, none⟩ = some (.int .u64 y5) := by have := HSv.out.hon.cell (c * 11 + 6); rw [flat_get encH_len S.hs c hc 6 (by decide), HY.out] at this; exact this
  have fc6 : w2.frozen? ⟨bc, c * 11 + 6, none⟩ = false := HSv.out.hon.free _
  have h7 : w2.cell? ⟨bc, c * 11 + 7, none⟩ = some (.int .u64 y6) := by have := HSv.out.hon.cell (c * 11 + 7); rw [flat_get encH_len S.hs c hc 7 (by decide), HY.out] at this; exact this
  have fc7 : w2.frozen? ⟨bc, c * 11 + 7, none⟩ = false := HSv.out.hon.free _
  have h8 : w2.cell? ⟨bc, c * 11 + 8, none⟩ = some (.int .u64 y7) := by have := HSv.out.hon.cell (c * 11 + 8); rw [flat_get encH_len S.hs c hc 8 (by decide), HY.out] at this; exact this
  have fc8 : w2.frozen? ⟨bc, c * 11 + 8, none⟩ = false := HSv.out.hon.free _
  have h9 : w2.cell? ⟨bc, c * 11 + 9, none⟩ = some (.bool ya) := by have := HSv.out.hon.cell (c * 11 + 9); rw [flat_get encH_len S.hs c hc 9 (by decide), HY.out] at this; exact this
  have fc9 : w2.frozen? ⟨bc, c * 11 + 9, none⟩ = false := HSv.out.hon.free _
  have h10 : w2.cell? ⟨bc, c * 11 + 10, none⟩ = some (.bool yb) := by have := HSv.out.hon.cell (c * 11 + 10); rw [flat_get encH_len S.hs c hc 10 (by decide), HY.out] at this; exact this
  have fc10 : w2.frozen? ⟨bc, c * 11 + 10, none⟩ = false := HSv.out.hon.free _
  have b1 : w2.cell? ⟨b, 1, none⟩ = some (.slice (some ⟨bc, 0, none⟩) S.hs.length S.hs.length) := HSv.out.blk.cell 1
  have f1 : w2.frozen? ⟨b, 1, none⟩ = false := HSv.out.blk.free 1
  have b2 : w2.cell? ⟨b, 2, none⟩ = some (vi) := HSv.out.blk.cell 2
  have f2 : w2.frozen? ⟨b, 2, none⟩ = false := HSv.out.blk.free 2
  have b3 : w2.cell? ⟨b, 3, none⟩ = some (vo) := HSv.out.blk.cell 3
  have f3 : w2.frozen? ⟨b, 3, none⟩ = false := HSv.out.blk.free 3
  have b4 : w2.cell? ⟨b, 4, none⟩ = some (.int .i64 made) := HSv.out.blk.cell 4
  have f4 : w2.frozen? ⟨b, 4, none⟩ = false := HSv.out.blk.free 4
  have b6 : w2.cell? ⟨b, 6, none⟩ = some (.int .u64 S.val) := HSv.out.blk.cell 6
  have f6 : w2.frozen? ⟨b, 6, none⟩ = false := HSv.out.blk.free 6
  have xlt : bx < w2.heap.size := HB.out.lt; have klt : bh < w2.heap.size := HBh.out.lt; have blt : b < w2.heap.size := HSv.out.blk.lt; have clt : bc < w2.heap.size := HSv.out.hon.lt
  go_upto_region 27 with fail
  have hT := HSv.out.hon
  replace hT := Blk.set hT (c * 11 + 10) (.bool true)
  rw [flat_set encH_len S.hs c hc 10 (by decide) (.bool true) ⟨2, ⟨y0, y1, y2, y3, y4, y5, y6, y7⟩, ya, true⟩ (by rw [HY.out]; rfl)] at hT
  have hTc := ((Chg.refl [bc] w2).setCell (p := ⟨bc, c * 11 + 10, none⟩) (fun _ => List.mem_singleton.2 rfl) (.bool true))
  have hS := HSv.out.honTurn (hs' := S.hs.set c ⟨2, ⟨y0, y1, y2, y3, y4, y5, y6, y7⟩, ya, true⟩) (by rw [List.length_set]) hTc hT
  have HSv3 := Lib.hid hS.1; have HBl3 := Lib.hid (HBl.out.trans hS.2)
  have HBh3 := Lib.hid (HBh.out.other (a := ⟨bc, c * 11 + 10, none⟩) (Ne.symm hn5) (.bool true))
  clear xlt klt blt clt x_0 x_1 x_2 k_0 h0 fc0 k_1 h1 fc1 k_2 h2 fc2 k_3 h3 fc3 k_4 h4 fc4 k_5 h5 fc5 k_6 h6 fc6 k_7 h7 fc7 k_8 h8 fc8 k_9 h9 fc9 k_10 h10 fc10 b1 f1 b2 f2 b3 f3 b4 f4 b6 f6
  clear hT hTc hS HSv HBl HB HBh
  generalize w2.setCell ⟨bc, c * 11 + 10, none⟩ (.bool true) = w4 at *
  have b2 : w4.cell? ⟨b, 2, none⟩ = some vi := HSv3.out.blk.cell 2; have f2 : w4.frozen? ⟨b, 2, none⟩ = false := HSv3.out.blk.free 2; have blt : b < w4.heap.size := HSv3.out.blk.lt; have klt : bh < w4.heap.size := HBh3.out.lt
  have k_1 : w4.cell? ⟨bh, 1, none⟩ = some (.int .u64 y0) := HBh3.out.cell 1
  have k_2 : w4.cell? ⟨bh, 2, none⟩ = some (.int .u64 y1) := HBh3.out.cell 2
  have k_3 : w4.cell? ⟨bh, 3, none⟩ = some (.int .u64 y2) := HBh3.out.cell 3
  have k_4 : w4.cell? ⟨bh, 4, none⟩ = some (.int .u64 y3) := HBh3.out.cell 4
  have k_5 : w4.cell? ⟨bh, 5, none⟩ = some (.int .u64 y4) := HBh3.out.cell 5
  have k_6 : w4.cell? ⟨bh, 6, none⟩ = some (.int .u64 y5) := HBh3.out.cell 6
  have k_7 : w4.cell? ⟨bh, 7, none⟩ = some (.int .u64 y6) := HBh3.out.cell 7
  have k_8 : w4.cell? ⟨bh, 8, none⟩ = some (.int .u64 y7) := HBh3.out.cell 8
  have HNr := Lib.hid HSv3.out.notRow.1.1
  have HOw : Hid (w4.drew.ownsRow N0 33 11 vi S.inn.length (S.inn.flatMap encM)) := Lib.hid HSv3.out.inn
  go_region_law (refine step_append_row (by rfl) (.tmp 176) (.tmp 181) (by rfl) j0 hj hz0 hz1 hz2 (by rfl) (HOw.out.alloc _) ⟨w4.heap.size, 0, none⟩ 1 (by rfl) ⟨3, (c : Int), 1, ⟨y0, y1, y2, y3, y4, y5, y6, y7⟩⟩ (cells_new w4.drew [.int .i64 3, .int .i64 (c : Int), .int .i64 1, .int .u64 y0, .int .u64 y1, .int .u64 y2, .int .u64 y3, .int .u64 y4, .int .u64 y5, .int .u64 y6, .int .u64 y7] _) (by have := HLn.out; omega) (Nat.le_trans HSv3.out.lo.2.2 (by simp)) ?_; intro v5 w5 ho5 hg5 hb5; have hk5 := (((Chg.refl (rowB vi) w4).drew).alloc (.cells #[.int .i64 3, .int .i64 (c : Int), .int .i64 1, .int .u64 y0, .int .u64 y1, .int .u64 y2, .int .u64 y3, .int .u64 y4, .int .u64 y5, .int .u64 y6, .int .u64 y7] 33)).trans (Chg.of_grown hg5); have hr5 := rowB_grew hb5 (n := w4.heap.size) (by simp); have HO5 := Lib.hid ho5; have HK5 := Lib.hid hk5; have HR5 := Lib.hid hr5; obtain ⟨A5, c5, hv5, _, _, _, _⟩ := ownsRow_cell ho5; clear ho5 hg5 hb5 hk5 hr5; subst hv5; have q2 : w5.cell? ⟨b, 2, none⟩ = some vi := (HK5.out.cell blt HNr.out 2).trans b2; have g2 : w5.frozen? ⟨b, 2, none⟩ = false := (HK5.out.blk HSv3.out.blk HNr.out).free 2; have q_1 : w5.cell? ⟨bh, 1, none⟩ = some (.int .u64 y0) := (HK5.out.cell klt HAh.out.ni 1).trans k_1; have q_2 : w5.cell? ⟨bh, 2, none⟩ = some (.int .u64 y1) := (HK5.out.cell klt HAh.out.ni 2).trans k_2; have q_3 : w5.cell? ⟨bh, 3, none⟩ = some (.int .u64 y2) := (HK5.out.cell klt HAh.out.ni 3).trans k_3; have q_4 : w5.cell? ⟨bh, 4, none⟩ = some (.int .u64 y3) := (HK5.out.cell klt HAh.out.ni 4).trans k_4; have q_5 : w5.cell? ⟨bh, 5, none⟩ = some (.int .u64 y4) := (HK5.out.cell klt HAh.out.ni 5).trans k_5; have q_6 : w5.cell? ⟨bh, 6, none⟩ = some (.int .u64 y5) := (HK5.out.cell klt HAh.out.ni 6).trans k_6; have q_7 : w5.cell? ⟨bh, 7, none⟩ = some (.int .u64 y6) := (HK5.out.cell klt HAh.out.ni 7).trans k_7; have q_8 : w5.cell? ⟨bh, 8, none⟩ = some (.int .u64 y7) := (HK5.out.cell klt HAh.out.ni 8).trans k_8)
  all_goals (have hG := HSv3.out.innNew (inn' := S.inn ++ [⟨3, (c : Int), 1, ⟨y0, y1, y2, y3, y4, y5, y6, y7⟩⟩]) HK5.out (by rw [List.length_append, List.flatMap_append]; exact HO5.out) HR5.out; have HSv4 := Lib.hid hG.1; have HBl4 := Lib.hid (HBl3.out.trans hG.2); clear hG; generalize World.setCell _ _ _ = w6 at *; have b1 : w6.cell? ⟨b, 1, none⟩ = some (.slice (some ⟨bc, 0, none⟩) S.hs.length S.hs.length) := (HSv4.out.blk.cell 1).trans (by simp); have p0 : w6.cell? ⟨bc, c * 11, none⟩ = some (.int .i64 2) := (by have := HSv4.out.hon.cell (c * 11 + 0); rw [flat_get encH_len _ c (by rw [List.length_set]; exact hc) 0 (by decide), List.getElem_set_self] at this; exact this); have f0 : w6.frozen? ⟨bc, c * 11, none⟩ = false := HSv4.out.hon.free _; have clt6 : bc < w6.heap.size := HSv4.out.hon.lt; go_wp2_with fail; have hT := HSv4.out.hon.set (c * 11 + 0) (.int .i64 0); rw [flat_set encH_len (S.hs.set c ⟨2, ⟨y0, y1, y2, y3, y4, y5, y6, y7⟩, ya, true⟩) c (by rw [List.length_set]; exact hc) 0 (by decide) (.int .i64 0) ⟨0, ⟨y0, y1, y2, y3, y4, y5, y6, y7⟩, ya, true⟩ (by rw [List.getElem_set_self]; rfl), List.set_set] at hT; have hS := HSv4.out.honTurn (hs' := S.hs.set c ⟨0, ⟨y0, y1, y2, y3, y4, y5, y6, y7⟩, ya, true⟩) (by simp) ((Chg.refl [bc] w6).setCell (p := ⟨bc, c * 11 + 0, none⟩) (fun _ => List.mem_singleton.2 rfl) (.int .i64 0)) hT; have HZ := Lib.hid (And.intro hS.1 (HBl4.out.trans hS.2)); clear hS hT; refine bodyPost_ret (results_none rfl _ _ _) rfl ?_; exact ⟨rfl, ⟨_, _, _, HZ.out.1⟩, HZ.out.2⟩)



set_option maxHeartbeats 8000000 in
theorem wact_hear1 {N0 : Nat} {w : World} {b d bm bw bl bc : Nat} {vi vo : Value} {es : List EntV} {e0 : EntV} {S : SvS} {made got : Int} (c : Nat) (hc : c < S.hs.length) (x0 x1 x2 ys y0 y1 y2 y3 y4 y5 y6 y7 : Int) (ya yb : Bool) (hy : S.hs[c] = ⟨ys, ⟨y0, y1, y2, y3, y4, y5, y6, y7⟩, ya, yb⟩) (hx1 : 0 ≤ x1) (hct : x1.tmod (S.hs.length : Int) = (c : Int)) (hlen : S.inn.length ≤ 1000) (hcl : S.hs.length ≤ 4) (hx : True) (k : Nat) (hk : k < S.inn.length) (hx2 : 0 ≤ x2) (hct2 : x2.tmod (S.inn.length : Int) = (k : Int)) (hlo : S.out.length ≤ 1000) (hml : S.inn[k].l = 1) (hmc : 0 ≤ S.inn[k].c ∧ S.inn[k].c < S.n) (hmay : mayB S.e S.inn[k] = true) (hout : (hearE 2 S.ws S.e 1 S.inn[k]).2.2.length ≤ 1000) (H : SvW N0 w b d bm bw bl bc vi vo es e0 S made got) :
    Calls Try.prog 16 #[.pointer (some ⟨b, 0, none⟩), .agg #[.int .i64 2, .int .i64 x1, .int .i64 x2]] w (SvPost N0 w b d bm bw bl bc e0 { S with ws := (hearE 2 S.ws S.e 1 S.inn[k]).1, e := (hearE 2 S.ws S.e 1 S.inn[k]).2.1, inn := S.inn.take k ++ S.inn.drop (k + 1), out := S.out ++ (hearE 2 S.ws S.e 1 S.inn[k]).2.2 } made got) := by
  obtain ⟨m, hm⟩ : ∃ m, S.inn[k] = m := ⟨_, rfl⟩; rw [hm] at hml hmc hmay hout ⊢; have HM := Lib.hid hm; clear hm; obtain ⟨R, hR⟩ : ∃ R, S.inn.take k ++ S.inn.drop (k + 1) = R := ⟨_, rfl⟩; rw [hR]; have HRr := Lib.hid hR; clear hR
  have HH1 := Lib.hid hml; have HH2 := Lib.hid hmc; have HH3 := Lib.hid hmay; have HH4 := Lib.hid hout; have HH5 := Lib.hid hlo; clear hml hmc hmay hout hlo
  obtain ⟨j0, hj, hz0, hz1, hz2⟩ := info_parts infoMsg
  have hal : Chg [] w (w.alloc (.cells #[.int .i64 2, .int .i64 x1, .int .i64 x2] 49)) := (Chg.refl [] w).alloc _
  have HSv := Lib.hid (H.look hal)
  have HB := Lib.hid (Blk.new w [.int .i64 2, .int .i64 x1, .int .i64 x2] 49)
  have HBl := Lib.hid (hal.to_below (B := N0) (fun x hx => absurd hx (by simp)) H.lo.2.2)
  have HBn := Lib.hid (H.fresh (x := w.heap.size) (Nat.le_refl _))
  have HY := Lib.hid hy; have HLn := Lib.hid hlen; have HX := Lib.hid hx
  clear hx
  have hnl : (S.hs.length : Int) ≤ 4 := by omega
  have hci : (c : Int) < S.hs.length := by omega
  have hc0 : (0 : Int) ≤ c := Int.natCast_nonneg _
  have hnz : (S.hs.length : Int) ≠ 0 := by omega
  clear hal H hy hlen
  go_enter Try.func16, Try.ntmps16
  go_upto_region 1 with fail
  generalize World.alloc _ _ = wa at *
  obtain ⟨bx, hb⟩ : ∃ b, w.heap.size = b := ⟨_, rfl⟩
  rw [hb] at HB HBn ⊢
  clear hb
  have x_0 : wa.cell? ⟨bx, 0, none⟩ = some (.int .i64 2) := HB.out.cell 0
  have x_1 : wa.cell? ⟨bx, 1, none⟩ = some (.int .i64 x1) := HB.out.cell 1
  have x_2 : wa.cell? ⟨bx, 2, none⟩ = some (.int .i64 x2) := HB.out.cell 2
  have xlt : bx < wa.heap.size := HB.out.lt
  have b1 : wa.cell? ⟨b, 1, none⟩ = some (.slice (some ⟨bc, 0, none⟩) S.hs.length S.hs.length) := HSv.out.blk.cell 1
  have blt : b < wa.heap.size := HSv.out.blk.lt
  have clt : bc < wa.heap.size := HSv.out.hon.lt
  go_quiet (fail)
  have hq1 : Chg [] wa (wa.drewN nq) := (Chg.refl [] wa).drewN nq
  replace HBl := Lib.hid (HBl.out.trans (hq1.to_below (B := N0) (fun x hx => absurd hx (by simp)) HSv.out.lo.2.2)); replace HSv := Lib.hid (HSv.out.look hq1); replace HB := Lib.hid (hq1.blk HB.out (by simp))
  clear hq1 x_0 x_1 x_2 xlt b1 blt clt
  generalize World.drewN _ _ = w1 at *
  have b1 : w1.cell? ⟨b, 1, none⟩ = some (.slice (some ⟨bc, 0, none⟩) S.hs.length S.hs.length) := HSv.out.blk.cell 1
  have blt : b < w1.heap.size := HSv.out.blk.lt; have clt : bc < w1.heap.size := HSv.out.hon.lt; have xlt : bx < w1.heap.size := HB.out.lt
  have h0 : w1.cell? ⟨bc, c * 11, none⟩ = some (.int .i64 ys) := by have := HSv.out.hon.cell (c * 11 + 0); rw [flat_get encH_len S.hs c hc 0 (by decide), HY.out] at this; exact this
  have h1 : w1.cell? ⟨bc, c * 11 + 1, none⟩ = some (.int .u64 y0) := by have := HSv.out.hon.cell (c * 11 + 1); rw [flat_get encH_len S.hs c hc 1 (by decide), HY.out] at this; exact this
  have h2 : w1.cell? ⟨bc, c * 11 + 2, none⟩ = some (.int .u64 y1) := by have := HSv.out.hon.cell (c * 11 + 2); rw [flat_get encH_len S.hs c hc 2 (by decide), HY.out] at this; exact this
  have h3 : w1.cell? ⟨bc, c * 11 + 3, none⟩ = some (.int .u64 y2) := by have := HSv.out.hon.cell (c * 11 + 3); rw [flat_get encH_len S.hs c hc 3 (by decide), HY.out] at this; exact this
  have h4 : w1.cell? ⟨bc, c * 11 + 4, none⟩ = some (.int .u64 y3) := by have := HSv.out.hon.cell (c * 11 + 4); rw [flat_get encH_len S.hs c hc 4 (by decide), HY.out] at this; exact this
  have h5 : w1.cell? ⟨bc, c * 11 + 5, none⟩ = some (.int .u64 y4) := by have := HSv.out.hon.cell (c * 11 + 5); rw [flat_get encH_len S.hs c hc 5 (by decide), HY.out] at this; exact this
  have h6 : w1.cell? ⟨bc, c * 11 + 6, none⟩ = some (.int .u64 y5) := by have := HSv.out.hon.cell (c * 11 + 6); rw [flat_get encH_len S.hs c hc 6 (by decide), HY.out] at this; exact this
  have h7 : w1.cell? ⟨bc, c * 11 + 7, none⟩ = some (.int .u64 y6) := by have := HSv.out.hon.cell (c * 11 + 7); rw [flat_get encH_len S.hs c hc 7 (by decide), HY.out] at this; exact this
  have h8 : w1.cell? ⟨bc, c * 11 + 8, none⟩ = some (.int .u64 y7) := by have := HSv.out.hon.cell (c * 11 + 8); rw [flat_get encH_len S.hs c hc 8 (by decide), HY.out] at this; exact this
  have h9 : w1.cell? ⟨bc, c * 11 + 9, none⟩ = some (.bool ya) := by have := HSv.out.hon.cell (c * 11 + 9); rw [flat_get encH_len S.hs c hc 9 (by decide), HY.out] at this; exact this
  have h10 : w1.cell? ⟨bc, c * 11 + 10, none⟩ = some (.bool yb) := by have := HSv.out.hon.cell (c * 11 + 10); rw [flat_get encH_len S.hs c hc 10 (by decide), HY.out] at this; exact this
  go_upto_region 3 with fail
  have hk2 := (Chg.refl [] w1).alloc (.cells #[.int .i64 ys, .int .u64 y0, .int .u64 y1, .int .u64 y2, .int .u64 y3, .int .u64 y4, .int .u64 y5, .int .u64 y6, .int .u64 y7, .bool ya, .bool yb] 91)
  have HBh := Lib.hid (Blk.new w1 [.int .i64 ys, .int .u64 y0, .int .u64 y1, .int .u64 y2, .int .u64 y3, .int .u64 y4, .int .u64 y5, .int .u64 y6, .int .u64 y7, .bool ya, .bool yb] 91)
  have HAh := Lib.hid (HSv.out.fresh (x := w1.heap.size) (Nat.le_refl _))
  have hbk1 : bx < w1.heap.size := xlt
  replace HBl := Lib.hid (HBl.out.trans (hk2.to_below (B := N0) (fun x hx => absurd hx (by simp)) (HSv.out.lo.2.2))); replace HSv := Lib.hid (HSv.out.look hk2); replace HB := Lib.hid (hk2.blk HB.out (by simp))
  clear hk2 xlt blt clt b1 h0 h1 h2 h3 h4 h5 h6 h7 h8 h9 h10
  generalize World.alloc _ _ = w2 at *
  obtain ⟨bh, hbkk⟩ : ∃ b, w1.heap.size = b := ⟨_, rfl⟩
  rw [hbkk] at HBh HAh hbk1 ⊢
  clear hbkk
  have hn1 : bx ≠ bh := (by omega); have hn2 : bx ≠ b := HBn.out.nb; have hn3 : bh ≠ b := HAh.out.nb; have hn4 : bx ≠ bc := HBn.out.nc; have hn5 : bh ≠ bc := HAh.out.nc; have hn6 : b ≠ bc := HSv.out.ne
  have x_0 : w2.cell? ⟨bx, 0, none⟩ = some (.int .i64 2) := HB.out.cell 0
  have x_1 : w2.cell? ⟨bx, 1, none⟩ = some (.int .i64 x1) := HB.out.cell 1
  have x_2 : w2.cell? ⟨bx, 2, none⟩ = some (.int .i64 x2) := HB.out.cell 2
  have k_0 : w2.cell? ⟨bh, 0, none⟩ = some (.int .i64 ys) := HBh.out.cell 0
  have k_1 : w2.cell? ⟨bh, 1, none⟩ = some (.int .u64 y0) := HBh.out.cell 1
  have k_2 : w2.cell? ⟨bh, 2, none⟩ = some (.int .u64 y1) := HBh.out.cell 2
  have k_3 : w2.cell? ⟨bh, 3, none⟩ = some (.int .u64 y2) := HBh.out.cell 3
  have k_4 : w2.cell? ⟨bh, 4, none⟩ = some (.int .u64 y3) := HBh.out.cell 4
  have k_5 : w2.cell? ⟨bh, 5, none⟩ = some (.int .u64 y4) := HBh.out.cell 5
  have k_6 : w2.cell? ⟨bh, 6, none⟩ = some (.int .u64 y5) := HBh.out.cell 6
  have k_7 : w2.cell? ⟨bh, 7, none⟩ = some (.int .u64 y6) := HBh.out.cell 7
  have k_8 : w2.cell? ⟨bh, 8, none⟩ = some (.int .u64 y7) := HBh.out.cell 8
  have k_9 : w2.cell? ⟨bh, 9, none⟩ = some (.bool ya) := HBh.out.cell 9
  have k_10 : w2.cell? ⟨bh, 10, none⟩ = some (.bool yb) := HBh.out.cell 10
  have h0 : w2.cell? ⟨bc, c * 11, none⟩ = some (.int .i64 ys) := by have := HSv.out.hon.cell (c * 11 + 0); rw [flat_get encH_len S.hs c hc 0 (by decide), HY.out] at this; exact this
  have fc0 : w2.frozen? ⟨bc, c * 11, none⟩ = false := HSv.out.hon.free _
  have h1 : w2.cell? ⟨bc, c * 11 + 1, none⟩ = some (.int .u64 y0) := by have := HSv.out.hon.cell (c * 11 + 1); rw [flat_get encH_len S.hs c hc 1 (by decide), HY.out] at this; exact this
  have fc1 : w2.frozen? ⟨bc, c * 11 + 1, none⟩ = false := HSv.out.hon.free _
  have h2 : w2.cell? ⟨bc, c * 11 + 2, none⟩ = some (.int .u64 y1) := by have := HSv.out.hon.cell (c * 11 + 2); rw [flat_get encH_len S.hs c hc 2 (by decide), HY.out] at this; exact this
  have fc2 : w2.frozen? ⟨bc, c * 11 + 2, none⟩ = false := HSv.out.hon.free _
  have h3 : w2.cell? ⟨bc, c * 11 + 3, none⟩ = some (.int .u64 y2) := by have := HSv.out.hon.cell (c * 11 + 3); rw [flat_get encH_len S.hs c hc 3 (by decide), HY.out] at this; exact this
  have fc3 : w2.frozen? ⟨bc, c * 11 + 3, none⟩ = false := HSv.out.hon.free _
  have h4 : w2.cell? ⟨bc, c * 11 + 4, none⟩ = some (.int .u64 y3) := by have := HSv.out.hon.cell (c * 11 + 4); rw [flat_get encH_len S.hs c hc 4 (by decide), HY.out] at this; exact this
  have fc4 : w2.frozen? ⟨bc, c * 11 + 4, none⟩ = false := HSv.out.hon.free _
  have h5 : w2.cell? ⟨bc, c * 11 + 5, none⟩ = some (.int .u64 y4) := by have := HSv.out.hon.cell (c * 11 + 5); rw [flat_get encH_len S.hs c hc 5 (by decide), HY.out] at this; exact this
  have fc5 : w2.frozen? ⟨bc, c * 11 + 5, none⟩ = false := HSv.out.hon.free _
  have h6 : w2.cell? ⟨bc, c * 11 + 6, none⟩ = some (.int .u64 y5) := by have := HSv.out.hon.cell (c * 11 + 6); rw [flat_get encH_len S.hs c hc 6 (by decide), HY.out] at this; exact this
  have fc6 : w2.frozen? ⟨bc, c * 11 + 6, none⟩ = false := HSv.out.hon.free _
  have h7 : w2.cell? ⟨bc, c * 11 + 7, none⟩ = some (.int .u64 y6) := by have := HSv.out.hon.cell (c * 11 + 7); rw [flat_get encH_len S.hs c hc 7 (by decide), HY.out] at this; exact this
  have fc7 : w2.frozen? ⟨bc, c * 11 + 7, none⟩ = false := HSv.out.hon.free _
  have h8 : w2.cell? ⟨bc, c * 11 + 8, none⟩ = some (.int .u64 y7) := by have := HSv.out.hon.cell (c * 11 + 8); rw [flat_get encH_len S.hs c hc 8 (by decide), HY.out] at this; exact this
  have fc8 : w2.frozen? ⟨bc, c * 11 + 8, none⟩ = false := HSv.out.hon.free _
  have h9 : w2.cell? ⟨bc, c * 11 + 9, none⟩ = some (.bool ya) := by have := HSv.out.hon.cell (c * 11 + 9); rw [flat_get encH_len S.hs c hc 9 (by decide), HY.out] at this; exact this
  have fc9 : w2.frozen? ⟨bc, c * 11 + 9, none⟩ = false := HSv.out.hon.free _
  have h10 : w2.cell? ⟨bc, c * 11 + 10, none⟩ = some (.bool yb) := by have := HSv.out.hon.cell (c * 11 + 10); rw [flat_get encH_len S.hs c hc 10 (by decide), HY.out] at this; exact this
  have fc10 : w2.frozen? ⟨bc, c * 11 + 10, none⟩ = false := HSv.out.hon.free _
  have b1 : w2.cell? ⟨b, 1, none⟩ = some (.slice (some ⟨bc, 0, none⟩) S.hs.length S.hs.length) := HSv.out.blk.cell 1
  have f1 : w2.frozen? ⟨b, 1, none⟩ = false := HSv.out.blk.free 1
  have b2 : w2.cell? ⟨b, 2, none⟩ = some (vi) := HSv.out.blk.cell 2
  have f2 : w2.frozen? ⟨b, 2, none⟩ = false := HSv.out.blk.free 2
  have b3 : w2.cell? ⟨b, 3, none⟩ = some (vo) := HSv.out.blk.cell 3
  have f3 : w2.frozen? ⟨b, 3, none⟩ = false := HSv.out.blk.free 3
  have b4 : w2.cell? ⟨b, 4, none⟩ = some (.int .i64 made) := HSv.out.blk.cell 4
  have f4 : w2.frozen? ⟨b, 4, none⟩ = false := HSv.out.blk.free 4
  have b6 : w2.cell? ⟨b, 6, none⟩ = some (.int .u64 S.val) := HSv.out.blk.cell 6
  have f6 : w2.frozen? ⟨b, 6, none⟩ = false := HSv.out.blk.free 6
  have xlt : bx < w2.heap.size := HB.out.lt; have klt : bh < w2.heap.size := HBh.out.lt; have blt : b < w2.heap.size := HSv.out.blk.lt; have clt : bc < w2.heap.size := HSv.out.hon.lt
  have hkp : (0 : Int) < S.inn.length := by omega
  have hkn : (S.inn.length : Int) ≠ 0 := by omega
  have hke : S.inn ≠ [] := (by intro h; rw [h] at hk; simp at hk); have hk0 : ¬ S.inn.length = 0 := (by omega)
  obtain ⟨g, cap, hvv, hg1, hg2, hg3, hg4⟩ := ownsRow_posC HSv.out.inn (by omega)
  subst hvv
  have HCl : Hid (∀ (i : Nat) (hi : i < S.inn.length) (j : Nat), j < 11 → w2.cell? ⟨g, i * 11 + j, none⟩ = (encM S.inn[i])[j]?) := Lib.hid (fun i hi j hj => by have := HSv.out.inn.cellAt (i * 11 + j) (by omega); rw [this, flat_get encM_len S.inn i hi j hj])
  have HT : Hid (∀ W, Chg [] w2 W → Calls Try.prog 33 #[.slice (some ⟨g, 0, none⟩) S.inn.length cap, .int .i64 (k : Int)] W (fun e ww => ∃ v, e = .returned (.tuple #[mcells S.inn[k], v]) ∧ ww.ownsRow W.heap.size 33 11 v R.length (R.flatMap encM) ∧ Chg [] W ww)) := Lib.hid (fun W hW => by rw [← HRr.out]; exact take_any W g cap S.inn k hk (by have := HLn.out; omega) hg3 hg4 (Nat.lt_of_lt_of_le hg2 hW.size) (fun i hi j hj => (hW.cell0 hg2 _).trans (HCl.out i hi j hj)))
  go_upto_region 12 with fail
  rw [HM.out] at HT
  have hw1 : ¬ b = w2.heap.size := (by omega); have hw2 : ¬ w2.heap.size = b := (by omega); have hw3 : ¬ bx = w2.heap.size := (by omega); have hw4 : ¬ w2.heap.size = bx := (by omega)
  go_region_held3 (fun w' => w'.cell? ⟨b, 2, none⟩ = some (.slice (some ⟨g, 0, none⟩) S.inn.length cap) ∧ w'.cell? ⟨bx, 2, none⟩ = some (.int .i64 x2)) (first | with_reducible exact ⟨b2, x_2⟩ | with_reducible exact ⟨s2, s3⟩ | go_keep) (first | (go_at_call 33; refine (HT.out w2.drew ((Chg.refl [] w2).drew)).mono ?_; rintro e w3 ⟨v, rfl, ho, hkk3⟩; have HK3 : Hid (Chg [] w2 w3) := Lib.hid (((Chg.refl [] w2).drew).trans hkk3); have HGe : Hid (∀ g ∈ rowB v, w2.heap.size ≤ g) := Lib.hid (fun q hq => (ho.lt q (by simpa [rowB] using hq)).1); have HO3 := Lib.hid (ownsRow_base ho (show N0 ≤ w2.heap.size from HSv.out.lo.2.2)); obtain ⟨A3, c3, hv3, _, _, _, _⟩ := ownsRow_cell ho; clear ho hkk3; subst hv3; have HFl : Hid True := Lib.hid trivial; have s2 : w3.cell? ⟨b, 2, none⟩ = some (.slice (some ⟨g, 0, none⟩) S.inn.length cap) := (HK3.out.cell0 blt _).trans b2; have s3 : w3.cell? ⟨bx, 2, none⟩ = some (.int .i64 x2) := (HK3.out.cell0 xlt _).trans x_2; unfold mcells) | (go_at_call 33; refine (HT.out (w2.alloc (.cells #[.int .i64 0, .int .i64 0, .int .i64 0, .int .u64 0, .int .u64 0, .int .u64 0, .int .u64 0, .int .u64 0, .int .u64 0, .int .u64 0, .int .u64 0] 33)).drew (((Chg.refl [] w2).alloc _).drew)).mono ?_; rintro e w3 ⟨v, rfl, ho, hkk3⟩; have HK3 : Hid (Chg [] w2 w3) := Lib.hid ((((Chg.refl [] w2).alloc (.cells #[.int .i64 0, .int .i64 0, .int .i64 0, .int .u64 0, .int .u64 0, .int .u64 0, .int .u64 0, .int .u64 0, .int .u64 0, .int .u64 0, .int .u64 0] 33)).drew).trans hkk3); have HGe : Hid (∀ g ∈ rowB v, w2.heap.size + 1 ≤ g) := Lib.hid (fun q hq => (by have := (ho.lt q (by simpa [rowB] using hq)).1; simpa using this)); have HO3 := Lib.hid (ownsRow_base ho (show N0 ≤ _ from Nat.le_trans HSv.out.lo.2.2 (by simp))); have HZb : Hid (Blk w3 w2.heap.size [.int .i64 0, .int .i64 0, .int .i64 0, .int .u64 0, .int .u64 0, .int .u64 0, .int .u64 0, .int .u64 0, .int .u64 0, .int .u64 0, .int .u64 0] 33) := Lib.hid (hkk3.blk (Blk.drew (Blk.new w2 [.int .i64 0, .int .i64 0, .int .i64 0, .int .u64 0, .int .u64 0, .int .u64 0, .int .u64 0, .int .u64 0, .int .u64 0, .int .u64 0, .int .u64 0] 33)) (by simp)); obtain ⟨A3, c3, hv3, _, _, _, _⟩ := ownsRow_cell ho; clear ho hkk3; subst hv3; have s2 : w3.cell? ⟨b, 2, none⟩ = some (.slice (some ⟨g, 0, none⟩) S.inn.length cap) := (HK3.out.cell0 blt _).trans b2; have s3 : w3.cell? ⟨bx, 2, none⟩ = some (.int .i64 x2) := (HK3.out.cell0 xlt _).trans x_2; have z0 : w3.cell? ⟨w2.heap.size, 0, none⟩ = some (.int .i64 0) := HZb.out.cell 0; have y_0 : w3.frozen? ⟨w2.heap.size, 0, none⟩ = false := HZb.out.free 0; have z1 : w3.cell? ⟨w2.heap.size, 1, none⟩ = some (.int .i64 0) := HZb.out.cell 1; have y_1 : w3.frozen? ⟨w2.heap.size, 1, none⟩ = false := HZb.out.free 1; have z2 : w3.cell? ⟨w2.heap.size, 2, none⟩ = some (.int .i64 0) := HZb.out.cell 2; have y_2 : w3.frozen? ⟨w2.heap.size, 2, none⟩ = false := HZb.out.free 2; have z3 : w3.cell? ⟨w2.heap.size, 3, none⟩ = some (.int .u64 0) := HZb.out.cell 3; have y_3 : w3.frozen? ⟨w2.heap.size, 3, none⟩ = false := HZb.out.free 3; have z4 : w3.cell? ⟨w2.heap.size, 4, none⟩ = some (.int .u64 0) := HZb.out.cell 4; have y_4 : w3.frozen? ⟨w2.heap.size, 4, none⟩ = false := HZb.out.free 4; have z5 : w3.cell? ⟨w2.heap.size, 5, none⟩ = some (.int .u64 0) := HZb.out.cell 5; have y_5 : w3.frozen? ⟨w2.heap.size, 5, none⟩ = false := HZb.out.free 5; have z6 : w3.cell? ⟨w2.heap.size, 6, none⟩ = some (.int .u64 0) := HZb.out.cell 6; have y_6 : w3.frozen? ⟨w2.heap.size, 6, none⟩ = false := HZb.out.free 6; have z7 : w3.cell? ⟨w2.heap.size, 7, none⟩ = some (.int .u64 0) := HZb.out.cell 7; have y_7 : w3.frozen? ⟨w2.heap.size, 7, none⟩ = false := HZb.out.free 7; have z8 : w3.cell? ⟨w2.heap.size, 8, none⟩ = some (.int .u64 0) := HZb.out.cell 8; have y_8 : w3.frozen? ⟨w2.heap.size, 8, none⟩ = false := HZb.out.free 8; have z9 : w3.cell? ⟨w2.heap.size, 9, none⟩ = some (.int .u64 0) := HZb.out.cell 9; have y_9 : w3.frozen? ⟨w2.heap.size, 9, none⟩ = false := HZb.out.free 9; have z10 : w3.cell? ⟨w2.heap.size, 10, none⟩ = some (.int .u64 0) := HZb.out.cell 10; have y_10 : w3.frozen? ⟨w2.heap.size, 10, none⟩ = false := HZb.out.free 10; have zlt : w2.heap.size < w3.heap.size := HZb.out.lt; unfold mcells) | fail)
  · have hkA := HK3.out.alloc (.cells #[.int .i64 m.k, .int .i64 m.c, .int .i64 m.l, .int .u64 m.d.x0, .int .u64 m.d.x1, .int .u64 m.d.x2, .int .u64 m.d.x3, .int .u64 m.d.x4, .int .u64 m.d.x5, .int .u64 m.d.x6, .int .u64 m.d.x7] 33)
    have HBt := Lib.hid (Blk.new w3 [.int .i64 m.k, .int .i64 m.c, .int .i64 m.l, .int .u64 m.d.x0, .int .u64 m.d.x1, .int .u64 m.d.x2, .int .u64 m.d.x3, .int .u64 m.d.x4, .int .u64 m.d.x5, .int .u64 m.d.x6, .int .u64 m.d.x7] 33)
    have HO5 := Lib.hid (HO3.out.alloc (.cells #[.int .i64 m.k, .int .i64 m.c, .int .i64 m.l, .int .u64 m.d.x0, .int .u64 m.d.x1, .int .u64 m.d.x2, .int .u64 m.d.x3, .int .u64 m.d.x4, .int .u64 m.d.x5, .int .u64 m.d.x6, .int .u64 m.d.x7] 33))
    have hbt : w2.heap.size ≤ w3.heap.size := HK3.out.size
    have HK5 := Lib.hid hkA; have HG5 := Lib.hid (fun q (hq : q ∈ rowB (.slice A3 R.length c3)) => HGe.out q hq); clear hkA
    clear HK3 HO3 HGe HFl
    generalize World.alloc _ _ = w5 at *
    obtain ⟨bt, hbtt⟩ : ∃ x, w3.heap.size = x := ⟨_, rfl⟩
    rw [hbtt] at HBt hbt ⊢
    clear hbtt
    have t2 : w5.cell? ⟨b, 2, none⟩ = some (.slice (some ⟨g, 0, none⟩) S.inn.length cap) := (HK5.out.cell0 blt _).trans b2; have g2 : w5.frozen? ⟨b, 2, none⟩ = false := (HK5.out.blk HSv.out.blk (by simp)).free 2
    have t_0 : w5.cell? ⟨bt, 0, none⟩ = some (.int .i64 m.k) := HBt.out.cell 0
    have t_1 : w5.cell? ⟨bt, 1, none⟩ = some (.int .i64 m.c) := HBt.out.cell 1
    have t_2 : w5.cell? ⟨bt, 2, none⟩ = some (.int .i64 m.l) := HBt.out.cell 2
    have t_3 : w5.cell? ⟨bt, 3, none⟩ = some (.int .u64 m.d.x0) := HBt.out.cell 3
    have t_4 : w5.cell? ⟨bt, 4, none⟩ = some (.int .u64 m.d.x1) := HBt.out.cell 4
    have t_5 : w5.cell? ⟨bt, 5, none⟩ = some (.int .u64 m.d.x2) := HBt.out.cell 5
    have t_6 : w5.cell? ⟨bt, 6, none⟩ = some (.int .u64 m.d.x3) := HBt.out.cell 6
    have t_7 : w5.cell? ⟨bt, 7, none⟩ = some (.int .u64 m.d.x4) := HBt.out.cell 7
    have t_8 : w5.cell? ⟨bt, 8, none⟩ = some (.int .u64 m.d.x5) := HBt.out.cell 8
    have t_9 : w5.cell? ⟨bt, 9, none⟩ = some (.int .u64 m.d.x6) := HBt.out.cell 9
    have t_10 : w5.cell? ⟨bt, 10, none⟩ = some (.int .u64 m.d.x7) := HBt.out.cell 10
    have blt5 : b < w5.heap.size := Nat.lt_of_lt_of_le blt HK5.out.size; have btlt : bt < w5.heap.size := HBt.out.lt; have hbtb : bt ≠ b := (by omega)
    clear xlt klt clt s2 s3 x_0 x_1 x_2 k_0 h0 fc0 k_1 h1 fc1 k_2 h2 fc2 k_3 h3 fc3 k_4 h4 fc4 k_5 h5 fc5 k_6 h6 fc6 k_7 h7 fc7 k_8 h8 fc8 k_9 h9 fc9 k_10 h10 fc10
    go_wp2_with fail
    have hG := HSv.out.innNew (inn' := R) (w1 := w5) (HK5.out.mono (by simp)) HO5.out (fun q hq => .inr (HG5.out q hq))
    have HG := Lib.hid (And.intro hG.1 (HBl.out.trans hG.2)); clear hG
    refine (whear_any m HG.out.1 HH1.out HH2.out HH3.out HH5.out HH4.out).mono ?_
    rintro e w6 ⟨rfl, ⟨vi9, vo9, es9, H6⟩, hb6⟩
    have HZ := Lib.hid (And.intro H6 (HG.out.2.trans hb6))
    clear H6 hb6 HG t2 g2 blt5 btlt HSv HBl HB HBh t_0 t_1 t_2 t_3 t_4 t_5 t_6 t_7 t_8 t_9 t_10
    go_wp2_with fail
    refine bodyPost_ret (results_none rfl _ _ _) rfl ?_
    exact ⟨rfl, ⟨_, _, _, HZ.out.1⟩, HZ.out.2⟩
  · have hkB := (((((((((((HK3.out.setCell (p := ⟨w2.heap.size, 0, none⟩) (fun h => absurd h (Nat.lt_irrefl _)) (.int .i64 m.k)).setCell (p := ⟨w2.heap.size, 1, none⟩) (fun h => absurd h (Nat.lt_irrefl _)) (.int .i64 m.c)).setCell (p := ⟨w2.heap.size, 2, none⟩) (fun h => absurd h (Nat.lt_irrefl _)) (.int .i64 m.l)).setCell (p := ⟨w2.heap.size, 3, none⟩) (fun h => absurd h (Nat.lt_irrefl _)) (.int .u64 m.d.x0)).setCell (p := ⟨w2.heap.size, 4, none⟩) (fun h => absurd h (Nat.lt_irrefl _)) (.int .u64 m.d.x1)).setCell (p := ⟨w2.heap.size, 5, none⟩) (fun h => absurd h (Nat.lt_irrefl _)) (.int .u64 m.d.x2)).setCell (p := ⟨w2.heap.size, 6, none⟩) (fun h => absurd h (Nat.lt_irrefl _)) (.int .u64 m.d.x3)).setCell (p := ⟨w2.heap.size, 7, none⟩) (fun h => absurd h (Nat.lt_irrefl _)) (.int .u64 m.d.x4)).setCell (p := ⟨w2.heap.size, 8, none⟩) (fun h => absurd h (Nat.lt_irrefl _)) (.int .u64 m.d.x5)).setCell (p := ⟨w2.heap.size, 9, none⟩) (fun h => absurd h (Nat.lt_irrefl _)) (.int .u64 m.d.x6)).setCell (p := ⟨w2.heap.size, 10, none⟩) (fun h => absurd h (Nat.lt_irrefl _)) (.int .u64 m.d.x7))
    have hbB : Blk (((((((((((w3.setCell ⟨w2.heap.size, 0, none⟩ (.int .i64 m.k)).setCell ⟨w2.heap.size, 1, none⟩ (.int .i64 m.c)).setCell ⟨w2.heap.size, 2, none⟩ (.int .i64 m.l)).setCell ⟨w2.heap.size, 3, none⟩ (.int .u64 m.d.x0)).setCell ⟨w2.heap.size, 4, none⟩ (.int .u64 m.d.x1)).setCell ⟨w2.heap.size, 5, none⟩ (.int .u64 m.d.x2)).setCell ⟨w2.heap.size, 6, none⟩ (.int .u64 m.d.x3)).setCell ⟨w2.heap.size, 7, none⟩ (.int .u64 m.d.x4)).setCell ⟨w2.heap.size, 8, none⟩ (.int .u64 m.d.x5)).setCell ⟨w2.heap.size, 9, none⟩ (.int .u64 m.d.x6)).setCell ⟨w2.heap.size, 10, none⟩ (.int .u64 m.d.x7)) w2.heap.size [.int .i64 m.k, .int .i64 m.c, .int .i64 m.l, .int .u64 m.d.x0, .int .u64 m.d.x1, .int .u64 m.d.x2, .int .u64 m.d.x3, .int .u64 m.d.x4, .int .u64 m.d.x5, .int .u64 m.d.x6, .int .u64 m.d.x7] 33 := (((((((((((HZb.out.set 0 (.int .i64 m.k)).set 1 (.int .i64 m.c)).set 2 (.int .i64 m.l)).set 3 (.int .u64 m.d.x0)).set 4 (.int .u64 m.d.x1)).set 5 (.int .u64 m.d.x2)).set 6 (.int .u64 m.d.x3)).set 7 (.int .u64 m.d.x4)).set 8 (.int .u64 m.d.x5)).set 9 (.int .u64 m.d.x6)).set 10 (.int .u64 m.d.x7))
    have hkO := ((((((((((((Chg.refl [w2.heap.size] w3).setCell (p := ⟨w2.heap.size, 0, none⟩) (fun _ => List.mem_singleton.2 rfl) (.int .i64 m.k)).setCell (p := ⟨w2.heap.size, 1, none⟩) (fun _ => List.mem_singleton.2 rfl) (.int .i64 m.c)).setCell (p := ⟨w2.heap.size, 2, none⟩) (fun _ => List.mem_singleton.2 rfl) (.int .i64 m.l)).setCell (p := ⟨w2.heap.size, 3, none⟩) (fun _ => List.mem_singleton.2 rfl) (.int .u64 m.d.x0)).setCell (p := ⟨w2.heap.size, 4, none⟩) (fun _ => List.mem_singleton.2 rfl) (.int .u64 m.d.x1)).setCell (p := ⟨w2.heap.size, 5, none⟩) (fun _ => List.mem_singleton.2 rfl) (.int .u64 m.d.x2)).setCell (p := ⟨w2.heap.size, 6, none⟩) (fun _ => List.mem_singleton.2 rfl) (.int .u64 m.d.x3)).setCell (p := ⟨w2.heap.size, 7, none⟩) (fun _ => List.mem_singleton.2 rfl) (.int .u64 m.d.x4)).setCell (p := ⟨w2.heap.size, 8, none⟩) (fun _ => List.mem_singleton.2 rfl) (.int .u64 m.d.x5)).setCell (p := ⟨w2.heap.size, 9, none⟩) (fun _ => List.mem_singleton.2 rfl) (.int .u64 m.d.x6)).setCell (p := ⟨w2.heap.size, 10, none⟩) (fun _ => List.mem_singleton.2 rfl) (.int .u64 m.d.x7))
    have HO5 := Lib.hid (ownsRow_chg HO3.out hkO (fun q hq hm => by rw [List.mem_singleton.1 hm] at hq; have := HGe.out w2.heap.size hq; omega))
    have HBt := Lib.hid hbB; have HK5 := Lib.hid hkB; have HG5 := Lib.hid (fun q (hq : q ∈ rowB (.slice A3 R.length c3)) => Nat.le_trans (Nat.le_succ _) (HGe.out q hq)); clear hkB hbB hkO
    clear HK3 HO3 HGe HZb zlt z0 y_0 z1 y_1 z2 y_2 z3 y_3 z4 y_4 z5 y_5 z6 y_6 z7 y_7 z8 y_8 z9 y_9 z10 y_10
    have hbt : w2.heap.size ≤ w2.heap.size := Nat.le_refl _
    generalize (((((((((((w3.setCell ⟨w2.heap.size, 0, none⟩ (.int .i64 m.k)).setCell ⟨w2.heap.size, 1, none⟩ (.int .i64 m.c)).setCell ⟨w2.heap.size, 2, none⟩ (.int .i64 m.l)).setCell ⟨w2.heap.size, 3, none⟩ (.int .u64 m.d.x0)).setCell ⟨w2.heap.size, 4, none⟩ (.int .u64 m.d.x1)).setCell ⟨w2.heap.size, 5, none⟩ (.int .u64 m.d.x2)).setCell ⟨w2.heap.size, 6, none⟩ (.int .u64 m.d.x3)).setCell ⟨w2.heap.size, 7, none⟩ (.int .u64 m.d.x4)).setCell ⟨w2.heap.size, 8, none⟩ (.int .u64 m.d.x5)).setCell ⟨w2.heap.size, 9, none⟩ (.int .u64 m.d.x6)).setCell ⟨w2.heap.size, 10, none⟩ (.int .u64 m.d.x7)) = w5 at *
    obtain ⟨bt, hbtt⟩ : ∃ x, w2.heap.size = x := ⟨_, rfl⟩
    rw [hbtt] at HBt hbt ⊢
    have hbt9 : w2.heap.size ≤ bt := Nat.le_of_eq hbtt; clear hbtt hbt
    have t2 : w5.cell? ⟨b, 2, none⟩ = some (.slice (some ⟨g, 0, none⟩) S.inn.length cap) := (HK5.out.cell0 blt _).trans b2; have g2 : w5.frozen? ⟨b, 2, none⟩ = false := (HK5.out.blk HSv.out.blk (by simp)).free 2
    have t_0 : w5.cell? ⟨bt, 0, none⟩ = some (.int .i64 m.k) := HBt.out.cell 0
    have t_1 : w5.cell? ⟨bt, 1, none⟩ = some (.int .i64 m.c) := HBt.out.cell 1
    have t_2 : w5.cell? ⟨bt, 2, none⟩ = some (.int .i64 m.l) := HBt.out.cell 2
    have t_3 : w5.cell? ⟨bt, 3, none⟩ = some (.int .u64 m.d.x0) := HBt.out.cell 3
    have t_4 : w5.cell? ⟨bt, 4, none⟩ = some (.int .u64 m.d.x1) := HBt.out.cell 4
    have t_5 : w5.cell? ⟨bt, 5, none⟩ = some (.int .u64 m.d.x2) := HBt.out.cell 5
    have t_6 : w5.cell? ⟨bt, 6, none⟩ = some (.int .u64 m.d.x3) := HBt.out.cell 6
    have t_7 : w5.cell? ⟨bt, 7, none⟩ = some (.int .u64 m.d.x4) := HBt.out.cell 7
    have t_8 : w5.cell? ⟨bt, 8, none⟩ = some (.int .u64 m.d.x5) := HBt.out.cell 8
    have t_9 : w5.cell? ⟨bt, 9, none⟩ = some (.int .u64 m.d.x6) := HBt.out.cell 9
    have t_10 : w5.cell? ⟨bt, 10, none⟩ = some (.int .u64 m.d.x7) := HBt.out.cell 10
    have blt5 : b < w5.heap.size := Nat.lt_of_lt_of_le blt HK5.out.size; have btlt : bt < w5.heap.size := HBt.out.lt; have hbtb : bt ≠ b := (by omega)
    clear xlt klt clt s2 s3 x_0 x_1 x_2 k_0 h0 fc0 k_1 h1 fc1 k_2 h2 fc2 k_3 h3 fc3 k_4 h4 fc4 k_5 h5 fc5 k_6 h6 fc6 k_7 h7 fc7 k_8 h8 fc8 k_9 h9 fc9 k_10 h10 fc10
    go_wp2_with fail
    have hG := HSv.out.innNew (inn' := R) (w1 := w5) (HK5.out.mono (by simp)) HO5.out (fun q hq => .inr (HG5.out q hq))
    have HG := Lib.hid (And.intro hG.1 (HBl.out.trans hG.2)); clear hG
    refine (whear_any m HG.out.1 HH1.out HH2.out HH3.out HH5.out HH4.out).mono ?_
    rintro e w6 ⟨rfl, ⟨vi9, vo9, es9, H6⟩, hb6⟩
    have HZ := Lib.hid (And.intro H6 (HG.out.2.trans hb6))
    clear H6 hb6 HG t2 g2 blt5 btlt HSv HBl HB HBh t_0 t_1 t_2 t_3 t_4 t_5 t_6 t_7 t_8 t_9 t_10
    go_wp2_with fail
    refine bodyPost_ret (results_none rfl _ _ _) rfl ?_
    exact ⟨rfl, ⟨_, _, _, HZ.out.1⟩, HZ.out.2⟩


set_option maxHeartbeats 8000000 in
theorem wact_ans1 {N0 : Nat} {w : World} {b d bm bw bl bc : Nat} {vi vo : Value} {es : List EntV} {e0 : EntV} {S : SvS} {made got : Int} (c : Nat) (hc : c < S.hs.length) (x0 x1 x2 ys y0 y1 y2 y3 y4 y5 y6 y7 : Int) (ya yb : Bool) (hy : S.hs[c] = ⟨ys, ⟨y0, y1, y2, y3, y4, y5, y6, y7⟩, ya, yb⟩) (hx1 : 0 ≤ x1) (hct : x1.tmod (S.hs.length : Int) = (c : Int)) (hlen : S.inn.length ≤ 1000) (hcl : S.hs.length ≤ 4) (hx : True) (k : Nat) (hk : k < S.out.length) (hx2 : 0 ≤ x2) (hct2 : x2.tmod (S.out.length : Int) = (k : Int)) (hlo : S.out.length ≤ 1000) (c2 : Nat) (hc2 : c2 < S.hs.length) (hmc : S.out[k].c = (c2 : Int)) (hkk : S.out[k].k = 11 ∨ S.out[k].k = 12 ∨ S.out[k].k = 13 ∨ S.out[k].k = 14 ∨ S.out[k].k = 15 ∨ S.out[k].k = 16) (h11 : S.out[k].k = 11 → S.hs[c2].st < 2) (h14 : S.out[k].k = 14 ∨ S.out[k].k = 15 → S.hs[c2].asks = true ∧ S.out[k].d.x0 = S.val) (h16 : S.out[k].k = 16 → S.hs[c2].back = true) (H : SvW N0 w b d bm bw bl bc vi vo es e0 S made got) :
    Calls Try.prog 16 #[.pointer (some ⟨b, 0, none⟩), .agg #[.int .i64 3, .int .i64 x1, .int .i64 x2]] w (SvPost N0 w b d bm bw bl bc e0 { S with hs := S.hs.set c2 (ansH S.hs[c2] S.out[k]), inn := S.inn ++ ansM S.hs[c2] S.out[k], out := S.out.take k ++ S.out.drop (k + 1) } made (if S.out[k].k = 14 ∨ S.out[k].k = 15 then wrap64 (got + 1) else got)) := by
  obtain ⟨m, hm⟩ : ∃ m, S.out[k] = m := ⟨_, rfl⟩; rw [hm] at hmc hkk h11 h14 h16 ⊢; have HM := Lib.hid hm; clear hm; obtain ⟨R, hR⟩ : ∃ R, S.out.take k ++ S.out.drop (k + 1) = R := ⟨_, rfl⟩; rw [hR]; have HRr := Lib.hid hR; clear hR; obtain ⟨GG, hGG⟩ : ∃ G, (if m.k = 14 ∨ m.k = 15 then wrap64 (got + 1) else got) = G := ⟨_, rfl⟩; rw [hGG]; have HGG := Lib.hid hGG; clear hGG
  have HH1 := Lib.hid hmc; have HH2 := Lib.hid hkk; have HH3 := Lib.hid h11; have HH4 := Lib.hid h14; have HH6 := Lib.hid h16; have HH5 := Lib.hid hlo; clear hmc hkk h11 h14 h16 hlo
  obtain ⟨j0, hj, hz0, hz1, hz2⟩ := info_parts infoMsg
  have hal : Chg [] w (w.alloc (.cells #[.int .i64 3, .int .i64 x1, .int .i64 x2] 49)) := (Chg.refl [] w).alloc _
  have HSv := Lib.hid (H.look hal)
  have HB := Lib.hid (Blk.new w [.int .i64 3, .int .i64 x1, .int .i64 x2] 49)
  have HBl := Lib.hid (hal.to_below (B := N0) (fun x hx => absurd hx (by simp)) H.lo.2.2)
  have HBn := Lib.hid (H.fresh (x := w.heap.size) (Nat.le_refl _))
  have HY := Lib.hid hy; have HLn := Lib.hid hlen; have HX := Lib.hid hx
  clear hx
  have hnl : (S.hs.length : Int) ≤ 4 := by omega
  have hci : (c : Int) < S.hs.length := by omega
  have hc0 : (0 : Int) ≤ c := Int.natCast_nonneg _
  have hnz : (S.hs.length : Int) ≠ 0 := by omega
  clear hal H hy hlen
  go_enter Try.func16, Try.ntmps16
  go_upto_region 1 with fail
  generalize World.alloc _ _ = wa at *
  obtain ⟨bx, hb⟩ : ∃ b, w.heap.size = b := ⟨_, rfl⟩
  rw [hb] at HB HBn ⊢
  clear hb
  have x_0 : wa.cell? ⟨bx, 0, none⟩ = some (.int .i64 3) := HB.out.cell 0
  have x_1 : wa.cell? ⟨bx, 1, none⟩ = some (.int .i64 x1) := HB.out.cell 1
  have x_2 : wa.cell? ⟨bx, 2, none⟩ = some (.int .i64 x2) := HB.out.cell 2
  have xlt : bx < wa.heap.size := HB.out.lt
  have b1 : wa.cell? ⟨b, 1, none⟩ = some (.slice (some ⟨bc, 0, none⟩) S.hs.length S.hs.length) := HSv.out.blk.cell 1
  have blt : b < wa.heap.size := HSv.out.blk.lt
  have clt : bc < wa.heap.size := HSv.out.hon.lt
  go_quiet (fail)
  have hq1 : Chg [] wa (wa.drewN nq) := (Chg.refl [] wa).drewN nq
  replace HBl := Lib.hid (HBl.out.trans (hq1.to_below (B := N0) (fun x hx => absurd hx (by simp)) HSv.out.lo.2.2)); replace HSv := Lib.hid (HSv.out.look hq1); replace HB := Lib.hid (hq1.blk HB.out (by simp))
  clear hq1 x_0 x_1 x_2 xlt b1 blt clt
  generalize World.drewN _ _ = w1 at *
  have b1 : w1.cell? ⟨b, 1, none⟩ = some (.slice (some ⟨bc, 0, none⟩) S.hs.length S.hs.length) := HSv.out.blk.cell 1
  have blt : b < w1.heap.size := HSv.out.blk.lt; have clt : bc < w1.heap.size := HSv.out.hon.lt; have xlt : bx < w1.heap.size := HB.out.lt
  have h0 : w1.cell? ⟨bc, c * 11, none⟩ = some (.int .i64 ys) := by have := HSv.out.hon.cell (c * 11 + 0); rw [flat_get encH_len S.hs c hc 0 (by decide), HY.out] at this; exact this
  have h1 : w1.cell? ⟨bc, c * 11 + 1, none⟩ = some (.int .u64 y0) := by have := HSv.out.hon.cell (c * 11 + 1); rw [flat_get encH_len S.hs c hc 1 (by decide), HY.out] at this; exact this
  have h2 : w1.cell? ⟨bc, c * 11 + 2, none⟩ = some (.int .u64 y1) := by have := HSv.out.hon.cell (c * 11 + 2); rw [flat_get encH_len S.hs c hc 2 (by decide), HY.out] at this; exact this
  have h3 : w1.cell? ⟨bc, c * 11 + 3, none⟩ = some (.int .u64 y2) := by have := HSv.out.hon.cell (c * 11 + 3); rw [flat_get encH_len S.hs c hc 3 (by decide), HY.out] at this; exact this
  have h4 : w1.cell? ⟨bc, c * 11 + 4, none⟩ = some (.int .u64 y3) := by have := HSv.out.hon.cell (c * 11 + 4); rw [flat_get encH_len S.hs c hc 4 (by decide), HY.out] at this; exact this
  have h5 : w1.cell? ⟨bc, c * 11 + 5, none⟩ = some (.int .u64 y4) := by have := HSv.out.hon.cell (c * 11 + 5); rw [flat_get encH_len S.hs c hc 5 (by decide), HY.out] at this; exact this
  have h6 : w1.cell? ⟨bc, c * 11 + 6, none⟩ = some (.int .u64 y5) := by have := HSv.out.hon.cell (c * 11 + 6); rw [flat_get encH_len S.hs c hc 6 (by decide), HY.out] at this; exact this
  have h7 : w1.cell? ⟨bc, c * 11 + 7, none⟩ = some (.int .u64 y6) := by have := HSv.out.hon.cell (c * 11 + 7); rw [flat_get encH_len S.hs c hc 7 (by decide), HY.out] at this; exact this
  have h8 : w1.cell? ⟨bc, c * 11 + 8, none⟩ = some (.int .u64 y7) := by have := HSv.out.hon.cell (c * 11 + 8); rw [flat_get encH_len S.hs c hc 8 (by decide), HY.out] at this; exact this
  have h9 : w1.cell? ⟨bc, c * 11 + 9, none⟩ = some (.bool ya) := by have := HSv.out.hon.cell (c * 11 + 9); rw [flat_get encH_len S.hs c hc 9 (by decide), HY.out] at this; exact this
  have h10 : w1.cell? ⟨bc, c * 11 + 10, none⟩ = some (.bool yb) := by have := HSv.out.hon.cell (c * 11 + 10); rw [flat_get encH_len S.hs c hc 10 (by decide), HY.out] at this; exact this
  go_upto_region 3 with fail
  have hk2 := (Chg.refl [] w1).alloc (.cells #[.int .i64 ys, .int .u64 y0, .int .u64 y1, .int .u64 y2, .int .u64 y3, .int .u64 y4, .int .u64 y5, .int .u64 y6, .int .u64 y7, .bool ya, .bool yb] 91)
  have HBh := Lib.hid (Blk.new w1 [.int .i64 ys, .int .u64 y0, .int .u64 y1, .int .u64 y2, .int .u64 y3, .int .u64 y4, .int .u64 y5, .int .u64 y6, .int .u64 y7, .bool ya, .bool yb] 91)
  have HAh := Lib.hid (HSv.out.fresh (x := w1.heap.size) (Nat.le_refl _))
  have hbk1 : bx < w1.heap.size := xlt
  replace HBl := Lib.hid (HBl.out.trans (hk2.to_below (B := N0) (fun x hx => absurd hx (by simp)) (HSv.out.lo.2.2))); replace HSv := Lib.hid (HSv.out.look hk2); replace HB := Lib.hid (hk2.blk HB.out (by simp))
  clear hk2 xlt blt clt b1 h0 h1 h2 h3 h4 h5 h6 h7 h8 h9 h10
  generalize World.alloc _ _ = w2 at *
  obtain ⟨bh, hbkk⟩ : ∃ b, w1.heap.size = b := ⟨_, rfl⟩
  rw [hbkk] at HBh HAh hbk1 ⊢
  clear hbkk
  have hn1 : bx ≠ bh := (by omega); have hn2 : bx ≠ b := HBn.out.nb; have hn3 : bh ≠ b := HAh.out.nb; have hn4 : bx ≠ bc := HBn.out.nc; have hn5 : bh ≠ bc := HAh.out.nc; have hn6 : b ≠ bc := HSv.out.ne
  have x_0 : w2.cell? ⟨bx, 0, none⟩ = some (.int .i64 3) := HB.out.cell 0
  have x_1 : w2.cell? ⟨bx, 1, none⟩ = some (.int .i64 x1) := HB.out.cell 1
  have x_2 : w2.cell? ⟨bx, 2, none⟩ = some (.int .i64 x2) := HB.out.cell 2
  have k_0 : w2.cell? ⟨bh, 0, none⟩ = some (.int .i64 ys) := HBh.out.cell 0
  have k_1 : w2.cell? ⟨bh, 1, none⟩ = some (.int .u64 y0) := HBh.out.cell 1
  have k_2 : w2.cell? ⟨bh, 2, none⟩ = some (.int .u64 y1) := HBh.out.cell 2
  have k_3 : w2.cell? ⟨bh, 3, none⟩ = some (.int .u64 y2) := HBh.out.cell 3
  have k_4 : w2.cell? ⟨bh, 4, none⟩ = some (.int .u64 y3) := HBh.out.cell 4
  have k_5 : w2.cell? ⟨bh, 5, none⟩ = some (.int .u64 y4) := HBh.out.cell 5
  have k_6 : w2.cell? ⟨bh, 6, none⟩ = some (.int .u64 y5) := HBh.out.cell 6
  have k_7 : w2.cell? ⟨bh, 7, none⟩ = some (.int .u64 y6) := HBh.out.cell 7
  have k_8 : w2.cell? ⟨bh, 8, none⟩ = some (.int .u64 y7) := HBh.out.cell 8
  have k_9 : w2.cell? ⟨bh, 9, none⟩ = some (.bool ya) := HBh.out.cell 9
  have k_10 : w2.cell? ⟨bh, 10, none⟩ = some (.bool yb) := HBh.out.cell 10
  have h0 : w2.cell? ⟨bc, c * 11, none⟩ = some (.int .i64 ys) := by have := HSv.out.hon.cell (c * 11 + 0); rw [flat_get encH_len S.hs c hc 0 (by decide), HY.out] at this; exact this
  have fc0 : w2.frozen? ⟨bc, c * 11, none⟩ = false := HSv.out.hon.free _
  have h1 : w2.cell? ⟨bc, c * 11 + 1, none⟩ = some (.int .u64 y0) := by have := HSv.out.hon.cell (c * 11 + 1); rw [flat_get encH_len S.hs c hc 1 (by decide), HY.out] at this; exact this
  have fc1 : w2.frozen? ⟨bc, c * 11 + 1, none⟩ = false := HSv.out.hon.free _
  have h2 : w2.cell? ⟨bc, c * 11 + 2, none⟩ = some (.int .u64 y1) := by have := HSv.out.hon.cell (c * 11 + 2); rw [flat_get encH_len S.hs c hc 2 (by decide), HY.out] at this; exact this
  have fc2 : w2.frozen? ⟨bc, c * 11 + 2, none⟩ = false := HSv.out.hon.free _
  have h3 : w2.cell? ⟨bc, c * 11 + 3, none⟩ = some (.int .u64 y2) := by have := HSv.out.hon.cell (c * 11 + 3); rw [flat_get encH_len S.hs c hc 3 (by decide), HY.out] at this; exact this
  have fc3 : w2.frozen? ⟨bc, c * 11 + 3, none⟩ = false := HSv.out.hon.free _
  have h4 : w2.cell? ⟨bc, c * 11 + 4, none⟩ = some (.int .u64 y3) := by have := HSv.out.hon.cell (c * 11 + 4); rw [flat_get encH_len S.hs c hc 4 (by decide), HY.out] at this; exact this
  have fc4 : w2.frozen? ⟨bc, c * 11 + 4, none⟩ = false := HSv.out.hon.free _
  have h5 : w2.cell? ⟨bc, c * 11 + 5, none⟩ = some (.int .u64 y4) := by have := HSv.out.hon.cell (c * 11 + 5); rw [flat_get encH_len S.hs c hc 5 (by decide), HY.out] at this; exact this
  have fc5 : w2.frozen? ⟨bc, c * 11 + 5, none⟩ = false := HSv.out.hon.free _
  have h6 : w2.cell? ⟨bc, c * 11 + 6, none⟩ = some (.int .u64 y5) := by have := HSv.out.hon.cell (c * 11 + 6); rw [flat_get encH_len S.hs c hc 6 (by decide), HY.out] at this; exact this
  have fc6 : w2.frozen? ⟨bc, c * 11 + 6, none⟩ = false := HSv.out.hon.free _
  have h7 : w2.cell? ⟨bc, c * 11 + 7, none⟩ = some (.int .u64 y6) := by have := HSv.out.hon.cell (c * 11 + 7); rw [flat_get encH_len S.hs c hc 7 (by decide), HY.out] at this; exact this
  have fc7 : w2.frozen? ⟨bc, c * 11 + 7, none⟩ = false := HSv.out.hon.free _
  have h8 : w2.cell? ⟨bc, c * 11 + 8, none⟩ = some (.int .u64 y7) := by have := HSv.out.hon.cell (c * 11 + 8); rw [flat_get encH_len S.hs c hc 8 (by decide), HY.out] at this; exact this
  have fc8 : w2.frozen? ⟨bc, c * 11 + 8, none⟩ = false := HSv.out.hon.free _
  have h9 : w2.cell? ⟨bc, c * 11 + 9, none⟩ = some (.bool ya) := by have := HSv.out.hon.cell (c * 11 + 9); rw [flat_get encH_len S.hs c hc 9 (by decide), HY.out] at this; exact this
  have fc9 : w2.frozen? ⟨bc, c * 11 + 9, none⟩ = false := HSv.out.hon.free _
  have h10 : w2.cell? ⟨bc, c * 11 + 10, none⟩ = some (.bool yb) := by have := HSv.out.hon.cell (c * 11 + 10); rw [flat_get encH_len S.hs c hc 10 (by decide), HY.out] at this; exact this
  have fc10 : w2.frozen? ⟨bc, c * 11 + 10, none⟩ = false := HSv.out.hon.free _
  have b1 : w2.cell? ⟨b, 1, none⟩ = some (.slice (some ⟨bc, 0, none⟩) S.hs.length S.hs.length) := HSv.out.blk.cell 1
  have f1 : w2.frozen? ⟨b, 1, none⟩ = false := HSv.out.blk.free 1
  have b2 : w2.cell? ⟨b, 2, none⟩ = some (vi) := HSv.out.blk.cell 2
  have f2 : w2.frozen? ⟨b, 2, none⟩ = false := HSv.out.blk.free 2
  have b3 : w2.cell? ⟨b, 3, none⟩ = some (vo) := HSv.out.blk.cell 3
  have f3 : w2.frozen? ⟨b, 3, none⟩ = false := HSv.out.blk.free 3
  have b4 : w2.cell? ⟨b, 4, none⟩ = some (.int .i64 made) := HSv.out.blk.cell 4
  have f4 : w2.frozen? ⟨b, 4, none⟩ = false := HSv.out.blk.free 4
  have b6 : w2.cell? ⟨b, 6, none⟩ = some (.int .u64 S.val) := HSv.out.blk.cell 6
  have f6 : w2.frozen? ⟨b, 6, none⟩ = false := HSv.out.blk.free 6
  have xlt : bx < w2.heap.size := HB.out.lt; have klt : bh < w2.heap.size := HBh.out.lt; have blt : b < w2.heap.size := HSv.out.blk.lt; have clt : bc < w2.heap.size := HSv.out.hon.lt
  have hkp : (0 : Int) < S.out.length := by omega
  have hkn : (S.out.length : Int) ≠ 0 := by omega
  have hke : S.out ≠ [] := (by intro h; rw [h] at hk; simp at hk); have hk0 : ¬ S.out.length = 0 := (by omega)
  obtain ⟨g, cap, hvv, hg1, hg2, hg3, hg4⟩ := ownsRow_posC HSv.out.out (by omega)
  subst hvv
  have HCl : Hid (∀ (i : Nat) (hi : i < S.out.length) (j : Nat), j < 11 → w2.cell? ⟨g, i * 11 + j, none⟩ = (encM S.out[i])[j]?) := Lib.hid (fun i hi j hj => by have := HSv.out.out.cellAt (i * 11 + j) (by omega); rw [this, flat_get encM_len S.out i hi j hj])
  have HT : Hid (∀ W, Chg [] w2 W → Calls Try.prog 33 #[.slice (some ⟨g, 0, none⟩) S.out.length cap, .int .i64 (k : Int)] W (fun e ww => ∃ v, e = .returned (.tuple #[mcells S.out[k], v]) ∧ ww.ownsRow W.heap.size 33 11 v R.length (R.flatMap encM) ∧ Chg [] W ww)) := Lib.hid (fun W hW => by rw [← HRr.out]; exact take_any W g cap S.out k hk (by have := HH5.out; omega) hg3 hg4 (Nat.lt_of_lt_of_le hg2 hW.size) (fun i hi j hj => (hW.cell0 hg2 _).trans (HCl.out i hi j hj)))
  go_upto_region 17 with fail
  rw [HM.out] at HT
  have hw1 : ¬ b = w2.heap.size := (by omega); have hw2 : ¬ w2.heap.size = b := (by omega); have hw3 : ¬ bx = w2.heap.size := (by omega); have hw4 : ¬ w2.heap.size = bx := (by omega)
  go_region_held3 (fun w' => w'.cell? ⟨b, 3, none⟩ = some (.slice (some ⟨g, 0, none⟩) S.out.length cap) ∧ w'.cell? ⟨bx, 2, none⟩ = some (.int .i64 x2)) (first | with_reducible exact ⟨b3, x_2⟩ | with_reducible exact ⟨s2, s3⟩ | go_keep) (first | (go_at_call 33; refine (HT.out w2.drew ((Chg.refl [] w2).drew)).mono ?_; rintro e w3 ⟨v, rfl, ho, hkk3⟩; have HK3 : Hid (Chg [] w2 w3) := Lib.hid (((Chg.refl [] w2).drew).trans hkk3); have HGe : Hid (∀ g ∈ rowB v, w2.heap.size ≤ g) := Lib.hid (fun q hq => (ho.lt q (by simpa [rowB] using hq)).1); have HO3 := Lib.hid (ownsRow_base ho (show N0 ≤ w2.heap.size from HSv.out.lo.2.2)); obtain ⟨A3, c3, hv3, _, _, _, _⟩ := ownsRow_cell ho; clear ho hkk3; subst hv3; have HFl : Hid True := Lib.hid trivial; have s2 : w3.cell? ⟨b, 3, none⟩ = some (.slice (some ⟨g, 0, none⟩) S.out.length cap) := (HK3.out.cell0 blt _).trans b3; have s3 : w3.cell? ⟨bx, 2, none⟩ = some (.int .i64 x2) := (HK3.out.cell0 xlt _).trans x_2; unfold mcells) | (go_at_call 33; refine (HT.out (w2.alloc (.cells #[.int .i64 0, .int .i64 0, .int .i64 0, .int .u64 0, .int .u64 0, .int .u64 0, .int .u64 0, .int .u64 0, .int .u64 0, .int .u64 0, .int .u64 0] 33)).drew (((Chg.refl [] w2).alloc _).drew)).mono ?_; rintro e w3 ⟨v, rfl, ho, hkk3⟩; have HK3 : Hid (Chg [] w2 w3) := Lib.hid ((((Chg.refl [] w2).alloc (.cells #[.int .i64 0, .int .i64 0, .int .i64 0, .int .u64 0, .int .u64 0, .int .u64 0, .int .u64 0, .int .u64 0, .int .u64 0, .int .u64 0, .int .u64 0] 33)).drew).trans hkk3); have HGe : Hid (∀ g ∈ rowB v, w2.heap.size + 1 ≤ g) := Lib.hid (fun q hq => (by have := (ho.lt q (by simpa [rowB] using hq)).1; simpa using this)); have HO3 := Lib.hid (ownsRow_base ho (show N0 ≤ _ from Nat.le_trans HSv.out.lo.2.2 (by simp))); have HZb : Hid (Blk w3 w2.heap.size [.int .i64 0, .int .i64 0, .int .i64 0, .int .u64 0, .int .u64 0, .int .u64 0, .int .u64 0, .int .u64 0, .int .u64 0, .int .u64 0, .int .u64 0] 33) := Lib.hid (hkk3.blk (Blk.drew (Blk.new w2 [.int .i64 0, .int .i64 0, .int .i64 0, .int .u64 0, .int .u64 0, .int .u64 0, .int .u64 0, .int .u64 0, .int .u64 0, .int .u64 0, .int .u64 0] 33)) (by simp)); obtain ⟨A3, c3, hv3, _, _, _, _⟩ := ownsRow_cell ho; clear ho hkk3; subst hv3; have s2 : w3.cell? ⟨b, 3, none⟩ = some (.slice (some ⟨g, 0, none⟩) S.out.length cap) := (HK3.out.cell0 blt _).trans b3; have s3 : w3.cell? ⟨bx, 2, none⟩ = some (.int .i64 x2) := (HK3.out.cell0 xlt _).trans x_2; have z0 : w3.cell? ⟨w2.heap.size, 0, none⟩ = some (.int .i64 0) := HZb.out.cell 0; have y_0 : w3.frozen? ⟨w2.heap.size, 0, none⟩ = false := HZb.out.free 0; have z1 : w3.cell? ⟨w2.heap.size, 1, none⟩ = some (.int .i64 0) := HZb.out.cell 1; have y_1 : w3.frozen? ⟨w2.heap.size, 1, none⟩ = false := HZb.out.free 1; have z2 : w3.cell? ⟨w2.heap.size, 2, none⟩ = some (.int .i64 0) := HZb.out.cell 2; have y_2 : w3.frozen? ⟨w2.heap.size, 2, none⟩ = false := HZb.out.free 2; have z3 : w3.cell? ⟨w2.heap.size, 3, none⟩ = some (.int .u64 0) := HZb.out.cell 3; have y_3 : w3.frozen? ⟨w2.heap.size, 3, none⟩ = false := HZb.out.free 3; have z4 : w3.cell? ⟨w2.heap.size, 4, none⟩ = some (.int .u64 0) := HZb.out.cell 4; have y_4 : w3.frozen? ⟨w2.heap.size, 4, none⟩ = false := HZb.out.free 4; have z5 : w3.cell? ⟨w2.heap.size, 5, none⟩ = some (.int .u64 0) := HZb.out.cell 5; have y_5 : w3.frozen? ⟨w2.heap.size, 5, none⟩ = false := HZb.out.free 5; have z6 : w3.cell? ⟨w2.heap.size, 6, none⟩ = some (.int .u64 0) := HZb.out.cell 6; have y_6 : w3.frozen? ⟨w2.heap.size, 6, none⟩ = false := HZb.out.free 6; have z7 : w3.cell? ⟨w2.heap.size, 7, none⟩ = some (.int .u64 0) := HZb.out.cell 7; have y_7 : w3.frozen? ⟨w2.heap.size, 7, none⟩ = false := HZb.out.free 7; have z8 : w3.cell? ⟨w2.heap.size, 8, none⟩ = some (.int .u64 0) := HZb.out.cell 8; have y_8 : w3.frozen? ⟨w2.heap.size, 8, none⟩ = false := HZb.out.free 8; have z9 : w3.cell? ⟨w2.heap.size, 9, none⟩ = some (.int .u64 0) := HZb.out.cell 9; have y_9 : w3.frozen? ⟨w2.heap.size, 9, none⟩ = false := HZb.out.free 9; have z10 : w3.cell? ⟨w2.heap.size, 10, none⟩ = some (.int .u64 0) := HZb.out.cell 10; have y_10 : w3.frozen? ⟨w2.heap.size, 10, none⟩ = false := HZb.out.free 10; have zlt : w2.heap.size < w3.heap.size := HZb.out.lt; unfold mcells) | fail)
  · have hkA := HK3.out.alloc (.cells #[.int .i64 m.k, .int .i64 m.c, .int .i64 m.l, .int .u64 m.d.x0, .int .u64 m.d.x1, .int .u64 m.d.x2, .int .u64 m.d.x3, .int .u64 m.d.x4, .int .u64 m.d.x5, .int .u64 m.d.x6, .int .u64 m.d.x7] 33)
    have HBt := Lib.hid (Blk.new w3 [.int .i64 m.k, .int .i64 m.c, .int .i64 m.l, .int .u64 m.d.x0, .int .u64 m.d.x1, .int .u64 m.d.x2, .int .u64 m.d.x3, .int .u64 m.d.x4, .int .u64 m.d.x5, .int .u64 m.d.x6, .int .u64 m.d.x7] 33)
    have HO5 := Lib.hid (HO3.out.alloc (.cells #[.int .i64 m.k, .int .i64 m.c, .int .i64 m.l, .int .u64 m.d.x0, .int .u64 m.d.x1, .int .u64 m.d.x2, .int .u64 m.d.x3, .int .u64 m.d.x4, .int .u64 m.d.x5, .int .u64 m.d.x6, .int .u64 m.d.x7] 33))
    have hbt : w2.heap.size ≤ w3.heap.size := HK3.out.size
    have HK5 := Lib.hid hkA; have HG5 := Lib.hid (fun q (hq : q ∈ rowB (.slice A3 R.length c3)) => HGe.out q hq); clear hkA
    clear HK3 HO3 HGe HFl
    generalize World.alloc _ _ = w5 at *
    obtain ⟨bt, hbtt⟩ : ∃ x, w3.heap.size = x := ⟨_, rfl⟩
    rw [hbtt] at HBt hbt ⊢
    clear hbtt
    have t2 : w5.cell? ⟨b, 3, none⟩ = some (.slice (some ⟨g, 0, none⟩) S.out.length cap) := (HK5.out.cell0 blt _).trans b3; have g2 : w5.frozen? ⟨b, 3, none⟩ = false := (HK5.out.blk HSv.out.blk (by simp)).free 3
    have t_0 : w5.cell? ⟨bt, 0, none⟩ = some (.int .i64 m.k) := HBt.out.cell 0
    have t_1 : w5.cell? ⟨bt, 1, none⟩ = some (.int .i64 m.c) := HBt.out.cell 1
    have t_2 : w5.cell? ⟨bt, 2, none⟩ = some (.int .i64 m.l) := HBt.out.cell 2
    have t_3 : w5.cell? ⟨bt, 3, none⟩ = some (.int .u64 m.d.x0) := HBt.out.cell 3
    have t_4 : w5.cell? ⟨bt, 4, none⟩ = some (.int .u64 m.d.x1) := HBt.out.cell 4
    have t_5 : w5.cell? ⟨bt, 5, none⟩ = some (.int .u64 m.d.x2) := HBt.out.cell 5
    have t_6 : w5.cell? ⟨bt, 6, none⟩ = some (.int .u64 m.d.x3) := HBt.out.cell 6
    have t_7 : w5.cell? ⟨bt, 7, none⟩ = some (.int .u64 m.d.x4) := HBt.out.cell 7
    have t_8 : w5.cell? ⟨bt, 8, none⟩ = some (.int .u64 m.d.x5) := HBt.out.cell 8
    have t_9 : w5.cell? ⟨bt, 9, none⟩ = some (.int .u64 m.d.x6) := HBt.out.cell 9
    have t_10 : w5.cell? ⟨bt, 10, none⟩ = some (.int .u64 m.d.x7) := HBt.out.cell 10
    have blt5 : b < w5.heap.size := Nat.lt_of_lt_of_le blt HK5.out.size; have btlt : bt < w5.heap.size := HBt.out.lt; have hbtb : bt ≠ b := (by omega)
    clear xlt klt clt s2 s3 x_0 x_1 x_2 k_0 h0 fc0 k_1 h1 fc1 k_2 h2 fc2 k_3 h3 fc3 k_4 h4 fc4 k_5 h5 fc5 k_6 h6 fc6 k_7 h7 fc7 k_8 h8 fc8 k_9 h9 fc9 k_10 h10 fc10
    go_wp2_with fail
    have hG := HSv.out.outNew (out' := R) (w1 := w5) (HK5.out.mono (by simp)) HO5.out (fun q hq => .inr (HG5.out q hq))
    have HG := Lib.hid (And.intro hG.1 (HBl.out.trans hG.2)); clear hG
    refine (wanswer_any (S := { S with out := R }) c2 hc2 hcl HLn.out m HH1.out HH2.out HH3.out HH4.out HH6.out HG.out.1).mono ?_
    rintro e w6 ⟨rfl, ⟨vi9, vo9, es9, H6⟩, hb6⟩
    rw [HGG.out] at H6
    have HZ := Lib.hid (And.intro H6 (HG.out.2.trans hb6))
    clear H6 hb6 HG t2 g2 blt5 btlt HSv HBl HB HBh t_0 t_1 t_2 t_3 t_4 t_5 t_6 t_7 t_8 t_9 t_10
    go_wp2_with fail
    refine bodyPost_ret (results_none rfl _ _ _) rfl ?_
    exact ⟨rfl, ⟨_, _, _, HZ.out.1⟩, HZ.out.2⟩
  · have hkB := (((((((((((HK3.out.setCell (p := ⟨w2.heap.size, 0, none⟩) (fun h => absurd h (Nat.lt_irrefl _)) (.int .i64 m.k)).setCell (p := ⟨w2.heap.size, 1, none⟩) (fun h => absurd h (Nat.lt_irrefl _)) (.int .i64 m.c)).setCell (p := ⟨w2.heap.size, 2, none⟩) (fun h => absurd h (Nat.lt_irrefl _)) (.int .i64 m.l)).setCell (p := ⟨w2.heap.size, 3, none⟩) (fun h => absurd h (Nat.lt_irrefl _)) (.int .u64 m.d.x0)).setCell (p := ⟨w2.heap.size, 4, none⟩) (fun h => absurd h (Nat.lt_irrefl _)) (.int .u64 m.d.x1)).setCell (p := ⟨w2.heap.size, 5, none⟩) (fun h => absurd h (Nat.lt_irrefl _)) (.int .u64 m.d.x2)).setCell (p := ⟨w2.heap.size, 6, none⟩) (fun h => absurd h (Nat.lt_irrefl _)) (.int .u64 m.d.x3)).setCell (p := ⟨w2.heap.size, 7, none⟩) (fun h => absurd h (Nat.lt_irrefl _)) (.int .u64 m.d.x4)).setCell (p := ⟨w2.heap.size, 8, none⟩) (fun h => absurd h (Nat.lt_irrefl _)) (.int .u64 m.d.x5)).setCell (p := ⟨w2.heap.size, 9, none⟩) (fun h => absurd h (Nat.lt_irrefl _)) (.int .u64 m.d.x6)).setCell (p := ⟨w2.heap.size, 10, none⟩) (fun h => absurd h (Nat.lt_irrefl _)) (.int .u64 m.d.x7))
    have hbB : Blk (((((((((((w3.setCell ⟨w2.heap.size, 0, none⟩ (.int .i64 m.k)).setCell ⟨w2.heap.size, 1, none⟩ (.int .i64 m.c)).setCell ⟨w2.heap.size, 2, none⟩ (.int .i64 m.l)).setCell ⟨w2.heap.size, 3, none⟩ (.int .u64 m.d.x0)).setCell ⟨w2.heap.size, 4, none⟩ (.int .u64 m.d.x1)).setCell ⟨w2.heap.size, 5, none⟩ (.int .u64 m.d.x2)).setCell ⟨w2.heap.size, 6, none⟩ (.int .u64 m.d.x3)).setCell ⟨w2.heap.size, 7, none⟩ (.int .u64 m.d.x4)).setCell ⟨w2.heap.size, 8, none⟩ (.int .u64 m.d.x5)).setCell ⟨w2.heap.size, 9, none⟩ (.int .u64 m.d.x6)).setCell ⟨w2.heap.size, 10, none⟩ (.int .u64 m.d.x7)) w2.heap.size [.int .i64 m.k, .int .i64 m.c, .int .i64 m.l, .int .u64 m.d.x0, .int .u64 m.d.x1, .int .u64 m.d.x2, .int .u64 m.d.x3, .int .u64 m.d.x4, .int .u64 m.d.x5, .int .u64 m.d.x6, .int .u64 m.d.x7] 33 := (((((((((((HZb.out.set 0 (.int .i64 m.k)).set 1 (.int .i64 m.c)).set 2 (.int .i64 m.l)).set 3 (.int .u64 m.d.x0)).set 4 (.int .u64 m.d.x1)).set 5 (.int .u64 m.d.x2)).set 6 (.int .u64 m.d.x3)).set 7 (.int .u64 m.d.x4)).set 8 (.int .u64 m.d.x5)).set 9 (.int .u64 m.d.x6)).set 10 (.int .u64 m.d.x7))
    have hkO := ((((((((((((Chg.refl [w2.heap.size] w3).setCell (p := ⟨w2.heap.size, 0, none⟩) (fun _ => List.mem_singleton.2 rfl) (.int .i64 m.k)).setCell (p := ⟨w2.heap.size, 1, none⟩) (fun _ => List.mem_singleton.2 rfl) (.int .i64 m.c)).setCell (p := ⟨w2.heap.size, 2, none⟩) (fun _ => List.mem_singleton.2 rfl) (.int .i64 m.l)).setCell (p := ⟨w2.heap.size, 3, none⟩) (fun _ => List.mem_singleton.2 rfl) (.int .u64 m.d.x0)).setCell (p := ⟨w2.heap.size, 4, none⟩) (fun _ => List.mem_singleton.2 rfl) (.int .u64 m.d.x1)).setCell (p := ⟨w2.heap.size, 5, none⟩) (fun _ => List.mem_singleton.2 rfl) (.int .u64 m.d.x2)).setCell (p := ⟨w2.heap.size, 6, none⟩) (fun _ => List.mem_singleton.2 rfl) (.int .u64 m.d.x3)).setCell (p := ⟨w2.heap.size, 7, none⟩) (fun _ => List.mem_singleton.2 rfl) (.int .u64 m.d.x4)).setCell (p := ⟨w2.heap.size, 8, none⟩) (fun _ => List.mem_singleton.2 rfl) (.int .u64 m.d.x5)).setCell (p := ⟨w2.heap.size, 9, none⟩) (fun _ => List.mem_singleton.2 rfl) (.int .u64 m.d.x6)).setCell (p := ⟨w2.heap.size, 10, none⟩) (fun _ => List.mem_singleton.2 rfl) (.int .u64 m.d.x7))
    have HO5 := Lib.hid (ownsRow_chg HO3.out hkO (fun q hq hm => by rw [List.mem_singleton.1 hm] at hq; have := HGe.out w2.heap.size hq; omega))
    have HBt := Lib.hid hbB; have HK5 := Lib.hid hkB; have HG5 := Lib.hid (fun q (hq : q ∈ rowB (.slice A3 R.length c3)) => Nat.le_trans (Nat.le_succ _) (HGe.out q hq)); clear hkB hbB hkO
    clear HK3 HO3 HGe HZb zlt z0 y_0 z1 y_1 z2 y_2 z3 y_3 z4 y_4 z5 y_5 z6 y_6 z7 y_7 z8 y_8 z9 y_9 z10 y_10
    have hbt : w2.heap.size ≤ w2.heap.size := Nat.le_refl _
    generalize (((((((((((w3.setCell ⟨w2.heap.size, 0, none⟩ (.int .i64 m.k)).setCell ⟨w2.heap.size, 1, none⟩ (.int .i64 m.c)).setCell ⟨w2.heap.size, 2, none⟩ (.int .i64 m.l)).setCell ⟨w2.heap.size, 3, none⟩ (.int .u64 m.d.x0)).setCell ⟨w2.heap.size, 4, none⟩ (.int .u64 m.d.x1)).setCell ⟨w2.heap.size, 5, none⟩ (.int .u64 m.d.x2)).setCell ⟨w2.heap.size, 6, none⟩ (.int .u64 m.d.x3)).setCell ⟨w2.heap.size, 7, none⟩ (.int .u64 m.d.x4)).setCell ⟨w2.heap.size, 8, none⟩ (.int .u64 m.d.x5)).setCell ⟨w2.heap.size, 9, none⟩ (.int .u64 m.d.x6)).setCell ⟨w2.heap.size, 10, none⟩ (.int .u64 m.d.x7)) = w5 at *
    obtain ⟨bt, hbtt⟩ : ∃ x, w2.heap.size = x := ⟨_, rfl⟩
    rw [hbtt] at HBt hbt ⊢
    have hbt9 : w2.heap.size ≤ bt := Nat.le_of_eq hbtt; clear hbtt hbt
    have t2 : w5.cell? ⟨b, 3, none⟩ = some (.slice (some ⟨g, 0, none⟩) S.out.length cap) := (HK5.out.cell0 blt _).trans b3; have g2 : w5.frozen? ⟨b, 3, none⟩ = false := (HK5.out.blk HSv.out.blk (by simp)).free 3
    have t_0 : w5.cell? ⟨bt, 0, none⟩ = some (.int .i64 m.k) := HBt.out.cell 0
    have t_1 : w5.cell? ⟨bt, 1, none⟩ = some (.int .i64 m.c) := HBt.out.cell 1
    have t_2 : w5.cell? ⟨bt, 2, none⟩ = some (.int .i64 m.l) := HBt.out.cell 2
    have t_3 : w5.cell? ⟨bt, 3, none⟩ = some (.int .u64 m.d.x0) := HBt.out.cell 3
    have t_4 : w5.cell? ⟨bt, 4, none⟩ = some (.int .u64 m.d.x1) := HBt.out.cell 4
    have t_5 : w5.cell? ⟨bt, 5, none⟩ = some (.int .u64 m.d.x2) := HBt.out.cell 5
    have t_6 : w5.cell? ⟨bt, 6, none⟩ = some (.int .u64 m.d.x3) := HBt.out.cell 6
    have t_7 : w5.cell? ⟨bt, 7, none⟩ = some (.int .u64 m.d.x4) := HBt.out.cell 7
    have t_8 : w5.cell? ⟨bt, 8, none⟩ = some (.int .u64 m.d.x5) := HBt.out.cell 8
    have t_9 : w5.cell? ⟨bt, 9, none⟩ = some (.int .u64 m.d.x6) := HBt.out.cell 9
    have t_10 : w5.cell? ⟨bt, 10, none⟩ = some (.int .u64 m.d.x7) := HBt.out.cell 10
    have blt5 : b < w5.heap.size := Nat.lt_of_lt_of_le blt HK5.out.size; have btlt : bt < w5.heap.size := HBt.out.lt; have hbtb : bt ≠ b := (by omega)
    clear xlt klt clt s2 s3 x_0 x_1 x_2 k_0 h0 fc0 k_1 h1 fc1 k_2 h2 fc2 k_3 h3 fc3 k_4 h4 fc4 k_5 h5 fc5 k_6 h6 fc6 k_7 h7 fc7 k_8 h8 fc8 k_9 h9 fc9 k_10 h10 fc10
    go_wp2_with fail
    have hG := HSv.out.outNew (out' := R) (w1 := w5) (HK5.out.mono (by simp)) HO5.out (fun q hq => .inr (HG5.out q hq))
    have HG := Lib.hid (And.intro hG.1 (HBl.out.trans hG.2)); clear hG
    refine (wanswer_any (S := { S with out := R }) c2 hc2 hcl HLn.out m HH1.out HH2.out HH3.out HH4.out HH6.out HG.out.1).mono ?_
    rintro e w6 ⟨rfl, ⟨vi9, vo9, es9, H6⟩, hb6⟩
    rw [HGG.out] at H6
    have HZ := Lib.hid (And.intro H6 (HG.out.2.trans hb6))
    clear H6 hb6 HG t2 g2 blt5 btlt HSv HBl HB HBh t_0 t_1 t_2 t_3 t_4 t_5 t_6 t_7 t_8 t_9 t_10
    go_wp2_with fail
    refine bodyPost_ret (results_none rfl _ _ _) rfl ?_
    exact ⟨rfl, ⟨_, _, _, HZ.out.1⟩, HZ.out.2⟩


/-- How many requests were made, and granted. -/
def MG (S : SvS) (made got : Int) : Prop := ∃ G : Nat, got = wrap64 (G : Int) ∧ made = wrap64 ((G + asksN S.hs : Nat) : Int)
theorem wrap64_succ (x : Int) : wrap64 (wrap64 x + 1) = wrap64 (x + 1) := by unfold wrap64; omega
theorem MG.ask {S : SvS} {made got : Int} (h : MG S made got) {S' : SvS} (ha : asksN S'.hs = asksN S.hs + 1) : MG S' (wrap64 (made + 1)) got := by
  obtain ⟨G, h1, h2⟩ := h
  refine ⟨G, h1, ?_⟩
  rw [h2, wrap64_succ, ha]; congr 1
theorem MG.same {S : SvS} {made got : Int} (h : MG S made got) {S' : SvS} (ha : asksN S'.hs = asksN S.hs) : MG S' made got := by
  obtain ⟨G, h1, h2⟩ := h
  exact ⟨G, h1, by rw [ha]; exact h2⟩
theorem MG.grant {S : SvS} {made got : Int} (h : MG S made got) {S' : SvS} (ha : asksN S'.hs + 1 = asksN S.hs) : MG S' made (wrap64 (got + 1)) := by
  obtain ⟨G, h1, h2⟩ := h
  refine ⟨G + 1, ?_, ?_⟩
  · rw [h1, wrap64_succ]; rfl
  · rw [h2, ← ha]; congr 1; omega

theorem tmod_nat {x : Int} {n : Nat} (hx : 0 ≤ x) (hn : 0 < n) : ∃ c : Nat, c < n ∧ x.tmod (n : Int) = (c : Int) := by
  obtain ⟨x, rfl⟩ := Int.eq_ofNat_of_zero_le hx
  exact ⟨x % n, Nat.mod_lt _ hn, rfl⟩
theorem take_perm (l : List MsgV) (k : Nat) (h : k < l.length) : l.Perm (l[k] :: (l.take k ++ l.drop (k + 1))) := by
  have e : l = l.take k ++ (l[k] :: l.drop (k + 1)) := by rw [List.getElem_cons_drop, List.take_append_drop]
  exact (List.Perm.of_eq e).trans List.perm_middle
theorem SvI.small {S : SvS} (I : SvI S) : S.mu ≤ 90 := P.mu_le I.inv.b (show S.n ≤ 4 from I.n.2)
theorem SvI.lens {S : SvS} (I : SvI S) : S.inn.length ≤ 90 ∧ S.out.length ≤ 90 := by
  have h := I.small
  rw [mu_eq] at h
  have h1 := P.wts_len (S.inn.map ms)
  have h2 := P.wts_len (S.out.map ms)
  rw [List.length_map] at h1 h2
  omega

/-- What an act leaves. -/
def ActPost (N0 : Nat) (w : World) (b d bm bw bl bc : Nat) (e0 : EntV) (S : SvS) (made got x0 : Int) (e : Ending) (w' : World) : Prop :=
  e = .returned (.tuple #[]) ∧ ∃ S' made' got', (∃ vi vo es, SvW N0 w' b d bm bw bl bc vi vo es e0 S' made' got') ∧ Below N0 w w' ∧ SvI S' ∧ MG S' made' got' ∧ S'.n = S.n ∧
    (x0 = 2 → S.inn ≠ [] → S'.mu < S.mu) ∧ (x0 = 3 → S.out ≠ [] → S'.mu < S.mu) ∧ (x0 = 2 ∨ x0 = 3 → S'.mu ≤ S.mu) ∧ (x0 = 2 → S.inn = [] → S' = S)

theorem wact_any {N0 : Nat} {w : World} {b d bm bw bl bc : Nat} {vi vo : Value} {es : List EntV} {e0 : EntV} {S : SvS} {made got : Int} (x0 x1 x2 : Int) (hx1 : 0 ≤ x1) (hx2 : 0 ≤ x2) (H : SvW N0 w b d bm bw bl bc vi vo es e0 S made got) (I : SvI S) (M : MG S made got) :
    Calls Try.prog 16 #[.pointer (some ⟨b, 0, none⟩), .agg #[.int .i64 x0, .int .i64 x1, .int .i64 x2]] w (ActPost N0 w b d bm bw bl bc e0 S made got x0) := by
  have hn := I.n
  have hl := I.hl
  obtain ⟨c, hc, hct⟩ := tmod_nat hx1 (n := S.hs.length) (by omega)
  obtain ⟨hl1, hl2⟩ := I.lens
  have hi : S.inn.length ≤ 1000 := by omega
  have h4 : S.hs.length ≤ 4 := by omega
  obtain ⟨y, hy⟩ : ∃ y, S.hs[c] = y := ⟨_, rfl⟩
  obtain ⟨ys, ⟨y0, y1, y2, y3, y4, y5, y6, y7⟩, ya, yb⟩ := y
  have same : ∀ {x0 : Int} {e : Ending} {w' : World}, (x0 = 2 → S.inn = []) → (x0 = 3 → S.out = []) → SvPost N0 w b d bm bw bl bc e0 S made got e w' → ActPost N0 w b d bm bw bl bc e0 S made got x0 e w' := by
    rintro x0 e w' k2 k3 ⟨rfl, h1, h2⟩
    exact ⟨rfl, S, made, got, h1, h2, I, M, rfl, fun h hn => absurd (k2 h) hn, fun h hn => absurd (k3 h) hn, fun _ => Nat.le_refl _, fun _ _ => rfl⟩
  by_cases e0' : x0 = 0
  · subst e0'
    by_cases hq : ya = false ∧ yb = false ∧ ys < 1
    · refine (wact_ask0 c hc 0 x1 x2 ys y0 y1 y2 y3 y4 y5 y6 y7 ya yb hy hx1 hct hi h4 hq H).mono ?_
      rintro e w' ⟨rfl, h1, h2⟩
      have st := ask_step I c hc 0 (.inl rfl) (by rw [hy]; exact hq.1) (by rw [hy]; exact hq.2.1) (by rw [hy]; exact hq.2.2)
      rw [hy] at st
      obtain ⟨ha, hb, _⟩ := hq
      subst ha hb
      exact ⟨rfl, _, _, _, h1, h2, st.1, M.ask st.2, rfl, (fun h => absurd h (by decide)), (fun h => absurd h (by decide)), (fun h => absurd h (by decide)), (fun h => absurd h (by decide))⟩
    · refine (wact_noask0 c hc 0 x1 x2 ys y0 y1 y2 y3 y4 y5 y6 y7 ya yb hy hx1 hct hi h4 (by
        by_cases a : ya = true
        · exact .inl a
        · by_cases b' : yb = true
          · exact .inr (.inl b')
          · exact .inr (.inr fun h => hq ⟨by simpa using a, by simpa using b', h⟩)) H).mono fun e w' h => same (fun h => absurd h (by decide)) (fun h => absurd h (by decide)) h
  by_cases e1' : x0 = 1
  · subst e1'
    by_cases hq : ya = false ∧ yb = false ∧ ys < 2
    · refine (wact_ask1 c hc 0 x1 x2 ys y0 y1 y2 y3 y4 y5 y6 y7 ya yb hy hx1 hct hi h4 hq H).mono ?_
      rintro e w' ⟨rfl, h1, h2⟩
      have st := ask_step I c hc 1 (.inr rfl) (by rw [hy]; exact hq.1) (by rw [hy]; exact hq.2.1) (by rw [hy]; exact hq.2.2)
      rw [hy] at st
      obtain ⟨ha, hb, _⟩ := hq
      subst ha hb
      exact ⟨rfl, _, _, _, h1, h2, st.1, M.ask st.2, rfl, (fun h => absurd h (by decide)), (fun h => absurd h (by decide)), (fun h => absurd h (by decide)), (fun h => absurd h (by decide))⟩
    · refine (wact_noask1 c hc 0 x1 x2 ys y0 y1 y2 y3 y4 y5 y6 y7 ya yb hy hx1 hct hi h4 (by
        by_cases a : ya = true
        · exact .inl a
        · by_cases b' : yb = true
          · exact .inr (.inl b')
          · exact .inr (.inr fun h => hq ⟨by simpa using a, by simpa using b', h⟩)) H).mono fun e w' h => same (fun h => absurd h (by decide)) (fun h => absurd h (by decide)) h
  by_cases e2' : x0 = 2
  · subst e2'
    by_cases hq : S.inn = []
    · exact (wact_hear0 c hc 0 x1 x2 ys y0 y1 y2 y3 y4 y5 y6 y7 ya yb hy hx1 hct hi h4 hq H).mono fun e w' h => same (fun _ => hq) (fun h => absurd h (by decide)) h
    · obtain ⟨k, hk, hkt⟩ := tmod_nat hx2 (n := S.inn.length) (by cases hh : S.inn with | nil => exact absurd hh hq | cons => simp)
      have hp := take_perm S.inn k hk
      have hmay := may_of I (List.getElem_mem hk)
      have st := hear_step I hp
      have lo := st.1.lens.2
      have lo2 : (hearE 2 S.ws S.e 1 S.inn[k]).2.2.length ≤ 1000 := by
        have : (S.out ++ (hearE 2 S.ws S.e 1 S.inn[k]).2.2).length ≤ 90 := lo
        rw [List.length_append] at this; omega
      refine (wact_hear1 c hc 0 x1 x2 ys y0 y1 y2 y3 y4 y5 y6 y7 ya yb hy hx1 hct hi h4 trivial k hk hx2 hkt (by omega) (I.inl _ (List.getElem_mem hk)) hmay.2 hmay.1 lo2 H).mono ?_
      rintro e w' ⟨rfl, h1, h2⟩
      exact ⟨rfl, _, _, _, h1, h2, st.1, M.same rfl, rfl, fun _ _ => st.2, (fun h => absurd h (by decide)), fun _ => Nat.le_of_lt st.2, fun _ h => absurd h hq⟩
  by_cases e3' : x0 = 3
  · subst e3'
    by_cases hq : S.out = []
    · exact (wact_ans0 c hc 0 x1 x2 ys y0 y1 y2 y3 y4 y5 y6 y7 ya yb hy hx1 hct hi h4 hq H).mono fun e w' h => same (fun h => absurd h (by decide)) (fun _ => hq) h
    · obtain ⟨k, hk, hkt⟩ := tmod_nat hx2 (n := S.out.length) (by cases hh : S.out with | nil => exact absurd hh hq | cons => simp)
      have hp := take_perm S.out k hk
      obtain ⟨hkk, c2, hc2, hmc, _, q11, q14, q16⟩ := ans_may I (List.getElem_mem hk)
      have st := ans_step I hp c2 hc2 hmc
      refine (wact_ans1 c hc 0 x1 x2 ys y0 y1 y2 y3 y4 y5 y6 y7 ya yb hy hx1 hct hi h4 trivial k hk hx2 hkt (by omega) c2 hc2 hmc hkk q11 q14 q16 H).mono ?_
      rintro e w' ⟨rfl, h1, h2⟩
      refine ⟨rfl, _, _, _, h1, h2, st.1, ?_, rfl, (fun h => absurd h (by decide)), fun _ _ => st.2.1, fun _ => Nat.le_of_lt st.2.1, (fun h => absurd h (by decide))⟩
      have ha := st.2.2
      split
      · rename_i hh; rw [if_pos hh] at ha; exact M.grant ha
      · rename_i hh; rw [if_neg hh] at ha; exact M.same ha
  by_cases e4' : x0 = 4
  · subst e4'
    by_cases hq : ys = 2
    · refine (wact_write c hc 0 x1 x2 ys y0 y1 y2 y3 y4 y5 y6 y7 ya yb hy hx1 hct hi h4 hq H).mono ?_
      rintro e w' ⟨rfl, h1, h2⟩
      have st := write_step I c hc (IntKind.u64.wrap (S.val + 1)) (by rw [hy]; exact hq)
      rw [hy] at st
      subst hq
      exact ⟨rfl, _, _, _, h1, h2, st.1, M.same st.2, rfl, (fun h => absurd h (by decide)), (fun h => absurd h (by decide)), (fun h => absurd h (by decide)), (fun h => absurd h (by decide))⟩
    · exact (wact_write0 c hc 0 x1 x2 ys y0 y1 y2 y3 y4 y5 y6 y7 ya yb hy hx1 hct hi h4 hq H).mono fun e w' h => same (fun h => absurd h (by decide)) (fun h => absurd h (by decide)) h
  by_cases e5' : x0 = 5
  · subst e5'
    by_cases hq : ys = 2
    · refine (wact_drop2 c hc 0 x1 x2 ys y0 y1 y2 y3 y4 y5 y6 y7 ya yb hy hx1 hct hi h4 hq H).mono ?_
      rintro e w' ⟨rfl, h1, h2⟩
      have st := drop2_step I c hc (by rw [hy]; exact hq)
      rw [hy] at st
      exact ⟨rfl, _, _, _, h1, h2, st.1, M.same st.2, rfl, (fun h => absurd h (by decide)), (fun h => absurd h (by decide)), (fun h => absurd h (by decide)), (fun h => absurd h (by decide))⟩
    · refine (wact_drop c hc 0 x1 x2 ys y0 y1 y2 y3 y4 y5 y6 y7 ya yb hy hx1 hct hi h4 hq H).mono ?_
      rintro e w' ⟨rfl, h1, h2⟩
      have st := drop_step I c hc (by rw [hy]; exact hq)
      rw [hy] at st
      exact ⟨rfl, _, _, _, h1, h2, st.1, M.same st.2, rfl, (fun h => absurd h (by decide)), (fun h => absurd h (by decide)), (fun h => absurd h (by decide)), (fun h => absurd h (by decide))⟩
  · exact (wact_none c hc x0 x1 x2 ys y0 y1 y2 y3 y4 y5 y6 y7 ya yb hy hx1 hct hi h4 ⟨e0', e1', e2', e3', e4', e5'⟩ H).mono fun e w' h => same (fun h => absurd h e2') (fun h => absurd h e3') h
end Go.Proofs.Ytepdhajgemmoiaa
