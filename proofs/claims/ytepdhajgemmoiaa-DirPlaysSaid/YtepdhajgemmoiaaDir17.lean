/- What a directory refuses. -/
import Derived.Test.YtepdhajgemmoiaaDir16
namespace Go.Proofs.Ytepdhajgemmoiaa
set_option linter.unusedSimpArgs false
set_option linter.unusedVariables false
set_option maxRecDepth 100000
open Go.RowKit


set_option maxHeartbeats 2000000 in
theorem Hear_nil (w : World) (m : MsgV) :
    Calls Try.prog 7 #[.pointer none, .agg #[.int .i64 m.k, .int .i64 m.c, .int .i64 m.l, .int .u64 m.d.x0, .int .u64 m.d.x1, .int .u64 m.d.x2, .int .u64 m.d.x3, .int .u64 m.d.x4, .int .u64 m.d.x5, .int .u64 m.d.x6, .int .u64 m.d.x7]] w fun e w' => e = .returned (.tuple #[.slice none 0 0, .int .i64 1]) ∧ Chg [] w w' := by
  obtain ⟨j0, hj, hy0, hy1, hy2⟩ := info_parts infoMsg
  go_enter Try.func7, Try.ntmps7
  go_wp2_with fail
  go_ret2
  exact ⟨rfl, (Chg.refl _ _).alloc _⟩
set_option maxHeartbeats 8000000 in
theorem Hear_line (w : World) (d bm bw bl n : Nat) (cores : Int) (ws : List Int) (es : List EntV) (m : MsgV) (D : DirW w d bm bw bl n cores ws es) (hb : m.l < 0 ∨ (n : Int) ≤ m.l) :
    Calls Try.prog 7 #[.pointer (some ⟨d, 0, none⟩), .agg #[.int .i64 m.k, .int .i64 m.c, .int .i64 m.l, .int .u64 m.d.x0, .int .u64 m.d.x1, .int .u64 m.d.x2, .int .u64 m.d.x3, .int .u64 m.d.x4, .int .u64 m.d.x5, .int .u64 m.d.x6, .int .u64 m.d.x7]] w fun e w' => e = .returned (.tuple #[.slice none 0 0, .int .i64 2]) ∧ Chg [] w w' := by
  obtain ⟨j0, hj, hy0, hy1, hy2⟩ := info_parts infoMsg
  have hal : Chg [] w (w.alloc (.cells #[.int .i64 m.k, .int .i64 m.c, .int .i64 m.l, .int .u64 m.d.x0, .int .u64 m.d.x1, .int .u64 m.d.x2, .int .u64 m.d.x3, .int .u64 m.d.x4, .int .u64 m.d.x5, .int .u64 m.d.x6, .int .u64 m.d.x7] 33)) := (Chg.refl [] w).alloc _
  have HP := Lib.hid (DirPost.look D hal)
  have HB := Lib.hid (Blk.new w [.int .i64 m.k, .int .i64 m.c, .int .i64 m.l, .int .u64 m.d.x0, .int .u64 m.d.x1, .int .u64 m.d.x2, .int .u64 m.d.x3, .int .u64 m.d.x4, .int .u64 m.d.x5, .int .u64 m.d.x6, .int .u64 m.d.x7] 33)
  have hln := D.D.len
  have hn64 := D.D.mem.small
  have HCh := Lib.hid hal
  clear D hal
  go_enter Try.func7, Try.ntmps7
  go_upto_region 1 with fail
  generalize World.alloc _ _ = wa at *
  obtain ⟨b, hb⟩ : ∃ b, w.heap.size = b := ⟨_, rfl⟩
  rw [hb] at HB ⊢
  clear hb
  have mlt : b < wa.heap.size := HB.out.lt
  have d2 : wa.cell? ⟨d, 2, none⟩ = some (.slice (some ⟨bl, 0, none⟩) n n) := HP.out.D.D.blk.cell 2
  have dlt : d < wa.heap.size := HP.out.D.D.blk.lt
  have d1 : wa.cell? ⟨d, 1, none⟩ = some (.int .i64 cores) := HP.out.D.D.blk.cell 1
  have m0 : wa.cell? ⟨b, 0, none⟩ = some (.int .i64 m.k) := HB.out.cell 0
  have m1 : wa.cell? ⟨b, 1, none⟩ = some (.int .i64 m.c) := HB.out.cell 1
  have m3 : wa.cell? ⟨b, 3, none⟩ = some (.int .u64 m.d.x0) := HB.out.cell 3
  have m4 : wa.cell? ⟨b, 4, none⟩ = some (.int .u64 m.d.x1) := HB.out.cell 4
  have m5 : wa.cell? ⟨b, 5, none⟩ = some (.int .u64 m.d.x2) := HB.out.cell 5
  have m6 : wa.cell? ⟨b, 6, none⟩ = some (.int .u64 m.d.x3) := HB.out.cell 6
  have m7 : wa.cell? ⟨b, 7, none⟩ = some (.int .u64 m.d.x4) := HB.out.cell 7
  have m8 : wa.cell? ⟨b, 8, none⟩ = some (.int .u64 m.d.x5) := HB.out.cell 8
  have m9 : wa.cell? ⟨b, 9, none⟩ = some (.int .u64 m.d.x6) := HB.out.cell 9
  have m10 : wa.cell? ⟨b, 10, none⟩ = some (.int .u64 m.d.x7) := HB.out.cell 10
  have m2 : wa.cell? ⟨b, 2, none⟩ = some (.int .i64 m.l) := HB.out.cell 2
  have HAt := Lib.hid (dat_bad wa d bl n n m.l hb d2)
  go_wp2_with fail
  refine HAt.out.mono ?_
  rintro e w1 ⟨rfl, rfl⟩
  go_wp2_with fail
  go_quiet (fail)
  go_wp2_with fail
  all_goals (go_ret2; exact ⟨rfl, HCh.out.drewN _⟩)
set_option maxHeartbeats 8000000 in
theorem Hear_core0 (w : World) (d bm bw bl n : Nat) (cores : Int) (ws : List Int) (es : List EntV) (m : MsgV) (D : DirW w d bm bw bl n cores ws es) (i : Nat) (hi : i < es.length) (hml : m.l = (i : Int)) (hc : m.c < 0) (hc1 : 1 ≤ cores) :
    Calls Try.prog 7 #[.pointer (some ⟨d, 0, none⟩), .agg #[.int .i64 m.k, .int .i64 m.c, .int .i64 m.l, .int .u64 m.d.x0, .int .u64 m.d.x1, .int .u64 m.d.x2, .int .u64 m.d.x3, .int .u64 m.d.x4, .int .u64 m.d.x5, .int .u64 m.d.x6, .int .u64 m.d.x7]] w fun e w' => e = .returned (.tuple #[.slice none 0 0, .int .i64 2]) ∧ Chg [] w w' := by
  obtain ⟨j0, hj, hy0, hy1, hy2⟩ := info_parts infoMsg
  have hal : Chg [] w (w.alloc (.cells #[.int .i64 m.k, .int .i64 m.c, .int .i64 m.l, .int .u64 m.d.x0, .int .u64 m.d.x1, .int .u64 m.d.x2, .int .u64 m.d.x3, .int .u64 m.d.x4, .int .u64 m.d.x5, .int .u64 m.d.x6, .int .u64 m.d.x7] 33)) := (Chg.refl [] w).alloc _
  have HP := Lib.hid (DirPost.look D hal)
  have HB := Lib.hid (Blk.new w [.int .i64 m.k, .int .i64 m.c, .int .i64 m.l, .int .u64 m.d.x0, .int .u64 m.d.x1, .int .u64 m.d.x2, .int .u64 m.d.x3, .int .u64 m.d.x4, .int .u64 m.d.x5, .int .u64 m.d.x6, .int .u64 m.d.x7] 33)
  have hln := D.D.len
  have hn64 := D.D.mem.small
  have hl0 : 0 ≤ m.l := by omega
  have hl1 : m.l < n := by omega
  have HMl := Lib.hid hml; clear hml
  have HCh := Lib.hid hal
  clear D hal
  go_enter Try.func7, Try.ntmps7
  go_upto_region 1 with fail
  generalize World.alloc _ _ = wa at *
  obtain ⟨b, hb⟩ : ∃ b, w.heap.size = b := ⟨_, rfl⟩
  rw [hb] at HB ⊢
  clear hb
  have mlt : b < wa.heap.size := HB.out.lt
  have d2 : wa.cell? ⟨d, 2, none⟩ = some (.slice (some ⟨bl, 0, none⟩) n n) := HP.out.D.D.blk.cell 2
  have dlt : d < wa.heap.size := HP.out.D.D.blk.lt
  have d1 : wa.cell? ⟨d, 1, none⟩ = some (.int .i64 cores) := HP.out.D.D.blk.cell 1
  have m0 : wa.cell? ⟨b, 0, none⟩ = some (.int .i64 m.k) := HB.out.cell 0
  have m1 : wa.cell? ⟨b, 1, none⟩ = some (.int .i64 m.c) := HB.out.cell 1
  have m3 : wa.cell? ⟨b, 3, none⟩ = some (.int .u64 m.d.x0) := HB.out.cell 3
  have m4 : wa.cell? ⟨b, 4, none⟩ = some (.int .u64 m.d.x1) := HB.out.cell 4
  have m5 : wa.cell? ⟨b, 5, none⟩ = some (.int .u64 m.d.x2) := HB.out.cell 5
  have m6 : wa.cell? ⟨b, 6, none⟩ = some (.int .u64 m.d.x3) := HB.out.cell 6
  have m7 : wa.cell? ⟨b, 7, none⟩ = some (.int .u64 m.d.x4) := HB.out.cell 7
  have m8 : wa.cell? ⟨b, 8, none⟩ = some (.int .u64 m.d.x5) := HB.out.cell 8
  have m9 : wa.cell? ⟨b, 9, none⟩ = some (.int .u64 m.d.x6) := HB.out.cell 9
  have m10 : wa.cell? ⟨b, 10, none⟩ = some (.int .u64 m.d.x7) := HB.out.cell 10
  have m2 : wa.cell? ⟨b, 2, none⟩ = some (.int .i64 m.l) := HB.out.cell 2
  have HAt := Lib.hid (dat_ok wa d bl n n m.l hl0 hl1 d2)
  go_wp2_with fail
  refine HAt.out.mono ?_
  rintro e w1 ⟨rfl, rfl⟩
  go_wp2_with fail
  go_quiet (fail)
  go_wp2_with fail
  all_goals (go_ret2; exact ⟨rfl, HCh.out.drewN _⟩)
set_option maxHeartbeats 8000000 in
theorem Hear_core1 (w : World) (d bm bw bl n : Nat) (cores : Int) (ws : List Int) (es : List EntV) (m : MsgV) (D : DirW w d bm bw bl n cores ws es) (i : Nat) (hi : i < es.length) (hml : m.l = (i : Int)) (hc : cores ≤ m.c) (hc1 : 1 ≤ cores) :
    Calls Try.prog 7 #[.pointer (some ⟨d, 0, none⟩), .agg #[.int .i64 m.k, .int .i64 m.c, .int .i64 m.l, .int .u64 m.d.x0, .int .u64 m.d.x1, .int .u64 m.d.x2, .int .u64 m.d.x3, .int .u64 m.d.x4, .int .u64 m.d.x5, .int .u64 m.d.x6, .int .u64 m.d.x7]] w fun e w' => e = .returned (.tuple #[.slice none 0 0, .int .i64 2]) ∧ Chg [] w w' := by
  obtain ⟨j0, hj, hy0, hy1, hy2⟩ := info_parts infoMsg
  have hal : Chg [] w (w.alloc (.cells #[.int .i64 m.k, .int .i64 m.c, .int .i64 m.l, .int .u64 m.d.x0, .int .u64 m.d.x1, .int .u64 m.d.x2, .int .u64 m.d.x3, .int .u64 m.d.x4, .int .u64 m.d.x5, .int .u64 m.d.x6, .int .u64 m.d.x7] 33)) := (Chg.refl [] w).alloc _
  have HP := Lib.hid (DirPost.look D hal)
  have HB := Lib.hid (Blk.new w [.int .i64 m.k, .int .i64 m.c, .int .i64 m.l, .int .u64 m.d.x0, .int .u64 m.d.x1, .int .u64 m.d.x2, .int .u64 m.d.x3, .int .u64 m.d.x4, .int .u64 m.d.x5, .int .u64 m.d.x6, .int .u64 m.d.x7] 33)
  have hln := D.D.len
  have hn64 := D.D.mem.small
  have hl0 : 0 ≤ m.l := by omega
  have hl1 : m.l < n := by omega
  have HMl := Lib.hid hml; clear hml
  have HCh := Lib.hid hal
  clear D hal
  go_enter Try.func7, Try.ntmps7
  go_upto_region 1 with fail
  generalize World.alloc _ _ = wa at *
  obtain ⟨b, hb⟩ : ∃ b, w.heap.size = b := ⟨_, rfl⟩
  rw [hb] at HB ⊢
  clear hb
  have mlt : b < wa.heap.size := HB.out.lt
  have d2 : wa.cell? ⟨d, 2, none⟩ = some (.slice (some ⟨bl, 0, none⟩) n n) := HP.out.D.D.blk.cell 2
  have dlt : d < wa.heap.size := HP.out.D.D.blk.lt
  have d1 : wa.cell? ⟨d, 1, none⟩ = some (.int .i64 cores) := HP.out.D.D.blk.cell 1
  have m0 : wa.cell? ⟨b, 0, none⟩ = some (.int .i64 m.k) := HB.out.cell 0
  have m1 : wa.cell? ⟨b, 1, none⟩ = some (.int .i64 m.c) := HB.out.cell 1
  have m3 : wa.cell? ⟨b, 3, none⟩ = some (.int .u64 m.d.x0) := HB.out.cell 3
  have m4 : wa.cell? ⟨b, 4, none⟩ = some (.int .u64 m.d.x1) := HB.out.cell 4
  have m5 : wa.cell? ⟨b, 5, none⟩ = some (.int .u64 m.d.x2) := HB.out.cell 5
  have m6 : wa.cell? ⟨b, 6, none⟩ = some (.int .u64 m.d.x3) := HB.out.cell 6
  have m7 : wa.cell? ⟨b, 7, none⟩ = some (.int .u64 m.d.x4) := HB.out.cell 7
  have m8 : wa.cell? ⟨b, 8, none⟩ = some (.int .u64 m.d.x5) := HB.out.cell 8
  have m9 : wa.cell? ⟨b, 9, none⟩ = some (.int .u64 m.d.x6) := HB.out.cell 9
  have m10 : wa.cell? ⟨b, 10, none⟩ = some (.int .u64 m.d.x7) := HB.out.cell 10
  have m2 : wa.cell? ⟨b, 2, none⟩ = some (.int .i64 m.l) := HB.out.cell 2
  have c0 : 0 ≤ m.c := by omega
  have HAt := Lib.hid (dat_ok wa d bl n n m.l hl0 hl1 d2)
  go_wp2_with fail
  refine HAt.out.mono ?_
  rintro e w1 ⟨rfl, rfl⟩
  go_wp2_with fail
  go_quiet (fail)
  go_wp2_with fail
  all_goals (go_ret2; exact ⟨rfl, HCh.out.drewN _⟩)
set_option maxHeartbeats 8000000 in
theorem Hear_may (w : World) (d bm bw bl n : Nat) (cores : Int) (ws : List Int) (es : List EntV) (m : MsgV) (D : DirW w d bm bw bl n cores ws es) (i : Nat) (hi : i < es.length) (hml : m.l = (i : Int)) (hc : 0 ≤ m.c ∧ m.c < cores) (hco : cores ≤ 4) (hmay : mayB es[i] m = false) :
    Calls Try.prog 7 #[.pointer (some ⟨d, 0, none⟩), .agg #[.int .i64 m.k, .int .i64 m.c, .int .i64 m.l, .int .u64 m.d.x0, .int .u64 m.d.x1, .int .u64 m.d.x2, .int .u64 m.d.x3, .int .u64 m.d.x4, .int .u64 m.d.x5, .int .u64 m.d.x6, .int .u64 m.d.x7]] w fun e w' => e = .returned (.tuple #[.slice none 0 0, .int .i64 30]) ∧ Chg [] w w' := by
  obtain ⟨j0, hj, hy0, hy1, hy2⟩ := info_parts infoMsg
  have hal : Chg [] w (w.alloc (.cells #[.int .i64 m.k, .int .i64 m.c, .int .i64 m.l, .int .u64 m.d.x0, .int .u64 m.d.x1, .int .u64 m.d.x2, .int .u64 m.d.x3, .int .u64 m.d.x4, .int .u64 m.d.x5, .int .u64 m.d.x6, .int .u64 m.d.x7] 33)) := (Chg.refl [] w).alloc _
  have HP := Lib.hid (DirPost.look D hal)
  have HB := Lib.hid (Blk.new w [.int .i64 m.k, .int .i64 m.c, .int .i64 m.l, .int .u64 m.d.x0, .int .u64 m.d.x1, .int .u64 m.d.x2, .int .u64 m.d.x3, .int .u64 m.d.x4, .int .u64 m.d.x5, .int .u64 m.d.x6, .int .u64 m.d.x7] 33)
  have hln := D.D.len
  have hn64 := D.D.mem.small
  have hl0 : 0 ≤ m.l := by omega
  have hl1 : m.l < n := by omega
  have HMl := Lib.hid hml; clear hml
  have HCh := Lib.hid hal
  clear D hal
  go_enter Try.func7, Try.ntmps7
  go_upto_region 1 with fail
  generalize World.alloc _ _ = wa at *
  obtain ⟨b, hb⟩ : ∃ b, w.heap.size = b := ⟨_, rfl⟩
  rw [hb] at HB ⊢
  clear hb
  have mlt : b < wa.heap.size := HB.out.lt
  have d2 : wa.cell? ⟨d, 2, none⟩ = some (.slice (some ⟨bl, 0, none⟩) n n) := HP.out.D.D.blk.cell 2
  have dlt : d < wa.heap.size := HP.out.D.D.blk.lt
  have d1 : wa.cell? ⟨d, 1, none⟩ = some (.int .i64 cores) := HP.out.D.D.blk.cell 1
  have m0 : wa.cell? ⟨b, 0, none⟩ = some (.int .i64 m.k) := HB.out.cell 0
  have m1 : wa.cell? ⟨b, 1, none⟩ = some (.int .i64 m.c) := HB.out.cell 1
  have m3 : wa.cell? ⟨b, 3, none⟩ = some (.int .u64 m.d.x0) := HB.out.cell 3
  have m4 : wa.cell? ⟨b, 4, none⟩ = some (.int .u64 m.d.x1) := HB.out.cell 4
  have m5 : wa.cell? ⟨b, 5, none⟩ = some (.int .u64 m.d.x2) := HB.out.cell 5
  have m6 : wa.cell? ⟨b, 6, none⟩ = some (.int .u64 m.d.x3) := HB.out.cell 6
  have m7 : wa.cell? ⟨b, 7, none⟩ = some (.int .u64 m.d.x4) := HB.out.cell 7
  have m8 : wa.cell? ⟨b, 8, none⟩ = some (.int .u64 m.d.x5) := HB.out.cell 8
  have m9 : wa.cell? ⟨b, 9, none⟩ = some (.int .u64 m.d.x6) := HB.out.cell 9
  have m10 : wa.cell? ⟨b, 10, none⟩ = some (.int .u64 m.d.x7) := HB.out.cell 10
  have m2 : wa.cell? ⟨b, 2, none⟩ = some (.int .i64 m.l) := HB.out.cell 2
  obtain ⟨c0, c1⟩ := hc
  have HAt := Lib.hid (dat_ok wa d bl n n m.l hl0 hl1 d2)
  go_wp2_with fail
  refine HAt.out.mono ?_
  rintro e w1 ⟨rfl, rfl⟩
  rw [show m.l.toNat = i from by rw [HMl.out]; rfl]
  go_wp2_with fail
  go_quiet (fail)
  go_wp2_with fail
  have hq1 : Chg [] wa (wa.drewN nq) := (Chg.refl [] wa).drewN nq
  have HMay := Lib.hid (may_any (wa.drewN nq) bl es i hi m ⟨c0, by omega⟩ (hq1.blk HP.out.D.D.ents (by simp)) ((HP.out.D.wait i hi).chg hq1 (by simp)))
  rw [show m.val = .agg #[.int .i64 m.k, .int .i64 m.c, .int .i64 m.l, .int .u64 m.d.x0, .int .u64 m.d.x1, .int .u64 m.d.x2, .int .u64 m.d.x3, .int .u64 m.d.x4, .int .u64 m.d.x5, .int .u64 m.d.x6, .int .u64 m.d.x7] from rfl] at HMay
  refine HMay.out.mono ?_
  rintro e w5 ⟨rfl, hx⟩
  have hx2 := HCh.out.trans (hq1.trans hx)
  rw [hmay]
  go_wp2_with fail
  all_goals (go_ret2; exact ⟨rfl, hx2⟩)

end Go.Proofs.Ytepdhajgemmoiaa
