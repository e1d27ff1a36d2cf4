/- A directory hears a RecallNone. -/
import Derived.Test.YtepdhajgemmoiaaDir10
namespace Go.Proofs.Ytepdhajgemmoiaa
set_option maxRecDepth 100000
open Go.RowKit


set_option maxHeartbeats 8000000 in
theorem Hear_6n (w : World) (d bm bw bl n : Nat) (cores : Int) (ws : List Int) (es : List EntV) (i : Nat) (hi : i < es.length) (m : MsgV) (hml : m.l = (i : Int)) (hc : 0 ≤ m.c ∧ m.c < cores) (hco : cores ≤ 4) (D : DirW w d bm bw bl n cores ws es) (hk : m.k = 6) (hmay : mayB es[i] m = true) (hr : 0 ≤ es[i].ow) :
    Calls Try.prog 7 #[.pointer (some ⟨d, 0, none⟩), .agg #[.int .i64 m.k, .int .i64 m.c, .int .i64 m.l, .int .u64 m.d.x0, .int .u64 m.d.x1, .int .u64 m.d.x2, .int .u64 m.d.x3, .int .u64 m.d.x4, .int .u64 m.d.x5, .int .u64 m.d.x6, .int .u64 m.d.x7]] w (HearPost w d bm bw bl n cores es ws (es.set i (toPut es[i])) [] 0) := by
  obtain ⟨j0, hj, hy0, hy1, hy2⟩ := info_parts infoMsg
  obtain ⟨c0, c1⟩ := hc
  have HMl := Lib.hid hml; have HK := Lib.hid hk; clear hml hk
  have hal : Chg [] w (w.alloc (.cells #[.int .i64 m.k, .int .i64 m.c, .int .i64 m.l, .int .u64 m.d.x0, .int .u64 m.d.x1, .int .u64 m.d.x2, .int .u64 m.d.x3, .int .u64 m.d.x4, .int .u64 m.d.x5, .int .u64 m.d.x6, .int .u64 m.d.x7] 33)) := (Chg.refl [] w).alloc _
  have HP := Lib.hid (DirPost.look D hal)
  have HB := Lib.hid (Blk.new w [.int .i64 m.k, .int .i64 m.c, .int .i64 m.l, .int .u64 m.d.x0, .int .u64 m.d.x1, .int .u64 m.d.x2, .int .u64 m.d.x3, .int .u64 m.d.x4, .int .u64 m.d.x5, .int .u64 m.d.x6, .int .u64 m.d.x7] 33)
  have hln := D.D.len
  have hn64 := D.D.mem.small
  clear D hal
  go_enter Try.func7, Try.ntmps7
  go_upto_region 1 with fail
  generalize World.alloc _ _ = wa at *
  obtain ⟨b, hb⟩ : ∃ b, w.heap.size = b := ⟨_, rfl⟩
  have HNb := Lib.hid hb
  rw [hb] at HB ⊢
  clear hb
  have m2 : wa.cell? ⟨b, 2, none⟩ = some (.int .i64 (i : Int)) := (HB.out.cell 2).trans (by rw [← HMl.out]; rfl)
  have mlt : b < wa.heap.size := HB.out.lt
  have d2 : wa.cell? ⟨d, 2, none⟩ = some (.slice (some ⟨bl, 0, none⟩) n n) := HP.out.D.D.blk.cell 2
  have dlt : d < wa.heap.size := HP.out.D.D.blk.lt
  have HAt := Lib.hid (dat_ok wa d bl n n (i : Int) (by omega) (by omega) d2)
  have d1 : wa.cell? ⟨d, 1, none⟩ = some (.int .i64 cores) := HP.out.D.D.blk.cell 1
  have m0 : wa.cell? ⟨b, 0, none⟩ = some (.int .i64 m.k) := HB.out.cell 0
  have m1 : wa.cell? ⟨b, 1, none⟩ = some (.int .i64 m.c) := HB.out.cell 1
  have m3 : wa.cell? ⟨b, 3, none⟩ = some (.int .u64 m.d.x0) := HB.out.cell 3
  have m4 : wa.cell? ⟨b, 4, none⟩ = some (.int .u64 m.d.x1) := HB.out.cell 4
  have m5 : wa.cell? ⟨b, 5, none⟩ = some (.int .u64 m.d.x2) := HB.out.cell 5
  have m6 : wa.cell? ⟨b, 6, none⟩ = some (.int .u64 m.d.x3) := HB.out.cell 6
  have m7 : wa.cell? ⟨b, 7, none⟩ = some (.int .u64 m.d.x4) := HB.out.cell 7
  have m8 : wa.cell? ⟨b, 8, none⟩ = some (.int .u64 m.d.x5) := HB.out.cell 8
  have m9 : wa.cell? ⟨b, 9, none⟩ = some (.int .u64 m.d.x6) := HB.out.cell 9
  have m10 : wa.cell? ⟨b, 10, none⟩ = some (.int .u64 m.d.x7) := HB.out.cell 10
  go_wp2_with fail
  refine HAt.out.mono ?_
  rintro e w1 ⟨rfl, rfl⟩
  rw [Int.toNat_natCast]
  go_wp2_with fail
  go_quiet (fail)
  go_wp2_with fail
  have hq1 : Chg [] wa (wa.drewN nq) := (Chg.refl [] wa).drewN nq
  have HMay := Lib.hid (may_any (wa.drewN nq) bl es i hi m ⟨c0, by omega⟩ (hq1.blk HP.out.D.D.ents (by simp)) ((HP.out.D.wait i hi).chg hq1 (by simp)))
  rw [show m.val = .agg #[.int .i64 m.k, .int .i64 m.c, .int .i64 m.l, .int .u64 m.d.x0, .int .u64 m.d.x1, .int .u64 m.d.x2, .int .u64 m.d.x3, .int .u64 m.d.x4, .int .u64 m.d.x5, .int .u64 m.d.x6, .int .u64 m.d.x7] from rfl, HMl.out] at HMay
  refine HMay.out.mono ?_
  rintro e w5 ⟨rfl, hx⟩
  have hx2 := hq1.trans hx
  replace HP := Lib.hid (HP.out.trans (DirPost.look HP.out.D hx2))
  replace HB := Lib.hid (hx2.blk HB.out (by simp))
  clear hx hx2 hq1 HMay HAt d1 d2 dlt mlt m2 m0 m1 m3 m4 m5 m6 m7 m8 m9 m10
  rw [hmay]
  obtain ⟨p, hp⟩ : ∃ p, i * 16 = p := ⟨_, rfl⟩
  have HPi := Lib.hid hp
  rw [hp]
  clear hp hmay
  have mlt : b < w5.heap.size := HB.out.lt
  have blt : bl < w5.heap.size := Blk.lt HP.out.D.D.ents
  have hdb : b ≠ bl := HB.out.ne HP.out.D.D.ents (by decide)
  rw [HK.out] at HB
  have m0 : w5.cell? ⟨b, 0, none⟩ = some (.int .i64 6) := HB.out.cell 0
  replace HP := Lib.hid (HP.out.start hi)
  have e13 : w5.cell? ⟨bl, p + 13, none⟩ = some (.int .i64 es[i].ph) := HP.out.cell hi HPi.out (j := 13) (by decide)
  have f13 : w5.frozen? ⟨bl, p + 13, none⟩ = false := HP.out.free _
  go_upto_region 30 with fail
  have hP2 := HP.out
  replace hP2 := DirPost.put hP2 hi HPi.out (j := 13) (by decide) (v := .int .i64 3) (E' := (toPut es[i])) rfl ⟨rfl, rfl⟩
  have hB2 := Blk.other (HB.out) (a := ⟨bl, p + 13, none⟩) (Ne.symm hdb) (.int .i64 3)
  replace HP := Lib.hid hP2; replace HB := Lib.hid hB2
  clear hP2 hB2 mlt blt m0 e13 f13
  generalize World.setCell _ _ _ = wp1 at *
  have mlt : b < wp1.heap.size := HB.out.lt
  have blt : bl < wp1.heap.size := Blk.lt HP.out.D.D.ents
  have hdb : b ≠ bl := HB.out.ne HP.out.D.D.ents (by decide)
  have e0 : wp1.cell? ⟨bl, p, none⟩ = some (.int .i64 es[i].ow) := HP.out.cell hi HPi.out (j := 0) (by decide)
  have f0 : wp1.frozen? ⟨bl, p, none⟩ = false := HP.out.free _
  go_wp2_with fail
  go_ret2
  exact ⟨_, rfl, World.ownsRow_nil _ _ _ _, HP.out⟩
set_option maxHeartbeats 8000000 in
theorem Hear_6y (w : World) (d bm bw bl n : Nat) (cores : Int) (ws : List Int) (es : List EntV) (i : Nat) (hi : i < es.length) (m : MsgV) (hml : m.l = (i : Int)) (hc : 0 ≤ m.c ∧ m.c < cores) (hco : cores ≤ 4) (D : DirW w d bm bw bl n cores ws es) (hk : m.k = 6) (hmay : mayB es[i] m = true) (hr : es[i].ow < 0) (hun : 0 ≤ es[i].un.c ∧ es[i].un.c < 4) (hul : es[i].un.l = (i : Int)) :
    Calls Try.prog 7 #[.pointer (some ⟨d, 0, none⟩), .agg #[.int .i64 m.k, .int .i64 m.c, .int .i64 m.l, .int .u64 m.d.x0, .int .u64 m.d.x1, .int .u64 m.d.x2, .int .u64 m.d.x3, .int .u64 m.d.x4, .int .u64 m.d.x5, .int .u64 m.d.x6, .int .u64 m.d.x7]] w (HearPost w d bm bw bl n cores es ws (es.set i (grantE (toPut es[i]))) [grantM (toPut es[i]) (lineV n ws es[i].un.l)] 0) := by
  have HUl := Lib.hid hul; clear hul
  obtain ⟨j0, hj, hy0, hy1, hy2⟩ := info_parts infoMsg
  obtain ⟨c0, c1⟩ := hc
  have HMl := Lib.hid hml; have HK := Lib.hid hk; clear hml hk
  have hal : Chg [] w (w.alloc (.cells #[.int .i64 m.k, .int .i64 m.c, .int .i64 m.l, .int .u64 m.d.x0, .int .u64 m.d.x1, .int .u64 m.d.x2, .int .u64 m.d.x3, .int .u64 m.d.x4, .int .u64 m.d.x5, .int .u64 m.d.x6, .int .u64 m.d.x7] 33)) := (Chg.refl [] w).alloc _
  have HP := Lib.hid (DirPost.look D hal)
  have HB := Lib.hid (Blk.new w [.int .i64 m.k, .int .i64 m.c, .int .i64 m.l, .int .u64 m.d.x0, .int .u64 m.d.x1, .int .u64 m.d.x2, .int .u64 m.d.x3, .int .u64 m.d.x4, .int .u64 m.d.x5, .int .u64 m.d.x6, .int .u64 m.d.x7] 33)
  have hln := D.D.len
  have hn64 := D.D.mem.small
  clear D hal
  go_enter Try.func7, Try.ntmps7
  go_upto_region 1 with fail
  generalize World.alloc _ _ = wa at *
  obtain ⟨b, hb⟩ : ∃ b, w.heap.size = b := ⟨_, rfl⟩
  have HNb := Lib.hid hb
  rw [hb] at HB ⊢
  clear hb
  have m2 : wa.cell? ⟨b, 2, none⟩ = some (.int .i64 (i : Int)) := (HB.out.cell 2).trans (by rw [← HMl.out]; rfl)
  have mlt : b < wa.heap.size := HB.out.lt
  have d2 : wa.cell? ⟨d, 2, none⟩ = some (.slice (some ⟨bl, 0, none⟩) n n) := HP.out.D.D.blk.cell 2
  have dlt : d < wa.heap.size := HP.out.D.D.blk.lt
  have HAt := Lib.hid (dat_ok wa d bl n n (i : Int) (by omega) (by omega) d2)
  have d1 : wa.cell? ⟨d, 1, none⟩ = some (.int .i64 cores) := HP.out.D.D.blk.cell 1
  have m0 : wa.cell? ⟨b, 0, none⟩ = some (.int .i64 m.k) := HB.out.cell 0
  have m1 : wa.cell? ⟨b, 1, none⟩ = some (.int .i64 m.c) := HB.out.cell 1
  have m3 : wa.cell? ⟨b, 3, none⟩ = some (.int .u64 m.d.x0) := HB.out.cell 3
  have m4 : wa.cell? ⟨b, 4, none⟩ = some (.int .u64 m.d.x1) := HB.out.cell 4
  have m5 : wa.cell? ⟨b, 5, none⟩ = some (.int .u64 m.d.x2) := HB.out.cell 5
  have m6 : wa.cell? ⟨b, 6, none⟩ = some (.int .u64 m.d.x3) := HB.out.cell 6
  have m7 : wa.cell? ⟨b, 7, none⟩ = some (.int .u64 m.d.x4) := HB.out.cell 7
  have m8 : wa.cell? ⟨b, 8, none⟩ = some (.int .u64 m.d.x5) := HB.out.cell 8
  have m9 : wa.cell? ⟨b, 9, none⟩ = some (.int .u64 m.d.x6) := HB.out.cell 9
  have m10 : wa.cell? ⟨b, 10, none⟩ = some (.int .u64 m.d.x7) := HB.out.cell 10
  go_wp2_with fail
  refine HAt.out.mono ?_
  rintro e w1 ⟨rfl, rfl⟩
  rw [Int.toNat_natCast]
  go_wp2_with fail
  go_quiet (fail)
  go_wp2_with fail
  have hq1 : Chg [] wa (wa.drewN nq) := (Chg.refl [] wa).drewN nq
  have HMay := Lib.hid (may_any (wa.drewN nq) bl es i hi m ⟨c0, by omega⟩ (hq1.blk HP.out.D.D.ents (by simp)) ((HP.out.D.wait i hi).chg hq1 (by simp)))
  rw [show m.val = .agg #[.int .i64 m.k, .int .i64 m.c, .int .i64 m.l, .int .u64 m.d.x0, .int .u64 m.d.x1, .int .u64 m.d.x2, .int .u64 m.d.x3, .int .u64 m.d.x4, .int .u64 m.d.x5, .int .u64 m.d.x6, .int .u64 m.d.x7] from rfl, HMl.out] at HMay
  refine HMay.out.mono ?_
  rintro e w5 ⟨rfl, hx⟩
  have hx2 := hq1.trans hx
  replace HP := Lib.hid (HP.out.trans (DirPost.look HP.out.D hx2))
  replace HB := Lib.hid (hx2.blk HB.out (by simp))
  clear hx hx2 hq1 HMay HAt d1 d2 dlt mlt m2 m0 m1 m3 m4 m5 m6 m7 m8 m9 m10
  rw [hmay]
  obtain ⟨p, hp⟩ : ∃ p, i * 16 = p := ⟨_, rfl⟩
  have HPi := Lib.hid hp
  rw [hp]
  clear hp hmay
  have mlt : b < w5.heap.size := HB.out.lt
  have blt : bl < w5.heap.size := Blk.lt HP.out.D.D.ents
  have hdb : b ≠ bl := HB.out.ne HP.out.D.D.ents (by decide)
  rw [HK.out] at HB
  have m0 : w5.cell? ⟨b, 0, none⟩ = some (.int .i64 6) := HB.out.cell 0
  replace HP := Lib.hid (HP.out.start hi)
  have e13 : w5.cell? ⟨bl, p + 13, none⟩ = some (.int .i64 es[i].ph) := HP.out.cell hi HPi.out (j := 13) (by decide)
  have f13 : w5.frozen? ⟨bl, p + 13, none⟩ = false := HP.out.free _
  go_upto_region 30 with fail
  have hP2 := HP.out
  replace hP2 := DirPost.put hP2 hi HPi.out (j := 13) (by decide) (v := .int .i64 3) (E' := (toPut es[i])) rfl ⟨rfl, rfl⟩
  have hB2 := Blk.other (HB.out) (a := ⟨bl, p + 13, none⟩) (Ne.symm hdb) (.int .i64 3)
  replace HP := Lib.hid hP2; replace HB := Lib.hid hB2
  clear hP2 hB2 mlt blt m0 e13 f13
  generalize World.setCell _ _ _ = wp1 at *
  have mlt : b < wp1.heap.size := HB.out.lt
  have blt : bl < wp1.heap.size := Blk.lt HP.out.D.D.ents
  have hdb : b ≠ bl := HB.out.ne HP.out.D.D.ents (by decide)
  have e0 : wp1.cell? ⟨bl, p, none⟩ = some (.int .i64 es[i].ow) := HP.out.cell hi HPi.out (j := 0) (by decide)
  have f0 : wp1.frozen? ⟨bl, p, none⟩ = false := HP.out.free _
  go_wp2_with fail
  refine (HP.out.granted hi HPi.out hun ⟨by show 0 ≤ es[i].un.l; rw [HUl.out]; omega, by show es[i].un.l < n; rw [HUl.out]; omega⟩).mono ?_
  rintro e w6 ⟨rfl, hP6, hk6⟩
  replace HP := Lib.hid hP6
  clear hP6 hk6 mlt blt
  obtain ⟨g, hgm⟩ : ∃ g, grantM ((toPut es[i])) (lineV n ws es[i].un.l) = g := ⟨_, rfl⟩
  rw [show grantM ((toPut es[i])) (lineV n ws ((toPut es[i])).un.l) = g from hgm]
  obtain ⟨gk, gc, gl, g0, g1, g2, g3, g4, g5, g6, g7⟩ := g
  have HGm := Lib.hid hgm
  clear hgm
  simp only [MsgV.val]
  have hw6 : w.heap.size ≤ w6.heap.size := HP.out.chg.size
  go_wp2_with (first | (at_builtin; refine wpList_append_own_at _ rfl (.tmp 190) (.tmp 194) 26 rfl (w6.heap.size) 33 j0 (.agg #[.int .i64 0, .int .i64 0, .int .i64 0, .int .u64 0, .int .u64 0, .int .u64 0, .int .u64 0, .int .u64 0, .int .u64 0, .int .u64 0, .int .u64 0]) 11 88 Try.underlying26 hj hy0 hy1 hy2 rfl (by decide) _ _ _ rfl (World.ownsRow_nil _ _ _ _) ⟨w6.heap.size, 0, none⟩ 1 1 [.int .i64 gk, .int .i64 gc, .int .i64 gl, .int .u64 g0, .int .u64 g1, .int .u64 g2, .int .u64 g3, .int .u64 g4, .int .u64 g5, .int .u64 g6, .int .u64 g7] rfl rfl (cells_at (by simp) [.int .i64 gk, .int .i64 gc, .int .i64 gl, .int .u64 g0, .int .u64 g1, .int .u64 g2, .int .u64 g3, .int .u64 g4, .int .u64 g5, .int .u64 g6, .int .u64 g7] _) (by simp [Value.oneCell']) (by unfold maxLen; omega) (by omega) (by first | omega | (simp; omega) | simp) ?_; intro va1 wa1 hown1 hgrow1 _ hblk1; have hsz1 := hgrow1.size; have HO1 := Lib.hid hown1; have HG1 := Lib.hid hgrow1; have HB1 := Lib.hid hblk1; clear hown1 hgrow1 hblk1) | fail)
  have hg1 : (w6.alloc (.cells #[.int .i64 gk, .int .i64 gc, .int .i64 gl, .int .u64 g0, .int .u64 g1, .int .u64 g2, .int .u64 g3, .int .u64 g4, .int .u64 g5, .int .u64 g6, .int .u64 g7] 33)).grownBy wa1 none := HG1.out
  have hx : Chg [] w6 wa1 := ((Chg.refl [] w6).alloc _).trans (Chg.of_grown hg1)
  have hO : wa1.ownsRow w6.heap.size 33 11 va1 1 [.int .i64 gk, .int .i64 gc, .int .i64 gl, .int .u64 g0, .int .u64 g1, .int .u64 g2, .int .u64 g3, .int .u64 g4, .int .u64 g5, .int .u64 g6, .int .u64 g7] := HO1.out
  go_ret2
  refine ⟨_, rfl, ?_, HP.out.chg0 hx⟩
  rw [HGm.out]
  exact ownsRow_base hO hw6

end Go.Proofs.Ytepdhajgemmoiaa
