/- A directory hears a PutM. -/
import Derived.Test.YtepdhajgemmoiaaDir11b
namespace Go.Proofs.Ytepdhajgemmoiaa
set_option maxRecDepth 100000
open Go.RowKit


set_option maxHeartbeats 8000000 in
theorem Hear_3n (w : World) (d bm bw bl n : Nat) (cores : Int) (ws : List Int) (es : List EntV) (i : Nat) (hi : i < es.length) (m : MsgV) (hml : m.l = (i : Int)) (hc : 0 ≤ m.c ∧ m.c < cores) (hco : cores ≤ 4) (D : DirW w d bm bw bl n cores ws es) (hk : m.k = 3) (hmay : mayB es[i] m = true) (hr : es[i].ph ≠ 3) :
    Calls Try.prog 7 #[.pointer (some ⟨d, 0, none⟩), .agg #[.int .i64 m.k, .int .i64 m.c, .int .i64 m.l, .int .u64 m.d.x0, .int .u64 m.d.x1, .int .u64 m.d.x2, .int .u64 m.d.x3, .int .u64 m.d.x4, .int .u64 m.d.x5, .int .u64 m.d.x6, .int .u64 m.d.x7]] w (HearPost w d bm bw bl n cores es (wsOf n ws i m.d) (es.set i (noOw es[i])) [⟨16, m.c, (i : Int), {}⟩] 0) := by
  have HR := Lib.hid hr; clear hr
  obtain ⟨j0, hj, hy0, hy1, hy2⟩ := info_parts infoMsg
  obtain ⟨c0, c1⟩ := hc
  have HMl := Lib.hid hml; have HK := Lib.hid hk; clear hml hk
  have hal : Chg [] w (w.alloc (.cells #[.int .i64 m.k, .int .i64 m.c, .int .i64 m.l, .int .u64 m.d.x0, .int .u64 m.d.x1, .int .u64 m.d.x2, .int .u64 m.d.x3, .int .u64 m.d.x4, .int .u64 m.d.x5, .int .u64 m.d.x6, .int .u64 m.d.x7] 33)) := (Chg.refl [] w).alloc _
  have HP := Lib.hid (DirPost.look D hal)
  have HB := Lib.hid (Blk.new w [.int .i64 m.k, .int .i64 m.c, .int .i64 m.l, .int .u64 m.d.x0, .int .u64 m.d.x1, .int .u64 m.d.x2, .int .u64 m.d.x3, .int .u64 m.d.x4, .int .u64 m.d.x5, .int .u64 m.d.x6, .int .u64 m.d.x7] 33)
  have hln := D.D.len
  have hn64 := D.D.mem.small
  clear D hal
  go_enter Try.func7, Try.ntmps7
  go_upto_region 1 with fail
  generalize World.alloc _ _ = wa at *
  obtain ⟨b, hb⟩ : ∃ b, w.heap.size = b := ⟨_, rfl⟩
  have HNb := Lib.hid hb
  rw [hb] at HB ⊢
  clear hb
  have m2 : wa.cell? ⟨b, 2, none⟩ = some (.int .i64 (i : Int)) := (HB.out.cell 2).trans (by rw [← HMl.out]; rfl)
  have mlt : b < wa.heap.size := HB.out.lt
  have d2 : wa.cell? ⟨d, 2, none⟩ = some (.slice (some ⟨bl, 0, none⟩) n n) := HP.out.D.D.blk.cell 2
  have dlt : d < wa.heap.size := HP.out.D.D.blk.lt
  have HAt := Lib.hid (dat_ok wa d bl n n (i : Int) (by omega) (by omega) d2)
  have d1 : wa.cell? ⟨d, 1, none⟩ = some (.int .i64 cores) := HP.out.D.D.blk.cell 1
  have m0 : wa.cell? ⟨b, 0, none⟩ = some (.int .i64 m.k) := HB.out.cell 0
  have m1 : wa.cell? ⟨b, 1, none⟩ = some (.int .i64 m.c) := HB.out.cell 1
  have m3 : wa.cell? ⟨b, 3, none⟩ = some (.int .u64 m.d.x0) := HB.out.cell 3
  have m4 : wa.cell? ⟨b, 4, none⟩ = some (.int .u64 m.d.x1) := HB.out.cell 4
  have m5 : wa.cell? ⟨b, 5, none⟩ = some (.int .u64 m.d.x2) := HB.out.cell 5
  have m6 : wa.cell? ⟨b, 6, none⟩ = some (.int .u64 m.d.x3) := HB.out.cell 6
  have m7 : wa.cell? ⟨b, 7, none⟩ = some (.int .u64 m.d.x4) := HB.out.cell 7
  have m8 : wa.cell? ⟨b, 8, none⟩ = some (.int .u64 m.d.x5) := HB.out.cell 8
  have m9 : wa.cell? ⟨b, 9, none⟩ = some (.int .u64 m.d.x6) := HB.out.cell 9
  have m10 : wa.cell? ⟨b, 10, none⟩ = some (.int .u64 m.d.x7) := HB.out.cell 10
  go_wp2_with fail
  refine HAt.out.mono ?_
  rintro e w1 ⟨rfl, rfl⟩
  rw [Int.toNat_natCast]
  go_wp2_with fail
  go_quiet (fail)
  go_wp2_with fail
  have hq1 : Chg [] wa (wa.drewN nq) := (Chg.refl [] wa).drewN nq
  have HMay := Lib.hid (may_any (wa.drewN nq) bl es i hi m ⟨c0, by omega⟩ (hq1.blk HP.out.D.D.ents (by simp)) ((HP.out.D.wait i hi).chg hq1 (by simp)))
  rw [show m.val = .agg #[.int .i64 m.k, .int .i64 m.c, .int .i64 m.l, .int .u64 m.d.x0, .int .u64 m.d.x1, .int .u64 m.d.x2, .int .u64 m.d.x3, .int .u64 m.d.x4, .int .u64 m.d.x5, .int .u64 m.d.x6, .int .u64 m.d.x7] from rfl, HMl.out] at HMay
  refine HMay.out.mono ?_
  rintro e w5 ⟨rfl, hx⟩
  have hx2 := hq1.trans hx
  replace HP := Lib.hid (HP.out.trans (DirPost.look HP.out.D hx2))
  replace HB := Lib.hid (hx2.blk HB.out (by simp))
  clear hx hx2 hq1 HMay HAt d1 d2 dlt mlt m2 m0 m1 m3 m4 m5 m6 m7 m8 m9 m10
  rw [hmay]
  obtain ⟨p, hp⟩ : ∃ p, i * 16 = p := ⟨_, rfl⟩
  have HPi := Lib.hid hp
  rw [hp]
  clear hp hmay
  have mlt : b < w5.heap.size := HB.out.lt
  have blt : bl < w5.heap.size := Blk.lt HP.out.D.D.ents
  have hdb : b ≠ bl := HB.out.ne HP.out.D.D.ents (by decide)
  rw [HK.out] at HB
  have m0 : w5.cell? ⟨b, 0, none⟩ = some (.int .i64 3) := HB.out.cell 0
  have m2 : w5.cell? ⟨b, 2, none⟩ = some (.int .i64 (i : Int)) := (HB.out.cell 2).trans (by rw [← HMl.out]; rfl)
  have m3 : w5.cell? ⟨b, 3, none⟩ = some (.int .u64 m.d.x0) := HB.out.cell 3
  have m4 : w5.cell? ⟨b, 4, none⟩ = some (.int .u64 m.d.x1) := HB.out.cell 4
  have m5 : w5.cell? ⟨b, 5, none⟩ = some (.int .u64 m.d.x2) := HB.out.cell 5
  have m6 : w5.cell? ⟨b, 6, none⟩ = some (.int .u64 m.d.x3) := HB.out.cell 6
  have m7 : w5.cell? ⟨b, 7, none⟩ = some (.int .u64 m.d.x4) := HB.out.cell 7
  have m8 : w5.cell? ⟨b, 8, none⟩ = some (.int .u64 m.d.x5) := HB.out.cell 8
  have m9 : w5.cell? ⟨b, 9, none⟩ = some (.int .u64 m.d.x6) := HB.out.cell 9
  have m10 : w5.cell? ⟨b, 10, none⟩ = some (.int .u64 m.d.x7) := HB.out.cell 10
  replace HP := Lib.hid (HP.out.start hi)
  have d0 : w5.cell? ⟨d, 0, none⟩ = some (.pointer (some ⟨bm, 0, none⟩)) := HP.out.D.D.blk.cell 0
  have dlt : d < w5.heap.size := HP.out.D.D.blk.lt
  have HSet := Lib.hid (Set_any (World.drew w5) bm bw n ws (i : Int) m.d.x0 m.d.x1 m.d.x2 m.d.x3 m.d.x4 m.d.x5 m.d.x6 m.d.x7 HP.out.D.D.mem.drew)
  go_wp2_with fail
  go_still_tail 8, (by kernel_rfl)
  go_wp2_with fail
  refine HSet.out.mono ?_
  rintro e wm ⟨rfl, hM, hk⟩
  have hP2 := (HP.out.chg0 ((Chg.refl [] w5).drew)).mem2 hk hM
  have hnb : b ≠ bw := by obtain ⟨_, hl⟩ := HP.out.D.D.mem.l; exact HB.out.ne hl (by decide)
  have hB2 := hk.blk (Blk.drew HB.out) (by simpa using hnb)
  replace HP : Hid (DirPost w wm d bm bw bl n cores es (wsOf n ws i m.d) (es.set i es[i])) := Lib.hid hP2
  replace HB := Lib.hid hB2
  clear hP2 hB2 hM hk hnb d0 dlt mlt blt HSet m0 m2 m3 m4 m5 m6 m7 m8 m9 m10
  have mlt : b < wm.heap.size := HB.out.lt
  have blt : bl < wm.heap.size := Blk.lt HP.out.D.D.ents
  have hdb : b ≠ bl := HB.out.ne HP.out.D.D.ents (by decide)
  have e0 : wm.cell? ⟨bl, p, none⟩ = some (.int .i64 es[i].ow) := HP.out.cell hi HPi.out (j := 0) (by decide)
  have f0 : wm.frozen? ⟨bl, p, none⟩ = false := HP.out.free _
  go_upto_region 34 with fail
  have hP2 := HP.out
  replace hP2 := DirPost.put hP2 hi HPi.out (j := 0) (by decide) (v := .int .i64 (-1)) (E' := (noOw es[i])) rfl ⟨rfl, rfl⟩
  have hB2 := Blk.other (HB.out) (a := ⟨bl, p + 0, none⟩) (Ne.symm hdb) (.int .i64 (-1))
  replace HP := Lib.hid hP2; replace HB := Lib.hid hB2
  clear hP2 hB2 mlt blt e0 f0
  generalize World.setCell _ _ _ = wp1 at *
  have mlt : b < wp1.heap.size := HB.out.lt
  have blt : bl < wp1.heap.size := Blk.lt HP.out.D.D.ents
  have hdb : b ≠ bl := HB.out.ne HP.out.D.D.ents (by decide)
  have m1 : wp1.cell? ⟨b, 1, none⟩ = some (.int .i64 m.c) := HB.out.cell 1
  have m2 : wp1.cell? ⟨b, 2, none⟩ = some (.int .i64 (i : Int)) := (HB.out.cell 2).trans (by rw [← HMl.out]; rfl)
  have e13 : wp1.cell? ⟨bl, p + 13, none⟩ = some (.int .i64 es[i].ph) := HP.out.cell hi HPi.out (j := 13) (by decide)
  have f13 : wp1.frozen? ⟨bl, p + 13, none⟩ = false := HP.out.free _
  have hr2 : (es[i].ph == 3) = false := by simpa using HR.out
  have hw6 : w.heap.size ≤ wp1.heap.size := HP.out.chg.size
  go_upto_region 35 with (first | (at_builtin; refine wpList_append_own_at _ rfl (.tmp 143) (.tmp 149) 26 rfl (wp1.heap.size) 33 j0 (.agg #[.int .i64 0, .int .i64 0, .int .i64 0, .int .u64 0, .int .u64 0, .int .u64 0, .int .u64 0, .int .u64 0, .int .u64 0, .int .u64 0, .int .u64 0]) 11 88 Try.underlying26 hj hy0 hy1 hy2 rfl (by decide) _ _ _ rfl (World.ownsRow_nil _ _ _ _) ⟨wp1.heap.size, 0, none⟩ 1 1 [.int .i64 16, .int .i64 m.c, .int .i64 (i : Int), .int .u64 0, .int .u64 0, .int .u64 0, .int .u64 0, .int .u64 0, .int .u64 0, .int .u64 0, .int .u64 0] rfl rfl (cells_at (by simp) [.int .i64 16, .int .i64 m.c, .int .i64 (i : Int), .int .u64 0, .int .u64 0, .int .u64 0, .int .u64 0, .int .u64 0, .int .u64 0, .int .u64 0, .int .u64 0] _) (by simp [Value.oneCell']) (by unfold maxLen; omega) (by omega) (by first | omega | (simp; omega) | simp) ?_; intro va1 wa1 hown1 hgrow1 _ hblk1; have hsz1 := hgrow1.size; have HO1 := Lib.hid hown1; have HG1 := Lib.hid hgrow1; have HB1 := Lib.hid hblk1; clear hown1 hgrow1 hblk1) | fail)
  have hg1 : (wp1.alloc (.cells #[.int .i64 16, .int .i64 m.c, .int .i64 (i : Int), .int .u64 0, .int .u64 0, .int .u64 0, .int .u64 0, .int .u64 0, .int .u64 0, .int .u64 0, .int .u64 0] 33)).grownBy wa1 none := HG1.out
  have hx : Chg [] wp1 wa1 := ((Chg.refl [] wp1).alloc _).trans (Chg.of_grown hg1)
  have hO : wa1.ownsRow wp1.heap.size 33 11 va1 1 [.int .i64 16, .int .i64 m.c, .int .i64 (i : Int), .int .u64 0, .int .u64 0, .int .u64 0, .int .u64 0, .int .u64 0, .int .u64 0, .int .u64 0, .int .u64 0] := HO1.out
  have HO := Lib.hid hO
  have hlt := HP.out.D.lt; have hdl := HP.out.D.D.blk.lt; have hml2 := HP.out.D.D.mem.mlt
  have HLt := Lib.hid hlt
  have hbl7 : bl < wp1.heap.size := blt
  replace e13 := (hx.cell0 blt _).trans e13
  replace HP := Lib.hid (HP.out.chg0 hx)
  clear hg1 hx hO hlt HO1 HG1 m1 m2 f13 mlt blt
  have blt : bl < wa1.heap.size := Blk.lt HP.out.D.D.ents
  go_wp2_with fail
  go_ret2
  exact ⟨_, rfl, ownsRow_base HO.out hw6, HP.out⟩
set_option maxHeartbeats 8000000 in
theorem Hear_3y (w : World) (d bm bw bl n : Nat) (cores : Int) (ws : List Int) (es : List EntV) (i : Nat) (hi : i < es.length) (m : MsgV) (hml : m.l = (i : Int)) (hc : 0 ≤ m.c ∧ m.c < cores) (hco : cores ≤ 4) (D : DirW w d bm bw bl n cores ws es) (hk : m.k = 3) (hmay : mayB es[i] m = true) (hr : es[i].ph = 3) (hun : 0 ≤ es[i].un.c ∧ es[i].un.c < 4) (hul : es[i].un.l = (i : Int)) :
    Calls Try.prog 7 #[.pointer (some ⟨d, 0, none⟩), .agg #[.int .i64 m.k, .int .i64 m.c, .int .i64 m.l, .int .u64 m.d.x0, .int .u64 m.d.x1, .int .u64 m.d.x2, .int .u64 m.d.x3, .int .u64 m.d.x4, .int .u64 m.d.x5, .int .u64 m.d.x6, .int .u64 m.d.x7]] w (HearPost w d bm bw bl n cores es (wsOf n ws i m.d) (es.set i (grantE (noOw es[i]))) [⟨16, m.c, (i : Int), {}⟩, grantM (noOw es[i]) (lineV n (wsOf n ws i m.d) es[i].un.l)] 0) := by
  have HUl := Lib.hid hul; clear hul
  have HR := Lib.hid hr; clear hr
  obtain ⟨j0, hj, hy0, hy1, hy2⟩ := info_parts infoMsg
  obtain ⟨c0, c1⟩ := hc
  have HMl := Lib.hid hml; have HK := Lib.hid hk; clear hml hk
  have hal : Chg [] w (w.alloc (.cells #[.int .i64 m.k, .int .i64 m.c, .int .i64 m.l, .int .u64 m.d.x0, .int .u64 m.d.x1, .int .u64 m.d.x2, .int .u64 m.d.x3, .int .u64 m.d.x4, .int .u64 m.d.x5, .int .u64 m.d.x6, .int .u64 m.d.x7] 33)) := (Chg.refl [] w).alloc _
  have HP := Lib.hid (DirPost.look D hal)
  have HB := Lib.hid (Blk.new w [.int .i64 m.k, .int .i64 m.c, .int .i64 m.l, .int .u64 m.d.x0, .int .u64 m.d.x1, .int .u64 m.d.x2, .int .u64 m.d.x3, .int .u64 m.d.x4, .int .u64 m.d.x5, .int .u64 m.d.x6, .int .u64 m.d.x7] 33)
  have hln := D.D.len
  have hn64 := D.D.mem.small
  clear D hal
  go_enter Try.func7, Try.ntmps7
  go_upto_region 1 with fail
  generalize World.alloc _ _ = wa at *
  obtain ⟨b, hb⟩ : ∃ b, w.heap.size = b := ⟨_, rfl⟩
  have HNb := Lib.hid hb
  rw [hb] at HB ⊢
  clear hb
  have m2 : wa.cell? ⟨b, 2, none⟩ = some (.int .i64 (i : Int)) := (HB.out.cell 2).trans (by rw [← HMl.out]; rfl)
  have mlt : b < wa.heap.size := HB.out.lt
  have d2 : wa.cell? ⟨d, 2, none⟩ = some (.slice (some ⟨bl, 0, none⟩) n n) := HP.out.D.D.blk.cell 2
  have dlt : d < wa.heap.size := HP.out.D.D.blk.lt
  have HAt := Lib.hid (dat_ok wa d bl n n (i : Int) (by omega) (by omega) d2)
  have d1 : wa.cell? ⟨d, 1, none⟩ = some (.int .i64 cores) := HP.out.D.D.blk.cell 1
  have m0 : wa.cell? ⟨b, 0, none⟩ = some (.int .i64 m.k) := HB.out.cell 0
  have m1 : wa.cell? ⟨b, 1, none⟩ = some (.int .i64 m.c) := HB.out.cell 1
  have m3 : wa.cell? ⟨b, 3, none⟩ = some (.int .u64 m.d.x0) := HB.out.cell 3
  have m4 : wa.cell? ⟨b, 4, none⟩ = some (.int .u64 m.d.x1) := HB.out.cell 4
  have m5 : wa.cell? ⟨b, 5, none⟩ = some (.int .u64 m.d.x2) := HB.out.cell 5
  have m6 : wa.cell? ⟨b, 6, none⟩ = some (.int .u64 m.d.x3) := HB.out.cell 6
  have m7 : wa.cell? ⟨b, 7, none⟩ = some (.int .u64 m.d.x4) := HB.out.cell 7
  have m8 : wa.cell? ⟨b, 8, none⟩ = some (.int .u64 m.d.x5) := HB.out.cell 8
  have m9 : wa.cell? ⟨b, 9, none⟩ = some (.int .u64 m.d.x6) := HB.out.cell 9
  have m10 : wa.cell? ⟨b, 10, none⟩ = some (.int .u64 m.d.x7) := HB.out.cell 10
  go_wp2_with fail
  refine HAt.out.mono ?_
  rintro e w1 ⟨rfl, rfl⟩
  rw [Int.toNat_natCast]
  go_wp2_with fail
  go_quiet (fail)
  go_wp2_with fail
  have hq1 : Chg [] wa (wa.drewN nq) := (Chg.refl [] wa).drewN nq
  have HMay := Lib.hid (may_any (wa.drewN nq) bl es i hi m ⟨c0, by omega⟩ (hq1.blk HP.out.D.D.ents (by simp)) ((HP.out.D.wait i hi).chg hq1 (by simp)))
  rw [show m.val = .agg #[.int .i64 m.k, .int .i64 m.c, .int .i64 m.l, .int .u64 m.d.x0, .int .u64 m.d.x1, .int .u64 m.d.x2, .int .u64 m.d.x3, .int .u64 m.d.x4, .int .u64 m.d.x5, .int .u64 m.d.x6, .int .u64 m.d.x7] from rfl, HMl.out] at HMay
  refine HMay.out.mono ?_
  rintro e w5 ⟨rfl, hx⟩
  have hx2 := hq1.trans hx
  replace HP := Lib.hid (HP.out.trans (DirPost.look HP.out.D hx2))
  replace HB := Lib.hid (hx2.blk HB.out (by simp))
  clear hx hx2 hq1 HMay HAt d1 d2 dlt mlt m2 m0 m1 m3 m4 m5 m6 m7 m8 m9 m10
  rw [hmay]
  obtain ⟨p, hp⟩ : ∃ p, i * 16 = p := ⟨_, rfl⟩
  have HPi := Lib.hid hp
  rw [hp]
  clear hp hmay
  have mlt : b < w5.heap.size := HB.out.lt
  have blt : bl < w5.heap.size := Blk.lt HP.out.D.D.ents
  have hdb : b ≠ bl := HB.out.ne HP.out.D.D.ents (by decide)
  rw [HK.out] at HB
  have m0 : w5.cell? ⟨b, 0, none⟩ = some (.int .i64 3) := HB.out.cell 0
  have m2 : w5.cell? ⟨b, 2, none⟩ = some (.int .i64 (i : Int)) := (HB.out.cell 2).trans (by rw [← HMl.out]; rfl)
  have m3 : w5.cell? ⟨b, 3, none⟩ = some (.int .u64 m.d.x0) := HB.out.cell 3
  have m4 : w5.cell? ⟨b, 4, none⟩ = some (.int .u64 m.d.x1) := HB.out.cell 4
  have m5 : w5.cell? ⟨b, 5, none⟩ = some (.int .u64 m.d.x2) := HB.out.cell 5
  have m6 : w5.cell? ⟨b, 6, none⟩ = some (.int .u64 m.d.x3) := HB.out.cell 6
  have m7 : w5.cell? ⟨b, 7, none⟩ = some (.int .u64 m.d.x4) := HB.out.cell 7
  have m8 : w5.cell? ⟨b, 8, none⟩ = some (.int .u64 m.d.x5) := HB.out.cell 8
  have m9 : w5.cell? ⟨b, 9, none⟩ = some (.int .u64 m.d.x6) := HB.out.cell 9
  have m10 : w5.cell? ⟨b, 10, none⟩ = some (.int .u64 m.d.x7) := HB.out.cell 10
  replace HP := Lib.hid (HP.out.start hi)
  have d0 : w5.cell? ⟨d, 0, none⟩ = some (.pointer (some ⟨bm, 0, none⟩)) := HP.out.D.D.blk.cell 0
  have dlt : d < w5.heap.size := HP.out.D.D.blk.lt
  have HSet := Lib.hid (Set_any (World.drew w5) bm bw n ws (i : Int) m.d.x0 m.d.x1 m.d.x2 m.d.x3 m.d.x4 m.d.x5 m.d.x6 m.d.x7 HP.out.D.D.mem.drew)
  go_wp2_with fail
  go_still_tail 8, (by kernel_rfl)
  go_wp2_with fail
  refine HSet.out.mono ?_
  rintro e wm ⟨rfl, hM, hk⟩
  have hP2 := (HP.out.chg0 ((Chg.refl [] w5).drew)).mem2 hk hM
  have hnb : b ≠ bw := by obtain ⟨_, hl⟩ := HP.out.D.D.mem.l; exact HB.out.ne hl (by decide)
  have hB2 := hk.blk (Blk.drew HB.out) (by simpa using hnb)
  replace HP : Hid (DirPost w wm d bm bw bl n cores es (wsOf n ws i m.d) (es.set i es[i])) := Lib.hid hP2
  replace HB := Lib.hid hB2
  clear hP2 hB2 hM hk hnb d0 dlt mlt blt HSet m0 m2 m3 m4 m5 m6 m7 m8 m9 m10
  have mlt : b < wm.heap.size := HB.out.lt
  have blt : bl < wm.heap.size := Blk.lt HP.out.D.D.ents
  have hdb : b ≠ bl := HB.out.ne HP.out.D.D.ents (by decide)
  have e0 : wm.cell? ⟨bl, p, none⟩ = some (.int .i64 es[i].ow) := HP.out.cell hi HPi.out (j := 0) (by decide)
  have f0 : wm.frozen? ⟨bl, p, none⟩ = false := HP.out.free _
  go_upto_region 34 with fail
  have hP2 := HP.out
  replace hP2 := DirPost.put hP2 hi HPi.out (j := 0) (by decide) (v := .int .i64 (-1)) (E' := (noOw es[i])) rfl ⟨rfl, rfl⟩
  have hB2 := Blk.other (HB.out) (a := ⟨bl, p + 0, none⟩) (Ne.symm hdb) (.int .i64 (-1))
  replace HP := Lib.hid hP2; replace HB := Lib.hid hB2
  clear hP2 hB2 mlt blt e0 f0
  generalize World.setCell _ _ _ = wp1 at *
  have mlt : b < wp1.heap.size := HB.out.lt
  have blt : bl < wp1.heap.size := Blk.lt HP.out.D.D.ents
  have hdb : b ≠ bl := HB.out.ne HP.out.D.D.ents (by decide)
  have m1 : wp1.cell? ⟨b, 1, none⟩ = some (.int .i64 m.c) := HB.out.cell 1
  have m2 : wp1.cell? ⟨b, 2, none⟩ = some (.int .i64 (i : Int)) := (HB.out.cell 2).trans (by rw [← HMl.out]; rfl)
  have e13 : wp1.cell? ⟨bl, p + 13, none⟩ = some (.int .i64 3) := by have := HP.out.cell hi HPi.out (j := 13) (by decide); rw [this, ← HR.out]; rfl
  have hw6 : w.heap.size ≤ wp1.heap.size := HP.out.chg.size
  go_upto_region 35 with (first | (at_builtin; refine wpList_append_own_at _ rfl (.tmp 143) (.tmp 149) 26 rfl (wp1.heap.size) 33 j0 (.agg #[.int .i64 0, .int .i64 0, .int .i64 0, .int .u64 0, .int .u64 0, .int .u64 0, .int .u64 0, .int .u64 0, .int .u64 0, .int .u64 0, .int .u64 0]) 11 88 Try.underlying26 hj hy0 hy1 hy2 rfl (by decide) _ _ _ rfl (World.ownsRow_nil _ _ _ _) ⟨wp1.heap.size, 0, none⟩ 1 1 [.int .i64 16, .int .i64 m.c, .int .i64 (i : Int), .int .u64 0, .int .u64 0, .int .u64 0, .int .u64 0, .int .u64 0, .int .u64 0, .int .u64 0, .int .u64 0] rfl rfl (cells_at (by simp) [.int .i64 16, .int .i64 m.c, .int .i64 (i : Int), .int .u64 0, .int .u64 0, .int .u64 0, .int .u64 0, .int .u64 0, .int .u64 0, .int .u64 0, .int .u64 0] _) (by simp [Value.oneCell']) (by unfold maxLen; omega) (by omega) (by first | omega | (simp; omega) | simp) ?_; intro va1 wa1 hown1 hgrow1 _ hblk1; have hsz1 := hgrow1.size; have HO1 := Lib.hid hown1; have HG1 := Lib.hid hgrow1; have HB1 := Lib.hid hblk1; clear hown1 hgrow1 hblk1) | fail)
  have hg1 : (wp1.alloc (.cells #[.int .i64 16, .int .i64 m.c, .int .i64 (i : Int), .int .u64 0, .int .u64 0, .int .u64 0, .int .u64 0, .int .u64 0, .int .u64 0, .int .u64 0, .int .u64 0] 33)).grownBy wa1 none := HG1.out
  have hx : Chg [] wp1 wa1 := ((Chg.refl [] wp1).alloc _).trans (Chg.of_grown hg1)
  have hO : wa1.ownsRow wp1.heap.size 33 11 va1 1 [.int .i64 16, .int .i64 m.c, .int .i64 (i : Int), .int .u64 0, .int .u64 0, .int .u64 0, .int .u64 0, .int .u64 0, .int .u64 0, .int .u64 0, .int .u64 0] := HO1.out
  have HO := Lib.hid hO
  have hlt := HP.out.D.lt; have hdl := HP.out.D.D.blk.lt; have hml2 := HP.out.D.D.mem.mlt
  have HLt := Lib.hid hlt
  have hbl7 : bl < wp1.heap.size := blt
  replace e13 := (hx.cell0 blt _).trans e13
  replace HP := Lib.hid (HP.out.chg0 hx)
  clear hg1 hx hO hlt HO1 HG1 m1 m2  mlt blt
  have blt : bl < wa1.heap.size := Blk.lt HP.out.D.D.ents
  go_wp2_with fail
  refine (HP.out.granted hi HPi.out hun ⟨by show 0 ≤ es[i].un.l; rw [HUl.out]; omega, by show es[i].un.l < n; rw [HUl.out]; omega⟩).mono ?_
  rintro e w6 ⟨rfl, hP6, hk6⟩
  replace HO := Lib.hid (ownsRow_chg HO.out hk6 (fun g hg hm => by simp at hm; subst hm; exact ownsRow_notMem HO.out hbl7 hg))
  replace HP := Lib.hid hP6
  clear hP6 hk6 blt e13
  obtain ⟨g, hgm⟩ : ∃ g, grantM ((noOw es[i])) (lineV n (wsOf n ws i m.d) es[i].un.l) = g := ⟨_, rfl⟩
  rw [show grantM ((noOw es[i])) (lineV n (wsOf n ws i m.d) ((noOw es[i])).un.l) = g from hgm]
  obtain ⟨gk, gc, gl, g0, g1, g2, g3, g4, g5, g6, g7⟩ := g
  have HGm := Lib.hid hgm
  clear hgm
  simp only [MsgV.val]
  have hw7 : wp1.heap.size ≤ w6.heap.size := by have h1 := HO.out.1; rcases HO.out.2 with ⟨_, h0⟩ | ⟨g, cap, cur, _, h2, h3, _⟩; exact absurd h0 (by decide); exact Nat.le_of_lt (Nat.lt_of_le_of_lt h2 (lt_of_block h3))
  go_wp2_with (first | (at_builtin; refine wpList_append_own_at _ rfl (.tmp 190) (.tmp 194) 26 rfl (wp1.heap.size) 33 j0 (.agg #[.int .i64 0, .int .i64 0, .int .i64 0, .int .u64 0, .int .u64 0, .int .u64 0, .int .u64 0, .int .u64 0, .int .u64 0, .int .u64 0, .int .u64 0]) 11 88 Try.underlying26 hj hy0 hy1 hy2 rfl (by decide) _ _ _ rfl (HO.out.alloc _) ⟨w6.heap.size, 0, none⟩ 1 1 [.int .i64 gk, .int .i64 gc, .int .i64 gl, .int .u64 g0, .int .u64 g1, .int .u64 g2, .int .u64 g3, .int .u64 g4, .int .u64 g5, .int .u64 g6, .int .u64 g7] rfl rfl (cells_at (by simp) [.int .i64 gk, .int .i64 gc, .int .i64 gl, .int .u64 g0, .int .u64 g1, .int .u64 g2, .int .u64 g3, .int .u64 g4, .int .u64 g5, .int .u64 g6, .int .u64 g7] _) (by simp [Value.oneCell']) (by unfold maxLen; omega) (by omega) (by first | omega | (simp; omega) | simp) ?_; intro va2 wa2 hown1 hgrow1 _ hblk1; have hsz2 := hgrow1.size; have HO2 := Lib.hid hown1; have HG2 := Lib.hid hgrow1; have HB2 := Lib.hid hblk1; clear hown1 hgrow1 hblk1) | fail)
  have hg2 : (w6.alloc (.cells #[.int .i64 gk, .int .i64 gc, .int .i64 gl, .int .u64 g0, .int .u64 g1, .int .u64 g2, .int .u64 g3, .int .u64 g4, .int .u64 g5, .int .u64 g6, .int .u64 g7] 33)).grownBy wa2 va1.ownBlock := HG2.out
  have hx1 : Chg [] w6 (w6.alloc (.cells #[.int .i64 gk, .int .i64 gc, .int .i64 gl, .int .u64 g0, .int .u64 g1, .int .u64 g2, .int .u64 g3, .int .u64 g4, .int .u64 g5, .int .u64 g6, .int .u64 g7] 33)) := (Chg.refl [] w6).alloc _
  have hx2 := Chg.of_grown hg2
  have hOO : wa2.ownsRow wp1.heap.size 33 11 va2 2 ([.int .i64 16, .int .i64 m.c, .int .i64 (i : Int), .int .u64 0, .int .u64 0, .int .u64 0, .int .u64 0, .int .u64 0, .int .u64 0, .int .u64 0, .int .u64 0] ++ [.int .i64 gk, .int .i64 gc, .int .i64 gl, .int .u64 g0, .int .u64 g1, .int .u64 g2, .int .u64 g3, .int .u64 g4, .int .u64 g5, .int .u64 g6, .int .u64 g7]) := HO2.out
  have hge : ∀ x ∈ va1.ownBlock.toList, wp1.heap.size ≤ x := fun x hx => (HO.out.lt x (by simpa using hx)).1
  have hP9 := (HP.out.chg0 hx1).own2 hx2 (fun hm => by have := hge _ hm; omega) (fun hm => by have := hge _ hm; omega) (fun x hx => ⟨by have := hge x hx; omega, fun hm => by have h1 := HLt.out x (dirB_eq hi (grantE_wt _) x hm); have := hge x hx; omega⟩)
  go_ret2
  refine ⟨_, rfl, ?_, hP9⟩
  rw [HGm.out]
  exact ownsRow_base hOO hw6

end Go.Proofs.Ytepdhajgemmoiaa
