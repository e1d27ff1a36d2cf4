/- A directory hears an InvAck. -/
import Derived.Test.YtepdhajgemmoiaaDir9b
namespace Go.Proofs.Ytepdhajgemmoiaa
set_option maxRecDepth 100000
open Go.RowKit

/-- What Hear leaves. -/
def HearPost (w : World) (d bm bw bl n : Nat) (cores : Int) (es : List EntV) (ws' : List Int) (es' : List EntV) (out : List MsgV) (err : Int) (e : Ending) (w' : World) : Prop :=
  ∃ v, e = .returned (.tuple #[v, .int .i64 err]) ∧ w'.ownsRow w.heap.size 33 11 v out.length (out.flatMap encM) ∧ DirPost w w' d bm bw bl n cores es ws' es'
def toPut (e : EntV) : EntV := { e with ph := 3 }
def noOw (e : EntV) : EntV := { e with ow := -1 }
def gaveS (e : EntV) (c : Int) : EntV := { e with ow := -1, sh := orB e.sh c }
def ackS (e : EntV) (c : Int) : EntV := { e with sh := notB e.sh c, ak := notB e.ak c }
theorem DirPost.row {w w1 : World} {d bm bw bl n : Nat} {cores : Int} {ws : List Int} {es es' : List EntV} (h : DirPost w w1 d bm bw bl n cores es ws es') : DirPost w w1 d bm bw bl n cores es ws es' := h

set_option maxHeartbeats 8000000 in
theorem Hear_4n (w : World) (d bm bw bl n : Nat) (cores : Int) (ws : List Int) (es : List EntV) (i : Nat) (hi : i < es.length) (m : MsgV) (hml : m.l = (i : Int)) (hc : 0 ≤ m.c ∧ m.c < cores) (hco : cores ≤ 4) (D : DirW w d bm bw bl n cores ws es) (hk : m.k = 4) (hmay : mayB es[i] m = true) (hr : notB es[i].ak m.c ≠ 0) :
    Calls Try.prog 7 #[.pointer (some ⟨d, 0, none⟩), .agg #[.int .i64 m.k, .int .i64 m.c, .int .i64 m.l, .int .u64 m.d.x0, .int .u64 m.d.x1, .int .u64 m.d.x2, .int .u64 m.d.x3, .int .u64 m.d.x4, .int .u64 m.d.x5, .int .u64 m.d.x6, .int .u64 m.d.x7]] w (HearPost w d bm bw bl n cores es ws (es.set i (ackS es[i] m.c)) [] 0) := by
  have HR := Lib.hid hr; clear hr
  obtain ⟨j0, hj, hy0, hy1, hy2⟩ := info_parts infoMsg
  obtain ⟨c0, c1⟩ := hc
  have HMl := Lib.hid hml; have HK := Lib.hid hk; clear hml hk
  have hal : Chg [] w (w.alloc (.cells #[.int .i64 m.k, .int .i64 m.c, .int .i64 m.l, .int .u64 m.d.x0, .int .u64 m.d.x1, .int .u64 m.d.x2, .int .u64 m.d.x3, .int .u64 m.d.x4, .int .u64 m.d.x5, .int .u64 m.d.x6, .int .u64 m.d.x7] 33)) := (Chg.refl [] w).alloc _
  have HP := Lib.hid (DirPost.look D hal)
  have HB := Lib.hid (Blk.new w [.int .i64 m.k, .int .i64 m.c, .int .i64 m.l, .int .u64 m.d.x0, .int .u64 m.d.x1, .int .u64 m.d.x2, .int .u64 m.d.x3, .int .u64 m.d.x4, .int .u64 m.d.x5, .int .u64 m.d.x6, .int .u64 m.d.x7] 33)
  have hln := D.D.len
  have hn64 := D.D.mem.small
  clear D hal
  go_enter Try.func7, Try.ntmps7
  go_upto_region 1 with fail
  generalize World.alloc _ _ = wa at *
  obtain ⟨b, hb⟩ : ∃ b, w.heap.size = b := ⟨_, rfl⟩
  have HNb := Lib.hid hb
  rw [hb] at HB ⊢
  clear hb
  have m2 : wa.cell? ⟨b, 2, none⟩ = some (.int .i64 (i : Int)) := (HB.out.cell 2).trans (by rw [← HMl.out]; rfl)
  have mlt : b < wa.heap.size := HB.out.lt
  have d2 : wa.cell? ⟨d, 2, none⟩ = some (.slice (some ⟨bl, 0, none⟩) n n) := HP.out.D.D.blk.cell 2
  have dlt : d < wa.heap.size := HP.out.D.D.blk.lt
  have HAt := Lib.hid (dat_ok wa d bl n n (i : Int) (by omega) (by omega) d2)
  have d1 : wa.cell? ⟨d, 1, none⟩ = some (.int .i64 cores) := HP.out.D.D.blk.cell 1
  have m0 : wa.cell? ⟨b, 0, none⟩ = some (.int .i64 m.k) := HB.out.cell 0
  have m1 : wa.cell? ⟨b, 1, none⟩ = some (.int .i64 m.c) := HB.out.cell 1
  have m3 : wa.cell? ⟨b, 3, none⟩ = some (.int .u64 m.d.x0) := HB.out.cell 3
  have m4 : wa.cell? ⟨b, 4, none⟩ = some (.int .u64 m.d.x1) := HB.out.cell 4
  have m5 : wa.cell? ⟨b, 5, none⟩ = some (.int .u64 m.d.x2) := HB.out.cell 5
  have m6 : wa.cell? ⟨b, 6, none⟩ = some (.int .u64 m.d.x3) := HB.out.cell 6
  have m7 : wa.cell? ⟨b, 7, none⟩ = some (.int .u64 m.d.x4) := HB.out.cell 7
  have m8 : wa.cell? ⟨b, 8, none⟩ = some (.int .u64 m.d.x5) := HB.out.cell 8
  have m9 : wa.cell? ⟨b, 9, none⟩ = some (.int .u64 m.d.x6) := HB.out.cell 9
  have m10 : wa.cell? ⟨b, 10, none⟩ = some (.int .u64 m.d.x7) := HB.out.cell 10
  go_wp2_with fail
  refine HAt.out.mono ?_
  rintro e w1 ⟨rfl, rfl⟩
  rw [Int.toNat_natCast]
  go_wp2_with fail
  go_quiet (fail)
  go_wp2_with fail
  have hq1 : Chg [] wa (wa.drewN nq) := (Chg.refl [] wa).drewN nq
  have HMay := Lib.hid (may_any (wa.drewN nq) bl es i hi m ⟨c0, by omega⟩ (hq1.blk HP.out.D.D.ents (by simp)) ((HP.out.D.wait i hi).chg hq1 (by simp)))
  rw [show m.val = .agg #[.int .i64 m.k, .int .i64 m.c, .int .i64 m.l, .int .u64 m.d.x0, .int .u64 m.d.x1, .int .u64 m.d.x2, .int .u64 m.d.x3, .int .u64 m.d.x4, .int .u64 m.d.x5, .int .u64 m.d.x6, .int .u64 m.d.x7] from rfl, HMl.out] at HMay
  refine HMay.out.mono ?_
  rintro e w5 ⟨rfl, hx⟩
  have hx2 := hq1.trans hx
  replace HP := Lib.hid (HP.out.trans (DirPost.look HP.out.D hx2))
  replace HB := Lib.hid (hx2.blk HB.out (by simp))
  clear hx hx2 hq1 HMay HAt d1 d2 dlt mlt m2 m0 m1 m3 m4 m5 m6 m7 m8 m9 m10
  rw [hmay]
  obtain ⟨p, hp⟩ : ∃ p, i * 16 = p := ⟨_, rfl⟩
  have HPi := Lib.hid hp
  rw [hp]
  clear hp hmay
  have mlt : b < w5.heap.size := HB.out.lt
  have blt : bl < w5.heap.size := Blk.lt HP.out.D.D.ents
  have hdb : b ≠ bl := HB.out.ne HP.out.D.D.ents (by decide)
  rw [HK.out] at HB
  have m0 : w5.cell? ⟨b, 0, none⟩ = some (.int .i64 4) := HB.out.cell 0
  have m1 : w5.cell? ⟨b, 1, none⟩ = some (.int .i64 m.c) := HB.out.cell 1
  replace HP := Lib.hid (HP.out.start hi)
  have e1 : w5.cell? ⟨bl, p + 1, none⟩ = some (.int .u8 es[i].sh) := HP.out.cell hi HPi.out (j := 1) (by decide)
  have f1 : w5.frozen? ⟨bl, p + 1, none⟩ = false := HP.out.free _
  have e14 : w5.cell? ⟨bl, p + 14, none⟩ = some (.int .u8 es[i].ak) := HP.out.cell hi HPi.out (j := 14) (by decide)
  have f14 : w5.frozen? ⟨bl, p + 14, none⟩ = false := HP.out.free _
  go_wp2_with fail
  go_still_tail 10, (by kernel_rfl)
  go_upto_region 20 with fail
  have hP2 := HP.out
  replace hP2 := DirPost.put hP2 hi HPi.out (j := 1) (by decide) (v := .int .u8 (bits .andNot .u8 es[i].sh (2 ^ m.c.toNat % 256))) (E' := { es[i] with sh := notB es[i].sh m.c }) rfl ⟨rfl, rfl⟩
  replace hP2 := DirPost.chg0 hP2 ((Chg.refl [] _).drew)
  have hB2 := Blk.drew (Blk.other (HB.out) (a := ⟨bl, p + 1, none⟩) (Ne.symm hdb) (.int .u8 (bits .andNot .u8 es[i].sh (2 ^ m.c.toNat % 256))))
  replace HP := Lib.hid hP2; replace HB := Lib.hid hB2
  clear hP2 hB2 mlt blt m0 m1 e1 f1 e14 f14
  generalize World.drew _ = wp1 at *
  have mlt : b < wp1.heap.size := HB.out.lt
  have blt : bl < wp1.heap.size := Blk.lt HP.out.D.D.ents
  have hdb : b ≠ bl := HB.out.ne HP.out.D.D.ents (by decide)
  have e14 : wp1.cell? ⟨bl, p + 14, none⟩ = some (.int .u8 es[i].ak) := HP.out.cell hi HPi.out (j := 14) (by decide)
  have f14 : wp1.frozen? ⟨bl, p + 14, none⟩ = false := HP.out.free _
  have m1 : wp1.cell? ⟨b, 1, none⟩ = some (.int .i64 m.c) := HB.out.cell 1
  go_wp2_with fail
  go_still_tail 10, (by kernel_rfl)
  go_upto_region 21 with fail
  have hP2 := HP.out
  replace hP2 := DirPost.put hP2 hi HPi.out (j := 14) (by decide) (v := .int .u8 (bits .andNot .u8 es[i].ak (2 ^ m.c.toNat % 256))) (E' := ackS es[i] m.c) rfl ⟨rfl, rfl⟩
  replace hP2 := DirPost.chg0 hP2 ((Chg.refl [] _).drew)
  have hB2 := Blk.drew (Blk.other (HB.out) (a := ⟨bl, p + 14, none⟩) (Ne.symm hdb) (.int .u8 (bits .andNot .u8 es[i].ak (2 ^ m.c.toNat % 256))))
  replace HP := Lib.hid hP2; replace HB := Lib.hid hB2
  clear hP2 hB2 mlt blt m1 e14 f14
  generalize World.drew _ = wp2 at *
  have mlt : b < wp2.heap.size := HB.out.lt
  have blt : bl < wp2.heap.size := Blk.lt HP.out.D.D.ents
  have hdb : b ≠ bl := HB.out.ne HP.out.D.D.ents (by decide)
  obtain ⟨na, hna⟩ : ∃ x, notB es[i].ak m.c = x := ⟨_, rfl⟩
  have e14 : wp2.cell? ⟨bl, p + 14, none⟩ = some (.int .u8 na) := by rw [← hna]; exact HP.out.cell hi HPi.out (j := 14) (by decide)
  have hr2 : (na == 0) = false := by rw [← hna]; simpa using HR.out
  have HNa := Lib.hid hna; clear hna
  go_wp2_with fail
  go_ret2
  exact ⟨_, rfl, World.ownsRow_nil _ _ _ _, HP.out⟩
set_option maxHeartbeats 8000000 in
theorem Hear_4y (w : World) (d bm bw bl n : Nat) (cores : Int) (ws : List Int) (es : List EntV) (i : Nat) (hi : i < es.length) (m : MsgV) (hml : m.l = (i : Int)) (hc : 0 ≤ m.c ∧ m.c < cores) (hco : cores ≤ 4) (D : DirW w d bm bw bl n cores ws es) (hk : m.k = 4) (hmay : mayB es[i] m = true) (hr : notB es[i].ak m.c = 0) (hun : 0 ≤ es[i].un.c ∧ es[i].un.c < 4) (hul : es[i].un.l = (i : Int)) :
    Calls Try.prog 7 #[.pointer (some ⟨d, 0, none⟩), .agg #[.int .i64 m.k, .int .i64 m.c, .int .i64 m.l, .int .u64 m.d.x0, .int .u64 m.d.x1, .int .u64 m.d.x2, .int .u64 m.d.x3, .int .u64 m.d.x4, .int .u64 m.d.x5, .int .u64 m.d.x6, .int .u64 m.d.x7]] w (HearPost w d bm bw bl n cores es ws (es.set i (grantE (ackS es[i] m.c))) [grantM (ackS es[i] m.c) (lineV n ws es[i].un.l)] 0) := by
  have HUl := Lib.hid hul; clear hul
  have HR := Lib.hid hr; clear hr
  obtain ⟨j0, hj, hy0, hy1, hy2⟩ := info_parts infoMsg
  obtain ⟨c0, c1⟩ := hc
  have HMl := Lib.hid hml; have HK := Lib.hid hk; clear hml hk
  have hal : Chg [] w (w.alloc (.cells #[.int .i64 m.k, .int .i64 m.c, .int .i64 m.l, .int .u64 m.d.x0, .int .u64 m.d.x1, .int .u64 m.d.x2, .int .u64 m.d.x3, .int .u64 m.d.x4, .int .u64 m.d.x5, .int .u64 m.d.x6, .int .u64 m.d.x7] 33)) := (Chg.refl [] w).alloc _
  have HP := Lib.hid (DirPost.look D hal)
  have HB := Lib.hid (Blk.new w [.int .i64 m.k, .int .i64 m.c, .int .i64 m.l, .int .u64 m.d.x0, .int .u64 m.d.x1, .int .u64 m.d.x2, .int .u64 m.d.x3, .int .u64 m.d.x4, .int .u64 m.d.x5, .int .u64 m.d.x6, .int .u64 m.d.x7] 33)
  have hln := D.D.len
  have hn64 := D.D.mem.small
  clear D hal
  go_enter Try.func7, Try.ntmps7
  go_upto_region 1 with fail
  generalize World.alloc _ _ = wa at *
  obtain ⟨b, hb⟩ : ∃ b, w.heap.size = b := ⟨_, rfl⟩
  have HNb := Lib.hid hb
  rw [hb] at HB ⊢
  clear hb
  have m2 : wa.cell? ⟨b, 2, none⟩ = some (.int .i64 (i : Int)) := (HB.out.cell 2).trans (by rw [← HMl.out]; rfl)
  have mlt : b < wa.heap.size := HB.out.lt
  have d2 : wa.cell? ⟨d, 2, none⟩ = some (.slice (some ⟨bl, 0, none⟩) n n) := HP.out.D.D.blk.cell 2
  have dlt : d < wa.heap.size := HP.out.D.D.blk.lt
  have HAt := Lib.hid (dat_ok wa d bl n n (i : Int) (by omega) (by omega) d2)
  have d1 : wa.cell? ⟨d, 1, none⟩ = some (.int .i64 cores) := HP.out.D.D.blk.cell 1
  have m0 : wa.cell? ⟨b, 0, none⟩ = some (.int .i64 m.k) := HB.out.cell 0
  have m1 : wa.cell? ⟨b, 1, none⟩ = some (.int .i64 m.c) := HB.out.cell 1
  have m3 : wa.cell? ⟨b, 3, none⟩ = some (.int .u64 m.d.x0) := HB.out.cell 3
  have m4 : wa.cell? ⟨b, 4, none⟩ = some (.int .u64 m.d.x1) := HB.out.cell 4
  have m5 : wa.cell? ⟨b, 5, none⟩ = some (.int .u64 m.d.x2) := HB.out.cell 5
  have m6 : wa.cell? ⟨b, 6, none⟩ = some (.int .u64 m.d.x3) := HB.out.cell 6
  have m7 : wa.cell? ⟨b, 7, none⟩ = some (.int .u64 m.d.x4) := HB.out.cell 7
  have m8 : wa.cell? ⟨b, 8, none⟩ = some (.int .u64 m.d.x5) := HB.out.cell 8
  have m9 : wa.cell? ⟨b, 9, none⟩ = some (.int .u64 m.d.x6) := HB.out.cell 9
  have m10 : wa.cell? ⟨b, 10, none⟩ = some (.int .u64 m.d.x7) := HB.out.cell 10
  go_wp2_with fail
  refine HAt.out.mono ?_
  rintro e w1 ⟨rfl, rfl⟩
  rw [Int.toNat_natCast]
  go_wp2_with fail
  go_quiet (fail)
  go_wp2_with fail
  have hq1 : Chg [] wa (wa.drewN nq) := (Chg.refl [] wa).drewN nq
  have HMay := Lib.hid (may_any (wa.drewN nq) bl es i hi m ⟨c0, by omega⟩ (hq1.blk HP.out.D.D.ents (by simp)) ((HP.out.D.wait i hi).chg hq1 (by simp)))
  rw [show m.val = .agg #[.int .i64 m.k, .int .i64 m.c, .int .i64 m.l, .int .u64 m.d.x0, .int .u64 m.d.x1, .int .u64 m.d.x2, .int .u64 m.d.x3, .int .u64 m.d.x4, .int .u64 m.d.x5, .int .u64 m.d.x6, .int .u64 m.d.x7] from rfl, HMl.out] at HMay
  refine HMay.out.mono ?_
  rintro e w5 ⟨rfl, hx⟩
  have hx2 := hq1.trans hx
  replace HP := Lib.hid (HP.out.trans (DirPost.look HP.out.D hx2))
  replace HB := Lib.hid (hx2.blk HB.out (by simp))
  clear hx hx2 hq1 HMay HAt d1 d2 dlt mlt m2 m0 m1 m3 m4 m5 m6 m7 m8 m9 m10
  rw [hmay]
  obtain ⟨p, hp⟩ : ∃ p, i * 16 = p := ⟨_, rfl⟩
  have HPi := Lib.hid hp
  rw [hp]
  clear hp hmay
  have mlt : b < w5.heap.size := HB.out.lt
  have blt : bl < w5.heap.size := Blk.lt HP.out.D.D.ents
  have hdb : b ≠ bl := HB.out.ne HP.out.D.D.ents (by decide)
  rw [HK.out] at HB
  have m0 : w5.cell? ⟨b, 0, none⟩ = some (.int .i64 4) := HB.out.cell 0
  have m1 : w5.cell? ⟨b, 1, none⟩ = some (.int .i64 m.c) := HB.out.cell 1
  replace HP := Lib.hid (HP.out.start hi)
  have e1 : w5.cell? ⟨bl, p + 1, none⟩ = some (.int .u8 es[i].sh) := HP.out.cell hi HPi.out (j := 1) (by decide)
  have f1 : w5.frozen? ⟨bl, p + 1, none⟩ = false := HP.out.free _
  have e14 : w5.cell? ⟨bl, p + 14, none⟩ = some (.int .u8 es[i].ak) := HP.out.cell hi HPi.out (j := 14) (by decide)
  have f14 : w5.frozen? ⟨bl, p + 14, none⟩ = false := HP.out.free _
  go_wp2_with fail
  go_still_tail 10, (by kernel_rfl)
  go_upto_region 20 with fail
  have hP2 := HP.out
  replace hP2 := DirPost.put hP2 hi HPi.out (j := 1) (by decide) (v := .int .u8 (bits .andNot .u8 es[i].sh (2 ^ m.c.toNat % 256))) (E' := { es[i] with sh := notB es[i].sh m.c }) rfl ⟨rfl, rfl⟩
  replace hP2 := DirPost.chg0 hP2 ((Chg.refl [] _).drew)
  have hB2 := Blk.drew (Blk.other (HB.out) (a := ⟨bl, p + 1, none⟩) (Ne.symm hdb) (.int .u8 (bits .andNot .u8 es[i].sh (2 ^ m.c.toNat % 256))))
  replace HP := Lib.hid hP2; replace HB := Lib.hid hB2
  clear hP2 hB2 mlt blt m0 m1 e1 f1 e14 f14
  generalize World.drew _ = wp1 at *
  have mlt : b < wp1.heap.size := HB.out.lt
  have blt : bl < wp1.heap.size := Blk.lt HP.out.D.D.ents
  have hdb : b ≠ bl := HB.out.ne HP.out.D.D.ents (by decide)
  have e14 : wp1.cell? ⟨bl, p + 14, none⟩ = some (.int .u8 es[i].ak) := HP.out.cell hi HPi.out (j := 14) (by decide)
  have f14 : wp1.frozen? ⟨bl, p + 14, none⟩ = false := HP.out.free _
  have m1 : wp1.cell? ⟨b, 1, none⟩ = some (.int .i64 m.c) := HB.out.cell 1
  go_wp2_with fail
  go_still_tail 10, (by kernel_rfl)
  go_upto_region 21 with fail
  have hP2 := HP.out
  replace hP2 := DirPost.put hP2 hi HPi.out (j := 14) (by decide) (v := .int .u8 (bits .andNot .u8 es[i].ak (2 ^ m.c.toNat % 256))) (E' := ackS es[i] m.c) rfl ⟨rfl, rfl⟩
  replace hP2 := DirPost.chg0 hP2 ((Chg.refl [] _).drew)
  have hB2 := Blk.drew (Blk.other (HB.out) (a := ⟨bl, p + 14, none⟩) (Ne.symm hdb) (.int .u8 (bits .andNot .u8 es[i].ak (2 ^ m.c.toNat % 256))))
  replace HP := Lib.hid hP2; replace HB := Lib.hid hB2
  clear hP2 hB2 mlt blt m1 e14 f14
  generalize World.drew _ = wp2 at *
  have mlt : b < wp2.heap.size := HB.out.lt
  have blt : bl < wp2.heap.size := Blk.lt HP.out.D.D.ents
  have hdb : b ≠ bl := HB.out.ne HP.out.D.D.ents (by decide)
  have e14 : wp2.cell? ⟨bl, p + 14, none⟩ = some (.int .u8 0) := by have := HP.out.cell hi HPi.out (j := 14) (by decide); rw [this, ← HR.out]; rfl
  go_wp2_with fail
  refine (HP.out.granted hi HPi.out hun ⟨by show 0 ≤ es[i].un.l; rw [HUl.out]; omega, by show es[i].un.l < n; rw [HUl.out]; omega⟩).mono ?_
  rintro e w6 ⟨rfl, hP6, hk6⟩
  replace HP := Lib.hid hP6
  clear hP6 hk6 mlt blt
  obtain ⟨g, hgm⟩ : ∃ g, grantM (ackS es[i] m.c) (lineV n ws es[i].un.l) = g := ⟨_, rfl⟩
  rw [show grantM (ackS es[i] m.c) (lineV n ws (ackS es[i] m.c).un.l) = g from hgm]
  obtain ⟨gk, gc, gl, g0, g1, g2, g3, g4, g5, g6, g7⟩ := g
  have HGm := Lib.hid hgm
  clear hgm
  simp only [MsgV.val]
  have hw6 : w.heap.size ≤ w6.heap.size := HP.out.chg.size
  go_wp2_with (first | (at_builtin; refine wpList_append_own_at _ rfl (.tmp 190) (.tmp 194) 26 rfl (w6.heap.size) 33 j0 (.agg #[.int .i64 0, .int .i64 0, .int .i64 0, .int .u64 0, .int .u64 0, .int .u64 0, .int .u64 0, .int .u64 0, .int .u64 0, .int .u64 0, .int .u64 0]) 11 88 Try.underlying26 hj hy0 hy1 hy2 rfl (by decide) _ _ _ rfl (World.ownsRow_nil _ _ _ _) ⟨w6.heap.size, 0, none⟩ 1 1 [.int .i64 gk, .int .i64 gc, .int .i64 gl, .int .u64 g0, .int .u64 g1, .int .u64 g2, .int .u64 g3, .int .u64 g4, .int .u64 g5, .int .u64 g6, .int .u64 g7] rfl rfl (cells_at (by simp) [.int .i64 gk, .int .i64 gc, .int .i64 gl, .int .u64 g0, .int .u64 g1, .int .u64 g2, .int .u64 g3, .int .u64 g4, .int .u64 g5, .int .u64 g6, .int .u64 g7] _) (by simp [Value.oneCell']) (by unfold maxLen; omega) (by omega) (by first | omega | (simp; omega) | simp) ?_; intro va1 wa1 hown1 hgrow1 _ hblk1; have hsz1 := hgrow1.size; have HO1 := Lib.hid hown1; have HG1 := Lib.hid hgrow1; have HB1 := Lib.hid hblk1; clear hown1 hgrow1 hblk1) | fail)
  have hg1 : (w6.alloc (.cells #[.int .i64 gk, .int .i64 gc, .int .i64 gl, .int .u64 g0, .int .u64 g1, .int .u64 g2, .int .u64 g3, .int .u64 g4, .int .u64 g5, .int .u64 g6, .int .u64 g7] 33)).grownBy wa1 none := HG1.out
  have hx : Chg [] w6 wa1 := ((Chg.refl [] w6).alloc _).trans (Chg.of_grown hg1)
  have hO : wa1.ownsRow w6.heap.size 33 11 va1 1 [.int .i64 gk, .int .i64 gc, .int .i64 gl, .int .u64 g0, .int .u64 g1, .int .u64 g2, .int .u64 g3, .int .u64 g4, .int .u64 g5, .int .u64 g6, .int .u64 g7] := HO1.out
  go_ret2
  refine ⟨_, rfl, ?_, HP.out.chg0 hx⟩
  rw [HGm.out]
  exact ownsRow_base hO hw6

end Go.Proofs.Ytepdhajgemmoiaa
