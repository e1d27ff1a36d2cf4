/- A directory hears an Unblock. -/
import Derived.Test.YtepdhajgemmoiaaDir12
namespace Go.Proofs.Ytepdhajgemmoiaa
set_option maxRecDepth 100000
open Go.RowKit

def idleE (e : EntV) : EntV := { e with ph := 0, un := {} }
/-- The first one that waits goes on. -/
def nextE (e : EntV) (v : Value) (l : List MsgV) : EntV := { idleE e with wt := v, wl := l }
theorem wait_tail {w : World} {g off cap : Nat} {cur : List Value} {nx : MsgV} {l : List MsgV} (hgb : Blk w g cur 33) (hle : (nx :: l).length ≤ cap) (hmx : cap ≤ maxLen) (hcu : off + cap * 11 ≤ cur.length) (hce : ∀ j u, ((nx :: l).flatMap encM)[j]? = some u → cur[off + j]? = some u) :
    WaitAt w (.slice (if cap = 1 then some ⟨g, off, none⟩ else some ⟨g, off + 11, none⟩) l.length (cap - 1)) l ∧ sliceB (.slice (if cap = 1 then some ⟨g, off, none⟩ else some ⟨g, off + 11, none⟩) l.length (cap - 1)) = [g] := by
  have hl : l.length + 1 ≤ cap := by simpa using hle
  by_cases h1 : cap = 1
  · rw [if_pos h1]
    obtain rfl : l = [] := by cases l with | nil => rfl | cons a b => simp at hl; omega
    exact ⟨.inr ⟨g, off, cap - 1, cur, rfl, hgb, by omega, by omega, by omega, fun j u h => by simp at h⟩, rfl⟩
  · rw [if_neg h1]
    refine ⟨.inr ⟨g, off + 11, cap - 1, cur, rfl, hgb, by omega, by omega, by omega, fun j u h => ?_⟩, rfl⟩
    have := hce (11 + j) u (by rw [List.flatMap_cons, List.getElem?_append_right (by rw [encM_len]; omega), encM_len, Nat.add_sub_cancel_left]; exact h)
    rwa [← Nat.add_assoc] at this

set_option maxHeartbeats 8000000 in
theorem Hear_7n (w : World) (d bm bw bl n : Nat) (cores : Int) (ws : List Int) (es : List EntV) (i : Nat) (hi : i < es.length) (m : MsgV) (hml : m.l = (i : Int)) (hc : 0 ≤ m.c ∧ m.c < cores) (hco : cores ≤ 4) (D : DirW w d bm bw bl n cores ws es) (hk : m.k = 7) (hmay : mayB es[i] m = true) (hr : es[i].wl = []) :
    Calls Try.prog 7 #[.pointer (some ⟨d, 0, none⟩), .agg #[.int .i64 m.k, .int .i64 m.c, .int .i64 m.l, .int .u64 m.d.x0, .int .u64 m.d.x1, .int .u64 m.d.x2, .int .u64 m.d.x3, .int .u64 m.d.x4, .int .u64 m.d.x5, .int .u64 m.d.x6, .int .u64 m.d.x7]] w (HearPost w d bm bw bl n cores es ws (es.set i (idleE es[i])) [] 0) := by
  have HR := Lib.hid hr; clear hr
  obtain ⟨j0, hj, hy0, hy1, hy2⟩ := info_parts infoMsg
  obtain ⟨c0, c1⟩ := hc
  have HMl := Lib.hid hml; have HK := Lib.hid hk; clear hml hk
  have hal : Chg [] w (w.alloc (.cells #[.int .i64 m.k, .int .i64 m.c, .int .i64 m.l, .int .u64 m.d.x0, .int .u64 m.d.x1, .int .u64 m.d.x2, .int .u64 m.d.x3, .int .u64 m.d.x4, .int .u64 m.d.x5, .int .u64 m.d.x6, .int .u64 m.d.x7] 33)) := (Chg.refl [] w).alloc _
  have HP := Lib.hid (DirPost.look D hal)
  have HB := Lib.hid (Blk.new w [.int .i64 m.k, .int .i64 m.c, .int .i64 m.l, .int .u64 m.d.x0, .int .u64 m.d.x1, .int .u64 m.d.x2, .int .u64 m.d.x3, .int .u64 m.d.x4, .int .u64 m.d.x5, .int .u64 m.d.x6, .int .u64 m.d.x7] 33)
  have hln := D.D.len
  have hn64 := D.D.mem.small
  clear D hal
  go_enter Try.func7, Try.ntmps7
  go_upto_region 1 with fail
  generalize World.alloc _ _ = wa at *
  obtain ⟨b, hb⟩ : ∃ b, w.heap.size = b := ⟨_, rfl⟩
  have HNb := Lib.hid hb
  rw [hb] at HB ⊢
  clear hb
  have m2 : wa.cell? ⟨b, 2, none⟩ = some (.int .i64 (i : Int)) := (HB.out.cell 2).trans (by rw [← HMl.out]; rfl)
  have mlt : b < wa.heap.size := HB.out.lt
  have d2 : wa.cell? ⟨d, 2, none⟩ = some (.slice (some ⟨bl, 0, none⟩) n n) := HP.out.D.D.blk.cell 2
  have dlt : d < wa.heap.size := HP.out.D.D.blk.lt
  have HAt := Lib.hid (dat_ok wa d bl n n (i : Int) (by omega) (by omega) d2)
  have d1 : wa.cell? ⟨d, 1, none⟩ = some (.int .i64 cores) := HP.out.D.D.blk.cell 1
  have m0 : wa.cell? ⟨b, 0, none⟩ = some (.int .i64 m.k) := HB.out.cell 0
  have m1 : wa.cell? ⟨b, 1, none⟩ = some (.int .i64 m.c) := HB.out.cell 1
  have m3 : wa.cell? ⟨b, 3, none⟩ = some (.int .u64 m.d.x0) := HB.out.cell 3
  have m4 : wa.cell? ⟨b, 4, none⟩ = some (.int .u64 m.d.x1) := HB.out.cell 4
  have m5 : wa.cell? ⟨b, 5, none⟩ = some (.int .u64 m.d.x2) := HB.out.cell 5
  have m6 : wa.cell? ⟨b, 6, none⟩ = some (.int .u64 m.d.x3) := HB.out.cell 6
  have m7 : wa.cell? ⟨b, 7, none⟩ = some (.int .u64 m.d.x4) := HB.out.cell 7
  have m8 : wa.cell? ⟨b, 8, none⟩ = some (.int .u64 m.d.x5) := HB.out.cell 8
  have m9 : wa.cell? ⟨b, 9, none⟩ = some (.int .u64 m.d.x6) := HB.out.cell 9
  have m10 : wa.cell? ⟨b, 10, none⟩ = some (.int .u64 m.d.x7) := HB.out.cell 10
  go_wp2_with fail
  refine HAt.out.mono ?_
  rintro e w1 ⟨rfl, rfl⟩
  rw [Int.toNat_natCast]
  go_wp2_with fail
  go_quiet (fail)
  go_wp2_with fail
  have hq1 : Chg [] wa (wa.drewN nq) := (Chg.refl [] wa).drewN nq
  have HMay := Lib.hid (may_any (wa.drewN nq) bl es i hi m ⟨c0, by omega⟩ (hq1.blk HP.out.D.D.ents (by simp)) ((HP.out.D.wait i hi).chg hq1 (by simp)))
  rw [show m.val = .agg #[.int .i64 m.k, .int .i64 m.c, .int .i64 m.l, .int .u64 m.d.x0, .int .u64 m.d.x1, .int .u64 m.d.x2, .int .u64 m.d.x3, .int .u64 m.d.x4, .int .u64 m.d.x5, .int .u64 m.d.x6, .int .u64 m.d.x7] from rfl, HMl.out] at HMay
  refine HMay.out.mono ?_
  rintro e w5 ⟨rfl, hx⟩
  have hx2 := hq1.trans hx
  replace HP := Lib.hid (HP.out.trans (DirPost.look HP.out.D hx2))
  replace HB := Lib.hid (hx2.blk HB.out (by simp))
  clear hx hx2 hq1 HMay HAt d1 d2 dlt mlt m2 m0 m1 m3 m4 m5 m6 m7 m8 m9 m10
  rw [hmay]
  obtain ⟨p, hp⟩ : ∃ p, i * 16 = p := ⟨_, rfl⟩
  have HPi := Lib.hid hp
  rw [hp]
  clear hp hmay
  have mlt : b < w5.heap.size := HB.out.lt
  have blt : bl < w5.heap.size := Blk.lt HP.out.D.D.ents
  have hdb : b ≠ bl := HB.out.ne HP.out.D.D.ents (by decide)
  rw [HK.out] at HB
  have m0 : w5.cell? ⟨b, 0, none⟩ = some (.int .i64 7) := HB.out.cell 0
  replace HP := Lib.hid (HP.out.start hi)
  have e2 : w5.cell? ⟨bl, p + 2, none⟩ = some (.int .i64 es[i].un.k) := HP.out.cell hi HPi.out (j := 2) (by decide)
  have f2 : w5.frozen? ⟨bl, p + 2, none⟩ = false := HP.out.free _
  have e3 : w5.cell? ⟨bl, p + 3, none⟩ = some (.int .i64 es[i].un.c) := HP.out.cell hi HPi.out (j := 3) (by decide)
  have f3 : w5.frozen? ⟨bl, p + 3, none⟩ = false := HP.out.free _
  have e4 : w5.cell? ⟨bl, p + 4, none⟩ = some (.int .i64 es[i].un.l) := HP.out.cell hi HPi.out (j := 4) (by decide)
  have f4 : w5.frozen? ⟨bl, p + 4, none⟩ = false := HP.out.free _
  have e5 : w5.cell? ⟨bl, p + 5, none⟩ = some (.int .u64 es[i].un.d.x0) := HP.out.cell hi HPi.out (j := 5) (by decide)
  have f5 : w5.frozen? ⟨bl, p + 5, none⟩ = false := HP.out.free _
  have e6 : w5.cell? ⟨bl, p + 6, none⟩ = some (.int .u64 es[i].un.d.x1) := HP.out.cell hi HPi.out (j := 6) (by decide)
  have f6 : w5.frozen? ⟨bl, p + 6, none⟩ = false := HP.out.free _
  have e7 : w5.cell? ⟨bl, p + 7, none⟩ = some (.int .u64 es[i].un.d.x2) := HP.out.cell hi HPi.out (j := 7) (by decide)
  have f7 : w5.frozen? ⟨bl, p + 7, none⟩ = false := HP.out.free _
  have e8 : w5.cell? ⟨bl, p + 8, none⟩ = some (.int .u64 es[i].un.d.x3) := HP.out.cell hi HPi.out (j := 8) (by decide)
  have f8 : w5.frozen? ⟨bl, p + 8, none⟩ = false := HP.out.free _
  have e9 : w5.cell? ⟨bl, p + 9, none⟩ = some (.int .u64 es[i].un.d.x4) := HP.out.cell hi HPi.out (j := 9) (by decide)
  have f9 : w5.frozen? ⟨bl, p + 9, none⟩ = false := HP.out.free _
  have e10 : w5.cell? ⟨bl, p + 10, none⟩ = some (.int .u64 es[i].un.d.x5) := HP.out.cell hi HPi.out (j := 10) (by decide)
  have f10 : w5.frozen? ⟨bl, p + 10, none⟩ = false := HP.out.free _
  have e11 : w5.cell? ⟨bl, p + 11, none⟩ = some (.int .u64 es[i].un.d.x6) := HP.out.cell hi HPi.out (j := 11) (by decide)
  have f11 : w5.frozen? ⟨bl, p + 11, none⟩ = false := HP.out.free _
  have e12 : w5.cell? ⟨bl, p + 12, none⟩ = some (.int .u64 es[i].un.d.x7) := HP.out.cell hi HPi.out (j := 12) (by decide)
  have f12 : w5.frozen? ⟨bl, p + 12, none⟩ = false := HP.out.free _
  have e13 : w5.cell? ⟨bl, p + 13, none⟩ = some (.int .i64 es[i].ph) := HP.out.cell hi HPi.out (j := 13) (by decide)
  have f13 : w5.frozen? ⟨bl, p + 13, none⟩ = false := HP.out.free _
  have hwa := HP.out.D.wait i (by rw [List.length_set]; exact hi)
  rw [List.getElem_set_self, HR.out] at hwa
  have HW := Lib.hid hwa; clear hwa
  go_upto_region 38 with fail
  have hP2 := HP.out
  replace hP2 := DirPost.put hP2 hi HPi.out (j := 13) (by decide) (v := .int .i64 0) (E' := { es[i] with ph := 0 }) rfl ⟨rfl, rfl⟩
  replace hP2 := DirPost.put hP2 hi HPi.out (j := 2) (by decide) (v := .int .i64 0) (E' := { es[i] with ph := 0, un := ⟨0, es[i].un.c, es[i].un.l, ⟨es[i].un.d.x0, es[i].un.d.x1, es[i].un.d.x2, es[i].un.d.x3, es[i].un.d.x4, es[i].un.d.x5, es[i].un.d.x6, es[i].un.d.x7⟩⟩ }) rfl ⟨rfl, rfl⟩
  replace hP2 := DirPost.put hP2 hi HPi.out (j := 3) (by decide) (v := .int .i64 0) (E' := { es[i] with ph := 0, un := ⟨0, 0, es[i].un.l, ⟨es[i].un.d.x0, es[i].un.d.x1, es[i].un.d.x2, es[i].un.d.x3, es[i].un.d.x4, es[i].un.d.x5, es[i].un.d.x6, es[i].un.d.x7⟩⟩ }) rfl ⟨rfl, rfl⟩
  replace hP2 := DirPost.put hP2 hi HPi.out (j := 4) (by decide) (v := .int .i64 0) (E' := { es[i] with ph := 0, un := ⟨0, 0, 0, ⟨es[i].un.d.x0, es[i].un.d.x1, es[i].un.d.x2, es[i].un.d.x3, es[i].un.d.x4, es[i].un.d.x5, es[i].un.d.x6, es[i].un.d.x7⟩⟩ }) rfl ⟨rfl, rfl⟩
  replace hP2 := DirPost.put hP2 hi HPi.out (j := 5) (by decide) (v := .int .u64 0) (E' := { es[i] with ph := 0, un := ⟨0, 0, 0, ⟨0, es[i].un.d.x1, es[i].un.d.x2, es[i].un.d.x3, es[i].un.d.x4, es[i].un.d.x5, es[i].un.d.x6, es[i].un.d.x7⟩⟩ }) rfl ⟨rfl, rfl⟩
  replace hP2 := DirPost.put hP2 hi HPi.out (j := 6) (by decide) (v := .int .u64 0) (E' := { es[i] with ph := 0, un := ⟨0, 0, 0, ⟨0, 0, es[i].un.d.x2, es[i].un.d.x3, es[i].un.d.x4, es[i].un.d.x5, es[i].un.d.x6, es[i].un.d.x7⟩⟩ }) rfl ⟨rfl, rfl⟩
  replace hP2 := DirPost.put hP2 hi HPi.out (j := 7) (by decide) (v := .int .u64 0) (E' := { es[i] with ph := 0, un := ⟨0, 0, 0, ⟨0, 0, 0, es[i].un.d.x3, es[i].un.d.x4, es[i].un.d.x5, es[i].un.d.x6, es[i].un.d.x7⟩⟩ }) rfl ⟨rfl, rfl⟩
  replace hP2 := DirPost.put hP2 hi HPi.out (j := 8) (by decide) (v := .int .u64 0) (E' := { es[i] with ph := 0, un := ⟨0, 0, 0, ⟨0, 0, 0, 0, es[i].un.d.x4, es[i].un.d.x5, es[i].un.d.x6, es[i].un.d.x7⟩⟩ }) rfl ⟨rfl, rfl⟩
  replace hP2 := DirPost.put hP2 hi HPi.out (j := 9) (by decide) (v := .int .u64 0) (E' := { es[i] with ph := 0, un := ⟨0, 0, 0, ⟨0, 0, 0, 0, 0, es[i].un.d.x5, es[i].un.d.x6, es[i].un.d.x7⟩⟩ }) rfl ⟨rfl, rfl⟩
  replace hP2 := DirPost.put hP2 hi HPi.out (j := 10) (by decide) (v := .int .u64 0) (E' := { es[i] with ph := 0, un := ⟨0, 0, 0, ⟨0, 0, 0, 0, 0, 0, es[i].un.d.x6, es[i].un.d.x7⟩⟩ }) rfl ⟨rfl, rfl⟩
  replace hP2 := DirPost.put hP2 hi HPi.out (j := 11) (by decide) (v := .int .u64 0) (E' := { es[i] with ph := 0, un := ⟨0, 0, 0, ⟨0, 0, 0, 0, 0, 0, 0, es[i].un.d.x7⟩⟩ }) rfl ⟨rfl, rfl⟩
  replace hP2 := DirPost.put hP2 hi HPi.out (j := 12) (by decide) (v := .int .u64 0) (E' := (idleE es[i])) rfl ⟨rfl, rfl⟩
  have hB2 := Blk.other (Blk.other (Blk.other (Blk.other (Blk.other (Blk.other (Blk.other (Blk.other (Blk.other (Blk.other (Blk.other (Blk.other (HB.out) (a := ⟨bl, p + 13, none⟩) (Ne.symm hdb) (.int .i64 0)) (a := ⟨bl, p + 2, none⟩) (Ne.symm hdb) (.int .i64 0)) (a := ⟨bl, p + 3, none⟩) (Ne.symm hdb) (.int .i64 0)) (a := ⟨bl, p + 4, none⟩) (Ne.symm hdb) (.int .i64 0)) (a := ⟨bl, p + 5, none⟩) (Ne.symm hdb) (.int .u64 0)) (a := ⟨bl, p + 6, none⟩) (Ne.symm hdb) (.int .u64 0)) (a := ⟨bl, p + 7, none⟩) (Ne.symm hdb) (.int .u64 0)) (a := ⟨bl, p + 8, none⟩) (Ne.symm hdb) (.int .u64 0)) (a := ⟨bl, p + 9, none⟩) (Ne.symm hdb) (.int .u64 0)) (a := ⟨bl, p + 10, none⟩) (Ne.symm hdb) (.int .u64 0)) (a := ⟨bl, p + 11, none⟩) (Ne.symm hdb) (.int .u64 0)) (a := ⟨bl, p + 12, none⟩) (Ne.symm hdb) (.int .u64 0)
  replace HP := Lib.hid hP2; replace HB := Lib.hid hB2
  clear hP2 hB2 mlt blt m0 e2 f2 e3 f3 e4 f4 e5 f5 e6 f6 e7 f7 e8 f8 e9 f9 e10 f10 e11 f11 e12 f12 e13 f13
  generalize World.setCell _ _ _ = wp1 at *
  have mlt : b < wp1.heap.size := HB.out.lt
  have blt : bl < wp1.heap.size := Blk.lt HP.out.D.D.ents
  have hdb : b ≠ bl := HB.out.ne HP.out.D.D.ents (by decide)
  obtain ⟨A, cap, hwt, _, _, _⟩ := HW.out.rd
  have e15 : wp1.cell? ⟨bl, p + 15, none⟩ = some (.slice A 0 cap) := by rw [← show es[i].wt = .slice A 0 cap from hwt]; exact HP.out.cell hi HPi.out (j := 15) (by decide)
  clear hwt
  go_wp2_with fail
  go_ret2
  exact ⟨_, rfl, World.ownsRow_nil _ _ _ _, HP.out⟩
set_option maxHeartbeats 8000000 in
theorem Hear_7y (w : World) (d bm bw bl n : Nat) (cores : Int) (ws : List Int) (es : List EntV) (i : Nat) (hi : i < es.length) (m : MsgV) (hml : m.l = (i : Int)) (hc : 0 ≤ m.c ∧ m.c < cores) (hco : cores ≤ 4) (D : DirW w d bm bw bl n cores ws es) (nx : MsgV) (l : List MsgV) (hk : m.k = 7) (hmay : mayB es[i] m = true) (hr : es[i].wl = nx :: l) (hnc : 0 ≤ nx.c ∧ nx.c < 4) (hnl : nx.l = (i : Int)) (ho : es[i].ow = -1 ∨ 0 ≤ es[i].ow ∧ es[i].ow < 4) :
    Calls Try.prog 7 #[.pointer (some ⟨d, 0, none⟩), .agg #[.int .i64 m.k, .int .i64 m.c, .int .i64 m.l, .int .u64 m.d.x0, .int .u64 m.d.x1, .int .u64 m.d.x2, .int .u64 m.d.x3, .int .u64 m.d.x4, .int .u64 m.d.x5, .int .u64 m.d.x6, .int .u64 m.d.x7]] w (fun e w' => ∃ v, sliceB v = sliceB es[i].wt ∧ HearPost w d bm bw bl n cores es ws (es.set i (beginE (nextE es[i] v l) nx)) (beginM (nextE es[i] v l) nx (lineV n ws i)) 0 e w') := by
  have HR := Lib.hid hr; clear hr
  have HNl := Lib.hid hnl; have HOw := Lib.hid ho; have HNc := Lib.hid hnc; clear hnl ho hnc
  obtain ⟨j0, hj, hy0, hy1, hy2⟩ := info_parts infoMsg
  obtain ⟨c0, c1⟩ := hc
  have HMl := Lib.hid hml; have HK := Lib.hid hk; clear hml hk
  have hal : Chg [] w (w.alloc (.cells #[.int .i64 m.k, .int .i64 m.c, .int .i64 m.l, .int .u64 m.d.x0, .int .u64 m.d.x1, .int .u64 m.d.x2, .int .u64 m.d.x3, .int .u64 m.d.x4, .int .u64 m.d.x5, .int .u64 m.d.x6, .int .u64 m.d.x7] 33)) := (Chg.refl [] w).alloc _
  have HP := Lib.hid (DirPost.look D hal)
  have HB := Lib.hid (Blk.new w [.int .i64 m.k, .int .i64 m.c, .int .i64 m.l, .int .u64 m.d.x0, .int .u64 m.d.x1, .int .u64 m.d.x2, .int .u64 m.d.x3, .int .u64 m.d.x4, .int .u64 m.d.x5, .int .u64 m.d.x6, .int .u64 m.d.x7] 33)
  have hln := D.D.len
  have hn64 := D.D.mem.small
  clear D hal
  go_enter Try.func7, Try.ntmps7
  go_upto_region 1 with fail
  generalize World.alloc _ _ = wa at *
  obtain ⟨b, hb⟩ : ∃ b, w.heap.size = b := ⟨_, rfl⟩
  have HNb := Lib.hid hb
  rw [hb] at HB ⊢
  clear hb
  have m2 : wa.cell? ⟨b, 2, none⟩ = some (.int .i64 (i : Int)) := (HB.out.cell 2).trans (by rw [← HMl.out]; rfl)
  have mlt : b < wa.heap.size := HB.out.lt
  have d2 : wa.cell? ⟨d, 2, none⟩ = some (.slice (some ⟨bl, 0, none⟩) n n) := HP.out.D.D.blk.cell 2
  have dlt : d < wa.heap.size := HP.out.D.D.blk.lt
  have HAt := Lib.hid (dat_ok wa d bl n n (i : Int) (by omega) (by omega) d2)
  have d1 : wa.cell? ⟨d, 1, none⟩ = some (.int .i64 cores) := HP.out.D.D.blk.cell 1
  have m0 : wa.cell? ⟨b, 0, none⟩ = some (.int .i64 m.k) := HB.out.cell 0
  have m1 : wa.cell? ⟨b, 1, none⟩ = some (.int .i64 m.c) := HB.out.cell 1
  have m3 : wa.cell? ⟨b, 3, none⟩ = some (.int .u64 m.d.x0) := HB.out.cell 3
  have m4 : wa.cell? ⟨b, 4, none⟩ = some (.int .u64 m.d.x1) := HB.out.cell 4
  have m5 : wa.cell? ⟨b, 5, none⟩ = some (.int .u64 m.d.x2) := HB.out.cell 5
  have m6 : wa.cell? ⟨b, 6, none⟩ = some (.int .u64 m.d.x3) := HB.out.cell 6
  have m7 : wa.cell? ⟨b, 7, none⟩ = some (.int .u64 m.d.x4) := HB.out.cell 7
  have m8 : wa.cell? ⟨b, 8, none⟩ = some (.int .u64 m.d.x5) := HB.out.cell 8
  have m9 : wa.cell? ⟨b, 9, none⟩ = some (.int .u64 m.d.x6) := HB.out.cell 9
  have m10 : wa.cell? ⟨b, 10, none⟩ = some (.int .u64 m.d.x7) := HB.out.cell 10
  go_wp2_with fail
  refine HAt.out.mono ?_
  rintro e w1 ⟨rfl, rfl⟩
  rw [Int.toNat_natCast]
  go_wp2_with fail
  go_quiet (fail)
  go_wp2_with fail
  have hq1 : Chg [] wa (wa.drewN nq) := (Chg.refl [] wa).drewN nq
  have HMay := Lib.hid (may_any (wa.drewN nq) bl es i hi m ⟨c0, by omega⟩ (hq1.blk HP.out.D.D.ents (by simp)) ((HP.out.D.wait i hi).chg hq1 (by simp)))
  rw [show m.val = .agg #[.int .i64 m.k, .int .i64 m.c, .int .i64 m.l, .int .u64 m.d.x0, .int .u64 m.d.x1, .int .u64 m.d.x2, .int .u64 m.d.x3, .int .u64 m.d.x4, .int .u64 m.d.x5, .int .u64 m.d.x6, .int .u64 m.d.x7] from rfl, HMl.out] at HMay
  refine HMay.out.mono ?_
  rintro e w5 ⟨rfl, hx⟩
  have hx2 := hq1.trans hx
  replace HP := Lib.hid (HP.out.trans (DirPost.look HP.out.D hx2))
  replace HB := Lib.hid (hx2.blk HB.out (by simp))
  clear hx hx2 hq1 HMay HAt d1 d2 dlt mlt m2 m0 m1 m3 m4 m5 m6 m7 m8 m9 m10
  rw [hmay]
  obtain ⟨p, hp⟩ : ∃ p, i * 16 = p := ⟨_, rfl⟩
  have HPi := Lib.hid hp
  rw [hp]
  clear hp hmay
  have mlt : b < w5.heap.size := HB.out.lt
  have blt : bl < w5.heap.size := Blk.lt HP.out.D.D.ents
  have hdb : b ≠ bl := HB.out.ne HP.out.D.D.ents (by decide)
  rw [HK.out] at HB
  have m0 : w5.cell? ⟨b, 0, none⟩ = some (.int .i64 7) := HB.out.cell 0
  replace HP := Lib.hid (HP.out.start hi)
  have e2 : w5.cell? ⟨bl, p + 2, none⟩ = some (.int .i64 es[i].un.k) := HP.out.cell hi HPi.out (j := 2) (by decide)
  have f2 : w5.frozen? ⟨bl, p + 2, none⟩ = false := HP.out.free _
  have e3 : w5.cell? ⟨bl, p + 3, none⟩ = some (.int .i64 es[i].un.c) := HP.out.cell hi HPi.out (j := 3) (by decide)
  have f3 : w5.frozen? ⟨bl, p + 3, none⟩ = false := HP.out.free _
  have e4 : w5.cell? ⟨bl, p + 4, none⟩ = some (.int .i64 es[i].un.l) := HP.out.cell hi HPi.out (j := 4) (by decide)
  have f4 : w5.frozen? ⟨bl, p + 4, none⟩ = false := HP.out.free _
  have e5 : w5.cell? ⟨bl, p + 5, none⟩ = some (.int .u64 es[i].un.d.x0) := HP.out.cell hi HPi.out (j := 5) (by decide)
  have f5 : w5.frozen? ⟨bl, p + 5, none⟩ = false := HP.out.free _
  have e6 : w5.cell? ⟨bl, p + 6, none⟩ = some (.int .u64 es[i].un.d.x1) := HP.out.cell hi HPi.out (j := 6) (by decide)
  have f6 : w5.frozen? ⟨bl, p + 6, none⟩ = false := HP.out.free _
  have e7 : w5.cell? ⟨bl, p + 7, none⟩ = some (.int .u64 es[i].un.d.x2) := HP.out.cell hi HPi.out (j := 7) (by decide)
  have f7 : w5.frozen? ⟨bl, p + 7, none⟩ = false := HP.out.free _
  have e8 : w5.cell? ⟨bl, p + 8, none⟩ = some (.int .u64 es[i].un.d.x3) := HP.out.cell hi HPi.out (j := 8) (by decide)
  have f8 : w5.frozen? ⟨bl, p + 8, none⟩ = false := HP.out.free _
  have e9 : w5.cell? ⟨bl, p + 9, none⟩ = some (.int .u64 es[i].un.d.x4) := HP.out.cell hi HPi.out (j := 9) (by decide)
  have f9 : w5.frozen? ⟨bl, p + 9, none⟩ = false := HP.out.free _
  have e10 : w5.cell? ⟨bl, p + 10, none⟩ = some (.int .u64 es[i].un.d.x5) := HP.out.cell hi HPi.out (j := 10) (by decide)
  have f10 : w5.frozen? ⟨bl, p + 10, none⟩ = false := HP.out.free _
  have e11 : w5.cell? ⟨bl, p + 11, none⟩ = some (.int .u64 es[i].un.d.x6) := HP.out.cell hi HPi.out (j := 11) (by decide)
  have f11 : w5.frozen? ⟨bl, p + 11, none⟩ = false := HP.out.free _
  have e12 : w5.cell? ⟨bl, p + 12, none⟩ = some (.int .u64 es[i].un.d.x7) := HP.out.cell hi HPi.out (j := 12) (by decide)
  have f12 : w5.frozen? ⟨bl, p + 12, none⟩ = false := HP.out.free _
  have e13 : w5.cell? ⟨bl, p + 13, none⟩ = some (.int .i64 es[i].ph) := HP.out.cell hi HPi.out (j := 13) (by decide)
  have f13 : w5.frozen? ⟨bl, p + 13, none⟩ = false := HP.out.free _
  have hwa := HP.out.D.wait i (by rw [List.length_set]; exact hi)
  rw [List.getElem_set_self, HR.out] at hwa
  have HW := Lib.hid hwa; clear hwa
  go_upto_region 38 with fail
  have hP2 := HP.out
  replace hP2 := DirPost.put hP2 hi HPi.out (j := 13) (by decide) (v := .int .i64 0) (E' := { es[i] with ph := 0 }) rfl ⟨rfl, rfl⟩
  replace hP2 := DirPost.put hP2 hi HPi.out (j := 2) (by decide) (v := .int .i64 0) (E' := { es[i] with ph := 0, un := ⟨0, es[i].un.c, es[i].un.l, ⟨es[i].un.d.x0, es[i].un.d.x1, es[i].un.d.x2, es[i].un.d.x3, es[i].un.d.x4, es[i].un.d.x5, es[i].un.d.x6, es[i].un.d.x7⟩⟩ }) rfl ⟨rfl, rfl⟩
  replace hP2 := DirPost.put hP2 hi HPi.out (j := 3) (by decide) (v := .int .i64 0) (E' := { es[i] with ph := 0, un := ⟨0, 0, es[i].un.l, ⟨es[i].un.d.x0, es[i].un.d.x1, es[i].un.d.x2, es[i].un.d.x3, es[i].un.d.x4, es[i].un.d.x5, es[i].un.d.x6, es[i].un.d.x7⟩⟩ }) rfl ⟨rfl, rfl⟩
  replace hP2 := DirPost.put hP2 hi HPi.out (j := 4) (by decide) (v := .int .i64 0) (E' := { es[i] with ph := 0, un := ⟨0, 0, 0, ⟨es[i].un.d.x0, es[i].un.d.x1, es[i].un.d.x2, es[i].un.d.x3, es[i].un.d.x4, es[i].un.d.x5, es[i].un.d.x6, es[i].un.d.x7⟩⟩ }) rfl ⟨rfl, rfl⟩
  replace hP2 := DirPost.put hP2 hi HPi.out (j := 5) (by decide) (v := .int .u64 0) (E' := { es[i] with ph := 0, un := ⟨0, 0, 0, ⟨0, es[i].un.d.x1, es[i].un.d.x2, es[i].un.d.x3, es[i].un.d.x4, es[i].un.d.x5, es[i].un.d.x6, es[i].un.d.x7⟩⟩ }) rfl ⟨rfl, rfl⟩
  replace hP2 := DirPost.put hP2 hi HPi.out (j := 6) (by decide) (v := .int .u64 0) (E' := { es[i] with ph := 0, un := ⟨0, 0, 0, ⟨0, 0, es[i].un.d.x2, es[i].un.d.x3, es[i].un.d.x4, es[i].un.d.x5, es[i].un.d.x6, es[i].un.d.x7⟩⟩ }) rfl ⟨rfl, rfl⟩
  replace hP2 := DirPost.put hP2 hi HPi.out (j := 7) (by decide) (v := .int .u64 0) (E' := { es[i] with ph := 0, un := ⟨0, 0, 0, ⟨0, 0, 0, es[i].un.d.x3, es[i].un.d.x4, es[i].un.d.x5, es[i].un.d.x6, es[i].un.d.x7⟩⟩ }) rfl ⟨rfl, rfl⟩
  replace hP2 := DirPost.put hP2 hi HPi.out (j := 8) (by decide) (v := .int .u64 0) (E' := { es[i] with ph := 0, un := ⟨0, 0, 0, ⟨0, 0, 0, 0, es[i].un.d.x4, es[i].un.d.x5, es[i].un.d.x6, es[i].un.d.x7⟩⟩ }) rfl ⟨rfl, rfl⟩
  replace hP2 := DirPost.put hP2 hi HPi.out (j := 9) (by decide) (v := .int .u64 0) (E' := { es[i] with ph := 0, un := ⟨0, 0, 0, ⟨0, 0, 0, 0, 0, es[i].un.d.x5, es[i].un.d.x6, es[i].un.d.x7⟩⟩ }) rfl ⟨rfl, rfl⟩
  replace hP2 := DirPost.put hP2 hi HPi.out (j := 10) (by decide) (v := .int .u64 0) (E' := { es[i] with ph := 0, un := ⟨0, 0, 0, ⟨0, 0, 0, 0, 0, 0, es[i].un.d.x6, es[i].un.d.x7⟩⟩ }) rfl ⟨rfl, rfl⟩
  replace hP2 := DirPost.put hP2 hi HPi.out (j := 11) (by decide) (v := .int .u64 0) (E' := { es[i] with ph := 0, un := ⟨0, 0, 0, ⟨0, 0, 0, 0, 0, 0, 0, es[i].un.d.x7⟩⟩ }) rfl ⟨rfl, rfl⟩
  replace hP2 := DirPost.put hP2 hi HPi.out (j := 12) (by decide) (v := .int .u64 0) (E' := (idleE es[i])) rfl ⟨rfl, rfl⟩
  have hB2 := Blk.other (Blk.other (Blk.other (Blk.other (Blk.other (Blk.other (Blk.other (Blk.other (Blk.other (Blk.other (Blk.other (Blk.other (HB.out) (a := ⟨bl, p + 13, none⟩) (Ne.symm hdb) (.int .i64 0)) (a := ⟨bl, p + 2, none⟩) (Ne.symm hdb) (.int .i64 0)) (a := ⟨bl, p + 3, none⟩) (Ne.symm hdb) (.int .i64 0)) (a := ⟨bl, p + 4, none⟩) (Ne.symm hdb) (.int .i64 0)) (a := ⟨bl, p + 5, none⟩) (Ne.symm hdb) (.int .u64 0)) (a := ⟨bl, p + 6, none⟩) (Ne.symm hdb) (.int .u64 0)) (a := ⟨bl, p + 7, none⟩) (Ne.symm hdb) (.int .u64 0)) (a := ⟨bl, p + 8, none⟩) (Ne.symm hdb) (.int .u64 0)) (a := ⟨bl, p + 9, none⟩) (Ne.symm hdb) (.int .u64 0)) (a := ⟨bl, p + 10, none⟩) (Ne.symm hdb) (.int .u64 0)) (a := ⟨bl, p + 11, none⟩) (Ne.symm hdb) (.int .u64 0)) (a := ⟨bl, p + 12, none⟩) (Ne.symm hdb) (.int .u64 0)
  replace HP := Lib.hid hP2; replace HB := Lib.hid hB2
  clear hP2 hB2 mlt blt m0 e2 f2 e3 f3 e4 f4 e5 f5 e6 f6 e7 f7 e8 f8 e9 f9 e10 f10 e11 f11 e12 f12 e13 f13
  generalize World.setCell _ _ _ = wp1 at *
  have mlt : b < wp1.heap.size := HB.out.lt
  have blt : bl < wp1.heap.size := Blk.lt HP.out.D.D.ents
  have hdb : b ≠ bl := HB.out.ne HP.out.D.D.ents (by decide)
  have hwn := HP.out.D.wait i (by rw [List.length_set]; exact hi)
  rw [List.getElem_set_self] at hwn
  have hwn2 : WaitAt wp1 es[i].wt es[i].wl := hwn
  rw [HR.out] at hwn2
  rcases hwn2 with ⟨_, h0⟩ | ⟨g, off, cap, cur, hwt, hgb, hle, hmx, hcu, hce⟩
  · cases h0
  have e15 : wp1.cell? ⟨bl, p + 15, none⟩ = some (.slice (some ⟨g, off, none⟩) (l.length + 1) cap) := by rw [← show es[i].wt = .slice (some ⟨g, off, none⟩) (l.length + 1) cap from hwt]; exact HP.out.cell hi HPi.out (j := 15) (by decide)
  have f15 : wp1.frozen? ⟨bl, p + 15, none⟩ = false := HP.out.free _
  have hc0 : ∀ j, j < 11 → wp1.cell? ⟨g, off + j, none⟩ = (encM nx)[j]? := fun j hj => by
    rw [hgb.cell]; have hj2 : j < (encM nx).length := hj; rw [List.getElem?_eq_getElem hj2]; exact hce j _ (by rw [List.flatMap_cons, List.getElem?_append_left hj2, List.getElem?_eq_getElem hj2])
  have x0 : wp1.cell? ⟨g, off, none⟩ = some (.int .i64 nx.k) := hc0 0 (by decide)
  have x1 : wp1.cell? ⟨g, off + 1, none⟩ = some (.int .i64 nx.c) := hc0 1 (by decide)
  have x2 : wp1.cell? ⟨g, off + 2, none⟩ = some (.int .i64 nx.l) := hc0 2 (by decide)
  have x3 : wp1.cell? ⟨g, off + 3, none⟩ = some (.int .u64 nx.d.x0) := hc0 3 (by decide)
  have x4 : wp1.cell? ⟨g, off + 4, none⟩ = some (.int .u64 nx.d.x1) := hc0 4 (by decide)
  have x5 : wp1.cell? ⟨g, off + 5, none⟩ = some (.int .u64 nx.d.x2) := hc0 5 (by decide)
  have x6 : wp1.cell? ⟨g, off + 6, none⟩ = some (.int .u64 nx.d.x3) := hc0 6 (by decide)
  have x7 : wp1.cell? ⟨g, off + 7, none⟩ = some (.int .u64 nx.d.x4) := hc0 7 (by decide)
  have x8 : wp1.cell? ⟨g, off + 8, none⟩ = some (.int .u64 nx.d.x5) := hc0 8 (by decide)
  have x9 : wp1.cell? ⟨g, off + 9, none⟩ = some (.int .u64 nx.d.x6) := hc0 9 (by decide)
  have x10 : wp1.cell? ⟨g, off + 10, none⟩ = some (.int .u64 nx.d.x7) := hc0 10 (by decide)
  have hcl : 1 ≤ cap := by simp at hle; omega
  have hcm : (cap : Int) ≤ 9223372036854775807 := by unfold maxLen at hmx; omega
  have hll : (l.length : Int) + 1 ≤ cap := by simp at hle; omega
  have glt : g < wp1.heap.size := hgb.lt
  have HX := Lib.hid (And.intro hwt (And.intro hgb (And.intro hle (And.intro hmx (And.intro hcu hce)))))
  clear hwt hgb hle hmx hcu hce hwn hc0
  go_upto_region 41 with fail
  obtain ⟨hwt, hgb, hle, hmx, hcu, hce⟩ := HX.out
  have hsE : sliceB (idleE es[i]).wt = [g] := by rw [show (idleE es[i]).wt = es[i].wt from rfl, hwt]; rfl
  have htl := wait_tail hgb hle hmx hcu hce
  have hk1 : Chg [bl] wp1 ((wp1.setCell ⟨bl, p + 15, none⟩ (.slice (if cap = 1 then some ⟨g, off, none⟩ else some ⟨g, off + 11, none⟩) l.length (cap - 1))).alloc (.cells #[.int .i64 nx.k, .int .i64 nx.c, .int .i64 nx.l, .int .u64 nx.d.x0, .int .u64 nx.d.x1, .int .u64 nx.d.x2, .int .u64 nx.d.x3, .int .u64 nx.d.x4, .int .u64 nx.d.x5, .int .u64 nx.d.x6, .int .u64 nx.d.x7] 33)) := ((Chg.refl [bl] wp1).setCell (p := ⟨bl, p + 15, none⟩) (fun _ => List.mem_singleton.2 rfl) (.slice (if cap = 1 then some ⟨g, off, none⟩ else some ⟨g, off + 11, none⟩) l.length (cap - 1))).alloc _
  have hgl : g ≠ bl := hgb.ne HP.out.D.D.ents (by decide)
  have hi1 : i < (es.set i (idleE es[i])).length := by rw [List.length_set]; exact hi
  have hE := HP.out.D.D.ents.set hi1 (j := 15) (by decide) (v := (.slice (if cap = 1 then some ⟨g, off, none⟩ else some ⟨g, off + 11, none⟩) l.length (cap - 1))) (e := nextE es[i] (.slice (if cap = 1 then some ⟨g, off, none⟩ else some ⟨g, off + 11, none⟩) l.length (cap - 1)) l) (by rw [List.getElem_set_self]; rfl)
  rw [List.set_set, HPi.out] at hE
  have hD2 := HP.out.D.D.turn hk1 (Blk.alloc hE _) (by have := HP.out.D.D.len; rw [List.length_set] at this ⊢; exact this)
  have hP2 := DirPost.waits HP.out hi (E' := nextE es[i] (.slice (if cap = 1 then some ⟨g, off, none⟩ else some ⟨g, off + 11, none⟩) l.length (cap - 1)) l) (hk1.mono (by simp)) hD2 (htl.1.chg hk1 (by rw [htl.2]; simpa using hgl)) (by rw [hsE]; intro x hx; rw [show (nextE es[i] (.slice (if cap = 1 then some ⟨g, off, none⟩ else some ⟨g, off + 11, none⟩) l.length (cap - 1)) l).wt = (.slice (if cap = 1 then some ⟨g, off, none⟩ else some ⟨g, off + 11, none⟩) l.length (cap - 1)) from rfl, htl.2] at hx; exact .inl hx)
  have hBn := Blk.new (wp1.setCell ⟨bl, p + 15, none⟩ (.slice (if cap = 1 then some ⟨g, off, none⟩ else some ⟨g, off + 11, none⟩) l.length (cap - 1))) [.int .i64 nx.k, .int .i64 nx.c, .int .i64 nx.l, .int .u64 nx.d.x0, .int .u64 nx.d.x1, .int .u64 nx.d.x2, .int .u64 nx.d.x3, .int .u64 nx.d.x4, .int .u64 nx.d.x5, .int .u64 nx.d.x6, .int .u64 nx.d.x7] 33
  rw [show (wp1.setCell ⟨bl, p + 15, none⟩ (.slice (if cap = 1 then some ⟨g, off, none⟩ else some ⟨g, off + 11, none⟩) l.length (cap - 1))).heap.size = wp1.heap.size from by simp] at hBn
  replace HP := Lib.hid hP2; have HBn := Lib.hid hBn
  have hsV : sliceB (.slice (if cap = 1 then some ⟨g, off, none⟩ else some ⟨g, off + 11, none⟩) l.length (cap - 1)) = sliceB es[i].wt := htl.2.trans hsE.symm
  clear hwt hgb hle hmx hcu hce hsE htl hk1 hgl hE hD2 hP2 hBn e15 f15 HX x0 x1 x2 x3 x4 x5 x6 x7 x8 x9 x10 mlt blt glt HB
  generalize World.alloc (World.setCell _ _ _) _ = w7 at *
  obtain ⟨V, hV⟩ : ∃ V : Value, ((.slice (if cap = 1 then some ⟨g, off, none⟩ else some ⟨g, off + 11, none⟩) l.length (cap - 1))) = V := ⟨_, rfl⟩
  rw [hV] at HP hsV; have HsV := Lib.hid hsV; clear hV hsV
  obtain ⟨bn, hbn⟩ : ∃ x, wp1.heap.size = x := ⟨_, rfl⟩
  rw [hbn] at HBn ⊢; clear hbn
  have x0 : w7.cell? ⟨bn, 0, none⟩ = some (.int .i64 nx.k) := HBn.out.cell 0
  have x1 : w7.cell? ⟨bn, 1, none⟩ = some (.int .i64 nx.c) := HBn.out.cell 1
  have x2 : w7.cell? ⟨bn, 2, none⟩ = some (.int .i64 nx.l) := HBn.out.cell 2
  have x3 : w7.cell? ⟨bn, 3, none⟩ = some (.int .u64 nx.d.x0) := HBn.out.cell 3
  have x4 : w7.cell? ⟨bn, 4, none⟩ = some (.int .u64 nx.d.x1) := HBn.out.cell 4
  have x5 : w7.cell? ⟨bn, 5, none⟩ = some (.int .u64 nx.d.x2) := HBn.out.cell 5
  have x6 : w7.cell? ⟨bn, 6, none⟩ = some (.int .u64 nx.d.x3) := HBn.out.cell 6
  have x7 : w7.cell? ⟨bn, 7, none⟩ = some (.int .u64 nx.d.x4) := HBn.out.cell 7
  have x8 : w7.cell? ⟨bn, 8, none⟩ = some (.int .u64 nx.d.x5) := HBn.out.cell 8
  have x9 : w7.cell? ⟨bn, 9, none⟩ = some (.int .u64 nx.d.x6) := HBn.out.cell 9
  have x10 : w7.cell? ⟨bn, 10, none⟩ = some (.int .u64 nx.d.x7) := HBn.out.cell 10
  have bnl : bn < w7.heap.size := HBn.out.lt
  have hw7 : w.heap.size ≤ w7.heap.size := HP.out.chg.size
  have HBg := Lib.hid (HP.out.began hi HPi.out nx HNc.out ⟨by rw [HNl.out]; omega, by rw [HNl.out]; omega⟩ HOw.out)
  rw [show nx.val = .agg #[.int .i64 nx.k, .int .i64 nx.c, .int .i64 nx.l, .int .u64 nx.d.x0, .int .u64 nx.d.x1, .int .u64 nx.d.x2, .int .u64 nx.d.x3, .int .u64 nx.d.x4, .int .u64 nx.d.x5, .int .u64 nx.d.x6, .int .u64 nx.d.x7] from rfl] at HBg
  go_wp2_with fail
  all_goals (refine HBg.out.mono ?_; rintro e w8 ⟨v, rfl, hrow, hP8, hk8⟩; rw [HNl.out] at hrow; have HR8 := Lib.hid hrow; have HP8 := Lib.hid hP8; clear hrow hP8 hk8; go_wp2_with fail; go_ret2; exact ⟨V, HsV.out, v, rfl, ownsRow_base HR8.out hw7, HP8.out⟩)

end Go.Proofs.Ytepdhajgemmoiaa
