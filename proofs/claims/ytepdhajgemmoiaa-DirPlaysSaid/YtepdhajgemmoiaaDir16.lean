/- A directory hears a GetS or a GetM that waits. -/
import Derived.Test.YtepdhajgemmoiaaDir15
namespace Go.Proofs.Ytepdhajgemmoiaa
set_option linter.unusedSimpArgs false
set_option linter.unusedVariables false
set_option maxRecDepth 100000
open Go.RowKit

section
variable {w w1 w2 : World} {d bm bw bl n : Nat} {cores : Int} {ws : List Int} {es : List EntV} {i p : Nat} {E : EntV} {v : Value} {l : List MsgV}
theorem DirPost.ents_after (h : DirPost w w1 d bm bw bl n cores es ws (es.set i E)) (hi : i < es.length) (k : Chg (sliceB E.wt) w1 w2) : EntsAt w2 bl (es.set i E) := by
  have hi1 : i < (es.set i E).length := by rw [List.length_set]; exact hi
  have hwa := h.D.wait i hi1
  rw [List.getElem_set_self] at hwa
  exact k.blk h.D.D.ents (fun hm => (hwa.ne h.D.D.ents (by decide) _ hm) rfl)
theorem DirPost.wt_after (h : DirPost w w1 d bm bw bl n cores es ws (es.set i E)) (hi : i < es.length) (hp : i * 16 = p) (k : Chg (sliceB E.wt) w1 w2) : w2.cell? ⟨bl, p + 15, none⟩ = some E.wt := by
  have hi1 : i < (es.set i E).length := by rw [List.length_set]; exact hi
  have := (h.ents_after hi k).cell hi1 (j := 15) (by decide)
  rw [List.getElem_set_self, hp] at this
  exact this
theorem DirPost.waited (h : DirPost w w1 d bm bw bl n cores es ws (es.set i E)) (hi : i < es.length) (hp : i * 16 = p) (k : Chg (sliceB E.wt) w1 w2) (hW : WaitAt w2 v l) (hb : ∀ g ∈ sliceB v, g ∈ sliceB E.wt ∨ w1.heap.size ≤ g) :
    DirPost w (w2.setCell ⟨bl, p + 15, none⟩ v) d bm bw bl n cores es ws (es.set i { E with wt := v, wl := l }) := by
  have hi1 : i < (es.set i E).length := by rw [List.length_set]; exact hi
  have hne := h.D.waitNe hi1
  rw [List.getElem_set_self] at hne
  have hE := h.ents_after hi k
  have hblv : bl ∉ sliceB v := fun hm => by
    rcases hb _ hm with e | e
    · exact (hne _ e).1 rfl
    · have := Blk.lt h.D.D.ents; omega
  have hk1 : Chg [bl] w2 (w2.setCell ⟨bl, p + 15, none⟩ v) := (Chg.refl [bl] w2).setCell (p := ⟨bl, p + 15, none⟩) (fun _ => List.mem_singleton.2 rfl) v
  have hk : Chg (bl :: sliceB E.wt) w1 (w2.setCell ⟨bl, p + 15, none⟩ v) := (k.mono (fun x hx => List.mem_cons_of_mem _ hx)).trans (hk1.mono (by simp))
  have hE2 := hE.set hi1 (j := 15) (by decide) (v := v) (e := { E with wt := v, wl := l }) (by rw [List.getElem_set_self]; rfl)
  rw [List.set_set, hp] at hE2
  obtain ⟨cm, hm⟩ := h.D.D.mem.m
  obtain ⟨cl, hl⟩ := h.D.D.mem.l
  refine h.waits hi hk ⟨hk.blk h.D.D.blk ?_, h.D.D.mem.chg hk ?_ ?_, hE2, by have := h.D.D.len; rw [List.length_set] at this ⊢; exact this⟩ (hW.chg hk1 (fun g hg hm => hblv (by rwa [List.mem_singleton.1 hm] at hg))) hb
  · exact fun hx => (List.mem_cons.1 hx).elim (fun e => (h.D.D.blk.ne h.D.D.ents (by decide)) e) (fun e => (hne _ e).2.2.1 rfl)
  · exact fun hx => (List.mem_cons.1 hx).elim (fun e => (hm.ne h.D.D.ents (by decide)) e) (fun e => (hne _ e).2.2.2 rfl)
  · exact fun hx => (List.mem_cons.1 hx).elim (fun e => (hl.ne h.D.D.ents (by decide)) e) (fun e => (hne _ e).2.1 rfl)
end

set_option maxHeartbeats 8000000 in
theorem Hear_1w (w : World) (d bm bw bl n : Nat) (cores : Int) (ws : List Int) (es : List EntV) (i : Nat) (hi : i < es.length) (m : MsgV) (hml : m.l = (i : Int)) (hc : 0 ≤ m.c ∧ m.c < cores) (hco : cores ≤ 4) (D : DirW w d bm bw bl n cores ws es) (hk : m.k = 1) (hmay : mayB es[i] m = true) (hr : es[i].ph ≠ 0) (hln2 : es[i].wl.length ≤ 100000) :
    Calls Try.prog 7 #[.pointer (some ⟨d, 0, none⟩), .agg #[.int .i64 m.k, .int .i64 m.c, .int .i64 m.l, .int .u64 m.d.x0, .int .u64 m.d.x1, .int .u64 m.d.x2, .int .u64 m.d.x3, .int .u64 m.d.x4, .int .u64 m.d.x5, .int .u64 m.d.x6, .int .u64 m.d.x7]] w (fun e w' => ∃ v, e = .returned (.tuple #[.slice none 0 0, .int .i64 0]) ∧ DirPost w w' d bm bw bl n cores es ws (es.set i { es[i] with wt := v, wl := es[i].wl ++ [⟨1, m.c, (i : Int), {}⟩] })) := by
  have HR := Lib.hid hr; have HLn := Lib.hid hln2; clear hr hln2
  have HBf := Lib.hid (show w.heap.size ∉ dirB bw bl es from fun h => Nat.lt_irrefl _ (D.lt _ h))
  obtain ⟨j0, hj, hy0, hy1, hy2⟩ := info_parts infoMsg
  obtain ⟨c0, c1⟩ := hc
  have HMl := Lib.hid hml; have HK := Lib.hid hk; clear hml hk
  have hal : Chg [] w (w.alloc (.cells #[.int .i64 m.k, .int .i64 m.c, .int .i64 m.l, .int .u64 m.d.x0, .int .u64 m.d.x1, .int .u64 m.d.x2, .int .u64 m.d.x3, .int .u64 m.d.x4, .int .u64 m.d.x5, .int .u64 m.d.x6, .int .u64 m.d.x7] 33)) := (Chg.refl [] w).alloc _
  have HP := Lib.hid (DirPost.look D hal)
  have HB := Lib.hid (Blk.new w [.int .i64 m.k, .int .i64 m.c, .int .i64 m.l, .int .u64 m.d.x0, .int .u64 m.d.x1, .int .u64 m.d.x2, .int .u64 m.d.x3, .int .u64 m.d.x4, .int .u64 m.d.x5, .int .u64 m.d.x6, .int .u64 m.d.x7] 33)
  have hln := D.D.len
  have hn64 := D.D.mem.small
  clear D hal
  go_enter Try.func7, Try.ntmps7
  go_upto_region 1 with fail
  generalize World.alloc _ _ = wa at *
  obtain ⟨b, hb⟩ : ∃ b, w.heap.size = b := ⟨_, rfl⟩
  have HNb := Lib.hid hb
  rw [hb] at HB ⊢
  clear hb
  have m2 : wa.cell? ⟨b, 2, none⟩ = some (.int .i64 (i : Int)) := (HB.out.cell 2).trans (by rw [← HMl.out]; rfl)
  have mlt : b < wa.heap.size := HB.out.lt
  have d2 : wa.cell? ⟨d, 2, none⟩ = some (.slice (some ⟨bl, 0, none⟩) n n) := HP.out.D.D.blk.cell 2
  have dlt : d < wa.heap.size := HP.out.D.D.blk.lt
  have HAt := Lib.hid (dat_ok wa d bl n n (i : Int) (by omega) (by omega) d2)
  have d1 : wa.cell? ⟨d, 1, none⟩ = some (.int .i64 cores) := HP.out.D.D.blk.cell 1
  have m0 : wa.cell? ⟨b, 0, none⟩ = some (.int .i64 m.k) := HB.out.cell 0
  have m1 : wa.cell? ⟨b, 1, none⟩ = some (.int .i64 m.c) := HB.out.cell 1
  have m3 : wa.cell? ⟨b, 3, none⟩ = some (.int .u64 m.d.x0) := HB.out.cell 3
  have m4 : wa.cell? ⟨b, 4, none⟩ = some (.int .u64 m.d.x1) := HB.out.cell 4
  have m5 : wa.cell? ⟨b, 5, none⟩ = some (.int .u64 m.d.x2) := HB.out.cell 5
  have m6 : wa.cell? ⟨b, 6, none⟩ = some (.int .u64 m.d.x3) := HB.out.cell 6
  have m7 : wa.cell? ⟨b, 7, none⟩ = some (.int .u64 m.d.x4) := HB.out.cell 7
  have m8 : wa.cell? ⟨b, 8, none⟩ = some (.int .u64 m.d.x5) := HB.out.cell 8
  have m9 : wa.cell? ⟨b, 9, none⟩ = some (.int .u64 m.d.x6) := HB.out.cell 9
  have m10 : wa.cell? ⟨b, 10, none⟩ = some (.int .u64 m.d.x7) := HB.out.cell 10
  go_wp2_with fail
  refine HAt.out.mono ?_
  rintro e w1 ⟨rfl, rfl⟩
  rw [Int.toNat_natCast]
  go_wp2_with fail
  go_quiet (fail)
  go_wp2_with fail
  have hq1 : Chg [] wa (wa.drewN nq) := (Chg.refl [] wa).drewN nq
  have HMay := Lib.hid (may_any (wa.drewN nq) bl es i hi m ⟨c0, by omega⟩ (hq1.blk HP.out.D.D.ents (by simp)) ((HP.out.D.wait i hi).chg hq1 (by simp)))
  rw [show m.val = .agg #[.int .i64 m.k, .int .i64 m.c, .int .i64 m.l, .int .u64 m.d.x0, .int .u64 m.d.x1, .int .u64 m.d.x2, .int .u64 m.d.x3, .int .u64 m.d.x4, .int .u64 m.d.x5, .int .u64 m.d.x6, .int .u64 m.d.x7] from rfl, HMl.out] at HMay
  refine HMay.out.mono ?_
  rintro e w5 ⟨rfl, hx⟩
  have hx2 := hq1.trans hx
  replace HP := Lib.hid (HP.out.trans (DirPost.look HP.out.D hx2))
  replace HB := Lib.hid (hx2.blk HB.out (by simp))
  clear hx hx2 hq1 HMay HAt d1 d2 dlt mlt m2 m0 m1 m3 m4 m5 m6 m7 m8 m9 m10
  rw [hmay]
  obtain ⟨p, hp⟩ : ∃ p, i * 16 = p := ⟨_, rfl⟩
  have HPi := Lib.hid hp
  rw [hp]
  clear hp hmay
  have mlt : b < w5.heap.size := HB.out.lt
  have blt : bl < w5.heap.size := Blk.lt HP.out.D.D.ents
  have hdb : b ≠ bl := HB.out.ne HP.out.D.D.ents (by decide)
  rw [HNb.out] at HBf
  rw [HK.out] at HB
  have m0 : w5.cell? ⟨b, 0, none⟩ = some (.int .i64 1) := HB.out.cell 0
  have m1 : w5.cell? ⟨b, 1, none⟩ = some (.int .i64 m.c) := HB.out.cell 1
  have m2 : w5.cell? ⟨b, 2, none⟩ = some (.int .i64 (i : Int)) := (HB.out.cell 2).trans (by rw [← HMl.out]; rfl)
  have m3 : w5.cell? ⟨b, 3, none⟩ = some (.int .u64 m.d.x0) := HB.out.cell 3
  have m4 : w5.cell? ⟨b, 4, none⟩ = some (.int .u64 m.d.x1) := HB.out.cell 4
  have m5 : w5.cell? ⟨b, 5, none⟩ = some (.int .u64 m.d.x2) := HB.out.cell 5
  have m6 : w5.cell? ⟨b, 6, none⟩ = some (.int .u64 m.d.x3) := HB.out.cell 6
  have m7 : w5.cell? ⟨b, 7, none⟩ = some (.int .u64 m.d.x4) := HB.out.cell 7
  have m8 : w5.cell? ⟨b, 8, none⟩ = some (.int .u64 m.d.x5) := HB.out.cell 8
  have m9 : w5.cell? ⟨b, 9, none⟩ = some (.int .u64 m.d.x6) := HB.out.cell 9
  have m10 : w5.cell? ⟨b, 10, none⟩ = some (.int .u64 m.d.x7) := HB.out.cell 10
  replace HP := Lib.hid (HP.out.start hi)
  have g3 : w5.frozen? ⟨b, 3, none⟩ = false := HB.out.free 3
  have g4 : w5.frozen? ⟨b, 4, none⟩ = false := HB.out.free 4
  have g5 : w5.frozen? ⟨b, 5, none⟩ = false := HB.out.free 5
  have g6 : w5.frozen? ⟨b, 6, none⟩ = false := HB.out.free 6
  have g7 : w5.frozen? ⟨b, 7, none⟩ = false := HB.out.free 7
  have g8 : w5.frozen? ⟨b, 8, none⟩ = false := HB.out.free 8
  have g9 : w5.frozen? ⟨b, 9, none⟩ = false := HB.out.free 9
  have g10 : w5.frozen? ⟨b, 10, none⟩ = false := HB.out.free 10
  go_upto_region 14 with fail
  have hk1 := (((((((((Chg.refl [b] w5).setCell (p := ⟨b, 3, none⟩) (fun _ => List.mem_singleton.2 rfl) (.int .u64 0)).setCell (p := ⟨b, 4, none⟩) (fun _ => List.mem_singleton.2 rfl) (.int .u64 0)).setCell (p := ⟨b, 5, none⟩) (fun _ => List.mem_singleton.2 rfl) (.int .u64 0)).setCell (p := ⟨b, 6, none⟩) (fun _ => List.mem_singleton.2 rfl) (.int .u64 0)).setCell (p := ⟨b, 7, none⟩) (fun _ => List.mem_singleton.2 rfl) (.int .u64 0)).setCell (p := ⟨b, 8, none⟩) (fun _ => List.mem_singleton.2 rfl) (.int .u64 0)).setCell (p := ⟨b, 9, none⟩) (fun _ => List.mem_singleton.2 rfl) (.int .u64 0)).setCell (p := ⟨b, 10, none⟩) (fun _ => List.mem_singleton.2 rfl) (.int .u64 0))
  have hB1 := ((((((((HB.out.set 3 (.int .u64 0)).set 4 (.int .u64 0)).set 5 (.int .u64 0)).set 6 (.int .u64 0)).set 7 (.int .u64 0)).set 8 (.int .u64 0)).set 9 (.int .u64 0)).set 10 (.int .u64 0))
  have hdd : d ≠ b := Ne.symm (HB.out.ne HP.out.D.D.blk (by decide))
  have hmm : bm ≠ b := by obtain ⟨_, hm⟩ := HP.out.D.D.mem.m; exact Ne.symm (HB.out.ne hm (by decide))
  have hP1 := HP.out.own2 hk1 (by simpa using hdd) (by simpa using hmm) (fun x hx => by rw [List.mem_singleton.1 hx]; exact ⟨Nat.le_of_eq HNb.out, by rw [set_self_at hi]; exact HBf.out⟩)
  have hB2 : Blk _ b [.int .i64 1, .int .i64 m.c, .int .i64 m.l, .int .u64 0, .int .u64 0, .int .u64 0, .int .u64 0, .int .u64 0, .int .u64 0, .int .u64 0, .int .u64 0] 33 := hB1
  replace HP := Lib.hid hP1; replace HB := Lib.hid hB2
  clear hk1 hB1 hP1 hB2 hmm hdd mlt blt m0 m1 m2 m3 m4 m5 m6 m7 m8 m9 m10 g3 g4 g5 g6 g7 g8 g9 g10
  generalize World.setCell _ _ _ = w6 at *
  have mlt : b < w6.heap.size := HB.out.lt
  have blt : bl < w6.heap.size := Blk.lt HP.out.D.D.ents
  have hdb : b ≠ bl := HB.out.ne HP.out.D.D.ents (by decide)
  have m0 : w6.cell? ⟨b, 0, none⟩ = some (.int .i64 1) := HB.out.cell 0
  have m1 : w6.cell? ⟨b, 1, none⟩ = some (.int .i64 m.c) := HB.out.cell 1
  have m2 : w6.cell? ⟨b, 2, none⟩ = some (.int .i64 (i : Int)) := (HB.out.cell 2).trans (by rw [← HMl.out]; rfl)
  have m3 : w6.cell? ⟨b, 3, none⟩ = some (.int .u64 0) := HB.out.cell 3
  have m4 : w6.cell? ⟨b, 4, none⟩ = some (.int .u64 0) := HB.out.cell 4
  have m5 : w6.cell? ⟨b, 5, none⟩ = some (.int .u64 0) := HB.out.cell 5
  have m6 : w6.cell? ⟨b, 6, none⟩ = some (.int .u64 0) := HB.out.cell 6
  have m7 : w6.cell? ⟨b, 7, none⟩ = some (.int .u64 0) := HB.out.cell 7
  have m8 : w6.cell? ⟨b, 8, none⟩ = some (.int .u64 0) := HB.out.cell 8
  have m9 : w6.cell? ⟨b, 9, none⟩ = some (.int .u64 0) := HB.out.cell 9
  have m10 : w6.cell? ⟨b, 10, none⟩ = some (.int .u64 0) := HB.out.cell 10
  have e13 : w6.cell? ⟨bl, p + 13, none⟩ = some (.int .i64 es[i].ph) := HP.out.cell hi HPi.out (j := 13) (by decide)
  have hphn := HR.out
  have hi1 : i < (es.set i es[i]).length := by rw [List.length_set]; exact hi
  have hwai := HP.out.D.wait i hi1
  rw [List.getElem_set_self] at hwai
  have HW := Lib.hid hwai; clear hwai
  have e15 : w6.cell? ⟨bl, p + 15, none⟩ = some es[i].wt := HP.out.cell hi HPi.out (j := 15) (by decide)
  have f15 : w6.frozen? ⟨bl, p + 15, none⟩ = false := HP.out.free _
  go_upto_region 15 with fail
  go_region_law (refine step_append_wait (by rfl) (.tmp 52) (.tmp 54) (by rfl) j0 hj hy0 hy1 hy2 (by rfl) (HW.out.chg ((((Chg.refl [] w6).drew)).alloc _) (by simp)) ⟨w6.heap.size, 0, none⟩ 1 (by rfl) ⟨1, m.c, (i : Int), {}⟩ (cells_new w6.drew [.int .i64 1, .int .i64 m.c, .int .i64 (i : Int), .int .u64 0, .int .u64 0, .int .u64 0, .int .u64 0, .int .u64 0, .int .u64 0, .int .u64 0, .int .u64 0] _) HLn.out ?_; intro v7 w7 hW7 hk7 hg7; obtain ⟨A7, c7, hv7, _, _, _⟩ := hW7.rd; rw [List.length_append, List.length_singleton] at hv7; subst hv7; have hx7 := (((Chg.refl (sliceB es[i].wt) w6).drew).alloc (.cells #[.int .i64 1, .int .i64 m.c, .int .i64 (i : Int), .int .u64 0, .int .u64 0, .int .u64 0, .int .u64 0, .int .u64 0, .int .u64 0, .int .u64 0, .int .u64 0] 33)).trans hk7; have HW7 := Lib.hid hW7; have HK7 := Lib.hid hx7; have HG7 := Lib.hid hg7; clear hW7 hk7 hg7 hx7; have q15 : w7.cell? ⟨bl, p + 15, none⟩ = some es[i].wt := HP.out.wt_after hi HPi.out HK7.out; have k15 : w7.frozen? ⟨bl, p + 15, none⟩ = false := (HP.out.ents_after hi HK7.out).free _)
  all_goals (have hP8 := HP.out.waited hi HPi.out HK7.out HW7.out (fun g hg => (HG7.out g hg).imp id (fun h => by simp at h; omega)); replace HP := Lib.hid hP8; clear hP8 HW7 HK7 HG7 q15 k15 e15 f15 HW mlt blt HB; generalize World.setCell _ _ _ = w8 at *; go_wp2_with fail; go_ret2; exact ⟨_, rfl, HP.out⟩)
set_option maxHeartbeats 8000000 in
theorem Hear_2w (w : World) (d bm bw bl n : Nat) (cores : Int) (ws : List Int) (es : List EntV) (i : Nat) (hi : i < es.length) (m : MsgV) (hml : m.l = (i : Int)) (hc : 0 ≤ m.c ∧ m.c < cores) (hco : cores ≤ 4) (D : DirW w d bm bw bl n cores ws es) (hk : m.k = 2) (hmay : mayB es[i] m = true) (hr : es[i].ph ≠ 0) (hln2 : es[i].wl.length ≤ 100000) :
    Calls Try.prog 7 #[.pointer (some ⟨d, 0, none⟩), .agg #[.int .i64 m.k, .int .i64 m.c, .int .i64 m.l, .int .u64 m.d.x0, .int .u64 m.d.x1, .int .u64 m.d.x2, .int .u64 m.d.x3, .int .u64 m.d.x4, .int .u64 m.d.x5, .int .u64 m.d.x6, .int .u64 m.d.x7]] w (fun e w' => ∃ v, e = .returned (.tuple #[.slice none 0 0, .int .i64 0]) ∧ DirPost w w' d bm bw bl n cores es ws (es.set i { es[i] with wt := v, wl := es[i].wl ++ [⟨2, m.c, (i : Int), {}⟩] })) := by
  have HR := Lib.hid hr; have HLn := Lib.hid hln2; clear hr hln2
  have HBf := Lib.hid (show w.heap.size ∉ dirB bw bl es from fun h => Nat.lt_irrefl _ (D.lt _ h))
  obtain ⟨j0, hj, hy0, hy1, hy2⟩ := info_parts infoMsg
  obtain ⟨c0, c1⟩ := hc
  have HMl := Lib.hid hml; have HK := Lib.hid hk; clear hml hk
  have hal : Chg [] w (w.alloc (.cells #[.int .i64 m.k, .int .i64 m.c, .int .i64 m.l, .int .u64 m.d.x0, .int .u64 m.d.x1, .int .u64 m.d.x2, .int .u64 m.d.x3, .int .u64 m.d.x4, .int .u64 m.d.x5, .int .u64 m.d.x6, .int .u64 m.d.x7] 33)) := (Chg.refl [] w).alloc _
  have HP := Lib.hid (DirPost.look D hal)
  have HB := Lib.hid (Blk.new w [.int .i64 m.k, .int .i64 m.c, .int .i64 m.l, .int .u64 m.d.x0, .int .u64 m.d.x1, .int .u64 m.d.x2, .int .u64 m.d.x3, .int .u64 m.d.x4, .int .u64 m.d.x5, .int .u64 m.d.x6, .int .u64 m.d.x7] 33)
  have hln := D.D.len
  have hn64 := D.D.mem.small
  clear D hal
  go_enter Try.func7, Try.ntmps7
  go_upto_region 1 with fail
  generalize World.alloc _ _ = wa at *
  obtain ⟨b, hb⟩ : ∃ b, w.heap.size = b := ⟨_, rfl⟩
  have HNb := Lib.hid hb
  rw [hb] at HB ⊢
  clear hb
  have m2 : wa.cell? ⟨b, 2, none⟩ = some (.int .i64 (i : Int)) := (HB.out.cell 2).trans (by rw [← HMl.out]; rfl)
  have mlt : b < wa.heap.size := HB.out.lt
  have d2 : wa.cell? ⟨d, 2, none⟩ = some (.slice (some ⟨bl, 0, none⟩) n n) := HP.out.D.D.blk.cell 2
  have dlt : d < wa.heap.size := HP.out.D.D.blk.lt
  have HAt := Lib.hid (dat_ok wa d bl n n (i : Int) (by omega) (by omega) d2)
  have d1 : wa.cell? ⟨d, 1, none⟩ = some (.int .i64 cores) := HP.out.D.D.blk.cell 1
  have m0 : wa.cell? ⟨b, 0, none⟩ = some (.int .i64 m.k) := HB.out.cell 0
  have m1 : wa.cell? ⟨b, 1, none⟩ = some (.int .i64 m.c) := HB.out.cell 1
  have m3 : wa.cell? ⟨b, 3, none⟩ = some (.int .u64 m.d.x0) := HB.out.cell 3
  have m4 : wa.cell? ⟨b, 4, none⟩ = some (.int .u64 m.d.x1) := HB.out.cell 4
  have m5 : wa.cell? ⟨b, 5, none⟩ = some (.int .u64 m.d.x2) := HB.out.cell 5
  have m6 : wa.cell? ⟨b, 6, none⟩ = some (.int .u64 m.d.x3) := HB.out.cell 6
  have m7 : wa.cell? ⟨b, 7, none⟩ = some (.int .u64 m.d.x4) := HB.out.cell 7
  have m8 : wa.cell? ⟨b, 8, none⟩ = some (.int .u64 m.d.x5) := HB.out.cell 8
  have m9 : wa.cell? ⟨b, 9, none⟩ = some (.int .u64 m.d.x6) := HB.out.cell 9
  have m10 : wa.cell? ⟨b, 10, none⟩ = some (.int .u64 m.d.x7) := HB.out.cell 10
  go_wp2_with fail
  refine HAt.out.mono ?_
  rintro e w1 ⟨rfl, rfl⟩
  rw [Int.toNat_natCast]
  go_wp2_with fail
  go_quiet (fail)
  go_wp2_with fail
  have hq1 : Chg [] wa (wa.drewN nq) := (Chg.refl [] wa).drewN nq
  have HMay := Lib.hid (may_any (wa.drewN nq) bl es i hi m ⟨c0, by omega⟩ (hq1.blk HP.out.D.D.ents (by simp)) ((HP.out.D.wait i hi).chg hq1 (by simp)))
  rw [show m.val = .agg #[.int .i64 m.k, .int .i64 m.c, .int .i64 m.l, .int .u64 m.d.x0, .int .u64 m.d.x1, .int .u64 m.d.x2, .int .u64 m.d.x3, .int .u64 m.d.x4, .int .u64 m.d.x5, .int .u64 m.d.x6, .int .u64 m.d.x7] from rfl, HMl.out] at HMay
  refine HMay.out.mono ?_
  rintro e w5 ⟨rfl, hx⟩
  have hx2 := hq1.trans hx
  replace HP := Lib.hid (HP.out.trans (DirPost.look HP.out.D hx2))
  replace HB := Lib.hid (hx2.blk HB.out (by simp))
  clear hx hx2 hq1 HMay HAt d1 d2 dlt mlt m2 m0 m1 m3 m4 m5 m6 m7 m8 m9 m10
  rw [hmay]
  obtain ⟨p, hp⟩ : ∃ p, i * 16 = p := ⟨_, rfl⟩
  have HPi := Lib.hid hp
  rw [hp]
  clear hp hmay
  have mlt : b < w5.heap.size := HB.out.lt
  have blt : bl < w5.heap.size := Blk.lt HP.out.D.D.ents
  have hdb : b ≠ bl := HB.out.ne HP.out.D.D.ents (by decide)
  rw [HNb.out] at HBf
  rw [HK.out] at HB
  have m0 : w5.cell? ⟨b, 0, none⟩ = some (.int .i64 2) := HB.out.cell 0
  have m1 : w5.cell? ⟨b, 1, none⟩ = some (.int .i64 m.c) := HB.out.cell 1
  have m2 : w5.cell? ⟨b, 2, none⟩ = some (.int .i64 (i : Int)) := (HB.out.cell 2).trans (by rw [← HMl.out]; rfl)
  have m3 : w5.cell? ⟨b, 3, none⟩ = some (.int .u64 m.d.x0) := HB.out.cell 3
  have m4 : w5.cell? ⟨b, 4, none⟩ = some (.int .u64 m.d.x1) := HB.out.cell 4
  have m5 : w5.cell? ⟨b, 5, none⟩ = some (.int .u64 m.d.x2) := HB.out.cell 5
  have m6 : w5.cell? ⟨b, 6, none⟩ = some (.int .u64 m.d.x3) := HB.out.cell 6
  have m7 : w5.cell? ⟨b, 7, none⟩ = some (.int .u64 m.d.x4) := HB.out.cell 7
  have m8 : w5.cell? ⟨b, 8, none⟩ = some (.int .u64 m.d.x5) := HB.out.cell 8
  have m9 : w5.cell? ⟨b, 9, none⟩ = some (.int .u64 m.d.x6) := HB.out.cell 9
  have m10 : w5.cell? ⟨b, 10, none⟩ = some (.int .u64 m.d.x7) := HB.out.cell 10
  replace HP := Lib.hid (HP.out.start hi)
  have g3 : w5.frozen? ⟨b, 3, none⟩ = false := HB.out.free 3
  have g4 : w5.frozen? ⟨b, 4, none⟩ = false := HB.out.free 4
  have g5 : w5.frozen? ⟨b, 5, none⟩ = false := HB.out.free 5
  have g6 : w5.frozen? ⟨b, 6, none⟩ = false := HB.out.free 6
  have g7 : w5.frozen? ⟨b, 7, none⟩ = false := HB.out.free 7
  have g8 : w5.frozen? ⟨b, 8, none⟩ = false := HB.out.free 8
  have g9 : w5.frozen? ⟨b, 9, none⟩ = false := HB.out.free 9
  have g10 : w5.frozen? ⟨b, 10, none⟩ = false := HB.out.free 10
  go_upto_region 14 with fail
  have hk1 := (((((((((Chg.refl [b] w5).setCell (p := ⟨b, 3, none⟩) (fun _ => List.mem_singleton.2 rfl) (.int .u64 0)).setCell (p := ⟨b, 4, none⟩) (fun _ => List.mem_singleton.2 rfl) (.int .u64 0)).setCell (p := ⟨b, 5, none⟩) (fun _ => List.mem_singleton.2 rfl) (.int .u64 0)).setCell (p := ⟨b, 6, none⟩) (fun _ => List.mem_singleton.2 rfl) (.int .u64 0)).setCell (p := ⟨b, 7, none⟩) (fun _ => List.mem_singleton.2 rfl) (.int .u64 0)).setCell (p := ⟨b, 8, none⟩) (fun _ => List.mem_singleton.2 rfl) (.int .u64 0)).setCell (p := ⟨b, 9, none⟩) (fun _ => List.mem_singleton.2 rfl) (.int .u64 0)).setCell (p := ⟨b, 10, none⟩) (fun _ => List.mem_singleton.2 rfl) (.int .u64 0))
  have hB1 := ((((((((HB.out.set 3 (.int .u64 0)).set 4 (.int .u64 0)).set 5 (.int .u64 0)).set 6 (.int .u64 0)).set 7 (.int .u64 0)).set 8 (.int .u64 0)).set 9 (.int .u64 0)).set 10 (.int .u64 0))
  have hdd : d ≠ b := Ne.symm (HB.out.ne HP.out.D.D.blk (by decide))
  have hmm : bm ≠ b := by obtain ⟨_, hm⟩ := HP.out.D.D.mem.m; exact Ne.symm (HB.out.ne hm (by decide))
  have hP1 := HP.out.own2 hk1 (by simpa using hdd) (by simpa using hmm) (fun x hx => by rw [List.mem_singleton.1 hx]; exact ⟨Nat.le_of_eq HNb.out, by rw [set_self_at hi]; exact HBf.out⟩)
  have hB2 : Blk _ b [.int .i64 2, .int .i64 m.c, .int .i64 m.l, .int .u64 0, .int .u64 0, .int .u64 0, .int .u64 0, .int .u64 0, .int .u64 0, .int .u64 0, .int .u64 0] 33 := hB1
  replace HP := Lib.hid hP1; replace HB := Lib.hid hB2
  clear hk1 hB1 hP1 hB2 hmm hdd mlt blt m0 m1 m2 m3 m4 m5 m6 m7 m8 m9 m10 g3 g4 g5 g6 g7 g8 g9 g10
  generalize World.setCell _ _ _ = w6 at *
  have mlt : b < w6.heap.size := HB.out.lt
  have blt : bl < w6.heap.size := Blk.lt HP.out.D.D.ents
  have hdb : b ≠ bl := HB.out.ne HP.out.D.D.ents (by decide)
  have m0 : w6.cell? ⟨b, 0, none⟩ = some (.int .i64 2) := HB.out.cell 0
  have m1 : w6.cell? ⟨b, 1, none⟩ = some (.int .i64 m.c) := HB.out.cell 1
  have m2 : w6.cell? ⟨b, 2, none⟩ = some (.int .i64 (i : Int)) := (HB.out.cell 2).trans (by rw [← HMl.out]; rfl)
  have m3 : w6.cell? ⟨b, 3, none⟩ = some (.int .u64 0) := HB.out.cell 3
  have m4 : w6.cell? ⟨b, 4, none⟩ = some (.int .u64 0) := HB.out.cell 4
  have m5 : w6.cell? ⟨b, 5, none⟩ = some (.int .u64 0) := HB.out.cell 5
  have m6 : w6.cell? ⟨b, 6, none⟩ = some (.int .u64 0) := HB.out.cell 6
  have m7 : w6.cell? ⟨b, 7, none⟩ = some (.int .u64 0) := HB.out.cell 7
  have m8 : w6.cell? ⟨b, 8, none⟩ = some (.int .u64 0) := HB.out.cell 8
  have m9 : w6.cell? ⟨b, 9, none⟩ = some (.int .u64 0) := HB.out.cell 9
  have m10 : w6.cell? ⟨b, 10, none⟩ = some (.int .u64 0) := HB.out.cell 10
  have e13 : w6.cell? ⟨bl, p + 13, none⟩ = some (.int .i64 es[i].ph) := HP.out.cell hi HPi.out (j := 13) (by decide)
  have hphn := HR.out
  have hi1 : i < (es.set i es[i]).length := by rw [List.length_set]; exact hi
  have hwai := HP.out.D.wait i hi1
  rw [List.getElem_set_self] at hwai
  have HW := Lib.hid hwai; clear hwai
  have e15 : w6.cell? ⟨bl, p + 15, none⟩ = some es[i].wt := HP.out.cell hi HPi.out (j := 15) (by decide)
  have f15 : w6.frozen? ⟨bl, p + 15, none⟩ = false := HP.out.free _
  go_upto_region 15 with fail
  go_region_law (refine step_append_wait (by rfl) (.tmp 52) (.tmp 54) (by rfl) j0 hj hy0 hy1 hy2 (by rfl) (HW.out.chg ((((Chg.refl [] w6).drew)).alloc _) (by simp)) ⟨w6.heap.size, 0, none⟩ 1 (by rfl) ⟨2, m.c, (i : Int), {}⟩ (cells_new w6.drew [.int .i64 2, .int .i64 m.c, .int .i64 (i : Int), .int .u64 0, .int .u64 0, .int .u64 0, .int .u64 0, .int .u64 0, .int .u64 0, .int .u64 0, .int .u64 0] _) HLn.out ?_; intro v7 w7 hW7 hk7 hg7; obtain ⟨A7, c7, hv7, _, _, _⟩ := hW7.rd; rw [List.length_append, List.length_singleton] at hv7; subst hv7; have hx7 := (((Chg.refl (sliceB es[i].wt) w6).drew).alloc (.cells #[.int .i64 2, .int .i64 m.c, .int .i64 (i : Int), .int .u64 0, .int .u64 0, .int .u64 0, .int .u64 0, .int .u64 0, .int .u64 0, .int .u64 0, .int .u64 0] 33)).trans hk7; have HW7 := Lib.hid hW7; have HK7 := Lib.hid hx7; have HG7 := Lib.hid hg7; clear hW7 hk7 hg7 hx7; have q15 : w7.cell? ⟨bl, p + 15, none⟩ = some es[i].wt := HP.out.wt_after hi HPi.out HK7.out; have k15 : w7.frozen? ⟨bl, p + 15, none⟩ = false := (HP.out.ents_after hi HK7.out).free _)
  all_goals (have hP8 := HP.out.waited hi HPi.out HK7.out HW7.out (fun g hg => (HG7.out g hg).imp id (fun h => by simp at h; omega)); replace HP := Lib.hid hP8; clear hP8 HW7 HK7 HG7 q15 k15 e15 f15 HW mlt blt HB; generalize World.setCell _ _ _ = w8 at *; go_wp2_with fail; go_ret2; exact ⟨_, rfl, HP.out⟩)

end Go.Proofs.Ytepdhajgemmoiaa
