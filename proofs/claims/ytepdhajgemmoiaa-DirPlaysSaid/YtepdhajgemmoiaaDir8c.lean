/- A directory's begin that asks. -/
import Derived.Test.YtepdhajgemmoiaaDir8b
namespace Go.Proofs.Ytepdhajgemmoiaa
set_option maxRecDepth 100000
open Go.RowKit Go.Shelf


attribute [local go_sem] Oper.semAt_some

/-- **c.each()**: the set is boxed. -/
theorem each_in (n : Nat) (s : Int) (w : World) :
    CallsIn Fence.wide n Try.prog 31 #[.int .u8 s] w fun e w' => e = .returned (.func (.func 50) #[] #[.pointer (some ⟨w.heap.size, 0, none⟩)]) ∧ w' = w.alloc (.cells #[.int .u8 s] 76) := by
  refine callsIn_of_wp Try.func31 rfl trivial ?_ rfl
  simp only [Try.ntmps31, List.size_toArray, List.length_cons, List.length_nil, Nat.reduceAdd, Nat.reduceSub, Array.replicate_succ, Array.replicate_zero, List.push_toArray, List.append_toArray, List.nil_append, List.cons_append]
  gi_wp2
  go_ret
  exact ⟨rfl, rfl⟩
theorem each_stops (n : Nat) (hn : 1 ≤ n) (Bs n₀ : Nat) (s : Int) (w : World) (hB : Boxed w Bs 76 (.int .u8 s)) :
    SeqStopsK Fence.wide n Try.prog 50 #[.pointer (some ⟨Bs, 0, none⟩)] (fun x : Nat => #[.int .i64 (x : Int)]) (KeepB n₀ Bs) (fun ys => ys = coresL s 4) (fun pre => pre <+: coresL s 4) 4 w := fun l J Jx W hW hJ _ hY h0 =>
  each1_in n hn l Bs n₀ s J Jx (fun pre X q h => hJ pre X _ none h ⟨rfl, rfl, rfl, Nat.le_refl _, fun _ _ _ => rfl⟩ (fun r e => by cases e)) hY W ((hW.block _ hB.lt).trans hB) h0

theorem Chg.then_below {S : List Nat} {a w w' : World} {n : Nat} (h : Chg S a w) (k : Below n w w') (hn : a.heap.size ≤ n) : Chg S a w' :=
  ⟨k.os.trans h.os, k.tape.trans h.tape, k.output.trans h.output, Nat.le_trans h.size k.size, fun j hj hs => (k.block j (Nat.lt_of_lt_of_le hj hn)).trans (h.block j hj hs)⟩
theorem DirAt.below {w w' : World} {d bm bw bl n : Nat} {cores : Int} {ws : List Int} {es : List EntV} {n₀ : Nat} (D : DirAt w d bm bw bl n cores ws es) (k : Below n₀ w w') (h1 : d < n₀) (h2 : bm < n₀) (h3 : bw < n₀) (h4 : bl < n₀) : DirAt w' d bm bw bl n cores ws es :=
  ⟨(k.block _ h1).trans D.blk, D.mem.below k h2 h3, (k.block _ h4).trans D.ents, D.len⟩
theorem ownsRow_base {w : World} {base base' : Nat} {e : TypeId} {size : Nat} {v : Value} {n : Nat} {xs : List Value} (h : w.ownsRow base e size v n xs) (hb : base' ≤ base) : w.ownsRow base' e size v n xs := by
  obtain ⟨h0, h1 | ⟨g, cap, cur, e1, e2, e3⟩⟩ := h
  · exact ⟨h0, .inl h1⟩
  · exact ⟨h0, .inr ⟨g, cap, cur, e1, Nat.le_trans hb e2, e3⟩⟩

theorem infoMsg : (Try.prog.info? 33).map (fun i => (i.zero, i.size, i.bytes)) = some (some (.agg #[.int .i64 0, .int .i64 0, .int .i64 0, .int .u64 0, .int .u64 0, .int .u64 0, .int .u64 0, .int .u64 0, .int .u64 0, .int .u64 0, .int .u64 0]), 11, 88) := by kernel_rfl

set_option maxHeartbeats 8000000 in
theorem begin_ack (w : World) (d bm bw bl n : Nat) (cores : Int) (ws : List Int) (es : List EntV) (i : Nat) (hi : i < es.length) (m : MsgV) (hc : 0 ≤ m.c ∧ m.c < 4) (ho : es[i].ow < 0) (hk : m.k ≠ 1) (hn0 : notB es[i].sh m.c ≠ 0) (D : DirAt w d bm bw bl n cores ws es) :
    Calls Try.prog 27 #[.pointer (some ⟨d, 0, none⟩), .pointer (some ⟨bl, i * 16, none⟩), .agg #[.int .i64 m.k, .int .i64 m.c, .int .i64 m.l, .int .u64 m.d.x0, .int .u64 m.d.x1, .int .u64 m.d.x2, .int .u64 m.d.x3, .int .u64 m.d.x4, .int .u64 m.d.x5, .int .u64 m.d.x6, .int .u64 m.d.x7]] w (OutPost w d bm bw bl n cores ws (es.set i (ackE es[i] m)) (ackM es[i] m)) := by
  obtain ⟨c0, c1⟩ := hc
  have hal : Chg [] w (w.alloc (.cells #[.int .i64 m.k, .int .i64 m.c, .int .i64 m.l, .int .u64 m.d.x0, .int .u64 m.d.x1, .int .u64 m.d.x2, .int .u64 m.d.x3, .int .u64 m.d.x4, .int .u64 m.d.x5, .int .u64 m.d.x6, .int .u64 m.d.x7] 33)) := (Chg.refl [] w).alloc _
  have HD := Lib.hid (D.look hal)
  have HB := Lib.hid (Blk.new w [.int .i64 m.k, .int .i64 m.c, .int .i64 m.l, .int .u64 m.d.x0, .int .u64 m.d.x1, .int .u64 m.d.x2, .int .u64 m.d.x3, .int .u64 m.d.x4, .int .u64 m.d.x5, .int .u64 m.d.x6, .int .u64 m.d.x7] 33)
  have HC := Lib.hid (hal.mono (T := [bl]) (by simp))
  have hbl0 : bl < w.heap.size := Blk.lt D.ents
  clear D hal
  refine (callsIn_wide (n := 3)).1 (callsIn_of_wp_marks Try.func27 rfl trivial ?_ rfl)
  simp only [Try.ntmps27, List.size_toArray, List.length_cons, List.length_nil, Nat.reduceAdd, Nat.reduceSub, Array.replicate_succ, Array.replicate_zero, List.push_toArray, List.append_toArray, List.nil_append, List.cons_append]
  rw [wpIn_wide]
  go_upto_region 1 with fail
  generalize World.alloc _ _ = wa at *
  obtain ⟨b, hb⟩ : ∃ b, w.heap.size = b := ⟨_, rfl⟩
  have HNb := Lib.hid hb
  rw [hb] at HB hbl0 ⊢
  clear hb
  have m0 : wa.cell? ⟨b, 0, none⟩ = some (.int .i64 m.k) := HB.out.cell 0
  have m1 : wa.cell? ⟨b, 1, none⟩ = some (.int .i64 m.c) := HB.out.cell 1
  have m2 : wa.cell? ⟨b, 2, none⟩ = some (.int .i64 m.l) := HB.out.cell 2
  have m3 : wa.cell? ⟨b, 3, none⟩ = some (.int .u64 m.d.x0) := HB.out.cell 3
  have m4 : wa.cell? ⟨b, 4, none⟩ = some (.int .u64 m.d.x1) := HB.out.cell 4
  have m5 : wa.cell? ⟨b, 5, none⟩ = some (.int .u64 m.d.x2) := HB.out.cell 5
  have m6 : wa.cell? ⟨b, 6, none⟩ = some (.int .u64 m.d.x3) := HB.out.cell 6
  have m7 : wa.cell? ⟨b, 7, none⟩ = some (.int .u64 m.d.x4) := HB.out.cell 7
  have m8 : wa.cell? ⟨b, 8, none⟩ = some (.int .u64 m.d.x5) := HB.out.cell 8
  have m9 : wa.cell? ⟨b, 9, none⟩ = some (.int .u64 m.d.x6) := HB.out.cell 9
  have m10 : wa.cell? ⟨b, 10, none⟩ = some (.int .u64 m.d.x7) := HB.out.cell 10
  have mlt : b < wa.heap.size := HB.out.lt
  have blt : bl < wa.heap.size := Blk.lt HD.out.ents
  have hdb : b ≠ bl := by omega
  obtain ⟨p, hp⟩ : ∃ p, i * 16 = p := ⟨_, rfl⟩
  have e2 : wa.cell? ⟨bl, p + 2, none⟩ = some (.int .i64 es[i].un.k) := by rw [← hp]; exact HD.out.ents.cell hi (j := 2) (by decide)
  have f2 : wa.frozen? ⟨bl, p + 2, none⟩ = false := HD.out.ents.free _
  have e3 : wa.cell? ⟨bl, p + 3, none⟩ = some (.int .i64 es[i].un.c) := by rw [← hp]; exact HD.out.ents.cell hi (j := 3) (by decide)
  have f3 : wa.frozen? ⟨bl, p + 3, none⟩ = false := HD.out.ents.free _
  have e4 : wa.cell? ⟨bl, p + 4, none⟩ = some (.int .i64 es[i].un.l) := by rw [← hp]; exact HD.out.ents.cell hi (j := 4) (by decide)
  have f4 : wa.frozen? ⟨bl, p + 4, none⟩ = false := HD.out.ents.free _
  have e5 : wa.cell? ⟨bl, p + 5, none⟩ = some (.int .u64 es[i].un.d.x0) := by rw [← hp]; exact HD.out.ents.cell hi (j := 5) (by decide)
  have f5 : wa.frozen? ⟨bl, p + 5, none⟩ = false := HD.out.ents.free _
  have e6 : wa.cell? ⟨bl, p + 6, none⟩ = some (.int .u64 es[i].un.d.x1) := by rw [← hp]; exact HD.out.ents.cell hi (j := 6) (by decide)
  have f6 : wa.frozen? ⟨bl, p + 6, none⟩ = false := HD.out.ents.free _
  have e7 : wa.cell? ⟨bl, p + 7, none⟩ = some (.int .u64 es[i].un.d.x2) := by rw [← hp]; exact HD.out.ents.cell hi (j := 7) (by decide)
  have f7 : wa.frozen? ⟨bl, p + 7, none⟩ = false := HD.out.ents.free _
  have e8 : wa.cell? ⟨bl, p + 8, none⟩ = some (.int .u64 es[i].un.d.x3) := by rw [← hp]; exact HD.out.ents.cell hi (j := 8) (by decide)
  have f8 : wa.frozen? ⟨bl, p + 8, none⟩ = false := HD.out.ents.free _
  have e9 : wa.cell? ⟨bl, p + 9, none⟩ = some (.int .u64 es[i].un.d.x4) := by rw [← hp]; exact HD.out.ents.cell hi (j := 9) (by decide)
  have f9 : wa.frozen? ⟨bl, p + 9, none⟩ = false := HD.out.ents.free _
  have e10 : wa.cell? ⟨bl, p + 10, none⟩ = some (.int .u64 es[i].un.d.x5) := by rw [← hp]; exact HD.out.ents.cell hi (j := 10) (by decide)
  have f10 : wa.frozen? ⟨bl, p + 10, none⟩ = false := HD.out.ents.free _
  have e11 : wa.cell? ⟨bl, p + 11, none⟩ = some (.int .u64 es[i].un.d.x6) := by rw [← hp]; exact HD.out.ents.cell hi (j := 11) (by decide)
  have f11 : wa.frozen? ⟨bl, p + 11, none⟩ = false := HD.out.ents.free _
  have e12 : wa.cell? ⟨bl, p + 12, none⟩ = some (.int .u64 es[i].un.d.x7) := by rw [← hp]; exact HD.out.ents.cell hi (j := 12) (by decide)
  have f12 : wa.frozen? ⟨bl, p + 12, none⟩ = false := HD.out.ents.free _
  have HP := Lib.hid hp
  rw [hp]
  clear hp
  go_upto_region 2 with fail
  have hE := HD.out.ents
  replace hE := hE.set hi (j := 2) (by decide) (v := .int .i64 m.k) (e := { es[i] with un := ⟨m.k, es[i].un.c, es[i].un.l, ⟨es[i].un.d.x0, es[i].un.d.x1, es[i].un.d.x2, es[i].un.d.x3, es[i].un.d.x4, es[i].un.d.x5, es[i].un.d.x6, es[i].un.d.x7⟩⟩ }) rfl
  replace hE := EntsAt.set hE (by rw [List.length_set]; exact hi) (j := 3) (by decide) (v := .int .i64 m.c) (e := { es[i] with un := ⟨m.k, m.c, es[i].un.l, ⟨es[i].un.d.x0, es[i].un.d.x1, es[i].un.d.x2, es[i].un.d.x3, es[i].un.d.x4, es[i].un.d.x5, es[i].un.d.x6, es[i].un.d.x7⟩⟩ }) (by rw [List.getElem_set_self]; rfl)
  rw [List.set_set] at hE
  replace hE := EntsAt.set hE (by rw [List.length_set]; exact hi) (j := 4) (by decide) (v := .int .i64 m.l) (e := { es[i] with un := ⟨m.k, m.c, m.l, ⟨es[i].un.d.x0, es[i].un.d.x1, es[i].un.d.x2, es[i].un.d.x3, es[i].un.d.x4, es[i].un.d.x5, es[i].un.d.x6, es[i].un.d.x7⟩⟩ }) (by rw [List.getElem_set_self]; rfl)
  rw [List.set_set] at hE
  replace hE := EntsAt.set hE (by rw [List.length_set]; exact hi) (j := 5) (by decide) (v := .int .u64 m.d.x0) (e := { es[i] with un := ⟨m.k, m.c, m.l, ⟨m.d.x0, es[i].un.d.x1, es[i].un.d.x2, es[i].un.d.x3, es[i].un.d.x4, es[i].un.d.x5, es[i].un.d.x6, es[i].un.d.x7⟩⟩ }) (by rw [List.getElem_set_self]; rfl)
  rw [List.set_set] at hE
  replace hE := EntsAt.set hE (by rw [List.length_set]; exact hi) (j := 6) (by decide) (v := .int .u64 m.d.x1) (e := { es[i] with un := ⟨m.k, m.c, m.l, ⟨m.d.x0, m.d.x1, es[i].un.d.x2, es[i].un.d.x3, es[i].un.d.x4, es[i].un.d.x5, es[i].un.d.x6, es[i].un.d.x7⟩⟩ }) (by rw [List.getElem_set_self]; rfl)
  rw [List.set_set] at hE
  replace hE := EntsAt.set hE (by rw [List.length_set]; exact hi) (j := 7) (by decide) (v := .int .u64 m.d.x2) (e := { es[i] with un := ⟨m.k, m.c, m.l, ⟨m.d.x0, m.d.x1, m.d.x2, es[i].un.d.x3, es[i].un.d.x4, es[i].un.d.x5, es[i].un.d.x6, es[i].un.d.x7⟩⟩ }) (by rw [List.getElem_set_self]; rfl)
  rw [List.set_set] at hE
  replace hE := EntsAt.set hE (by rw [List.length_set]; exact hi) (j := 8) (by decide) (v := .int .u64 m.d.x3) (e := { es[i] with un := ⟨m.k, m.c, m.l, ⟨m.d.x0, m.d.x1, m.d.x2, m.d.x3, es[i].un.d.x4, es[i].un.d.x5, es[i].un.d.x6, es[i].un.d.x7⟩⟩ }) (by rw [List.getElem_set_self]; rfl)
  rw [List.set_set] at hE
  replace hE := EntsAt.set hE (by rw [List.length_set]; exact hi) (j := 9) (by decide) (v := .int .u64 m.d.x4) (e := { es[i] with un := ⟨m.k, m.c, m.l, ⟨m.d.x0, m.d.x1, m.d.x2, m.d.x3, m.d.x4, es[i].un.d.x5, es[i].un.d.x6, es[i].un.d.x7⟩⟩ }) (by rw [List.getElem_set_self]; rfl)
  rw [List.set_set] at hE
  replace hE := EntsAt.set hE (by rw [List.length_set]; exact hi) (j := 10) (by decide) (v := .int .u64 m.d.x5) (e := { es[i] with un := ⟨m.k, m.c, m.l, ⟨m.d.x0, m.d.x1, m.d.x2, m.d.x3, m.d.x4, m.d.x5, es[i].un.d.x6, es[i].un.d.x7⟩⟩ }) (by rw [List.getElem_set_self]; rfl)
  rw [List.set_set] at hE
  replace hE := EntsAt.set hE (by rw [List.length_set]; exact hi) (j := 11) (by decide) (v := .int .u64 m.d.x6) (e := { es[i] with un := ⟨m.k, m.c, m.l, ⟨m.d.x0, m.d.x1, m.d.x2, m.d.x3, m.d.x4, m.d.x5, m.d.x6, es[i].un.d.x7⟩⟩ }) (by rw [List.getElem_set_self]; rfl)
  rw [List.set_set] at hE
  replace hE := EntsAt.set hE (by rw [List.length_set]; exact hi) (j := 12) (by decide) (v := .int .u64 m.d.x7) (e := { es[i] with un := ⟨m.k, m.c, m.l, ⟨m.d.x0, m.d.x1, m.d.x2, m.d.x3, m.d.x4, m.d.x5, m.d.x6, m.d.x7⟩⟩ }) (by rw [List.getElem_set_self]; rfl)
  rw [List.set_set] at hE
  rw [HP.out] at hE
  have hC := (((((((((((HC.out).setCell (p := ⟨bl, p + 2, none⟩) (fun _ => List.mem_singleton.2 rfl) (.int .i64 m.k)).setCell (p := ⟨bl, p + 3, none⟩) (fun _ => List.mem_singleton.2 rfl) (.int .i64 m.c)).setCell (p := ⟨bl, p + 4, none⟩) (fun _ => List.mem_singleton.2 rfl) (.int .i64 m.l)).setCell (p := ⟨bl, p + 5, none⟩) (fun _ => List.mem_singleton.2 rfl) (.int .u64 m.d.x0)).setCell (p := ⟨bl, p + 6, none⟩) (fun _ => List.mem_singleton.2 rfl) (.int .u64 m.d.x1)).setCell (p := ⟨bl, p + 7, none⟩) (fun _ => List.mem_singleton.2 rfl) (.int .u64 m.d.x2)).setCell (p := ⟨bl, p + 8, none⟩) (fun _ => List.mem_singleton.2 rfl) (.int .u64 m.d.x3)).setCell (p := ⟨bl, p + 9, none⟩) (fun _ => List.mem_singleton.2 rfl) (.int .u64 m.d.x4)).setCell (p := ⟨bl, p + 10, none⟩) (fun _ => List.mem_singleton.2 rfl) (.int .u64 m.d.x5)).setCell (p := ⟨bl, p + 11, none⟩) (fun _ => List.mem_singleton.2 rfl) (.int .u64 m.d.x6)).setCell (p := ⟨bl, p + 12, none⟩) (fun _ => List.mem_singleton.2 rfl) (.int .u64 m.d.x7)
  have hB := (((((((((((HB.out).other (a := ⟨bl, p + 2, none⟩) (Ne.symm hdb) (.int .i64 m.k)).other (a := ⟨bl, p + 3, none⟩) (Ne.symm hdb) (.int .i64 m.c)).other (a := ⟨bl, p + 4, none⟩) (Ne.symm hdb) (.int .i64 m.l)).other (a := ⟨bl, p + 5, none⟩) (Ne.symm hdb) (.int .u64 m.d.x0)).other (a := ⟨bl, p + 6, none⟩) (Ne.symm hdb) (.int .u64 m.d.x1)).other (a := ⟨bl, p + 7, none⟩) (Ne.symm hdb) (.int .u64 m.d.x2)).other (a := ⟨bl, p + 8, none⟩) (Ne.symm hdb) (.int .u64 m.d.x3)).other (a := ⟨bl, p + 9, none⟩) (Ne.symm hdb) (.int .u64 m.d.x4)).other (a := ⟨bl, p + 10, none⟩) (Ne.symm hdb) (.int .u64 m.d.x5)).other (a := ⟨bl, p + 11, none⟩) (Ne.symm hdb) (.int .u64 m.d.x6)).other (a := ⟨bl, p + 12, none⟩) (Ne.symm hdb) (.int .u64 m.d.x7)
  have hDs : Chg [bl] wa _ := (((((((((((Chg.refl [bl] wa).setCell (p := ⟨bl, p + 2, none⟩) (fun _ => List.mem_singleton.2 rfl) (.int .i64 m.k)).setCell (p := ⟨bl, p + 3, none⟩) (fun _ => List.mem_singleton.2 rfl) (.int .i64 m.c)).setCell (p := ⟨bl, p + 4, none⟩) (fun _ => List.mem_singleton.2 rfl) (.int .i64 m.l)).setCell (p := ⟨bl, p + 5, none⟩) (fun _ => List.mem_singleton.2 rfl) (.int .u64 m.d.x0)).setCell (p := ⟨bl, p + 6, none⟩) (fun _ => List.mem_singleton.2 rfl) (.int .u64 m.d.x1)).setCell (p := ⟨bl, p + 7, none⟩) (fun _ => List.mem_singleton.2 rfl) (.int .u64 m.d.x2)).setCell (p := ⟨bl, p + 8, none⟩) (fun _ => List.mem_singleton.2 rfl) (.int .u64 m.d.x3)).setCell (p := ⟨bl, p + 9, none⟩) (fun _ => List.mem_singleton.2 rfl) (.int .u64 m.d.x4)).setCell (p := ⟨bl, p + 10, none⟩) (fun _ => List.mem_singleton.2 rfl) (.int .u64 m.d.x5)).setCell (p := ⟨bl, p + 11, none⟩) (fun _ => List.mem_singleton.2 rfl) (.int .u64 m.d.x6)).setCell (p := ⟨bl, p + 12, none⟩) (fun _ => List.mem_singleton.2 rfl) (.int .u64 m.d.x7)
  have HD2 := Lib.hid (HD.out.turn hDs hE (by rw [List.length_set]; exact HD.out.len))
  replace HC := Lib.hid hC; replace HB := Lib.hid hB
  clear hC hB hDs hE HD m0 m1 m2 m3 m4 m5 m6 m7 m8 m9 m10 mlt blt e2 f2 e3 f3 e4 f4 e5 f5 e6 f6 e7 f7 e8 f8 e9 f9 e10 f10 e11 f11 e12 f12
  generalize World.setCell (World.setCell (World.setCell (World.setCell (World.setCell (World.setCell (World.setCell (World.setCell (World.setCell (World.setCell (World.setCell _ _ _) _ _) _ _) _ _) _ _) _ _) _ _) _ _) _ _) _ _) _ _ = w2 at *
  have hi2 : i < (es.set i { es[i] with un := m }).length := by rw [List.length_set]; exact hi
  replace HD2 : Hid (DirAt w2 d bm bw bl n cores ws (es.set i { es[i] with un := m })) := HD2
  have hcell : ∀ j, j < 16 → w2.cell? ⟨bl, p + j, none⟩ = (encE { es[i] with un := m })[j]? := fun j hj => by
    have := HD2.out.ents.cell hi2 hj
    rw [List.getElem_set_self, HP.out] at this; exact this
  have HCell := Lib.hid hcell
  clear hcell
  have mlt : b < w2.heap.size := HB.out.lt
  have blt : bl < w2.heap.size := Blk.lt HD2.out.ents
  have e0 : w2.cell? ⟨bl, p, none⟩ = some (.int .i64 es[i].ow) := HCell.out 0 (by decide)
  have f0 : w2.frozen? ⟨bl, p, none⟩ = false := HD2.out.ents.free _
  have e1 : w2.cell? ⟨bl, p + 1, none⟩ = some (.int .u8 es[i].sh) := HCell.out 1 (by decide)
  have f1 : w2.frozen? ⟨bl, p + 1, none⟩ = false := HD2.out.ents.free _
  have e14 : w2.cell? ⟨bl, p + 14, none⟩ = some (.int .u8 es[i].ak) := HCell.out 14 (by decide)
  have f14 : w2.frozen? ⟨bl, p + 14, none⟩ = false := HD2.out.ents.free _
  have m0 : w2.cell? ⟨b, 0, none⟩ = some (.int .i64 m.k) := HB.out.cell 0
  have m1 : w2.cell? ⟨b, 1, none⟩ = some (.int .i64 m.c) := HB.out.cell 1
  have hov : decide (0 ≤ es[i].ow) = false := by simp; omega
  go_wp2_with fail
  go_still_tail 11, (by kernel_rfl)
  go_upto_region 9 with fail
  have hE := HD2.out.ents.set hi2 (j := 14) (by decide) (v := .int .u8 (bits .andNot .u8 es[i].sh (2 ^ m.c.toNat % 256))) (e := askE es[i] m) (by rw [List.getElem_set_self]; rfl)
  rw [List.set_set, HP.out] at hE
  have hDs := ((Chg.refl [bl] w2).setCell (p := ⟨bl, p + 14, none⟩) (fun _ => List.mem_singleton.2 rfl) (.int .u8 (bits .andNot .u8 es[i].sh (2 ^ m.c.toNat % 256)))).drew
  have HD3 := Lib.hid (HD2.out.turn hDs (Blk.drew hE) (by have := HD2.out.len; rw [List.length_set] at this ⊢; exact this))
  replace HC := Lib.hid (HC.out.trans hDs)
  replace HB := Lib.hid (hDs.blk HB.out (by simp; exact hdb))
  clear hDs hE e0 e1 e14 f0 f1 f14 m0 m1 mlt blt hov
  generalize World.drew _ = w3 at *
  have hi4 : i < (es.set i (askE es[i] m)).length := by rw [List.length_set]; exact hi
  replace HD3 : Hid (DirAt w3 d bm bw bl n cores ws (es.set i (askE es[i] m))) := HD3
  have mlt : b < w3.heap.size := HB.out.lt
  have blt : bl < w3.heap.size := Blk.lt HD3.out.ents
  have m0 : w3.cell? ⟨b, 0, none⟩ = some (.int .i64 m.k) := HB.out.cell 0
  have hk2 : (m.k == 1) = false := by simpa using hk
  obtain ⟨ak, hak⟩ : ∃ ak, notB es[i].sh m.c = ak := ⟨_, rfl⟩
  have hak2 : (ak == 0) = false := by rw [← hak]; simpa using hn0
  have e13 : w3.cell? ⟨bl, p + 13, none⟩ = some (.int .i64 es[i].ph) := by have := HD3.out.ents.cell hi4 (j := 13) (by decide); rw [List.getElem_set_self, HP.out] at this; exact this
  have e14 : w3.cell? ⟨bl, p + 14, none⟩ = some (.int .u8 ak) := by rw [← hak]; have := HD3.out.ents.cell hi4 (j := 14) (by decide); rw [List.getElem_set_self, HP.out] at this; exact this
  have f13 : w3.frozen? ⟨bl, p + 13, none⟩ = false := HD3.out.ents.free _
  have HAk := Lib.hid hak; have HK := Lib.hid hk; have HN0 := Lib.hid hn0
  clear hak hk hn0
  have hne : b ≠ bl := hdb
  go_wp2_with fail
  refine (callsIn_wide.1 (each_in 3 ak _)).mono ?_
  rintro e w4 ⟨rfl, rfl⟩
  go_wp2_with fail
  obtain ⟨i0, hi0, hz0, hz1, hz2⟩ := info_parts infoMsg
  have hE := HD3.out.ents.set hi4 (j := 13) (by decide) (v := .int .i64 1) (e := ackE es[i] m) (by rw [List.getElem_set_self]; rfl)
  rw [List.set_set, HP.out] at hE
  have hDs : Chg [bl] w3 (((w3.setCell ⟨bl, p + 13, none⟩ (.int .i64 1)).alloc (.cells #[.slice none 0 0] 26)).alloc (.cells #[.int .u8 ak] 76)) := (((Chg.refl [bl] w3).setCell (p := ⟨bl, p + 13, none⟩) (fun _ => List.mem_singleton.2 rfl) (.int .i64 1)).alloc _).alloc _
  have hD5 := HD3.out.turn hDs ((Blk.alloc hE _).alloc _) (by have := HD3.out.len; rw [List.length_set] at this ⊢; exact this)
  have bO := (Boxed.new (w3.setCell ⟨bl, p + 13, none⟩ (.int .i64 1)) 26 (.slice none 0 0)).alloc (.cells #[.int .u8 ak] 76)
  have bN := Boxed.new ((w3.setCell ⟨bl, p + 13, none⟩ (.int .i64 1)).alloc (.cells #[.slice none 0 0] 26)) 76 (.int .u8 ak)
  have hC5 := HC.out.trans hDs
  have hB5 := hDs.blk HB.out (by simp; exact hdb)
  simp only [World.size_alloc, World.size_setCell] at bO bN
  have hsz0 : w.heap.size ≤ w3.heap.size := HC.out.size
  have hblw : bl < w3.heap.size := blt
  have hbw : b < w3.heap.size := mlt
  have hszW : (((w3.setCell ⟨bl, p + 13, none⟩ (.int .i64 1)).alloc (.cells #[.slice none 0 0] 26)).alloc (.cells #[.int .u8 ak] 76)).heap.size = w3.heap.size + 1 + 1 := by simp
  have hdw : d < w3.heap.size := HD3.out.blk.lt
  have hbmw : bm < w3.heap.size := by obtain ⟨_, a⟩ := HD3.out.mem.m; exact a.lt
  have hbww : bw < w3.heap.size := by obtain ⟨_, a⟩ := HD3.out.mem.l; exact a.lt
  clear hE hDs e13 e14 f13 m0 mlt blt
  generalize World.alloc (World.alloc (World.setCell _ _ _) _) _ = W0 at *
  obtain ⟨n₀, hn₀⟩ : ∃ x, w3.heap.size = x := ⟨_, rfl⟩
  have hn₀w : n₀ ≤ W0.heap.size := by omega
  rw [hn₀] at bO bN hsz0 hblw hbw hszW hdw hbmw hbww ⊢
  rw [← wpIn_wide (n := 3)]
  refine wpIn_rangeFunc_ownH rfl (by decide) (gf := 50) (lb := #[.pointer (some ⟨n₀ + 1, 0, none⟩)]) rfl trivial (enters_of Try.func50 (by kernel_rfl) rfl)
    (each_stops (3 - 1) (by decide) (n₀ + 1) n₀ ak _ bN) keepB_t (keepB_b hn₀w) (Below.refl _ _) (fun _ => rfl)
    (fun pre W => ((∃ v, Boxed W n₀ 26 v ∧ W.ownsRow n₀ 33 11 v pre.length ((fun pre : List Nat => (pre.map fun (j : Nat) => (⟨11, (j : Int), m.l, {}⟩ : MsgV)).flatMap encM) pre) ∧ True) ∧ Boxed W (n₀ + 1) 76 (.int .u8 ak)) ∧ Below n₀ W0 W)
    (fun _ _ _ => False)
    (OwnFrom.and (OwnFrom.and (Own.from (holdsRow_own n₀ n₀ 26 33 11 (fun pre : List Nat => pre.length) (fun pre : List Nat => (pre.map fun (j : Nat) => (⟨11, (j : Int), m.l, {}⟩ : MsgV)).flatMap encM) (fun _ _ => True)) _) (Own.from (boxed_own _ _ _) _)) (ownFrom_below hn₀w hn₀w))
    (fun _ _ _ _ _ hs _ _ => hs)
    ⟨⟨⟨_, bO, World.ownsRow_nil _ _ _ _, trivial⟩, bN⟩, Below.refl _ _⟩
    (fun x a' W => a' = { tmps := #[Value.pointer (some { block := d, off := 0 }), Value.pointer (some { block := bl, off := p }), Value.agg #[Value.int IntKind.i64 m.k, Value.int IntKind.i64 m.c, Value.int IntKind.i64 m.l, Value.int IntKind.u64 m.d.x0, Value.int IntKind.u64 m.d.x1, Value.int IntKind.u64 m.d.x2, Value.int IntKind.u64 m.d.x3, Value.int IntKind.u64 m.d.x4, Value.int IntKind.u64 m.d.x5, Value.int IntKind.u64 m.d.x6, Value.int IntKind.u64 m.d.x7], undef, undef, Value.pointer (some { block := b, off := 0 }), Value.slice none 0 0, undef, Value.pointer (some { block := n₀, off := 0 }), Value.int IntKind.i64 (x : Int), Value.pointer (some { block := bl, off := p }), Value.agg #[Value.int IntKind.i64 m.k, Value.int IntKind.i64 m.c, Value.int IntKind.i64 m.l, Value.int IntKind.u64 m.d.x0, Value.int IntKind.u64 m.d.x1, Value.int IntKind.u64 m.d.x2, Value.int IntKind.u64 m.d.x3, Value.int IntKind.u64 m.d.x4, Value.int IntKind.u64 m.d.x5, Value.int IntKind.u64 m.d.x6, Value.int IntKind.u64 m.d.x7], Value.pointer (some { block := bl, off := p }), Value.pointer (some { block := bl, off := p + 2 }), Value.pointer (some { block := bl, off := p }), Value.pointer (some { block := bl, off := p }), Value.pointer (some { block := bl, off := p }), Value.int IntKind.i64 es[i].ow, Value.bool false, undef, undef, undef, undef, undef, undef, undef, undef, undef, undef, undef, undef, undef, undef, undef, undef, undef, undef, undef, undef, undef, undef, undef, Value.pointer (some { block := bl, off := p }), Value.pointer (some { block := bl, off := p }), Value.pointer (some { block := bl, off := p }), Value.pointer (some { block := bl, off := p + 1 }), Value.int IntKind.u8 es[i].sh, Value.pointer (some { block := b, off := 1 }), Value.int IntKind.i64 m.c, Value.int IntKind.u8 (IntKind.u8.wrap (2 ^ m.c.toNat)), Value.int IntKind.u8 (bits BinOp.andNot IntKind.u8 es[i].sh (IntKind.u8.wrap (2 ^ m.c.toNat))), Value.pointer (some { block := bl, off := p }), Value.pointer (some { block := bl, off := p + 14 }), Value.pointer (some { block := b, off := 0 }), Value.int IntKind.i64 m.k, Value.bool false, Value.bool false, Value.pointer (some { block := bl, off := p }), Value.pointer (some { block := bl, off := p }), Value.pointer (some { block := bl, off := p + 14 }), Value.int IntKind.u8 ak, Value.bool false, Value.bool false, undef, undef, undef, undef, Value.pointer (some { block := bl, off := p }), Value.pointer (some { block := bl, off := p }), Value.pointer (some { block := bl, off := p + 13 }), Value.pointer (some { block := bl, off := p }), Value.pointer (some { block := bl, off := p }), Value.pointer (some { block := bl, off := p + 14 }), Value.int IntKind.u8 ak, Value.func (Fn.func 50) #[] #[Value.pointer (some { block := n₀ + 1, off := 0 })], Value.int IntKind.i64 (x : Int), undef, undef, undef, undef, undef, undef, undef, undef], defers := [] })
    (fun x a' s X Y row h1 hg hr => h1)
    ?assign ?body ?done ?stop
  case assign =>
    rintro l pre x W K ⟨⟨⟨v, hv, hrow, hpre⟩, hbN⟩, hB⟩ hK
    gi_wp2
    exact hK _ _ (KeepsFrom.refl _ _) ⟨Below.refl _ _, fun _ _ h => h⟩ ⟨⟨⟨v, hv, hrow, hpre⟩, hbN⟩, hB⟩ rfl
  case body =>
    rintro l pre x a' W hl ⟨r, hr⟩ ⟨⟨⟨v, hv, hrow, hpre⟩, hbN⟩, hB⟩ rfl hlt
    have hc := hv.cell
    have hbl5 : Blk W b _ _ := (hB.block _ hbw).trans hB5
    have hm2 : W.cell? ⟨b, 2, none⟩ = some (.int .i64 m.l) := Blk.cell hbl5 2
    have hbl6 : b < W.heap.size := Blk.lt hbl5
    have hsz := hbN.lt
    gi_wp2_with (gi_at_builtin; refine wpListIn_append_own _ rfl _ _ 26 rfl n₀ 33 i0 _ 11 88 Try.underlying26 hi0 hz0 hz1 hz2 rfl (by decide) _ _ _ rfl (hrow.alloc _) ⟨W.heap.size, 0, none⟩ 1 1 [.int .i64 11, .int .i64 (x : Int), .int .i64 m.l, .int .u64 0, .int .u64 0, .int .u64 0, .int .u64 0, .int .u64 0, .int .u64 0, .int .u64 0, .int .u64 0] rfl rfl (cells_at (by simp) [.int .i64 11, .int .i64 (x : Int), .int .i64 m.l, .int .u64 0, .int .u64 0, .int .u64 0, .int .u64 0, .int .u64 0, .int .u64 0, .int .u64 0, .int .u64 0] _) (by simp [Value.oneCell']) (by unfold maxLen; omega) (by omega) (by have := hB.size; simp; omega) ?_; intro v' w1 hown' hgrow _; obtain ⟨g', cap', rfl⟩ := ownsRow_succ hown'; obtain ⟨hv1, hv2, hr2, hk2, hb2⟩ := hv.appended (by decide) hrow (by have := hB.size; omega) (Nat.le_refl _) hown' hgrow; have hc1 := hv1.cell; have hf1 := hv1.frozen)
    have hbN1 := ((hbN.alloc (.cells ([.int .i64 11, .int .i64 (x : Int), .int .i64 m.l, .int .u64 0, .int .u64 0, .int .u64 0, .int .u64 0, .int .u64 0, .int .u64 0, .int .u64 0, .int .u64 0] : List Value).toArray 33)).kept hgrow (hbN.not_row (by decide) hrow)).other (B' := n₀) (by omega) (.slice (some ⟨g', 0, none⟩) (pre.length + 1) cap')
    refine ⟨hk2.from _, ⟨hb2, fun o _ ho => ?_⟩, ⟨⟨_, hv2, ?_⟩, hbN1⟩, hB.trans hb2⟩
    · rw [show W.heap[n₀ + 1]? = _ from hbN] at ho; cases ho; exact hbN1
    · rw [List.length_append, List.map_append, List.flatMap_append]; exact hr2
  case done =>
    rintro D ys W hD rfl ⟨⟨⟨v, hv, hrow, hpre⟩, hbN⟩, hB⟩ hK
    have hc := hv.cell
    go_wp2_with fail
    refine ⟨by simp, .inl ⟨_, _, rfl, run_takeDeferred hK, ?_⟩⟩
    refine ⟨_, results_tmp rfl _ _ _, v, rfl, ?_, ?_, ?_⟩
    · refine ownsRow_base ?_ hsz0
      unfold ackM; rw [HAk.out, List.length_map]; exact ownsRow_putObj hrow _ hK rfl
    · exact hD5.below (hB.trans (belowK_b (w := W0) hn₀w W D _ _ (by first | omega | (simp at hD; omega)) hK rfl rfl)) hdw hbmw hbww hblw
    · exact hC5.then_below (hB.trans (belowK_b (w := W0) hn₀w W D _ _ (by first | omega | (simp at hD; omega)) hK rfl rfl)) hsz0
  case stop =>
    rintro D c pre W _ _ h _
    exact h.elim
end Go.Proofs.Ytepdhajgemmoiaa
