/- What is known of a directory; Hear of any message; memory. -/
import Derived.Test.YtepdhajgemmoiaaDir18
/- What a directory does with any message: one pure function over its lines. -/
namespace Go.Proofs.Ytepdhajgemmoiaa
set_option linter.unusedSimpArgs false
set_option linter.unusedVariables false
set_option maxRecDepth 100000
open Go.RowKit

/-- An entry without the slice's place. -/
def unw (e : EntV) : EntV := setw e (.slice none 0 0)
theorem unw_setw (e : EntV) (v : Value) : unw (setw e v) = unw e := rfl
theorem unw_unw (e : EntV) : unw (unw e) = unw e := rfl
theorem mayB_unw (e : EntV) (m : MsgV) : mayB (unw e) m = mayB e m := rfl
theorem begin_unw (e : EntV) (m : MsgV) : beginE (unw e) m = unw (beginE e m) := by
  unfold beginE recE ackE grantE askE unw setw
  dsimp only
  split
  · rfl
  · split
    · split <;> rfl
    · rfl
theorem grantE_unw (e : EntV) : grantE (unw e) = unw (grantE e) := by
  unfold grantE unw setw; dsimp only; split <;> rfl
theorem hearE_unw (n : Nat) (ws : List Int) (e : EntV) (i : Nat) (m : MsgV) : hearE n ws (unw e) i m = ((hearE n ws e i m).1, unw (hearE n ws e i m).2.1, (hearE n ws e i m).2.2) := by
  unfold hearE
  split
  · rw [begin_unw]
    by_cases h : e.ph = 0
    · rw [if_pos h, if_pos (show (unw e).ph = 0 from h)]; rfl
    · rw [if_neg h, if_neg (show (unw e).ph ≠ 0 from h)]; rfl
  · split
    · rw [show ackS (unw e) m.c = unw (ackS e m.c) from rfl, grantE_unw]
      by_cases h : notB e.ak m.c = 0
      · rw [if_pos h, if_pos (show notB (unw e).ak m.c = 0 from h)]; rfl
      · rw [if_neg h, if_neg (show notB (unw e).ak m.c ≠ 0 from h)]
    · split
      · rw [show gaveS (unw e) m.c = unw (gaveS e m.c) from rfl, show noOw (unw e) = unw (noOw e) from rfl, grantE_unw, grantE_unw]
        by_cases h : e.un.k = 1
        · rw [if_pos h, if_pos (show (unw e).un.k = 1 from h)]; rfl
        · rw [if_neg h, if_neg (show (unw e).un.k ≠ 1 from h)]; rfl
      · split
        · rw [show toPut (unw e) = unw (toPut e) from rfl, grantE_unw]
          by_cases h : 0 ≤ e.ow
          · rw [if_pos h, if_pos (show 0 ≤ (unw e).ow from h)]
          · rw [if_neg h, if_neg (show ¬ 0 ≤ (unw e).ow from h)]; rfl
        · split
          · rw [show noOw (unw e) = unw (noOw e) from rfl, grantE_unw]
            by_cases h : e.ph = 3
            · rw [if_pos h, if_pos (show (unw e).ph = 3 from h)]; rfl
            · rw [if_neg h, if_neg (show (unw e).ph ≠ 3 from h)]
          · cases hwl : e.wl with
            | nil => rw [show (unw e).wl = [] from hwl]; rfl
            | cons nx l =>
              rw [show (unw e).wl = nx :: l from hwl]
              dsimp only
              rw [show nextE (unw e) (unw e).wt l = unw (nextE e e.wt l) from rfl, begin_unw]
              rfl

/-- Those that wait are of many cores. -/
def WOk (e : EntV) : Prop := (e.wl.map (·.c)).Nodup
theorem WOk.len {cores : Int} {i : Nat} {e : EntV} (h : WOk e) (hE : EOk cores i e) (hco : cores ≤ 4) : e.wl.length ≤ 100000 := by
  have hw := hE.wl
  unfold WOk at h
  generalize e.wl = l at h hw
  match l with
  | [] => simp
  | [_] => simp
  | [_, _] => simp
  | [_, _, _] => simp
  | [_, _, _, _] => simp
  | a :: b :: c :: d :: x :: r =>
    exfalso
    have h1 := (hw a (by simp)).2.1
    have h2 := (hw b (by simp)).2.1
    have h3 := (hw c (by simp)).2.1
    have h4 := (hw d (by simp)).2.1
    have h5 := (hw x (by simp)).2.1
    simp at h
    omega
theorem begin_wl (e : EntV) (m : MsgV) : (beginE e m).wl = e.wl := by
  unfold beginE recE ackE grantE askE
  split
  · rfl
  · split
    · split <;> rfl
    · rfl
theorem grantE_wl (e : EntV) : (grantE e).wl = e.wl := by unfold grantE; split <;> rfl
theorem WOk.of {e e' : EntV} (h : WOk e) (hw : e'.wl = e.wl) : WOk e' := by unfold WOk at h ⊢; rw [hw]; exact h
theorem hearE_wok {n : Nat} {ws : List Int} {i : Nat} {e : EntV} {m : MsgV} (h : WOk e) (hmay : mayB e m = true) : WOk (hearE n ws e i m).2.1 := by
  by_cases h12 : m.k = 1 ∨ m.k = 2
  · unfold hearE; rw [if_pos h12]
    split
    · exact h.of (begin_wl _ _)
    · unfold mayB at hmay; rw [if_pos h12] at hmay
      simp only [Bool.and_eq_true] at hmay
      have h2 := hmay.2
      simp at h2
      unfold WOk at h ⊢
      simp only [List.map_append, List.map_cons, List.map_nil]
      rw [List.nodup_append]
      refine ⟨h, by simp, ?_⟩
      intro a ha b hb
      simp at hb ha
      obtain ⟨x, hx, rfl⟩ := ha
      rw [hb]
      exact h2 x hx
  · unfold hearE; rw [if_neg h12]
    split
    · split
      · exact h.of (by rw [grantE_wl]; rfl)
      · exact h.of rfl
    · split
      · split
        · exact h.of (by rw [grantE_wl]; rfl)
        · exact h.of (by rw [grantE_wl]; rfl)
      · split
        · split
          · exact h.of rfl
          · exact h.of (by rw [grantE_wl]; rfl)
        · split
          · split
            · exact h.of (by rw [grantE_wl]; rfl)
            · exact h.of rfl
          · cases hwl : e.wl with
            | nil => exact h.of rfl
            | cons nx l =>
              dsimp only
              unfold WOk at h ⊢
              rw [begin_wl]
              rw [hwl] at h
              exact (List.nodup_cons.1 h).2

/-- Of any message: the words, the lines, what is answered, the error. -/
def hearS (n : Nat) (cores : Int) (ws : List Int) (es : List EntV) (m : MsgV) : List Int × List EntV × List MsgV × Int :=
  if m.l < 0 ∨ (n : Int) ≤ m.l then (ws, es, [], 2) else if m.c < 0 ∨ cores ≤ m.c then (ws, es, [], 2) else
  match es[m.l.toNat]? with
  | none => (ws, es, [], 2)
  | some e => if mayB e m = true then ((hearE n ws e m.l.toNat m).1, es.set m.l.toNat (hearE n ws e m.l.toNat m).2.1, (hearE n ws e m.l.toNat m).2.2, 0) else (ws, es, [], 30)

/-- A directory as one knows it: its lines without the slices' places. -/
structure Knows (w : World) (d bm bw bl n : Nat) (cores : Int) (ws : List Int) (es : List EntV) (ks : List EntV) : Prop where
  D : DirW w d bm bw bl n cores ws es
  ks : es.map unw = ks
  ok : ∀ (i : Nat) (h : i < es.length), EOk cores i es[i] ∧ WOk es[i]
  co : 1 ≤ cores ∧ cores ≤ 4

set_option maxHeartbeats 1000000 in
theorem hear_any (w : World) (d bm bw bl n : Nat) (cores : Int) (ws : List Int) (es ks : List EntV) (m : MsgV) (K : Knows w d bm bw bl n cores ws es ks) :
    Calls Try.prog 7 #[.pointer (some ⟨d, 0, none⟩), .agg #[.int .i64 m.k, .int .i64 m.c, .int .i64 m.l, .int .u64 m.d.x0, .int .u64 m.d.x1, .int .u64 m.d.x2, .int .u64 m.d.x3, .int .u64 m.d.x4, .int .u64 m.d.x5, .int .u64 m.d.x6, .int .u64 m.d.x7]] w
      (fun e w' => ∃ es', HearPost' w d bm bw bl n cores es (hearS n cores ws ks m).1 es' (hearS n cores ws ks m).2.2.1 (hearS n cores ws ks m).2.2.2 e w' ∧ Knows w' d bm bw bl n cores (hearS n cores ws ks m).1 es' (hearS n cores ws ks m).2.1) := by
  have hln := K.D.D.len
  have bad : ∀ (err : Int) (e : Ending) (w' : World), (e = .returned (.tuple #[.slice none 0 0, .int .i64 err]) ∧ Chg [] w w') → ∃ es', HearPost' w d bm bw bl n cores es ws es' [] err e w' ∧ Knows w' d bm bw bl n cores ws es' ks := by
    rintro err e w' ⟨rfl, hx⟩
    exact ⟨es, ⟨_, rfl, World.ownsRow_nil _ _ _ _, by simp [sliceB], DirPost.look K.D hx⟩, K.D.look hx, K.ks, K.ok, K.co⟩
  unfold hearS
  by_cases hl : m.l < 0 ∨ (n : Int) ≤ m.l
  · rw [if_pos hl]
    exact (Hear_line w d bm bw bl n cores ws es m K.D hl).mono (bad 2)
  rw [if_neg hl]
  obtain ⟨i, hi, hml⟩ : ∃ i : Nat, i < es.length ∧ m.l = (i : Int) := ⟨m.l.toNat, by omega, by omega⟩
  by_cases hc : m.c < 0 ∨ cores ≤ m.c
  · rw [if_pos hc]
    rcases hc with hc | hc
    · exact (Hear_core0 w d bm bw bl n cores ws es m K.D i hi hml hc K.co.1).mono (bad 2)
    · exact (Hear_core1 w d bm bw bl n cores ws es m K.D i hi hml hc K.co.1).mono (bad 2)
  rw [if_neg hc]
  have hc2 : 0 ≤ m.c ∧ m.c < cores := by omega
  have hti : m.l.toNat = i := by omega
  have hke : ks[m.l.toNat]? = some (unw es[i]) := by
    rw [← K.ks, hti, List.getElem?_map, List.getElem?_eq_getElem hi]; rfl
  rw [hke]
  dsimp only
  rw [mayB_unw]
  cases hmay : mayB es[i] m with
  | false =>
    rw [if_neg (by decide)]
    exact (Hear_may w d bm bw bl n cores ws es m K.D i hi hml hc2 K.co.2 hmay).mono (bad 30)
  | true =>
    rw [if_pos rfl, hearE_unw, hti]
    obtain ⟨hE, hW⟩ := K.ok i hi
    refine (hear_ok w d bm bw bl n cores ws es i hi m hml hc2 K.co.2 K.D hE hmay (hW.len hE K.co.2)).mono ?_
    rintro e w' ⟨v, h⟩
    have h2 := h
    obtain ⟨_, _, _, _, hP⟩ := h2
    refine ⟨_, h, hP.D, ?_, ?_, K.co⟩
    · rw [List.map_set, unw_setw, K.ks]
    · intro j hj
      rw [get_set]
      split
      · rename_i hij
        subst hij
        have h3 := hearE_ok (n := n) (ws := ws) hE hc2 hmay
        exact ⟨⟨h3.ow, h3.un, h3.wl⟩, (hearE_wok (n := n) (ws := ws) (i := i) hW hmay).of rfl⟩
      · exact K.ok j (by simpa using hj)
end Go.Proofs.Ytepdhajgemmoiaa

/- A directory's other methods: Memory, Set, Under. -/
namespace Go.Proofs.Ytepdhajgemmoiaa
set_option linter.unusedSimpArgs false
set_option linter.unusedVariables false
set_option maxRecDepth 100000
open Go.RowKit

theorem DMemory_any (w : World) (d bm bw bl n : Nat) (cores : Int) (ws : List Int) (es ks : List EntV) (i : Int) (K : Knows w d bm bw bl n cores ws es ks) :
    Calls Try.prog 12 #[.pointer (some ⟨d, 0, none⟩), .int .i64 i] w (LinePost w n ws i) := by
  have d0 : w.cell? ⟨d, 0, none⟩ = some (.pointer (some ⟨bm, 0, none⟩)) := K.D.D.blk.cell 0
  have dlt : d < w.heap.size := K.D.D.blk.lt
  have hL := Lib.hid (fun o => Line_any (w.alloc o) bm bw n ws i (K.D.D.mem.alloc o))
  clear K
  obtain ⟨x0, x1, x2, x3, x4, x5, x6, x7, hx⟩ := memLine_shape n ws i
  have HX := Lib.hid hx; clear hx
  obtain ⟨er, her⟩ : ∃ er, memErr n i = er := ⟨_, rfl⟩
  have HE := Lib.hid her; clear her
  go_enter Try.func12, Try.ntmps12
  go_wp2_with fail
  refine (hL.out _).mono ?_
  rintro e w1 ⟨rfl, h⟩
  rw [HX.out, HE.out]
  simp only [u64s, List.map_cons, List.map_nil]
  have hk := ((Chg.refl [] w).alloc _).trans h
  have HK := Lib.hid hk
  clear hk
  have r0 : w1.heap[w.heap.size]? = (w.alloc (.cells #[.int .u64 0, .int .u64 0, .int .u64 0, .int .u64 0, .int .u64 0, .int .u64 0, .int .u64 0, .int .u64 0] 31)).heap[w.heap.size]? := h.block _ (by simp) (by simp)
  rw [Blk.new w [.int .u64 0, .int .u64 0, .int .u64 0, .int .u64 0, .int .u64 0, .int .u64 0, .int .u64 0, .int .u64 0] 31] at r0
  have HB := Lib.hid (show Blk w1 w.heap.size [.int .u64 0, .int .u64 0, .int .u64 0, .int .u64 0, .int .u64 0, .int .u64 0, .int .u64 0, .int .u64 0] 31 from r0)
  clear h r0 d0
  have r0 : w1.cell? ⟨w.heap.size, 0, none⟩ = some (.int .u64 0) := HB.out.cell 0; have q0 : w1.frozen? ⟨w.heap.size, 0, none⟩ = false := HB.out.free 0; have r1 : w1.cell? ⟨w.heap.size, 1, none⟩ = some (.int .u64 0) := HB.out.cell 1; have q1 : w1.frozen? ⟨w.heap.size, 1, none⟩ = false := HB.out.free 1; have r2 : w1.cell? ⟨w.heap.size, 2, none⟩ = some (.int .u64 0) := HB.out.cell 2; have q2 : w1.frozen? ⟨w.heap.size, 2, none⟩ = false := HB.out.free 2; have r3 : w1.cell? ⟨w.heap.size, 3, none⟩ = some (.int .u64 0) := HB.out.cell 3; have q3 : w1.frozen? ⟨w.heap.size, 3, none⟩ = false := HB.out.free 3; have r4 : w1.cell? ⟨w.heap.size, 4, none⟩ = some (.int .u64 0) := HB.out.cell 4; have q4 : w1.frozen? ⟨w.heap.size, 4, none⟩ = false := HB.out.free 4; have r5 : w1.cell? ⟨w.heap.size, 5, none⟩ = some (.int .u64 0) := HB.out.cell 5; have q5 : w1.frozen? ⟨w.heap.size, 5, none⟩ = false := HB.out.free 5; have r6 : w1.cell? ⟨w.heap.size, 6, none⟩ = some (.int .u64 0) := HB.out.cell 6; have q6 : w1.frozen? ⟨w.heap.size, 6, none⟩ = false := HB.out.free 6; have r7 : w1.cell? ⟨w.heap.size, 7, none⟩ = some (.int .u64 0) := HB.out.cell 7; have q7 : w1.frozen? ⟨w.heap.size, 7, none⟩ = false := HB.out.free 7
  go_wp2_with fail
  have hB2 : Blk _ w.heap.size [.int .u64 x0, .int .u64 x1, .int .u64 x2, .int .u64 x3, .int .u64 x4, .int .u64 x5, .int .u64 x6, .int .u64 x7] 31 := ((((((((HB.out.set 0 (.int .u64 x0)).set 1 (.int .u64 x1)).set 2 (.int .u64 x2)).set 3 (.int .u64 x3)).set 4 (.int .u64 x4)).set 5 (.int .u64 x5)).set 6 (.int .u64 x6)).set 7 (.int .u64 x7))
  have hk2 := ((((((((HK.out.setCell (p := ⟨w.heap.size, 0, none⟩) (fun h => absurd h (Nat.lt_irrefl _)) (.int .u64 x0)).setCell (p := ⟨w.heap.size, 1, none⟩) (fun h => absurd h (Nat.lt_irrefl _)) (.int .u64 x1)).setCell (p := ⟨w.heap.size, 2, none⟩) (fun h => absurd h (Nat.lt_irrefl _)) (.int .u64 x2)).setCell (p := ⟨w.heap.size, 3, none⟩) (fun h => absurd h (Nat.lt_irrefl _)) (.int .u64 x3)).setCell (p := ⟨w.heap.size, 4, none⟩) (fun h => absurd h (Nat.lt_irrefl _)) (.int .u64 x4)).setCell (p := ⟨w.heap.size, 5, none⟩) (fun h => absurd h (Nat.lt_irrefl _)) (.int .u64 x5)).setCell (p := ⟨w.heap.size, 6, none⟩) (fun h => absurd h (Nat.lt_irrefl _)) (.int .u64 x6)).setCell (p := ⟨w.heap.size, 7, none⟩) (fun h => absurd h (Nat.lt_irrefl _)) (.int .u64 x7))
  have HB2 := Lib.hid hB2
  have HK2 := Lib.hid hk2
  clear hB2 hk2 HB HK r0 r1 r2 r3 r4 r5 r6 r7 q0 q1 q2 q3 q4 q5 q6 q7 hL
  generalize World.setCell _ _ _ = w2 at *
  have r0 : w2.cell? ⟨w.heap.size, 0, none⟩ = some (.int .u64 x0) := HB2.out.cell 0; have r1 : w2.cell? ⟨w.heap.size, 1, none⟩ = some (.int .u64 x1) := HB2.out.cell 1; have r2 : w2.cell? ⟨w.heap.size, 2, none⟩ = some (.int .u64 x2) := HB2.out.cell 2; have r3 : w2.cell? ⟨w.heap.size, 3, none⟩ = some (.int .u64 x3) := HB2.out.cell 3; have r4 : w2.cell? ⟨w.heap.size, 4, none⟩ = some (.int .u64 x4) := HB2.out.cell 4; have r5 : w2.cell? ⟨w.heap.size, 5, none⟩ = some (.int .u64 x5) := HB2.out.cell 5; have r6 : w2.cell? ⟨w.heap.size, 6, none⟩ = some (.int .u64 x6) := HB2.out.cell 6; have r7 : w2.cell? ⟨w.heap.size, 7, none⟩ = some (.int .u64 x7) := HB2.out.cell 7
  refine bodyPost_ret (v := .tuple #[.agg #[.int .u64 x0, .int .u64 x1, .int .u64 x2, .int .u64 x3, .int .u64 x4, .int .u64 x5, .int .u64 x6, .int .u64 x7], .int .i64 er]) ?_ rfl ⟨?_, ?_⟩
  · simp [results, Try.results12, go_sem, r0, r1, r2, r3, r4, r5, r6, r7]
  · rw [HX.out, HE.out]; rfl
  · exact HK2.out
theorem DMemory_nil (w : World) (i : Int) :
    Calls Try.prog 12 #[.pointer none, .int .i64 i] w fun e w' => e = .returned (.tuple #[.agg #[.int .u64 0, .int .u64 0, .int .u64 0, .int .u64 0, .int .u64 0, .int .u64 0, .int .u64 0, .int .u64 0], .int .i64 1]) ∧ Chg [] w w' := by
  go_enter Try.func12, Try.ntmps12
  go_wp2
  refine bodyPost_ret (v := .tuple #[.agg #[.int .u64 0, .int .u64 0, .int .u64 0, .int .u64 0, .int .u64 0, .int .u64 0, .int .u64 0, .int .u64 0], .int .i64 1]) ?_ rfl ⟨rfl, (Chg.refl _ _).alloc _⟩
  simp [results, Try.results12, go_sem]
theorem DSet_nil (w : World) (i : Int) (x0 x1 x2 x3 x4 x5 x6 x7 : Int) :
    Calls Try.prog 13 #[.pointer none, .int .i64 i, .agg #[.int .u64 x0, .int .u64 x1, .int .u64 x2, .int .u64 x3, .int .u64 x4, .int .u64 x5, .int .u64 x6, .int .u64 x7]] w fun e w' => e = .returned (.int .i64 1) ∧ Chg [] w w' := by
  go_enter Try.func13, Try.ntmps13
  go_wp2
  go_ret
  exact ⟨rfl, (Chg.refl _ _).alloc _⟩
theorem DSet_any (w : World) (d bm bw bl n : Nat) (cores : Int) (ws : List Int) (es ks : List EntV) (i : Int) (x0 x1 x2 x3 x4 x5 x6 x7 : Int) (K : Knows w d bm bw bl n cores ws es ks) :
    Calls Try.prog 13 #[.pointer (some ⟨d, 0, none⟩), .int .i64 i, .agg #[.int .u64 x0, .int .u64 x1, .int .u64 x2, .int .u64 x3, .int .u64 x4, .int .u64 x5, .int .u64 x6, .int .u64 x7]] w (fun e w' => e = .returned (.int .i64 (memErr n i)) ∧ Chg [bw] w w' ∧ Knows w' d bm bw bl n cores (memSet n ws i x0 x1 x2 x3 x4 x5 x6 x7) es ks) := by
  have d0 : w.cell? ⟨d, 0, none⟩ = some (.pointer (some ⟨bm, 0, none⟩)) := K.D.D.blk.cell 0
  have dlt : d < w.heap.size := K.D.D.blk.lt
  have HS := Lib.hid (fun W (k : MemAt W bm bw n ws) => Set_any W bm bw n ws i x0 x1 x2 x3 x4 x5 x6 x7 k)
  have HMm := Lib.hid K.D.D.mem
  have HK := Lib.hid K
  clear K
  go_enter Try.func13, Try.ntmps13
  go_wp2_with fail
  go_region_with (go_at_call 28; refine (HS.out _ ((HMm.out.alloc _).drew)).mono ?_; rintro e w1 ⟨rfl, hM, h⟩; have HC := Lib.hid ((((Chg.refl [bw] w).alloc (.cells #[.int .u64 x0, .int .u64 x1, .int .u64 x2, .int .u64 x3, .int .u64 x4, .int .u64 x5, .int .u64 x6, .int .u64 x7] 31)).drew).trans h); have HM := Lib.hid hM; clear hM h)
  all_goals (go_wp2_with fail; go_ret; exact ⟨rfl, HC.out, HK.out.D.mem HC.out HM.out, HK.out.ks, HK.out.ok, HK.out.co⟩)
theorem DUnder_nil (w : World) (i : Int) :
    Calls Try.prog 14 #[.pointer none, .int .i64 i] w fun e w' => e = .returned (.tuple #[.agg #[.int .i64 0, .int .i64 0, .int .i64 0, .int .u64 0, .int .u64 0, .int .u64 0, .int .u64 0, .int .u64 0, .int .u64 0, .int .u64 0, .int .u64 0], .bool false]) ∧ Chg [] w w' := by
  have hA := Lib.hid (fun w => dat_nil w i)
  go_enter Try.func14, Try.ntmps14
  go_wp2_with fail
  refine (hA.out _).mono ?_
  rintro e w1 ⟨rfl, rfl⟩
  go_wp2_with fail
  refine bodyPost_ret (v := .tuple #[.agg #[.int .i64 0, .int .i64 0, .int .i64 0, .int .u64 0, .int .u64 0, .int .u64 0, .int .u64 0, .int .u64 0, .int .u64 0, .int .u64 0, .int .u64 0], .bool false]) ?_ rfl ⟨rfl, (Chg.refl _ _).alloc _⟩
  simp [results, Try.results14, go_sem]
end Go.Proofs.Ytepdhajgemmoiaa

