/- What a directory does with any message: one pure function over its lines. -/
import Derived.Test.YtepdhajgemmoiaaDir18
namespace Go.Proofs.Ytepdhajgemmoiaa
set_option maxRecDepth 100000
open Go.RowKit

/-- An entry without the slice's place. -/
def unw (e : EntV) : EntV := setw e (.slice none 0 0)
theorem unw_setw (e : EntV) (v : Value) : unw (setw e v) = unw e := rfl
theorem unw_unw (e : EntV) : unw (unw e) = unw e := rfl
theorem mayB_unw (e : EntV) (m : MsgV) : mayB (unw e) m = mayB e m := rfl
theorem begin_unw (e : EntV) (m : MsgV) : beginE (unw e) m = unw (beginE e m) := by
  unfold beginE recE ackE grantE askE unw setw
  dsimp only
  split
  · rfl
  · split
    · split <;> rfl
    · rfl
theorem grantE_unw (e : EntV) : grantE (unw e) = unw (grantE e) := by
  unfold grantE unw setw; dsimp only; split <;> rfl
theorem hearE_unw (n : Nat) (ws : List Int) (e : EntV) (i : Nat) (m : MsgV) : hearE n ws (unw e) i m = ((hearE n ws e i m).1, unw (hearE n ws e i m).2.1, (hearE n ws e i m).2.2) := by
  unfold hearE
  split
  · rw [begin_unw]
    by_cases h : e.ph = 0
    · rw [if_pos h, if_pos (show (unw e).ph = 0 from h)]; rfl
    · rw [if_neg h, if_neg (show (unw e).ph ≠ 0 from h)]; rfl
  · split
    · rw [show ackS (unw e) m.c = unw (ackS e m.c) from rfl, grantE_unw]
      by_cases h : notB e.ak m.c = 0
      · rw [if_pos h, if_pos (show notB (unw e).ak m.c = 0 from h)]; rfl
      · rw [if_neg h, if_neg (show notB (unw e).ak m.c ≠ 0 from h)]
    · split
      · rw [show gaveS (unw e) m.c = unw (gaveS e m.c) from rfl, show noOw (unw e) = unw (noOw e) from rfl, grantE_unw, grantE_unw]
        by_cases h : e.un.k = 1
        · rw [if_pos h, if_pos (show (unw e).un.k = 1 from h)]; rfl
        · rw [if_neg h, if_neg (show (unw e).un.k ≠ 1 from h)]; rfl
      · split
        · rw [show toPut (unw e) = unw (toPut e) from rfl, grantE_unw]
          by_cases h : 0 ≤ e.ow
          · rw [if_pos h, if_pos (show 0 ≤ (unw e).ow from h)]
          · rw [if_neg h, if_neg (show ¬ 0 ≤ (unw e).ow from h)]; rfl
        · split
          · rw [show noOw (unw e) = unw (noOw e) from rfl, grantE_unw]
            by_cases h : e.ph = 3
            · rw [if_pos h, if_pos (show (unw e).ph = 3 from h)]; rfl
            · rw [if_neg h, if_neg (show (unw e).ph ≠ 3 from h)]
          · cases hwl : e.wl with
            | nil => rw [show (unw e).wl = [] from hwl]; rfl
            | cons nx l =>
              rw [show (unw e).wl = nx :: l from hwl]
              dsimp only
              rw [show nextE (unw e) (unw e).wt l = unw (nextE e e.wt l) from rfl, begin_unw]
              rfl

/-- Those that wait are of many cores. -/
def WOk (e : EntV) : Prop := (e.wl.map (·.c)).Nodup
theorem WOk.len {cores : Int} {i : Nat} {e : EntV} (h : WOk e) (hE : EOk cores i e) (hco : cores ≤ 4) : e.wl.length ≤ 100000 := by
  have hw := hE.wl
  unfold WOk at h
  generalize e.wl = l at h hw
  match l with
  | [] => simp
  | [_] => simp
  | [_, _] => simp
  | [_, _, _] => simp
  | [_, _, _, _] => simp
  | a :: b :: c :: d :: x :: r =>
    exfalso
    have h1 := (hw a (by simp)).2.1
    have h2 := (hw b (by simp)).2.1
    have h3 := (hw c (by simp)).2.1
    have h4 := (hw d (by simp)).2.1
    have h5 := (hw x (by simp)).2.1
    simp at h
    omega
theorem begin_wl (e : EntV) (m : MsgV) : (beginE e m).wl = e.wl := by
  unfold beginE recE ackE grantE askE
  split
  · rfl
  · split
    · split <;> rfl
    · rfl
theorem grantE_wl (e : EntV) : (grantE e).wl = e.wl := by unfold grantE; split <;> rfl
theorem WOk.of {e e' : EntV} (h : WOk e) (hw : e'.wl = e.wl) : WOk e' := by unfold WOk at h ⊢; rw [hw]; exact h
theorem hearE_wok {n : Nat} {ws : List Int} {i : Nat} {e : EntV} {m : MsgV} (h : WOk e) (hmay : mayB e m = true) : WOk (hearE n ws e i m).2.1 := by
  by_cases h12 : m.k = 1 ∨ m.k = 2
  · unfold hearE; rw [if_pos h12]
    split
    · exact h.of (begin_wl _ _)
    · unfold mayB at hmay; rw [if_pos h12] at hmay
      simp only [Bool.and_eq_true] at hmay
      have h2 := hmay.2
      simp at h2
      unfold WOk at h ⊢
      simp only [List.map_append, List.map_cons, List.map_nil]
      rw [List.nodup_append]
      refine ⟨h, by simp, ?_⟩
      intro a ha b hb
      simp at hb ha
      obtain ⟨x, hx, rfl⟩ := ha
      rw [hb]
      exact h2 x hx
  · unfold hearE; rw [if_neg h12]
    split
    · split
      · exact h.of (by rw [grantE_wl]; rfl)
      · exact h.of rfl
    · split
      · split
        · exact h.of (by rw [grantE_wl]; rfl)
        · exact h.of (by rw [grantE_wl]; rfl)
      · split
        · split
          · exact h.of rfl
          · exact h.of (by rw [grantE_wl]; rfl)
        · split
          · split
            · exact h.of (by rw [grantE_wl]; rfl)
            · exact h.of rfl
          · cases hwl : e.wl with
            | nil => exact h.of rfl
            | cons nx l =>
              dsimp only
              unfold WOk at h ⊢
              rw [begin_wl]
              rw [hwl] at h
              exact (List.nodup_cons.1 h).2

/-- Of any message: the words, the lines, what is answered, the error. -/
def hearS (n : Nat) (cores : Int) (ws : List Int) (es : List EntV) (m : MsgV) : List Int × List EntV × List MsgV × Int :=
  if m.l < 0 ∨ (n : Int) ≤ m.l then (ws, es, [], 2) else if m.c < 0 ∨ cores ≤ m.c then (ws, es, [], 2) else
  match es[m.l.toNat]? with
  | none => (ws, es, [], 2)
  | some e => if mayB e m = true then ((hearE n ws e m.l.toNat m).1, es.set m.l.toNat (hearE n ws e m.l.toNat m).2.1, (hearE n ws e m.l.toNat m).2.2, 0) else (ws, es, [], 30)

/-- A directory as one knows it: its lines without the slices' places. -/
structure Knows (w : World) (d bm bw bl n : Nat) (cores : Int) (ws : List Int) (es : List EntV) (ks : List EntV) : Prop where
  D : DirW w d bm bw bl n cores ws es
  ks : es.map unw = ks
  ok : ∀ (i : Nat) (h : i < es.length), EOk cores i es[i] ∧ WOk es[i]
  co : 1 ≤ cores ∧ cores ≤ 4

set_option maxHeartbeats 1000000 in
theorem hear_any (w : World) (d bm bw bl n : Nat) (cores : Int) (ws : List Int) (es ks : List EntV) (m : MsgV) (K : Knows w d bm bw bl n cores ws es ks) :
    Calls Try.prog 7 #[.pointer (some ⟨d, 0, none⟩), .agg #[.int .i64 m.k, .int .i64 m.c, .int .i64 m.l, .int .u64 m.d.x0, .int .u64 m.d.x1, .int .u64 m.d.x2, .int .u64 m.d.x3, .int .u64 m.d.x4, .int .u64 m.d.x5, .int .u64 m.d.x6, .int .u64 m.d.x7]] w
      (fun e w' => ∃ es', HearPost' w d bm bw bl n cores es (hearS n cores ws ks m).1 es' (hearS n cores ws ks m).2.2.1 (hearS n cores ws ks m).2.2.2 e w' ∧ Knows w' d bm bw bl n cores (hearS n cores ws ks m).1 es' (hearS n cores ws ks m).2.1) := by
  have hln := K.D.D.len
  have bad : ∀ (err : Int) (e : Ending) (w' : World), (e = .returned (.tuple #[.slice none 0 0, .int .i64 err]) ∧ Chg [] w w') → ∃ es', HearPost' w d bm bw bl n cores es ws es' [] err e w' ∧ Knows w' d bm bw bl n cores ws es' ks := by
    rintro err e w' ⟨rfl, hx⟩
    exact ⟨es, ⟨_, rfl, World.ownsRow_nil _ _ _ _, by simp [sliceB], DirPost.look K.D hx⟩, K.D.look hx, K.ks, K.ok, K.co⟩
  unfold hearS
  by_cases hl : m.l < 0 ∨ (n : Int) ≤ m.l
  · rw [if_pos hl]
    exact (Hear_line w d bm bw bl n cores ws es m K.D hl).mono (bad 2)
  rw [if_neg hl]
  obtain ⟨i, hi, hml⟩ : ∃ i : Nat, i < es.length ∧ m.l = (i : Int) := ⟨m.l.toNat, by omega, by omega⟩
  by_cases hc : m.c < 0 ∨ cores ≤ m.c
  · rw [if_pos hc]
    rcases hc with hc | hc
    · exact (Hear_core0 w d bm bw bl n cores ws es m K.D i hi hml hc K.co.1).mono (bad 2)
    · exact (Hear_core1 w d bm bw bl n cores ws es m K.D i hi hml hc K.co.1).mono (bad 2)
  rw [if_neg hc]
  have hc2 : 0 ≤ m.c ∧ m.c < cores := by omega
  have hti : m.l.toNat = i := by omega
  have hke : ks[m.l.toNat]? = some (unw es[i]) := by
    rw [← K.ks, hti, List.getElem?_map, List.getElem?_eq_getElem hi]; rfl
  rw [hke]
  dsimp only
  rw [mayB_unw]
  cases hmay : mayB es[i] m with
  | false =>
    rw [if_neg (by decide)]
    exact (Hear_may w d bm bw bl n cores ws es m K.D i hi hml hc2 K.co.2 hmay).mono (bad 30)
  | true =>
    rw [if_pos rfl, hearE_unw, hti]
    obtain ⟨hE, hW⟩ := K.ok i hi
    refine (hear_ok w d bm bw bl n cores ws es i hi m hml hc2 K.co.2 K.D hE hmay (hW.len hE K.co.2)).mono ?_
    rintro e w' ⟨v, h⟩
    have h2 := h
    obtain ⟨_, _, _, _, hP⟩ := h2
    refine ⟨_, h, hP.D, ?_, ?_, K.co⟩
    · rw [List.map_set, unw_setw, K.ks]
    · intro j hj
      rw [get_set]
      split
      · rename_i hij
        subst hij
        have h3 := hearE_ok (n := n) (ws := ws) hE hc2 hmay
        exact ⟨⟨h3.ow, h3.un, h3.wl⟩, (hearE_wok (n := n) (ws := ws) (i := i) hW hmay).of rfl⟩
      · exact K.ok j (by simpa using hj)
end Go.Proofs.Ytepdhajgemmoiaa
