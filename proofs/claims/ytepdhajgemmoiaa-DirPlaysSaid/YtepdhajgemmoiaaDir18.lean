/- What a directory does with a message, as one function. -/
import Derived.Test.YtepdhajgemmoiaaDir17
import Derived.Test.YtepdhajgemmoiaaDir11
namespace Go.Proofs.Ytepdhajgemmoiaa
set_option linter.unusedSimpArgs false
set_option linter.unusedVariables false
set_option maxRecDepth 100000
open Go.RowKit

def setw (e : EntV) (v : Value) : EntV := { e with wt := v }
theorem setw_same {X : EntV} {v : Value} (h : X.wt = v) : setw X v = X := by subst h; rfl
/-- Of a message that may be. -/
def hearE (n : Nat) (ws : List Int) (e : EntV) (i : Nat) (m : MsgV) : List Int × EntV × List MsgV :=
  if m.k = 1 ∨ m.k = 2 then
    if e.ph = 0 then (ws, beginE e ⟨m.k, m.c, (i : Int), {}⟩, beginM e ⟨m.k, m.c, (i : Int), {}⟩ (lineV n ws i))
    else (ws, { e with wl := e.wl ++ [⟨m.k, m.c, (i : Int), {}⟩] }, [])
  else if m.k = 4 then
    if notB e.ak m.c = 0 then (ws, grantE (ackS e m.c), [grantM (ackS e m.c) (lineV n ws i)]) else (ws, ackS e m.c, [])
  else if m.k = 5 then
    if e.un.k = 1 then (wsOf n ws i m.d, grantE (gaveS e m.c), [grantM (gaveS e m.c) (lineV n (wsOf n ws i m.d) i)])
    else (wsOf n ws i m.d, grantE (noOw e), [grantM (noOw e) (lineV n (wsOf n ws i m.d) i)])
  else if m.k = 6 then
    if 0 ≤ e.ow then (ws, toPut e, []) else (ws, grantE (toPut e), [grantM (toPut e) (lineV n ws i)])
  else if m.k = 3 then
    if e.ph = 3 then (wsOf n ws i m.d, grantE (noOw e), [⟨16, m.c, (i : Int), {}⟩, grantM (noOw e) (lineV n (wsOf n ws i m.d) i)])
    else (wsOf n ws i m.d, noOw e, [⟨16, m.c, (i : Int), {}⟩])
  else match e.wl with
    | [] => (ws, idleE e, [])
    | nx :: l => (ws, beginE (nextE e e.wt l) nx, beginM (nextE e e.wt l) nx (lineV n ws i))

theorem begin_wt (e : EntV) (m : MsgV) : (beginE e m).wt = e.wt := by
  unfold beginE recE ackE
  split
  · rfl
  · split
    · rw [grantE_wt]; rfl
    · rfl
theorem begin_set (e : EntV) (m : MsgV) (v : Value) (l : List MsgV) : beginE (nextE e v l) m = setw (beginE (nextE e e.wt l) m) v := by
  unfold beginE recE ackE grantE askE nextE setw idleE
  dsimp only
  split
  · rfl
  · split
    · split <;> rfl
    · rfl
theorem beginM_set (e : EntV) (m : MsgV) (v : Value) (l : List MsgV) (x : L8) : beginM (nextE e v l) m x = beginM (nextE e e.wt l) m x := rfl

/-- What Hear leaves, what it answers lying apart. -/
def HearPost' (w : World) (d bm bw bl n : Nat) (cores : Int) (es : List EntV) (ws' : List Int) (es' : List EntV) (out : List MsgV) (err : Int) (e : Ending) (w' : World) : Prop :=
  ∃ v, e = .returned (.tuple #[v, .int .i64 err]) ∧ w'.ownsRow w.heap.size 33 11 v out.length (out.flatMap encM) ∧ (∀ g ∈ sliceB v, g ∉ dirB bw bl es') ∧ DirPost w w' d bm bw bl n cores es ws' es'
theorem ownsRow_ge {w : World} {base : Nat} {e : TypeId} {size : Nat} {v : Value} {n : Nat} {xs : List Value} (h : w.ownsRow base e size v n xs) : ∀ g ∈ sliceB v, base ≤ g := by
  rcases h.2 with ⟨rfl, _⟩ | ⟨g, cap, cur, rfl, hb, _⟩
  · simp [sliceB]
  · simp [sliceB]; exact hb
theorem HearPost.apart {w w' : World} {d bm bw bl n : Nat} {cores : Int} {ws ws' : List Int} {es es' : List EntV} {out : List MsgV} {err : Int} {e : Ending} (h : HearPost w d bm bw bl n cores es ws' es' out err e w') (D : DirW w d bm bw bl n cores ws es) (hs : ∀ g ∈ dirB bw bl es', g ∈ dirB bw bl es) : HearPost' w d bm bw bl n cores es ws' es' out err e w' := by
  obtain ⟨v, h1, h2, h3⟩ := h
  exact ⟨v, h1, h2, fun g hg hm => by have := ownsRow_ge h2 g hg; have := D.lt g (hs g hm); omega, h3⟩
theorem HearPost.same {w w' : World} {d bm bw bl n : Nat} {cores : Int} {ws ws' : List Int} {es : List EntV} {out : List MsgV} {err : Int} {e : Ending} {i : Nat} {E : EntV} (h : HearPost w d bm bw bl n cores es ws' (es.set i E) out err e w') (D : DirW w d bm bw bl n cores ws es) (hi : i < es.length) (hw : E.wt = es[i].wt) : ∃ v, HearPost' w d bm bw bl n cores es ws' (es.set i (setw E v)) out err e w' :=
  ⟨es[i].wt, by rw [setw_same hw]; exact h.apart D (fun g hg => by have := dirB_eq (bw := bw) (bl := bl) hi (E := es[i]) hw g hg; rwa [set_self_at hi] at this)⟩
theorem dirB_slice {bw bl i : Nat} {es : List EntV} {E : EntV} (hi : i < es.length) (hs : sliceB E.wt = sliceB es[i].wt) : ∀ g ∈ dirB bw bl (es.set i E), g ∈ dirB bw bl es := by
  intro g hg
  unfold dirB at hg ⊢
  simp only [List.mem_cons, List.mem_flatMap] at hg ⊢
  rcases hg with h | h | ⟨x, hx, hg⟩
  · exact .inl h
  · exact .inr (.inl h)
  · rcases List.mem_or_eq_of_mem_set hx with h | rfl
    · exact .inr (.inr ⟨x, h, hg⟩)
    · exact .inr (.inr ⟨es[i], List.getElem_mem hi, hs ▸ hg⟩)

theorem EOk.un4 {cores : Int} {i : Nat} {e : EntV} (h : EOk cores i e) (hp : e.ph ≠ 0) (hco : cores ≤ 4) : (0 ≤ e.un.c ∧ e.un.c < 4) ∧ e.un.l = (i : Int) :=
  ⟨⟨(h.un hp).2.1.1, by have := (h.un hp).2.1.2; omega⟩, (h.un hp).2.2⟩

set_option maxHeartbeats 4000000 in
theorem hear_ok (w : World) (d bm bw bl n : Nat) (cores : Int) (ws : List Int) (es : List EntV) (i : Nat) (hi : i < es.length) (m : MsgV) (hml : m.l = (i : Int)) (hc : 0 ≤ m.c ∧ m.c < cores) (hco : cores ≤ 4) (D : DirW w d bm bw bl n cores ws es) (hE : EOk cores i es[i]) (hmay : mayB es[i] m = true) (hln : es[i].wl.length ≤ 100000) :
    Calls Try.prog 7 #[.pointer (some ⟨d, 0, none⟩), .agg #[.int .i64 m.k, .int .i64 m.c, .int .i64 m.l, .int .u64 m.d.x0, .int .u64 m.d.x1, .int .u64 m.d.x2, .int .u64 m.d.x3, .int .u64 m.d.x4, .int .u64 m.d.x5, .int .u64 m.d.x6, .int .u64 m.d.x7]] w
      (fun e w' => ∃ v, HearPost' w d bm bw bl n cores es (hearE n ws es[i] i m).1 (es.set i (setw (hearE n ws es[i] i m).2.1 v)) (hearE n ws es[i] i m).2.2 0 e w') := by
  have ho4 : es[i].ow = -1 ∨ 0 ≤ es[i].ow ∧ es[i].ow < 4 := hE.ow.imp id (fun h => ⟨h.1, by omega⟩)
  by_cases h12 : m.k = 1 ∨ m.k = 2
  · unfold hearE; rw [if_pos h12]
    by_cases hp : es[i].ph = 0
    · rw [if_pos hp]
      rcases h12 with hk | hk
      · refine (Hear_1b w d bm bw bl n cores ws es i hi m hml hc hco D hk hmay hp ho4).mono fun e w' h => ?_
        rw [hk]; exact h.same D hi (begin_wt _ _)
      · refine (Hear_2b w d bm bw bl n cores ws es i hi m hml hc hco D hk hmay hp ho4).mono fun e w' h => ?_
        rw [hk]; exact h.same D hi (begin_wt _ _)
    · rw [if_neg hp]
      rcases h12 with hk | hk
      · refine (Hear_1w w d bm bw bl n cores ws es i hi m hml hc hco D hk hmay hp hln).mono ?_
        rintro e w' ⟨v, rfl, h⟩
        rw [hk]; exact ⟨v, _, rfl, World.ownsRow_nil _ _ _ _, by simp [sliceB], h⟩
      · refine (Hear_2w w d bm bw bl n cores ws es i hi m hml hc hco D hk hmay hp hln).mono ?_
        rintro e w' ⟨v, rfl, h⟩
        rw [hk]; exact ⟨v, _, rfl, World.ownsRow_nil _ _ _ _, by simp [sliceB], h⟩
  · by_cases h4 : m.k = 4
    · have hph : es[i].ph = 1 := by
        unfold mayB at hmay; rw [if_neg h12, if_pos h4] at hmay; simp at hmay; exact hmay.1
      obtain ⟨hun, hul⟩ := hE.un4 (by omega) hco
      unfold hearE; rw [if_neg h12, if_pos h4]
      by_cases hr : notB es[i].ak m.c = 0
      · rw [if_pos hr]
        refine (Hear_4y w d bm bw bl n cores ws es i hi m hml hc hco D h4 hmay hr hun hul).mono fun e w' h => ?_
        rw [hul] at h; exact h.same D hi (by rw [grantE_wt]; rfl)
      · rw [if_neg hr]
        exact (Hear_4n w d bm bw bl n cores ws es i hi m hml hc hco D h4 hmay hr).mono fun e w' h => h.same D hi rfl
    by_cases h5 : m.k = 5
    · have hph : es[i].ph = 2 := by
        unfold mayB at hmay; rw [if_neg h12, if_neg h4, if_pos h5] at hmay; simp at hmay; exact hmay.1
      obtain ⟨hun, hul⟩ := hE.un4 (by omega) hco
      unfold hearE; rw [if_neg h12, if_neg h4, if_pos h5]
      by_cases hr : es[i].un.k = 1
      · rw [if_pos hr]
        refine (Hear_5s w d bm bw bl n cores ws es i hi m hml hc hco D h5 hmay hr hun hul).mono fun e w' h => ?_
        rw [hul] at h; exact h.same D hi (by rw [grantE_wt]; rfl)
      · rw [if_neg hr]
        refine (Hear_5m w d bm bw bl n cores ws es i hi m hml hc hco D h5 hmay hr hun hul).mono fun e w' h => ?_
        rw [hul] at h; exact h.same D hi (by rw [grantE_wt]; rfl)
    by_cases h6 : m.k = 6
    · have hph : es[i].ph = 2 := by
        unfold mayB at hmay; rw [if_neg h12, if_neg h4, if_neg h5, if_pos h6] at hmay; simp at hmay; exact hmay.1
      obtain ⟨hun, hul⟩ := hE.un4 (by omega) hco
      unfold hearE; rw [if_neg h12, if_neg h4, if_neg h5, if_pos h6]
      by_cases hr : 0 ≤ es[i].ow
      · rw [if_pos hr]
        exact (Hear_6n w d bm bw bl n cores ws es i hi m hml hc hco D h6 hmay hr).mono fun e w' h => h.same D hi rfl
      · rw [if_neg hr]
        refine (Hear_6y w d bm bw bl n cores ws es i hi m hml hc hco D h6 hmay (by omega) hun hul).mono fun e w' h => ?_
        rw [hul] at h; exact h.same D hi (by rw [grantE_wt]; rfl)
    by_cases h3 : m.k = 3
    · unfold hearE; rw [if_neg h12, if_neg h4, if_neg h5, if_neg h6, if_pos h3]
      by_cases hr : es[i].ph = 3
      · obtain ⟨hun, hul⟩ := hE.un4 (by omega) hco
        rw [if_pos hr]
        refine (Hear_3y w d bm bw bl n cores ws es i hi m hml hc hco D h3 hmay hr hun hul).mono fun e w' h => ?_
        rw [hul] at h; exact h.same D hi (by rw [grantE_wt]; rfl)
      · rw [if_neg hr]
        exact (Hear_3n w d bm bw bl n cores ws es i hi m hml hc hco D h3 hmay hr).mono fun e w' h => h.same D hi rfl
    have h7 : m.k = 7 := by
      unfold mayB at hmay; rw [if_neg h12, if_neg h4, if_neg h5, if_neg h6, if_neg h3] at hmay
      by_cases h : m.k = 7
      · exact h
      · rw [if_neg h] at hmay; cases hmay
    unfold hearE; rw [if_neg h12, if_neg h4, if_neg h5, if_neg h6, if_neg h3]
    cases hwl : es[i].wl with
    | nil => exact (Hear_7n w d bm bw bl n cores ws es i hi m hml hc hco D h7 hmay hwl).mono fun e w' h => h.same D hi rfl
    | cons nx l =>
      have hnx := hE.wl nx (by rw [hwl]; exact List.mem_cons_self)
      refine (Hear_7y w d bm bw bl n cores ws es i hi m hml hc hco D nx l h7 hmay hwl ⟨hnx.2.1.1, by have := hnx.2.1.2; omega⟩ hnx.2.2 ho4).mono ?_
      rintro e w' ⟨v, hsv, h⟩
      refine ⟨v, ?_⟩
      show HearPost' w d bm bw bl n cores es ws (es.set i (setw (beginE (nextE es[i] es[i].wt l) nx) v)) (beginM (nextE es[i] es[i].wt l) nx (lineV n ws i)) 0 e w'
      rw [← begin_set, ← beginM_set es[i] nx v l]
      exact h.apart D (dirB_slice hi (by rw [begin_wt]; exact hsv))

/-- The entry stays in order. -/
theorem grantE_ok {cores : Int} {i : Nat} {e : EntV} (h : EOk cores i e) (hp : e.ph ≠ 0) : EOk cores i (grantE e) := by
  have hu := h.un hp
  unfold grantE
  split
  · exact ⟨h.ow, fun _ => hu, h.wl⟩
  · exact ⟨.inr hu.2.1, fun _ => hu, h.wl⟩
theorem beginE_ok {cores : Int} {i : Nat} {e : EntV} {m : MsgV} (h : EOk cores i e) (hm : (m.k = 1 ∨ m.k = 2) ∧ (0 ≤ m.c ∧ m.c < cores) ∧ m.l = i) : EOk cores i (beginE e m) := by
  unfold beginE
  split
  · exact ⟨h.ow, fun _ => hm, h.wl⟩
  · split
    · unfold grantE
      split
      · exact ⟨h.ow, fun _ => hm, h.wl⟩
      · exact ⟨.inr hm.2.1, fun _ => hm, h.wl⟩
    · exact ⟨h.ow, fun _ => hm, h.wl⟩
theorem hearE_ok {n : Nat} {ws : List Int} {cores : Int} {i : Nat} {e : EntV} {m : MsgV} (h : EOk cores i e) (hc : 0 ≤ m.c ∧ m.c < cores) (hmay : mayB e m = true) : EOk cores i (hearE n ws e i m).2.1 := by
  by_cases h12 : m.k = 1 ∨ m.k = 2
  · unfold hearE; rw [if_pos h12]
    split
    · exact beginE_ok h ⟨h12, hc, rfl⟩
    · refine ⟨h.ow, h.un, fun x hx => ?_⟩
      rcases List.mem_append.1 hx with hx | hx
      · exact h.wl x hx
      · rw [List.mem_singleton.1 hx]; exact ⟨h12, hc, rfl⟩
  · by_cases h4 : m.k = 4
    · have hph : e.ph = 1 := by
        unfold mayB at hmay; rw [if_neg h12, if_pos h4] at hmay; simp at hmay; exact hmay.1
      have hA : EOk cores i (ackS e m.c) := ⟨h.ow, h.un, h.wl⟩
      unfold hearE; rw [if_neg h12, if_pos h4]
      split
      · exact grantE_ok hA (show e.ph ≠ 0 by omega)
      · exact hA
    by_cases h5 : m.k = 5
    · have hph : e.ph = 2 := by
        unfold mayB at hmay; rw [if_neg h12, if_neg h4, if_pos h5] at hmay; simp at hmay; exact hmay.1
      unfold hearE; rw [if_neg h12, if_neg h4, if_pos h5]
      split
      · exact grantE_ok (⟨.inl rfl, h.un, h.wl⟩ : EOk cores i (gaveS e m.c)) (show e.ph ≠ 0 by omega)
      · exact grantE_ok (⟨.inl rfl, h.un, h.wl⟩ : EOk cores i (noOw e)) (show e.ph ≠ 0 by omega)
    by_cases h6 : m.k = 6
    · have hph : e.ph = 2 := by
        unfold mayB at hmay; rw [if_neg h12, if_neg h4, if_neg h5, if_pos h6] at hmay; simp at hmay; exact hmay.1
      have hA : EOk cores i (toPut e) := ⟨h.ow, fun _ => h.un (by omega), h.wl⟩
      unfold hearE; rw [if_neg h12, if_neg h4, if_neg h5, if_pos h6]
      split
      · exact hA
      · exact grantE_ok hA (show (3 : Int) ≠ 0 by decide)
    have hN : EOk cores i (noOw e) := ⟨.inl rfl, h.un, h.wl⟩
    by_cases h3 : m.k = 3
    · unfold hearE; rw [if_neg h12, if_neg h4, if_neg h5, if_neg h6, if_pos h3]
      split
      · rename_i hr; exact grantE_ok hN (show e.ph ≠ 0 by omega)
      · exact hN
    unfold hearE; rw [if_neg h12, if_neg h4, if_neg h5, if_neg h6, if_neg h3]
    cases hwl : e.wl with
    | nil => exact ⟨h.ow, fun hp => absurd rfl hp, h.wl⟩
    | cons nx l =>
      exact beginE_ok (⟨h.ow, fun hp => absurd rfl hp, fun x hx => h.wl x (by rw [hwl]; exact List.mem_cons_of_mem _ hx)⟩ : EOk cores i (nextE e e.wt l)) (h.wl nx (by rw [hwl]; exact List.mem_cons_self))
end Go.Proofs.Ytepdhajgemmoiaa
