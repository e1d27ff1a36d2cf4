/- A directory one of whose entries is turned, cell by cell. -/
import Derived.Test.YtepdhajgemmoiaaDir9
namespace Go.Proofs.Ytepdhajgemmoiaa
set_option maxRecDepth 100000
open Go.RowKit

section
variable {w w1 w2 : World} {d bm bw bl n : Nat} {cores : Int} {ws ws' : List Int} {es : List EntV} {i p : Nat} {E E' : EntV}
theorem set_self_at {α : Type} {l : List α} {i : Nat} (h : i < l.length) : l.set i l[i] = l := by
  apply List.ext_getElem
  · simp
  · intro j h1 h2; rw [get_set]; split
    · rename_i e; subst e; rfl
    · rfl
theorem DirPost.start (h : DirPost w w1 d bm bw bl n cores es ws es) (hi : i < es.length) : DirPost w w1 d bm bw bl n cores es ws (es.set i es[i]) := by
  rw [set_self_at hi]; exact h
theorem at_set (hi : i < es.length) : ∃ h : i < (es.set i E).length, (es.set i E)[i] = E := ⟨by rw [List.length_set]; exact hi, List.getElem_set_self _⟩
theorem DirPost.cell (h : DirPost w w1 d bm bw bl n cores es ws (es.set i E)) (hi : i < es.length) (hp : i * 16 = p) {j : Nat} (hj : j < 16) : w1.cell? ⟨bl, p + j, none⟩ = (encE E)[j]? := by
  have hi1 : i < (es.set i E).length := by rw [List.length_set]; exact hi
  have := h.D.D.ents.cell hi1 hj
  rw [List.getElem_set_self, hp] at this; exact this
theorem DirPost.free (h : DirPost w w1 d bm bw bl n cores es ws (es.set i E)) (o : Nat) : w1.frozen? ⟨bl, o, none⟩ = false := h.D.D.ents.free o
theorem DirPost.chg0 (h : DirPost w w1 d bm bw bl n cores es ws (es.set i E)) (k : Chg [] w1 w2) : DirPost w w2 d bm bw bl n cores es ws (es.set i E) := h.trans (.look h.D k)
/-- The entry turned by a step that turns the entries alone. -/
theorem DirPost.step (h : DirPost w w1 d bm bw bl n cores es ws (es.set i E)) (hi : i < es.length) (hw : E'.wt = E.wt ∧ E'.wl = E.wl) (k : Chg [bl] w1 w2) (hD : DirAt w2 d bm bw bl n cores ws (es.set i E')) : DirPost w w2 d bm bw bl n cores es ws (es.set i E') := by
  have hi1 : i < (es.set i E).length := by rw [List.length_set]; exact hi
  have h2 := DirPost.turn h.D hi1 (e := E') (by rw [List.getElem_set_self]; exact hw) k (by rw [List.set_set]; exact hD)
  rw [List.set_set] at h2
  exact h.trans h2
theorem DirPost.put (h : DirPost w w1 d bm bw bl n cores es ws (es.set i E)) (hi : i < es.length) (hp : i * 16 = p) {j : Nat} (hj : j < 16) {v : Value} (hE : (encE E).set j v = encE E') (hw : E'.wt = E.wt ∧ E'.wl = E.wl) :
    DirPost w (w1.setCell ⟨bl, p + j, none⟩ v) d bm bw bl n cores es ws (es.set i E') := by
  have hi1 : i < (es.set i E).length := by rw [List.length_set]; exact hi
  have hk : Chg [bl] w1 (w1.setCell ⟨bl, p + j, none⟩ v) := (Chg.refl [bl] w1).setCell (p := ⟨bl, p + j, none⟩) (fun _ => List.mem_singleton.2 rfl) v
  have he := h.D.D.ents.set hi1 hj (v := v) (e := E') (by rw [List.getElem_set_self]; exact hE)
  rw [List.set_set, hp] at he
  exact h.step hi hw hk (h.D.D.turn hk he (by have := h.D.D.len; rw [List.length_set] at this ⊢; exact this))
theorem DirPost.mem2 (h : DirPost w w1 d bm bw bl n cores es ws (es.set i E)) (k : Chg [bw] w1 w2) (hM : MemAt w2 bm bw n ws') : DirPost w w2 d bm bw bl n cores es ws' (es.set i E) := h.trans (.mem h.D k hM)
theorem DirPost.granted (h : DirPost w w1 d bm bw bl n cores es ws (es.set i E)) (hi : i < es.length) (hp : i * 16 = p) (hc : 0 ≤ E.un.c ∧ E.un.c < 4) (hl : 0 ≤ E.un.l ∧ E.un.l < n) :
    Calls Try.prog 29 #[.pointer (some ⟨d, 0, none⟩), .pointer (some ⟨bl, p, none⟩)] w1 fun e w' => e = .returned (grantM E (lineV n ws E.un.l)).val ∧ DirPost w w' d bm bw bl n cores es ws (es.set i (grantE E)) ∧ Chg [bl] w1 w' := by
  have hi1 : i < (es.set i E).length := by rw [List.length_set]; exact hi
  have hg := grant_any w1 d bm bw bl n cores ws (es.set i E) i hi1 (by rw [List.getElem_set_self]; exact hc) (by rw [List.getElem_set_self]; exact hl) h.D.D
  rw [List.getElem_set_self, hp] at hg
  refine hg.mono ?_
  rintro e w' ⟨rfl, hD, hk⟩
  rw [List.set_set] at hD
  exact ⟨rfl, h.step hi (by unfold grantE; split <;> exact ⟨rfl, rfl⟩) hk hD, hk⟩
theorem DirPost.began (h : DirPost w w1 d bm bw bl n cores es ws (es.set i E)) (hi : i < es.length) (hp : i * 16 = p) (m : MsgV) (hc : 0 ≤ m.c ∧ m.c < 4) (hl : 0 ≤ m.l ∧ m.l < n) (ho : E.ow = -1 ∨ 0 ≤ E.ow ∧ E.ow < 4) :
    Calls Try.prog 27 #[.pointer (some ⟨d, 0, none⟩), .pointer (some ⟨bl, p, none⟩), m.val] w1 fun e w' => ∃ v, e = .returned v ∧ w'.ownsRow w1.heap.size 33 11 v (beginM E m (lineV n ws m.l)).length ((beginM E m (lineV n ws m.l)).flatMap encM) ∧ DirPost w w' d bm bw bl n cores es ws (es.set i (beginE E m)) ∧ Chg [bl] w1 w' := by
  have hi1 : i < (es.set i E).length := by rw [List.length_set]; exact hi
  have hg := begin_any w1 d bm bw bl n cores ws (es.set i E) i hi1 m hc hl (by rw [List.getElem_set_self]; exact ho) h.D.D
  rw [List.getElem_set_self, hp] at hg
  refine hg.mono ?_
  rintro e w' ⟨v, rfl, hr, hD, hk⟩
  rw [List.set_set] at hD
  refine ⟨v, rfl, hr, h.step hi ?_ hk hD, hk⟩
  unfold beginE; split
  · exact ⟨rfl, rfl⟩
  · split
    · unfold grantE; split <;> exact ⟨rfl, rfl⟩
    · exact ⟨rfl, rfl⟩
/-- Those that wait turned: the slice lies in a block that was the entry's, or is new. -/
theorem DirPost.waits (h : DirPost w w1 d bm bw bl n cores es ws (es.set i E)) (hi : i < es.length) (k : Chg (bl :: sliceB E.wt) w1 w2) (hD : DirAt w2 d bm bw bl n cores ws (es.set i E')) (hW : WaitAt w2 E'.wt E'.wl) (hb : ∀ g ∈ sliceB E'.wt, g ∈ sliceB E.wt ∨ w1.heap.size ≤ g) : DirPost w w2 d bm bw bl n cores es ws (es.set i E') := by
  have hi1 : i < (es.set i E).length := by rw [List.length_set]; exact hi
  have hle : ∀ (j : Nat) (hj : j < es.length), i ≠ j → (es.set i E)[j]'(by rw [List.length_set]; exact hj) = es[j] := fun j hj hne => by rw [get_set, if_neg hne]
  have hii : (es.set i E)[i] = E := List.getElem_set_self _
  -- another entry's slice lies apart
  have hap : ∀ (j : Nat) (hj : j < es.length), i ≠ j → ∀ g ∈ sliceB es[j].wt, g ∉ bl :: sliceB E.wt ∧ g < w1.heap.size := fun j hj hne g hg => by
    have hj1 : j < (es.set i E).length := by rw [List.length_set]; exact hj
    have h1 : g ∈ sliceB ((es.set i E)[j]).wt := by rw [hle j hj hne]; exact hg
    refine ⟨fun hm => ?_, (h.D.wait j hj1).lt g h1⟩
    rcases List.mem_cons.1 hm with e | e
    · exact (h.D.waitNe hj1 g h1).1 e
    · exact h.D.sep j i hj1 hi1 (Ne.symm hne) g h1 (by rw [hii]; exact e)
  have hgE : ∀ g ∈ sliceB E.wt, g ∈ dirB bw bl (es.set i E) := fun g hg => dirB_wait hi1 (by rw [hii]; exact hg)
  refine h.trans ⟨⟨hD, fun j hj => ?_, fun j q hj hq hne g hg => ?_⟩, k.mono ?_, fun g hg => ?_⟩
  · rw [get_set]
    split
    · exact hW
    · rename_i hne
      have hj' : j < es.length := by simpa using hj
      have hj1 : j < (es.set i E).length := by rw [List.length_set]; exact hj'
      have h1 := (h.D.wait j hj1).chg k (fun g hg => by rw [hle j hj' hne] at hg; exact (hap j hj' hne g hg).1)
      rw [hle j hj' hne] at h1; exact h1
  · rw [get_set] at hg ⊢
    split at hg
    · rename_i e1
      split
      · rename_i e2; exact absurd (e1.symm.trans e2) hne
      · rename_i e2
        intro hm
        have hq' : q < es.length := by simpa using hq
        have ha := hap q hq' e2 g hm
        rcases hb g hg with h3 | h3
        · exact ha.1 (List.mem_cons_of_mem _ h3)
        · omega
    · rename_i e1
      have hj' : j < es.length := by simpa using hj
      have ha := hap j hj' e1 g hg
      split
      · intro hm
        rcases hb g hm with h3 | h3
        · exact ha.1 (List.mem_cons_of_mem _ h3)
        · omega
      · rename_i e2
        have hq' : q < es.length := by simpa using hq
        intro hm
        exact h.D.sep j q (by rw [List.length_set]; exact hj') (by rw [List.length_set]; exact hq') hne g (by rw [hle j hj' e1]; exact hg) (by rw [hle q hq' e2]; exact hm)
  · intro x hx
    rcases List.mem_cons.1 hx with e | e
    · subst e; exact dirB_bl
    · exact hgE x e
  · unfold dirB at hg
    rcases List.mem_cons.1 hg with e | hg
    · subst e; exact .inl dirB_bw
    rcases List.mem_cons.1 hg with e | hg
    · subst e; exact .inl dirB_bl
    obtain ⟨x, hx, hg⟩ := List.mem_flatMap.1 hg
    obtain ⟨j, hj, rfl⟩ := List.getElem_of_mem hx
    rw [get_set] at hg
    split at hg
    · rcases hb g hg with h3 | h3
      · exact .inl (hgE g h3)
      · exact .inr h3
    · rename_i e1
      have hj' : j < es.length := by simpa using hj
      exact .inl (dirB_wait (show j < (es.set i E).length by rw [List.length_set]; exact hj') (by rw [hle j hj' e1]; exact hg))
theorem DirW.lt {es1 : List EntV} (D : DirW w d bm bw bl n cores ws es1) : ∀ g ∈ dirB bw bl es1, g < w.heap.size := by
  intro g hg
  unfold dirB at hg
  rcases List.mem_cons.1 hg with e | hg
  · subst e; obtain ⟨_, hl⟩ := D.D.mem.l; exact hl.lt
  rcases List.mem_cons.1 hg with e | hg
  · subst e; exact Blk.lt D.D.ents
  obtain ⟨x, hx, hg⟩ := List.mem_flatMap.1 hg
  obtain ⟨j, hj, rfl⟩ := List.getElem_of_mem hx
  exact (D.wait j hj).lt g hg
/-- Blocks turned that are not the directory's. -/
theorem DirW.chgS {S : List Nat} {es1 : List EntV} (D : DirW w d bm bw bl n cores ws es1) (k : Chg S w w1) (hd : d ∉ S) (hbm : bm ∉ S) (hS : ∀ x ∈ S, x ∉ dirB bw bl es1) : DirW w1 d bm bw bl n cores ws es1 := by
  have hbw : bw ∉ S := fun hm => hS bw hm dirB_bw
  have hbl : bl ∉ S := fun hm => hS bl hm dirB_bl
  exact ⟨⟨k.blk D.D.blk hd, D.D.mem.chg k hbm hbw, k.blk D.D.ents hbl, D.D.len⟩, fun j hj => (D.wait j hj).chg k (fun g hg hm => hS g hm (dirB_wait hj hg)), D.sep⟩
theorem DirPost.own2 {S : List Nat} {es1 : List EntV} (h : DirPost w w1 d bm bw bl n cores es ws es1) (k : Chg S w1 w2) (hd : d ∉ S) (hbm : bm ∉ S) (hS : ∀ x ∈ S, w.heap.size ≤ x ∧ x ∉ dirB bw bl es1) : DirPost w w2 d bm bw bl n cores es ws es1 :=
  ⟨h.D.chgS k hd hbm (fun x hx => (hS x hx).2), h.chg.trans' k (fun x hx hl => by have := (hS x hx).1; omega), h.own⟩
theorem dirB_eq {E E' : EntV} (hi : i < es.length) (hw : E'.wt = E.wt) : ∀ g ∈ dirB bw bl (es.set i E'), g ∈ dirB bw bl (es.set i E) := by
  intro g hg
  have hi1 : i < (es.set i E).length := by rw [List.length_set]; exact hi
  have := dirB_turn (bw := bw) (bl := bl) hi1 (e := E') (by rw [List.getElem_set_self]; exact hw) g
  rw [List.set_set] at this
  exact this hg
theorem grantE_wt (e : EntV) : (grantE e).wt = e.wt := by unfold grantE; split <;> rfl
end
end Go.Proofs.Ytepdhajgemmoiaa
