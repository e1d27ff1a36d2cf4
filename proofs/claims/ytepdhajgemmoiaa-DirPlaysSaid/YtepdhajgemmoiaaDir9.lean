/- A directory with those that wait: what its parts turn. -/
import Derived.Test.YtepdhajgemmoiaaDir8c
namespace Go.Proofs.Ytepdhajgemmoiaa
set_option maxRecDepth 100000
open Go.RowKit

/-- What is always so of an entry. -/
structure EOk (cores : Int) (i : Nat) (e : EntV) : Prop where
  ow : e.ow = -1 ∨ 0 ≤ e.ow ∧ e.ow < cores
  un : e.ph ≠ 0 → (e.un.k = 1 ∨ e.un.k = 2) ∧ (0 ≤ e.un.c ∧ e.un.c < cores) ∧ e.un.l = i
  wl : ∀ m ∈ e.wl, (m.k = 1 ∨ m.k = 2) ∧ (0 ≤ m.c ∧ m.c < cores) ∧ m.l = i

theorem begin_any (w : World) (d bm bw bl n : Nat) (cores : Int) (ws : List Int) (es : List EntV) (i : Nat) (hi : i < es.length) (m : MsgV) (hc : 0 ≤ m.c ∧ m.c < 4) (hl : 0 ≤ m.l ∧ m.l < n) (ho : es[i].ow = -1 ∨ 0 ≤ es[i].ow ∧ es[i].ow < 4) (D : DirAt w d bm bw bl n cores ws es) :
    Calls Try.prog 27 #[.pointer (some ⟨d, 0, none⟩), .pointer (some ⟨bl, i * 16, none⟩), m.val] w (OutPost w d bm bw bl n cores ws (es.set i (beginE es[i] m)) (beginM es[i] m (lineV n ws m.l))) := by
  by_cases h0 : 0 ≤ es[i].ow
  · have := begin_rec w d bm bw bl n cores ws es i hi m hc (by omega) D
    unfold beginE beginM; rw [if_pos h0, if_pos h0]; exact this
  · unfold beginE beginM; rw [if_neg h0, if_neg h0]
    by_cases h1 : m.k = 1 ∨ notB es[i].sh m.c = 0
    · rw [if_pos h1, if_pos h1]; exact begin_gr w d bm bw bl n cores ws es i hi m hc (by omega) h1 hl D
    · rw [if_neg h1, if_neg h1]; exact begin_ack w d bm bw bl n cores ws es i hi m hc (by omega) (fun e => h1 (.inl e)) (fun e => h1 (.inr e)) D

section
variable {w w' : World} {d bm bw bl n : Nat} {cores : Int} {ws ws' : List Int} {es : List EntV}
theorem dirB_wait {i : Nat} (hi : i < es.length) {g : Nat} (hg : g ∈ sliceB es[i].wt) : g ∈ dirB bw bl es := by
  unfold dirB
  exact List.mem_cons_of_mem _ (List.mem_cons_of_mem _ (List.mem_flatMap.2 ⟨es[i], List.getElem_mem hi, hg⟩))
theorem DirW.look (D : DirW w d bm bw bl n cores ws es) (k : Chg [] w w') : DirW w' d bm bw bl n cores ws es :=
  ⟨D.D.look k, fun i h => (D.wait i h).chg k (by simp), D.sep⟩
theorem DirW.waitNe (D : DirW w d bm bw bl n cores ws es) {i : Nat} (hi : i < es.length) : ∀ g ∈ sliceB es[i].wt, g ≠ bl ∧ g ≠ bw ∧ g ≠ d ∧ g ≠ bm := by
  intro g hg
  obtain ⟨_, hm⟩ := D.D.mem.m
  obtain ⟨_, hl⟩ := D.D.mem.l
  exact ⟨(D.wait i hi).ne D.D.ents (by decide) g hg, (D.wait i hi).ne hl (by decide) g hg, (D.wait i hi).ne D.D.blk (by decide) g hg, (D.wait i hi).ne hm (by decide) g hg⟩
theorem get_set {α : Type} {l : List α} {i j : Nat} {a : α} (h : j < (l.set i a).length) : (l.set i a)[j] = if i = j then a else l[j]'(by simpa using h) := List.getElem_set h
/-- An entry turned, but not who waits. -/
theorem DirW.turn (D : DirW w d bm bw bl n cores ws es) {i : Nat} (hi : i < es.length) {e : EntV} (he : e.wt = es[i].wt ∧ e.wl = es[i].wl) (k : Chg [bl] w w') (D' : DirAt w' d bm bw bl n cores ws (es.set i e)) : DirW w' d bm bw bl n cores ws (es.set i e) := by
  have hb : ∀ (j : Nat) (hj : j < (es.set i e).length), (es.set i e)[j].wt = (es[j]'(by simpa using hj)).wt ∧ (es.set i e)[j].wl = (es[j]'(by simpa using hj)).wl := fun j hj => by
    rw [get_set]
    split
    · rename_i h; subst h; exact he
    · exact ⟨rfl, rfl⟩
  refine ⟨D', fun j hj => ?_, fun j q hj hq hne g hg => ?_⟩
  · rw [(hb j hj).1, (hb j hj).2]
    exact (D.wait j (by simpa using hj)).chg k (fun g hg => by simpa using (D.waitNe _ g hg).1)
  · rw [(hb j hj).1] at hg; rw [(hb q hq).1]
    exact D.sep j q _ _ hne g hg
theorem dirB_turn {i : Nat} (hi : i < es.length) {e : EntV} (he : e.wt = es[i].wt) : ∀ g ∈ dirB bw bl (es.set i e), g ∈ dirB bw bl es := by
  intro g hg
  unfold dirB at hg
  rcases List.mem_cons.1 hg with h | h
  · subst h; exact List.mem_cons_self
  rcases List.mem_cons.1 h with h | h
  · subst h; exact List.mem_cons_of_mem _ List.mem_cons_self
  obtain ⟨x, hx, hg⟩ := List.mem_flatMap.1 h
  obtain ⟨j, hj, rfl⟩ := List.getElem_of_mem hx
  rw [get_set] at hg
  split at hg
  · rw [he] at hg; exact dirB_wait hi hg
  · exact dirB_wait _ hg
/-- The memory turned. -/
theorem DirW.mem (D : DirW w d bm bw bl n cores ws es) (k : Chg [bw] w w') (hM : MemAt w' bm bw n ws') : DirW w' d bm bw bl n cores ws' es := by
  obtain ⟨_, hl⟩ := D.D.mem.l
  refine ⟨⟨k.blk D.D.blk (by simpa using D.D.blk.ne hl (by decide)), hM, k.blk D.D.ents (by simpa using Ne.symm D.D.nw), D.D.len⟩, fun j hj => (D.wait j hj).chg k (fun g hg => by simpa using (D.waitNe hj g hg).2.1), D.sep⟩
end

/-- What a directory's method leaves: its state, and what it may have turned. -/
structure DirPost (w w' : World) (d bm bw bl n : Nat) (cores : Int) (es : List EntV) (ws' : List Int) (es' : List EntV) : Prop where
  D : DirW w' d bm bw bl n cores ws' es'
  chg : Chg (dirB bw bl es) w w'
  own : ∀ g ∈ dirB bw bl es', g ∈ dirB bw bl es ∨ w.heap.size ≤ g
section
variable {w w1 w2 : World} {d bm bw bl n : Nat} {cores : Int} {ws ws' : List Int} {es es' es2 : List EntV}
theorem dirB_bl : bl ∈ dirB bw bl es := List.mem_cons_of_mem _ List.mem_cons_self
theorem dirB_bw : bw ∈ dirB bw bl es := List.mem_cons_self
theorem DirPost.turn (D : DirW w d bm bw bl n cores ws es) {i : Nat} (hi : i < es.length) {e : EntV} (he : e.wt = es[i].wt ∧ e.wl = es[i].wl) (k : Chg [bl] w w1) (D' : DirAt w1 d bm bw bl n cores ws (es.set i e)) : DirPost w w1 d bm bw bl n cores es ws (es.set i e) :=
  ⟨D.turn hi he k D', k.mono (by simp [dirB_bl]), fun g hg => .inl (dirB_turn hi he.1 g hg)⟩
theorem DirPost.look (D : DirW w d bm bw bl n cores ws es) (k : Chg [] w w1) : DirPost w w1 d bm bw bl n cores es ws es :=
  ⟨D.look k, k.mono (by simp), fun g hg => .inl hg⟩
theorem DirPost.mem (D : DirW w d bm bw bl n cores ws es) (k : Chg [bw] w w1) (hM : MemAt w1 bm bw n ws') : DirPost w w1 d bm bw bl n cores es ws' es :=
  ⟨D.mem k hM, k.mono (by simp [dirB_bw]), fun g hg => .inl hg⟩
theorem DirPost.trans (h : DirPost w w1 d bm bw bl n cores es ws es') (k : DirPost w1 w2 d bm bw bl n cores es' ws' es2) : DirPost w w2 d bm bw bl n cores es ws' es2 :=
  ⟨k.D, h.chg.trans' k.chg (fun x hx hl => (h.own x hx).resolve_right (by omega)), fun g hg => by
    rcases k.own g hg with h1 | h1
    · exact h.own g h1
    · exact .inr (Nat.le_trans h.chg.size h1)⟩
end
end Go.Proofs.Ytepdhajgemmoiaa
