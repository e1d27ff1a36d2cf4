/- A log, the document's and what was kept, since the law began; LogPlays. -/
import Derived.Test.YtobpknbnfkjnhaaLogR13
namespace Go.Proofs.Ytobpknbnfkjnhaa
open Go.RowKit

structure OwnPl (w wr : World) (g : Nat) (F : List Nat) (d kb : Nat) (K : List Nat) (s : RW) (n : Nat) : Prop where
  p : PlAt wr g F d kb K s s n
  ge : ∀ x ∈ allN F d K, w.heap.size ≤ x
  bel : Below w.heap.size w wr

theorem OwnPl.size {w wr : World} {g : Nat} {F : List Nat} {d kb : Nat} {K : List Nat} {s : RW} {n : Nat} (h : OwnPl w wr g F d kb K s n) : w.heap.size ≤ wr.heap.size := h.bel.size
theorem OwnPl.did {w wr w' : World} {g : Nat} {F F' : List Nat} {d kb : Nat} {K K' : List Nat} {s s' : RW} {n n' : Nat} (h : OwnPl w wr g F d kb K s n) (h1 : PlAt w' g F' d kb K' s' s' n') (m : Mv (allN F d K) (allN F' d K') wr w') : OwnPl w w' g F' d kb K' s' n' :=
  ⟨h1, m.ge h.ge h.size, h.bel.trans (m.below h.ge h.size)⟩
theorem OwnPl.look {w wr w' : World} {g : Nat} {F : List Nat} {d kb : Nat} {K : List Nat} {s : RW} {n : Nat} (h : OwnPl w wr g F d kb K s n) (k : Chg [] wr w') : OwnPl w w' g F d kb K s n :=
  h.did (h.p.look k) (Mv.of_same k)

theorem OwnPl.start {w w1 : World} {g : Nat} {F : List Nat} (h : LogAt w1 g F [] []) (m : Mv [] F w w1) :
    OwnPl w ((w1.alloc (.cells #[.slice none 0 0, .slice none 0 0] 43)).alloc (.cells #[.slice none 0 0, .slice none 0 0] 47)) g F w1.heap.size (w1.heap.size + 1) [w1.heap.size + 1] ([], []) 0 := by
  have hb1 := (Blk.new w1 [.slice none 0 0, .slice none 0 0] 43).alloc (.cells #[.slice none 0 0, .slice none 0 0] 47)
  have hb2 := Blk.new (w1.alloc (.cells #[.slice none 0 0, .slice none 0 0] 43)) [.slice none 0 0, .slice none 0 0] 47
  rw [show (w1.alloc (.cells #[.slice none 0 0, .slice none 0 0] 43)).heap.size = w1.heap.size + 1 from by simp] at hb2
  have hC : Chg [] w1 ((w1.alloc (.cells #[.slice none 0 0, .slice none 0 0] 43)).alloc (.cells #[.slice none 0 0, .slice none 0 0] 47)) := ((Chg.refl _ _).alloc _).alloc _
  have hF : ∀ x ∈ F, w.heap.size ≤ x := fun x hx => (m.new x hx).elim (fun e => absurd e (by simp)) id
  have hs := m.chg.size
  have hlt := h.lt
  generalize ((w1.alloc (.cells #[.slice none 0 0, .slice none 0 0] 43)).alloc (.cells #[.slice none 0 0, .slice none 0 0] 47)) = w2 at *
  refine ⟨⟨h.look hC, ⟨⟨none, 0, []⟩, ⟨none, 0, []⟩, rfl, rfl, hb1, FzP.none _ _, FzP.none _ _⟩, ⟨_, _, [], [], ⟨hb2, World.ownsRow_nil _ _ _ _, World.ownsRow_nil _ _ _ _, rfl, rfl, fun x hx => by simp [Value.ownBlock] at hx, by simp [Value.ownBlock], by simp [Value.ownBlock], by simp, by simp, by simp⟩, rfl⟩, fun hm => by have := hlt _ hm; omega, by simp, fun x hx hm => by simp at hm; subst hm; have := hlt _ hx; omega⟩, ?_, m.chg.nil_below.trans (hC.nil_below.mono hs)⟩
  intro x hx
  simp [allN] at hx
  rcases hx with hx | rfl | rfl
  · exact hF x hx
  · exact hs
  · omega

def OpOk2 (w : World) (o : OpV) : Prop := (Lit.int .i64 o.a).wf = true ∧ (Lit.int .u64 o.v).wf = true ∧ o.now.length ≤ o.ncap ∧ (o.nA = none → o.ncap = 0) ∧ RdP w w.heap.size o.nA o.now

def OpsRel (w : World) (g d kb : Nat) (s : RW) (xs : List OpV) (i : Value) (wr : World) : Prop :=
  ∃ k : Nat, k ≤ xs.length ∧ i = .int .i64 k ∧ ∃ F K n, OwnPl w wr g F d kb K (opPlay s (xs.take k)) n ∧ n ≤ k

/-- A call of 'do' from a law's loop. -/
theorem do_own (w wr : World) (g : Nat) (F : List Nat) (d kb : Nat) (K : List Nat) (s : RW) (n k : Nat) (o : OpV) (hok : OpOk2 w o) (hn : n ≤ k) (hk : k ≤ 1000) (hnow : o.now.length ≤ 300) (h : OwnPl w wr g F d kb K s n) :
    Calls Try.prog 20 #[.pointer (some ⟨g, 0, none⟩), .pointer (some ⟨d, 0, none⟩), .agg #[.int .i64 o.k, .int .i64 o.a, .int .u64 o.v, .slice o.nA o.now.length o.ncap], .pointer (some ⟨kb, 0, none⟩)] wr
      fun e w' => e = .returned (.bool true) ∧ ∃ F' K' n', OwnPl w w' g F' d kb K' (opStep s o) n' ∧ n' ≤ k + 1 := by
  obtain ⟨wa, wv, hcap, hA0, hN⟩ := hok
  refine (do_any wr g F d kb K s n o wa wv (by omega) hnow hcap hA0 ?_ h.p).mono ?_
  · intro hp
    obtain ⟨b, off, e, hb, hc⟩ := hN hp
    exact ⟨b, off, e, Nat.lt_of_lt_of_le hb h.size, fun k hk j hj => (h.bel.cell (p := ⟨b, _, none⟩) hb).trans (hc k hk j hj)⟩
  · rintro e w' ⟨rfl, F', K', n', h1, h2, h3⟩
    exact ⟨rfl, F', K', n', h.did h1 h2, by omega⟩

end Go.Proofs.Ytobpknbnfkjnhaa
