/- SoftAlone, where it stands: a path, a memory, what it should be, what was read, what was written. -/
import Derived.Test.YtilffolppnnkaaaSoft37
import Derived.Test.YtilffolppnnkaaaSoft38
namespace Go.Proofs.Ytilffolppnnkaaa
set_option maxRecDepth 100000
open Go.RowKit

/-- The path with its memory, and three maps beside. -/
structure AloneAt (w : World) (p : Nat) (F : List Nat) (s : PS) (m c : Nat) (h : PL) (u d : Nat) (g : PL) (r cr : Nat) (rd : PL) (b cb : Nat) (wr : PL) : Prop where
  two : Two w p F m c s h
  sh : MemAt w u d g
  rdm : IntsAt w r cr rd
  wrm : MemAt w b cb wr
  off : u ∉ m :: F ∧ r ∉ m :: F ∧ b ∉ m :: F
  ne : u ≠ r ∧ u ≠ b ∧ r ≠ b

theorem apart_one {m : Nat} {F : List Nat} {x : Nat} (hx : x ∉ m :: F) : Apart (m :: F) [x] := fun y hy e => by
  simp at e; subst e; exact hx hy

section
variable {w w' : World} {p : Nat} {F F' : List Nat} {s s' : PS} {m c c' : Nat} {h h' : PL} {u d d' : Nat} {g g' : PL} {r cr cr' : Nat} {rd rd' : PL} {b cb cb' : Nat} {wr wr' : PL} (K : AloneAt w p F s m c h u d g r cr rd b cb wr)
include K
/-- Nothing of it was touched. -/
theorem AloneAt.look (hC : Chg [] w w') : AloneAt w' p F s m c h u d g r cr rd b cb wr :=
  ⟨K.two.look hC, K.sh.chg hC (by simp), K.rdm.chg hC (by simp), K.wrm.chg hC (by simp), K.off, K.ne⟩
/-- The path, and its memory, did something. -/
theorem AloneAt.step (T : Two w' p F' m c' s' h') (hM : Mv (m :: F) (m :: F') w w') : AloneAt w' p F' s' m c' h' u d g r cr rd b cb wr := by
  have nw : ∀ x, x < w.heap.size → x ∉ m :: F → x ∉ m :: F' := fun x hx hn he => (hM.new x he).elim hn (fun e => by omega)
  exact ⟨T, K.sh.chg hM.chg K.off.1, K.rdm.chg hM.chg K.off.2.1, K.wrm.chg hM.chg K.off.2.2, ⟨nw u K.sh.lt K.off.1, nw r K.rdm.lt K.off.2.1, nw b K.wrm.lt K.off.2.2⟩, K.ne⟩
/-- What should be was written. -/
theorem AloneAt.should (hm : MemAt w' u d' g') (hC : Chg [u] w w') : AloneAt w' p F s m c h u d' g' r cr rd b cb wr :=
  ⟨K.two.chg hC (apart_one K.off.1), hm, K.rdm.chg hC (by simp [Ne.symm K.ne.1]), K.wrm.chg hC (by simp [Ne.symm K.ne.2.1]), K.off, K.ne⟩
theorem AloneAt.red (hm : IntsAt w' r cr' rd') (hC : Chg [r] w w') : AloneAt w' p F s m c h u d g r cr' rd' b cb wr :=
  ⟨K.two.chg hC (apart_one K.off.2.1), K.sh.chg hC (by simp [K.ne.1]), hm, K.wrm.chg hC (by simp [Ne.symm K.ne.2.2]), K.off, K.ne⟩
theorem AloneAt.wrote (hm : MemAt w' b cb' wr') (hC : Chg [b] w w') : AloneAt w' p F s m c h u d g r cr rd b cb' wr' :=
  ⟨K.two.chg hC (apart_one K.off.2.2), K.sh.chg hC (by simp [K.ne.2.1]), K.rdm.chg hC (by simp [K.ne.2.2]), hm, K.off, K.ne⟩
/-- Two maps made anew. -/
theorem AloneAt.anew : AloneAt ((w.alloc (.map #[] 0)).alloc (.map #[] 0)) p F s m c h u d g w.heap.size 0 [] (w.heap.size + 1) 0 [] := by
  have C1 : Chg [] w (w.alloc (.map #[] 0)) := (Chg.refl [] w).alloc _
  have C2 : Chg [] (w.alloc (.map #[] 0)) ((w.alloc (.map #[] 0)).alloc (.map #[] 0)) := (Chg.refl [] _).alloc _
  have hu := K.sh.lt
  have hF : ∀ x ∈ m :: F, x < w.heap.size := K.two.lt
  have hs : (w.alloc (.map #[] 0)).heap.size = w.heap.size + 1 := by simp
  have e2 := MemAt.new (w.alloc (.map #[] 0))
  rw [hs] at e2
  exact ⟨K.two.look (C1.trans C2), K.sh.chg (C1.trans C2) (by simp), (IntsAt.new w).chg C2 (by simp), e2, ⟨K.off.1, fun e => by have := hF _ e; omega, fun e => by have := hF _ e; omega⟩, by omega, by omega, by omega⟩
end

end Go.Proofs.Ytilffolppnnkaaa
