/- Loops over a function: what a round keeps. No program in sight. -/
import Derived.RangeFuncBox
import Derived.RangeFuncNested
import Derived.RangeFuncLeaves
import Derived.Shelf.Abstract
import Derived.OwnWalkIn
import Derived.TacticsInMore
import Derived.LoopNIn
import Derived.LoopIn
import Derived.Maps.AppendAt
import Derived.Test.YtepdhajgemmoiaaLib
namespace Go.Proofs.Ytepdhajgemmoiaa
open Go.RowKit Go.Shelf

/-- What a round keeps: all below n₀, and the iterator's own box. -/
def KeepB (n₀ Bx : Nat) (W W' : World) : Prop := Below n₀ W W' ∧ ∀ o : Obj, o.isCells = true → W.heap[Bx]? = some o → W'.heap[Bx]? = some o
theorem keepB_t {n₀ Bx : Nat} {A B C : World} (h : KeepB n₀ Bx A B) (k : KeepB n₀ Bx B C) : KeepB n₀ Bx A C := ⟨h.1.trans k.1, fun o ho hb => k.2 o ho (h.2 o ho hb)⟩
theorem keepB_b {n₀ Bx : Nat} {w : World} (hn : n₀ ≤ w.heap.size) (W : World) (l : Nat) (o o' : Obj) (hl : w.heap.size ≤ l) (h : W.heap[l]? = some o) (h1 : o.isCells = false) (h2 : o.isWalk = false) : KeepB n₀ Bx W (W.putObj l o') :=
  ⟨belowK_b hn W l o o' hl h h1 h2, fun p hp hb => by
    by_cases e : l = Bx
    · subst e; rw [h] at hb; cases hb; rw [h1] at hp; cases hp
    · rw [World.putObj_heap_other (by omega)]; exact hb⟩

theorem blk_own {β : Type} (B : Nat) (t : TypeId) (l : List Value) : Own (fun (_ : β) W => Blk W B l t) := fun s X Y row hs hg hrow =>
  (hg.block B hs.lt (fun e' => by obtain ⟨o, ho, hc⟩ := hrow B e'.symm; rw [show X.heap[B]? = _ from hs] at ho; cases ho; cases hc)).trans hs

theorem chg_own {β : Type} {S : List Nat} {w₀ : World} {B : Nat} (hB : w₀.heap.size ≤ B) : OwnFrom B (fun (_ : β) W => Chg S w₀ W) := fun s X Y row hs hg hr =>
  ⟨hg.os.trans hs.os, hg.tape.trans hs.tape, hg.output.trans hs.output, Nat.le_trans hs.size hg.size, fun k hk hks =>
    (hg.block k (Nat.lt_of_lt_of_le hk hs.size) (fun e => by have := (hr k e.symm).1; omega)).trans (hs.block k hk hks)⟩

theorem Chg.putObj {S : List Nat} {w₀ W : World} (h : Chg S w₀ W) {D : Nat} (hD : w₀.heap.size ≤ D) (o : Obj) : Chg S w₀ (W.putObj D o) :=
  ⟨h.os, h.tape, h.output, by simpa [World.putObj] using h.size, fun k hk hs => (World.putObj_heap_other (by omega)).trans (h.block k hk hs)⟩
theorem Blk.putObj {W : World} {b D : Nat} {l : List Value} {t : TypeId} (h : Blk W b l t) (hne : b ≠ D) (o : Obj) : Blk (W.putObj D o) b l t :=
  (World.putObj_heap_other hne).trans h

end Go.Proofs.Ytepdhajgemmoiaa
