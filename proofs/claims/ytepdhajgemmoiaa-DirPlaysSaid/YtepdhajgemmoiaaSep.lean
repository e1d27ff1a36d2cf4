/- What an object covers, and what a step turns: blocks of its own, and new ones. No program in sight. -/
import Derived.Test.YtepdhajgemmoiaaLib
import Derived.OwnWalk
import Derived.Maps.AppendAt
import Derived.Maps.OwnSet
import Derived.Laws.OwnMore
namespace Go.Proofs.Ytepdhajgemmoiaa
open Go.RowKit

/-- A step turned blocks of F and new ones alone; what it covers now (F') it covered, or is new. -/
structure Mv (F F' : List Nat) (w w' : World) : Prop where
  chg : Chg F w w'
  new : ∀ k ∈ F', k ∈ F ∨ w.heap.size ≤ k

theorem Mv.refl (F : List Nat) (w : World) : Mv F F w w := ⟨Chg.refl _ _, fun _ h => .inl h⟩
theorem Mv.trans {F G H : List Nat} {a b c : World} (h : Mv F G a b) (k : Mv G H b c) : Mv F H a c :=
  ⟨h.chg.trans' k.chg (fun x hx hl => (h.new x hx).elim id (fun e => by omega)), fun x hx => (k.new x hx).elim (fun e => h.new x e) (fun e => .inr (Nat.le_trans h.chg.size e))⟩

theorem Chg.of_grown {w w' : World} {row : Option Nat} (h : w.grownBy w' row) : Chg row.toList w w' :=
  ⟨h.os, h.tape, h.output, h.size, fun k hk hn => h.block k hk (fun e => hn (by rw [← e]; simp))⟩

theorem Chg.one {m : Nat} {T : List Nat} {a b : World} (h : Chg (some m).toList a b) (hm : m ∈ T) : Chg T a b :=
  h.mono (fun x hx => by simp at hx; subst hx; exact hm)

theorem Chg.grown {S : List Nat} {w₀ w w' : World} {row : Option Nat} (h : Chg S w₀ w) (g : w.grownBy w' row) (hr : ∀ k, row = some k → k < w₀.heap.size → k ∈ S) : Chg S w₀ w' :=
  h.trans' (Chg.of_grown g) (fun x hx hl => by
    cases row with
    | none => cases hx
    | some r => simp at hx; subst hx; exact hr _ rfl hl)

theorem ownsRow_chg {S : List Nat} {w w' : World} {base : Nat} {e : TypeId} {size : Nat} {v : Value} {n : Nat} {xs : List Value} (h : w.ownsRow base e size v n xs) (k : Chg S w w') (hs : ∀ g ∈ v.ownBlock.toList, g ∉ S) : w'.ownsRow base e size v n xs := by
  refine ⟨h.1, ?_⟩
  rcases h.2 with x | ⟨g, cap, cur, rfl, hb, hh, r⟩
  · exact .inl x
  · have hg : g ∉ S := hs g (by simp [Value.ownBlock])
    exact .inr ⟨g, cap, cur, rfl, hb, (k.block g (lt_of_block hh) hg).trans hh, r⟩

theorem ownsMap_chg {H : Type} {P : Program} {kt : TypeId} {R : Value → Option (DataW H × List MemPlace)} {S : List Nat} {w w' : World} {b n : Nat} {D : DataW H} (h : w.ownsMap P kt R b n D) (k : Chg S w w') (hs : b ∉ S) : w'.ownsMap P kt R b n D := by
  obtain ⟨es, clock, hb, r⟩ := h
  exact ⟨es, clock, (k.block b (lt_of_block hb) hs).trans hb, r⟩

theorem ownsRow_lt {w : World} {base : Nat} {e : TypeId} {size : Nat} {v : Value} {n : Nat} {xs : List Value} (h : w.ownsRow base e size v n xs) : ∀ g ∈ v.ownBlock.toList, g < w.heap.size := by
  intro g hg
  exact (h.lt g (by simpa using hg)).2

/-- A slice that a call made reads as a slice that came in does. -/
theorem ownsRow_cell {w : World} {base : Nat} {e : TypeId} {size : Nat} {v : Value} {n : Nat} {xs : List Value} (h : w.ownsRow base e size v n xs) :
    ∃ A cap, v = .slice A n cap ∧ n ≤ cap ∧ cap ≤ maxLen ∧ (A = none → cap = 0) ∧ ∀ j, j < n * size → ∃ g, A = some ⟨g, 0, none⟩ ∧ g ∈ v.ownBlock.toList ∧ w.cell? ⟨g, j, none⟩ = xs[j]? ∧ w.frozen? ⟨g, j, none⟩ = false := by
  rcases h.2 with ⟨rfl, rfl⟩ | ⟨g, cap, cur, rfl, hb, hh, h1, h2, r⟩
  · exact ⟨none, 0, rfl, Nat.le_refl _, Nat.zero_le _, fun _ => rfl, fun j hj => absurd hj (by simp)⟩
  · exact ⟨some ⟨g, 0, none⟩, cap, rfl, h1, h2, (fun e => by cases e), fun j hj => ⟨g, rfl, by simp [Value.ownBlock], h.cellAt j hj, h.frozenAt j⟩⟩

theorem ownsRow_notMem {w : World} {base : Nat} {e : TypeId} {size : Nat} {v : Value} {n : Nat} {xs : List Value} (h : w.ownsRow base e size v n xs) {x : Nat} (hx : x < base) : x ∉ v.ownBlock.toList := fun hm => by
  have := (h.lt x (by simpa using hm)).1; omega
/-- An append onto an own row turns what the row's base allows. -/
theorem Chg.grew {S : List Nat} {w₀ w w' : World} {base : Nat} {e : TypeId} {size : Nat} {v : Value} {n : Nat} {xs : List Value} (h : Chg S w₀ w) (ho : w.ownsRow base e size v n xs) (g : w.grownBy w' v.ownBlock) (hb : ∀ k, base ≤ k → k < w₀.heap.size → k ∈ S) : Chg S w₀ w' :=
  h.grown g (fun k hk hl => hb k (ho.lt k hk).1 hl)
theorem Blk.grew {w w' : World} {b : Nat} {l : List Value} {t : TypeId} {base : Nat} {e : TypeId} {size : Nat} {v : Value} {n : Nat} {xs : List Value} (h : Blk w b l t) (ho : w.ownsRow base e size v n xs) (g : w.grownBy w' v.ownBlock) (hb : b < base) : Blk w' b l t :=
  (Chg.of_grown g).blk h (ownsRow_notMem ho hb)

theorem notMem_of_lt {F : List Nat} {n k : Nat} (h : ∀ x ∈ F, x < n) (hk : n ≤ k) : k ∉ F := fun hm => by have := h k hm; omega

theorem cells_new (w : World) (l : List Value) (t : TypeId) : ∀ j u, l[j]? = some u → (w.alloc (.cells l.toArray t)).cell? ((⟨w.heap.size, 0, none⟩ : Addr).add j) = some u := by
  intro j u hj
  have := (Blk.new w l t).cell j
  rw [hj] at this
  unfold Addr.add
  split
  · rename_i h0; subst h0; exact this
  · rw [Nat.zero_add]; exact this

/-- The same, wherever the block's number is written. -/
theorem cells_at {w : World} {g : Nat} (hg : g = w.heap.size) (l : List Value) (t : TypeId) : ∀ j u, l[j]? = some u → (w.alloc (.cells l.toArray t)).cell? ((⟨g, 0, none⟩ : Addr).add j) = some u := by
  subst hg; exact cells_new w l t

/-- Two covers that have nothing in common. -/
def Apart (F G : List Nat) : Prop := ∀ k ∈ F, k ∉ G
theorem Apart.symm {F G : List Nat} (h : Apart F G) : Apart G F := fun k hk hf => h k hf hk
theorem Apart.mv {F F' G : List Nat} {w w' : World} (h : Apart F G) (m : Mv F F' w w') (hG : ∀ x ∈ G, x < w.heap.size) : Apart F' G := fun k hk hg =>
  (m.new k hk).elim (fun e => h k e hg) (fun e => by have := hG k hg; omega)
theorem Apart.nil_left (G : List Nat) : Apart [] G := fun _ h => by cases h
theorem Apart.nil_right (F : List Nat) : Apart F [] := fun _ _ h => by cases h
theorem Apart.app_left {F F' G : List Nat} (h : Apart F G) (h' : Apart F' G) : Apart (F ++ F') G := fun k hk hg => (List.mem_append.1 hk).elim (fun e => h k e hg) (fun e => h' k e hg)
theorem Apart.app_right {F G G' : List Nat} (h : Apart F G) (h' : Apart F G') : Apart F (G ++ G') := fun k hk hg => (List.mem_append.1 hg).elim (fun e => h k hk e) (fun e => h' k hk e)
theorem Apart.new {F G : List Nat} {n : Nat} (hF : ∀ x ∈ F, n ≤ x) (hG : ∀ x ∈ G, x < n) : Apart F G := fun k hk hg => by have := hF k hk; have := hG k hg; omega

section
open Go.ChangeMaps Go.MapKept
open Go.WideElems (Fit rd rg pl rd_val elemAt)
/-- clear(m): the map has nothing. -/
theorem clear_map {H : Type} {P : Program} {t k e : TypeId} {R : Value → Option (DataW H × List MemPlace)} {w : World} {b n : Nat} {D : DataW H} (h : w.ownsMap P k R b n D) (ht : P.underlying t = some (.map k e)) (ty : TypeId) :
    ∃ w', (Builtin.clear_ #[t] ty #[.map (some b)]).run P w = .ok (.tuple #[]) w' ∧ w'.ownsMap P k R b 0 (.map []) ∧ w.grownBy w' (some b) := by
  obtain ⟨es, clock, hb, F, hs, rfl⟩ := h
  refine ⟨setBlock w b (.map #[] clock), ?_, ⟨#[], clock, heap_setBlock_same hb _, ⟨Nat.zero_le _, ?_, by simp⟩, Nat.le_refl _, rfl⟩, World.mapTurned.grown ⟨es, clock, #[], clock, hb, rfl⟩⟩
  · simp [Builtin.clear_, run_underlying ht, MapKept.run_getObj_map hb, MapKept.run_setObj_map _ hb, Result.andThen, setBlock]
  · have := F.stamped
    simp [Stamped] at this ⊢

theorem wpList_clear_own {H : Type} {P : Program} (w : World) {ops : Array Oper} {rest : List Oper} {o : Oper} {a : Act} {Q : Exit → Act → World → Prop} (hg : o.guard = none) (m : Operand) (t k : TypeId) (hop : o.op = Op.call { callee := Callee.builtin Builtin.clear, args := #[m], argTypes := #[t] })
    (e : TypeId) (ht : P.underlying t = some (.map k e)) (R : Value → Option (DataW H × List MemPlace)) (b n : Nat) (D : DataW H)
    (hm : a.eval m = .map (some b)) (hown : w.ownsMap P k R b n D)
    (hK : ∀ w', w'.ownsMap P k R b 0 (.map []) → w.grownBy w' (some b) → wpList P ops Q rest (a.put o.dst (.tuple #[])) w') :
    wpList P ops Q (o :: rest) a w := by
  refine wpList_plain hg fun K' hK' => ?_
  obtain ⟨w', hrun, r1, r2⟩ := clear_map hown ht o.type
  unfold Oper.wp
  simp [execOp, hop, resolve, invoke, builtin, hm, hrun, Result.andThen]
  exact hK' _ _ (hK w' r1 r2)
end

end Go.Proofs.Ytepdhajgemmoiaa
