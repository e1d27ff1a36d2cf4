/- Helpers on worlds: blocks of cells known whole, and what a call may have changed. No program in sight. -/
import Derived.WalkKit
import Derived.WalkSpells
import Derived.WalkLawsBesides
import Derived.Deep.QuietTactic
import Derived.BigQuiet
import Derived.Lib.Hide
namespace Go.Proofs.Ytepdhajgemmoiaa
open Go.RowKit

/-- Block b holds just these cells, none frozen. -/
def Blk (w : World) (b : Nat) (l : List Value) (t : TypeId) : Prop := w.heap[b]? = some (.cells l.toArray t (0, 0))

theorem Blk.cell {w : World} {b : Nat} {l : List Value} {t : TypeId} (h : Blk w b l t) (i : Nat) : w.cell? ⟨b, i, none⟩ = l[i]? := by
  have h' : w.heap[b]? = some (.cells l.toArray t (0, 0)) := h
  simp [World.cell?, h']

theorem Blk.free {w : World} {b : Nat} {l : List Value} {t : TypeId} (h : Blk w b l t) (i : Nat) : w.frozen? ⟨b, i, none⟩ = false := by
  have h' : w.heap[b]? = some (.cells l.toArray t (0, 0)) := h
  simp [World.frozen?, h']

theorem Blk.lt {w : World} {b : Nat} {l : List Value} {t : TypeId} (h : Blk w b l t) : b < w.heap.size := lt_of_block h

theorem Blk.set {w : World} {b : Nat} {l : List Value} {t : TypeId} (h : Blk w b l t) (i : Nat) (v : Value) : Blk (w.setCell ⟨b, i, none⟩ v) b (l.set i v) t := by
  have h' : w.heap[b]? = some (.cells l.toArray t (0, 0)) := h
  show (w.setCell ⟨b, i, none⟩ v).heap[b]? = _
  simp [World.setCell, Array.getElem?_modify, h']

theorem Blk.other {w : World} {b : Nat} {l : List Value} {t : TypeId} (h : Blk w b l t) {a : Addr} (hne : a.block ≠ b) (v : Value) : Blk (w.setCell a v) b l t :=
  (Below.heap_setCell w a v b (fun e => hne e.symm)).trans h

theorem Blk.alloc {w : World} {b : Nat} {l : List Value} {t : TypeId} (h : Blk w b l t) (o : Obj) : Blk (w.alloc o) b l t :=
  (Below.heap_alloc w o b h.lt).trans h

theorem Blk.new (w : World) (l : List Value) (t : TypeId) : Blk (w.alloc (.cells l.toArray t)) w.heap.size l t := heap_alloc_new w _

theorem Blk.drew {w : World} {b : Nat} {l : List Value} {t : TypeId} (h : Blk w b l t) : Blk w.drew b l t := h
theorem Blk.drewN {w : World} {b : Nat} {l : List Value} {t : TypeId} (h : Blk w b l t) (n : Nat) : Blk (w.drewN n) b l t := h

theorem Blk.ne {w : World} {b c : Nat} {l m : List Value} {t u : TypeId} (h : Blk w b l t) (k : Blk w c m u) (hne : t ≠ u) : b ≠ c := by
  rintro rfl
  have e := h.symm.trans k
  simp at e
  exact hne e.2

theorem Blk.inj {w : World} {b : Nat} {l m : List Value} {t u : TypeId} (h : Blk w b l t) (k : Blk w b m u) : l = m ∧ t = u := by
  have e := h.symm.trans k
  simp at e
  exact ⟨e.1, e.2⟩

/-- What a call may have changed: of the blocks that were there, those in S alone. -/
structure Chg (S : List Nat) (w w' : World) : Prop where
  os : w'.os = w.os
  tape : w'.tape = w.tape
  output : w'.output = w.output
  size : w.heap.size ≤ w'.heap.size
  block : ∀ k, k < w.heap.size → k ∉ S → w'.heap[k]? = w.heap[k]?

theorem Chg.refl (S : List Nat) (w : World) : Chg S w w := ⟨rfl, rfl, rfl, Nat.le_refl _, fun _ _ _ => rfl⟩

theorem Chg.trans' {S T : List Nat} {a b c : World} (h : Chg S a b) (k : Chg T b c) (hT : ∀ x, x ∈ T → x < a.heap.size → x ∈ S) : Chg S a c :=
  ⟨k.os.trans h.os, k.tape.trans h.tape, k.output.trans h.output, Nat.le_trans h.size k.size, fun i hi hs =>
    (k.block i (Nat.lt_of_lt_of_le hi h.size) (fun hx => hs (hT i hx hi))).trans (h.block i hi hs)⟩

theorem Chg.trans {S : List Nat} {a b c : World} (h : Chg S a b) (k : Chg S b c) : Chg S a c := h.trans' k (fun _ hx _ => hx)

theorem Chg.mono {S T : List Nat} {a b : World} (h : Chg S a b) (hT : ∀ x, x ∈ S → x ∈ T) : Chg T a b :=
  ⟨h.os, h.tape, h.output, h.size, fun i hi hs => h.block i hi (fun hx => hs (hT i hx))⟩

theorem Chg.alloc {S : List Nat} {a w : World} (h : Chg S a w) (o : Obj) : Chg S a (w.alloc o) :=
  h.trans ⟨rfl, rfl, rfl, by simp, fun k hk _ => Below.heap_alloc _ _ _ hk⟩

theorem Chg.drew {S : List Nat} {a w : World} (h : Chg S a w) : Chg S a w.drew := ⟨h.os, h.tape, h.output, h.size, h.block⟩
theorem Chg.drewN {S : List Nat} {a w : World} (h : Chg S a w) (n : Nat) : Chg S a (w.drewN n) := ⟨h.os, h.tape, h.output, h.size, h.block⟩

theorem Chg.setCell {S : List Nat} {a w : World} (h : Chg S a w) {p : Addr} (hp : p.block < a.heap.size → p.block ∈ S) (u : Value) : Chg S a (w.setCell p u) :=
  h.trans' (T := [p.block]) ⟨rfl, rfl, rfl, by simp [World.setCell], fun k _ hk => Below.heap_setCell _ _ _ _ (fun e => hk (by simp [e]))⟩ (fun x hx hl => by
    simp at hx; subst hx; exact hp hl)

theorem Chg.blk {S : List Nat} {w w' : World} (h : Chg S w w') {b : Nat} {l : List Value} {t : TypeId} (hb : Blk w b l t) (hs : b ∉ S) : Blk w' b l t :=
  (h.block b hb.lt hs).trans hb

theorem Chg.of_below {w w' : World} (h : Below w.heap.size w w') (S : List Nat) : Chg S w w' :=
  ⟨h.os, h.tape, h.output, h.size, fun k hk _ => h.block k hk⟩

theorem Chg.to_below {S : List Nat} {B : Nat} {w w' : World} (h : Chg S w w') (hS : ∀ x, x ∈ S → B ≤ x) (hB : B ≤ w.heap.size) : Below B w w' :=
  ⟨h.os, h.tape, h.output, h.size, fun k hk => h.block k (Nat.lt_of_lt_of_le hk hB) (fun hx => by have := hS k hx; omega)⟩

theorem below_chg {S : List Nat} {B : Nat} {a w w' : World} (h : Below B a w) (k : Chg S w w') (hS : ∀ x, x ∈ S → B ≤ x) (hB : B ≤ a.heap.size) : Below B a w' :=
  h.trans (k.to_below hS (Nat.le_trans hB h.size))

theorem Chg.nil_below {w w' : World} (h : Chg [] w w') : Below w.heap.size w w' := h.to_below (by simp) (Nat.le_refl _)

theorem madeCells_replicate (v : Value) (k n : Nat) (z : Array Value) (hz : z = Array.replicate (k + 1) v) : madeCells z n = (List.replicate n v).toArray := by
  subst hz
  apply Array.ext
  · simp [madeCells]
  · intro i h1 h2
    have hk : i % (k + 1) < k + 1 := Nat.mod_lt _ (by omega)
    simp [madeCells, hk]

theorem map_get {ws : List Int} {k : IntKind} {i : Nat} (h : i < ws.length) : (ws.map (Value.int k))[i]? = some (.int k (ws[i]?.getD 0)) := by
  simp [List.getElem?_map, List.getElem?_eq_getElem h]

/-- The error of an address, or of a line's number, out of so many. -/
def memErr (n : Nat) (a : Int) : Int := if 0 ≤ a ∧ a < n then 0 else 2
/-- What a Put makes of the words. -/
def memPut (ws : List Int) (a v : Int) : List Int := if 0 ≤ a ∧ a < ws.length then ws.set a.toNat v else ws
/-- The word at an address. -/
def memWord (ws : List Int) (a : Int) : Int := if 0 ≤ a ∧ a < ws.length then (ws[a.toNat]?.getD 0) else 0

theorem memErr_in {n : Nat} {a : Int} (h : 0 ≤ a ∧ a < n) : memErr n a = 0 := by simp only [memErr]; rw [if_pos h]
theorem memErr_out {n : Nat} {a : Int} (h : ¬ (0 ≤ a ∧ a < n)) : memErr n a = 2 := by simp only [memErr]; rw [if_neg h]
theorem memPut_out {ws : List Int} {a v : Int} (h : ¬ (0 ≤ a ∧ a < ws.length)) : memPut ws a v = ws := by simp only [memPut]; rw [if_neg h]
theorem memWord_put_same {ws : List Int} {a v : Int} (h : 0 ≤ a ∧ a < ws.length) : memWord (memPut ws a v) a = v := by
  simp only [memPut]; rw [if_pos h]
  simp only [memWord, List.length_set]; rw [if_pos h]
  have : a.toNat < ws.length := by omega
  simp [this]
theorem memWord_put_other {ws : List Int} {a b v : Int} (h : a ≠ b) : memWord (memPut ws a v) b = memWord ws b := by
  simp only [memPut]
  split
  · simp only [memWord, List.length_set]
    split
    · have : a.toNat ≠ b.toNat := by omega
      simp [this]
    · rfl
  · rfl

/-- What a law's call ends in: true, and nothing that was there has turned. -/
def StaysPost (w : World) (e : Ending) (w' : World) : Prop := e = .returned (.bool true) ∧ Below w.heap.size w w'

theorem ownsRow_pos {W : World} {base : Nat} {e : TypeId} {size : Nat} {v : Value} {k : Nat} {xs : List Value} (h : W.ownsRow base e size v k xs) (hk : 0 < k) : ∃ g cap cur, v = .slice (some ⟨g, 0, none⟩) k cap ∧ base ≤ g ∧ Blk W g cur e ∧ cur.take (k * size) = xs := by
  rcases h.2 with ⟨_, h0⟩ | ⟨g, cap, cur, rfl, hb, hh, _, _, _, ht⟩
  · omega
  · exact ⟨g, cap, cur.toList, rfl, hb, hh, ht⟩

theorem ret_int {k : IntKind} {a b : Int} (h : a = b) : Ending.returned (.int k a) = .returned (.int k b) := by rw [h]
theorem ret_bool {a b : Bool} (h : a = b) : Ending.returned (.bool a) = .returned (.bool b) := by rw [h]
theorem ret_int2 {k l : IntKind} {a b c d : Int} (h : a = b) (g : c = d) : Ending.returned (.tuple #[.int k a, .int l c]) = .returned (.tuple #[.int k b, .int l d]) := by rw [h, g]
theorem ret_val2 {x y : Value} {l : IntKind} {c d : Int} (h : x = y) (g : c = d) : Ending.returned (.tuple #[x, .int l c]) = .returned (.tuple #[y, .int l d]) := by rw [h, g]

end Go.Proofs.Ytepdhajgemmoiaa
