/- Slices of elements of several cells: what lies where. No program in sight. -/
import Derived.Test.YtepdhajgemmoiaaOwn
import Derived.Test.YtepdhajgemmoiaaOpen
namespace Go.Proofs.Ytepdhajgemmoiaa
open Go.RowKit

theorem Chg.cell {S : List Nat} {w w' : World} (h : Chg S w w') {b : Nat} (hb : b < w.heap.size) (hs : b ∉ S) (o : Nat) : w'.cell? ⟨b, o, none⟩ = w.cell? ⟨b, o, none⟩ := World.cell?_of_block (h.block b hb hs)
theorem Chg.cell0 {w w' : World} (h : Chg [] w w') {b : Nat} (hb : b < w.heap.size) (o : Nat) : w'.cell? ⟨b, o, none⟩ = w.cell? ⟨b, o, none⟩ := h.cell hb (by simp) o
theorem ownsRow_posC {w : World} {base : Nat} {e : TypeId} {size : Nat} {v : Value} {n : Nat} {xs : List Value} (h : w.ownsRow base e size v n xs) (hn : 0 < n) : ∃ g cap, v = .slice (some ⟨g, 0, none⟩) n cap ∧ base ≤ g ∧ g < w.heap.size ∧ n ≤ cap ∧ cap ≤ 9223372036854775807 := by
  rcases h.2 with ⟨_, h0⟩ | ⟨g, cap, cur, rfl, hb, hh, h1, h2, r⟩
  · omega
  · exact ⟨g, cap, rfl, hb, lt_of_block hh, h1, h2⟩
theorem Rd.nil {α : Type} (w : World) (B : Nat) (A : Option Addr) (size : Nat) (enc : α → List Value) : Rd w B A size enc [] := fun h => absurd h (by simp)
theorem Rd.up {α : Type} {w : World} {B B' : Nat} {A : Option Addr} {size : Nat} {enc : α → List Value} {xs : List α} (h : Rd w B A size enc xs) (k : B ≤ B') : Rd w B' A size enc xs := fun hn => by
  obtain ⟨b, off, e, hb, hc⟩ := h hn
  exact ⟨b, off, e, Nat.lt_of_lt_of_le hb k, hc⟩
theorem Rd.chg {α : Type} {S : List Nat} {w w' : World} {A : Option Addr} {size : Nat} {enc : α → List Value} {xs : List α} (h : Rd w w.heap.size A size enc xs) (k : Chg S w w') (hS : ∀ a, A = some a → a.block ∉ S) : Rd w' w'.heap.size A size enc xs := fun hn => by
  obtain ⟨b, off, e, hb, hc⟩ := h hn
  refine ⟨b, off, e, Nat.lt_of_lt_of_le hb k.size, fun i hi j hj => ?_⟩
  rw [← hc i hi j hj]
  exact World.cell?_of_block (k.block b hb (hS _ e))
theorem Rd.chg0 {α : Type} {w w' : World} {A : Option Addr} {size : Nat} {enc : α → List Value} {xs : List α} (h : Rd w w.heap.size A size enc xs) (k : Chg [] w w') : Rd w' w'.heap.size A size enc xs := h.chg k (by simp)
theorem Rd.keep {α : Type} {S : List Nat} {w w' : World} {B : Nat} {A : Option Addr} {size : Nat} {enc : α → List Value} {xs : List α} (h : Rd w B A size enc xs) (hB : B ≤ w.heap.size) (k : Chg S w w') (hS : ∀ x ∈ S, B ≤ x) : Rd w' B A size enc xs := fun hn => by
  obtain ⟨b, off, e, hb, hc⟩ := h hn
  refine ⟨b, off, e, hb, fun i hi j hj => ?_⟩
  rw [← hc i hi j hj]
  exact World.cell?_of_block (k.block b (Nat.lt_of_lt_of_le hb hB) (fun hm => by have := hS b hm; omega))
theorem Rd.head {α : Type} {w : World} {B : Nat} {A : Option Addr} {size : Nat} {enc : α → List Value} {xs ys : List α} (h : Rd w B A size enc (xs ++ ys)) : Rd w B A size enc xs := fun hn => by
  obtain ⟨b, off, e, hb, hc⟩ := h (by simp; omega)
  refine ⟨b, off, e, hb, fun i hi j hj => ?_⟩
  rw [hc i (by simp; omega) j hj, List.getElem_append_left hi]

theorem flat_get {α : Type} {size : Nat} {enc : α → List Value} (he : ∀ x, (enc x).length = size) : ∀ (l : List α) (k : Nat) (hk : k < l.length) (j : Nat), j < size → (l.flatMap enc)[k * size + j]? = (enc l[k])[j]?
  | x :: l, 0, _, j, hj => by
    rw [List.flatMap_cons, Nat.zero_mul, Nat.zero_add, List.getElem?_append_left (by rw [he]; exact hj)]; rfl
  | x :: l, k + 1, hk, j, hj => by
    have hx := he x
    rw [List.flatMap_cons, List.getElem?_append_right (by rw [hx, Nat.succ_mul]; omega), hx]
    have := flat_get he l k (by simpa using hk) j hj
    rw [show (k + 1) * size + j - size = k * size + j from by rw [Nat.succ_mul]; omega]
    simpa using this
theorem flat_len {α : Type} {size : Nat} {enc : α → List Value} (he : ∀ x, (enc x).length = size) (l : List α) : (l.flatMap enc).length = l.length * size := by
  induction l with
  | nil => simp
  | cons x l ih => rw [List.flatMap_cons, List.length_append, he, ih, List.length_cons, Nat.succ_mul]; omega

theorem Rd.of_row {α : Type} {size : Nat} {enc : α → List Value} (he : ∀ x, (enc x).length = size) {w : World} {base : Nat} {v : Value} {l : List α} {e : TypeId} (h : w.ownsRow base e size v l.length (l.flatMap enc)) :
    ∃ A cap, v = .slice A l.length cap ∧ l.length ≤ cap ∧ cap ≤ maxLen ∧ (A = none → cap = 0) ∧ Rd w w.heap.size A size enc l ∧ (∀ a, A = some a → v.ownBlock = some a.block) := by
  rcases h.2 with ⟨rfl, h0⟩ | ⟨g, cap, cur, rfl, hb, hh, h1, h2, r⟩
  · exact ⟨none, 0, by rw [h0], by omega, Nat.zero_le _, fun _ => rfl, fun hn => by omega, fun a e => by cases e⟩
  · refine ⟨some ⟨g, 0, none⟩, cap, rfl, h1, h2, (fun e => by cases e), fun hn => ⟨g, 0, rfl, lt_of_block hh, fun k hk j hj => ?_⟩, fun a e => by cases e; rfl⟩
    have hlt : k * size + j < l.length * size := by
      have : (k + 1) * size ≤ l.length * size := Nat.mul_le_mul_right _ hk
      rw [Nat.succ_mul] at this
      omega
    rw [Nat.zero_add, h.cellAt _ hlt, flat_get he l k hk j hj]

theorem Rd.of_blk {α : Type} {size : Nat} {enc : α → List Value} (he : ∀ x, (enc x).length = size) {w : World} {b : Nat} {l : List α} {t : TypeId} (h : Blk w b (l.flatMap enc) t) : Rd w w.heap.size (some ⟨b, 0, none⟩) size enc l := fun hn =>
  ⟨b, 0, rfl, h.lt, fun k hk j hj => by rw [Nat.zero_add, h.cell, flat_get he l k hk j hj]⟩

/-- An append's news. -/
theorem Rd.news {α : Type} {size : Nat} {enc : α → List Value} (hs : 0 < size) (he : ∀ x, (enc x).length = size) {w : World} {B : Nat} {A : Option Addr} {l : List α} (h : Rd w B A size enc l) : ∀ ad, A = some ad → ∀ j u, (l.flatMap enc)[j]? = some u → w.cell? (ad.add j) = some u := by
  intro ad e j u hj
  obtain ⟨hj', hu⟩ := List.getElem?_eq_some_iff.1 hj
  rw [flat_len he] at hj'
  have hn : 0 < l.length := by
    cases l with
    | nil => simp at hj'
    | cons => simp
  obtain ⟨b, off, e2, _, hc⟩ := h hn
  obtain rfl : ad = ⟨b, off, none⟩ := by rw [e] at e2; simpa using e2
  have ha : (⟨b, off, none⟩ : Addr).add j = ⟨b, off + j, none⟩ := by
    unfold Addr.add
    split
    · rename_i h0; subst h0; rfl
    · rfl
  have hk : j / size < l.length := Nat.div_lt_of_lt_mul (by rw [Nat.mul_comm]; exact hj')
  have hjj : j / size * size + j % size = j := Nat.div_add_mod' j size
  have := hc (j / size) hk (j % size) (Nat.mod_lt _ hs)
  rw [hjj, ← flat_get he l (j / size) hk (j % size) (Nat.mod_lt _ hs), hjj, hj] at this
  rw [ha, this]

theorem Blk.news {w : World} {g : Nat} {l : List Value} {t : TypeId} (h : Blk w g l t) : ∀ ad, (some ⟨g, 0, none⟩ : Option Addr) = some ad → ∀ j u, l[j]? = some u → w.cell? (ad.add j) = some u := by
  intro ad e j u hj
  obtain rfl : (⟨g, 0, none⟩ : Addr) = ad := by simpa using e
  have ha : (⟨g, 0, none⟩ : Addr).add j = ⟨g, j, none⟩ := by
    unfold Addr.add
    split
    · rename_i h0; subst h0; rfl
    · simp
  rw [ha, h.cell, hj]

theorem flat_snoc {α : Type} (enc : α → List Value) (l : List α) (x : α) : (l ++ [x]).flatMap enc = l.flatMap enc ++ enc x := by simp
theorem flat_app {α : Type} (enc : α → List Value) (l m : List α) : (l ++ m).flatMap enc = l.flatMap enc ++ m.flatMap enc := by simp

end Go.Proofs.Ytepdhajgemmoiaa
