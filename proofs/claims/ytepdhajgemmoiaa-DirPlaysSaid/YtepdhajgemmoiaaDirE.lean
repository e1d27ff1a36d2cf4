/- A directory's entries, as data. -/
import Derived.Test.YtepdhajgemmoiaaDir1
import Derived.Test.YtepdhajgemmoiaaEl
namespace Go.Proofs.Ytepdhajgemmoiaa
set_option maxRecDepth 100000
open Go.RowKit

/-- A line's words. -/
structure L8 where
  x0 : Int := 0
  x1 : Int := 0
  x2 : Int := 0
  x3 : Int := 0
  x4 : Int := 0
  x5 : Int := 0
  x6 : Int := 0
  x7 : Int := 0
def L8.val (d : L8) : Value := .agg #[.int .u64 d.x0, .int .u64 d.x1, .int .u64 d.x2, .int .u64 d.x3, .int .u64 d.x4, .int .u64 d.x5, .int .u64 d.x6, .int .u64 d.x7]
/-- A message. -/
structure MsgV where
  k : Int := 0
  c : Int := 0
  l : Int := 0
  d : L8 := {}
def MsgV.val (m : MsgV) : Value := .agg #[.int .i64 m.k, .int .i64 m.c, .int .i64 m.l, .int .u64 m.d.x0, .int .u64 m.d.x1, .int .u64 m.d.x2, .int .u64 m.d.x3, .int .u64 m.d.x4, .int .u64 m.d.x5, .int .u64 m.d.x6, .int .u64 m.d.x7]
def encM (m : MsgV) : List Value := [.int .i64 m.k, .int .i64 m.c, .int .i64 m.l, .int .u64 m.d.x0, .int .u64 m.d.x1, .int .u64 m.d.x2, .int .u64 m.d.x3, .int .u64 m.d.x4, .int .u64 m.d.x5, .int .u64 m.d.x6, .int .u64 m.d.x7]
theorem encM_len (m : MsgV) : (encM m).length = 11 := rfl
/-- An entry: wt is the slice of those that wait, wl are they. -/
structure EntV where
  ow : Int := -1
  sh : Int := 0
  un : MsgV := {}
  ph : Int := 0
  ak : Int := 0
  wt : Value := .slice none 0 0
  wl : List MsgV := []
def encE (e : EntV) : List Value := [.int .i64 e.ow, .int .u8 e.sh, .int .i64 e.un.k, .int .i64 e.un.c, .int .i64 e.un.l, .int .u64 e.un.d.x0, .int .u64 e.un.d.x1, .int .u64 e.un.d.x2, .int .u64 e.un.d.x3, .int .u64 e.un.d.x4, .int .u64 e.un.d.x5, .int .u64 e.un.d.x6, .int .u64 e.un.d.x7,
  .int .i64 e.ph, .int .u8 e.ak, e.wt]
theorem encE_len (e : EntV) : (encE e).length = 16 := rfl

theorem flat_set {α : Type} {size : Nat} {enc : α → List Value} (he : ∀ x, (enc x).length = size) : ∀ (l : List α) (i : Nat) (hi : i < l.length) (j : Nat) (_ : j < size) (v : Value) (x : α) (_ : (enc l[i]).set j v = enc x), (l.flatMap enc).set (i * size + j) v = (l.set i x).flatMap enc
  | a :: l, 0, hi, j, hj, v, x, h => by
    simp only [List.getElem_cons_zero] at h
    simp only [List.flatMap_cons, List.set_cons_zero, Nat.zero_mul, Nat.zero_add]
    rw [List.set_append_left _ _ (by rw [he]; exact hj), h]
  | a :: l, i + 1, hi, j, hj, v, x, h => by
    simp only [List.getElem_cons_succ] at h
    have ih := flat_set he l i (by simpa using hi) j hj v x h
    simp only [List.flatMap_cons, List.set_cons_succ]
    rw [List.set_append_right _ _ (by rw [he, Nat.succ_mul]; omega), he, show (i + 1) * size + j - size = i * size + j by rw [Nat.succ_mul]; omega, ih]

/-- The entries of a directory. -/
def EntsAt (w : World) (bl : Nat) (es : List EntV) : Prop := Blk w bl (es.flatMap encE) 79
theorem EntsAt.cell {w : World} {bl : Nat} {es : List EntV} (h : EntsAt w bl es) {i : Nat} (hi : i < es.length) {j : Nat} (hj : j < 16) : w.cell? ⟨bl, i * 16 + j, none⟩ = (encE es[i])[j]? := by
  rw [Blk.cell h, flat_get encE_len es i hi j hj]
theorem EntsAt.free {w : World} {bl : Nat} {es : List EntV} (h : EntsAt w bl es) (o : Nat) : w.frozen? ⟨bl, o, none⟩ = false := Blk.free h o
theorem EntsAt.set {w : World} {bl : Nat} {es : List EntV} (h : EntsAt w bl es) {i : Nat} (hi : i < es.length) {j : Nat} (hj : j < 16) {v : Value} {e : EntV} (he : (encE es[i]).set j v = encE e) : EntsAt (w.setCell ⟨bl, i * 16 + j, none⟩ v) bl (es.set i e) := by
  have := Blk.set h (i * 16 + j) v
  rw [flat_set encE_len es i hi j hj v e he] at this
  exact this

end Go.Proofs.Ytepdhajgemmoiaa
