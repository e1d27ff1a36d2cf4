/- The document's control: Enter, Leave, Abort. -/
import Derived.Test.YtdaehfilmhagiaaLanesR1
namespace Go.Proofs.Ytdaehfilmhagiaa
open Go.RowKit

theorem Chg.grown {S : List Nat} {a w w' : World} {row : Option Nat} (h : Chg S a w) (hg : w.grownBy w' row) (hr : ∀ g, row = some g → a.heap.size ≤ g) : Chg S a w' :=
  ⟨hg.os.trans h.os, hg.tape.trans h.tape, hg.output.trans h.output, Nat.le_trans h.size hg.size, fun k hk hks =>
    (hg.block k (Nat.lt_of_lt_of_le hk h.size) (fun e => by have := hr k e.symm; omega)).trans (h.block k hk hks)⟩

def rPost (w : World) (b : Nat) (f s o lane : Int) (ls : List Int) (v : Value) (e : Ending) (w' : World) : Prop :=
  e = .returned v ∧ RefAt w' b f s o lane ls ∧ Chg [b] w w'

set_option maxHeartbeats 1000000 in
theorem refLeave_any (w : World) (b : Nat) (f s o lane : Int) (ls : List Int) (h : RefAt w b f s o lane ls) :
    Calls Try.prog 30 #[.pointer (some ⟨b, 0, none⟩)] w (if lane = 0 then rPost w b f s o 0 ls (.int .i64 90) else rPost w b f s o 0 [] (.int .i64 0)) := by
  obtain ⟨⟨v, x, y⟩, hm⟩ := id h
  have x3 : w.cell? ⟨b, 3, none⟩ = some (.int .i64 lane) := x.cell 3
  have x4 : w.cell? ⟨b, 4, none⟩ = some v := x.cell 4
  have hf := x.free
  by_cases hl : lane = 0
  · subst hl
    rw [if_pos rfl]
    go_enter Try.func30, Try.ntmps30
    go_wp2_with fail
    go_ret
    exact ⟨rfl, h, Chg.refl _ _⟩
  · rw [if_neg hl]
    have hb : (lane == 0) = false := by simpa using hl
    have X := Lib.hid x
    clear x y h hl
    go_enter Try.func30, Try.ntmps30
    go_wp2_with fail
    go_ret
    exact ⟨rfl, ⟨⟨_, (X.out.set 3 (.int .i64 0)).set 4 (.slice none 0 0), .nil rfl rfl⟩, by simp⟩, ((Chg.refl _ _).setCell (by simp) _).setCell (by simp) _⟩

set_option maxHeartbeats 1000000 in
theorem refEnter_any (w : World) (b : Nat) (f s o lane : Int) (ls : List Int) (hl0 : 0 ≤ lane) (h : RefAt w b f s o lane ls) :
    Calls Try.prog 28 #[.pointer (some ⟨b, 0, none⟩)] w (if lane = 0 then rPost w b f s o (nextFrom f s o 1) [] (.tuple #[.int .i64 (nextFrom f s o 1), .int .i64 0]) else rPost w b f s o lane ls (.tuple #[.int .i64 0, .int .i64 90])) := by
  obtain ⟨⟨v, x, y⟩, hm⟩ := id h
  have x0 : w.cell? ⟨b, 0, none⟩ = some (.int .i64 f) := x.cell 0
  have x1 : w.cell? ⟨b, 1, none⟩ = some (.int .i64 s) := x.cell 1
  have x2 : w.cell? ⟨b, 2, none⟩ = some (.int .i64 o) := x.cell 2
  have x3 : w.cell? ⟨b, 3, none⟩ = some (.int .i64 lane) := x.cell 3
  have x4 : w.cell? ⟨b, 4, none⟩ = some v := x.cell 4
  have hf := x.free
  by_cases hl : lane = 0
  · subst hl
    rw [if_pos rfl]
    have x' := x.set 4 (.slice none 0 0)
    have hC := (Chg.refl [b] w).setCell (p := ⟨b, 4, none⟩) (by simp) (.slice none 0 0)
    have X := Lib.hid x'
    have HC := Lib.hid hC
    clear x y h x' hC
    go_enter Try.func28, Try.ntmps28
    go_wp2_with fail
    refine (first_any _ f s o 1 (by decide)).mono ?_
    rintro e w1 ⟨rfl, hx⟩
    have x1 := hx.blk X.out (by simp)
    have hC := HC.out.trans' hx (by simp)
    simp only [List.set_cons_zero, List.set_cons_succ] at x1
    have y3 : w1.cell? ⟨b, 3, none⟩ = some (.int .i64 0) := x1.cell 3
    have hf1 := x1.free
    have X1 := Lib.hid x1
    have HC1 := Lib.hid hC
    clear x1 hC
    generalize nextFrom f s o 1 = nx at *
    go_wp2_with fail
    go_ret2
    exact ⟨rfl, ⟨⟨_, X1.out.set 3 (.int .i64 nx), .nil rfl rfl⟩, by simp⟩, HC1.out.setCell (by simp) _⟩
  · rw [if_neg hl]
    have hb : 0 < lane := by omega
    clear hl hl0
    go_enter Try.func28, Try.ntmps28
    go_wp2_with fail
    go_ret2
    exact ⟨rfl, h, Chg.refl _ _⟩

end Go.Proofs.Ytdaehfilmhagiaa
