/- New, Most, Try, Abort. -/
import Derived.Test.YtdaehfilmhagiaaLanes3
namespace Go.Proofs.Ytdaehfilmhagiaa
open Go.RowKit

def LC.new (f s o : Int) : LC := ⟨f, s, o, 0, 0, 0, 0, 0, 0⟩
def NewPost (w : World) (f s o : Int) (e : Ending) (w' : World) : Prop :=
  ∃ b, e = .returned (.tuple #[.pointer (some ⟨b, 0, none⟩), .int .i64 0]) ∧ w.heap.size ≤ b ∧ CtlAt w' b (LC.new f s o) ∧ Chg [] w w'

set_option maxHeartbeats 1000000 in
theorem New_ok (w : World) (f s o : Int) (h : may f s o) :
    Calls Try.prog 11 #[.agg #[.int .i64 f, .int .i64 s, .int .i64 o]] w (NewPost w f s o) := by
  have hd : decide (may f s o) = true := by simpa using h
  go_enter Try.func11, Try.ntmps11
  go_wp2_with fail
  refine (budgets_any _ f s o).mono ?_
  rintro e w1 ⟨rfl, hC1⟩
  rw [hd]
  dsimp only [budVal]
  have hC := ((Chg.refl [] w).alloc (.cells #[.int .i64 f, .int .i64 s, .int .i64 o] 23)).trans hC1
  clear hC1
  go_wp2_with fail
  go_ret2
  refine ⟨w1.heap.size + 1, rfl, by have := hC.size; omega, ?_, (hC.alloc _).alloc _⟩
  have k := Blk.new (w1.alloc (.cells #[.int .i64 0, .int .i64 f, .int .i64 s, .int .i64 o, .int .i64 (-1)] 35)) (LC.new f s o).cells 55
  rwa [World.size_alloc] at k

set_option maxHeartbeats 1000000 in
theorem New_bad (w : World) (f s o : Int) (h : ¬ may f s o) :
    Calls Try.prog 11 #[.agg #[.int .i64 f, .int .i64 s, .int .i64 o]] w fun e w' => e = .returned (.tuple #[.pointer none, .int .i64 2]) ∧ Chg [] w w' := by
  have hd : decide (may f s o) = false := by simpa using h
  go_enter Try.func11, Try.ntmps11
  go_wp2_with fail
  refine (budgets_any _ f s o).mono ?_
  rintro e w1 ⟨rfl, hC1⟩
  rw [hd]
  dsimp only [budVal]
  have hC := ((Chg.refl [] w).alloc (.cells #[.int .i64 f, .int .i64 s, .int .i64 o] 23)).trans hC1
  clear hC1
  go_wp2_with fail
  go_ret2
  exact ⟨rfl, hC.alloc _⟩

def MostPost (w : World) (f s o : Int) (e : Ending) (w' : World) : Prop :=
  e = .returned (.tuple #[.int .i64 (if may f s o then f + s else 0), .int .i64 (if may f s o then o else 0)]) ∧ Chg [] w w'

set_option maxHeartbeats 1000000 in
theorem Most_any (w : World) (f s o : Int) :
    Calls Try.prog 18 #[.agg #[.int .i64 f, .int .i64 s, .int .i64 o]] w (MostPost w f s o) := by
  by_cases h : may f s o
  · have hd : decide (may f s o) = true := by simpa using h
    have hb : 0 ≤ f ∧ f ≤ 16 ∧ 0 ≤ s ∧ s ≤ 16 := ⟨h.1.1, h.1.2, h.2.1.1, h.2.1.2⟩
    have hw : IntKind.i64.wrap (f + s) = f + s := IntWalk.i64_in _ (by omega)
    have H := Lib.hid h
    clear h
    go_enter Try.func18, Try.ntmps18
    go_wp2_with fail
    have kb := Blk.new w [.int .i64 f, .int .i64 s, .int .i64 o] 23
    refine (budgets_any _ f s o).mono ?_
    rintro e w1 ⟨rfl, hC1⟩
    rw [hd]
    dsimp only [budVal]
    have hC := ((Chg.refl [] w).alloc (.cells #[.int .i64 f, .int .i64 s, .int .i64 o] 23)).trans hC1
    replace kb := (hC1.blk kb (by simp)).alloc (.cells #[.int .i64 0, .int .i64 f, .int .i64 s, .int .i64 o, .int .i64 (-1)] 35)
    clear hC1
    go_wp2_with fail
    replace hC := hC.alloc (.cells #[.int .i64 0, .int .i64 f, .int .i64 s, .int .i64 o, .int .i64 (-1)] 35)
    generalize w1.alloc (.cells #[.int .i64 0, .int .i64 f, .int .i64 s, .int .i64 o, .int .i64 (-1)] 35) = w2 at *
    have HC := Lib.hid hC
    clear hC
    generalize w.heap.size = bb at *
    have k0 : w2.cell? ⟨bb, 0, none⟩ = some (.int .i64 f) := kb.cell 0
    have k1 : w2.cell? ⟨bb, 1, none⟩ = some (.int .i64 s) := kb.cell 1
    have k2 : w2.cell? ⟨bb, 2, none⟩ = some (.int .i64 o) := kb.cell 2
    go_quiet (fail)
    go_wp2_with fail
    go_ret2
    exact ⟨ret_int2 (by rw [if_pos H.out]) (by rw [if_pos H.out]), HC.out.drewN _⟩
  · have hd : decide (may f s o) = false := by simpa using h
    have H := Lib.hid h
    clear h
    go_enter Try.func18, Try.ntmps18
    go_wp2_with fail
    refine (budgets_any _ f s o).mono ?_
    rintro e w1 ⟨rfl, hC1⟩
    rw [hd]
    dsimp only [budVal]
    have hC := ((Chg.refl [] w).alloc (.cells #[.int .i64 f, .int .i64 s, .int .i64 o] 23)).trans hC1
    clear hC1
    go_wp2_with fail
    go_ret2
    exact ⟨ret_int2 (by rw [if_neg H.out]) (by rw [if_neg H.out]), hC.alloc _⟩

def sumTo (c0 c1 c2 c3 c4 : Int) (k : Int) : Int := if k = 0 then 0 else if k = 1 then c0 else if k = 2 then c0 + c1 else if k = 3 then c0 + c1 + c2 else if k = 4 then c0 + c1 + c2 + c3 else c0 + c1 + c2 + c3 + c4
def LC.tries (C : LC) : Int := C.c0 + C.c1 + C.c2 + C.c3 + C.c4
def small (n : Int) : Prop := 0 ≤ n ∧ n ≤ 100
structure LC.Small (C : LC) : Prop where
  h0 : small C.c0
  h1 : small C.c1
  h2 : small C.c2
  h3 : small C.c3
  h4 : small C.c4

def TryPost (w : World) (C : LC) (e : Ending) (w' : World) : Prop := e = .returned (.int .i64 C.tries) ∧ Chg [] w w'

set_option maxHeartbeats 2000000 in
theorem Try_any (w : World) (b : Nat) (C : LC) (hs : C.Small) (hC : CtlAt w b C) :
    Calls Try.prog 20 #[.pointer (some ⟨b, 0, none⟩)] w (TryPost w C) := by
  obtain ⟨f, s, o, lane, c0, c1, c2, c3, c4⟩ := C
  obtain ⟨⟨a0, b0⟩, ⟨a1, b1⟩, ⟨a2, b2⟩, ⟨a3, b3⟩, ⟨a4, b4⟩⟩ := hs
  dsimp only at a0 b0 a1 b1 a2 b2 a3 b3 a4 b4
  have i0 : ∀ w, (Instr.index 35 (.agg #[.int .i64 c0, .int .i64 c1, .int .i64 c2, .int .i64 c3, .int .i64 c4]) (.int .i64 0)).run Try.prog w = .ok (.int .i64 c0) w := fun _ => by kernel_rfl
  have i1 : ∀ w, (Instr.index 35 (.agg #[.int .i64 c0, .int .i64 c1, .int .i64 c2, .int .i64 c3, .int .i64 c4]) (.int .i64 1)).run Try.prog w = .ok (.int .i64 c1) w := fun _ => by kernel_rfl
  have i2 : ∀ w, (Instr.index 35 (.agg #[.int .i64 c0, .int .i64 c1, .int .i64 c2, .int .i64 c3, .int .i64 c4]) (.int .i64 2)).run Try.prog w = .ok (.int .i64 c2) w := fun _ => by kernel_rfl
  have i3 : ∀ w, (Instr.index 35 (.agg #[.int .i64 c0, .int .i64 c1, .int .i64 c2, .int .i64 c3, .int .i64 c4]) (.int .i64 3)).run Try.prog w = .ok (.int .i64 c3) w := fun _ => by kernel_rfl
  have i4 : ∀ w, (Instr.index 35 (.agg #[.int .i64 c0, .int .i64 c1, .int .i64 c2, .int .i64 c3, .int .i64 c4]) (.int .i64 4)).run Try.prog w = .ok (.int .i64 c4) w := fun _ => by kernel_rfl
  go_enter Try.func20, Try.ntmps20
  go_wp2_with fail
  refine (Counts_any _ _ _ hC).mono ?_
  rintro e w1 ⟨rfl, hC1⟩
  dsimp only
  have HC := Lib.hid hC1
  clear hC1 hC
  go_wp2_with fail
  go_loopw [3, 8] (fun n i wr => ∃ k : Int, (0 ≤ k ∧ k ≤ 5) ∧ i = .int .i64 k ∧ n = .int .i64 (sumTo c0 c1 c2 c3 c4 k) ∧ wr = w1) (fun _ i _ => 5 - (intOf i).toNat)
  case atStart => exact ⟨0, by omega, rfl, rfl, rfl⟩
  case round =>
    obtain ⟨k, ⟨hk0, hk⟩, rfl, rfl, rfl⟩ := hrel
    rcases (by omega : k = 0 ∨ k = 1 ∨ k = 2 ∨ k = 3 ∨ k = 4 ∨ k = 5) with rfl | rfl | rfl | rfl | rfl | rfl
    · have e1 : sumTo c0 c1 c2 c3 c4 0 = 0 := rfl
      have e2 : IntKind.i64.wrap (0 + c0) = 0 + c0 := IntWalk.i64_in _ (by omega)
      rw [e1]
      go_wp2_with fail
      go_roundw
      case rel => exact ⟨1, by omega, by simp, by simp [sumTo], by simp⟩
      case measure => simp [intOf]
    · have e1 : sumTo c0 c1 c2 c3 c4 1 = c0 := rfl
      have e2 : IntKind.i64.wrap (c0 + c1) = c0 + c1 := IntWalk.i64_in _ (by omega)
      rw [e1]
      go_wp2_with fail
      go_roundw
      case rel => exact ⟨2, by omega, by simp, by simp [sumTo], by simp⟩
      case measure => simp [intOf]
    · have e1 : sumTo c0 c1 c2 c3 c4 2 = c0 + c1 := rfl
      have e2 : IntKind.i64.wrap (c0 + c1 + c2) = c0 + c1 + c2 := IntWalk.i64_in _ (by omega)
      rw [e1]
      go_wp2_with fail
      go_roundw
      case rel => exact ⟨3, by omega, by simp, by simp [sumTo], by simp⟩
      case measure => simp [intOf]
    · have e1 : sumTo c0 c1 c2 c3 c4 3 = c0 + c1 + c2 := rfl
      have e2 : IntKind.i64.wrap (c0 + c1 + c2 + c3) = c0 + c1 + c2 + c3 := IntWalk.i64_in _ (by omega)
      rw [e1]
      go_wp2_with fail
      go_roundw
      case rel => exact ⟨4, by omega, by simp, by simp [sumTo], by simp⟩
      case measure => simp [intOf]
    · have e1 : sumTo c0 c1 c2 c3 c4 4 = c0 + c1 + c2 + c3 := rfl
      have e2 : IntKind.i64.wrap (c0 + c1 + c2 + c3 + c4) = c0 + c1 + c2 + c3 + c4 := IntWalk.i64_in _ (by omega)
      rw [e1]
      go_wp2_with fail
      go_roundw
      case rel => exact ⟨5, by omega, by simp, by simp [sumTo], by simp⟩
      case measure => simp [intOf]
    · have e1 : sumTo c0 c1 c2 c3 c4 5 = c0 + c1 + c2 + c3 + c4 := rfl
      rw [e1]
      go_wp2_with fail
      go_ret
      exact ⟨rfl, HC.out⟩

end Go.Proofs.Ytdaehfilmhagiaa
