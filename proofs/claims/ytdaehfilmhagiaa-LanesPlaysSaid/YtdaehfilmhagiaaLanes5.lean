/- Abort. -/
import Derived.Test.YtdaehfilmhagiaaLanes4
namespace Go.Proofs.Ytdaehfilmhagiaa
open Go.RowKit

/-- The count, and the budget, of a control's lane. -/
def LC.cnt (C : LC) : Int := if C.lane = 1 then C.c1 else if C.lane = 2 then C.c2 else C.c3
def LC.have (C : LC) : Int := if C.lane = 1 then C.f else if C.lane = 2 then C.s else C.o
def LC.inc (C : LC) : LC := if C.lane = 1 then ⟨C.f, C.s, C.o, C.lane, C.c0, C.c1 + 1, C.c2, C.c3, C.c4⟩ else if C.lane = 2 then ⟨C.f, C.s, C.o, C.lane, C.c0, C.c1, C.c2 + 1, C.c3, C.c4⟩ else ⟨C.f, C.s, C.o, C.lane, C.c0, C.c1, C.c2, C.c3 + 1, C.c4⟩
def codeOk (n : Int) : Prop := 1 ≤ n ∧ n ≤ 8 ∧ n ≠ 7
instance (n : Int) : Decidable (codeOk n) := inferInstanceAs (Decidable (_ ∧ _ ∧ _))
def LC.within (C : LC) : Prop := C.lane = 1 ∨ C.lane = 2 ∨ C.lane = 3
instance (C : LC) : Decidable C.within := inferInstanceAs (Decidable (_ ∨ _ ∨ _))
/-- What an Abort makes of a control, and what it answers. -/
def LC.abort (C : LC) (n : Int) : LC :=
  if C.within ∧ codeOk n then
    if C.lane ≤ 2 ∧ n = 3 then C.inc.to (C.next 2) else if C.inc.cnt = C.have then C.inc.to (C.next C.lane.toNat) else C.inc
  else C
def abortErr (C : LC) (n : Int) : Int := if ¬ C.within then 90 else if codeOk n then 0 else 2
def abortLane (C : LC) (n : Int) : Int := if C.within ∧ codeOk n then (C.abort n).lane else 0
def AbortPost (w : World) (b : Nat) (C : LC) (n : Int) (e : Ending) (w' : World) : Prop :=
  e = .returned (.tuple #[.int .i64 (abortLane C n), .int .i64 (abortErr C n)]) ∧ CtlAt w' b (C.abort n) ∧ Chg [b] w w'

set_option maxHeartbeats 1000000 in
theorem Abort_out0 (w : World) (b : Nat) (f s o c0 c1 c2 c3 c4 n : Int) (hC : CtlAt w b ⟨f, s, o, 0, c0, c1, c2, c3, c4⟩) :
    Calls Try.prog 15 #[.pointer (some ⟨b, 0, none⟩), .int .i64 n] w (AbortPost w b ⟨f, s, o, 0, c0, c1, c2, c3, c4⟩ n) := by
  replace hC : Blk w b [.int .i64 0, .int .i64 f, .int .i64 s, .int .i64 o, .int .i64 (-1), .int .i64 0, .int .i64 c0, .int .i64 c1, .int .i64 c2, .int .i64 c3, .int .i64 c4, .bool true] 55 := hC
  have k5 : w.cell? ⟨b, 5, none⟩ = some (.int .i64 0) := hC.cell 5
  have k11 : w.cell? ⟨b, 11, none⟩ = some (.bool true) := hC.cell 11
  go_enter Try.func15, Try.ntmps15
  go_wp2_with fail
  refine (none_any _ _ k11).mono ?_
  rintro e w' ⟨rfl, rfl⟩
  go_wp2_with fail
  go_ret2
  exact ⟨rfl, hC, Chg.refl _ _⟩

set_option maxHeartbeats 1000000 in
theorem Abort_out4 (w : World) (b : Nat) (f s o c0 c1 c2 c3 c4 n : Int) (hC : CtlAt w b ⟨f, s, o, 4, c0, c1, c2, c3, c4⟩) :
    Calls Try.prog 15 #[.pointer (some ⟨b, 0, none⟩), .int .i64 n] w (AbortPost w b ⟨f, s, o, 4, c0, c1, c2, c3, c4⟩ n) := by
  replace hC : Blk w b [.int .i64 0, .int .i64 f, .int .i64 s, .int .i64 o, .int .i64 (-1), .int .i64 4, .int .i64 c0, .int .i64 c1, .int .i64 c2, .int .i64 c3, .int .i64 c4, .bool true] 55 := hC
  have k5 : w.cell? ⟨b, 5, none⟩ = some (.int .i64 4) := hC.cell 5
  have k11 : w.cell? ⟨b, 11, none⟩ = some (.bool true) := hC.cell 11
  go_enter Try.func15, Try.ntmps15
  go_wp2_with fail
  refine (none_any _ _ k11).mono ?_
  rintro e w' ⟨rfl, rfl⟩
  go_wp2_with fail
  go_ret2
  exact ⟨rfl, hC, Chg.refl _ _⟩

set_option maxHeartbeats 1000000 in
theorem Abort_bad0_1 (w : World) (b : Nat) (f s o c0 c1 c2 c3 c4 n : Int) (h : n < 1) (hC : CtlAt w b ⟨f, s, o, 1, c0, c1, c2, c3, c4⟩) :
    Calls Try.prog 15 #[.pointer (some ⟨b, 0, none⟩), .int .i64 n] w (AbortPost w b ⟨f, s, o, 1, c0, c1, c2, c3, c4⟩ n) := by
  have hn : ¬ codeOk n := by unfold codeOk; omega
  have e1 : LC.abort ⟨f, s, o, 1, c0, c1, c2, c3, c4⟩ n = ⟨f, s, o, 1, c0, c1, c2, c3, c4⟩ := by simp only [LC.abort]; rw [if_neg (fun h => hn h.2)]
  have e2 : abortErr ⟨f, s, o, 1, c0, c1, c2, c3, c4⟩ n = 2 := by simp only [abortErr]; rw [if_neg (by simp [LC.within]), if_neg hn]
  have e3 : abortLane ⟨f, s, o, 1, c0, c1, c2, c3, c4⟩ n = 0 := by simp only [abortLane]; rw [if_neg (fun h => hn h.2)]
  have E1 := Lib.hid e1
  have E2 := Lib.hid e2
  have E3 := Lib.hid e3
  clear e1 e2 e3 hn
  replace hC : Blk w b [.int .i64 0, .int .i64 f, .int .i64 s, .int .i64 o, .int .i64 (-1), .int .i64 1, .int .i64 c0, .int .i64 c1, .int .i64 c2, .int .i64 c3, .int .i64 c4, .bool true] 55 := hC
  have k5 : w.cell? ⟨b, 5, none⟩ = some (.int .i64 1) := hC.cell 5
  have k11 : w.cell? ⟨b, 11, none⟩ = some (.bool true) := hC.cell 11
  go_enter Try.func15, Try.ntmps15
  go_wp2_with fail
  refine (none_any _ _ k11).mono ?_
  rintro e w' ⟨rfl, rfl⟩
  go_wp2_with fail
  go_ret2
  exact ⟨ret_int2 E3.out.symm E2.out.symm, by rw [E1.out]; exact hC, Chg.refl _ _⟩

set_option maxHeartbeats 1000000 in
theorem Abort_bad0_2 (w : World) (b : Nat) (f s o c0 c1 c2 c3 c4 n : Int) (h : n < 1) (hC : CtlAt w b ⟨f, s, o, 2, c0, c1, c2, c3, c4⟩) :
    Calls Try.prog 15 #[.pointer (some ⟨b, 0, none⟩), .int .i64 n] w (AbortPost w b ⟨f, s, o, 2, c0, c1, c2, c3, c4⟩ n) := by
  have hn : ¬ codeOk n := by unfold codeOk; omega
  have e1 : LC.abort ⟨f, s, o, 2, c0, c1, c2, c3, c4⟩ n = ⟨f, s, o, 2, c0, c1, c2, c3, c4⟩ := by simp only [LC.abort]; rw [if_neg (fun h => hn h.2)]
  have e2 : abortErr ⟨f, s, o, 2, c0, c1, c2, c3, c4⟩ n = 2 := by simp only [abortErr]; rw [if_neg (by simp [LC.within]), if_neg hn]
  have e3 : abortLane ⟨f, s, o, 2, c0, c1, c2, c3, c4⟩ n = 0 := by simp only [abortLane]; rw [if_neg (fun h => hn h.2)]
  have E1 := Lib.hid e1
  have E2 := Lib.hid e2
  have E3 := Lib.hid e3
  clear e1 e2 e3 hn
  replace hC : Blk w b [.int .i64 0, .int .i64 f, .int .i64 s, .int .i64 o, .int .i64 (-1), .int .i64 2, .int .i64 c0, .int .i64 c1, .int .i64 c2, .int .i64 c3, .int .i64 c4, .bool true] 55 := hC
  have k5 : w.cell? ⟨b, 5, none⟩ = some (.int .i64 2) := hC.cell 5
  have k11 : w.cell? ⟨b, 11, none⟩ = some (.bool true) := hC.cell 11
  go_enter Try.func15, Try.ntmps15
  go_wp2_with fail
  refine (none_any _ _ k11).mono ?_
  rintro e w' ⟨rfl, rfl⟩
  go_wp2_with fail
  go_ret2
  exact ⟨ret_int2 E3.out.symm E2.out.symm, by rw [E1.out]; exact hC, Chg.refl _ _⟩

set_option maxHeartbeats 1000000 in
theorem Abort_bad0_3 (w : World) (b : Nat) (f s o c0 c1 c2 c3 c4 n : Int) (h : n < 1) (hC : CtlAt w b ⟨f, s, o, 3, c0, c1, c2, c3, c4⟩) :
    Calls Try.prog 15 #[.pointer (some ⟨b, 0, none⟩), .int .i64 n] w (AbortPost w b ⟨f, s, o, 3, c0, c1, c2, c3, c4⟩ n) := by
  have hn : ¬ codeOk n := by unfold codeOk; omega
  have e1 : LC.abort ⟨f, s, o, 3, c0, c1, c2, c3, c4⟩ n = ⟨f, s, o, 3, c0, c1, c2, c3, c4⟩ := by simp only [LC.abort]; rw [if_neg (fun h => hn h.2)]
  have e2 : abortErr ⟨f, s, o, 3, c0, c1, c2, c3, c4⟩ n = 2 := by simp only [abortErr]; rw [if_neg (by simp [LC.within]), if_neg hn]
  have e3 : abortLane ⟨f, s, o, 3, c0, c1, c2, c3, c4⟩ n = 0 := by simp only [abortLane]; rw [if_neg (fun h => hn h.2)]
  have E1 := Lib.hid e1
  have E2 := Lib.hid e2
  have E3 := Lib.hid e3
  clear e1 e2 e3 hn
  replace hC : Blk w b [.int .i64 0, .int .i64 f, .int .i64 s, .int .i64 o, .int .i64 (-1), .int .i64 3, .int .i64 c0, .int .i64 c1, .int .i64 c2, .int .i64 c3, .int .i64 c4, .bool true] 55 := hC
  have k5 : w.cell? ⟨b, 5, none⟩ = some (.int .i64 3) := hC.cell 5
  have k11 : w.cell? ⟨b, 11, none⟩ = some (.bool true) := hC.cell 11
  go_enter Try.func15, Try.ntmps15
  go_wp2_with fail
  refine (none_any _ _ k11).mono ?_
  rintro e w' ⟨rfl, rfl⟩
  go_wp2_with fail
  go_ret2
  exact ⟨ret_int2 E3.out.symm E2.out.symm, by rw [E1.out]; exact hC, Chg.refl _ _⟩

set_option maxHeartbeats 1000000 in
theorem Abort_bad1_1 (w : World) (b : Nat) (f s o c0 c1 c2 c3 c4 n : Int) (h : 8 < n) (hC : CtlAt w b ⟨f, s, o, 1, c0, c1, c2, c3, c4⟩) :
    Calls Try.prog 15 #[.pointer (some ⟨b, 0, none⟩), .int .i64 n] w (AbortPost w b ⟨f, s, o, 1, c0, c1, c2, c3, c4⟩ n) := by
  have hn : ¬ codeOk n := by unfold codeOk; omega
  have e1 : LC.abort ⟨f, s, o, 1, c0, c1, c2, c3, c4⟩ n = ⟨f, s, o, 1, c0, c1, c2, c3, c4⟩ := by simp only [LC.abort]; rw [if_neg (fun h => hn h.2)]
  have e2 : abortErr ⟨f, s, o, 1, c0, c1, c2, c3, c4⟩ n = 2 := by simp only [abortErr]; rw [if_neg (by simp [LC.within]), if_neg hn]
  have e3 : abortLane ⟨f, s, o, 1, c0, c1, c2, c3, c4⟩ n = 0 := by simp only [abortLane]; rw [if_neg (fun h => hn h.2)]
  have E1 := Lib.hid e1
  have E2 := Lib.hid e2
  have E3 := Lib.hid e3
  clear e1 e2 e3 hn
  replace hC : Blk w b [.int .i64 0, .int .i64 f, .int .i64 s, .int .i64 o, .int .i64 (-1), .int .i64 1, .int .i64 c0, .int .i64 c1, .int .i64 c2, .int .i64 c3, .int .i64 c4, .bool true] 55 := hC
  have k5 : w.cell? ⟨b, 5, none⟩ = some (.int .i64 1) := hC.cell 5
  have k11 : w.cell? ⟨b, 11, none⟩ = some (.bool true) := hC.cell 11
  go_enter Try.func15, Try.ntmps15
  go_wp2_with fail
  refine (none_any _ _ k11).mono ?_
  rintro e w' ⟨rfl, rfl⟩
  go_wp2_with fail
  go_ret2
  exact ⟨ret_int2 E3.out.symm E2.out.symm, by rw [E1.out]; exact hC, Chg.refl _ _⟩

set_option maxHeartbeats 1000000 in
theorem Abort_bad1_2 (w : World) (b : Nat) (f s o c0 c1 c2 c3 c4 n : Int) (h : 8 < n) (hC : CtlAt w b ⟨f, s, o, 2, c0, c1, c2, c3, c4⟩) :
    Calls Try.prog 15 #[.pointer (some ⟨b, 0, none⟩), .int .i64 n] w (AbortPost w b ⟨f, s, o, 2, c0, c1, c2, c3, c4⟩ n) := by
  have hn : ¬ codeOk n := by unfold codeOk; omega
  have e1 : LC.abort ⟨f, s, o, 2, c0, c1, c2, c3, c4⟩ n = ⟨f, s, o, 2, c0, c1, c2, c3, c4⟩ := by simp only [LC.abort]; rw [if_neg (fun h => hn h.2)]
  have e2 : abortErr ⟨f, s, o, 2, c0, c1, c2, c3, c4⟩ n = 2 := by simp only [abortErr]; rw [if_neg (by simp [LC.within]), if_neg hn]
  have e3 : abortLane ⟨f, s, o, 2, c0, c1, c2, c3, c4⟩ n = 0 := by simp only [abortLane]; rw [if_neg (fun h => hn h.2)]
  have E1 := Lib.hid e1
  have E2 := Lib.hid e2
  have E3 := Lib.hid e3
  clear e1 e2 e3 hn
  replace hC : Blk w b [.int .i64 0, .int .i64 f, .int .i64 s, .int .i64 o, .int .i64 (-1), .int .i64 2, .int .i64 c0, .int .i64 c1, .int .i64 c2, .int .i64 c3, .int .i64 c4, .bool true] 55 := hC
  have k5 : w.cell? ⟨b, 5, none⟩ = some (.int .i64 2) := hC.cell 5
  have k11 : w.cell? ⟨b, 11, none⟩ = some (.bool true) := hC.cell 11
  go_enter Try.func15, Try.ntmps15
  go_wp2_with fail
  refine (none_any _ _ k11).mono ?_
  rintro e w' ⟨rfl, rfl⟩
  go_wp2_with fail
  go_ret2
  exact ⟨ret_int2 E3.out.symm E2.out.symm, by rw [E1.out]; exact hC, Chg.refl _ _⟩

set_option maxHeartbeats 1000000 in
theorem Abort_bad1_3 (w : World) (b : Nat) (f s o c0 c1 c2 c3 c4 n : Int) (h : 8 < n) (hC : CtlAt w b ⟨f, s, o, 3, c0, c1, c2, c3, c4⟩) :
    Calls Try.prog 15 #[.pointer (some ⟨b, 0, none⟩), .int .i64 n] w (AbortPost w b ⟨f, s, o, 3, c0, c1, c2, c3, c4⟩ n) := by
  have hn : ¬ codeOk n := by unfold codeOk; omega
  have e1 : LC.abort ⟨f, s, o, 3, c0, c1, c2, c3, c4⟩ n = ⟨f, s, o, 3, c0, c1, c2, c3, c4⟩ := by simp only [LC.abort]; rw [if_neg (fun h => hn h.2)]
  have e2 : abortErr ⟨f, s, o, 3, c0, c1, c2, c3, c4⟩ n = 2 := by simp only [abortErr]; rw [if_neg (by simp [LC.within]), if_neg hn]
  have e3 : abortLane ⟨f, s, o, 3, c0, c1, c2, c3, c4⟩ n = 0 := by simp only [abortLane]; rw [if_neg (fun h => hn h.2)]
  have E1 := Lib.hid e1
  have E2 := Lib.hid e2
  have E3 := Lib.hid e3
  clear e1 e2 e3 hn
  replace hC : Blk w b [.int .i64 0, .int .i64 f, .int .i64 s, .int .i64 o, .int .i64 (-1), .int .i64 3, .int .i64 c0, .int .i64 c1, .int .i64 c2, .int .i64 c3, .int .i64 c4, .bool true] 55 := hC
  have k5 : w.cell? ⟨b, 5, none⟩ = some (.int .i64 3) := hC.cell 5
  have k11 : w.cell? ⟨b, 11, none⟩ = some (.bool true) := hC.cell 11
  go_enter Try.func15, Try.ntmps15
  go_wp2_with fail
  refine (none_any _ _ k11).mono ?_
  rintro e w' ⟨rfl, rfl⟩
  go_wp2_with fail
  go_ret2
  exact ⟨ret_int2 E3.out.symm E2.out.symm, by rw [E1.out]; exact hC, Chg.refl _ _⟩

set_option maxHeartbeats 1000000 in
theorem Abort_bad2_1 (w : World) (b : Nat) (f s o c0 c1 c2 c3 c4 n : Int) (h : n = 7) (hC : CtlAt w b ⟨f, s, o, 1, c0, c1, c2, c3, c4⟩) :
    Calls Try.prog 15 #[.pointer (some ⟨b, 0, none⟩), .int .i64 n] w (AbortPost w b ⟨f, s, o, 1, c0, c1, c2, c3, c4⟩ n) := by
  have hn : ¬ codeOk n := by unfold codeOk; omega
  have e1 : LC.abort ⟨f, s, o, 1, c0, c1, c2, c3, c4⟩ n = ⟨f, s, o, 1, c0, c1, c2, c3, c4⟩ := by simp only [LC.abort]; rw [if_neg (fun h => hn h.2)]
  have e2 : abortErr ⟨f, s, o, 1, c0, c1, c2, c3, c4⟩ n = 2 := by simp only [abortErr]; rw [if_neg (by simp [LC.within]), if_neg hn]
  have e3 : abortLane ⟨f, s, o, 1, c0, c1, c2, c3, c4⟩ n = 0 := by simp only [abortLane]; rw [if_neg (fun h => hn h.2)]
  have E1 := Lib.hid e1
  have E2 := Lib.hid e2
  have E3 := Lib.hid e3
  clear e1 e2 e3 hn
  replace hC : Blk w b [.int .i64 0, .int .i64 f, .int .i64 s, .int .i64 o, .int .i64 (-1), .int .i64 1, .int .i64 c0, .int .i64 c1, .int .i64 c2, .int .i64 c3, .int .i64 c4, .bool true] 55 := hC
  subst h
  have k5 : w.cell? ⟨b, 5, none⟩ = some (.int .i64 1) := hC.cell 5
  have k11 : w.cell? ⟨b, 11, none⟩ = some (.bool true) := hC.cell 11
  go_enter Try.func15, Try.ntmps15
  go_wp2_with fail
  refine (none_any _ _ k11).mono ?_
  rintro e w' ⟨rfl, rfl⟩
  go_wp2_with fail
  go_ret2
  exact ⟨ret_int2 E3.out.symm E2.out.symm, by rw [E1.out]; exact hC, Chg.refl _ _⟩

set_option maxHeartbeats 1000000 in
theorem Abort_bad2_2 (w : World) (b : Nat) (f s o c0 c1 c2 c3 c4 n : Int) (h : n = 7) (hC : CtlAt w b ⟨f, s, o, 2, c0, c1, c2, c3, c4⟩) :
    Calls Try.prog 15 #[.pointer (some ⟨b, 0, none⟩), .int .i64 n] w (AbortPost w b ⟨f, s, o, 2, c0, c1, c2, c3, c4⟩ n) := by
  have hn : ¬ codeOk n := by unfold codeOk; omega
  have e1 : LC.abort ⟨f, s, o, 2, c0, c1, c2, c3, c4⟩ n = ⟨f, s, o, 2, c0, c1, c2, c3, c4⟩ := by simp only [LC.abort]; rw [if_neg (fun h => hn h.2)]
  have e2 : abortErr ⟨f, s, o, 2, c0, c1, c2, c3, c4⟩ n = 2 := by simp only [abortErr]; rw [if_neg (by simp [LC.within]), if_neg hn]
  have e3 : abortLane ⟨f, s, o, 2, c0, c1, c2, c3, c4⟩ n = 0 := by simp only [abortLane]; rw [if_neg (fun h => hn h.2)]
  have E1 := Lib.hid e1
  have E2 := Lib.hid e2
  have E3 := Lib.hid e3
  clear e1 e2 e3 hn
  replace hC : Blk w b [.int .i64 0, .int .i64 f, .int .i64 s, .int .i64 o, .int .i64 (-1), .int .i64 2, .int .i64 c0, .int .i64 c1, .int .i64 c2, .int .i64 c3, .int .i64 c4, .bool true] 55 := hC
  subst h
  have k5 : w.cell? ⟨b, 5, none⟩ = some (.int .i64 2) := hC.cell 5
  have k11 : w.cell? ⟨b, 11, none⟩ = some (.bool true) := hC.cell 11
  go_enter Try.func15, Try.ntmps15
  go_wp2_with fail
  refine (none_any _ _ k11).mono ?_
  rintro e w' ⟨rfl, rfl⟩
  go_wp2_with fail
  go_ret2
  exact ⟨ret_int2 E3.out.symm E2.out.symm, by rw [E1.out]; exact hC, Chg.refl _ _⟩

set_option maxHeartbeats 1000000 in
theorem Abort_bad2_3 (w : World) (b : Nat) (f s o c0 c1 c2 c3 c4 n : Int) (h : n = 7) (hC : CtlAt w b ⟨f, s, o, 3, c0, c1, c2, c3, c4⟩) :
    Calls Try.prog 15 #[.pointer (some ⟨b, 0, none⟩), .int .i64 n] w (AbortPost w b ⟨f, s, o, 3, c0, c1, c2, c3, c4⟩ n) := by
  have hn : ¬ codeOk n := by unfold codeOk; omega
  have e1 : LC.abort ⟨f, s, o, 3, c0, c1, c2, c3, c4⟩ n = ⟨f, s, o, 3, c0, c1, c2, c3, c4⟩ := by simp only [LC.abort]; rw [if_neg (fun h => hn h.2)]
  have e2 : abortErr ⟨f, s, o, 3, c0, c1, c2, c3, c4⟩ n = 2 := by simp only [abortErr]; rw [if_neg (by simp [LC.within]), if_neg hn]
  have e3 : abortLane ⟨f, s, o, 3, c0, c1, c2, c3, c4⟩ n = 0 := by simp only [abortLane]; rw [if_neg (fun h => hn h.2)]
  have E1 := Lib.hid e1
  have E2 := Lib.hid e2
  have E3 := Lib.hid e3
  clear e1 e2 e3 hn
  replace hC : Blk w b [.int .i64 0, .int .i64 f, .int .i64 s, .int .i64 o, .int .i64 (-1), .int .i64 3, .int .i64 c0, .int .i64 c1, .int .i64 c2, .int .i64 c3, .int .i64 c4, .bool true] 55 := hC
  subst h
  have k5 : w.cell? ⟨b, 5, none⟩ = some (.int .i64 3) := hC.cell 5
  have k11 : w.cell? ⟨b, 11, none⟩ = some (.bool true) := hC.cell 11
  go_enter Try.func15, Try.ntmps15
  go_wp2_with fail
  refine (none_any _ _ k11).mono ?_
  rintro e w' ⟨rfl, rfl⟩
  go_wp2_with fail
  go_ret2
  exact ⟨ret_int2 E3.out.symm E2.out.symm, by rw [E1.out]; exact hC, Chg.refl _ _⟩

set_option maxHeartbeats 1000000 in
theorem Abort_cap1 (w : World) (b : Nat) (f s o c0 c1 c2 c3 c4 : Int) (hs0 : 0 ≤ c1) (hs1 : c1 ≤ 100) (hC : CtlAt w b ⟨f, s, o, 1, c0, c1, c2, c3, c4⟩) :
    Calls Try.prog 15 #[.pointer (some ⟨b, 0, none⟩), .int .i64 3] w fun e w' => e = .returned (.tuple #[.int .i64 (LC.next ⟨f, s, o, 1, c0, c1 + 1, c2, c3, c4⟩ 2), .int .i64 0]) ∧ CtlAt w' b (LC.to ⟨f, s, o, 1, c0, c1 + 1, c2, c3, c4⟩ (LC.next ⟨f, s, o, 1, c0, c1 + 1, c2, c3, c4⟩ 2)) ∧ Chg [b] w w' := by
  replace hC : Blk w b [.int .i64 0, .int .i64 f, .int .i64 s, .int .i64 o, .int .i64 (-1), .int .i64 1, .int .i64 c0, .int .i64 c1, .int .i64 c2, .int .i64 c3, .int .i64 c4, .bool true] 55 := hC
  have hw : IntKind.i64.wrap (c1 + 1) = c1 + 1 := IntWalk.i64_in _ (by omega)
  have k1 : w.cell? ⟨b, 1, none⟩ = some (.int .i64 f) := hC.cell 1
  have k2 : w.cell? ⟨b, 2, none⟩ = some (.int .i64 s) := hC.cell 2
  have k3 : w.cell? ⟨b, 3, none⟩ = some (.int .i64 o) := hC.cell 3
  have k5 : w.cell? ⟨b, 5, none⟩ = some (.int .i64 1) := hC.cell 5
  have k7 : w.cell? ⟨b, 7, none⟩ = some (.int .i64 c1) := hC.cell 7
  have k8 : w.cell? ⟨b, 8, none⟩ = some (.int .i64 c2) := hC.cell 8
  have k9 : w.cell? ⟨b, 9, none⟩ = some (.int .i64 c3) := hC.cell 9
  have k11 : w.cell? ⟨b, 11, none⟩ = some (.bool true) := hC.cell 11
  have hf := hC.free
  have hC2 : CtlAt (w.setCell ⟨b, 7, none⟩ (.int .i64 (c1 + 1))).drew b ⟨f, s, o, 1, c0, c1 + 1, c2, c3, c4⟩ := (hC.set 7 (.int .i64 (c1 + 1))).drew
  have hG2 : Chg [b] w (w.setCell ⟨b, 7, none⟩ (.int .i64 (c1 + 1))).drew := ((Chg.refl _ _).setCell (by simp) _).drew
  go_enter Try.func15, Try.ntmps15
  go_wp2_with fail
  refine (none_any _ _ k11).mono ?_
  rintro e w' ⟨rfl, rfl⟩
  go_wp2_with fail
  go_still_tail 13, (by kernel_rfl)
  go_wp2_with fail
  generalize World.drew _ = w2 at hC2 hG2 ⊢
  clear k1 k2 k3 k5 k7 k8 k9 k11 hf hC
  refine (Hard_any _ b _ hC2).mono ?_
  rintro e w3 ⟨rfl, rfl⟩
  have eh : LC.hard ⟨f, s, o, 1, c0, c1 + 1, c2, c3, c4⟩ = true := rfl
  rw [eh]
  have HG := Lib.hid hG2
  clear hG2
  go_wp2_with fail
  refine (next_any b 2 (by decide) _ _ hC2).mono ?_
  rintro e w4 ⟨rfl, hN, hCh⟩
  have kn : w4.cell? ⟨b, 5, none⟩ = some (.int .i64 (LC.next ⟨f, s, o, 1, c0, c1 + 1, c2, c3, c4⟩ 2)) := Blk.cell hN 5
  go_wp2_with fail
  go_ret2
  exact ⟨rfl, hN, HG.out.trans hCh⟩

set_option maxHeartbeats 1000000 in
theorem Abort_eq1 (w : World) (b : Nat) (f s o c0 c1 c2 c3 c4 n : Int) (hne : (n == 3) = false) (h1 : 1 ≤ n) (h8 : n ≤ 8) (h7 : (n == 7) = false) (hb : c1 + 1 = f) (hs0 : 0 ≤ c1) (hs1 : c1 ≤ 100) (hC : CtlAt w b ⟨f, s, o, 1, c0, c1, c2, c3, c4⟩) :
    Calls Try.prog 15 #[.pointer (some ⟨b, 0, none⟩), .int .i64 n] w fun e w' => e = .returned (.tuple #[.int .i64 (LC.next ⟨f, s, o, 1, c0, c1 + 1, c2, c3, c4⟩ 1), .int .i64 0]) ∧ CtlAt w' b (LC.to ⟨f, s, o, 1, c0, c1 + 1, c2, c3, c4⟩ (LC.next ⟨f, s, o, 1, c0, c1 + 1, c2, c3, c4⟩ 1)) ∧ Chg [b] w w' := by
  replace hC : Blk w b [.int .i64 0, .int .i64 f, .int .i64 s, .int .i64 o, .int .i64 (-1), .int .i64 1, .int .i64 c0, .int .i64 c1, .int .i64 c2, .int .i64 c3, .int .i64 c4, .bool true] 55 := hC
  have hw : IntKind.i64.wrap (c1 + 1) = c1 + 1 := IntWalk.i64_in _ (by omega)
  have hbb : (c1 + 1 == f) = true := by simpa using hb
  have k1 : w.cell? ⟨b, 1, none⟩ = some (.int .i64 f) := hC.cell 1
  have k2 : w.cell? ⟨b, 2, none⟩ = some (.int .i64 s) := hC.cell 2
  have k3 : w.cell? ⟨b, 3, none⟩ = some (.int .i64 o) := hC.cell 3
  have k5 : w.cell? ⟨b, 5, none⟩ = some (.int .i64 1) := hC.cell 5
  have k7 : w.cell? ⟨b, 7, none⟩ = some (.int .i64 c1) := hC.cell 7
  have k8 : w.cell? ⟨b, 8, none⟩ = some (.int .i64 c2) := hC.cell 8
  have k9 : w.cell? ⟨b, 9, none⟩ = some (.int .i64 c3) := hC.cell 9
  have k11 : w.cell? ⟨b, 11, none⟩ = some (.bool true) := hC.cell 11
  have hf := hC.free
  have hC2 : CtlAt (w.setCell ⟨b, 7, none⟩ (.int .i64 (c1 + 1))).drew b ⟨f, s, o, 1, c0, c1 + 1, c2, c3, c4⟩ := (hC.set 7 (.int .i64 (c1 + 1))).drew
  have hG2 : Chg [b] w (w.setCell ⟨b, 7, none⟩ (.int .i64 (c1 + 1))).drew := ((Chg.refl _ _).setCell (by simp) _).drew
  have HB := Lib.hid hb
  clear hb
  go_enter Try.func15, Try.ntmps15
  go_wp2_with fail
  refine (none_any _ _ k11).mono ?_
  rintro e w' ⟨rfl, rfl⟩
  go_wp2_with fail
  go_still_tail 13, (by kernel_rfl)
  go_wp2_with fail
  generalize World.drew _ = w2 at hC2 hG2 ⊢
  clear k1 k2 k3 k5 k7 k8 k9 k11 hf hC
  refine (Hard_any _ b _ hC2).mono ?_
  rintro e w3 ⟨rfl, rfl⟩
  have eh : LC.hard ⟨f, s, o, 1, c0, c1 + 1, c2, c3, c4⟩ = true := rfl
  rw [eh]
  have HG := Lib.hid hG2
  clear hG2
  have k1 : w2.cell? ⟨b, 1, none⟩ = some (.int .i64 f) := Blk.cell hC2 1
  have k5 : w2.cell? ⟨b, 5, none⟩ = some (.int .i64 1) := Blk.cell hC2 5
  have k7 : w2.cell? ⟨b, 7, none⟩ = some (.int .i64 (c1 + 1)) := Blk.cell hC2 7
  go_wp2_with fail
  go_quiet (fail)
  have hC3 : CtlAt (w2.drewN nq) b ⟨f, s, o, 1, c0, c1 + 1, c2, c3, c4⟩ := Blk.drewN hC2 nq
  have HG3 : Chg [b] w (w2.drewN nq) := HG.out.drewN nq
  have HG := Lib.hid HG3
  clear HG3
  go_wp2_with fail
  refine (next_any b 1 (by decide) _ _ hC3).mono ?_
  rintro e w4 ⟨rfl, hN, hCh⟩
  have kn : w4.cell? ⟨b, 5, none⟩ = some (.int .i64 (LC.next ⟨f, s, o, 1, c0, c1 + 1, c2, c3, c4⟩ 1)) := Blk.cell hN 5
  go_wp2_with fail
  go_ret2
  exact ⟨rfl, hN, HG.out.trans hCh⟩

set_option maxHeartbeats 1000000 in
theorem Abort_no1 (w : World) (b : Nat) (f s o c0 c1 c2 c3 c4 n : Int) (hne : (n == 3) = false) (h1 : 1 ≤ n) (h8 : n ≤ 8) (h7 : (n == 7) = false) (hb : ¬ c1 + 1 = f) (hs0 : 0 ≤ c1) (hs1 : c1 ≤ 100) (hC : CtlAt w b ⟨f, s, o, 1, c0, c1, c2, c3, c4⟩) :
    Calls Try.prog 15 #[.pointer (some ⟨b, 0, none⟩), .int .i64 n] w fun e w' => e = .returned (.tuple #[.int .i64 (1), .int .i64 0]) ∧ CtlAt w' b ⟨f, s, o, 1, c0, c1 + 1, c2, c3, c4⟩ ∧ Chg [b] w w' := by
  replace hC : Blk w b [.int .i64 0, .int .i64 f, .int .i64 s, .int .i64 o, .int .i64 (-1), .int .i64 1, .int .i64 c0, .int .i64 c1, .int .i64 c2, .int .i64 c3, .int .i64 c4, .bool true] 55 := hC
  have hw : IntKind.i64.wrap (c1 + 1) = c1 + 1 := IntWalk.i64_in _ (by omega)
  have hbb : (c1 + 1 == f) = false := by simpa using hb
  have k1 : w.cell? ⟨b, 1, none⟩ = some (.int .i64 f) := hC.cell 1
  have k2 : w.cell? ⟨b, 2, none⟩ = some (.int .i64 s) := hC.cell 2
  have k3 : w.cell? ⟨b, 3, none⟩ = some (.int .i64 o) := hC.cell 3
  have k5 : w.cell? ⟨b, 5, none⟩ = some (.int .i64 1) := hC.cell 5
  have k7 : w.cell? ⟨b, 7, none⟩ = some (.int .i64 c1) := hC.cell 7
  have k8 : w.cell? ⟨b, 8, none⟩ = some (.int .i64 c2) := hC.cell 8
  have k9 : w.cell? ⟨b, 9, none⟩ = some (.int .i64 c3) := hC.cell 9
  have k11 : w.cell? ⟨b, 11, none⟩ = some (.bool true) := hC.cell 11
  have hf := hC.free
  have hC2 : CtlAt (w.setCell ⟨b, 7, none⟩ (.int .i64 (c1 + 1))).drew b ⟨f, s, o, 1, c0, c1 + 1, c2, c3, c4⟩ := (hC.set 7 (.int .i64 (c1 + 1))).drew
  have hG2 : Chg [b] w (w.setCell ⟨b, 7, none⟩ (.int .i64 (c1 + 1))).drew := ((Chg.refl _ _).setCell (by simp) _).drew
  have HB := Lib.hid hb
  clear hb
  go_enter Try.func15, Try.ntmps15
  go_wp2_with fail
  refine (none_any _ _ k11).mono ?_
  rintro e w' ⟨rfl, rfl⟩
  go_wp2_with fail
  go_still_tail 13, (by kernel_rfl)
  go_wp2_with fail
  generalize World.drew _ = w2 at hC2 hG2 ⊢
  clear k1 k2 k3 k5 k7 k8 k9 k11 hf hC
  refine (Hard_any _ b _ hC2).mono ?_
  rintro e w3 ⟨rfl, rfl⟩
  have eh : LC.hard ⟨f, s, o, 1, c0, c1 + 1, c2, c3, c4⟩ = true := rfl
  rw [eh]
  have HG := Lib.hid hG2
  clear hG2
  have k1 : w2.cell? ⟨b, 1, none⟩ = some (.int .i64 f) := Blk.cell hC2 1
  have k5 : w2.cell? ⟨b, 5, none⟩ = some (.int .i64 1) := Blk.cell hC2 5
  have k7 : w2.cell? ⟨b, 7, none⟩ = some (.int .i64 (c1 + 1)) := Blk.cell hC2 7
  go_wp2_with fail
  go_quiet (fail)
  have hC3 : CtlAt (w2.drewN nq) b ⟨f, s, o, 1, c0, c1 + 1, c2, c3, c4⟩ := Blk.drewN hC2 nq
  have HG3 : Chg [b] w (w2.drewN nq) := HG.out.drewN nq
  have HG := Lib.hid HG3
  clear HG3
  go_wp2_with fail
  go_ret2
  exact ⟨rfl, hC3, HG.out⟩

set_option maxHeartbeats 1000000 in
theorem Abort_cap2 (w : World) (b : Nat) (f s o c0 c1 c2 c3 c4 : Int) (hs0 : 0 ≤ c2) (hs1 : c2 ≤ 100) (hC : CtlAt w b ⟨f, s, o, 2, c0, c1, c2, c3, c4⟩) :
    Calls Try.prog 15 #[.pointer (some ⟨b, 0, none⟩), .int .i64 3] w fun e w' => e = .returned (.tuple #[.int .i64 (LC.next ⟨f, s, o, 2, c0, c1, c2 + 1, c3, c4⟩ 2), .int .i64 0]) ∧ CtlAt w' b (LC.to ⟨f, s, o, 2, c0, c1, c2 + 1, c3, c4⟩ (LC.next ⟨f, s, o, 2, c0, c1, c2 + 1, c3, c4⟩ 2)) ∧ Chg [b] w w' := by
  replace hC : Blk w b [.int .i64 0, .int .i64 f, .int .i64 s, .int .i64 o, .int .i64 (-1), .int .i64 2, .int .i64 c0, .int .i64 c1, .int .i64 c2, .int .i64 c3, .int .i64 c4, .bool true] 55 := hC
  have hw : IntKind.i64.wrap (c2 + 1) = c2 + 1 := IntWalk.i64_in _ (by omega)
  have k1 : w.cell? ⟨b, 1, none⟩ = some (.int .i64 f) := hC.cell 1
  have k2 : w.cell? ⟨b, 2, none⟩ = some (.int .i64 s) := hC.cell 2
  have k3 : w.cell? ⟨b, 3, none⟩ = some (.int .i64 o) := hC.cell 3
  have k5 : w.cell? ⟨b, 5, none⟩ = some (.int .i64 2) := hC.cell 5
  have k7 : w.cell? ⟨b, 7, none⟩ = some (.int .i64 c1) := hC.cell 7
  have k8 : w.cell? ⟨b, 8, none⟩ = some (.int .i64 c2) := hC.cell 8
  have k9 : w.cell? ⟨b, 9, none⟩ = some (.int .i64 c3) := hC.cell 9
  have k11 : w.cell? ⟨b, 11, none⟩ = some (.bool true) := hC.cell 11
  have hf := hC.free
  have hC2 : CtlAt (w.setCell ⟨b, 8, none⟩ (.int .i64 (c2 + 1))).drew b ⟨f, s, o, 2, c0, c1, c2 + 1, c3, c4⟩ := (hC.set 8 (.int .i64 (c2 + 1))).drew
  have hG2 : Chg [b] w (w.setCell ⟨b, 8, none⟩ (.int .i64 (c2 + 1))).drew := ((Chg.refl _ _).setCell (by simp) _).drew
  go_enter Try.func15, Try.ntmps15
  go_wp2_with fail
  refine (none_any _ _ k11).mono ?_
  rintro e w' ⟨rfl, rfl⟩
  go_wp2_with fail
  go_still_tail 13, (by kernel_rfl)
  go_wp2_with fail
  generalize World.drew _ = w2 at hC2 hG2 ⊢
  clear k1 k2 k3 k5 k7 k8 k9 k11 hf hC
  refine (Hard_any _ b _ hC2).mono ?_
  rintro e w3 ⟨rfl, rfl⟩
  have eh : LC.hard ⟨f, s, o, 2, c0, c1, c2 + 1, c3, c4⟩ = true := rfl
  rw [eh]
  have HG := Lib.hid hG2
  clear hG2
  go_wp2_with fail
  refine (next_any b 2 (by decide) _ _ hC2).mono ?_
  rintro e w4 ⟨rfl, hN, hCh⟩
  have kn : w4.cell? ⟨b, 5, none⟩ = some (.int .i64 (LC.next ⟨f, s, o, 2, c0, c1, c2 + 1, c3, c4⟩ 2)) := Blk.cell hN 5
  go_wp2_with fail
  go_ret2
  exact ⟨rfl, hN, HG.out.trans hCh⟩

set_option maxHeartbeats 1000000 in
theorem Abort_eq2 (w : World) (b : Nat) (f s o c0 c1 c2 c3 c4 n : Int) (hne : (n == 3) = false) (h1 : 1 ≤ n) (h8 : n ≤ 8) (h7 : (n == 7) = false) (hb : c2 + 1 = s) (hs0 : 0 ≤ c2) (hs1 : c2 ≤ 100) (hC : CtlAt w b ⟨f, s, o, 2, c0, c1, c2, c3, c4⟩) :
    Calls Try.prog 15 #[.pointer (some ⟨b, 0, none⟩), .int .i64 n] w fun e w' => e = .returned (.tuple #[.int .i64 (LC.next ⟨f, s, o, 2, c0, c1, c2 + 1, c3, c4⟩ 2), .int .i64 0]) ∧ CtlAt w' b (LC.to ⟨f, s, o, 2, c0, c1, c2 + 1, c3, c4⟩ (LC.next ⟨f, s, o, 2, c0, c1, c2 + 1, c3, c4⟩ 2)) ∧ Chg [b] w w' := by
  replace hC : Blk w b [.int .i64 0, .int .i64 f, .int .i64 s, .int .i64 o, .int .i64 (-1), .int .i64 2, .int .i64 c0, .int .i64 c1, .int .i64 c2, .int .i64 c3, .int .i64 c4, .bool true] 55 := hC
  have hw : IntKind.i64.wrap (c2 + 1) = c2 + 1 := IntWalk.i64_in _ (by omega)
  have hbb : (c2 + 1 == s) = true := by simpa using hb
  have k1 : w.cell? ⟨b, 1, none⟩ = some (.int .i64 f) := hC.cell 1
  have k2 : w.cell? ⟨b, 2, none⟩ = some (.int .i64 s) := hC.cell 2
  have k3 : w.cell? ⟨b, 3, none⟩ = some (.int .i64 o) := hC.cell 3
  have k5 : w.cell? ⟨b, 5, none⟩ = some (.int .i64 2) := hC.cell 5
  have k7 : w.cell? ⟨b, 7, none⟩ = some (.int .i64 c1) := hC.cell 7
  have k8 : w.cell? ⟨b, 8, none⟩ = some (.int .i64 c2) := hC.cell 8
  have k9 : w.cell? ⟨b, 9, none⟩ = some (.int .i64 c3) := hC.cell 9
  have k11 : w.cell? ⟨b, 11, none⟩ = some (.bool true) := hC.cell 11
  have hf := hC.free
  have hC2 : CtlAt (w.setCell ⟨b, 8, none⟩ (.int .i64 (c2 + 1))).drew b ⟨f, s, o, 2, c0, c1, c2 + 1, c3, c4⟩ := (hC.set 8 (.int .i64 (c2 + 1))).drew
  have hG2 : Chg [b] w (w.setCell ⟨b, 8, none⟩ (.int .i64 (c2 + 1))).drew := ((Chg.refl _ _).setCell (by simp) _).drew
  have HB := Lib.hid hb
  clear hb
  go_enter Try.func15, Try.ntmps15
  go_wp2_with fail
  refine (none_any _ _ k11).mono ?_
  rintro e w' ⟨rfl, rfl⟩
  go_wp2_with fail
  go_still_tail 13, (by kernel_rfl)
  go_wp2_with fail
  generalize World.drew _ = w2 at hC2 hG2 ⊢
  clear k1 k2 k3 k5 k7 k8 k9 k11 hf hC
  refine (Hard_any _ b _ hC2).mono ?_
  rintro e w3 ⟨rfl, rfl⟩
  have eh : LC.hard ⟨f, s, o, 2, c0, c1, c2 + 1, c3, c4⟩ = true := rfl
  rw [eh]
  have HG := Lib.hid hG2
  clear hG2
  have k2 : w2.cell? ⟨b, 2, none⟩ = some (.int .i64 s) := Blk.cell hC2 2
  have k5 : w2.cell? ⟨b, 5, none⟩ = some (.int .i64 2) := Blk.cell hC2 5
  have k8 : w2.cell? ⟨b, 8, none⟩ = some (.int .i64 (c2 + 1)) := Blk.cell hC2 8
  go_wp2_with fail
  go_quiet (fail)
  have hC3 : CtlAt (w2.drewN nq) b ⟨f, s, o, 2, c0, c1, c2 + 1, c3, c4⟩ := Blk.drewN hC2 nq
  have HG3 : Chg [b] w (w2.drewN nq) := HG.out.drewN nq
  have HG := Lib.hid HG3
  clear HG3
  go_wp2_with fail
  refine (next_any b 2 (by decide) _ _ hC3).mono ?_
  rintro e w4 ⟨rfl, hN, hCh⟩
  have kn : w4.cell? ⟨b, 5, none⟩ = some (.int .i64 (LC.next ⟨f, s, o, 2, c0, c1, c2 + 1, c3, c4⟩ 2)) := Blk.cell hN 5
  go_wp2_with fail
  go_ret2
  exact ⟨rfl, hN, HG.out.trans hCh⟩

set_option maxHeartbeats 1000000 in
theorem Abort_no2 (w : World) (b : Nat) (f s o c0 c1 c2 c3 c4 n : Int) (hne : (n == 3) = false) (h1 : 1 ≤ n) (h8 : n ≤ 8) (h7 : (n == 7) = false) (hb : ¬ c2 + 1 = s) (hs0 : 0 ≤ c2) (hs1 : c2 ≤ 100) (hC : CtlAt w b ⟨f, s, o, 2, c0, c1, c2, c3, c4⟩) :
    Calls Try.prog 15 #[.pointer (some ⟨b, 0, none⟩), .int .i64 n] w fun e w' => e = .returned (.tuple #[.int .i64 (2), .int .i64 0]) ∧ CtlAt w' b ⟨f, s, o, 2, c0, c1, c2 + 1, c3, c4⟩ ∧ Chg [b] w w' := by
  replace hC : Blk w b [.int .i64 0, .int .i64 f, .int .i64 s, .int .i64 o, .int .i64 (-1), .int .i64 2, .int .i64 c0, .int .i64 c1, .int .i64 c2, .int .i64 c3, .int .i64 c4, .bool true] 55 := hC
  have hw : IntKind.i64.wrap (c2 + 1) = c2 + 1 := IntWalk.i64_in _ (by omega)
  have hbb : (c2 + 1 == s) = false := by simpa using hb
  have k1 : w.cell? ⟨b, 1, none⟩ = some (.int .i64 f) := hC.cell 1
  have k2 : w.cell? ⟨b, 2, none⟩ = some (.int .i64 s) := hC.cell 2
  have k3 : w.cell? ⟨b, 3, none⟩ = some (.int .i64 o) := hC.cell 3
  have k5 : w.cell? ⟨b, 5, none⟩ = some (.int .i64 2) := hC.cell 5
  have k7 : w.cell? ⟨b, 7, none⟩ = some (.int .i64 c1) := hC.cell 7
  have k8 : w.cell? ⟨b, 8, none⟩ = some (.int .i64 c2) := hC.cell 8
  have k9 : w.cell? ⟨b, 9, none⟩ = some (.int .i64 c3) := hC.cell 9
  have k11 : w.cell? ⟨b, 11, none⟩ = some (.bool true) := hC.cell 11
  have hf := hC.free
  have hC2 : CtlAt (w.setCell ⟨b, 8, none⟩ (.int .i64 (c2 + 1))).drew b ⟨f, s, o, 2, c0, c1, c2 + 1, c3, c4⟩ := (hC.set 8 (.int .i64 (c2 + 1))).drew
  have hG2 : Chg [b] w (w.setCell ⟨b, 8, none⟩ (.int .i64 (c2 + 1))).drew := ((Chg.refl _ _).setCell (by simp) _).drew
  have HB := Lib.hid hb
  clear hb
  go_enter Try.func15, Try.ntmps15
  go_wp2_with fail
  refine (none_any _ _ k11).mono ?_
  rintro e w' ⟨rfl, rfl⟩
  go_wp2_with fail
  go_still_tail 13, (by kernel_rfl)
  go_wp2_with fail
  generalize World.drew _ = w2 at hC2 hG2 ⊢
  clear k1 k2 k3 k5 k7 k8 k9 k11 hf hC
  refine (Hard_any _ b _ hC2).mono ?_
  rintro e w3 ⟨rfl, rfl⟩
  have eh : LC.hard ⟨f, s, o, 2, c0, c1, c2 + 1, c3, c4⟩ = true := rfl
  rw [eh]
  have HG := Lib.hid hG2
  clear hG2
  have k2 : w2.cell? ⟨b, 2, none⟩ = some (.int .i64 s) := Blk.cell hC2 2
  have k5 : w2.cell? ⟨b, 5, none⟩ = some (.int .i64 2) := Blk.cell hC2 5
  have k8 : w2.cell? ⟨b, 8, none⟩ = some (.int .i64 (c2 + 1)) := Blk.cell hC2 8
  go_wp2_with fail
  go_quiet (fail)
  have hC3 : CtlAt (w2.drewN nq) b ⟨f, s, o, 2, c0, c1, c2 + 1, c3, c4⟩ := Blk.drewN hC2 nq
  have HG3 : Chg [b] w (w2.drewN nq) := HG.out.drewN nq
  have HG := Lib.hid HG3
  clear HG3
  go_wp2_with fail
  go_ret2
  exact ⟨rfl, hC3, HG.out⟩

set_option maxHeartbeats 1000000 in
theorem Abort_eq3 (w : World) (b : Nat) (f s o c0 c1 c2 c3 c4 n : Int) (h1 : 1 ≤ n) (h8 : n ≤ 8) (h7 : (n == 7) = false) (hb : c3 + 1 = o) (hs0 : 0 ≤ c3) (hs1 : c3 ≤ 100) (hC : CtlAt w b ⟨f, s, o, 3, c0, c1, c2, c3, c4⟩) :
    Calls Try.prog 15 #[.pointer (some ⟨b, 0, none⟩), .int .i64 n] w fun e w' => e = .returned (.tuple #[.int .i64 (LC.next ⟨f, s, o, 3, c0, c1, c2, c3 + 1, c4⟩ 3), .int .i64 0]) ∧ CtlAt w' b (LC.to ⟨f, s, o, 3, c0, c1, c2, c3 + 1, c4⟩ (LC.next ⟨f, s, o, 3, c0, c1, c2, c3 + 1, c4⟩ 3)) ∧ Chg [b] w w' := by
  replace hC : Blk w b [.int .i64 0, .int .i64 f, .int .i64 s, .int .i64 o, .int .i64 (-1), .int .i64 3, .int .i64 c0, .int .i64 c1, .int .i64 c2, .int .i64 c3, .int .i64 c4, .bool true] 55 := hC
  have hw : IntKind.i64.wrap (c3 + 1) = c3 + 1 := IntWalk.i64_in _ (by omega)
  have hbb : (c3 + 1 == o) = true := by simpa using hb
  have k1 : w.cell? ⟨b, 1, none⟩ = some (.int .i64 f) := hC.cell 1
  have k2 : w.cell? ⟨b, 2, none⟩ = some (.int .i64 s) := hC.cell 2
  have k3 : w.cell? ⟨b, 3, none⟩ = some (.int .i64 o) := hC.cell 3
  have k5 : w.cell? ⟨b, 5, none⟩ = some (.int .i64 3) := hC.cell 5
  have k7 : w.cell? ⟨b, 7, none⟩ = some (.int .i64 c1) := hC.cell 7
  have k8 : w.cell? ⟨b, 8, none⟩ = some (.int .i64 c2) := hC.cell 8
  have k9 : w.cell? ⟨b, 9, none⟩ = some (.int .i64 c3) := hC.cell 9
  have k11 : w.cell? ⟨b, 11, none⟩ = some (.bool true) := hC.cell 11
  have hf := hC.free
  have hC2 : CtlAt (w.setCell ⟨b, 9, none⟩ (.int .i64 (c3 + 1))).drew b ⟨f, s, o, 3, c0, c1, c2, c3 + 1, c4⟩ := (hC.set 9 (.int .i64 (c3 + 1))).drew
  have hG2 : Chg [b] w (w.setCell ⟨b, 9, none⟩ (.int .i64 (c3 + 1))).drew := ((Chg.refl _ _).setCell (by simp) _).drew
  have HB := Lib.hid hb
  clear hb
  go_enter Try.func15, Try.ntmps15
  go_wp2_with fail
  refine (none_any _ _ k11).mono ?_
  rintro e w' ⟨rfl, rfl⟩
  go_wp2_with fail
  go_still_tail 13, (by kernel_rfl)
  go_wp2_with fail
  generalize World.drew _ = w2 at hC2 hG2 ⊢
  clear k1 k2 k3 k5 k7 k8 k9 k11 hf hC
  refine (Hard_any _ b _ hC2).mono ?_
  rintro e w3 ⟨rfl, rfl⟩
  have eh : LC.hard ⟨f, s, o, 3, c0, c1, c2, c3 + 1, c4⟩ = false := rfl
  rw [eh]
  have HG := Lib.hid hG2
  clear hG2
  have k3 : w2.cell? ⟨b, 3, none⟩ = some (.int .i64 o) := Blk.cell hC2 3
  have k5 : w2.cell? ⟨b, 5, none⟩ = some (.int .i64 3) := Blk.cell hC2 5
  have k9 : w2.cell? ⟨b, 9, none⟩ = some (.int .i64 (c3 + 1)) := Blk.cell hC2 9
  go_wp2_with fail
  go_quiet (fail)
  have hC3 : CtlAt (w2.drewN nq) b ⟨f, s, o, 3, c0, c1, c2, c3 + 1, c4⟩ := Blk.drewN hC2 nq
  have HG3 : Chg [b] w (w2.drewN nq) := HG.out.drewN nq
  have HG := Lib.hid HG3
  clear HG3
  go_wp2_with fail
  refine (next_any b 3 (by decide) _ _ hC3).mono ?_
  rintro e w4 ⟨rfl, hN, hCh⟩
  have kn : w4.cell? ⟨b, 5, none⟩ = some (.int .i64 (LC.next ⟨f, s, o, 3, c0, c1, c2, c3 + 1, c4⟩ 3)) := Blk.cell hN 5
  go_wp2_with fail
  go_ret2
  exact ⟨rfl, hN, HG.out.trans hCh⟩

set_option maxHeartbeats 1000000 in
theorem Abort_no3 (w : World) (b : Nat) (f s o c0 c1 c2 c3 c4 n : Int) (h1 : 1 ≤ n) (h8 : n ≤ 8) (h7 : (n == 7) = false) (hb : ¬ c3 + 1 = o) (hs0 : 0 ≤ c3) (hs1 : c3 ≤ 100) (hC : CtlAt w b ⟨f, s, o, 3, c0, c1, c2, c3, c4⟩) :
    Calls Try.prog 15 #[.pointer (some ⟨b, 0, none⟩), .int .i64 n] w fun e w' => e = .returned (.tuple #[.int .i64 (3), .int .i64 0]) ∧ CtlAt w' b ⟨f, s, o, 3, c0, c1, c2, c3 + 1, c4⟩ ∧ Chg [b] w w' := by
  replace hC : Blk w b [.int .i64 0, .int .i64 f, .int .i64 s, .int .i64 o, .int .i64 (-1), .int .i64 3, .int .i64 c0, .int .i64 c1, .int .i64 c2, .int .i64 c3, .int .i64 c4, .bool true] 55 := hC
  have hw : IntKind.i64.wrap (c3 + 1) = c3 + 1 := IntWalk.i64_in _ (by omega)
  have hbb : (c3 + 1 == o) = false := by simpa using hb
  have k1 : w.cell? ⟨b, 1, none⟩ = some (.int .i64 f) := hC.cell 1
  have k2 : w.cell? ⟨b, 2, none⟩ = some (.int .i64 s) := hC.cell 2
  have k3 : w.cell? ⟨b, 3, none⟩ = some (.int .i64 o) := hC.cell 3
  have k5 : w.cell? ⟨b, 5, none⟩ = some (.int .i64 3) := hC.cell 5
  have k7 : w.cell? ⟨b, 7, none⟩ = some (.int .i64 c1) := hC.cell 7
  have k8 : w.cell? ⟨b, 8, none⟩ = some (.int .i64 c2) := hC.cell 8
  have k9 : w.cell? ⟨b, 9, none⟩ = some (.int .i64 c3) := hC.cell 9
  have k11 : w.cell? ⟨b, 11, none⟩ = some (.bool true) := hC.cell 11
  have hf := hC.free
  have hC2 : CtlAt (w.setCell ⟨b, 9, none⟩ (.int .i64 (c3 + 1))).drew b ⟨f, s, o, 3, c0, c1, c2, c3 + 1, c4⟩ := (hC.set 9 (.int .i64 (c3 + 1))).drew
  have hG2 : Chg [b] w (w.setCell ⟨b, 9, none⟩ (.int .i64 (c3 + 1))).drew := ((Chg.refl _ _).setCell (by simp) _).drew
  have HB := Lib.hid hb
  clear hb
  go_enter Try.func15, Try.ntmps15
  go_wp2_with fail
  refine (none_any _ _ k11).mono ?_
  rintro e w' ⟨rfl, rfl⟩
  go_wp2_with fail
  go_still_tail 13, (by kernel_rfl)
  go_wp2_with fail
  generalize World.drew _ = w2 at hC2 hG2 ⊢
  clear k1 k2 k3 k5 k7 k8 k9 k11 hf hC
  refine (Hard_any _ b _ hC2).mono ?_
  rintro e w3 ⟨rfl, rfl⟩
  have eh : LC.hard ⟨f, s, o, 3, c0, c1, c2, c3 + 1, c4⟩ = false := rfl
  rw [eh]
  have HG := Lib.hid hG2
  clear hG2
  have k3 : w2.cell? ⟨b, 3, none⟩ = some (.int .i64 o) := Blk.cell hC2 3
  have k5 : w2.cell? ⟨b, 5, none⟩ = some (.int .i64 3) := Blk.cell hC2 5
  have k9 : w2.cell? ⟨b, 9, none⟩ = some (.int .i64 (c3 + 1)) := Blk.cell hC2 9
  go_wp2_with fail
  go_quiet (fail)
  have hC3 : CtlAt (w2.drewN nq) b ⟨f, s, o, 3, c0, c1, c2, c3 + 1, c4⟩ := Blk.drewN hC2 nq
  have HG3 : Chg [b] w (w2.drewN nq) := HG.out.drewN nq
  have HG := Lib.hid HG3
  clear HG3
  go_wp2_with fail
  go_ret2
  exact ⟨rfl, hC3, HG.out⟩

end Go.Proofs.Ytdaehfilmhagiaa
