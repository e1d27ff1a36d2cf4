/- A control's calls. -/
import Derived.Test.YtdaehfilmhagiaaLanes2
namespace Go.Proofs.Ytdaehfilmhagiaa
open Go.RowKit

theorem none_any (w : World) (b : Nat) (hm : w.cell? ⟨b, 11, none⟩ = some (.bool true)) :
    Calls Try.prog 26 #[.pointer (some ⟨b, 0, none⟩)] w fun e w' => e = .returned (.bool false) ∧ w = w' := by
  go_enter Try.func26, Try.ntmps26
  go_wp2
  go_ret
  exact ⟨rfl, rfl⟩

/-- No control: none, or one that was not made. -/
def NoCtl (w : World) (v : Value) : Prop := v = .pointer none ∨ ∃ b, v = .pointer (some ⟨b, 0, none⟩) ∧ w.cell? ⟨b, 11, none⟩ = some (.bool false)
theorem none_no (w : World) (v : Value) (h : NoCtl w v) :
    Calls Try.prog 26 #[v] w fun e w' => e = .returned (.bool true) ∧ w = w' := by
  rcases h with rfl | ⟨b, rfl, hm⟩
  · go_enter Try.func26, Try.ntmps26
    go_wp2
    go_ret
    exact ⟨rfl, rfl⟩
  · go_enter Try.func26, Try.ntmps26
    go_wp2
    go_ret
    exact ⟨rfl, rfl⟩

theorem Enter_no (w : World) (v : Value) (h : NoCtl w v) :
    Calls Try.prog 12 #[v] w fun e w' => e = .returned (.tuple #[.int .i64 0, .int .i64 1]) ∧ w = w' := by
  go_enter Try.func12, Try.ntmps12
  go_wp2_with fail
  refine (none_no _ _ h).mono ?_
  rintro e w' ⟨rfl, rfl⟩
  go_wp2_with fail
  go_ret2
  exact ⟨rfl, rfl⟩

theorem Abort_no (w : World) (v : Value) (n : Int) (h : NoCtl w v) :
    Calls Try.prog 15 #[v, .int .i64 n] w fun e w' => e = .returned (.tuple #[.int .i64 0, .int .i64 1]) ∧ w = w' := by
  go_enter Try.func15, Try.ntmps15
  go_wp2_with fail
  refine (none_no _ _ h).mono ?_
  rintro e w' ⟨rfl, rfl⟩
  go_wp2_with fail
  go_ret2
  exact ⟨rfl, rfl⟩

theorem Leave_no (w : World) (v : Value) (h : NoCtl w v) :
    Calls Try.prog 24 #[v] w fun e w' => e = .returned (.int .i64 1) ∧ w = w' := by
  go_enter Try.func24, Try.ntmps24
  go_wp2_with fail
  refine (none_no _ _ h).mono ?_
  rintro e w' ⟨rfl, rfl⟩
  go_wp2_with fail
  go_ret
  exact ⟨rfl, rfl⟩

theorem Lane_no (w : World) (v : Value) (h : NoCtl w v) :
    Calls Try.prog 17 #[v] w fun e w' => e = .returned (.int .i64 0) ∧ w = w' := by
  go_enter Try.func17, Try.ntmps17
  go_wp2_with fail
  refine (none_no _ _ h).mono ?_
  rintro e w' ⟨rfl, rfl⟩
  go_wp2_with fail
  go_ret
  exact ⟨rfl, rfl⟩

theorem Hard_no (w : World) (v : Value) (h : NoCtl w v) :
    Calls Try.prog 13 #[v] w fun e w' => e = .returned (.bool false) ∧ w = w' := by
  go_enter Try.func13, Try.ntmps13
  go_wp2_with fail
  refine (none_no _ _ h).mono ?_
  rintro e w' ⟨rfl, rfl⟩
  go_wp2_with fail
  go_ret
  exact ⟨rfl, rfl⟩

theorem Counts_no (w : World) (v : Value) (h : ∀ o, NoCtl (w.alloc o) v) :
    Calls Try.prog 16 #[v] w fun e w' => e = .returned (.agg #[.int .i64 0, .int .i64 0, .int .i64 0, .int .i64 0, .int .i64 0]) ∧ Chg [] w w' := by
  go_enter Try.func16, Try.ntmps16
  go_wp2_with fail
  refine (none_no _ _ (h _)).mono ?_
  rintro e w' ⟨rfl, rfl⟩
  go_wp2_with fail
  refine bodyPost_ret (v := .agg #[.int .i64 0, .int .i64 0, .int .i64 0, .int .i64 0, .int .i64 0]) ?_ rfl ⟨rfl, (Chg.refl _ _).alloc _⟩
  simp [results, Try.results16, go_sem]

def LC.hard (C : LC) : Bool := decide (C.lane = 1) || decide (C.lane = 2)
set_option maxHeartbeats 1000000 in
theorem Lane_any (w : World) (b : Nat) (C : LC) (hC : CtlAt w b C) :
    Calls Try.prog 17 #[.pointer (some ⟨b, 0, none⟩)] w fun e w' => e = .returned (.int .i64 C.lane) ∧ w = w' := by
  obtain ⟨f, s, o, lane, c0, c1, c2, c3, c4⟩ := C
  replace hC : Blk w b [.int .i64 0, .int .i64 f, .int .i64 s, .int .i64 o, .int .i64 (-1), .int .i64 lane, .int .i64 c0, .int .i64 c1, .int .i64 c2, .int .i64 c3, .int .i64 c4, .bool true] 55 := hC
  have k5 : w.cell? ⟨b, 5, none⟩ = some (.int .i64 lane) := hC.cell 5
  have k11 : w.cell? ⟨b, 11, none⟩ = some (.bool true) := hC.cell 11
  go_enter Try.func17, Try.ntmps17
  go_wp2_with fail
  refine (none_any _ _ k11).mono ?_
  rintro e w' ⟨rfl, rfl⟩
  go_wp2_with fail
  go_ret
  exact ⟨rfl, rfl⟩

set_option maxHeartbeats 1000000 in
theorem Hard_any (w : World) (b : Nat) (C : LC) (hC : CtlAt w b C) :
    Calls Try.prog 13 #[.pointer (some ⟨b, 0, none⟩)] w fun e w' => e = .returned (.bool C.hard) ∧ w = w' := by
  obtain ⟨f, s, o, lane, c0, c1, c2, c3, c4⟩ := C
  replace hC : Blk w b [.int .i64 0, .int .i64 f, .int .i64 s, .int .i64 o, .int .i64 (-1), .int .i64 lane, .int .i64 c0, .int .i64 c1, .int .i64 c2, .int .i64 c3, .int .i64 c4, .bool true] 55 := hC
  have k5 : w.cell? ⟨b, 5, none⟩ = some (.int .i64 lane) := hC.cell 5
  have k11 : w.cell? ⟨b, 11, none⟩ = some (.bool true) := hC.cell 11
  by_cases h1 : lane = 1
  · subst h1
    go_enter Try.func13, Try.ntmps13
    go_wp2_with fail
    refine (none_any _ _ k11).mono ?_
    rintro e w' ⟨rfl, rfl⟩
    go_wp2_with fail
    go_ret
    exact ⟨rfl, rfl⟩
  by_cases h2 : lane = 2
  · subst h2
    go_enter Try.func13, Try.ntmps13
    go_wp2_with fail
    refine (none_any _ _ k11).mono ?_
    rintro e w' ⟨rfl, rfl⟩
    go_wp2_with fail
    go_ret
    exact ⟨rfl, rfl⟩
  have e1 : (lane == 1) = false := by simpa using h1
  have e2 : (lane == 2) = false := by simpa using h2
  have e3 : LC.hard ⟨f, s, o, lane, c0, c1, c2, c3, c4⟩ = false := by simp [LC.hard, h1, h2]
  rw [e3]
  clear h1 h2 e3
  go_enter Try.func13, Try.ntmps13
  go_wp2_with fail
  refine (none_any _ _ k11).mono ?_
  rintro e w' ⟨rfl, rfl⟩
  go_wp2_with fail
  go_ret
  exact ⟨rfl, rfl⟩

def CountsPost (w : World) (C : LC) (e : Ending) (w' : World) : Prop := e = .returned (.agg #[.int .i64 C.c0, .int .i64 C.c1, .int .i64 C.c2, .int .i64 C.c3, .int .i64 C.c4]) ∧ Chg [] w w'

set_option maxHeartbeats 1000000 in
theorem Counts_any (w : World) (b : Nat) (C : LC) (hC : CtlAt w b C) :
    Calls Try.prog 16 #[.pointer (some ⟨b, 0, none⟩)] w (CountsPost w C) := by
  obtain ⟨f, s, o, lane, c0, c1, c2, c3, c4⟩ := C
  replace hC : Blk w b [.int .i64 0, .int .i64 f, .int .i64 s, .int .i64 o, .int .i64 (-1), .int .i64 lane, .int .i64 c0, .int .i64 c1, .int .i64 c2, .int .i64 c3, .int .i64 c4, .bool true] 55 := hC
  have hlt := hC.lt
  have k11a : ∀ o, (w.alloc o).cell? ⟨b, 11, none⟩ = some (.bool true) := fun o => (hC.alloc o).cell 11
  have k6 : w.cell? ⟨b, 6, none⟩ = some (.int .i64 c0) := hC.cell 6
  have k7 : w.cell? ⟨b, 7, none⟩ = some (.int .i64 c1) := hC.cell 7
  have k8 : w.cell? ⟨b, 8, none⟩ = some (.int .i64 c2) := hC.cell 8
  have k9 : w.cell? ⟨b, 9, none⟩ = some (.int .i64 c3) := hC.cell 9
  have k10 : w.cell? ⟨b, 10, none⟩ = some (.int .i64 c4) := hC.cell 10
  go_enter Try.func16, Try.ntmps16
  go_wp2_with fail
  refine (none_any _ _ (k11a _)).mono ?_
  rintro e w' ⟨rfl, rfl⟩
  go_wp2_with fail
  refine bodyPost_ret (v := .agg #[.int .i64 c0, .int .i64 c1, .int .i64 c2, .int .i64 c3, .int .i64 c4]) ?_ rfl ⟨rfl, (Chg.refl _ _).alloc _⟩
  simp [results, Try.results16, go_sem]

def LC.none (C : LC) : LC := ⟨C.f, C.s, C.o, 0, 0, 0, 0, 0, 0⟩
def leaveErr (C : LC) : Int := if C.lane = 0 then 90 else 0
def LeavePost (w : World) (b : Nat) (C : LC) (e : Ending) (w' : World) : Prop := e = .returned (.int .i64 (leaveErr C)) ∧ CtlAt w' b (if C.lane = 0 then C else C.none) ∧ Chg [b] w w'

set_option maxHeartbeats 1000000 in
theorem Leave_any (w : World) (b : Nat) (C : LC) (hC : CtlAt w b C) :
    Calls Try.prog 24 #[.pointer (some ⟨b, 0, none⟩)] w (LeavePost w b C) := by
  obtain ⟨f, s, o, lane, c0, c1, c2, c3, c4⟩ := C
  replace hC : Blk w b [.int .i64 0, .int .i64 f, .int .i64 s, .int .i64 o, .int .i64 (-1), .int .i64 lane, .int .i64 c0, .int .i64 c1, .int .i64 c2, .int .i64 c3, .int .i64 c4, .bool true] 55 := hC
  have hf := hC.free
  have k0 : w.cell? ⟨b, 0, none⟩ = some (.int .i64 0) := hC.cell 0
  have k1 : w.cell? ⟨b, 1, none⟩ = some (.int .i64 f) := hC.cell 1
  have k2 : w.cell? ⟨b, 2, none⟩ = some (.int .i64 s) := hC.cell 2
  have k3 : w.cell? ⟨b, 3, none⟩ = some (.int .i64 o) := hC.cell 3
  have k4 : w.cell? ⟨b, 4, none⟩ = some (.int .i64 (-1)) := hC.cell 4
  have k5 : w.cell? ⟨b, 5, none⟩ = some (.int .i64 lane) := hC.cell 5
  have k6 : w.cell? ⟨b, 6, none⟩ = some (.int .i64 c0) := hC.cell 6
  have k7 : w.cell? ⟨b, 7, none⟩ = some (.int .i64 c1) := hC.cell 7
  have k8 : w.cell? ⟨b, 8, none⟩ = some (.int .i64 c2) := hC.cell 8
  have k9 : w.cell? ⟨b, 9, none⟩ = some (.int .i64 c3) := hC.cell 9
  have k10 : w.cell? ⟨b, 10, none⟩ = some (.int .i64 c4) := hC.cell 10
  have k11 : w.cell? ⟨b, 11, none⟩ = some (.bool true) := hC.cell 11
  have HC := Lib.hid hC
  clear hC
  by_cases h : lane = 0
  · subst h
    go_enter Try.func24, Try.ntmps24
    go_wp2_with fail
    refine (none_any _ _ k11).mono ?_
    rintro e w' ⟨rfl, rfl⟩
    go_wp2_with fail
    go_ret
    exact ⟨rfl, HC.out, Chg.refl _ _⟩
  · have e1 : (lane == 0) = false := by simpa using h
    have e2 : leaveErr ⟨f, s, o, lane, c0, c1, c2, c3, c4⟩ = 0 := by simp [leaveErr, h]
    have H := Lib.hid h
    have E2 := Lib.hid e2
    clear h e2
    go_enter Try.func24, Try.ntmps24
    go_wp2_with fail
    refine (none_any _ _ k11).mono ?_
    rintro e w' ⟨rfl, rfl⟩
    go_wp2_with fail
    go_ret
    refine ⟨ret_int E2.out.symm, ?_, ((((((Chg.refl _ _).setCell (by simp) _).setCell (by simp) _).setCell (by simp) _).setCell (by simp) _).setCell (by simp) _).setCell (by simp) _⟩
    simp only [if_neg H.out]
    exact (((((HC.out.set 5 (.int .i64 0)).set 6 (.int .i64 0)).set 7 (.int .i64 0)).set 8 (.int .i64 0)).set 9 (.int .i64 0)).set 10 (.int .i64 0)

def enterErr (C : LC) : Int := if C.lane = 0 then 0 else 90
def LC.first (C : LC) : LC := ⟨C.f, C.s, C.o, C.next 0, 0, 0, 0, 0, 0⟩
def enterLane (C : LC) : Int := if C.lane = 0 then C.next 0 else 0
def EnterPost (w : World) (b : Nat) (C : LC) (e : Ending) (w' : World) : Prop := e = .returned (.tuple #[.int .i64 (enterLane C), .int .i64 (enterErr C)]) ∧ CtlAt w' b (if C.lane = 0 then C.first else C) ∧ Chg [b] w w'

set_option maxHeartbeats 1000000 in
theorem Enter_any (w : World) (b : Nat) (C : LC) (hC : CtlAt w b C) :
    Calls Try.prog 12 #[.pointer (some ⟨b, 0, none⟩)] w (EnterPost w b C) := by
  obtain ⟨f, s, o, lane, c0, c1, c2, c3, c4⟩ := C
  replace hC : Blk w b [.int .i64 0, .int .i64 f, .int .i64 s, .int .i64 o, .int .i64 (-1), .int .i64 lane, .int .i64 c0, .int .i64 c1, .int .i64 c2, .int .i64 c3, .int .i64 c4, .bool true] 55 := hC
  have hf := hC.free
  have k0 : w.cell? ⟨b, 0, none⟩ = some (.int .i64 0) := hC.cell 0
  have k1 : w.cell? ⟨b, 1, none⟩ = some (.int .i64 f) := hC.cell 1
  have k2 : w.cell? ⟨b, 2, none⟩ = some (.int .i64 s) := hC.cell 2
  have k3 : w.cell? ⟨b, 3, none⟩ = some (.int .i64 o) := hC.cell 3
  have k4 : w.cell? ⟨b, 4, none⟩ = some (.int .i64 (-1)) := hC.cell 4
  have k5 : w.cell? ⟨b, 5, none⟩ = some (.int .i64 lane) := hC.cell 5
  have k6 : w.cell? ⟨b, 6, none⟩ = some (.int .i64 c0) := hC.cell 6
  have k7 : w.cell? ⟨b, 7, none⟩ = some (.int .i64 c1) := hC.cell 7
  have k8 : w.cell? ⟨b, 8, none⟩ = some (.int .i64 c2) := hC.cell 8
  have k9 : w.cell? ⟨b, 9, none⟩ = some (.int .i64 c3) := hC.cell 9
  have k10 : w.cell? ⟨b, 10, none⟩ = some (.int .i64 c4) := hC.cell 10
  have k11 : w.cell? ⟨b, 11, none⟩ = some (.bool true) := hC.cell 11
  have HC := Lib.hid hC
  clear hC
  by_cases h : lane = 0
  · subst h
    go_enter Try.func12, Try.ntmps12
    go_wp2_with fail
    refine (none_any _ _ k11).mono ?_
    rintro e w' ⟨rfl, rfl⟩
    go_wp2_with fail
    have hC2 := ((((HC.out.set 6 (.int .i64 0)).set 7 (.int .i64 0)).set 8 (.int .i64 0)).set 9 (.int .i64 0)).set 10 (.int .i64 0)
    refine (next_any b 0 (by decide) ⟨f, s, o, 0, 0, 0, 0, 0, 0⟩ _ hC2).mono ?_
    rintro e w2 ⟨rfl, hN, hCh⟩
    have kn : w2.cell? ⟨b, 5, none⟩ = some (.int .i64 (LC.next ⟨f, s, o, 0, 0, 0, 0, 0, 0⟩ 0)) := Blk.cell hN 5
    go_wp2_with fail
    go_ret2
    exact ⟨rfl, hN, (((((((Chg.refl [b] w).setCell (p := ⟨b, 6, none⟩) (by simp) (.int .i64 0)).setCell (p := ⟨b, 7, none⟩) (by simp) (.int .i64 0)).setCell (p := ⟨b, 8, none⟩) (by simp) (.int .i64 0)).setCell (p := ⟨b, 9, none⟩) (by simp) (.int .i64 0)).setCell (p := ⟨b, 10, none⟩) (by simp) (.int .i64 0)).trans hCh)⟩
  · have e1 : (lane == 0) = false := by simpa using h
    have e2 : enterErr ⟨f, s, o, lane, c0, c1, c2, c3, c4⟩ = 90 := by simp [enterErr, h]
    have e3 : enterLane ⟨f, s, o, lane, c0, c1, c2, c3, c4⟩ = 0 := by simp [enterLane, h]
    have H := Lib.hid h
    have E2 := Lib.hid e2
    have E3 := Lib.hid e3
    have k5' : (lane != 0) = true := by simp [e1, h]
    go_enter Try.func12, Try.ntmps12
    go_wp2_with fail
    refine (none_any _ _ k11).mono ?_
    rintro e w' ⟨rfl, rfl⟩
    go_wp2_with fail
    go_ret2
    refine ⟨ret_int2 E3.out.symm E2.out.symm, ?_, Chg.refl _ _⟩
    simp only [if_neg H.out]
    exact HC.out

end Go.Proofs.Ytdaehfilmhagiaa
