/- Abort, whatever the control; the small functions of the statements. -/
import Derived.Test.YtdaehfilmhagiaaLanes6
namespace Go.Proofs.Ytdaehfilmhagiaa
open Go.RowKit

theorem Abort_any (w : World) (b : Nat) (C : LC) (n : Int) (h : C.Ok) (hC : CtlAt w b C) :
    Calls Try.prog 15 #[.pointer (some ⟨b, 0, none⟩), .int .i64 n] w (AbortPost w b C n) := by
  have hs := h.small
  have l0 := h.l0
  have l4 := h.l4
  obtain ⟨f, s, o, lane, c0, c1, c2, c3, c4⟩ := C
  obtain ⟨_, ⟨p1, q1⟩, ⟨p2, q2⟩, ⟨p3, q3⟩, _⟩ := hs
  dsimp only at *
  rcases (by omega : lane = 0 ∨ lane = 1 ∨ lane = 2 ∨ lane = 3 ∨ lane = 4) with rfl | rfl | rfl | rfl | rfl
  · exact Abort_out0 w b f s o c0 c1 c2 c3 c4 n hC
  · by_cases hn : codeOk n
    · obtain ⟨n1, n8, n7⟩ := id hn
      have n7' : (n == 7) = false := by simpa using n7
      by_cases hn3 : n = 3
      · subst hn3
        refine (Abort_cap1 w b f s o c0 c1 c2 c3 c4 p1 q1 hC).mono fun e w' h => ?_
        obtain ⟨rfl, h2, h3⟩ := h
        exact ⟨rfl, h2, h3⟩
      · have h3' : (n == 3) = false := by simpa using hn3
        by_cases he : c1 + 1 = f
        · refine (Abort_eq1 w b f s o c0 c1 c2 c3 c4 n h3' n1 n8 n7' he p1 q1 hC).mono fun e w' h => ?_
          obtain ⟨rfl, h2, h3⟩ := h
          have e1 : LC.abort ⟨f, s, o, 1, c0, c1, c2, c3, c4⟩ n = LC.to ⟨f, s, o, 1, c0, c1 + 1, c2, c3, c4⟩ (LC.next ⟨f, s, o, 1, c0, c1 + 1, c2, c3, c4⟩ 1) := by
            simp [LC.abort, LC.within, hn, hn3, LC.inc, LC.cnt, LC.have, he, LC.to, LC.next]
          refine ⟨ret_int2 ?_ ?_, by rw [e1]; exact h2, h3⟩
          · simp [abortLane, LC.within, hn, e1, LC.to]
          · simp [abortErr, LC.within, hn]
        · refine (Abort_no1 w b f s o c0 c1 c2 c3 c4 n h3' n1 n8 n7' he p1 q1 hC).mono fun e w' h => ?_
          obtain ⟨rfl, h2, h3⟩ := h
          have e1 : LC.abort ⟨f, s, o, 1, c0, c1, c2, c3, c4⟩ n = ⟨f, s, o, 1, c0, c1 + 1, c2, c3, c4⟩ := by
            simp [LC.abort, LC.within, hn, hn3, LC.inc, LC.cnt, LC.have, he]
          refine ⟨ret_int2 ?_ ?_, by rw [e1]; exact h2, h3⟩
          · simp [abortLane, LC.within, hn, e1]
          · simp [abortErr, LC.within, hn]
    · have : n < 1 ∨ 8 < n ∨ n = 7 := by unfold codeOk at hn; omega
      rcases this with h | h | h
      · exact Abort_bad0_1 w b f s o c0 c1 c2 c3 c4 n h hC
      · exact Abort_bad1_1 w b f s o c0 c1 c2 c3 c4 n h hC
      · exact Abort_bad2_1 w b f s o c0 c1 c2 c3 c4 n h hC
  · by_cases hn : codeOk n
    · obtain ⟨n1, n8, n7⟩ := id hn
      have n7' : (n == 7) = false := by simpa using n7
      by_cases hn3 : n = 3
      · subst hn3
        refine (Abort_cap2 w b f s o c0 c1 c2 c3 c4 p2 q2 hC).mono fun e w' h => ?_
        obtain ⟨rfl, h2, h3⟩ := h
        exact ⟨rfl, h2, h3⟩
      · have h3' : (n == 3) = false := by simpa using hn3
        by_cases he : c2 + 1 = s
        · refine (Abort_eq2 w b f s o c0 c1 c2 c3 c4 n h3' n1 n8 n7' he p2 q2 hC).mono fun e w' h => ?_
          obtain ⟨rfl, h2, h3⟩ := h
          have e1 : LC.abort ⟨f, s, o, 2, c0, c1, c2, c3, c4⟩ n = LC.to ⟨f, s, o, 2, c0, c1, c2 + 1, c3, c4⟩ (LC.next ⟨f, s, o, 2, c0, c1, c2 + 1, c3, c4⟩ 2) := by
            simp [LC.abort, LC.within, hn, hn3, LC.inc, LC.cnt, LC.have, he, LC.to, LC.next]
          refine ⟨ret_int2 ?_ ?_, by rw [e1]; exact h2, h3⟩
          · simp [abortLane, LC.within, hn, e1, LC.to]
          · simp [abortErr, LC.within, hn]
        · refine (Abort_no2 w b f s o c0 c1 c2 c3 c4 n h3' n1 n8 n7' he p2 q2 hC).mono fun e w' h => ?_
          obtain ⟨rfl, h2, h3⟩ := h
          have e1 : LC.abort ⟨f, s, o, 2, c0, c1, c2, c3, c4⟩ n = ⟨f, s, o, 2, c0, c1, c2 + 1, c3, c4⟩ := by
            simp [LC.abort, LC.within, hn, hn3, LC.inc, LC.cnt, LC.have, he]
          refine ⟨ret_int2 ?_ ?_, by rw [e1]; exact h2, h3⟩
          · simp [abortLane, LC.within, hn, e1]
          · simp [abortErr, LC.within, hn]
    · have : n < 1 ∨ 8 < n ∨ n = 7 := by unfold codeOk at hn; omega
      rcases this with h | h | h
      · exact Abort_bad0_2 w b f s o c0 c1 c2 c3 c4 n h hC
      · exact Abort_bad1_2 w b f s o c0 c1 c2 c3 c4 n h hC
      · exact Abort_bad2_2 w b f s o c0 c1 c2 c3 c4 n h hC
  · by_cases hn : codeOk n
    · obtain ⟨n1, n8, n7⟩ := id hn
      have n7' : (n == 7) = false := by simpa using n7
      by_cases he : c3 + 1 = o
      · refine (Abort_eq3 w b f s o c0 c1 c2 c3 c4 n n1 n8 n7' he p3 q3 hC).mono fun e w' h => ?_
        obtain ⟨rfl, h2, h3⟩ := h
        have e1 : LC.abort ⟨f, s, o, 3, c0, c1, c2, c3, c4⟩ n = LC.to ⟨f, s, o, 3, c0, c1, c2, c3 + 1, c4⟩ (LC.next ⟨f, s, o, 3, c0, c1, c2, c3 + 1, c4⟩ 3) := by
          simp [LC.abort, LC.within, hn, LC.inc, LC.cnt, LC.have, he, LC.to, LC.next]
        refine ⟨ret_int2 ?_ ?_, by rw [e1]; exact h2, h3⟩
        · simp [abortLane, LC.within, hn, e1, LC.to]
        · simp [abortErr, LC.within, hn]
      · refine (Abort_no3 w b f s o c0 c1 c2 c3 c4 n n1 n8 n7' he p3 q3 hC).mono fun e w' h => ?_
        obtain ⟨rfl, h2, h3⟩ := h
        have e1 : LC.abort ⟨f, s, o, 3, c0, c1, c2, c3, c4⟩ n = ⟨f, s, o, 3, c0, c1, c2, c3 + 1, c4⟩ := by
          simp [LC.abort, LC.within, hn, LC.inc, LC.cnt, LC.have, he]
        refine ⟨ret_int2 ?_ ?_, by rw [e1]; exact h2, h3⟩
        · simp [abortLane, LC.within, hn, e1]
        · simp [abortErr, LC.within, hn]
    · have : n < 1 ∨ 8 < n ∨ n = 7 := by unfold codeOk at hn; omega
      rcases this with h | h | h
      · exact Abort_bad0_3 w b f s o c0 c1 c2 c3 c4 n h hC
      · exact Abort_bad1_3 w b f s o c0 c1 c2 c3 c4 n h hC
      · exact Abort_bad2_3 w b f s o c0 c1 c2 c3 c4 n h hC
  · exact Abort_out4 w b f s o c0 c1 c2 c3 c4 n hC

/-- A control above what was there. -/
structure OwnAt (w wr : World) (b : Nat) (C : LC) : Prop where
  c : CtlAt wr b C
  la : w.heap.size ≤ b
  bel : Below w.heap.size w wr
  ok : C.Ok
theorem OwnAt.did {w wr w' : World} {b : Nat} {C G : LC} (h : OwnAt w wr b C) (h1 : CtlAt w' b G) (hG : G.Ok) (h3 : Chg [b] wr w') : OwnAt w w' b G :=
  ⟨h1, h.la, below_chg h.bel h3 (by intro x hx; have := h.la; simp at hx; omega) (Nat.le_refl _), hG⟩
theorem OwnAt.look {w wr w' : World} {b : Nat} {C : LC} (h : OwnAt w wr b C) (h3 : Chg [] wr w') : OwnAt w w' b C :=
  ⟨h3.blk h.c (by simp), h.la, below_chg h.bel h3 (by simp) (Nat.le_refl _), h.ok⟩
theorem OwnAt.alloc {w wr : World} {b : Nat} {C : LC} (h : OwnAt w wr b C) (o : Obj) : OwnAt w (wr.alloc o) b C := h.look ((Chg.refl _ _).alloc o)

def SamePost (w : World) (e : Ending) (w' : World) : Prop := e = .returned (.bool true) ∧ Chg [] w w'

set_option maxRecDepth 100000 in
set_option maxHeartbeats 1000000 in
theorem alive_any (w : World) : Calls Try.prog 9 #[] w (SamePost w) := by
  go_enter Try.func9, Try.ntmps9
  go_wp2_with fail
  refine (New_ok w 2 0 1 (by decide)).mono ?_
  rintro e w1 ⟨b, rfl, hb, hC, hCh⟩
  have hO : OwnAt w w1 b (LC.new 2 0 1) := ⟨hC, hb, hCh.nil_below, LC.Ok.new (by decide)⟩
  clear hC hb
  go_wp2_with fail
  refine (Enter_any _ b _ hO.c).mono ?_
  rintro e w2 ⟨rfl, hC2, hCh2⟩
  replace hO : OwnAt w w2 b ⟨2, 0, 1, 1, 0, 0, 0, 0, 0⟩ := hO.did hC2 (LC.Ok.first hO.ok) hCh2
  have m1 : enterLane (LC.new 2 0 1) = 1 := rfl
  have m2 : enterErr (LC.new 2 0 1) = 0 := rfl
  rw [m1, m2]
  go_wp2_with fail
  refine (Abort_any _ b _ 1 hO.ok hO.c).mono ?_
  rintro e w3 ⟨rfl, hC3, hCh3⟩
  replace hO : OwnAt w w3 b ⟨2, 0, 1, 1, 0, 1, 0, 0, 0⟩ := hO.did hC3 (hO.ok.abort 1) hCh3
  have m3 : abortLane ⟨2, 0, 1, 1, 0, 0, 0, 0, 0⟩ 1 = 1 := rfl
  have m4 : abortErr ⟨2, 0, 1, 1, 0, 0, 0, 0, 0⟩ 1 = 0 := rfl
  rw [m3, m4]
  go_wp2_with fail
  refine (Abort_any _ b _ 5 hO.ok hO.c).mono ?_
  rintro e w4 ⟨rfl, hC4, hCh4⟩
  replace hO : OwnAt w w4 b ⟨2, 0, 1, 3, 0, 2, 0, 0, 0⟩ := hO.did hC4 (hO.ok.abort 5) hCh4
  have m5 : abortLane ⟨2, 0, 1, 1, 0, 1, 0, 0, 0⟩ 5 = 3 := rfl
  have m6 : abortErr ⟨2, 0, 1, 1, 0, 1, 0, 0, 0⟩ 5 = 0 := rfl
  rw [m5, m6]
  go_wp2_with fail
  refine (Lane_any _ b _ hO.c).mono ?_
  rintro e w5 ⟨rfl, rfl⟩
  go_wp2_with fail
  refine (Try_any _ b _ hO.ok.small hO.c).mono ?_
  rintro e w5 ⟨rfl, hCh5⟩
  have m7 : LC.tries ⟨2, 0, 1, 3, 0, 2, 0, 0, 0⟩ = 2 := rfl
  rw [m7]
  go_wp2_with fail
  go_ret
  have hx := (hO.look hCh5).bel
  exact ⟨rfl, Chg.of_below hx _⟩

theorem budget_any (w : World) (f s o k : Int) (hk : k = 0 ∨ k = 1 ∨ k = 2 ∨ k = 3 ∨ k = 4) :
    Calls Try.prog 19 #[.agg #[.int .i64 f, .int .i64 s, .int .i64 o], .int .i64 k] w fun e w' => e = .returned (.int .i64 (if k = 1 then f else if k = 2 then s else if k = 3 then o else 0)) ∧ Chg [] w w' := by
  rcases hk with rfl | rfl | rfl | rfl | rfl
  all_goals
    go_enter Try.func19, Try.ntmps19
    go_wp2_with fail
    go_ret
    exact ⟨rfl, (Chg.refl _ _).alloc _⟩

theorem and_le (x : Int) (m : Nat) (hm : m ≤ 1000) : 0 ≤ bits BinOp.and IntKind.i64 x m ∧ bits BinOp.and IntKind.i64 x m ≤ m := by
  have h : ∀ a : Nat, ((a &&& m : Nat) : Int) ≤ m := fun a => by exact_mod_cast Nat.and_le_right
  have e : (BitVec.ofInt IntKind.i64.bits (m : Int)).toNat = m := by
    rw [BitVec.ofInt_natCast, BitVec.toNat_ofNat]
    exact Nat.mod_eq_of_lt (Nat.lt_of_le_of_lt hm (by decide))
  have hb : bits BinOp.and IntKind.i64 x m = (((BitVec.ofInt IntKind.i64.bits x).toNat &&& m : Nat) : Int) := by
    simp only [bits, BitVec.toNat_and, e]
    have := h (BitVec.ofInt IntKind.i64.bits x).toNat
    exact IntWalk.i64_in _ (by omega)
  rw [hb]
  exact ⟨Int.natCast_nonneg _, h _⟩

theorem may_and (f s o : Int) : may (bits BinOp.and IntKind.i64 f 15) (bits BinOp.and IntKind.i64 s 15) (bits BinOp.and IntKind.i64 o 15) := by
  have h1 : 0 ≤ bits BinOp.and IntKind.i64 f 15 ∧ bits BinOp.and IntKind.i64 f 15 ≤ 15 := and_le f 15 (by decide)
  have h2 : 0 ≤ bits BinOp.and IntKind.i64 s 15 ∧ bits BinOp.and IntKind.i64 s 15 ≤ 15 := and_le s 15 (by decide)
  have h3 : 0 ≤ bits BinOp.and IntKind.i64 o 15 ∧ bits BinOp.and IntKind.i64 o 15 ≤ 15 := and_le o 15 (by decide)
  exact ⟨⟨h1.1, by omega⟩, ⟨h2.1, by omega⟩, ⟨h3.1, by omega⟩⟩

def SmallPost (w : World) (e : Ending) (w' : World) : Prop := ∃ f s o, may f s o ∧ e = .returned (.agg #[.int .i64 f, .int .i64 s, .int .i64 o]) ∧ Chg [] w w'

set_option maxHeartbeats 1000000 in
theorem small_any (w : World) (f s o : Int) :
    Calls Try.prog 10 #[.agg #[.int .i64 f, .int .i64 s, .int .i64 o]] w (SmallPost w) := by
  go_enter Try.func10, Try.ntmps10
  go_wp2_with fail
  refine bodyPost_ret (v := .agg #[.int .i64 (bits BinOp.and IntKind.i64 f 15), .int .i64 (bits BinOp.and IntKind.i64 s 15), .int .i64 (bits BinOp.and IntKind.i64 o 15)]) ?_ rfl ⟨_, _, _, may_and f s o, rfl, ((Chg.refl _ _).alloc _).alloc _⟩
  simp [results, Try.results10, go_sem]

def CodePost (w : World) (e : Ending) (w' : World) : Prop := ∃ n, codeOk n ∧ e = .returned (.int .i64 n) ∧ Chg [] w w'

set_option maxHeartbeats 2000000 in
theorem code_any (w : World) (n : Int) :
    Calls Try.prog 14 #[.int .i64 n] w (CodePost w) := by
  have h := and_le n 7 (by decide)
  have h0 : 0 ≤ bits BinOp.and IntKind.i64 n 7 := h.1
  have h1 : bits BinOp.and IntKind.i64 n 7 ≤ 7 := h.2
  clear h
  generalize hm : bits BinOp.and IntKind.i64 n 7 = m at *
  rcases (by omega : m = 0 ∨ m = 1 ∨ m = 2 ∨ m = 3 ∨ m = 4 ∨ m = 5 ∨ m = 6 ∨ m = 7) with rfl | rfl | rfl | rfl | rfl | rfl | rfl | rfl
  all_goals
    clear h0 h1
    go_enter Try.func14, Try.ntmps14
    go_wp2_with fail
    go_ret
    exact ⟨_, by decide, rfl, (Chg.refl _ _).alloc _⟩

end Go.Proofs.Ytdaehfilmhagiaa
