/- LogFirst. -/
import Derived.Test.YtobpknbnfkjnhaaLog7
namespace Go.Proofs.Ytobpknbnfkjnhaa
open Go.RowKit

theorem Rd.mono {α : Type} {w : World} {B B' : Nat} {A : Option Addr} {size : Nat} {enc : α → List Value} {xs : List α} (h : Rd w B A size enc xs) (hB : B ≤ B') : Rd w B' A size enc xs := fun hn => by
  obtain ⟨b, off, e, hb, hc⟩ := h hn
  exact ⟨b, off, e, Nat.lt_of_lt_of_le hb hB, hc⟩

theorem OwnLog.blk {B : Nat} {w wr : World} {g : Nat} {F : List Nat} {s : RW} (h : OwnLog B w wr g F s) {b : Nat} {l : List Value} {t : TypeId} (hb : Blk w b l t) (hlt : b < B) : Blk wr b l t := (h.bel.block b hlt).trans hb

/-- Addresses are not below 0. -/
def NN (l : PL) : Prop := ∀ p ∈ l, 0 ≤ p.1
theorem NN.rd {l : PL} (h : NN l) (a v : Int) : NN (rdL l a v) := by
  unfold rdL putL
  split
  · exact h
  · split
    · exact h
    · split
      · exact h
      · intro p hp
        rcases List.mem_append.1 hp with hp | hp
        · exact h p hp
        · simp at hp; subst hp; dsimp only; omega
theorem NN.wr {l : PL} (h : NN l) (a v : Int) : NN (wrL l a v) := by
  unfold wrL
  split
  · exact h
  · cases hp : place l a with
    | some i =>
      intro p hp
      rcases List.mem_or_eq_of_mem_set hp with e | e
      · exact h p e
      · subst e; dsimp only; omega
    | none =>
      unfold putL
      dsimp only
      split
      · exact h
      · intro p hp
        rcases List.mem_append.1 hp with hp | hp
        · exact h p hp
        · simp at hp; subst hp; dsimp only; omega
theorem NN.step {s : RW} (h : NN s.1 ∧ NN s.2) (o : OpV) : NN (opStep s o).1 ∧ NN (opStep s o).2 := by
  unfold opStep
  split
  · exact ⟨h.1.rd _ _, h.2⟩
  · split
    · exact ⟨h.1, h.2.wr _ _⟩
    · split
      · exact ⟨by simp [NN], by simp [NN]⟩
      · exact h
theorem NN.play (xs : List OpV) : NN (opPlay ([], []) xs).1 ∧ NN (opPlay ([], []) xs).2 := by
  have : ∀ (xs : List OpV) (s : RW), NN s.1 ∧ NN s.2 → NN (opPlay s xs).1 ∧ NN (opPlay s xs).2 := by
    intro xs
    induction xs with
    | nil => intro s h; exact h
    | cons o xs ih => intro s h; exact ih _ (NN.step h o)
  exact this xs _ ⟨by simp [NN], by simp [NN]⟩
theorem NN.not {l : PL} (h : NN l) {a : Int} (ha : a < 0) : place l a = none := place_none.2 (fun p hp e => by have := h p hp; omega)

/-- The state behind the prelude of a law of logs: the world, the log, what was boxed. -/
structure FirstAt (w w1 wr : World) (g : Nat) (F : List Nat) (s : RW) (bx : Nat) (x : OpV) : Prop where
  o : OwnLog w1.heap.size w1 wr g F s
  b : Blk w1 bx (encOpV x) 26
  bel : Below w.heap.size w w1
theorem FirstAt.look {w w1 wr w' : World} {g : Nat} {F : List Nat} {s : RW} {bx : Nat} {x : OpV} (h : FirstAt w w1 wr g F s bx x) (k : Below wr.heap.size wr w') : FirstAt w w1 w' g F s bx x := ⟨h.o.look k, h.b, h.bel⟩
theorem FirstAt.did {w w1 wr w' : World} {g : Nat} {F F' : List Nat} {s t : RW} {bx : Nat} {x : OpV} (h : FirstAt w w1 wr g F s bx x) (h1 : LogAt w' g F' t.1 t.2) (m : Mv F F' wr w') : FirstAt w w1 w' g F' t bx x := ⟨h.o.did h1 m, h.b, h.bel⟩
theorem FirstAt.cell {w w1 wr : World} {g : Nat} {F : List Nat} {s : RW} {bx : Nat} {x : OpV} (h : FirstAt w w1 wr g F s bx x) : wr.cell? ⟨bx, 0, none⟩ = some (.int .i64 x.k) ∧ wr.cell? ⟨bx, 1, none⟩ = some (.int .i64 x.a) ∧ wr.cell? ⟨bx, 2, none⟩ = some (.int .u64 x.v) := by
  have hb := h.o.blk h.b h.b.lt
  exact ⟨hb.cell 0, hb.cell 1, hb.cell 2⟩
theorem FirstAt.stay {w w1 wr : World} {g : Nat} {F : List Nat} {s : RW} {bx : Nat} {x : OpV} (h : FirstAt w w1 wr g F s bx x) : Below w.heap.size w wr := h.bel.trans (h.o.bel.mono h.bel.size)
theorem told_len {w : World} {base n : Nat} {v : Value} {xs : List Value} (h : w.ownsRow base 39 2 v n xs) : ∃ A cap, v = .slice A n cap := by
  obtain ⟨A, cap, rfl, _⟩ := ownsRow_cell h
  exact ⟨A, cap, rfl⟩

set_option maxRecDepth 100000 in
set_option maxHeartbeats 4000000 in
theorem first_r1 (w : World) (A : Option Addr) (cap : Nat) (xs : List OpV) (x : OpV) (again : Int) (R W : PL) (hR : Rd w w.heap.size A 4 encOpV xs) (hl : xs.length ≤ 1000) (hok : ∀ o ∈ xs, (Lit.int .i64 o.a).wf = true ∧ (Lit.int .u64 o.v).wf = true) (wa : (Lit.int .i64 x.a).wf = true) (wv : (Lit.int .u64 x.v).wf = true) (wg : (Lit.int .u64 again).wf = true) (hS : opPlay ([], []) xs = (R, W)) (hk : x.k = 0) (hneg : x.a < 0) (hp : place R x.a = none) :
    Calls Try.prog 3 #[.slice A xs.length cap, .agg #[.int .i64 x.k, .int .i64 x.a, .int .u64 x.v, .slice x.nA x.now.length x.ncap], .int .u64 again] w (StaysPost w) := by
  have hl' : (xs.length : Int) ≤ 1000 := by omega
  have HS := Lib.hid hS
  have HR := Lib.hid hR
  have HOK := Lib.hid hok
  have WA := Lib.hid wa
  have WV := Lib.hid wv
  have WG := Lib.hid wg
  clear hS hR hok wa wv wg
  obtain ⟨xk, xa, xv, xnA, xnc, xnow⟩ := x
  dsimp only at *
  subst hk
  have EV1 := Lib.hid (show valOf R xa = 0 from by simp [valOf, hp])
  have EI1 := Lib.hid (show isIn R xa = false from by simp [isIn, hp])
  have EE1 := Lib.hid (show rdErr R xa = 2 from by simp [rdErr, hneg])
  have ER1 := Lib.hid (show rdL R xa xv = R from by simp [rdL, hneg])
  have EE2 := Lib.hid (show rdErr R xa = 2 from by simp [rdErr, hneg])
  have ER2 := Lib.hid (show rdL R xa again = R from by simp [rdL, hneg])
  have EV2 := Lib.hid (show valOf R xa = 0 from by simp [valOf, hp])
  have EI2 := Lib.hid (show isIn R xa = false from by simp [isIn, hp])
  clear hp
  go_enter Try.func3, Try.ntmps3
  go_wp2_with fail
  have kb := Blk.new w (encOpV ⟨0, xa, xv, xnA, xnc, xnow⟩) 26
  have hb0 : Below w.heap.size w (w.alloc (.cells #[.int .i64 0, .int .i64 xa, .int .u64 xv, .slice xnA xnow.length xnc] 26)) := (Below.refl _ w).alloc (Nat.le_refl _) _
  have kb' : Blk (w.alloc (.cells #[.int .i64 0, .int .i64 xa, .int .u64 xv, .slice xnA xnow.length xnc] 26)) w.heap.size (encOpV ⟨0, xa, xv, xnA, xnc, xnow⟩) 26 := kb
  clear kb
  generalize w.alloc (.cells #[.int .i64 0, .int .i64 xa, .int .u64 xv, .slice xnA xnow.length xnc] 26) = w0 at *
  refine (alive_any _).mono ?_
  rintro e w1 ⟨rfl, h1⟩
  have hb1 := hb0.trans (h1.mono hb0.size)
  have kb1 : Blk w1 w.heap.size (encOpV ⟨0, xa, xv, xnA, xnc, xnow⟩) 26 := (h1.block _ kb'.lt).trans kb'
  obtain ⟨bx, hbx⟩ : ∃ bx, bx = w.heap.size := ⟨_, rfl⟩
  rw [← hbx] at kb1 ⊢
  have KB := Lib.hid kb1
  have HB := Lib.hid hb1
  clear kb' hb0 h1 kb1 hb1 hbx
  go_wp2_with fail
  refine (New_any _).mono ?_
  rintro e w2 ⟨g, F2, rfl, h1, h2⟩
  have H2 : Hid (FirstAt w w1 w2 g F2 ([], []) bx ⟨0, xa, xv, xnA, xnc, xnow⟩) := Lib.hid ⟨h1.own h2, KB.out, HB.out⟩
  clear h1 h2
  go_wp2_with fail
  refine (play_any w1.heap.size w1 _ g F2 ([], []) A cap xs ((HR.out.below H2.out.stay).mono H2.out.bel.size) hl HOK.out H2.out.o).mono ?_
  rintro e w3 ⟨rfl, F3, h1, h2⟩
  rw [HS.out] at h1
  have H3 : Hid (FirstAt w w1 w3 g F3 (R, W) bx ⟨0, xa, xv, xnA, xnc, xnow⟩) := Lib.hid ⟨h1, KB.out, HB.out⟩
  clear h1 h2
  obtain ⟨x0, x1, x2⟩ := H3.out.cell
  dsimp only at x0 x1 x2
  have mR : R.length ≤ 128 := by
    obtain ⟨b, c, v, m, u, n, _, h2, _⟩ := H3.out.o.l.parts
    exact h2.most
  have mW : W.length ≤ 128 := by
    obtain ⟨b, c, v, m, u, n, _, _, h3, _⟩ := H3.out.o.l.parts
    exact h3.most
  go_wp2_with fail
  refine (Was_any _ g F3 (R) (W) xa WA.out H3.out.o.l).mono ?_
  rintro e w' ⟨rfl, rfl⟩
  rw [EV1.out, EI1.out]
  go_wp2_with fail
  refine (Look_any _ g F3 (R) (W) xa WA.out H3.out.o.l).mono ?_
  rintro e w' ⟨rfl, rfl⟩
  have hlv : valOf W xa = valOf W xa := rfl
  clear hlv
  go_wp2_with fail
  refine (Reads_any _ g F3 (R) (W) H3.out.o.l).mono ?_
  rintro e w4 ⟨v4, rfl, h1, h2⟩
  obtain ⟨A4, cap4, rfl⟩ := told_len h1
  have H4 := Lib.hid (H3.out.look h2)
  obtain ⟨x0, x1, x2⟩ := H4.out.cell
  dsimp only at x0 x1 x2
  clear h1 h2
  go_wp2_with fail
  refine (Writes_any _ g F3 (R) (W) H4.out.o.l).mono ?_
  rintro e w5 ⟨v5, rfl, h1, h2⟩
  obtain ⟨A5, cap5, rfl⟩ := told_len h1
  have H5 := Lib.hid (H4.out.look h2)
  obtain ⟨x0, x1, x2⟩ := H5.out.cell
  dsimp only at x0 x1 x2
  clear h1 h2
  go_wp2_with fail
  refine (Read_any _ g F3 (R) (W) xa xv WA.out WV.out H5.out.o.l).mono ?_
  rintro e w6 ⟨rfl, F6, h1, h2⟩
  rw [EE1.out]
  rw [ER1.out] at h1
  have H6 := Lib.hid (H5.out.did (t := (R, W)) h1 h2)
  obtain ⟨x0, x1, x2⟩ := H6.out.cell
  dsimp only at x0 x1 x2
  clear h1 h2
  go_wp2_with fail
  refine (Read_any _ g F6 (R) (W) xa again WA.out WG.out H6.out.o.l).mono ?_
  rintro e w7 ⟨rfl, F7, h1, h2⟩
  rw [EE2.out]
  rw [ER2.out] at h1
  have H7 := Lib.hid (H6.out.did (t := (R, W)) h1 h2)
  obtain ⟨x0, x1, x2⟩ := H7.out.cell
  dsimp only at x0 x1 x2
  clear h1 h2
  go_wp2_with fail
  refine (Was_any _ g F7 (R) (W) xa WA.out H7.out.o.l).mono ?_
  rintro e w' ⟨rfl, rfl⟩
  rw [EV2.out, EI2.out]
  go_wp2_with fail
  refine (Look_any _ g F7 (R) (W) xa WA.out H7.out.o.l).mono ?_
  rintro e w' ⟨rfl, rfl⟩
  go_wp2_with fail
  refine (Writes_any _ g F7 (R) (W) H7.out.o.l).mono ?_
  rintro e w8 ⟨v8, rfl, h1, h2⟩
  obtain ⟨A8, cap8, rfl⟩ := told_len h1
  have H8 := Lib.hid (H7.out.look h2)
  obtain ⟨x0, x1, x2⟩ := H8.out.cell
  dsimp only at x0 x1 x2
  clear h1 h2
  go_wp2_with fail
  refine (Reads_any _ g F7 (R) (W) H8.out.o.l).mono ?_
  rintro e w9 ⟨v9, rfl, h1, h2⟩
  obtain ⟨A9, cap9, rfl⟩ := told_len h1
  have H9 := Lib.hid (H8.out.look h2)
  obtain ⟨x0, x1, x2⟩ := H9.out.cell
  dsimp only at x0 x1 x2
  clear h1 h2
  go_wp2_with fail
  go_ret
  exact ⟨rfl, H9.out.stay⟩


set_option maxRecDepth 100000 in
set_option maxHeartbeats 4000000 in
theorem first_r2 (w : World) (A : Option Addr) (cap : Nat) (xs : List OpV) (x : OpV) (again : Int) (R W : PL) (hR : Rd w w.heap.size A 4 encOpV xs) (hl : xs.length ≤ 1000) (hok : ∀ o ∈ xs, (Lit.int .i64 o.a).wf = true ∧ (Lit.int .u64 o.v).wf = true) (wa : (Lit.int .i64 x.a).wf = true) (wv : (Lit.int .u64 x.v).wf = true) (wg : (Lit.int .u64 again).wf = true) (hS : opPlay ([], []) xs = (R, W)) (hk : x.k = 0) (hneg : 0 ≤ x.a) (i : Nat) (hp : place R x.a = some i) :
    Calls Try.prog 3 #[.slice A xs.length cap, .agg #[.int .i64 x.k, .int .i64 x.a, .int .u64 x.v, .slice x.nA x.now.length x.ncap], .int .u64 again] w (StaysPost w) := by
  have hl' : (xs.length : Int) ≤ 1000 := by omega
  have HS := Lib.hid hS
  have HR := Lib.hid hR
  have HOK := Lib.hid hok
  have WA := Lib.hid wa
  have WV := Lib.hid wv
  have WG := Lib.hid wg
  clear hS hR hok wa wv wg
  obtain ⟨xk, xa, xv, xnA, xnc, xnow⟩ := x
  dsimp only at *
  subst hk
  have hn : ¬ xa < 0 := by omega
  have EV1 := Lib.hid (show valOf R xa = valOf R xa from rfl)
  have EI1 := Lib.hid (show isIn R xa = true from by simp [isIn, hp])
  have EE1 := Lib.hid (show rdErr R xa = 0 from by simp [rdErr, hn, hp])
  have ER1 := Lib.hid (show rdL R xa xv = R from by simp [rdL, hn, hp])
  have EE2 := Lib.hid (show rdErr R xa = 0 from by simp [rdErr, hn, hp])
  have ER2 := Lib.hid (show rdL R xa again = R from by simp [rdL, hn, hp])
  have EV2 := Lib.hid (show valOf R xa = valOf R xa from rfl)
  have EI2 := Lib.hid (show isIn R xa = true from by simp [isIn, hp])
  clear hp hn
  go_enter Try.func3, Try.ntmps3
  go_wp2_with fail
  have kb := Blk.new w (encOpV ⟨0, xa, xv, xnA, xnc, xnow⟩) 26
  have hb0 : Below w.heap.size w (w.alloc (.cells #[.int .i64 0, .int .i64 xa, .int .u64 xv, .slice xnA xnow.length xnc] 26)) := (Below.refl _ w).alloc (Nat.le_refl _) _
  have kb' : Blk (w.alloc (.cells #[.int .i64 0, .int .i64 xa, .int .u64 xv, .slice xnA xnow.length xnc] 26)) w.heap.size (encOpV ⟨0, xa, xv, xnA, xnc, xnow⟩) 26 := kb
  clear kb
  generalize w.alloc (.cells #[.int .i64 0, .int .i64 xa, .int .u64 xv, .slice xnA xnow.length xnc] 26) = w0 at *
  refine (alive_any _).mono ?_
  rintro e w1 ⟨rfl, h1⟩
  have hb1 := hb0.trans (h1.mono hb0.size)
  have kb1 : Blk w1 w.heap.size (encOpV ⟨0, xa, xv, xnA, xnc, xnow⟩) 26 := (h1.block _ kb'.lt).trans kb'
  obtain ⟨bx, hbx⟩ : ∃ bx, bx = w.heap.size := ⟨_, rfl⟩
  rw [← hbx] at kb1 ⊢
  have KB := Lib.hid kb1
  have HB := Lib.hid hb1
  clear kb' hb0 h1 kb1 hb1 hbx
  go_wp2_with fail
  refine (New_any _).mono ?_
  rintro e w2 ⟨g, F2, rfl, h1, h2⟩
  have H2 : Hid (FirstAt w w1 w2 g F2 ([], []) bx ⟨0, xa, xv, xnA, xnc, xnow⟩) := Lib.hid ⟨h1.own h2, KB.out, HB.out⟩
  clear h1 h2
  go_wp2_with fail
  refine (play_any w1.heap.size w1 _ g F2 ([], []) A cap xs ((HR.out.below H2.out.stay).mono H2.out.bel.size) hl HOK.out H2.out.o).mono ?_
  rintro e w3 ⟨rfl, F3, h1, h2⟩
  rw [HS.out] at h1
  have H3 : Hid (FirstAt w w1 w3 g F3 (R, W) bx ⟨0, xa, xv, xnA, xnc, xnow⟩) := Lib.hid ⟨h1, KB.out, HB.out⟩
  clear h1 h2
  obtain ⟨x0, x1, x2⟩ := H3.out.cell
  dsimp only at x0 x1 x2
  have mR : R.length ≤ 128 := by
    obtain ⟨b, c, v, m, u, n, _, h2, _⟩ := H3.out.o.l.parts
    exact h2.most
  have mW : W.length ≤ 128 := by
    obtain ⟨b, c, v, m, u, n, _, _, h3, _⟩ := H3.out.o.l.parts
    exact h3.most
  go_wp2_with fail
  refine (Was_any _ g F3 (R) (W) xa WA.out H3.out.o.l).mono ?_
  rintro e w' ⟨rfl, rfl⟩
  rw [EI1.out]
  go_wp2_with fail
  refine (Look_any _ g F3 (R) (W) xa WA.out H3.out.o.l).mono ?_
  rintro e w' ⟨rfl, rfl⟩
  have hlv : valOf W xa = valOf W xa := rfl
  clear hlv
  go_wp2_with fail
  refine (Reads_any _ g F3 (R) (W) H3.out.o.l).mono ?_
  rintro e w4 ⟨v4, rfl, h1, h2⟩
  obtain ⟨A4, cap4, rfl⟩ := told_len h1
  have H4 := Lib.hid (H3.out.look h2)
  obtain ⟨x0, x1, x2⟩ := H4.out.cell
  dsimp only at x0 x1 x2
  clear h1 h2
  go_wp2_with fail
  refine (Writes_any _ g F3 (R) (W) H4.out.o.l).mono ?_
  rintro e w5 ⟨v5, rfl, h1, h2⟩
  obtain ⟨A5, cap5, rfl⟩ := told_len h1
  have H5 := Lib.hid (H4.out.look h2)
  obtain ⟨x0, x1, x2⟩ := H5.out.cell
  dsimp only at x0 x1 x2
  clear h1 h2
  go_wp2_with fail
  refine (Read_any _ g F3 (R) (W) xa xv WA.out WV.out H5.out.o.l).mono ?_
  rintro e w6 ⟨rfl, F6, h1, h2⟩
  rw [EE1.out]
  rw [ER1.out] at h1
  have H6 := Lib.hid (H5.out.did (t := (R, W)) h1 h2)
  obtain ⟨x0, x1, x2⟩ := H6.out.cell
  dsimp only at x0 x1 x2
  clear h1 h2
  go_wp2_with fail
  refine (Read_any _ g F6 (R) (W) xa again WA.out WG.out H6.out.o.l).mono ?_
  rintro e w7 ⟨rfl, F7, h1, h2⟩
  rw [EE2.out]
  rw [ER2.out] at h1
  have H7 := Lib.hid (H6.out.did (t := (R, W)) h1 h2)
  obtain ⟨x0, x1, x2⟩ := H7.out.cell
  dsimp only at x0 x1 x2
  clear h1 h2
  go_wp2_with fail
  refine (Was_any _ g F7 (R) (W) xa WA.out H7.out.o.l).mono ?_
  rintro e w' ⟨rfl, rfl⟩
  rw [EI2.out]
  go_wp2_with fail
  refine (Look_any _ g F7 (R) (W) xa WA.out H7.out.o.l).mono ?_
  rintro e w' ⟨rfl, rfl⟩
  go_wp2_with fail
  refine (Writes_any _ g F7 (R) (W) H7.out.o.l).mono ?_
  rintro e w8 ⟨v8, rfl, h1, h2⟩
  obtain ⟨A8, cap8, rfl⟩ := told_len h1
  have H8 := Lib.hid (H7.out.look h2)
  obtain ⟨x0, x1, x2⟩ := H8.out.cell
  dsimp only at x0 x1 x2
  clear h1 h2
  go_wp2_with fail
  refine (Reads_any _ g F7 (R) (W) H8.out.o.l).mono ?_
  rintro e w9 ⟨v9, rfl, h1, h2⟩
  obtain ⟨A9, cap9, rfl⟩ := told_len h1
  have H9 := Lib.hid (H8.out.look h2)
  obtain ⟨x0, x1, x2⟩ := H9.out.cell
  dsimp only at x0 x1 x2
  clear h1 h2
  go_wp2_with fail
  go_ret
  exact ⟨rfl, H9.out.stay⟩


set_option maxRecDepth 100000 in
set_option maxHeartbeats 4000000 in
theorem first_r3 (w : World) (A : Option Addr) (cap : Nat) (xs : List OpV) (x : OpV) (again : Int) (R W : PL) (hR : Rd w w.heap.size A 4 encOpV xs) (hl : xs.length ≤ 1000) (hok : ∀ o ∈ xs, (Lit.int .i64 o.a).wf = true ∧ (Lit.int .u64 o.v).wf = true) (wa : (Lit.int .i64 x.a).wf = true) (wv : (Lit.int .u64 x.v).wf = true) (wg : (Lit.int .u64 again).wf = true) (hS : opPlay ([], []) xs = (R, W)) (hk : x.k = 0) (hneg : 0 ≤ x.a) (hp : place R x.a = none) (hf : R.length = 128) :
    Calls Try.prog 3 #[.slice A xs.length cap, .agg #[.int .i64 x.k, .int .i64 x.a, .int .u64 x.v, .slice x.nA x.now.length x.ncap], .int .u64 again] w (StaysPost w) := by
  have hl' : (xs.length : Int) ≤ 1000 := by omega
  have HS := Lib.hid hS
  have HR := Lib.hid hR
  have HOK := Lib.hid hok
  have WA := Lib.hid wa
  have WV := Lib.hid wv
  have WG := Lib.hid wg
  clear hS hR hok wa wv wg
  obtain ⟨xk, xa, xv, xnA, xnc, xnow⟩ := x
  dsimp only at *
  subst hk
  have hn : ¬ xa < 0 := by omega
  have EV1 := Lib.hid (show valOf R xa = 0 from by simp [valOf, hp])
  have EI1 := Lib.hid (show isIn R xa = false from by simp [isIn, hp])
  have EE1 := Lib.hid (show rdErr R xa = 70 from by simp [rdErr, hn, hp, putErr, hf])
  have ER1 := Lib.hid (show rdL R xa xv = R from by simp [rdL, hn, hp, putL, hf])
  have EE2 := Lib.hid (show rdErr R xa = 70 from by simp [rdErr, hn, hp, putErr, hf])
  have ER2 := Lib.hid (show rdL R xa again = R from by simp [rdL, hn, hp, putL, hf])
  have EV2 := Lib.hid (show valOf R xa = 0 from by simp [valOf, hp])
  have EI2 := Lib.hid (show isIn R xa = false from by simp [isIn, hp])
  have hfb : ((R.length : Int) == 128) = true := by simp [hf]
  clear hp hn hf
  go_enter Try.func3, Try.ntmps3
  go_wp2_with fail
  have kb := Blk.new w (encOpV ⟨0, xa, xv, xnA, xnc, xnow⟩) 26
  have hb0 : Below w.heap.size w (w.alloc (.cells #[.int .i64 0, .int .i64 xa, .int .u64 xv, .slice xnA xnow.length xnc] 26)) := (Below.refl _ w).alloc (Nat.le_refl _) _
  have kb' : Blk (w.alloc (.cells #[.int .i64 0, .int .i64 xa, .int .u64 xv, .slice xnA xnow.length xnc] 26)) w.heap.size (encOpV ⟨0, xa, xv, xnA, xnc, xnow⟩) 26 := kb
  clear kb
  generalize w.alloc (.cells #[.int .i64 0, .int .i64 xa, .int .u64 xv, .slice xnA xnow.length xnc] 26) = w0 at *
  refine (alive_any _).mono ?_
  rintro e w1 ⟨rfl, h1⟩
  have hb1 := hb0.trans (h1.mono hb0.size)
  have kb1 : Blk w1 w.heap.size (encOpV ⟨0, xa, xv, xnA, xnc, xnow⟩) 26 := (h1.block _ kb'.lt).trans kb'
  obtain ⟨bx, hbx⟩ : ∃ bx, bx = w.heap.size := ⟨_, rfl⟩
  rw [← hbx] at kb1 ⊢
  have KB := Lib.hid kb1
  have HB := Lib.hid hb1
  clear kb' hb0 h1 kb1 hb1 hbx
  go_wp2_with fail
  refine (New_any _).mono ?_
  rintro e w2 ⟨g, F2, rfl, h1, h2⟩
  have H2 : Hid (FirstAt w w1 w2 g F2 ([], []) bx ⟨0, xa, xv, xnA, xnc, xnow⟩) := Lib.hid ⟨h1.own h2, KB.out, HB.out⟩
  clear h1 h2
  go_wp2_with fail
  refine (play_any w1.heap.size w1 _ g F2 ([], []) A cap xs ((HR.out.below H2.out.stay).mono H2.out.bel.size) hl HOK.out H2.out.o).mono ?_
  rintro e w3 ⟨rfl, F3, h1, h2⟩
  rw [HS.out] at h1
  have H3 : Hid (FirstAt w w1 w3 g F3 (R, W) bx ⟨0, xa, xv, xnA, xnc, xnow⟩) := Lib.hid ⟨h1, KB.out, HB.out⟩
  clear h1 h2
  obtain ⟨x0, x1, x2⟩ := H3.out.cell
  dsimp only at x0 x1 x2
  have mR : R.length ≤ 128 := by
    obtain ⟨b, c, v, m, u, n, _, h2, _⟩ := H3.out.o.l.parts
    exact h2.most
  have mW : W.length ≤ 128 := by
    obtain ⟨b, c, v, m, u, n, _, _, h3, _⟩ := H3.out.o.l.parts
    exact h3.most
  go_wp2_with fail
  refine (Was_any _ g F3 (R) (W) xa WA.out H3.out.o.l).mono ?_
  rintro e w' ⟨rfl, rfl⟩
  rw [EV1.out, EI1.out]
  go_wp2_with fail
  refine (Look_any _ g F3 (R) (W) xa WA.out H3.out.o.l).mono ?_
  rintro e w' ⟨rfl, rfl⟩
  have hlv : valOf W xa = valOf W xa := rfl
  clear hlv
  go_wp2_with fail
  refine (Reads_any _ g F3 (R) (W) H3.out.o.l).mono ?_
  rintro e w4 ⟨v4, rfl, h1, h2⟩
  obtain ⟨A4, cap4, rfl⟩ := told_len h1
  have H4 := Lib.hid (H3.out.look h2)
  obtain ⟨x0, x1, x2⟩ := H4.out.cell
  dsimp only at x0 x1 x2
  clear h1 h2
  go_wp2_with fail
  refine (Writes_any _ g F3 (R) (W) H4.out.o.l).mono ?_
  rintro e w5 ⟨v5, rfl, h1, h2⟩
  obtain ⟨A5, cap5, rfl⟩ := told_len h1
  have H5 := Lib.hid (H4.out.look h2)
  obtain ⟨x0, x1, x2⟩ := H5.out.cell
  dsimp only at x0 x1 x2
  clear h1 h2
  go_wp2_with fail
  refine (Read_any _ g F3 (R) (W) xa xv WA.out WV.out H5.out.o.l).mono ?_
  rintro e w6 ⟨rfl, F6, h1, h2⟩
  rw [EE1.out]
  rw [ER1.out] at h1
  have H6 := Lib.hid (H5.out.did (t := (R, W)) h1 h2)
  obtain ⟨x0, x1, x2⟩ := H6.out.cell
  dsimp only at x0 x1 x2
  clear h1 h2
  go_wp2_with fail
  refine (Read_any _ g F6 (R) (W) xa again WA.out WG.out H6.out.o.l).mono ?_
  rintro e w7 ⟨rfl, F7, h1, h2⟩
  rw [EE2.out]
  rw [ER2.out] at h1
  have H7 := Lib.hid (H6.out.did (t := (R, W)) h1 h2)
  obtain ⟨x0, x1, x2⟩ := H7.out.cell
  dsimp only at x0 x1 x2
  clear h1 h2
  go_wp2_with fail
  refine (Was_any _ g F7 (R) (W) xa WA.out H7.out.o.l).mono ?_
  rintro e w' ⟨rfl, rfl⟩
  rw [EV2.out, EI2.out]
  go_wp2_with fail
  refine (Look_any _ g F7 (R) (W) xa WA.out H7.out.o.l).mono ?_
  rintro e w' ⟨rfl, rfl⟩
  go_wp2_with fail
  refine (Writes_any _ g F7 (R) (W) H7.out.o.l).mono ?_
  rintro e w8 ⟨v8, rfl, h1, h2⟩
  obtain ⟨A8, cap8, rfl⟩ := told_len h1
  have H8 := Lib.hid (H7.out.look h2)
  obtain ⟨x0, x1, x2⟩ := H8.out.cell
  dsimp only at x0 x1 x2
  clear h1 h2
  go_wp2_with fail
  refine (Reads_any _ g F7 (R) (W) H8.out.o.l).mono ?_
  rintro e w9 ⟨v9, rfl, h1, h2⟩
  obtain ⟨A9, cap9, rfl⟩ := told_len h1
  have H9 := Lib.hid (H8.out.look h2)
  obtain ⟨x0, x1, x2⟩ := H9.out.cell
  dsimp only at x0 x1 x2
  clear h1 h2
  go_wp2_with fail
  go_ret
  exact ⟨rfl, H9.out.stay⟩


set_option maxRecDepth 100000 in
set_option maxHeartbeats 4000000 in
theorem first_r4 (w : World) (A : Option Addr) (cap : Nat) (xs : List OpV) (x : OpV) (again : Int) (R W : PL) (hR : Rd w w.heap.size A 4 encOpV xs) (hl : xs.length ≤ 1000) (hok : ∀ o ∈ xs, (Lit.int .i64 o.a).wf = true ∧ (Lit.int .u64 o.v).wf = true) (wa : (Lit.int .i64 x.a).wf = true) (wv : (Lit.int .u64 x.v).wf = true) (wg : (Lit.int .u64 again).wf = true) (hS : opPlay ([], []) xs = (R, W)) (hk : x.k = 0) (hneg : 0 ≤ x.a) (hp : place R x.a = none) (hf : R.length ≠ 128) :
    Calls Try.prog 3 #[.slice A xs.length cap, .agg #[.int .i64 x.k, .int .i64 x.a, .int .u64 x.v, .slice x.nA x.now.length x.ncap], .int .u64 again] w (StaysPost w) := by
  have hl' : (xs.length : Int) ≤ 1000 := by omega
  have HS := Lib.hid hS
  have HR := Lib.hid hR
  have HOK := Lib.hid hok
  have WA := Lib.hid wa
  have WV := Lib.hid wv
  have WG := Lib.hid wg
  clear hS hR hok wa wv wg
  obtain ⟨xk, xa, xv, xnA, xnc, xnow⟩ := x
  dsimp only at *
  subst hk
  have hn : ¬ xa < 0 := by omega
  have hp2 : place (R ++ [(xa, xv)]) xa = some R.length := by rw [place_snoc, hp]; simp
  have EV1 := Lib.hid (show valOf R xa = 0 from by simp [valOf, hp])
  have EI1 := Lib.hid (show isIn R xa = false from by simp [isIn, hp])
  have EE1 := Lib.hid (show rdErr R xa = 0 from by simp [rdErr, hn, hp, putErr, hf])
  have ER1 := Lib.hid (show rdL R xa xv = R ++ [(xa, xv)] from by simp [rdL, hn, hp, putL, hf])
  have EE2 := Lib.hid (show rdErr (R ++ [(xa, xv)]) xa = 0 from by simp [rdErr, hn, hp2])
  have ER2 := Lib.hid (show rdL (R ++ [(xa, xv)]) xa again = R ++ [(xa, xv)] from by simp [rdL, hn, hp2])
  have EV2 := Lib.hid (show valOf (R ++ [(xa, xv)]) xa = xv from by simp [valOf, hp2])
  have EI2 := Lib.hid (show isIn (R ++ [(xa, xv)]) xa = true from by simp [isIn, hp2])
  clear hp hn hf hp2
  go_enter Try.func3, Try.ntmps3
  go_wp2_with fail
  have kb := Blk.new w (encOpV ⟨0, xa, xv, xnA, xnc, xnow⟩) 26
  have hb0 : Below w.heap.size w (w.alloc (.cells #[.int .i64 0, .int .i64 xa, .int .u64 xv, .slice xnA xnow.length xnc] 26)) := (Below.refl _ w).alloc (Nat.le_refl _) _
  have kb' : Blk (w.alloc (.cells #[.int .i64 0, .int .i64 xa, .int .u64 xv, .slice xnA xnow.length xnc] 26)) w.heap.size (encOpV ⟨0, xa, xv, xnA, xnc, xnow⟩) 26 := kb
  clear kb
  generalize w.alloc (.cells #[.int .i64 0, .int .i64 xa, .int .u64 xv, .slice xnA xnow.length xnc] 26) = w0 at *
  refine (alive_any _).mono ?_
  rintro e w1 ⟨rfl, h1⟩
  have hb1 := hb0.trans (h1.mono hb0.size)
  have kb1 : Blk w1 w.heap.size (encOpV ⟨0, xa, xv, xnA, xnc, xnow⟩) 26 := (h1.block _ kb'.lt).trans kb'
  obtain ⟨bx, hbx⟩ : ∃ bx, bx = w.heap.size := ⟨_, rfl⟩
  rw [← hbx] at kb1 ⊢
  have KB := Lib.hid kb1
  have HB := Lib.hid hb1
  clear kb' hb0 h1 kb1 hb1 hbx
  go_wp2_with fail
  refine (New_any _).mono ?_
  rintro e w2 ⟨g, F2, rfl, h1, h2⟩
  have H2 : Hid (FirstAt w w1 w2 g F2 ([], []) bx ⟨0, xa, xv, xnA, xnc, xnow⟩) := Lib.hid ⟨h1.own h2, KB.out, HB.out⟩
  clear h1 h2
  go_wp2_with fail
  refine (play_any w1.heap.size w1 _ g F2 ([], []) A cap xs ((HR.out.below H2.out.stay).mono H2.out.bel.size) hl HOK.out H2.out.o).mono ?_
  rintro e w3 ⟨rfl, F3, h1, h2⟩
  rw [HS.out] at h1
  have H3 : Hid (FirstAt w w1 w3 g F3 (R, W) bx ⟨0, xa, xv, xnA, xnc, xnow⟩) := Lib.hid ⟨h1, KB.out, HB.out⟩
  clear h1 h2
  obtain ⟨x0, x1, x2⟩ := H3.out.cell
  dsimp only at x0 x1 x2
  have mR : R.length ≤ 128 := by
    obtain ⟨b, c, v, m, u, n, _, h2, _⟩ := H3.out.o.l.parts
    exact h2.most
  have mW : W.length ≤ 128 := by
    obtain ⟨b, c, v, m, u, n, _, _, h3, _⟩ := H3.out.o.l.parts
    exact h3.most
  go_wp2_with fail
  refine (Was_any _ g F3 (R) (W) xa WA.out H3.out.o.l).mono ?_
  rintro e w' ⟨rfl, rfl⟩
  rw [EV1.out, EI1.out]
  go_wp2_with fail
  refine (Look_any _ g F3 (R) (W) xa WA.out H3.out.o.l).mono ?_
  rintro e w' ⟨rfl, rfl⟩
  have hlv : valOf W xa = valOf W xa := rfl
  clear hlv
  go_wp2_with fail
  refine (Reads_any _ g F3 (R) (W) H3.out.o.l).mono ?_
  rintro e w4 ⟨v4, rfl, h1, h2⟩
  obtain ⟨A4, cap4, rfl⟩ := told_len h1
  have H4 := Lib.hid (H3.out.look h2)
  obtain ⟨x0, x1, x2⟩ := H4.out.cell
  dsimp only at x0 x1 x2
  clear h1 h2
  go_wp2_with fail
  refine (Writes_any _ g F3 (R) (W) H4.out.o.l).mono ?_
  rintro e w5 ⟨v5, rfl, h1, h2⟩
  obtain ⟨A5, cap5, rfl⟩ := told_len h1
  have H5 := Lib.hid (H4.out.look h2)
  obtain ⟨x0, x1, x2⟩ := H5.out.cell
  dsimp only at x0 x1 x2
  clear h1 h2
  go_wp2_with fail
  refine (Read_any _ g F3 (R) (W) xa xv WA.out WV.out H5.out.o.l).mono ?_
  rintro e w6 ⟨rfl, F6, h1, h2⟩
  rw [EE1.out]
  rw [ER1.out] at h1
  have H6 := Lib.hid (H5.out.did (t := (R ++ [(xa, xv)], W)) h1 h2)
  obtain ⟨x0, x1, x2⟩ := H6.out.cell
  dsimp only at x0 x1 x2
  clear h1 h2
  go_wp2_with fail
  refine (Read_any _ g F6 (R ++ [(xa, xv)]) (W) xa again WA.out WG.out H6.out.o.l).mono ?_
  rintro e w7 ⟨rfl, F7, h1, h2⟩
  rw [EE2.out]
  rw [ER2.out] at h1
  have H7 := Lib.hid (H6.out.did (t := (R ++ [(xa, xv)], W)) h1 h2)
  obtain ⟨x0, x1, x2⟩ := H7.out.cell
  dsimp only at x0 x1 x2
  clear h1 h2
  go_wp2_with fail
  refine (Was_any _ g F7 (R ++ [(xa, xv)]) (W) xa WA.out H7.out.o.l).mono ?_
  rintro e w' ⟨rfl, rfl⟩
  rw [EV2.out, EI2.out]
  go_wp2_with fail
  refine (Look_any _ g F7 (R ++ [(xa, xv)]) (W) xa WA.out H7.out.o.l).mono ?_
  rintro e w' ⟨rfl, rfl⟩
  go_wp2_with fail
  refine (Writes_any _ g F7 (R ++ [(xa, xv)]) (W) H7.out.o.l).mono ?_
  rintro e w8 ⟨v8, rfl, h1, h2⟩
  obtain ⟨A8, cap8, rfl⟩ := told_len h1
  have H8 := Lib.hid (H7.out.look h2)
  obtain ⟨x0, x1, x2⟩ := H8.out.cell
  dsimp only at x0 x1 x2
  clear h1 h2
  go_wp2_with fail
  refine (Reads_any _ g F7 (R ++ [(xa, xv)]) (W) H8.out.o.l).mono ?_
  rintro e w9 ⟨v9, rfl, h1, h2⟩
  obtain ⟨A9, cap9, rfl⟩ := told_len h1
  have H9 := Lib.hid (H8.out.look h2)
  obtain ⟨x0, x1, x2⟩ := H9.out.cell
  dsimp only at x0 x1 x2
  clear h1 h2
  rw [show (R ++ [(xa, xv)]).length = R.length + 1 from by simp]
  go_wp2_with fail
  go_ret
  exact ⟨rfl, H9.out.stay⟩


set_option maxRecDepth 100000 in
set_option maxHeartbeats 4000000 in
theorem first_w1 (w : World) (A : Option Addr) (cap : Nat) (xs : List OpV) (x : OpV) (again : Int) (R W : PL) (hR : Rd w w.heap.size A 4 encOpV xs) (hl : xs.length ≤ 1000) (hok : ∀ o ∈ xs, (Lit.int .i64 o.a).wf = true ∧ (Lit.int .u64 o.v).wf = true) (wa : (Lit.int .i64 x.a).wf = true) (wv : (Lit.int .u64 x.v).wf = true) (wg : (Lit.int .u64 again).wf = true) (hS : opPlay ([], []) xs = (R, W)) (hk : x.k ≠ 0) (hneg : x.a < 0) (hp : place W x.a = none) :
    Calls Try.prog 3 #[.slice A xs.length cap, .agg #[.int .i64 x.k, .int .i64 x.a, .int .u64 x.v, .slice x.nA x.now.length x.ncap], .int .u64 again] w (StaysPost w) := by
  have hl' : (xs.length : Int) ≤ 1000 := by omega
  have HS := Lib.hid hS
  have HR := Lib.hid hR
  have HOK := Lib.hid hok
  have WA := Lib.hid wa
  have WV := Lib.hid wv
  have WG := Lib.hid wg
  clear hS hR hok wa wv wg
  obtain ⟨xk, xa, xv, xnA, xnc, xnow⟩ := x
  dsimp only at *
  have kb0 : (xk == 0) = false := by simpa using hk
  clear hk
  have EV1 := Lib.hid (show valOf W xa = 0 from by simp [valOf, hp])
  have EI1 := Lib.hid (show isIn W xa = false from by simp [isIn, hp])
  have EE1 := Lib.hid (show wrErr W xa = 2 from by simp [wrErr, rdErr, hneg])
  have ER1 := Lib.hid (show wrL W xa xv = W from by simp [wrL, hneg])
  have EE2 := Lib.hid (show wrErr W xa = 2 from by simp [wrErr, rdErr, hneg])
  have ER2 := Lib.hid (show wrL W xa again = W from by simp [wrL, hneg])
  have EV2 := Lib.hid (show valOf W xa = 0 from by simp [valOf, hp])
  have EI2 := Lib.hid (show isIn W xa = false from by simp [isIn, hp])
  clear hp
  go_enter Try.func3, Try.ntmps3
  go_wp2_with fail
  have kb := Blk.new w (encOpV ⟨xk, xa, xv, xnA, xnc, xnow⟩) 26
  have hb0 : Below w.heap.size w (w.alloc (.cells #[.int .i64 xk, .int .i64 xa, .int .u64 xv, .slice xnA xnow.length xnc] 26)) := (Below.refl _ w).alloc (Nat.le_refl _) _
  have kb' : Blk (w.alloc (.cells #[.int .i64 xk, .int .i64 xa, .int .u64 xv, .slice xnA xnow.length xnc] 26)) w.heap.size (encOpV ⟨xk, xa, xv, xnA, xnc, xnow⟩) 26 := kb
  clear kb
  generalize w.alloc (.cells #[.int .i64 xk, .int .i64 xa, .int .u64 xv, .slice xnA xnow.length xnc] 26) = w0 at *
  refine (alive_any _).mono ?_
  rintro e w1 ⟨rfl, h1⟩
  have hb1 := hb0.trans (h1.mono hb0.size)
  have kb1 : Blk w1 w.heap.size (encOpV ⟨xk, xa, xv, xnA, xnc, xnow⟩) 26 := (h1.block _ kb'.lt).trans kb'
  obtain ⟨bx, hbx⟩ : ∃ bx, bx = w.heap.size := ⟨_, rfl⟩
  rw [← hbx] at kb1 ⊢
  have KB := Lib.hid kb1
  have HB := Lib.hid hb1
  clear kb' hb0 h1 kb1 hb1 hbx
  go_wp2_with fail
  refine (New_any _).mono ?_
  rintro e w2 ⟨g, F2, rfl, h1, h2⟩
  have H2 : Hid (FirstAt w w1 w2 g F2 ([], []) bx ⟨xk, xa, xv, xnA, xnc, xnow⟩) := Lib.hid ⟨h1.own h2, KB.out, HB.out⟩
  clear h1 h2
  go_wp2_with fail
  refine (play_any w1.heap.size w1 _ g F2 ([], []) A cap xs ((HR.out.below H2.out.stay).mono H2.out.bel.size) hl HOK.out H2.out.o).mono ?_
  rintro e w3 ⟨rfl, F3, h1, h2⟩
  rw [HS.out] at h1
  have H3 : Hid (FirstAt w w1 w3 g F3 (R, W) bx ⟨xk, xa, xv, xnA, xnc, xnow⟩) := Lib.hid ⟨h1, KB.out, HB.out⟩
  clear h1 h2
  obtain ⟨x0, x1, x2⟩ := H3.out.cell
  dsimp only at x0 x1 x2
  have mR : R.length ≤ 128 := by
    obtain ⟨b, c, v, m, u, n, _, h2, _⟩ := H3.out.o.l.parts
    exact h2.most
  have mW : W.length ≤ 128 := by
    obtain ⟨b, c, v, m, u, n, _, _, h3, _⟩ := H3.out.o.l.parts
    exact h3.most
  go_wp2_with fail
  refine (Was_any _ g F3 (R) (W) xa WA.out H3.out.o.l).mono ?_
  rintro e w' ⟨rfl, rfl⟩
  go_wp2_with fail
  refine (Look_any _ g F3 (R) (W) xa WA.out H3.out.o.l).mono ?_
  rintro e w' ⟨rfl, rfl⟩
  rw [EV1.out, EI1.out]
  go_wp2_with fail
  refine (Reads_any _ g F3 (R) (W) H3.out.o.l).mono ?_
  rintro e w4 ⟨v4, rfl, h1, h2⟩
  obtain ⟨A4, cap4, rfl⟩ := told_len h1
  have H4 := Lib.hid (H3.out.look h2)
  obtain ⟨x0, x1, x2⟩ := H4.out.cell
  dsimp only at x0 x1 x2
  clear h1 h2
  go_wp2_with fail
  refine (Writes_any _ g F3 (R) (W) H4.out.o.l).mono ?_
  rintro e w5 ⟨v5, rfl, h1, h2⟩
  obtain ⟨A5, cap5, rfl⟩ := told_len h1
  have H5 := Lib.hid (H4.out.look h2)
  obtain ⟨x0, x1, x2⟩ := H5.out.cell
  dsimp only at x0 x1 x2
  clear h1 h2
  go_wp2_with fail
  refine (Write_any _ g F3 (R) (W) xa xv WA.out WV.out H5.out.o.l).mono ?_
  rintro e w6 ⟨rfl, F6, h1, h2⟩
  rw [EE1.out]
  rw [ER1.out] at h1
  have H6 := Lib.hid (H5.out.did (t := (R, W)) h1 h2)
  obtain ⟨x0, x1, x2⟩ := H6.out.cell
  dsimp only at x0 x1 x2
  clear h1 h2
  go_wp2_with fail
  refine (Write_any _ g F6 (R) (W) xa again WA.out WG.out H6.out.o.l).mono ?_
  rintro e w7 ⟨rfl, F7, h1, h2⟩
  rw [EE2.out]
  rw [ER2.out] at h1
  have H7 := Lib.hid (H6.out.did (t := (R, W)) h1 h2)
  obtain ⟨x0, x1, x2⟩ := H7.out.cell
  dsimp only at x0 x1 x2
  clear h1 h2
  go_wp2_with fail
  refine (Look_any _ g F7 (R) (W) xa WA.out H7.out.o.l).mono ?_
  rintro e w' ⟨rfl, rfl⟩
  rw [EV2.out, EI2.out]
  go_wp2_with fail
  refine (Was_any _ g F7 (R) (W) xa WA.out H7.out.o.l).mono ?_
  rintro e w' ⟨rfl, rfl⟩
  go_wp2_with fail
  refine (Reads_any _ g F7 (R) (W) H7.out.o.l).mono ?_
  rintro e w8 ⟨v8, rfl, h1, h2⟩
  obtain ⟨A8, cap8, rfl⟩ := told_len h1
  have H8 := Lib.hid (H7.out.look h2)
  obtain ⟨x0, x1, x2⟩ := H8.out.cell
  dsimp only at x0 x1 x2
  clear h1 h2
  go_wp2_with fail
  refine (Writes_any _ g F7 (R) (W) H8.out.o.l).mono ?_
  rintro e w9 ⟨v9, rfl, h1, h2⟩
  obtain ⟨A9, cap9, rfl⟩ := told_len h1
  have H9 := Lib.hid (H8.out.look h2)
  obtain ⟨x0, x1, x2⟩ := H9.out.cell
  dsimp only at x0 x1 x2
  clear h1 h2
  go_wp2_with fail
  go_ret
  exact ⟨rfl, H9.out.stay⟩


theorem place_set {l : PL} {i : Nat} {a x : Int} (h : place l a = some i) : place (l.set i (a, x)) a = some i ∧ valOf (l.set i (a, x)) a = x := by
  have h1 : place (l.set i (a, x)) a = some i := by rw [place_fst, set_fst h, ← place_fst]; exact h
  obtain ⟨hi, _⟩ := place_lt h
  exact ⟨h1, by simp [valOf, h1, hi]⟩
theorem place_end {l : PL} {a x : Int} (h : place l a = none) : place (l ++ [(a, x)]) a = some l.length ∧ valOf (l ++ [(a, x)]) a = x := by
  have h1 : place (l ++ [(a, x)]) a = some l.length := by rw [place_snoc, h]; simp
  exact ⟨h1, by simp [valOf, h1]⟩

set_option maxRecDepth 100000 in
set_option maxHeartbeats 4000000 in
theorem first_w2 (w : World) (A : Option Addr) (cap : Nat) (xs : List OpV) (x : OpV) (again : Int) (R W : PL) (hR : Rd w w.heap.size A 4 encOpV xs) (hl : xs.length ≤ 1000) (hok : ∀ o ∈ xs, (Lit.int .i64 o.a).wf = true ∧ (Lit.int .u64 o.v).wf = true) (wa : (Lit.int .i64 x.a).wf = true) (wv : (Lit.int .u64 x.v).wf = true) (wg : (Lit.int .u64 again).wf = true) (hS : opPlay ([], []) xs = (R, W)) (hk : x.k ≠ 0) (hneg : 0 ≤ x.a) (i : Nat) (hp : place W x.a = some i) :
    Calls Try.prog 3 #[.slice A xs.length cap, .agg #[.int .i64 x.k, .int .i64 x.a, .int .u64 x.v, .slice x.nA x.now.length x.ncap], .int .u64 again] w (StaysPost w) := by
  have hl' : (xs.length : Int) ≤ 1000 := by omega
  have HS := Lib.hid hS
  have HR := Lib.hid hR
  have HOK := Lib.hid hok
  have WA := Lib.hid wa
  have WV := Lib.hid wv
  have WG := Lib.hid wg
  clear hS hR hok wa wv wg
  obtain ⟨xk, xa, xv, xnA, xnc, xnow⟩ := x
  dsimp only at *
  have kb0 : (xk == 0) = false := by simpa using hk
  clear hk
  have hn : ¬ xa < 0 := by omega
  obtain ⟨hi, hia⟩ := place_lt hp
  obtain ⟨p1, v1⟩ := place_set (x := xv) hp
  obtain ⟨p2, v2⟩ := place_set (x := again) hp
  have EV1 := Lib.hid (show valOf W xa = valOf W xa from rfl)
  have EI1 := Lib.hid (show isIn W xa = true from by simp [isIn, hp])
  have EE1 := Lib.hid (show wrErr W xa = 0 from by simp [wrErr, rdErr, hn, hp])
  have ER1 := Lib.hid (show wrL W xa xv = W.set i (xa, xv) from by simp [wrL, hn, hp])
  have EE2 := Lib.hid (show wrErr (W.set i (xa, xv)) xa = 0 from by simp [wrErr, rdErr, hn, p1])
  have ER2 := Lib.hid (show wrL (W.set i (xa, xv)) xa again = W.set i (xa, again) from by simp [wrL, hn, p1])
  have EV2 := Lib.hid (show valOf (W.set i (xa, again)) xa = again from v2)
  have EI2 := Lib.hid (show isIn (W.set i (xa, again)) xa = true from by simp [isIn, p2])
  have hw1 : 1 ≤ W.length := by omega
  clear hp hn p1 p2 v1 v2 hia hi
  go_enter Try.func3, Try.ntmps3
  go_wp2_with fail
  have kb := Blk.new w (encOpV ⟨xk, xa, xv, xnA, xnc, xnow⟩) 26
  have hb0 : Below w.heap.size w (w.alloc (.cells #[.int .i64 xk, .int .i64 xa, .int .u64 xv, .slice xnA xnow.length xnc] 26)) := (Below.refl _ w).alloc (Nat.le_refl _) _
  have kb' : Blk (w.alloc (.cells #[.int .i64 xk, .int .i64 xa, .int .u64 xv, .slice xnA xnow.length xnc] 26)) w.heap.size (encOpV ⟨xk, xa, xv, xnA, xnc, xnow⟩) 26 := kb
  clear kb
  generalize w.alloc (.cells #[.int .i64 xk, .int .i64 xa, .int .u64 xv, .slice xnA xnow.length xnc] 26) = w0 at *
  refine (alive_any _).mono ?_
  rintro e w1 ⟨rfl, h1⟩
  have hb1 := hb0.trans (h1.mono hb0.size)
  have kb1 : Blk w1 w.heap.size (encOpV ⟨xk, xa, xv, xnA, xnc, xnow⟩) 26 := (h1.block _ kb'.lt).trans kb'
  obtain ⟨bx, hbx⟩ : ∃ bx, bx = w.heap.size := ⟨_, rfl⟩
  rw [← hbx] at kb1 ⊢
  have KB := Lib.hid kb1
  have HB := Lib.hid hb1
  clear kb' hb0 h1 kb1 hb1 hbx
  go_wp2_with fail
  refine (New_any _).mono ?_
  rintro e w2 ⟨g, F2, rfl, h1, h2⟩
  have H2 : Hid (FirstAt w w1 w2 g F2 ([], []) bx ⟨xk, xa, xv, xnA, xnc, xnow⟩) := Lib.hid ⟨h1.own h2, KB.out, HB.out⟩
  clear h1 h2
  go_wp2_with fail
  refine (play_any w1.heap.size w1 _ g F2 ([], []) A cap xs ((HR.out.below H2.out.stay).mono H2.out.bel.size) hl HOK.out H2.out.o).mono ?_
  rintro e w3 ⟨rfl, F3, h1, h2⟩
  rw [HS.out] at h1
  have H3 : Hid (FirstAt w w1 w3 g F3 (R, W) bx ⟨xk, xa, xv, xnA, xnc, xnow⟩) := Lib.hid ⟨h1, KB.out, HB.out⟩
  clear h1 h2
  obtain ⟨x0, x1, x2⟩ := H3.out.cell
  dsimp only at x0 x1 x2
  have mR : R.length ≤ 128 := by
    obtain ⟨b, c, v, m, u, n, _, h2, _⟩ := H3.out.o.l.parts
    exact h2.most
  have mW : W.length ≤ 128 := by
    obtain ⟨b, c, v, m, u, n, _, _, h3, _⟩ := H3.out.o.l.parts
    exact h3.most
  go_wp2_with fail
  refine (Was_any _ g F3 (R) (W) xa WA.out H3.out.o.l).mono ?_
  rintro e w' ⟨rfl, rfl⟩
  go_wp2_with fail
  refine (Look_any _ g F3 (R) (W) xa WA.out H3.out.o.l).mono ?_
  rintro e w' ⟨rfl, rfl⟩
  rw [EI1.out]
  go_wp2_with fail
  refine (Reads_any _ g F3 (R) (W) H3.out.o.l).mono ?_
  rintro e w4 ⟨v4, rfl, h1, h2⟩
  obtain ⟨A4, cap4, rfl⟩ := told_len h1
  have H4 := Lib.hid (H3.out.look h2)
  obtain ⟨x0, x1, x2⟩ := H4.out.cell
  dsimp only at x0 x1 x2
  clear h1 h2
  go_wp2_with fail
  refine (Writes_any _ g F3 (R) (W) H4.out.o.l).mono ?_
  rintro e w5 ⟨v5, rfl, h1, h2⟩
  obtain ⟨A5, cap5, rfl⟩ := told_len h1
  have H5 := Lib.hid (H4.out.look h2)
  obtain ⟨x0, x1, x2⟩ := H5.out.cell
  dsimp only at x0 x1 x2
  clear h1 h2
  go_wp2_with fail
  refine (Write_any _ g F3 (R) (W) xa xv WA.out WV.out H5.out.o.l).mono ?_
  rintro e w6 ⟨rfl, F6, h1, h2⟩
  rw [EE1.out]
  rw [ER1.out] at h1
  have H6 := Lib.hid (H5.out.did (t := (R, W.set i (xa, xv))) h1 h2)
  obtain ⟨x0, x1, x2⟩ := H6.out.cell
  dsimp only at x0 x1 x2
  clear h1 h2
  go_wp2_with fail
  refine (Write_any _ g F6 (R) (W.set i (xa, xv)) xa again WA.out WG.out H6.out.o.l).mono ?_
  rintro e w7 ⟨rfl, F7, h1, h2⟩
  rw [EE2.out]
  rw [ER2.out] at h1
  have H7 := Lib.hid (H6.out.did (t := (R, W.set i (xa, again))) h1 h2)
  obtain ⟨x0, x1, x2⟩ := H7.out.cell
  dsimp only at x0 x1 x2
  clear h1 h2
  go_wp2_with fail
  refine (Look_any _ g F7 (R) (W.set i (xa, again)) xa WA.out H7.out.o.l).mono ?_
  rintro e w' ⟨rfl, rfl⟩
  rw [EV2.out, EI2.out]
  go_wp2_with fail
  refine (Was_any _ g F7 (R) (W.set i (xa, again)) xa WA.out H7.out.o.l).mono ?_
  rintro e w' ⟨rfl, rfl⟩
  go_wp2_with fail
  refine (Reads_any _ g F7 (R) (W.set i (xa, again)) H7.out.o.l).mono ?_
  rintro e w8 ⟨v8, rfl, h1, h2⟩
  obtain ⟨A8, cap8, rfl⟩ := told_len h1
  have H8 := Lib.hid (H7.out.look h2)
  obtain ⟨x0, x1, x2⟩ := H8.out.cell
  dsimp only at x0 x1 x2
  clear h1 h2
  go_wp2_with fail
  refine (Writes_any _ g F7 (R) (W.set i (xa, again)) H8.out.o.l).mono ?_
  rintro e w9 ⟨v9, rfl, h1, h2⟩
  obtain ⟨A9, cap9, rfl⟩ := told_len h1
  have H9 := Lib.hid (H8.out.look h2)
  obtain ⟨x0, x1, x2⟩ := H9.out.cell
  dsimp only at x0 x1 x2
  clear h1 h2
  rw [show (W.set i (xa, again)).length = W.length from by simp]
  go_wp2_with fail
  go_ret
  exact ⟨rfl, H9.out.stay⟩


set_option maxRecDepth 100000 in
set_option maxHeartbeats 4000000 in
theorem first_w3 (w : World) (A : Option Addr) (cap : Nat) (xs : List OpV) (x : OpV) (again : Int) (R W : PL) (hR : Rd w w.heap.size A 4 encOpV xs) (hl : xs.length ≤ 1000) (hok : ∀ o ∈ xs, (Lit.int .i64 o.a).wf = true ∧ (Lit.int .u64 o.v).wf = true) (wa : (Lit.int .i64 x.a).wf = true) (wv : (Lit.int .u64 x.v).wf = true) (wg : (Lit.int .u64 again).wf = true) (hS : opPlay ([], []) xs = (R, W)) (hk : x.k ≠ 0) (hneg : 0 ≤ x.a) (hp : place W x.a = none) (hf : W.length = 128) :
    Calls Try.prog 3 #[.slice A xs.length cap, .agg #[.int .i64 x.k, .int .i64 x.a, .int .u64 x.v, .slice x.nA x.now.length x.ncap], .int .u64 again] w (StaysPost w) := by
  have hl' : (xs.length : Int) ≤ 1000 := by omega
  have HS := Lib.hid hS
  have HR := Lib.hid hR
  have HOK := Lib.hid hok
  have WA := Lib.hid wa
  have WV := Lib.hid wv
  have WG := Lib.hid wg
  clear hS hR hok wa wv wg
  obtain ⟨xk, xa, xv, xnA, xnc, xnow⟩ := x
  dsimp only at *
  have kb0 : (xk == 0) = false := by simpa using hk
  clear hk
  have hn : ¬ xa < 0 := by omega
  have EV1 := Lib.hid (show valOf W xa = 0 from by simp [valOf, hp])
  have EI1 := Lib.hid (show isIn W xa = false from by simp [isIn, hp])
  have EE1 := Lib.hid (show wrErr W xa = 70 from by simp [wrErr, rdErr, hn, hp, putErr, hf])
  have ER1 := Lib.hid (show wrL W xa xv = W from by simp [wrL, hn, hp, putL, hf])
  have EE2 := Lib.hid (show wrErr W xa = 70 from by simp [wrErr, rdErr, hn, hp, putErr, hf])
  have ER2 := Lib.hid (show wrL W xa again = W from by simp [wrL, hn, hp, putL, hf])
  have EV2 := Lib.hid (show valOf W xa = 0 from by simp [valOf, hp])
  have EI2 := Lib.hid (show isIn W xa = false from by simp [isIn, hp])
  have hfb : ((W.length : Int) == 128) = true := by simp [hf]
  clear hp hn hf
  go_enter Try.func3, Try.ntmps3
  go_wp2_with fail
  have kb := Blk.new w (encOpV ⟨xk, xa, xv, xnA, xnc, xnow⟩) 26
  have hb0 : Below w.heap.size w (w.alloc (.cells #[.int .i64 xk, .int .i64 xa, .int .u64 xv, .slice xnA xnow.length xnc] 26)) := (Below.refl _ w).alloc (Nat.le_refl _) _
  have kb' : Blk (w.alloc (.cells #[.int .i64 xk, .int .i64 xa, .int .u64 xv, .slice xnA xnow.length xnc] 26)) w.heap.size (encOpV ⟨xk, xa, xv, xnA, xnc, xnow⟩) 26 := kb
  clear kb
  generalize w.alloc (.cells #[.int .i64 xk, .int .i64 xa, .int .u64 xv, .slice xnA xnow.length xnc] 26) = w0 at *
  refine (alive_any _).mono ?_
  rintro e w1 ⟨rfl, h1⟩
  have hb1 := hb0.trans (h1.mono hb0.size)
  have kb1 : Blk w1 w.heap.size (encOpV ⟨xk, xa, xv, xnA, xnc, xnow⟩) 26 := (h1.block _ kb'.lt).trans kb'
  obtain ⟨bx, hbx⟩ : ∃ bx, bx = w.heap.size := ⟨_, rfl⟩
  rw [← hbx] at kb1 ⊢
  have KB := Lib.hid kb1
  have HB := Lib.hid hb1
  clear kb' hb0 h1 kb1 hb1 hbx
  go_wp2_with fail
  refine (New_any _).mono ?_
  rintro e w2 ⟨g, F2, rfl, h1, h2⟩
  have H2 : Hid (FirstAt w w1 w2 g F2 ([], []) bx ⟨xk, xa, xv, xnA, xnc, xnow⟩) := Lib.hid ⟨h1.own h2, KB.out, HB.out⟩
  clear h1 h2
  go_wp2_with fail
  refine (play_any w1.heap.size w1 _ g F2 ([], []) A cap xs ((HR.out.below H2.out.stay).mono H2.out.bel.size) hl HOK.out H2.out.o).mono ?_
  rintro e w3 ⟨rfl, F3, h1, h2⟩
  rw [HS.out] at h1
  have H3 : Hid (FirstAt w w1 w3 g F3 (R, W) bx ⟨xk, xa, xv, xnA, xnc, xnow⟩) := Lib.hid ⟨h1, KB.out, HB.out⟩
  clear h1 h2
  obtain ⟨x0, x1, x2⟩ := H3.out.cell
  dsimp only at x0 x1 x2
  have mR : R.length ≤ 128 := by
    obtain ⟨b, c, v, m, u, n, _, h2, _⟩ := H3.out.o.l.parts
    exact h2.most
  have mW : W.length ≤ 128 := by
    obtain ⟨b, c, v, m, u, n, _, _, h3, _⟩ := H3.out.o.l.parts
    exact h3.most
  go_wp2_with fail
  refine (Was_any _ g F3 (R) (W) xa WA.out H3.out.o.l).mono ?_
  rintro e w' ⟨rfl, rfl⟩
  go_wp2_with fail
  refine (Look_any _ g F3 (R) (W) xa WA.out H3.out.o.l).mono ?_
  rintro e w' ⟨rfl, rfl⟩
  rw [EV1.out, EI1.out]
  go_wp2_with fail
  refine (Reads_any _ g F3 (R) (W) H3.out.o.l).mono ?_
  rintro e w4 ⟨v4, rfl, h1, h2⟩
  obtain ⟨A4, cap4, rfl⟩ := told_len h1
  have H4 := Lib.hid (H3.out.look h2)
  obtain ⟨x0, x1, x2⟩ := H4.out.cell
  dsimp only at x0 x1 x2
  clear h1 h2
  go_wp2_with fail
  refine (Writes_any _ g F3 (R) (W) H4.out.o.l).mono ?_
  rintro e w5 ⟨v5, rfl, h1, h2⟩
  obtain ⟨A5, cap5, rfl⟩ := told_len h1
  have H5 := Lib.hid (H4.out.look h2)
  obtain ⟨x0, x1, x2⟩ := H5.out.cell
  dsimp only at x0 x1 x2
  clear h1 h2
  go_wp2_with fail
  refine (Write_any _ g F3 (R) (W) xa xv WA.out WV.out H5.out.o.l).mono ?_
  rintro e w6 ⟨rfl, F6, h1, h2⟩
  rw [EE1.out]
  rw [ER1.out] at h1
  have H6 := Lib.hid (H5.out.did (t := (R, W)) h1 h2)
  obtain ⟨x0, x1, x2⟩ := H6.out.cell
  dsimp only at x0 x1 x2
  clear h1 h2
  go_wp2_with fail
  refine (Write_any _ g F6 (R) (W) xa again WA.out WG.out H6.out.o.l).mono ?_
  rintro e w7 ⟨rfl, F7, h1, h2⟩
  rw [EE2.out]
  rw [ER2.out] at h1
  have H7 := Lib.hid (H6.out.did (t := (R, W)) h1 h2)
  obtain ⟨x0, x1, x2⟩ := H7.out.cell
  dsimp only at x0 x1 x2
  clear h1 h2
  go_wp2_with fail
  refine (Look_any _ g F7 (R) (W) xa WA.out H7.out.o.l).mono ?_
  rintro e w' ⟨rfl, rfl⟩
  rw [EV2.out, EI2.out]
  go_wp2_with fail
  refine (Was_any _ g F7 (R) (W) xa WA.out H7.out.o.l).mono ?_
  rintro e w' ⟨rfl, rfl⟩
  go_wp2_with fail
  refine (Reads_any _ g F7 (R) (W) H7.out.o.l).mono ?_
  rintro e w8 ⟨v8, rfl, h1, h2⟩
  obtain ⟨A8, cap8, rfl⟩ := told_len h1
  have H8 := Lib.hid (H7.out.look h2)
  obtain ⟨x0, x1, x2⟩ := H8.out.cell
  dsimp only at x0 x1 x2
  clear h1 h2
  go_wp2_with fail
  refine (Writes_any _ g F7 (R) (W) H8.out.o.l).mono ?_
  rintro e w9 ⟨v9, rfl, h1, h2⟩
  obtain ⟨A9, cap9, rfl⟩ := told_len h1
  have H9 := Lib.hid (H8.out.look h2)
  obtain ⟨x0, x1, x2⟩ := H9.out.cell
  dsimp only at x0 x1 x2
  clear h1 h2
  go_wp2_with fail
  go_ret
  exact ⟨rfl, H9.out.stay⟩


set_option maxRecDepth 100000 in
set_option maxHeartbeats 4000000 in
theorem first_w4 (w : World) (A : Option Addr) (cap : Nat) (xs : List OpV) (x : OpV) (again : Int) (R W : PL) (hR : Rd w w.heap.size A 4 encOpV xs) (hl : xs.length ≤ 1000) (hok : ∀ o ∈ xs, (Lit.int .i64 o.a).wf = true ∧ (Lit.int .u64 o.v).wf = true) (wa : (Lit.int .i64 x.a).wf = true) (wv : (Lit.int .u64 x.v).wf = true) (wg : (Lit.int .u64 again).wf = true) (hS : opPlay ([], []) xs = (R, W)) (hk : x.k ≠ 0) (hneg : 0 ≤ x.a) (hp : place W x.a = none) (hf : W.length ≠ 128) :
    Calls Try.prog 3 #[.slice A xs.length cap, .agg #[.int .i64 x.k, .int .i64 x.a, .int .u64 x.v, .slice x.nA x.now.length x.ncap], .int .u64 again] w (StaysPost w) := by
  have hl' : (xs.length : Int) ≤ 1000 := by omega
  have HS := Lib.hid hS
  have HR := Lib.hid hR
  have HOK := Lib.hid hok
  have WA := Lib.hid wa
  have WV := Lib.hid wv
  have WG := Lib.hid wg
  clear hS hR hok wa wv wg
  obtain ⟨xk, xa, xv, xnA, xnc, xnow⟩ := x
  dsimp only at *
  have kb0 : (xk == 0) = false := by simpa using hk
  clear hk
  have hn : ¬ xa < 0 := by omega
  obtain ⟨p1, v1⟩ := place_end (x := xv) hp
  obtain ⟨p2, v2⟩ := place_end (x := again) hp
  have EV1 := Lib.hid (show valOf W xa = 0 from by simp [valOf, hp])
  have EI1 := Lib.hid (show isIn W xa = false from by simp [isIn, hp])
  have EE1 := Lib.hid (show wrErr W xa = 0 from by simp [wrErr, rdErr, hn, hp, putErr, hf])
  have ER1 := Lib.hid (show wrL W xa xv = W ++ [(xa, xv)] from by simp [wrL, hn, hp, putL, hf])
  have EE2 := Lib.hid (show wrErr (W ++ [(xa, xv)]) xa = 0 from by simp [wrErr, rdErr, hn, p1])
  have ER2 := Lib.hid (show wrL (W ++ [(xa, xv)]) xa again = W ++ [(xa, again)] from by simp [wrL, hn, p1])
  have EV2 := Lib.hid (show valOf (W ++ [(xa, again)]) xa = again from v2)
  have EI2 := Lib.hid (show isIn (W ++ [(xa, again)]) xa = true from by simp [isIn, p2])
  clear hp hn hf p1 p2 v1 v2
  go_enter Try.func3, Try.ntmps3
  go_wp2_with fail
  have kb := Blk.new w (encOpV ⟨xk, xa, xv, xnA, xnc, xnow⟩) 26
  have hb0 : Below w.heap.size w (w.alloc (.cells #[.int .i64 xk, .int .i64 xa, .int .u64 xv, .slice xnA xnow.length xnc] 26)) := (Below.refl _ w).alloc (Nat.le_refl _) _
  have kb' : Blk (w.alloc (.cells #[.int .i64 xk, .int .i64 xa, .int .u64 xv, .slice xnA xnow.length xnc] 26)) w.heap.size (encOpV ⟨xk, xa, xv, xnA, xnc, xnow⟩) 26 := kb
  clear kb
  generalize w.alloc (.cells #[.int .i64 xk, .int .i64 xa, .int .u64 xv, .slice xnA xnow.length xnc] 26) = w0 at *
  refine (alive_any _).mono ?_
  rintro e w1 ⟨rfl, h1⟩
  have hb1 := hb0.trans (h1.mono hb0.size)
  have kb1 : Blk w1 w.heap.size (encOpV ⟨xk, xa, xv, xnA, xnc, xnow⟩) 26 := (h1.block _ kb'.lt).trans kb'
  obtain ⟨bx, hbx⟩ : ∃ bx, bx = w.heap.size := ⟨_, rfl⟩
  rw [← hbx] at kb1 ⊢
  have KB := Lib.hid kb1
  have HB := Lib.hid hb1
  clear kb' hb0 h1 kb1 hb1 hbx
  go_wp2_with fail
  refine (New_any _).mono ?_
  rintro e w2 ⟨g, F2, rfl, h1, h2⟩
  have H2 : Hid (FirstAt w w1 w2 g F2 ([], []) bx ⟨xk, xa, xv, xnA, xnc, xnow⟩) := Lib.hid ⟨h1.own h2, KB.out, HB.out⟩
  clear h1 h2
  go_wp2_with fail
  refine (play_any w1.heap.size w1 _ g F2 ([], []) A cap xs ((HR.out.below H2.out.stay).mono H2.out.bel.size) hl HOK.out H2.out.o).mono ?_
  rintro e w3 ⟨rfl, F3, h1, h2⟩
  rw [HS.out] at h1
  have H3 : Hid (FirstAt w w1 w3 g F3 (R, W) bx ⟨xk, xa, xv, xnA, xnc, xnow⟩) := Lib.hid ⟨h1, KB.out, HB.out⟩
  clear h1 h2
  obtain ⟨x0, x1, x2⟩ := H3.out.cell
  dsimp only at x0 x1 x2
  have mR : R.length ≤ 128 := by
    obtain ⟨b, c, v, m, u, n, _, h2, _⟩ := H3.out.o.l.parts
    exact h2.most
  have mW : W.length ≤ 128 := by
    obtain ⟨b, c, v, m, u, n, _, _, h3, _⟩ := H3.out.o.l.parts
    exact h3.most
  go_wp2_with fail
  refine (Was_any _ g F3 (R) (W) xa WA.out H3.out.o.l).mono ?_
  rintro e w' ⟨rfl, rfl⟩
  go_wp2_with fail
  refine (Look_any _ g F3 (R) (W) xa WA.out H3.out.o.l).mono ?_
  rintro e w' ⟨rfl, rfl⟩
  rw [EV1.out, EI1.out]
  go_wp2_with fail
  refine (Reads_any _ g F3 (R) (W) H3.out.o.l).mono ?_
  rintro e w4 ⟨v4, rfl, h1, h2⟩
  obtain ⟨A4, cap4, rfl⟩ := told_len h1
  have H4 := Lib.hid (H3.out.look h2)
  obtain ⟨x0, x1, x2⟩ := H4.out.cell
  dsimp only at x0 x1 x2
  clear h1 h2
  go_wp2_with fail
  refine (Writes_any _ g F3 (R) (W) H4.out.o.l).mono ?_
  rintro e w5 ⟨v5, rfl, h1, h2⟩
  obtain ⟨A5, cap5, rfl⟩ := told_len h1
  have H5 := Lib.hid (H4.out.look h2)
  obtain ⟨x0, x1, x2⟩ := H5.out.cell
  dsimp only at x0 x1 x2
  clear h1 h2
  go_wp2_with fail
  refine (Write_any _ g F3 (R) (W) xa xv WA.out WV.out H5.out.o.l).mono ?_
  rintro e w6 ⟨rfl, F6, h1, h2⟩
  rw [EE1.out]
  rw [ER1.out] at h1
  have H6 := Lib.hid (H5.out.did (t := (R, W ++ [(xa, xv)])) h1 h2)
  obtain ⟨x0, x1, x2⟩ := H6.out.cell
  dsimp only at x0 x1 x2
  clear h1 h2
  go_wp2_with fail
  refine (Write_any _ g F6 (R) (W ++ [(xa, xv)]) xa again WA.out WG.out H6.out.o.l).mono ?_
  rintro e w7 ⟨rfl, F7, h1, h2⟩
  rw [EE2.out]
  rw [ER2.out] at h1
  have H7 := Lib.hid (H6.out.did (t := (R, W ++ [(xa, again)])) h1 h2)
  obtain ⟨x0, x1, x2⟩ := H7.out.cell
  dsimp only at x0 x1 x2
  clear h1 h2
  go_wp2_with fail
  refine (Look_any _ g F7 (R) (W ++ [(xa, again)]) xa WA.out H7.out.o.l).mono ?_
  rintro e w' ⟨rfl, rfl⟩
  rw [EV2.out, EI2.out]
  go_wp2_with fail
  refine (Was_any _ g F7 (R) (W ++ [(xa, again)]) xa WA.out H7.out.o.l).mono ?_
  rintro e w' ⟨rfl, rfl⟩
  go_wp2_with fail
  refine (Reads_any _ g F7 (R) (W ++ [(xa, again)]) H7.out.o.l).mono ?_
  rintro e w8 ⟨v8, rfl, h1, h2⟩
  obtain ⟨A8, cap8, rfl⟩ := told_len h1
  have H8 := Lib.hid (H7.out.look h2)
  obtain ⟨x0, x1, x2⟩ := H8.out.cell
  dsimp only at x0 x1 x2
  clear h1 h2
  go_wp2_with fail
  refine (Writes_any _ g F7 (R) (W ++ [(xa, again)]) H8.out.o.l).mono ?_
  rintro e w9 ⟨v9, rfl, h1, h2⟩
  obtain ⟨A9, cap9, rfl⟩ := told_len h1
  have H9 := Lib.hid (H8.out.look h2)
  obtain ⟨x0, x1, x2⟩ := H9.out.cell
  dsimp only at x0 x1 x2
  clear h1 h2
  rw [show (W ++ [(xa, again)]).length = W.length + 1 from by simp]
  go_wp2_with fail
  go_ret
  exact ⟨rfl, H9.out.stay⟩


set_option maxRecDepth 100000 in
set_option maxHeartbeats 2000000 in
theorem LogFirst_any (w : World) (A : Option Addr) (cap : Nat) (xs : List OpV) (x : OpV) (again : Int) (hR : Rd w w.heap.size A 4 encOpV xs) (hok : ∀ o ∈ xs, (Lit.int .i64 o.a).wf = true ∧ (Lit.int .u64 o.v).wf = true) (wa : (Lit.int .i64 x.a).wf = true) (wv : (Lit.int .u64 x.v).wf = true) (wg : (Lit.int .u64 again).wf = true) :
    Calls Try.prog 3 #[.slice A xs.length cap, .agg #[.int .i64 x.k, .int .i64 x.a, .int .u64 x.v, .slice x.nA x.now.length x.ncap], .int .u64 again] w (StaysPost w) := by
  by_cases hlen : 1000 < xs.length
  · have hl' : (1000 : Int) < xs.length := by omega
    go_enter Try.func3, Try.ntmps3
    go_wp2_with fail
    refine (alive_any _).mono ?_
    rintro e w1 ⟨rfl, h1⟩
    go_wp2_with fail
    go_ret
    exact ⟨rfl, ((Chg.refl [] w).alloc _).nil_below.trans (h1.mono (by simp))⟩
  have hl : xs.length ≤ 1000 := by omega
  obtain ⟨R, W, hS⟩ : ∃ R W, opPlay ([], []) xs = (R, W) := ⟨_, _, rfl⟩
  have hN := NN.play xs
  rw [hS] at hN
  by_cases hk : x.k = 0
  · by_cases hneg : x.a < 0
    · exact first_r1 w A cap xs x again R W hR hl hok wa wv wg hS hk hneg (NN.not hN.1 hneg)
    have hpos : 0 ≤ x.a := by omega
    cases hp : place R x.a with
    | some i => exact first_r2 w A cap xs x again R W hR hl hok wa wv wg hS hk hpos i hp
    | none =>
      by_cases hf : R.length = 128
      · exact first_r3 w A cap xs x again R W hR hl hok wa wv wg hS hk hpos hp hf
      · exact first_r4 w A cap xs x again R W hR hl hok wa wv wg hS hk hpos hp hf
  · by_cases hneg : x.a < 0
    · exact first_w1 w A cap xs x again R W hR hl hok wa wv wg hS hk hneg (NN.not hN.2 hneg)
    have hpos : 0 ≤ x.a := by omega
    cases hp : place W x.a with
    | some i => exact first_w2 w A cap xs x again R W hR hl hok wa wv wg hS hk hpos i hp
    | none =>
      by_cases hf : W.length = 128
      · exact first_w3 w A cap xs x again R W hR hl hok wa wv wg hS hk hpos hp hf
      · exact first_w4 w A cap xs x again R W hR hl hok wa wv wg hS hk hpos hp hf

end Go.Proofs.Ytobpknbnfkjnhaa
