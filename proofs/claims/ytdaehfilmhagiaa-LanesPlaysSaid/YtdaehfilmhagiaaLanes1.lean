/- A control; 'next': the first open lane behind one. -/
import Derived.Test.YtdaehfilmhagiaaRows
import Derived.Test.YtdaehfilmhagiaaArr
import Derived.Test.YtdaehfilmhagiaaRng
namespace Go.Proofs.Ytdaehfilmhagiaa
open Go.RowKit Go.Shelf

attribute [local go_sem] Oper.semAt_some

/-- A control: its budgets, its lane, its counts. -/
structure LC where
  f : Int
  s : Int
  o : Int
  lane : Int
  c0 : Int
  c1 : Int
  c2 : Int
  c3 : Int
  c4 : Int

def LC.cells (C : LC) : List Value := [.int .i64 0, .int .i64 C.f, .int .i64 C.s, .int .i64 C.o, .int .i64 (-1), .int .i64 C.lane, .int .i64 C.c0, .int .i64 C.c1, .int .i64 C.c2, .int .i64 C.c3, .int .i64 C.c4, .bool true]
def CtlAt (w : World) (b : Nat) (C : LC) : Prop := Blk w b C.cells 55

/-- The budget of a lane. -/
def LC.bud (C : LC) (k : Nat) : Int := if k = 1 then C.f else if k = 2 then C.s else if k = 3 then C.o else if k = 4 then -1 else 0
/-- The open lanes behind one, ahead of k. -/
def LC.opens (C : LC) (lane k : Nat) : List Nat := (List.range k).filter fun j => decide (lane < j) && decide (C.bud j ≠ 0)
/-- The first open lane behind one. -/
def LC.next (C : LC) (lane : Nat) : Nat := if lane < 1 ∧ C.f ≠ 0 then 1 else if lane < 2 ∧ C.s ≠ 0 then 2 else if lane < 3 ∧ C.o ≠ 0 then 3 else 4

theorem LC.opens_low (C : LC) (lane : Nat) {k : Nat} (h : k ≤ lane + 1) : C.opens lane k = [] := by
  simp only [LC.opens, List.filter_eq_nil_iff, List.mem_range]
  intro j hj
  have : ¬ lane < j := by omega
  simp [this]
theorem LC.opens_skip (C : LC) {lane k : Nat} (h : C.bud k = 0) : C.opens lane (k + 1) = C.opens lane k := by
  simp [LC.opens, List.range_succ, List.filter_append, h]
theorem LC.opens_take (C : LC) {lane k : Nat} (hl : lane < k) (h : C.bud k ≠ 0) : C.opens lane (k + 1) = C.opens lane k ++ [k] := by
  simp [LC.opens, List.range_succ, List.filter_append, h, hl]
theorem LC.opens_le (C : LC) (lane : Nat) {k m : Nat} (h : k ≤ m) : C.opens lane k <+: C.opens lane m := by
  obtain ⟨d, rfl⟩ := Nat.exists_eq_add_of_le h
  rw [LC.opens, LC.opens, List.range_add, List.filter_append]
  exact List.prefix_append _ _
theorem LC.opens_len (C : LC) (lane k : Nat) : (C.opens lane k).length ≤ k := by
  have := List.length_filter_le (fun j => decide (lane < j) && decide (C.bud j ≠ 0)) (List.range k)
  simpa [LC.opens] using this
theorem LC.opens_head (C : LC) {lane x : Nat} (hl : lane < 4) {pre : List Nat} (h : x :: pre <+: C.opens lane 5) : x = C.next lane := by
  have hr : List.range 5 = [0, 1, 2, 3, 4] := by decide
  have hx : (C.opens lane 5).head? = some x := by obtain ⟨t, ht⟩ := h; rw [← ht]; rfl
  have hb : ∀ j, C.bud j = C.bud j := fun _ => rfl
  simp only [LC.opens, hr] at hx
  unfold LC.next
  rcases (by omega : lane = 0 ∨ lane = 1 ∨ lane = 2 ∨ lane = 3) with rfl | rfl | rfl | rfl <;>
  by_cases h1 : C.f = 0 <;> by_cases h2 : C.s = 0 <;> by_cases h3 : C.o = 0 <;> simp [LC.bud, h1, h2, h3, List.filter_cons] at hx ⊢ <;> omega
theorem LC.opens_ne (C : LC) {lane : Nat} (hl : lane < 4) : C.opens lane 5 ≠ [] := by
  intro h
  have : 4 ∈ C.opens lane 5 := by simp [LC.opens, hl, LC.bud]
  rw [h] at this; cases this

theorem CtlAt.budCell {w : World} {b : Nat} {C : LC} (h : CtlAt w b C) {k : Nat} (hk : k < 5) : w.cell? ⟨b, k, none⟩ = some (.int .i64 (C.bud k)) := by
  rw [Blk.cell h]
  rcases (by omega : k = 0 ∨ k = 1 ∨ k = 2 ∨ k = 3 ∨ k = 4) with rfl | rfl | rfl | rfl | rfl <;> rfl

set_option maxRecDepth 100000 in
set_option maxHeartbeats 1000000 in
theorem open1_in (n : Nat) (hn : 1 ≤ n) (l Bx Bl n₀ b lane : Nat) (hla : lane < 4) (C : LC) (h1 : b < n₀) (J Jx : List Nat → World → Prop)
    (hY : ∀ (pre : List Nat) (x : Nat) W, J pre W → pre.length < 5 → YieldAt Fence.wide (n - 1) Try.prog l #[.int .i64 (x : Int)] W fun e W' =>
      (e = .returned (.bool true) ∧ J (pre ++ [x]) W' ∧ KeepB n₀ Bx W W') ∨ (e = .returned (.bool false) ∧ Jx (pre ++ [x]) W'))
    (W : World) (hL : Boxed W Bl 3 (.int .i64 (lane : Int))) (hB : Boxed W Bx 27 (.pointer (some ⟨b, 0, none⟩))) (hC : CtlAt W b C) (h0 : J [] W) :
    CallsIn Fence.wide n Try.prog 36 #[.func (.yield l) #[] #[], .pointer (some ⟨Bl, 0, none⟩), .pointer (some ⟨Bx, 0, none⟩)] W fun e W' => (∃ v, e = .returned v) ∧
      ((∃ ys, ys = C.opens lane 5 ∧ J ys W') ∨ (∃ pre, pre <+: C.opens lane 5 ∧ Jx pre W')) := by
  have hcL := hL.cell
  have hx0 : IntKind.i64.wrap ((lane : Int) + 1) = (lane : Int) + 1 := IntWalk.i64_in _ (by omega)
  refine callsIn_of_wp Try.func36 rfl trivial ?_ rfl
  simp only [Try.ntmps36, List.size_toArray, List.length_cons, List.length_nil, Nat.reduceAdd, Nat.reduceSub, Array.replicate_succ, Array.replicate_zero, List.push_toArray, List.append_toArray, List.nil_append, List.cons_append]
  gi_wp2
  gi_loopw [4] (fun i wr => ∃ k : Nat, lane < k ∧ k ≤ 5 ∧ i = .int .i64 k ∧ J (C.opens lane k) wr ∧ KeepB n₀ Bx W wr)
    (fun i _ => 5 - (intOf i).toNat)
  case atStart => exact ⟨lane + 1, by omega, by omega, by simp, by rw [C.opens_low lane (Nat.le_refl _)]; exact h0, Below.refl _ _, fun _ _ h => h⟩
  case round =>
    obtain ⟨k, hlk, hk, rfl, hJs, hnx⟩ := hrel
    by_cases hlt : k < 5
    · have hc := Boxed.cell (hnx.2 _ rfl hB)
      have hCr : CtlAt wr b C := (hnx.1.block _ h1).trans hC
      have hcb := CtlAt.budCell hCr hlt
      by_cases hb : C.bud k = 0
      · have hJn : J (C.opens lane (k + 1)) wr := by rw [C.opens_skip hb]; exact hJs
        rw [hb] at hcb
        clear hb
        gi_wp2
        refine ⟨(fun f h => by cases h), ?_⟩
        gi_wp2
        go_roundw
        case rel => exact ⟨k + 1, by omega, by omega, by simp, hJn, hnx⟩
        case measure => simp [intOf]; omega
      · obtain ⟨fn, tmps, assign, body, hy, hR⟩ := hY _ k wr hJs (by have := C.opens_len lane k; omega)
        have hbb : (C.bud k == 0) = false := by simpa using hb
        have hT := C.opens_take hlk hb
        rw [← hT] at hR
        generalize C.bud k = bk at *
        gi_wp2
        refine hR.mono ?_
        rintro e W3 (⟨rfl, hJ3, hk3⟩ | ⟨rfl, hJx3⟩)
        · gi_wp2
          go_roundw
          case rel => exact ⟨k + 1, by omega, by omega, by simp, hJ3, keepB_t hnx hk3⟩
          case measure => simp [intOf]; omega
        · gi_wp2
          refine bodyPost_ret (results_none rfl _ _ _) rfl ?_
          exact ⟨⟨_, rfl⟩, .inr ⟨C.opens lane (k + 1), C.opens_le lane (by omega), hJx3⟩⟩
    · obtain rfl : k = 5 := by omega
      gi_wp2
      go_end0
      exact ⟨⟨_, rfl⟩, .inl ⟨_, rfl, hJs⟩⟩

set_option maxHeartbeats 1000000 in
/-- **c.open(lane)**: the receiver and the lane are boxed. -/
theorem open_in (n : Nat) (p : Option Addr) (lane : Int) (w : World) :
    CallsIn Fence.wide n Try.prog 32 #[.pointer p, .int .i64 lane] w fun e w' => e = .returned (.func (.func 36) #[] #[.pointer (some ⟨w.heap.size + 1, 0, none⟩), .pointer (some ⟨w.heap.size, 0, none⟩)]) ∧ w' = (w.alloc (.cells #[.pointer p] 27)).alloc (.cells #[.int .i64 lane] 3) := by
  refine callsIn_of_wp Try.func32 rfl trivial ?_ rfl
  simp only [Try.ntmps32, List.size_toArray, List.length_cons, List.length_nil, Nat.reduceAdd, Nat.reduceSub, Array.replicate_succ, Array.replicate_zero, List.push_toArray, List.append_toArray, List.nil_append, List.cons_append]
  gi_wp2
  go_ret
  exact ⟨rfl, rfl⟩

theorem open_stops (n : Nat) (hn : 1 ≤ n) (Bx Bl n₀ b lane : Nat) (hla : lane < 4) (C : LC) (w : World) (h1 : b < n₀) (hn₀ : n₀ ≤ w.heap.size)
    (hL : Boxed w Bl 3 (.int .i64 (lane : Int))) (hB : Boxed w Bx 27 (.pointer (some ⟨b, 0, none⟩))) (hC : CtlAt w b C) :
    SeqStopsK Fence.wide n Try.prog 36 #[.pointer (some ⟨Bl, 0, none⟩), .pointer (some ⟨Bx, 0, none⟩)] (fun x : Nat => #[.int .i64 (x : Int)]) (KeepB n₀ Bx) (fun ys => ys = C.opens lane 5) (fun pre => pre <+: C.opens lane 5) 5 w := fun l J Jx W hW _ _ hY h0 =>
  open1_in n hn l Bx Bl n₀ b lane hla C h1 J Jx hY W ((hW.block _ hL.lt).trans hL) ((hW.block _ hB.lt).trans hB) ((hW.block _ (by omega)).trans hC) h0

def LC.to (C : LC) (k : Int) : LC := ⟨C.f, C.s, C.o, k, C.c0, C.c1, C.c2, C.c3, C.c4⟩
def NextPost (w : World) (b : Nat) (C : LC) (e : Ending) (w' : World) : Prop := e = .returned (.tuple #[]) ∧ CtlAt w' b C ∧ Chg [b] w w'

set_option maxRecDepth 100000 in
set_option maxHeartbeats 1000000 in
theorem next_in (n : Nat) (hn : 3 ≤ n) (b lane : Nat) (hla : lane < 4) (C : LC) (w : World) (hC : CtlAt w b C) :
    CallsIn Fence.wide n Try.prog 27 #[.pointer (some ⟨b, 0, none⟩), .int .i64 (lane : Int)] w (NextPost w b (C.to (C.next lane))) := by
  have h1 : 1 ≤ n := by omega
  refine callsIn_of_wp_marks Try.func27 rfl trivial ?_ rfl
  simp only [Try.ntmps27, List.size_toArray, List.length_cons, List.length_nil, Nat.reduceAdd, Nat.reduceSub, Array.replicate_succ, Array.replicate_zero, List.push_toArray, List.append_toArray, List.nil_append, List.cons_append]
  gi_wp2_with (refine ⟨trivial, ?_⟩; gi_at_call 32; refine (open_in (n - 1) _ _ _).mono ?_; rintro e w' ⟨rfl, rfl⟩)
  have bO := Boxed.new w 27 (.pointer (some ⟨b, 0, none⟩))
  have bN := Boxed.new (w.alloc (.cells #[.pointer (some ⟨b, 0, none⟩)] 27)) 27 (.pointer (some ⟨b, 0, none⟩))
  have bL := Boxed.new ((w.alloc (.cells #[.pointer (some ⟨b, 0, none⟩)] 27)).alloc (.cells #[.pointer (some ⟨b, 0, none⟩)] 27)) 3 (.int .i64 (lane : Int))
  have bO3 := (bO.alloc (.cells #[.pointer (some ⟨b, 0, none⟩)] 27)).alloc (.cells #[.int .i64 (lane : Int)] 3)
  have bN3 := bN.alloc (.cells #[.int .i64 (lane : Int)] 3)
  have hC3 : CtlAt _ b C := ((Blk.alloc hC (.cells #[.pointer (some ⟨b, 0, none⟩)] 27)).alloc (.cells #[.pointer (some ⟨b, 0, none⟩)] 27)).alloc (.cells #[.int .i64 (lane : Int)] 3)
  have hG3 := (((Chg.refl [b] w).alloc (.cells #[.pointer (some ⟨b, 0, none⟩)] 27)).alloc (.cells #[.pointer (some ⟨b, 0, none⟩)] 27)).alloc (.cells #[.int .i64 (lane : Int)] 3)
  simp only [World.size_alloc] at bO bN bL bO3 bN3
  have hlb := Blk.lt hC
  clear bO bN
  refine wpIn_rangeFunc_ownH rfl h1 (gf := 36) (lb := #[.pointer (some ⟨w.heap.size + 2, 0, none⟩), .pointer (some ⟨w.heap.size + 1, 0, none⟩)]) rfl trivial (enters_of Try.func36 (by kernel_rfl) rfl)
    (open_stops (n - 1) (by omega) (w.heap.size + 1) (w.heap.size + 2) w.heap.size b lane hla C _ hlb (by simp; omega) bL bN3 hC3) keepB_t (keepB_b (by simp; omega)) (Below.refl _ _) (fun _ => rfl)
    (fun pre W => pre = [] ∧ Boxed W w.heap.size 27 (.pointer (some ⟨b, 0, none⟩)) ∧ CtlAt W b C ∧ Chg [b] w W)
    (fun c pre W => c = .ret ∧ ∃ x : Nat, pre = [x] ∧ CtlAt W b (C.to (x : Int)) ∧ Chg [b] w W)
    ?own ?ownx
    ⟨rfl, bO3, hC3, hG3⟩
    (fun x a' W => a' = { tmps := #[.pointer (some ⟨b, 0, none⟩), .int .i64 (lane : Int), .pointer (some ⟨w.heap.size, 0, none⟩), undef, .int .i64 (x : Int), .pointer (some ⟨b, 0, none⟩), .int .i64 (lane : Int), .func (.func 36) #[] #[.pointer (some ⟨w.heap.size + 1 + 1, 0, none⟩), .pointer (some ⟨w.heap.size + 1, 0, none⟩)], .int .i64 (x : Int), undef, undef, undef, undef], defers := [] })
    (fun x a' s X Y row h1 hg hr => h1)
    ?assign ?body ?done ?stop
  case own =>
    rintro pre X Y row ⟨h1, h2, h3, h4⟩ hg hr
    exact ⟨h1, Own.from (blk_own (β := Unit) w.heap.size 27 [.pointer (some ⟨b, 0, none⟩)]) _ () X Y row h2 hg hr, Own.from (blk_own (β := Unit) _ _ _) _ () X Y row h3 hg hr, chg_own (β := Unit) (by simp; omega) () X Y row h4 hg hr⟩
  case ownx =>
    rintro c pre X Y row ⟨h1, x, h2, h3, h4⟩ hg hr
    exact ⟨h1, x, h2, Own.from (blk_own (β := Unit) _ _ _) _ () X Y row h3 hg hr, chg_own (β := Unit) (by simp; omega) () X Y row h4 hg hr⟩
  case assign =>
    rintro l pre x W K ⟨hp, hv, hCt, hCh⟩ hK
    gi_wp2
    exact hK _ _ (KeepsFrom.refl _ _) ⟨Below.refl _ _, fun _ _ h => h⟩ ⟨hp, hv, hCt, hCh⟩ rfl
  case body =>
    rintro l pre x a' W hl ⟨r, hr⟩ ⟨rfl, hv, hCt, hCh⟩ rfl hlt
    have hc := hv.cell
    have hcl : W.cell? ⟨b, 5, none⟩ = some (.int .i64 C.lane) := Blk.cell hCt 5
    have hfr := Blk.free hCt
    gi_wp2
    refine ⟨(KeepsOthers.setCell _ _ _).from _, rfl, x, rfl, Blk.set hCt 5 (.int .i64 (x : Int)), hCh.setCell (by simp) _⟩
  case done =>
    rintro D ys W hD rfl ⟨h1, _⟩ hK
    exact absurd h1 (C.opens_ne hla)
  case stop =>
    rintro D c pre W hD hpre ⟨rfl, x, rfl, hCt, hCh⟩ hK
    have hx := C.opens_head hla hpre
    subst hx
    gi_wp2
    have hDs : w.heap.size ≤ D := by simp at hD; omega
    refine ⟨by simp, .inl ⟨_, _, rfl, run_takeDeferred hK, ?_⟩⟩
    exact ⟨_, results_none rfl _ _ _, rfl, Blk.putObj hCt (by omega) _, hCh.putObj hDs _⟩

theorem next_any (b lane : Nat) (hla : lane < 4) (C : LC) (w : World) (hC : CtlAt w b C) :
    Calls Try.prog 27 #[.pointer (some ⟨b, 0, none⟩), .int .i64 (lane : Int)] w (NextPost w b (C.to (C.next lane))) :=
  callsIn_wide.1 (next_in 3 (Nat.le_refl _) b lane hla C w hC)

end Go.Proofs.Ytdaehfilmhagiaa
