/- Rounds. -/
import Derived.Test.YtagfalnfjiodcaaSched4
namespace Go.Proofs.Ytagfalnfjiodcaa
open Go.RowKit

theorem ownsRow_base {w : World} {base base' : Nat} {e : TypeId} {size : Nat} {v : Value} {n : Nat} {xs : List Value} (h : w.ownsRow base e size v n xs) (hb : base' ≤ base) : w.ownsRow base' e size v n xs := by
  refine ⟨h.1, ?_⟩
  rcases h.2 with x | ⟨g, cap, cur, e1, h1, r⟩
  · exact .inl x
  · exact .inr ⟨g, cap, cur, e1, Nat.le_trans hb h1, r⟩

/-- What a scheduler ends in: its turns, and its error. -/
def SPost (w : World) (l : IL) (err : Int) (e : Ending) (w' : World) : Prop := ∃ v, e = .returned (.tuple #[v, .int .i64 err]) ∧ w'.ownsRow w.heap.size 3 1 v l.length (l.map (Value.int .i64)) ∧ Chg [] w w'
theorem SPost.bad {w w' : World} {err : Int} (h : Chg [] w w') : SPost w [] err (.returned (.tuple #[.slice none 0 0, .int .i64 err])) w' := ⟨_, rfl, World.ownsRow_nil _ _ _ _, h⟩

theorem made_zero (k : Nat) : (madeCells (Value.int .i64 0).cells (k * 1)).toList = (List.replicate k (0 : Int)).map (Value.int .i64) := by
  rw [Nat.mul_one, show (Value.int .i64 0).cells = #[Value.int .i64 0] from rfl, toList_madeCells_one]; simp
theorem zeros_bad (k : Nat) : (List.replicate k (0 : Int)).any (badN 0) = false := by
  rw [List.any_eq_false]
  intro x hx
  obtain ⟨_, rfl⟩ := List.mem_replicate.1 hx
  decide
theorem mayL_zeros (k : Nat) (m : Int) : mayL (List.replicate k 0) 0 m = if k < 1 ∨ 4 < k then 240 else if m < 0 ∨ 10000 < m then 2 else 0 := by
  simp only [mayL, List.length_replicate, zeros_bad]
  simp

def mayN (c m : Int) : Int := if c < 1 ∨ 4 < c then 240 else if m < 0 ∨ 10000 < m then 2 else 0

set_option maxRecDepth 100000 in
set_option maxHeartbeats 2000000 in
theorem Rounds_out (w : World) (c m : Int) (h : c < 0 ∨ c = 0 ∨ c = 5 ∨ 5 < c) :
    Calls Try.prog 12 #[.int .i64 c, .int .i64 m] w (SPost w [] 240) := by
  obtain ⟨i0, hi, hz0, hz1, hz2⟩ := info_parts infoI64
  have main : ∀ k : Nat, (k = 0 ∨ k = 5) → mayL (List.replicate k 0) 0 m = 240 := fun k hk => by rw [mayL_zeros, if_pos (by omega)]
  rcases h with h | rfl | rfl | h
  · have HM := Lib.hid (main 0 (by decide))
    clear main
    go_enter Try.func12, Try.ntmps12
    go_wp2_with (first
      | (at_make; refine wpList_make_full _ rfl _ _ 23 rfl 0 3 i0 (.int .i64 0) 1 Try.underlying23 hi hz0 hz1 .i64 .i64 _ _ 0 rfl rfl rfl rfl (by rw [hz2]; decide) (by unfold maxLen; decide) (Nat.zero_le _) ?_; intro w1 hown hgrow; have HO := Lib.hid hown; have HG := Lib.hid (Chg.of_grown hgrow); clear hown hgrow))
    have hz : w1.ownsRow 0 3 1 (.slice (some ⟨w.heap.size + 1, 0, none⟩) 0 0) (List.replicate 0 (0 : Int)).length ((List.replicate 0 (0 : Int)).map (Value.int .i64)) := by
      have := HO.out
      rw [made_zero] at this
      simpa using this
    obtain ⟨A', cap', e1, _, hA⟩ := NumsA.of_row hz
    obtain ⟨rfl, rfl⟩ : some ⟨w.heap.size + 1, 0, none⟩ = A' ∧ 0 = cap' := by simpa using e1
    have hc := may_any w1 _ 0 _ 0 m (by simp) hA
    rw [List.length_replicate, HM.out] at hc
    have hC1 : Chg [] w w1 := ((Chg.refl [] w).alloc _).trans HG.out
    have HC1 := Lib.hid hC1
    clear hz hA hC1 e1
    refine hc.mono ?_
    clear hc
    rintro e w2 ⟨rfl, h2⟩
    have HC2 := Lib.hid (HC1.out.trans h2.1)
    clear h2
    go_wp2_with fail
    go_ret2
    exact SPost.bad HC2.out
  · have HM := Lib.hid (main 0 (by decide))
    clear main
    go_enter Try.func12, Try.ntmps12
    go_wp2_with (first
      | (at_make; refine wpList_make_full _ rfl _ _ 23 rfl 0 3 i0 (.int .i64 0) 1 Try.underlying23 hi hz0 hz1 .i64 .i64 _ _ 0 rfl rfl rfl rfl (by rw [hz2]; decide) (by unfold maxLen; decide) (Nat.zero_le _) ?_; intro w1 hown hgrow; have HO := Lib.hid hown; have HG := Lib.hid (Chg.of_grown hgrow); clear hown hgrow))
    have hz : w1.ownsRow 0 3 1 (.slice (some ⟨w.heap.size + 1, 0, none⟩) 0 0) (List.replicate 0 (0 : Int)).length ((List.replicate 0 (0 : Int)).map (Value.int .i64)) := by
      have := HO.out
      rw [made_zero] at this
      simpa using this
    obtain ⟨A', cap', e1, _, hA⟩ := NumsA.of_row hz
    obtain ⟨rfl, rfl⟩ : some ⟨w.heap.size + 1, 0, none⟩ = A' ∧ 0 = cap' := by simpa using e1
    have hc := may_any w1 _ 0 _ 0 m (by simp) hA
    rw [List.length_replicate, HM.out] at hc
    have hC1 : Chg [] w w1 := ((Chg.refl [] w).alloc _).trans HG.out
    have HC1 := Lib.hid hC1
    clear hz hA hC1 e1
    refine hc.mono ?_
    clear hc
    rintro e w2 ⟨rfl, h2⟩
    have HC2 := Lib.hid (HC1.out.trans h2.1)
    clear h2
    go_wp2_with fail
    go_ret2
    exact SPost.bad HC2.out
  · have HM := Lib.hid (main 5 (by decide))
    clear main
    go_enter Try.func12, Try.ntmps12
    go_wp2_with (first
      | (at_make; refine wpList_make_full _ rfl _ _ 23 rfl 0 3 i0 (.int .i64 0) 1 Try.underlying23 hi hz0 hz1 .i64 .i64 _ _ 5 rfl rfl rfl rfl (by rw [hz2]; decide) (by unfold maxLen; decide) (Nat.zero_le _) ?_; intro w1 hown hgrow; have HO := Lib.hid hown; have HG := Lib.hid (Chg.of_grown hgrow); clear hown hgrow))
    have hz : w1.ownsRow 0 3 1 (.slice (some ⟨w.heap.size + 1, 0, none⟩) 5 5) (List.replicate 5 (0 : Int)).length ((List.replicate 5 (0 : Int)).map (Value.int .i64)) := by
      have := HO.out
      rw [made_zero] at this
      simpa using this
    obtain ⟨A', cap', e1, _, hA⟩ := NumsA.of_row hz
    obtain ⟨rfl, rfl⟩ : some ⟨w.heap.size + 1, 0, none⟩ = A' ∧ 5 = cap' := by simpa using e1
    have hc := may_any w1 _ 5 _ 0 m (by simp) hA
    rw [List.length_replicate, HM.out] at hc
    have hC1 : Chg [] w w1 := ((Chg.refl [] w).alloc _).trans HG.out
    have HC1 := Lib.hid hC1
    clear hz hA hC1 e1
    refine hc.mono ?_
    clear hc
    rintro e w2 ⟨rfl, h2⟩
    have HC2 := Lib.hid (HC1.out.trans h2.1)
    clear h2
    go_wp2_with fail
    go_ret2
    exact SPost.bad HC2.out
  · have HM := Lib.hid (main 5 (by decide))
    clear main
    go_enter Try.func12, Try.ntmps12
    go_wp2_with (first
      | (at_make; refine wpList_make_full _ rfl _ _ 23 rfl 0 3 i0 (.int .i64 0) 1 Try.underlying23 hi hz0 hz1 .i64 .i64 _ _ 5 rfl rfl rfl rfl (by rw [hz2]; decide) (by unfold maxLen; decide) (Nat.zero_le _) ?_; intro w1 hown hgrow; have HO := Lib.hid hown; have HG := Lib.hid (Chg.of_grown hgrow); clear hown hgrow))
    have hz : w1.ownsRow 0 3 1 (.slice (some ⟨w.heap.size + 1, 0, none⟩) 5 5) (List.replicate 5 (0 : Int)).length ((List.replicate 5 (0 : Int)).map (Value.int .i64)) := by
      have := HO.out
      rw [made_zero] at this
      simpa using this
    obtain ⟨A', cap', e1, _, hA⟩ := NumsA.of_row hz
    obtain ⟨rfl, rfl⟩ : some ⟨w.heap.size + 1, 0, none⟩ = A' ∧ 5 = cap' := by simpa using e1
    have hc := may_any w1 _ 5 _ 0 m (by simp) hA
    rw [List.length_replicate, HM.out] at hc
    have hC1 : Chg [] w w1 := ((Chg.refl [] w).alloc _).trans HG.out
    have HC1 := Lib.hid hC1
    clear hz hA hC1 e1
    refine hc.mono ?_
    clear hc
    rintro e w2 ⟨rfl, h2⟩
    have HC2 := Lib.hid (HC1.out.trans h2.1)
    clear h2
    go_wp2_with fail
    go_ret2
    exact SPost.bad HC2.out

set_option maxRecDepth 100000 in
set_option maxHeartbeats 4000000 in
theorem Rounds_bad (w : World) (n : Nat) (m : Int) (h1 : 1 ≤ n) (h4 : n ≤ 4) (hm : m < 0 ∨ 10000 < m) :
    Calls Try.prog 12 #[.int .i64 (n : Int), .int .i64 m] w (SPost w [] 2) := by
  obtain ⟨i0, hi, hz0, hz1, hz2⟩ := info_parts infoI64
  have hn1 : (1 : Int) ≤ n := by omega
  have hn4 : (n : Int) ≤ 4 := by omega
  have HM := Lib.hid (show mayL (List.replicate n 0) 0 m = 2 from by rw [mayL_zeros, if_neg (by omega), if_pos hm])
  clear hm
  have HB := Lib.hid (Blk.new w [.int .i64 (n : Int)] 3)
  go_enter Try.func12, Try.ntmps12
  go_wp2_with (first
    | (at_make; refine wpList_make_full _ rfl _ _ 23 rfl 0 3 i0 (.int .i64 0) 1 Try.underlying23 hi hz0 hz1 .i64 .i64 _ _ n rfl rfl rfl rfl (by rw [hz2]; omega) (by unfold maxLen; omega) (Nat.zero_le _) ?_; intro w1 hown hgrow; have HO := Lib.hid hown; have HG := Lib.hid (Chg.of_grown hgrow); clear hown hgrow))
  have hz : w1.ownsRow 0 3 1 (.slice (some ⟨w.heap.size + 1, 0, none⟩) n n) (List.replicate n (0 : Int)).length ((List.replicate n (0 : Int)).map (Value.int .i64)) := by
    have := HO.out
    rw [made_zero] at this
    simpa using this
  obtain ⟨A', cap', e1, _, hA⟩ := NumsA.of_row hz
  obtain ⟨rfl, rfl⟩ : some ⟨w.heap.size + 1, 0, none⟩ = A' ∧ n = cap' := by simpa using e1
  have hc := may_any w1 _ n _ 0 m (by simp; omega) hA
  rw [List.length_replicate, HM.out] at hc
  have hC1 : Chg [] w w1 := ((Chg.refl [] w).alloc _).trans HG.out
  have hB1 := HG.out.blk HB.out (by simp)
  have HB1 := Lib.hid hB1
  have HC1 := Lib.hid hC1
  clear hz hA hC1 hB1 e1
  refine hc.mono ?_
  clear hc
  rintro e w2 ⟨rfl, h2⟩
  have HC2 := Lib.hid (HC1.out.trans h2.1)
  have HB2 := Lib.hid (h2.1.blk HB1.out (by simp))
  have hs2 := HC1.out.size
  clear h2
  go_wp2_with fail
  go_ret2
  exact SPost.bad HC2.out

set_option maxRecDepth 100000 in
set_option maxHeartbeats 4000000 in
theorem Rounds_ok (w : World) (n M : Nat) (h1 : 1 ≤ n) (h4 : n ≤ 4) (hM : M ≤ 10000) :
    Calls Try.prog 12 #[.int .i64 (n : Int), .int .i64 (M : Int)] w (SPost w (outs (fun t => ((t % n : Nat) : Int)) M) 0) := by
  obtain ⟨i0, hi, hz0, hz1, hz2⟩ := info_parts infoI64
  have hn1 : (1 : Int) ≤ n := by omega
  have hn4 : (n : Int) ≤ 4 := by omega
  have HM := Lib.hid (show mayL (List.replicate n 0) 0 (M : Int) = 0 from by rw [mayL_zeros, if_neg (by omega), if_neg (by omega)])
  have HB := Lib.hid (Blk.new w [.int .i64 (n : Int)] 3)
  go_enter Try.func12, Try.ntmps12
  go_wp2_with (first
    | (at_make; refine wpList_make_full _ rfl _ _ 23 rfl 0 3 i0 (.int .i64 0) 1 Try.underlying23 hi hz0 hz1 .i64 .i64 _ _ n rfl rfl rfl rfl (by rw [hz2]; omega) (by unfold maxLen; omega) (Nat.zero_le _) ?_; intro w1 hown hgrow; have HO := Lib.hid hown; have HG := Lib.hid (Chg.of_grown hgrow); clear hown hgrow))
  have hz : w1.ownsRow 0 3 1 (.slice (some ⟨w.heap.size + 1, 0, none⟩) n n) (List.replicate n (0 : Int)).length ((List.replicate n (0 : Int)).map (Value.int .i64)) := by
    have := HO.out
    rw [made_zero] at this
    simpa using this
  obtain ⟨A', cap', e1, _, hA⟩ := NumsA.of_row hz
  obtain ⟨rfl, rfl⟩ : some ⟨w.heap.size + 1, 0, none⟩ = A' ∧ n = cap' := by simpa using e1
  have hc := may_any w1 _ n _ 0 (M : Int) (by simp; omega) hA
  rw [List.length_replicate, HM.out] at hc
  have hC1 : Chg [] w w1 := ((Chg.refl [] w).alloc _).trans HG.out
  have hB1 := HG.out.blk HB.out (by simp)
  have HB1 := Lib.hid hB1
  have HC1 := Lib.hid hC1
  clear hz hA hC1 hB1 e1
  refine hc.mono ?_
  clear hc
  rintro e w2 ⟨rfl, h2⟩
  have HC2 := Lib.hid (HC1.out.trans h2.1)
  have HB2 := Lib.hid (h2.1.blk HB1.out (by simp))
  have hs2 := HC1.out.size
  clear h2
  go_wp2_with fail
  refine (callsIn_wide.1 (turns_in 0 _ _ ⟨_, _, rfl⟩ _)).mono ?_
  rintro e w' ⟨rfl, rfl⟩
  go_wp2_with fail
  have b0 := ((Blk.new w2 [.int .i64 (-1)] 3).alloc (.cells #[.int .i64 (M : Int)] 3)).alloc (.cells #[.func (.func 35) #[] #[.pointer (some ⟨w2.heap.size, 0, none⟩), .pointer (some ⟨w.heap.size, 0, none⟩)]] 64)
  have b1 := (Blk.new (w2.alloc (.cells #[.int .i64 (-1)] 3)) [.int .i64 (M : Int)] 3).alloc (.cells #[.func (.func 35) #[] #[.pointer (some ⟨w2.heap.size, 0, none⟩), .pointer (some ⟨w.heap.size, 0, none⟩)]] 64)
  have b2 := Blk.new ((w2.alloc (.cells #[.int .i64 (-1)] 3)).alloc (.cells #[.int .i64 (M : Int)] 3)) [.func (.func 35) #[] #[.pointer (some ⟨w2.heap.size, 0, none⟩), .pointer (some ⟨w.heap.size, 0, none⟩)]] 64
  have bc := (((HB2.out.alloc (.cells #[.int .i64 (-1)] 3)).alloc (.cells #[.int .i64 (M : Int)] 3)).alloc (.cells #[.func (.func 35) #[] #[.pointer (some ⟨w2.heap.size, 0, none⟩), .pointer (some ⟨w.heap.size, 0, none⟩)]] 64))
  have hC3 := (((HC2.out.alloc (.cells #[.int .i64 (-1)] 3)).alloc (.cells #[.int .i64 (M : Int)] 3)).alloc (.cells #[.func (.func 35) #[] #[.pointer (some ⟨w2.heap.size, 0, none⟩), .pointer (some ⟨w.heap.size, 0, none⟩)]] 64))
  simp only [World.size_alloc] at b1 b2
  have hsz3 : (((w2.alloc (.cells #[.int .i64 (-1)] 3)).alloc (.cells #[.int .i64 (M : Int)] 3)).alloc (.cells #[.func (.func 35) #[] #[.pointer (some ⟨w2.heap.size, 0, none⟩), .pointer (some ⟨w.heap.size, 0, none⟩)]] 64)).heap.size = w2.heap.size + 1 + 1 + 1 := by simp
  have hwc : w.heap.size < w2.heap.size := HB2.out.lt
  generalize ((w2.alloc (.cells #[.int .i64 (-1)] 3)).alloc (.cells #[.int .i64 (M : Int)] 3)).alloc (.cells #[.func (.func 35) #[] #[.pointer (some ⟨w2.heap.size, 0, none⟩), .pointer (some ⟨w.heap.size, 0, none⟩)]] 64) = w3 at b0 b1 b2 bc hC3 hsz3 ⊢
  have hseq := turns_rounds 2 (Nat.le_refl _) (w2.heap.size + 1) (w2.heap.size + 1 + 1) w3.heap.size M w2.heap.size w.heap.size hM [w2.heap.size] (fun t => ((t % n : Nat) : Int)) (fun j W => Blk W w2.heap.size [.int .i64 (rX n j)] 3 ∧ Blk W w.heap.size [.int .i64 (n : Int)] 3) (fun h => by have := List.mem_singleton.1 h; omega) (fun h => by have := List.mem_singleton.1 h; omega) (by omega) (by omega)
    (fun j W _ hS => rounds1_any W w2.heap.size w.heap.size n j h1 h4 hS.1 hS.2 (by omega)) (fun j X Y hS hb => ⟨(hb.block _ (by omega)).trans hS.1, (hb.block _ (by omega)).trans hS.2⟩) w3 (Nat.le_refl _) ⟨b0, bc⟩ b1 b2
  have hall := callsIn_wide.1 (all_in 3 (Nat.le_refl _) [w2.heap.size] (w2.heap.size + 1) (w2.heap.size + 1 + 1) (outs (fun t => ((t % n : Nat) : Int)) M) (by rw [outs_len]; exact hM) w3 (by simp; omega) (by rw [outs_len]; exact hseq))
  have HC3 := Lib.hid hC3
  have hws : w.heap.size ≤ w3.heap.size := by omega
  have HZ := Lib.hid hsz3
  clear hseq b0 b1 b2 bc hC3 hsz3
  refine hall.mono ?_
  clear hall
  rintro e w4 ⟨v, rfl, hv, hc⟩
  have HV := Lib.hid (ownsRow_base hv hws)
  have HC4 := Lib.hid (HC3.out.trans' hc (by simp; omega))
  clear hv hc
  go_wp2_with fail
  go_ret2
  exact ⟨v, rfl, HV.out, HC4.out⟩

end Go.Proofs.Ytagfalnfjiodcaa
