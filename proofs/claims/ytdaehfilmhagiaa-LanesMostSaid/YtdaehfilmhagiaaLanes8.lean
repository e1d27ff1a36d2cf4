/- LanesMost. -/
import Derived.Test.YtdaehfilmhagiaaLanes7
import Derived.Test.YtdaehfilmhagiaaOpen
namespace Go.Proofs.Ytdaehfilmhagiaa
open Go.RowKit

set_option maxRecDepth 100000 in
set_option maxHeartbeats 1000000 in
theorem LanesMost_bad (w : World) (f s o : Int) (hm : ¬ may f s o) (k : Nat) (hk : k < 3) (hbad : ¬ mayOne (budL f s o (1 + k))) (hgood : ∀ j, 1 ≤ j → j ≤ k → mayOne (budL f s o j)) :
    Calls Try.prog 5 #[.agg #[.int .i64 f, .int .i64 s, .int .i64 o]] w (StaysPost w) := by
  go_enter Try.func5, Try.ntmps5
  go_wp2_with fail
  have kb := Blk.new w [.int .i64 f, .int .i64 s, .int .i64 o] 23
  refine (alive_any _).mono ?_
  rintro e w1 ⟨rfl, hC1⟩
  have hC := ((Chg.refl [] w).alloc (.cells #[.int .i64 f, .int .i64 s, .int .i64 o] 23)).trans hC1
  replace kb := hC1.blk kb (by simp)
  clear hC1
  have hbb : w.heap.size ≤ w.heap.size := Nat.le_refl _
  obtain ⟨bb, hbe⟩ : ∃ bb, bb = w.heap.size := ⟨_, rfl⟩
  rw [← hbe] at kb ⊢
  have x0 : w1.cell? ⟨bb, 0, none⟩ = some (.int .i64 f) := kb.cell 0
  have x1 : w1.cell? ⟨bb, 1, none⟩ = some (.int .i64 s) := kb.cell 1
  have x2 : w1.cell? ⟨bb, 2, none⟩ = some (.int .i64 o) := kb.cell 2
  clear hbb hbe
  go_wp2_with fail
  refine (Most_any _ f s o).mono ?_
  rintro e w2 ⟨rfl, hC2⟩
  rw [if_neg hm, if_neg hm]
  replace hC := hC.trans hC2
  replace kb := hC2.blk kb (by simp)
  have x0 : w2.cell? ⟨bb, 0, none⟩ = some (.int .i64 f) := kb.cell 0
  have x1 : w2.cell? ⟨bb, 1, none⟩ = some (.int .i64 s) := kb.cell 1
  have x2 : w2.cell? ⟨bb, 2, none⟩ = some (.int .i64 o) := kb.cell 2
  clear hC2
  have HM := Lib.hid hm
  clear hm
  go_wp2_with fail
  refine (New_bad _ f s o HM.out).mono ?_
  rintro e w3 ⟨rfl, hC3⟩
  replace hC := hC.trans hC3
  replace kb := hC3.blk kb (by simp)
  have x0 : w3.cell? ⟨bb, 0, none⟩ = some (.int .i64 f) := kb.cell 0
  have x1 : w3.cell? ⟨bb, 1, none⟩ = some (.int .i64 s) := kb.cell 1
  have x2 : w3.cell? ⟨bb, 2, none⟩ = some (.int .i64 o) := kb.cell 2
  clear hC3
  go_wp2_with fail
  have ks := Blk.new w3 [.int .i64 f, .int .i64 s, .int .i64 o] 3
  replace hC := hC.alloc (.cells #[.int .i64 f, .int .i64 s, .int .i64 o] 3)
  replace kb := kb.alloc (.cells #[.int .i64 f, .int .i64 s, .int .i64 o] 3)
  generalize w3.alloc (.cells #[.int .i64 f, .int .i64 s, .int .i64 o] 3) = W at *
  generalize w3.heap.size = sb at *
  have hlk : ∀ j : Nat, j < 3 → W.cell? ⟨sb, j, none⟩ = some (.int .i64 (budL f s o (1 + j))) := fun j hj => by
    rw [ks.cell]
    rcases (by omega : j = 0 ∨ j = 1 ∨ j = 2) with rfl | rfl | rfl <;> rfl
  clear ks
  have HC := Lib.hid hC
  clear hC kb
  go_loopw [32] (fun i wr => ∃ j : Nat, j ≤ k ∧ i = .int .i64 j ∧ wr = W) (fun i _ => 3 - (intOf i).toNat)
  case atStart => exact ⟨0, by omega, rfl, rfl⟩
  case round =>
    obtain ⟨j, hj, rfl, rfl⟩ := hrel
    have hck := hlk j (by omega)
    by_cases hlt : j < k
    · have hg := hgood (1 + j) (by omega) (by omega)
      clear hlk hgood hbad
      generalize budL f s o (1 + j) = v at *
      obtain ⟨v0, v1⟩ := hg
      go_wp2_with fail
      go_roundw
      case rel => exact ⟨j + 1, by omega, by go_num, by simp⟩
      case measure => simp [intOf]; omega
    · obtain rfl : j = k := by omega
      clear hlk hgood
      generalize budL f s o (1 + j) = v at *
      by_cases hv : v < 0
      · clear hbad
        go_wp2_with fail
        go_ret
        exact ⟨rfl, HC.out.nil_below⟩
      · have hv2 : 16 < v := by simp only [mayOne] at hbad; omega
        clear hbad
        go_wp2_with fail
        go_ret
        exact ⟨rfl, HC.out.nil_below⟩

set_option maxRecDepth 100000 in
set_option maxHeartbeats 1000000 in
theorem LanesMost_f (w : World) (f s o : Int) (hm : may f s o) (hf : 0 < f) (hnx : LC.next (LC.new f s o) 0 = 1) :
    Calls Try.prog 5 #[.agg #[.int .i64 f, .int .i64 s, .int .i64 o]] w (StaysPost w) := by
  have hgood : ∀ j, 1 ≤ j → j ≤ 3 → mayOne (budL f s o j) := fun j h1 h3 => by
    obtain ⟨h1, h2, h3⟩ := hm
    rcases (by omega : j = 1 ∨ j = 2 ∨ j = 3) with rfl | rfl | rfl <;> assumption
  have hw : IntKind.i64.wrap (f + s) = f + s := by
    obtain ⟨⟨_, _⟩, ⟨_, _⟩, _⟩ := hm
    exact IntWalk.i64_in _ (by omega)
  go_enter Try.func5, Try.ntmps5
  go_wp2_with fail
  have kb := Blk.new w [.int .i64 f, .int .i64 s, .int .i64 o] 23
  refine (alive_any _).mono ?_
  rintro e w1 ⟨rfl, hC1⟩
  have hC := ((Chg.refl [] w).alloc (.cells #[.int .i64 f, .int .i64 s, .int .i64 o] 23)).trans hC1
  replace kb := hC1.blk kb (by simp)
  clear hC1
  have hbb : w.heap.size ≤ w.heap.size := Nat.le_refl _
  obtain ⟨bb, hbe⟩ : ∃ bb, bb = w.heap.size := ⟨_, rfl⟩
  rw [← hbe] at kb ⊢
  have x0 : w1.cell? ⟨bb, 0, none⟩ = some (.int .i64 f) := kb.cell 0
  have x1 : w1.cell? ⟨bb, 1, none⟩ = some (.int .i64 s) := kb.cell 1
  have x2 : w1.cell? ⟨bb, 2, none⟩ = some (.int .i64 o) := kb.cell 2
  clear hbb hbe
  go_wp2_with fail
  refine (Most_any _ f s o).mono ?_
  rintro e w2 ⟨rfl, hC2⟩
  rw [if_pos hm, if_pos hm]
  replace hC := hC.trans hC2
  replace kb := hC2.blk kb (by simp)
  have x0 : w2.cell? ⟨bb, 0, none⟩ = some (.int .i64 f) := kb.cell 0
  have x1 : w2.cell? ⟨bb, 1, none⟩ = some (.int .i64 s) := kb.cell 1
  have x2 : w2.cell? ⟨bb, 2, none⟩ = some (.int .i64 o) := kb.cell 2
  clear hC2
  have HM := Lib.hid hm
  clear hm
  go_wp2_with fail
  refine (New_ok _ f s o HM.out).mono ?_
  rintro e w3 ⟨b, rfl, hb, hCt, hC3⟩
  have hlb : w.heap.size ≤ b := Nat.le_trans hC.size hb
  replace hC := hC.trans hC3
  replace kb := hC3.blk kb (by simp)
  have x0 : w3.cell? ⟨bb, 0, none⟩ = some (.int .i64 f) := kb.cell 0
  have x1 : w3.cell? ⟨bb, 1, none⟩ = some (.int .i64 s) := kb.cell 1
  have x2 : w3.cell? ⟨bb, 2, none⟩ = some (.int .i64 o) := kb.cell 2
  clear hC3
  go_wp2_with fail
  have ks := Blk.new w3 [.int .i64 f, .int .i64 s, .int .i64 o] 3
  replace hC := hC.alloc (.cells #[.int .i64 f, .int .i64 s, .int .i64 o] 3)
  replace kb := kb.alloc (.cells #[.int .i64 f, .int .i64 s, .int .i64 o] 3)
  replace hCt : CtlAt (w3.alloc (.cells #[.int .i64 f, .int .i64 s, .int .i64 o] 3)) b (LC.new f s o) := Blk.alloc hCt _
  generalize w3.alloc (.cells #[.int .i64 f, .int .i64 s, .int .i64 o] 3) = W at *
  generalize w3.heap.size = sb at *
  have hlk : ∀ j : Nat, j < 3 → W.cell? ⟨sb, j, none⟩ = some (.int .i64 (budL f s o (1 + j))) := fun j hj => by
    rw [ks.cell]
    rcases (by omega : j = 0 ∨ j = 1 ∨ j = 2) with rfl | rfl | rfl <;> rfl
  clear ks
  have HC := Lib.hid hC
  have HH := Lib.hid hlb
  clear hC hlb hb
  have hbne : bb ≠ b := kb.ne hCt (by decide)
  go_loopw [32] (fun i wr => ∃ j : Nat, j ≤ 3 ∧ i = .int .i64 j ∧ wr = W) (fun i _ => 3 - (intOf i).toNat)
  case atStart => exact ⟨0, by omega, rfl, rfl⟩
  case round =>
    obtain ⟨j, hj, rfl, rfl⟩ := hrel
    by_cases hlt : j < 3
    · have hg := hgood (1 + j) (by omega) (by omega)
      have hck := hlk j (by omega)
      clear hlk hgood kb hCt
      generalize budL f s o (1 + j) = v at *
      obtain ⟨v0, v1⟩ := hg
      go_wp2_with fail
      go_roundw
      case rel => exact ⟨j + 1, by omega, by go_num, by simp⟩
      case measure => simp [intOf]; omega
    · obtain rfl : j = 3 := by omega
      clear hlk hgood
      by_cases q1 : 0 < o <;> by_cases q2 : 0 < s
      all_goals
        go_wp2_with fail
        refine (Enter_any _ b _ hCt).mono ?_
        rintro e w4 ⟨rfl, hC4, hCh4⟩
        have m1 : enterLane (LC.new f s o) = 1 := by simp [enterLane, LC.new] at hnx ⊢; exact_mod_cast hnx
        have m2 : enterErr (LC.new f s o) = 0 := rfl
        rw [m1, m2]
        replace kb := hCh4.blk kb (by simpa using hbne)
        have x0 : w4.cell? ⟨bb, 0, none⟩ = some (.int .i64 f) := kb.cell 0
        have x1 : w4.cell? ⟨bb, 1, none⟩ = some (.int .i64 s) := kb.cell 1
        have x2 : w4.cell? ⟨bb, 2, none⟩ = some (.int .i64 o) := kb.cell 2
        clear hC4 hnx m1 m2
        go_wp2_with fail
        go_ret
        refine ⟨rfl, below_chg HC.out.nil_below hCh4 ?_ (Nat.le_refl _)⟩
        intro x hx
        have := HH.out
        simp at hx; omega

set_option maxRecDepth 100000 in
set_option maxHeartbeats 1000000 in
theorem LanesMost_s (w : World) (f s o : Int) (hm : may f s o) (hf : ¬ 0 < f) (hs : 0 < s) (hnx : LC.next (LC.new f s o) 0 = 2) :
    Calls Try.prog 5 #[.agg #[.int .i64 f, .int .i64 s, .int .i64 o]] w (StaysPost w) := by
  have hgood : ∀ j, 1 ≤ j → j ≤ 3 → mayOne (budL f s o j) := fun j h1 h3 => by
    obtain ⟨h1, h2, h3⟩ := hm
    rcases (by omega : j = 1 ∨ j = 2 ∨ j = 3) with rfl | rfl | rfl <;> assumption
  have hw : IntKind.i64.wrap (f + s) = f + s := by
    obtain ⟨⟨_, _⟩, ⟨_, _⟩, _⟩ := hm
    exact IntWalk.i64_in _ (by omega)
  go_enter Try.func5, Try.ntmps5
  go_wp2_with fail
  have kb := Blk.new w [.int .i64 f, .int .i64 s, .int .i64 o] 23
  refine (alive_any _).mono ?_
  rintro e w1 ⟨rfl, hC1⟩
  have hC := ((Chg.refl [] w).alloc (.cells #[.int .i64 f, .int .i64 s, .int .i64 o] 23)).trans hC1
  replace kb := hC1.blk kb (by simp)
  clear hC1
  have hbb : w.heap.size ≤ w.heap.size := Nat.le_refl _
  obtain ⟨bb, hbe⟩ : ∃ bb, bb = w.heap.size := ⟨_, rfl⟩
  rw [← hbe] at kb ⊢
  have x0 : w1.cell? ⟨bb, 0, none⟩ = some (.int .i64 f) := kb.cell 0
  have x1 : w1.cell? ⟨bb, 1, none⟩ = some (.int .i64 s) := kb.cell 1
  have x2 : w1.cell? ⟨bb, 2, none⟩ = some (.int .i64 o) := kb.cell 2
  clear hbb hbe
  go_wp2_with fail
  refine (Most_any _ f s o).mono ?_
  rintro e w2 ⟨rfl, hC2⟩
  rw [if_pos hm, if_pos hm]
  replace hC := hC.trans hC2
  replace kb := hC2.blk kb (by simp)
  have x0 : w2.cell? ⟨bb, 0, none⟩ = some (.int .i64 f) := kb.cell 0
  have x1 : w2.cell? ⟨bb, 1, none⟩ = some (.int .i64 s) := kb.cell 1
  have x2 : w2.cell? ⟨bb, 2, none⟩ = some (.int .i64 o) := kb.cell 2
  clear hC2
  have HM := Lib.hid hm
  clear hm
  go_wp2_with fail
  refine (New_ok _ f s o HM.out).mono ?_
  rintro e w3 ⟨b, rfl, hb, hCt, hC3⟩
  have hlb : w.heap.size ≤ b := Nat.le_trans hC.size hb
  replace hC := hC.trans hC3
  replace kb := hC3.blk kb (by simp)
  have x0 : w3.cell? ⟨bb, 0, none⟩ = some (.int .i64 f) := kb.cell 0
  have x1 : w3.cell? ⟨bb, 1, none⟩ = some (.int .i64 s) := kb.cell 1
  have x2 : w3.cell? ⟨bb, 2, none⟩ = some (.int .i64 o) := kb.cell 2
  clear hC3
  go_wp2_with fail
  have ks := Blk.new w3 [.int .i64 f, .int .i64 s, .int .i64 o] 3
  replace hC := hC.alloc (.cells #[.int .i64 f, .int .i64 s, .int .i64 o] 3)
  replace kb := kb.alloc (.cells #[.int .i64 f, .int .i64 s, .int .i64 o] 3)
  replace hCt : CtlAt (w3.alloc (.cells #[.int .i64 f, .int .i64 s, .int .i64 o] 3)) b (LC.new f s o) := Blk.alloc hCt _
  generalize w3.alloc (.cells #[.int .i64 f, .int .i64 s, .int .i64 o] 3) = W at *
  generalize w3.heap.size = sb at *
  have hlk : ∀ j : Nat, j < 3 → W.cell? ⟨sb, j, none⟩ = some (.int .i64 (budL f s o (1 + j))) := fun j hj => by
    rw [ks.cell]
    rcases (by omega : j = 0 ∨ j = 1 ∨ j = 2) with rfl | rfl | rfl <;> rfl
  clear ks
  have HC := Lib.hid hC
  have HH := Lib.hid hlb
  clear hC hlb hb
  have hbne : bb ≠ b := kb.ne hCt (by decide)
  go_loopw [32] (fun i wr => ∃ j : Nat, j ≤ 3 ∧ i = .int .i64 j ∧ wr = W) (fun i _ => 3 - (intOf i).toNat)
  case atStart => exact ⟨0, by omega, rfl, rfl⟩
  case round =>
    obtain ⟨j, hj, rfl, rfl⟩ := hrel
    by_cases hlt : j < 3
    · have hg := hgood (1 + j) (by omega) (by omega)
      have hck := hlk j (by omega)
      clear hlk hgood kb hCt
      generalize budL f s o (1 + j) = v at *
      obtain ⟨v0, v1⟩ := hg
      go_wp2_with fail
      go_roundw
      case rel => exact ⟨j + 1, by omega, by go_num, by simp⟩
      case measure => simp [intOf]; omega
    · obtain rfl : j = 3 := by omega
      clear hlk hgood
      by_cases q1 : 0 < o
      all_goals
        go_wp2_with fail
        refine (Enter_any _ b _ hCt).mono ?_
        rintro e w4 ⟨rfl, hC4, hCh4⟩
        have m1 : enterLane (LC.new f s o) = 2 := by simp [enterLane, LC.new] at hnx ⊢; exact_mod_cast hnx
        have m2 : enterErr (LC.new f s o) = 0 := rfl
        rw [m1, m2]
        replace kb := hCh4.blk kb (by simpa using hbne)
        have x0 : w4.cell? ⟨bb, 0, none⟩ = some (.int .i64 f) := kb.cell 0
        have x1 : w4.cell? ⟨bb, 1, none⟩ = some (.int .i64 s) := kb.cell 1
        have x2 : w4.cell? ⟨bb, 2, none⟩ = some (.int .i64 o) := kb.cell 2
        clear hC4 hnx m1 m2
        go_wp2_with fail
        go_ret
        refine ⟨rfl, below_chg HC.out.nil_below hCh4 ?_ (Nat.le_refl _)⟩
        intro x hx
        have := HH.out
        simp at hx; omega

set_option maxRecDepth 100000 in
set_option maxHeartbeats 1000000 in
theorem LanesMost_o (w : World) (f s o : Int) (hm : may f s o) (hf : ¬ 0 < f) (hs : ¬ 0 < s) (ho : 0 < o) (hnx : LC.next (LC.new f s o) 0 = 3) :
    Calls Try.prog 5 #[.agg #[.int .i64 f, .int .i64 s, .int .i64 o]] w (StaysPost w) := by
  have hgood : ∀ j, 1 ≤ j → j ≤ 3 → mayOne (budL f s o j) := fun j h1 h3 => by
    obtain ⟨h1, h2, h3⟩ := hm
    rcases (by omega : j = 1 ∨ j = 2 ∨ j = 3) with rfl | rfl | rfl <;> assumption
  have hw : IntKind.i64.wrap (f + s) = f + s := by
    obtain ⟨⟨_, _⟩, ⟨_, _⟩, _⟩ := hm
    exact IntWalk.i64_in _ (by omega)
  go_enter Try.func5, Try.ntmps5
  go_wp2_with fail
  have kb := Blk.new w [.int .i64 f, .int .i64 s, .int .i64 o] 23
  refine (alive_any _).mono ?_
  rintro e w1 ⟨rfl, hC1⟩
  have hC := ((Chg.refl [] w).alloc (.cells #[.int .i64 f, .int .i64 s, .int .i64 o] 23)).trans hC1
  replace kb := hC1.blk kb (by simp)
  clear hC1
  have hbb : w.heap.size ≤ w.heap.size := Nat.le_refl _
  obtain ⟨bb, hbe⟩ : ∃ bb, bb = w.heap.size := ⟨_, rfl⟩
  rw [← hbe] at kb ⊢
  have x0 : w1.cell? ⟨bb, 0, none⟩ = some (.int .i64 f) := kb.cell 0
  have x1 : w1.cell? ⟨bb, 1, none⟩ = some (.int .i64 s) := kb.cell 1
  have x2 : w1.cell? ⟨bb, 2, none⟩ = some (.int .i64 o) := kb.cell 2
  clear hbb hbe
  go_wp2_with fail
  refine (Most_any _ f s o).mono ?_
  rintro e w2 ⟨rfl, hC2⟩
  rw [if_pos hm, if_pos hm]
  replace hC := hC.trans hC2
  replace kb := hC2.blk kb (by simp)
  have x0 : w2.cell? ⟨bb, 0, none⟩ = some (.int .i64 f) := kb.cell 0
  have x1 : w2.cell? ⟨bb, 1, none⟩ = some (.int .i64 s) := kb.cell 1
  have x2 : w2.cell? ⟨bb, 2, none⟩ = some (.int .i64 o) := kb.cell 2
  clear hC2
  have HM := Lib.hid hm
  clear hm
  go_wp2_with fail
  refine (New_ok _ f s o HM.out).mono ?_
  rintro e w3 ⟨b, rfl, hb, hCt, hC3⟩
  have hlb : w.heap.size ≤ b := Nat.le_trans hC.size hb
  replace hC := hC.trans hC3
  replace kb := hC3.blk kb (by simp)
  have x0 : w3.cell? ⟨bb, 0, none⟩ = some (.int .i64 f) := kb.cell 0
  have x1 : w3.cell? ⟨bb, 1, none⟩ = some (.int .i64 s) := kb.cell 1
  have x2 : w3.cell? ⟨bb, 2, none⟩ = some (.int .i64 o) := kb.cell 2
  clear hC3
  go_wp2_with fail
  have ks := Blk.new w3 [.int .i64 f, .int .i64 s, .int .i64 o] 3
  replace hC := hC.alloc (.cells #[.int .i64 f, .int .i64 s, .int .i64 o] 3)
  replace kb := kb.alloc (.cells #[.int .i64 f, .int .i64 s, .int .i64 o] 3)
  replace hCt : CtlAt (w3.alloc (.cells #[.int .i64 f, .int .i64 s, .int .i64 o] 3)) b (LC.new f s o) := Blk.alloc hCt _
  generalize w3.alloc (.cells #[.int .i64 f, .int .i64 s, .int .i64 o] 3) = W at *
  generalize w3.heap.size = sb at *
  have hlk : ∀ j : Nat, j < 3 → W.cell? ⟨sb, j, none⟩ = some (.int .i64 (budL f s o (1 + j))) := fun j hj => by
    rw [ks.cell]
    rcases (by omega : j = 0 ∨ j = 1 ∨ j = 2) with rfl | rfl | rfl <;> rfl
  clear ks
  have HC := Lib.hid hC
  have HH := Lib.hid hlb
  clear hC hlb hb
  have hbne : bb ≠ b := kb.ne hCt (by decide)
  go_loopw [32] (fun i wr => ∃ j : Nat, j ≤ 3 ∧ i = .int .i64 j ∧ wr = W) (fun i _ => 3 - (intOf i).toNat)
  case atStart => exact ⟨0, by omega, rfl, rfl⟩
  case round =>
    obtain ⟨j, hj, rfl, rfl⟩ := hrel
    by_cases hlt : j < 3
    · have hg := hgood (1 + j) (by omega) (by omega)
      have hck := hlk j (by omega)
      clear hlk hgood kb hCt
      generalize budL f s o (1 + j) = v at *
      obtain ⟨v0, v1⟩ := hg
      go_wp2_with fail
      go_roundw
      case rel => exact ⟨j + 1, by omega, by go_num, by simp⟩
      case measure => simp [intOf]; omega
    · obtain rfl : j = 3 := by omega
      clear hlk hgood
      go_wp2_with fail
      refine (Enter_any _ b _ hCt).mono ?_
      rintro e w4 ⟨rfl, hC4, hCh4⟩
      have m1 : enterLane (LC.new f s o) = 3 := by simp [enterLane, LC.new] at hnx ⊢; exact_mod_cast hnx
      have m2 : enterErr (LC.new f s o) = 0 := rfl
      rw [m1, m2]
      replace kb := hCh4.blk kb (by simpa using hbne)
      have x0 : w4.cell? ⟨bb, 0, none⟩ = some (.int .i64 f) := kb.cell 0
      have x1 : w4.cell? ⟨bb, 1, none⟩ = some (.int .i64 s) := kb.cell 1
      have x2 : w4.cell? ⟨bb, 2, none⟩ = some (.int .i64 o) := kb.cell 2
      clear hC4 hnx m1 m2
      go_wp2_with fail
      go_ret
      refine ⟨rfl, below_chg HC.out.nil_below hCh4 ?_ (Nat.le_refl _)⟩
      intro x hx
      have := HH.out
      simp at hx; omega

set_option maxRecDepth 100000 in
set_option maxHeartbeats 1000000 in
theorem LanesMost_z (w : World) (f s o : Int) (hm : may f s o) (hf : ¬ 0 < f) (hs : ¬ 0 < s) (ho : ¬ 0 < o) (hnx : LC.next (LC.new f s o) 0 = 4) :
    Calls Try.prog 5 #[.agg #[.int .i64 f, .int .i64 s, .int .i64 o]] w (StaysPost w) := by
  have hgood : ∀ j, 1 ≤ j → j ≤ 3 → mayOne (budL f s o j) := fun j h1 h3 => by
    obtain ⟨h1, h2, h3⟩ := hm
    rcases (by omega : j = 1 ∨ j = 2 ∨ j = 3) with rfl | rfl | rfl <;> assumption
  have hw : IntKind.i64.wrap (f + s) = f + s := by
    obtain ⟨⟨_, _⟩, ⟨_, _⟩, _⟩ := hm
    exact IntWalk.i64_in _ (by omega)
  go_enter Try.func5, Try.ntmps5
  go_wp2_with fail
  have kb := Blk.new w [.int .i64 f, .int .i64 s, .int .i64 o] 23
  refine (alive_any _).mono ?_
  rintro e w1 ⟨rfl, hC1⟩
  have hC := ((Chg.refl [] w).alloc (.cells #[.int .i64 f, .int .i64 s, .int .i64 o] 23)).trans hC1
  replace kb := hC1.blk kb (by simp)
  clear hC1
  have hbb : w.heap.size ≤ w.heap.size := Nat.le_refl _
  obtain ⟨bb, hbe⟩ : ∃ bb, bb = w.heap.size := ⟨_, rfl⟩
  rw [← hbe] at kb ⊢
  have x0 : w1.cell? ⟨bb, 0, none⟩ = some (.int .i64 f) := kb.cell 0
  have x1 : w1.cell? ⟨bb, 1, none⟩ = some (.int .i64 s) := kb.cell 1
  have x2 : w1.cell? ⟨bb, 2, none⟩ = some (.int .i64 o) := kb.cell 2
  clear hbb hbe
  go_wp2_with fail
  refine (Most_any _ f s o).mono ?_
  rintro e w2 ⟨rfl, hC2⟩
  rw [if_pos hm, if_pos hm]
  replace hC := hC.trans hC2
  replace kb := hC2.blk kb (by simp)
  have x0 : w2.cell? ⟨bb, 0, none⟩ = some (.int .i64 f) := kb.cell 0
  have x1 : w2.cell? ⟨bb, 1, none⟩ = some (.int .i64 s) := kb.cell 1
  have x2 : w2.cell? ⟨bb, 2, none⟩ = some (.int .i64 o) := kb.cell 2
  clear hC2
  have HM := Lib.hid hm
  clear hm
  go_wp2_with fail
  refine (New_ok _ f s o HM.out).mono ?_
  rintro e w3 ⟨b, rfl, hb, hCt, hC3⟩
  have hlb : w.heap.size ≤ b := Nat.le_trans hC.size hb
  replace hC := hC.trans hC3
  replace kb := hC3.blk kb (by simp)
  have x0 : w3.cell? ⟨bb, 0, none⟩ = some (.int .i64 f) := kb.cell 0
  have x1 : w3.cell? ⟨bb, 1, none⟩ = some (.int .i64 s) := kb.cell 1
  have x2 : w3.cell? ⟨bb, 2, none⟩ = some (.int .i64 o) := kb.cell 2
  clear hC3
  go_wp2_with fail
  have ks := Blk.new w3 [.int .i64 f, .int .i64 s, .int .i64 o] 3
  replace hC := hC.alloc (.cells #[.int .i64 f, .int .i64 s, .int .i64 o] 3)
  replace kb := kb.alloc (.cells #[.int .i64 f, .int .i64 s, .int .i64 o] 3)
  replace hCt : CtlAt (w3.alloc (.cells #[.int .i64 f, .int .i64 s, .int .i64 o] 3)) b (LC.new f s o) := Blk.alloc hCt _
  generalize w3.alloc (.cells #[.int .i64 f, .int .i64 s, .int .i64 o] 3) = W at *
  generalize w3.heap.size = sb at *
  have hlk : ∀ j : Nat, j < 3 → W.cell? ⟨sb, j, none⟩ = some (.int .i64 (budL f s o (1 + j))) := fun j hj => by
    rw [ks.cell]
    rcases (by omega : j = 0 ∨ j = 1 ∨ j = 2) with rfl | rfl | rfl <;> rfl
  clear ks
  have HC := Lib.hid hC
  have HH := Lib.hid hlb
  clear hC hlb hb
  have hbne : bb ≠ b := kb.ne hCt (by decide)
  go_loopw [32] (fun i wr => ∃ j : Nat, j ≤ 3 ∧ i = .int .i64 j ∧ wr = W) (fun i _ => 3 - (intOf i).toNat)
  case atStart => exact ⟨0, by omega, rfl, rfl⟩
  case round =>
    obtain ⟨j, hj, rfl, rfl⟩ := hrel
    by_cases hlt : j < 3
    · have hg := hgood (1 + j) (by omega) (by omega)
      have hck := hlk j (by omega)
      clear hlk hgood kb hCt
      generalize budL f s o (1 + j) = v at *
      obtain ⟨v0, v1⟩ := hg
      go_wp2_with fail
      go_roundw
      case rel => exact ⟨j + 1, by omega, by go_num, by simp⟩
      case measure => simp [intOf]; omega
    · obtain rfl : j = 3 := by omega
      clear hlk hgood
      go_wp2_with fail
      refine (Enter_any _ b _ hCt).mono ?_
      rintro e w4 ⟨rfl, hC4, hCh4⟩
      have m1 : enterLane (LC.new f s o) = 4 := by simp [enterLane, LC.new] at hnx ⊢; exact_mod_cast hnx
      have m2 : enterErr (LC.new f s o) = 0 := rfl
      rw [m1, m2]
      replace kb := hCh4.blk kb (by simpa using hbne)
      have x0 : w4.cell? ⟨bb, 0, none⟩ = some (.int .i64 f) := kb.cell 0
      have x1 : w4.cell? ⟨bb, 1, none⟩ = some (.int .i64 s) := kb.cell 1
      have x2 : w4.cell? ⟨bb, 2, none⟩ = some (.int .i64 o) := kb.cell 2
      clear hC4 hnx m1 m2
      go_wp2_with fail
      go_ret
      refine ⟨rfl, below_chg HC.out.nil_below hCh4 ?_ (Nat.le_refl _)⟩
      intro x hx
      have := HH.out
      simp at hx; omega

theorem LanesMost_any (w : World) (f s o : Int) :
    Calls Try.prog 5 #[.agg #[.int .i64 f, .int .i64 s, .int .i64 o]] w (StaysPost w) := by
  by_cases hm : may f s o
  · obtain ⟨⟨f0, f1⟩, ⟨s0, s1⟩, ⟨o0, o1⟩⟩ := id hm
    by_cases hf : 0 < f
    · exact LanesMost_f w f s o hm hf (by simp [LC.next, LC.new]; omega)
    obtain rfl : f = 0 := by omega
    by_cases hs : 0 < s
    · exact LanesMost_s w 0 s o hm hf hs (by simp [LC.next, LC.new]; omega)
    obtain rfl : s = 0 := by omega
    by_cases ho : 0 < o
    · exact LanesMost_o w 0 0 o hm hf hs ho (by simp [LC.next, LC.new]; omega)
    obtain rfl : o = 0 := by omega
    exact LanesMost_z w 0 0 0 hm hf hs ho rfl
  · by_cases h1 : mayOne f
    · by_cases h2 : mayOne s
      · refine LanesMost_bad w f s o hm 2 (by decide) (fun h3 => hm ⟨h1, h2, h3⟩) (fun j a b => ?_)
        rcases (by omega : j = 1 ∨ j = 2) with rfl | rfl <;> assumption
      · refine LanesMost_bad w f s o hm 1 (by decide) h2 (fun j a b => ?_)
        obtain rfl : j = 1 := by omega
        exact h1
    · exact LanesMost_bad w f s o hm 0 (by decide) h1 (fun j a b => by omega)

end Go.Proofs.Ytdaehfilmhagiaa
