/- SchedTurns. -/
import Derived.Test.YtagfalnfjiodcaaSched22
namespace Go.Proofs.Ytagfalnfjiodcaa
open Go.RowKit

set_option maxHeartbeats 1000000 in
theorem SeedsR_any (W : World) (c x m : Int) (hx0 : 0 ≤ x) (hx : x < 18446744073709551616) :
    Calls Try.prog 16 #[.int .i64 c, .int .u64 x, .int .i64 m] W (SPost W (seedsL c x m) (mayN c m)) := by
  have hM := May_any W c m
  rcases mayN_cases c m with ⟨e, _⟩ | ⟨_, _, e, _⟩ | ⟨h1, h4, e, h5, h6⟩
  · rw [seedsL, e, if_neg (by decide)]
    rw [e] at hM
    clear e
    go_enter Try.func16, Try.ntmps16
    go_wp2_with fail
    refine hM.mono ?_
    rintro e w' ⟨rfl, rfl⟩
    go_wp2_with fail
    go_ret2
    exact SPost.bad (Chg.refl _ _)
  · rw [seedsL, e, if_neg (by decide)]
    rw [e] at hM
    clear e
    go_enter Try.func16, Try.ntmps16
    go_wp2_with fail
    refine hM.mono ?_
    rintro e w' ⟨rfl, rfl⟩
    go_wp2_with fail
    go_ret2
    exact SPost.bad (Chg.refl _ _)
  · rw [seedsL, e, if_pos rfl]
    obtain ⟨n, rfl⟩ : ∃ n : Nat, c = n := ⟨c.toNat, by omega⟩
    obtain ⟨M, rfl⟩ : ∃ M : Nat, m = M := ⟨m.toNat, by omega⟩
    simp only [Int.toNat_natCast]
    exact SeedsR_okN W n M x (max x 1) (by omega) (by omega) (by omega) (by omega) (by omega) (by omega)

theorem roundsL_len (c m : Int) : (roundsL c m).length ≤ 100000 := by
  unfold roundsL
  split
  · rename_i h
    rw [outs_len]
    rcases mayN_cases c m with ⟨e, _⟩ | ⟨_, _, e, _⟩ | ⟨_, _, _, _, _⟩ <;> omega
  · simp
theorem seedsL_len (c x m : Int) : (seedsL c x m).length ≤ 100000 := by
  unfold seedsL
  split
  · rename_i h
    rw [outs_len]
    rcases mayN_cases c m with ⟨e, _⟩ | ⟨_, _, e, _⟩ | ⟨_, _, _, _, _⟩ <;> omega
  · simp

set_option maxRecDepth 100000 in
set_option maxHeartbeats 2000000 in
theorem SchedTurns_any (W : World) (c x m : Int) (hx0 : 0 ≤ x) (hx : x < 18446744073709551616) :
    Calls Try.prog 3 #[.int .i64 c, .int .u64 x, .int .i64 m] W (StaysPost W) := by
  have main : (m ≤ 500 ∨ (500 < m ∧ 10000 < m)) → Calls Try.prog 3 #[.int .i64 c, .int .u64 x, .int .i64 m] W (StaysPost W) := by
    intro h
    rcases h with h | ⟨h, h'⟩
    all_goals
      go_enter Try.func3, Try.ntmps3
      go_wp2_with fail
      refine (Rounds_any W c m).mono ?_
      intro e w1 h
      obtain ⟨A1, c1, rfl, _, hA, hC⟩ := SPost.sn h
      have HA1 := Lib.hid hA
      have HC1 := Lib.hid hC
      clear h hA hC
      go_wp2_with fail
      refine (RoundsR_any w1 c m).mono ?_
      intro e w2 h
      obtain ⟨A2, c2, rfl, _, hA, hC⟩ := SPost.sn h
      have HA1' := Lib.hid (HA1.out.chg hC)
      have HA2 := Lib.hid hA
      have HC2 := Lib.hid (HC1.out.trans hC)
      clear h hA hC
      go_wp2_with fail
      refine (beside_true w2 A1 A2 c1 c2 _ _ (roundsL_len c m) HA1'.out HA2.out).mono ?_
      rintro e w3 ⟨rfl, hC⟩
      have HC3 := Lib.hid (HC2.out.trans hC)
      clear hC
      go_wp2_with fail
      refine (Seeds_any w3 c x m hx0 hx).mono ?_
      intro e w4 h
      obtain ⟨A3, c3, rfl, _, hA, hC⟩ := SPost.sn h
      have HA3 := Lib.hid hA
      have HC4 := Lib.hid (HC3.out.trans hC)
      clear h hA hC
      go_wp2_with fail
      refine (SeedsR_any w4 c x m hx0 hx).mono ?_
      intro e w5 h
      obtain ⟨A4, c4, rfl, _, hA, hC⟩ := SPost.sn h
      have HA3' := Lib.hid (HA3.out.chg hC)
      have HA4 := Lib.hid hA
      have HC5 := Lib.hid (HC4.out.trans hC)
      clear h hA hC
      go_wp2_with fail
      refine (beside_true w5 A3 A4 c3 c4 _ _ (seedsL_len c x m) HA3'.out HA4.out).mono ?_
      rintro e w6 ⟨rfl, hC⟩
      have HC6 := Lib.hid (HC5.out.trans hC)
      clear hC
      go_wp2_with fail
      go_ret
      exact ⟨rfl, HC6.out.to_below (by simp) (Nat.le_refl _)⟩
  by_cases h1 : 500 < m
  · by_cases h2 : 10000 < m
    · exact main (.inr ⟨h1, h2⟩)
    · clear main
      have h2' : m ≤ 10000 := by omega
      clear h2
      go_enter Try.func3, Try.ntmps3
      go_wp2_with fail
      go_ret
      exact ⟨rfl, Below.refl _ _⟩
  · exact main (.inl (by omega))

end Go.Proofs.Ytagfalnfjiodcaa
