/- A set of cores: each. -/
import Derived.Test.YtepdhajgemmoiaaDir6
import Derived.Test.YtepdhajgemmoiaaRng
import Derived.Sort.QuietIn
import Derived.Stop.RegionWithIn
namespace Go.Proofs.Ytepdhajgemmoiaa
set_option maxRecDepth 100000
open Go.RowKit Go.Shelf

attribute [local go_sem] Oper.semAt_some

/-- The cores of a set, ahead of k, rising. -/
def coresL (s : Int) (k : Nat) : List Nat := (List.range k).filter fun j => hasB s (j : Int)
theorem coresL_skip {s : Int} {k : Nat} (h : hasB s (k : Int) = false) : coresL s (k + 1) = coresL s k := by simp [coresL, List.range_succ, List.filter_append, h]
theorem coresL_take {s : Int} {k : Nat} (h : hasB s (k : Int) = true) : coresL s (k + 1) = coresL s k ++ [k] := by simp [coresL, List.range_succ, List.filter_append, h]
theorem coresL_len (s : Int) (k : Nat) : (coresL s k).length ≤ k := by
  have := List.length_filter_le (fun j : Nat => hasB s (j : Int)) (List.range k)
  simpa [coresL] using this
theorem coresL_le (s : Int) {k m : Nat} (h : k ≤ m) : coresL s k <+: coresL s m := by
  obtain ⟨d, rfl⟩ := Nat.exists_eq_add_of_le h
  rw [coresL, coresL, List.range_add, List.filter_append]
  exact List.prefix_append _ _

theorem keepB_drewN (n₀ Bx : Nat) (w : World) (q : Nat) : KeepB n₀ Bx w (w.drewN q) := ⟨⟨rfl, rfl, rfl, Nat.le_refl _, fun _ _ => rfl⟩, fun _ _ h => h⟩
theorem keepB_drew (n₀ Bx : Nat) (w : World) : KeepB n₀ Bx w w.drew := ⟨(Below.refl _ _).drew, fun _ _ h => h⟩

set_option maxHeartbeats 1000000 in
theorem each1_in (n : Nat) (hn : 1 ≤ n) (l Bs n₀ : Nat) (s : Int) (J Jx : List Nat → World → Prop) (hJd : ∀ pre W q, J pre W → J pre (W.drewN q))
    (hY : ∀ (pre : List Nat) (x : Nat) W, J pre W → pre.length < 4 → YieldAt Fence.wide (n - 1) Try.prog l #[.int .i64 (x : Int)] W fun e W' =>
      (e = .returned (.bool true) ∧ J (pre ++ [x]) W' ∧ KeepB n₀ Bs W W') ∨ (e = .returned (.bool false) ∧ Jx (pre ++ [x]) W'))
    (W : World) (hB : Boxed W Bs 76 (.int .u8 s)) (h0 : J [] W) :
    CallsIn Fence.wide n Try.prog 50 #[.func (.yield l) #[] #[], .pointer (some ⟨Bs, 0, none⟩)] W fun e W' => (∃ v, e = .returned v) ∧
      ((∃ ys, ys = coresL s 4 ∧ J ys W') ∨ (∃ pre, pre <+: coresL s 4 ∧ Jx pre W')) := by
  refine callsIn_of_wp Try.func50 rfl trivial ?_ rfl
  simp only [Try.ntmps50, List.size_toArray, List.length_cons, List.length_nil, Nat.reduceAdd, Nat.reduceSub, Array.replicate_succ, Array.replicate_zero, List.push_toArray, List.append_toArray, List.nil_append, List.cons_append]
  gi_wp2
  gi_loopw [4] (fun i wr => ∃ k : Nat, k ≤ 4 ∧ i = .int .i64 k ∧ J (coresL s k) wr ∧ KeepB n₀ Bs W wr)
    (fun i _ => 4 - (intOf i).toNat)
  case atStart => exact ⟨0, by omega, rfl, h0, Below.refl _ _, fun _ _ h => h⟩
  case round =>
    obtain ⟨k, hk, rfl, hJs, hnx⟩ := hrel
    by_cases hlt : k < 4
    · have hc := Boxed.cell (hnx.2 _ rfl hB)
      cases hb : hasB s (k : Int)
      · have hq : (bits BinOp.and IntKind.u8 s (2 ^ k % 256) != 0) = false := hb
        have hJn := fun q => hJd _ _ q hJs
        rw [← coresL_skip hb] at hJn
        have hnx2 := fun q => keepB_t hnx (keepB_drewN n₀ Bs wr q)
        gi_wp2
        refine wpIn_region_quiet_lit rfl (by kernel_rfl) (by kernel_rfl) ?_
        repeat (gi_big_quiet_step (fail))
        refine BigFrame.wpQuietIn_skip (fun _ _ _ _ => trivial) rfl ?_
        simp only [Act.put, List.setIfInBounds_toArray, List.set_cons_succ, List.set_cons_zero]
        repeat (gi_big_quiet_step (fail))
        refine wpQuietIn_nil ?_
        intro _ hw'
        obtain ⟨nq, rfl⟩ := hw'
        gi_wp2
        go_roundw
        case rel => exact ⟨k + 1, by omega, by simp, hJn _, hnx2 _⟩
        case measure => simp [intOf]; omega
      · have hq : (bits BinOp.and IntKind.u8 s (IntKind.u8.wrap (2 ^ k)) != 0) = true := by
          rw [IntKind.wrap_u8]; exact hb
        obtain ⟨fn, tmps, assign, body, hy, hR⟩ := hY _ k wr.drew (hJd _ _ 1 hJs) (by have := coresL_len s k; omega)
        rw [← coresL_take hb] at hR
        have hnx2 := keepB_t hnx (keepB_drew n₀ Bs wr)
        gi_wp2
        gi_region_with (refine hR.mono ?_; rintro e W3 h; obtain ⟨bv, rfl, h2⟩ : ∃ bv, e = .returned (.bool bv) ∧ (bv = true ∧ J (coresL s (k + 1)) W3 ∧ KeepB n₀ Bs _ W3 ∨ bv = false ∧ Jx (coresL s (k + 1)) W3) := (by rcases h with ⟨h1, h2, h3⟩ | ⟨h1, h2⟩; exact ⟨true, h1, .inl ⟨rfl, h2, h3⟩⟩; exact ⟨false, h1, .inr ⟨rfl, h2⟩⟩); clear h)
        rcases h2 with ⟨rfl, hJ3, hk3⟩ | ⟨rfl, hJx3⟩
        · gi_wp2
          go_roundw
          case rel => exact ⟨k + 1, by omega, by simp, hJ3, keepB_t hnx2 hk3⟩
          case measure => simp [intOf]; omega
        · gi_wp2
          refine bodyPost_ret (results_none rfl _ _ _) rfl ?_
          exact ⟨⟨_, rfl⟩, .inr ⟨coresL s (k + 1), coresL_le s (by omega), hJx3⟩⟩
    · obtain rfl : k = 4 := by omega
      gi_wp2
      go_end0
      exact ⟨⟨_, rfl⟩, .inl ⟨_, rfl, hJs⟩⟩
end Go.Proofs.Ytepdhajgemmoiaa
