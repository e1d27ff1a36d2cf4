/- The document's on, Rounds. -/
import Derived.Test.YtagfalnfjiodcaaSched20
namespace Go.Proofs.Ytagfalnfjiodcaa
open Go.RowKit

def OnRel (W : World) (l : IL) (c : Nat) (vo i : Value) (wr : World) : Prop := ∃ k : Nat, k ≤ l.length ∧ i = .int .i64 k ∧ wr.ownsRow W.heap.size 3 1 vo k (((onL l c).take k).map (Value.int .i64)) ∧ Chg [] W wr
def OnPost (W : World) (l : IL) (e : Ending) (w' : World) : Prop := ∃ v, e = .returned v ∧ w'.ownsRow W.heap.size 3 1 v l.length (l.map (Value.int .i64)) ∧ Chg [] W w'

set_option maxRecDepth 100000 in
set_option maxHeartbeats 2000000 in
theorem onR_any (W : World) (A : Option Addr) (cap : Nat) (l : IL) (c : Nat) (hm : l.length ≤ 100) (hb : ∀ x ∈ l, 0 ≤ x ∧ x ≤ 1000000) (hA : NumsA W A W.heap.size l) :
    Calls Try.prog 41 #[.slice A l.length cap, .int .i64 (c : Int)] W (OnPost W (onL l c)) := by
  obtain ⟨i0, hi, hz0, hz1, hz2⟩ := info_parts infoI64
  have hm' : (l.length : Int) ≤ 100 := by omega
  have HA := Lib.hid hA
  have HB := Lib.hid hb
  clear hA hb
  go_enter Try.func41, Try.ntmps41
  go_wp2_with fail
  go_loopw [5, 6] (fun vo i wr => OnRel W l c vo i wr) (fun _ i _ => l.length - (intOf i).toNat)
  case atStart => exact ⟨0, Nat.zero_le _, rfl, World.ownsRow_nil _ _ _ _, Chg.refl _ _⟩
  case round =>
    obtain ⟨k, hk, rfl, hO, hC⟩ := hrel
    by_cases hlt : k < l.length
    · obtain ⟨b, off, rfl, _, d0⟩ := HA.out.below (hC.to_below (B := W.heap.size) (by simp) (Nat.le_refl _)) k hlt
      obtain ⟨y0, y1⟩ := HB.out _ (List.getElem_mem hlt)
      have hw : IntKind.i64.wrap (l[k] + 1) = l[k] + 1 := IntWalk.i64_in _ (by omega)
      have hs : (onL l c).take (k + 1) = (onL l c).take k ++ [if k = c then 0 else l[k] + 1] := by
        rw [List.take_add_one]
        have : (onL l c)[k]? = some (if k = c then 0 else l[k] + 1) := by rw [List.getElem?_eq_getElem (by rw [onL_len]; exact hlt), onL_get hlt]
        rw [this]; rfl
      have hsz := hC.size
      have HS := Lib.hid hs
      have HO := Lib.hid hO
      have HC := Lib.hid hC
      clear hs hO hC
      generalize l[k] = y at *
      by_cases hc : k = c
      · subst hc
        go_wp2_with (first
          | (at_builtin; refine wpList_append_own_at _ rfl (.tmp 16) (.tmp 17) 23 rfl W.heap.size 3 i0 (.int .i64 0) 1 8 Try.underlying23 hi hz0 hz1 hz2 rfl (by decide) _ _ _ rfl (HO.out.alloc _) ⟨wr.heap.size, 0, none⟩ 1 1 [.int .i64 0] rfl rfl (cell_one_new _ _ _) (by simp [Value.oneCell']) (by unfold maxLen; omega) (by omega) (by simp; omega) ?_; intro va wa hown1 hgrow1 _ _; have HO1 := Lib.hid hown1; have HG1 := Lib.hid hgrow1; clear hown1 hgrow1))
        go_roundw
        case rel =>
          refine ⟨k + 1, by omega, by go_num, ?_, (HC.out.alloc (.cells #[.int .i64 0] 3)).grown HG1.out (fun q e hl => by have := (HO.out.lt q e).1; omega)⟩
          rw [HS.out, if_pos rfl, List.map_append]; exact HO1.out
        case measure => simp [intOf]; omega
      · have hc' : ¬ (k : Int) = c := by omega
        go_wp2_with (first
          | (at_builtin; refine wpList_append_own_at _ rfl (.tmp 19) (.tmp 25) 23 rfl W.heap.size 3 i0 (.int .i64 0) 1 8 Try.underlying23 hi hz0 hz1 hz2 rfl (by decide) _ _ _ rfl (HO.out.alloc _) ⟨wr.heap.size, 0, none⟩ 1 1 [.int .i64 (y + 1)] rfl rfl (cell_one_new _ _ _) (by simp [Value.oneCell']) (by unfold maxLen; omega) (by omega) (by simp; omega) ?_; intro va wa hown1 hgrow1 _ _; have HO1 := Lib.hid hown1; have HG1 := Lib.hid hgrow1; clear hown1 hgrow1))
        go_roundw
        case rel =>
          refine ⟨k + 1, by omega, by go_num, ?_, (HC.out.alloc (.cells #[.int .i64 (y + 1)] 3)).grown HG1.out (fun q e hl => by have := (HO.out.lt q e).1; omega)⟩
          rw [HS.out, if_neg hc, List.map_append]; exact HO1.out
        case measure => simp [intOf]; omega
    · obtain rfl : k = l.length := by omega
      rw [List.take_of_length_le (by rw [onL_len]; exact Nat.le_refl _)] at hO
      have HO := Lib.hid hO
      have HC := Lib.hid hC
      clear hO hC
      go_wp2_with fail
      go_ret
      exact ⟨_, rfl, by rw [onL_len]; exact HO.out, HC.out⟩

def OutRel (W : World) (f : Nat → Int) (M : Nat) (vo i : Value) (wr : World) : Prop := ∃ k : Nat, k ≤ M ∧ i = .int .i64 k ∧ wr.ownsRow W.heap.size 3 1 vo k ((outs f k).map (Value.int .i64)) ∧ Chg [] W wr

set_option maxRecDepth 100000 in
set_option maxHeartbeats 2000000 in
theorem RoundsR_any (W : World) (c m : Int) :
    Calls Try.prog 13 #[.int .i64 c, .int .i64 m] W (SPost W (roundsL c m) (mayN c m)) := by
  obtain ⟨i0, hi, hz0, hz1, hz2⟩ := info_parts infoI64
  have hM := May_any W c m
  rcases mayN_cases c m with ⟨e, _⟩ | ⟨_, _, e, _⟩ | ⟨h1, h4, e, h5, h6⟩
  · rw [roundsL, e, if_neg (by decide)]
    rw [e] at hM
    clear e
    go_enter Try.func13, Try.ntmps13
    go_wp2_with fail
    refine hM.mono ?_
    rintro e w' ⟨rfl, rfl⟩
    go_wp2_with fail
    go_ret2
    exact SPost.bad (Chg.refl _ _)
  · rw [roundsL, e, if_neg (by decide)]
    rw [e] at hM
    clear e
    go_enter Try.func13, Try.ntmps13
    go_wp2_with fail
    refine hM.mono ?_
    rintro e w' ⟨rfl, rfl⟩
    go_wp2_with fail
    go_ret2
    exact SPost.bad (Chg.refl _ _)
  · rw [roundsL, e, if_pos rfl]
    rw [e] at hM
    clear e
    obtain ⟨n, rfl⟩ : ∃ n : Nat, c = n := ⟨c.toNat, by omega⟩
    obtain ⟨M, rfl⟩ : ∃ M : Nat, m = M := ⟨m.toNat, by omega⟩
    simp only [Int.toNat_natCast]
    have HM := Lib.hid hM
    clear hM
    go_enter Try.func13, Try.ntmps13
    go_wp2_with fail
    refine HM.out.mono ?_
    rintro e w' ⟨rfl, rfl⟩
    go_wp2_with fail
    go_loopw [7, 8] (fun vo i wr => OutRel W (fun t => ((t % n : Nat) : Int)) M vo i wr) (fun _ i _ => M - (intOf i).toNat)
    case atStart => exact ⟨0, Nat.zero_le _, rfl, World.ownsRow_nil _ _ _ _, Chg.refl _ _⟩
    case round =>
      obtain ⟨k, hk, rfl, hO, hC⟩ := hrel
      by_cases hlt : k < M
      · have hsz := hC.size
        have HO := Lib.hid hO
        have HC := Lib.hid hC
        clear hO hC
        go_wp2_with (first
          | (at_builtin; refine wpList_append_own_at _ rfl (.tmp 20) (.tmp 24) 23 rfl W.heap.size 3 i0 (.int .i64 0) 1 8 Try.underlying23 hi hz0 hz1 hz2 rfl (by decide) _ _ _ rfl (HO.out.alloc _) ⟨wr.heap.size, 0, none⟩ 1 1 [.int .i64 ((k : Int) % (n : Int))] rfl rfl (cell_one_new _ _ _) (by simp [Value.oneCell']) (by unfold maxLen; omega) (by omega) (by simp; omega) ?_; intro va wa hown1 hgrow1 _ _; have HO1 := Lib.hid hown1; have HG1 := Lib.hid hgrow1; clear hown1 hgrow1))
        go_roundw
        case rel =>
          refine ⟨k + 1, by omega, by go_num, ?_, (HC.out.alloc (.cells #[.int .i64 ((k : Int) % (n : Int))] 3)).grown HG1.out (fun q e hl => by have := (HO.out.lt q e).1; omega)⟩
          rw [outs_succ, List.map_append]; exact HO1.out
        case measure => simp [intOf]; omega
      · obtain rfl : k = M := by omega
        have HO := Lib.hid hO
        have HC := Lib.hid hC
        clear hO hC
        go_wp2_with fail
        go_ret2
        exact ⟨_, rfl, by rw [outs_len]; exact HO.out, HC.out⟩

end Go.Proofs.Ytagfalnfjiodcaa
