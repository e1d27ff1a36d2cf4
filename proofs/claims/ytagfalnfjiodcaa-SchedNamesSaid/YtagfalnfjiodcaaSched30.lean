/- The document's Counts, Wait, Same. -/
import Derived.Test.YtagfalnfjiodcaaSched29
import Derived.Test.YtagfalnfjiodcaaSchedM4
namespace Go.Proofs.Ytagfalnfjiodcaa
open Go.RowKit

def cntL (l : IL) (c : Int) : IL := if 1 ≤ c ∧ c ≤ 4 then cntK l c.toNat l.length else []

theorem CountsA_any (W : World) (A : Option Addr) (cap : Nat) (l : IL) (c : Int) (hm : l.length ≤ 100000) (hA : NumsA W A W.heap.size l) :
    Calls Try.prog 25 #[.slice A l.length cap, .int .i64 c] W (OnPost W (cntL l c)) := by
  by_cases h : 1 ≤ c ∧ c ≤ 4
  · obtain ⟨n, rfl⟩ : ∃ n : Nat, c = n := ⟨c.toNat, by omega⟩
    rw [cntL, if_pos h]
    refine (Counts_any W A cap l n (by omega) (by omega) hm hA).mono ?_
    rintro e w' ⟨v, rfl, hv, hC⟩
    exact ⟨v, rfl, by rw [Int.toNat_natCast, cntK_len]; exact hv, hC⟩
  · rw [cntL, if_neg h]
    clear hA hm
    by_cases h1 : c < 1
    · go_enter Try.func25, Try.ntmps25
      go_wp2_with fail
      go_ret
      exact ⟨_, rfl, World.ownsRow_nil _ _ _ _, Chg.refl _ _⟩
    · have h2 : 1 ≤ c := by omega
      have h3 : 4 < c := by omega
      clear h h1
      go_enter Try.func25, Try.ntmps25
      go_wp2_with fail
      go_ret
      exact ⟨_, rfl, World.ownsRow_nil _ _ _ _, Chg.refl _ _⟩

def CnOut (W : World) (l : IL) (n : Nat) (vo i : Value) (wr : World) : Prop := ∃ k : Nat, k ≤ n ∧ i = .int .i64 k ∧ wr.ownsRow W.heap.size 3 1 vo k ((cntK l k l.length).map (Value.int .i64)) ∧ Chg [] W wr
def CnIn (W : World) (l : IL) (c : Nat) (many i : Value) (wr : World) : Prop := ∃ k : Nat, k ≤ l.length ∧ i = .int .i64 k ∧ many = .int .i64 ((l.take k).count (c : Int) : Nat) ∧ wr = W
theorem cntK_snoc (l : IL) (k m : Nat) : cntK l (k + 1) m = cntK l k m ++ [((l.take m).count (k : Int) : Int)] := by simp [cntK, List.range_succ]

set_option maxRecDepth 100000 in
set_option maxHeartbeats 2000000 in
theorem CountsR_any (W : World) (A : Option Addr) (cap : Nat) (l : IL) (c : Int) (hm : l.length ≤ 100000) (hA : NumsA W A W.heap.size l) :
    Calls Try.prog 26 #[.slice A l.length cap, .int .i64 c] W (OnPost W (cntL l c)) := by
  obtain ⟨i0, hi, hz0, hz1, hz2⟩ := info_parts infoI64
  have hm' : (l.length : Int) ≤ 100000 := by omega
  have HA := Lib.hid hA
  clear hA
  by_cases h : 1 ≤ c ∧ c ≤ 4
  · obtain ⟨n, rfl⟩ : ∃ n : Nat, c = n := ⟨c.toNat, by omega⟩
    rw [cntL, if_pos h, Int.toNat_natCast]
    have h1 : (1 : Int) ≤ n := by omega
    have h4 : (n : Int) ≤ 4 := by omega
    clear h
    go_enter Try.func26, Try.ntmps26
    go_wp2_with fail
    go_loopw [5, 6] (fun vo i wr => CnOut W l n vo i wr) (fun _ i _ => n - (intOf i).toNat)
    case atStart => exact ⟨0, Nat.zero_le _, rfl, World.ownsRow_nil _ _ _ _, Chg.refl _ _⟩
    case round =>
      obtain ⟨k, hk, rfl, hO, hC⟩ := hrel
      by_cases hlt : k < n
      · obtain ⟨wo, rfl⟩ : ∃ wo : World, wo = wr := ⟨_, rfl⟩
        have HO := Lib.hid hO
        have HC := Lib.hid hC
        have hsw := hC.size
        clear hO hC
        go_wp2_with fail
        go_loopw [7, 8] (fun many i wr => CnIn wo l k many i wr) (fun _ i _ => l.length - (intOf i).toNat)
        case atStart => exact ⟨0, Nat.zero_le _, rfl, by simp, rfl⟩
        case round =>
          obtain ⟨j, hj, rfl, rfl, rfl⟩ := hrel
          have hcl : (l.take j).count (k : Int) ≤ j := Nat.le_trans List.count_le_length (by simp; omega)
          by_cases hltj : j < l.length
          · obtain ⟨b, off, rfl, _, d0⟩ := (HA.out.chg HC.out) j hltj
            have HS := Lib.hid (count_take_succ hltj (k : Int))
            generalize l[j] = y at *
            generalize (l.take j).count (k : Int) = cn at *
            have hcn : (cn : Int) ≤ 100000 := by omega
            clear hcl
            by_cases hy : y = (k : Int)
            · subst hy
              go_wp2_with fail
              go_roundw
              case rel => exact ⟨j + 1, by omega, by go_num, by rw [HS.out, if_pos rfl]; go_num, rfl⟩
              case measure => simp [intOf]; omega
            · go_wp2_with fail
              go_roundw
              case rel => exact ⟨j + 1, by omega, by go_num, by rw [HS.out, if_neg hy]; rfl, rfl⟩
              case measure => simp [intOf]; omega
          · obtain rfl : j = l.length := by omega
            have HSn := Lib.hid (cntK_snoc l k l.length)
            rw [List.take_length] at HSn hcl ⊢
            generalize l.count (k : Int) = cn at *
            clear hcl
            go_wp2_with (first
              | (at_builtin; refine wpList_append_own_at _ rfl (.tmp 34) (.tmp 36) 23 rfl (W.heap.size) 3 i0 (.int .i64 0) 1 8 Try.underlying23 hi hz0 hz1 hz2 rfl (by decide) _ _ _ rfl (HO.out.alloc _) ⟨wr.heap.size, 0, none⟩ 1 1 [.int .i64 (cn : Int)] rfl rfl (cells_at (by simp) [.int .i64 (cn : Int)] _) (by simp [Value.oneCell']) (by unfold maxLen; omega) (by omega) (by first | omega | (simp; omega) | simp) ?_; intro va1 wa1 hown1 hgrow1 _ hblk1; have hsz1 := hgrow1.size; have HO1 := Lib.hid hown1; have HG1 := Lib.hid hgrow1; have HB1 := Lib.hid hblk1; clear hown1 hgrow1 hblk1))
            go_roundw
            case rel =>
              refine ⟨k + 1, by omega, by go_num, ?_, (HC.out.alloc _).grew (HO.out.alloc _) HG1.out (fun q h1 h2 => by omega)⟩
              rw [HSn.out, List.map_append]
              exact HO1.out
            case measure => simp [intOf]; omega
      · obtain rfl : k = n := by omega
        have HO := Lib.hid hO
        have HC := Lib.hid hC
        clear hO hC
        go_wp2_with fail
        go_ret
        exact ⟨_, rfl, by rw [cntK_len]; exact HO.out, HC.out⟩
  · rw [cntL, if_neg h]
    clear HA hm'
    by_cases h1 : c < 1
    · go_enter Try.func26, Try.ntmps26
      go_wp2_with fail
      go_ret
      exact ⟨_, rfl, World.ownsRow_nil _ _ _ _, Chg.refl _ _⟩
    · have h2 : 1 ≤ c := by omega
      have h3 : 4 < c := by omega
      clear h h1
      go_enter Try.func26, Try.ntmps26
      go_wp2_with fail
      go_ret
      exact ⟨_, rfl, World.ownsRow_nil _ _ _ _, Chg.refl _ _⟩

def WrOut (W : World) (l : IL) (c : Int) (longest i : Value) (wr : World) : Prop := ∃ k : Nat, k ≤ l.length ∧ i = .int .i64 k ∧ longest = .int .i64 (lg c l k) ∧ wr = W
def WrIn (W : World) (l : IL) (c : Int) (k : Nat) (n : Value) (wr : World) : Prop := ∃ m : Nat, k + m ≤ l.length ∧ n = .int .i64 m ∧ (∀ j (hj : j < l.length), k ≤ j → j < k + m → l[j] ≠ c) ∧ wr = W

set_option maxRecDepth 100000 in
set_option maxHeartbeats 2000000 in
theorem WaitR_any (W : World) (A : Option Addr) (cap : Nat) (l : IL) (c : Int) (hm : l.length ≤ 100000) (hA : NumsA W A W.heap.size l) :
    Calls Try.prog 29 #[.slice A l.length cap, .int .i64 c] W fun e w' => e = .returned (.int .i64 (waitS c l).1) ∧ W = w' := by
  have hm' : (l.length : Int) ≤ 100000 := by omega
  have HA := Lib.hid hA
  clear hA
  go_enter Try.func29, Try.ntmps29
  go_wp2_with fail
  go_loopw [5, 6] (fun longest i wr => WrOut W l c longest i wr) (fun _ i _ => l.length - (intOf i).toNat)
  case atStart => exact ⟨0, Nat.zero_le _, rfl, rfl, rfl⟩
  case round =>
    obtain ⟨k, hk, rfl, rfl, rfl⟩ := hrel
    by_cases hlt : k < l.length
    · have HLg := Lib.hid (show lg c l (k + 1) = max (lg c l k) (runF c (l.drop k)) from rfl)
      have hle := lg_le c l k
      obtain ⟨g0, g1⟩ := hle
      generalize lg c l k = g at *
      obtain ⟨wo, rfl⟩ : ∃ wo : World, wo = wr := ⟨_, rfl⟩
      go_wp2_with fail
      go_loopw [7] (fun n wr => WrIn wo l c k n wr) (fun n _ => l.length - (intOf n).toNat)
      case atStart => exact ⟨0, by omega, rfl, fun j _ h1 h2 => absurd h1 (by omega), rfl⟩
      case round =>
        obtain ⟨m, hm1, rfl, hno, rfl⟩ := hrel
        have hdrop : ∀ j (hj : j < (l.drop k).length), j < m → (l.drop k)[j] ≠ c := fun j hj hjm => by
          rw [List.getElem_drop]; exact hno (k + j) (by simp at hj; omega) (by omega) (by omega)
        have hmi : (k : Int) + m ≤ l.length := by omega
        by_cases hltm : k + m < l.length
        · obtain ⟨b, off, rfl, _, d0⟩ := HA.out (k + m) hltm
          by_cases hy : l[k + m] = c
          · have HRun := Lib.hid (runF_eq (c := c) (l := l.drop k) (n := m) hdrop (by rw [List.length_drop]; omega) (fun hn => by rw [List.getElem_drop]; exact hy))
            rw [hy] at d0
            clear hdrop hno hy
            have hltm' : (k : Int) + m < l.length := by omega
            by_cases hg : g < m
            · have hg' : g < (m : Int) := hg
              clear hg
              go_wp2_with fail
              go_roundw
              case rel => exact ⟨k + 1, by omega, by go_num, congrArg (Value.int .i64) (by rw [HLg.out, HRun.out]; omega), rfl⟩
              case measure => simp [intOf]; omega
            · have hg' : (m : Int) ≤ g := by omega
              clear hg
              go_wp2_with fail
              go_roundw
              case rel => exact ⟨k + 1, by omega, by go_num, congrArg (Value.int .i64) (by rw [HLg.out, HRun.out]; omega), rfl⟩
              case measure => simp [intOf]; omega

          · have HNo := Lib.hid (show ∀ j (hj : j < l.length), k ≤ j → j < k + (m + 1) → l[j] ≠ c from fun j hj h1 h2 => by
              by_cases e : j = k + m
              · subst e; exact hy
              · exact hno j hj h1 (by omega))
            have hltm' : (k : Int) + m < l.length := by omega
            clear hdrop hno
            generalize l[k + m] = y at *
            go_wp2_with fail
            go_roundw
            case rel => exact ⟨m + 1, by omega, by go_num, HNo.out, rfl⟩
            case measure => simp [intOf]; omega
        · have HRun := Lib.hid (runF_eq (c := c) (l := l.drop k) (n := m) hdrop (by rw [List.length_drop]; omega) (fun hn => absurd hn (by rw [List.length_drop]; omega)))
          have hge : (l.length : Int) ≤ (k : Int) + m := by omega
          clear hdrop hno
          by_cases hg : g < m
          · have hg' : g < (m : Int) := hg
            clear hg
            go_wp2_with fail
            go_roundw
            case rel => exact ⟨k + 1, by omega, by go_num, congrArg (Value.int .i64) (by rw [HLg.out, HRun.out]; omega), rfl⟩
            case measure => simp [intOf]; omega
          · have hg' : (m : Int) ≤ g := by omega
            clear hg
            go_wp2_with fail
            go_roundw
            case rel => exact ⟨k + 1, by omega, by go_num, congrArg (Value.int .i64) (by rw [HLg.out, HRun.out]; omega), rfl⟩
            case measure => simp [intOf]; omega
    · obtain rfl : k = l.length := by omega
      have HLg := Lib.hid (lg_all c l)
      generalize lg c l l.length = g at *
      go_wp2_with fail
      go_ret
      exact ⟨ret_int HLg.out, rfl⟩

end Go.Proofs.Ytagfalnfjiodcaa
