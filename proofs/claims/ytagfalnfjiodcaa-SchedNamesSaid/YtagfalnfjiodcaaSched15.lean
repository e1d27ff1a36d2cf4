/- Counts, Wait. -/
import Derived.Test.YtagfalnfjiodcaaSched11
import Derived.Test.YtagfalnfjiodcaaSep
namespace Go.Proofs.Ytagfalnfjiodcaa
open Go.RowKit

/-- How many of the first ones each core has. -/
def cntK (l : IL) (n k : Nat) : IL := (List.range n).map (fun c : Nat => ((l.take k).count (c : Int) : Int))
theorem cntK_len (l : IL) (n k : Nat) : (cntK l n k).length = n := by simp [cntK]
theorem cntK_zero (l : IL) (n : Nat) : cntK l n 0 = List.replicate n 0 := by
  apply List.ext_getElem
  · simp [cntK]
  · intro i h1 h2; simp [cntK]
theorem count_take_succ {l : IL} {k : Nat} (hk : k < l.length) (c : Int) : (l.take (k + 1)).count c = (l.take k).count c + if l[k] = c then 1 else 0 := by
  rw [List.take_add_one, List.count_append]
  simp only [hk, List.getElem?_eq_getElem, Option.toList_some, List.count_singleton]
  by_cases e : l[k] = c
  · simp [e]
  · simp [e]
theorem cntK_in {l : IL} {n k m : Nat} (hk : k < l.length) (hm : m < n) (e : l[k] = (m : Int)) : (cntK l n k).set m ((cntK l n k).getD m 0 + 1) = cntK l n (k + 1) := by
  apply List.ext_getElem
  · simp [cntK]
  · intro i h1 h2
    have hi : i < n := by simpa [cntK] using h2
    simp only [List.getElem_set]
    simp only [cntK, List.getElem_map, List.getElem_range, count_take_succ hk, e]
    by_cases e1 : m = i
    · subst e1
      simp [hm]
    · rw [if_neg e1, if_neg (by omega)]
      simp
theorem cntK_out {l : IL} {n k : Nat} (hk : k < l.length) (e : l[k] < 0 ∨ (n : Int) ≤ l[k]) : cntK l n (k + 1) = cntK l n k := by
  apply List.ext_getElem
  · simp [cntK]
  · intro i h1 h2
    have hi : i < n := by simpa [cntK] using h2
    simp only [cntK, List.getElem_map, List.getElem_range, count_take_succ hk]
    rw [if_neg (by omega)]
    simp
theorem cntK_le (l : IL) (n k m : Nat) (hm : m < n) : 0 ≤ (cntK l n k).getD m 0 ∧ (cntK l n k).getD m 0 ≤ l.length := by
  have : (cntK l n k).getD m 0 = ((l.take k).count (m : Int) : Int) := by simp [cntK, hm]
  rw [this]
  have h1 := List.count_le_length (a := (m : Int)) (l := l.take k)
  have h2 : (l.take k).length ≤ l.length := by simp; omega
  omega

def CntRel (W : World) (l : IL) (n : Nat) (i : Value) (wr : World) : Prop := ∃ k : Nat, k ≤ l.length ∧ i = .int .i64 k ∧ wr.ownsRow W.heap.size 3 1 (.slice (some ⟨W.heap.size, 0, none⟩) n n) n ((cntK l n k).map (Value.int .i64)) ∧ Chg [] W wr

/-- What Counts ends in. -/
def CntPost (W : World) (l : IL) (n : Nat) (e : Ending) (w' : World) : Prop := ∃ v, e = .returned v ∧ w'.ownsRow W.heap.size 3 1 v n ((cntK l n l.length).map (Value.int .i64)) ∧ Chg [] W w'

set_option maxRecDepth 100000 in
set_option maxHeartbeats 2000000 in
theorem Counts_any (W : World) (A : Option Addr) (cap : Nat) (l : IL) (n : Nat) (h1 : 1 ≤ n) (h4 : n ≤ 4) (hm : l.length ≤ 100000) (hA : NumsA W A W.heap.size l) :
    Calls Try.prog 25 #[.slice A l.length cap, .int .i64 (n : Int)] W (CntPost W l n) := by
  obtain ⟨i0, hi, hz0, hz1, hz2⟩ := info_parts infoI64
  have hn1 : (1 : Int) ≤ n := by omega
  have hn4 : (n : Int) ≤ 4 := by omega
  have hm' : (l.length : Int) ≤ 100000 := by omega
  have HA := Lib.hid hA
  clear hA
  go_enter Try.func25, Try.ntmps25
  go_wp2_with (first
    | (at_make; refine wpList_make_full _ rfl _ _ 23 rfl W.heap.size 3 i0 (.int .i64 0) 1 Try.underlying23 hi hz0 hz1 .i64 .i64 _ _ n rfl rfl rfl rfl (by rw [hz2]; omega) (by unfold maxLen; omega) (Nat.le_refl _) ?_; intro w1 hown hgrow; have HO := Lib.hid hown; have HG := Lib.hid (Chg.of_grown hgrow); clear hown hgrow))
  go_loopw [18] (fun i wr => CntRel W l n i wr) (fun i _ => l.length - (intOf i).toNat)
  case atStart =>
    refine ⟨0, Nat.zero_le _, rfl, ?_, HG.out⟩
    have := HO.out
    rw [made_zero] at this
    rw [cntK_zero]
    exact this
  case round =>
    obtain ⟨k, hk, rfl, hO, hC⟩ := hrel
    by_cases hlt : k < l.length
    · obtain ⟨b, off, rfl, hb, d0⟩ := HA.out.below (hC.to_below (B := W.heap.size) (by simp) (Nat.le_refl _)) k hlt
      have HC := Lib.hid hC
      by_cases hin : 0 ≤ l[k] ∧ l[k] < n
      · obtain ⟨m, hme⟩ : ∃ m : Nat, l[k] = m := ⟨l[k].toNat, by omega⟩
        have hmn : m < n := by omega
        have hmn' : (m : Int) < n := by omega
        have c1 : wr.cell? ⟨W.heap.size, m, none⟩ = some (.int .i64 ((cntK l n k).getD m 0)) := by
          rw [hO.cellAt m (by omega)]
          simp [cntK_len, hmn]
        have f1 : wr.frozen? ⟨W.heap.size, m, none⟩ = false := hO.frozenAt m
        have hle := cntK_le l n k m hmn
        have hw : IntKind.i64.wrap ((cntK l n k).getD m 0 + 1) = (cntK l n k).getD m 0 + 1 := IntWalk.i64_in _ (by omega)
        have hS := hO.stored m (.int .i64 ((cntK l n k).getD m 0 + 1))
        rw [← List.map_set, cntK_in hlt hmn hme] at hS
        have HS := Lib.hid hS
        rw [hme] at d0
        clear hS hO hin hC hle
        generalize (cntK l n k).getD m 0 = y at *
        go_wp2_with fail
        go_roundw
        case rel => exact ⟨k + 1, by omega, by go_num, HS.out.1, HC.out.setCell (by simp) _⟩
        case measure => simp [intOf]; omega
      · have ho : l[k] < 0 ∨ (n : Int) ≤ l[k] := by omega
        rw [← cntK_out hlt ho] at hO
        have HO2 := Lib.hid hO
        clear hO hC hin
        generalize l[k] = y at *
        by_cases h0 : 0 ≤ y
        · have h2 : (n : Int) ≤ y := by omega
          clear ho
          go_wp2_with fail
          go_roundw
          case rel => exact ⟨k + 1, by omega, by go_num, HO2.out, HC.out⟩
          case measure => simp [intOf]; omega
        · have h2 : y < 0 := by omega
          clear ho h0
          go_wp2_with fail
          go_roundw
          case rel => exact ⟨k + 1, by omega, by go_num, HO2.out, HC.out⟩
          case measure => simp [intOf]; omega
    · obtain rfl : k = l.length := by omega
      have HO2 := Lib.hid hO
      have HC := Lib.hid hC
      clear hO hC
      go_wp2_with fail
      go_ret
      exact ⟨_, rfl, HO2.out, HC.out⟩

/-- How long a core waits: the longest so far, and since it came. -/
def waitS (c : Int) (l : IL) : Int × Int := l.foldl (fun s x => let n := if x = c then 0 else s.2 + 1; (max s.1 n, n)) (0, 0)
theorem waitS_snoc (c : Int) (l : IL) (x : Int) : waitS c (l ++ [x]) = (max (waitS c l).1 (if x = c then 0 else (waitS c l).2 + 1), if x = c then 0 else (waitS c l).2 + 1) := by
  simp [waitS, List.foldl_append]
theorem waitS_take {l : IL} {k : Nat} (hk : k < l.length) (c : Int) : waitS c (l.take (k + 1)) = (max (waitS c (l.take k)).1 (if l[k] = c then 0 else (waitS c (l.take k)).2 + 1), if l[k] = c then 0 else (waitS c (l.take k)).2 + 1) := by
  rw [List.take_add_one]
  simp only [hk, List.getElem?_eq_getElem, Option.toList_some]
  exact waitS_snoc _ _ _
theorem waitS_le (c : Int) : ∀ (l : IL) (k : Nat), (0 ≤ (waitS c (l.take k)).1 ∧ (waitS c (l.take k)).1 ≤ k) ∧ 0 ≤ (waitS c (l.take k)).2 ∧ (waitS c (l.take k)).2 ≤ k := by
  intro l k
  induction k with
  | zero => simp [waitS]
  | succ k ih =>
    by_cases hk : k < l.length
    · rw [waitS_take hk]
      simp only
      split <;> omega
    · rw [List.take_of_length_le (by omega)] at ih ⊢
      omega

def WtRel (W : World) (l : IL) (c : Int) (most now i : Value) (wr : World) : Prop := ∃ k : Nat, k ≤ l.length ∧ i = .int .i64 k ∧ most = .int .i64 (waitS c (l.take k)).1 ∧ now = .int .i64 (waitS c (l.take k)).2 ∧ W = wr

set_option maxHeartbeats 2000000 in
theorem Wait_any (W : World) (A : Option Addr) (cap : Nat) (l : IL) (c : Int) (hm : l.length ≤ 100000) (hA : NumsA W A W.heap.size l) :
    Calls Try.prog 28 #[.slice A l.length cap, .int .i64 c] W fun e w' => e = .returned (.int .i64 (waitS c l).1) ∧ W = w' := by
  have hm' : (l.length : Int) ≤ 100000 := by omega
  have HA := Lib.hid hA
  clear hA
  go_enter Try.func28, Try.ntmps28
  go_wp2_with fail
  go_loopw [5, 6, 11] (fun most now i wr => WtRel W l c most now i wr) (fun _ _ i _ => l.length - (intOf i).toNat)
  case atStart => exact ⟨0, Nat.zero_le _, rfl, rfl, rfl, rfl⟩
  case round =>
    obtain ⟨k, hk, rfl, rfl, rfl, rfl⟩ := hrel
    by_cases hlt : k < l.length
    · obtain ⟨b, off, rfl, hb, d0⟩ := HA.out k hlt
      have hle := waitS_le c l k
      have hs := waitS_take hlt c
      obtain ⟨⟨y0, y1⟩, z0, z1⟩ := hle
      have HS := Lib.hid hs
      clear hs
      generalize l[k] = x at *
      generalize (waitS c (l.take k)).1 = y at *
      generalize (waitS c (l.take k)).2 = z at *
      have hw : IntKind.i64.wrap (z + 1) = z + 1 := IntWalk.i64_in _ (by omega)
      by_cases hx : x = c
      · subst hx
        go_wp2_with fail
        go_roundw
        case rel => exact ⟨k + 1, by omega, by go_num, congrArg (Value.int .i64) (by rw [HS.out, if_pos rfl]; show _ = max y 0; omega), by rw [HS.out, if_pos rfl], rfl⟩
        case measure => simp [intOf]; omega
      · go_wp2_with fail
        go_roundw
        case rel => exact ⟨k + 1, by omega, by go_num, congrArg (Value.int .i64) (by rw [HS.out, if_neg hx]; show _ = max y (z + 1); split <;> omega), by rw [HS.out, if_neg hx], rfl⟩
        case measure => simp [intOf]; omega
    · obtain rfl : k = l.length := by omega
      rw [List.take_length]
      go_wp2_with fail
      go_ret
      exact ⟨rfl, rfl⟩

end Go.Proofs.Ytagfalnfjiodcaa
