/- The document's May, greatest, on, Ints, Rounds; beside. -/
import Derived.Test.YtagfalnfjiodcaaSched13
import Derived.Test.YtagfalnfjiodcaaSep
namespace Go.Proofs.Ytagfalnfjiodcaa
open Go.RowKit

set_option maxHeartbeats 1000000 in
theorem May_any (W : World) (c m : Int) : Calls Try.prog 36 #[.int .i64 c, .int .i64 m] W fun e w' => e = .returned (.int .i64 (mayN c m)) ∧ W = w' := by
  unfold mayN
  by_cases h1 : c < 1
  · rw [if_pos (.inl h1)]
    go_enter Try.func36, Try.ntmps36
    go_wp2_with fail
    go_ret
    exact ⟨rfl, rfl⟩
  have h1' : 1 ≤ c := by omega
  by_cases h2 : 4 < c
  · rw [if_pos (.inr h2)]
    clear h1
    go_enter Try.func36, Try.ntmps36
    go_wp2_with fail
    go_ret
    exact ⟨rfl, rfl⟩
  have h2' : c ≤ 4 := by omega
  rw [if_neg (by omega)]
  clear h1 h2
  by_cases h3 : m < 0
  · rw [if_pos (.inl h3)]
    go_enter Try.func36, Try.ntmps36
    go_wp2_with fail
    go_ret
    exact ⟨rfl, rfl⟩
  have h3' : 0 ≤ m := by omega
  by_cases h4 : 10000 < m
  · rw [if_pos (.inr h4)]
    clear h3
    go_enter Try.func36, Try.ntmps36
    go_wp2_with fail
    go_ret
    exact ⟨rfl, rfl⟩
  have h4' : m ≤ 10000 := by omega
  rw [if_neg (by omega)]
  clear h3 h4
  go_enter Try.func36, Try.ntmps36
  go_wp2_with fail
  go_ret
  exact ⟨rfl, rfl⟩

theorem gI_snoc {l : IL} (h : 0 < l.length) (x : Int) : gI (l ++ [x]) = if mx l < x then l.length else gI l := by
  obtain ⟨g1, g2⟩ := gI_spec h
  have hg := g2 g1
  split
  · rename_i hx
    refine gI_eq (by simp) (fun i hi => ?_) (fun i hi hil => ?_)
    · simp only [List.getElem_append, Nat.lt_irrefl, dif_neg, not_false_iff]
      split
      · rename_i hil
        have := mx_ge (List.getElem_mem hil)
        simp; omega
      · simp
    · simp only [List.getElem_append, hil, dif_pos, Nat.lt_irrefl, dif_neg, not_false_iff]
      have := mx_ge (List.getElem_mem hil)
      simp; omega
  · rename_i hx
    refine gI_eq (by simp; omega) (fun i hi => ?_) (fun i hi hil => ?_)
    · simp only [List.getElem_append, g1, dif_pos]
      split
      · rename_i hil
        have := mx_ge (List.getElem_mem hil)
        omega
      · simp; omega
    · have hil2 : i < l.length := by omega
      simp only [List.getElem_append, g1, dif_pos, hil2]
      have := gI_first hil hil2
      omega
theorem gI_one (x : Int) : gI [x] = 0 := by
  have := (gI_spec (l := [x]) (by simp)).1
  simpa using this

def GrRel (W : World) (l : IL) (best i : Value) (wr : World) : Prop := ∃ k q : Nat, k ≤ l.length ∧ i = .int .i64 k ∧ best = .int .i64 ((if k = 0 then 0 else gI (l.take k) : Nat) : Int) ∧ wr = W.drewN q

set_option maxHeartbeats 1000000 in
theorem greatestR_any (W : World) (A : Option Addr) (cap : Nat) (l : IL) (hm : l.length ≤ 100) (h0 : 0 < l.length) (hA : NumsA W A W.heap.size l) :
    Calls Try.prog 40 #[.slice A l.length cap] W fun e w' => e = .returned (.int .i64 (gI l : Int)) ∧ Chg [] W w' := by
  have hm' : (l.length : Int) ≤ 100 := by omega
  have HA := Lib.hid hA
  clear hA
  go_enter Try.func40, Try.ntmps40
  go_wp2_with fail
  go_loopw [3, 4] (fun best i wr => GrRel W l best i wr) (fun _ i _ => l.length - (intOf i).toNat)
  case atStart => exact ⟨0, 0, Nat.zero_le _, rfl, rfl, rfl⟩
  case round =>
    obtain ⟨k, q, hk, rfl, rfl, rfl⟩ := hrel
    by_cases hlt : k < l.length
    · have hb : (if k = 0 then 0 else gI (l.take k)) < l.length := by
        split
        · omega
        · have := (gI_spec (l := l.take k) (by simp; omega)).1
          simp at this; omega
      obtain ⟨b, off, rfl, _, d0⟩ := HA.out k hlt
      obtain ⟨b2, off2, e2, _, d1⟩ := HA.out _ hb
      obtain ⟨rfl, rfl⟩ : b = b2 ∧ off = off2 := by simpa using e2
      have hs : (l[if k = 0 then 0 else gI (l.take k)] < l[k] ∧ gI (l.take (k + 1)) = k) ∨ (l[k] ≤ l[if k = 0 then 0 else gI (l.take k)] ∧ gI (l.take (k + 1)) = if k = 0 then 0 else gI (l.take k)) := by
        rw [List.take_add_one]
        simp only [hlt, List.getElem?_eq_getElem, Option.toList_some]
        by_cases hz : k = 0
        · subst hz
          simp only [if_true, List.take_zero, List.nil_append]
          exact .inr ⟨Int.le_refl _, gI_one _⟩
        · simp only [if_neg hz]
          obtain ⟨g1, g2⟩ := gI_spec (l := l.take k) (by simp; omega)
          have hg := g2 g1
          rw [List.getElem_take] at hg
          rw [gI_snoc (by simp; omega), hg]
          by_cases hx : mx (l.take k) < l[k]
          · rw [if_pos hx]
            exact .inl ⟨hx, by simp; omega⟩
          · rw [if_neg hx]
            exact .inr ⟨by omega, rfl⟩
      have HS := Lib.hid hs
      have hb' : (((if k = 0 then 0 else gI (l.take k)) : Nat) : Int) < l.length := by omega
      clear hs e2 HA
      generalize l[k] = y at *
      generalize l[if k = 0 then 0 else gI (l.take k)] = z at *
      generalize (if k = 0 then 0 else gI (l.take k)) = g at *
      rcases HS.out with ⟨h1, h2⟩ | ⟨h1, h2⟩
      · have H2 := Lib.hid h2
        clear h2
        go_wp2_with fail
        go_quiet (fail)
        go_wp2_with fail
        go_roundw
        case rel => exact ⟨k + 1, _, by omega, by go_num, by rw [if_neg (by omega), H2.out], rfl⟩
        case measure => simp [intOf]; omega
      · have H2 := Lib.hid h2
        clear h2
        go_wp2_with fail
        go_quiet (fail)
        go_wp2_with fail
        go_roundw
        case rel => exact ⟨k + 1, _, by omega, by go_num, by rw [if_neg (by omega), H2.out], rfl⟩
        case measure => simp [intOf]; omega
    · obtain rfl : k = l.length := by omega
      rw [List.take_length, if_neg (by omega)]
      go_wp2_with fail
      go_ret
      exact ⟨rfl, (Chg.refl _ _).drewN _⟩

set_option maxHeartbeats 1000000 in
theorem Ints_true (W : World) (A B : Option Addr) (cap cap' : Nat) (l : IL) (hm : l.length ≤ 100000) (hA : NumsA W A W.heap.size l) (hB : NumsA W B W.heap.size l) :
    Calls Try.prog 22 #[.slice A l.length cap, .slice B l.length cap'] W fun e w' => e = .returned (.bool true) ∧ Chg [] W w' := by
  have HA := Lib.hid hA
  have HB := Lib.hid hB
  have hm' : (l.length : Int) ≤ 100000 := by omega
  clear hA hB
  go_enter Try.func22, Try.ntmps22
  go_wp2_with fail
  go_loopw [5] (fun i wr => ToldRel W l.length i wr) (fun i _ => l.length - (intOf i).toNat)
  case atStart => exact ⟨0, 0, Nat.zero_le _, rfl, rfl⟩
  case round =>
    obtain ⟨k, q, hk, rfl, rfl⟩ := hrel
    by_cases hlt : k < l.length
    · obtain ⟨b, off, rfl, _, c1⟩ := HA.out k hlt
      obtain ⟨b2, off2, rfl, _, c2⟩ := HB.out k hlt
      generalize l[k] = lk at *
      go_wp2_with fail
      go_quiet (fail)
      go_wp2_with fail
      go_roundw
      case rel => exact ⟨k + 1, _, by omega, by go_num, rfl⟩
      case measure => simp [intOf]; omega
    · obtain rfl : k = l.length := by omega
      go_wp2_with fail
      go_ret
      exact ⟨rfl, (Chg.refl _ _).drewN _⟩

theorem beside_true (W : World) (A B : Option Addr) (cap cap' : Nat) (l : IL) (err : Int) (hm : l.length ≤ 100000) (hA : NumsA W A W.heap.size l) (hB : NumsA W B W.heap.size l) :
    Calls Try.prog 14 #[.slice A l.length cap, .int .i64 err, .slice B l.length cap', .int .i64 err] W fun e w' => e = .returned (.bool true) ∧ Chg [] W w' := by
  have HI := Lib.hid (Ints_true W A B cap cap' l hm hA hB)
  clear hA hB
  go_enter Try.func14, Try.ntmps14
  go_wp2_with fail
  refine HI.out.mono ?_
  rintro e w' ⟨rfl, hC⟩
  have HC := Lib.hid hC
  clear hC
  go_wp2_with fail
  go_ret
  exact ⟨rfl, HC.out⟩

end Go.Proofs.Ytagfalnfjiodcaa
