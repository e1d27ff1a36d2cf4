/- slices.Repeat of one act; Acts. -/
import Derived.Test.YtagfalnfjiodcaaSched26
import Derived.Test.YtagfalnfjiodcaaCopy
namespace Go.Proofs.Ytagfalnfjiodcaa
open Go.RowKit

theorem and32 (n : Nat) (h : n ≤ 1000) : bits .and .u64 (n : Int) 4294967295 = n := by
  rw [show (4294967295 : Int) = ((4294967295 : Nat) : Int) from rfl, bits_and_u64_nat n 4294967295 (by omega) (by omega), show 4294967295 = 2 ^ 32 - 1 from rfl, Nat.and_two_pow_sub_one_eq_mod]
  omega

theorem Mul64_one (W : World) (n : Nat) (h : n ≤ 100) : Calls Try.prog 56 #[.int .u64 1, .int .u64 (n : Int)] W fun e w' => e = .returned (.tuple #[.int .u64 0, .int .u64 (n : Int)]) ∧ W = w' := by
  have e1 : bits .and .u64 (n : Int) 4294967295 = n := and32 n (by omega)
  have e2 : bits .and .u64 1 4294967295 = 1 := and32 1 (by omega)
  have e3 : bits .and .u64 0 4294967295 = 0 := and32 0 (by omega)
  have e4 : (n : Int) / 4294967296 = 0 := by omega
  have e5 : (1 : Int) / 4294967296 = 0 := by omega
  have h0 : (n : Int) ≤ 100 := by omega
  go_enter Try.func56, Try.ntmps56
  go_wp2_with fail
  go_ret2
  exact ⟨rfl, rfl⟩

theorem Mul_one (W : World) (n : Nat) (h : n ≤ 100) : Calls Try.prog 54 #[.int .u64 1, .int .u64 (n : Int)] W fun e w' => e = .returned (.tuple #[.int .u64 0, .int .u64 (n : Int)]) ∧ W = w' := by
  have H := Lib.hid (Mul64_one W n h)
  have h0 : (n : Int) ≤ 100 := by omega
  go_enter Try.func54, Try.ntmps54
  go_wp2_with fail
  refine H.out.mono ?_
  rintro e w' ⟨rfl, rfl⟩
  go_wp2_with fail
  go_ret2
  exact ⟨rfl, rfl⟩

/-- The cells of so many acts, of which the first ones are the bus's. -/
def busK (per k : Nat) : List Value := (List.range (per * 3)).map (fun i => .int .i64 (if i < k * 3 ∧ i % 3 = 0 then 2 else 0))
theorem busK_len (per k : Nat) : (busK per k).length = per * 3 := by simp [busK]
theorem busK_get (per k i : Nat) (hi : i < per * 3) : (busK per k)[i]? = some (.int .i64 (if i < k * 3 ∧ i % 3 = 0 then 2 else 0)) := by simp [busK, hi]
theorem busK_zero (per : Nat) : busK per 0 = (List.replicate (per * 3) (Value.int .i64 0)) := by
  apply List.ext_getElem
  · simp [busK]
  · intro i h1 h2; simp [busK]
theorem busK_splice {per k m : Nat} (hk : 1 ≤ k) (hm : m ≤ k) (h : k + m ≤ per) : splice (busK per k) (k * 3) ((busK per k).take (m * 3)) = busK per (k + m) := by
  apply List.ext_getElem?
  intro i
  unfold splice
  have hl : ((busK per k).take (m * 3)).length = m * 3 := by rw [List.length_take, busK_len]; omega
  have hl2 : ((busK per k).take (k * 3)).length = k * 3 := by rw [List.length_take, busK_len]; omega
  rw [hl]
  by_cases h1 : i < k * 3
  · rw [List.getElem?_append_left (by rw [hl2]; exact h1), List.getElem?_take_of_lt h1, busK_get _ _ _ (by omega), busK_get _ _ _ (by omega)]
    simp only [h1, true_and, show i < (k + m) * 3 from by omega]
  · rw [List.getElem?_append_right (by rw [hl2]; omega), hl2]
    by_cases h2 : i < (k + m) * 3
    · rw [List.getElem?_append_left (by rw [hl]; omega), List.getElem?_take_of_lt (by omega), busK_get _ _ _ (by omega), busK_get _ _ _ (by omega)]
      have : (i - k * 3) % 3 = i % 3 := by omega
      simp only [this, h2, show i - k * 3 < k * 3 from by omega]
    · rw [List.getElem?_append_right (by rw [hl]; omega), hl, List.getElem?_drop, show k * 3 + m * 3 + (i - k * 3 - m * 3) = i from by omega]
      by_cases h3 : i < per * 3
      · rw [busK_get _ _ _ h3, busK_get _ _ _ h3]
        simp only [h1, h2, false_and]
      · rw [List.getElem?_eq_none (by rw [busK_len]; omega), List.getElem?_eq_none (by rw [busK_len]; omega)]
theorem busK_first {per : Nat} (h : 1 ≤ per) : splice (busK per 0) 0 [.int .i64 2, .int .i64 0, .int .i64 0] = busK per 1 := by
  apply List.ext_getElem?
  intro i
  unfold splice
  simp only [List.take_zero, List.nil_append, List.length_cons, List.length_nil, Nat.zero_add, Nat.reduceAdd]
  by_cases h1 : i < 3
  · rw [List.getElem?_append_left (by simpa using h1), busK_get _ _ _ (by omega)]
    match i, h1 with
    | 0, _ => rfl
    | 1, _ => rfl
    | 2, _ => rfl
  · rw [List.getElem?_append_right (by simp; omega), List.getElem?_drop]
    simp only [List.length_cons, List.length_nil, Nat.zero_add, Nat.reduceAdd]
    rw [show 3 + (i - 3) = i from by omega]
    by_cases h3 : i < per * 3
    · rw [busK_get _ _ _ h3, busK_get _ _ _ h3]
      simp [h1]
    · rw [List.getElem?_eq_none (by rw [busK_len]; omega), List.getElem?_eq_none (by rw [busK_len]; omega)]
theorem busK_one (per k : Nat) : ∀ v ∈ busK per k, v.oneCell' = true := by
  intro v hv
  obtain ⟨i, _, rfl⟩ := List.mem_map.1 hv
  rfl

theorem infoAct : (Try.prog.info? 58).map (fun i => (i.zero, i.size, i.bytes)) = some (some (.agg #[.int .i64 0, .int .i64 0, .int .i64 0]), 3, 24) := by kernel_rfl

theorem Blk.of_madeS {w : World} {base : Nat} {e : TypeId} {g n size : Nat} {xs : List Value} (h : w.ownsRow base e size (.slice (some ⟨g, 0, none⟩) n n) n xs) : Blk w g xs e := by
  rcases h.2 with ⟨h0, _⟩ | ⟨g', cap, cur, he, _, hb, _, _, hs, ht⟩
  · cases h0
  · obtain ⟨rfl, rfl⟩ : g = g' ∧ n = cap := by simpa using he
    rw [List.take_of_length_le (by simp [hs])] at ht
    subst ht
    exact hb
theorem rep_first {w : World} {g b per : Nat} {t : TypeId} (h1 : 1 ≤ per) (hg : Blk w g (busK per 0) t) (hb : Blk w b [.int .i64 2, .int .i64 0, .int .i64 0] t) :
    CopyAt w 3 (.slice (some ⟨g, 0, none⟩) per per) (.slice (some ⟨b, 0, none⟩) 1 1) g 0 (busK per 0) t 1 [.int .i64 2, .int .i64 0, .int .i64 0] := by
  refine ⟨⟨_, _, _, _, _, _, rfl, rfl, by simp [Nat.min_def]; omega, fun _ => ⟨rfl, _, rfl, fun j v hj => ?_⟩⟩, hg, rfl, by rw [busK_len]; simp; omega, by simp [Value.oneCell']⟩
  have : (⟨b, 0, none⟩ : Addr).add j = ⟨b, j, none⟩ := by
    unfold Addr.add
    split
    · rename_i h0; subst h0; rfl
    · simp
  rw [this, hb.cell, hj]
theorem rep_none {w : World} {g : Nat} {t : TypeId} {A : Option Addr} {l c : Nat} (hg : Blk w g (busK 0 0) t) :
    CopyAt w 3 (.slice (some ⟨g, 0, none⟩) 0 0) (.slice A l c) g 0 (busK 0 0) t 0 [] :=
  ⟨⟨_, _, _, _, _, _, rfl, rfl, by simp, fun h => absurd h (by omega)⟩, hg, rfl, by simp [busK_len], by simp⟩
theorem rep_more {w : World} {g per k : Nat} {t : TypeId} (h1 : 1 ≤ k) (hk : k < per) (hg : Blk w g (busK per k) t) :
    CopyAt w 3 (.slice (some ⟨g, k * 3, none⟩) (per - k) (per - k)) (.slice (some ⟨g, 0, none⟩) k per) g (k * 3) (busK per k) t (Nat.min k (per - k)) ((busK per k).take (Nat.min k (per - k) * 3)) := by
  have hm : Nat.min k (per - k) ≤ k ∧ Nat.min k (per - k) ≤ per - k := ⟨Nat.min_le_left _ _, Nat.min_le_right _ _⟩
  have hl : ((busK per k).take (Nat.min k (per - k) * 3)).length = Nat.min k (per - k) * 3 := by rw [List.length_take, busK_len]; omega
  refine ⟨⟨_, _, _, _, _, _, rfl, rfl, rfl, fun _ => ⟨rfl, _, rfl, fun j v hj => ?_⟩⟩, hg, hl, by rw [hl, busK_len]; omega, fun v hv => busK_one per k v (List.mem_of_mem_take hv)⟩
  have : (⟨g, 0, none⟩ : Addr).add j = ⟨g, j, none⟩ := by
    unfold Addr.add
    split
    · rename_i h0; subst h0; rfl
    · simp
  rw [this, hg.cell]
  rw [List.getElem?_take] at hj
  split at hj
  · exact hj
  · cases hj

def RepPost (W : World) (per : Nat) (e : Ending) (w' : World) : Prop := ∃ g, e = .returned (.slice (some ⟨g, 0, none⟩) per per) ∧ Blk w' g (busK per per) 58 ∧ W.heap.size ≤ g ∧ Chg [] W w'
def RepRel (W : World) (g per : Nat) (n : Value) (wr : World) : Prop := ∃ k : Nat, 1 ≤ k ∧ k ≤ per ∧ n = .int .i64 k ∧ Blk wr g (busK per k) 58 ∧ Chg [g] W wr

theorem madeAct (k : Nat) : (madeCells (Value.agg #[.int .i64 0, .int .i64 0, .int .i64 0]).cells (k * 3)).toList = busK k 0 := by
  rw [busK_zero, madeCells_replicate (.int .i64 0) 2 (k * 3) (Value.agg #[.int .i64 0, .int .i64 0, .int .i64 0]).cells rfl]

set_option maxRecDepth 100000 in
set_option maxHeartbeats 2000000 in
theorem Repeat_any (W : World) (b per : Nat) (h : per ≤ 100) (hb : Blk W b [.int .i64 2, .int .i64 0, .int .i64 0] 58) :
    Calls Try.prog 47 #[.slice (some ⟨b, 0, none⟩) 1 1, .int .i64 (per : Int)] W (RepPost W per) := by
  obtain ⟨i0, hi, hz0, hz1, hz2⟩ := info_parts infoAct
  have hsz : (Try.prog.info? 58).map (·.size) = some 3 := by kernel_rfl
  have hp : (per : Int) ≤ 100 := by omega
  have HM := Lib.hid (Mul_one W per h)
  have hw1 : IntKind.u64.wrap (per : Int) = per := by rw [show IntKind.u64.wrap (per : Int) = (per : Int) % 18446744073709551616 from by simp [IntKind.wrap, IntKind.signed, IntKind.bits]]; omega
  have hw2 : IntKind.i64.wrap (per : Int) = per := IntWalk.i64_in _ (by omega)
  have HBb := Lib.hid hb
  have hd1 : decide ((per : Int) < 0) = false := by simp
  have hd2 : decide ((9223372036854775807 : Int) < per) = false := by simp; omega
  clear hb
  go_enter Try.func47, Try.ntmps47
  go_wp2_with fail
  refine HM.out.mono ?_
  rintro e w' ⟨rfl, rfl⟩
  have HMake : ∀ (w' : World), w'.ownsRow W.heap.size 58 3 (.slice (some ⟨W.heap.size, 0, none⟩) per per) per (madeCells (Value.agg #[.int .i64 0, .int .i64 0, .int .i64 0]).cells (per * 3)).toList → Blk w' W.heap.size (busK per 0) 58 := fun _ h => by
    rw [madeAct] at h; exact Blk.of_madeS h
  have HMk := Lib.hid HMake
  clear HMake
  by_cases h0 : per = 0
  · subst h0
    simp only [show ((0 : Nat) : Int) = 0 from rfl] at *
    go_wp2_with (first
      | (at_make; refine wpList_make_full _ rfl _ _ 39 rfl W.heap.size 58 i0 (.agg #[.int .i64 0, .int .i64 0, .int .i64 0]) 3 Try.underlying39 hi hz0 hz1 .i64 .i64 _ _ 0 rfl rfl rfl rfl (by rw [hz2]; omega) (by unfold maxLen; omega) (Nat.le_refl _) ?_; intro w1 hown hgrow; have HB1 := Lib.hid (HMk.out _ hown); have HG1 := Lib.hid (Chg.of_grown hgrow); have HCp := Lib.hid (rep_none (A := some ⟨b, 0, none⟩) (l := 1) (c := 1) HB1.out); clear hown hgrow)
      | (refine wpList_copy_at _ rfl (.tmp 31) (.tmp 32) 39 39 rfl 58 3 Try.underlying39 hsz W.heap.size 0 (busK 0 0) 58 0 [] HCp.out ?_; intro w2 hb2 hc2; rw [show splice (busK 0 0) 0 [] = busK 0 0 from rfl] at hb2; have HB2 := Lib.hid hb2; have HC2 := Lib.hid (HG1.out.trans' hc2 (fun x hx hl => by simp at hx; omega)); clear hb2 hc2))
    go_loopw [8] (fun n wr => n = .int .i64 0 ∧ wr = w2) (fun _ _ => 0)
    case atStart => exact ⟨rfl, rfl⟩
    case round =>
      obtain ⟨rfl, rfl⟩ := hrel
      go_wp2_with fail
      go_ret
      exact ⟨_, rfl, HB2.out, Nat.le_refl _, HC2.out⟩
  · have h1 : 1 ≤ per := by omega
    have h1' : (1 : Int) ≤ per := by omega
    clear h0
    go_wp2_with (first
      | (at_make; refine wpList_make_full _ rfl _ _ 39 rfl W.heap.size 58 i0 (.agg #[.int .i64 0, .int .i64 0, .int .i64 0]) 3 Try.underlying39 hi hz0 hz1 .i64 .i64 _ _ per rfl rfl rfl rfl (by rw [hz2]; omega) (by unfold maxLen; omega) (Nat.le_refl _) ?_; intro w1 hown hgrow; have HB1 := Lib.hid (HMk.out _ hown); have HG1 := Lib.hid (Chg.of_grown hgrow); have HCp := Lib.hid (rep_first h1 HB1.out (HG1.out.blk HBb.out (by simp))); clear hown hgrow)
      | (refine wpList_copy_at _ rfl (.tmp 31) (.tmp 32) 39 39 rfl 58 3 Try.underlying39 hsz W.heap.size 0 (busK per 0) 58 1 [.int .i64 2, .int .i64 0, .int .i64 0] HCp.out ?_; intro w2 hb2 hc2; rw [busK_first h1] at hb2; have HB2 := Lib.hid hb2; have HC2 := Lib.hid (HG1.out.trans' hc2 (fun x hx hl => by simp at hx; omega)); clear hb2 hc2))
    have hgl : W.heap.size < w2.heap.size := HB2.out.lt
    go_loopw [8] (fun n wr => RepRel W W.heap.size per n wr) (fun n _ => per - (intOf n).toNat)
    case atStart => exact ⟨1, Nat.le_refl _, h1, rfl, HB2.out, HC2.out.mono (by simp)⟩
    case round =>
      obtain ⟨k, hk1, hk, rfl, hB, hC⟩ := hrel
      by_cases hlt : k < per
      · have HCp2 := Lib.hid (rep_more hk1 hlt hB.drew)
        have hm : Nat.min k (per - k) ≤ k ∧ Nat.min k (per - k) ≤ per - k ∧ 1 ≤ Nat.min k (per - k) := ⟨Nat.min_le_left _ _, Nat.min_le_right _ _, Nat.le_min.2 ⟨hk1, by omega⟩⟩
        have HSp := Lib.hid (busK_splice (per := per) hk1 hm.1 (by omega))
        have HC3 := Lib.hid hC.drew
        obtain ⟨m1, m2, m3⟩ := hm
        clear hB hC
        generalize (busK per k).take (Nat.min k (per - k) * 3) = cs at *
        generalize Nat.min k (per - k) = m at *
        have hne : ¬ per = k := by omega
        have hwm : IntKind.i64.wrap ((k : Int) + m) = k + m := IntWalk.i64_in _ (by omega)
        go_wp2_with fail
        go_region_law (refine step_copy_at rfl (.tmp 41) (.tmp 44) 39 39 rfl 58 3 Try.underlying39 hsz W.heap.size (k * 3) (busK per k) 58 m cs (.slice (some ⟨W.heap.size, k * 3, none⟩) (per - k) (per - k)) (.slice (some ⟨W.heap.size, 0, none⟩) k per) (by simp [Act.eval, Act.put]) (by simp [Act.eval, Act.put]) HCp2.out ?_; intro w3 hb3 hc3; rw [HSp.out] at hb3)
        all_goals
          have HB3 := hb3
          have HC4 := Lib.hid (HC3.out.trans hc3)
          clear hb3 hc3
          simp only [List.getElem_toArray, List.getElem_cons_succ, List.getElem_cons_zero, Act.put, Array.set!_eq_setIfInBounds, List.setIfInBounds_toArray, List.set_cons_succ, List.set_cons_zero]
          go_wp2_with fail
          go_roundw
          case rel => exact ⟨k + m, by omega, by omega, by go_num, HB3.out, HC4.out⟩
          case measure => simp [intOf]; omega
      · obtain rfl : k = per := by omega
        have HB3 := Lib.hid hB
        have HC3 := Lib.hid hC
        clear hB hC
        go_wp2_with fail
        go_ret
        exact ⟨_, rfl, HB3.out, Nat.le_refl _, (Chg.refl [] W).trans' HC3.out (fun x hx hl => by simp at hx; omega)⟩

end Go.Proofs.Ytagfalnfjiodcaa
