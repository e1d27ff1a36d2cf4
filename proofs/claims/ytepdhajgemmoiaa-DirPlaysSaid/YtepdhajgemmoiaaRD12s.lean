/- The reference's lists; Same. -/
import Derived.Test.YtepdhajgemmoiaaDir27
import Derived.Test.YtepdhajgemmoiaaDir2324
/- The reference's lists of cores: Has, without, with, Ints. -/
namespace Go.Proofs.Ytepdhajgemmoiaa
set_option linter.unusedSimpArgs false
set_option linter.unusedVariables false
set_option maxRecDepth 100000
set_option linter.unusedSimpArgs false
set_option linter.unusedVariables false
open Go.RowKit

def encN (x : Int) : List Value := [.int .i64 x]
theorem encN_len (x : Int) : (encN x).length = 1 := rfl
theorem flat_encN (l : List Int) : l.flatMap encN = l.map (Value.int .i64) := by
  induction l with
  | nil => rfl
  | cons x l ih => rw [List.flatMap_cons, ih]; rfl
theorem rd_cell {w : World} {A : Option Addr} {l : List Int} (h : Rd w w.heap.size A 1 encN l) {k : Nat} (hk : k < l.length) : ∃ b off, A = some ⟨b, off, none⟩ ∧ b < w.heap.size ∧ w.cell? ⟨b, off + k, none⟩ = some (.int .i64 l[k]) := by
  obtain ⟨b, off, rfl, hb, hc⟩ := h (by omega)
  refine ⟨b, off, rfl, hb, ?_⟩
  have := hc k hk 0 (by decide)
  rw [Nat.mul_one, Nat.add_zero] at this
  exact this

set_option maxHeartbeats 1000000 in
theorem Has_any (w : World) (A : Option Addr) (cap : Nat) (l : List Int) (c : Int) (hl : l.length ≤ 1000) (hR : Rd w w.heap.size A 1 encN l) :
    Calls Try.prog 40 #[.slice A l.length cap, .int .i64 c] w fun e w' => e = .returned (.bool (decide (c ∈ l))) ∧ w = w' := by
  have HR := Lib.hid hR
  clear hR
  go_enter Try.func40, Try.ntmps40
  go_wp2_with fail
  go_loopw [5] (fun i wr => ∃ k : Nat, k ≤ l.length ∧ i = .int .i64 k ∧ Hid (wr = w) ∧ Hid (∀ (j : Nat) (h : j < l.length), j < k → l[j] ≠ c))
    (fun i _ => l.length - (intOf i).toNat)
  case atStart => exact ⟨0, by omega, rfl, Lib.hid rfl, Lib.hid (fun j h h2 => by omega)⟩
  case round =>
    obtain ⟨k, hk, rfl, hw, HN⟩ := hrel
    obtain rfl := hw.out
    clear hw
    by_cases hlt : k < l.length
    · obtain ⟨b, off, hA, hb, hc⟩ := rd_cell HR.out hlt
      subst hA
      have hki : (k : Int) < l.length := by omega
      obtain ⟨y, hy⟩ : ∃ y, l[k] = y := ⟨_, rfl⟩
      rw [hy] at hc
      by_cases hyc : y = c
      · subst hyc
        have HM : Hid (y ∈ l) := Lib.hid (hy ▸ List.getElem_mem hlt)
        clear hy
        go_wp2_with fail
        go_ret
        exact ⟨ret_bool (by simp [HM.out]), rfl⟩
      · have HY := Lib.hid hy
        have HYc := Lib.hid hyc
        have hyb : (y == c) = false := by simpa using hyc
        clear hy hyc
        go_wp2_with fail
        go_roundw
        case rel => exact ⟨k + 1, by omega, by go_num, (by first | exact Lib.hid rfl | exact Lib.hid trivial), Lib.hid (fun j h1 h2 => if h : j = k then by subst h; rw [HY.out]; exact HYc.out else HN.out j h1 (by omega))⟩
        case measure => simp [intOf]; omega
    · obtain rfl : k = l.length := by omega
      have hn : c ∉ l := fun hm => by
        obtain ⟨j, hj, e⟩ := List.getElem_of_mem hm
        exact HN.out j hj hj e
      have HM := Lib.hid hn
      clear hn
      go_wp2_with fail
      go_ret
      exact ⟨ret_bool (by simp [HM.out]), rfl⟩

/-- A new row of numbers. -/
def NumsPost (w : World) (l : List Int) (e : Ending) (w' : World) : Prop := ∃ v, e = .returned v ∧ w'.ownsRow w.heap.size 3 1 v l.length (l.map (Value.int .i64)) ∧ Chg [] w w'

def withoutL (l : List Int) (c : Int) : List Int := l.filter (fun x => decide (x ≠ c))
theorem without_take {l : List Int} {c : Int} {k : Nat} (h : k < l.length) : withoutL (l.take (k + 1)) c = withoutL (l.take k) c ++ (if l[k] ≠ c then [l[k]] else []) := by
  unfold withoutL
  rw [List.take_succ_eq_append_getElem h, List.filter_append]
  by_cases hc : l[k] = c <;> simp [hc]
theorem withoutL_le (l : List Int) (c : Int) : (withoutL l c).length ≤ l.length := List.length_filter_le _ _

set_option maxHeartbeats 2000000 in
theorem without_any (w : World) (A : Option Addr) (cap : Nat) (l : List Int) (c : Int) (hl : l.length ≤ 1000) (hR : Rd w w.heap.size A 1 encN l) :
    Calls Try.prog 41 #[.slice A l.length cap, .int .i64 c] w (NumsPost w (withoutL l c)) := by
  obtain ⟨i0, hi, hz0, hz1, hz2⟩ := info_parts infoInt
  have HR := Lib.hid hR
  clear hR
  go_enter Try.func41, Try.ntmps41
  go_wp2_with fail
  go_loopw [5, 6] (fun v i wr => ∃ k : Nat, k ≤ l.length ∧ i = .int .i64 k ∧ Hid (Chg [] w wr) ∧ Hid (wr.ownsRow w.heap.size 3 1 v (withoutL (l.take k) c).length ((withoutL (l.take k) c).map (Value.int .i64))))
    (fun _ i _ => l.length - (intOf i).toNat)
  case atStart => exact ⟨0, by omega, rfl, Lib.hid (Chg.refl _ _), Lib.hid (World.ownsRow_nil _ _ _ _)⟩
  case round =>
    obtain ⟨k, hk, rfl, hC, hO⟩ := hrel
    by_cases hlt : k < l.length
    · obtain ⟨b, off, hA, hb, hc⟩ := rd_cell (HR.out.chg0 hC.out |> fun h => (h : Rd wr wr.heap.size A 1 encN l)) hlt
      subst hA
      have hki : (k : Int) < l.length := by omega
      obtain ⟨y, hy⟩ : ∃ y, l[k] = y := ⟨_, rfl⟩
      rw [hy] at hc
      have hT := without_take (c := c) hlt
      rw [hy] at hT
      have hlw := withoutL_le (l.take k) c
      rw [List.length_take] at hlw
      have hlw2 : (withoutL (l.take k) c).length ≤ 1000 := by omega
      have hs0 := hC.out.size
      by_cases hyc : y = c
      · have hT2 : withoutL (l.take (k + 1)) c = withoutL (l.take k) c := by rw [hT]; simp [hyc]
        have HT := Lib.hid hT2
        have hyb : (y == c) = true := by simpa using hyc
        clear hT hT2 hy hlw
        subst hyc
        go_wp2_with fail
        go_roundw
        case rel => exact ⟨k + 1, by omega, by go_num, hC, by rw [HT.out]; exact hO⟩
        case measure => simp [intOf]; omega
      · have hT2 : withoutL (l.take (k + 1)) c = withoutL (l.take k) c ++ [y] := by rw [hT]; simp [hyc]
        have HT := Lib.hid hT2
        have hyb : (y == c) = false := by simpa using hyc
        clear hT hT2 hy hlw hyc
        go_wp2_with (first | (at_builtin; refine wpList_append_own_at _ rfl (.tmp 19) (.tmp 24) 36 rfl (w.heap.size) 3 i0 (.int .i64 0) 1 8 Try.underlying36 hi hz0 hz1 hz2 rfl (by decide) _ _ _ rfl (hO.out.alloc _) ⟨wr.heap.size, 0, none⟩ 1 1 [.int .i64 y] rfl rfl (cells_at (by simp) [.int .i64 y] _) (by simp [Value.oneCell']) (by unfold maxLen; omega) (by omega) (by first | omega | (simp; omega) | simp) ?_; intro va1 wa1 hown1 hgrow1 _ hblk1; have hsz1 := hgrow1.size; have HO1 := Lib.hid hown1; have HG1 := Lib.hid hgrow1; have HB1 := Lib.hid hblk1; clear hown1 hgrow1 hblk1) | fail)
        go_roundw
        case rel =>
          refine ⟨k + 1, by omega, by go_num, Lib.hid ?_, Lib.hid ?_⟩
          · exact ((hC.out.alloc _).grown HG1.out (fun q hq hl2 => absurd (hO.out.lt q hq).1 (by omega)))
          · rw [HT.out, List.length_append, List.map_append]; exact HO1.out
        case measure => simp [intOf]; omega
    · obtain rfl : k = l.length := by omega
      rw [List.take_length] at hO
      go_wp2_with fail
      go_ret
      exact ⟨_, rfl, hO.out, hC.out⟩

def withL (l : List Int) (c : Int) (k : Nat) : List Int := ((List.range k).map (fun (j : Nat) => (j : Int))).filter (fun x => decide (x = c ∨ x ∈ l))
theorem withL_succ (l : List Int) (c : Int) (k : Nat) : withL l c (k + 1) = withL l c k ++ (if (k : Int) = c ∨ (k : Int) ∈ l then [(k : Int)] else []) := by
  unfold withL
  rw [List.range_succ, List.map_append, List.filter_append]
  by_cases h : (k : Int) = c ∨ (k : Int) ∈ l <;> simp [h]
theorem withL_le (l : List Int) (c : Int) (k : Nat) : (withL l c k).length ≤ k := by
  refine Nat.le_trans (List.length_filter_le _ _) ?_
  simp

set_option maxHeartbeats 2000000 in
theorem with_any (w : World) (A : Option Addr) (cap : Nat) (l : List Int) (c : Int) (hl : l.length ≤ 1000) (hR : Rd w w.heap.size A 1 encN l) :
    Calls Try.prog 43 #[.slice A l.length cap, .int .i64 c] w (NumsPost w (withL l c 4)) := by
  obtain ⟨i0, hi, hz0, hz1, hz2⟩ := info_parts infoInt
  have HR := Lib.hid hR
  clear hR
  go_enter Try.func43, Try.ntmps43
  go_wp2_with fail
  go_loopw [5, 6] (fun v i wr => ∃ k : Nat, k ≤ 4 ∧ i = .int .i64 k ∧ Hid (Chg [] w wr) ∧ Hid (wr.ownsRow w.heap.size 3 1 v (withL l c k).length ((withL l c k).map (Value.int .i64))))
    (fun _ i _ => 4 - (intOf i).toNat)
  case atStart => exact ⟨0, by omega, rfl, Lib.hid (Chg.refl _ _), Lib.hid (World.ownsRow_nil _ _ _ _)⟩
  case round =>
    obtain ⟨k, hk, rfl, hC, hO⟩ := hrel
    by_cases hlt : k < 4
    · have HH := Lib.hid (Has_any wr A cap l (k : Int) hl (HR.out.chg0 hC.out))
      have hki : (k : Int) < 4 := by omega
      have hT := withL_succ l c k
      have hlw := withL_le l c k
      have hlw2 : (withL l c k).length ≤ 1000 := by omega
      have hs0 := hC.out.size
      clear hlw
      by_cases hkc : (k : Int) = c
      · have hT2 : withL l c (k + 1) = withL l c k ++ [(k : Int)] := by rw [hT]; simp [hkc]
        have HT := Lib.hid hT2
        have hkb : ((k : Int) == c) = true := by simpa using hkc
        clear hT hT2 hkc
        go_wp2_with (first | (at_builtin; refine wpList_append_own_at _ rfl (.tmp 19) (.tmp 21) 36 rfl (w.heap.size) 3 i0 (.int .i64 0) 1 8 Try.underlying36 hi hz0 hz1 hz2 rfl (by decide) _ _ _ rfl (hO.out.alloc _) ⟨wr.heap.size, 0, none⟩ 1 1 [.int .i64 (k : Int)] rfl rfl (cells_at (by simp) [.int .i64 (k : Int)] _) (by simp [Value.oneCell']) (by unfold maxLen; omega) (by omega) (by first | omega | (simp; omega) | simp) ?_; intro va1 wa1 hown1 hgrow1 _ hblk1; have hsz1 := hgrow1.size; have HO1 := Lib.hid hown1; have HG1 := Lib.hid hgrow1; have HB1 := Lib.hid hblk1; clear hown1 hgrow1 hblk1) | fail)
        go_roundw
        case rel =>
          refine ⟨k + 1, by omega, by go_num, Lib.hid ?_, Lib.hid ?_⟩
          · exact ((hC.out.alloc _).grown HG1.out (fun q hq hl2 => absurd (hO.out.lt q hq).1 (by omega)))
          · rw [HT.out, List.length_append, List.map_append]; exact HO1.out
        case measure => simp [intOf]; omega
      · have hkb : ((k : Int) == c) = false := by simpa using hkc
        by_cases hm : (k : Int) ∈ l
        · have hT2 : withL l c (k + 1) = withL l c k ++ [(k : Int)] := by rw [hT]; simp [hm]
          have HT := Lib.hid hT2
          rw [decide_eq_true hm] at HH
          clear hT hT2 hkc hm
          go_wp2_with fail
          refine HH.out.mono ?_
          rintro e w2 ⟨rfl, rfl⟩
          go_wp2_with (first | (at_builtin; refine wpList_append_own_at _ rfl (.tmp 19) (.tmp 21) 36 rfl (w.heap.size) 3 i0 (.int .i64 0) 1 8 Try.underlying36 hi hz0 hz1 hz2 rfl (by decide) _ _ _ rfl (hO.out.alloc _) ⟨wr.heap.size, 0, none⟩ 1 1 [.int .i64 (k : Int)] rfl rfl (cells_at (by simp) [.int .i64 (k : Int)] _) (by simp [Value.oneCell']) (by unfold maxLen; omega) (by omega) (by first | omega | (simp; omega) | simp) ?_; intro va1 wa1 hown1 hgrow1 _ hblk1; have hsz1 := hgrow1.size; have HO1 := Lib.hid hown1; have HG1 := Lib.hid hgrow1; have HB1 := Lib.hid hblk1; clear hown1 hgrow1 hblk1) | fail)
          go_roundw
          case rel =>
            refine ⟨k + 1, by omega, by go_num, Lib.hid ?_, Lib.hid ?_⟩
            · exact ((hC.out.alloc _).grown HG1.out (fun q hq hl2 => absurd (hO.out.lt q hq).1 (by omega)))
            · rw [HT.out, List.length_append, List.map_append]; exact HO1.out
          case measure => simp [intOf]; omega
        · have hT2 : withL l c (k + 1) = withL l c k := by rw [hT]; simp [hm, hkc]
          have HT := Lib.hid hT2
          rw [decide_eq_false hm] at HH
          clear hT hT2 hkc hm
          go_wp2_with fail
          refine HH.out.mono ?_
          rintro e w2 ⟨rfl, rfl⟩
          go_wp2_with fail
          go_roundw
          case rel => exact ⟨k + 1, by omega, by go_num, hC, by rw [HT.out]; exact hO⟩
          case measure => simp [intOf]; omega
    · obtain rfl : k = 4 := by omega
      go_wp2_with fail
      go_ret
      exact ⟨_, rfl, hO.out, hC.out⟩

set_option maxHeartbeats 1000000 in
theorem Ints_any (w : World) (A B : Option Addr) (capA capB : Nat) (l m : List Int) (hl : l.length ≤ 1000) (hA : Rd w w.heap.size A 1 encN l) (hB : Rd w w.heap.size B 1 encN m) :
    Calls Try.prog 45 #[.slice A l.length capA, .slice B m.length capB] w fun e w' => e = .returned (.bool (decide (l = m))) ∧ Chg [] w w' := by
  have HA := Lib.hid hA; have HB := Lib.hid hB
  clear hA hB
  by_cases hlm : l.length = m.length
  · have hlb : ((l.length : Int) == (m.length : Int)) = true := by rw [beq_iff_eq]; omega
    go_enter Try.func45, Try.ntmps45
    have HL := Lib.hid hlm
    rw [← hlm]
    clear hlm hlb
    go_wp2_with fail
    go_loopw [5] (fun i wr => ∃ k : Nat, k ≤ l.length ∧ i = .int .i64 k ∧ Hid (Chg [] w wr) ∧ Hid (∀ (j : Nat) (h1 : j < l.length) (h2 : j < m.length), j < k → l[j] = m[j]))
      (fun i _ => l.length - (intOf i).toNat)
    case atStart => exact ⟨0, by omega, rfl, Lib.hid (Chg.refl _ _), Lib.hid (fun j h h2 h3 => by omega)⟩
    case round =>
      obtain ⟨k, hk, rfl, hC, HN⟩ := hrel
      by_cases hlt : k < l.length
      · have hlt2 : k < m.length := by rw [← HL.out]; exact hlt
        obtain ⟨b, off, hA1, hb, hc⟩ := rd_cell (HA.out.chg0 hC.out) hlt
        obtain ⟨b2, off2, hB1, hb2, hc2⟩ := rd_cell (HB.out.chg0 hC.out) hlt2
        subst hA1 hB1
        have hki : (k : Int) < l.length := by omega
        by_cases he : l[k] = m[k]
        · have HE : Hid (∀ (j : Nat) (h1 : j < l.length) (h2 : j < m.length), j = k → l[j] = m[j]) := Lib.hid (fun j h1 h2 e => by subst e; exact he)
          have heb : (l[k] == m[k]) = true := by simpa using he
          clear he
          generalize l[k] = y1 at *
          generalize m[k] = y2 at *
          go_wp2_with fail
          go_quiet (fail)
          go_wp2_with fail
          go_roundw
          case rel => exact ⟨k + 1, by omega, by go_num, Lib.hid (hC.out.drewN _), Lib.hid (fun j h1 h2 h3 => if h : j = k then HE.out j h1 h2 h else HN.out j h1 h2 (by omega))⟩
          case measure => simp [intOf]; omega
        · have HE := Lib.hid he
          have heb : (l[k] == m[k]) = false := by simpa using he
          clear he
          have HNe : Hid (¬ l = m) := Lib.hid (fun h => HE.out (by simp only [h]))
          generalize l[k] = y1 at *
          generalize m[k] = y2 at *
          go_wp2_with fail
          go_quiet (fail)
          go_wp2_with fail
          go_ret
          exact ⟨ret_bool (by simp [HNe.out]), hC.out.drewN _⟩
      · obtain rfl : k = l.length := by omega
        have hn : l = m := List.ext_getElem HL.out (fun j h1 h2 => HN.out j h1 h2 h1)
        have HM := Lib.hid hn
        clear hn
        go_wp2_with fail
        go_ret
        exact ⟨ret_bool (by simp [HM.out]), hC.out⟩
  · have hlb : ((l.length : Int) == (m.length : Int)) = false := by rw [beq_eq_false_iff_ne]; omega
    have HN : Hid (¬ l = m) := Lib.hid (fun e => hlm (by rw [e]))
    clear hlm
    go_enter Try.func45, Try.ntmps45
    go_wp2_with fail
    go_ret
    exact ⟨ret_bool (by simp [HN.out]), Chg.refl _ _⟩
end Go.Proofs.Ytepdhajgemmoiaa

/- The reference's Same: two lists of messages. -/
namespace Go.Proofs.Ytepdhajgemmoiaa
set_option linter.unusedSimpArgs false
set_option linter.unusedVariables false
set_option maxRecDepth 100000
set_option linter.unusedSimpArgs false
set_option linter.unusedVariables false
open Go.RowKit

theorem rd_msg {w : World} {A : Option Addr} {l : List MsgV} (h : Rd w w.heap.size A 11 encM l) {k : Nat} (hk : k < l.length) : ∃ b off, A = some ⟨b, off, none⟩ ∧ b < w.heap.size ∧ ∀ j, j < 11 → w.cell? ⟨b, off + (k * 11 + j), none⟩ = (encM l[k])[j]? := by
  obtain ⟨b, off, rfl, hb, hc⟩ := h (by omega)
  exact ⟨b, off, rfl, hb, fun j hj => hc k hk j hj⟩

set_option maxHeartbeats 4000000 in
theorem Same_any (w : World) (A B : Option Addr) (capA capB : Nat) (l m : List MsgV) (hl : l.length ≤ 1000) (hA : Rd w w.heap.size A 11 encM l) (hB : Rd w w.heap.size B 11 encM m) :
    Calls Try.prog 23 #[.slice A l.length capA, .slice B m.length capB] w fun e w' => e = .returned (.bool (decide (l = m))) ∧ Chg [] w w' := by
  have HA := Lib.hid hA; have HB := Lib.hid hB
  clear hA hB
  by_cases hlm : l.length = m.length
  · go_enter Try.func23, Try.ntmps23
    have HL := Lib.hid hlm
    rw [← hlm]
    clear hlm
    go_wp2_with fail
    go_loopw [5] (fun i wr => ∃ k : Nat, k ≤ l.length ∧ i = .int .i64 k ∧ Hid (Chg [] w wr) ∧ Hid (∀ (j : Nat) (h1 : j < l.length) (h2 : j < m.length), j < k → l[j] = m[j]))
      (fun i _ => l.length - (intOf i).toNat)
    case atStart => exact ⟨0, by omega, rfl, Lib.hid (Chg.refl _ _), Lib.hid (fun j h h2 h3 => by omega)⟩
    case round =>
      obtain ⟨k, hk, rfl, hC, HN⟩ := hrel
      by_cases hlt : k < l.length
      · have hlt2 : k < m.length := by rw [← HL.out]; exact hlt
        obtain ⟨b1, o1, hA1, hb1, cp⟩ := rd_msg (HA.out.chg0 hC.out) hlt
        obtain ⟨b2, o2, hB1, hb2, cq⟩ := rd_msg (HB.out.chg0 hC.out) hlt2
        subst hA1 hB1
        have hki : (k : Int) < l.length := by omega
        have HE : Hid (l[k] = m[k] → ∀ (j : Nat) (h1 : j < l.length) (h2 : j < m.length), j = k → l[j] = m[j]) := Lib.hid (fun he j h1 h2 e => by subst e; exact he)
        have HNe : Hid (¬ l[k] = m[k] → ¬ l = m) := Lib.hid (fun hn h => hn (by simp only [h]))
        obtain ⟨x, hx⟩ : ∃ x, l[k] = x := ⟨_, rfl⟩
        obtain ⟨y, hy⟩ : ∃ y, m[k] = y := ⟨_, rfl⟩
        rw [hx, hy] at HE HNe
        rw [hx] at cp; rw [hy] at cq
        clear hx hy
        obtain ⟨xk, xc, xl, ⟨x0, x1, x2, x3, x4, x5, x6, x7⟩⟩ := x
        obtain ⟨yk, yc, yl, ⟨y0, y1, y2, y3, y4, y5, y6, y7⟩⟩ := y
        have p0 : wr.cell? ⟨b1, o1 + k * 11, none⟩ = some (.int .i64 xk) := by have := cp 0 (by decide); rw [← Nat.add_assoc] at this; exact this
        have p1 : wr.cell? ⟨b1, o1 + k * 11 + 1, none⟩ = some (.int .i64 xc) := by have := cp 1 (by decide); rw [← Nat.add_assoc] at this; exact this
        have p2 : wr.cell? ⟨b1, o1 + k * 11 + 2, none⟩ = some (.int .i64 xl) := by have := cp 2 (by decide); rw [← Nat.add_assoc] at this; exact this
        have p3 : wr.cell? ⟨b1, o1 + k * 11 + 3, none⟩ = some (.int .u64 x0) := by have := cp 3 (by decide); rw [← Nat.add_assoc] at this; exact this
        have p4 : wr.cell? ⟨b1, o1 + k * 11 + 4, none⟩ = some (.int .u64 x1) := by have := cp 4 (by decide); rw [← Nat.add_assoc] at this; exact this
        have p5 : wr.cell? ⟨b1, o1 + k * 11 + 5, none⟩ = some (.int .u64 x2) := by have := cp 5 (by decide); rw [← Nat.add_assoc] at this; exact this
        have p6 : wr.cell? ⟨b1, o1 + k * 11 + 6, none⟩ = some (.int .u64 x3) := by have := cp 6 (by decide); rw [← Nat.add_assoc] at this; exact this
        have p7 : wr.cell? ⟨b1, o1 + k * 11 + 7, none⟩ = some (.int .u64 x4) := by have := cp 7 (by decide); rw [← Nat.add_assoc] at this; exact this
        have p8 : wr.cell? ⟨b1, o1 + k * 11 + 8, none⟩ = some (.int .u64 x5) := by have := cp 8 (by decide); rw [← Nat.add_assoc] at this; exact this
        have p9 : wr.cell? ⟨b1, o1 + k * 11 + 9, none⟩ = some (.int .u64 x6) := by have := cp 9 (by decide); rw [← Nat.add_assoc] at this; exact this
        have p10 : wr.cell? ⟨b1, o1 + k * 11 + 10, none⟩ = some (.int .u64 x7) := by have := cp 10 (by decide); rw [← Nat.add_assoc] at this; exact this
        have q0 : wr.cell? ⟨b2, o2 + k * 11, none⟩ = some (.int .i64 yk) := by have := cq 0 (by decide); rw [← Nat.add_assoc] at this; exact this
        have q1 : wr.cell? ⟨b2, o2 + k * 11 + 1, none⟩ = some (.int .i64 yc) := by have := cq 1 (by decide); rw [← Nat.add_assoc] at this; exact this
        have q2 : wr.cell? ⟨b2, o2 + k * 11 + 2, none⟩ = some (.int .i64 yl) := by have := cq 2 (by decide); rw [← Nat.add_assoc] at this; exact this
        have q3 : wr.cell? ⟨b2, o2 + k * 11 + 3, none⟩ = some (.int .u64 y0) := by have := cq 3 (by decide); rw [← Nat.add_assoc] at this; exact this
        have q4 : wr.cell? ⟨b2, o2 + k * 11 + 4, none⟩ = some (.int .u64 y1) := by have := cq 4 (by decide); rw [← Nat.add_assoc] at this; exact this
        have q5 : wr.cell? ⟨b2, o2 + k * 11 + 5, none⟩ = some (.int .u64 y2) := by have := cq 5 (by decide); rw [← Nat.add_assoc] at this; exact this
        have q6 : wr.cell? ⟨b2, o2 + k * 11 + 6, none⟩ = some (.int .u64 y3) := by have := cq 6 (by decide); rw [← Nat.add_assoc] at this; exact this
        have q7 : wr.cell? ⟨b2, o2 + k * 11 + 7, none⟩ = some (.int .u64 y4) := by have := cq 7 (by decide); rw [← Nat.add_assoc] at this; exact this
        have q8 : wr.cell? ⟨b2, o2 + k * 11 + 8, none⟩ = some (.int .u64 y5) := by have := cq 8 (by decide); rw [← Nat.add_assoc] at this; exact this
        have q9 : wr.cell? ⟨b2, o2 + k * 11 + 9, none⟩ = some (.int .u64 y6) := by have := cq 9 (by decide); rw [← Nat.add_assoc] at this; exact this
        have q10 : wr.cell? ⟨b2, o2 + k * 11 + 10, none⟩ = some (.int .u64 y7) := by have := cq 10 (by decide); rw [← Nat.add_assoc] at this; exact this
        clear cp cq
        by_cases he : (⟨xk, xc, xl, ⟨x0, x1, x2, x3, x4, x5, x6, x7⟩⟩ : MsgV) = ⟨yk, yc, yl, ⟨y0, y1, y2, y3, y4, y5, y6, y7⟩⟩
        · have hqe : ∀ W, (Op.equalIn 10000 33 (.agg #[.int .i64 xk, .int .i64 xc, .int .i64 xl, .int .u64 x0, .int .u64 x1, .int .u64 x2, .int .u64 x3, .int .u64 x4, .int .u64 x5, .int .u64 x6, .int .u64 x7]) (.agg #[.int .i64 yk, .int .i64 yc, .int .i64 yl, .int .u64 y0, .int .u64 y1, .int .u64 y2, .int .u64 y3, .int .u64 y4, .int .u64 y5, .int .u64 y6, .int .u64 y7])).run Try.prog W = .ok true W := fun W => (eq_msg2 W ⟨xk, xc, xl, ⟨x0, x1, x2, x3, x4, x5, x6, x7⟩⟩ ⟨yk, yc, yl, ⟨y0, y1, y2, y3, y4, y5, y6, y7⟩⟩).trans (by rw [decide_eq_true he])
          replace HE := Lib.hid (HE.out he)
          clear he HNe
          go_wp2_with fail
          go_quiet (fail)
          go_wp2_with fail
          go_roundw
          case rel => exact ⟨k + 1, by omega, by go_num, Lib.hid (hC.out.drewN _), Lib.hid (fun j h1 h2 h3 => if h : j = k then HE.out j h1 h2 h else HN.out j h1 h2 (by omega))⟩
          case measure => simp [intOf]; omega
        · have hqe : ∀ W, (Op.equalIn 10000 33 (.agg #[.int .i64 xk, .int .i64 xc, .int .i64 xl, .int .u64 x0, .int .u64 x1, .int .u64 x2, .int .u64 x3, .int .u64 x4, .int .u64 x5, .int .u64 x6, .int .u64 x7]) (.agg #[.int .i64 yk, .int .i64 yc, .int .i64 yl, .int .u64 y0, .int .u64 y1, .int .u64 y2, .int .u64 y3, .int .u64 y4, .int .u64 y5, .int .u64 y6, .int .u64 y7])).run Try.prog W = .ok false W := fun W => (eq_msg2 W ⟨xk, xc, xl, ⟨x0, x1, x2, x3, x4, x5, x6, x7⟩⟩ ⟨yk, yc, yl, ⟨y0, y1, y2, y3, y4, y5, y6, y7⟩⟩).trans (by rw [decide_eq_false he])
          replace HNe := Lib.hid (HNe.out he)
          clear he HE
          go_wp2_with fail
          go_quiet (fail)
          go_wp2_with fail
          go_ret
          exact ⟨ret_bool (by simp [HNe.out]), hC.out.drewN _⟩
      · obtain rfl : k = l.length := by omega
        have hn : l = m := List.ext_getElem HL.out (fun j h1 h2 => HN.out j h1 h2 h1)
        have HM := Lib.hid hn
        clear hn
        go_wp2_with fail
        go_ret
        exact ⟨ret_bool (by simp [HM.out]), hC.out⟩
  · have hlb : ((l.length : Int) == (m.length : Int)) = false := by rw [beq_eq_false_iff_ne]; omega
    have HN : Hid (¬ l = m) := Lib.hid (fun e => hlm (by rw [e]))
    clear hlm
    go_enter Try.func23, Try.ntmps23
    go_wp2_with fail
    go_ret
    exact ⟨ret_bool (by simp [HN.out]), Chg.refl _ _⟩
end Go.Proofs.Ytepdhajgemmoiaa

