/- SchedShares. -/
import Derived.Test.YtagfalnfjiodcaaSched25
import Derived.Test.YtagfalnfjiodcaaOwn
namespace Go.Proofs.Ytagfalnfjiodcaa
open Go.RowKit

theorem WeightsR_any (W : World) (A : Option Addr) (cap : Nat) (l : IL) (m : Int) (hl : l.length ≤ 100) (hA : NumsA W A W.heap.size l) :
    Calls Try.prog 19 #[.slice A l.length cap, .int .i64 m] W (SPost W (weightsL l m) (mayL l 1 m)) := by
  have hl' : (l.length : Int) ≤ 100 := by omega
  have hW := within_any W A cap l 1 hl hA
  by_cases h0 : mayL l 1 m = 0
  · obtain ⟨hw, hm⟩ := mayL_zero.1 h0
    rw [weightsL, if_pos h0, h0]
    obtain ⟨M, rfl⟩ : ∃ M : Nat, m = M := ⟨m.toNat, by omega⟩
    exact WeightsR_ok W A cap M l hw hA (by omega)
  · rw [weightsL, if_neg h0]
    cases hb : l.any (badN 1) with
    | true =>
      rw [mayL_bad hb]
      rw [hb] at hW
      have HM := Lib.hid (fun W => May_any W l.length m)
      have HW := Lib.hid hW
      clear hW h0 hb hA
      go_enter Try.func19, Try.ntmps19
      go_wp2_with fail
      refine HW.out.mono ?_
      rintro e w1 ⟨rfl, hC1⟩
      have HC1 := Lib.hid hC1
      clear hC1
      go_wp2_with fail
      refine (HM.out _).mono ?_
      rintro e w' ⟨rfl, rfl⟩
      go_wp2_with fail
      go_ret2
      exact SPost.bad HC1.out
    | false =>
      rw [mayL_fine hb] at h0 ⊢
      rw [hb] at hW
      have HM := Lib.hid (fun W => May_any W l.length m)
      have HW := Lib.hid hW
      have hb0 : (mayN (l.length : Int) m == 0) = false := by simpa using h0
      have hb1 : (mayN (l.length : Int) m != 0) = true := by simpa using h0
      clear hW h0 hb hA
      generalize mayN (l.length : Int) m = er at *
      go_enter Try.func19, Try.ntmps19
      go_wp2_with fail
      refine HW.out.mono ?_
      rintro e w1 ⟨rfl, hC1⟩
      have HC1 := Lib.hid hC1
      clear hC1
      go_wp2_with fail
      refine (HM.out _).mono ?_
      rintro e w' ⟨rfl, rfl⟩
      go_wp2_with fail
      go_ret2
      exact SPost.bad HC1.out

theorem RanksR_any (W : World) (A : Option Addr) (cap : Nat) (l : IL) (m : Int) (hl : l.length ≤ 100) (hA : NumsA W A W.heap.size l) :
    Calls Try.prog 21 #[.slice A l.length cap, .int .i64 m] W (SPost W (ranksL l m) (mayL l 0 m)) := by
  have hl' : (l.length : Int) ≤ 100 := by omega
  have hW := within_any W A cap l 0 hl hA
  by_cases h0 : mayL l 0 m = 0
  · obtain ⟨hw, hm⟩ := mayL_zero.1 h0
    rw [ranksL, if_pos h0, h0]
    obtain ⟨M, rfl⟩ : ∃ M : Nat, m = M := ⟨m.toNat, by omega⟩
    exact RanksR_ok W A cap M l hw hA (by omega)
  · rw [ranksL, if_neg h0]
    cases hb : l.any (badN 0) with
    | true =>
      rw [mayL_bad hb]
      rw [hb] at hW
      have HM := Lib.hid (fun W => May_any W l.length m)
      have HW := Lib.hid hW
      clear hW h0 hb hA
      go_enter Try.func21, Try.ntmps21
      go_wp2_with fail
      refine HW.out.mono ?_
      rintro e w1 ⟨rfl, hC1⟩
      have HC1 := Lib.hid hC1
      clear hC1
      go_wp2_with fail
      refine (HM.out _).mono ?_
      rintro e w' ⟨rfl, rfl⟩
      go_wp2_with fail
      go_ret2
      exact SPost.bad HC1.out
    | false =>
      rw [mayL_fine hb] at h0 ⊢
      rw [hb] at hW
      have HM := Lib.hid (fun W => May_any W l.length m)
      have HW := Lib.hid hW
      have hb0 : (mayN (l.length : Int) m == 0) = false := by simpa using h0
      have hb1 : (mayN (l.length : Int) m != 0) = true := by simpa using h0
      clear hW h0 hb hA
      generalize mayN (l.length : Int) m = er at *
      go_enter Try.func21, Try.ntmps21
      go_wp2_with fail
      refine HW.out.mono ?_
      rintro e w1 ⟨rfl, hC1⟩
      have HC1 := Lib.hid hC1
      clear hC1
      go_wp2_with fail
      refine (HM.out _).mono ?_
      rintro e w' ⟨rfl, rfl⟩
      go_wp2_with fail
      go_ret2
      exact SPost.bad HC1.out

theorem NumsA.news {w : World} {A : Option Addr} {n₀ : Nat} {l : IL} (h : NumsA w A n₀ l) : ∀ ad, A = some ad → ∀ j u, (l.map (Value.int .i64))[j]? = some u → w.cell? (ad.add j) = some u := by
  intro ad e j u hj
  obtain ⟨hj', rfl⟩ := List.getElem?_eq_some_iff.1 hj
  rw [List.length_map] at hj'
  obtain ⟨b, off, e2, _, hc⟩ := h j hj'
  obtain rfl : ad = ⟨b, off, none⟩ := by rw [e] at e2; simpa using e2
  have : (⟨b, off, none⟩ : Addr).add j = ⟨b, off + j, none⟩ := by
    unfold Addr.add
    split
    · rename_i h0; subst h0; rfl
    · rfl
  rw [this, hc]
  simp

def TwPost (W : World) (l : IL) (e : Ending) (w' : World) : Prop := ∃ g cap, e = .returned (.slice (some ⟨g, 0, none⟩) (l.length + 1) cap) ∧ l.length + 1 ≤ cap ∧ NumsA w' (some ⟨g, 0, none⟩) w'.heap.size (l ++ [77]) ∧ Chg [] W w'

set_option maxHeartbeats 1000000 in
theorem twin_any (W : World) (A : Option Addr) (cap : Nat) (l : IL) (hl : l.length ≤ 1000) (hcap : l.length ≤ cap) (hA0 : A = none → cap = 0) (hA : NumsA W A W.heap.size l) :
    Calls Try.prog 17 #[.slice A l.length cap] W (TwPost W l) := by
  obtain ⟨i0, hi, hz0, hz1, hz2⟩ := info_parts infoI64
  have hn := hA.news
  have HN := Lib.hid hn
  have H0 := Lib.hid hA0
  have HO0 := Lib.hid (World.ownsRow_nil W W.heap.size 3 1)
  clear hn hA0 hA
  go_enter Try.func17, Try.ntmps17
  go_wp2_with (first
    | (at_builtin; refine wpList_append_own_any _ rfl (.tmp 4) (.tmp 5) 23 rfl (W.heap.size) 3 i0 (.int .i64 0) 1 8 Try.underlying23 hi hz0 hz1 hz2 rfl (by decide) _ _ _ rfl (HO0.out) A (l.length) (cap) (l.map (Value.int .i64)) rfl H0.out (by simp) hcap HN.out (by simp [Value.oneCell']) (by unfold maxLen; omega) (by omega) (by first | omega | (simp; omega) | simp) ?_; intro va1 wa1 hown1 hgrow1 hblk1 hnil1; have hsz1 := hgrow1.size; have HO1 := Lib.hid hown1; have HG1 := Lib.hid hgrow1; have HB1 := Lib.hid hblk1; have HZ1 := Lib.hid hnil1; clear hown1 hgrow1 hblk1 hnil1)
    | (at_builtin; refine wpList_append_own_at _ rfl (.tmp 6) (.tmp 7) 23 rfl (W.heap.size) 3 i0 (.int .i64 0) 1 8 Try.underlying23 hi hz0 hz1 hz2 rfl (by decide) _ _ _ rfl (HO1.out.alloc _) ⟨wa1.heap.size, 0, none⟩ 1 1 [.int .i64 77] rfl rfl (cells_at (by simp) [.int .i64 77] _) (by simp [Value.oneCell']) (by unfold maxLen; omega) (by omega) (by first | omega | (simp; omega) | simp) ?_; intro va2 wa2 hown1 hgrow1 _ hblk1; have hsz2 := hgrow1.size; have HO2 := Lib.hid hown1; have HG2 := Lib.hid hgrow1; have HB2 := Lib.hid hblk1; clear hown1 hgrow1 hblk1))
  go_ret
  have h := HO2.out
  rw [Nat.zero_add, List.nil_append, show (l.map (Value.int .i64) ++ [Value.int .i64 77]) = (l ++ [77]).map (Value.int .i64) from by simp] at h
  obtain ⟨g, c, cur, rfl, _, _, _⟩ := ownsRow_pos h (by omega)
  have hlc : (l ++ [77]).length = l.length + 1 := by simp
  rw [← hlc] at h
  obtain ⟨A', c', he, hcc, hN⟩ := NumsA.of_row h
  rw [hlc] at he hcc
  obtain ⟨rfl, rfl⟩ : A' = some ⟨g, 0, none⟩ ∧ c' = c := by simp at he; exact ⟨he.1.symm, he.2.symm⟩
  refine ⟨g, c', rfl, hcc, hN, ?_⟩
  exact ((((Chg.refl [] W).grew HO0.out HG1.out (fun k h1 h2 => by omega)).alloc _).grew (HO1.out.alloc _) HG2.out (fun k h1 h2 => by omega))

theorem NumsA.head {w : World} {A : Option Addr} {n₀ : Nat} {l l' : IL} (h : NumsA w A n₀ (l ++ l')) : NumsA w A n₀ l := fun i hi => by
  obtain ⟨b, off, e, hb, hc⟩ := h i (by simp; omega)
  exact ⟨b, off, e, hb, by rw [hc, List.getElem_append_left hi]⟩
theorem weightsL_len (l : IL) (m : Int) : (weightsL l m).length ≤ 100000 := by
  unfold weightsL
  split
  · rename_i h
    obtain ⟨_, h1, h2⟩ := mayL_zero.1 h
    rw [outs_len]; omega
  · simp
theorem ranksL_len (l : IL) (m : Int) : (ranksL l m).length ≤ 100000 := by
  unfold ranksL
  split
  · rename_i h
    obtain ⟨_, h1, h2⟩ := mayL_zero.1 h
    rw [outs_len]; omega
  · simp

set_option maxRecDepth 100000 in
set_option maxHeartbeats 2000000 in
theorem SchedShares_any (W : World) (A : Option Addr) (cap : Nat) (l : IL) (m : Int) (hcap : l.length ≤ cap) (hA0 : A = none → cap = 0) (hA : NumsA W A W.heap.size l) (hm : l.length ≤ maxLen) :
    Calls Try.prog 4 #[.slice A l.length cap, .int .i64 m] W (StaysPost W) := by
  unfold maxLen at hm
  have main : l.length ≤ 100 → (m ≤ 500 ∨ (500 < m ∧ 10000 < m)) → Calls Try.prog 4 #[.slice A l.length cap, .int .i64 m] W (StaysPost W) := by
    intro hl h
    have hl' : (l.length : Int) ≤ 100 := by omega
    have HT := Lib.hid (twin_any W A cap l (by omega) hcap hA0 hA)
    have HA := Lib.hid hA
    clear hA0 hA hcap hm
    rcases h with h | ⟨h, h'⟩
    all_goals
      go_enter Try.func4, Try.ntmps4
      go_wp2_with fail
      refine HT.out.mono ?_
      intro e w1 h
      obtain ⟨g, c, rfl, hc, hN, hC⟩ := h
      have HN1 := Lib.hid hN
      have HA1 := Lib.hid (HA.out.chg hC)
      have HC1 := Lib.hid hC
      have hcap : l.length ≤ c := by omega
      clear hN hC HT
      go_wp2_with fail
      refine (Weights_any w1 (some ⟨g, 0, none⟩) c l m hl HN1.out.head).mono ?_
      intro e w2 h
      obtain ⟨A1, c1, rfl, _, hA, hC⟩ := SPost.sn h
      have HR1 := Lib.hid hA
      have HN2 := Lib.hid (HN1.out.chg hC)
      have HA2 := Lib.hid (HA1.out.chg hC)
      have HC2 := Lib.hid (HC1.out.trans hC)
      clear h hA hC HN1 HA1 HC1
      go_wp2_with fail
      refine (WeightsR_any w2 A cap l m hl HA2.out).mono ?_
      intro e w3 h
      obtain ⟨A2, c2, rfl, _, hA, hC⟩ := SPost.sn h
      have HR2 := Lib.hid hA
      have HR1' := Lib.hid (HR1.out.chg hC)
      have HN3 := Lib.hid (HN2.out.chg hC)
      have HA3 := Lib.hid (HA2.out.chg hC)
      have HC3 := Lib.hid (HC2.out.trans hC)
      clear h hA hC HN2 HA2 HC2 HR1
      go_wp2_with fail
      refine (beside_true w3 A1 A2 c1 c2 _ _ (weightsL_len l m) HR1'.out HR2.out).mono ?_
      rintro e w4 ⟨rfl, hC⟩
      have HN4 := Lib.hid (HN3.out.chg hC)
      have HA4 := Lib.hid (HA3.out.chg hC)
      have HC4 := Lib.hid (HC3.out.trans hC)
      clear hC HN3 HA3 HC3 HR1' HR2
      go_wp2_with fail
      refine (Ranks_any w4 (some ⟨g, 0, none⟩) c l m hl HN4.out.head).mono ?_
      intro e w5 h
      obtain ⟨A3, c3, rfl, _, hA, hC⟩ := SPost.sn h
      have HR1 := Lib.hid hA
      have HN5 := Lib.hid (HN4.out.chg hC)
      have HA5 := Lib.hid (HA4.out.chg hC)
      have HC5 := Lib.hid (HC4.out.trans hC)
      clear h hA hC HN4 HA4 HC4
      go_wp2_with fail
      refine (RanksR_any w5 A cap l m hl HA5.out).mono ?_
      intro e w6 h
      obtain ⟨A4, c4, rfl, _, hA, hC⟩ := SPost.sn h
      have HR2 := Lib.hid hA
      have HR1' := Lib.hid (HR1.out.chg hC)
      have HN6 := Lib.hid (HN5.out.chg hC)
      have HA6 := Lib.hid (HA5.out.chg hC)
      have HC6 := Lib.hid (HC5.out.trans hC)
      clear h hA hC HN5 HA5 HC5 HR1
      go_wp2_with fail
      refine (beside_true w6 A3 A4 c3 c4 _ _ (ranksL_len l m) HR1'.out HR2.out).mono ?_
      rintro e w7 ⟨rfl, hC⟩
      have HN7 := Lib.hid (HN6.out.chg hC)
      have HA7 := Lib.hid (HA6.out.chg hC)
      have HC7 := Lib.hid (HC6.out.trans hC)
      clear hC HN6 HA6 HC6 HR1' HR2
      go_wp2_with fail
      refine (Ints_true w7 (some ⟨g, 0, none⟩) A c cap l (by omega) HN7.out.head HA7.out).mono ?_
      rintro e w8 ⟨rfl, hC⟩
      have HC8 := Lib.hid (HC7.out.trans hC)
      obtain ⟨b, off, e, _, hc⟩ := (HN7.out.chg hC) l.length (by simp)
      obtain ⟨rfl, rfl⟩ : g = b ∧ 0 = off := by simpa using e
      rw [Nat.zero_add] at hc
      simp only [List.getElem_append_right (Nat.le_refl _), Nat.sub_self, List.getElem_cons_zero] at hc
      clear hC HN7 HA7 HC7 e
      go_wp2_with fail
      go_ret
      exact ⟨rfl, HC8.out.to_below (by simp) (Nat.le_refl _)⟩
  have bad : (500 < m ∧ m ≤ 10000) ∨ ((m ≤ 500 ∨ (500 < m ∧ 10000 < m)) ∧ 100 < l.length) → Calls Try.prog 4 #[.slice A l.length cap, .int .i64 m] W (StaysPost W) := by
    intro h
    clear main hA0 hA hcap
    rcases h with ⟨h1, h2⟩ | ⟨h | ⟨h, h'⟩, h3⟩
    · go_enter Try.func4, Try.ntmps4
      go_wp2_with fail
      go_ret
      exact ⟨rfl, Below.refl _ _⟩
    · have h3' : (100 : Int) < l.length := by omega
      go_enter Try.func4, Try.ntmps4
      go_wp2_with fail
      go_ret
      exact ⟨rfl, Below.refl _ _⟩
    · have h3' : (100 : Int) < l.length := by omega
      go_enter Try.func4, Try.ntmps4
      go_wp2_with fail
      go_ret
      exact ⟨rfl, Below.refl _ _⟩
  by_cases h1 : 500 < m
  · by_cases h2 : 10000 < m
    · by_cases h3 : l.length ≤ 100
      · exact main h3 (.inr ⟨h1, h2⟩)
      · exact bad (.inr ⟨.inr ⟨h1, h2⟩, by omega⟩)
    · exact bad (.inl ⟨h1, by omega⟩)
  · by_cases h3 : l.length ≤ 100
    · exact main h3 (.inl (by omega))
    · exact bad (.inr ⟨.inl (by omega), by omega⟩)

end Go.Proofs.Ytagfalnfjiodcaa
