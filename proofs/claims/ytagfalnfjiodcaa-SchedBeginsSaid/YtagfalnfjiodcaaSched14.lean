/- SchedBegins. -/
import Derived.Test.YtagfalnfjiodcaaSched13
namespace Go.Proofs.Ytagfalnfjiodcaa
open Go.RowKit

def BegI (W0 : World) (i : Value) (wr : World) : Prop := ∃ k : Nat, k ≤ 4 ∧ i = .int .i64 k ∧ Chg [] W0 wr

set_option maxRecDepth 100000 in
set_option maxHeartbeats 4000000 in
theorem SchedBegins_any (W : World) (A : Option Addr) (cap : Nat) (p : IL) (x n0 n1 : Int) (hA : NumsA W A W.heap.size p) (hx0 : 0 ≤ x) (hx : x < 18446744073709551616) (h0 : 0 ≤ n0 ∧ n0 ≤ 65535) (h1 : 0 ≤ n1 ∧ n1 ≤ 65535) :
    Calls Try.prog 8 #[.slice A p.length cap, .int .u64 x, .agg #[.int .u16 n0, .int .u16 n1]] W (StaysPost W) := by
  obtain ⟨h00, h01⟩ := h0
  obtain ⟨h10, h11⟩ := h1
  have hB := Blk.new W [.int .u16 n0, .int .u16 n1] 53
  have HB := Lib.hid hB
  have HA := Lib.hid (hA.below ((Below.refl W.heap.size W).alloc (Nat.le_refl _) (.cells #[.int .u16 n0, .int .u16 n1] 53)))
  clear hB hA
  by_cases hp : 100 < p.length
  · have hp' : (100 : Int) < p.length := by omega
    go_enter Try.func8, Try.ntmps8
    go_wp2_with fail
    refine (alive_any _).mono ?_
    rintro e w1 ⟨rfl, hC⟩
    have HC1 := Lib.hid (((Chg.refl [] W).alloc _).trans hC)
    clear hC
    go_wp2_with fail
    go_ret
    exact ⟨rfl, HC1.out.to_below (by simp) (Nat.le_refl _)⟩
  have hp1 : p.length ≤ 100 := by omega
  have hp2 : (p.length : Int) ≤ 100 := by omega
  go_enter Try.func8, Try.ntmps8
  go_wp2_with fail
  refine (alive_any _).mono ?_
  rintro e w1 ⟨rfl, hC⟩
  have hB1 := hC.blk HB.out (by simp)
  have k0 : w1.cell? ⟨W.heap.size, 0, none⟩ = some (.int .u16 n0) := hB1.cell 0
  have k1 : w1.cell? ⟨W.heap.size, 1, none⟩ = some (.int .u16 n1) := hB1.cell 1
  have HA1 := Lib.hid (((HA.out.mono (by simp)).chg hC))
  have HC1 := Lib.hid (((Chg.refl [] W).alloc _).trans hC)
  clear hC hB1
  go_wp2_with fail
  obtain ⟨F, hF⟩ : ∃ F : Nat, n0 % 500 = F := ⟨(n0 % 500).toNat, by omega⟩
  obtain ⟨M, hM⟩ : ∃ M : Nat, (F : Int) + n1 % 500 = M := ⟨((F : Int) + n1 % 500).toNat, by omega⟩
  have hFM : F ≤ M := by omega
  have hM1 : M ≤ 1000 := by omega
  rw [hF, hM]
  go_loopw [10] (fun i wr => BegI w1 i wr) (fun i _ => 4 - (intOf i).toNat)
  case atStart => exact ⟨0, by decide, rfl, Chg.refl _ _⟩
  case round =>
    obtain ⟨k, hk, rfl, hc⟩ := hrel
    have HC := Lib.hid hc
    clear hc
    by_cases hlt : k < 4
    · have hk' : (k : Int) < 4 := by omega
      go_wp2_with fail
      refine (one_any wr A cap k p x F hlt hp1 (HA1.out.chg HC.out) hx0 hx (by omega)).mono ?_
      intro e w2 h
      obtain ⟨B0, c0, rfl, _, hB0, hC0⟩ := SPost.sn h
      have HB0 := Lib.hid hB0
      have HC2 := Lib.hid (HC.out.trans hC0)
      clear h hB0 hC0
      go_wp2_with fail
      refine (one_any w2 A cap k p x M hlt hp1 (HA1.out.chg HC2.out) hx0 hx (by omega)).mono ?_
      intro e w3 h
      obtain ⟨B1, c1, rfl, _, hB1, hC1⟩ := SPost.sn h
      have HR1 := Lib.hid hB1
      have HR0 := Lib.hid (HB0.out.chg hC1)
      have HC3 := Lib.hid (HC2.out.trans hC1)
      clear h hB1 hC1 HB0 HC2
      rcases oneE_or k p with hE | hE
      · have e0 : oneL k p x F = outs (oneF k p x) F := by rw [oneL, if_pos hE]
        have e1 : oneL k p x M = outs (oneF k p x) M := by rw [oneL, if_pos hE]
        rw [e0] at HR0 ⊢
        rw [e1] at HR1 ⊢
        rw [hE]
        have HF := Lib.hid (oneF_lt x hE)
        clear e0 e1 hE
        simp only [outs_len]
        have hg0 : ∀ i (hi : i < F), (outs (oneF k p x) F)[i]'(by rw [outs_len]; exact hi) = oneF k p x i := by intro i hi; simp [outs]
        have hg1 : ∀ i (hi : i < M), (outs (oneF k p x) M)[i]'(by rw [outs_len]; exact hi) = oneF k p x i := by intro i hi; simp [outs]
        have G0 := Lib.hid hg0
        have G1 := Lib.hid hg1
        clear hg0 hg1
        go_wp2_with fail
        go_loopw [76] (fun i wr => ToldRel w3 F i wr) (fun i _ => F - (intOf i).toNat)
        case atStart => exact ⟨0, 0, Nat.zero_le _, rfl, rfl⟩
        case round =>
          obtain ⟨i, q, hi', rfl, rfl⟩ := hrel
          by_cases hlt2 : i < F
          · have hi2 : i < M := by omega
            obtain ⟨b0, o0, rfl, _, d0⟩ := HR0.out i (by rw [outs_len]; exact hlt2)
            obtain ⟨b1, o1, rfl, _, d1⟩ := HR1.out i (by rw [outs_len]; exact hi2)
            rw [G0.out i hlt2] at d0
            rw [G1.out i hi2] at d1
            obtain ⟨hf0, hf1⟩ := HF.out i
            generalize oneF k p x i = y at *
            go_wp2_with fail
            go_quiet (fail)
            go_wp2_with fail
            go_roundw
            case rel => exact ⟨i + 1, _, by omega, by go_num, rfl⟩
            case measure => simp [intOf]; omega
          · obtain rfl : i = F := by omega
            go_wp2_with fail
            go_roundw
            case rel => exact ⟨k + 1, by omega, by go_num, HC3.out.drewN _⟩
            case measure => simp [intOf]; omega
      · have e0 : oneL k p x F = [] := by rw [oneL, hE, if_neg (by decide)]
        have e1 : oneL k p x M = [] := by rw [oneL, hE, if_neg (by decide)]
        rw [e0, e1, hE]
        clear HR0 HR1
        clear e0 e1 hE
        simp only [List.length_nil]
        go_wp2_with fail
        go_loopw [76] (fun i wr => ToldRel w3 0 i wr) (fun i _ => 0 - (intOf i).toNat)
        case atStart => exact ⟨0, 0, Nat.zero_le _, rfl, rfl⟩
        case round =>
          obtain ⟨i, q, hi', rfl, rfl⟩ := hrel
          obtain rfl : i = 0 := by omega
          go_wp2_with fail
          go_roundw
          case rel => exact ⟨k + 1, by omega, by go_num, HC3.out.drewN _⟩
          case measure => simp [intOf]; omega
    · obtain rfl : k = 4 := by omega
      go_wp2_with fail
      go_ret
      exact ⟨rfl, (HC1.out.trans HC.out).to_below (by simp) (Nat.le_refl _)⟩

end Go.Proofs.Ytagfalnfjiodcaa
