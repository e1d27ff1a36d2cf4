/- SchedSoon. -/
import Derived.Test.YtagfalnfjiodcaaSched13
import Derived.Test.YtagfalnfjiodcaaSchedM3
namespace Go.Proofs.Ytagfalnfjiodcaa
open Go.RowKit

def SoI (W : World) (p : IL) (top i : Value) (wr : World) : Prop := ∃ k : Nat, k ≤ p.length ∧ i = .int .i64 k ∧ top = .int .i64 ((p.take k).foldl max 0) ∧ W = wr
def SoJ (W : World) (n : Nat) (i : Value) (wr : World) : Prop := ∃ k : Nat, k ≤ n ∧ i = .int .i64 k ∧ W = wr

set_option maxRecDepth 100000 in
set_option maxHeartbeats 4000000 in
theorem SchedSoon_any (W : World) (A : Option Addr) (cap : Nat) (p : IL) (x a : Int) (hA : NumsA W A W.heap.size p) (hx0 : 0 ≤ x) (hx : x < 18446744073709551616) (h0 : 0 ≤ a ∧ a ≤ 65535) :
    Calls Try.prog 9 #[.slice A p.length cap, .int .u64 x, .int .u16 a] W (StaysPost W) := by
  obtain ⟨h00, h01⟩ := h0
  have HA := Lib.hid hA
  clear hA
  by_cases hp : 100 < p.length
  · have hp' : (100 : Int) < p.length := by omega
    go_enter Try.func9, Try.ntmps9
    go_wp2_with fail
    refine (alive_any _).mono ?_
    rintro e w1 ⟨rfl, hC⟩
    have HC1 := Lib.hid hC
    clear hC
    go_wp2_with fail
    go_ret
    exact ⟨rfl, HC1.out.to_below (by simp) (Nat.le_refl _)⟩
  have hp1 : p.length ≤ 100 := by omega
  have hp2 : (p.length : Int) ≤ 100 := by omega
  go_enter Try.func9, Try.ntmps9
  go_wp2_with fail
  refine (alive_any _).mono ?_
  rintro e w1 ⟨rfl, hC⟩
  have HA1 := Lib.hid (HA.out.chg hC)
  have HC1 := Lib.hid hC
  clear hC
  go_wp2_with fail
  obtain ⟨n, hn⟩ : ∃ n : Nat, a % 1001 = n := ⟨(a % 1001).toNat, by omega⟩
  have hn1 : n ≤ 1000 := by omega
  rw [hn]
  clear hn
  have hcr := Rounds_any w1 p.length n
  rw [mayN_any _ (by omega)] at hcr
  by_cases hin : 1 ≤ p.length ∧ p.length ≤ 4
  · obtain ⟨hw1, hw4⟩ := hin
    have hw1' : (1 : Int) ≤ p.length := by omega
    have hw4' : (p.length : Int) ≤ 4 := by omega
    have hE : mayN (p.length : Int) 0 = 0 := ((mayN_240 (p.length : Int)).resolve_right (fun h => by omega)).1
    have hE2 : mayN (p.length : Int) n = 0 := by rw [mayN_any _ (by omega)]; exact hE
    rw [hE, roundsL, if_pos hE2, Int.toNat_natCast, Int.toNat_natCast] at hcr
    refine hcr.mono ?_
    clear hcr
    intro e w2 h
    obtain ⟨B0, c0, rfl, _, hB, hC⟩ := SPost.sn h
    simp only [outs_len]
    have HB0 := Lib.hid hB
    have HA2 := Lib.hid (HA1.out.chg hC)
    have HC2 := Lib.hid (HC1.out.trans hC)
    clear h hB hC HC1
    go_wp2_with fail
    have hcp := Ranks_any w2 A cap p n hp1 HA2.out
    rw [mayL_any p 0 (by omega)] at hcp
    rcases mayL_240 p 0 with hf | hf
    · obtain ⟨hWi, _⟩ := mayL_zero.1 hf
      have hf2 : mayL p 0 n = 0 := by rw [mayL_any p 0 (by omega)]; exact hf
      rw [hf, ranksL, if_pos hf2, Int.toNat_natCast] at hcp
      have HWI := Lib.hid hWi
      clear hf hf2 hWi
      refine hcp.mono ?_
      clear hcp
      intro e w3 h
      obtain ⟨B1, c1, rfl, _, hB, hC⟩ := SPost.sn h
      simp only [outs_len, List.length_nil]
      have HB1 := Lib.hid hB
      have HB0' := Lib.hid (HB0.out.chg hC)
      have HA3 := Lib.hid (HA2.out.chg hC)
      have HC3 := Lib.hid (HC2.out.trans hC)
      clear h hB hC HC2 HA2 HB0
      go_wp2_with fail
      have hcs := Seeds_any w3 p.length x n hx0 hx
      rw [mayN_any _ (by omega), hE, seedsL, if_pos hE2, Int.toNat_natCast, Int.toNat_natCast] at hcs
      refine hcs.mono ?_
      clear hcs
      intro e w4 h
      obtain ⟨B2, c2, rfl, _, hB, hC⟩ := SPost.sn h
      simp only [outs_len]
      have HR2 := Lib.hid hB
      have HR1 := Lib.hid (HB1.out.chg hC)
      have HR0 := Lib.hid (HB0'.out.chg hC)
      have HA4 := Lib.hid (HA3.out.chg hC)
      have HC4 := Lib.hid (HC3.out.trans hC)
      have HE := Lib.hid (And.intro hE hE2)
      clear h hB hC HC3 HA3 HB1 HB0' hE hE2
      go_wp2_with fail
      go_loopw [16, 101] (fun top i wr => SoI w4 p top i wr) (fun _ i _ => p.length - (intOf i).toNat)
      case atStart => exact ⟨0, Nat.zero_le _, rfl, rfl, rfl⟩
      case round =>
        obtain ⟨k, hk, rfl, rfl, rfl⟩ := hrel
        by_cases hlt : k < p.length
        · obtain ⟨b, off, rfl, hb, d0⟩ := HA4.out k hlt
          have hs : (p.take (k + 1)).foldl max 0 = max ((p.take k).foldl max 0) p[k] := by rw [List.take_add_one, List.foldl_append]; simp [hlt]
          have HS := Lib.hid hs
          clear hs
          generalize p[k] = y at *
          generalize (p.take k).foldl max 0 = s at *
          go_wp2_with fail
          go_roundw
          case rel => exact ⟨k + 1, by omega, by go_num, by rw [HS.out, max_if], rfl⟩
          case measure => simp [intOf]; omega
        · obtain rfl : k = p.length := by omega
          rw [List.take_length]
          obtain ⟨ht0, htx⟩ := foldl_max_ge p 0
          have ht1 : p.foldl max 0 ≤ 100 := by
            rcases foldl_max_mem p 0 with e | e
            · rw [e]; decide
            · exact (HWI.out.2 _ e).2
          have hsr := fun i (hi : i < p.length) => soon_ranks HWI.out htx ht0 n hi
          have HSR := Lib.hid hsr
          clear hsr
          have hsa := fun i (hi : i < p.length) => soon_rounds hw1 hw4 n hi
          have hsc := fun i (hi : i < p.length) => soon_seeds hw1 hw4 (max x 1) n hi
          have HSA := Lib.hid hsa
          have HSC := Lib.hid hsc
          clear hsa hsc htx hk hlt
          generalize p.foldl max 0 = top at *
          go_wp2_with fail
          go_loopw [18] (fun i wr => SoJ w4 p.length i wr) (fun i _ => p.length - (intOf i).toNat)
          case atStart => exact ⟨0, Nat.zero_le _, rfl, rfl⟩
          case round =>
            obtain ⟨i, hi', rfl, rfl⟩ := hrel
            by_cases hlt2 : i < p.length
            · have q0 := Wait_any w4 B0 c0 (outs (fun t => ((t % p.length : Nat) : Int)) n) (i : Int) (by rw [outs_len]; omega) HR0.out
              have q2 := Wait_any w4 B2 c2 (outs (fun t => ((sC p.length (sX (max x 1) (t + 1)) (sSt p.length (max x 1) t) : Nat) : Int)) n) (i : Int) (by rw [outs_len]; omega) HR2.out
              have g0 := HSA.out i hlt2
              have g2 := HSC.out i hlt2
              rw [outs_len] at q0 q2
              have q1 := Wait_any w4 B1 c1 (outs (fun t => ((rC p (rSt p t) : Nat) : Int)) n) (i : Int) (by rw [outs_len]; omega) HR1.out
              have g1 := HSR.out i hlt2
              rw [outs_len] at q1
              generalize (waitS (i : Int) (outs (fun t => ((rC p (rSt p t) : Nat) : Int)) n)).1 = y1 at *
              have Q1 := Lib.hid q1
              clear q1
              have hwt : IntKind.i64.wrap (top + p.length) = top + p.length := IntWalk.i64_in _ (by omega)
              generalize (waitS (i : Int) (outs (fun t => ((t % p.length : Nat) : Int)) n)).1 = y0 at *
              generalize (waitS (i : Int) (outs (fun t => ((sC p.length (sX (max x 1) (t + 1)) (sSt p.length (max x 1) t) : Nat) : Int)) n)).1 = y2 at *
              have Q0 := Lib.hid q0
              have Q2 := Lib.hid q2
              clear q0 q2
              go_wp2_with fail
              refine Q0.out.mono ?_
              rintro e w' ⟨rfl, rfl⟩
              go_wp2_with fail
              refine Q2.out.mono ?_
              rintro e w' ⟨rfl, rfl⟩
              go_wp2_with fail
              refine Q1.out.mono ?_
              rintro e w' ⟨rfl, rfl⟩
              go_wp2_with fail
              go_roundw
              case rel => exact ⟨i + 1, by omega, by go_num, rfl⟩
              case measure => simp [intOf]; omega
            · obtain rfl : i = p.length := by omega
              go_wp2_with fail
              go_ret
              exact ⟨rfl, HC4.out.to_below (by simp) (Nat.le_refl _)⟩
    · have hf2 : mayL p 0 n = 240 := by rw [mayL_any p 0 (by omega)]; exact hf
      rw [hf, ranksL, hf2, if_neg (by decide)] at hcp
      clear hf hf2
      refine hcp.mono ?_
      clear hcp
      intro e w3 h
      obtain ⟨B1, c1, rfl, _, hB, hC⟩ := SPost.sn h
      simp only [outs_len, List.length_nil]
      have HB1 := Lib.hid hB
      have HB0' := Lib.hid (HB0.out.chg hC)
      have HA3 := Lib.hid (HA2.out.chg hC)
      have HC3 := Lib.hid (HC2.out.trans hC)
      clear h hB hC HC2 HA2 HB0
      go_wp2_with fail
      have hcs := Seeds_any w3 p.length x n hx0 hx
      rw [mayN_any _ (by omega), hE, seedsL, if_pos hE2, Int.toNat_natCast, Int.toNat_natCast] at hcs
      refine hcs.mono ?_
      clear hcs
      intro e w4 h
      obtain ⟨B2, c2, rfl, _, hB, hC⟩ := SPost.sn h
      simp only [outs_len]
      have HR2 := Lib.hid hB
      have HR1 := Lib.hid (HB1.out.chg hC)
      have HR0 := Lib.hid (HB0'.out.chg hC)
      have HA4 := Lib.hid (HA3.out.chg hC)
      have HC4 := Lib.hid (HC3.out.trans hC)
      have HE := Lib.hid (And.intro hE hE2)
      clear h hB hC HC3 HA3 HB1 HB0' hE hE2
      go_wp2_with fail
      go_loopw [16, 101] (fun top i wr => SoI w4 p top i wr) (fun _ i _ => p.length - (intOf i).toNat)
      case atStart => exact ⟨0, Nat.zero_le _, rfl, rfl, rfl⟩
      case round =>
        obtain ⟨k, hk, rfl, rfl, rfl⟩ := hrel
        by_cases hlt : k < p.length
        · obtain ⟨b, off, rfl, hb, d0⟩ := HA4.out k hlt
          have hs : (p.take (k + 1)).foldl max 0 = max ((p.take k).foldl max 0) p[k] := by rw [List.take_add_one, List.foldl_append]; simp [hlt]
          have HS := Lib.hid hs
          clear hs
          generalize p[k] = y at *
          generalize (p.take k).foldl max 0 = s at *
          go_wp2_with fail
          go_roundw
          case rel => exact ⟨k + 1, by omega, by go_num, by rw [HS.out, max_if], rfl⟩
          case measure => simp [intOf]; omega
        · obtain rfl : k = p.length := by omega
          rw [List.take_length]
          obtain ⟨ht0, htx⟩ := foldl_max_ge p 0
          have hsa := fun i (hi : i < p.length) => soon_rounds hw1 hw4 n hi
          have hsc := fun i (hi : i < p.length) => soon_seeds hw1 hw4 (max x 1) n hi
          have HSA := Lib.hid hsa
          have HSC := Lib.hid hsc
          clear hsa hsc htx hk hlt
          generalize p.foldl max 0 = top at *
          go_wp2_with fail
          go_loopw [18] (fun i wr => SoJ w4 p.length i wr) (fun i _ => p.length - (intOf i).toNat)
          case atStart => exact ⟨0, Nat.zero_le _, rfl, rfl⟩
          case round =>
            obtain ⟨i, hi', rfl, rfl⟩ := hrel
            by_cases hlt2 : i < p.length
            · have q0 := Wait_any w4 B0 c0 (outs (fun t => ((t % p.length : Nat) : Int)) n) (i : Int) (by rw [outs_len]; omega) HR0.out
              have q2 := Wait_any w4 B2 c2 (outs (fun t => ((sC p.length (sX (max x 1) (t + 1)) (sSt p.length (max x 1) t) : Nat) : Int)) n) (i : Int) (by rw [outs_len]; omega) HR2.out
              have g0 := HSA.out i hlt2
              have g2 := HSC.out i hlt2
              rw [outs_len] at q0 q2
              generalize (waitS (i : Int) (outs (fun t => ((t % p.length : Nat) : Int)) n)).1 = y0 at *
              generalize (waitS (i : Int) (outs (fun t => ((sC p.length (sX (max x 1) (t + 1)) (sSt p.length (max x 1) t) : Nat) : Int)) n)).1 = y2 at *
              have Q0 := Lib.hid q0
              have Q2 := Lib.hid q2
              clear q0 q2
              go_wp2_with fail
              refine Q0.out.mono ?_
              rintro e w' ⟨rfl, rfl⟩
              go_wp2_with fail
              refine Q2.out.mono ?_
              rintro e w' ⟨rfl, rfl⟩
              go_wp2_with fail
              go_roundw
              case rel => exact ⟨i + 1, by omega, by go_num, rfl⟩
              case measure => simp [intOf]; omega
            · obtain rfl : i = p.length := by omega
              go_wp2_with fail
              go_ret
              exact ⟨rfl, HC4.out.to_below (by simp) (Nat.le_refl _)⟩
  · have hE : mayN (p.length : Int) 0 = 240 := ((mayN_240 (p.length : Int)).resolve_left (fun h => by omega)).1
    have hE2 : mayN (p.length : Int) n = 240 := by rw [mayN_any _ (by omega)]; exact hE
    have hL : mayL p 0 n = 240 := by unfold mayL; rw [if_pos (by omega)]
    rw [hE, roundsL, hE2, if_neg (by decide)] at hcr
    have HL := Lib.hid hL
    have HE2 := Lib.hid hE2
    clear hL hE hE2
    rcases (show p.length = 0 ∨ 4 < p.length by omega) with hz | hz
    · obtain rfl : p = [] := List.eq_nil_of_length_eq_zero hz
      simp only [List.length_nil, Int.natCast_zero, Int.cast_ofNat_Int] at *
      refine hcr.mono ?_
      clear hcr
      intro e w2 h
      obtain ⟨B0, c0, rfl, _, _, hC⟩ := SPost.sn h
      have HA2 := Lib.hid (HA1.out.chg hC)
      have HC2 := Lib.hid (HC1.out.trans hC)
      clear h hC
      go_wp2_with fail
      have hcp := Ranks_any w2 A cap [] n (by decide) HA2.out
      simp only [List.length_nil] at hcp
      rw [ranksL, HL.out, if_neg (by decide)] at hcp
      refine hcp.mono ?_
      clear hcp
      intro e w3 h
      obtain ⟨B1, c1, rfl, _, _, hC⟩ := SPost.sn h
      have HC3 := Lib.hid (HC2.out.trans hC)
      clear h hC
      go_wp2_with fail
      have hcs := Seeds_any w3 0 x n hx0 hx
      rw [seedsL, HE2.out, if_neg (by decide)] at hcs
      refine hcs.mono ?_
      clear hcs
      intro e w4 h
      obtain ⟨B2, c2, rfl, _, _, hC⟩ := SPost.sn h
      have HC4 := Lib.hid (HC3.out.trans hC)
      clear h hC
      go_wp2_with fail
      go_ret
      exact ⟨rfl, HC4.out.to_below (by simp) (Nat.le_refl _)⟩
    · have hz' : (4 : Int) < p.length := by omega
      clear hin hp hz
      refine hcr.mono ?_
      clear hcr
      intro e w2 h
      obtain ⟨B0, c0, rfl, _, _, hC⟩ := SPost.sn h
      have HA2 := Lib.hid (HA1.out.chg hC)
      have HC2 := Lib.hid (HC1.out.trans hC)
      clear h hC
      go_wp2_with fail
      have hcp := Ranks_any w2 A cap p n hp1 HA2.out
      rw [ranksL, HL.out, if_neg (by decide)] at hcp
      refine hcp.mono ?_
      clear hcp
      intro e w3 h
      obtain ⟨B1, c1, rfl, _, _, hC⟩ := SPost.sn h
      have HC3 := Lib.hid (HC2.out.trans hC)
      clear h hC
      go_wp2_with fail
      have hcs := Seeds_any w3 p.length x n hx0 hx
      rw [seedsL, HE2.out, if_neg (by decide)] at hcs
      refine hcs.mono ?_
      clear hcs
      intro e w4 h
      obtain ⟨B2, c2, rfl, _, _, hC⟩ := SPost.sn h
      have HC4 := Lib.hid (HC3.out.trans hC)
      clear h hC
      go_wp2_with fail
      go_ret
      exact ⟨rfl, HC4.out.to_below (by simp) (Nat.le_refl _)⟩

end Go.Proofs.Ytagfalnfjiodcaa
