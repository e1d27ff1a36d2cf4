/- SchedActed. -/
import Derived.Test.YtagfalnfjiodcaaSched31
import Derived.Test.YtagfalnfjiodcaaSchedM5
namespace Go.Proofs.Ytagfalnfjiodcaa
open Go.RowKit

def AcSum (W : World) (l : IL) (s i : Value) (wr : World) : Prop := ∃ k : Nat, k ≤ 4 ∧ i = .int .i64 k ∧ s = .int .i64 (sumC l k : Nat) ∧ wr = W
def AcEach (W : World) (N : Nat) (i : Value) (wr : World) : Prop := ∃ k : Nat, k ≤ N ∧ i = .int .i64 k ∧ Chg [] W wr

set_option maxRecDepth 100000 in
set_option maxHeartbeats 4000000 in
theorem SchedActed_any (W : World) (A : Option Addr) (cap : Nat) (l : IL) (per : Int) (hA : NumsA W A W.heap.size l) (hm : l.length ≤ maxLen) :
    Calls Try.prog 10 #[.slice A l.length cap, .int .i64 per] W (StaysPost W) := by
  unfold maxLen at hm
  have HA := Lib.hid hA
  clear hA
  by_cases hl : 300 < l.length
  · have hl' : (300 : Int) < l.length := by omega
    clear hl
    go_enter Try.func10, Try.ntmps10
    go_wp2_with fail
    refine (alive_any _).mono ?_
    rintro e w1 ⟨rfl, hC⟩
    have HC1 := Lib.hid hC
    clear hC
    go_wp2_with fail
    go_ret
    exact ⟨rfl, HC1.out.to_below (by simp) (Nat.le_refl _)⟩
  have hl3 : l.length ≤ 300 := by omega
  have hl' : (l.length : Int) ≤ 300 := by omega
  have hd3 : decide ((300 : Int) < (l.length : Int)) = false := by simp; omega
  clear hl hm
  go_enter Try.func10, Try.ntmps10
  go_wp2_with fail
  refine (alive_any _).mono ?_
  rintro e w1 ⟨rfl, hC⟩
  have HC1 := Lib.hid hC
  have HA1 := Lib.hid (HA.out.chg hC)
  clear hC HA
  go_wp2_with fail
  refine (Acts_any w1 A cap l per hl3 HA1.out).mono ?_
  intro e w2 h
  obtain ⟨Aa, ca, rfl, hR, hC⟩ := h.sn
  by_cases he : actE l per = 0
  · have hlo : l.any outN = false ∧ 0 ≤ per ∧ per ≤ 100 := by
      unfold actE at he
      split at he
      · cases he
      · rename_i h1
        split at he
        · cases he
        · exact ⟨by simpa using h1, by omega, by omega⟩
    obtain ⟨hlo, hp0, hp1⟩ := hlo
    obtain ⟨p, rfl⟩ : ∃ p : Nat, per = p := ⟨per.toNat, by omega⟩
    have hRL : actR l p = actsL l p := by rw [actR, if_pos he, Int.toNat_natCast]
    rw [hRL] at hR
    rw [hRL, he]
    have hGet := actsL_get l p
    have hN : (actsL l p).length = l.length * (p + 1) := actsL_len l p
    have hNle : l.length * (p + 1) ≤ 30300 := Nat.le_trans (Nat.mul_le_mul hl3 (show p + 1 ≤ 101 by omega)) (by decide)
    have hwm : (l.length : Int) * ((p : Int) + 1) = ((l.length * (p + 1) : Nat) : Int) := by push_cast; rfl
    have hdiv : ∀ i, i < l.length * (p + 1) → i / (p + 1) < l.length := fun i hi => Nat.div_lt_of_lt_mul (by rw [Nat.mul_comm]; exact hi)
    have HGet := Lib.hid hGet
    have HDiv := Lib.hid hdiv
    have HLen := Lib.hid hN
    have HOut := Lib.hid (outN_all hlo)
    have HR := Lib.hid hR
    have HA2 := Lib.hid (HA1.out.chg hC)
    have HC2 := Lib.hid (HC1.out.trans hC)
    rw [hN]
    generalize l.length * (p + 1) = N at *
    generalize actsL l p = al at *
    clear hR hC h hRL hGet hN hdiv he hlo HC1 HA1
    have hN' : (N : Int) ≤ 30300 := by omega
    have hp' : (p : Int) ≤ 100 := by omega
    go_wp2_with fail
    have HCn := Lib.hid (CountsA_any w2 A cap l 4 (by omega) HA2.out)
    refine HCn.out.mono ?_
    intro e w3 h
    obtain ⟨Ac, cc, rfl, hR, hC⟩ := h.sn
    have hcl : cntL l 4 = cntK l 4 l.length := rfl
    rw [hcl] at hR ⊢
    rw [cntK_len]
    have HK := Lib.hid hR
    have HR3 := Lib.hid (HR.out.chg0 hC)
    have HA3 := Lib.hid (HA2.out.chg hC)
    have HC3 := Lib.hid (HC2.out.trans hC)
    have hcount : ∀ k : Nat, k < 4 → ∃ b off, Ac = some ⟨b, off, none⟩ ∧ w3.cell? ⟨b, off + k, none⟩ = some (.int .i64 (l.count (k : Int) : Nat)) := by
      intro k hk
      obtain ⟨b, off, e, _, c⟩ := hR k (by rw [cntK_len]; exact hk)
      refine ⟨b, off, e, ?_⟩
      rw [c]
      simp [cntK]
    have HCt := Lib.hid hcount
    clear h hR hC hcl hcount HCn HR HA2 HC2 HK
    go_wp2_with fail
    go_loopw [9, 10] (fun s i wr => AcSum w3 l s i wr) (fun _ i _ => 4 - (intOf i).toNat)
    case atStart => exact ⟨0, Nat.zero_le _, rfl, rfl, rfl⟩
    case round =>
      obtain ⟨k, hk, rfl, rfl, rfl⟩ := hrel
      by_cases hlt : k < 4
      · obtain ⟨b, off, rfl, d0⟩ := HCt.out k hlt
        have hlt' : (k : Int) < 4 := by omega
        have hsl := sumC_le l k
        have hsl2 : sumC l k ≤ 1200 := by
          have : k * l.length ≤ 4 * 300 := Nat.mul_le_mul (by omega) hl3
          omega
        have hcl : l.count (k : Int) ≤ l.length := List.count_le_length
        have HW := Lib.hid (Wait_any wr A cap l k (by omega) HA3.out)
        have HWn : l.count (k : Int) = 0 → Hid ((waitS (k : Int) l).1 = l.length) := fun hz => Lib.hid (wait_none (fun x hx e => by
          have := List.count_pos_iff.2 (by rw [← e]; exact hx : (k : Int) ∈ l)
          omega))
        have HSc := Lib.hid (show sumC l (k + 1) = sumC l k + l.count (k : Int) from rfl)
        by_cases hz : l.count (k : Int) = 0
        · have hW0 := HWn hz
          rw [hz] at d0 HSc
          generalize sumC l k = sk at *
          have hsk : (sk : Int) ≤ 1200 := by omega
          clear HWn hz hcl hsl hsl2
          rw [show ((0 : Nat) : Int) = 0 from rfl] at d0
          go_wp2_with fail
          refine HW.out.mono ?_
          rintro e w' ⟨rfl, rfl⟩
          rw [hW0.out]
          go_wp2_with fail
          go_roundw
          case rel => exact ⟨k + 1, by omega, by go_num, by rw [HSc.out]; rfl, rfl⟩
          case measure => simp [intOf]; omega
        · have hcb : (((l.count (k : Int) : Nat) : Int) == 0) = false := by simpa using hz
          generalize sumC l k = sk at *
          generalize l.count (k : Int) = cn at *
          have hsk : (sk : Int) ≤ 1200 := by omega
          have hcn : (cn : Int) ≤ 300 := by omega
          clear HWn hz hcl hsl hsl2
          go_wp2_with fail
          go_roundw
          case rel => exact ⟨k + 1, by omega, by go_num, by rw [HSc.out]; go_num, rfl⟩
          case measure => simp [intOf]; omega
      · obtain rfl : k = 4 := by omega
        rw [sumC_all HOut.out]
        simp only [show ((4 : Nat) : Int) = 4 from rfl]
        obtain ⟨w3x, rfl⟩ : ∃ w3x : World, w3x = wr := ⟨_, rfl⟩
        go_wp2_with fail
        go_loopw [74] (fun i wr => AcEach w3x N i wr) (fun i _ => N - (intOf i).toNat)
        case atStart => exact ⟨0, Nat.zero_le _, rfl, Chg.refl _ _⟩
        case round =>
          obtain ⟨k, hk, rfl, hC⟩ := hrel
          by_cases hlt : k < N
          · have hka : k < al.length := by rw [HLen.out]; exact hlt
            obtain ⟨b, off, rfl, hb, c⟩ := (HR3.out.chg0 hC) (by omega)
            have c0 : wr.cell? ⟨b, off + k * 3, none⟩ = some (.int .i64 al[k].1) := c k hka 0 (by decide)
            have c1 : wr.cell? ⟨b, off + k * 3 + 1, none⟩ = some (.int .i64 al[k].2) := c k hka 1 (by decide)
            have c2 : wr.cell? ⟨b, off + k * 3 + 2, none⟩ = some (.int .i64 0) := c k hka 2 (by decide)
            have hg := HGet.out k hka
            have HC := Lib.hid hC
            have hp0 : (0 : Int) < (p : Int) + 1 := by omega
            have hbne : ¬ b = wr.heap.size := by omega
            by_cases hmod : k % (p + 1) = 0
            · rw [if_pos hmod] at hg
              have hj := HDiv.out k hlt
              obtain ⟨b2, off2, rfl, hb2, d0⟩ := (HA3.out.chg hC) (k / (p + 1)) hj
              have hb2ne : ¬ b2 = wr.heap.size := by omega
              have hgj : l.getD (k / (p + 1)) 0 = l[k / (p + 1)] := by simp [hj]
              rw [hgj] at hg
              rw [hg] at c0 c1
              have hm1 : (k : Int) % ((p : Int) + 1) = 0 := by
                have h1 : (k : Int) % ((p : Int) + 1) = ((k % (p + 1) : Nat) : Int) := by push_cast; rfl
                rw [h1, hmod]; rfl
              have hq1 : (k : Int) / ((p : Int) + 1) = ((k / (p + 1) : Nat) : Int) := by push_cast; rfl
              clear c hg hgj hmod hC
              generalize k / (p + 1) = j at *
              generalize l[j] = lj at *
              have hj' : (j : Int) < l.length := by omega
              go_wp2_with fail
              go_quiet (fail)
              go_wp2_with fail
              go_roundw
              case rel => exact ⟨k + 1, by omega, by go_num, (HC.out.alloc _).drewN _⟩
              case measure => simp [intOf]; omega
            · rw [if_neg hmod] at hg
              rw [hg] at c0 c1
              have hm1 : ((k : Int) % ((p : Int) + 1) == 0) = false := by
                have h1 : (k : Int) % ((p : Int) + 1) = ((k % (p + 1) : Nat) : Int) := by push_cast; rfl
                rw [h1]; simp only [beq_eq_false_iff_ne, ne_eq]; intro h; exact hmod (by exact_mod_cast h)
              clear c hg hmod hC
              go_wp2_with fail
              go_quiet (fail)
              go_wp2_with fail
              go_roundw
              case rel => exact ⟨k + 1, by omega, by go_num, (HC.out.alloc _).drewN _⟩
              case measure => simp [intOf]; omega
          · obtain rfl : k = N := by omega
            have HC4 := Lib.hid (HC3.out.trans hC)
            clear hC
            go_wp2_with fail
            go_ret
            exact ⟨rfl, HC4.out.to_below (by simp) (Nat.le_refl _)⟩
  · have hr : actR l per = [] := by rw [actR, if_neg he]
    have hb : (actE l per == 0) = false := by simpa using he
    have hb2 : (actE l per != 0) = true := by simpa using he
    have HC2 := Lib.hid (HC1.out.trans hC)
    rw [hr]
    clear hR hC h he hr HC1 HA1
    generalize actE l per = ea at *
    go_wp2_with fail
    go_ret
    exact ⟨rfl, HC2.out.to_below (by simp) (Nat.le_refl _)⟩

end Go.Proofs.Ytagfalnfjiodcaa
