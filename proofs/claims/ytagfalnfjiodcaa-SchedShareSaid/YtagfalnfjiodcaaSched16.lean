/- SchedShare. -/
import Derived.Test.YtagfalnfjiodcaaSched13
import Derived.Test.YtagfalnfjiodcaaSched15
import Derived.Test.YtagfalnfjiodcaaSchedM2
namespace Go.Proofs.Ytagfalnfjiodcaa
open Go.RowKit

theorem NumsA.drop {w : World} {b off n₀ : Nat} {l : IL} (h : NumsA w (some ⟨b, off, none⟩) n₀ l) (F : Nat) : NumsA w (some ⟨b, off + F, none⟩) n₀ (l.drop F) := by
  intro i hi
  rw [List.length_drop] at hi
  obtain ⟨b', off', e, hb, hc⟩ := h (F + i) (by omega)
  obtain ⟨rfl, rfl⟩ : b = b' ∧ off = off' := by simpa using e
  exact ⟨b, off + F, rfl, hb, by rw [Nat.add_assoc, hc]; simp⟩

def ShI (W : World) (p : IL) (sum i : Value) (wr : World) : Prop := ∃ k : Nat, k ≤ p.length ∧ i = .int .i64 k ∧ sum = .int .i64 (p.take k).sum ∧ (∀ x ∈ p.take k, 1 ≤ x ∧ x ≤ 100) ∧ W = wr

theorem take_bound {l : IL} (h : ∀ x ∈ l, 1 ≤ x ∧ x ≤ 100) : 0 ≤ l.sum ∧ l.sum ≤ 100 * l.length := by
  induction l with
  | nil => simp
  | cons a l ih =>
    have := ih (fun x hx => h x (by simp [hx]))
    have := h a (by simp)
    simp; omega

set_option maxRecDepth 100000 in
set_option maxHeartbeats 4000000 in
theorem SchedShare_any (W : World) (A : Option Addr) (cap : Nat) (p : IL) (a : Int) (hA : NumsA W A W.heap.size p) (hok : ∀ x ∈ p, -9223372036854775808 ≤ x ∧ x ≤ 9223372036854775807) (h0 : 0 ≤ a ∧ a ≤ 65535) :
    Calls Try.prog 7 #[.slice A p.length cap, .int .u16 a] W (StaysPost W) := by
  obtain ⟨h00, h01⟩ := h0
  have HA := Lib.hid hA
  clear hA
  by_cases hp : 100 < p.length
  · have hp' : (100 : Int) < p.length := by omega
    go_enter Try.func7, Try.ntmps7
    go_wp2_with fail
    refine (alive_any _).mono ?_
    rintro e w1 ⟨rfl, hC⟩
    have HC1 := Lib.hid hC
    clear hC
    go_wp2_with fail
    go_ret
    exact ⟨rfl, HC1.out.to_below (by simp) (Nat.le_refl _)⟩
  have hp1 : p.length ≤ 100 := by omega
  have hp2 : (p.length : Int) ≤ 100 := by omega
  go_enter Try.func7, Try.ntmps7
  go_wp2_with fail
  refine (alive_any _).mono ?_
  rintro e w1 ⟨rfl, hC⟩
  have HA1 := Lib.hid (HA.out.chg hC)
  have HC1 := Lib.hid hC
  clear hC
  go_wp2_with fail
  obtain ⟨F, hF⟩ : ∃ F : Nat, a % 1000 = F := ⟨(a % 1000).toNat, by omega⟩
  have hF1 : F ≤ 1000 := by omega
  rw [hF]
  go_loopw [7, 27] (fun sum i wr => ShI w1 p sum i wr) (fun _ i _ => p.length - (intOf i).toNat)
  case atStart => exact ⟨0, Nat.zero_le _, rfl, by simp, by simp, rfl⟩
  case round =>
    obtain ⟨k, hk, rfl, rfl, hall, rfl⟩ := hrel
    by_cases hlt : k < p.length
    · obtain ⟨b, off, rfl, hb, d0⟩ := HA1.out k hlt
      obtain ⟨s0, s1⟩ := take_bound hall
      have s2 : (p.take k).length ≤ 100 := by simp; omega
      have hsum : (p.take (k + 1)).sum = (p.take k).sum + p[k] := by rw [List.take_add_one, List.sum_append]; simp [hlt]
      have hall2 : 1 ≤ p[k] → p[k] ≤ 100 → ∀ x ∈ p.take (k + 1), 1 ≤ x ∧ x ≤ 100 := by
        intro g1 g2 x hx
        rw [List.take_add_one] at hx
        rcases List.mem_append.1 hx with hx | hx
        · exact hall x hx
        · simp [hlt] at hx
          subst hx
          exact ⟨g1, g2⟩
      have HS := Lib.hid hsum
      have H2 := Lib.hid hall2
      have hs3 : (p.take k).sum ≤ 10000 := by omega
      clear hsum hall2 hall s1 s2
      generalize p[k] = y at *
      generalize (p.take k).sum = s at *
      by_cases g1 : y < 1
      · go_wp2_with fail
        go_ret
        exact ⟨rfl, HC1.out.to_below (by simp) (Nat.le_refl _)⟩
      have g1' : 1 ≤ y := by omega
      by_cases g2 : 100 < y
      · go_wp2_with fail
        go_ret
        exact ⟨rfl, HC1.out.to_below (by simp) (Nat.le_refl _)⟩
      have g2' : y ≤ 100 := by omega
      clear g1 g2
      have hw : IntKind.i64.wrap (s + y) = s + y := IntWalk.i64_in _ (by omega)
      go_wp2_with fail
      go_roundw
      case rel => exact ⟨k + 1, by omega, by go_num, by rw [HS.out], H2.out g1' g2', rfl⟩
      case measure => simp [intOf]; omega
    · obtain rfl : k = p.length := by omega
      rw [List.take_length] at hall ⊢
      obtain ⟨s0, s1⟩ := take_bound hall
      have hs3 : p.sum ≤ 10000 := by omega
      have hw : IntKind.i64.wrap (F + p.sum) = F + p.sum := IntWalk.i64_in _ (by omega)
      by_cases hwi : 1 ≤ p.length ∧ p.length ≤ 4
      · have hW : Within 1 p := ⟨hwi, hall⟩
        have hsp := sum_pos hW
        obtain ⟨hw1, hw4⟩ := hwi
        have hw1' : (1 : Int) ≤ p.length := by omega
        have hw4' : (p.length : Int) ≤ 4 := by omega
        obtain ⟨S, hS⟩ : ∃ S : Nat, p.sum = S := ⟨p.sum.toNat, by omega⟩
        have hS1 : 1 ≤ S := by omega
        have hS2 : S ≤ 400 := by omega
        have hSn : p.sum.toNat = S := by omega
        rw [hS] at hw ⊢
        have hcw := Weights_ok w1 A cap (F + S) p hW HA1.out (by omega)
        have hsh := fun i (hi : i < p.length) => share hW F hi
        rw [hSn] at hsh
        have HSH := Lib.hid hsh
        have HCW := Lib.hid hcw
        clear hall hsh hcw hW
        go_wp2_with fail
        refine HCW.out.mono ?_
        clear HCW
        intro e w2 h
        obtain ⟨B, cB, rfl, hBc, hB, hC⟩ := SPost.sn h
        rw [outs_len] at hBc
        simp only [outs_len]
        obtain ⟨b, off, rfl, hb, _⟩ := hB 0 (by rw [outs_len]; omega)
        have HB := Lib.hid (hB.drop F)
        have HA2 := Lib.hid (HA1.out.chg hC)
        have HC2 := Lib.hid (HC1.out.trans hC)
        clear h hB hC
        go_wp2_with fail
        have hdl : ((outs (fun t => ((wC p (wSt p t) : Nat) : Int)) (F + S)).drop F).length = S := by rw [List.length_drop, outs_len]; omega
        have hcn := Counts_any w2 (some ⟨b, off + F, none⟩) (cB - F) ((outs (fun t => ((wC p (wSt p t) : Nat) : Int)) (F + S)).drop F) p.length hw1 hw4 (by rw [hdl]; omega) HB.out
        rw [hdl] at hcn
        have hEq : ∀ i (hi : i < p.length), (cntK ((outs (fun t => ((wC p (wSt p t) : Nat) : Int)) (F + S)).drop F) p.length ((outs (fun t => ((wC p (wSt p t) : Nat) : Int)) (F + S)).drop F).length)[i]'(by rw [cntK_len]; exact hi) = p[i] := by
          intro i hi
          simp only [cntK, List.getElem_map, List.getElem_range, List.take_length]
          rw [HSH.out i hi]
          simp [hi]
        have HEQ := Lib.hid hEq
        clear hdl hEq HSH
        refine hcn.mono ?_
        clear hcn
        rintro e w3 ⟨v, rfl, hv, hC⟩
        obtain ⟨Bc, cc, rfl, _, hBc⟩ := NumsA.of_row (l := cntK ((outs (fun t => ((wC p (wSt p t) : Nat) : Int)) (F + S)).drop F) p.length ((outs (fun t => ((wC p (wSt p t) : Nat) : Int)) (F + S)).drop F).length) (by rw [cntK_len]; exact hv)
        simp only [cntK_len]
        have HBC := Lib.hid hBc
        have HA3 := Lib.hid (HA2.out.chg hC)
        have HC3 := Lib.hid (HC2.out.trans hC)
        clear hv hBc hC
        go_wp2_with fail
        go_loopw [90] (fun i wr => ToldRel w3 p.length i wr) (fun i _ => p.length - (intOf i).toNat)
        case atStart => exact ⟨0, 0, Nat.zero_le _, rfl, rfl⟩
        case round =>
          obtain ⟨i, q, hi', rfl, rfl⟩ := hrel
          by_cases hlt2 : i < p.length
          · obtain ⟨b0, o0, rfl, _, d0⟩ := HBC.out i (by rw [cntK_len]; exact hlt2)
            obtain ⟨b1, o1, rfl, _, d1⟩ := HA3.out i hlt2
            rw [HEQ.out i hlt2] at d0
            generalize p[i] = y at *
            go_wp2_with fail
            go_quiet (fail)
            go_wp2_with fail
            go_roundw
            case rel => exact ⟨i + 1, _, by omega, by go_num, rfl⟩
            case measure => simp [intOf]; omega
          · obtain rfl : i = p.length := by omega
            go_wp2_with fail
            go_ret
            exact ⟨rfl, (HC3.out.drewN _).to_below (by simp) (Nat.le_refl _)⟩
      · have hE : ∀ m, mayL p 1 m = 240 := fun m => by unfold mayL; rw [if_pos (by omega)]
        have hcw := Weights_any w1 A cap p (F + p.sum) hp1 HA1.out
        rw [weightsL, hE, if_neg (by decide)] at hcw
        have HCW := Lib.hid hcw
        clear hall hcw hE
        generalize p.sum = s at *
        rcases (show p.length = 0 ∨ 4 < p.length by omega) with hz | hz
        · have hz' : (p.length : Int) = 0 := by omega
          clear s1 hwi hok hp hz
          go_wp2_with fail
          refine HCW.out.mono ?_
          clear HCW
          intro e w2 h
          obtain ⟨B, cB, rfl, _, _, hC⟩ := SPost.sn h
          have HC2 := Lib.hid (HC1.out.trans hC)
          clear h hC
          go_wp2_with fail
          go_ret
          exact ⟨rfl, HC2.out.to_below (by simp) (Nat.le_refl _)⟩
        · have hz' : (4 : Int) < p.length := by omega
          clear s1 hwi hok hp hz
          go_wp2_with fail
          refine HCW.out.mono ?_
          clear HCW
          intro e w2 h
          obtain ⟨B, cB, rfl, _, _, hC⟩ := SPost.sn h
          have HC2 := Lib.hid (HC1.out.trans hC)
          clear h hC
          go_wp2_with fail
          go_ret
          exact ⟨rfl, HC2.out.to_below (by simp) (Nat.le_refl _)⟩

end Go.Proofs.Ytagfalnfjiodcaa
