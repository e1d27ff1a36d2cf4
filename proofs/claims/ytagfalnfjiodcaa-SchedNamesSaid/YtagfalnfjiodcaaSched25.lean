/- The document's Ranks; SchedShares' schedulers. -/
import Derived.Test.YtagfalnfjiodcaaSched24
namespace Go.Proofs.Ytagfalnfjiodcaa
open Go.RowKit

def nowN (p wa : IL) (k : Nat) : IL := (nowK p wa k).take p.length
theorem nowN_len {p wa : IL} (h : p.length ≤ 4) (k : Nat) : (nowN p wa k).length = p.length := by rw [nowN, List.length_take, nowK_len]; omega
theorem nowN_set (p wa : IL) (k : Nat) : (nowN p wa k).set k (p.getD k 0 + wa.getD k 0) = nowN p wa (k + 1) := by
  rw [nowN, nowN, ← nowK_succ, List.take_set]

def NwRel (W0 : World) (g : Nat) (p wa : IL) (i : Value) (wr : World) : Prop := ∃ k : Nat, k ≤ p.length ∧ i = .int .i64 k ∧ Blk wr g ((nowN p wa k).map (Value.int .i64)) 3 ∧ Chg [g] W0 wr
def RksRel (W : World) (l : IL) (M : Nat) (vw vo t : Value) (wr : World) : Prop := ∃ j : Nat, j ≤ M ∧ t = .int .i64 j ∧ wr.ownsRow W.heap.size 3 1 vw l.length (((rSt l j).take l.length).map (Value.int .i64)) ∧ wr.ownsRow W.heap.size 3 1 vo j ((outs (fun t => ((rC l (rSt l t) : Nat) : Int)) j).map (Value.int .i64)) ∧ Apart vo.ownBlock.toList vw.ownBlock.toList ∧ Chg [] W wr

set_option maxRecDepth 100000 in
set_option maxHeartbeats 4000000 in
theorem RanksR_ok (W : World) (A : Option Addr) (cap M : Nat) (l : IL) (h : Within 0 l) (hA : NumsA W A W.heap.size l) (hM : M ≤ 10000) :
    Calls Try.prog 21 #[.slice A l.length cap, .int .i64 (M : Int)] W (SPost W (outs (fun t => ((rC l (rSt l t) : Nat) : Int)) M) 0) := by
  obtain ⟨i0, hi, hz0, hz1, hz2⟩ := info_parts infoI64
  have hl1 := h.1.1
  have hl4 := h.1.2
  have hl1' : (1 : Int) ≤ l.length := by omega
  have hl4' : (l.length : Int) ≤ 4 := by omega
  have hW := within_any W A cap l 0 (by omega) hA
  rw [show l.any (badN 0) = false from by
    rw [List.any_eq_false]; intro x hx; have := h.2 x hx; simp [badN]; omega] at hW
  have HWi := Lib.hid hW
  have hMay : ∀ W, Calls Try.prog 36 #[.int .i64 (l.length : Int), .int .i64 (M : Int)] W fun e w' => e = .returned (.int .i64 0) ∧ W = w' := by
    intro W
    have := May_any W l.length M
    rwa [show mayN (l.length : Int) M = 0 from by unfold mayN; rw [if_neg (by omega), if_neg (by omega)]] at this
  have HM := Lib.hid hMay
  have HA := Lib.hid hA
  have H := Lib.hid h
  clear hA h hMay hW
  go_enter Try.func21, Try.ntmps21
  go_wp2_with fail
  refine HWi.out.mono ?_
  rintro e w1 ⟨rfl, hC1⟩
  have HC1 := Lib.hid hC1
  clear hC1 HWi
  go_wp2_with fail
  refine (HM.out _).mono ?_
  rintro e w' ⟨rfl, rfl⟩
  have hs1 := HC1.out.size
  go_wp2_with (first
    | (at_make; refine wpList_make_full _ rfl _ _ 23 rfl W.heap.size 3 i0 (.int .i64 0) 1 Try.underlying23 hi hz0 hz1 .i64 .i64 _ _ l.length rfl rfl rfl rfl (by rw [hz2]; omega) (by unfold maxLen; omega) hs1 ?_; intro w3 hown hgrow; have HO := Lib.hid hown; have HG := Lib.hid (Chg.of_grown hgrow); clear hown hgrow))
  have HC3 := Lib.hid (HC1.out.trans HG.out)
  clear HC1 HG hs1
  go_loopw [8, 9, 10] (fun vw vo t wr => RksRel W l M vw vo t wr) (fun _ _ t _ => M - (intOf t).toNat)
  case atStart =>
    refine ⟨0, Nat.zero_le _, rfl, ?_, World.ownsRow_nil _ _ _ _, Apart.nil_left _, HC3.out⟩
    have := HO.out
    rw [made_zero] at this
    rw [rSt, take_zeros hl4]
    exact this
  case round =>
    obtain ⟨t, ht, rfl, hw, ho, ha, hC⟩ := hrel
    by_cases hlt : t < M
    · obtain ⟨wo, rfl⟩ : ∃ wo : World, wo = wr := ⟨_, rfl⟩
      have hcl : l.length ≤ (rSt l t).length := by rw [rSt_len]; exact hl4
      have hlen : ((rSt l t).take l.length).length = l.length := by rw [List.length_take]; omega
      obtain ⟨A2, cap2, rfl, _, hA2⟩ := NumsA.of_row (l := (rSt l t).take l.length) (by rw [hlen]; exact hw)
      rw [hlen]
      have hbd : ∀ y ∈ (rSt l t).take l.length, 0 ≤ y ∧ y ≤ 1000000 := fun y hy => by have := rSt_bound l t y (List.mem_of_mem_take hy); omega
      have HL := Lib.hid hlen
      have HO1 := Lib.hid ho
      have HW1 := Lib.hid hw
      have HA2 := Lib.hid hA2
      have HC4 := Lib.hid hC
      have HBd := Lib.hid hbd
      have HAp := Lib.hid ha
      have hso := hC.size
      clear ho hC hw ha hbd HO hA2 hlen
      go_wp2_with (first
        | (at_make; refine wpList_make_full _ rfl _ _ 23 rfl wo.heap.size 3 i0 (.int .i64 0) 1 Try.underlying23 hi hz0 hz1 .i64 .i64 _ _ l.length rfl rfl rfl rfl (by rw [hz2]; omega) (by unfold maxLen; omega) (Nat.le_refl _) ?_; intro w4 hown hgrow; have HB4 := Lib.hid (Blk.of_made hown); have HG := Lib.hid (Chg.of_grown hgrow); clear hown hgrow))
      have hg4 : wo.heap.size < w4.heap.size := HB4.out.lt
      go_loopw [12] (fun i wr => NwRel w4 wo.heap.size l (rSt l t) i wr) (fun i _ => l.length - (intOf i).toNat)
      case atStart =>
        refine ⟨0, Nat.zero_le _, rfl, ?_, Chg.refl _ _⟩
        have := HB4.out
        rw [made_zero] at this
        rw [nowN, nowK_zero, take_zeros hl4]
        exact this
      case round =>
        obtain ⟨k, hk, rfl, hb, hC⟩ := hrel
        have hCW : Chg [] W wr := (HC4.out.trans HG.out).trans' hC (fun x hx hl => by simp at hx; omega)
        by_cases hltk : k < l.length
        · have hkc : k < (rSt l t).length := by omega
          obtain ⟨p, off, hAp, _, c2⟩ := HA.out.below (hCW.to_below (B := W.heap.size) (by simp) (Nat.le_refl _)) k hltk
          subst hAp
          obtain ⟨p2, off2, hAp2, _, c4⟩ := HA2.out.below (HG.out.nil_below.trans (hC.to_below (B := wo.heap.size) (by simp) (by omega))) k (by rw [HL.out]; exact hltk)
          subst hAp2
          rw [List.getElem_take] at c4
          have f3 : wr.frozen? ⟨wo.heap.size, k, none⟩ = false := hb.free k
          have c3 : wr.cell? ⟨wo.heap.size, k, none⟩ = some (.int .i64 ((nowN l (rSt l t) k).getD k 0)) := by
            rw [hb.cell, List.getElem?_map, List.getElem?_eq_getElem (by rw [nowN_len hl4]; exact hltk)]
            simp [nowN_len hl4, hltk]
          obtain ⟨x0, x1⟩ := H.out.2 _ (List.getElem_mem hltk)
          obtain ⟨y0, y1⟩ := rSt_bound l t _ (List.getElem_mem hkc)
          have hwc : IntKind.i64.wrap (l[k] + (rSt l t)[k]) = l[k] + (rSt l t)[k] := IntWalk.i64_in _ (by omega)
          have hS := hb.set k (.int .i64 (l[k] + (rSt l t)[k]))
          rw [← List.map_set, show l[k] = l.getD k 0 from by simp [hltk], show (rSt l t)[k] = (rSt l t).getD k 0 from by simp [hkc], nowN_set, show l.getD k 0 = l[k] from by simp [hltk], show (rSt l t).getD k 0 = (rSt l t)[k] from by simp [hkc]] at hS
          have HS := Lib.hid hS
          have HC5 := Lib.hid hC
          clear hS hC hb y0 y1 x0 x1 hCW
          generalize l[k] = lk at *
          generalize (rSt l t)[k] = ck at *
          generalize (nowN l (rSt l t) k).getD k 0 = nk at *
          go_wp2_with fail
          go_still_tail 12, (by kernel_rfl)
          go_wp2_with fail
          go_roundw
          case rel => exact ⟨k + 1, by omega, by go_num, HS.out, (HC5.out.setCell (by simp) _).drewN _⟩
          case measure => simp [intOf]; omega
        · obtain rfl : k = l.length := by omega
          have hgr := greatestR_any wr (some ⟨wo.heap.size, 0, none⟩) l.length (nowN l (rSt l t) l.length) (by rw [nowN_len hl4]; omega) (by rw [nowN_len hl4]; omega) (NumsA.of_blk hb)
          rw [nowN_len hl4, show gI (nowN l (rSt l t) l.length) = rC l (rSt l t) from by rw [nowN, nowK_take hl4]; rfl] at hgr
          have hcn := rC_lt H.out (rSt l t)
          have HG2 := Lib.hid hgr
          have hcW : Chg [] wo wr := HG.out.trans' hC (fun x hx hl => by simp at hx; omega)
          have HCW := Lib.hid hCW
          have HO2 := Lib.hid (ownsRow_chg HO1.out hcW (by simp))
          have HA5 := Lib.hid (HA2.out.chg hcW)
          have HOS := Lib.hid (outs_succ (fun t => ((rC l (rSt l t) : Nat) : Int)) t)
          have hcn' : ((rC l (rSt l t) : Nat) : Int) < l.length := by omega
          have HST : Hid (rSt l (t + 1) = onL (rSt l t) (rC l (rSt l t))) := Lib.hid rfl
          clear hgr hb hC hCW hcW HO1 HC4 HA2 HG HB4 HA
          generalize rC l (rSt l t) = c at *
          go_wp2_with fail
          refine HG2.out.mono ?_
          rintro e w5 ⟨rfl, hC5⟩
          have hon := onR_any w5 A2 cap2 ((rSt l t).take l.length) c (by rw [HL.out]; omega) HBd.out (HA5.out.chg hC5)
          rw [HL.out] at hon
          have HON := Lib.hid hon
          have HC6 := Lib.hid (HCW.out.trans hC5)
          have HO6 := Lib.hid (ownsRow_chg HO2.out hC5 (by simp))
          clear hC5 hon HG2 HO2 HA5
          go_wp2_with fail
          refine HON.out.mono ?_
          rintro e w6 ⟨vw', rfl, hv, hC⟩
          have hap : Apart u9.ownBlock.toList vw'.ownBlock.toList := fun g hg hg2 => by
            have h1 := ownsRow_lt HO6.out g hg
            have h2 := (hv.lt g (by simpa using hg2)).1
            omega
          rw [onL_len, HL.out, ← onL_take, ← HST.out] at hv
          have HV := Lib.hid hv
          have HO7 := Lib.hid (ownsRow_chg HO6.out hC (by simp))
          have HAP := Lib.hid hap
          have HC7 := Lib.hid (HC6.out.trans hC)
          have hs7 := HC7.out.size
          clear hv hap hC HON HO6
          go_wp2_with (first
            | (at_builtin; refine wpList_append_own_at _ rfl (.tmp 59) (.tmp 61) 23 rfl (W.heap.size) 3 i0 (.int .i64 0) 1 8 Try.underlying23 hi hz0 hz1 hz2 rfl (by decide) _ _ _ rfl (HO7.out.alloc _) ⟨w6.heap.size, 0, none⟩ 1 1 [.int .i64 (c : Int)] rfl rfl (cells_at (by simp) [.int .i64 (c : Int)] _) (by simp [Value.oneCell']) (by unfold maxLen; omega) (by omega) (by first | omega | (simp; omega) | simp) ?_; intro va8 wa8 hown1 hgrow1 _ hblk1; have hsz8 := hgrow1.size; have HO8 := Lib.hid hown1; have HG8 := Lib.hid hgrow1; have HB8 := Lib.hid hblk1; clear hown1 hgrow1 hblk1))
          obtain ⟨hq1, hq2⟩ := rowApart (HV.out.alloc _) HAP.out HB8.out HG8.out
          have HV8 := Lib.hid hq1
          have HAP8 := Lib.hid hq2
          clear hq1 hq2
          go_roundw
          case rel =>
            refine ⟨t + 1, by omega, by go_num, ownsRow_base HV8.out (by have := HC6.out.size; omega), ?_, HAP8.out, (HC7.out.alloc _).grew (HO7.out.alloc _) HG8.out (fun k h1 h2 => by omega)⟩
            rw [HOS.out, List.map_append]; exact HO8.out
          case measure => simp [intOf]; omega
    · obtain rfl : t = M := by omega
      have HO1 := Lib.hid ho
      have HC1 := Lib.hid hC
      clear ho hC hw ha HO
      go_wp2_with fail
      go_ret2
      exact ⟨_, rfl, by rw [outs_len]; exact HO1.out, HC1.out⟩

end Go.Proofs.Ytagfalnfjiodcaa
