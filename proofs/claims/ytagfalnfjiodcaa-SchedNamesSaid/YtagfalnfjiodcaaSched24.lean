/- The document's within, Weights. -/
import Derived.Test.YtagfalnfjiodcaaSched22
import Derived.StillTailTactics
namespace Go.Proofs.Ytagfalnfjiodcaa
open Go.RowKit

theorem Blk.of_made {w : World} {base : Nat} {e : TypeId} {g n : Nat} {xs : List Value} (h : w.ownsRow base e 1 (.slice (some ⟨g, 0, none⟩) n n) n xs) : Blk w g xs e := by
  rcases h.2 with ⟨h0, _⟩ | ⟨g', cap, cur, he, _, hb, _, _, hs, ht⟩
  · cases h0
  · obtain ⟨rfl, rfl⟩ : g = g' ∧ n = cap := by simpa using he
    rw [List.take_of_length_le (by simp [hs])] at ht
    subst ht
    exact hb

def WiRel (W : World) (l : IL) (least : Int) (i : Value) (wr : World) : Prop := ∃ k q : Nat, k ≤ l.length ∧ i = .int .i64 k ∧ (l.take k).any (badN least) = false ∧ wr = W.drewN q

set_option maxHeartbeats 1000000 in
theorem within_any (W : World) (A : Option Addr) (cap : Nat) (l : IL) (least : Int) (hm : l.length ≤ 100) (hA : NumsA W A W.heap.size l) :
    Calls Try.prog 43 #[.slice A l.length cap, .int .i64 least] W fun e w' => e = .returned (.bool (!(l.any (badN least)))) ∧ Chg [] W w' := by
  have hm' : (l.length : Int) ≤ 100 := by omega
  have HA := Lib.hid hA
  clear hA
  go_enter Try.func43, Try.ntmps43
  go_wp2_with fail
  go_loopw [5] (fun i wr => WiRel W l least i wr) (fun i _ => l.length - (intOf i).toNat)
  case atStart => exact ⟨0, 0, Nat.zero_le _, rfl, rfl, rfl⟩
  case round =>
    obtain ⟨k, q, hk, rfl, hno, rfl⟩ := hrel
    by_cases hlt : k < l.length
    · obtain ⟨b, off, rfl, _, d0⟩ := HA.out k hlt
      have hs : (l.take (k + 1)).any (badN least) = badN least l[k] := by
        rw [List.take_add_one, List.any_append, hno]
        simp [hlt]
      have hbad : badN least l[k] = true → l.any (badN least) = true := fun h => List.any_eq_true.2 ⟨_, List.getElem_mem hlt, h⟩
      have HS := Lib.hid hs
      have HB := Lib.hid hbad
      clear hs hno hbad
      generalize l[k] = y at *
      by_cases h1 : y < least
      · have HE := Lib.hid (HB.out (by simp [badN, h1]))
        go_wp2_with fail
        go_ret
        exact ⟨ret_bool (by rw [HE.out]; rfl), (Chg.refl _ _).drewN _⟩
      · have h1' : least ≤ y := by omega
        by_cases h2 : 100 < y
        · have HE := Lib.hid (HB.out (by simp [badN, h2]))
          go_wp2_with fail
          go_ret
          exact ⟨ret_bool (by rw [HE.out]; rfl), (Chg.refl _ _).drewN _⟩
        · have h2' : y ≤ 100 := by omega
          have HE := Lib.hid (show badN least y = false from by simp [badN]; omega)
          clear h1 h2
          go_wp2_with fail
          go_roundw
          case rel => exact ⟨k + 1, q, by omega, by go_num, by rw [HS.out, HE.out], rfl⟩
          case measure => simp [intOf]; omega
    · obtain rfl : k = l.length := by omega
      rw [List.take_length] at hno
      have HN := Lib.hid hno
      clear hno
      go_wp2_with fail
      go_ret
      exact ⟨ret_bool (by rw [HN.out]; rfl), (Chg.refl _ _).drewN _⟩

def SumRel (W : World) (l : IL) (s i : Value) (wr : World) : Prop := ∃ k q : Nat, k ≤ l.length ∧ i = .int .i64 k ∧ s = .int .i64 (l.take k).sum ∧ wr = W.drewN q

/-- The credits' first n. -/
def crN (w cr : IL) (k : Nat) : IL := (addK w cr k).take w.length
theorem crN_len {w cr : IL} {k : Nat} (h : w.length ≤ cr.length) : (crN w cr k).length = w.length := by
  rw [crN, List.length_take, addK_len]; omega
theorem crN_set {w cr : IL} {k : Nat} (hk : k < cr.length) : (crN w cr k).set k (cr[k] + w.getD k 0) = crN w cr (k + 1) := by
  rw [crN, crN, ← addK_succ hk, List.take_set]
theorem crN_get {w cr : IL} {k : Nat} (h : k < w.length) (hk : k < cr.length) (hh : k < (crN w cr k).length) : (crN w cr k)[k] = cr[k] := by
  simp only [crN, List.getElem_take]
  rw [addK_get hk, if_neg (by omega)]
theorem wNext_take (w cr : IL) : (wNext w cr).take w.length = (crN w cr w.length).set (wC w cr) ((wAdd w cr).getD (wC w cr) 0 - w.sum) := by
  rw [wNext, List.take_set]; rfl

def CrRel (W0 : World) (g : Nat) (w cr : IL) (i : Value) (wr : World) : Prop := ∃ k : Nat, k ≤ w.length ∧ i = .int .i64 k ∧ Blk wr g ((crN w cr k).map (Value.int .i64)) 3 ∧ Chg [g] W0 wr
def WtsRel (W0 W : World) (g : Nat) (l : IL) (M : Nat) (vo t : Value) (wr : World) : Prop := ∃ j : Nat, j ≤ M ∧ t = .int .i64 j ∧ wr.ownsRow W0.heap.size 3 1 vo j ((outs (fun t => ((wC l (wSt l t) : Nat) : Int)) j).map (Value.int .i64)) ∧ Blk wr g (((wSt l j).take l.length).map (Value.int .i64)) 3 ∧ Chg [g] W0 wr


theorem mayL_bad {l : IL} {least m : Int} (h : l.any (badN least) = true) : mayL l least m = 240 := by unfold mayL; rw [if_pos (.inr (.inr h))]
theorem mayL_fine {l : IL} {least m : Int} (h : l.any (badN least) = false) : mayL l least m = mayN l.length m := by
  unfold mayL mayN
  by_cases h1 : l.length < 1 ∨ 4 < l.length
  · rw [if_pos (by rcases h1 with h1 | h1; exact .inl h1; exact .inr (.inl h1)), if_pos (by omega)]
  · rw [if_neg (by rintro (h2 | h2 | h2); exact h1 (.inl h2); exact h1 (.inr h2); rw [h] at h2; cases h2), if_neg (show ¬ ((l.length : Int) < 1 ∨ 4 < (l.length : Int)) by omega)]

theorem crN_zero_take (l cr : IL) : crN l cr 0 = cr.take l.length := by rw [crN, addK_zero]
theorem take_sum_succ {l : IL} {k : Nat} (h : k < l.length) : (l.take (k + 1)).sum = (l.take k).sum + l[k] := by rw [List.take_add_one, List.sum_append]; simp [h]

set_option maxRecDepth 100000 in
set_option maxHeartbeats 4000000 in
theorem WeightsR_ok (W : World) (A : Option Addr) (cap M : Nat) (l : IL) (h : Within 1 l) (hA : NumsA W A W.heap.size l) (hM : M ≤ 10000) :
    Calls Try.prog 19 #[.slice A l.length cap, .int .i64 (M : Int)] W (SPost W (outs (fun t => ((wC l (wSt l t) : Nat) : Int)) M) 0) := by
  obtain ⟨i0, hi, hz0, hz1, hz2⟩ := info_parts infoI64
  have hl1 := h.1.1
  have hl4 := h.1.2
  have hl1' : (1 : Int) ≤ l.length := by omega
  have hl4' : (l.length : Int) ≤ 4 := by omega
  have hW := within_any W A cap l 1 (by omega) hA
  rw [show l.any (badN 1) = false from by
    rw [List.any_eq_false]; intro x hx; have := h.2 x hx; simp [badN]; omega] at hW
  have HWi := Lib.hid hW
  have hMay : ∀ W, Calls Try.prog 36 #[.int .i64 (l.length : Int), .int .i64 (M : Int)] W fun e w' => e = .returned (.int .i64 0) ∧ W = w' := by
    intro W
    have := May_any W l.length M
    rwa [show mayN (l.length : Int) M = 0 from by unfold mayN; rw [if_neg (by omega), if_neg (by omega)]] at this
  have HM := Lib.hid hMay
  have HA := Lib.hid hA
  have H := Lib.hid h
  clear hA h hMay hW
  go_enter Try.func19, Try.ntmps19
  go_wp2_with fail
  refine HWi.out.mono ?_
  rintro e w1 ⟨rfl, hC1⟩
  have HC1 := Lib.hid hC1
  have HA1 := Lib.hid (HA.out.chg hC1)
  clear hC1 HA HWi
  go_wp2_with fail
  refine (HM.out _).mono ?_
  rintro e w' ⟨rfl, rfl⟩
  go_wp2_with fail
  go_loopw [8, 9] (fun s i wr => SumRel w1 l s i wr) (fun _ i _ => l.length - (intOf i).toNat)
  case atStart => exact ⟨0, 0, Nat.zero_le _, rfl, rfl, rfl⟩
  case round =>
    obtain ⟨k, q, hk, rfl, rfl, rfl⟩ := hrel
    by_cases hlt : k < l.length
    · obtain ⟨b, off, rfl, hb, d0⟩ := HA1.out k hlt
      obtain ⟨x0, x1⟩ := H.out.2 _ (List.getElem_mem hlt)
      obtain ⟨s0, s1⟩ := sum_bound (by decide) H.out k
      have s2 : (l.take k).length ≤ 4 := by simp; omega
      have hws : IntKind.i64.wrap ((l.take k).sum + l[k]) = (l.take k).sum + l[k] := IntWalk.i64_in _ (by omega)
      have HS := Lib.hid (take_sum_succ hlt)
      clear s1 s2
      generalize (l.take k).sum = sk at *
      generalize l[k] = lk at *
      go_wp2_with fail
      go_roundw
      case rel => exact ⟨k + 1, q, by omega, by go_num, by rw [HS.out], rfl⟩
      case measure => simp [intOf]; omega
    · obtain rfl : k = l.length := by omega
      rw [List.take_length]
      obtain ⟨sm, hsm⟩ : ∃ sm, sm = l.sum := ⟨_, rfl⟩
      rw [← hsm]
      have HSm := Lib.hid hsm
      clear hsm
      have HC2 := Lib.hid (HC1.out.drewN q)
      have HA2 := Lib.hid (HA1.out.chg ((Chg.refl [] w1).drewN q))
      clear HC1 HA1
      generalize w1.drewN q = w2 at *
      go_wp2_with (first
        | (at_make; refine wpList_make_full _ rfl _ _ 23 rfl w2.heap.size 3 i0 (.int .i64 0) 1 Try.underlying23 hi hz0 hz1 .i64 .i64 _ _ l.length rfl rfl rfl rfl (by rw [hz2]; omega) (by unfold maxLen; omega) (Nat.le_refl _) ?_; intro w3 hown hgrow; have HO := Lib.hid (Blk.of_made hown); have HG := Lib.hid (Chg.of_grown hgrow); clear hown hgrow))
      have HA3 := Lib.hid (HA2.out.below HG.out.nil_below)
      have hgl : w2.heap.size < w3.heap.size := HO.out.lt
      clear HA2
      go_loopw [11, 12] (fun vo t wr => WtsRel w3 W w2.heap.size l M vo t wr) (fun _ t _ => M - (intOf t).toNat)
      case atStart =>
        refine ⟨0, Nat.zero_le _, rfl, World.ownsRow_nil _ _ _ _, ?_, Chg.refl _ _⟩
        have := HO.out
        rw [made_zero] at this
        rw [wSt, take_zeros hl4]
        exact this
      case round =>
        obtain ⟨t, ht, rfl, ho, hb, hC⟩ := hrel
        by_cases hlt : t < M
        · obtain ⟨wo, rfl⟩ : ∃ wo : World, wo = wr := ⟨_, rfl⟩
          have hcl : l.length ≤ (wSt l t).length := by rw [wSt_len]; exact hl4
          have hbd := wSt_bound H.out t
          have ht5 : 500 * (t : Int) ≤ 5000000 := by omega
          have HA4 := Lib.hid (HA3.out.below (hC.to_below (B := w2.heap.size) (by simp) (by have := HG.out.size; omega)))
          have HO1 := Lib.hid ho
          have HC3 := Lib.hid hC
          have HB1 := Lib.hid hb
          have HBd := Lib.hid hbd
          clear ho hC hb hbd HO
          go_wp2_with fail
          go_loopw [13] (fun i wr => CrRel wo w2.heap.size l (wSt l t) i wr) (fun i _ => l.length - (intOf i).toNat)
          case atStart => exact ⟨0, Nat.zero_le _, rfl, by rw [crN_zero_take]; exact HB1.out, Chg.refl _ _⟩
          case round =>
            obtain ⟨k, hk, rfl, hb, hC⟩ := hrel
            by_cases hltk : k < l.length
            · have hkc : k < (wSt l t).length := by omega
              obtain ⟨p, off, hAp, _, c2⟩ := HA4.out.below (hC.to_below (B := w2.heap.size) (by simp) (by have := HG.out.size; have := HC3.out.size; omega)) k hltk
              subst hAp
              have c3 : wr.cell? ⟨w2.heap.size, k, none⟩ = some (.int .i64 (wSt l t)[k]) := by
                rw [hb.cell, List.getElem?_map, List.getElem?_eq_getElem (by rw [crN_len hcl]; exact hltk), crN_get hltk hkc]
                rfl
              have f3 : wr.frozen? ⟨w2.heap.size, k, none⟩ = false := hb.free k
              obtain ⟨x0, x1⟩ := H.out.2 _ (List.getElem_mem hltk)
              obtain ⟨y0, y1⟩ := HBd.out _ (List.getElem_mem hkc)
              have hwc : IntKind.i64.wrap ((wSt l t)[k] + l[k]) = (wSt l t)[k] + l[k] := IntWalk.i64_in _ (by omega)
              have hS := hb.set k (.int .i64 ((wSt l t)[k] + l[k]))
              rw [← List.map_set, show l[k] = l.getD k 0 from by simp [hltk], crN_set hkc, show l.getD k 0 = l[k] from by simp [hltk]] at hS
              have HS := Lib.hid hS
              have HC4 := Lib.hid hC
              clear hS hC hb y0 y1 x0 x1
              generalize l[k] = lk at *
              generalize (wSt l t)[k] = ck at *
              go_wp2_with fail
              go_still_tail 12, (by kernel_rfl)
              go_wp2_with fail
              go_roundw
              case rel => exact ⟨k + 1, by omega, by go_num, HS.out, (HC4.out.setCell (by simp) _).drewN _⟩
              case measure => simp [intOf]; omega
            · obtain rfl : k = l.length := by omega
              have hgr := greatestR_any wr (some ⟨w2.heap.size, 0, none⟩) l.length (crN l (wSt l t) l.length) (by rw [crN_len hcl]; omega) (by rw [crN_len hcl]; omega) (NumsA.of_blk hb)
              rw [crN_len hcl] at hgr
              replace hgr : Calls Try.prog 40 #[.slice (some ⟨w2.heap.size, 0, none⟩) l.length l.length] wr fun e w' => e = .returned (.int .i64 (wC l (wSt l t) : Int)) ∧ Chg [] wr w' := hgr
              have hcn := wC_lt H.out (wSt_len l t)
              have hcc : wC l (wSt l t) < (wSt l t).length := by omega
              have hgv : (wAdd l (wSt l t)).getD (wC l (wSt l t)) 0 = (wSt l t)[wC l (wSt l t)] + l[wC l (wSt l t)] := by
                have : (wAdd l (wSt l t))[wC l (wSt l t)]'(by rw [wAdd, addK_len]; exact hcc) = _ := addK_get hcc
                rw [if_pos hcn] at this
                rw [List.getD_eq_getElem?_getD, List.getElem?_eq_getElem (by rw [wAdd, addK_len]; exact hcc), Option.getD_some, this]
                simp [hcn]
              have hgt : (crN l (wSt l t) l.length)[wC l (wSt l t)]? = some ((wAdd l (wSt l t)).getD (wC l (wSt l t)) 0) := by
                rw [crN, List.getElem?_take_of_lt hcn, List.getElem?_eq_getElem (by rw [addK_len]; exact hcc)]
                rw [List.getD_eq_getElem?_getD, wAdd, List.getElem?_eq_getElem (by rw [addK_len]; exact hcc), Option.getD_some]
              have h2 := HBd.out _ (List.getElem_mem hcc)
              have h3 := H.out.2 _ (List.getElem_mem hcn)
              have hgb : -5000000 ≤ (wAdd l (wSt l t)).getD (wC l (wSt l t)) 0 ∧ (wAdd l (wSt l t)).getD (wC l (wSt l t)) 0 ≤ 5000100 := by rw [hgv]; omega
              obtain ⟨s0, s1⟩ := sum_bound (by decide) H.out l.length
              rw [List.take_length, ← HSm.out] at s0 s1
              have hwd : IntKind.i64.wrap ((wAdd l (wSt l t)).getD (wC l (wSt l t)) 0 - sm) = (wAdd l (wSt l t)).getD (wC l (wSt l t)) 0 - sm := IntWalk.i64_in _ (by omega)
              have hnx : (((crN l (wSt l t) l.length).map (Value.int .i64)).set (wC l (wSt l t)) (.int .i64 ((wAdd l (wSt l t)).getD (wC l (wSt l t)) 0 - sm))) = ((wSt l (t + 1)).take l.length).map (Value.int .i64) := by
                rw [← List.map_set, HSm.out, ← wNext_take]; rfl
              have hcell : ((crN l (wSt l t) l.length).map (Value.int .i64))[wC l (wSt l t)]? = some (.int .i64 ((wAdd l (wSt l t)).getD (wC l (wSt l t)) 0)) := by rw [List.getElem?_map, hgt]; rfl
              have HG2 := Lib.hid hgr
              have HN := Lib.hid hnx
              have HCell := Lib.hid hcell
              have HB2 := Lib.hid hb
              have HC4 := Lib.hid (HC3.out.trans hC)
              have HO2 := Lib.hid (ownsRow_chg HO1.out hC (fun q hq hm => by have := (HO1.out.lt q (by simpa using hq)).1; simp at hm; omega))
              have HOS := Lib.hid (outs_succ (fun t => ((wC l (wSt l t) : Nat) : Int)) t)
              have hcn' : ((wC l (wSt l t) : Nat) : Int) < l.length := by omega
              clear hgr hgv hgt h2 h3 hgb s0 s1 hnx hcell hb hC HC3 HO1 HB1 HA4
              generalize (wAdd l (wSt l t)).getD (wC l (wSt l t)) 0 = ac at *
              generalize wC l (wSt l t) = c at *
              go_wp2_with fail
              refine HG2.out.mono ?_
              rintro e w5 ⟨rfl, hC5⟩
              have hb5 := hC5.blk HB2.out (by simp)
              have c1 : w5.cell? ⟨w2.heap.size, c, none⟩ = some (.int .i64 ac) := by rw [hb5.cell]; exact HCell.out
              have f1 : w5.frozen? ⟨w2.heap.size, c, none⟩ = false := hb5.free c
              have hb6 := hb5.set c (.int .i64 (ac - sm))
              rw [HN.out] at hb6
              have HB6 := Lib.hid hb6
              have HC6 := Lib.hid (HC4.out.trans' hC5 (by simp))
              have HO6 := Lib.hid (ownsRow_chg (ownsRow_chg HO2.out hC5 (by simp)) ((Chg.refl [w2.heap.size] w5).setCell (p := ⟨w2.heap.size, c, none⟩) (by simp) (.int .i64 (ac - sm))) (fun q hq hm => by have := (HO2.out.lt q (by simpa using hq)).1; simp at hm; omega))
              have hsz5 : w3.heap.size ≤ w5.heap.size := Nat.le_trans HC4.out.size hC5.size
              clear hb6 hC5 hb5 HB2 HG2
              go_wp2_with (first
                | (at_builtin; refine wpList_append_own_at _ rfl (.tmp 75) (.tmp 77) 23 rfl (w3.heap.size) 3 i0 (.int .i64 0) 1 8 Try.underlying23 hi hz0 hz1 hz2 rfl (by decide) _ _ _ rfl (HO6.out.alloc _) ⟨w5.heap.size, 0, none⟩ 1 1 [.int .i64 (c : Int)] rfl rfl (cells_at (by simp) [.int .i64 (c : Int)] _) (by simp [Value.oneCell']) (by unfold maxLen; omega) (by omega) (by first | omega | (simp; omega) | simp) ?_; intro va7 wa7 hown1 hgrow1 _ hblk1; have hsz7 := hgrow1.size; have HO7 := Lib.hid hown1; have HG7 := Lib.hid hgrow1; have HB7 := Lib.hid hblk1; clear hown1 hgrow1 hblk1))
              go_roundw
              case rel =>
                refine ⟨t + 1, by omega, by go_num, ?_, ?_, ?_⟩
                · rw [HOS.out, List.map_append]; exact HO7.out
                · exact (HB6.out.alloc _).grew (HO6.out.alloc _) HG7.out hgl
                · exact ((HC6.out.setCell (by simp) _).alloc _).grew (HO6.out.alloc _) HG7.out (fun k h1 h2 => by omega)
              case measure => simp [intOf]; omega
        · obtain rfl : t = M := by omega
          have HO1 := Lib.hid ho
          have hsz : W.heap.size ≤ w3.heap.size := by have := HC2.out.size; have := HG.out.size; omega
          have HC3 := Lib.hid ((HC2.out.trans HG.out).trans' hC (fun x hx hl => by simp at hx; subst hx; have := HC2.out.size; omega))
          clear ho hC hb HO HG
          go_wp2_with fail
          go_ret2
          exact ⟨_, rfl, by rw [outs_len]; exact ownsRow_base HO1.out hsz, HC3.out⟩

end Go.Proofs.Ytagfalnfjiodcaa
