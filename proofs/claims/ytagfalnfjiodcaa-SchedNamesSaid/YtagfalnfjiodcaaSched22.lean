/- The document's Seeds. -/
import Derived.Test.YtagfalnfjiodcaaSched21
namespace Go.Proofs.Ytagfalnfjiodcaa
open Go.RowKit

theorem rowApart {w w' : World} {base : Nat} {e : TypeId} {size : Nat} {v u u' : Value} {n : Nat} {xs : List Value} (h : w.ownsRow base e size v n xs) (ha : Apart u.ownBlock.toList v.ownBlock.toList) (hu : u'.ownBlock = u.ownBlock ∨ u'.ownBlock = some w.heap.size) (g : w.grownBy w' u.ownBlock) :
    w'.ownsRow base e size v n xs ∧ Apart u'.ownBlock.toList v.ownBlock.toList := by
  refine ⟨ownsRow_chg h (Chg.of_grown g) (fun x hx hy => ha x hy hx), ?_⟩
  rcases hu with e | e
  · rw [e]; exact ha
  · rw [e]
    intro x hx hy
    have h1 := ownsRow_lt h x hy
    simp at hx
    omega

theorem take_zeros {n : Nat} (h4 : n ≤ 4) : ([0, 0, 0, 0] : IL).take n = List.replicate n 0 := by
  match n, h4 with
  | 0, _ => rfl
  | 1, _ => rfl
  | 2, _ => rfl
  | 3, _ => rfl
  | 4, _ => rfl

def SRel (W : World) (n : Nat) (x0 : Int) (M : Nat) (xv vw vo i : Value) (wr : World) : Prop := ∃ t : Nat, t ≤ M ∧ i = .int .i64 t ∧ xv = .int .u64 (sX x0 t) ∧ wr.ownsRow W.heap.size 3 1 vw n (((sSt n x0 t).take n).map (Value.int .i64)) ∧ wr.ownsRow W.heap.size 3 1 vo t ((outs (fun t => ((sC n (sX x0 (t + 1)) (sSt n x0 t) : Nat) : Int)) t).map (Value.int .i64)) ∧ Apart vo.ownBlock.toList vw.ownBlock.toList ∧ Chg [] W wr

set_option maxRecDepth 100000 in
set_option maxHeartbeats 4000000 in
theorem SeedsR_okN (W : World) (n M : Nat) (x x0 : Int) (h1 : 1 ≤ n) (h4 : n ≤ 4) (hM : M ≤ 10000) (hx00 : 0 ≤ x0) (hx01 : x0 < 18446744073709551616) (hxx : (x = 0 ∧ x0 = 1) ∨ (1 ≤ x ∧ x0 = x)) :
    Calls Try.prog 16 #[.int .i64 (n : Int), .int .u64 x, .int .i64 (M : Int)] W (SPost W (outs (fun t => ((sC n (sX x0 (t + 1)) (sSt n x0 t) : Nat) : Int)) M) 0) := by
  obtain ⟨i0, hi, hz0, hz1, hz2⟩ := info_parts infoI64
  have hn1 : (1 : Int) ≤ n := by omega
  have hn4 : (n : Int) ≤ 4 := by omega
  have hMay := May_any W n M
  rw [show mayN (n : Int) M = 0 from by unfold mayN; rw [if_neg (by omega), if_neg (by omega)]] at hMay
  have HM := Lib.hid hMay
  clear hMay
  have hwn : IntKind.u64.wrap (n : Int) = n := by rw [show IntKind.u64.wrap (n : Int) = (n : Int) % 18446744073709551616 from by simp [IntKind.wrap, IntKind.signed, IntKind.bits]]; omega
  rcases hxx with ⟨rfl, hxe⟩ | ⟨hx1, rfl⟩
  · have HX0 := Lib.hid hxe
    clear hxe
    go_enter Try.func16, Try.ntmps16
    go_wp2_with fail
    refine HM.out.mono ?_
    rintro e w' ⟨rfl, rfl⟩
    go_wp2_with (first
      | (at_make; refine wpList_make_full _ rfl _ _ 23 rfl W.heap.size 3 i0 (.int .i64 0) 1 Try.underlying23 hi hz0 hz1 .i64 .i64 _ _ n rfl rfl rfl rfl (by rw [hz2]; omega) (by unfold maxLen; omega) (Nat.le_refl _) ?_; intro w1 hown hgrow; have HO := Lib.hid hown; have HG := Lib.hid (Chg.of_grown hgrow); clear hown hgrow))
    go_loopw [9, 10, 11, 12] (fun xv vw vo i wr => SRel W n x0 M xv vw vo i wr) (fun _ _ _ i _ => M - (intOf i).toNat)
    case atStart =>
      refine ⟨0, Nat.zero_le _, rfl, by rw [HX0.out]; rfl, ?_, World.ownsRow_nil _ _ _ _, Apart.nil_left _, HG.out⟩
      have := HO.out
      rw [made_zero] at this
      rw [sSt, take_zeros h4]
      exact this
    case round =>
      obtain ⟨t, ht, rfl, rfl, hw, ho, ha, hC⟩ := hrel
      by_cases hlt : t < M
      · have hlen : ((sSt n x0 t).take n).length = n := by rw [List.length_take, sSt_len]; omega
        obtain ⟨A, cap, rfl, _, hA⟩ := NumsA.of_row (l := (sSt n x0 t).take n) (by rw [hlen]; exact hw)
        rw [hlen]
        have hbd : ∀ y ∈ (sSt n x0 t).take n, 0 ≤ y ∧ y ≤ 1000000 := fun y hy => by have := sSt_bound n x0 t y (List.mem_of_mem_take hy); omega
        have hXi := sX_in hx00 hx01 (t + 1)
        have hgr := greatestR_any _ A cap ((sSt n x0 t).take n) (by omega) (by omega) hA
        rw [hlen] at hgr
        have hgl : gI ((sSt n x0 t).take n) < n := by have := (gI_spec (l := (sSt n x0 t).take n) (by omega)).1; omega
        have hy : ∀ hh : gI ((sSt n x0 t).take n) < ((sSt n x0 t).take n).length, ((sSt n x0 t).take n)[gI ((sSt n x0 t).take n)]'hh = (sSt n x0 t).getD (gI ((sSt n x0 t).take n)) 0 := by intro hh; rw [List.getElem_take]; simp [show gI ((sSt n x0 t).take n) < (sSt n x0 t).length from by rw [sSt_len]; omega]
        have hCd : ((sSt n x0 t).getD (gI ((sSt n x0 t).take n)) 0 < 3 * (n : Int) ∧ (sC n (sX x0 (t + 1)) (sSt n x0 t) : Int) = sX x0 (t + 1) % n) ∨ (¬ (sSt n x0 t).getD (gI ((sSt n x0 t).take n)) 0 < 3 * (n : Int) ∧ (sC n (sX x0 (t + 1)) (sSt n x0 t) : Int) = (gI ((sSt n x0 t).take n) : Nat)) := by
          unfold sC
          split
          · rename_i h
            exact .inl ⟨h, by rw [Int.toNat_of_nonneg (Int.emod_nonneg _ (by omega))]⟩
          · rename_i h
            exact .inr ⟨h, rfl⟩
        have HL := Lib.hid hlen
        have HA := Lib.hid hA
        have HBd := Lib.hid hbd
        have HXi := Lib.hid hXi
        have HGr := Lib.hid hgr
        have HY := Lib.hid hy
        have HCd := Lib.hid hCd
        have HO1 := Lib.hid ho
        have HC1 := Lib.hid hC
        clear hlen hA hbd hXi hgr hy hCd ho hC hw ha HO
        go_wp2_with fail
        obtain ⟨z3, hz3⟩ : ∃ z, z = bits .xor .u64 (bits .xor .u64 (sX x0 t) (sX x0 t / 4096)) (IntKind.u64.wrap (bits .xor .u64 (sX x0 t) (sX x0 t / 4096) * 33554432)) := ⟨_, rfl⟩
        rw [← hz3]
        obtain ⟨z4, hz4⟩ : ∃ z, z = bits .xor .u64 z3 (z3 / 134217728) := ⟨_, rfl⟩
        rw [← hz4]
        have hXE : sX x0 (t + 1) = z4 := by rw [hz4, hz3]; rfl
        obtain ⟨z5, hz5⟩ : ∃ z, z = z3 / 134217728 := ⟨_, rfl⟩
        rw [← hz5]
        clear hz3 hz4 hz5
        obtain ⟨z1, hzz1⟩ : ∃ z, z = bits .xor .u64 (sX x0 t) (sX x0 t / 4096) := ⟨_, rfl⟩
        rw [← hzz1]
        obtain ⟨z2, hzz2⟩ : ∃ z, z = IntKind.u64.wrap (z1 * 33554432) := ⟨_, rfl⟩
        rw [← hzz2]
        obtain ⟨z0, hzz0⟩ : ∃ z, z = sX x0 t / 4096 := ⟨_, rfl⟩
        rw [← hzz0]
        clear hzz0 hzz1 hzz2
        have HXE := Lib.hid hXE
        refine HGr.out.mono ?_
        clear HGr
        rintro e w2 ⟨rfl, hC2⟩
        have HA2 := Lib.hid (HA.out.chg hC2)
        have HO2 := Lib.hid (ownsRow_chg HO1.out hC2 (by simp))
        have HC2 := Lib.hid (HC1.out.trans hC2)
        clear hC2 HO1 HC1 HA
        obtain ⟨b, off, rfl, _, d0⟩ := HA2.out _ (by rw [HL.out]; exact hgl)
        rw [HY.out] at d0
        obtain ⟨hX0, hX1⟩ := HXi.out
        have hcd := HCd.out
        rw [hXE] at hX0 hX1 hcd
        have hgl' : ((gI ((sSt n x0 t).take n) : Nat) : Int) < n := by omega
        generalize (sSt n x0 t).getD (gI ((sSt n x0 t).take n)) 0 = y at *
        generalize gI ((sSt n x0 t).take n) = g at *
        rcases hcd with ⟨hlt3, he⟩ | ⟨hlt3, he⟩
        · have hm0 : 0 ≤ z4 % (n : Int) := Int.emod_nonneg _ (by omega)
          have hm1 : z4 % (n : Int) < n := Int.emod_lt_of_pos _ (by omega)
          have hwz : IntKind.i64.wrap (z4 % (n : Int)) = z4 % (n : Int) := IntWalk.i64_in _ (by omega)
          have HE := Lib.hid (show ((sC n (sX x0 (t + 1)) (sSt n x0 t) : Nat) : Int) = z4 % (n : Int) from by rw [hXE]; exact he)
          clear he hXE
          go_wp2_with fail
          have hon := onR_any w2 (some ⟨b, off, none⟩) cap ((sSt n x0 t).take n) (sC n (sX x0 (t + 1)) (sSt n x0 t)) (by rw [HL.out]; omega) HBd.out HA2.out
          rw [HE.out, HL.out] at hon
          refine hon.mono ?_
          clear hon
          rintro e w3 ⟨vw', rfl, hv, hC⟩
          have hOc := ownsRow_chg HO2.out hC (by simp)
          have hap : Apart u11.ownBlock.toList vw'.ownBlock.toList := fun g hg hg2 => by
            have h1 := ownsRow_lt HO2.out g hg
            have h2 := (hv.lt g (by simpa using hg2)).1
            omega
          rw [onL_len, HL.out, ← onL_take] at hv
          have HV := Lib.hid hv
          have HO3 := Lib.hid hOc
          have HAP := Lib.hid hap
          have HC3 := Lib.hid (HC2.out.trans hC)
          have hs3 := HC3.out.size
          clear hv hOc hap hC
          go_wp2_with (first
            | (at_builtin; refine wpList_append_own_at _ rfl (.tmp 59) (.tmp 61) 23 rfl W.heap.size 3 i0 (.int .i64 0) 1 8 Try.underlying23 hi hz0 hz1 hz2 rfl (by decide) _ _ _ rfl (HO3.out.alloc _) ⟨w3.heap.size, 0, none⟩ 1 1 [.int .i64 (z4 % (n : Int))] rfl rfl (cell_one_new _ _ _) (by simp [Value.oneCell']) (by unfold maxLen; omega) (by omega) (by simp; omega) ?_; intro va wa hown1 hgrow1 _ hblk; obtain ⟨hq1, hq2⟩ := rowApart (HV.out.alloc _) HAP.out hblk hgrow1; have HO4 := Lib.hid hown1; have HG4 := Lib.hid hgrow1; have HV4 := Lib.hid hq1; have HAP4 := Lib.hid hq2; clear hown1 hgrow1 hblk hq1 hq2))
          go_roundw
          case rel =>
            refine ⟨t + 1, by omega, by go_num, by rw [HXE.out], ownsRow_base HV4.out (by have := HC2.out.size; omega), ?_, HAP4.out, (HC3.out.alloc (.cells #[.int .i64 (z4 % (n : Int))] 3)).grown HG4.out (fun q e hl => by have := (HO3.out.lt q e).1; omega)⟩
            rw [outs_succ, List.map_append]
            show wa.ownsRow _ _ _ _ _ (_ ++ [Value.int .i64 ((sC n (sX x0 (t + 1)) (sSt n x0 t) : Nat) : Int)])
            rw [HE.out]
            exact HO4.out
          case measure => simp [intOf]; omega
        · have HE := Lib.hid (show ((sC n (sX x0 (t + 1)) (sSt n x0 t) : Nat) : Int) = (g : Int) from by rw [hXE]; exact he)
          clear he hXE
          go_wp2_with fail
          have hon := onR_any w2 (some ⟨b, off, none⟩) cap ((sSt n x0 t).take n) (sC n (sX x0 (t + 1)) (sSt n x0 t)) (by rw [HL.out]; omega) HBd.out HA2.out
          rw [HE.out, HL.out] at hon
          refine hon.mono ?_
          clear hon
          rintro e w3 ⟨vw', rfl, hv, hC⟩
          have hOc := ownsRow_chg HO2.out hC (by simp)
          have hap : Apart u11.ownBlock.toList vw'.ownBlock.toList := fun g hg hg2 => by
            have h1 := ownsRow_lt HO2.out g hg
            have h2 := (hv.lt g (by simpa using hg2)).1
            omega
          rw [onL_len, HL.out, ← onL_take] at hv
          have HV := Lib.hid hv
          have HO3 := Lib.hid hOc
          have HAP := Lib.hid hap
          have HC3 := Lib.hid (HC2.out.trans hC)
          have hs3 := HC3.out.size
          clear hv hOc hap hC
          go_wp2_with (first
            | (at_builtin; refine wpList_append_own_at _ rfl (.tmp 59) (.tmp 61) 23 rfl W.heap.size 3 i0 (.int .i64 0) 1 8 Try.underlying23 hi hz0 hz1 hz2 rfl (by decide) _ _ _ rfl (HO3.out.alloc _) ⟨w3.heap.size, 0, none⟩ 1 1 [.int .i64 (g : Int)] rfl rfl (cell_one_new _ _ _) (by simp [Value.oneCell']) (by unfold maxLen; omega) (by omega) (by simp; omega) ?_; intro va wa hown1 hgrow1 _ hblk; obtain ⟨hq1, hq2⟩ := rowApart (HV.out.alloc _) HAP.out hblk hgrow1; have HO4 := Lib.hid hown1; have HG4 := Lib.hid hgrow1; have HV4 := Lib.hid hq1; have HAP4 := Lib.hid hq2; clear hown1 hgrow1 hblk hq1 hq2))
          go_roundw
          case rel =>
            refine ⟨t + 1, by omega, by go_num, by rw [HXE.out], ownsRow_base HV4.out (by have := HC2.out.size; omega), ?_, HAP4.out, (HC3.out.alloc (.cells #[.int .i64 (g : Int)] 3)).grown HG4.out (fun q e hl => by have := (HO3.out.lt q e).1; omega)⟩
            rw [outs_succ, List.map_append]
            show wa.ownsRow _ _ _ _ _ (_ ++ [Value.int .i64 ((sC n (sX x0 (t + 1)) (sSt n x0 t) : Nat) : Int)])
            rw [HE.out]
            exact HO4.out
          case measure => simp [intOf]; omega
      · obtain rfl : t = M := by omega
        have HO1 := Lib.hid ho
        have HC1 := Lib.hid hC
        clear ho hC hw ha HO
        go_wp2_with fail
        go_ret2
        exact ⟨_, rfl, by rw [outs_len]; exact HO1.out, HC1.out⟩
  · go_enter Try.func16, Try.ntmps16
    go_wp2_with fail
    refine HM.out.mono ?_
    rintro e w' ⟨rfl, rfl⟩
    go_wp2_with (first
      | (at_make; refine wpList_make_full _ rfl _ _ 23 rfl W.heap.size 3 i0 (.int .i64 0) 1 Try.underlying23 hi hz0 hz1 .i64 .i64 _ _ n rfl rfl rfl rfl (by rw [hz2]; omega) (by unfold maxLen; omega) (Nat.le_refl _) ?_; intro w1 hown hgrow; have HO := Lib.hid hown; have HG := Lib.hid (Chg.of_grown hgrow); clear hown hgrow))
    go_loopw [9, 10, 11, 12] (fun xv vw vo i wr => SRel W n x0 M xv vw vo i wr) (fun _ _ _ i _ => M - (intOf i).toNat)
    case atStart =>
      refine ⟨0, Nat.zero_le _, rfl, rfl, ?_, World.ownsRow_nil _ _ _ _, Apart.nil_left _, HG.out⟩
      have := HO.out
      rw [made_zero] at this
      rw [sSt, take_zeros h4]
      exact this
    case round =>
      obtain ⟨t, ht, rfl, rfl, hw, ho, ha, hC⟩ := hrel
      by_cases hlt : t < M
      · have hlen : ((sSt n x0 t).take n).length = n := by rw [List.length_take, sSt_len]; omega
        obtain ⟨A, cap, rfl, _, hA⟩ := NumsA.of_row (l := (sSt n x0 t).take n) (by rw [hlen]; exact hw)
        rw [hlen]
        have hbd : ∀ y ∈ (sSt n x0 t).take n, 0 ≤ y ∧ y ≤ 1000000 := fun y hy => by have := sSt_bound n x0 t y (List.mem_of_mem_take hy); omega
        have hXi := sX_in hx00 hx01 (t + 1)
        have hgr := greatestR_any _ A cap ((sSt n x0 t).take n) (by omega) (by omega) hA
        rw [hlen] at hgr
        have hgl : gI ((sSt n x0 t).take n) < n := by have := (gI_spec (l := (sSt n x0 t).take n) (by omega)).1; omega
        have hy : ∀ hh : gI ((sSt n x0 t).take n) < ((sSt n x0 t).take n).length, ((sSt n x0 t).take n)[gI ((sSt n x0 t).take n)]'hh = (sSt n x0 t).getD (gI ((sSt n x0 t).take n)) 0 := by intro hh; rw [List.getElem_take]; simp [show gI ((sSt n x0 t).take n) < (sSt n x0 t).length from by rw [sSt_len]; omega]
        have hCd : ((sSt n x0 t).getD (gI ((sSt n x0 t).take n)) 0 < 3 * (n : Int) ∧ (sC n (sX x0 (t + 1)) (sSt n x0 t) : Int) = sX x0 (t + 1) % n) ∨ (¬ (sSt n x0 t).getD (gI ((sSt n x0 t).take n)) 0 < 3 * (n : Int) ∧ (sC n (sX x0 (t + 1)) (sSt n x0 t) : Int) = (gI ((sSt n x0 t).take n) : Nat)) := by
          unfold sC
          split
          · rename_i h
            exact .inl ⟨h, by rw [Int.toNat_of_nonneg (Int.emod_nonneg _ (by omega))]⟩
          · rename_i h
            exact .inr ⟨h, rfl⟩
        have HL := Lib.hid hlen
        have HA := Lib.hid hA
        have HBd := Lib.hid hbd
        have HXi := Lib.hid hXi
        have HGr := Lib.hid hgr
        have HY := Lib.hid hy
        have HCd := Lib.hid hCd
        have HO1 := Lib.hid ho
        have HC1 := Lib.hid hC
        clear hlen hA hbd hXi hgr hy hCd ho hC hw ha HO
        go_wp2_with fail
        obtain ⟨z3, hz3⟩ : ∃ z, z = bits .xor .u64 (bits .xor .u64 (sX x0 t) (sX x0 t / 4096)) (IntKind.u64.wrap (bits .xor .u64 (sX x0 t) (sX x0 t / 4096) * 33554432)) := ⟨_, rfl⟩
        rw [← hz3]
        obtain ⟨z4, hz4⟩ : ∃ z, z = bits .xor .u64 z3 (z3 / 134217728) := ⟨_, rfl⟩
        rw [← hz4]
        have hXE : sX x0 (t + 1) = z4 := by rw [hz4, hz3]; rfl
        obtain ⟨z5, hz5⟩ : ∃ z, z = z3 / 134217728 := ⟨_, rfl⟩
        rw [← hz5]
        clear hz3 hz4 hz5
        obtain ⟨z1, hzz1⟩ : ∃ z, z = bits .xor .u64 (sX x0 t) (sX x0 t / 4096) := ⟨_, rfl⟩
        rw [← hzz1]
        obtain ⟨z2, hzz2⟩ : ∃ z, z = IntKind.u64.wrap (z1 * 33554432) := ⟨_, rfl⟩
        rw [← hzz2]
        obtain ⟨z0, hzz0⟩ : ∃ z, z = sX x0 t / 4096 := ⟨_, rfl⟩
        rw [← hzz0]
        clear hzz0 hzz1 hzz2
        have HXE := Lib.hid hXE
        refine HGr.out.mono ?_
        clear HGr
        rintro e w2 ⟨rfl, hC2⟩
        have HA2 := Lib.hid (HA.out.chg hC2)
        have HO2 := Lib.hid (ownsRow_chg HO1.out hC2 (by simp))
        have HC2 := Lib.hid (HC1.out.trans hC2)
        clear hC2 HO1 HC1 HA
        obtain ⟨b, off, rfl, _, d0⟩ := HA2.out _ (by rw [HL.out]; exact hgl)
        rw [HY.out] at d0
        obtain ⟨hX0, hX1⟩ := HXi.out
        have hcd := HCd.out
        rw [hXE] at hX0 hX1 hcd
        have hgl' : ((gI ((sSt n x0 t).take n) : Nat) : Int) < n := by omega
        generalize (sSt n x0 t).getD (gI ((sSt n x0 t).take n)) 0 = y at *
        generalize gI ((sSt n x0 t).take n) = g at *
        rcases hcd with ⟨hlt3, he⟩ | ⟨hlt3, he⟩
        · have hm0 : 0 ≤ z4 % (n : Int) := Int.emod_nonneg _ (by omega)
          have hm1 : z4 % (n : Int) < n := Int.emod_lt_of_pos _ (by omega)
          have hwz : IntKind.i64.wrap (z4 % (n : Int)) = z4 % (n : Int) := IntWalk.i64_in _ (by omega)
          have HE := Lib.hid (show ((sC n (sX x0 (t + 1)) (sSt n x0 t) : Nat) : Int) = z4 % (n : Int) from by rw [hXE]; exact he)
          clear he hXE
          go_wp2_with fail
          have hon := onR_any w2 (some ⟨b, off, none⟩) cap ((sSt n x0 t).take n) (sC n (sX x0 (t + 1)) (sSt n x0 t)) (by rw [HL.out]; omega) HBd.out HA2.out
          rw [HE.out, HL.out] at hon
          refine hon.mono ?_
          clear hon
          rintro e w3 ⟨vw', rfl, hv, hC⟩
          have hOc := ownsRow_chg HO2.out hC (by simp)
          have hap : Apart u11.ownBlock.toList vw'.ownBlock.toList := fun g hg hg2 => by
            have h1 := ownsRow_lt HO2.out g hg
            have h2 := (hv.lt g (by simpa using hg2)).1
            omega
          rw [onL_len, HL.out, ← onL_take] at hv
          have HV := Lib.hid hv
          have HO3 := Lib.hid hOc
          have HAP := Lib.hid hap
          have HC3 := Lib.hid (HC2.out.trans hC)
          have hs3 := HC3.out.size
          clear hv hOc hap hC
          go_wp2_with (first
            | (at_builtin; refine wpList_append_own_at _ rfl (.tmp 59) (.tmp 61) 23 rfl W.heap.size 3 i0 (.int .i64 0) 1 8 Try.underlying23 hi hz0 hz1 hz2 rfl (by decide) _ _ _ rfl (HO3.out.alloc _) ⟨w3.heap.size, 0, none⟩ 1 1 [.int .i64 (z4 % (n : Int))] rfl rfl (cell_one_new _ _ _) (by simp [Value.oneCell']) (by unfold maxLen; omega) (by omega) (by simp; omega) ?_; intro va wa hown1 hgrow1 _ hblk; obtain ⟨hq1, hq2⟩ := rowApart (HV.out.alloc _) HAP.out hblk hgrow1; have HO4 := Lib.hid hown1; have HG4 := Lib.hid hgrow1; have HV4 := Lib.hid hq1; have HAP4 := Lib.hid hq2; clear hown1 hgrow1 hblk hq1 hq2))
          go_roundw
          case rel =>
            refine ⟨t + 1, by omega, by go_num, by rw [HXE.out], ownsRow_base HV4.out (by have := HC2.out.size; omega), ?_, HAP4.out, (HC3.out.alloc (.cells #[.int .i64 (z4 % (n : Int))] 3)).grown HG4.out (fun q e hl => by have := (HO3.out.lt q e).1; omega)⟩
            rw [outs_succ, List.map_append]
            show wa.ownsRow _ _ _ _ _ (_ ++ [Value.int .i64 ((sC n (sX x0 (t + 1)) (sSt n x0 t) : Nat) : Int)])
            rw [HE.out]
            exact HO4.out
          case measure => simp [intOf]; omega
        · have HE := Lib.hid (show ((sC n (sX x0 (t + 1)) (sSt n x0 t) : Nat) : Int) = (g : Int) from by rw [hXE]; exact he)
          clear he hXE
          go_wp2_with fail
          have hon := onR_any w2 (some ⟨b, off, none⟩) cap ((sSt n x0 t).take n) (sC n (sX x0 (t + 1)) (sSt n x0 t)) (by rw [HL.out]; omega) HBd.out HA2.out
          rw [HE.out, HL.out] at hon
          refine hon.mono ?_
          clear hon
          rintro e w3 ⟨vw', rfl, hv, hC⟩
          have hOc := ownsRow_chg HO2.out hC (by simp)
          have hap : Apart u11.ownBlock.toList vw'.ownBlock.toList := fun g hg hg2 => by
            have h1 := ownsRow_lt HO2.out g hg
            have h2 := (hv.lt g (by simpa using hg2)).1
            omega
          rw [onL_len, HL.out, ← onL_take] at hv
          have HV := Lib.hid hv
          have HO3 := Lib.hid hOc
          have HAP := Lib.hid hap
          have HC3 := Lib.hid (HC2.out.trans hC)
          have hs3 := HC3.out.size
          clear hv hOc hap hC
          go_wp2_with (first
            | (at_builtin; refine wpList_append_own_at _ rfl (.tmp 59) (.tmp 61) 23 rfl W.heap.size 3 i0 (.int .i64 0) 1 8 Try.underlying23 hi hz0 hz1 hz2 rfl (by decide) _ _ _ rfl (HO3.out.alloc _) ⟨w3.heap.size, 0, none⟩ 1 1 [.int .i64 (g : Int)] rfl rfl (cell_one_new _ _ _) (by simp [Value.oneCell']) (by unfold maxLen; omega) (by omega) (by simp; omega) ?_; intro va wa hown1 hgrow1 _ hblk; obtain ⟨hq1, hq2⟩ := rowApart (HV.out.alloc _) HAP.out hblk hgrow1; have HO4 := Lib.hid hown1; have HG4 := Lib.hid hgrow1; have HV4 := Lib.hid hq1; have HAP4 := Lib.hid hq2; clear hown1 hgrow1 hblk hq1 hq2))
          go_roundw
          case rel =>
            refine ⟨t + 1, by omega, by go_num, by rw [HXE.out], ownsRow_base HV4.out (by have := HC2.out.size; omega), ?_, HAP4.out, (HC3.out.alloc (.cells #[.int .i64 (g : Int)] 3)).grown HG4.out (fun q e hl => by have := (HO3.out.lt q e).1; omega)⟩
            rw [outs_succ, List.map_append]
            show wa.ownsRow _ _ _ _ _ (_ ++ [Value.int .i64 ((sC n (sX x0 (t + 1)) (sSt n x0 t) : Nat) : Int)])
            rw [HE.out]
            exact HO4.out
          case measure => simp [intOf]; omega
      · obtain rfl : t = M := by omega
        have HO1 := Lib.hid ho
        have HC1 := Lib.hid hC
        clear ho hC hw ha HO
        go_wp2_with fail
        go_ret2
        exact ⟨_, rfl, by rw [outs_len]; exact HO1.out, HC1.out⟩

end Go.Proofs.Ytagfalnfjiodcaa
