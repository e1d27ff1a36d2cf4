/- SchedEven. -/
import Derived.Test.YtagfalnfjiodcaaSched11
import Derived.Test.YtagfalnfjiodcaaSchedM1
import Derived.Test.YtagfalnfjiodcaaSep
namespace Go.Proofs.Ytagfalnfjiodcaa
open Go.RowKit

theorem rowApart {w w' : World} {base : Nat} {e : TypeId} {size : Nat} {v u u' : Value} {n : Nat} {xs : List Value} (h : w.ownsRow base e size v n xs) (ha : Apart u.ownBlock.toList v.ownBlock.toList) (hu : u'.ownBlock = u.ownBlock ∨ u'.ownBlock = some w.heap.size) (g : w.grownBy w' u.ownBlock) :
    w'.ownsRow base e size v n xs ∧ Apart u'.ownBlock.toList v.ownBlock.toList := by
  refine ⟨ownsRow_chg h (Chg.of_grown g) (fun x hx hy => ha x hy hx), ?_⟩
  rcases hu with e | e
  · rw [e]; exact ha
  · rw [e]
    intro x hx hy
    have h1 := ownsRow_lt h x hy
    simp at hx
    omega

def EvI (W0 : World) (k : Nat) (a b : Int) (vw vp i : Value) (wr : World) : Prop := ∃ j : Nat, j ≤ k ∧ i = .int .i64 j ∧ wr.ownsRow W0.heap.size 3 1 vw j ((List.replicate j a).map (Value.int .i64)) ∧ wr.ownsRow W0.heap.size 3 1 vp j ((List.replicate j b).map (Value.int .i64)) ∧ Apart vw.ownBlock.toList vp.ownBlock.toList ∧ Chg [] W0 wr

set_option maxRecDepth 100000 in
set_option maxHeartbeats 4000000 in
theorem SchedEven_any (W : World) (x0 x1 x2 t : Int) (h0 : 0 ≤ x0 ∧ x0 ≤ 255) (h1 : 0 ≤ x1 ∧ x1 ≤ 255) (h2 : 0 ≤ x2 ∧ x2 ≤ 255) (ht : 0 ≤ t ∧ t ≤ 65535) :
    Calls Try.prog 6 #[.agg #[.int .u8 x0, .int .u8 x1, .int .u8 x2], .int .u16 t] W (StaysPost W) := by
  obtain ⟨i0, hi, hz0, hz1, hz2⟩ := info_parts infoI64
  obtain ⟨h00, h01⟩ := h0
  obtain ⟨h10, h11⟩ := h1
  obtain ⟨h20, h21⟩ := h2
  obtain ⟨ht0, ht1⟩ := ht
  have hB := Blk.new W [.int .u8 x0, .int .u8 x1, .int .u8 x2] 48
  have HB := Lib.hid hB
  clear hB
  go_enter Try.func6, Try.ntmps6
  go_wp2_with fail
  refine (alive_any _).mono ?_
  rintro e w1 ⟨rfl, hC⟩
  have hB1 := hC.blk HB.out (by simp)
  have k0 : w1.cell? ⟨W.heap.size, 0, none⟩ = some (.int .u8 x0) := hB1.cell 0
  have k1 : w1.cell? ⟨W.heap.size, 1, none⟩ = some (.int .u8 x1) := hB1.cell 1
  have k2 : w1.cell? ⟨W.heap.size, 2, none⟩ = some (.int .u8 x2) := hB1.cell 2
  have HC1 := Lib.hid (((Chg.refl [] W).alloc _).trans hC)
  clear hC hB1
  go_wp2_with fail
  go_quiet (fail)
  go_wp2_with fail
  obtain ⟨k, hk⟩ : ∃ k : Nat, 1 + x0 % 4 = k := ⟨(1 + x0 % 4).toNat, by omega⟩
  have hk1 : 1 ≤ k := by omega
  have hk4 : k ≤ 4 := by omega
  obtain ⟨n, hn⟩ : ∃ n : Nat, t % 1001 = n := ⟨(t % 1001).toNat, by omega⟩
  have hn1 : n ≤ 1000 := by omega
  rw [hk, hn]
  go_loopw [11, 12, 13] (fun vw vp i wr => EvI w1 k (1 + x1 % 100) (x2 % 101) vw vp i wr) (fun _ _ i _ => k - (intOf i).toNat)
  case atStart => exact ⟨0, Nat.zero_le _, rfl, World.ownsRow_nil _ _ _ _, World.ownsRow_nil _ _ _ _, Apart.nil_left _, (Chg.refl _ _).drewN _⟩
  case round =>
    obtain ⟨j, hj, rfl, hw, hp, ha, hc⟩ := hrel
    by_cases hlt : j < k
    · have HW := Lib.hid hw
      have HP := Lib.hid hp
      have HA := Lib.hid ha
      have HC := Lib.hid hc
      have hs := hc.size
      clear hw hp ha hc
      go_wp2_with (first
        | (at_builtin; refine wpList_append_own_at _ rfl (.tmp 40) (.tmp 45) 23 rfl w1.heap.size 3 i0 (.int .i64 0) 1 8 Try.underlying23 hi hz0 hz1 hz2 rfl (by decide) _ _ _ rfl (HW.out.alloc _) ⟨wr.heap.size, 0, none⟩ 1 1 [.int .i64 (1 + x1 % 100)] rfl rfl (cell_one_new _ _ _) (by simp [Value.oneCell']) (by unfold maxLen; omega) (by omega) (by simp; omega) ?_; intro va wa hown1 hgrow1 _ hblk1; obtain ⟨hpa, haa⟩ := rowApart (HP.out.alloc _) HA.out hblk1 hgrow1; have HO1 := Lib.hid hown1; have HG1 := Lib.hid hgrow1; have HPA := Lib.hid hpa; have HAA := Lib.hid haa; clear hown1 hgrow1 hblk1 hpa haa)
        | (at_builtin; refine wpList_append_own_at _ rfl (.tmp 47) (.tmp 51) 23 rfl w1.heap.size 3 i0 (.int .i64 0) 1 8 Try.underlying23 hi hz0 hz1 hz2 rfl (by decide) _ _ _ rfl (HPA.out.alloc _) ⟨wa.heap.size, 0, none⟩ 1 1 [.int .i64 (x2 % 101)] rfl rfl (cell_one_new _ _ _) (by simp [Value.oneCell']) (by unfold maxLen; omega) (by omega) (by have := HG1.out.size; simp at this ⊢; omega) ?_; intro vb wb hown2 hgrow2 _ hblk2; obtain ⟨hpb, hab⟩ := rowApart (HO1.out.alloc _) HAA.out.symm hblk2 hgrow2; have HO2 := Lib.hid hown2; have HG2 := Lib.hid hgrow2; have HPB := Lib.hid hpb; have HAB := Lib.hid hab; clear hown2 hgrow2 hblk2 hpb hab))
      go_roundw
      case rel =>
        refine ⟨j + 1, by omega, by go_num, ?_, ?_, HAB.out.symm, ?_⟩
        · rw [List.replicate_succ', List.map_append]; exact HPB.out
        · rw [List.replicate_succ', List.map_append]; exact HO2.out
        · have g1 := (HC.out.alloc (.cells #[.int .i64 (1 + x1 % 100)] 3)).grown HG1.out (fun q e hl => by have := (HW.out.lt q e).1; omega)
          exact (g1.alloc _).grown HG2.out (fun q e hl => by have := (HPA.out.lt q e).1; omega)
      case measure => simp [intOf]; omega
    · obtain rfl : j = k := by omega
      obtain ⟨A1, cap1, rfl, _, hA1⟩ := NumsA.of_row (l := List.replicate j (1 + x1 % 100)) (by simpa using hw)
      obtain ⟨A2, cap2, rfl, _, hA2⟩ := NumsA.of_row (l := List.replicate j (x2 % 101)) (by simpa using hp)
      have HN1 := Lib.hid hA1
      have HN2 := Lib.hid hA2
      have HC2 := Lib.hid (HC1.out.trans hc)
      have hwi : Within 1 (List.replicate j (1 + x1 % 100)) := ⟨by simp; omega, fun x hx => by obtain ⟨_, rfl⟩ := List.mem_replicate.1 hx; omega⟩
      have hpi : Within 0 (List.replicate j (x2 % 101)) := ⟨by simp; omega, fun x hx => by obtain ⟨_, rfl⟩ := List.mem_replicate.1 hx; omega⟩
      have HWI := Lib.hid hwi
      have HPI := Lib.hid hpi
      clear hw hp ha hc hA1 hA2 hwi hpi
      simp only [List.length_replicate]
      go_wp2_with fail
      refine (Rounds_ok wr j n hk1 hk4 (by omega)).mono ?_
      intro e w2 h
      obtain ⟨B0, c0, rfl, _, hB0, hC0⟩ := SPost.sn h
      simp only [outs_len]
      have HB0 := Lib.hid hB0
      have HN1' := Lib.hid (HN1.out.chg hC0)
      have HN2' := Lib.hid (HN2.out.chg hC0)
      have HC3 := Lib.hid (HC2.out.trans hC0)
      clear h hB0 hC0 HN1 HN2 HC2
      go_wp2_with fail
      have hcw := Weights_ok w2 A1 cap1 n (List.replicate j (1 + x1 % 100)) HWI.out HN1'.out (by omega)
      rw [List.length_replicate, even_weights hk1 hk4 (by omega)] at hcw
      refine hcw.mono ?_
      clear hcw
      intro e w3 h
      obtain ⟨B1, c1, rfl, _, hB1, hC1⟩ := SPost.sn h
      simp only [outs_len]
      have HB1 := Lib.hid hB1
      have HB0' := Lib.hid (HB0.out.chg hC1)
      have HN2 := Lib.hid (HN2'.out.chg hC1)
      have HC4 := Lib.hid (HC3.out.trans hC1)
      clear h hB1 hC1 HN2' HB0 HC3
      go_wp2_with fail
      have hcp := Ranks_ok w3 A2 cap2 n (List.replicate j (x2 % 101)) HPI.out HN2.out (by omega)
      rw [List.length_replicate, even_ranks hk1 hk4] at hcp
      refine hcp.mono ?_
      clear hcp
      intro e w4 h
      obtain ⟨B2, c2, rfl, _, hB2, hC2⟩ := SPost.sn h
      simp only [outs_len]
      have HR2 := Lib.hid hB2
      have HR1 := Lib.hid (HB1.out.chg hC2)
      have HR0 := Lib.hid (HB0'.out.chg hC2)
      have HC5 := Lib.hid (HC4.out.trans hC2)
      clear h hB2 hC2 HB1 HB0' HC4 HN2 HN1' HWI HPI
      have hno : (outs (fun t => ((t % j : Nat) : Int)) n).length = n := outs_len _ _
      have hget : ∀ i (hi : i < n), (outs (fun t => ((t % j : Nat) : Int)) n)[i]'(by rw [hno]; exact hi) = (i : Int) % (j : Int) := by intro i hi; simp [outs]
      have HGT := Lib.hid hget
      clear hget
      go_wp2_with fail
      go_loopw [101] (fun i wr => ToldRel w4 n i wr) (fun i _ => n - (intOf i).toNat)
      case atStart => exact ⟨0, 0, Nat.zero_le _, rfl, rfl⟩
      case round =>
        obtain ⟨i, q, hi', rfl, rfl⟩ := hrel
        by_cases hlt2 : i < n
        · obtain ⟨b0, o0, rfl, _, d0⟩ := HR0.out i (by rw [hno]; exact hlt2)
          obtain ⟨b1, o1, rfl, _, d1⟩ := HR1.out i (by rw [hno]; exact hlt2)
          obtain ⟨b2, o2, rfl, _, d2⟩ := HR2.out i (by rw [hno]; exact hlt2)
          rw [HGT.out i hlt2] at d0 d1 d2
          have hjp : (0 : Int) < j := by omega
          have hm0 : 0 ≤ (i : Int) % (j : Int) := Int.emod_nonneg _ (by omega)
          have hm1 : (i : Int) % (j : Int) < j := Int.emod_lt_of_pos _ hjp
          go_wp2_with fail
          go_quiet (fail)
          go_wp2_with fail
          go_roundw
          case rel => exact ⟨i + 1, _, by omega, by go_num, rfl⟩
          case measure => simp [intOf]; omega
        · obtain rfl : i = n := by omega
          go_wp2_with fail
          go_ret
          exact ⟨rfl, (HC5.out.drewN q).to_below (by simp) (Nat.le_refl _)⟩

end Go.Proofs.Ytagfalnfjiodcaa
