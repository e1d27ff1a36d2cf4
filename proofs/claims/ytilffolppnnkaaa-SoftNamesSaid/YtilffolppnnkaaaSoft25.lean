/- SoftNames: the chapter's examples. -/
import Derived.Test.YtilffolppnnkaaaSoft24
import Derived.Test.YtilffolppnnkaaaSoft19
namespace Go.Proofs.Ytilffolppnnkaaa
set_option maxRecDepth 100000
open Go.RowKit

theorem infoInt : (Try.prog.info? 3).map (fun i => (i.zero, i.size, i.bytes)) = some (some (.int .i64 0), 1, 8) := by kernel_rfl

def stN (x : PS × PL) : Nat → PS × PL
  | 0 => x
  | k + 1 => stepM (stN x k)
abbrev H5 : PL := (9, 8) :: (0, 6) :: h2
abbrev b0 : PS := a4.load 10
abbrev b6 : PS := { snap := 4, value := 5, R := [(9, 5)], points := 2, ended := 2 }
theorem st6 : stN (b0, H5) 6 = (b6, (1, 0) :: H5) := by kernel_rfl
theorem ad6 : upto (fun k => (stN (b0, H5) k).1.want.addr) 6 = [10, 0, 0, 9, 1, 1] := by kernel_rfl
theorem stN_busy : ∀ k, k < 6 → (stN (b0, H5) k).1.busy = true := by
  intro k hk
  have : ∀ k, k < 6 → (stN (b0, H5) k).1.busy = true := fun k hk => match k, hk with
    | 0, _ => by kernel_rfl | 1, _ => by kernel_rfl | 2, _ => by kernel_rfl | 3, _ => by kernel_rfl | 4, _ => by kernel_rfl | 5, _ => by kernel_rfl
  exact this k hk

def NRel (w : World) (p m c0 : Nat) (v i : Value) (wr : World) : Prop :=
  ∃ (k : Nat) (F : List Nat) (c : Nat), k ≤ 6 ∧ i = .int .i64 k ∧ wr.ownsRow w.heap.size 3 1 v k ((upto (fun k => (stN (b0, H5) k).1.want.addr) k).map (Value.int .i64)) ∧ c ≤ c0 + k ∧
    Two wr p F m c (stN (b0, H5) k).1 (stN (b0, H5) k).2 ∧ Mv [] (m :: F) w wr ∧ (∀ b ∈ v.ownBlock.toList, b ∉ m :: F)

set_option maxHeartbeats 4000000 in
theorem SoftNames_any (w : World) : Calls Try.prog 8 #[] w (StaysPost w) := by
  have hmm := @run_makeMap Try.prog
  obtain ⟨i0, hi, hz0, hz1, hz2⟩ := info_parts infoInt
  go_enter Try.func8, Try.ntmps8
  go_wp2_with fail
  refine (SNew_e w).mono ?_
  rintro e w0 ⟨p, F0, rfl, hp, hM⟩
  have HP := Lib.hid hp
  have HM := Lib.hid hM
  clear hp hM
  go_wp2_with (first
    | (refine wpList_memPut _ rfl _ _ _ (.inr rfl) w0.heap.size 0 [] rfl (MemAt.new w0) (by decide) 0 4 rfl rfl (by decide) ⟨by decide, by decide⟩ ?_; intro wa hka hCa; have HKa := Lib.hid hka; have HCa := Lib.hid hCa; clear hka hCa)
    | (refine wpList_memPut _ rfl _ _ _ (.inr rfl) w0.heap.size _ [(0, 4)] rfl HKa.out (by decide) 9 5 rfl rfl (by decide) ⟨by decide, by decide⟩ ?_; intro wb hkb hCb; have HKb := Lib.hid hkb; have HCb := Lib.hid hCb; clear hkb hCb))
  obtain ⟨m, hm⟩ : ∃ m, w0.heap.size = m := ⟨_, rfl⟩
  rw [hm] at HKb HKa HCa HCb ⊢
  obtain ⟨c0, HC0, HT0⟩ : ∃ c0, Hid (c0 ≤ 10) ∧ Hid (Two wb p F0 m c0 {} h0) := by
    refine ⟨_, Lib.hid ?_, Lib.hid ⟨((HP.out.look ((Chg.refl [] w0).alloc _)).chg HCa.out ?_).chg HCb.out ?_, HKb.out, ?_, trivial⟩⟩
    · decide
    all_goals (have := HP.out.lt)
    · intro x hx he; simp at he; have := this x hx; omega
    · intro x hx he; simp at he; have := this x hx; omega
    · intro hx; have := this m hx; omega
  have HM0 : Hid (Mv [] (m :: F0) w wb) := Lib.hid (by
    have e1 := (HM.out.trans (Mv.of_same ((Chg.refl [] w0).alloc (.map #[] 0))))
    refine ⟨(e1.chg.trans' HCa.out ?_).trans' HCb.out ?_, ?_⟩
    · intro x hx hl; simp at hx; have := e1.chg.size; have := HM.out.chg.size; omega
    · intro x hx hl; simp at hx; have := HM.out.chg.size; omega
    · intro x hx
      rcases List.mem_cons.1 hx with rfl | hx
      · exact .inr (by have := HM.out.chg.size; omega)
      · exact HM.out.new x hx)
  clear HKa HCa HCb HP HM
  go_wp2_with fail
  refine (Load_any _ p F0 ({} : PS) 9 (by decide) HT0.out.path).mono ?_
  rintro e w1 ⟨he, F1, hp, hM⟩
  obtain rfl : e = .returned (.int .i64 80) := he
  have HT1 : Hid (Two w1 p F1 m c0 (({} : PS)) h0) := Lib.hid (HT0.out.step hp hM (trivial))
  have HM1 := Lib.hid (HM0.out.trans (hM.cons m))
  clear hp hM
  go_wp2_with fail
  refine (Give_e _ p F1 ({} : PS) 0 true ⟨by decide, by decide⟩ trivial HT1.out.path).mono ?_
  rintro e w2 ⟨he, F2, hp, hM⟩
  obtain rfl : e = .returned (.int .i64 80) := he
  have HT2 : Hid (Two w2 p F2 m c0 (({} : PS)) h0) := Lib.hid (HT1.out.step hp hM (trivial))
  have HM2 := Lib.hid (HM1.out.trans (hM.cons m))
  clear hp hM
  go_wp2_with fail
  refine (Begin_e _ p F2 ({} : PS) HT2.out.path).mono ?_
  rintro e w3 ⟨he, F3, hp, hM⟩
  obtain rfl : e = .returned (.int .i64 0) := he
  have HT3 : Hid (Two w3 p F3 m c0 (a1) h0) := Lib.hid (HT2.out.step hp hM (trivial))
  have HM3 := Lib.hid (HM2.out.trans (hM.cons m))
  clear hp hM
  go_wp2_with fail
  refine (Begin_e _ p F3 a1 HT3.out.path).mono ?_
  rintro e w4 ⟨he, F4, hp, hM⟩
  obtain rfl : e = .returned (.int .i64 80) := he
  have HT4 : Hid (Two w4 p F4 m c0 (a1) h0) := Lib.hid (HT3.out.step hp hM (trivial))
  have HM4 := Lib.hid (HM3.out.trans (hM.cons m))
  clear hp hM
  go_wp2_with fail
  refine (finish_any _ p m F4 c0 (a1, h0) (by have := HC0.out; omega) HT4.out).mono ?_
  rintro e w5 ⟨he, F5, c1, hc, hp, hM⟩
  rw [f0] at he hp
  obtain rfl : e = .returned (.bool true) := he
  have HT5 : Hid (Two w5 p F5 m c1 a2 h1) := Lib.hid hp
  have HM5 := Lib.hid (HM4.out.trans hM)
  have HC1 : Hid (c1 ≤ 3010) := Lib.hid (by have := HC0.out; omega)
  clear hp hM hc
  go_wp2_with fail
  refine (Load_any _ p F5 a2 7 (by decide) HT5.out.path).mono ?_
  rintro e w6 ⟨he, F6, hp, hM⟩
  obtain rfl : e = .returned (.int .i64 2) := he
  have HT6 : Hid (Two w6 p F6 m c1 (a2) h1) := Lib.hid (HT5.out.step hp hM (trivial))
  have HM6 := Lib.hid (HM5.out.trans (hM.cons m))
  clear hp hM
  go_wp2_with fail
  refine (Store_any _ p F6 a2 (-1) 0 (by decide) (by decide) HT6.out.path).mono ?_
  rintro e w7 ⟨he, F7, hp, hM⟩
  obtain rfl : e = .returned (.int .i64 2) := he
  have HT7 : Hid (Two w7 p F7 m c1 (a2) h1) := Lib.hid (HT6.out.step hp hM (trivial))
  have HM7 := Lib.hid (HM6.out.trans (hM.cons m))
  clear hp hM
  go_wp2_with fail
  refine (Load_any _ p F7 a2 9 (by decide) HT7.out.path).mono ?_
  rintro e w8 ⟨he, F8, hp, hM⟩
  obtain rfl : e = .returned (.int .i64 0) := he
  have HT8 : Hid (Two w8 p F8 m c1 (a3) h1) := Lib.hid (HT7.out.step hp hM (⟨by decide, by decide⟩))
  have HM8 := Lib.hid (HM7.out.trans (hM.cons m))
  clear hp hM
  go_wp2_with fail
  refine (finish_any _ p m F8 c1 (a3, h1) (by have := HC1.out; omega) HT8.out).mono ?_
  rintro e w9 ⟨he, F9, c2, hc, hp, hM⟩
  rw [f1] at he hp
  obtain rfl : e = .returned (.bool true) := he
  have HT9 : Hid (Two w9 p F9 m c2 a4 h2) := Lib.hid hp
  have HM9 := Lib.hid (HM8.out.trans hM)
  have HC2 : Hid (c2 ≤ 6010) := Lib.hid (by have := HC1.out; omega)
  clear hp hM hc
  go_wp2_with (first
    | (at_mapUpdate; refine wpList_memPut _ rfl _ _ _ (.inl rfl) m c2 h2 rfl HT9.out.mem (by have := HC2.out; unfold maxLen; omega) 0 6 rfl rfl (by decide) ⟨by decide, by decide⟩ ?_; intro wa hka hCa; have HKa := Lib.hid hka; have HCa := Lib.hid hCa; clear hka hCa)
    | (at_mapUpdate; refine wpList_memPut _ rfl _ _ _ (.inl rfl) m _ ((0, 6) :: h2) rfl HKa.out (by have := HC2.out; have := upC_le c2 h2 0; unfold maxLen; omega) 9 8 rfl rfl (by decide) ⟨by decide, by decide⟩ ?_; intro wb hkb hCb; have HKb := Lib.hid hkb; have HCb := Lib.hid hCb; clear hkb hCb))
  obtain ⟨c9, HC9, F9, HT9, HM9⟩ : ∃ c9, Hid (c9 ≤ 10000) ∧ ∃ F9, Hid (Two wb p F9 m c9 a4 H5) ∧ Hid (Mv [] (m :: F9) w wb) :=
    ⟨_, Lib.hid (by have := HC2.out; have := upC_le c2 h2 0; have := upC_le (upC c2 h2 0) ((0, 6) :: h2) 9; omega), F9, Lib.hid ((HT9.out.mstep HKa.out HCa.out).mstep HKb.out HCb.out), Lib.hid (HM9.out.trans ((Mv.mem HCa.out).trans (Mv.mem HCb.out)))⟩
  clear HKa HCa HKb HCb
  refine (Load_any _ p F9 a4 10 (by decide) HT9.out.path).mono ?_
  rintro e w20 ⟨he, F20, hp, hM⟩
  obtain rfl : e = .returned (.int .i64 0) := he
  have HT20 : Hid (Two w20 p F20 m c9 b0 H5) := Lib.hid (HT9.out.step hp hM (by exact ⟨by decide, by decide⟩))
  have HM20 := Lib.hid (HM9.out.trans (hM.cons m))
  clear hp hM
  go_wp2_with fail
  go_loopw [8, 9] (fun v i wr => NRel w p m c9 v i wr) (fun _ i _ => 6 - (intOf i).toNat)
  case atStart => exact ⟨0, F20, c9, by omega, rfl, World.ownsRow_nil _ _ _ _, by omega, HT20.out, HM20.out, by simp [Value.ownBlock]⟩
  case round =>
    clear HT20 HM20
    obtain ⟨k, F, c, hk, rfl, hO, hc, hT, hM, hA⟩ := hrel
    have HO := Lib.hid hO
    have HT := Lib.hid hT
    have HM := Lib.hid hM
    have HA := Lib.hid hA
    have HC := Lib.hid hc
    clear hO hT hM hA hc
    by_cases hlt : k < 6
    · have HBz := Lib.hid (stN_busy k hlt)
      have HS := Lib.hid (show stepM (stN (b0, H5) k) = stN (b0, H5) (k + 1) from rfl)
      have HU := Lib.hid (show upto (fun k => (stN (b0, H5) k).1.want.addr) (k + 1) = upto (fun k => (stN (b0, H5) k).1.want.addr) k ++ [(stN (b0, H5) k).1.want.addr] from upto_succ _ k)
      have HWant := Lib.hid (PS.want_ok HT.out.ok HT.out.path.pairs.2.2.1 HT.out.path.pairs.2.2.2.1)
      have hle := HM.out.chg.size
      generalize stN (b0, H5) k = y at *
      have hkl : (k : Int) < 6 := by omega
      go_wp2_with fail
      refine (Want_any wr p F y.1 HT.out.path).mono ?_
      rintro e w1 ⟨he, hp1, hC1⟩
      obtain rfl : e = .returned (.tuple #[.agg #[.int .i64 y.1.want.op, .int .i64 y.1.want.addr, .int .u64 y.1.want.val, .int .u64 y.1.want.old], .bool true]) := by rw [he, HBz.out]; rfl
      have hX := hC1.trans ((Chg.refl [] w1).alloc (.cells #[.int .i64 y.1.want.op, .int .i64 y.1.want.addr, .int .u64 y.1.want.val, .int .u64 y.1.want.old] 49))
      have HX := Lib.hid hX
      have HT1 := Lib.hid (HT.out.look hX)
      have HOb := Lib.hid (ownsRow_chg HO.out hX (by simp))
      have HBq := Lib.hid (Blk.new w1 [.int .i64 y.1.want.op, .int .i64 y.1.want.addr, .int .u64 y.1.want.val, .int .u64 y.1.want.old] 49)
      have hle1 : w.heap.size ≤ w1.heap.size := Nat.le_trans hle hC1.size
      have HVn := Lib.hid (fun b hb => Nat.lt_of_lt_of_le (ownsRow_lt HO.out b hb) hC1.size)
      try clear he
      clear hp1 hC1 hX
      go_wp2_with (first
        | (at_builtin; refine wpList_append_own_at _ rfl (.tmp 56) (.tmp 59) 65 rfl (w.heap.size) 3 i0 (.int .i64 0) 1 8 Try.underlying65 hi hz0 hz1 hz2 rfl (by decide) _ _ _ rfl (HOb.out.alloc _) ⟨(w1.heap.size + 1), 0, none⟩ 1 1 [.int .i64 y.1.want.addr] rfl rfl (cells_at (by simp) [.int .i64 y.1.want.addr] _) (by simp [Value.oneCell']) (by unfold maxLen; omega) (by omega) (by first | omega | (simp; omega) | simp) ?_; intro va1 wa1 hown1 hgrow1 _ hblk1; have hsz1 := hgrow1.size; have HO1 := Lib.hid hown1; have HG1 := Lib.hid hgrow1; have HB1 := Lib.hid hblk1; clear hown1 hgrow1 hblk1; have hCg := Chg.of_grown HG1.out; have HB2 := Lib.hid (hCg.blk (HBq.out.alloc _) (fun hb => by have := HVn.out _ hb; omega)); have q0 := HB2.out.cell 0; have q1 := HB2.out.cell 1; have q2 := HB2.out.cell 2; have q3 := HB2.out.cell 3; simp only [List.getElem?_cons_zero, List.getElem?_cons_succ] at q0 q1 q2 q3; have HT2 := Lib.hid ((HT1.out.look ((Chg.refl [] _).alloc _)).chg hCg (fun x hx hb => HA.out x hb hx)); have HCg := Lib.hid ((HM.out.chg.trans (HX.out.trans ((Chg.refl [] _).alloc _))).trans' hCg (fun b hb hl => absurd hb (ownsRow_notMem HO.out hl))); clear hCg))
      refine (Answer_any _ m c y.2 y.1.want HWant.out (by have := HC.out; have := HC9.out; unfold maxLen; omega) HT2.out.mem).mono ?_
      rintro e w2 ⟨rfl, hm2, hC2⟩
      have HT3 := Lib.hid (HT2.out.mstep hm2 hC2)
      have HC2 := Lib.hid hC2
      clear hm2 hC2
      go_wp2_with fail
      refine (Give_e w2 p F y.1 _ _ (HT.out.mem.ok _) HT.out.ok HT3.out.path).mono ?_
      rintro e w3 ⟨rfl, F3, hp3, hM3⟩
      have HT4 := Lib.hid (HT3.out.step hp3 hM3 (PS.give_ok (HT.out.mem.ok _) HT.out.ok))
      have HM4 := Lib.hid hM3
      clear hp3 hM3
      go_wp2_with fail
      go_roundw
      case rel =>
        have hoff : ∀ b ∈ va1.ownBlock.toList, b ∉ m :: F := by
          intro b hb hx
          rcases HB1.out with e | e
          · rw [e] at hb; exact HA.out b hb hx
          · rw [e] at hb; simp at hb; have := HT.out.lt b hx; have := HX.out.size; simp at this; omega
        refine ⟨k + 1, F3, _, by omega, by go_num, ?_, ?_, (by rw [← HS.out]; exact HT4.out), ?_, ?_⟩
        · have h := HO1.out
          rw [HU.out, List.map_append]
          exact ownsRow_chg (ownsRow_chg h HC2.out (fun b hb he => hoff b hb (by simp at he; simp [he]))) HM4.out.chg (fun b hb he => hoff b hb (by simp [he]))
        · have := ansC_le c y.2 y.1.want; have := HC.out; omega
        · exact Mv.trans (G := m :: F) ⟨HCg.out, fun b hb => (HM.out.new b hb)⟩ ((Mv.mem HC2.out).trans (HM4.out.cons m))
        · intro b hb hx
          rcases List.mem_cons.1 hx with rfl | hx
          · exact hoff b hb (by simp)
          · exact (HM4.out.new b hx).elim (fun e => hoff b hb (by simp [e])) (fun e => by have := ownsRow_lt HO1.out b hb; have := HC2.out.size; omega)
      case measure => simp [intOf]; omega
    · obtain rfl : k = 6 := by omega
      have hkl : ¬ (((6 : Nat) : Int) < 6) := by omega
      rw [st6] at HT
      rw [ad6] at HO
      obtain ⟨g9, cp9, hv, hg1, hg2, hcp1, hcp2⟩ := ownsRow_posC HO.out (by decide)
      subst hv
      obtain ⟨g9', cap', cur, hv', hge, hB9, htk⟩ := ownsRow_pos HO.out (by decide)
      obtain ⟨rfl, rfl⟩ : g9 = g9' ∧ cp9 = cap' := by simpa using hv'
      have hc9 : ∀ j u, j < 6 → ([10, 0, 0, 9, 1, 1].map (Value.int .i64))[j]? = some u → wr.cell? ⟨g9, j, none⟩ = some u := by
        intro j u hj hu
        rw [hB9.cell, ← hu, ← htk, List.getElem?_take_of_lt (by omega)]
      have l0 := hc9 0 _ (by omega) rfl
      have l1 := hc9 1 _ (by omega) rfl
      have l2 := hc9 2 _ (by omega) rfl
      have l3 := hc9 3 _ (by omega) rfl
      have l4 := hc9 4 _ (by omega) rfl
      have l5 := hc9 5 _ (by omega) rfl
      clear hc9 htk hB9 hge hv' hk
      obtain ⟨w30, hw30⟩ : ∃ w30, w30 = wr := ⟨_, rfl⟩
      have HT30 := HT
      have HM30 := HM
      rw [← hw30] at HT30 HM30 l0 l1 l2 l3 l4 l5 ⊢
      clear hw30 HT HM HA HO
      go_wp2_with fail
      refine (Ended_any w30 p F b6 HT30.out.path).mono ?_
      rintro e w' ⟨he, rfl⟩
      obtain rfl : e = .returned (.int .i64 2) := he
      have hm1 : (Instr.lookup 29 (.map (some m)) (.int .i64 1) false).run Try.prog w30 = .ok (.int .u64 0) w30 := HT30.out.mem.look (by decide)
      go_wp2_with fail
      refine (Commit_e w30 p F b6 HT30.out.path).mono ?_
      rintro e w31 ⟨he, F31, hp, hM⟩
      obtain rfl : e = .returned (.int .i64 80) := he
      have HT31 : Hid (Two w31 p F31 m c b6 ((1, 0) :: H5)) := Lib.hid (HT30.out.step hp hM trivial)
      have HM31 := Lib.hid (HM30.out.trans (hM.cons m))
      clear hp hM
      go_wp2_with fail
      refine (Quit_e w31 p F31 b6 HT31.out.path).mono ?_
      rintro e w32 ⟨he, F32, hp, hM⟩
      obtain rfl : e = .returned (.int .i64 80) := he
      have HM32 := Lib.hid (HM31.out.trans (hM.cons m))
      clear hp hM HT31 HT30
      go_wp2_with fail
      have hzz := Blk.new w32 [.pointer none, .int .i64 0, .int .i64 0, .int .u64 0, .int .u64 0, .nilFunc, .bool false, .bool false, .bool false, .int .u64 0, .int .u64 0, .int .i64 0, .int .i64 0] 69
      refine (no_Want _ _ (.inl rfl)).mono ?_
      rintro e w33 ⟨rfl, hC33⟩
      have hX := hC33.trans ((Chg.refl [] w33).alloc (.cells #[.int .i64 0, .int .i64 0, .int .u64 0, .int .u64 0] 49))
      have HZ : Hid (NoPath (w33.alloc (.cells #[.int .i64 0, .int .i64 0, .int .u64 0, .int .u64 0] 49)) (.pointer (some ⟨w32.heap.size, 0, none⟩))) := Lib.hid (.inr ⟨_, rfl, (hX.blk hzz (by simp)).cell 0⟩)
      have HM33 := Lib.hid (HM32.out.chg.trans (((Chg.refl [] w32).alloc _).trans hX))
      have heq : ∀ w : World, (binOp .eql 49 (.agg #[.int .i64 0, .int .i64 0, .int .u64 0, .int .u64 0]) (.agg #[.int .i64 0, .int .i64 0, .int .u64 0, .int .u64 0])).run Try.prog w = .ok (.bool true) w := fun _ => by kernel_rfl
      clear hzz hC33 hX
      go_wp2_with fail
      refine (no_Begin _ _ (.inl rfl)).mono ?_
      rintro e w' ⟨rfl, rfl⟩
      go_wp2_with fail
      refine (no_Load _ _ 7 HZ.out).mono ?_
      rintro e w' ⟨rfl, rfl⟩
      go_wp2_with fail
      refine (no_Store _ _ 9 1 (.inl rfl)).mono ?_
      rintro e w' ⟨rfl, rfl⟩
      go_wp2_with fail
      refine (no_Commit _ _ HZ.out).mono ?_
      rintro e w' ⟨rfl, rfl⟩
      go_wp2_with fail
      refine (no_Quit _ _ (.inl rfl)).mono ?_
      rintro e w' ⟨rfl, rfl⟩
      go_wp2_with fail
      refine (no_Give _ _ 0 true HZ.out).mono ?_
      rintro e w' ⟨rfl, rfl⟩
      go_wp2_with fail
      refine (no_Busy _ _ (.inl rfl)).mono ?_
      rintro e w' ⟨rfl, rfl⟩
      go_wp2_with fail
      refine (no_Live _ _ HZ.out).mono ?_
      rintro e w' ⟨rfl, rfl⟩
      go_wp2_with fail
      refine (no_Value _ _ (.inl rfl)).mono ?_
      rintro e w' ⟨rfl, rfl⟩
      go_wp2_with fail
      refine (no_Ended _ _ HZ.out).mono ?_
      rintro e w' ⟨rfl, rfl⟩
      go_wp2_with fail
      refine (no_Points _ _ (.inl rfl)).mono ?_
      rintro e w' ⟨rfl, rfl⟩
      go_wp2_with fail
      refine (no_Writing _ _ HZ.out).mono ?_
      rintro e w' ⟨rfl, rfl⟩
      go_wp2_with fail
      refine (no_Reads _ _ (.inl rfl)).mono ?_
      rintro e w' ⟨rfl, rfl⟩
      go_wp2_with fail
      refine (no_Writes _ _ HZ.out).mono ?_
      rintro e w' ⟨rfl, rfl⟩
      go_wp2_with fail
      refine (alive_any _).mono ?_
      rintro e w40 ⟨rfl, hB⟩
      have HB40 := Lib.hid hB
      clear hB
      go_wp2_with fail
      go_ret
      exact ⟨rfl, (HM33.out.trans (Chg.of_below HB40.out [])).nil_below⟩

end Go.Proofs.Ytilffolppnnkaaa
