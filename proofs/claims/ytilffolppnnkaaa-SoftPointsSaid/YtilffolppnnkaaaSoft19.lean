/- Layer 8's statements: the chapter's first examples. -/
import Derived.Test.YtilffolppnnkaaaSoft18
import Derived.Carry
namespace Go.Proofs.Ytilffolppnnkaaa
set_option maxRecDepth 100000
open Go.RowKit

abbrev h0 : PL := [(9, 5), (0, 4)]
abbrev h1 : PL := (1, 1) :: h0
abbrev h2 : PL := h1
abbrev h3 : PL := (1, 0) :: (0, 6) :: (9, 7) :: (0, 5) :: h2
abbrev a1 : PS := PS.begin {}
abbrev a2 : PS := { snap := 4, live := true, points := 1 }
abbrev a3 : PS := a2.load 9
abbrev a4 : PS := { snap := 4, value := 5, R := [(9, 5)], live := true, points := 2 }
abbrev a5 : PS := a4.store 9 7
abbrev a6 : PS := a5.load 9
abbrev a7 : PS := a6.commit
abbrev a8 : PS := { snap := 4, value := 7, R := [(9, 5)], W := [(9, 7)], ended := 1, points := 3 }
theorem f0 : finM 3000 (a1, h0) = (a2, h1) := by kernel_rfl
theorem f1 : finM 3000 (a3, h1) = (a4, h2) := by kernel_rfl
theorem f2 : finM 3000 (a7, h2) = (a8, h3) := by kernel_rfl

/-- A new path, a new memory. -/
theorem SNew_e (w : World) : Calls Try.prog 13 #[] w fun e w' => ∃ p F, e = .returned (.pointer (some ⟨p, 0, none⟩)) ∧ PathAt w' p F {} ∧ Mv [] F w w' := SNew_any w

set_option maxHeartbeats 2000000 in
theorem alive_any (w : World) : Calls Try.prog 10 #[] w (StaysPost w) := by
  have hmm := @run_makeMap Try.prog
  go_enter Try.func10, Try.ntmps10
  go_wp2_with fail
  refine (SNew_e w).mono ?_
  rintro e w0 ⟨p, F0, rfl, hp, hM⟩
  have HP := Lib.hid hp
  have HM := Lib.hid hM
  clear hp hM
  go_wp2_with (first
    | (refine wpList_memPut _ rfl _ _ _ (.inr rfl) w0.heap.size 0 [] rfl (MemAt.new w0) (by decide) 0 4 rfl rfl (by decide) ⟨by decide, by decide⟩ ?_; intro wa hka hCa; have HKa := Lib.hid hka; have HCa := Lib.hid hCa; clear hka hCa)
    | (refine wpList_memPut _ rfl _ _ _ (.inr rfl) w0.heap.size _ [(0, 4)] rfl HKa.out (by decide) 9 5 rfl rfl (by decide) ⟨by decide, by decide⟩ ?_; intro wb hkb hCb; have HKb := Lib.hid hkb; have HCb := Lib.hid hCb; clear hkb hCb))
  obtain ⟨m, hm⟩ : ∃ m, w0.heap.size = m := ⟨_, rfl⟩
  rw [hm] at HKb HKa HCa HCb ⊢
  obtain ⟨c0, HC0, HT0⟩ : ∃ c0, Hid (c0 ≤ 10) ∧ Hid (Two wb p F0 m c0 {} h0) := by
    refine ⟨_, Lib.hid ?_, Lib.hid ⟨((HP.out.look ((Chg.refl [] w0).alloc _)).chg HCa.out ?_).chg HCb.out ?_, HKb.out, ?_, trivial⟩⟩
    · decide
    all_goals (have := HP.out.lt)
    · intro x hx he; simp at he; have := this x hx; omega
    · intro x hx he; simp at he; have := this x hx; omega
    · intro hx; have := this m hx; omega
  have HM0 : Hid (Mv [] (m :: F0) w wb) := Lib.hid (by
    have e1 := (HM.out.trans (Mv.of_same ((Chg.refl [] w0).alloc (.map #[] 0))))
    refine ⟨(e1.chg.trans' HCa.out ?_).trans' HCb.out ?_, ?_⟩
    · intro x hx hl; simp at hx; have := e1.chg.size; have := HM.out.chg.size; omega
    · intro x hx hl; simp at hx; have := HM.out.chg.size; omega
    · intro x hx
      rcases List.mem_cons.1 hx with rfl | hx
      · exact .inr (by have := HM.out.chg.size; omega)
      · exact HM.out.new x hx)
  clear HKa HCa HCb HP HM
  go_wp2_with fail
  refine (Begin_e _ p F0 {} HT0.out.path).mono ?_
  rintro e w1 ⟨he, F1, hp, hM⟩
  obtain rfl : e = .returned (.int .i64 0) := he
  have HT1 : Hid (Two w1 p F1 m c0 a1 h0) := Lib.hid (HT0.out.step hp hM (by trivial))
  have HM1 := Lib.hid (HM0.out.trans (hM.cons m))
  clear hp hM
  go_wp2_with fail
  refine (Want_any _ p F1 a1 HT1.out.path).mono ?_
  rintro e w2 ⟨he, hp, hC⟩
  obtain rfl : e = .returned (.tuple #[.agg #[.int .i64 1, .int .i64 1, .int .u64 0, .int .u64 0], .bool true]) := he
  have HT2 := Lib.hid ((HT1.out.look hC).look ((Chg.refl [] w2).alloc (.cells #[.int .i64 1, .int .i64 1, .int .u64 0, .int .u64 0] 49)))
  have HM2 := Lib.hid (HM1.out.trans (Mv.of_same (hC.trans ((Chg.refl [] w2).alloc (.cells #[.int .i64 1, .int .i64 1, .int .u64 0, .int .u64 0] 49)))))
  have heq : ∀ w : World, (binOp .eql 49 (.agg #[.int .i64 1, .int .i64 1, .int .u64 0, .int .u64 0]) (.agg #[.int .i64 1, .int .i64 1, .int .u64 0, .int .u64 0])).run Try.prog w = .ok (.bool true) w := fun _ => by kernel_rfl
  obtain ⟨F2, hF2⟩ : ∃ F2, F2 = F1 := ⟨_, rfl⟩
  rw [← hF2] at HT2 HM2
  clear hp hC

  go_wp2_with fail
  have HC0' := HC0
  refine (finish_any _ p m F2 c0 (a1, h0) (by have := HC0.out; omega) HT2.out).mono ?_
  rintro e w3 ⟨he, F3, c1, hc1, hp, hM⟩
  rw [f0] at he hp
  obtain rfl : e = .returned (.bool true) := he
  have HT3 : Hid (Two w3 p F3 m c1 a2 h1) := Lib.hid hp
  have HM3 := Lib.hid (HM2.out.trans hM)
  have HC1 : Hid (c1 ≤ 3010) := Lib.hid (by have := HC0.out; omega)
  clear hp hM hc1
  go_wp2_with fail
  refine (Live_any _ p F3 a2 HT3.out.path).mono ?_
  rintro e w' ⟨he, rfl⟩
  obtain rfl : e = .returned (.bool true) := he
  go_wp2_with fail
  refine (Points_any _ p F3 a2 HT3.out.path).mono ?_
  rintro e w' ⟨he, rfl⟩
  obtain rfl : e = .returned (.int .i64 1) := he
  have hl1 : (Instr.lookup 29 (.map (some m)) (.int .i64 1) false).run Try.prog w3 = .ok (.int .u64 1) w3 := HT3.out.mem.look (by decide)
  go_wp2_with fail
  refine (Load_any _ p F3 a2 9 (by decide) HT3.out.path).mono ?_
  rintro e w4 ⟨he, F4, hp, hM⟩
  obtain rfl : e = .returned (.int .i64 0) := he
  have HT4 : Hid (Two w4 p F4 m c1 a3 h1) := Lib.hid (HT3.out.step hp hM (by exact ⟨by decide, by decide⟩))
  have HM4 := Lib.hid (HM3.out.trans (hM.cons m))
  clear hp hM
  go_wp2_with fail
  refine (finish_any _ p m F4 c1 (a3, h1) (by have := HC1.out; omega) HT4.out).mono ?_
  rintro e w5 ⟨he, F5, c2, hc2, hp, hM⟩
  rw [f1] at he hp
  obtain rfl : e = .returned (.bool true) := he
  have HT5 : Hid (Two w5 p F5 m c2 a4 h2) := Lib.hid hp
  have HM5 := Lib.hid (HM4.out.trans hM)
  have HC2 : Hid (c2 ≤ 6010) := Lib.hid (by have := HC1.out; omega)
  clear hp hM hc2
  go_wp2_with fail
  refine (SValue_any _ p F5 a4 HT5.out.path).mono ?_
  rintro e w' ⟨he, rfl⟩
  obtain rfl : e = .returned (.int .u64 5) := he
  go_wp2_with fail
  refine (Points_any _ p F5 a4 HT5.out.path).mono ?_
  rintro e w' ⟨he, rfl⟩
  obtain rfl : e = .returned (.int .i64 2) := he
  go_wp2_with fail
  refine (Store_any _ p F5 a4 9 7 (by decide) (by decide) HT5.out.path).mono ?_
  rintro e w6 ⟨he, F6, hp, hM⟩
  obtain rfl : e = .returned (.int .i64 0) := he
  have HT6 : Hid (Two w6 p F6 m c2 a5 h2) := Lib.hid (HT5.out.step hp hM (by trivial))
  have HM6 := Lib.hid (HM5.out.trans (hM.cons m))
  clear hp hM
  go_wp2_with fail
  refine (Load_any _ p F6 a5 9 (by decide) HT6.out.path).mono ?_
  rintro e w7 ⟨he, F7, hp, hM⟩
  obtain rfl : e = .returned (.int .i64 0) := he
  have HT7 : Hid (Two w7 p F7 m c2 a6 h2) := Lib.hid (HT6.out.step hp hM (by trivial))
  have HM7 := Lib.hid (HM6.out.trans (hM.cons m))
  clear hp hM
  go_wp2_with fail
  refine (Busy_any _ p F7 a6 HT7.out.path).mono ?_
  rintro e w' ⟨he, rfl⟩
  obtain rfl : e = .returned (.bool false) := he
  go_wp2_with fail
  refine (SValue_any _ p F7 a6 HT7.out.path).mono ?_
  rintro e w' ⟨he, rfl⟩
  obtain rfl : e = .returned (.int .u64 7) := he
  go_wp2_with fail
  refine (Commit_any _ p F7 a6 HT7.out.path).mono ?_
  rintro e w8 ⟨he, F8, hp, hM⟩
  obtain rfl : e = .returned (.int .i64 0) := he
  have HT8 : Hid (Two w8 p F8 m c2 a7 h2) := Lib.hid (HT7.out.step hp hM (by exact (by decide : ([(9, 7)] : PL) ≠ [])))
  have HM8 := Lib.hid (HM7.out.trans (hM.cons m))
  clear hp hM
  go_wp2_with fail
  refine (finish_any _ p m F8 c2 (a7, h2) (by have := HC2.out; omega) HT8.out).mono ?_
  rintro e w9 ⟨he, F9, c3, hc3, hp, hM⟩
  rw [f2] at he hp
  obtain rfl : e = .returned (.bool true) := he
  have HT9 : Hid (Two w9 p F9 m c3 a8 h3) := Lib.hid hp
  have HM9 := Lib.hid (HM8.out.trans hM)
  have HC3 : Hid (c3 ≤ 9010) := Lib.hid (by have := HC2.out; omega)
  clear hp hM hc3
  go_wp2_with fail
  refine (Ended_any _ p F9 a8 HT9.out.path).mono ?_
  rintro e w' ⟨he, rfl⟩
  obtain rfl : e = .returned (.int .i64 1) := he
  go_wp2_with fail
  refine (Live_any _ p F9 a8 HT9.out.path).mono ?_
  rintro e w' ⟨he, rfl⟩
  obtain rfl : e = .returned (.bool false) := he
  have hm9 : (Instr.lookup 29 (.map (some m)) (.int .i64 9) false).run Try.prog w9 = .ok (.int .u64 7) w9 := HT9.out.mem.look (by decide)
  have hm0 : (Instr.lookup 29 (.map (some m)) (.int .i64 0) false).run Try.prog w9 = .ok (.int .u64 6) w9 := HT9.out.mem.look (by decide)
  have hm1 : (Instr.lookup 29 (.map (some m)) (.int .i64 1) false).run Try.prog w9 = .ok (.int .u64 0) w9 := HT9.out.mem.look (by decide)
  go_wp2_with fail
  go_ret
  exact ⟨rfl, (HM9.out.chg).to_below (by simp) (Nat.le_refl _)⟩

end Go.Proofs.Ytilffolppnnkaaa
