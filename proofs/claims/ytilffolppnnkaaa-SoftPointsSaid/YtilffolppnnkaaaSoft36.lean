/- finish once more: how many words a memory then has. -/
import Derived.Test.YtilffolppnnkaaaSoft17
namespace Go.Proofs.Ytilffolppnnkaaa
set_option maxRecDepth 100000
open Go.RowKit

/-- How many words have been laid. -/
def cntH : PL → Nat
  | [] => 0
  | p :: h => upC (cntH h) h p.1
theorem cntH_in {h : PL} {a v : Int} (k : inH h a = true) : cntH ((a, v) :: h) = cntH h := by simp [cntH, upC, k]
theorem ansC_cnt (c : Nat) (h : PL) (r : Rq) : ansC c h r + cntH h = c + cntH (ansH h r) := by
  unfold ansC ansH
  split
  · show upC c h r.addr + cntH h = c + upC (cntH h) h r.addr
    unfold upC; split <;> omega
  · rfl

def FinRel2 (w : World) (p m : Nat) (F : List Nat) (c : Nat) (x : PS × PL) (i : Value) (wr : World) : Prop :=
  ∃ (k : Nat) (F' : List Nat) (c' : Nat) (y : PS × PL), k ≤ 3000 ∧ i = .int .i64 k ∧ (c' ≤ c + k ∧ c' + cntH x.2 = c + cntH y.2) ∧ finM (3000 - k) y = finM 3000 x ∧ Two wr p F' m c' y.1 y.2 ∧ Mv (m :: F) (m :: F') w wr
def FinPost2 (w : World) (p m : Nat) (F : List Nat) (c : Nat) (x : PS × PL) (e : Ending) (w' : World) : Prop :=
  e = .returned (.bool (!(finM 3000 x).1.busy)) ∧ ∃ F' c', (c' ≤ c + 3000 ∧ c' + cntH x.2 = c + cntH (finM 3000 x).2) ∧ Two w' p F' m c' (finM 3000 x).1 (finM 3000 x).2 ∧ Mv (m :: F) (m :: F') w w'

set_option maxHeartbeats 1000000 in
theorem finish2_any (w : World) (p m : Nat) (F : List Nat) (c : Nat) (x : PS × PL) (hc : c ≤ 1000000000) (h : Two w p F m c x.1 x.2) :
    Calls Try.prog 15 #[.pointer (some ⟨p, 0, none⟩), .map (some m)] w (FinPost2 w p m F c x) := by
  have H := Lib.hid h
  clear h
  go_enter Try.func15, Try.ntmps15
  go_wp2_with fail
  go_loopw [5] (fun i wr => FinRel2 w p m F c x i wr) (fun i _ => 3000 - (intOf i).toNat)
  case atStart => exact ⟨0, F, c, x, by omega, rfl, ⟨by omega, rfl⟩, rfl, H.out, Mv.refl _ _⟩
  case round =>
    obtain ⟨k, F', c', y, hk, rfl, hc', hfin, hT, hM⟩ := hrel
    have HT := Lib.hid hT
    have HM := Lib.hid hM
    have HF := Lib.hid hfin
    have HC := Lib.hid hc'
    clear hT hM hfin hc'
    by_cases hlt : k < 3000
    · by_cases hb : y.1.busy = true
      · have hB := Lib.hid (Busy_any wr p F' y.1 HT.out.path)
        rw [hb] at hB
        have HBz := Lib.hid hb
        clear hb
        go_wp2_with fail
        refine hB.out.mono ?_
        rintro e w' ⟨rfl, rfl⟩
        go_wp2_with fail
        refine (Want_any wr p F' y.1 HT.out.path).mono ?_
        rintro e w1 ⟨rfl, hp1, hC1⟩
        rw [HBz.out]
        have HT1 := Lib.hid (((HT.out.look hC1).look ((Chg.refl [] w1).alloc (.cells #[.int .i64 y.1.want.op, .int .i64 y.1.want.addr, .int .u64 y.1.want.val, .int .u64 y.1.want.old] 49))))
        have HC1 := Lib.hid (hC1.trans ((Chg.refl [] w1).alloc (.cells #[.int .i64 y.1.want.op, .int .i64 y.1.want.addr, .int .u64 y.1.want.val, .int .u64 y.1.want.old] 49)))
        have HR := Lib.hid (PS.want_ok HT.out.ok HT.out.path.pairs.2.2.1 HT.out.path.pairs.2.2.2.1)
        clear hp1 hC1
        unfold Rq.val'
        go_wp2_with fail
        refine (Answer_any _ m c' y.2 y.1.want HR.out (by have := HC.out.1; unfold maxLen; omega) HT1.out.mem).mono ?_
        rintro e w2 ⟨rfl, hm2, hC2⟩
        have HT2 := Lib.hid (HT1.out.mstep hm2 hC2)
        have HC2 := Lib.hid hC2
        clear hm2 hC2
        go_wp2_with fail
        refine (Give_any w2 p F' y.1 _ _ (HT.out.mem.ok _) HT.out.ok HT2.out.path).mono ?_
        rintro e w3 ⟨rfl, F3, hp3, hM3⟩
        have HT3 := Lib.hid (HT2.out.step hp3 hM3 (PS.give_ok (HT.out.mem.ok _) HT.out.ok))
        have HM3 := Lib.hid hM3
        clear hp3 hM3
        go_wp2_with fail
        go_roundw
        case rel =>
          refine ⟨k + 1, F3, _, stepM y, by omega, by go_num, ?_, ?_, HT3.out, ?_⟩
          · have h1 := ansC_le c' y.2 y.1.want
            have h2 := HC.out
            have h3 := ansC_cnt c' y.2 y.1.want
            exact ⟨by omega, by rw [show (stepM y).2 = ansH y.2 y.1.want from rfl]; omega⟩
          · rw [← HF.out, show 3000 - k = (3000 - (k + 1)) + 1 from by omega, finM_busy HBz.out]
          · exact HM.out.trans ((Mv.of_same HC1.out).trans ((Mv.mem HC2.out).trans (HM3.out.cons m)))
        case measure => simp [intOf]; omega
      · have hb' : y.1.busy = false := by simpa using hb
        have hB := Lib.hid (Busy_any wr p F' y.1 HT.out.path)
        rw [hb'] at hB
        have HBz := Lib.hid hb'
        clear hb hb'
        go_wp2_with fail
        refine hB.out.mono ?_
        rintro e w' ⟨rfl, rfl⟩
        go_wp2_with fail
        refine hB.out.mono ?_
        rintro e w' ⟨rfl, rfl⟩
        go_wp2_with fail
        go_ret
        have hf := HF.out
        rw [finM_idle HBz.out] at hf
        refine ⟨?_, F', c', ⟨by have := HC.out; omega, by rw [← hf]; exact HC.out.2⟩, by rw [← hf]; exact HT.out, HM.out⟩
        rw [← hf, HBz.out]; rfl
    · have hB := Lib.hid (Busy_any wr p F' y.1 HT.out.path)
      have hf := HF.out
      rw [show 3000 - k = 0 from by omega, finM] at hf
      have hk3 : decide ((k : Int) < 3000) = false := by simp; omega
      have HF2 := Lib.hid hf
      clear hf
      go_wp2_with fail
      refine hB.out.mono ?_
      rintro e w' ⟨rfl, rfl⟩
      go_wp2_with fail
      go_ret
      refine ⟨?_, F', c', ⟨by have := HC.out; omega, by rw [← HF2.out]; exact HC.out.2⟩, by rw [← HF2.out]; exact HT.out, HM.out⟩
      rw [← HF2.out]; rfl

end Go.Proofs.Ytilffolppnnkaaa
