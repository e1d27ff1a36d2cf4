import Derived.Test.YtajgbhfhppendaaMem3
import Derived.Test.YtajgbhfhppendaaArr
import Derived.Test.YtajgbhfhppendaaOpen
import Derived.StillTailTactics
namespace Go.Proofs.Ytajgbhfhppendaa
open Go.RowKit

theorem Try.infoU64 : (Try.prog.info? 29).map (fun i => (i.zero, i.size, i.bytes)) = some (some (.int .u64 0), 1, 8) := by kernel_rfl
theorem Try.cellsU64 : Try.prog.cellsOf 29 = 1 := by kernel_rfl

theorem eq_line (w : World) (a0 a1 a2 a3 a4 a5 a6 a7 b0 b1 b2 b3 b4 b5 b6 b7 : Int) :
    (Op.equalIn 10000 36 (.agg #[.int .u64 a0, .int .u64 a1, .int .u64 a2, .int .u64 a3, .int .u64 a4, .int .u64 a5, .int .u64 a6, .int .u64 a7]) (.agg #[.int .u64 b0, .int .u64 b1, .int .u64 b2, .int .u64 b3, .int .u64 b4, .int .u64 b5, .int .u64 b6, .int .u64 b7])).run Try.prog w = .ok (eqInts [a0, a1, a2, a3, a4, a5, a6, a7] [b0, b1, b2, b3, b4, b5, b6, b7]) w := by
  obtain ⟨i0, hi, _⟩ := info_parts Try.infoU64
  exact run_eq_array w 9998 (k := .u64) Try.underlying36 hi Try.cellsU64 Try.underlying29 [a0, a1, a2, a3, a4, a5, a6, a7] [b0, b1, b2, b3, b4, b5, b6, b7] rfl rfl

theorem alive_put : memPut (List.replicate (8 * 2) 0) 9 5 = [0, 0, 0, 0, 0, 0, 0, 0, 0, 5, 0, 0, 0, 0, 0, 0] := by decide
theorem alive_word : memWord [0, 0, 0, 0, 0, 0, 0, 0, 0, 5, 0, 0, 0, 0, 0, 0] 9 = 5 := by decide
theorem alive_line : memLine 2 [0, 0, 0, 0, 0, 0, 0, 0, 0, 5, 0, 0, 0, 0, 0, 0] 1 = [0, 5, 0, 0, 0, 0, 0, 0] := by decide

set_option maxHeartbeats 1000000 in
theorem alive_any (w : World) :
    Calls Try.prog 7 #[] w fun e w' => e = .returned (.bool true) ∧ Chg [] w w' := by
  have e1 : memErr (8 * 2) 9 = 0 := by decide
  have e2 : memErr 2 1 = 0 := by decide
  go_enter Try.func7, Try.ntmps7
  go_wp2_with fail
  refine (New_ok w 2 (by decide) (by decide)).mono ?_
  rintro e w1 ⟨rfl, hM1, hC1, hs1⟩
  go_wp2_with fail
  refine (Put_any w1 _ _ 2 _ 9 5 (by decide) (by decide) hM1).mono ?_
  rintro e w2 ⟨rfl, hM2, hC2⟩
  rw [alive_put] at hM2
  go_wp2_with fail
  refine (Word_any w2 _ _ 2 _ 9 (by decide) (by decide) hM2).mono ?_
  rintro e w3 ⟨rfl, rfl⟩
  rw [alive_word]
  go_wp2_with fail
  refine (Line_any w2 _ _ 2 _ 1 hM2).mono ?_
  rintro e w3 ⟨rfl, hC3⟩
  rw [alive_line]; simp only [u64s, List.map_cons, List.map_nil]
  have hq := eq_line
  have e3 : eqInts [0, 5, 0, 0, 0, 0, 0, 0] [0, 5, 0, 0, 0, 0, 0, 0] = true := by decide
  go_wp2_with fail
  go_ret
  exact ⟨rfl, ((hC1.trans' hC2 (by intro x hx hl; simp at hx; omega)).trans' hC3 (by simp)).alloc _⟩

theorem memErr_in {n : Nat} {a : Int} (h : 0 ≤ a ∧ a < n) : memErr n a = 0 := by simp only [memErr]; rw [if_pos h]
theorem memErr_out {n : Nat} {a : Int} (h : ¬ (0 ≤ a ∧ a < n)) : memErr n a = 2 := by simp only [memErr]; rw [if_neg h]
theorem memPut_out {ws : List Int} {a v : Int} (h : ¬ (0 ≤ a ∧ a < ws.length)) : memPut ws a v = ws := by simp only [memPut]; rw [if_neg h]
theorem memWord_put_same {ws : List Int} {a v : Int} (h : 0 ≤ a ∧ a < ws.length) : memWord (memPut ws a v) a = v := by
  simp only [memPut]; rw [if_pos h]
  simp only [memWord, List.length_set]; rw [if_pos h]
  have : a.toNat < ws.length := by omega
  simp [this]
theorem memWord_put_other {ws : List Int} {a b v : Int} (h : a ≠ b) : memWord (memPut ws a v) b = memWord ws b := by
  simp only [memPut]
  split
  · simp only [memWord, List.length_set]
    split
    · have : a.toNat ≠ b.toNat := by omega
      simp [this]
    · rfl
  · rfl

def encPair (p : Int × Int) : List Value := [.int .i64 p.1, .int .u64 p.2]

def StaysPost (w : World) (e : Ending) (w' : World) : Prop := e = .returned (.bool true) ∧ Below w.heap.size w w'

set_option maxHeartbeats 1000000 in
theorem MemStays_any (w : World) (A : Option Addr) (cap : Nat) (ps : List (Int × Int)) (a b : Int) (hR : Rd w w.heap.size A 2 encPair ps) (hps : ∀ p ∈ ps, i64ok p.1) (ha : i64ok a) (hb : i64ok b) :
    Calls Try.prog 3 #[.slice A ps.length cap, .int .i64 a, .int .i64 b] w (StaysPost w) := by
  by_cases hlen : 500 < ps.length
  · have hl' : (500 : Int) < ps.length := by omega
    go_enter Try.func3, Try.ntmps3
    go_wp2_with fail
    refine (alive_any w).mono ?_
    rintro e w1 ⟨rfl, hC1⟩
    go_wp2_with fail
    go_ret
    exact ⟨rfl, hC1.nil_below⟩
  · have hl' : (ps.length : Int) ≤ 500 := by omega
    go_enter Try.func3, Try.ntmps3
    go_wp2_with fail
    refine (alive_any w).mono ?_
    rintro e w1 ⟨rfl, hC1⟩
    go_wp2_with fail
    refine (New_ok w1 64 (by decide) (by decide)).mono ?_
    rintro e w2 ⟨rfl, hM2, hC2, hs2⟩
    have hB2 : Below w.heap.size w w2 := (hC1.trans hC2).nil_below
    have hbm : w.heap.size ≤ w1.heap.size := hC1.size
    obtain ⟨bl, hbl⟩ : ∃ bl, bl = w1.heap.size := ⟨_, rfl⟩
    rw [← hbl] at hM2 hbm ⊢
    clear hC2 hs2 hC1 hbl
    go_wp2_with fail
    go_loopw [10] (fun i wr => ∃ k : Nat, k ≤ ps.length ∧ i = .int .i64 k ∧ ∃ ws, MemAt wr (bl + 1) bl 64 ws ∧ Below w.heap.size w wr) (fun i _ => ps.length - (intOf i).toNat)
    case atStart => exact ⟨0, Nat.zero_le _, rfl, _, hM2, hB2⟩
    case round =>
      obtain ⟨k, hk, rfl, ws, hM, hB⟩ := hrel
      by_cases hlt : k < ps.length
      · obtain ⟨bb, off, rfl, hbb, hc⟩ := hR.below hB (by omega)
        have c0 : wr.cell? ⟨bb, off + k * 2, none⟩ = some (.int .i64 ps[k].1) := hc k hlt 0 (by decide)
        have c1 : wr.cell? ⟨bb, off + k * 2 + 1, none⟩ = some (.int .u64 ps[k].2) := hc k hlt 1 (by decide)
        have hp := hps _ (List.getElem_mem hlt)
        obtain ⟨hp1, hp2⟩ := hp
        clear hc
        go_wp2_with fail
        go_still_tail 11, (by kernel_rfl)
        go_wp2_with fail
        refine (Put_any _ _ _ 64 ws _ _ hp1 hp2 hM.drew).mono ?_
        rintro e w3 ⟨rfl, hM3, hC3⟩
        go_wp2_with fail
        go_roundw
        case rel => exact ⟨k + 1, by omega, by go_num, _, hM3, below_chg (S := [bl]) hB.drew hC3 (by simp; omega) (Nat.le_refl _)⟩
        case measure => simp [intOf]; omega
      · obtain rfl : k = ps.length := by omega
        go_wp2_with fail
        refine (Word_any _ _ _ 64 ws _ hb.1 hb.2 hM).mono ?_
        rintro e w3 ⟨rfl, rfl⟩
        go_wp2_with fail
        refine (Put_any _ _ _ 64 ws _ _ ha.1 ha.2 hM).mono ?_
        rintro e w3 ⟨rfl, hM3, hC3⟩
        go_wp2_with fail
        refine (Word_any _ _ _ 64 _ _ ha.1 ha.2 hM3).mono ?_
        rintro e w4 ⟨rfl, rfl⟩
        go_wp2_with fail
        refine (Word_any _ _ _ 64 _ _ hb.1 hb.2 hM3).mono ?_
        rintro e w4 ⟨rfl, rfl⟩
        have hlw := hM.len
        have hBf : Below w.heap.size w w3 := below_chg (S := [bl]) hB hC3 (by simp; omega) (Nat.le_refl _)
        by_cases hr : 0 ≤ a ∧ a < 512
        · have e1 : memErr 512 a = 0 := memErr_in hr
          have e2 : memWord (memPut ws a 7777) a = 7777 := memWord_put_same (by omega)
          by_cases hab : a = b
          · subst hab
            clear hlw
            go_wp2_with fail
            go_ret
            exact ⟨rfl, hBf⟩
          · have e3 : memWord (memPut ws a 7777) b = memWord ws b := memWord_put_other hab
            have e4 : (a == b) = false := by simpa using hab
            clear hlw hab
            go_wp2_with fail
            go_ret
            exact ⟨rfl, hBf⟩
        · have e1 : memErr 512 a = 2 := memErr_out hr
          have e2 : memPut ws a 7777 = ws := memPut_out (by omega)
          clear hlw
          go_wp2_with fail
          go_ret
          exact ⟨rfl, hBf⟩

end Go.Proofs.Ytajgbhfhppendaa
