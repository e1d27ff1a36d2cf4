/- The chapter's first example: the walk. -/
import Derived.Test.YthlhjahhjoclfaaCd24
namespace Go.Proofs.Ythlhjahhjoclfaa
set_option maxRecDepth 100000
open Go.RowKit

theorem Try.infoU64 : (Try.prog.info? 32).map (fun i => (i.zero, i.size, i.bytes)) = some (some (.int .u64 0), 1, 8) := by kernel_rfl
theorem Try.cellsU64 : Try.prog.cellsOf 32 = 1 := by kernel_rfl
theorem eq_three (w : World) (a0 a1 a2 b0 b1 b2 : Int) :
    (Op.equalIn 10000 54 (.agg #[.int .u64 a0, .int .u64 a1, .int .u64 a2]) (.agg #[.int .u64 b0, .int .u64 b1, .int .u64 b2])).run Try.prog w = .ok (eqInts [a0, a1, a2] [b0, b1, b2]) w := by
  obtain ⟨i0, hi, _⟩ := info_parts Try.infoU64
  exact run_eq_array w 9998 (k := .u64) Try.underlying54 hi Try.cellsU64 Try.underlying32 [a0, a1, a2] [b0, b1, b2] rfl rfl

theorem make_zeros (w : World) : (Instr.makeSlice 50 (.int .i64 504) (.int .i64 504)).run Try.prog w = .ok (.slice (some ⟨w.heap.size, 0, none⟩) 504 504) (w.alloc (.cells (zeros.map (Value.int .u64)).toArray 32)) := by
  obtain ⟨i0, hi, hz0, hz1, hz2⟩ := info_parts Try.infoU64
  have h := run_make (P := Try.prog) w 50 32 i0 _ Try.underlying50 hi hz0 .i64 .i64 504 504 (by omega) (Int.le_refl _) (by rw [hz2]; omega) (by omega)
  rw [hz1, show (504 : Int).toNat = 504 from rfl, madeCells_replicate (.int .u64 0) 0 _ _ (by rfl)] at h
  rw [h]
  simp [zeros]

theorem zeros_len : zeros.length = 504 := by simp [zeros]
theorem M1_len : M1.length = 504 := (run9_mem push7_use zeros_ok).1.trans zeros_len
theorem M1_ok : ∀ x ∈ M1, uok x := (run9_mem push7_use zeros_ok).2
theorem M2_len : M2.length = 504 := (run9_mem pop2_use M1_ok).1.trans M1_len
theorem M2_ok : ∀ x ∈ M2, uok x := (run9_mem pop2_use M1_ok).2

theorem answers_504 (W : World) (A : Option Addr) (cap : Nat) (l : List Ins) (bm : Nat) (M0 : List Int) (h504 : M0.length = 504)
    (hl : l.length ≤ 1024) (hu : ∀ i ∈ l, UseI l.length i) (hA : RdI W W.heap.size A l) (hAm : ∀ a, A = some a → a.block ∉ [bm]) (hMok : ∀ x ∈ M0, uok x) (hB : Blk W bm (M0.map (Value.int .u64)) 32) :
    Calls Try.prog 22 #[.slice A l.length cap, .slice (some ⟨bm, 0, none⟩) 504 504] W (AnsPost W bm l M0) := by
  have h := answers_any W A cap l bm M0 hl hu hA hAm (by omega) hMok hB
  rwa [h504] at h

/-- A list of instructions of a call's own, as a slice that is read. -/
theorem row_slice {w : World} {base bm : Nat} {v : Value} {l : List Ins} (h : w.ownsRow base 25 5 v l.length (l.flatMap encI)) (hb : bm < base) : ∃ A cap, v = .slice A l.length cap ∧ RdI w w.heap.size A l ∧ ∀ a, A = some a → a.block ∉ [bm] := by
  obtain ⟨A, cap, rfl, _, _, _, hR, hbk⟩ := Rd.of_row encI_len h
  refine ⟨A, cap, rfl, hR, fun a e hm => ?_⟩
  have := hbk a e
  have hm' : a.block = bm := by simpa using hm
  exact ownsRow_notMem h hb (by rw [this, hm']; simp)

set_option maxHeartbeats 8000000 in
theorem alive_any (W : World) : Calls Try.prog 20 #[] W fun e w' => e = .returned (.bool true) ∧ Chg [] W w' := by
  have hmk := make_zeros
  have hq := eq_three
  have q1 : eqInts [1, 0, 0] [1, 0, 0] = true := by decide
  have q2 : eqInts [1, 7, 0] [1, 7, 0] = true := by decide
  have q3 : eqInts [0, 0, 0] [0, 0, 0] = true := by decide
  have HB := Lib.hid (Blk.new W (zeros.map (Value.int .u64)) 32)
  have HC := Lib.hid ((Chg.refl [] W).alloc (.cells (zeros.map (Value.int .u64)).toArray 32))
  have HS : Hid (W.heap.size < (W.alloc (.cells (zeros.map (Value.int .u64)).toArray 32)).heap.size) := Lib.hid (by simp)
  go_enter Try.func20, Try.ntmps20
  go_wp2_with fail
  refine (QueuePush_yes _ 0 2 7 (by decide) (by decide) (by decide)).mono ?_
  rintro e w1 ⟨v1, rfl, hr, hx⟩
  have hr1 : w1.ownsRow _ 25 5 v1 push7.length (push7.flatMap encI) := hr
  obtain ⟨A1, c1, rfl, hA1, hAm1⟩ := row_slice (bm := W.heap.size) hr1 HS.out
  have HA1 := Lib.hid hA1
  have HAm1 := Lib.hid hAm1
  replace HB := Lib.hid (hx.blk HB.out (by simp))
  replace HC := Lib.hid (HC.out.trans hx)
  replace HS : Hid (W.heap.size < w1.heap.size) := Lib.hid HB.out.lt
  clear hr hr1 hA1 hAm1 hx
  go_wp2_with fail
  refine (QueuePop_yes _ 0 2 (by decide)).mono ?_
  rintro e w2 ⟨v2, rfl, hr, hx⟩
  have hr1 : w2.ownsRow _ 25 5 v2 pop2.length (pop2.flatMap encI) := hr
  obtain ⟨A2, c2, rfl, hA2, hAm2⟩ := row_slice (bm := W.heap.size) hr1 HS.out
  have HA2 := Lib.hid hA2
  have HAm2 := Lib.hid hAm2
  replace HA1 := Lib.hid (HA1.out.chg0 hx)
  replace HB := Lib.hid (hx.blk HB.out (by simp))
  replace HC := Lib.hid (HC.out.trans hx)
  clear hr hr1 hA2 hAm2 hx
  go_wp2_with fail
  refine (answers_504 _ A1 c1 push7 W.heap.size zeros zeros_len push7_len push7_use HA1.out HAm1.out zeros_ok HB.out).mono ?_
  rintro e w3 ⟨a0, a1, a2, ha, rfl, hb, hx⟩
  obtain ⟨rfl, rfl, rfl⟩ : a0 = 1 ∧ a1 = 0 ∧ a2 = 0 := by have := ha.symm.trans alive_1; simpa using this
  replace HB : Hid (Blk w3 W.heap.size (M1.map (Value.int .u64)) 32) := Lib.hid hb
  replace HA2 := Lib.hid (HA2.out.chg hx HAm2.out)
  replace HC := Lib.hid (HC.out.trans' hx (fun x hx hl => by simp at hx; omega))
  clear ha hb hx
  go_wp2_with fail
  refine (answers_504 _ A2 c2 pop2 W.heap.size M1 M1_len pop2_len pop2_use HA2.out HAm2.out M1_ok HB.out).mono ?_
  rintro e w4 ⟨a0, a1, a2, ha, rfl, hb, hx⟩
  obtain ⟨rfl, rfl, rfl⟩ : a0 = 1 ∧ a1 = 7 ∧ a2 = 0 := by have := ha.symm.trans alive_2; simpa using this
  replace HB : Hid (Blk w4 W.heap.size (M2.map (Value.int .u64)) 32) := Lib.hid hb
  replace HA2 := Lib.hid (HA2.out.chg hx HAm2.out)
  replace HC := Lib.hid (HC.out.trans' hx (fun x hx hl => by simp at hx; omega))
  clear ha hb hx
  go_wp2_with fail
  refine (answers_504 _ A2 c2 pop2 W.heap.size M2 M2_len pop2_len pop2_use HA2.out HAm2.out M2_ok HB.out).mono ?_
  rintro e w5 ⟨a0, a1, a2, ha, rfl, hb, hx⟩
  obtain ⟨rfl, rfl, rfl⟩ : a0 = 0 ∧ a1 = 0 ∧ a2 = 0 := by have := ha.symm.trans alive_3; simpa using this
  replace HC := Lib.hid (HC.out.trans' hx (fun x hx hl => by simp at hx; omega))
  clear ha hb hx
  go_wp2_with fail
  go_ret
  exact ⟨rfl, HC.out⟩
end Go.Proofs.Ythlhjahhjoclfaa
