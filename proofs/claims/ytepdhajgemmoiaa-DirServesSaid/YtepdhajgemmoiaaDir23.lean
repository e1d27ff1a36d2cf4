/- Messages compared. -/
import Derived.Test.YtepdhajgemmoiaaDir22
import Derived.Test.YtepdhajgemmoiaaArr
namespace Go.Proofs.Ytepdhajgemmoiaa
set_option maxRecDepth 100000
open Go.RowKit

theorem Try.infoU64 : (Try.prog.info? 29).map (fun i => (i.zero, i.size, i.bytes)) = some (some (.int .u64 0), 1, 8) := by kernel_rfl
theorem Try.cellsU64 : Try.prog.cellsOf 29 = 1 := by kernel_rfl
theorem eq_line (w : World) (a0 a1 a2 a3 a4 a5 a6 a7 b0 b1 b2 b3 b4 b5 b6 b7 : Int) :
    (Op.equalIn 9999 31 (.agg #[.int .u64 a0, .int .u64 a1, .int .u64 a2, .int .u64 a3, .int .u64 a4, .int .u64 a5, .int .u64 a6, .int .u64 a7]) (.agg #[.int .u64 b0, .int .u64 b1, .int .u64 b2, .int .u64 b3, .int .u64 b4, .int .u64 b5, .int .u64 b6, .int .u64 b7])).run Try.prog w = .ok (eqInts [a0, a1, a2, a3, a4, a5, a6, a7] [b0, b1, b2, b3, b4, b5, b6, b7]) w := by
  obtain ⟨i0, hi, _⟩ := info_parts Try.infoU64
  exact run_eq_array w 9997 (k := .u64) Try.underlying31 hi Try.cellsU64 Try.underlying29 [a0, a1, a2, a3, a4, a5, a6, a7] [b0, b1, b2, b3, b4, b5, b6, b7] rfl rfl
theorem eq_msg (w : World) (a b : MsgV) :
    (Op.equalIn 10000 33 a.val b.val).run Try.prog w = .ok (decide (a.k = b.k) && (decide (a.c = b.c) && (decide (a.l = b.l) && eqInts [a.d.x0, a.d.x1, a.d.x2, a.d.x3, a.d.x4, a.d.x5, a.d.x6, a.d.x7] [b.d.x0, b.d.x1, b.d.x2, b.d.x3, b.d.x4, b.d.x5, b.d.x6, b.d.x7]))) w := by
  simp only [MsgV.val]
  rw [run_equalIn_struct w 9999 _ _ _ (by kernel_rfl) (by kernel_rfl)]
  simp only [Program.fieldsOf, Try.underlying33]
  simp [Op.eqFields, part, isAgg, run_underlying Try.underlying3, run_underlying Try.underlying31, run_equalIn_int _ _ _ _ _ _ _ Try.underlying3]
  rw [eq_line]
  simp only [Result.andThen_ok]
  by_cases h1 : a.k = b.k <;> by_cases h2 : a.c = b.c <;> by_cases h3 : a.l = b.l <;> simp only [h1, h2, h3, if_true, if_false, decide_true, decide_false, Bool.true_and, Bool.false_and]
  generalize eqInts _ _ = q
  cases q <;> simp
deriving instance DecidableEq for L8
deriving instance DecidableEq for MsgV
theorem eq_msg2 (w : World) (a b : MsgV) : (Op.equalIn 10000 33 a.val b.val).run Try.prog w = .ok (decide (a = b)) w := by
  rw [eq_msg]
  congr 1
  obtain ⟨k, c, l, d⟩ := a
  obtain ⟨k2, c2, l2, d2⟩ := b
  obtain ⟨x0, x1, x2, x3, x4, x5, x6, x7⟩ := d
  obtain ⟨y0, y1, y2, y3, y4, y5, y6, y7⟩ := d2
  rw [Bool.eq_iff_iff]
  simp [eqInts]
end Go.Proofs.Ytepdhajgemmoiaa
