/- The law MemNames: closed. -/
import Derived.Test.YtajgbhfhppendaaMem6
namespace Go.Proofs.Ytajgbhfhppendaa
open Go.RowKit

set_option maxRecDepth 100000 in
set_option maxHeartbeats 2000000 in
theorem MemNames_any (w : World) :
    Calls Try.prog 6 #[] w (StaysPost w) := by
  have p1 : memErr (8 * 64) 512 = 2 := by decide
  have p2 : memErr (8 * 64) (-1) = 2 := by decide
  have p3 : memErr 64 64 = 2 := by decide
  have p4 : memErr 64 (-1) = 2 := by decide
  go_enter Try.func6, Try.ntmps6
  go_wp2_with fail
  refine (New_bad w 1 (by decide)).mono ?_
  rintro e w0 ⟨rfl, rfl⟩
  go_wp2_with fail
  refine (New_bad w 65 (by decide)).mono ?_
  rintro e w0 ⟨rfl, rfl⟩
  go_wp2_with fail
  refine (New_ok w 64 (by decide) (by decide)).mono ?_
  rintro e w1 ⟨rfl, hM1, hC1, hs1⟩
  generalize List.replicate (8 * 64) (0 : Int) = zs at hM1
  go_wp2_with fail
  refine (Word_any _ _ _ 64 zs 512 (by decide) (by decide) hM1).mono ?_
  rintro e w0 ⟨rfl, rfl⟩
  rw [p1]
  go_wp2_with fail
  refine (Word_any _ _ _ 64 zs (-1) (by decide) (by decide) hM1).mono ?_
  rintro e w0 ⟨rfl, rfl⟩
  rw [p2]
  go_wp2_with fail
  refine (Put_any _ _ _ 64 zs 512 1 (by decide) (by decide) hM1).mono ?_
  rintro e w2 ⟨rfl, hM2, hC2⟩
  rw [p1]
  generalize memPut zs 512 1 = zs2 at hM2
  go_wp2_with fail
  refine (Line_any _ _ _ 64 zs2 64 hM2).mono ?_
  rintro e w3 ⟨rfl, hC3⟩
  have hM3 := hM2.chg hC3 (by simp) (by simp)
  rw [p3, show memLine 64 zs2 64 = zeroLine from by simp only [memLine]; rw [if_neg (by decide)]]
  simp only [u64s, zeroLine, List.map_cons, List.map_nil]
  go_wp2_with fail
  refine (Set_any _ _ _ 64 zs2 (-1) 0 0 0 0 0 0 0 0 (hM3.alloc _)).mono ?_
  rintro e w4 ⟨rfl, hM4, hC4⟩
  rw [p4]
  generalize memSet 64 zs2 (-1) 0 0 0 0 0 0 0 0 = zs3 at hM4
  go_wp2_with fail
  refine (Word_nil _ (-1)).mono ?_
  rintro e w0 ⟨rfl, rfl⟩
  go_wp2_with fail
  refine (Put_nil _ 0 1).mono ?_
  rintro e w0 ⟨rfl, rfl⟩
  go_wp2_with fail
  refine (Line_nil _ 0).mono ?_
  rintro e w5 ⟨rfl, hC5⟩
  go_wp2_with fail
  refine (Set_nil _ 0 0 0 0 0 0 0 0 0).mono ?_
  rintro e w6 ⟨rfl, hC6⟩
  go_wp2_with fail
  refine (Copy_nil _).mono ?_
  rintro e w0 ⟨rfl, rfl⟩
  go_wp2_with fail
  refine (All_nil _).mono ?_
  rintro e w7 ⟨rfl, hB7⟩
  go_wp2_with fail
  refine (alive_any _).mono ?_
  rintro e w8 ⟨rfl, hC8⟩
  go_wp2_with fail
  refine (Lines_nil _).mono ?_
  rintro e w0 ⟨rfl, rfl⟩
  go_wp2_with fail
  have b1 := hC1.nil_below
  have b2 := below_chg b1 hC2 (by simp) (Nat.le_refl _)
  have b3 := (below_chg b2 hC3 (by simp) (Nat.le_refl _))
  have b3' : Below w.heap.size w (w3.alloc _) := b3.alloc b3.size (.cells #[.int .u64 0, .int .u64 0, .int .u64 0, .int .u64 0, .int .u64 0, .int .u64 0, .int .u64 0, .int .u64 0] 36)
  have b4 := below_chg b3' hC4 (by simp) (Nat.le_refl _)
  have b5 := below_chg b4 hC5 (by simp) (Nat.le_refl _)
  have b5' : Below w.heap.size w (w5.alloc _) := b5.alloc b5.size (.cells #[.int .u64 0, .int .u64 0, .int .u64 0, .int .u64 0, .int .u64 0, .int .u64 0, .int .u64 0, .int .u64 0] 36)
  have b6 := below_chg b5' hC6 (by simp) (Nat.le_refl _)
  have b7 := b6.trans (hB7.mono b6.size)
  have b8 := below_chg b7 hC8 (by simp) (Nat.le_refl _)
  have hM5 := ((hM4.chg hC5 (by simp) (by simp)).alloc (.cells #[.int .u64 0, .int .u64 0, .int .u64 0, .int .u64 0, .int .u64 0, .int .u64 0, .int .u64 0, .int .u64 0] 36)).chg hC6 (by simp) (by simp)
  have hM8 := (hM5.below hB7 hM5.mlt hM5.llt).chg hC8 (by simp) (by simp)
  refine (Lines_any _ _ _ _ _ hM8).mono ?_
  rintro e w0 ⟨rfl, rfl⟩
  go_wp2_with fail
  go_ret
  exact ⟨rfl, b8⟩

end Go.Proofs.Ytajgbhfhppendaa
