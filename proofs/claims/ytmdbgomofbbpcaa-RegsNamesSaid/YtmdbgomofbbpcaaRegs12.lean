/- RegsNames: the chapter's examples. -/
import Derived.Test.YtmdbgomofbbpcaaRegs11
namespace Go.Proofs.Ytmdbgomofbbpcaa
open Go.RowKit

theorem fz1 : fRestore fNew = fNew := rfl
theorem fz2 : fDrop fNew = fNew := rfl
theorem fz3 : fSet fNew 8 1 = fNew := rfl
theorem fz4 : fJump fNew (-1) = fNew := rfl
theorem fz5 : fDrop (fSave fNew) = fNew := rfl

theorem noFile_zero {w : World} {b : Nat} {l : List Value} {t : TypeId} (h : Blk w b l t) (hl : l[10]? = some (.bool false)) : NoFile w (.pointer (some ⟨b, 0, none⟩)) := .inr ⟨b, rfl, (h.cell 10).trans hl⟩

set_option maxRecDepth 100000 in
set_option maxHeartbeats 2000000 in
theorem RegsNames_any (w : World) : Calls Try.prog 5 #[] w (StaysPost w) := by
  go_enter Try.func5, Try.ntmps5
  go_wp2_with fail
  refine (New_any w).mono ?_
  rintro e w1 ⟨rfl, hF1, hC1, -⟩
  have hO : OwnAt w w1 w.heap.size fNew := ⟨hF1, Nat.le_refl _, hC1.nil_below⟩
  obtain ⟨a, ha⟩ : ∃ a, a = w.heap.size := ⟨_, rfl⟩
  rw [← ha] at hO ⊢
  clear hF1 hC1 ha
  go_wp2_with fail
  refine (Restore_any _ a _ hO.f).mono ?_
  rintro e w2 ⟨rfl, hFx, hCx⟩
  replace hO := hO.did hFx hCx
  clear hFx hCx
  rw [fz1] at hO
  have m1 : markErr fNew = 60 := rfl
  rw [m1]
  go_wp2_with fail
  refine (Drop_any _ a _ hO.f).mono ?_
  rintro e w3 ⟨rfl, hFx, hCx⟩
  replace hO := hO.did hFx hCx
  clear hFx hCx
  rw [fz2] at hO
  rw [m1]
  go_wp2_with fail
  refine (Point_any _ a _ hO.f).mono ?_
  rintro e w4 ⟨rfl, hCx⟩
  simp only [u64s, List.map_cons, List.map_nil]
  replace hO := hO.look hCx
  clear hCx
  simp only [fNew, zeros8, List.map_cons, List.map_nil]
  go_wp2_with fail
  have ku := Blk.new w4 [.int .u64 0, .int .u64 0, .int .u64 0, .int .u64 0, .int .u64 0, .int .u64 0, .int .u64 0, .int .u64 0] 27
  replace hO := hO.alloc (.cells #[.int .u64 0, .int .u64 0, .int .u64 0, .int .u64 0, .int .u64 0, .int .u64 0, .int .u64 0, .int .u64 0] 27)
  generalize w4.alloc (.cells #[.int .u64 0, .int .u64 0, .int .u64 0, .int .u64 0, .int .u64 0, .int .u64 0, .int .u64 0, .int .u64 0] 27) = w5 at *
  generalize w4.heap.size = t1 at *
  have ht1a : t1 ≠ a := by obtain ⟨_, kf⟩ := hO.f.block; exact ku.ne kf (by decide)
  clear ku ht1a
  refine (Set_any _ a _ 8 1 hO.f).mono ?_
  rintro e w6 ⟨rfl, hFx, hCx⟩
  replace hO := hO.did hFx hCx
  clear hFx hCx
  rw [fz3] at hO
  have m2 : memErr 8 8 = 2 := rfl
  rw [m2]
  go_wp2_with fail
  refine (Get_any _ a _ (-1) hO.f).mono ?_
  rintro e w7 ⟨rfl, rfl⟩
  have m3 : memErr 8 (-1) = 2 := rfl
  have m4 : memWord fNew.rs (-1) = 0 := rfl
  rw [m3, m4]
  go_wp2_with fail
  refine (Jump_any _ a _ (-1) (by decide) hO.f).mono ?_
  rintro e w8 ⟨rfl, hFx, hCx⟩
  replace hO := hO.did hFx hCx
  clear hFx hCx
  rw [fz4] at hO
  have m5 : jumpErr (-1) = 2 := rfl
  rw [m5]
  go_wp2_with fail
  refine (Save_any _ a _ hO.f).mono ?_
  rintro e w9 ⟨rfl, hFx, hCx⟩
  replace hO := hO.did hFx hCx
  clear hFx hCx
  go_wp2_with fail
  refine (Drop_any _ a _ hO.f).mono ?_
  rintro e w10 ⟨rfl, hFx, hCx⟩
  replace hO := hO.did hFx hCx
  clear hFx hCx
  rw [fz5] at hO
  have m6 : markErr (fSave fNew) = 0 := rfl
  rw [m6]
  go_wp2_with fail
  refine (Restore_any _ a _ hO.f).mono ?_
  rintro e w11 ⟨rfl, hFx, hCx⟩
  replace hO := hO.did hFx hCx
  clear hFx hCx
  rw [fz1] at hO
  rw [m1]
  go_wp2_with fail
  have kz := Blk.new w11 [.int .u64 0, .int .u64 0, .int .u64 0, .int .u64 0, .int .u64 0, .int .u64 0, .int .u64 0, .int .u64 0, .int .i64 0, .pointer none, .bool false] 49
  replace hO := hO.alloc (.cells #[.int .u64 0, .int .u64 0, .int .u64 0, .int .u64 0, .int .u64 0, .int .u64 0, .int .u64 0, .int .u64 0, .int .i64 0, .pointer none, .bool false] 49)
  generalize w11.alloc (.cells #[.int .u64 0, .int .u64 0, .int .u64 0, .int .u64 0, .int .u64 0, .int .u64 0, .int .u64 0, .int .u64 0, .int .i64 0, .pointer none, .bool false] 49) = w12 at *
  generalize w11.heap.size = z at *
  refine (Get_no _ _ 0 (.inl rfl)).mono ?_
  rintro e w13 ⟨rfl, rfl⟩
  go_wp2_with fail
  refine (Set_no _ _ 9 1 (noFile_zero kz rfl)).mono ?_
  rintro e w13 ⟨rfl, rfl⟩
  go_wp2_with fail
  refine (Point_no _ _ (fun o => noFile_zero (kz.alloc o) rfl)).mono ?_
  rintro e w14 ⟨rfl, hCx⟩
  simp only [u64s, zeros8, List.map_cons, List.map_nil]
  replace hO := hO.look hCx
  replace kz := hCx.blk kz (by simp)
  clear hCx
  go_wp2_with fail
  have ku := Blk.new w14 [.int .u64 0, .int .u64 0, .int .u64 0, .int .u64 0, .int .u64 0, .int .u64 0, .int .u64 0, .int .u64 0] 27
  replace hO := hO.alloc (.cells #[.int .u64 0, .int .u64 0, .int .u64 0, .int .u64 0, .int .u64 0, .int .u64 0, .int .u64 0, .int .u64 0] 27)
  replace kz := kz.alloc (.cells #[.int .u64 0, .int .u64 0, .int .u64 0, .int .u64 0, .int .u64 0, .int .u64 0, .int .u64 0, .int .u64 0] 27)
  generalize w14.alloc (.cells #[.int .u64 0, .int .u64 0, .int .u64 0, .int .u64 0, .int .u64 0, .int .u64 0, .int .u64 0, .int .u64 0] 27) = w15 at *
  generalize w14.heap.size = t2 at *
  have ht2a : t2 ≠ a := by obtain ⟨_, kf⟩ := hO.f.block; exact ku.ne kf (by decide)
  clear ku ht2a
  refine (Jump_no _ _ (-1) (.inl rfl)).mono ?_
  rintro e w16 ⟨rfl, rfl⟩
  go_wp2_with fail
  refine (Save_no _ _ (noFile_zero kz rfl)).mono ?_
  rintro e w16 ⟨rfl, rfl⟩
  go_wp2_with fail
  refine (Restore_no _ _ (.inl rfl)).mono ?_
  rintro e w16 ⟨rfl, hCx⟩
  replace hO := hO.look hCx
  replace kz := hCx.blk kz (by simp)
  clear hCx
  go_wp2_with fail
  refine (Drop_no _ _ (noFile_zero kz rfl)).mono ?_
  rintro e w17 ⟨rfl, rfl⟩
  go_wp2_with fail
  refine (All_no _ _ (fun o => .inl rfl)).mono ?_
  rintro e w17 ⟨rfl, hCx⟩
  simp only [u64s, zeros8, List.map_cons, List.map_nil]
  replace hO := hO.look hCx
  replace kz := hCx.blk kz (by simp)
  clear hCx
  have hq := eq_regs
  have q := eqInts_self [0, 0, 0, 0, 0, 0, 0, 0]
  go_wp2_with fail
  refine (PC_no _ _ (noFile_zero kz rfl)).mono ?_
  rintro e w18 ⟨rfl, rfl⟩
  go_wp2_with fail
  refine (alive_any _).mono ?_
  rintro e w18 ⟨rfl, hCx⟩
  replace hO := hO.look hCx
  go_wp2_with fail
  go_ret
  exact ⟨rfl, hO.bel⟩

end Go.Proofs.Ytmdbgomofbbpcaa
