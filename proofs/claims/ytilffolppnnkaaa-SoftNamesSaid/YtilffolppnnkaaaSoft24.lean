/- Layer 8: calls on no path, and on one that nobody made. -/
import Derived.Test.YtilffolppnnkaaaSoft15
import Derived.Test.YtilffolppnnkaaaEl
namespace Go.Proofs.Ytilffolppnnkaaa
set_option maxRecDepth 100000
open Go.RowKit

/-- No path: a nil pointer, or a path without a log. -/
def NoPath (w : World) (v : Value) : Prop := v = .pointer none ∨ ∃ z, v = .pointer (some ⟨z, 0, none⟩) ∧ w.cell? ⟨z, 0, none⟩ = some (.pointer none)

theorem no_none (w : World) (v : Value) (h : NoPath w v) : Calls Try.prog 36 #[v] w fun e w' => e = .returned (.bool true) ∧ w = w' := by
  rcases h with rfl | ⟨z, rfl, hz⟩
  · go_enter Try.func36, Try.ntmps36
    go_wp2
    go_ret
    exact ⟨rfl, rfl⟩
  · go_enter Try.func36, Try.ntmps36
    go_wp2
    go_ret
    exact ⟨rfl, rfl⟩

theorem no_ready (w : World) (v : Value) (h : NoPath w v) : Calls Try.prog 45 #[v] w fun e w' => e = .returned (.int .i64 1) ∧ w = w' := by
  have HN := Lib.hid (no_none w v h)
  clear h
  go_enter Try.func45, Try.ntmps45
  go_wp2_with fail
  refine HN.out.mono ?_
  rintro e w' ⟨rfl, rfl⟩
  go_wp2_with fail
  go_ret
  exact ⟨rfl, rfl⟩

theorem no_touches (w : World) (v : Value) (a : Int) (h : NoPath w v) : Calls Try.prog 40 #[v, .int .i64 a] w fun e w' => e = .returned (.int .i64 1) ∧ w = w' := by
  have HN := Lib.hid (no_ready w v h)
  clear h
  go_enter Try.func40, Try.ntmps40
  go_wp2_with fail
  refine HN.out.mono ?_
  rintro e w' ⟨rfl, rfl⟩
  go_wp2_with fail
  go_ret
  exact ⟨rfl, rfl⟩

theorem no_Begin (w : World) (v : Value) (h : NoPath w v) : Calls Try.prog 14 #[v] w fun e w' => e = .returned (.int .i64 1) ∧ w = w' := by
  have HN := Lib.hid (no_none w v h)
  clear h
  go_enter Try.func14, Try.ntmps14
  go_wp2_with fail
  refine HN.out.mono ?_
  rintro e w' ⟨rfl, rfl⟩
  go_wp2_with fail
  go_ret
  exact ⟨rfl, rfl⟩

theorem no_Load (w : World) (v : Value) (a : Int) (h : NoPath w v) : Calls Try.prog 16 #[v, .int .i64 a] w fun e w' => e = .returned (.int .i64 1) ∧ w = w' := by
  have HN := Lib.hid (no_touches w v a h)
  clear h
  go_enter Try.func16, Try.ntmps16
  go_wp2_with fail
  refine HN.out.mono ?_
  rintro e w' ⟨rfl, rfl⟩
  go_wp2_with fail
  go_ret
  exact ⟨rfl, rfl⟩

theorem no_Store (w : World) (v : Value) (a x : Int) (h : NoPath w v) : Calls Try.prog 18 #[v, .int .i64 a, .int .u64 x] w fun e w' => e = .returned (.int .i64 1) ∧ w = w' := by
  have HN := Lib.hid (no_touches w v a h)
  clear h
  go_enter Try.func18, Try.ntmps18
  go_wp2_with fail
  refine HN.out.mono ?_
  rintro e w' ⟨rfl, rfl⟩
  go_wp2_with fail
  go_ret
  exact ⟨rfl, rfl⟩

theorem no_Commit (w : World) (v : Value) (h : NoPath w v) : Calls Try.prog 19 #[v] w fun e w' => e = .returned (.int .i64 1) ∧ w = w' := by
  have HN := Lib.hid (no_ready w v h)
  clear h
  go_enter Try.func19, Try.ntmps19
  go_wp2_with fail
  refine HN.out.mono ?_
  rintro e w' ⟨rfl, rfl⟩
  go_wp2_with fail
  go_ret
  exact ⟨rfl, rfl⟩

theorem no_Quit (w : World) (v : Value) (h : NoPath w v) : Calls Try.prog 28 #[v] w fun e w' => e = .returned (.int .i64 1) ∧ w = w' := by
  have HN := Lib.hid (no_ready w v h)
  clear h
  go_enter Try.func28, Try.ntmps28
  go_wp2_with fail
  refine HN.out.mono ?_
  rintro e w' ⟨rfl, rfl⟩
  go_wp2_with fail
  go_ret
  exact ⟨rfl, rfl⟩

theorem no_Give (w : World) (v : Value) (x : Int) (ok : Bool) (h : NoPath w v) : Calls Try.prog 24 #[v, .int .u64 x, .bool ok] w fun e w' => e = .returned (.int .i64 1) ∧ w = w' := by
  have HN := Lib.hid (no_none w v h)
  clear h
  go_enter Try.func24, Try.ntmps24
  go_wp2_with fail
  refine HN.out.mono ?_
  rintro e w' ⟨rfl, rfl⟩
  go_wp2_with fail
  go_ret
  exact ⟨rfl, rfl⟩

theorem no_Busy (w : World) (v : Value) (h : NoPath w v) : Calls Try.prog 26 #[v] w fun e w' => e = .returned (.bool false) ∧ w = w' := by
  have HN := Lib.hid (no_none w v h)
  clear h
  go_enter Try.func26, Try.ntmps26
  go_wp2_with fail
  refine HN.out.mono ?_
  rintro e w' ⟨rfl, rfl⟩
  go_wp2_with fail
  go_ret
  exact ⟨rfl, rfl⟩

theorem no_Live (w : World) (v : Value) (h : NoPath w v) : Calls Try.prog 21 #[v] w fun e w' => e = .returned (.bool false) ∧ w = w' := by
  have HN := Lib.hid (no_none w v h)
  clear h
  go_enter Try.func21, Try.ntmps21
  go_wp2_with fail
  refine HN.out.mono ?_
  rintro e w' ⟨rfl, rfl⟩
  go_wp2_with fail
  go_ret
  exact ⟨rfl, rfl⟩

theorem no_Writing (w : World) (v : Value) (h : NoPath w v) : Calls Try.prog 31 #[v] w fun e w' => e = .returned (.bool false) ∧ w = w' := by
  have HN := Lib.hid (no_none w v h)
  clear h
  go_enter Try.func31, Try.ntmps31
  go_wp2_with fail
  refine HN.out.mono ?_
  rintro e w' ⟨rfl, rfl⟩
  go_wp2_with fail
  go_ret
  exact ⟨rfl, rfl⟩

theorem no_Value (w : World) (v : Value) (h : NoPath w v) : Calls Try.prog 17 #[v] w fun e w' => e = .returned (.int .u64 0) ∧ w = w' := by
  have HN := Lib.hid (no_none w v h)
  clear h
  go_enter Try.func17, Try.ntmps17
  go_wp2_with fail
  refine HN.out.mono ?_
  rintro e w' ⟨rfl, rfl⟩
  go_wp2_with fail
  go_ret
  exact ⟨rfl, rfl⟩

theorem no_Ended (w : World) (v : Value) (h : NoPath w v) : Calls Try.prog 20 #[v] w fun e w' => e = .returned (.int .i64 0) ∧ w = w' := by
  have HN := Lib.hid (no_none w v h)
  clear h
  go_enter Try.func20, Try.ntmps20
  go_wp2_with fail
  refine HN.out.mono ?_
  rintro e w' ⟨rfl, rfl⟩
  go_wp2_with fail
  go_ret
  exact ⟨rfl, rfl⟩

theorem no_Points (w : World) (v : Value) (h : NoPath w v) : Calls Try.prog 27 #[v] w fun e w' => e = .returned (.int .i64 0) ∧ w = w' := by
  have HN := Lib.hid (no_none w v h)
  clear h
  go_enter Try.func27, Try.ntmps27
  go_wp2_with fail
  refine HN.out.mono ?_
  rintro e w' ⟨rfl, rfl⟩
  go_wp2_with fail
  go_ret
  exact ⟨rfl, rfl⟩

theorem no_Reads (w : World) (v : Value) (h : NoPath w v) : Calls Try.prog 32 #[v] w fun e w' => e = .returned (.slice none 0 0) ∧ w = w' := by
  have HN := Lib.hid (no_none w v h)
  clear h
  go_enter Try.func32, Try.ntmps32
  go_wp2_with fail
  refine HN.out.mono ?_
  rintro e w' ⟨rfl, rfl⟩
  go_wp2_with fail
  go_ret
  exact ⟨rfl, rfl⟩

theorem no_Writes (w : World) (v : Value) (h : NoPath w v) : Calls Try.prog 33 #[v] w fun e w' => e = .returned (.slice none 0 0) ∧ w = w' := by
  have HN := Lib.hid (no_none w v h)
  clear h
  go_enter Try.func33, Try.ntmps33
  go_wp2_with fail
  refine HN.out.mono ?_
  rintro e w' ⟨rfl, rfl⟩
  go_wp2_with fail
  go_ret
  exact ⟨rfl, rfl⟩

theorem no_Want (w : World) (v : Value) (h : NoPath w v) : Calls Try.prog 23 #[v] w fun e w' => e = .returned (.tuple #[.agg #[.int .i64 0, .int .i64 0, .int .u64 0, .int .u64 0], .bool false]) ∧ Chg [] w w' := by
  have hn : NoPath (w.alloc (.cells #[.int .i64 0, .int .i64 0, .int .u64 0, .int .u64 0] 49)) v := by
    rcases h with rfl | ⟨z, rfl, hz⟩
    · exact .inl rfl
    · refine .inr ⟨z, rfl, ?_⟩
      have hb := World.block_lt_of_cell? w _ hz
      exact (((Chg.refl [] w).alloc _).cell0 hb 0).trans hz
  have HN := Lib.hid (no_none _ v hn)
  clear h hn
  go_enter Try.func23, Try.ntmps23
  go_wp2_with fail
  refine HN.out.mono ?_
  rintro e w' ⟨rfl, rfl⟩
  go_wp2_with fail
  refine bodyPost_ret (v := .tuple #[.agg #[.int .i64 0, .int .i64 0, .int .u64 0, .int .u64 0], .bool false]) ?_ rfl ⟨rfl, ((Chg.refl _ _).alloc _)⟩
  simp [results, Try.results23, go_sem]

end Go.Proofs.Ytilffolppnnkaaa
