/- The document's: what an instruction may be. -/
import Derived.Test.YthlhjahhjoclfaaCd12
namespace Go.Proofs.Ythlhjahhjoclfaa
set_option maxRecDepth 100000
open Go.RowKit

def ShPost (w : World) (fa fb fc fi : Bool) (e : Ending) (w' : World) : Prop := ∃ s, e = .returned (.tuple #[.agg #[.string s, .bool fa, .bool fb, .bool fc, .bool fi], .bool true]) ∧ Chg [] w w'

set_option maxHeartbeats 1000000 in
theorem ShapeOf_2 (w : World) : Calls Try.prog 66 #[.int .i64 2] w (ShPost w true false false true) := by
  go_enter Try.func66, Try.ntmps66
  go_wp2_with fail
  refine bodyPost_ret (v := .tuple #[.agg #[.string ⟨#[115, 101, 116]⟩, .bool true, .bool false, .bool false, .bool true], .bool true]) ?_ rfl ⟨_, rfl, by repeat (first | with_reducible exact Chg.refl _ _ | with_reducible refine Chg.alloc ?_ _ | with_reducible refine Chg.drew ?_)⟩
  simp [results, Try.results66, go_sem]

set_option maxHeartbeats 1000000 in
theorem ShapeOf_3 (w : World) : Calls Try.prog 66 #[.int .i64 3] w (ShPost w true true false false) := by
  go_enter Try.func66, Try.ntmps66
  go_wp2_with fail
  refine bodyPost_ret (v := .tuple #[.agg #[.string ⟨#[109, 111, 118]⟩, .bool true, .bool true, .bool false, .bool false], .bool true]) ?_ rfl ⟨_, rfl, by repeat (first | with_reducible exact Chg.refl _ _ | with_reducible refine Chg.alloc ?_ _ | with_reducible refine Chg.drew ?_)⟩
  simp [results, Try.results66, go_sem]

set_option maxHeartbeats 1000000 in
theorem ShapeOf_4 (w : World) : Calls Try.prog 66 #[.int .i64 4] w (ShPost w true true true false) := by
  go_enter Try.func66, Try.ntmps66
  go_wp2_with fail
  refine bodyPost_ret (v := .tuple #[.agg #[.string ⟨#[97, 100, 100]⟩, .bool true, .bool true, .bool true, .bool false], .bool true]) ?_ rfl ⟨_, rfl, by repeat (first | with_reducible exact Chg.refl _ _ | with_reducible refine Chg.alloc ?_ _ | with_reducible refine Chg.drew ?_)⟩
  simp [results, Try.results66, go_sem]

set_option maxHeartbeats 1000000 in
theorem ShapeOf_5 (w : World) : Calls Try.prog 66 #[.int .i64 5] w (ShPost w true true true false) := by
  go_enter Try.func66, Try.ntmps66
  go_wp2_with fail
  refine bodyPost_ret (v := .tuple #[.agg #[.string ⟨#[115, 117, 98]⟩, .bool true, .bool true, .bool true, .bool false], .bool true]) ?_ rfl ⟨_, rfl, by repeat (first | with_reducible exact Chg.refl _ _ | with_reducible refine Chg.alloc ?_ _ | with_reducible refine Chg.drew ?_)⟩
  simp [results, Try.results66, go_sem]

set_option maxHeartbeats 1000000 in
theorem ShapeOf_6 (w : World) : Calls Try.prog 66 #[.int .i64 6] w (ShPost w true true true false) := by
  go_enter Try.func66, Try.ntmps66
  go_wp2_with fail
  refine bodyPost_ret (v := .tuple #[.agg #[.string ⟨#[109, 117, 108]⟩, .bool true, .bool true, .bool true, .bool false], .bool true]) ?_ rfl ⟨_, rfl, by repeat (first | with_reducible exact Chg.refl _ _ | with_reducible refine Chg.alloc ?_ _ | with_reducible refine Chg.drew ?_)⟩
  simp [results, Try.results66, go_sem]

set_option maxHeartbeats 1000000 in
theorem ShapeOf_7 (w : World) : Calls Try.prog 66 #[.int .i64 7] w (ShPost w true true true false) := by
  go_enter Try.func66, Try.ntmps66
  go_wp2_with fail
  refine bodyPost_ret (v := .tuple #[.agg #[.string ⟨#[97, 110, 100]⟩, .bool true, .bool true, .bool true, .bool false], .bool true]) ?_ rfl ⟨_, rfl, by repeat (first | with_reducible exact Chg.refl _ _ | with_reducible refine Chg.alloc ?_ _ | with_reducible refine Chg.drew ?_)⟩
  simp [results, Try.results66, go_sem]

set_option maxHeartbeats 1000000 in
theorem ShapeOf_8 (w : World) : Calls Try.prog 66 #[.int .i64 8] w (ShPost w true true true false) := by
  go_enter Try.func66, Try.ntmps66
  go_wp2_with fail
  refine bodyPost_ret (v := .tuple #[.agg #[.string ⟨#[120, 111, 114]⟩, .bool true, .bool true, .bool true, .bool false], .bool true]) ?_ rfl ⟨_, rfl, by repeat (first | with_reducible exact Chg.refl _ _ | with_reducible refine Chg.alloc ?_ _ | with_reducible refine Chg.drew ?_)⟩
  simp [results, Try.results66, go_sem]

set_option maxHeartbeats 1000000 in
theorem ShapeOf_9 (w : World) : Calls Try.prog 66 #[.int .i64 9] w (ShPost w true true true false) := by
  go_enter Try.func66, Try.ntmps66
  go_wp2_with fail
  refine bodyPost_ret (v := .tuple #[.agg #[.string ⟨#[115, 104, 108]⟩, .bool true, .bool true, .bool true, .bool false], .bool true]) ?_ rfl ⟨_, rfl, by repeat (first | with_reducible exact Chg.refl _ _ | with_reducible refine Chg.alloc ?_ _ | with_reducible refine Chg.drew ?_)⟩
  simp [results, Try.results66, go_sem]

set_option maxHeartbeats 1000000 in
theorem ShapeOf_10 (w : World) : Calls Try.prog 66 #[.int .i64 10] w (ShPost w true true true false) := by
  go_enter Try.func66, Try.ntmps66
  go_wp2_with fail
  refine bodyPost_ret (v := .tuple #[.agg #[.string ⟨#[115, 104, 114]⟩, .bool true, .bool true, .bool true, .bool false], .bool true]) ?_ rfl ⟨_, rfl, by repeat (first | with_reducible exact Chg.refl _ _ | with_reducible refine Chg.alloc ?_ _ | with_reducible refine Chg.drew ?_)⟩
  simp [results, Try.results66, go_sem]

set_option maxHeartbeats 1000000 in
theorem ShapeOf_11 (w : World) : Calls Try.prog 66 #[.int .i64 11] w (ShPost w true true false true) := by
  go_enter Try.func66, Try.ntmps66
  go_wp2_with fail
  refine bodyPost_ret (v := .tuple #[.agg #[.string ⟨#[108, 111, 97, 100]⟩, .bool true, .bool true, .bool false, .bool true], .bool true]) ?_ rfl ⟨_, rfl, by repeat (first | with_reducible exact Chg.refl _ _ | with_reducible refine Chg.alloc ?_ _ | with_reducible refine Chg.drew ?_)⟩
  simp [results, Try.results66, go_sem]

set_option maxHeartbeats 1000000 in
theorem ShapeOf_12 (w : World) : Calls Try.prog 66 #[.int .i64 12] w (ShPost w true true false true) := by
  go_enter Try.func66, Try.ntmps66
  go_wp2_with fail
  refine bodyPost_ret (v := .tuple #[.agg #[.string ⟨#[115, 116, 111, 114, 101]⟩, .bool true, .bool true, .bool false, .bool true], .bool true]) ?_ rfl ⟨_, rfl, by repeat (first | with_reducible exact Chg.refl _ _ | with_reducible refine Chg.alloc ?_ _ | with_reducible refine Chg.drew ?_)⟩
  simp [results, Try.results66, go_sem]

set_option maxHeartbeats 1000000 in
theorem ShapeOf_13 (w : World) : Calls Try.prog 66 #[.int .i64 13] w (ShPost w false false false true) := by
  go_enter Try.func66, Try.ntmps66
  go_wp2_with fail
  refine bodyPost_ret (v := .tuple #[.agg #[.string ⟨#[106, 117, 109, 112]⟩, .bool false, .bool false, .bool false, .bool true], .bool true]) ?_ rfl ⟨_, rfl, by repeat (first | with_reducible exact Chg.refl _ _ | with_reducible refine Chg.alloc ?_ _ | with_reducible refine Chg.drew ?_)⟩
  simp [results, Try.results66, go_sem]

set_option maxHeartbeats 1000000 in
theorem ShapeOf_14 (w : World) : Calls Try.prog 66 #[.int .i64 14] w (ShPost w true true false true) := by
  go_enter Try.func66, Try.ntmps66
  go_wp2_with fail
  refine bodyPost_ret (v := .tuple #[.agg #[.string ⟨#[101, 113]⟩, .bool true, .bool true, .bool false, .bool true], .bool true]) ?_ rfl ⟨_, rfl, by repeat (first | with_reducible exact Chg.refl _ _ | with_reducible refine Chg.alloc ?_ _ | with_reducible refine Chg.drew ?_)⟩
  simp [results, Try.results66, go_sem]

set_option maxHeartbeats 1000000 in
theorem ShapeOf_15 (w : World) : Calls Try.prog 66 #[.int .i64 15] w (ShPost w true true false true) := by
  go_enter Try.func66, Try.ntmps66
  go_wp2_with fail
  refine bodyPost_ret (v := .tuple #[.agg #[.string ⟨#[110, 101]⟩, .bool true, .bool true, .bool false, .bool true], .bool true]) ?_ rfl ⟨_, rfl, by repeat (first | with_reducible exact Chg.refl _ _ | with_reducible refine Chg.alloc ?_ _ | with_reducible refine Chg.drew ?_)⟩
  simp [results, Try.results66, go_sem]

set_option maxHeartbeats 1000000 in
theorem ShapeOf_16 (w : World) : Calls Try.prog 66 #[.int .i64 16] w (ShPost w true true false true) := by
  go_enter Try.func66, Try.ntmps66
  go_wp2_with fail
  refine bodyPost_ret (v := .tuple #[.agg #[.string ⟨#[108, 116]⟩, .bool true, .bool true, .bool false, .bool true], .bool true]) ?_ rfl ⟨_, rfl, by repeat (first | with_reducible exact Chg.refl _ _ | with_reducible refine Chg.alloc ?_ _ | with_reducible refine Chg.drew ?_)⟩
  simp [results, Try.results66, go_sem]

set_option maxHeartbeats 1000000 in
theorem ShapeOf_17 (w : World) : Calls Try.prog 66 #[.int .i64 17] w (ShPost w false false false false) := by
  go_enter Try.func66, Try.ntmps66
  go_wp2_with fail
  refine bodyPost_ret (v := .tuple #[.agg #[.string ⟨#[98, 101, 103, 105, 110]⟩, .bool false, .bool false, .bool false, .bool false], .bool true]) ?_ rfl ⟨_, rfl, by repeat (first | with_reducible exact Chg.refl _ _ | with_reducible refine Chg.alloc ?_ _ | with_reducible refine Chg.drew ?_)⟩
  simp [results, Try.results66, go_sem]

set_option maxHeartbeats 1000000 in
theorem ShapeOf_18 (w : World) : Calls Try.prog 66 #[.int .i64 18] w (ShPost w false false false false) := by
  go_enter Try.func66, Try.ntmps66
  go_wp2_with fail
  refine bodyPost_ret (v := .tuple #[.agg #[.string ⟨#[101, 110, 100]⟩, .bool false, .bool false, .bool false, .bool false], .bool true]) ?_ rfl ⟨_, rfl, by repeat (first | with_reducible exact Chg.refl _ _ | with_reducible refine Chg.alloc ?_ _ | with_reducible refine Chg.drew ?_)⟩
  simp [results, Try.results66, go_sem]

theorem register_true (w : World) (n : Int) (h0 : 0 ≤ n) (h1 : n < 8) : Calls Try.prog 67 #[.int .i64 n] w fun e w' => e = .returned (.bool true) ∧ w = w' := by
  go_enter Try.func67, Try.ntmps67
  go_wp2_with fail
  go_ret
  exact ⟨rfl, rfl⟩

set_option maxHeartbeats 1000000 in
theorem Legal_2 (w : World) (a b c i : Int) (a0 : 0 ≤ a) (a1 : a < 8) (b0 : 0 ≤ b) (b1 : b < 8) (c0 : 0 ≤ c) (c1 : c < 8) : Calls Try.prog 37 #[.agg #[.int .i64 2, .int .i64 a, .int .i64 b, .int .i64 c, .int .i64 i]] w fun e w' => e = .returned (.bool true) ∧ Chg [] w w' := by
  have hb := Blk.new w [.int .i64 2, .int .i64 a, .int .i64 b, .int .i64 c, .int .i64 i] 25
  have HB := Lib.hid hb
  clear hb
  have hlt : w.heap.size < (w.alloc (.cells #[.int .i64 2, .int .i64 a, .int .i64 b, .int .i64 c, .int .i64 i] 25)).heap.size := by simp
  go_enter Try.func37, Try.ntmps37
  go_wp2_with fail
  refine (ShapeOf_2 _).mono ?_
  rintro e w1 ⟨s, rfl, hx⟩
  have q0 : w1.cell? ⟨w.heap.size, 0, none⟩ = some (.int .i64 2) := (hx.blk HB.out (by simp)).cell 0
  have q1 : w1.cell? ⟨w.heap.size, 1, none⟩ = some (.int .i64 a) := (hx.blk HB.out (by simp)).cell 1
  have q2 : w1.cell? ⟨w.heap.size, 2, none⟩ = some (.int .i64 b) := (hx.blk HB.out (by simp)).cell 2
  have q3 : w1.cell? ⟨w.heap.size, 3, none⟩ = some (.int .i64 c) := (hx.blk HB.out (by simp)).cell 3
  have ql : w.heap.size < w1.heap.size := (hx.blk HB.out (by simp)).lt
  have HX := Lib.hid hx
  clear hx hlt
  go_wp2_with (first
    | (go_at_call 67; refine (register_true _ _ (by assumption) (by assumption)).mono ?_; rintro e w' ⟨rfl, rfl⟩))
  go_ret
  exact ⟨rfl, ((((Chg.refl [] w).alloc _).trans HX.out).alloc _)⟩

set_option maxHeartbeats 1000000 in
theorem Legal_3 (w : World) (a b c i : Int) (a0 : 0 ≤ a) (a1 : a < 8) (b0 : 0 ≤ b) (b1 : b < 8) (c0 : 0 ≤ c) (c1 : c < 8) : Calls Try.prog 37 #[.agg #[.int .i64 3, .int .i64 a, .int .i64 b, .int .i64 c, .int .i64 i]] w fun e w' => e = .returned (.bool true) ∧ Chg [] w w' := by
  have hb := Blk.new w [.int .i64 3, .int .i64 a, .int .i64 b, .int .i64 c, .int .i64 i] 25
  have HB := Lib.hid hb
  clear hb
  have hlt : w.heap.size < (w.alloc (.cells #[.int .i64 3, .int .i64 a, .int .i64 b, .int .i64 c, .int .i64 i] 25)).heap.size := by simp
  go_enter Try.func37, Try.ntmps37
  go_wp2_with fail
  refine (ShapeOf_3 _).mono ?_
  rintro e w1 ⟨s, rfl, hx⟩
  have q0 : w1.cell? ⟨w.heap.size, 0, none⟩ = some (.int .i64 3) := (hx.blk HB.out (by simp)).cell 0
  have q1 : w1.cell? ⟨w.heap.size, 1, none⟩ = some (.int .i64 a) := (hx.blk HB.out (by simp)).cell 1
  have q2 : w1.cell? ⟨w.heap.size, 2, none⟩ = some (.int .i64 b) := (hx.blk HB.out (by simp)).cell 2
  have q3 : w1.cell? ⟨w.heap.size, 3, none⟩ = some (.int .i64 c) := (hx.blk HB.out (by simp)).cell 3
  have ql : w.heap.size < w1.heap.size := (hx.blk HB.out (by simp)).lt
  have HX := Lib.hid hx
  clear hx hlt
  go_wp2_with (first
    | (go_at_call 67; refine (register_true _ _ (by assumption) (by assumption)).mono ?_; rintro e w' ⟨rfl, rfl⟩))
  go_ret
  exact ⟨rfl, ((((Chg.refl [] w).alloc _).trans HX.out).alloc _)⟩

set_option maxHeartbeats 1000000 in
theorem Legal_4 (w : World) (a b c i : Int) (a0 : 0 ≤ a) (a1 : a < 8) (b0 : 0 ≤ b) (b1 : b < 8) (c0 : 0 ≤ c) (c1 : c < 8) : Calls Try.prog 37 #[.agg #[.int .i64 4, .int .i64 a, .int .i64 b, .int .i64 c, .int .i64 i]] w fun e w' => e = .returned (.bool true) ∧ Chg [] w w' := by
  have hb := Blk.new w [.int .i64 4, .int .i64 a, .int .i64 b, .int .i64 c, .int .i64 i] 25
  have HB := Lib.hid hb
  clear hb
  have hlt : w.heap.size < (w.alloc (.cells #[.int .i64 4, .int .i64 a, .int .i64 b, .int .i64 c, .int .i64 i] 25)).heap.size := by simp
  go_enter Try.func37, Try.ntmps37
  go_wp2_with fail
  refine (ShapeOf_4 _).mono ?_
  rintro e w1 ⟨s, rfl, hx⟩
  have q0 : w1.cell? ⟨w.heap.size, 0, none⟩ = some (.int .i64 4) := (hx.blk HB.out (by simp)).cell 0
  have q1 : w1.cell? ⟨w.heap.size, 1, none⟩ = some (.int .i64 a) := (hx.blk HB.out (by simp)).cell 1
  have q2 : w1.cell? ⟨w.heap.size, 2, none⟩ = some (.int .i64 b) := (hx.blk HB.out (by simp)).cell 2
  have q3 : w1.cell? ⟨w.heap.size, 3, none⟩ = some (.int .i64 c) := (hx.blk HB.out (by simp)).cell 3
  have ql : w.heap.size < w1.heap.size := (hx.blk HB.out (by simp)).lt
  have HX := Lib.hid hx
  clear hx hlt
  go_wp2_with (first
    | (go_at_call 67; refine (register_true _ _ (by assumption) (by assumption)).mono ?_; rintro e w' ⟨rfl, rfl⟩))
  go_ret
  exact ⟨rfl, ((((Chg.refl [] w).alloc _).trans HX.out).alloc _)⟩

set_option maxHeartbeats 1000000 in
theorem Legal_5 (w : World) (a b c i : Int) (a0 : 0 ≤ a) (a1 : a < 8) (b0 : 0 ≤ b) (b1 : b < 8) (c0 : 0 ≤ c) (c1 : c < 8) : Calls Try.prog 37 #[.agg #[.int .i64 5, .int .i64 a, .int .i64 b, .int .i64 c, .int .i64 i]] w fun e w' => e = .returned (.bool true) ∧ Chg [] w w' := by
  have hb := Blk.new w [.int .i64 5, .int .i64 a, .int .i64 b, .int .i64 c, .int .i64 i] 25
  have HB := Lib.hid hb
  clear hb
  have hlt : w.heap.size < (w.alloc (.cells #[.int .i64 5, .int .i64 a, .int .i64 b, .int .i64 c, .int .i64 i] 25)).heap.size := by simp
  go_enter Try.func37, Try.ntmps37
  go_wp2_with fail
  refine (ShapeOf_5 _).mono ?_
  rintro e w1 ⟨s, rfl, hx⟩
  have q0 : w1.cell? ⟨w.heap.size, 0, none⟩ = some (.int .i64 5) := (hx.blk HB.out (by simp)).cell 0
  have q1 : w1.cell? ⟨w.heap.size, 1, none⟩ = some (.int .i64 a) := (hx.blk HB.out (by simp)).cell 1
  have q2 : w1.cell? ⟨w.heap.size, 2, none⟩ = some (.int .i64 b) := (hx.blk HB.out (by simp)).cell 2
  have q3 : w1.cell? ⟨w.heap.size, 3, none⟩ = some (.int .i64 c) := (hx.blk HB.out (by simp)).cell 3
  have ql : w.heap.size < w1.heap.size := (hx.blk HB.out (by simp)).lt
  have HX := Lib.hid hx
  clear hx hlt
  go_wp2_with (first
    | (go_at_call 67; refine (register_true _ _ (by assumption) (by assumption)).mono ?_; rintro e w' ⟨rfl, rfl⟩))
  go_ret
  exact ⟨rfl, ((((Chg.refl [] w).alloc _).trans HX.out).alloc _)⟩

set_option maxHeartbeats 1000000 in
theorem Legal_6 (w : World) (a b c i : Int) (a0 : 0 ≤ a) (a1 : a < 8) (b0 : 0 ≤ b) (b1 : b < 8) (c0 : 0 ≤ c) (c1 : c < 8) : Calls Try.prog 37 #[.agg #[.int .i64 6, .int .i64 a, .int .i64 b, .int .i64 c, .int .i64 i]] w fun e w' => e = .returned (.bool true) ∧ Chg [] w w' := by
  have hb := Blk.new w [.int .i64 6, .int .i64 a, .int .i64 b, .int .i64 c, .int .i64 i] 25
  have HB := Lib.hid hb
  clear hb
  have hlt : w.heap.size < (w.alloc (.cells #[.int .i64 6, .int .i64 a, .int .i64 b, .int .i64 c, .int .i64 i] 25)).heap.size := by simp
  go_enter Try.func37, Try.ntmps37
  go_wp2_with fail
  refine (ShapeOf_6 _).mono ?_
  rintro e w1 ⟨s, rfl, hx⟩
  have q0 : w1.cell? ⟨w.heap.size, 0, none⟩ = some (.int .i64 6) := (hx.blk HB.out (by simp)).cell 0
  have q1 : w1.cell? ⟨w.heap.size, 1, none⟩ = some (.int .i64 a) := (hx.blk HB.out (by simp)).cell 1
  have q2 : w1.cell? ⟨w.heap.size, 2, none⟩ = some (.int .i64 b) := (hx.blk HB.out (by simp)).cell 2
  have q3 : w1.cell? ⟨w.heap.size, 3, none⟩ = some (.int .i64 c) := (hx.blk HB.out (by simp)).cell 3
  have ql : w.heap.size < w1.heap.size := (hx.blk HB.out (by simp)).lt
  have HX := Lib.hid hx
  clear hx hlt
  go_wp2_with (first
    | (go_at_call 67; refine (register_true _ _ (by assumption) (by assumption)).mono ?_; rintro e w' ⟨rfl, rfl⟩))
  go_ret
  exact ⟨rfl, ((((Chg.refl [] w).alloc _).trans HX.out).alloc _)⟩

set_option maxHeartbeats 1000000 in
theorem Legal_7 (w : World) (a b c i : Int) (a0 : 0 ≤ a) (a1 : a < 8) (b0 : 0 ≤ b) (b1 : b < 8) (c0 : 0 ≤ c) (c1 : c < 8) : Calls Try.prog 37 #[.agg #[.int .i64 7, .int .i64 a, .int .i64 b, .int .i64 c, .int .i64 i]] w fun e w' => e = .returned (.bool true) ∧ Chg [] w w' := by
  have hb := Blk.new w [.int .i64 7, .int .i64 a, .int .i64 b, .int .i64 c, .int .i64 i] 25
  have HB := Lib.hid hb
  clear hb
  have hlt : w.heap.size < (w.alloc (.cells #[.int .i64 7, .int .i64 a, .int .i64 b, .int .i64 c, .int .i64 i] 25)).heap.size := by simp
  go_enter Try.func37, Try.ntmps37
  go_wp2_with fail
  refine (ShapeOf_7 _).mono ?_
  rintro e w1 ⟨s, rfl, hx⟩
  have q0 : w1.cell? ⟨w.heap.size, 0, none⟩ = some (.int .i64 7) := (hx.blk HB.out (by simp)).cell 0
  have q1 : w1.cell? ⟨w.heap.size, 1, none⟩ = some (.int .i64 a) := (hx.blk HB.out (by simp)).cell 1
  have q2 : w1.cell? ⟨w.heap.size, 2, none⟩ = some (.int .i64 b) := (hx.blk HB.out (by simp)).cell 2
  have q3 : w1.cell? ⟨w.heap.size, 3, none⟩ = some (.int .i64 c) := (hx.blk HB.out (by simp)).cell 3
  have ql : w.heap.size < w1.heap.size := (hx.blk HB.out (by simp)).lt
  have HX := Lib.hid hx
  clear hx hlt
  go_wp2_with (first
    | (go_at_call 67; refine (register_true _ _ (by assumption) (by assumption)).mono ?_; rintro e w' ⟨rfl, rfl⟩))
  go_ret
  exact ⟨rfl, ((((Chg.refl [] w).alloc _).trans HX.out).alloc _)⟩

set_option maxHeartbeats 1000000 in
theorem Legal_8 (w : World) (a b c i : Int) (a0 : 0 ≤ a) (a1 : a < 8) (b0 : 0 ≤ b) (b1 : b < 8) (c0 : 0 ≤ c) (c1 : c < 8) : Calls Try.prog 37 #[.agg #[.int .i64 8, .int .i64 a, .int .i64 b, .int .i64 c, .int .i64 i]] w fun e w' => e = .returned (.bool true) ∧ Chg [] w w' := by
  have hb := Blk.new w [.int .i64 8, .int .i64 a, .int .i64 b, .int .i64 c, .int .i64 i] 25
  have HB := Lib.hid hb
  clear hb
  have hlt : w.heap.size < (w.alloc (.cells #[.int .i64 8, .int .i64 a, .int .i64 b, .int .i64 c, .int .i64 i] 25)).heap.size := by simp
  go_enter Try.func37, Try.ntmps37
  go_wp2_with fail
  refine (ShapeOf_8 _).mono ?_
  rintro e w1 ⟨s, rfl, hx⟩
  have q0 : w1.cell? ⟨w.heap.size, 0, none⟩ = some (.int .i64 8) := (hx.blk HB.out (by simp)).cell 0
  have q1 : w1.cell? ⟨w.heap.size, 1, none⟩ = some (.int .i64 a) := (hx.blk HB.out (by simp)).cell 1
  have q2 : w1.cell? ⟨w.heap.size, 2, none⟩ = some (.int .i64 b) := (hx.blk HB.out (by simp)).cell 2
  have q3 : w1.cell? ⟨w.heap.size, 3, none⟩ = some (.int .i64 c) := (hx.blk HB.out (by simp)).cell 3
  have ql : w.heap.size < w1.heap.size := (hx.blk HB.out (by simp)).lt
  have HX := Lib.hid hx
  clear hx hlt
  go_wp2_with (first
    | (go_at_call 67; refine (register_true _ _ (by assumption) (by assumption)).mono ?_; rintro e w' ⟨rfl, rfl⟩))
  go_ret
  exact ⟨rfl, ((((Chg.refl [] w).alloc _).trans HX.out).alloc _)⟩

set_option maxHeartbeats 1000000 in
theorem Legal_9 (w : World) (a b c i : Int) (a0 : 0 ≤ a) (a1 : a < 8) (b0 : 0 ≤ b) (b1 : b < 8) (c0 : 0 ≤ c) (c1 : c < 8) : Calls Try.prog 37 #[.agg #[.int .i64 9, .int .i64 a, .int .i64 b, .int .i64 c, .int .i64 i]] w fun e w' => e = .returned (.bool true) ∧ Chg [] w w' := by
  have hb := Blk.new w [.int .i64 9, .int .i64 a, .int .i64 b, .int .i64 c, .int .i64 i] 25
  have HB := Lib.hid hb
  clear hb
  have hlt : w.heap.size < (w.alloc (.cells #[.int .i64 9, .int .i64 a, .int .i64 b, .int .i64 c, .int .i64 i] 25)).heap.size := by simp
  go_enter Try.func37, Try.ntmps37
  go_wp2_with fail
  refine (ShapeOf_9 _).mono ?_
  rintro e w1 ⟨s, rfl, hx⟩
  have q0 : w1.cell? ⟨w.heap.size, 0, none⟩ = some (.int .i64 9) := (hx.blk HB.out (by simp)).cell 0
  have q1 : w1.cell? ⟨w.heap.size, 1, none⟩ = some (.int .i64 a) := (hx.blk HB.out (by simp)).cell 1
  have q2 : w1.cell? ⟨w.heap.size, 2, none⟩ = some (.int .i64 b) := (hx.blk HB.out (by simp)).cell 2
  have q3 : w1.cell? ⟨w.heap.size, 3, none⟩ = some (.int .i64 c) := (hx.blk HB.out (by simp)).cell 3
  have ql : w.heap.size < w1.heap.size := (hx.blk HB.out (by simp)).lt
  have HX := Lib.hid hx
  clear hx hlt
  go_wp2_with (first
    | (go_at_call 67; refine (register_true _ _ (by assumption) (by assumption)).mono ?_; rintro e w' ⟨rfl, rfl⟩))
  go_ret
  exact ⟨rfl, ((((Chg.refl [] w).alloc _).trans HX.out).alloc _)⟩

set_option maxHeartbeats 1000000 in
theorem Legal_10 (w : World) (a b c i : Int) (a0 : 0 ≤ a) (a1 : a < 8) (b0 : 0 ≤ b) (b1 : b < 8) (c0 : 0 ≤ c) (c1 : c < 8) : Calls Try.prog 37 #[.agg #[.int .i64 10, .int .i64 a, .int .i64 b, .int .i64 c, .int .i64 i]] w fun e w' => e = .returned (.bool true) ∧ Chg [] w w' := by
  have hb := Blk.new w [.int .i64 10, .int .i64 a, .int .i64 b, .int .i64 c, .int .i64 i] 25
  have HB := Lib.hid hb
  clear hb
  have hlt : w.heap.size < (w.alloc (.cells #[.int .i64 10, .int .i64 a, .int .i64 b, .int .i64 c, .int .i64 i] 25)).heap.size := by simp
  go_enter Try.func37, Try.ntmps37
  go_wp2_with fail
  refine (ShapeOf_10 _).mono ?_
  rintro e w1 ⟨s, rfl, hx⟩
  have q0 : w1.cell? ⟨w.heap.size, 0, none⟩ = some (.int .i64 10) := (hx.blk HB.out (by simp)).cell 0
  have q1 : w1.cell? ⟨w.heap.size, 1, none⟩ = some (.int .i64 a) := (hx.blk HB.out (by simp)).cell 1
  have q2 : w1.cell? ⟨w.heap.size, 2, none⟩ = some (.int .i64 b) := (hx.blk HB.out (by simp)).cell 2
  have q3 : w1.cell? ⟨w.heap.size, 3, none⟩ = some (.int .i64 c) := (hx.blk HB.out (by simp)).cell 3
  have ql : w.heap.size < w1.heap.size := (hx.blk HB.out (by simp)).lt
  have HX := Lib.hid hx
  clear hx hlt
  go_wp2_with (first
    | (go_at_call 67; refine (register_true _ _ (by assumption) (by assumption)).mono ?_; rintro e w' ⟨rfl, rfl⟩))
  go_ret
  exact ⟨rfl, ((((Chg.refl [] w).alloc _).trans HX.out).alloc _)⟩

set_option maxHeartbeats 1000000 in
theorem Legal_11 (w : World) (a b c i : Int) (a0 : 0 ≤ a) (a1 : a < 8) (b0 : 0 ≤ b) (b1 : b < 8) (c0 : 0 ≤ c) (c1 : c < 8) : Calls Try.prog 37 #[.agg #[.int .i64 11, .int .i64 a, .int .i64 b, .int .i64 c, .int .i64 i]] w fun e w' => e = .returned (.bool true) ∧ Chg [] w w' := by
  have hb := Blk.new w [.int .i64 11, .int .i64 a, .int .i64 b, .int .i64 c, .int .i64 i] 25
  have HB := Lib.hid hb
  clear hb
  have hlt : w.heap.size < (w.alloc (.cells #[.int .i64 11, .int .i64 a, .int .i64 b, .int .i64 c, .int .i64 i] 25)).heap.size := by simp
  go_enter Try.func37, Try.ntmps37
  go_wp2_with fail
  refine (ShapeOf_11 _).mono ?_
  rintro e w1 ⟨s, rfl, hx⟩
  have q0 : w1.cell? ⟨w.heap.size, 0, none⟩ = some (.int .i64 11) := (hx.blk HB.out (by simp)).cell 0
  have q1 : w1.cell? ⟨w.heap.size, 1, none⟩ = some (.int .i64 a) := (hx.blk HB.out (by simp)).cell 1
  have q2 : w1.cell? ⟨w.heap.size, 2, none⟩ = some (.int .i64 b) := (hx.blk HB.out (by simp)).cell 2
  have q3 : w1.cell? ⟨w.heap.size, 3, none⟩ = some (.int .i64 c) := (hx.blk HB.out (by simp)).cell 3
  have ql : w.heap.size < w1.heap.size := (hx.blk HB.out (by simp)).lt
  have HX := Lib.hid hx
  clear hx hlt
  go_wp2_with (first
    | (go_at_call 67; refine (register_true _ _ (by assumption) (by assumption)).mono ?_; rintro e w' ⟨rfl, rfl⟩))
  go_ret
  exact ⟨rfl, ((((Chg.refl [] w).alloc _).trans HX.out).alloc _)⟩

set_option maxHeartbeats 1000000 in
theorem Legal_12 (w : World) (a b c i : Int) (a0 : 0 ≤ a) (a1 : a < 8) (b0 : 0 ≤ b) (b1 : b < 8) (c0 : 0 ≤ c) (c1 : c < 8) : Calls Try.prog 37 #[.agg #[.int .i64 12, .int .i64 a, .int .i64 b, .int .i64 c, .int .i64 i]] w fun e w' => e = .returned (.bool true) ∧ Chg [] w w' := by
  have hb := Blk.new w [.int .i64 12, .int .i64 a, .int .i64 b, .int .i64 c, .int .i64 i] 25
  have HB := Lib.hid hb
  clear hb
  have hlt : w.heap.size < (w.alloc (.cells #[.int .i64 12, .int .i64 a, .int .i64 b, .int .i64 c, .int .i64 i] 25)).heap.size := by simp
  go_enter Try.func37, Try.ntmps37
  go_wp2_with fail
  refine (ShapeOf_12 _).mono ?_
  rintro e w1 ⟨s, rfl, hx⟩
  have q0 : w1.cell? ⟨w.heap.size, 0, none⟩ = some (.int .i64 12) := (hx.blk HB.out (by simp)).cell 0
  have q1 : w1.cell? ⟨w.heap.size, 1, none⟩ = some (.int .i64 a) := (hx.blk HB.out (by simp)).cell 1
  have q2 : w1.cell? ⟨w.heap.size, 2, none⟩ = some (.int .i64 b) := (hx.blk HB.out (by simp)).cell 2
  have q3 : w1.cell? ⟨w.heap.size, 3, none⟩ = some (.int .i64 c) := (hx.blk HB.out (by simp)).cell 3
  have ql : w.heap.size < w1.heap.size := (hx.blk HB.out (by simp)).lt
  have HX := Lib.hid hx
  clear hx hlt
  go_wp2_with (first
    | (go_at_call 67; refine (register_true _ _ (by assumption) (by assumption)).mono ?_; rintro e w' ⟨rfl, rfl⟩))
  go_ret
  exact ⟨rfl, ((((Chg.refl [] w).alloc _).trans HX.out).alloc _)⟩

set_option maxHeartbeats 1000000 in
theorem Legal_13 (w : World) (a b c i : Int) (a0 : 0 ≤ a) (a1 : a < 8) (b0 : 0 ≤ b) (b1 : b < 8) (c0 : 0 ≤ c) (c1 : c < 8) : Calls Try.prog 37 #[.agg #[.int .i64 13, .int .i64 a, .int .i64 b, .int .i64 c, .int .i64 i]] w fun e w' => e = .returned (.bool true) ∧ Chg [] w w' := by
  have hb := Blk.new w [.int .i64 13, .int .i64 a, .int .i64 b, .int .i64 c, .int .i64 i] 25
  have HB := Lib.hid hb
  clear hb
  have hlt : w.heap.size < (w.alloc (.cells #[.int .i64 13, .int .i64 a, .int .i64 b, .int .i64 c, .int .i64 i] 25)).heap.size := by simp
  go_enter Try.func37, Try.ntmps37
  go_wp2_with fail
  refine (ShapeOf_13 _).mono ?_
  rintro e w1 ⟨s, rfl, hx⟩
  have q0 : w1.cell? ⟨w.heap.size, 0, none⟩ = some (.int .i64 13) := (hx.blk HB.out (by simp)).cell 0
  have q1 : w1.cell? ⟨w.heap.size, 1, none⟩ = some (.int .i64 a) := (hx.blk HB.out (by simp)).cell 1
  have q2 : w1.cell? ⟨w.heap.size, 2, none⟩ = some (.int .i64 b) := (hx.blk HB.out (by simp)).cell 2
  have q3 : w1.cell? ⟨w.heap.size, 3, none⟩ = some (.int .i64 c) := (hx.blk HB.out (by simp)).cell 3
  have ql : w.heap.size < w1.heap.size := (hx.blk HB.out (by simp)).lt
  have HX := Lib.hid hx
  clear hx hlt
  go_wp2_with (first
    | (go_at_call 67; refine (register_true _ _ (by assumption) (by assumption)).mono ?_; rintro e w' ⟨rfl, rfl⟩))
  go_ret
  exact ⟨rfl, ((((Chg.refl [] w).alloc _).trans HX.out).alloc _)⟩

set_option maxHeartbeats 1000000 in
theorem Legal_14 (w : World) (a b c i : Int) (a0 : 0 ≤ a) (a1 : a < 8) (b0 : 0 ≤ b) (b1 : b < 8) (c0 : 0 ≤ c) (c1 : c < 8) : Calls Try.prog 37 #[.agg #[.int .i64 14, .int .i64 a, .int .i64 b, .int .i64 c, .int .i64 i]] w fun e w' => e = .returned (.bool true) ∧ Chg [] w w' := by
  have hb := Blk.new w [.int .i64 14, .int .i64 a, .int .i64 b, .int .i64 c, .int .i64 i] 25
  have HB := Lib.hid hb
  clear hb
  have hlt : w.heap.size < (w.alloc (.cells #[.int .i64 14, .int .i64 a, .int .i64 b, .int .i64 c, .int .i64 i] 25)).heap.size := by simp
  go_enter Try.func37, Try.ntmps37
  go_wp2_with fail
  refine (ShapeOf_14 _).mono ?_
  rintro e w1 ⟨s, rfl, hx⟩
  have q0 : w1.cell? ⟨w.heap.size, 0, none⟩ = some (.int .i64 14) := (hx.blk HB.out (by simp)).cell 0
  have q1 : w1.cell? ⟨w.heap.size, 1, none⟩ = some (.int .i64 a) := (hx.blk HB.out (by simp)).cell 1
  have q2 : w1.cell? ⟨w.heap.size, 2, none⟩ = some (.int .i64 b) := (hx.blk HB.out (by simp)).cell 2
  have q3 : w1.cell? ⟨w.heap.size, 3, none⟩ = some (.int .i64 c) := (hx.blk HB.out (by simp)).cell 3
  have ql : w.heap.size < w1.heap.size := (hx.blk HB.out (by simp)).lt
  have HX := Lib.hid hx
  clear hx hlt
  go_wp2_with (first
    | (go_at_call 67; refine (register_true _ _ (by assumption) (by assumption)).mono ?_; rintro e w' ⟨rfl, rfl⟩))
  go_ret
  exact ⟨rfl, ((((Chg.refl [] w).alloc _).trans HX.out).alloc _)⟩

set_option maxHeartbeats 1000000 in
theorem Legal_15 (w : World) (a b c i : Int) (a0 : 0 ≤ a) (a1 : a < 8) (b0 : 0 ≤ b) (b1 : b < 8) (c0 : 0 ≤ c) (c1 : c < 8) : Calls Try.prog 37 #[.agg #[.int .i64 15, .int .i64 a, .int .i64 b, .int .i64 c, .int .i64 i]] w fun e w' => e = .returned (.bool true) ∧ Chg [] w w' := by
  have hb := Blk.new w [.int .i64 15, .int .i64 a, .int .i64 b, .int .i64 c, .int .i64 i] 25
  have HB := Lib.hid hb
  clear hb
  have hlt : w.heap.size < (w.alloc (.cells #[.int .i64 15, .int .i64 a, .int .i64 b, .int .i64 c, .int .i64 i] 25)).heap.size := by simp
  go_enter Try.func37, Try.ntmps37
  go_wp2_with fail
  refine (ShapeOf_15 _).mono ?_
  rintro e w1 ⟨s, rfl, hx⟩
  have q0 : w1.cell? ⟨w.heap.size, 0, none⟩ = some (.int .i64 15) := (hx.blk HB.out (by simp)).cell 0
  have q1 : w1.cell? ⟨w.heap.size, 1, none⟩ = some (.int .i64 a) := (hx.blk HB.out (by simp)).cell 1
  have q2 : w1.cell? ⟨w.heap.size, 2, none⟩ = some (.int .i64 b) := (hx.blk HB.out (by simp)).cell 2
  have q3 : w1.cell? ⟨w.heap.size, 3, none⟩ = some (.int .i64 c) := (hx.blk HB.out (by simp)).cell 3
  have ql : w.heap.size < w1.heap.size := (hx.blk HB.out (by simp)).lt
  have HX := Lib.hid hx
  clear hx hlt
  go_wp2_with (first
    | (go_at_call 67; refine (register_true _ _ (by assumption) (by assumption)).mono ?_; rintro e w' ⟨rfl, rfl⟩))
  go_ret
  exact ⟨rfl, ((((Chg.refl [] w).alloc _).trans HX.out).alloc _)⟩

set_option maxHeartbeats 1000000 in
theorem Legal_16 (w : World) (a b c i : Int) (a0 : 0 ≤ a) (a1 : a < 8) (b0 : 0 ≤ b) (b1 : b < 8) (c0 : 0 ≤ c) (c1 : c < 8) : Calls Try.prog 37 #[.agg #[.int .i64 16, .int .i64 a, .int .i64 b, .int .i64 c, .int .i64 i]] w fun e w' => e = .returned (.bool true) ∧ Chg [] w w' := by
  have hb := Blk.new w [.int .i64 16, .int .i64 a, .int .i64 b, .int .i64 c, .int .i64 i] 25
  have HB := Lib.hid hb
  clear hb
  have hlt : w.heap.size < (w.alloc (.cells #[.int .i64 16, .int .i64 a, .int .i64 b, .int .i64 c, .int .i64 i] 25)).heap.size := by simp
  go_enter Try.func37, Try.ntmps37
  go_wp2_with fail
  refine (ShapeOf_16 _).mono ?_
  rintro e w1 ⟨s, rfl, hx⟩
  have q0 : w1.cell? ⟨w.heap.size, 0, none⟩ = some (.int .i64 16) := (hx.blk HB.out (by simp)).cell 0
  have q1 : w1.cell? ⟨w.heap.size, 1, none⟩ = some (.int .i64 a) := (hx.blk HB.out (by simp)).cell 1
  have q2 : w1.cell? ⟨w.heap.size, 2, none⟩ = some (.int .i64 b) := (hx.blk HB.out (by simp)).cell 2
  have q3 : w1.cell? ⟨w.heap.size, 3, none⟩ = some (.int .i64 c) := (hx.blk HB.out (by simp)).cell 3
  have ql : w.heap.size < w1.heap.size := (hx.blk HB.out (by simp)).lt
  have HX := Lib.hid hx
  clear hx hlt
  go_wp2_with (first
    | (go_at_call 67; refine (register_true _ _ (by assumption) (by assumption)).mono ?_; rintro e w' ⟨rfl, rfl⟩))
  go_ret
  exact ⟨rfl, ((((Chg.refl [] w).alloc _).trans HX.out).alloc _)⟩

set_option maxHeartbeats 1000000 in
theorem Legal_17 (w : World) (a b c i : Int) (a0 : 0 ≤ a) (a1 : a < 8) (b0 : 0 ≤ b) (b1 : b < 8) (c0 : 0 ≤ c) (c1 : c < 8) : Calls Try.prog 37 #[.agg #[.int .i64 17, .int .i64 a, .int .i64 b, .int .i64 c, .int .i64 i]] w fun e w' => e = .returned (.bool true) ∧ Chg [] w w' := by
  have hb := Blk.new w [.int .i64 17, .int .i64 a, .int .i64 b, .int .i64 c, .int .i64 i] 25
  have HB := Lib.hid hb
  clear hb
  have hlt : w.heap.size < (w.alloc (.cells #[.int .i64 17, .int .i64 a, .int .i64 b, .int .i64 c, .int .i64 i] 25)).heap.size := by simp
  go_enter Try.func37, Try.ntmps37
  go_wp2_with fail
  refine (ShapeOf_17 _).mono ?_
  rintro e w1 ⟨s, rfl, hx⟩
  have q0 : w1.cell? ⟨w.heap.size, 0, none⟩ = some (.int .i64 17) := (hx.blk HB.out (by simp)).cell 0
  have q1 : w1.cell? ⟨w.heap.size, 1, none⟩ = some (.int .i64 a) := (hx.blk HB.out (by simp)).cell 1
  have q2 : w1.cell? ⟨w.heap.size, 2, none⟩ = some (.int .i64 b) := (hx.blk HB.out (by simp)).cell 2
  have q3 : w1.cell? ⟨w.heap.size, 3, none⟩ = some (.int .i64 c) := (hx.blk HB.out (by simp)).cell 3
  have ql : w.heap.size < w1.heap.size := (hx.blk HB.out (by simp)).lt
  have HX := Lib.hid hx
  clear hx hlt
  go_wp2_with (first
    | (go_at_call 67; refine (register_true _ _ (by assumption) (by assumption)).mono ?_; rintro e w' ⟨rfl, rfl⟩))
  go_ret
  exact ⟨rfl, ((((Chg.refl [] w).alloc _).trans HX.out).alloc _)⟩

set_option maxHeartbeats 1000000 in
theorem Legal_18 (w : World) (a b c i : Int) (a0 : 0 ≤ a) (a1 : a < 8) (b0 : 0 ≤ b) (b1 : b < 8) (c0 : 0 ≤ c) (c1 : c < 8) : Calls Try.prog 37 #[.agg #[.int .i64 18, .int .i64 a, .int .i64 b, .int .i64 c, .int .i64 i]] w fun e w' => e = .returned (.bool true) ∧ Chg [] w w' := by
  have hb := Blk.new w [.int .i64 18, .int .i64 a, .int .i64 b, .int .i64 c, .int .i64 i] 25
  have HB := Lib.hid hb
  clear hb
  have hlt : w.heap.size < (w.alloc (.cells #[.int .i64 18, .int .i64 a, .int .i64 b, .int .i64 c, .int .i64 i] 25)).heap.size := by simp
  go_enter Try.func37, Try.ntmps37
  go_wp2_with fail
  refine (ShapeOf_18 _).mono ?_
  rintro e w1 ⟨s, rfl, hx⟩
  have q0 : w1.cell? ⟨w.heap.size, 0, none⟩ = some (.int .i64 18) := (hx.blk HB.out (by simp)).cell 0
  have q1 : w1.cell? ⟨w.heap.size, 1, none⟩ = some (.int .i64 a) := (hx.blk HB.out (by simp)).cell 1
  have q2 : w1.cell? ⟨w.heap.size, 2, none⟩ = some (.int .i64 b) := (hx.blk HB.out (by simp)).cell 2
  have q3 : w1.cell? ⟨w.heap.size, 3, none⟩ = some (.int .i64 c) := (hx.blk HB.out (by simp)).cell 3
  have ql : w.heap.size < w1.heap.size := (hx.blk HB.out (by simp)).lt
  have HX := Lib.hid hx
  clear hx hlt
  go_wp2_with (first
    | (go_at_call 67; refine (register_true _ _ (by assumption) (by assumption)).mono ?_; rintro e w' ⟨rfl, rfl⟩))
  go_ret
  exact ⟨rfl, ((((Chg.refl [] w).alloc _).trans HX.out).alloc _)⟩

end Go.Proofs.Ythlhjahhjoclfaa
