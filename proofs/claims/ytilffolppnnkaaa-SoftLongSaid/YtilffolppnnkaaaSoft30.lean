/- The document's path of layer 8: Want. -/
import Derived.Test.YtilffolppnnkaaaSoft29
import Derived.RegionTactic
import Derived.BigRegion
namespace Go.Proofs.Ytilffolppnnkaaa
set_option maxRecDepth 100000
open Go.RowKit

theorem wrap_sub (n : Int) : IntKind.u64.wrap (n - 1) = IntKind.u64.wrap (n + 18446744073709551615) := by
  unfold IntKind.wrap; simp [IntKind.bits, IntKind.signed]; omega

set_option maxHeartbeats 2000000 in
theorem dw_idle (w : World) (N : List Nat) (d : Nat) (x : DX) (s : PS) (r u : SlP) (hp : DocPh x (.idle)) (hRl : s.R.length ≤ 128) (hWl : s.W.length ≤ 128) (h1 : r.l = s.R) (h2 : u.l = s.W) (hF : FzP w N r) (hG : FzP w N u) (hb : Blk w d (dcells x s r.val u.val) 60) :
    Calls Try.prog 54 #[.pointer (some ⟨d, 0, none⟩)] w fun e w' => e = .returned (.tuple #[.agg #[.int .i64 (0), .int .i64 (0), .int .u64 (0), .int .u64 (0)], .bool false]) ∧ Chg [] w w' := by
  have hdl := hb.lt
  have hrl : r.l.length = s.R.length := by rw [h1]
  have hul : u.l.length = s.W.length := by rw [h2]
  have dc0 : (w).cell? ⟨d, 0, none⟩ = some (.int .i64 x.at_) := (hb).cell 0; have df0 : (w).frozen? ⟨d, 0, none⟩ = false := (hb).free 0; have dc1 : (w).cell? ⟨d, 1, none⟩ = some (.int .u64 x.n) := (hb).cell 1; have df1 : (w).frozen? ⟨d, 1, none⟩ = false := (hb).free 1; have dc2 : (w).cell? ⟨d, 2, none⟩ = some (.int .i64 x.a) := (hb).cell 2; have df2 : (w).frozen? ⟨d, 2, none⟩ = false := (hb).free 2; have dc3 : (w).cell? ⟨d, 3, none⟩ = some (.int .u64 x.v) := (hb).cell 3; have df3 : (w).frozen? ⟨d, 3, none⟩ = false := (hb).free 3; have dc4 : (w).cell? ⟨d, 4, none⟩ = some (.int .u64 x.g) := (hb).cell 4; have df4 : (w).frozen? ⟨d, 4, none⟩ = false := (hb).free 4; have dc5 : (w).cell? ⟨d, 5, none⟩ = some (.int .i64 x.i) := (hb).cell 5; have df5 : (w).frozen? ⟨d, 5, none⟩ = false := (hb).free 5; have dc6 : (w).cell? ⟨d, 6, none⟩ = some (.int .i64 x.to) := (hb).cell 6; have df6 : (w).frozen? ⟨d, 6, none⟩ = false := (hb).free 6; have dc7 : (w).cell? ⟨d, 7, none⟩ = some (.int .i64 x.how) := (hb).cell 7; have df7 : (w).frozen? ⟨d, 7, none⟩ = false := (hb).free 7; have dc8 : (w).cell? ⟨d, 8, none⟩ = some (.int .u64 s.snap) := (hb).cell 8; have df8 : (w).frozen? ⟨d, 8, none⟩ = false := (hb).free 8; have dc9 : (w).cell? ⟨d, 9, none⟩ = some (.int .u64 s.value) := (hb).cell 9; have df9 : (w).frozen? ⟨d, 9, none⟩ = false := (hb).free 9; have dc10 : (w).cell? ⟨d, 10, none⟩ = some (.slice r.A r.l.length r.cap) := (hb).cell 10; have df10 : (w).frozen? ⟨d, 10, none⟩ = false := (hb).free 10; have dc11 : (w).cell? ⟨d, 11, none⟩ = some (.slice u.A u.l.length u.cap) := (hb).cell 11; have df11 : (w).frozen? ⟨d, 11, none⟩ = false := (hb).free 11; have dc12 : (w).cell? ⟨d, 12, none⟩ = some (.bool s.live) := (hb).cell 12; have df12 : (w).frozen? ⟨d, 12, none⟩ = false := (hb).free 12; have dc13 : (w).cell? ⟨d, 13, none⟩ = some (.bool s.writing) := (hb).cell 13; have df13 : (w).frozen? ⟨d, 13, none⟩ = false := (hb).free 13; have dc14 : (w).cell? ⟨d, 14, none⟩ = some (.int .i64 s.ended) := (hb).cell 14; have df14 : (w).frozen? ⟨d, 14, none⟩ = false := (hb).free 14; have dc15 : (w).cell? ⟨d, 15, none⟩ = some (.int .i64 s.points) := (hb).cell 15; have df15 : (w).frozen? ⟨d, 15, none⟩ = false := (hb).free 15
  have e0 : x.at_ = 0 := by first | exact hp | exact hp.1
  rw [e0] at dc0
  clear h1 h2 hF hG hb hp hRl hWl hrl hul e0
  go_enter Try.func54, Try.ntmps54
  go_wp2_with fail
  refine bodyPost_ret (v := .tuple #[.agg #[.int .i64 (0), .int .i64 (0), .int .u64 (0), .int .u64 (0)], .bool false]) ?_ rfl ⟨rfl, (by repeat (first | with_reducible exact Chg.refl _ _ | with_reducible refine Chg.setCell ?_ (by simp) _ | with_reducible refine Chg.alloc ?_ _ | with_reducible refine Chg.drew ?_))⟩
  simp [results, Try.results54, go_sem]

set_option maxHeartbeats 2000000 in
theorem dw_beginN (w : World) (N : List Nat) (d : Nat) (x : DX) (s : PS) (r u : SlP) (hp : DocPh x (.beginN)) (hRl : s.R.length ≤ 128) (hWl : s.W.length ≤ 128) (h1 : r.l = s.R) (h2 : u.l = s.W) (hF : FzP w N r) (hG : FzP w N u) (hb : Blk w d (dcells x s r.val u.val) 60) :
    Calls Try.prog 54 #[.pointer (some ⟨d, 0, none⟩)] w fun e w' => e = .returned (.tuple #[.agg #[.int .i64 (1), .int .i64 (1), .int .u64 (0), .int .u64 (0)], .bool true]) ∧ Chg [] w w' := by
  have hdl := hb.lt
  have hrl : r.l.length = s.R.length := by rw [h1]
  have hul : u.l.length = s.W.length := by rw [h2]
  have dc0 : (w).cell? ⟨d, 0, none⟩ = some (.int .i64 x.at_) := (hb).cell 0; have df0 : (w).frozen? ⟨d, 0, none⟩ = false := (hb).free 0; have dc1 : (w).cell? ⟨d, 1, none⟩ = some (.int .u64 x.n) := (hb).cell 1; have df1 : (w).frozen? ⟨d, 1, none⟩ = false := (hb).free 1; have dc2 : (w).cell? ⟨d, 2, none⟩ = some (.int .i64 x.a) := (hb).cell 2; have df2 : (w).frozen? ⟨d, 2, none⟩ = false := (hb).free 2; have dc3 : (w).cell? ⟨d, 3, none⟩ = some (.int .u64 x.v) := (hb).cell 3; have df3 : (w).frozen? ⟨d, 3, none⟩ = false := (hb).free 3; have dc4 : (w).cell? ⟨d, 4, none⟩ = some (.int .u64 x.g) := (hb).cell 4; have df4 : (w).frozen? ⟨d, 4, none⟩ = false := (hb).free 4; have dc5 : (w).cell? ⟨d, 5, none⟩ = some (.int .i64 x.i) := (hb).cell 5; have df5 : (w).frozen? ⟨d, 5, none⟩ = false := (hb).free 5; have dc6 : (w).cell? ⟨d, 6, none⟩ = some (.int .i64 x.to) := (hb).cell 6; have df6 : (w).frozen? ⟨d, 6, none⟩ = false := (hb).free 6; have dc7 : (w).cell? ⟨d, 7, none⟩ = some (.int .i64 x.how) := (hb).cell 7; have df7 : (w).frozen? ⟨d, 7, none⟩ = false := (hb).free 7; have dc8 : (w).cell? ⟨d, 8, none⟩ = some (.int .u64 s.snap) := (hb).cell 8; have df8 : (w).frozen? ⟨d, 8, none⟩ = false := (hb).free 8; have dc9 : (w).cell? ⟨d, 9, none⟩ = some (.int .u64 s.value) := (hb).cell 9; have df9 : (w).frozen? ⟨d, 9, none⟩ = false := (hb).free 9; have dc10 : (w).cell? ⟨d, 10, none⟩ = some (.slice r.A r.l.length r.cap) := (hb).cell 10; have df10 : (w).frozen? ⟨d, 10, none⟩ = false := (hb).free 10; have dc11 : (w).cell? ⟨d, 11, none⟩ = some (.slice u.A u.l.length u.cap) := (hb).cell 11; have df11 : (w).frozen? ⟨d, 11, none⟩ = false := (hb).free 11; have dc12 : (w).cell? ⟨d, 12, none⟩ = some (.bool s.live) := (hb).cell 12; have df12 : (w).frozen? ⟨d, 12, none⟩ = false := (hb).free 12; have dc13 : (w).cell? ⟨d, 13, none⟩ = some (.bool s.writing) := (hb).cell 13; have df13 : (w).frozen? ⟨d, 13, none⟩ = false := (hb).free 13; have dc14 : (w).cell? ⟨d, 14, none⟩ = some (.int .i64 s.ended) := (hb).cell 14; have df14 : (w).frozen? ⟨d, 14, none⟩ = false := (hb).free 14; have dc15 : (w).cell? ⟨d, 15, none⟩ = some (.int .i64 s.points) := (hb).cell 15; have df15 : (w).frozen? ⟨d, 15, none⟩ = false := (hb).free 15
  have e0 : x.at_ = 1 := by first | exact hp | exact hp.1
  rw [e0] at dc0
  clear h1 h2 hF hG hb hp hRl hWl hrl hul e0
  go_enter Try.func54, Try.ntmps54
  go_wp2_with fail
  refine bodyPost_ret (v := .tuple #[.agg #[.int .i64 (1), .int .i64 (1), .int .u64 (0), .int .u64 (0)], .bool true]) ?_ rfl ⟨rfl, (by repeat (first | with_reducible exact Chg.refl _ _ | with_reducible refine Chg.setCell ?_ (by simp) _ | with_reducible refine Chg.alloc ?_ _ | with_reducible refine Chg.drew ?_))⟩
  simp [results, Try.results54, go_sem]

set_option maxHeartbeats 2000000 in
theorem dw_leaveN (w : World) (N : List Nat) (d : Nat) (x : DX) (s : PS) (r u : SlP) (how : Int) (hp : DocPh x (.leaveN how)) (hRl : s.R.length ≤ 128) (hWl : s.W.length ≤ 128) (h1 : r.l = s.R) (h2 : u.l = s.W) (hF : FzP w N r) (hG : FzP w N u) (hb : Blk w d (dcells x s r.val u.val) 60) :
    Calls Try.prog 54 #[.pointer (some ⟨d, 0, none⟩)] w fun e w' => e = .returned (.tuple #[.agg #[.int .i64 (1), .int .i64 (1), .int .u64 (0), .int .u64 (0)], .bool true]) ∧ Chg [] w w' := by
  have hdl := hb.lt
  have hrl : r.l.length = s.R.length := by rw [h1]
  have hul : u.l.length = s.W.length := by rw [h2]
  have dc0 : (w).cell? ⟨d, 0, none⟩ = some (.int .i64 x.at_) := (hb).cell 0; have df0 : (w).frozen? ⟨d, 0, none⟩ = false := (hb).free 0; have dc1 : (w).cell? ⟨d, 1, none⟩ = some (.int .u64 x.n) := (hb).cell 1; have df1 : (w).frozen? ⟨d, 1, none⟩ = false := (hb).free 1; have dc2 : (w).cell? ⟨d, 2, none⟩ = some (.int .i64 x.a) := (hb).cell 2; have df2 : (w).frozen? ⟨d, 2, none⟩ = false := (hb).free 2; have dc3 : (w).cell? ⟨d, 3, none⟩ = some (.int .u64 x.v) := (hb).cell 3; have df3 : (w).frozen? ⟨d, 3, none⟩ = false := (hb).free 3; have dc4 : (w).cell? ⟨d, 4, none⟩ = some (.int .u64 x.g) := (hb).cell 4; have df4 : (w).frozen? ⟨d, 4, none⟩ = false := (hb).free 4; have dc5 : (w).cell? ⟨d, 5, none⟩ = some (.int .i64 x.i) := (hb).cell 5; have df5 : (w).frozen? ⟨d, 5, none⟩ = false := (hb).free 5; have dc6 : (w).cell? ⟨d, 6, none⟩ = some (.int .i64 x.to) := (hb).cell 6; have df6 : (w).frozen? ⟨d, 6, none⟩ = false := (hb).free 6; have dc7 : (w).cell? ⟨d, 7, none⟩ = some (.int .i64 x.how) := (hb).cell 7; have df7 : (w).frozen? ⟨d, 7, none⟩ = false := (hb).free 7; have dc8 : (w).cell? ⟨d, 8, none⟩ = some (.int .u64 s.snap) := (hb).cell 8; have df8 : (w).frozen? ⟨d, 8, none⟩ = false := (hb).free 8; have dc9 : (w).cell? ⟨d, 9, none⟩ = some (.int .u64 s.value) := (hb).cell 9; have df9 : (w).frozen? ⟨d, 9, none⟩ = false := (hb).free 9; have dc10 : (w).cell? ⟨d, 10, none⟩ = some (.slice r.A r.l.length r.cap) := (hb).cell 10; have df10 : (w).frozen? ⟨d, 10, none⟩ = false := (hb).free 10; have dc11 : (w).cell? ⟨d, 11, none⟩ = some (.slice u.A u.l.length u.cap) := (hb).cell 11; have df11 : (w).frozen? ⟨d, 11, none⟩ = false := (hb).free 11; have dc12 : (w).cell? ⟨d, 12, none⟩ = some (.bool s.live) := (hb).cell 12; have df12 : (w).frozen? ⟨d, 12, none⟩ = false := (hb).free 12; have dc13 : (w).cell? ⟨d, 13, none⟩ = some (.bool s.writing) := (hb).cell 13; have df13 : (w).frozen? ⟨d, 13, none⟩ = false := (hb).free 13; have dc14 : (w).cell? ⟨d, 14, none⟩ = some (.int .i64 s.ended) := (hb).cell 14; have df14 : (w).frozen? ⟨d, 14, none⟩ = false := (hb).free 14; have dc15 : (w).cell? ⟨d, 15, none⟩ = some (.int .i64 s.points) := (hb).cell 15; have df15 : (w).frozen? ⟨d, 15, none⟩ = false := (hb).free 15
  have e0 : x.at_ = 12 := by first | exact hp | exact hp.1
  rw [e0] at dc0
  clear h1 h2 hF hG hb hp hRl hWl hrl hul e0
  go_enter Try.func54, Try.ntmps54
  go_wp2_with fail
  refine bodyPost_ret (v := .tuple #[.agg #[.int .i64 (1), .int .i64 (1), .int .u64 (0), .int .u64 (0)], .bool true]) ?_ rfl ⟨rfl, (by repeat (first | with_reducible exact Chg.refl _ _ | with_reducible refine Chg.setCell ?_ (by simp) _ | with_reducible refine Chg.alloc ?_ _ | with_reducible refine Chg.drew ?_))⟩
  simp [results, Try.results54, go_sem]

set_option maxHeartbeats 2000000 in
theorem dw_beginSeq (w : World) (N : List Nat) (d : Nat) (x : DX) (s : PS) (r u : SlP) (hp : DocPh x (.beginSeq)) (hRl : s.R.length ≤ 128) (hWl : s.W.length ≤ 128) (h1 : r.l = s.R) (h2 : u.l = s.W) (hF : FzP w N r) (hG : FzP w N u) (hb : Blk w d (dcells x s r.val u.val) 60) :
    Calls Try.prog 54 #[.pointer (some ⟨d, 0, none⟩)] w fun e w' => e = .returned (.tuple #[.agg #[.int .i64 (1), .int .i64 (0), .int .u64 (0), .int .u64 (0)], .bool true]) ∧ Chg [] w w' := by
  have hdl := hb.lt
  have hrl : r.l.length = s.R.length := by rw [h1]
  have hul : u.l.length = s.W.length := by rw [h2]
  have dc0 : (w).cell? ⟨d, 0, none⟩ = some (.int .i64 x.at_) := (hb).cell 0; have df0 : (w).frozen? ⟨d, 0, none⟩ = false := (hb).free 0; have dc1 : (w).cell? ⟨d, 1, none⟩ = some (.int .u64 x.n) := (hb).cell 1; have df1 : (w).frozen? ⟨d, 1, none⟩ = false := (hb).free 1; have dc2 : (w).cell? ⟨d, 2, none⟩ = some (.int .i64 x.a) := (hb).cell 2; have df2 : (w).frozen? ⟨d, 2, none⟩ = false := (hb).free 2; have dc3 : (w).cell? ⟨d, 3, none⟩ = some (.int .u64 x.v) := (hb).cell 3; have df3 : (w).frozen? ⟨d, 3, none⟩ = false := (hb).free 3; have dc4 : (w).cell? ⟨d, 4, none⟩ = some (.int .u64 x.g) := (hb).cell 4; have df4 : (w).frozen? ⟨d, 4, none⟩ = false := (hb).free 4; have dc5 : (w).cell? ⟨d, 5, none⟩ = some (.int .i64 x.i) := (hb).cell 5; have df5 : (w).frozen? ⟨d, 5, none⟩ = false := (hb).free 5; have dc6 : (w).cell? ⟨d, 6, none⟩ = some (.int .i64 x.to) := (hb).cell 6; have df6 : (w).frozen? ⟨d, 6, none⟩ = false := (hb).free 6; have dc7 : (w).cell? ⟨d, 7, none⟩ = some (.int .i64 x.how) := (hb).cell 7; have df7 : (w).frozen? ⟨d, 7, none⟩ = false := (hb).free 7; have dc8 : (w).cell? ⟨d, 8, none⟩ = some (.int .u64 s.snap) := (hb).cell 8; have df8 : (w).frozen? ⟨d, 8, none⟩ = false := (hb).free 8; have dc9 : (w).cell? ⟨d, 9, none⟩ = some (.int .u64 s.value) := (hb).cell 9; have df9 : (w).frozen? ⟨d, 9, none⟩ = false := (hb).free 9; have dc10 : (w).cell? ⟨d, 10, none⟩ = some (.slice r.A r.l.length r.cap) := (hb).cell 10; have df10 : (w).frozen? ⟨d, 10, none⟩ = false := (hb).free 10; have dc11 : (w).cell? ⟨d, 11, none⟩ = some (.slice u.A u.l.length u.cap) := (hb).cell 11; have df11 : (w).frozen? ⟨d, 11, none⟩ = false := (hb).free 11; have dc12 : (w).cell? ⟨d, 12, none⟩ = some (.bool s.live) := (hb).cell 12; have df12 : (w).frozen? ⟨d, 12, none⟩ = false := (hb).free 12; have dc13 : (w).cell? ⟨d, 13, none⟩ = some (.bool s.writing) := (hb).cell 13; have df13 : (w).frozen? ⟨d, 13, none⟩ = false := (hb).free 13; have dc14 : (w).cell? ⟨d, 14, none⟩ = some (.int .i64 s.ended) := (hb).cell 14; have df14 : (w).frozen? ⟨d, 14, none⟩ = false := (hb).free 14; have dc15 : (w).cell? ⟨d, 15, none⟩ = some (.int .i64 s.points) := (hb).cell 15; have df15 : (w).frozen? ⟨d, 15, none⟩ = false := (hb).free 15
  have e0 : x.at_ = 3 := by first | exact hp | exact hp.1
  rw [e0] at dc0
  clear h1 h2 hF hG hb hp hRl hWl hrl hul e0
  go_enter Try.func54, Try.ntmps54
  go_wp2_with fail
  refine bodyPost_ret (v := .tuple #[.agg #[.int .i64 (1), .int .i64 (0), .int .u64 (0), .int .u64 (0)], .bool true]) ?_ rfl ⟨rfl, (by repeat (first | with_reducible exact Chg.refl _ _ | with_reducible refine Chg.setCell ?_ (by simp) _ | with_reducible refine Chg.alloc ?_ _ | with_reducible refine Chg.drew ?_))⟩
  simp [results, Try.results54, go_sem]

set_option maxHeartbeats 2000000 in
theorem dw_loadSeq (w : World) (N : List Nat) (d : Nat) (x : DX) (s : PS) (r u : SlP) (a y : Int) (hp : DocPh x (.loadSeq a y)) (hRl : s.R.length ≤ 128) (hWl : s.W.length ≤ 128) (h1 : r.l = s.R) (h2 : u.l = s.W) (hF : FzP w N r) (hG : FzP w N u) (hb : Blk w d (dcells x s r.val u.val) 60) :
    Calls Try.prog 54 #[.pointer (some ⟨d, 0, none⟩)] w fun e w' => e = .returned (.tuple #[.agg #[.int .i64 (1), .int .i64 (0), .int .u64 (0), .int .u64 (0)], .bool true]) ∧ Chg [] w w' := by
  have hdl := hb.lt
  have hrl : r.l.length = s.R.length := by rw [h1]
  have hul : u.l.length = s.W.length := by rw [h2]
  have dc0 : (w).cell? ⟨d, 0, none⟩ = some (.int .i64 x.at_) := (hb).cell 0; have df0 : (w).frozen? ⟨d, 0, none⟩ = false := (hb).free 0; have dc1 : (w).cell? ⟨d, 1, none⟩ = some (.int .u64 x.n) := (hb).cell 1; have df1 : (w).frozen? ⟨d, 1, none⟩ = false := (hb).free 1; have dc2 : (w).cell? ⟨d, 2, none⟩ = some (.int .i64 x.a) := (hb).cell 2; have df2 : (w).frozen? ⟨d, 2, none⟩ = false := (hb).free 2; have dc3 : (w).cell? ⟨d, 3, none⟩ = some (.int .u64 x.v) := (hb).cell 3; have df3 : (w).frozen? ⟨d, 3, none⟩ = false := (hb).free 3; have dc4 : (w).cell? ⟨d, 4, none⟩ = some (.int .u64 x.g) := (hb).cell 4; have df4 : (w).frozen? ⟨d, 4, none⟩ = false := (hb).free 4; have dc5 : (w).cell? ⟨d, 5, none⟩ = some (.int .i64 x.i) := (hb).cell 5; have df5 : (w).frozen? ⟨d, 5, none⟩ = false := (hb).free 5; have dc6 : (w).cell? ⟨d, 6, none⟩ = some (.int .i64 x.to) := (hb).cell 6; have df6 : (w).frozen? ⟨d, 6, none⟩ = false := (hb).free 6; have dc7 : (w).cell? ⟨d, 7, none⟩ = some (.int .i64 x.how) := (hb).cell 7; have df7 : (w).frozen? ⟨d, 7, none⟩ = false := (hb).free 7; have dc8 : (w).cell? ⟨d, 8, none⟩ = some (.int .u64 s.snap) := (hb).cell 8; have df8 : (w).frozen? ⟨d, 8, none⟩ = false := (hb).free 8; have dc9 : (w).cell? ⟨d, 9, none⟩ = some (.int .u64 s.value) := (hb).cell 9; have df9 : (w).frozen? ⟨d, 9, none⟩ = false := (hb).free 9; have dc10 : (w).cell? ⟨d, 10, none⟩ = some (.slice r.A r.l.length r.cap) := (hb).cell 10; have df10 : (w).frozen? ⟨d, 10, none⟩ = false := (hb).free 10; have dc11 : (w).cell? ⟨d, 11, none⟩ = some (.slice u.A u.l.length u.cap) := (hb).cell 11; have df11 : (w).frozen? ⟨d, 11, none⟩ = false := (hb).free 11; have dc12 : (w).cell? ⟨d, 12, none⟩ = some (.bool s.live) := (hb).cell 12; have df12 : (w).frozen? ⟨d, 12, none⟩ = false := (hb).free 12; have dc13 : (w).cell? ⟨d, 13, none⟩ = some (.bool s.writing) := (hb).cell 13; have df13 : (w).frozen? ⟨d, 13, none⟩ = false := (hb).free 13; have dc14 : (w).cell? ⟨d, 14, none⟩ = some (.int .i64 s.ended) := (hb).cell 14; have df14 : (w).frozen? ⟨d, 14, none⟩ = false := (hb).free 14; have dc15 : (w).cell? ⟨d, 15, none⟩ = some (.int .i64 s.points) := (hb).cell 15; have df15 : (w).frozen? ⟨d, 15, none⟩ = false := (hb).free 15
  have e0 : x.at_ = 5 := by first | exact hp | exact hp.1
  rw [e0] at dc0
  clear h1 h2 hF hG hb hp hRl hWl hrl hul e0
  go_enter Try.func54, Try.ntmps54
  go_wp2_with fail
  refine bodyPost_ret (v := .tuple #[.agg #[.int .i64 (1), .int .i64 (0), .int .u64 (0), .int .u64 (0)], .bool true]) ?_ rfl ⟨rfl, (by repeat (first | with_reducible exact Chg.refl _ _ | with_reducible refine Chg.setCell ?_ (by simp) _ | with_reducible refine Chg.alloc ?_ _ | with_reducible refine Chg.drew ?_))⟩
  simp [results, Try.results54, go_sem]

set_option maxHeartbeats 2000000 in
theorem dw_checkSeq (w : World) (N : List Nat) (d : Nat) (x : DX) (s : PS) (r u : SlP) (to : To) (hp : DocPh x (.checkSeq to)) (hRl : s.R.length ≤ 128) (hWl : s.W.length ≤ 128) (h1 : r.l = s.R) (h2 : u.l = s.W) (hF : FzP w N r) (hG : FzP w N u) (hb : Blk w d (dcells x s r.val u.val) 60) :
    Calls Try.prog 54 #[.pointer (some ⟨d, 0, none⟩)] w fun e w' => e = .returned (.tuple #[.agg #[.int .i64 (1), .int .i64 (0), .int .u64 (0), .int .u64 (0)], .bool true]) ∧ Chg [] w w' := by
  have hdl := hb.lt
  have hrl : r.l.length = s.R.length := by rw [h1]
  have hul : u.l.length = s.W.length := by rw [h2]
  have dc0 : (w).cell? ⟨d, 0, none⟩ = some (.int .i64 x.at_) := (hb).cell 0; have df0 : (w).frozen? ⟨d, 0, none⟩ = false := (hb).free 0; have dc1 : (w).cell? ⟨d, 1, none⟩ = some (.int .u64 x.n) := (hb).cell 1; have df1 : (w).frozen? ⟨d, 1, none⟩ = false := (hb).free 1; have dc2 : (w).cell? ⟨d, 2, none⟩ = some (.int .i64 x.a) := (hb).cell 2; have df2 : (w).frozen? ⟨d, 2, none⟩ = false := (hb).free 2; have dc3 : (w).cell? ⟨d, 3, none⟩ = some (.int .u64 x.v) := (hb).cell 3; have df3 : (w).frozen? ⟨d, 3, none⟩ = false := (hb).free 3; have dc4 : (w).cell? ⟨d, 4, none⟩ = some (.int .u64 x.g) := (hb).cell 4; have df4 : (w).frozen? ⟨d, 4, none⟩ = false := (hb).free 4; have dc5 : (w).cell? ⟨d, 5, none⟩ = some (.int .i64 x.i) := (hb).cell 5; have df5 : (w).frozen? ⟨d, 5, none⟩ = false := (hb).free 5; have dc6 : (w).cell? ⟨d, 6, none⟩ = some (.int .i64 x.to) := (hb).cell 6; have df6 : (w).frozen? ⟨d, 6, none⟩ = false := (hb).free 6; have dc7 : (w).cell? ⟨d, 7, none⟩ = some (.int .i64 x.how) := (hb).cell 7; have df7 : (w).frozen? ⟨d, 7, none⟩ = false := (hb).free 7; have dc8 : (w).cell? ⟨d, 8, none⟩ = some (.int .u64 s.snap) := (hb).cell 8; have df8 : (w).frozen? ⟨d, 8, none⟩ = false := (hb).free 8; have dc9 : (w).cell? ⟨d, 9, none⟩ = some (.int .u64 s.value) := (hb).cell 9; have df9 : (w).frozen? ⟨d, 9, none⟩ = false := (hb).free 9; have dc10 : (w).cell? ⟨d, 10, none⟩ = some (.slice r.A r.l.length r.cap) := (hb).cell 10; have df10 : (w).frozen? ⟨d, 10, none⟩ = false := (hb).free 10; have dc11 : (w).cell? ⟨d, 11, none⟩ = some (.slice u.A u.l.length u.cap) := (hb).cell 11; have df11 : (w).frozen? ⟨d, 11, none⟩ = false := (hb).free 11; have dc12 : (w).cell? ⟨d, 12, none⟩ = some (.bool s.live) := (hb).cell 12; have df12 : (w).frozen? ⟨d, 12, none⟩ = false := (hb).free 12; have dc13 : (w).cell? ⟨d, 13, none⟩ = some (.bool s.writing) := (hb).cell 13; have df13 : (w).frozen? ⟨d, 13, none⟩ = false := (hb).free 13; have dc14 : (w).cell? ⟨d, 14, none⟩ = some (.int .i64 s.ended) := (hb).cell 14; have df14 : (w).frozen? ⟨d, 14, none⟩ = false := (hb).free 14; have dc15 : (w).cell? ⟨d, 15, none⟩ = some (.int .i64 s.points) := (hb).cell 15; have df15 : (w).frozen? ⟨d, 15, none⟩ = false := (hb).free 15
  have e0 : x.at_ = 6 := by first | exact hp | exact hp.1
  rw [e0] at dc0
  clear h1 h2 hF hG hb hp hRl hWl hrl hul e0
  go_enter Try.func54, Try.ntmps54
  go_wp2_with fail
  refine bodyPost_ret (v := .tuple #[.agg #[.int .i64 (1), .int .i64 (0), .int .u64 (0), .int .u64 (0)], .bool true]) ?_ rfl ⟨rfl, (by repeat (first | with_reducible exact Chg.refl _ _ | with_reducible refine Chg.setCell ?_ (by simp) _ | with_reducible refine Chg.alloc ?_ _ | with_reducible refine Chg.drew ?_))⟩
  simp [results, Try.results54, go_sem]

set_option maxHeartbeats 2000000 in
theorem dw_checkEnd (w : World) (N : List Nat) (d : Nat) (x : DX) (s : PS) (r u : SlP) (to : To) (g : Int) (hp : DocPh x (.checkEnd to g)) (hRl : s.R.length ≤ 128) (hWl : s.W.length ≤ 128) (h1 : r.l = s.R) (h2 : u.l = s.W) (hF : FzP w N r) (hG : FzP w N u) (hb : Blk w d (dcells x s r.val u.val) 60) :
    Calls Try.prog 54 #[.pointer (some ⟨d, 0, none⟩)] w fun e w' => e = .returned (.tuple #[.agg #[.int .i64 (1), .int .i64 (0), .int .u64 (0), .int .u64 (0)], .bool true]) ∧ Chg [] w w' := by
  have hdl := hb.lt
  have hrl : r.l.length = s.R.length := by rw [h1]
  have hul : u.l.length = s.W.length := by rw [h2]
  have dc0 : (w).cell? ⟨d, 0, none⟩ = some (.int .i64 x.at_) := (hb).cell 0; have df0 : (w).frozen? ⟨d, 0, none⟩ = false := (hb).free 0; have dc1 : (w).cell? ⟨d, 1, none⟩ = some (.int .u64 x.n) := (hb).cell 1; have df1 : (w).frozen? ⟨d, 1, none⟩ = false := (hb).free 1; have dc2 : (w).cell? ⟨d, 2, none⟩ = some (.int .i64 x.a) := (hb).cell 2; have df2 : (w).frozen? ⟨d, 2, none⟩ = false := (hb).free 2; have dc3 : (w).cell? ⟨d, 3, none⟩ = some (.int .u64 x.v) := (hb).cell 3; have df3 : (w).frozen? ⟨d, 3, none⟩ = false := (hb).free 3; have dc4 : (w).cell? ⟨d, 4, none⟩ = some (.int .u64 x.g) := (hb).cell 4; have df4 : (w).frozen? ⟨d, 4, none⟩ = false := (hb).free 4; have dc5 : (w).cell? ⟨d, 5, none⟩ = some (.int .i64 x.i) := (hb).cell 5; have df5 : (w).frozen? ⟨d, 5, none⟩ = false := (hb).free 5; have dc6 : (w).cell? ⟨d, 6, none⟩ = some (.int .i64 x.to) := (hb).cell 6; have df6 : (w).frozen? ⟨d, 6, none⟩ = false := (hb).free 6; have dc7 : (w).cell? ⟨d, 7, none⟩ = some (.int .i64 x.how) := (hb).cell 7; have df7 : (w).frozen? ⟨d, 7, none⟩ = false := (hb).free 7; have dc8 : (w).cell? ⟨d, 8, none⟩ = some (.int .u64 s.snap) := (hb).cell 8; have df8 : (w).frozen? ⟨d, 8, none⟩ = false := (hb).free 8; have dc9 : (w).cell? ⟨d, 9, none⟩ = some (.int .u64 s.value) := (hb).cell 9; have df9 : (w).frozen? ⟨d, 9, none⟩ = false := (hb).free 9; have dc10 : (w).cell? ⟨d, 10, none⟩ = some (.slice r.A r.l.length r.cap) := (hb).cell 10; have df10 : (w).frozen? ⟨d, 10, none⟩ = false := (hb).free 10; have dc11 : (w).cell? ⟨d, 11, none⟩ = some (.slice u.A u.l.length u.cap) := (hb).cell 11; have df11 : (w).frozen? ⟨d, 11, none⟩ = false := (hb).free 11; have dc12 : (w).cell? ⟨d, 12, none⟩ = some (.bool s.live) := (hb).cell 12; have df12 : (w).frozen? ⟨d, 12, none⟩ = false := (hb).free 12; have dc13 : (w).cell? ⟨d, 13, none⟩ = some (.bool s.writing) := (hb).cell 13; have df13 : (w).frozen? ⟨d, 13, none⟩ = false := (hb).free 13; have dc14 : (w).cell? ⟨d, 14, none⟩ = some (.int .i64 s.ended) := (hb).cell 14; have df14 : (w).frozen? ⟨d, 14, none⟩ = false := (hb).free 14; have dc15 : (w).cell? ⟨d, 15, none⟩ = some (.int .i64 s.points) := (hb).cell 15; have df15 : (w).frozen? ⟨d, 15, none⟩ = false := (hb).free 15
  have e0 : x.at_ = 8 := by first | exact hp | exact hp.1
  rw [e0] at dc0
  clear h1 h2 hF hG hb hp hRl hWl hrl hul e0
  go_enter Try.func54, Try.ntmps54
  go_wp2_with fail
  refine bodyPost_ret (v := .tuple #[.agg #[.int .i64 (1), .int .i64 (0), .int .u64 (0), .int .u64 (0)], .bool true]) ?_ rfl ⟨rfl, (by repeat (first | with_reducible exact Chg.refl _ _ | with_reducible refine Chg.setCell ?_ (by simp) _ | with_reducible refine Chg.alloc ?_ _ | with_reducible refine Chg.drew ?_))⟩
  simp [results, Try.results54, go_sem]

set_option maxHeartbeats 2000000 in
theorem dw_loadWord (w : World) (N : List Nat) (d : Nat) (x : DX) (s : PS) (r u : SlP) (a : Int) (hp : DocPh x (.loadWord a)) (hRl : s.R.length ≤ 128) (hWl : s.W.length ≤ 128) (h1 : r.l = s.R) (h2 : u.l = s.W) (hF : FzP w N r) (hG : FzP w N u) (hb : Blk w d (dcells x s r.val u.val) 60) :
    Calls Try.prog 54 #[.pointer (some ⟨d, 0, none⟩)] w fun e w' => e = .returned (.tuple #[.agg #[.int .i64 (1), .int .i64 (a), .int .u64 (0), .int .u64 (0)], .bool true]) ∧ Chg [] w w' := by
  have hdl := hb.lt
  have hrl : r.l.length = s.R.length := by rw [h1]
  have hul : u.l.length = s.W.length := by rw [h2]
  have dc0 : (w).cell? ⟨d, 0, none⟩ = some (.int .i64 x.at_) := (hb).cell 0; have df0 : (w).frozen? ⟨d, 0, none⟩ = false := (hb).free 0; have dc1 : (w).cell? ⟨d, 1, none⟩ = some (.int .u64 x.n) := (hb).cell 1; have df1 : (w).frozen? ⟨d, 1, none⟩ = false := (hb).free 1; have dc2 : (w).cell? ⟨d, 2, none⟩ = some (.int .i64 x.a) := (hb).cell 2; have df2 : (w).frozen? ⟨d, 2, none⟩ = false := (hb).free 2; have dc3 : (w).cell? ⟨d, 3, none⟩ = some (.int .u64 x.v) := (hb).cell 3; have df3 : (w).frozen? ⟨d, 3, none⟩ = false := (hb).free 3; have dc4 : (w).cell? ⟨d, 4, none⟩ = some (.int .u64 x.g) := (hb).cell 4; have df4 : (w).frozen? ⟨d, 4, none⟩ = false := (hb).free 4; have dc5 : (w).cell? ⟨d, 5, none⟩ = some (.int .i64 x.i) := (hb).cell 5; have df5 : (w).frozen? ⟨d, 5, none⟩ = false := (hb).free 5; have dc6 : (w).cell? ⟨d, 6, none⟩ = some (.int .i64 x.to) := (hb).cell 6; have df6 : (w).frozen? ⟨d, 6, none⟩ = false := (hb).free 6; have dc7 : (w).cell? ⟨d, 7, none⟩ = some (.int .i64 x.how) := (hb).cell 7; have df7 : (w).frozen? ⟨d, 7, none⟩ = false := (hb).free 7; have dc8 : (w).cell? ⟨d, 8, none⟩ = some (.int .u64 s.snap) := (hb).cell 8; have df8 : (w).frozen? ⟨d, 8, none⟩ = false := (hb).free 8; have dc9 : (w).cell? ⟨d, 9, none⟩ = some (.int .u64 s.value) := (hb).cell 9; have df9 : (w).frozen? ⟨d, 9, none⟩ = false := (hb).free 9; have dc10 : (w).cell? ⟨d, 10, none⟩ = some (.slice r.A r.l.length r.cap) := (hb).cell 10; have df10 : (w).frozen? ⟨d, 10, none⟩ = false := (hb).free 10; have dc11 : (w).cell? ⟨d, 11, none⟩ = some (.slice u.A u.l.length u.cap) := (hb).cell 11; have df11 : (w).frozen? ⟨d, 11, none⟩ = false := (hb).free 11; have dc12 : (w).cell? ⟨d, 12, none⟩ = some (.bool s.live) := (hb).cell 12; have df12 : (w).frozen? ⟨d, 12, none⟩ = false := (hb).free 12; have dc13 : (w).cell? ⟨d, 13, none⟩ = some (.bool s.writing) := (hb).cell 13; have df13 : (w).frozen? ⟨d, 13, none⟩ = false := (hb).free 13; have dc14 : (w).cell? ⟨d, 14, none⟩ = some (.int .i64 s.ended) := (hb).cell 14; have df14 : (w).frozen? ⟨d, 14, none⟩ = false := (hb).free 14; have dc15 : (w).cell? ⟨d, 15, none⟩ = some (.int .i64 s.points) := (hb).cell 15; have df15 : (w).frozen? ⟨d, 15, none⟩ = false := (hb).free 15
  have e0 : x.at_ = 4 := by first | exact hp | exact hp.1
  rw [e0] at dc0
  rw [hp.2] at dc2
  clear h1 h2 hF hG hb hp hRl hWl hrl hul e0
  go_enter Try.func54, Try.ntmps54
  go_wp2_with fail
  refine bodyPost_ret (v := .tuple #[.agg #[.int .i64 (1), .int .i64 (a), .int .u64 (0), .int .u64 (0)], .bool true]) ?_ rfl ⟨rfl, (by repeat (first | with_reducible exact Chg.refl _ _ | with_reducible refine Chg.setCell ?_ (by simp) _ | with_reducible refine Chg.alloc ?_ _ | with_reducible refine Chg.drew ?_))⟩
  simp [results, Try.results54, go_sem]

set_option maxHeartbeats 2000000 in
theorem dw_beginCas (w : World) (N : List Nat) (d : Nat) (x : DX) (s : PS) (r u : SlP) (n : Int) (hp : DocPh x (.beginCas n)) (hRl : s.R.length ≤ 128) (hWl : s.W.length ≤ 128) (h1 : r.l = s.R) (h2 : u.l = s.W) (hF : FzP w N r) (hG : FzP w N u) (hb : Blk w d (dcells x s r.val u.val) 60) :
    Calls Try.prog 54 #[.pointer (some ⟨d, 0, none⟩)] w fun e w' => e = .returned (.tuple #[.agg #[.int .i64 (3), .int .i64 (1), .int .u64 (IntKind.u64.wrap (n + 1)), .int .u64 (n)], .bool true]) ∧ Chg [] w w' := by
  have hdl := hb.lt
  have hrl : r.l.length = s.R.length := by rw [h1]
  have hul : u.l.length = s.W.length := by rw [h2]
  have dc0 : (w).cell? ⟨d, 0, none⟩ = some (.int .i64 x.at_) := (hb).cell 0; have df0 : (w).frozen? ⟨d, 0, none⟩ = false := (hb).free 0; have dc1 : (w).cell? ⟨d, 1, none⟩ = some (.int .u64 x.n) := (hb).cell 1; have df1 : (w).frozen? ⟨d, 1, none⟩ = false := (hb).free 1; have dc2 : (w).cell? ⟨d, 2, none⟩ = some (.int .i64 x.a) := (hb).cell 2; have df2 : (w).frozen? ⟨d, 2, none⟩ = false := (hb).free 2; have dc3 : (w).cell? ⟨d, 3, none⟩ = some (.int .u64 x.v) := (hb).cell 3; have df3 : (w).frozen? ⟨d, 3, none⟩ = false := (hb).free 3; have dc4 : (w).cell? ⟨d, 4, none⟩ = some (.int .u64 x.g) := (hb).cell 4; have df4 : (w).frozen? ⟨d, 4, none⟩ = false := (hb).free 4; have dc5 : (w).cell? ⟨d, 5, none⟩ = some (.int .i64 x.i) := (hb).cell 5; have df5 : (w).frozen? ⟨d, 5, none⟩ = false := (hb).free 5; have dc6 : (w).cell? ⟨d, 6, none⟩ = some (.int .i64 x.to) := (hb).cell 6; have df6 : (w).frozen? ⟨d, 6, none⟩ = false := (hb).free 6; have dc7 : (w).cell? ⟨d, 7, none⟩ = some (.int .i64 x.how) := (hb).cell 7; have df7 : (w).frozen? ⟨d, 7, none⟩ = false := (hb).free 7; have dc8 : (w).cell? ⟨d, 8, none⟩ = some (.int .u64 s.snap) := (hb).cell 8; have df8 : (w).frozen? ⟨d, 8, none⟩ = false := (hb).free 8; have dc9 : (w).cell? ⟨d, 9, none⟩ = some (.int .u64 s.value) := (hb).cell 9; have df9 : (w).frozen? ⟨d, 9, none⟩ = false := (hb).free 9; have dc10 : (w).cell? ⟨d, 10, none⟩ = some (.slice r.A r.l.length r.cap) := (hb).cell 10; have df10 : (w).frozen? ⟨d, 10, none⟩ = false := (hb).free 10; have dc11 : (w).cell? ⟨d, 11, none⟩ = some (.slice u.A u.l.length u.cap) := (hb).cell 11; have df11 : (w).frozen? ⟨d, 11, none⟩ = false := (hb).free 11; have dc12 : (w).cell? ⟨d, 12, none⟩ = some (.bool s.live) := (hb).cell 12; have df12 : (w).frozen? ⟨d, 12, none⟩ = false := (hb).free 12; have dc13 : (w).cell? ⟨d, 13, none⟩ = some (.bool s.writing) := (hb).cell 13; have df13 : (w).frozen? ⟨d, 13, none⟩ = false := (hb).free 13; have dc14 : (w).cell? ⟨d, 14, none⟩ = some (.int .i64 s.ended) := (hb).cell 14; have df14 : (w).frozen? ⟨d, 14, none⟩ = false := (hb).free 14; have dc15 : (w).cell? ⟨d, 15, none⟩ = some (.int .i64 s.points) := (hb).cell 15; have df15 : (w).frozen? ⟨d, 15, none⟩ = false := (hb).free 15
  have e0 : x.at_ = 2 := by first | exact hp | exact hp.1
  rw [e0] at dc0
  rw [hp.2] at dc1
  clear h1 h2 hF hG hb hp hRl hWl hrl hul e0
  go_enter Try.func54, Try.ntmps54
  go_wp2_with fail
  go_region
  all_goals (go_wp2_with fail)
  refine bodyPost_ret (v := .tuple #[.agg #[.int .i64 (3), .int .i64 (1), .int .u64 (IntKind.u64.wrap (n + 1)), .int .u64 (n)], .bool true]) ?_ rfl ⟨rfl, (by repeat (first | with_reducible exact Chg.refl _ _ | with_reducible refine Chg.setCell ?_ (by simp) _ | with_reducible refine Chg.alloc ?_ _ | with_reducible refine Chg.drew ?_))⟩
  simp [results, Try.results54, go_sem]

set_option maxHeartbeats 2000000 in
theorem dw_leaveCas (w : World) (N : List Nat) (d : Nat) (x : DX) (s : PS) (r u : SlP) (how n : Int) (hp : DocPh x (.leaveCas how n)) (hRl : s.R.length ≤ 128) (hWl : s.W.length ≤ 128) (h1 : r.l = s.R) (h2 : u.l = s.W) (hF : FzP w N r) (hG : FzP w N u) (hb : Blk w d (dcells x s r.val u.val) 60) :
    Calls Try.prog 54 #[.pointer (some ⟨d, 0, none⟩)] w fun e w' => e = .returned (.tuple #[.agg #[.int .i64 (3), .int .i64 (1), .int .u64 (IntKind.u64.wrap (n - 1)), .int .u64 (n)], .bool true]) ∧ Chg [] w w' := by
  have hdl := hb.lt
  have hrl : r.l.length = s.R.length := by rw [h1]
  have hul : u.l.length = s.W.length := by rw [h2]
  have dc0 : (w).cell? ⟨d, 0, none⟩ = some (.int .i64 x.at_) := (hb).cell 0; have df0 : (w).frozen? ⟨d, 0, none⟩ = false := (hb).free 0; have dc1 : (w).cell? ⟨d, 1, none⟩ = some (.int .u64 x.n) := (hb).cell 1; have df1 : (w).frozen? ⟨d, 1, none⟩ = false := (hb).free 1; have dc2 : (w).cell? ⟨d, 2, none⟩ = some (.int .i64 x.a) := (hb).cell 2; have df2 : (w).frozen? ⟨d, 2, none⟩ = false := (hb).free 2; have dc3 : (w).cell? ⟨d, 3, none⟩ = some (.int .u64 x.v) := (hb).cell 3; have df3 : (w).frozen? ⟨d, 3, none⟩ = false := (hb).free 3; have dc4 : (w).cell? ⟨d, 4, none⟩ = some (.int .u64 x.g) := (hb).cell 4; have df4 : (w).frozen? ⟨d, 4, none⟩ = false := (hb).free 4; have dc5 : (w).cell? ⟨d, 5, none⟩ = some (.int .i64 x.i) := (hb).cell 5; have df5 : (w).frozen? ⟨d, 5, none⟩ = false := (hb).free 5; have dc6 : (w).cell? ⟨d, 6, none⟩ = some (.int .i64 x.to) := (hb).cell 6; have df6 : (w).frozen? ⟨d, 6, none⟩ = false := (hb).free 6; have dc7 : (w).cell? ⟨d, 7, none⟩ = some (.int .i64 x.how) := (hb).cell 7; have df7 : (w).frozen? ⟨d, 7, none⟩ = false := (hb).free 7; have dc8 : (w).cell? ⟨d, 8, none⟩ = some (.int .u64 s.snap) := (hb).cell 8; have df8 : (w).frozen? ⟨d, 8, none⟩ = false := (hb).free 8; have dc9 : (w).cell? ⟨d, 9, none⟩ = some (.int .u64 s.value) := (hb).cell 9; have df9 : (w).frozen? ⟨d, 9, none⟩ = false := (hb).free 9; have dc10 : (w).cell? ⟨d, 10, none⟩ = some (.slice r.A r.l.length r.cap) := (hb).cell 10; have df10 : (w).frozen? ⟨d, 10, none⟩ = false := (hb).free 10; have dc11 : (w).cell? ⟨d, 11, none⟩ = some (.slice u.A u.l.length u.cap) := (hb).cell 11; have df11 : (w).frozen? ⟨d, 11, none⟩ = false := (hb).free 11; have dc12 : (w).cell? ⟨d, 12, none⟩ = some (.bool s.live) := (hb).cell 12; have df12 : (w).frozen? ⟨d, 12, none⟩ = false := (hb).free 12; have dc13 : (w).cell? ⟨d, 13, none⟩ = some (.bool s.writing) := (hb).cell 13; have df13 : (w).frozen? ⟨d, 13, none⟩ = false := (hb).free 13; have dc14 : (w).cell? ⟨d, 14, none⟩ = some (.int .i64 s.ended) := (hb).cell 14; have df14 : (w).frozen? ⟨d, 14, none⟩ = false := (hb).free 14; have dc15 : (w).cell? ⟨d, 15, none⟩ = some (.int .i64 s.points) := (hb).cell 15; have df15 : (w).frozen? ⟨d, 15, none⟩ = false := (hb).free 15
  have e0 : x.at_ = 13 := by first | exact hp | exact hp.1
  rw [e0] at dc0
  rw [hp.2.2] at dc1
  clear h1 h2 hF hG hb hp hRl hWl hrl hul e0
  go_enter Try.func54, Try.ntmps54
  go_wp2_with fail
  go_region
  all_goals (go_wp2_with fail)
  refine bodyPost_ret (v := .tuple #[.agg #[.int .i64 (3), .int .i64 (1), .int .u64 (IntKind.u64.wrap (n - 1)), .int .u64 (n)], .bool true]) ?_ rfl ⟨rfl, (by repeat (first | with_reducible exact Chg.refl _ _ | with_reducible refine Chg.setCell ?_ (by simp) _ | with_reducible refine Chg.alloc ?_ _ | with_reducible refine Chg.drew ?_))⟩
  simp [results, Try.results54, go_sem]

set_option maxHeartbeats 2000000 in
theorem dw_take (w : World) (N : List Nat) (d : Nat) (x : DX) (s : PS) (r u : SlP) (hp : DocPh x (.take)) (hRl : s.R.length ≤ 128) (hWl : s.W.length ≤ 128) (h1 : r.l = s.R) (h2 : u.l = s.W) (hF : FzP w N r) (hG : FzP w N u) (hb : Blk w d (dcells x s r.val u.val) 60) :
    Calls Try.prog 54 #[.pointer (some ⟨d, 0, none⟩)] w fun e w' => e = .returned (.tuple #[.agg #[.int .i64 (3), .int .i64 (0), .int .u64 (IntKind.u64.wrap (s.snap + 1)), .int .u64 (s.snap)], .bool true]) ∧ Chg [] w w' := by
  have hdl := hb.lt
  have hrl : r.l.length = s.R.length := by rw [h1]
  have hul : u.l.length = s.W.length := by rw [h2]
  have dc0 : (w).cell? ⟨d, 0, none⟩ = some (.int .i64 x.at_) := (hb).cell 0; have df0 : (w).frozen? ⟨d, 0, none⟩ = false := (hb).free 0; have dc1 : (w).cell? ⟨d, 1, none⟩ = some (.int .u64 x.n) := (hb).cell 1; have df1 : (w).frozen? ⟨d, 1, none⟩ = false := (hb).free 1; have dc2 : (w).cell? ⟨d, 2, none⟩ = some (.int .i64 x.a) := (hb).cell 2; have df2 : (w).frozen? ⟨d, 2, none⟩ = false := (hb).free 2; have dc3 : (w).cell? ⟨d, 3, none⟩ = some (.int .u64 x.v) := (hb).cell 3; have df3 : (w).frozen? ⟨d, 3, none⟩ = false := (hb).free 3; have dc4 : (w).cell? ⟨d, 4, none⟩ = some (.int .u64 x.g) := (hb).cell 4; have df4 : (w).frozen? ⟨d, 4, none⟩ = false := (hb).free 4; have dc5 : (w).cell? ⟨d, 5, none⟩ = some (.int .i64 x.i) := (hb).cell 5; have df5 : (w).frozen? ⟨d, 5, none⟩ = false := (hb).free 5; have dc6 : (w).cell? ⟨d, 6, none⟩ = some (.int .i64 x.to) := (hb).cell 6; have df6 : (w).frozen? ⟨d, 6, none⟩ = false := (hb).free 6; have dc7 : (w).cell? ⟨d, 7, none⟩ = some (.int .i64 x.how) := (hb).cell 7; have df7 : (w).frozen? ⟨d, 7, none⟩ = false := (hb).free 7; have dc8 : (w).cell? ⟨d, 8, none⟩ = some (.int .u64 s.snap) := (hb).cell 8; have df8 : (w).frozen? ⟨d, 8, none⟩ = false := (hb).free 8; have dc9 : (w).cell? ⟨d, 9, none⟩ = some (.int .u64 s.value) := (hb).cell 9; have df9 : (w).frozen? ⟨d, 9, none⟩ = false := (hb).free 9; have dc10 : (w).cell? ⟨d, 10, none⟩ = some (.slice r.A r.l.length r.cap) := (hb).cell 10; have df10 : (w).frozen? ⟨d, 10, none⟩ = false := (hb).free 10; have dc11 : (w).cell? ⟨d, 11, none⟩ = some (.slice u.A u.l.length u.cap) := (hb).cell 11; have df11 : (w).frozen? ⟨d, 11, none⟩ = false := (hb).free 11; have dc12 : (w).cell? ⟨d, 12, none⟩ = some (.bool s.live) := (hb).cell 12; have df12 : (w).frozen? ⟨d, 12, none⟩ = false := (hb).free 12; have dc13 : (w).cell? ⟨d, 13, none⟩ = some (.bool s.writing) := (hb).cell 13; have df13 : (w).frozen? ⟨d, 13, none⟩ = false := (hb).free 13; have dc14 : (w).cell? ⟨d, 14, none⟩ = some (.int .i64 s.ended) := (hb).cell 14; have df14 : (w).frozen? ⟨d, 14, none⟩ = false := (hb).free 14; have dc15 : (w).cell? ⟨d, 15, none⟩ = some (.int .i64 s.points) := (hb).cell 15; have df15 : (w).frozen? ⟨d, 15, none⟩ = false := (hb).free 15
  have e0 : x.at_ = 9 := by first | exact hp | exact hp.1
  rw [e0] at dc0
  clear h1 h2 hF hG hb hp hRl hWl hrl hul e0
  go_enter Try.func54, Try.ntmps54
  go_wp2_with fail
  go_region
  all_goals (go_wp2_with fail)
  refine bodyPost_ret (v := .tuple #[.agg #[.int .i64 (3), .int .i64 (0), .int .u64 (IntKind.u64.wrap (s.snap + 1)), .int .u64 (s.snap)], .bool true]) ?_ rfl ⟨rfl, (by repeat (first | with_reducible exact Chg.refl _ _ | with_reducible refine Chg.setCell ?_ (by simp) _ | with_reducible refine Chg.alloc ?_ _ | with_reducible refine Chg.drew ?_))⟩
  simp [results, Try.results54, go_sem]

set_option maxHeartbeats 2000000 in
theorem dw_release (w : World) (N : List Nat) (d : Nat) (x : DX) (s : PS) (r u : SlP) (hp : DocPh x (.release)) (hRl : s.R.length ≤ 128) (hWl : s.W.length ≤ 128) (h1 : r.l = s.R) (h2 : u.l = s.W) (hF : FzP w N r) (hG : FzP w N u) (hb : Blk w d (dcells x s r.val u.val) 60) :
    Calls Try.prog 54 #[.pointer (some ⟨d, 0, none⟩)] w fun e w' => e = .returned (.tuple #[.agg #[.int .i64 (2), .int .i64 (0), .int .u64 (IntKind.u64.wrap (s.snap + 2)), .int .u64 (0)], .bool true]) ∧ Chg [] w w' := by
  have hdl := hb.lt
  have hrl : r.l.length = s.R.length := by rw [h1]
  have hul : u.l.length = s.W.length := by rw [h2]
  have dc0 : (w).cell? ⟨d, 0, none⟩ = some (.int .i64 x.at_) := (hb).cell 0; have df0 : (w).frozen? ⟨d, 0, none⟩ = false := (hb).free 0; have dc1 : (w).cell? ⟨d, 1, none⟩ = some (.int .u64 x.n) := (hb).cell 1; have df1 : (w).frozen? ⟨d, 1, none⟩ = false := (hb).free 1; have dc2 : (w).cell? ⟨d, 2, none⟩ = some (.int .i64 x.a) := (hb).cell 2; have df2 : (w).frozen? ⟨d, 2, none⟩ = false := (hb).free 2; have dc3 : (w).cell? ⟨d, 3, none⟩ = some (.int .u64 x.v) := (hb).cell 3; have df3 : (w).frozen? ⟨d, 3, none⟩ = false := (hb).free 3; have dc4 : (w).cell? ⟨d, 4, none⟩ = some (.int .u64 x.g) := (hb).cell 4; have df4 : (w).frozen? ⟨d, 4, none⟩ = false := (hb).free 4; have dc5 : (w).cell? ⟨d, 5, none⟩ = some (.int .i64 x.i) := (hb).cell 5; have df5 : (w).frozen? ⟨d, 5, none⟩ = false := (hb).free 5; have dc6 : (w).cell? ⟨d, 6, none⟩ = some (.int .i64 x.to) := (hb).cell 6; have df6 : (w).frozen? ⟨d, 6, none⟩ = false := (hb).free 6; have dc7 : (w).cell? ⟨d, 7, none⟩ = some (.int .i64 x.how) := (hb).cell 7; have df7 : (w).frozen? ⟨d, 7, none⟩ = false := (hb).free 7; have dc8 : (w).cell? ⟨d, 8, none⟩ = some (.int .u64 s.snap) := (hb).cell 8; have df8 : (w).frozen? ⟨d, 8, none⟩ = false := (hb).free 8; have dc9 : (w).cell? ⟨d, 9, none⟩ = some (.int .u64 s.value) := (hb).cell 9; have df9 : (w).frozen? ⟨d, 9, none⟩ = false := (hb).free 9; have dc10 : (w).cell? ⟨d, 10, none⟩ = some (.slice r.A r.l.length r.cap) := (hb).cell 10; have df10 : (w).frozen? ⟨d, 10, none⟩ = false := (hb).free 10; have dc11 : (w).cell? ⟨d, 11, none⟩ = some (.slice u.A u.l.length u.cap) := (hb).cell 11; have df11 : (w).frozen? ⟨d, 11, none⟩ = false := (hb).free 11; have dc12 : (w).cell? ⟨d, 12, none⟩ = some (.bool s.live) := (hb).cell 12; have df12 : (w).frozen? ⟨d, 12, none⟩ = false := (hb).free 12; have dc13 : (w).cell? ⟨d, 13, none⟩ = some (.bool s.writing) := (hb).cell 13; have df13 : (w).frozen? ⟨d, 13, none⟩ = false := (hb).free 13; have dc14 : (w).cell? ⟨d, 14, none⟩ = some (.int .i64 s.ended) := (hb).cell 14; have df14 : (w).frozen? ⟨d, 14, none⟩ = false := (hb).free 14; have dc15 : (w).cell? ⟨d, 15, none⟩ = some (.int .i64 s.points) := (hb).cell 15; have df15 : (w).frozen? ⟨d, 15, none⟩ = false := (hb).free 15
  have e0 : x.at_ = 11 := by first | exact hp | exact hp.1
  rw [e0] at dc0
  clear h1 h2 hF hG hb hp hRl hWl hrl hul e0
  go_enter Try.func54, Try.ntmps54
  go_wp2_with fail
  refine bodyPost_ret (v := .tuple #[.agg #[.int .i64 (2), .int .i64 (0), .int .u64 (IntKind.u64.wrap (s.snap + 2)), .int .u64 (0)], .bool true]) ?_ rfl ⟨rfl, (by repeat (first | with_reducible exact Chg.refl _ _ | with_reducible refine Chg.setCell ?_ (by simp) _ | with_reducible refine Chg.alloc ?_ _ | with_reducible refine Chg.drew ?_))⟩
  simp [results, Try.results54, go_sem]

set_option maxHeartbeats 2000000 in
theorem dw_checkOne (w : World) (N : List Nat) (d : Nat) (x : DX) (s : PS) (r u : SlP) (to : To) (g : Int) (i : Nat) (z z2 : Int) (hp : DocPh x (.checkOne to g i)) (hi : i < s.R.length) (hz : s.R[i]?.getD (0, 0) = (z, z2)) (hRl : s.R.length ≤ 128) (hWl : s.W.length ≤ 128) (h1 : r.l = s.R) (h2 : u.l = s.W) (hF : FzP w N r) (hG : FzP w N u) (hb : Blk w d (dcells x s r.val u.val) 60) :
    Calls Try.prog 54 #[.pointer (some ⟨d, 0, none⟩)] w fun e w' => e = .returned (.tuple #[.agg #[.int .i64 (1), .int .i64 (z), .int .u64 (0), .int .u64 (0)], .bool true]) ∧ Chg [] w w' := by
  have hdl := hb.lt
  have hrl : r.l.length = s.R.length := by rw [h1]
  have hul : u.l.length = s.W.length := by rw [h2]
  have dc0 : (w).cell? ⟨d, 0, none⟩ = some (.int .i64 x.at_) := (hb).cell 0; have df0 : (w).frozen? ⟨d, 0, none⟩ = false := (hb).free 0; have dc1 : (w).cell? ⟨d, 1, none⟩ = some (.int .u64 x.n) := (hb).cell 1; have df1 : (w).frozen? ⟨d, 1, none⟩ = false := (hb).free 1; have dc2 : (w).cell? ⟨d, 2, none⟩ = some (.int .i64 x.a) := (hb).cell 2; have df2 : (w).frozen? ⟨d, 2, none⟩ = false := (hb).free 2; have dc3 : (w).cell? ⟨d, 3, none⟩ = some (.int .u64 x.v) := (hb).cell 3; have df3 : (w).frozen? ⟨d, 3, none⟩ = false := (hb).free 3; have dc4 : (w).cell? ⟨d, 4, none⟩ = some (.int .u64 x.g) := (hb).cell 4; have df4 : (w).frozen? ⟨d, 4, none⟩ = false := (hb).free 4; have dc5 : (w).cell? ⟨d, 5, none⟩ = some (.int .i64 x.i) := (hb).cell 5; have df5 : (w).frozen? ⟨d, 5, none⟩ = false := (hb).free 5; have dc6 : (w).cell? ⟨d, 6, none⟩ = some (.int .i64 x.to) := (hb).cell 6; have df6 : (w).frozen? ⟨d, 6, none⟩ = false := (hb).free 6; have dc7 : (w).cell? ⟨d, 7, none⟩ = some (.int .i64 x.how) := (hb).cell 7; have df7 : (w).frozen? ⟨d, 7, none⟩ = false := (hb).free 7; have dc8 : (w).cell? ⟨d, 8, none⟩ = some (.int .u64 s.snap) := (hb).cell 8; have df8 : (w).frozen? ⟨d, 8, none⟩ = false := (hb).free 8; have dc9 : (w).cell? ⟨d, 9, none⟩ = some (.int .u64 s.value) := (hb).cell 9; have df9 : (w).frozen? ⟨d, 9, none⟩ = false := (hb).free 9; have dc10 : (w).cell? ⟨d, 10, none⟩ = some (.slice r.A r.l.length r.cap) := (hb).cell 10; have df10 : (w).frozen? ⟨d, 10, none⟩ = false := (hb).free 10; have dc11 : (w).cell? ⟨d, 11, none⟩ = some (.slice u.A u.l.length u.cap) := (hb).cell 11; have df11 : (w).frozen? ⟨d, 11, none⟩ = false := (hb).free 11; have dc12 : (w).cell? ⟨d, 12, none⟩ = some (.bool s.live) := (hb).cell 12; have df12 : (w).frozen? ⟨d, 12, none⟩ = false := (hb).free 12; have dc13 : (w).cell? ⟨d, 13, none⟩ = some (.bool s.writing) := (hb).cell 13; have df13 : (w).frozen? ⟨d, 13, none⟩ = false := (hb).free 13; have dc14 : (w).cell? ⟨d, 14, none⟩ = some (.int .i64 s.ended) := (hb).cell 14; have df14 : (w).frozen? ⟨d, 14, none⟩ = false := (hb).free 14; have dc15 : (w).cell? ⟨d, 15, none⟩ = some (.int .i64 s.points) := (hb).cell 15; have df15 : (w).frozen? ⟨d, 15, none⟩ = false := (hb).free 15
  have e0 : x.at_ = 7 := by first | exact hp | exact hp.1
  rw [e0] at dc0
  obtain ⟨b, off, hA, hbl, _, c0, c1⟩ := row_rd hF (i := i) (by rw [h1]; exact hi)
  rw [h1] at c0 c1
  rw [hA, hrl] at dc10
  have hi' : (i : Int) < s.R.length := by omega
  rw [hp.2.2.2] at dc5
  have hne := hb.lt
  rw [hz] at c0 c1
  clear hi hA hz h1 h2 hF hG hb hp hRl hWl hrl hul e0
  go_enter Try.func54, Try.ntmps54
  go_wp2_with fail
  go_region
  all_goals (go_wp2_with fail)
  refine bodyPost_ret (v := .tuple #[.agg #[.int .i64 (1), .int .i64 (z), .int .u64 (0), .int .u64 (0)], .bool true]) ?_ rfl ⟨rfl, (by repeat (first | with_reducible exact Chg.refl _ _ | with_reducible refine Chg.setCell ?_ (by simp) _ | with_reducible refine Chg.alloc ?_ _ | with_reducible refine Chg.drew ?_))⟩
  simp [results, Try.results54, go_sem]

set_option maxHeartbeats 2000000 in
theorem dw_back (w : World) (N : List Nat) (d : Nat) (x : DX) (s : PS) (r u : SlP) (i : Nat) (z z2 : Int) (hp : DocPh x (.back i)) (hi : i < s.W.length) (hz : s.W[i]?.getD (0, 0) = (z, z2)) (hRl : s.R.length ≤ 128) (hWl : s.W.length ≤ 128) (h1 : r.l = s.R) (h2 : u.l = s.W) (hF : FzP w N r) (hG : FzP w N u) (hb : Blk w d (dcells x s r.val u.val) 60) :
    Calls Try.prog 54 #[.pointer (some ⟨d, 0, none⟩)] w fun e w' => e = .returned (.tuple #[.agg #[.int .i64 (2), .int .i64 (z), .int .u64 (z2), .int .u64 (0)], .bool true]) ∧ Chg [] w w' := by
  have hdl := hb.lt
  have hrl : r.l.length = s.R.length := by rw [h1]
  have hul : u.l.length = s.W.length := by rw [h2]
  have dc0 : (w).cell? ⟨d, 0, none⟩ = some (.int .i64 x.at_) := (hb).cell 0; have df0 : (w).frozen? ⟨d, 0, none⟩ = false := (hb).free 0; have dc1 : (w).cell? ⟨d, 1, none⟩ = some (.int .u64 x.n) := (hb).cell 1; have df1 : (w).frozen? ⟨d, 1, none⟩ = false := (hb).free 1; have dc2 : (w).cell? ⟨d, 2, none⟩ = some (.int .i64 x.a) := (hb).cell 2; have df2 : (w).frozen? ⟨d, 2, none⟩ = false := (hb).free 2; have dc3 : (w).cell? ⟨d, 3, none⟩ = some (.int .u64 x.v) := (hb).cell 3; have df3 : (w).frozen? ⟨d, 3, none⟩ = false := (hb).free 3; have dc4 : (w).cell? ⟨d, 4, none⟩ = some (.int .u64 x.g) := (hb).cell 4; have df4 : (w).frozen? ⟨d, 4, none⟩ = false := (hb).free 4; have dc5 : (w).cell? ⟨d, 5, none⟩ = some (.int .i64 x.i) := (hb).cell 5; have df5 : (w).frozen? ⟨d, 5, none⟩ = false := (hb).free 5; have dc6 : (w).cell? ⟨d, 6, none⟩ = some (.int .i64 x.to) := (hb).cell 6; have df6 : (w).frozen? ⟨d, 6, none⟩ = false := (hb).free 6; have dc7 : (w).cell? ⟨d, 7, none⟩ = some (.int .i64 x.how) := (hb).cell 7; have df7 : (w).frozen? ⟨d, 7, none⟩ = false := (hb).free 7; have dc8 : (w).cell? ⟨d, 8, none⟩ = some (.int .u64 s.snap) := (hb).cell 8; have df8 : (w).frozen? ⟨d, 8, none⟩ = false := (hb).free 8; have dc9 : (w).cell? ⟨d, 9, none⟩ = some (.int .u64 s.value) := (hb).cell 9; have df9 : (w).frozen? ⟨d, 9, none⟩ = false := (hb).free 9; have dc10 : (w).cell? ⟨d, 10, none⟩ = some (.slice r.A r.l.length r.cap) := (hb).cell 10; have df10 : (w).frozen? ⟨d, 10, none⟩ = false := (hb).free 10; have dc11 : (w).cell? ⟨d, 11, none⟩ = some (.slice u.A u.l.length u.cap) := (hb).cell 11; have df11 : (w).frozen? ⟨d, 11, none⟩ = false := (hb).free 11; have dc12 : (w).cell? ⟨d, 12, none⟩ = some (.bool s.live) := (hb).cell 12; have df12 : (w).frozen? ⟨d, 12, none⟩ = false := (hb).free 12; have dc13 : (w).cell? ⟨d, 13, none⟩ = some (.bool s.writing) := (hb).cell 13; have df13 : (w).frozen? ⟨d, 13, none⟩ = false := (hb).free 13; have dc14 : (w).cell? ⟨d, 14, none⟩ = some (.int .i64 s.ended) := (hb).cell 14; have df14 : (w).frozen? ⟨d, 14, none⟩ = false := (hb).free 14; have dc15 : (w).cell? ⟨d, 15, none⟩ = some (.int .i64 s.points) := (hb).cell 15; have df15 : (w).frozen? ⟨d, 15, none⟩ = false := (hb).free 15
  have e0 : x.at_ = 10 := by first | exact hp | exact hp.1
  rw [e0] at dc0
  obtain ⟨b, off, hA, hbl, _, c0, c1⟩ := row_rd hG (i := i) (by rw [h2]; exact hi)
  rw [h2] at c0 c1
  rw [hA, hul] at dc11
  have hi' : (i : Int) < s.W.length := by omega
  rw [hp.2] at dc5
  rw [hz] at c0 c1
  clear hi hA hz h1 h2 hF hG hb hp hRl hWl hrl hul e0
  go_enter Try.func54, Try.ntmps54
  go_wp2_with fail
  go_region
  all_goals (go_wp2_with fail)
  refine bodyPost_ret (v := .tuple #[.agg #[.int .i64 (2), .int .i64 (z), .int .u64 (z2), .int .u64 (0)], .bool true]) ?_ rfl ⟨rfl, (by repeat (first | with_reducible exact Chg.refl _ _ | with_reducible refine Chg.setCell ?_ (by simp) _ | with_reducible refine Chg.alloc ?_ _ | with_reducible refine Chg.drew ?_))⟩
  simp [results, Try.results54, go_sem]

theorem dWant_any (w : World) (N : List Nat) (d : Nat) (s : PS) (ho : s.ph.ok s.R s.W) (hRl : s.R.length ≤ 128) (hWl : s.W.length ≤ 128) (h : DAt w N d s) :
    Calls Try.prog 54 #[.pointer (some ⟨d, 0, none⟩)] w fun e w' => e = .returned (.tuple #[s.want.val', .bool s.busy]) ∧ Chg [] w w' := by
  obtain ⟨x, r, u, h1, h2, hb, hF, hG, hp⟩ := h
  have hw : s.want = wantOf s.snap s.R s.W s.ph := rfl
  have hz : s.busy = s.ph.busy := rfl
  rw [hw, hz]
  cases hph : s.ph <;> rw [hph] at hp ho
  · exact dw_idle w N d x s r u hp hRl hWl h1 h2 hF hG hb
  · exact dw_beginN w N d x s r u hp hRl hWl h1 h2 hF hG hb
  · exact dw_beginCas w N d x s r u _ hp hRl hWl h1 h2 hF hG hb
  · exact dw_beginSeq w N d x s r u hp hRl hWl h1 h2 hF hG hb
  · exact dw_loadWord w N d x s r u _ hp hRl hWl h1 h2 hF hG hb
  · exact dw_loadSeq w N d x s r u _ _ hp hRl hWl h1 h2 hF hG hb
  · exact dw_checkSeq w N d x s r u _ hp hRl hWl h1 h2 hF hG hb
  · exact dw_checkOne w N d x s r u _ _ _ _ _ hp ho.2 rfl hRl hWl h1 h2 hF hG hb
  · exact dw_checkEnd w N d x s r u _ _ hp hRl hWl h1 h2 hF hG hb
  · exact dw_take w N d x s r u hp hRl hWl h1 h2 hF hG hb
  · exact dw_back w N d x s r u _ _ _ hp ho rfl hRl hWl h1 h2 hF hG hb
  · exact dw_release w N d x s r u hp hRl hWl h1 h2 hF hG hb
  · exact dw_leaveN w N d x s r u _ hp hRl hWl h1 h2 hF hG hb
  · rename_i how n
    have := dw_leaveCas w N d x s r u how n hp hRl hWl h1 h2 hF hG hb
    rw [wrap_sub] at this
    exact this

end Go.Proofs.Ytilffolppnnkaaa
