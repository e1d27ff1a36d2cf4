/- The document's path of layer 8: a validation's steps. -/
import Derived.Test.YtilffolppnnkaaaSoft27
namespace Go.Proofs.Ytilffolppnnkaaa
set_option maxRecDepth 100000
open Go.RowKit

theorem row_rd {w : World} {N : List Nat} {r : SlP} (h : FzP w N r) {i : Nat} (hi : i < r.l.length) : ∃ b off, r.A = some ⟨b, off, none⟩ ∧ b < w.heap.size ∧ b ∉ N ∧ w.cell? ⟨b, off + i * 2, none⟩ = some (.int .i64 (r.l[i]?.getD (0, 0)).1) ∧ w.cell? ⟨b, off + i * 2 + 1, none⟩ = some (.int .u64 (r.l[i]?.getD (0, 0)).2) := by
  obtain ⟨b, off, e, hb, hc⟩ := h.rd (by omega)
  refine ⟨b, off, e, hb, h.out _ e, ?_, ?_⟩
  · have : w.cell? ⟨b, off + i * 2, none⟩ = some (.int .i64 r.l[i].1) := hc i hi 0 (by decide)
    rw [this]; simp [hi]
  · have : w.cell? ⟨b, off + i * 2 + 1, none⟩ = some (.int .u64 r.l[i].2) := hc i hi 1 (by decide)
    rw [this]; simp [hi]

set_option maxHeartbeats 1000000 in
theorem dcheckEnd_no (w : World) (N : List Nat) (d : Nat) (x : DX) (s : PS) (r u : SlP) (v : Int) (to : To) (g : Int) (hph : s.ph = .checkEnd to g) (hp : DocPh x s.ph) (hv : v ≠ g) (hRl : s.R.length ≤ 128) (h1 : r.l = s.R) (h2 : u.l = s.W) (hF : FzP w N r) (hG : FzP w N u) (hd : d ∈ N) (hb : Blk w d (dcells x s r.val u.val) 60) :
    Calls Try.prog 84 #[.pointer (some ⟨d, 0, none⟩), .int .u64 v] w fun e w' => e = .returned (.tuple #[]) ∧ DAt w' N d ({ s with ph := .checkSeq to }) ∧ Chg [d] w w' := by
  rw [hph] at hp
  have HB := Lib.hid hb
  have HK := Lib.hid (And.intro h1 (And.intro h2 (And.intro hF (And.intro hG hd))))
  have hrl : r.l.length = s.R.length := by rw [h1]
  have dc0 : (w).cell? ⟨d, 0, none⟩ = some (.int .i64 x.at_) := (hb).cell 0; have df0 : (w).frozen? ⟨d, 0, none⟩ = false := (hb).free 0; have dc1 : (w).cell? ⟨d, 1, none⟩ = some (.int .u64 x.n) := (hb).cell 1; have df1 : (w).frozen? ⟨d, 1, none⟩ = false := (hb).free 1; have dc2 : (w).cell? ⟨d, 2, none⟩ = some (.int .i64 x.a) := (hb).cell 2; have df2 : (w).frozen? ⟨d, 2, none⟩ = false := (hb).free 2; have dc3 : (w).cell? ⟨d, 3, none⟩ = some (.int .u64 x.v) := (hb).cell 3; have df3 : (w).frozen? ⟨d, 3, none⟩ = false := (hb).free 3; have dc4 : (w).cell? ⟨d, 4, none⟩ = some (.int .u64 x.g) := (hb).cell 4; have df4 : (w).frozen? ⟨d, 4, none⟩ = false := (hb).free 4; have dc5 : (w).cell? ⟨d, 5, none⟩ = some (.int .i64 x.i) := (hb).cell 5; have df5 : (w).frozen? ⟨d, 5, none⟩ = false := (hb).free 5; have dc6 : (w).cell? ⟨d, 6, none⟩ = some (.int .i64 x.to) := (hb).cell 6; have df6 : (w).frozen? ⟨d, 6, none⟩ = false := (hb).free 6; have dc7 : (w).cell? ⟨d, 7, none⟩ = some (.int .i64 x.how) := (hb).cell 7; have df7 : (w).frozen? ⟨d, 7, none⟩ = false := (hb).free 7; have dc8 : (w).cell? ⟨d, 8, none⟩ = some (.int .u64 s.snap) := (hb).cell 8; have df8 : (w).frozen? ⟨d, 8, none⟩ = false := (hb).free 8; have dc9 : (w).cell? ⟨d, 9, none⟩ = some (.int .u64 s.value) := (hb).cell 9; have df9 : (w).frozen? ⟨d, 9, none⟩ = false := (hb).free 9; have dc10 : (w).cell? ⟨d, 10, none⟩ = some (.slice r.A r.l.length r.cap) := (hb).cell 10; have df10 : (w).frozen? ⟨d, 10, none⟩ = false := (hb).free 10; have dc11 : (w).cell? ⟨d, 11, none⟩ = some (u.val) := (hb).cell 11; have df11 : (w).frozen? ⟨d, 11, none⟩ = false := (hb).free 11; have dc12 : (w).cell? ⟨d, 12, none⟩ = some (.bool s.live) := (hb).cell 12; have df12 : (w).frozen? ⟨d, 12, none⟩ = false := (hb).free 12; have dc13 : (w).cell? ⟨d, 13, none⟩ = some (.bool s.writing) := (hb).cell 13; have df13 : (w).frozen? ⟨d, 13, none⟩ = false := (hb).free 13; have dc14 : (w).cell? ⟨d, 14, none⟩ = some (.int .i64 s.ended) := (hb).cell 14; have df14 : (w).frozen? ⟨d, 14, none⟩ = false := (hb).free 14; have dc15 : (w).cell? ⟨d, 15, none⟩ = some (.int .i64 s.points) := (hb).cell 15; have df15 : (w).frozen? ⟨d, 15, none⟩ = false := (hb).free 15
  obtain ⟨e0, e1, e2⟩ := hp
  rw [e0] at dc0
  rw [e2] at dc4
  have hn : (v != g) = true := by simpa using hv
  have HX := Lib.hid e1
  clear h1 h2 hF hG hd hb hv hph e0 e1 e2
  go_enter Try.func84, Try.ntmps84
  go_wp2_with fail
  refine bodyPost_ret (results_none rfl _ _ _) rfl ?_
  exact ⟨rfl, DAt.mk' { x with at_ := 6 } HK.out.1 HK.out.2.1 HK.out.2.2.1 HK.out.2.2.2.1 HK.out.2.2.2.2 (by repeat (first | with_reducible exact Chg.refl _ _ | with_reducible refine Chg.setCell ?_ (by simp) _ | with_reducible refine Chg.drew ?_)) (HB.out.set 0 _) ⟨rfl, by revert HX; cases to <;> exact fun h => h.out⟩⟩

set_option maxHeartbeats 1000000 in
theorem dcheckEnd_yes (w : World) (N : List Nat) (d : Nat) (x : DX) (s : PS) (r u : SlP) (v : Int) (to : To) (g : Int) (hph : s.ph = .checkEnd to g) (hp : DocPh x s.ph) (hv : v = g) (hRl : s.R.length ≤ 128) (h1 : r.l = s.R) (h2 : u.l = s.W) (hF : FzP w N r) (hG : FzP w N u) (hd : d ∈ N) (hb : Blk w d (dcells x s r.val u.val) 60) :
    Calls Try.prog 84 #[.pointer (some ⟨d, 0, none⟩), .int .u64 v] w fun e w' => e = .returned (.tuple #[]) ∧ DAt w' N d ({ s with snap := g, points := wrap64 (s.points + 1), ph := to.ph }) ∧ Chg [d] w w' := by
  rw [hph] at hp
  have HB := Lib.hid hb
  have HK := Lib.hid (And.intro h1 (And.intro h2 (And.intro hF (And.intro hG hd))))
  have hrl : r.l.length = s.R.length := by rw [h1]
  have dc0 : (w).cell? ⟨d, 0, none⟩ = some (.int .i64 x.at_) := (hb).cell 0; have df0 : (w).frozen? ⟨d, 0, none⟩ = false := (hb).free 0; have dc1 : (w).cell? ⟨d, 1, none⟩ = some (.int .u64 x.n) := (hb).cell 1; have df1 : (w).frozen? ⟨d, 1, none⟩ = false := (hb).free 1; have dc2 : (w).cell? ⟨d, 2, none⟩ = some (.int .i64 x.a) := (hb).cell 2; have df2 : (w).frozen? ⟨d, 2, none⟩ = false := (hb).free 2; have dc3 : (w).cell? ⟨d, 3, none⟩ = some (.int .u64 x.v) := (hb).cell 3; have df3 : (w).frozen? ⟨d, 3, none⟩ = false := (hb).free 3; have dc4 : (w).cell? ⟨d, 4, none⟩ = some (.int .u64 x.g) := (hb).cell 4; have df4 : (w).frozen? ⟨d, 4, none⟩ = false := (hb).free 4; have dc5 : (w).cell? ⟨d, 5, none⟩ = some (.int .i64 x.i) := (hb).cell 5; have df5 : (w).frozen? ⟨d, 5, none⟩ = false := (hb).free 5; have dc6 : (w).cell? ⟨d, 6, none⟩ = some (.int .i64 x.to) := (hb).cell 6; have df6 : (w).frozen? ⟨d, 6, none⟩ = false := (hb).free 6; have dc7 : (w).cell? ⟨d, 7, none⟩ = some (.int .i64 x.how) := (hb).cell 7; have df7 : (w).frozen? ⟨d, 7, none⟩ = false := (hb).free 7; have dc8 : (w).cell? ⟨d, 8, none⟩ = some (.int .u64 s.snap) := (hb).cell 8; have df8 : (w).frozen? ⟨d, 8, none⟩ = false := (hb).free 8; have dc9 : (w).cell? ⟨d, 9, none⟩ = some (.int .u64 s.value) := (hb).cell 9; have df9 : (w).frozen? ⟨d, 9, none⟩ = false := (hb).free 9; have dc10 : (w).cell? ⟨d, 10, none⟩ = some (.slice r.A r.l.length r.cap) := (hb).cell 10; have df10 : (w).frozen? ⟨d, 10, none⟩ = false := (hb).free 10; have dc11 : (w).cell? ⟨d, 11, none⟩ = some (u.val) := (hb).cell 11; have df11 : (w).frozen? ⟨d, 11, none⟩ = false := (hb).free 11; have dc12 : (w).cell? ⟨d, 12, none⟩ = some (.bool s.live) := (hb).cell 12; have df12 : (w).frozen? ⟨d, 12, none⟩ = false := (hb).free 12; have dc13 : (w).cell? ⟨d, 13, none⟩ = some (.bool s.writing) := (hb).cell 13; have df13 : (w).frozen? ⟨d, 13, none⟩ = false := (hb).free 13; have dc14 : (w).cell? ⟨d, 14, none⟩ = some (.int .i64 s.ended) := (hb).cell 14; have df14 : (w).frozen? ⟨d, 14, none⟩ = false := (hb).free 14; have dc15 : (w).cell? ⟨d, 15, none⟩ = some (.int .i64 s.points) := (hb).cell 15; have df15 : (w).frozen? ⟨d, 15, none⟩ = false := (hb).free 15
  obtain ⟨e0, e1, e2⟩ := hp
  rw [e0] at dc0
  rw [e2] at dc4
  subst hv
  have HX := Lib.hid e1
  clear h1 h2 hF hG hd hb hph e0 e1 e2
  go_enter Try.func84, Try.ntmps84
  go_wp2_with fail
  refine bodyPost_ret (results_none rfl _ _ _) rfl ?_
  exact ⟨rfl, DAt.mk' { x with at_ := x.to } HK.out.1 HK.out.2.1 HK.out.2.2.1 HK.out.2.2.2.1 HK.out.2.2.2.2 (by repeat (first | with_reducible exact Chg.refl _ _ | with_reducible refine Chg.setCell ?_ (by simp) _ | with_reducible refine Chg.drew ?_)) (((HB.out.set 8 _).set 15 _).set 0 _) (by revert HX; cases to <;> exact fun h => h.out)⟩

set_option maxHeartbeats 1000000 in
theorem dcheckSeq_odd (w : World) (N : List Nat) (d : Nat) (x : DX) (s : PS) (r u : SlP) (v : Int) (to : To) (hph : s.ph = .checkSeq to) (hp : DocPh x s.ph) (hv0 : 0 ≤ v) (hv : v % 2 = 1) (hRl : s.R.length ≤ 128) (h1 : r.l = s.R) (h2 : u.l = s.W) (hF : FzP w N r) (hG : FzP w N u) (hd : d ∈ N) (hb : Blk w d (dcells x s r.val u.val) 60) :
    Calls Try.prog 84 #[.pointer (some ⟨d, 0, none⟩), .int .u64 v] w fun e w' => e = .returned (.tuple #[]) ∧ DAt w' N d (s) ∧ Chg [d] w w' := by
  rw [hph] at hp
  have HB := Lib.hid hb
  have HK := Lib.hid (And.intro h1 (And.intro h2 (And.intro hF (And.intro hG hd))))
  have hrl : r.l.length = s.R.length := by rw [h1]
  have dc0 : (w).cell? ⟨d, 0, none⟩ = some (.int .i64 x.at_) := (hb).cell 0; have df0 : (w).frozen? ⟨d, 0, none⟩ = false := (hb).free 0; have dc1 : (w).cell? ⟨d, 1, none⟩ = some (.int .u64 x.n) := (hb).cell 1; have df1 : (w).frozen? ⟨d, 1, none⟩ = false := (hb).free 1; have dc2 : (w).cell? ⟨d, 2, none⟩ = some (.int .i64 x.a) := (hb).cell 2; have df2 : (w).frozen? ⟨d, 2, none⟩ = false := (hb).free 2; have dc3 : (w).cell? ⟨d, 3, none⟩ = some (.int .u64 x.v) := (hb).cell 3; have df3 : (w).frozen? ⟨d, 3, none⟩ = false := (hb).free 3; have dc4 : (w).cell? ⟨d, 4, none⟩ = some (.int .u64 x.g) := (hb).cell 4; have df4 : (w).frozen? ⟨d, 4, none⟩ = false := (hb).free 4; have dc5 : (w).cell? ⟨d, 5, none⟩ = some (.int .i64 x.i) := (hb).cell 5; have df5 : (w).frozen? ⟨d, 5, none⟩ = false := (hb).free 5; have dc6 : (w).cell? ⟨d, 6, none⟩ = some (.int .i64 x.to) := (hb).cell 6; have df6 : (w).frozen? ⟨d, 6, none⟩ = false := (hb).free 6; have dc7 : (w).cell? ⟨d, 7, none⟩ = some (.int .i64 x.how) := (hb).cell 7; have df7 : (w).frozen? ⟨d, 7, none⟩ = false := (hb).free 7; have dc8 : (w).cell? ⟨d, 8, none⟩ = some (.int .u64 s.snap) := (hb).cell 8; have df8 : (w).frozen? ⟨d, 8, none⟩ = false := (hb).free 8; have dc9 : (w).cell? ⟨d, 9, none⟩ = some (.int .u64 s.value) := (hb).cell 9; have df9 : (w).frozen? ⟨d, 9, none⟩ = false := (hb).free 9; have dc10 : (w).cell? ⟨d, 10, none⟩ = some (.slice r.A r.l.length r.cap) := (hb).cell 10; have df10 : (w).frozen? ⟨d, 10, none⟩ = false := (hb).free 10; have dc11 : (w).cell? ⟨d, 11, none⟩ = some (u.val) := (hb).cell 11; have df11 : (w).frozen? ⟨d, 11, none⟩ = false := (hb).free 11; have dc12 : (w).cell? ⟨d, 12, none⟩ = some (.bool s.live) := (hb).cell 12; have df12 : (w).frozen? ⟨d, 12, none⟩ = false := (hb).free 12; have dc13 : (w).cell? ⟨d, 13, none⟩ = some (.bool s.writing) := (hb).cell 13; have df13 : (w).frozen? ⟨d, 13, none⟩ = false := (hb).free 13; have dc14 : (w).cell? ⟨d, 14, none⟩ = some (.int .i64 s.ended) := (hb).cell 14; have df14 : (w).frozen? ⟨d, 14, none⟩ = false := (hb).free 14; have dc15 : (w).cell? ⟨d, 15, none⟩ = some (.int .i64 s.points) := (hb).cell 15; have df15 : (w).frozen? ⟨d, 15, none⟩ = false := (hb).free 15
  obtain ⟨e0, e1⟩ := hp
  have HX := Lib.hid (show DocPh x s.ph from by rw [hph]; exact ⟨e0, e1⟩)
  rw [e0] at dc0
  have ht : (v.tmod 2 == 1) = true := by rw [Int.tmod_eq_emod_of_nonneg hv0, hv]; rfl
  clear h1 h2 hF hG hd hb hph e0 e1 hv hv0
  go_enter Try.func84, Try.ntmps84
  go_wp2_with fail
  refine bodyPost_ret (results_none rfl _ _ _) rfl ?_
  exact ⟨rfl, DAt.mk' x HK.out.1 HK.out.2.1 HK.out.2.2.1 HK.out.2.2.2.1 HK.out.2.2.2.2 (by repeat (first | with_reducible exact Chg.refl _ _ | with_reducible refine Chg.setCell ?_ (by simp) _ | with_reducible refine Chg.drew ?_)) HB.out HX.out⟩

set_option maxHeartbeats 1000000 in
theorem dcheckSeq_even (w : World) (N : List Nat) (d : Nat) (x : DX) (s : PS) (r u : SlP) (v : Int) (to : To) (hph : s.ph = .checkSeq to) (hp : DocPh x s.ph) (hv0 : 0 ≤ v) (hv : v % 2 = 0) (hRl : s.R.length ≤ 128) (h1 : r.l = s.R) (h2 : u.l = s.W) (hF : FzP w N r) (hG : FzP w N u) (hd : d ∈ N) (hb : Blk w d (dcells x s r.val u.val) 60) :
    Calls Try.prog 84 #[.pointer (some ⟨d, 0, none⟩), .int .u64 v] w fun e w' => e = .returned (.tuple #[]) ∧ DAt w' N d ({ s with ph := nextCheck s.R to v 0 }) ∧ Chg [d] w w' := by
  rw [hph] at hp
  have HB := Lib.hid hb
  have HK := Lib.hid (And.intro h1 (And.intro h2 (And.intro hF (And.intro hG hd))))
  have hrl : r.l.length = s.R.length := by rw [h1]
  have dc0 : (w).cell? ⟨d, 0, none⟩ = some (.int .i64 x.at_) := (hb).cell 0; have df0 : (w).frozen? ⟨d, 0, none⟩ = false := (hb).free 0; have dc1 : (w).cell? ⟨d, 1, none⟩ = some (.int .u64 x.n) := (hb).cell 1; have df1 : (w).frozen? ⟨d, 1, none⟩ = false := (hb).free 1; have dc2 : (w).cell? ⟨d, 2, none⟩ = some (.int .i64 x.a) := (hb).cell 2; have df2 : (w).frozen? ⟨d, 2, none⟩ = false := (hb).free 2; have dc3 : (w).cell? ⟨d, 3, none⟩ = some (.int .u64 x.v) := (hb).cell 3; have df3 : (w).frozen? ⟨d, 3, none⟩ = false := (hb).free 3; have dc4 : (w).cell? ⟨d, 4, none⟩ = some (.int .u64 x.g) := (hb).cell 4; have df4 : (w).frozen? ⟨d, 4, none⟩ = false := (hb).free 4; have dc5 : (w).cell? ⟨d, 5, none⟩ = some (.int .i64 x.i) := (hb).cell 5; have df5 : (w).frozen? ⟨d, 5, none⟩ = false := (hb).free 5; have dc6 : (w).cell? ⟨d, 6, none⟩ = some (.int .i64 x.to) := (hb).cell 6; have df6 : (w).frozen? ⟨d, 6, none⟩ = false := (hb).free 6; have dc7 : (w).cell? ⟨d, 7, none⟩ = some (.int .i64 x.how) := (hb).cell 7; have df7 : (w).frozen? ⟨d, 7, none⟩ = false := (hb).free 7; have dc8 : (w).cell? ⟨d, 8, none⟩ = some (.int .u64 s.snap) := (hb).cell 8; have df8 : (w).frozen? ⟨d, 8, none⟩ = false := (hb).free 8; have dc9 : (w).cell? ⟨d, 9, none⟩ = some (.int .u64 s.value) := (hb).cell 9; have df9 : (w).frozen? ⟨d, 9, none⟩ = false := (hb).free 9; have dc10 : (w).cell? ⟨d, 10, none⟩ = some (.slice r.A r.l.length r.cap) := (hb).cell 10; have df10 : (w).frozen? ⟨d, 10, none⟩ = false := (hb).free 10; have dc11 : (w).cell? ⟨d, 11, none⟩ = some (u.val) := (hb).cell 11; have df11 : (w).frozen? ⟨d, 11, none⟩ = false := (hb).free 11; have dc12 : (w).cell? ⟨d, 12, none⟩ = some (.bool s.live) := (hb).cell 12; have df12 : (w).frozen? ⟨d, 12, none⟩ = false := (hb).free 12; have dc13 : (w).cell? ⟨d, 13, none⟩ = some (.bool s.writing) := (hb).cell 13; have df13 : (w).frozen? ⟨d, 13, none⟩ = false := (hb).free 13; have dc14 : (w).cell? ⟨d, 14, none⟩ = some (.int .i64 s.ended) := (hb).cell 14; have df14 : (w).frozen? ⟨d, 14, none⟩ = false := (hb).free 14; have dc15 : (w).cell? ⟨d, 15, none⟩ = some (.int .i64 s.points) := (hb).cell 15; have df15 : (w).frozen? ⟨d, 15, none⟩ = false := (hb).free 15
  obtain ⟨e0, e1⟩ := hp
  rw [e0] at dc0
  have ht : (v.tmod 2 == 1) = false := by rw [Int.tmod_eq_emod_of_nonneg hv0]; simp; omega
  have HX := Lib.hid e1
  rw [hrl] at dc10
  clear h1 h2 hF hG hd hb hph e0 e1 hv hv0 hrl
  by_cases hR : s.R.length = 0
  · have HN := Lib.hid (show nextCheck s.R to v 0 = .checkEnd to v from by rw [nextCheck, if_neg (by omega)])
    rw [hR] at dc10
    clear hRl hR
    go_enter Try.func84, Try.ntmps84
    go_wp2_with fail
    go_quiet (fail)
    go_wp2_with fail
    go_end0
    refine ⟨rfl, ?_⟩
    rw [HN.out]
    exact DAt.mk' { x with g := v, i := 0, at_ := 8 } HK.out.1 HK.out.2.1 HK.out.2.2.1 HK.out.2.2.2.1 HK.out.2.2.2.2 (by repeat (first | with_reducible exact Chg.refl _ _ | with_reducible refine Chg.setCell ?_ (by simp) _ | with_reducible refine Chg.drewN ?_ _ | with_reducible refine Chg.drew ?_)) ((((((HB.out.set 4 _).set 5 _).set 0 _)).drewN _).set 0 _) ⟨rfl, by revert HX; cases to <;> exact fun h => h.out, rfl⟩
  · have HN := Lib.hid (show nextCheck s.R to v 0 = .checkOne to v 0 from by rw [nextCheck, if_pos (by omega)])
    have hne : ((0 : Int) == (s.R.length : Int)) = false := by simp; omega
    clear hR
    go_enter Try.func84, Try.ntmps84
    go_wp2_with fail
    go_quiet (fail)
    go_wp2_with fail
    go_end0
    refine ⟨rfl, ?_⟩
    rw [HN.out]
    exact DAt.mk' { x with g := v, i := 0, at_ := 7 } HK.out.1 HK.out.2.1 HK.out.2.2.1 HK.out.2.2.2.1 HK.out.2.2.2.2 (by repeat (first | with_reducible exact Chg.refl _ _ | with_reducible refine Chg.setCell ?_ (by simp) _ | with_reducible refine Chg.drewN ?_ _ | with_reducible refine Chg.drew ?_)) (((((HB.out.set 4 _).set 5 _).set 0 _)).drewN _) ⟨rfl, by revert HX; cases to <;> exact fun h => h.out, rfl, rfl⟩

set_option maxHeartbeats 1000000 in
theorem dcheckOne_no (w : World) (N : List Nat) (d : Nat) (x : DX) (s : PS) (r u : SlP) (v : Int) (to : To) (g : Int) (i : Nat) (hph : s.ph = .checkOne to g i) (hp : DocPh x s.ph) (hi : i < s.R.length) (hv : v ≠ (s.R[i]?.getD (0, 0)).2) (hRl : s.R.length ≤ 128) (h1 : r.l = s.R) (h2 : u.l = s.W) (hF : FzP w N r) (hG : FzP w N u) (hd : d ∈ N) (hb : Blk w d (dcells x s r.val u.val) 60) :
    Calls Try.prog 84 #[.pointer (some ⟨d, 0, none⟩), .int .u64 v] w fun e w' => e = .returned (.tuple #[]) ∧ DAt w' N d ({ s with ph := .leaveN 2 }) ∧ Chg [d] w w' := by
  rw [hph] at hp
  have HB := Lib.hid hb
  have HK := Lib.hid (And.intro h1 (And.intro h2 (And.intro hF (And.intro hG hd))))
  have hrl : r.l.length = s.R.length := by rw [h1]
  have dc0 : (w).cell? ⟨d, 0, none⟩ = some (.int .i64 x.at_) := (hb).cell 0; have df0 : (w).frozen? ⟨d, 0, none⟩ = false := (hb).free 0; have dc1 : (w).cell? ⟨d, 1, none⟩ = some (.int .u64 x.n) := (hb).cell 1; have df1 : (w).frozen? ⟨d, 1, none⟩ = false := (hb).free 1; have dc2 : (w).cell? ⟨d, 2, none⟩ = some (.int .i64 x.a) := (hb).cell 2; have df2 : (w).frozen? ⟨d, 2, none⟩ = false := (hb).free 2; have dc3 : (w).cell? ⟨d, 3, none⟩ = some (.int .u64 x.v) := (hb).cell 3; have df3 : (w).frozen? ⟨d, 3, none⟩ = false := (hb).free 3; have dc4 : (w).cell? ⟨d, 4, none⟩ = some (.int .u64 x.g) := (hb).cell 4; have df4 : (w).frozen? ⟨d, 4, none⟩ = false := (hb).free 4; have dc5 : (w).cell? ⟨d, 5, none⟩ = some (.int .i64 x.i) := (hb).cell 5; have df5 : (w).frozen? ⟨d, 5, none⟩ = false := (hb).free 5; have dc6 : (w).cell? ⟨d, 6, none⟩ = some (.int .i64 x.to) := (hb).cell 6; have df6 : (w).frozen? ⟨d, 6, none⟩ = false := (hb).free 6; have dc7 : (w).cell? ⟨d, 7, none⟩ = some (.int .i64 x.how) := (hb).cell 7; have df7 : (w).frozen? ⟨d, 7, none⟩ = false := (hb).free 7; have dc8 : (w).cell? ⟨d, 8, none⟩ = some (.int .u64 s.snap) := (hb).cell 8; have df8 : (w).frozen? ⟨d, 8, none⟩ = false := (hb).free 8; have dc9 : (w).cell? ⟨d, 9, none⟩ = some (.int .u64 s.value) := (hb).cell 9; have df9 : (w).frozen? ⟨d, 9, none⟩ = false := (hb).free 9; have dc10 : (w).cell? ⟨d, 10, none⟩ = some (.slice r.A r.l.length r.cap) := (hb).cell 10; have df10 : (w).frozen? ⟨d, 10, none⟩ = false := (hb).free 10; have dc11 : (w).cell? ⟨d, 11, none⟩ = some (u.val) := (hb).cell 11; have df11 : (w).frozen? ⟨d, 11, none⟩ = false := (hb).free 11; have dc12 : (w).cell? ⟨d, 12, none⟩ = some (.bool s.live) := (hb).cell 12; have df12 : (w).frozen? ⟨d, 12, none⟩ = false := (hb).free 12; have dc13 : (w).cell? ⟨d, 13, none⟩ = some (.bool s.writing) := (hb).cell 13; have df13 : (w).frozen? ⟨d, 13, none⟩ = false := (hb).free 13; have dc14 : (w).cell? ⟨d, 14, none⟩ = some (.int .i64 s.ended) := (hb).cell 14; have df14 : (w).frozen? ⟨d, 14, none⟩ = false := (hb).free 14; have dc15 : (w).cell? ⟨d, 15, none⟩ = some (.int .i64 s.points) := (hb).cell 15; have df15 : (w).frozen? ⟨d, 15, none⟩ = false := (hb).free 15
  obtain ⟨e0, e1, e2, e3⟩ := hp
  rw [e0] at dc0
  rw [e3] at dc5
  obtain ⟨b, off, hA, hbl, hbN, c0, c1⟩ := row_rd hF (i := i) (by rw [h1]; exact hi)
  rw [hA] at dc10
  have hbd : ¬ b = d := fun e => hbN (e ▸ hd)
  rw [h1] at c1
  have hrl' : (i : Int) < s.R.length := by omega
  have hi128 : (i : Int) < 128 := by omega
  have HX := Lib.hid (And.intro e1 e2)
  rw [hrl] at dc10
  have hn : (v != (s.R[i]?.getD (0, 0)).2) = true := by simpa using hv
  clear h1 h2 hF hG hd hb hph e0 e1 e2 e3 hv hrl hRl hA hbN c0
  generalize (s.R[i]?.getD (0, 0)).2 = z at *
  go_enter Try.func84, Try.ntmps84
  go_wp2_with fail
  go_quiet (fail)
  obtain ⟨w2, hw2⟩ : ∃ w2, w2 = w.drewN nq := ⟨_, rfl⟩
  rw [← hw2]
  have hC2 : Chg [] w w2 := hw2 ▸ (Chg.refl [] w).drewN nq
  have HC2 := Lib.hid hC2
  have HB2 := Lib.hid (hC2.blk HB.out (by simp))
  clear hw2 hC2
  go_wp2_with fail
  refine (dleave_any w2 d x s _ _ 2 HB2.out).mono ?_
  rintro e w3 ⟨rfl, hb3, hC3⟩
  have HB3 := Lib.hid hb3
  have HC3 := Lib.hid ((HC2.out.mono (T := [d]) (by simp)).trans hC3)
  clear hb3 hC3
  go_wp2_with fail
  refine bodyPost_ret (results_none rfl _ _ _) rfl ?_
  exact ⟨rfl, DAt.mk' { x with how := 2, at_ := 12 } HK.out.1 HK.out.2.1 HK.out.2.2.1 HK.out.2.2.2.1 HK.out.2.2.2.2 HC3.out HB3.out ⟨rfl, rfl⟩⟩

set_option maxHeartbeats 2000000 in
theorem dcheckOne_yes (w : World) (N : List Nat) (d : Nat) (x : DX) (s : PS) (r u : SlP) (v : Int) (to : To) (g : Int) (i : Nat) (hph : s.ph = .checkOne to g i) (hp : DocPh x s.ph) (hi : i < s.R.length) (hv : v = (s.R[i]?.getD (0, 0)).2) (hRl : s.R.length ≤ 128) (h1 : r.l = s.R) (h2 : u.l = s.W) (hF : FzP w N r) (hG : FzP w N u) (hd : d ∈ N) (hb : Blk w d (dcells x s r.val u.val) 60) :
    Calls Try.prog 84 #[.pointer (some ⟨d, 0, none⟩), .int .u64 v] w fun e w' => e = .returned (.tuple #[]) ∧ DAt w' N d ({ s with ph := nextCheck s.R to g (i + 1) }) ∧ Chg [d] w w' := by
  rw [hph] at hp
  have HB := Lib.hid hb
  have HK := Lib.hid (And.intro h1 (And.intro h2 (And.intro hF (And.intro hG hd))))
  have hrl : r.l.length = s.R.length := by rw [h1]
  have dc0 : (w).cell? ⟨d, 0, none⟩ = some (.int .i64 x.at_) := (hb).cell 0; have df0 : (w).frozen? ⟨d, 0, none⟩ = false := (hb).free 0; have dc1 : (w).cell? ⟨d, 1, none⟩ = some (.int .u64 x.n) := (hb).cell 1; have df1 : (w).frozen? ⟨d, 1, none⟩ = false := (hb).free 1; have dc2 : (w).cell? ⟨d, 2, none⟩ = some (.int .i64 x.a) := (hb).cell 2; have df2 : (w).frozen? ⟨d, 2, none⟩ = false := (hb).free 2; have dc3 : (w).cell? ⟨d, 3, none⟩ = some (.int .u64 x.v) := (hb).cell 3; have df3 : (w).frozen? ⟨d, 3, none⟩ = false := (hb).free 3; have dc4 : (w).cell? ⟨d, 4, none⟩ = some (.int .u64 x.g) := (hb).cell 4; have df4 : (w).frozen? ⟨d, 4, none⟩ = false := (hb).free 4; have dc5 : (w).cell? ⟨d, 5, none⟩ = some (.int .i64 x.i) := (hb).cell 5; have df5 : (w).frozen? ⟨d, 5, none⟩ = false := (hb).free 5; have dc6 : (w).cell? ⟨d, 6, none⟩ = some (.int .i64 x.to) := (hb).cell 6; have df6 : (w).frozen? ⟨d, 6, none⟩ = false := (hb).free 6; have dc7 : (w).cell? ⟨d, 7, none⟩ = some (.int .i64 x.how) := (hb).cell 7; have df7 : (w).frozen? ⟨d, 7, none⟩ = false := (hb).free 7; have dc8 : (w).cell? ⟨d, 8, none⟩ = some (.int .u64 s.snap) := (hb).cell 8; have df8 : (w).frozen? ⟨d, 8, none⟩ = false := (hb).free 8; have dc9 : (w).cell? ⟨d, 9, none⟩ = some (.int .u64 s.value) := (hb).cell 9; have df9 : (w).frozen? ⟨d, 9, none⟩ = false := (hb).free 9; have dc10 : (w).cell? ⟨d, 10, none⟩ = some (.slice r.A r.l.length r.cap) := (hb).cell 10; have df10 : (w).frozen? ⟨d, 10, none⟩ = false := (hb).free 10; have dc11 : (w).cell? ⟨d, 11, none⟩ = some (u.val) := (hb).cell 11; have df11 : (w).frozen? ⟨d, 11, none⟩ = false := (hb).free 11; have dc12 : (w).cell? ⟨d, 12, none⟩ = some (.bool s.live) := (hb).cell 12; have df12 : (w).frozen? ⟨d, 12, none⟩ = false := (hb).free 12; have dc13 : (w).cell? ⟨d, 13, none⟩ = some (.bool s.writing) := (hb).cell 13; have df13 : (w).frozen? ⟨d, 13, none⟩ = false := (hb).free 13; have dc14 : (w).cell? ⟨d, 14, none⟩ = some (.int .i64 s.ended) := (hb).cell 14; have df14 : (w).frozen? ⟨d, 14, none⟩ = false := (hb).free 14; have dc15 : (w).cell? ⟨d, 15, none⟩ = some (.int .i64 s.points) := (hb).cell 15; have df15 : (w).frozen? ⟨d, 15, none⟩ = false := (hb).free 15
  obtain ⟨e0, e1, e2, e3⟩ := hp
  rw [e0] at dc0
  rw [e3] at dc5
  obtain ⟨b, off, hA, hbl, hbN, c0, c1⟩ := row_rd hF (i := i) (by rw [h1]; exact hi)
  rw [hA] at dc10
  have hbd : ¬ b = d := fun e => hbN (e ▸ hd)
  rw [h1] at c1
  have hrl' : (i : Int) < s.R.length := by omega
  have hi128 : (i : Int) < 128 := by omega
  have HX := Lib.hid (And.intro e1 e2)
  rw [hrl] at dc10
  have HE := Lib.hid (And.intro e0 (And.intro e3 (And.intro hA hrl)))
  by_cases hl : i + 1 = s.R.length
  · have HN := Lib.hid (show nextCheck s.R to g (i + 1) = .checkEnd to g from by rw [nextCheck, if_neg (by omega)])
    have heq : (((i : Int) + 1) == (s.R.length : Int)) = true := by simp; omega
    clear h1 h2 hF hG hd hb hph e0 e1 e2 e3 hrl hRl hA hbN c0 hl hi
    generalize (s.R[i]?.getD (0, 0)).2 = z at *
    subst hv
    go_enter Try.func84, Try.ntmps84
    go_wp2_with fail
    go_quiet (fail)
    obtain ⟨w2, hw2⟩ : ∃ w2, w2 = w.drewN nq := ⟨_, rfl⟩
    rw [← hw2]
    have hC2 : Chg [] w w2 := hw2 ▸ (Chg.refl [] w).drewN nq
    have HC2 := Lib.hid (hC2.mono (T := [d]) (by simp))
    have HB2 := Lib.hid (hC2.blk HB.out (by simp))
    clear hw2 hC2 c1
    clear dc0 df0 dc1 df1 dc2 df2 dc3 df3 dc4 df4 dc5 df5 dc6 df6 dc7 df7 dc8 df8 dc9 df9 dc10 df10 dc11 df11 dc12 df12 dc13 df13 dc14 df14 dc15 df15
    have HB2' : Hid (Blk w2 d (dcells { x with at_ := 7, i := i } s (.slice (some ⟨b, off, none⟩) s.R.length r.cap) u.val) 60) := Lib.hid (by
      obtain ⟨q0, q1, q2, q3⟩ := HE.out
      have hq := HB2.out
      unfold SlP.val at hq
      rw [q2, q3] at hq
      cases x; simp only at q0 q1; subst q0 q1; exact hq)
    have dc0 : (w2).cell? ⟨d, 0, none⟩ = some (.int .i64 { x with at_ := 7, i := i }.at_) := (HB2'.out).cell 0; have df0 : (w2).frozen? ⟨d, 0, none⟩ = false := (HB2'.out).free 0; have dc1 : (w2).cell? ⟨d, 1, none⟩ = some (.int .u64 { x with at_ := 7, i := i }.n) := (HB2'.out).cell 1; have df1 : (w2).frozen? ⟨d, 1, none⟩ = false := (HB2'.out).free 1; have dc2 : (w2).cell? ⟨d, 2, none⟩ = some (.int .i64 { x with at_ := 7, i := i }.a) := (HB2'.out).cell 2; have df2 : (w2).frozen? ⟨d, 2, none⟩ = false := (HB2'.out).free 2; have dc3 : (w2).cell? ⟨d, 3, none⟩ = some (.int .u64 { x with at_ := 7, i := i }.v) := (HB2'.out).cell 3; have df3 : (w2).frozen? ⟨d, 3, none⟩ = false := (HB2'.out).free 3; have dc4 : (w2).cell? ⟨d, 4, none⟩ = some (.int .u64 { x with at_ := 7, i := i }.g) := (HB2'.out).cell 4; have df4 : (w2).frozen? ⟨d, 4, none⟩ = false := (HB2'.out).free 4; have dc5 : (w2).cell? ⟨d, 5, none⟩ = some (.int .i64 { x with at_ := 7, i := i }.i) := (HB2'.out).cell 5; have df5 : (w2).frozen? ⟨d, 5, none⟩ = false := (HB2'.out).free 5; have dc6 : (w2).cell? ⟨d, 6, none⟩ = some (.int .i64 { x with at_ := 7, i := i }.to) := (HB2'.out).cell 6; have df6 : (w2).frozen? ⟨d, 6, none⟩ = false := (HB2'.out).free 6; have dc7 : (w2).cell? ⟨d, 7, none⟩ = some (.int .i64 { x with at_ := 7, i := i }.how) := (HB2'.out).cell 7; have df7 : (w2).frozen? ⟨d, 7, none⟩ = false := (HB2'.out).free 7; have dc8 : (w2).cell? ⟨d, 8, none⟩ = some (.int .u64 s.snap) := (HB2'.out).cell 8; have df8 : (w2).frozen? ⟨d, 8, none⟩ = false := (HB2'.out).free 8; have dc9 : (w2).cell? ⟨d, 9, none⟩ = some (.int .u64 s.value) := (HB2'.out).cell 9; have df9 : (w2).frozen? ⟨d, 9, none⟩ = false := (HB2'.out).free 9; have dc10 : (w2).cell? ⟨d, 10, none⟩ = some (.slice (some ⟨b, off, none⟩) s.R.length r.cap) := (HB2'.out).cell 10; have df10 : (w2).frozen? ⟨d, 10, none⟩ = false := (HB2'.out).free 10; have dc11 : (w2).cell? ⟨d, 11, none⟩ = some (u.val) := (HB2'.out).cell 11; have df11 : (w2).frozen? ⟨d, 11, none⟩ = false := (HB2'.out).free 11; have dc12 : (w2).cell? ⟨d, 12, none⟩ = some (.bool s.live) := (HB2'.out).cell 12; have df12 : (w2).frozen? ⟨d, 12, none⟩ = false := (HB2'.out).free 12; have dc13 : (w2).cell? ⟨d, 13, none⟩ = some (.bool s.writing) := (HB2'.out).cell 13; have df13 : (w2).frozen? ⟨d, 13, none⟩ = false := (HB2'.out).free 13; have dc14 : (w2).cell? ⟨d, 14, none⟩ = some (.int .i64 s.ended) := (HB2'.out).cell 14; have df14 : (w2).frozen? ⟨d, 14, none⟩ = false := (HB2'.out).free 14; have dc15 : (w2).cell? ⟨d, 15, none⟩ = some (.int .i64 s.points) := (HB2'.out).cell 15; have df15 : (w2).frozen? ⟨d, 15, none⟩ = false := (HB2'.out).free 15
    go_wp2_with fail
    go_quiet (fail)
    obtain ⟨w4, hw4⟩ : ∃ w4, w4 = ((w2.setCell ⟨d, 5, none⟩ (.int .i64 ((i : Int) + 1))).setCell ⟨d, 0, none⟩ (.int .i64 7)).drewN nq := ⟨_, rfl⟩
    rw [← hw4]
    have HB4 : Hid (Blk w4 d (dcells { x with i := (i : Int) + 1, at_ := 7 } s r.val u.val) 60) := Lib.hid (hw4 ▸ ((HB2.out.set 5 _).set 0 _).drewN _)
    have HC4 : Hid (Chg [d] w w4) := Lib.hid (hw4 ▸ (((HC2.out.setCell (by simp) _).setCell (by simp) _).drewN _))
    clear hw4
    clear dc0 df0 dc1 df1 dc2 df2 dc3 df3 dc4 df4 dc5 df5 dc6 df6 dc7 df7 dc8 df8 dc9 df9 dc10 df10 dc11 df11 dc12 df12 dc13 df13 dc14 df14 dc15 df15
    have dc0 : (w4).cell? ⟨d, 0, none⟩ = some (.int .i64 { x with i := (i : Int) + 1, at_ := 7 }.at_) := (HB4.out).cell 0; have df0 : (w4).frozen? ⟨d, 0, none⟩ = false := (HB4.out).free 0; have dc1 : (w4).cell? ⟨d, 1, none⟩ = some (.int .u64 { x with i := (i : Int) + 1, at_ := 7 }.n) := (HB4.out).cell 1; have df1 : (w4).frozen? ⟨d, 1, none⟩ = false := (HB4.out).free 1; have dc2 : (w4).cell? ⟨d, 2, none⟩ = some (.int .i64 { x with i := (i : Int) + 1, at_ := 7 }.a) := (HB4.out).cell 2; have df2 : (w4).frozen? ⟨d, 2, none⟩ = false := (HB4.out).free 2; have dc3 : (w4).cell? ⟨d, 3, none⟩ = some (.int .u64 { x with i := (i : Int) + 1, at_ := 7 }.v) := (HB4.out).cell 3; have df3 : (w4).frozen? ⟨d, 3, none⟩ = false := (HB4.out).free 3; have dc4 : (w4).cell? ⟨d, 4, none⟩ = some (.int .u64 { x with i := (i : Int) + 1, at_ := 7 }.g) := (HB4.out).cell 4; have df4 : (w4).frozen? ⟨d, 4, none⟩ = false := (HB4.out).free 4; have dc5 : (w4).cell? ⟨d, 5, none⟩ = some (.int .i64 { x with i := (i : Int) + 1, at_ := 7 }.i) := (HB4.out).cell 5; have df5 : (w4).frozen? ⟨d, 5, none⟩ = false := (HB4.out).free 5; have dc6 : (w4).cell? ⟨d, 6, none⟩ = some (.int .i64 { x with i := (i : Int) + 1, at_ := 7 }.to) := (HB4.out).cell 6; have df6 : (w4).frozen? ⟨d, 6, none⟩ = false := (HB4.out).free 6; have dc7 : (w4).cell? ⟨d, 7, none⟩ = some (.int .i64 { x with i := (i : Int) + 1, at_ := 7 }.how) := (HB4.out).cell 7; have df7 : (w4).frozen? ⟨d, 7, none⟩ = false := (HB4.out).free 7; have dc8 : (w4).cell? ⟨d, 8, none⟩ = some (.int .u64 s.snap) := (HB4.out).cell 8; have df8 : (w4).frozen? ⟨d, 8, none⟩ = false := (HB4.out).free 8; have dc9 : (w4).cell? ⟨d, 9, none⟩ = some (.int .u64 s.value) := (HB4.out).cell 9; have df9 : (w4).frozen? ⟨d, 9, none⟩ = false := (HB4.out).free 9; have dc10 : (w4).cell? ⟨d, 10, none⟩ = some (r.val) := (HB4.out).cell 10; have df10 : (w4).frozen? ⟨d, 10, none⟩ = false := (HB4.out).free 10; have dc11 : (w4).cell? ⟨d, 11, none⟩ = some (u.val) := (HB4.out).cell 11; have df11 : (w4).frozen? ⟨d, 11, none⟩ = false := (HB4.out).free 11; have dc12 : (w4).cell? ⟨d, 12, none⟩ = some (.bool s.live) := (HB4.out).cell 12; have df12 : (w4).frozen? ⟨d, 12, none⟩ = false := (HB4.out).free 12; have dc13 : (w4).cell? ⟨d, 13, none⟩ = some (.bool s.writing) := (HB4.out).cell 13; have df13 : (w4).frozen? ⟨d, 13, none⟩ = false := (HB4.out).free 13; have dc14 : (w4).cell? ⟨d, 14, none⟩ = some (.int .i64 s.ended) := (HB4.out).cell 14; have df14 : (w4).frozen? ⟨d, 14, none⟩ = false := (HB4.out).free 14; have dc15 : (w4).cell? ⟨d, 15, none⟩ = some (.int .i64 s.points) := (HB4.out).cell 15; have df15 : (w4).frozen? ⟨d, 15, none⟩ = false := (HB4.out).free 15
    go_wp2_with fail
    go_end0
    have HC5 := Lib.hid (HC4.out.setCell (p := ⟨d, 0, none⟩) (by simp) (.int .i64 8))
    refine ⟨rfl, ?_⟩
    rw [HN.out]
    exact DAt.mk' { x with i := (i : Int) + 1, at_ := 8 } HK.out.1 HK.out.2.1 HK.out.2.2.1 HK.out.2.2.2.1 HK.out.2.2.2.2 HC5.out (HB4.out.set 0 _) ⟨rfl, by revert HX; cases to <;> exact fun h => h.out.1, HX.out.2⟩
  · have HN := Lib.hid (show nextCheck s.R to g (i + 1) = .checkOne to g (i + 1) from by rw [nextCheck, if_pos (by omega)])
    have heq : (((i : Int) + 1) == (s.R.length : Int)) = false := by simp; omega
    clear h1 h2 hF hG hd hb hph e0 e1 e2 e3 hrl hRl hA hbN c0 hl hi
    generalize (s.R[i]?.getD (0, 0)).2 = z at *
    subst hv
    go_enter Try.func84, Try.ntmps84
    go_wp2_with fail
    go_quiet (fail)
    obtain ⟨w2, hw2⟩ : ∃ w2, w2 = w.drewN nq := ⟨_, rfl⟩
    rw [← hw2]
    have hC2 : Chg [] w w2 := hw2 ▸ (Chg.refl [] w).drewN nq
    have HC2 := Lib.hid (hC2.mono (T := [d]) (by simp))
    have HB2 := Lib.hid (hC2.blk HB.out (by simp))
    clear hw2 hC2 c1
    clear dc0 df0 dc1 df1 dc2 df2 dc3 df3 dc4 df4 dc5 df5 dc6 df6 dc7 df7 dc8 df8 dc9 df9 dc10 df10 dc11 df11 dc12 df12 dc13 df13 dc14 df14 dc15 df15
    have HB2' : Hid (Blk w2 d (dcells { x with at_ := 7, i := i } s (.slice (some ⟨b, off, none⟩) s.R.length r.cap) u.val) 60) := Lib.hid (by
      obtain ⟨q0, q1, q2, q3⟩ := HE.out
      have hq := HB2.out
      unfold SlP.val at hq
      rw [q2, q3] at hq
      cases x; simp only at q0 q1; subst q0 q1; exact hq)
    have dc0 : (w2).cell? ⟨d, 0, none⟩ = some (.int .i64 { x with at_ := 7, i := i }.at_) := (HB2'.out).cell 0; have df0 : (w2).frozen? ⟨d, 0, none⟩ = false := (HB2'.out).free 0; have dc1 : (w2).cell? ⟨d, 1, none⟩ = some (.int .u64 { x with at_ := 7, i := i }.n) := (HB2'.out).cell 1; have df1 : (w2).frozen? ⟨d, 1, none⟩ = false := (HB2'.out).free 1; have dc2 : (w2).cell? ⟨d, 2, none⟩ = some (.int .i64 { x with at_ := 7, i := i }.a) := (HB2'.out).cell 2; have df2 : (w2).frozen? ⟨d, 2, none⟩ = false := (HB2'.out).free 2; have dc3 : (w2).cell? ⟨d, 3, none⟩ = some (.int .u64 { x with at_ := 7, i := i }.v) := (HB2'.out).cell 3; have df3 : (w2).frozen? ⟨d, 3, none⟩ = false := (HB2'.out).free 3; have dc4 : (w2).cell? ⟨d, 4, none⟩ = some (.int .u64 { x with at_ := 7, i := i }.g) := (HB2'.out).cell 4; have df4 : (w2).frozen? ⟨d, 4, none⟩ = false := (HB2'.out).free 4; have dc5 : (w2).cell? ⟨d, 5, none⟩ = some (.int .i64 { x with at_ := 7, i := i }.i) := (HB2'.out).cell 5; have df5 : (w2).frozen? ⟨d, 5, none⟩ = false := (HB2'.out).free 5; have dc6 : (w2).cell? ⟨d, 6, none⟩ = some (.int .i64 { x with at_ := 7, i := i }.to) := (HB2'.out).cell 6; have df6 : (w2).frozen? ⟨d, 6, none⟩ = false := (HB2'.out).free 6; have dc7 : (w2).cell? ⟨d, 7, none⟩ = some (.int .i64 { x with at_ := 7, i := i }.how) := (HB2'.out).cell 7; have df7 : (w2).frozen? ⟨d, 7, none⟩ = false := (HB2'.out).free 7; have dc8 : (w2).cell? ⟨d, 8, none⟩ = some (.int .u64 s.snap) := (HB2'.out).cell 8; have df8 : (w2).frozen? ⟨d, 8, none⟩ = false := (HB2'.out).free 8; have dc9 : (w2).cell? ⟨d, 9, none⟩ = some (.int .u64 s.value) := (HB2'.out).cell 9; have df9 : (w2).frozen? ⟨d, 9, none⟩ = false := (HB2'.out).free 9; have dc10 : (w2).cell? ⟨d, 10, none⟩ = some (.slice (some ⟨b, off, none⟩) s.R.length r.cap) := (HB2'.out).cell 10; have df10 : (w2).frozen? ⟨d, 10, none⟩ = false := (HB2'.out).free 10; have dc11 : (w2).cell? ⟨d, 11, none⟩ = some (u.val) := (HB2'.out).cell 11; have df11 : (w2).frozen? ⟨d, 11, none⟩ = false := (HB2'.out).free 11; have dc12 : (w2).cell? ⟨d, 12, none⟩ = some (.bool s.live) := (HB2'.out).cell 12; have df12 : (w2).frozen? ⟨d, 12, none⟩ = false := (HB2'.out).free 12; have dc13 : (w2).cell? ⟨d, 13, none⟩ = some (.bool s.writing) := (HB2'.out).cell 13; have df13 : (w2).frozen? ⟨d, 13, none⟩ = false := (HB2'.out).free 13; have dc14 : (w2).cell? ⟨d, 14, none⟩ = some (.int .i64 s.ended) := (HB2'.out).cell 14; have df14 : (w2).frozen? ⟨d, 14, none⟩ = false := (HB2'.out).free 14; have dc15 : (w2).cell? ⟨d, 15, none⟩ = some (.int .i64 s.points) := (HB2'.out).cell 15; have df15 : (w2).frozen? ⟨d, 15, none⟩ = false := (HB2'.out).free 15
    go_wp2_with fail
    go_quiet (fail)
    obtain ⟨w4, hw4⟩ : ∃ w4, w4 = ((w2.setCell ⟨d, 5, none⟩ (.int .i64 ((i : Int) + 1))).setCell ⟨d, 0, none⟩ (.int .i64 7)).drewN nq := ⟨_, rfl⟩
    rw [← hw4]
    have HB4 : Hid (Blk w4 d (dcells { x with i := (i : Int) + 1, at_ := 7 } s r.val u.val) 60) := Lib.hid (hw4 ▸ ((HB2.out.set 5 _).set 0 _).drewN _)
    have HC4 : Hid (Chg [d] w w4) := Lib.hid (hw4 ▸ (((HC2.out.setCell (by simp) _).setCell (by simp) _).drewN _))
    clear hw4
    clear dc0 df0 dc1 df1 dc2 df2 dc3 df3 dc4 df4 dc5 df5 dc6 df6 dc7 df7 dc8 df8 dc9 df9 dc10 df10 dc11 df11 dc12 df12 dc13 df13 dc14 df14 dc15 df15
    have dc0 : (w4).cell? ⟨d, 0, none⟩ = some (.int .i64 { x with i := (i : Int) + 1, at_ := 7 }.at_) := (HB4.out).cell 0; have df0 : (w4).frozen? ⟨d, 0, none⟩ = false := (HB4.out).free 0; have dc1 : (w4).cell? ⟨d, 1, none⟩ = some (.int .u64 { x with i := (i : Int) + 1, at_ := 7 }.n) := (HB4.out).cell 1; have df1 : (w4).frozen? ⟨d, 1, none⟩ = false := (HB4.out).free 1; have dc2 : (w4).cell? ⟨d, 2, none⟩ = some (.int .i64 { x with i := (i : Int) + 1, at_ := 7 }.a) := (HB4.out).cell 2; have df2 : (w4).frozen? ⟨d, 2, none⟩ = false := (HB4.out).free 2; have dc3 : (w4).cell? ⟨d, 3, none⟩ = some (.int .u64 { x with i := (i : Int) + 1, at_ := 7 }.v) := (HB4.out).cell 3; have df3 : (w4).frozen? ⟨d, 3, none⟩ = false := (HB4.out).free 3; have dc4 : (w4).cell? ⟨d, 4, none⟩ = some (.int .u64 { x with i := (i : Int) + 1, at_ := 7 }.g) := (HB4.out).cell 4; have df4 : (w4).frozen? ⟨d, 4, none⟩ = false := (HB4.out).free 4; have dc5 : (w4).cell? ⟨d, 5, none⟩ = some (.int .i64 { x with i := (i : Int) + 1, at_ := 7 }.i) := (HB4.out).cell 5; have df5 : (w4).frozen? ⟨d, 5, none⟩ = false := (HB4.out).free 5; have dc6 : (w4).cell? ⟨d, 6, none⟩ = some (.int .i64 { x with i := (i : Int) + 1, at_ := 7 }.to) := (HB4.out).cell 6; have df6 : (w4).frozen? ⟨d, 6, none⟩ = false := (HB4.out).free 6; have dc7 : (w4).cell? ⟨d, 7, none⟩ = some (.int .i64 { x with i := (i : Int) + 1, at_ := 7 }.how) := (HB4.out).cell 7; have df7 : (w4).frozen? ⟨d, 7, none⟩ = false := (HB4.out).free 7; have dc8 : (w4).cell? ⟨d, 8, none⟩ = some (.int .u64 s.snap) := (HB4.out).cell 8; have df8 : (w4).frozen? ⟨d, 8, none⟩ = false := (HB4.out).free 8; have dc9 : (w4).cell? ⟨d, 9, none⟩ = some (.int .u64 s.value) := (HB4.out).cell 9; have df9 : (w4).frozen? ⟨d, 9, none⟩ = false := (HB4.out).free 9; have dc10 : (w4).cell? ⟨d, 10, none⟩ = some (r.val) := (HB4.out).cell 10; have df10 : (w4).frozen? ⟨d, 10, none⟩ = false := (HB4.out).free 10; have dc11 : (w4).cell? ⟨d, 11, none⟩ = some (u.val) := (HB4.out).cell 11; have df11 : (w4).frozen? ⟨d, 11, none⟩ = false := (HB4.out).free 11; have dc12 : (w4).cell? ⟨d, 12, none⟩ = some (.bool s.live) := (HB4.out).cell 12; have df12 : (w4).frozen? ⟨d, 12, none⟩ = false := (HB4.out).free 12; have dc13 : (w4).cell? ⟨d, 13, none⟩ = some (.bool s.writing) := (HB4.out).cell 13; have df13 : (w4).frozen? ⟨d, 13, none⟩ = false := (HB4.out).free 13; have dc14 : (w4).cell? ⟨d, 14, none⟩ = some (.int .i64 s.ended) := (HB4.out).cell 14; have df14 : (w4).frozen? ⟨d, 14, none⟩ = false := (HB4.out).free 14; have dc15 : (w4).cell? ⟨d, 15, none⟩ = some (.int .i64 s.points) := (HB4.out).cell 15; have df15 : (w4).frozen? ⟨d, 15, none⟩ = false := (HB4.out).free 15
    go_wp2_with fail
    go_end0
    have HC5 := Lib.hid (HC4.out.setCell (p := ⟨d, 0, none⟩) (by simp) (.int .i64 8))
    refine ⟨rfl, ?_⟩
    rw [HN.out]
    exact DAt.mk' { x with i := (i : Int) + 1, at_ := 7 } HK.out.1 HK.out.2.1 HK.out.2.2.1 HK.out.2.2.2.1 HK.out.2.2.2.2 HC4.out HB4.out ⟨rfl, by revert HX; cases to <;> exact fun h => h.out.1, HX.out.2, by simp⟩

end Go.Proofs.Ytilffolppnnkaaa
