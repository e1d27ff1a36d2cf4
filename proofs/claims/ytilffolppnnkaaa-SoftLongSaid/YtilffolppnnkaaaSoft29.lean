/- The document's path of layer 8: Give. -/
import Derived.Test.YtilffolppnnkaaaSoft28
namespace Go.Proofs.Ytilffolppnnkaaa
set_option maxRecDepth 100000
open Go.RowKit

def PS.takeG (s : PS) (ok : Bool) : PS := if ok then { s with points := wrap64 (s.points + 1), writing := true, ph := .back 0 } else { s with ph := .checkSeq .take }
def PS.backG (s : PS) (i : Nat) : PS := { s with ph := if i + 1 < s.W.length then .back (i + 1) else .release }

set_option maxHeartbeats 1000000 in
theorem dg_beginN (w : World) (N : List Nat) (d : Nat) (x : DX) (s : PS) (r u : SlP) (v : Int) (ok : Bool) (hph : s.ph = .beginN) (hp : DocPh x s.ph) (hN : ∀ z ∈ N, z < w.heap.size) (hRl : s.R.length ≤ 128) (hWl : s.W.length ≤ 128) (h1 : r.l = s.R) (h2 : u.l = s.W) (hF : FzP w N r) (hG : FzP w N u) (hd : d ∈ N) (hb : Blk w d (dcells x s r.val u.val) 60) :
    Calls Try.prog 53 #[.pointer (some ⟨d, 0, none⟩), .int .u64 v, .bool ok] w fun e w' => e = .returned (.int .i64 0) ∧ DAt w' N d ({ s with ph := .beginCas v }) ∧ Chg [d] w w' := by
  have hp0 := hp
  rw [hph] at hp
  have HB := Lib.hid hb
  have HK := Lib.hid (And.intro h1 (And.intro h2 (And.intro hF (And.intro hG hd))))
  have hrl : u.l.length = s.W.length := by rw [h2]
  have dc0 : (w).cell? ⟨d, 0, none⟩ = some (.int .i64 x.at_) := (hb).cell 0; have df0 : (w).frozen? ⟨d, 0, none⟩ = false := (hb).free 0; have dc1 : (w).cell? ⟨d, 1, none⟩ = some (.int .u64 x.n) := (hb).cell 1; have df1 : (w).frozen? ⟨d, 1, none⟩ = false := (hb).free 1; have dc2 : (w).cell? ⟨d, 2, none⟩ = some (.int .i64 x.a) := (hb).cell 2; have df2 : (w).frozen? ⟨d, 2, none⟩ = false := (hb).free 2; have dc3 : (w).cell? ⟨d, 3, none⟩ = some (.int .u64 x.v) := (hb).cell 3; have df3 : (w).frozen? ⟨d, 3, none⟩ = false := (hb).free 3; have dc4 : (w).cell? ⟨d, 4, none⟩ = some (.int .u64 x.g) := (hb).cell 4; have df4 : (w).frozen? ⟨d, 4, none⟩ = false := (hb).free 4; have dc5 : (w).cell? ⟨d, 5, none⟩ = some (.int .i64 x.i) := (hb).cell 5; have df5 : (w).frozen? ⟨d, 5, none⟩ = false := (hb).free 5; have dc6 : (w).cell? ⟨d, 6, none⟩ = some (.int .i64 x.to) := (hb).cell 6; have df6 : (w).frozen? ⟨d, 6, none⟩ = false := (hb).free 6; have dc7 : (w).cell? ⟨d, 7, none⟩ = some (.int .i64 x.how) := (hb).cell 7; have df7 : (w).frozen? ⟨d, 7, none⟩ = false := (hb).free 7; have dc8 : (w).cell? ⟨d, 8, none⟩ = some (.int .u64 s.snap) := (hb).cell 8; have df8 : (w).frozen? ⟨d, 8, none⟩ = false := (hb).free 8; have dc9 : (w).cell? ⟨d, 9, none⟩ = some (.int .u64 s.value) := (hb).cell 9; have df9 : (w).frozen? ⟨d, 9, none⟩ = false := (hb).free 9; have dc10 : (w).cell? ⟨d, 10, none⟩ = some (r.val) := (hb).cell 10; have df10 : (w).frozen? ⟨d, 10, none⟩ = false := (hb).free 10; have dc11 : (w).cell? ⟨d, 11, none⟩ = some (.slice u.A u.l.length u.cap) := (hb).cell 11; have df11 : (w).frozen? ⟨d, 11, none⟩ = false := (hb).free 11; have dc12 : (w).cell? ⟨d, 12, none⟩ = some (.bool s.live) := (hb).cell 12; have df12 : (w).frozen? ⟨d, 12, none⟩ = false := (hb).free 12; have dc13 : (w).cell? ⟨d, 13, none⟩ = some (.bool s.writing) := (hb).cell 13; have df13 : (w).frozen? ⟨d, 13, none⟩ = false := (hb).free 13; have dc14 : (w).cell? ⟨d, 14, none⟩ = some (.int .i64 s.ended) := (hb).cell 14; have df14 : (w).frozen? ⟨d, 14, none⟩ = false := (hb).free 14; have dc15 : (w).cell? ⟨d, 15, none⟩ = some (.int .i64 s.points) := (hb).cell 15; have df15 : (w).frozen? ⟨d, 15, none⟩ = false := (hb).free 15
  have e0 : x.at_ = 1 := hp
  rw [e0] at dc0
  clear e0
  clear h1 h2 hF hG hd hb hph hp hp0 hN hRl hWl hrl
  go_enter Try.func53, Try.ntmps53
  go_wp2_with fail
  go_ret
  exact ⟨rfl, DAt.mk' { x with n := v, at_ := 2 } HK.out.1 HK.out.2.1 HK.out.2.2.1 HK.out.2.2.2.1 HK.out.2.2.2.2 (by repeat (first | with_reducible exact Chg.refl _ _ | with_reducible refine Chg.setCell ?_ (by simp) _ | with_reducible refine Chg.drew ?_)) ((HB.out.set 1 _).set 0 _) ⟨rfl, rfl⟩⟩

set_option maxHeartbeats 1000000 in
theorem dg_beginCas (w : World) (N : List Nat) (d : Nat) (x : DX) (s : PS) (r u : SlP) (v : Int) (ok : Bool) (n : Int) (hph : s.ph = .beginCas n) (hp : DocPh x s.ph) (hN : ∀ z ∈ N, z < w.heap.size) (hRl : s.R.length ≤ 128) (hWl : s.W.length ≤ 128) (h1 : r.l = s.R) (h2 : u.l = s.W) (hF : FzP w N r) (hG : FzP w N u) (hd : d ∈ N) (hb : Blk w d (dcells x s r.val u.val) 60) :
    Calls Try.prog 53 #[.pointer (some ⟨d, 0, none⟩), .int .u64 v, .bool ok] w fun e w' => e = .returned (.int .i64 0) ∧ DAt w' N d ({ s with ph := if ok then .beginSeq else .beginN }) ∧ Chg [d] w w' := by
  have hp0 := hp
  rw [hph] at hp
  have HB := Lib.hid hb
  have HK := Lib.hid (And.intro h1 (And.intro h2 (And.intro hF (And.intro hG hd))))
  have hrl : u.l.length = s.W.length := by rw [h2]
  have dc0 : (w).cell? ⟨d, 0, none⟩ = some (.int .i64 x.at_) := (hb).cell 0; have df0 : (w).frozen? ⟨d, 0, none⟩ = false := (hb).free 0; have dc1 : (w).cell? ⟨d, 1, none⟩ = some (.int .u64 x.n) := (hb).cell 1; have df1 : (w).frozen? ⟨d, 1, none⟩ = false := (hb).free 1; have dc2 : (w).cell? ⟨d, 2, none⟩ = some (.int .i64 x.a) := (hb).cell 2; have df2 : (w).frozen? ⟨d, 2, none⟩ = false := (hb).free 2; have dc3 : (w).cell? ⟨d, 3, none⟩ = some (.int .u64 x.v) := (hb).cell 3; have df3 : (w).frozen? ⟨d, 3, none⟩ = false := (hb).free 3; have dc4 : (w).cell? ⟨d, 4, none⟩ = some (.int .u64 x.g) := (hb).cell 4; have df4 : (w).frozen? ⟨d, 4, none⟩ = false := (hb).free 4; have dc5 : (w).cell? ⟨d, 5, none⟩ = some (.int .i64 x.i) := (hb).cell 5; have df5 : (w).frozen? ⟨d, 5, none⟩ = false := (hb).free 5; have dc6 : (w).cell? ⟨d, 6, none⟩ = some (.int .i64 x.to) := (hb).cell 6; have df6 : (w).frozen? ⟨d, 6, none⟩ = false := (hb).free 6; have dc7 : (w).cell? ⟨d, 7, none⟩ = some (.int .i64 x.how) := (hb).cell 7; have df7 : (w).frozen? ⟨d, 7, none⟩ = false := (hb).free 7; have dc8 : (w).cell? ⟨d, 8, none⟩ = some (.int .u64 s.snap) := (hb).cell 8; have df8 : (w).frozen? ⟨d, 8, none⟩ = false := (hb).free 8; have dc9 : (w).cell? ⟨d, 9, none⟩ = some (.int .u64 s.value) := (hb).cell 9; have df9 : (w).frozen? ⟨d, 9, none⟩ = false := (hb).free 9; have dc10 : (w).cell? ⟨d, 10, none⟩ = some (r.val) := (hb).cell 10; have df10 : (w).frozen? ⟨d, 10, none⟩ = false := (hb).free 10; have dc11 : (w).cell? ⟨d, 11, none⟩ = some (.slice u.A u.l.length u.cap) := (hb).cell 11; have df11 : (w).frozen? ⟨d, 11, none⟩ = false := (hb).free 11; have dc12 : (w).cell? ⟨d, 12, none⟩ = some (.bool s.live) := (hb).cell 12; have df12 : (w).frozen? ⟨d, 12, none⟩ = false := (hb).free 12; have dc13 : (w).cell? ⟨d, 13, none⟩ = some (.bool s.writing) := (hb).cell 13; have df13 : (w).frozen? ⟨d, 13, none⟩ = false := (hb).free 13; have dc14 : (w).cell? ⟨d, 14, none⟩ = some (.int .i64 s.ended) := (hb).cell 14; have df14 : (w).frozen? ⟨d, 14, none⟩ = false := (hb).free 14; have dc15 : (w).cell? ⟨d, 15, none⟩ = some (.int .i64 s.points) := (hb).cell 15; have df15 : (w).frozen? ⟨d, 15, none⟩ = false := (hb).free 15
  have e0 : x.at_ = 2 := hp.1
  rw [e0] at dc0
  clear e0
  clear h1 h2 hF hG hd hb hph hp hp0 hN hRl hWl hrl
  cases ok with
  | true =>
    go_enter Try.func53, Try.ntmps53
    go_wp2_with fail
    go_ret
    exact ⟨rfl, DAt.mk' { x with at_ := 3 } HK.out.1 HK.out.2.1 HK.out.2.2.1 HK.out.2.2.2.1 HK.out.2.2.2.2 (by repeat (first | with_reducible exact Chg.refl _ _ | with_reducible refine Chg.setCell ?_ (by simp) _ | with_reducible refine Chg.drew ?_)) ((HB.out.set 0 _).set 0 _) rfl⟩
  | false =>
    go_enter Try.func53, Try.ntmps53
    go_wp2_with fail
    go_ret
    exact ⟨rfl, DAt.mk' { x with at_ := 1 } HK.out.1 HK.out.2.1 HK.out.2.2.1 HK.out.2.2.2.1 HK.out.2.2.2.2 (by repeat (first | with_reducible exact Chg.refl _ _ | with_reducible refine Chg.setCell ?_ (by simp) _ | with_reducible refine Chg.drew ?_)) (HB.out.set 0 _) rfl⟩

set_option maxHeartbeats 1000000 in
theorem dg_beginSeq_odd (w : World) (N : List Nat) (d : Nat) (x : DX) (s : PS) (r u : SlP) (v : Int) (ok : Bool) (hph : s.ph = .beginSeq) (hp : DocPh x s.ph) (hv0 : 0 ≤ v) (hv : v % 2 = 1) (hN : ∀ z ∈ N, z < w.heap.size) (hRl : s.R.length ≤ 128) (hWl : s.W.length ≤ 128) (h1 : r.l = s.R) (h2 : u.l = s.W) (hF : FzP w N r) (hG : FzP w N u) (hd : d ∈ N) (hb : Blk w d (dcells x s r.val u.val) 60) :
    Calls Try.prog 53 #[.pointer (some ⟨d, 0, none⟩), .int .u64 v, .bool ok] w fun e w' => e = .returned (.int .i64 0) ∧ DAt w' N d (s) ∧ Chg [d] w w' := by
  have hp0 := hp
  rw [hph] at hp
  have HB := Lib.hid hb
  have HK := Lib.hid (And.intro h1 (And.intro h2 (And.intro hF (And.intro hG hd))))
  have hrl : u.l.length = s.W.length := by rw [h2]
  have dc0 : (w).cell? ⟨d, 0, none⟩ = some (.int .i64 x.at_) := (hb).cell 0; have df0 : (w).frozen? ⟨d, 0, none⟩ = false := (hb).free 0; have dc1 : (w).cell? ⟨d, 1, none⟩ = some (.int .u64 x.n) := (hb).cell 1; have df1 : (w).frozen? ⟨d, 1, none⟩ = false := (hb).free 1; have dc2 : (w).cell? ⟨d, 2, none⟩ = some (.int .i64 x.a) := (hb).cell 2; have df2 : (w).frozen? ⟨d, 2, none⟩ = false := (hb).free 2; have dc3 : (w).cell? ⟨d, 3, none⟩ = some (.int .u64 x.v) := (hb).cell 3; have df3 : (w).frozen? ⟨d, 3, none⟩ = false := (hb).free 3; have dc4 : (w).cell? ⟨d, 4, none⟩ = some (.int .u64 x.g) := (hb).cell 4; have df4 : (w).frozen? ⟨d, 4, none⟩ = false := (hb).free 4; have dc5 : (w).cell? ⟨d, 5, none⟩ = some (.int .i64 x.i) := (hb).cell 5; have df5 : (w).frozen? ⟨d, 5, none⟩ = false := (hb).free 5; have dc6 : (w).cell? ⟨d, 6, none⟩ = some (.int .i64 x.to) := (hb).cell 6; have df6 : (w).frozen? ⟨d, 6, none⟩ = false := (hb).free 6; have dc7 : (w).cell? ⟨d, 7, none⟩ = some (.int .i64 x.how) := (hb).cell 7; have df7 : (w).frozen? ⟨d, 7, none⟩ = false := (hb).free 7; have dc8 : (w).cell? ⟨d, 8, none⟩ = some (.int .u64 s.snap) := (hb).cell 8; have df8 : (w).frozen? ⟨d, 8, none⟩ = false := (hb).free 8; have dc9 : (w).cell? ⟨d, 9, none⟩ = some (.int .u64 s.value) := (hb).cell 9; have df9 : (w).frozen? ⟨d, 9, none⟩ = false := (hb).free 9; have dc10 : (w).cell? ⟨d, 10, none⟩ = some (r.val) := (hb).cell 10; have df10 : (w).frozen? ⟨d, 10, none⟩ = false := (hb).free 10; have dc11 : (w).cell? ⟨d, 11, none⟩ = some (.slice u.A u.l.length u.cap) := (hb).cell 11; have df11 : (w).frozen? ⟨d, 11, none⟩ = false := (hb).free 11; have dc12 : (w).cell? ⟨d, 12, none⟩ = some (.bool s.live) := (hb).cell 12; have df12 : (w).frozen? ⟨d, 12, none⟩ = false := (hb).free 12; have dc13 : (w).cell? ⟨d, 13, none⟩ = some (.bool s.writing) := (hb).cell 13; have df13 : (w).frozen? ⟨d, 13, none⟩ = false := (hb).free 13; have dc14 : (w).cell? ⟨d, 14, none⟩ = some (.int .i64 s.ended) := (hb).cell 14; have df14 : (w).frozen? ⟨d, 14, none⟩ = false := (hb).free 14; have dc15 : (w).cell? ⟨d, 15, none⟩ = some (.int .i64 s.points) := (hb).cell 15; have df15 : (w).frozen? ⟨d, 15, none⟩ = false := (hb).free 15
  have e0 : x.at_ = 3 := hp
  rw [e0] at dc0
  have ht : (v.tmod 2 == 0) = false := by rw [Int.tmod_eq_emod_of_nonneg hv0, hv]; rfl
  have HX := Lib.hid hp0
  clear e0 hv hv0
  clear h1 h2 hF hG hd hb hph hp hp0 hN hRl hWl hrl
  go_enter Try.func53, Try.ntmps53
  go_wp2_with fail
  go_ret
  exact ⟨rfl, DAt.mk' x HK.out.1 HK.out.2.1 HK.out.2.2.1 HK.out.2.2.2.1 HK.out.2.2.2.2 (by repeat (first | with_reducible exact Chg.refl _ _ | with_reducible refine Chg.setCell ?_ (by simp) _ | with_reducible refine Chg.drew ?_)) HB.out HX.out⟩

set_option maxHeartbeats 1000000 in
theorem dg_beginSeq_even (w : World) (N : List Nat) (d : Nat) (x : DX) (s : PS) (r u : SlP) (v : Int) (ok : Bool) (hph : s.ph = .beginSeq) (hp : DocPh x s.ph) (hv0 : 0 ≤ v) (hv : v % 2 = 0) (hN : ∀ z ∈ N, z < w.heap.size) (hRl : s.R.length ≤ 128) (hWl : s.W.length ≤ 128) (h1 : r.l = s.R) (h2 : u.l = s.W) (hF : FzP w N r) (hG : FzP w N u) (hd : d ∈ N) (hb : Blk w d (dcells x s r.val u.val) 60) :
    Calls Try.prog 53 #[.pointer (some ⟨d, 0, none⟩), .int .u64 v, .bool ok] w fun e w' => e = .returned (.int .i64 0) ∧ DAt w' N d ({ s with ph := .idle, snap := v, points := wrap64 (s.points + 1), live := true }) ∧ Chg [d] w w' := by
  have hp0 := hp
  rw [hph] at hp
  have HB := Lib.hid hb
  have HK := Lib.hid (And.intro h1 (And.intro h2 (And.intro hF (And.intro hG hd))))
  have hrl : u.l.length = s.W.length := by rw [h2]
  have dc0 : (w).cell? ⟨d, 0, none⟩ = some (.int .i64 x.at_) := (hb).cell 0; have df0 : (w).frozen? ⟨d, 0, none⟩ = false := (hb).free 0; have dc1 : (w).cell? ⟨d, 1, none⟩ = some (.int .u64 x.n) := (hb).cell 1; have df1 : (w).frozen? ⟨d, 1, none⟩ = false := (hb).free 1; have dc2 : (w).cell? ⟨d, 2, none⟩ = some (.int .i64 x.a) := (hb).cell 2; have df2 : (w).frozen? ⟨d, 2, none⟩ = false := (hb).free 2; have dc3 : (w).cell? ⟨d, 3, none⟩ = some (.int .u64 x.v) := (hb).cell 3; have df3 : (w).frozen? ⟨d, 3, none⟩ = false := (hb).free 3; have dc4 : (w).cell? ⟨d, 4, none⟩ = some (.int .u64 x.g) := (hb).cell 4; have df4 : (w).frozen? ⟨d, 4, none⟩ = false := (hb).free 4; have dc5 : (w).cell? ⟨d, 5, none⟩ = some (.int .i64 x.i) := (hb).cell 5; have df5 : (w).frozen? ⟨d, 5, none⟩ = false := (hb).free 5; have dc6 : (w).cell? ⟨d, 6, none⟩ = some (.int .i64 x.to) := (hb).cell 6; have df6 : (w).frozen? ⟨d, 6, none⟩ = false := (hb).free 6; have dc7 : (w).cell? ⟨d, 7, none⟩ = some (.int .i64 x.how) := (hb).cell 7; have df7 : (w).frozen? ⟨d, 7, none⟩ = false := (hb).free 7; have dc8 : (w).cell? ⟨d, 8, none⟩ = some (.int .u64 s.snap) := (hb).cell 8; have df8 : (w).frozen? ⟨d, 8, none⟩ = false := (hb).free 8; have dc9 : (w).cell? ⟨d, 9, none⟩ = some (.int .u64 s.value) := (hb).cell 9; have df9 : (w).frozen? ⟨d, 9, none⟩ = false := (hb).free 9; have dc10 : (w).cell? ⟨d, 10, none⟩ = some (r.val) := (hb).cell 10; have df10 : (w).frozen? ⟨d, 10, none⟩ = false := (hb).free 10; have dc11 : (w).cell? ⟨d, 11, none⟩ = some (.slice u.A u.l.length u.cap) := (hb).cell 11; have df11 : (w).frozen? ⟨d, 11, none⟩ = false := (hb).free 11; have dc12 : (w).cell? ⟨d, 12, none⟩ = some (.bool s.live) := (hb).cell 12; have df12 : (w).frozen? ⟨d, 12, none⟩ = false := (hb).free 12; have dc13 : (w).cell? ⟨d, 13, none⟩ = some (.bool s.writing) := (hb).cell 13; have df13 : (w).frozen? ⟨d, 13, none⟩ = false := (hb).free 13; have dc14 : (w).cell? ⟨d, 14, none⟩ = some (.int .i64 s.ended) := (hb).cell 14; have df14 : (w).frozen? ⟨d, 14, none⟩ = false := (hb).free 14; have dc15 : (w).cell? ⟨d, 15, none⟩ = some (.int .i64 s.points) := (hb).cell 15; have df15 : (w).frozen? ⟨d, 15, none⟩ = false := (hb).free 15
  have e0 : x.at_ = 3 := hp
  rw [e0] at dc0
  have ht : (v.tmod 2 == 0) = true := by rw [Int.tmod_eq_emod_of_nonneg hv0, hv]; rfl
  clear e0 hv hv0
  clear h1 h2 hF hG hd hb hph hp hp0 hN hRl hWl hrl
  go_enter Try.func53, Try.ntmps53
  go_wp2_with fail
  go_ret
  exact ⟨rfl, DAt.mk' { x with at_ := 0 } HK.out.1 HK.out.2.1 HK.out.2.2.1 HK.out.2.2.2.1 HK.out.2.2.2.2 (by repeat (first | with_reducible exact Chg.refl _ _ | with_reducible refine Chg.setCell ?_ (by simp) _ | with_reducible refine Chg.drew ?_)) ((((HB.out.set 8 _).set 15 _).set 12 _).set 0 _) rfl⟩

set_option maxHeartbeats 1000000 in
theorem dg_loadWord (w : World) (N : List Nat) (d : Nat) (x : DX) (s : PS) (r u : SlP) (v : Int) (ok : Bool) (a : Int) (hph : s.ph = .loadWord a) (hp : DocPh x s.ph) (hN : ∀ z ∈ N, z < w.heap.size) (hRl : s.R.length ≤ 128) (hWl : s.W.length ≤ 128) (h1 : r.l = s.R) (h2 : u.l = s.W) (hF : FzP w N r) (hG : FzP w N u) (hd : d ∈ N) (hb : Blk w d (dcells x s r.val u.val) 60) :
    Calls Try.prog 53 #[.pointer (some ⟨d, 0, none⟩), .int .u64 v, .bool ok] w fun e w' => e = .returned (.int .i64 0) ∧ DAt w' N d ({ s with ph := .loadSeq a v }) ∧ Chg [d] w w' := by
  have hp0 := hp
  rw [hph] at hp
  have HB := Lib.hid hb
  have HK := Lib.hid (And.intro h1 (And.intro h2 (And.intro hF (And.intro hG hd))))
  have hrl : u.l.length = s.W.length := by rw [h2]
  have dc0 : (w).cell? ⟨d, 0, none⟩ = some (.int .i64 x.at_) := (hb).cell 0; have df0 : (w).frozen? ⟨d, 0, none⟩ = false := (hb).free 0; have dc1 : (w).cell? ⟨d, 1, none⟩ = some (.int .u64 x.n) := (hb).cell 1; have df1 : (w).frozen? ⟨d, 1, none⟩ = false := (hb).free 1; have dc2 : (w).cell? ⟨d, 2, none⟩ = some (.int .i64 x.a) := (hb).cell 2; have df2 : (w).frozen? ⟨d, 2, none⟩ = false := (hb).free 2; have dc3 : (w).cell? ⟨d, 3, none⟩ = some (.int .u64 x.v) := (hb).cell 3; have df3 : (w).frozen? ⟨d, 3, none⟩ = false := (hb).free 3; have dc4 : (w).cell? ⟨d, 4, none⟩ = some (.int .u64 x.g) := (hb).cell 4; have df4 : (w).frozen? ⟨d, 4, none⟩ = false := (hb).free 4; have dc5 : (w).cell? ⟨d, 5, none⟩ = some (.int .i64 x.i) := (hb).cell 5; have df5 : (w).frozen? ⟨d, 5, none⟩ = false := (hb).free 5; have dc6 : (w).cell? ⟨d, 6, none⟩ = some (.int .i64 x.to) := (hb).cell 6; have df6 : (w).frozen? ⟨d, 6, none⟩ = false := (hb).free 6; have dc7 : (w).cell? ⟨d, 7, none⟩ = some (.int .i64 x.how) := (hb).cell 7; have df7 : (w).frozen? ⟨d, 7, none⟩ = false := (hb).free 7; have dc8 : (w).cell? ⟨d, 8, none⟩ = some (.int .u64 s.snap) := (hb).cell 8; have df8 : (w).frozen? ⟨d, 8, none⟩ = false := (hb).free 8; have dc9 : (w).cell? ⟨d, 9, none⟩ = some (.int .u64 s.value) := (hb).cell 9; have df9 : (w).frozen? ⟨d, 9, none⟩ = false := (hb).free 9; have dc10 : (w).cell? ⟨d, 10, none⟩ = some (r.val) := (hb).cell 10; have df10 : (w).frozen? ⟨d, 10, none⟩ = false := (hb).free 10; have dc11 : (w).cell? ⟨d, 11, none⟩ = some (.slice u.A u.l.length u.cap) := (hb).cell 11; have df11 : (w).frozen? ⟨d, 11, none⟩ = false := (hb).free 11; have dc12 : (w).cell? ⟨d, 12, none⟩ = some (.bool s.live) := (hb).cell 12; have df12 : (w).frozen? ⟨d, 12, none⟩ = false := (hb).free 12; have dc13 : (w).cell? ⟨d, 13, none⟩ = some (.bool s.writing) := (hb).cell 13; have df13 : (w).frozen? ⟨d, 13, none⟩ = false := (hb).free 13; have dc14 : (w).cell? ⟨d, 14, none⟩ = some (.int .i64 s.ended) := (hb).cell 14; have df14 : (w).frozen? ⟨d, 14, none⟩ = false := (hb).free 14; have dc15 : (w).cell? ⟨d, 15, none⟩ = some (.int .i64 s.points) := (hb).cell 15; have df15 : (w).frozen? ⟨d, 15, none⟩ = false := (hb).free 15
  have e0 : x.at_ = 4 := hp.1
  have HX := Lib.hid hp.2
  rw [e0] at dc0
  clear e0
  clear h1 h2 hF hG hd hb hph hp hp0 hN hRl hWl hrl
  go_enter Try.func53, Try.ntmps53
  go_wp2_with fail
  go_ret
  exact ⟨rfl, DAt.mk' { x with v := v, at_ := 5 } HK.out.1 HK.out.2.1 HK.out.2.2.1 HK.out.2.2.2.1 HK.out.2.2.2.2 (by repeat (first | with_reducible exact Chg.refl _ _ | with_reducible refine Chg.setCell ?_ (by simp) _ | with_reducible refine Chg.drew ?_)) ((HB.out.set 3 _).set 0 _) ⟨rfl, HX.out, rfl⟩⟩

set_option maxHeartbeats 1000000 in
theorem dg_loadSeq_ne (w : World) (N : List Nat) (d : Nat) (x : DX) (s : PS) (r u : SlP) (v : Int) (ok : Bool) (a y : Int) (hph : s.ph = .loadSeq a y) (hp : DocPh x s.ph) (hne : v ≠ s.snap) (hN : ∀ z ∈ N, z < w.heap.size) (hRl : s.R.length ≤ 128) (hWl : s.W.length ≤ 128) (h1 : r.l = s.R) (h2 : u.l = s.W) (hF : FzP w N r) (hG : FzP w N u) (hd : d ∈ N) (hb : Blk w d (dcells x s r.val u.val) 60) :
    Calls Try.prog 53 #[.pointer (some ⟨d, 0, none⟩), .int .u64 v, .bool ok] w fun e w' => e = .returned (.int .i64 0) ∧ DAt w' N d ({ s with ph := .checkSeq (.fetch a) }) ∧ Chg [d] w w' := by
  have hp0 := hp
  rw [hph] at hp
  have HB := Lib.hid hb
  have HK := Lib.hid (And.intro h1 (And.intro h2 (And.intro hF (And.intro hG hd))))
  have hrl : u.l.length = s.W.length := by rw [h2]
  have dc0 : (w).cell? ⟨d, 0, none⟩ = some (.int .i64 x.at_) := (hb).cell 0; have df0 : (w).frozen? ⟨d, 0, none⟩ = false := (hb).free 0; have dc1 : (w).cell? ⟨d, 1, none⟩ = some (.int .u64 x.n) := (hb).cell 1; have df1 : (w).frozen? ⟨d, 1, none⟩ = false := (hb).free 1; have dc2 : (w).cell? ⟨d, 2, none⟩ = some (.int .i64 x.a) := (hb).cell 2; have df2 : (w).frozen? ⟨d, 2, none⟩ = false := (hb).free 2; have dc3 : (w).cell? ⟨d, 3, none⟩ = some (.int .u64 x.v) := (hb).cell 3; have df3 : (w).frozen? ⟨d, 3, none⟩ = false := (hb).free 3; have dc4 : (w).cell? ⟨d, 4, none⟩ = some (.int .u64 x.g) := (hb).cell 4; have df4 : (w).frozen? ⟨d, 4, none⟩ = false := (hb).free 4; have dc5 : (w).cell? ⟨d, 5, none⟩ = some (.int .i64 x.i) := (hb).cell 5; have df5 : (w).frozen? ⟨d, 5, none⟩ = false := (hb).free 5; have dc6 : (w).cell? ⟨d, 6, none⟩ = some (.int .i64 x.to) := (hb).cell 6; have df6 : (w).frozen? ⟨d, 6, none⟩ = false := (hb).free 6; have dc7 : (w).cell? ⟨d, 7, none⟩ = some (.int .i64 x.how) := (hb).cell 7; have df7 : (w).frozen? ⟨d, 7, none⟩ = false := (hb).free 7; have dc8 : (w).cell? ⟨d, 8, none⟩ = some (.int .u64 s.snap) := (hb).cell 8; have df8 : (w).frozen? ⟨d, 8, none⟩ = false := (hb).free 8; have dc9 : (w).cell? ⟨d, 9, none⟩ = some (.int .u64 s.value) := (hb).cell 9; have df9 : (w).frozen? ⟨d, 9, none⟩ = false := (hb).free 9; have dc10 : (w).cell? ⟨d, 10, none⟩ = some (r.val) := (hb).cell 10; have df10 : (w).frozen? ⟨d, 10, none⟩ = false := (hb).free 10; have dc11 : (w).cell? ⟨d, 11, none⟩ = some (.slice u.A u.l.length u.cap) := (hb).cell 11; have df11 : (w).frozen? ⟨d, 11, none⟩ = false := (hb).free 11; have dc12 : (w).cell? ⟨d, 12, none⟩ = some (.bool s.live) := (hb).cell 12; have df12 : (w).frozen? ⟨d, 12, none⟩ = false := (hb).free 12; have dc13 : (w).cell? ⟨d, 13, none⟩ = some (.bool s.writing) := (hb).cell 13; have df13 : (w).frozen? ⟨d, 13, none⟩ = false := (hb).free 13; have dc14 : (w).cell? ⟨d, 14, none⟩ = some (.int .i64 s.ended) := (hb).cell 14; have df14 : (w).frozen? ⟨d, 14, none⟩ = false := (hb).free 14; have dc15 : (w).cell? ⟨d, 15, none⟩ = some (.int .i64 s.points) := (hb).cell 15; have df15 : (w).frozen? ⟨d, 15, none⟩ = false := (hb).free 15
  have e0 : x.at_ = 5 := by first | exact hp | exact hp.1
  rw [e0] at dc0
  have HC := Lib.hid (dloaded_ne w N d x s r u a y v hph hp0 hne h1 h2 hF hG hd hb)
  clear e0 hne
  clear h1 h2 hF hG hd hb hph hp hp0 hN hRl hWl hrl
  go_enter Try.func53, Try.ntmps53
  go_wp2_with fail
  refine HC.out.mono ?_
  rintro e w1 ⟨rfl, hq⟩
  have HQ := Lib.hid hq
  clear hq
  go_wp2_with fail
  go_ret
  exact ⟨rfl, HQ.out⟩

set_option maxHeartbeats 1000000 in
theorem dg_loadSeq_eq (w : World) (N : List Nat) (d : Nat) (x : DX) (s : PS) (r u : SlP) (v : Int) (ok : Bool) (a y : Int) (hph : s.ph = .loadSeq a y) (hp : DocPh x s.ph) (ha : 0 ≤ a) (he : v = s.snap) (hN : ∀ z ∈ N, z < w.heap.size) (hRl : s.R.length ≤ 128) (hWl : s.W.length ≤ 128) (h1 : r.l = s.R) (h2 : u.l = s.W) (hF : FzP w N r) (hG : FzP w N u) (hd : d ∈ N) (hb : Blk w d (dcells x s r.val u.val) 60) :
    Calls Try.prog 53 #[.pointer (some ⟨d, 0, none⟩), .int .u64 v, .bool ok] w fun e w' => e = .returned (.int .i64 0) ∧ DAt w' N d (s.loaded a y) ∧ Chg [d] w w' := by
  have hp0 := hp
  rw [hph] at hp
  have HB := Lib.hid hb
  have HK := Lib.hid (And.intro h1 (And.intro h2 (And.intro hF (And.intro hG hd))))
  have hrl : u.l.length = s.W.length := by rw [h2]
  have dc0 : (w).cell? ⟨d, 0, none⟩ = some (.int .i64 x.at_) := (hb).cell 0; have df0 : (w).frozen? ⟨d, 0, none⟩ = false := (hb).free 0; have dc1 : (w).cell? ⟨d, 1, none⟩ = some (.int .u64 x.n) := (hb).cell 1; have df1 : (w).frozen? ⟨d, 1, none⟩ = false := (hb).free 1; have dc2 : (w).cell? ⟨d, 2, none⟩ = some (.int .i64 x.a) := (hb).cell 2; have df2 : (w).frozen? ⟨d, 2, none⟩ = false := (hb).free 2; have dc3 : (w).cell? ⟨d, 3, none⟩ = some (.int .u64 x.v) := (hb).cell 3; have df3 : (w).frozen? ⟨d, 3, none⟩ = false := (hb).free 3; have dc4 : (w).cell? ⟨d, 4, none⟩ = some (.int .u64 x.g) := (hb).cell 4; have df4 : (w).frozen? ⟨d, 4, none⟩ = false := (hb).free 4; have dc5 : (w).cell? ⟨d, 5, none⟩ = some (.int .i64 x.i) := (hb).cell 5; have df5 : (w).frozen? ⟨d, 5, none⟩ = false := (hb).free 5; have dc6 : (w).cell? ⟨d, 6, none⟩ = some (.int .i64 x.to) := (hb).cell 6; have df6 : (w).frozen? ⟨d, 6, none⟩ = false := (hb).free 6; have dc7 : (w).cell? ⟨d, 7, none⟩ = some (.int .i64 x.how) := (hb).cell 7; have df7 : (w).frozen? ⟨d, 7, none⟩ = false := (hb).free 7; have dc8 : (w).cell? ⟨d, 8, none⟩ = some (.int .u64 s.snap) := (hb).cell 8; have df8 : (w).frozen? ⟨d, 8, none⟩ = false := (hb).free 8; have dc9 : (w).cell? ⟨d, 9, none⟩ = some (.int .u64 s.value) := (hb).cell 9; have df9 : (w).frozen? ⟨d, 9, none⟩ = false := (hb).free 9; have dc10 : (w).cell? ⟨d, 10, none⟩ = some (r.val) := (hb).cell 10; have df10 : (w).frozen? ⟨d, 10, none⟩ = false := (hb).free 10; have dc11 : (w).cell? ⟨d, 11, none⟩ = some (.slice u.A u.l.length u.cap) := (hb).cell 11; have df11 : (w).frozen? ⟨d, 11, none⟩ = false := (hb).free 11; have dc12 : (w).cell? ⟨d, 12, none⟩ = some (.bool s.live) := (hb).cell 12; have df12 : (w).frozen? ⟨d, 12, none⟩ = false := (hb).free 12; have dc13 : (w).cell? ⟨d, 13, none⟩ = some (.bool s.writing) := (hb).cell 13; have df13 : (w).frozen? ⟨d, 13, none⟩ = false := (hb).free 13; have dc14 : (w).cell? ⟨d, 14, none⟩ = some (.int .i64 s.ended) := (hb).cell 14; have df14 : (w).frozen? ⟨d, 14, none⟩ = false := (hb).free 14; have dc15 : (w).cell? ⟨d, 15, none⟩ = some (.int .i64 s.points) := (hb).cell 15; have df15 : (w).frozen? ⟨d, 15, none⟩ = false := (hb).free 15
  have e0 : x.at_ = 5 := by first | exact hp | exact hp.1
  rw [e0] at dc0
  have HC := Lib.hid (he ▸ dloaded_eq w N d x s r u a y hph hp0 ha hN hRl h1 h2 hF hG hd hb)
  clear e0 he
  clear h1 h2 hF hG hd hb hph hp hp0 hN hRl hWl hrl
  go_enter Try.func53, Try.ntmps53
  go_wp2_with fail
  refine HC.out.mono ?_
  rintro e w1 ⟨rfl, hq⟩
  have HQ := Lib.hid hq
  clear hq
  go_wp2_with fail
  go_ret
  exact ⟨rfl, HQ.out⟩

set_option maxHeartbeats 1000000 in
theorem dg_checkEnd_no (w : World) (N : List Nat) (d : Nat) (x : DX) (s : PS) (r u : SlP) (v : Int) (ok : Bool) (to : To) (g : Int) (hph : s.ph = .checkEnd to g) (hp : DocPh x s.ph) (hv : v ≠ g) (hN : ∀ z ∈ N, z < w.heap.size) (hRl : s.R.length ≤ 128) (hWl : s.W.length ≤ 128) (h1 : r.l = s.R) (h2 : u.l = s.W) (hF : FzP w N r) (hG : FzP w N u) (hd : d ∈ N) (hb : Blk w d (dcells x s r.val u.val) 60) :
    Calls Try.prog 53 #[.pointer (some ⟨d, 0, none⟩), .int .u64 v, .bool ok] w fun e w' => e = .returned (.int .i64 0) ∧ DAt w' N d ({ s with ph := .checkSeq to }) ∧ Chg [d] w w' := by
  have hp0 := hp
  rw [hph] at hp
  have HB := Lib.hid hb
  have HK := Lib.hid (And.intro h1 (And.intro h2 (And.intro hF (And.intro hG hd))))
  have hrl : u.l.length = s.W.length := by rw [h2]
  have dc0 : (w).cell? ⟨d, 0, none⟩ = some (.int .i64 x.at_) := (hb).cell 0; have df0 : (w).frozen? ⟨d, 0, none⟩ = false := (hb).free 0; have dc1 : (w).cell? ⟨d, 1, none⟩ = some (.int .u64 x.n) := (hb).cell 1; have df1 : (w).frozen? ⟨d, 1, none⟩ = false := (hb).free 1; have dc2 : (w).cell? ⟨d, 2, none⟩ = some (.int .i64 x.a) := (hb).cell 2; have df2 : (w).frozen? ⟨d, 2, none⟩ = false := (hb).free 2; have dc3 : (w).cell? ⟨d, 3, none⟩ = some (.int .u64 x.v) := (hb).cell 3; have df3 : (w).frozen? ⟨d, 3, none⟩ = false := (hb).free 3; have dc4 : (w).cell? ⟨d, 4, none⟩ = some (.int .u64 x.g) := (hb).cell 4; have df4 : (w).frozen? ⟨d, 4, none⟩ = false := (hb).free 4; have dc5 : (w).cell? ⟨d, 5, none⟩ = some (.int .i64 x.i) := (hb).cell 5; have df5 : (w).frozen? ⟨d, 5, none⟩ = false := (hb).free 5; have dc6 : (w).cell? ⟨d, 6, none⟩ = some (.int .i64 x.to) := (hb).cell 6; have df6 : (w).frozen? ⟨d, 6, none⟩ = false := (hb).free 6; have dc7 : (w).cell? ⟨d, 7, none⟩ = some (.int .i64 x.how) := (hb).cell 7; have df7 : (w).frozen? ⟨d, 7, none⟩ = false := (hb).free 7; have dc8 : (w).cell? ⟨d, 8, none⟩ = some (.int .u64 s.snap) := (hb).cell 8; have df8 : (w).frozen? ⟨d, 8, none⟩ = false := (hb).free 8; have dc9 : (w).cell? ⟨d, 9, none⟩ = some (.int .u64 s.value) := (hb).cell 9; have df9 : (w).frozen? ⟨d, 9, none⟩ = false := (hb).free 9; have dc10 : (w).cell? ⟨d, 10, none⟩ = some (r.val) := (hb).cell 10; have df10 : (w).frozen? ⟨d, 10, none⟩ = false := (hb).free 10; have dc11 : (w).cell? ⟨d, 11, none⟩ = some (.slice u.A u.l.length u.cap) := (hb).cell 11; have df11 : (w).frozen? ⟨d, 11, none⟩ = false := (hb).free 11; have dc12 : (w).cell? ⟨d, 12, none⟩ = some (.bool s.live) := (hb).cell 12; have df12 : (w).frozen? ⟨d, 12, none⟩ = false := (hb).free 12; have dc13 : (w).cell? ⟨d, 13, none⟩ = some (.bool s.writing) := (hb).cell 13; have df13 : (w).frozen? ⟨d, 13, none⟩ = false := (hb).free 13; have dc14 : (w).cell? ⟨d, 14, none⟩ = some (.int .i64 s.ended) := (hb).cell 14; have df14 : (w).frozen? ⟨d, 14, none⟩ = false := (hb).free 14; have dc15 : (w).cell? ⟨d, 15, none⟩ = some (.int .i64 s.points) := (hb).cell 15; have df15 : (w).frozen? ⟨d, 15, none⟩ = false := (hb).free 15
  have e0 : x.at_ = 8 := by first | exact hp | exact hp.1
  rw [e0] at dc0
  have HC := Lib.hid (dcheckEnd_no w N d x s r u v to g hph hp0 hv hRl h1 h2 hF hG hd hb)
  clear e0 hv
  clear h1 h2 hF hG hd hb hph hp hp0 hN hRl hWl hrl
  go_enter Try.func53, Try.ntmps53
  go_wp2_with fail
  refine HC.out.mono ?_
  rintro e w1 ⟨rfl, hq⟩
  have HQ := Lib.hid hq
  clear hq
  go_wp2_with fail
  go_ret
  exact ⟨rfl, HQ.out⟩

set_option maxHeartbeats 1000000 in
theorem dg_checkEnd_yes (w : World) (N : List Nat) (d : Nat) (x : DX) (s : PS) (r u : SlP) (v : Int) (ok : Bool) (to : To) (g : Int) (hph : s.ph = .checkEnd to g) (hp : DocPh x s.ph) (hv : v = g) (hN : ∀ z ∈ N, z < w.heap.size) (hRl : s.R.length ≤ 128) (hWl : s.W.length ≤ 128) (h1 : r.l = s.R) (h2 : u.l = s.W) (hF : FzP w N r) (hG : FzP w N u) (hd : d ∈ N) (hb : Blk w d (dcells x s r.val u.val) 60) :
    Calls Try.prog 53 #[.pointer (some ⟨d, 0, none⟩), .int .u64 v, .bool ok] w fun e w' => e = .returned (.int .i64 0) ∧ DAt w' N d ({ s with snap := g, points := wrap64 (s.points + 1), ph := to.ph }) ∧ Chg [d] w w' := by
  have hp0 := hp
  rw [hph] at hp
  have HB := Lib.hid hb
  have HK := Lib.hid (And.intro h1 (And.intro h2 (And.intro hF (And.intro hG hd))))
  have hrl : u.l.length = s.W.length := by rw [h2]
  have dc0 : (w).cell? ⟨d, 0, none⟩ = some (.int .i64 x.at_) := (hb).cell 0; have df0 : (w).frozen? ⟨d, 0, none⟩ = false := (hb).free 0; have dc1 : (w).cell? ⟨d, 1, none⟩ = some (.int .u64 x.n) := (hb).cell 1; have df1 : (w).frozen? ⟨d, 1, none⟩ = false := (hb).free 1; have dc2 : (w).cell? ⟨d, 2, none⟩ = some (.int .i64 x.a) := (hb).cell 2; have df2 : (w).frozen? ⟨d, 2, none⟩ = false := (hb).free 2; have dc3 : (w).cell? ⟨d, 3, none⟩ = some (.int .u64 x.v) := (hb).cell 3; have df3 : (w).frozen? ⟨d, 3, none⟩ = false := (hb).free 3; have dc4 : (w).cell? ⟨d, 4, none⟩ = some (.int .u64 x.g) := (hb).cell 4; have df4 : (w).frozen? ⟨d, 4, none⟩ = false := (hb).free 4; have dc5 : (w).cell? ⟨d, 5, none⟩ = some (.int .i64 x.i) := (hb).cell 5; have df5 : (w).frozen? ⟨d, 5, none⟩ = false := (hb).free 5; have dc6 : (w).cell? ⟨d, 6, none⟩ = some (.int .i64 x.to) := (hb).cell 6; have df6 : (w).frozen? ⟨d, 6, none⟩ = false := (hb).free 6; have dc7 : (w).cell? ⟨d, 7, none⟩ = some (.int .i64 x.how) := (hb).cell 7; have df7 : (w).frozen? ⟨d, 7, none⟩ = false := (hb).free 7; have dc8 : (w).cell? ⟨d, 8, none⟩ = some (.int .u64 s.snap) := (hb).cell 8; have df8 : (w).frozen? ⟨d, 8, none⟩ = false := (hb).free 8; have dc9 : (w).cell? ⟨d, 9, none⟩ = some (.int .u64 s.value) := (hb).cell 9; have df9 : (w).frozen? ⟨d, 9, none⟩ = false := (hb).free 9; have dc10 : (w).cell? ⟨d, 10, none⟩ = some (r.val) := (hb).cell 10; have df10 : (w).frozen? ⟨d, 10, none⟩ = false := (hb).free 10; have dc11 : (w).cell? ⟨d, 11, none⟩ = some (.slice u.A u.l.length u.cap) := (hb).cell 11; have df11 : (w).frozen? ⟨d, 11, none⟩ = false := (hb).free 11; have dc12 : (w).cell? ⟨d, 12, none⟩ = some (.bool s.live) := (hb).cell 12; have df12 : (w).frozen? ⟨d, 12, none⟩ = false := (hb).free 12; have dc13 : (w).cell? ⟨d, 13, none⟩ = some (.bool s.writing) := (hb).cell 13; have df13 : (w).frozen? ⟨d, 13, none⟩ = false := (hb).free 13; have dc14 : (w).cell? ⟨d, 14, none⟩ = some (.int .i64 s.ended) := (hb).cell 14; have df14 : (w).frozen? ⟨d, 14, none⟩ = false := (hb).free 14; have dc15 : (w).cell? ⟨d, 15, none⟩ = some (.int .i64 s.points) := (hb).cell 15; have df15 : (w).frozen? ⟨d, 15, none⟩ = false := (hb).free 15
  have e0 : x.at_ = 8 := by first | exact hp | exact hp.1
  rw [e0] at dc0
  have HC := Lib.hid (dcheckEnd_yes w N d x s r u v to g hph hp0 hv hRl h1 h2 hF hG hd hb)
  clear e0 hv
  clear h1 h2 hF hG hd hb hph hp hp0 hN hRl hWl hrl
  go_enter Try.func53, Try.ntmps53
  go_wp2_with fail
  refine HC.out.mono ?_
  rintro e w1 ⟨rfl, hq⟩
  have HQ := Lib.hid hq
  clear hq
  go_wp2_with fail
  go_ret
  exact ⟨rfl, HQ.out⟩

set_option maxHeartbeats 1000000 in
theorem dg_checkSeq_odd (w : World) (N : List Nat) (d : Nat) (x : DX) (s : PS) (r u : SlP) (v : Int) (ok : Bool) (to : To) (hph : s.ph = .checkSeq to) (hp : DocPh x s.ph) (hv0 : 0 ≤ v) (hv : v % 2 = 1) (hN : ∀ z ∈ N, z < w.heap.size) (hRl : s.R.length ≤ 128) (hWl : s.W.length ≤ 128) (h1 : r.l = s.R) (h2 : u.l = s.W) (hF : FzP w N r) (hG : FzP w N u) (hd : d ∈ N) (hb : Blk w d (dcells x s r.val u.val) 60) :
    Calls Try.prog 53 #[.pointer (some ⟨d, 0, none⟩), .int .u64 v, .bool ok] w fun e w' => e = .returned (.int .i64 0) ∧ DAt w' N d (s) ∧ Chg [d] w w' := by
  have hp0 := hp
  rw [hph] at hp
  have HB := Lib.hid hb
  have HK := Lib.hid (And.intro h1 (And.intro h2 (And.intro hF (And.intro hG hd))))
  have hrl : u.l.length = s.W.length := by rw [h2]
  have dc0 : (w).cell? ⟨d, 0, none⟩ = some (.int .i64 x.at_) := (hb).cell 0; have df0 : (w).frozen? ⟨d, 0, none⟩ = false := (hb).free 0; have dc1 : (w).cell? ⟨d, 1, none⟩ = some (.int .u64 x.n) := (hb).cell 1; have df1 : (w).frozen? ⟨d, 1, none⟩ = false := (hb).free 1; have dc2 : (w).cell? ⟨d, 2, none⟩ = some (.int .i64 x.a) := (hb).cell 2; have df2 : (w).frozen? ⟨d, 2, none⟩ = false := (hb).free 2; have dc3 : (w).cell? ⟨d, 3, none⟩ = some (.int .u64 x.v) := (hb).cell 3; have df3 : (w).frozen? ⟨d, 3, none⟩ = false := (hb).free 3; have dc4 : (w).cell? ⟨d, 4, none⟩ = some (.int .u64 x.g) := (hb).cell 4; have df4 : (w).frozen? ⟨d, 4, none⟩ = false := (hb).free 4; have dc5 : (w).cell? ⟨d, 5, none⟩ = some (.int .i64 x.i) := (hb).cell 5; have df5 : (w).frozen? ⟨d, 5, none⟩ = false := (hb).free 5; have dc6 : (w).cell? ⟨d, 6, none⟩ = some (.int .i64 x.to) := (hb).cell 6; have df6 : (w).frozen? ⟨d, 6, none⟩ = false := (hb).free 6; have dc7 : (w).cell? ⟨d, 7, none⟩ = some (.int .i64 x.how) := (hb).cell 7; have df7 : (w).frozen? ⟨d, 7, none⟩ = false := (hb).free 7; have dc8 : (w).cell? ⟨d, 8, none⟩ = some (.int .u64 s.snap) := (hb).cell 8; have df8 : (w).frozen? ⟨d, 8, none⟩ = false := (hb).free 8; have dc9 : (w).cell? ⟨d, 9, none⟩ = some (.int .u64 s.value) := (hb).cell 9; have df9 : (w).frozen? ⟨d, 9, none⟩ = false := (hb).free 9; have dc10 : (w).cell? ⟨d, 10, none⟩ = some (r.val) := (hb).cell 10; have df10 : (w).frozen? ⟨d, 10, none⟩ = false := (hb).free 10; have dc11 : (w).cell? ⟨d, 11, none⟩ = some (.slice u.A u.l.length u.cap) := (hb).cell 11; have df11 : (w).frozen? ⟨d, 11, none⟩ = false := (hb).free 11; have dc12 : (w).cell? ⟨d, 12, none⟩ = some (.bool s.live) := (hb).cell 12; have df12 : (w).frozen? ⟨d, 12, none⟩ = false := (hb).free 12; have dc13 : (w).cell? ⟨d, 13, none⟩ = some (.bool s.writing) := (hb).cell 13; have df13 : (w).frozen? ⟨d, 13, none⟩ = false := (hb).free 13; have dc14 : (w).cell? ⟨d, 14, none⟩ = some (.int .i64 s.ended) := (hb).cell 14; have df14 : (w).frozen? ⟨d, 14, none⟩ = false := (hb).free 14; have dc15 : (w).cell? ⟨d, 15, none⟩ = some (.int .i64 s.points) := (hb).cell 15; have df15 : (w).frozen? ⟨d, 15, none⟩ = false := (hb).free 15
  have e0 : x.at_ = 6 := by first | exact hp | exact hp.1
  rw [e0] at dc0
  have HC := Lib.hid (dcheckSeq_odd w N d x s r u v to hph hp0 hv0 hv hRl h1 h2 hF hG hd hb)
  clear e0 hv hv0
  clear h1 h2 hF hG hd hb hph hp hp0 hN hRl hWl hrl
  go_enter Try.func53, Try.ntmps53
  go_wp2_with fail
  refine HC.out.mono ?_
  rintro e w1 ⟨rfl, hq⟩
  have HQ := Lib.hid hq
  clear hq
  go_wp2_with fail
  go_ret
  exact ⟨rfl, HQ.out⟩

set_option maxHeartbeats 1000000 in
theorem dg_checkSeq_even (w : World) (N : List Nat) (d : Nat) (x : DX) (s : PS) (r u : SlP) (v : Int) (ok : Bool) (to : To) (hph : s.ph = .checkSeq to) (hp : DocPh x s.ph) (hv0 : 0 ≤ v) (hv : v % 2 = 0) (hN : ∀ z ∈ N, z < w.heap.size) (hRl : s.R.length ≤ 128) (hWl : s.W.length ≤ 128) (h1 : r.l = s.R) (h2 : u.l = s.W) (hF : FzP w N r) (hG : FzP w N u) (hd : d ∈ N) (hb : Blk w d (dcells x s r.val u.val) 60) :
    Calls Try.prog 53 #[.pointer (some ⟨d, 0, none⟩), .int .u64 v, .bool ok] w fun e w' => e = .returned (.int .i64 0) ∧ DAt w' N d ({ s with ph := nextCheck s.R to v 0 }) ∧ Chg [d] w w' := by
  have hp0 := hp
  rw [hph] at hp
  have HB := Lib.hid hb
  have HK := Lib.hid (And.intro h1 (And.intro h2 (And.intro hF (And.intro hG hd))))
  have hrl : u.l.length = s.W.length := by rw [h2]
  have dc0 : (w).cell? ⟨d, 0, none⟩ = some (.int .i64 x.at_) := (hb).cell 0; have df0 : (w).frozen? ⟨d, 0, none⟩ = false := (hb).free 0; have dc1 : (w).cell? ⟨d, 1, none⟩ = some (.int .u64 x.n) := (hb).cell 1; have df1 : (w).frozen? ⟨d, 1, none⟩ = false := (hb).free 1; have dc2 : (w).cell? ⟨d, 2, none⟩ = some (.int .i64 x.a) := (hb).cell 2; have df2 : (w).frozen? ⟨d, 2, none⟩ = false := (hb).free 2; have dc3 : (w).cell? ⟨d, 3, none⟩ = some (.int .u64 x.v) := (hb).cell 3; have df3 : (w).frozen? ⟨d, 3, none⟩ = false := (hb).free 3; have dc4 : (w).cell? ⟨d, 4, none⟩ = some (.int .u64 x.g) := (hb).cell 4; have df4 : (w).frozen? ⟨d, 4, none⟩ = false := (hb).free 4; have dc5 : (w).cell? ⟨d, 5, none⟩ = some (.int .i64 x.i) := (hb).cell 5; have df5 : (w).frozen? ⟨d, 5, none⟩ = false := (hb).free 5; have dc6 : (w).cell? ⟨d, 6, none⟩ = some (.int .i64 x.to) := (hb).cell 6; have df6 : (w).frozen? ⟨d, 6, none⟩ = false := (hb).free 6; have dc7 : (w).cell? ⟨d, 7, none⟩ = some (.int .i64 x.how) := (hb).cell 7; have df7 : (w).frozen? ⟨d, 7, none⟩ = false := (hb).free 7; have dc8 : (w).cell? ⟨d, 8, none⟩ = some (.int .u64 s.snap) := (hb).cell 8; have df8 : (w).frozen? ⟨d, 8, none⟩ = false := (hb).free 8; have dc9 : (w).cell? ⟨d, 9, none⟩ = some (.int .u64 s.value) := (hb).cell 9; have df9 : (w).frozen? ⟨d, 9, none⟩ = false := (hb).free 9; have dc10 : (w).cell? ⟨d, 10, none⟩ = some (r.val) := (hb).cell 10; have df10 : (w).frozen? ⟨d, 10, none⟩ = false := (hb).free 10; have dc11 : (w).cell? ⟨d, 11, none⟩ = some (.slice u.A u.l.length u.cap) := (hb).cell 11; have df11 : (w).frozen? ⟨d, 11, none⟩ = false := (hb).free 11; have dc12 : (w).cell? ⟨d, 12, none⟩ = some (.bool s.live) := (hb).cell 12; have df12 : (w).frozen? ⟨d, 12, none⟩ = false := (hb).free 12; have dc13 : (w).cell? ⟨d, 13, none⟩ = some (.bool s.writing) := (hb).cell 13; have df13 : (w).frozen? ⟨d, 13, none⟩ = false := (hb).free 13; have dc14 : (w).cell? ⟨d, 14, none⟩ = some (.int .i64 s.ended) := (hb).cell 14; have df14 : (w).frozen? ⟨d, 14, none⟩ = false := (hb).free 14; have dc15 : (w).cell? ⟨d, 15, none⟩ = some (.int .i64 s.points) := (hb).cell 15; have df15 : (w).frozen? ⟨d, 15, none⟩ = false := (hb).free 15
  have e0 : x.at_ = 6 := by first | exact hp | exact hp.1
  rw [e0] at dc0
  have HC := Lib.hid (dcheckSeq_even w N d x s r u v to hph hp0 hv0 hv hRl h1 h2 hF hG hd hb)
  clear e0 hv hv0
  clear h1 h2 hF hG hd hb hph hp hp0 hN hRl hWl hrl
  go_enter Try.func53, Try.ntmps53
  go_wp2_with fail
  refine HC.out.mono ?_
  rintro e w1 ⟨rfl, hq⟩
  have HQ := Lib.hid hq
  clear hq
  go_wp2_with fail
  go_ret
  exact ⟨rfl, HQ.out⟩

set_option maxHeartbeats 1000000 in
theorem dg_checkOne_no (w : World) (N : List Nat) (d : Nat) (x : DX) (s : PS) (r u : SlP) (v : Int) (ok : Bool) (to : To) (g : Int) (i : Nat) (hph : s.ph = .checkOne to g i) (hp : DocPh x s.ph) (hi : i < s.R.length) (hv : v ≠ (s.R[i]?.getD (0, 0)).2) (hN : ∀ z ∈ N, z < w.heap.size) (hRl : s.R.length ≤ 128) (hWl : s.W.length ≤ 128) (h1 : r.l = s.R) (h2 : u.l = s.W) (hF : FzP w N r) (hG : FzP w N u) (hd : d ∈ N) (hb : Blk w d (dcells x s r.val u.val) 60) :
    Calls Try.prog 53 #[.pointer (some ⟨d, 0, none⟩), .int .u64 v, .bool ok] w fun e w' => e = .returned (.int .i64 0) ∧ DAt w' N d ({ s with ph := .leaveN 2 }) ∧ Chg [d] w w' := by
  have hp0 := hp
  rw [hph] at hp
  have HB := Lib.hid hb
  have HK := Lib.hid (And.intro h1 (And.intro h2 (And.intro hF (And.intro hG hd))))
  have hrl : u.l.length = s.W.length := by rw [h2]
  have dc0 : (w).cell? ⟨d, 0, none⟩ = some (.int .i64 x.at_) := (hb).cell 0; have df0 : (w).frozen? ⟨d, 0, none⟩ = false := (hb).free 0; have dc1 : (w).cell? ⟨d, 1, none⟩ = some (.int .u64 x.n) := (hb).cell 1; have df1 : (w).frozen? ⟨d, 1, none⟩ = false := (hb).free 1; have dc2 : (w).cell? ⟨d, 2, none⟩ = some (.int .i64 x.a) := (hb).cell 2; have df2 : (w).frozen? ⟨d, 2, none⟩ = false := (hb).free 2; have dc3 : (w).cell? ⟨d, 3, none⟩ = some (.int .u64 x.v) := (hb).cell 3; have df3 : (w).frozen? ⟨d, 3, none⟩ = false := (hb).free 3; have dc4 : (w).cell? ⟨d, 4, none⟩ = some (.int .u64 x.g) := (hb).cell 4; have df4 : (w).frozen? ⟨d, 4, none⟩ = false := (hb).free 4; have dc5 : (w).cell? ⟨d, 5, none⟩ = some (.int .i64 x.i) := (hb).cell 5; have df5 : (w).frozen? ⟨d, 5, none⟩ = false := (hb).free 5; have dc6 : (w).cell? ⟨d, 6, none⟩ = some (.int .i64 x.to) := (hb).cell 6; have df6 : (w).frozen? ⟨d, 6, none⟩ = false := (hb).free 6; have dc7 : (w).cell? ⟨d, 7, none⟩ = some (.int .i64 x.how) := (hb).cell 7; have df7 : (w).frozen? ⟨d, 7, none⟩ = false := (hb).free 7; have dc8 : (w).cell? ⟨d, 8, none⟩ = some (.int .u64 s.snap) := (hb).cell 8; have df8 : (w).frozen? ⟨d, 8, none⟩ = false := (hb).free 8; have dc9 : (w).cell? ⟨d, 9, none⟩ = some (.int .u64 s.value) := (hb).cell 9; have df9 : (w).frozen? ⟨d, 9, none⟩ = false := (hb).free 9; have dc10 : (w).cell? ⟨d, 10, none⟩ = some (r.val) := (hb).cell 10; have df10 : (w).frozen? ⟨d, 10, none⟩ = false := (hb).free 10; have dc11 : (w).cell? ⟨d, 11, none⟩ = some (.slice u.A u.l.length u.cap) := (hb).cell 11; have df11 : (w).frozen? ⟨d, 11, none⟩ = false := (hb).free 11; have dc12 : (w).cell? ⟨d, 12, none⟩ = some (.bool s.live) := (hb).cell 12; have df12 : (w).frozen? ⟨d, 12, none⟩ = false := (hb).free 12; have dc13 : (w).cell? ⟨d, 13, none⟩ = some (.bool s.writing) := (hb).cell 13; have df13 : (w).frozen? ⟨d, 13, none⟩ = false := (hb).free 13; have dc14 : (w).cell? ⟨d, 14, none⟩ = some (.int .i64 s.ended) := (hb).cell 14; have df14 : (w).frozen? ⟨d, 14, none⟩ = false := (hb).free 14; have dc15 : (w).cell? ⟨d, 15, none⟩ = some (.int .i64 s.points) := (hb).cell 15; have df15 : (w).frozen? ⟨d, 15, none⟩ = false := (hb).free 15
  have e0 : x.at_ = 7 := by first | exact hp | exact hp.1
  rw [e0] at dc0
  have HC := Lib.hid (dcheckOne_no w N d x s r u v to g i hph hp0 hi hv hRl h1 h2 hF hG hd hb)
  clear e0 hv hi
  clear h1 h2 hF hG hd hb hph hp hp0 hN hRl hWl hrl
  go_enter Try.func53, Try.ntmps53
  go_wp2_with fail
  refine HC.out.mono ?_
  rintro e w1 ⟨rfl, hq⟩
  have HQ := Lib.hid hq
  clear hq
  go_wp2_with fail
  go_ret
  exact ⟨rfl, HQ.out⟩

set_option maxHeartbeats 1000000 in
theorem dg_checkOne_yes (w : World) (N : List Nat) (d : Nat) (x : DX) (s : PS) (r u : SlP) (v : Int) (ok : Bool) (to : To) (g : Int) (i : Nat) (hph : s.ph = .checkOne to g i) (hp : DocPh x s.ph) (hi : i < s.R.length) (hv : v = (s.R[i]?.getD (0, 0)).2) (hN : ∀ z ∈ N, z < w.heap.size) (hRl : s.R.length ≤ 128) (hWl : s.W.length ≤ 128) (h1 : r.l = s.R) (h2 : u.l = s.W) (hF : FzP w N r) (hG : FzP w N u) (hd : d ∈ N) (hb : Blk w d (dcells x s r.val u.val) 60) :
    Calls Try.prog 53 #[.pointer (some ⟨d, 0, none⟩), .int .u64 v, .bool ok] w fun e w' => e = .returned (.int .i64 0) ∧ DAt w' N d ({ s with ph := nextCheck s.R to g (i + 1) }) ∧ Chg [d] w w' := by
  have hp0 := hp
  rw [hph] at hp
  have HB := Lib.hid hb
  have HK := Lib.hid (And.intro h1 (And.intro h2 (And.intro hF (And.intro hG hd))))
  have hrl : u.l.length = s.W.length := by rw [h2]
  have dc0 : (w).cell? ⟨d, 0, none⟩ = some (.int .i64 x.at_) := (hb).cell 0; have df0 : (w).frozen? ⟨d, 0, none⟩ = false := (hb).free 0; have dc1 : (w).cell? ⟨d, 1, none⟩ = some (.int .u64 x.n) := (hb).cell 1; have df1 : (w).frozen? ⟨d, 1, none⟩ = false := (hb).free 1; have dc2 : (w).cell? ⟨d, 2, none⟩ = some (.int .i64 x.a) := (hb).cell 2; have df2 : (w).frozen? ⟨d, 2, none⟩ = false := (hb).free 2; have dc3 : (w).cell? ⟨d, 3, none⟩ = some (.int .u64 x.v) := (hb).cell 3; have df3 : (w).frozen? ⟨d, 3, none⟩ = false := (hb).free 3; have dc4 : (w).cell? ⟨d, 4, none⟩ = some (.int .u64 x.g) := (hb).cell 4; have df4 : (w).frozen? ⟨d, 4, none⟩ = false := (hb).free 4; have dc5 : (w).cell? ⟨d, 5, none⟩ = some (.int .i64 x.i) := (hb).cell 5; have df5 : (w).frozen? ⟨d, 5, none⟩ = false := (hb).free 5; have dc6 : (w).cell? ⟨d, 6, none⟩ = some (.int .i64 x.to) := (hb).cell 6; have df6 : (w).frozen? ⟨d, 6, none⟩ = false := (hb).free 6; have dc7 : (w).cell? ⟨d, 7, none⟩ = some (.int .i64 x.how) := (hb).cell 7; have df7 : (w).frozen? ⟨d, 7, none⟩ = false := (hb).free 7; have dc8 : (w).cell? ⟨d, 8, none⟩ = some (.int .u64 s.snap) := (hb).cell 8; have df8 : (w).frozen? ⟨d, 8, none⟩ = false := (hb).free 8; have dc9 : (w).cell? ⟨d, 9, none⟩ = some (.int .u64 s.value) := (hb).cell 9; have df9 : (w).frozen? ⟨d, 9, none⟩ = false := (hb).free 9; have dc10 : (w).cell? ⟨d, 10, none⟩ = some (r.val) := (hb).cell 10; have df10 : (w).frozen? ⟨d, 10, none⟩ = false := (hb).free 10; have dc11 : (w).cell? ⟨d, 11, none⟩ = some (.slice u.A u.l.length u.cap) := (hb).cell 11; have df11 : (w).frozen? ⟨d, 11, none⟩ = false := (hb).free 11; have dc12 : (w).cell? ⟨d, 12, none⟩ = some (.bool s.live) := (hb).cell 12; have df12 : (w).frozen? ⟨d, 12, none⟩ = false := (hb).free 12; have dc13 : (w).cell? ⟨d, 13, none⟩ = some (.bool s.writing) := (hb).cell 13; have df13 : (w).frozen? ⟨d, 13, none⟩ = false := (hb).free 13; have dc14 : (w).cell? ⟨d, 14, none⟩ = some (.int .i64 s.ended) := (hb).cell 14; have df14 : (w).frozen? ⟨d, 14, none⟩ = false := (hb).free 14; have dc15 : (w).cell? ⟨d, 15, none⟩ = some (.int .i64 s.points) := (hb).cell 15; have df15 : (w).frozen? ⟨d, 15, none⟩ = false := (hb).free 15
  have e0 : x.at_ = 7 := by first | exact hp | exact hp.1
  rw [e0] at dc0
  have HC := Lib.hid (dcheckOne_yes w N d x s r u v to g i hph hp0 hi hv hRl h1 h2 hF hG hd hb)
  clear e0 hv hi
  clear h1 h2 hF hG hd hb hph hp hp0 hN hRl hWl hrl
  go_enter Try.func53, Try.ntmps53
  go_wp2_with fail
  refine HC.out.mono ?_
  rintro e w1 ⟨rfl, hq⟩
  have HQ := Lib.hid hq
  clear hq
  go_wp2_with fail
  go_ret
  exact ⟨rfl, HQ.out⟩

set_option maxHeartbeats 1000000 in
theorem dg_take (w : World) (N : List Nat) (d : Nat) (x : DX) (s : PS) (r u : SlP) (v : Int) (ok : Bool) (hph : s.ph = .take) (hp : DocPh x s.ph) (hN : ∀ z ∈ N, z < w.heap.size) (hRl : s.R.length ≤ 128) (hWl : s.W.length ≤ 128) (h1 : r.l = s.R) (h2 : u.l = s.W) (hF : FzP w N r) (hG : FzP w N u) (hd : d ∈ N) (hb : Blk w d (dcells x s r.val u.val) 60) :
    Calls Try.prog 53 #[.pointer (some ⟨d, 0, none⟩), .int .u64 v, .bool ok] w fun e w' => e = .returned (.int .i64 0) ∧ DAt w' N d (s.takeG ok) ∧ Chg [d] w w' := by
  have hp0 := hp
  rw [hph] at hp
  have HB := Lib.hid hb
  have HK := Lib.hid (And.intro h1 (And.intro h2 (And.intro hF (And.intro hG hd))))
  have hrl : u.l.length = s.W.length := by rw [h2]
  have dc0 : (w).cell? ⟨d, 0, none⟩ = some (.int .i64 x.at_) := (hb).cell 0; have df0 : (w).frozen? ⟨d, 0, none⟩ = false := (hb).free 0; have dc1 : (w).cell? ⟨d, 1, none⟩ = some (.int .u64 x.n) := (hb).cell 1; have df1 : (w).frozen? ⟨d, 1, none⟩ = false := (hb).free 1; have dc2 : (w).cell? ⟨d, 2, none⟩ = some (.int .i64 x.a) := (hb).cell 2; have df2 : (w).frozen? ⟨d, 2, none⟩ = false := (hb).free 2; have dc3 : (w).cell? ⟨d, 3, none⟩ = some (.int .u64 x.v) := (hb).cell 3; have df3 : (w).frozen? ⟨d, 3, none⟩ = false := (hb).free 3; have dc4 : (w).cell? ⟨d, 4, none⟩ = some (.int .u64 x.g) := (hb).cell 4; have df4 : (w).frozen? ⟨d, 4, none⟩ = false := (hb).free 4; have dc5 : (w).cell? ⟨d, 5, none⟩ = some (.int .i64 x.i) := (hb).cell 5; have df5 : (w).frozen? ⟨d, 5, none⟩ = false := (hb).free 5; have dc6 : (w).cell? ⟨d, 6, none⟩ = some (.int .i64 x.to) := (hb).cell 6; have df6 : (w).frozen? ⟨d, 6, none⟩ = false := (hb).free 6; have dc7 : (w).cell? ⟨d, 7, none⟩ = some (.int .i64 x.how) := (hb).cell 7; have df7 : (w).frozen? ⟨d, 7, none⟩ = false := (hb).free 7; have dc8 : (w).cell? ⟨d, 8, none⟩ = some (.int .u64 s.snap) := (hb).cell 8; have df8 : (w).frozen? ⟨d, 8, none⟩ = false := (hb).free 8; have dc9 : (w).cell? ⟨d, 9, none⟩ = some (.int .u64 s.value) := (hb).cell 9; have df9 : (w).frozen? ⟨d, 9, none⟩ = false := (hb).free 9; have dc10 : (w).cell? ⟨d, 10, none⟩ = some (r.val) := (hb).cell 10; have df10 : (w).frozen? ⟨d, 10, none⟩ = false := (hb).free 10; have dc11 : (w).cell? ⟨d, 11, none⟩ = some (.slice u.A u.l.length u.cap) := (hb).cell 11; have df11 : (w).frozen? ⟨d, 11, none⟩ = false := (hb).free 11; have dc12 : (w).cell? ⟨d, 12, none⟩ = some (.bool s.live) := (hb).cell 12; have df12 : (w).frozen? ⟨d, 12, none⟩ = false := (hb).free 12; have dc13 : (w).cell? ⟨d, 13, none⟩ = some (.bool s.writing) := (hb).cell 13; have df13 : (w).frozen? ⟨d, 13, none⟩ = false := (hb).free 13; have dc14 : (w).cell? ⟨d, 14, none⟩ = some (.int .i64 s.ended) := (hb).cell 14; have df14 : (w).frozen? ⟨d, 14, none⟩ = false := (hb).free 14; have dc15 : (w).cell? ⟨d, 15, none⟩ = some (.int .i64 s.points) := (hb).cell 15; have df15 : (w).frozen? ⟨d, 15, none⟩ = false := (hb).free 15
  have e0 : x.at_ = 9 := by first | exact hp | exact hp.1
  rw [e0] at dc0
  have HC := Lib.hid (dtaken_any w N d x s r u ok h1 h2 hF hG hd hb)
  clear e0
  clear h1 h2 hF hG hd hb hph hp hp0 hN hRl hWl hrl
  go_enter Try.func53, Try.ntmps53
  go_wp2_with fail
  refine HC.out.mono ?_
  rintro e w1 ⟨rfl, hq⟩
  have HQ := Lib.hid hq
  clear hq
  go_wp2_with fail
  go_ret
  exact ⟨rfl, HQ.out⟩

set_option maxHeartbeats 1000000 in
theorem dg_back (w : World) (N : List Nat) (d : Nat) (x : DX) (s : PS) (r u : SlP) (v : Int) (ok : Bool) (i : Nat) (hph : s.ph = .back i) (hp : DocPh x s.ph) (hi : i < s.W.length) (hN : ∀ z ∈ N, z < w.heap.size) (hRl : s.R.length ≤ 128) (hWl : s.W.length ≤ 128) (h1 : r.l = s.R) (h2 : u.l = s.W) (hF : FzP w N r) (hG : FzP w N u) (hd : d ∈ N) (hb : Blk w d (dcells x s r.val u.val) 60) :
    Calls Try.prog 53 #[.pointer (some ⟨d, 0, none⟩), .int .u64 v, .bool ok] w fun e w' => e = .returned (.int .i64 0) ∧ DAt w' N d (s.backG i) ∧ Chg [d] w w' := by
  have hp0 := hp
  rw [hph] at hp
  have HB := Lib.hid hb
  have HK := Lib.hid (And.intro h1 (And.intro h2 (And.intro hF (And.intro hG hd))))
  have hrl : u.l.length = s.W.length := by rw [h2]
  have dc0 : (w).cell? ⟨d, 0, none⟩ = some (.int .i64 x.at_) := (hb).cell 0; have df0 : (w).frozen? ⟨d, 0, none⟩ = false := (hb).free 0; have dc1 : (w).cell? ⟨d, 1, none⟩ = some (.int .u64 x.n) := (hb).cell 1; have df1 : (w).frozen? ⟨d, 1, none⟩ = false := (hb).free 1; have dc2 : (w).cell? ⟨d, 2, none⟩ = some (.int .i64 x.a) := (hb).cell 2; have df2 : (w).frozen? ⟨d, 2, none⟩ = false := (hb).free 2; have dc3 : (w).cell? ⟨d, 3, none⟩ = some (.int .u64 x.v) := (hb).cell 3; have df3 : (w).frozen? ⟨d, 3, none⟩ = false := (hb).free 3; have dc4 : (w).cell? ⟨d, 4, none⟩ = some (.int .u64 x.g) := (hb).cell 4; have df4 : (w).frozen? ⟨d, 4, none⟩ = false := (hb).free 4; have dc5 : (w).cell? ⟨d, 5, none⟩ = some (.int .i64 x.i) := (hb).cell 5; have df5 : (w).frozen? ⟨d, 5, none⟩ = false := (hb).free 5; have dc6 : (w).cell? ⟨d, 6, none⟩ = some (.int .i64 x.to) := (hb).cell 6; have df6 : (w).frozen? ⟨d, 6, none⟩ = false := (hb).free 6; have dc7 : (w).cell? ⟨d, 7, none⟩ = some (.int .i64 x.how) := (hb).cell 7; have df7 : (w).frozen? ⟨d, 7, none⟩ = false := (hb).free 7; have dc8 : (w).cell? ⟨d, 8, none⟩ = some (.int .u64 s.snap) := (hb).cell 8; have df8 : (w).frozen? ⟨d, 8, none⟩ = false := (hb).free 8; have dc9 : (w).cell? ⟨d, 9, none⟩ = some (.int .u64 s.value) := (hb).cell 9; have df9 : (w).frozen? ⟨d, 9, none⟩ = false := (hb).free 9; have dc10 : (w).cell? ⟨d, 10, none⟩ = some (r.val) := (hb).cell 10; have df10 : (w).frozen? ⟨d, 10, none⟩ = false := (hb).free 10; have dc11 : (w).cell? ⟨d, 11, none⟩ = some (.slice u.A u.l.length u.cap) := (hb).cell 11; have df11 : (w).frozen? ⟨d, 11, none⟩ = false := (hb).free 11; have dc12 : (w).cell? ⟨d, 12, none⟩ = some (.bool s.live) := (hb).cell 12; have df12 : (w).frozen? ⟨d, 12, none⟩ = false := (hb).free 12; have dc13 : (w).cell? ⟨d, 13, none⟩ = some (.bool s.writing) := (hb).cell 13; have df13 : (w).frozen? ⟨d, 13, none⟩ = false := (hb).free 13; have dc14 : (w).cell? ⟨d, 14, none⟩ = some (.int .i64 s.ended) := (hb).cell 14; have df14 : (w).frozen? ⟨d, 14, none⟩ = false := (hb).free 14; have dc15 : (w).cell? ⟨d, 15, none⟩ = some (.int .i64 s.points) := (hb).cell 15; have df15 : (w).frozen? ⟨d, 15, none⟩ = false := (hb).free 15
  obtain ⟨e0, e3⟩ := hp
  rw [e0] at dc0
  rw [e3] at dc5
  rw [hrl] at dc11
  have hi128 : (i : Int) < 128 := by omega
  have HE := Lib.hid (And.intro e0 e3)
  have hp := hp0
  by_cases hl : i + 1 = s.W.length
  · have heq : (((i : Int) + 1) == (s.W.length : Int)) = true := by simp; omega
    have HN := Lib.hid (show s.backG i = { s with ph := .release } from by rw [PS.backG, if_neg (by omega)])
    clear h1 h2 hF hG hd hb hph hp hp0 hN hRl hWl hrl hl hi e0 e3
    go_enter Try.func53, Try.ntmps53
    go_wp2_with fail
    go_quiet (fail)
    obtain ⟨w4, hw4⟩ : ∃ w4, w4 = (w.setCell ⟨d, 5, none⟩ (.int .i64 ((i : Int) + 1))).drewN nq := ⟨_, rfl⟩
    rw [← hw4]
    have HB4 : Hid (Blk w4 d (dcells { x with i := (i : Int) + 1 } s r.val u.val) 60) := Lib.hid (hw4 ▸ (HB.out.set 5 _).drewN _)
    have HC4 : Hid (Chg [d] w w4) := Lib.hid (hw4 ▸ ((Chg.refl [d] w).setCell (by simp) _).drewN _)
    clear hw4
    clear dc0 df0 dc1 df1 dc2 df2 dc3 df3 dc4 df4 dc5 df5 dc6 df6 dc7 df7 dc8 df8 dc9 df9 dc10 df10 dc11 df11 dc12 df12 dc13 df13 dc14 df14 dc15 df15
    have dc0 : (w4).cell? ⟨d, 0, none⟩ = some (.int .i64 { x with i := (i : Int) + 1 }.at_) := (HB4.out).cell 0; have df0 : (w4).frozen? ⟨d, 0, none⟩ = false := (HB4.out).free 0; have dc1 : (w4).cell? ⟨d, 1, none⟩ = some (.int .u64 { x with i := (i : Int) + 1 }.n) := (HB4.out).cell 1; have df1 : (w4).frozen? ⟨d, 1, none⟩ = false := (HB4.out).free 1; have dc2 : (w4).cell? ⟨d, 2, none⟩ = some (.int .i64 { x with i := (i : Int) + 1 }.a) := (HB4.out).cell 2; have df2 : (w4).frozen? ⟨d, 2, none⟩ = false := (HB4.out).free 2; have dc3 : (w4).cell? ⟨d, 3, none⟩ = some (.int .u64 { x with i := (i : Int) + 1 }.v) := (HB4.out).cell 3; have df3 : (w4).frozen? ⟨d, 3, none⟩ = false := (HB4.out).free 3; have dc4 : (w4).cell? ⟨d, 4, none⟩ = some (.int .u64 { x with i := (i : Int) + 1 }.g) := (HB4.out).cell 4; have df4 : (w4).frozen? ⟨d, 4, none⟩ = false := (HB4.out).free 4; have dc5 : (w4).cell? ⟨d, 5, none⟩ = some (.int .i64 { x with i := (i : Int) + 1 }.i) := (HB4.out).cell 5; have df5 : (w4).frozen? ⟨d, 5, none⟩ = false := (HB4.out).free 5; have dc6 : (w4).cell? ⟨d, 6, none⟩ = some (.int .i64 { x with i := (i : Int) + 1 }.to) := (HB4.out).cell 6; have df6 : (w4).frozen? ⟨d, 6, none⟩ = false := (HB4.out).free 6; have dc7 : (w4).cell? ⟨d, 7, none⟩ = some (.int .i64 { x with i := (i : Int) + 1 }.how) := (HB4.out).cell 7; have df7 : (w4).frozen? ⟨d, 7, none⟩ = false := (HB4.out).free 7; have dc8 : (w4).cell? ⟨d, 8, none⟩ = some (.int .u64 s.snap) := (HB4.out).cell 8; have df8 : (w4).frozen? ⟨d, 8, none⟩ = false := (HB4.out).free 8; have dc9 : (w4).cell? ⟨d, 9, none⟩ = some (.int .u64 s.value) := (HB4.out).cell 9; have df9 : (w4).frozen? ⟨d, 9, none⟩ = false := (HB4.out).free 9; have dc10 : (w4).cell? ⟨d, 10, none⟩ = some (r.val) := (HB4.out).cell 10; have df10 : (w4).frozen? ⟨d, 10, none⟩ = false := (HB4.out).free 10; have dc11 : (w4).cell? ⟨d, 11, none⟩ = some (u.val) := (HB4.out).cell 11; have df11 : (w4).frozen? ⟨d, 11, none⟩ = false := (HB4.out).free 11; have dc12 : (w4).cell? ⟨d, 12, none⟩ = some (.bool s.live) := (HB4.out).cell 12; have df12 : (w4).frozen? ⟨d, 12, none⟩ = false := (HB4.out).free 12; have dc13 : (w4).cell? ⟨d, 13, none⟩ = some (.bool s.writing) := (HB4.out).cell 13; have df13 : (w4).frozen? ⟨d, 13, none⟩ = false := (HB4.out).free 13; have dc14 : (w4).cell? ⟨d, 14, none⟩ = some (.int .i64 s.ended) := (HB4.out).cell 14; have df14 : (w4).frozen? ⟨d, 14, none⟩ = false := (HB4.out).free 14; have dc15 : (w4).cell? ⟨d, 15, none⟩ = some (.int .i64 s.points) := (HB4.out).cell 15; have df15 : (w4).frozen? ⟨d, 15, none⟩ = false := (HB4.out).free 15
    go_wp2_with fail
    go_ret
    have HC5 := Lib.hid (HC4.out.setCell (p := ⟨d, 0, none⟩) (by simp) (.int .i64 11))
    refine ⟨rfl, ?_⟩
    rw [HN.out]
    exact DAt.mk' { x with i := (i : Int) + 1, at_ := 11 } HK.out.1 HK.out.2.1 HK.out.2.2.1 HK.out.2.2.2.1 HK.out.2.2.2.2 HC5.out (HB4.out.set 0 _) rfl
  · have heq : (((i : Int) + 1) == (s.W.length : Int)) = false := by simp; omega
    have HN := Lib.hid (show s.backG i = { s with ph := .back (i + 1) } from by rw [PS.backG, if_pos (by omega)])
    clear h1 h2 hF hG hd hb hph hp hp0 hN hRl hWl hrl hl hi e0 e3
    go_enter Try.func53, Try.ntmps53
    go_wp2_with fail
    go_quiet (fail)
    obtain ⟨w4, hw4⟩ : ∃ w4, w4 = (w.setCell ⟨d, 5, none⟩ (.int .i64 ((i : Int) + 1))).drewN nq := ⟨_, rfl⟩
    rw [← hw4]
    have HB4 : Hid (Blk w4 d (dcells { x with i := (i : Int) + 1 } s r.val u.val) 60) := Lib.hid (hw4 ▸ (HB.out.set 5 _).drewN _)
    have HC4 : Hid (Chg [d] w w4) := Lib.hid (hw4 ▸ ((Chg.refl [d] w).setCell (by simp) _).drewN _)
    clear hw4
    clear dc0 df0 dc1 df1 dc2 df2 dc3 df3 dc4 df4 dc5 df5 dc6 df6 dc7 df7 dc8 df8 dc9 df9 dc10 df10 dc11 df11 dc12 df12 dc13 df13 dc14 df14 dc15 df15
    have dc0 : (w4).cell? ⟨d, 0, none⟩ = some (.int .i64 { x with i := (i : Int) + 1 }.at_) := (HB4.out).cell 0; have df0 : (w4).frozen? ⟨d, 0, none⟩ = false := (HB4.out).free 0; have dc1 : (w4).cell? ⟨d, 1, none⟩ = some (.int .u64 { x with i := (i : Int) + 1 }.n) := (HB4.out).cell 1; have df1 : (w4).frozen? ⟨d, 1, none⟩ = false := (HB4.out).free 1; have dc2 : (w4).cell? ⟨d, 2, none⟩ = some (.int .i64 { x with i := (i : Int) + 1 }.a) := (HB4.out).cell 2; have df2 : (w4).frozen? ⟨d, 2, none⟩ = false := (HB4.out).free 2; have dc3 : (w4).cell? ⟨d, 3, none⟩ = some (.int .u64 { x with i := (i : Int) + 1 }.v) := (HB4.out).cell 3; have df3 : (w4).frozen? ⟨d, 3, none⟩ = false := (HB4.out).free 3; have dc4 : (w4).cell? ⟨d, 4, none⟩ = some (.int .u64 { x with i := (i : Int) + 1 }.g) := (HB4.out).cell 4; have df4 : (w4).frozen? ⟨d, 4, none⟩ = false := (HB4.out).free 4; have dc5 : (w4).cell? ⟨d, 5, none⟩ = some (.int .i64 { x with i := (i : Int) + 1 }.i) := (HB4.out).cell 5; have df5 : (w4).frozen? ⟨d, 5, none⟩ = false := (HB4.out).free 5; have dc6 : (w4).cell? ⟨d, 6, none⟩ = some (.int .i64 { x with i := (i : Int) + 1 }.to) := (HB4.out).cell 6; have df6 : (w4).frozen? ⟨d, 6, none⟩ = false := (HB4.out).free 6; have dc7 : (w4).cell? ⟨d, 7, none⟩ = some (.int .i64 { x with i := (i : Int) + 1 }.how) := (HB4.out).cell 7; have df7 : (w4).frozen? ⟨d, 7, none⟩ = false := (HB4.out).free 7; have dc8 : (w4).cell? ⟨d, 8, none⟩ = some (.int .u64 s.snap) := (HB4.out).cell 8; have df8 : (w4).frozen? ⟨d, 8, none⟩ = false := (HB4.out).free 8; have dc9 : (w4).cell? ⟨d, 9, none⟩ = some (.int .u64 s.value) := (HB4.out).cell 9; have df9 : (w4).frozen? ⟨d, 9, none⟩ = false := (HB4.out).free 9; have dc10 : (w4).cell? ⟨d, 10, none⟩ = some (r.val) := (HB4.out).cell 10; have df10 : (w4).frozen? ⟨d, 10, none⟩ = false := (HB4.out).free 10; have dc11 : (w4).cell? ⟨d, 11, none⟩ = some (u.val) := (HB4.out).cell 11; have df11 : (w4).frozen? ⟨d, 11, none⟩ = false := (HB4.out).free 11; have dc12 : (w4).cell? ⟨d, 12, none⟩ = some (.bool s.live) := (HB4.out).cell 12; have df12 : (w4).frozen? ⟨d, 12, none⟩ = false := (HB4.out).free 12; have dc13 : (w4).cell? ⟨d, 13, none⟩ = some (.bool s.writing) := (HB4.out).cell 13; have df13 : (w4).frozen? ⟨d, 13, none⟩ = false := (HB4.out).free 13; have dc14 : (w4).cell? ⟨d, 14, none⟩ = some (.int .i64 s.ended) := (HB4.out).cell 14; have df14 : (w4).frozen? ⟨d, 14, none⟩ = false := (HB4.out).free 14; have dc15 : (w4).cell? ⟨d, 15, none⟩ = some (.int .i64 s.points) := (HB4.out).cell 15; have df15 : (w4).frozen? ⟨d, 15, none⟩ = false := (HB4.out).free 15
    go_wp2_with fail
    go_ret
    have HC5 := Lib.hid (HC4.out.setCell (p := ⟨d, 0, none⟩) (by simp) (.int .i64 11))
    refine ⟨rfl, ?_⟩
    rw [HN.out]
    exact DAt.mk' { x with i := (i : Int) + 1 } HK.out.1 HK.out.2.1 HK.out.2.2.1 HK.out.2.2.2.1 HK.out.2.2.2.2 HC4.out HB4.out ⟨HE.out.1, by simp⟩

set_option maxHeartbeats 1000000 in
theorem dg_release (w : World) (N : List Nat) (d : Nat) (x : DX) (s : PS) (r u : SlP) (v : Int) (ok : Bool) (hph : s.ph = .release) (hp : DocPh x s.ph) (hN : ∀ z ∈ N, z < w.heap.size) (hRl : s.R.length ≤ 128) (hWl : s.W.length ≤ 128) (h1 : r.l = s.R) (h2 : u.l = s.W) (hF : FzP w N r) (hG : FzP w N u) (hd : d ∈ N) (hb : Blk w d (dcells x s r.val u.val) 60) :
    Calls Try.prog 53 #[.pointer (some ⟨d, 0, none⟩), .int .u64 v, .bool ok] w fun e w' => e = .returned (.int .i64 0) ∧ DAt w' N d ({ s with writing := false, ph := .leaveN 1 }) ∧ Chg [d] w w' := by
  have hp0 := hp
  rw [hph] at hp
  have HB := Lib.hid hb
  have HK := Lib.hid (And.intro h1 (And.intro h2 (And.intro hF (And.intro hG hd))))
  have hrl : u.l.length = s.W.length := by rw [h2]
  have dc0 : (w).cell? ⟨d, 0, none⟩ = some (.int .i64 x.at_) := (hb).cell 0; have df0 : (w).frozen? ⟨d, 0, none⟩ = false := (hb).free 0; have dc1 : (w).cell? ⟨d, 1, none⟩ = some (.int .u64 x.n) := (hb).cell 1; have df1 : (w).frozen? ⟨d, 1, none⟩ = false := (hb).free 1; have dc2 : (w).cell? ⟨d, 2, none⟩ = some (.int .i64 x.a) := (hb).cell 2; have df2 : (w).frozen? ⟨d, 2, none⟩ = false := (hb).free 2; have dc3 : (w).cell? ⟨d, 3, none⟩ = some (.int .u64 x.v) := (hb).cell 3; have df3 : (w).frozen? ⟨d, 3, none⟩ = false := (hb).free 3; have dc4 : (w).cell? ⟨d, 4, none⟩ = some (.int .u64 x.g) := (hb).cell 4; have df4 : (w).frozen? ⟨d, 4, none⟩ = false := (hb).free 4; have dc5 : (w).cell? ⟨d, 5, none⟩ = some (.int .i64 x.i) := (hb).cell 5; have df5 : (w).frozen? ⟨d, 5, none⟩ = false := (hb).free 5; have dc6 : (w).cell? ⟨d, 6, none⟩ = some (.int .i64 x.to) := (hb).cell 6; have df6 : (w).frozen? ⟨d, 6, none⟩ = false := (hb).free 6; have dc7 : (w).cell? ⟨d, 7, none⟩ = some (.int .i64 x.how) := (hb).cell 7; have df7 : (w).frozen? ⟨d, 7, none⟩ = false := (hb).free 7; have dc8 : (w).cell? ⟨d, 8, none⟩ = some (.int .u64 s.snap) := (hb).cell 8; have df8 : (w).frozen? ⟨d, 8, none⟩ = false := (hb).free 8; have dc9 : (w).cell? ⟨d, 9, none⟩ = some (.int .u64 s.value) := (hb).cell 9; have df9 : (w).frozen? ⟨d, 9, none⟩ = false := (hb).free 9; have dc10 : (w).cell? ⟨d, 10, none⟩ = some (r.val) := (hb).cell 10; have df10 : (w).frozen? ⟨d, 10, none⟩ = false := (hb).free 10; have dc11 : (w).cell? ⟨d, 11, none⟩ = some (.slice u.A u.l.length u.cap) := (hb).cell 11; have df11 : (w).frozen? ⟨d, 11, none⟩ = false := (hb).free 11; have dc12 : (w).cell? ⟨d, 12, none⟩ = some (.bool s.live) := (hb).cell 12; have df12 : (w).frozen? ⟨d, 12, none⟩ = false := (hb).free 12; have dc13 : (w).cell? ⟨d, 13, none⟩ = some (.bool s.writing) := (hb).cell 13; have df13 : (w).frozen? ⟨d, 13, none⟩ = false := (hb).free 13; have dc14 : (w).cell? ⟨d, 14, none⟩ = some (.int .i64 s.ended) := (hb).cell 14; have df14 : (w).frozen? ⟨d, 14, none⟩ = false := (hb).free 14; have dc15 : (w).cell? ⟨d, 15, none⟩ = some (.int .i64 s.points) := (hb).cell 15; have df15 : (w).frozen? ⟨d, 15, none⟩ = false := (hb).free 15
  have e0 : x.at_ = 11 := hp
  rw [e0] at dc0
  have hb2 : Blk (w.setCell ⟨d, 13, none⟩ (.bool false)) d (dcells x { s with writing := false } r.val u.val) 60 := hb.set 13 _
  have HC := Lib.hid (dleave_any _ d x { s with writing := false } _ _ 1 hb2)
  clear e0 hb2
  clear h1 h2 hF hG hd hb hph hp hp0 hN hRl hWl hrl
  go_enter Try.func53, Try.ntmps53
  go_wp2_with fail
  refine HC.out.mono ?_
  rintro e w1 ⟨rfl, hb1, hC1⟩
  have HB1 := Lib.hid hb1
  have HC1 := Lib.hid (((Chg.refl [d] w).setCell (p := ⟨d, 13, none⟩) (by simp) (.bool false)).trans hC1)
  clear hb1 hC1
  go_wp2_with fail
  go_ret
  exact ⟨rfl, DAt.mk' (s' := { s with writing := false, ph := .leaveN 1 }) { x with how := 1, at_ := 12 } HK.out.1 HK.out.2.1 HK.out.2.2.1 HK.out.2.2.2.1 HK.out.2.2.2.2 HC1.out HB1.out ⟨rfl, rfl⟩⟩

set_option maxHeartbeats 1000000 in
theorem dg_leaveN (w : World) (N : List Nat) (d : Nat) (x : DX) (s : PS) (r u : SlP) (v : Int) (ok : Bool) (how : Int) (hph : s.ph = .leaveN how) (hp : DocPh x s.ph) (hN : ∀ z ∈ N, z < w.heap.size) (hRl : s.R.length ≤ 128) (hWl : s.W.length ≤ 128) (h1 : r.l = s.R) (h2 : u.l = s.W) (hF : FzP w N r) (hG : FzP w N u) (hd : d ∈ N) (hb : Blk w d (dcells x s r.val u.val) 60) :
    Calls Try.prog 53 #[.pointer (some ⟨d, 0, none⟩), .int .u64 v, .bool ok] w fun e w' => e = .returned (.int .i64 0) ∧ DAt w' N d ({ s with ph := .leaveCas how v }) ∧ Chg [d] w w' := by
  have hp0 := hp
  rw [hph] at hp
  have HB := Lib.hid hb
  have HK := Lib.hid (And.intro h1 (And.intro h2 (And.intro hF (And.intro hG hd))))
  have hrl : u.l.length = s.W.length := by rw [h2]
  have dc0 : (w).cell? ⟨d, 0, none⟩ = some (.int .i64 x.at_) := (hb).cell 0; have df0 : (w).frozen? ⟨d, 0, none⟩ = false := (hb).free 0; have dc1 : (w).cell? ⟨d, 1, none⟩ = some (.int .u64 x.n) := (hb).cell 1; have df1 : (w).frozen? ⟨d, 1, none⟩ = false := (hb).free 1; have dc2 : (w).cell? ⟨d, 2, none⟩ = some (.int .i64 x.a) := (hb).cell 2; have df2 : (w).frozen? ⟨d, 2, none⟩ = false := (hb).free 2; have dc3 : (w).cell? ⟨d, 3, none⟩ = some (.int .u64 x.v) := (hb).cell 3; have df3 : (w).frozen? ⟨d, 3, none⟩ = false := (hb).free 3; have dc4 : (w).cell? ⟨d, 4, none⟩ = some (.int .u64 x.g) := (hb).cell 4; have df4 : (w).frozen? ⟨d, 4, none⟩ = false := (hb).free 4; have dc5 : (w).cell? ⟨d, 5, none⟩ = some (.int .i64 x.i) := (hb).cell 5; have df5 : (w).frozen? ⟨d, 5, none⟩ = false := (hb).free 5; have dc6 : (w).cell? ⟨d, 6, none⟩ = some (.int .i64 x.to) := (hb).cell 6; have df6 : (w).frozen? ⟨d, 6, none⟩ = false := (hb).free 6; have dc7 : (w).cell? ⟨d, 7, none⟩ = some (.int .i64 x.how) := (hb).cell 7; have df7 : (w).frozen? ⟨d, 7, none⟩ = false := (hb).free 7; have dc8 : (w).cell? ⟨d, 8, none⟩ = some (.int .u64 s.snap) := (hb).cell 8; have df8 : (w).frozen? ⟨d, 8, none⟩ = false := (hb).free 8; have dc9 : (w).cell? ⟨d, 9, none⟩ = some (.int .u64 s.value) := (hb).cell 9; have df9 : (w).frozen? ⟨d, 9, none⟩ = false := (hb).free 9; have dc10 : (w).cell? ⟨d, 10, none⟩ = some (r.val) := (hb).cell 10; have df10 : (w).frozen? ⟨d, 10, none⟩ = false := (hb).free 10; have dc11 : (w).cell? ⟨d, 11, none⟩ = some (.slice u.A u.l.length u.cap) := (hb).cell 11; have df11 : (w).frozen? ⟨d, 11, none⟩ = false := (hb).free 11; have dc12 : (w).cell? ⟨d, 12, none⟩ = some (.bool s.live) := (hb).cell 12; have df12 : (w).frozen? ⟨d, 12, none⟩ = false := (hb).free 12; have dc13 : (w).cell? ⟨d, 13, none⟩ = some (.bool s.writing) := (hb).cell 13; have df13 : (w).frozen? ⟨d, 13, none⟩ = false := (hb).free 13; have dc14 : (w).cell? ⟨d, 14, none⟩ = some (.int .i64 s.ended) := (hb).cell 14; have df14 : (w).frozen? ⟨d, 14, none⟩ = false := (hb).free 14; have dc15 : (w).cell? ⟨d, 15, none⟩ = some (.int .i64 s.points) := (hb).cell 15; have df15 : (w).frozen? ⟨d, 15, none⟩ = false := (hb).free 15
  have e0 : x.at_ = 12 := hp.1
  have HX := Lib.hid hp.2
  rw [e0] at dc0
  clear e0
  clear h1 h2 hF hG hd hb hph hp hp0 hN hRl hWl hrl
  go_enter Try.func53, Try.ntmps53
  go_wp2_with fail
  go_ret
  exact ⟨rfl, DAt.mk' { x with n := v, at_ := 13 } HK.out.1 HK.out.2.1 HK.out.2.2.1 HK.out.2.2.2.1 HK.out.2.2.2.2 (by repeat (first | with_reducible exact Chg.refl _ _ | with_reducible refine Chg.setCell ?_ (by simp) _ | with_reducible refine Chg.drew ?_)) ((HB.out.set 1 _).set 0 _) ⟨rfl, HX.out, rfl⟩⟩

set_option maxHeartbeats 1000000 in
theorem dg_leaveCas (w : World) (N : List Nat) (d : Nat) (x : DX) (s : PS) (r u : SlP) (v : Int) (ok : Bool) (how n : Int) (hph : s.ph = .leaveCas how n) (hp : DocPh x s.ph) (hN : ∀ z ∈ N, z < w.heap.size) (hRl : s.R.length ≤ 128) (hWl : s.W.length ≤ 128) (h1 : r.l = s.R) (h2 : u.l = s.W) (hF : FzP w N r) (hG : FzP w N u) (hd : d ∈ N) (hb : Blk w d (dcells x s r.val u.val) 60) :
    Calls Try.prog 53 #[.pointer (some ⟨d, 0, none⟩), .int .u64 v, .bool ok] w fun e w' => e = .returned (.int .i64 0) ∧ DAt w' N d (if ok then { s with live := false, ended := how, ph := .idle } else { s with ph := .leaveN how }) ∧ Chg [d] w w' := by
  have hp0 := hp
  rw [hph] at hp
  have HB := Lib.hid hb
  have HK := Lib.hid (And.intro h1 (And.intro h2 (And.intro hF (And.intro hG hd))))
  have hrl : u.l.length = s.W.length := by rw [h2]
  have dc0 : (w).cell? ⟨d, 0, none⟩ = some (.int .i64 x.at_) := (hb).cell 0; have df0 : (w).frozen? ⟨d, 0, none⟩ = false := (hb).free 0; have dc1 : (w).cell? ⟨d, 1, none⟩ = some (.int .u64 x.n) := (hb).cell 1; have df1 : (w).frozen? ⟨d, 1, none⟩ = false := (hb).free 1; have dc2 : (w).cell? ⟨d, 2, none⟩ = some (.int .i64 x.a) := (hb).cell 2; have df2 : (w).frozen? ⟨d, 2, none⟩ = false := (hb).free 2; have dc3 : (w).cell? ⟨d, 3, none⟩ = some (.int .u64 x.v) := (hb).cell 3; have df3 : (w).frozen? ⟨d, 3, none⟩ = false := (hb).free 3; have dc4 : (w).cell? ⟨d, 4, none⟩ = some (.int .u64 x.g) := (hb).cell 4; have df4 : (w).frozen? ⟨d, 4, none⟩ = false := (hb).free 4; have dc5 : (w).cell? ⟨d, 5, none⟩ = some (.int .i64 x.i) := (hb).cell 5; have df5 : (w).frozen? ⟨d, 5, none⟩ = false := (hb).free 5; have dc6 : (w).cell? ⟨d, 6, none⟩ = some (.int .i64 x.to) := (hb).cell 6; have df6 : (w).frozen? ⟨d, 6, none⟩ = false := (hb).free 6; have dc7 : (w).cell? ⟨d, 7, none⟩ = some (.int .i64 x.how) := (hb).cell 7; have df7 : (w).frozen? ⟨d, 7, none⟩ = false := (hb).free 7; have dc8 : (w).cell? ⟨d, 8, none⟩ = some (.int .u64 s.snap) := (hb).cell 8; have df8 : (w).frozen? ⟨d, 8, none⟩ = false := (hb).free 8; have dc9 : (w).cell? ⟨d, 9, none⟩ = some (.int .u64 s.value) := (hb).cell 9; have df9 : (w).frozen? ⟨d, 9, none⟩ = false := (hb).free 9; have dc10 : (w).cell? ⟨d, 10, none⟩ = some (r.val) := (hb).cell 10; have df10 : (w).frozen? ⟨d, 10, none⟩ = false := (hb).free 10; have dc11 : (w).cell? ⟨d, 11, none⟩ = some (.slice u.A u.l.length u.cap) := (hb).cell 11; have df11 : (w).frozen? ⟨d, 11, none⟩ = false := (hb).free 11; have dc12 : (w).cell? ⟨d, 12, none⟩ = some (.bool s.live) := (hb).cell 12; have df12 : (w).frozen? ⟨d, 12, none⟩ = false := (hb).free 12; have dc13 : (w).cell? ⟨d, 13, none⟩ = some (.bool s.writing) := (hb).cell 13; have df13 : (w).frozen? ⟨d, 13, none⟩ = false := (hb).free 13; have dc14 : (w).cell? ⟨d, 14, none⟩ = some (.int .i64 s.ended) := (hb).cell 14; have df14 : (w).frozen? ⟨d, 14, none⟩ = false := (hb).free 14; have dc15 : (w).cell? ⟨d, 15, none⟩ = some (.int .i64 s.points) := (hb).cell 15; have df15 : (w).frozen? ⟨d, 15, none⟩ = false := (hb).free 15
  have e0 : x.at_ = 13 := hp.1
  have HX := Lib.hid hp.2.1
  rw [e0] at dc0
  rw [hp.2.1] at dc7
  clear e0
  clear h1 h2 hF hG hd hb hph hp hp0 hN hRl hWl hrl
  cases ok with
  | true =>
    go_enter Try.func53, Try.ntmps53
    go_wp2_with fail
    go_ret
    exact ⟨rfl, DAt.mk' { x with at_ := 0 } HK.out.1 HK.out.2.1 HK.out.2.2.1 HK.out.2.2.2.1 HK.out.2.2.2.2 (by repeat (first | with_reducible exact Chg.refl _ _ | with_reducible refine Chg.setCell ?_ (by simp) _ | with_reducible refine Chg.drew ?_)) ((((HB.out.set 0 _).set 0 _).set 12 _).set 14 _) rfl⟩
  | false =>
    go_enter Try.func53, Try.ntmps53
    go_wp2_with fail
    go_ret
    exact ⟨rfl, DAt.mk' { x with at_ := 12 } HK.out.1 HK.out.2.1 HK.out.2.2.1 HK.out.2.2.2.1 HK.out.2.2.2.2 (by repeat (first | with_reducible exact Chg.refl _ _ | with_reducible refine Chg.setCell ?_ (by simp) _ | with_reducible refine Chg.drew ?_)) (HB.out.set 0 _) ⟨rfl, HX.out⟩⟩

theorem dg_idle (w : World) (N : List Nat) (d : Nat) (x : DX) (s : PS) (r u : Value) (v : Int) (ok : Bool) (hp : x.at_ = 0) (hb : Blk w d (dcells x s r u) 60) :
    Calls Try.prog 53 #[.pointer (some ⟨d, 0, none⟩), .int .u64 v, .bool ok] w fun e w' => e = .returned (.int .i64 80) ∧ w = w' := by
  have dc0 : (w).cell? ⟨d, 0, none⟩ = some (.int .i64 x.at_) := (hb).cell 0; have df0 : (w).frozen? ⟨d, 0, none⟩ = false := (hb).free 0; have dc1 : (w).cell? ⟨d, 1, none⟩ = some (.int .u64 x.n) := (hb).cell 1; have df1 : (w).frozen? ⟨d, 1, none⟩ = false := (hb).free 1; have dc2 : (w).cell? ⟨d, 2, none⟩ = some (.int .i64 x.a) := (hb).cell 2; have df2 : (w).frozen? ⟨d, 2, none⟩ = false := (hb).free 2; have dc3 : (w).cell? ⟨d, 3, none⟩ = some (.int .u64 x.v) := (hb).cell 3; have df3 : (w).frozen? ⟨d, 3, none⟩ = false := (hb).free 3; have dc4 : (w).cell? ⟨d, 4, none⟩ = some (.int .u64 x.g) := (hb).cell 4; have df4 : (w).frozen? ⟨d, 4, none⟩ = false := (hb).free 4; have dc5 : (w).cell? ⟨d, 5, none⟩ = some (.int .i64 x.i) := (hb).cell 5; have df5 : (w).frozen? ⟨d, 5, none⟩ = false := (hb).free 5; have dc6 : (w).cell? ⟨d, 6, none⟩ = some (.int .i64 x.to) := (hb).cell 6; have df6 : (w).frozen? ⟨d, 6, none⟩ = false := (hb).free 6; have dc7 : (w).cell? ⟨d, 7, none⟩ = some (.int .i64 x.how) := (hb).cell 7; have df7 : (w).frozen? ⟨d, 7, none⟩ = false := (hb).free 7; have dc8 : (w).cell? ⟨d, 8, none⟩ = some (.int .u64 s.snap) := (hb).cell 8; have df8 : (w).frozen? ⟨d, 8, none⟩ = false := (hb).free 8; have dc9 : (w).cell? ⟨d, 9, none⟩ = some (.int .u64 s.value) := (hb).cell 9; have df9 : (w).frozen? ⟨d, 9, none⟩ = false := (hb).free 9; have dc10 : (w).cell? ⟨d, 10, none⟩ = some (r) := (hb).cell 10; have df10 : (w).frozen? ⟨d, 10, none⟩ = false := (hb).free 10; have dc11 : (w).cell? ⟨d, 11, none⟩ = some (u) := (hb).cell 11; have df11 : (w).frozen? ⟨d, 11, none⟩ = false := (hb).free 11; have dc12 : (w).cell? ⟨d, 12, none⟩ = some (.bool s.live) := (hb).cell 12; have df12 : (w).frozen? ⟨d, 12, none⟩ = false := (hb).free 12; have dc13 : (w).cell? ⟨d, 13, none⟩ = some (.bool s.writing) := (hb).cell 13; have df13 : (w).frozen? ⟨d, 13, none⟩ = false := (hb).free 13; have dc14 : (w).cell? ⟨d, 14, none⟩ = some (.int .i64 s.ended) := (hb).cell 14; have df14 : (w).frozen? ⟨d, 14, none⟩ = false := (hb).free 14; have dc15 : (w).cell? ⟨d, 15, none⟩ = some (.int .i64 s.points) := (hb).cell 15; have df15 : (w).frozen? ⟨d, 15, none⟩ = false := (hb).free 15
  rw [hp] at dc0
  clear hp hb
  go_enter Try.func53, Try.ntmps53
  go_wp2_with fail
  go_ret
  exact ⟨rfl, rfl⟩

theorem dGive_any (w : World) (N : List Nat) (d : Nat) (s : PS) (v : Int) (ok : Bool) (hd : d ∈ N) (hN : ∀ z ∈ N, z < w.heap.size) (hv : w64ok v) (ho : s.ph.ok s.R s.W) (hRl : s.R.length ≤ 128) (hWl : s.W.length ≤ 128) (h : DAt w N d s) :
    Calls Try.prog 53 #[.pointer (some ⟨d, 0, none⟩), .int .u64 v, .bool ok] w (DPost w N d (s.give v ok) s.gerr) := by
  have hsame := h
  obtain ⟨x, r, u, h1, h2, hb, hF, hG, hp⟩ := h
  have hbz : s.gerr = if s.ph.busy then 0 else 80 := rfl
  have hp0 := hp
  unfold PS.give
  cases hph : s.ph with
  | idle =>
    rw [hph] at hp
    have hE : s.gerr = 80 := by rw [hbz, hph]; rfl
    refine (dg_idle w N d x s _ _ v ok hp hb).mono ?_
    rintro e w' ⟨rfl, rfl⟩
    exact ⟨by rw [hE], hsame, Chg.refl _ _⟩
  | _ =>
    rw [hph] at hp ho
    have hE : s.gerr = 0 := by rw [hbz, hph]; rfl
    unfold DPost
    rw [hE]
    dsimp only
    first
      | exact dg_beginN w N d x s r u v ok hph hp0 hN hRl hWl h1 h2 hF hG hd hb
      | exact dg_beginCas w N d x s r u v ok _ hph hp0 hN hRl hWl h1 h2 hF hG hd hb
      | exact dg_loadWord w N d x s r u v ok _ hph hp0 hN hRl hWl h1 h2 hF hG hd hb
      | exact dg_take w N d x s r u v ok hph hp0 hN hRl hWl h1 h2 hF hG hd hb
      | exact dg_back w N d x s r u v ok _ hph hp0 ho hN hRl hWl h1 h2 hF hG hd hb
      | exact dg_release w N d x s r u v ok hph hp0 hN hRl hWl h1 h2 hF hG hd hb
      | exact dg_leaveN w N d x s r u v ok _ hph hp0 hN hRl hWl h1 h2 hF hG hd hb
      | exact dg_leaveCas w N d x s r u v ok _ _ hph hp0 hN hRl hWl h1 h2 hF hG hd hb
      | (by_cases hodd : v % 2 = 1
         · rw [if_pos hodd]; exact dg_beginSeq_odd w N d x s r u v ok hph hp0 hv.1 hodd hN hRl hWl h1 h2 hF hG hd hb
         · rw [if_neg hodd]; exact dg_beginSeq_even w N d x s r u v ok hph hp0 hv.1 (by omega) hN hRl hWl h1 h2 hF hG hd hb)
      | (by_cases hodd : v % 2 = 1
         · rw [if_pos hodd]; exact dg_checkSeq_odd w N d x s r u v ok _ hph hp0 hv.1 hodd hN hRl hWl h1 h2 hF hG hd hb
         · rw [if_neg hodd]; exact dg_checkSeq_even w N d x s r u v ok _ hph hp0 hv.1 (by omega) hN hRl hWl h1 h2 hF hG hd hb)
      | (by_cases he : v = s.snap
         · rw [if_pos he]; exact dg_loadSeq_eq w N d x s r u v ok _ _ hph hp0 ho.1.1 he hN hRl hWl h1 h2 hF hG hd hb
         · rw [if_neg he]; exact dg_loadSeq_ne w N d x s r u v ok _ _ hph hp0 he hN hRl hWl h1 h2 hF hG hd hb)
      | (rename_i to gv i; by_cases he : v = (s.R[i]?.getD (0, 0)).2
         · rw [if_pos he]; exact dg_checkOne_yes w N d x s r u v ok _ _ _ hph hp0 ho.2 he hN hRl hWl h1 h2 hF hG hd hb
         · rw [if_neg he]; exact dg_checkOne_no w N d x s r u v ok _ _ _ hph hp0 ho.2 he hN hRl hWl h1 h2 hF hG hd hb)
      | (rename_i to gv; by_cases he : v = gv
         · rw [if_pos he]; exact dg_checkEnd_yes w N d x s r u v ok _ _ hph hp0 he hN hRl hWl h1 h2 hF hG hd hb
         · rw [if_neg he]; exact dg_checkEnd_no w N d x s r u v ok _ _ hph hp0 he hN hRl hWl h1 h2 hF hG hd hb)

end Go.Proofs.Ytilffolppnnkaaa
