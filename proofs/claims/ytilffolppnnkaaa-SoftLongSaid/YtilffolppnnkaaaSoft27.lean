/- The document's path of layer 8: Load, Store, and the parts of Give. -/
import Derived.Test.YtilffolppnnkaaaSoft26
import Derived.Test.YtilffolppnnkaaaSLogR1
namespace Go.Proofs.Ytilffolppnnkaaa
set_option maxRecDepth 100000
open Go.RowKit

theorem err_not {s : PS} (a : Int) (h : s.ready = false) : s.err a = 80 ∧ s.load a = s ∧ ∀ v, s.store a v = s := by
  refine ⟨?_, by simp [PS.load, h], fun v => by simp [PS.store, h]⟩
  unfold PS.err touchErr
  unfold PS.ready at h
  have h' : (s.busy || !s.live) = true := by
    revert h; cases s.busy <;> cases s.live <;> simp
  rw [if_pos h']
theorem err_low {s : PS} {a : Int} (h : s.ready = true) (ha : a < 8) : s.err a = 2 ∧ s.load a = s ∧ ∀ v, s.store a v = s := by
  have hd : decide (8 ≤ a) = false := by simp; omega
  refine ⟨?_, by simp [PS.load, hd], fun v => by simp [PS.store, hd]⟩
  unfold PS.err touchErr
  unfold PS.ready at h
  have h' : (s.busy || !s.live) = false := by simpa using h
  rw [if_neg (by simp [h']), if_pos ha]
theorem err_ok {s : PS} {a : Int} (h : s.ready = true) (ha : 8 ≤ a) : s.err a = 0 := by
  unfold PS.err touchErr
  unfold PS.ready at h
  have h' : (s.busy || !s.live) = false := by simpa using h
  rw [if_neg (by simp [h']), if_neg (by omega)]

set_option maxHeartbeats 1000000 in
theorem dLoad_any (w : World) (N : List Nat) (d : Nat) (s : PS) (a : Int) (hd : d ∈ N) (hWl : s.W.length ≤ 1000) (h : DAt w N d s) :
    Calls Try.prog 49 #[.pointer (some ⟨d, 0, none⟩), .int .i64 a] w (DPost w N d (s.load a) (s.err a)) := by
  have HS := Lib.hid h
  obtain ⟨x, r, u, h1, h2, hb, hF, hG, hp⟩ := h
  have HR := Lib.hid (dready_any w d x s _ _ hb hp)
  have hV := Value_any w u.A u.cap _ u.l a (by rw [h2]; exact hWl) hG.rd
  rw [h2] at hV
  have HV := Lib.hid hV
  have HX := Lib.hid hp
  have HB := Lib.hid hb
  have HFG := Lib.hid (And.intro hF (And.intro hG hd))
  have H12 := Lib.hid (And.intro h1 h2)
  have hul : u.l.length = s.W.length := by rw [h2]
  have dc0 : (w).cell? ⟨d, 0, none⟩ = some (.int .i64 x.at_) := (hb).cell 0; have df0 : (w).frozen? ⟨d, 0, none⟩ = false := (hb).free 0; have dc1 : (w).cell? ⟨d, 1, none⟩ = some (.int .u64 x.n) := (hb).cell 1; have df1 : (w).frozen? ⟨d, 1, none⟩ = false := (hb).free 1; have dc2 : (w).cell? ⟨d, 2, none⟩ = some (.int .i64 x.a) := (hb).cell 2; have df2 : (w).frozen? ⟨d, 2, none⟩ = false := (hb).free 2; have dc3 : (w).cell? ⟨d, 3, none⟩ = some (.int .u64 x.v) := (hb).cell 3; have df3 : (w).frozen? ⟨d, 3, none⟩ = false := (hb).free 3; have dc4 : (w).cell? ⟨d, 4, none⟩ = some (.int .u64 x.g) := (hb).cell 4; have df4 : (w).frozen? ⟨d, 4, none⟩ = false := (hb).free 4; have dc5 : (w).cell? ⟨d, 5, none⟩ = some (.int .i64 x.i) := (hb).cell 5; have df5 : (w).frozen? ⟨d, 5, none⟩ = false := (hb).free 5; have dc6 : (w).cell? ⟨d, 6, none⟩ = some (.int .i64 x.to) := (hb).cell 6; have df6 : (w).frozen? ⟨d, 6, none⟩ = false := (hb).free 6; have dc7 : (w).cell? ⟨d, 7, none⟩ = some (.int .i64 x.how) := (hb).cell 7; have df7 : (w).frozen? ⟨d, 7, none⟩ = false := (hb).free 7; have dc8 : (w).cell? ⟨d, 8, none⟩ = some (.int .u64 s.snap) := (hb).cell 8; have df8 : (w).frozen? ⟨d, 8, none⟩ = false := (hb).free 8; have dc9 : (w).cell? ⟨d, 9, none⟩ = some (.int .u64 s.value) := (hb).cell 9; have df9 : (w).frozen? ⟨d, 9, none⟩ = false := (hb).free 9; have dc10 : (w).cell? ⟨d, 10, none⟩ = some (r.val) := (hb).cell 10; have df10 : (w).frozen? ⟨d, 10, none⟩ = false := (hb).free 10; have dc11 : (w).cell? ⟨d, 11, none⟩ = some (.slice u.A u.l.length u.cap) := (hb).cell 11; have df11 : (w).frozen? ⟨d, 11, none⟩ = false := (hb).free 11; have dc12 : (w).cell? ⟨d, 12, none⟩ = some (.bool s.live) := (hb).cell 12; have df12 : (w).frozen? ⟨d, 12, none⟩ = false := (hb).free 12; have dc13 : (w).cell? ⟨d, 13, none⟩ = some (.bool s.writing) := (hb).cell 13; have df13 : (w).frozen? ⟨d, 13, none⟩ = false := (hb).free 13; have dc14 : (w).cell? ⟨d, 14, none⟩ = some (.int .i64 s.ended) := (hb).cell 14; have df14 : (w).frozen? ⟨d, 14, none⟩ = false := (hb).free 14; have dc15 : (w).cell? ⟨d, 15, none⟩ = some (.int .i64 s.points) := (hb).cell 15; have df15 : (w).frozen? ⟨d, 15, none⟩ = false := (hb).free 15
  rw [hul] at dc11
  clear h1 h2 hb hF hG hp hd hV hul hWl
  cases hr : s.ready with
  | false =>
    rw [hr] at HR
    have HE := Lib.hid (err_not a hr)
    clear hr
    go_enter Try.func49, Try.ntmps49
    go_wp2_with fail
    refine HR.out.mono ?_
    rintro e w' ⟨rfl, rfl⟩
    go_wp2_with fail
    go_ret
    exact ⟨by rw [HE.out.1]; rfl, by rw [HE.out.2.1]; exact HS.out, Chg.refl _ _⟩
  | true =>
    rw [hr] at HR
    by_cases ha : a < 8
    · have HE := Lib.hid (err_low hr ha)
      clear hr
      go_enter Try.func49, Try.ntmps49
      go_wp2_with fail
      refine HR.out.mono ?_
      rintro e w' ⟨rfl, rfl⟩
      go_wp2_with fail
      go_ret
      exact ⟨by rw [HE.out.1]; rfl, by rw [HE.out.2.1]; exact HS.out, Chg.refl _ _⟩
    · have HE := Lib.hid (err_ok hr (show 8 ≤ a by omega))
      have hd8 : decide (8 ≤ a) = true := by simp; omega
      by_cases hin : isIn s.W a = true
      · have HL := Lib.hid (show s.load a = { s with value := valOf s.W a } from by unfold PS.load; rw [hr, hd8, hin]; rfl)
        rw [hin] at HV
        clear hr hd8 hin
        generalize valOf s.W a = y at *
        go_enter Try.func49, Try.ntmps49
        go_wp2_with fail
        refine HR.out.mono ?_
        rintro e w' ⟨rfl, rfl⟩
        go_wp2_with fail
        refine HV.out.mono ?_
        rintro e w' ⟨rfl, rfl⟩
        go_wp2_with fail
        go_ret
        refine ⟨by rw [HE.out]; rfl, ?_⟩
        rw [HL.out]
        exact DAt.mk' x H12.out.1 H12.out.2 HFG.out.1 HFG.out.2.1 HFG.out.2.2 (by repeat (first | with_reducible exact Chg.refl _ _ | with_reducible refine Chg.setCell ?_ (by simp) _ | with_reducible refine Chg.drew ?_)) (HB.out.set 9 _) HX.out
      · have hin' : isIn s.W a = false := by simpa using hin
        have HL := Lib.hid (show s.load a = { s with ph := .loadWord a } from by unfold PS.load; rw [hr, hd8, hin']; rfl)
        rw [hin'] at HV
        clear hr hd8 hin hin'
        generalize valOf s.W a = y at *
        go_enter Try.func49, Try.ntmps49
        go_wp2_with fail
        refine HR.out.mono ?_
        rintro e w' ⟨rfl, rfl⟩
        go_wp2_with fail
        refine HV.out.mono ?_
        rintro e w' ⟨rfl, rfl⟩
        go_wp2_with fail
        go_ret
        refine ⟨by rw [HE.out]; rfl, ?_⟩
        rw [HL.out]
        exact DAt.mk' { x with a := a, at_ := 4 } H12.out.1 H12.out.2 HFG.out.1 HFG.out.2.1 HFG.out.2.2 (by repeat (first | with_reducible exact Chg.refl _ _ | with_reducible refine Chg.setCell ?_ (by simp) _ | with_reducible refine Chg.drew ?_)) ((HB.out.set 2 _).set 0 _) ⟨rfl, rfl⟩

theorem DocC.parts {w : World} {N : List Nat} {d : Nat} {x : DX} {s : PS} {a b rv uv : Value} {R W : PL} (h : DocC w N d (((dcells x s a b).set 10 rv).set 11 uv) R W) :
    ∃ r u : SlP, r.l = R ∧ u.l = W ∧ Blk w d (dcells x s r.val u.val) 60 ∧ FzP w N r ∧ FzP w N u := by
  obtain ⟨r, u, h1, h2, h3, h4, hb, hF, hG⟩ := h
  have e1 : rv = r.val := by
    have : some rv = some r.val := h3
    simpa using this
  have e2 : uv = u.val := by
    have : some uv = some u.val := h4
    simpa using this
  subst e1 e2
  exact ⟨r, u, h1, h2, hb, hF, hG⟩

set_option maxHeartbeats 1000000 in
theorem dStore_any (w : World) (N : List Nat) (d : Nat) (s : PS) (a v : Int) (hd : d ∈ N) (hN : ∀ y ∈ N, y < w.heap.size) (hWl : s.W.length ≤ 128) (h : DAt w N d s) :
    Calls Try.prog 50 #[.pointer (some ⟨d, 0, none⟩), .int .i64 a, .int .u64 v] w (DPost w N d (s.store a v) (s.err a)) := by
  have HS := Lib.hid h
  obtain ⟨x, r, u, h1, h2, hb, hF, hG, hp⟩ := h
  have HR := Lib.hid (dready_any w d x s _ _ hb hp)
  have HWr := Lib.hid (WriteC_any w N d (dcells x s r.val u.val) s.R s.W a v hd hN hWl ⟨r, u, h1, h2, rfl, rfl, hb, hF, hG⟩)
  have HX := Lib.hid hp
  have HD := Lib.hid hd
  clear h1 h2 hb hF hG hp hd hN hWl
  cases hr : s.ready with
  | false =>
    rw [hr] at HR
    have HE := Lib.hid (err_not a hr)
    clear hr
    go_enter Try.func50, Try.ntmps50
    go_wp2_with fail
    refine HR.out.mono ?_
    rintro e w' ⟨rfl, rfl⟩
    go_wp2_with fail
    go_ret
    exact ⟨by rw [HE.out.1]; rfl, by rw [HE.out.2.2]; exact HS.out, Chg.refl _ _⟩
  | true =>
    rw [hr] at HR
    by_cases ha : a < 8
    · have HE := Lib.hid (err_low hr ha)
      clear hr
      go_enter Try.func50, Try.ntmps50
      go_wp2_with fail
      refine HR.out.mono ?_
      rintro e w' ⟨rfl, rfl⟩
      go_wp2_with fail
      go_ret
      exact ⟨by rw [HE.out.1]; rfl, by rw [HE.out.2.2]; exact HS.out, Chg.refl _ _⟩
    · have HE := Lib.hid (err_ok hr (show 8 ≤ a by omega))
      have hd8 : decide (8 ≤ a) = true := by simp; omega
      rcases (rdErr_two (R := s.W) (a := a) (by omega)) with h0 | h0
      · have HL := Lib.hid (show s.store a v = { s with W := wrL s.W a v } from by unfold PS.store; rw [hr, hd8]; simp [wrErr, h0])
        rw [show wrErr s.W a = 0 from h0] at HWr
        clear hr hd8 h0
        go_enter Try.func50, Try.ntmps50
        go_wp2_with fail
        refine HR.out.mono ?_
        rintro e w' ⟨rfl, rfl⟩
        go_wp2_with fail
        refine HWr.out.mono ?_
        rintro e w1 ⟨rfl, ⟨rv, uv, hq⟩, hC⟩
        have HQ := Lib.hid hq.parts
        have HC := Lib.hid hC
        clear hq hC
        go_wp2_with fail
        go_ret
        refine ⟨by rw [HE.out]; rfl, ?_⟩
        rw [HL.out]
        obtain ⟨r', u', e1, e2, hb, hF, hG⟩ := HQ.out
        exact ⟨⟨x, r', u', e1, e2, hb, hF, hG, HX.out⟩, HC.out⟩
      · have h0' : wrErr s.W a = 70 := h0
        have HL := Lib.hid (show s.store a v = { s with ph := .leaveN 2 } from by unfold PS.store; rw [hr, hd8]; simp [h0'])
        have HWn := Lib.hid (wrL_full (W := s.W) (a := a) (v := v) (by omega) (by rw [h0']; decide))
        rw [h0'] at HWr
        clear hr hd8 h0 h0'
        go_enter Try.func50, Try.ntmps50
        go_wp2_with fail
        refine HR.out.mono ?_
        rintro e w' ⟨rfl, rfl⟩
        go_wp2_with fail
        refine HWr.out.mono ?_
        rintro e w1 ⟨rfl, ⟨rv, uv, hq⟩, hC⟩
        obtain ⟨r', u', e1, e2, hb, hF, hG⟩ := hq.parts
        have HP := Lib.hid (And.intro e1 (And.intro e2 (And.intro hF hG)))
        have HLv := Lib.hid (dleave_any w1 d x s _ _ 2 hb)
        have HC := Lib.hid hC
        clear hq hC e1 e2 hb hF hG
        go_wp2_with fail
        refine HLv.out.mono ?_
        rintro e w2 ⟨rfl, hb2, hC2⟩
        have HB2 := Lib.hid hb2
        have HC2 := Lib.hid hC2
        clear hb2 hC2
        go_wp2_with fail
        go_ret
        refine ⟨by rw [HE.out]; rfl, ?_⟩
        rw [HL.out]
        obtain ⟨e1, e2, hF, hG⟩ := HP.out
        have := DAt.mk' (s' := { s with ph := .leaveN 2 }) { x with how := 2, at_ := 12 } e1 (e2.trans HWn.out) hF hG HD.out HC2.out HB2.out ⟨rfl, rfl⟩
        exact ⟨this.1, HC.out.trans this.2⟩

/-- A word that was fetched, or a validation first. -/
theorem dloaded_ne (w : World) (N : List Nat) (d : Nat) (x : DX) (s : PS) (r u : SlP) (a y g : Int) (hph : s.ph = .loadSeq a y) (hp : DocPh x s.ph) (hne : g ≠ s.snap) (h1 : r.l = s.R) (h2 : u.l = s.W) (hF : FzP w N r) (hG : FzP w N u) (hd : d ∈ N) (hb : Blk w d (dcells x s r.val u.val) 60) :
    Calls Try.prog 83 #[.pointer (some ⟨d, 0, none⟩), .int .u64 g] w fun e w' => e = .returned (.tuple #[]) ∧ DAt w' N d { s with ph := .checkSeq (.fetch a) } ∧ Chg [d] w w' := by
  rw [hph] at hp
  obtain ⟨_, hxa, _⟩ := hp
  have HB := Lib.hid hb
  have HK := Lib.hid (And.intro h1 (And.intro h2 (And.intro hF (And.intro hG hd))))
  have HXA := Lib.hid hxa
  have dc0 : (w).cell? ⟨d, 0, none⟩ = some (.int .i64 x.at_) := (hb).cell 0; have df0 : (w).frozen? ⟨d, 0, none⟩ = false := (hb).free 0; have dc1 : (w).cell? ⟨d, 1, none⟩ = some (.int .u64 x.n) := (hb).cell 1; have df1 : (w).frozen? ⟨d, 1, none⟩ = false := (hb).free 1; have dc2 : (w).cell? ⟨d, 2, none⟩ = some (.int .i64 x.a) := (hb).cell 2; have df2 : (w).frozen? ⟨d, 2, none⟩ = false := (hb).free 2; have dc3 : (w).cell? ⟨d, 3, none⟩ = some (.int .u64 x.v) := (hb).cell 3; have df3 : (w).frozen? ⟨d, 3, none⟩ = false := (hb).free 3; have dc4 : (w).cell? ⟨d, 4, none⟩ = some (.int .u64 x.g) := (hb).cell 4; have df4 : (w).frozen? ⟨d, 4, none⟩ = false := (hb).free 4; have dc5 : (w).cell? ⟨d, 5, none⟩ = some (.int .i64 x.i) := (hb).cell 5; have df5 : (w).frozen? ⟨d, 5, none⟩ = false := (hb).free 5; have dc6 : (w).cell? ⟨d, 6, none⟩ = some (.int .i64 x.to) := (hb).cell 6; have df6 : (w).frozen? ⟨d, 6, none⟩ = false := (hb).free 6; have dc7 : (w).cell? ⟨d, 7, none⟩ = some (.int .i64 x.how) := (hb).cell 7; have df7 : (w).frozen? ⟨d, 7, none⟩ = false := (hb).free 7; have dc8 : (w).cell? ⟨d, 8, none⟩ = some (.int .u64 s.snap) := (hb).cell 8; have df8 : (w).frozen? ⟨d, 8, none⟩ = false := (hb).free 8; have dc9 : (w).cell? ⟨d, 9, none⟩ = some (.int .u64 s.value) := (hb).cell 9; have df9 : (w).frozen? ⟨d, 9, none⟩ = false := (hb).free 9; have dc10 : (w).cell? ⟨d, 10, none⟩ = some (r.val) := (hb).cell 10; have df10 : (w).frozen? ⟨d, 10, none⟩ = false := (hb).free 10; have dc11 : (w).cell? ⟨d, 11, none⟩ = some (u.val) := (hb).cell 11; have df11 : (w).frozen? ⟨d, 11, none⟩ = false := (hb).free 11; have dc12 : (w).cell? ⟨d, 12, none⟩ = some (.bool s.live) := (hb).cell 12; have df12 : (w).frozen? ⟨d, 12, none⟩ = false := (hb).free 12; have dc13 : (w).cell? ⟨d, 13, none⟩ = some (.bool s.writing) := (hb).cell 13; have df13 : (w).frozen? ⟨d, 13, none⟩ = false := (hb).free 13; have dc14 : (w).cell? ⟨d, 14, none⟩ = some (.int .i64 s.ended) := (hb).cell 14; have df14 : (w).frozen? ⟨d, 14, none⟩ = false := (hb).free 14; have dc15 : (w).cell? ⟨d, 15, none⟩ = some (.int .i64 s.points) := (hb).cell 15; have df15 : (w).frozen? ⟨d, 15, none⟩ = false := (hb).free 15
  have hn : (g != s.snap) = true := by simpa using hne
  clear h1 h2 hF hG hd hb hxa hne hph
  go_enter Try.func83, Try.ntmps83
  go_wp2_with fail
  refine bodyPost_ret (results_none rfl _ _ _) rfl ?_
  exact ⟨rfl, DAt.mk' { x with to := 4, at_ := 6 } HK.out.1 HK.out.2.1 HK.out.2.2.1 HK.out.2.2.2.1 HK.out.2.2.2.2 (by repeat (first | with_reducible exact Chg.refl _ _ | with_reducible refine Chg.setCell ?_ (by simp) _ | with_reducible refine Chg.drew ?_)) ((HB.out.set 6 _).set 0 _) ⟨rfl, rfl, HXA.out⟩⟩

set_option maxHeartbeats 2000000 in
theorem dloaded_eq (w : World) (N : List Nat) (d : Nat) (x : DX) (s : PS) (r u : SlP) (a y : Int) (hph : s.ph = .loadSeq a y) (hp : DocPh x s.ph) (ha : 0 ≤ a) (hN : ∀ z ∈ N, z < w.heap.size) (hRl : s.R.length ≤ 128) (h1 : r.l = s.R) (h2 : u.l = s.W) (hF : FzP w N r) (hG : FzP w N u) (hd : d ∈ N) (hb : Blk w d (dcells x s r.val u.val) 60) :
    Calls Try.prog 83 #[.pointer (some ⟨d, 0, none⟩), .int .u64 s.snap] w fun e w' => e = .returned (.tuple #[]) ∧ DAt w' N d (s.loaded a y) ∧ Chg [d] w w' := by
  rw [hph] at hp
  obtain ⟨_, hxa, hxv⟩ := hp
  have hV := Value_any w r.A r.cap _ r.l a (by rw [h1]; omega) hF.rd
  rw [h1] at hV
  have HV := Lib.hid (show ∀ n, Calls Try.prog 80 #[.slice r.A s.R.length r.cap, .int .i64 a] (w.drewN n) fun e w'' => e = .returned (.tuple #[.int .u64 (valOf s.R a), .bool (isIn s.R a)]) ∧ ∃ m, w'' = w.drewN m from fun n => quiet_left (by
    have := Value_any (w.drewN n) r.A r.cap _ r.l a (by rw [h1]; omega) (hF.rd.chg0 ((Chg.refl [] w).drewN n))
    rw [h1] at this; exact this))
  have HRd := Lib.hid (show ∀ W, Chg [] w W → Calls Try.prog 101 #[.pointer (some ⟨d, 10, none⟩), .int .i64 a, .int .u64 y] W (RdCPost W N d (dcells x s r.val u.val) (rdL s.R a y) s.W (rdErr s.R a)) from fun W hC =>
    ReadC_any W N d (dcells x s r.val u.val) s.R s.W a y hd (fun z hz => Nat.lt_of_lt_of_le (hN z hz) hC.size) hRl ⟨r, u, h1, h2, rfl, rfl, hC.blk hb (by simp), hF.step (hC.mono (by simp)) (fun z hz => .inl hz), hG.step (hC.mono (by simp)) (fun z hz => .inl hz)⟩)
  have HB := Lib.hid hb
  have HK := Lib.hid (And.intro h1 (And.intro h2 (And.intro hF (And.intro hG hd))))
  have hrl : r.l.length = s.R.length := by rw [h1]
  have dc0 : (w).cell? ⟨d, 0, none⟩ = some (.int .i64 x.at_) := (hb).cell 0; have df0 : (w).frozen? ⟨d, 0, none⟩ = false := (hb).free 0; have dc1 : (w).cell? ⟨d, 1, none⟩ = some (.int .u64 x.n) := (hb).cell 1; have df1 : (w).frozen? ⟨d, 1, none⟩ = false := (hb).free 1; have dc2 : (w).cell? ⟨d, 2, none⟩ = some (.int .i64 x.a) := (hb).cell 2; have df2 : (w).frozen? ⟨d, 2, none⟩ = false := (hb).free 2; have dc3 : (w).cell? ⟨d, 3, none⟩ = some (.int .u64 x.v) := (hb).cell 3; have df3 : (w).frozen? ⟨d, 3, none⟩ = false := (hb).free 3; have dc4 : (w).cell? ⟨d, 4, none⟩ = some (.int .u64 x.g) := (hb).cell 4; have df4 : (w).frozen? ⟨d, 4, none⟩ = false := (hb).free 4; have dc5 : (w).cell? ⟨d, 5, none⟩ = some (.int .i64 x.i) := (hb).cell 5; have df5 : (w).frozen? ⟨d, 5, none⟩ = false := (hb).free 5; have dc6 : (w).cell? ⟨d, 6, none⟩ = some (.int .i64 x.to) := (hb).cell 6; have df6 : (w).frozen? ⟨d, 6, none⟩ = false := (hb).free 6; have dc7 : (w).cell? ⟨d, 7, none⟩ = some (.int .i64 x.how) := (hb).cell 7; have df7 : (w).frozen? ⟨d, 7, none⟩ = false := (hb).free 7; have dc8 : (w).cell? ⟨d, 8, none⟩ = some (.int .u64 s.snap) := (hb).cell 8; have df8 : (w).frozen? ⟨d, 8, none⟩ = false := (hb).free 8; have dc9 : (w).cell? ⟨d, 9, none⟩ = some (.int .u64 s.value) := (hb).cell 9; have df9 : (w).frozen? ⟨d, 9, none⟩ = false := (hb).free 9; have dc10 : (w).cell? ⟨d, 10, none⟩ = some (.slice r.A r.l.length r.cap) := (hb).cell 10; have df10 : (w).frozen? ⟨d, 10, none⟩ = false := (hb).free 10; have dc11 : (w).cell? ⟨d, 11, none⟩ = some (u.val) := (hb).cell 11; have df11 : (w).frozen? ⟨d, 11, none⟩ = false := (hb).free 11; have dc12 : (w).cell? ⟨d, 12, none⟩ = some (.bool s.live) := (hb).cell 12; have df12 : (w).frozen? ⟨d, 12, none⟩ = false := (hb).free 12; have dc13 : (w).cell? ⟨d, 13, none⟩ = some (.bool s.writing) := (hb).cell 13; have df13 : (w).frozen? ⟨d, 13, none⟩ = false := (hb).free 13; have dc14 : (w).cell? ⟨d, 14, none⟩ = some (.int .i64 s.ended) := (hb).cell 14; have df14 : (w).frozen? ⟨d, 14, none⟩ = false := (hb).free 14; have dc15 : (w).cell? ⟨d, 15, none⟩ = some (.int .i64 s.points) := (hb).cell 15; have df15 : (w).frozen? ⟨d, 15, none⟩ = false := (hb).free 15
  rw [hxa] at dc2
  rw [hxv] at dc3
  rw [hrl] at dc10
  have HXX := Lib.hid (And.intro hxa hxv)
  have HA := Lib.hid ha
  have hcase : (isIn s.R a = true ∧ valOf s.R a ≠ y) ∨ (isIn s.R a && (valOf s.R a != y)) = false := by
    by_cases hi : isIn s.R a = true
    · by_cases hv : valOf s.R a = y
      · exact .inr (by simp [hv])
      · exact .inl ⟨hi, hv⟩
    · exact .inr (by simp [hi])
  have HLd := Lib.hid (show s.loaded a y = if badRead s.R a y then { s with R := rdL s.R a y, ph := .leaveN 2 } else { s with R := rdL s.R a y, value := y, points := wrap64 (s.points + 1), ph := .idle } from rfl)
  clear h1 h2 hF hG hd hb hxa hxv hV hN hRl hrl ha
  rcases hcase with ⟨hi, hv⟩ | hiv
  · have HE := Lib.hid (show badRead s.R a y = true ∧ rdL s.R a y = s.R from by
      constructor
      · simp [badRead, hi, hv]
      · have : (place s.R a).isSome = true := hi
        unfold rdL; split
        · rfl
        · rfl)
    have hvn : (valOf s.R a != y) = true := by simpa using hv
    rw [hi] at HV
    clear hi hv
    generalize valOf s.R a = z at *
    go_enter Try.func83, Try.ntmps83
    go_wp2_with fail
    go_quiet ((go_at_call 80; exact HV.out _))
    obtain ⟨w1, hw1⟩ : ∃ w1, w1 = w.drewN nq := ⟨_, rfl⟩
    rw [← hw1]
    have hC1 : Chg [] w w1 := hw1 ▸ (Chg.refl [] w).drewN nq
    have HC1 := Lib.hid hC1
    have HB1 := Lib.hid (hC1.blk HB.out (by simp))
    clear hw1 hC1
    clear dc0 df0 dc1 df1 dc2 df2 dc3 df3 dc4 df4 dc5 df5 dc6 df6 dc7 df7 dc8 df8 dc9 df9 dc10 df10 dc11 df11 dc12 df12 dc13 df13 dc14 df14 dc15 df15
    have dc0 : (w1).cell? ⟨d, 0, none⟩ = some (.int .i64 x.at_) := (HB1.out).cell 0; have df0 : (w1).frozen? ⟨d, 0, none⟩ = false := (HB1.out).free 0; have dc1 : (w1).cell? ⟨d, 1, none⟩ = some (.int .u64 x.n) := (HB1.out).cell 1; have df1 : (w1).frozen? ⟨d, 1, none⟩ = false := (HB1.out).free 1; have dc2 : (w1).cell? ⟨d, 2, none⟩ = some (.int .i64 x.a) := (HB1.out).cell 2; have df2 : (w1).frozen? ⟨d, 2, none⟩ = false := (HB1.out).free 2; have dc3 : (w1).cell? ⟨d, 3, none⟩ = some (.int .u64 x.v) := (HB1.out).cell 3; have df3 : (w1).frozen? ⟨d, 3, none⟩ = false := (HB1.out).free 3; have dc4 : (w1).cell? ⟨d, 4, none⟩ = some (.int .u64 x.g) := (HB1.out).cell 4; have df4 : (w1).frozen? ⟨d, 4, none⟩ = false := (HB1.out).free 4; have dc5 : (w1).cell? ⟨d, 5, none⟩ = some (.int .i64 x.i) := (HB1.out).cell 5; have df5 : (w1).frozen? ⟨d, 5, none⟩ = false := (HB1.out).free 5; have dc6 : (w1).cell? ⟨d, 6, none⟩ = some (.int .i64 x.to) := (HB1.out).cell 6; have df6 : (w1).frozen? ⟨d, 6, none⟩ = false := (HB1.out).free 6; have dc7 : (w1).cell? ⟨d, 7, none⟩ = some (.int .i64 x.how) := (HB1.out).cell 7; have df7 : (w1).frozen? ⟨d, 7, none⟩ = false := (HB1.out).free 7; have dc8 : (w1).cell? ⟨d, 8, none⟩ = some (.int .u64 s.snap) := (HB1.out).cell 8; have df8 : (w1).frozen? ⟨d, 8, none⟩ = false := (HB1.out).free 8; have dc9 : (w1).cell? ⟨d, 9, none⟩ = some (.int .u64 s.value) := (HB1.out).cell 9; have df9 : (w1).frozen? ⟨d, 9, none⟩ = false := (HB1.out).free 9; have dc10 : (w1).cell? ⟨d, 10, none⟩ = some (r.val) := (HB1.out).cell 10; have df10 : (w1).frozen? ⟨d, 10, none⟩ = false := (HB1.out).free 10; have dc11 : (w1).cell? ⟨d, 11, none⟩ = some (u.val) := (HB1.out).cell 11; have df11 : (w1).frozen? ⟨d, 11, none⟩ = false := (HB1.out).free 11; have dc12 : (w1).cell? ⟨d, 12, none⟩ = some (.bool s.live) := (HB1.out).cell 12; have df12 : (w1).frozen? ⟨d, 12, none⟩ = false := (HB1.out).free 12; have dc13 : (w1).cell? ⟨d, 13, none⟩ = some (.bool s.writing) := (HB1.out).cell 13; have df13 : (w1).frozen? ⟨d, 13, none⟩ = false := (HB1.out).free 13; have dc14 : (w1).cell? ⟨d, 14, none⟩ = some (.int .i64 s.ended) := (HB1.out).cell 14; have df14 : (w1).frozen? ⟨d, 14, none⟩ = false := (HB1.out).free 14; have dc15 : (w1).cell? ⟨d, 15, none⟩ = some (.int .i64 s.points) := (HB1.out).cell 15; have df15 : (w1).frozen? ⟨d, 15, none⟩ = false := (HB1.out).free 15
    rw [HXX.out.1] at dc2
    rw [HXX.out.2] at dc3
    go_wp2_with fail
    go_quiet (fail)
    obtain ⟨w2, hw2⟩ : ∃ w2, w2 = w1.drewN nq := ⟨_, rfl⟩
    rw [← hw2]
    have hC2 : Chg [] w1 w2 := hw2 ▸ (Chg.refl [] w1).drewN nq
    have HC2 := Lib.hid (HC1.out.trans hC2)
    have HB2 := Lib.hid (hC2.blk HB1.out (by simp))
    clear hw2 hC2
    go_wp2_with fail
    refine (dleave_any w2 d x s _ _ 2 HB2.out).mono ?_
    rintro e w3 ⟨rfl, hb3, hC3⟩
    have HB3 := Lib.hid hb3
    have HC3 := Lib.hid ((HC2.out.mono (T := [d]) (by simp)).trans hC3)
    clear hb3 hC3
    go_wp2_with fail
    refine bodyPost_ret (results_none rfl _ _ _) rfl ?_
    refine ⟨rfl, ?_⟩
    rw [HLd.out, HE.out.1, HE.out.2]
    exact DAt.mk' (s' := { s with ph := .leaveN 2 }) { x with how := 2, at_ := 12 } HK.out.1 HK.out.2.1 HK.out.2.2.1 HK.out.2.2.2.1 HK.out.2.2.2.2 HC3.out HB3.out ⟨rfl, rfl⟩
  · have HE := Lib.hid (show badRead s.R a y = (rdErr s.R a != 0) from by simp only [badRead, hiv, Bool.false_or])
    have h70 := rdErr_two (R := s.R) (a := a) HA.out
    cases hi : isIn s.R a with
    | false =>
      rw [hi] at HV
      clear hi hiv
      generalize valOf s.R a = z at *
      rcases h70 with h0 | h0
      · have HER := Lib.hid h0
        clear h0
        go_enter Try.func83, Try.ntmps83
        go_wp2_with fail
        go_quiet ((go_at_call 80; exact HV.out _))
        obtain ⟨w1, hw1⟩ : ∃ w1, w1 = w.drewN nq := ⟨_, rfl⟩
        rw [← hw1]
        have hC1 : Chg [] w w1 := hw1 ▸ (Chg.refl [] w).drewN nq
        have HC1 := Lib.hid hC1
        have HB1 := Lib.hid (hC1.blk HB.out (by simp))
        clear hw1 hC1
        clear dc0 df0 dc1 df1 dc2 df2 dc3 df3 dc4 df4 dc5 df5 dc6 df6 dc7 df7 dc8 df8 dc9 df9 dc10 df10 dc11 df11 dc12 df12 dc13 df13 dc14 df14 dc15 df15
        have dc0 : (w1).cell? ⟨d, 0, none⟩ = some (.int .i64 x.at_) := (HB1.out).cell 0; have df0 : (w1).frozen? ⟨d, 0, none⟩ = false := (HB1.out).free 0; have dc1 : (w1).cell? ⟨d, 1, none⟩ = some (.int .u64 x.n) := (HB1.out).cell 1; have df1 : (w1).frozen? ⟨d, 1, none⟩ = false := (HB1.out).free 1; have dc2 : (w1).cell? ⟨d, 2, none⟩ = some (.int .i64 x.a) := (HB1.out).cell 2; have df2 : (w1).frozen? ⟨d, 2, none⟩ = false := (HB1.out).free 2; have dc3 : (w1).cell? ⟨d, 3, none⟩ = some (.int .u64 x.v) := (HB1.out).cell 3; have df3 : (w1).frozen? ⟨d, 3, none⟩ = false := (HB1.out).free 3; have dc4 : (w1).cell? ⟨d, 4, none⟩ = some (.int .u64 x.g) := (HB1.out).cell 4; have df4 : (w1).frozen? ⟨d, 4, none⟩ = false := (HB1.out).free 4; have dc5 : (w1).cell? ⟨d, 5, none⟩ = some (.int .i64 x.i) := (HB1.out).cell 5; have df5 : (w1).frozen? ⟨d, 5, none⟩ = false := (HB1.out).free 5; have dc6 : (w1).cell? ⟨d, 6, none⟩ = some (.int .i64 x.to) := (HB1.out).cell 6; have df6 : (w1).frozen? ⟨d, 6, none⟩ = false := (HB1.out).free 6; have dc7 : (w1).cell? ⟨d, 7, none⟩ = some (.int .i64 x.how) := (HB1.out).cell 7; have df7 : (w1).frozen? ⟨d, 7, none⟩ = false := (HB1.out).free 7; have dc8 : (w1).cell? ⟨d, 8, none⟩ = some (.int .u64 s.snap) := (HB1.out).cell 8; have df8 : (w1).frozen? ⟨d, 8, none⟩ = false := (HB1.out).free 8; have dc9 : (w1).cell? ⟨d, 9, none⟩ = some (.int .u64 s.value) := (HB1.out).cell 9; have df9 : (w1).frozen? ⟨d, 9, none⟩ = false := (HB1.out).free 9; have dc10 : (w1).cell? ⟨d, 10, none⟩ = some (r.val) := (HB1.out).cell 10; have df10 : (w1).frozen? ⟨d, 10, none⟩ = false := (HB1.out).free 10; have dc11 : (w1).cell? ⟨d, 11, none⟩ = some (u.val) := (HB1.out).cell 11; have df11 : (w1).frozen? ⟨d, 11, none⟩ = false := (HB1.out).free 11; have dc12 : (w1).cell? ⟨d, 12, none⟩ = some (.bool s.live) := (HB1.out).cell 12; have df12 : (w1).frozen? ⟨d, 12, none⟩ = false := (HB1.out).free 12; have dc13 : (w1).cell? ⟨d, 13, none⟩ = some (.bool s.writing) := (HB1.out).cell 13; have df13 : (w1).frozen? ⟨d, 13, none⟩ = false := (HB1.out).free 13; have dc14 : (w1).cell? ⟨d, 14, none⟩ = some (.int .i64 s.ended) := (HB1.out).cell 14; have df14 : (w1).frozen? ⟨d, 14, none⟩ = false := (HB1.out).free 14; have dc15 : (w1).cell? ⟨d, 15, none⟩ = some (.int .i64 s.points) := (HB1.out).cell 15; have df15 : (w1).frozen? ⟨d, 15, none⟩ = false := (HB1.out).free 15
        rw [HXX.out.1] at dc2
        rw [HXX.out.2] at dc3
        go_wp2_with fail
        refine wp_region_held_drew (S := (fun w' : World => w'.cell? ⟨d, 2, none⟩ = some (.int .i64 a) ∧ w'.cell? ⟨d, 3, none⟩ = some (.int .u64 y) ∧ w'.cell? ⟨d, 8, none⟩ = some (.int .u64 s.snap) ∧ w'.cell? ⟨d, 15, none⟩ = some (.int .i64 s.points))) (by kernel_rfl) ⟨dc2, dc3, dc8, dc15⟩ (fun hHeld => ?_)
        refine wpAnyH_take (i := 0) (v := .bool false) rfl (by kernel_rfl) (by kernel_rfl) (by kernel_rfl) (fun _ _ _ h => h) (Or.inl ⟨by kernel_rfl, fun w hSw => by obtain ⟨q1, q2, q3, q4⟩ := hSw; go_simp⟩) (by assumption) ?_; simp only [Act.put, List.setIfInBounds_toArray]; refine wpAnyH_take (i := 1) (v := .bool false) rfl (by kernel_rfl) (by kernel_rfl) (by kernel_rfl) (fun _ _ _ h => h) (Or.inl ⟨by kernel_rfl, fun w hSw => by obtain ⟨q1, q2, q3, q4⟩ := hSw; go_simp⟩) (by assumption) ?_; simp only [Act.put, List.setIfInBounds_toArray]; refine wpAnyH_take (i := 2) (v := undef) rfl (by kernel_rfl) (by kernel_rfl) (by kernel_rfl) (fun _ _ _ h => h) (Or.inr ⟨by kernel_rfl, rfl⟩) (by assumption) ?_; simp only [Act.put, List.setIfInBounds_toArray]; refine wpAnyH_take (i := 3) (v := undef) rfl (by kernel_rfl) (by kernel_rfl) (by kernel_rfl) (fun _ _ _ h => h) (Or.inr ⟨by kernel_rfl, rfl⟩) (by assumption) ?_; simp only [Act.put, List.setIfInBounds_toArray]; refine wpAnyH_take (i := 4) (v := undef) rfl (by kernel_rfl) (by kernel_rfl) (by kernel_rfl) (fun _ _ _ h => h) (Or.inr ⟨by kernel_rfl, rfl⟩) (by assumption) ?_; simp only [Act.put, List.setIfInBounds_toArray]; refine wpAnyH_take (i := 5) (v := undef) rfl (by kernel_rfl) (by kernel_rfl) (by kernel_rfl) (fun _ _ _ h => h) (Or.inr ⟨by kernel_rfl, rfl⟩) (by assumption) ?_; simp only [Act.put, List.setIfInBounds_toArray]; refine wpAnyH_take (i := 6) (v := undef) rfl (by kernel_rfl) (by kernel_rfl) (by kernel_rfl) (fun _ _ _ h => h) (Or.inr ⟨by kernel_rfl, rfl⟩) (by assumption) ?_; simp only [Act.put, List.setIfInBounds_toArray]; refine wpAnyH_take (i := 7) (v := undef) rfl (by kernel_rfl) (by kernel_rfl) (by kernel_rfl) (fun _ _ _ h => h) (Or.inr ⟨by kernel_rfl, rfl⟩) (by assumption) ?_; simp only [Act.put, List.setIfInBounds_toArray]; refine wpAnyH_take (i := 8) (v := .bool false) rfl (by kernel_rfl) (by kernel_rfl) (by kernel_rfl) (fun _ _ _ h => h) (Or.inl ⟨by kernel_rfl, fun w hSw => by obtain ⟨q1, q2, q3, q4⟩ := hSw; go_simp⟩) (by assumption) ?_; simp only [Act.put, List.setIfInBounds_toArray]; refine wpAnyH_take (i := 9) (v := .bool false) rfl (by kernel_rfl) (by kernel_rfl) (by kernel_rfl) (fun _ _ _ h => h) (Or.inl ⟨by kernel_rfl, fun w hSw => by obtain ⟨q1, q2, q3, q4⟩ := hSw; go_simp⟩) (by assumption) ?_; simp only [Act.put, List.setIfInBounds_toArray]; refine wpAnyH_take (i := 10) (v := .pointer (some ⟨d, 0, none⟩)) rfl (by kernel_rfl) (by kernel_rfl) (by kernel_rfl) (fun _ _ _ h => h) (Or.inl ⟨by kernel_rfl, fun w hSw => by obtain ⟨q1, q2, q3, q4⟩ := hSw; go_simp⟩) (by assumption) ?_; simp only [Act.put, List.setIfInBounds_toArray]; refine wpAnyH_take (i := 11) (v := .pointer (some ⟨d, 0, none⟩)) rfl (by kernel_rfl) (by kernel_rfl) (by kernel_rfl) (fun _ _ _ h => h) (Or.inl ⟨by kernel_rfl, fun w hSw => by obtain ⟨q1, q2, q3, q4⟩ := hSw; go_simp⟩) (by assumption) ?_; simp only [Act.put, List.setIfInBounds_toArray]; refine wpAnyH_take (i := 12) (v := .pointer (some ⟨d, 10, none⟩)) rfl (by kernel_rfl) (by kernel_rfl) (by kernel_rfl) (fun _ _ _ h => h) (Or.inl ⟨by kernel_rfl, fun w hSw => by obtain ⟨q1, q2, q3, q4⟩ := hSw; go_simp⟩) (by assumption) ?_; simp only [Act.put, List.setIfInBounds_toArray]; refine wpAnyH_take (i := 13) (v := .pointer (some ⟨d, 0, none⟩)) rfl (by kernel_rfl) (by kernel_rfl) (by kernel_rfl) (fun _ _ _ h => h) (Or.inl ⟨by kernel_rfl, fun w hSw => by obtain ⟨q1, q2, q3, q4⟩ := hSw; go_simp⟩) (by assumption) ?_; simp only [Act.put, List.setIfInBounds_toArray]; refine wpAnyH_take (i := 14) (v := .pointer (some ⟨d, 0, none⟩)) rfl (by kernel_rfl) (by kernel_rfl) (by kernel_rfl) (fun _ _ _ h => h) (Or.inl ⟨by kernel_rfl, fun w hSw => by obtain ⟨q1, q2, q3, q4⟩ := hSw; go_simp⟩) (by assumption) ?_; simp only [Act.put, List.setIfInBounds_toArray]; refine wpAnyH_take (i := 15) (v := .pointer (some ⟨d, 2, none⟩)) rfl (by kernel_rfl) (by kernel_rfl) (by kernel_rfl) (fun _ _ _ h => h) (Or.inl ⟨by kernel_rfl, fun w hSw => by obtain ⟨q1, q2, q3, q4⟩ := hSw; go_simp⟩) (by assumption) ?_; simp only [Act.put, List.setIfInBounds_toArray]; refine wpAnyH_take (i := 16) (v := .int .i64 a) rfl (by kernel_rfl) (by kernel_rfl) (by kernel_rfl) (fun _ _ _ h => h) (Or.inl ⟨by kernel_rfl, fun w hSw => by obtain ⟨q1, q2, q3, q4⟩ := hSw; go_simp⟩) (by assumption) ?_; simp only [Act.put, List.setIfInBounds_toArray]; refine wpAnyH_take (i := 17) (v := .pointer (some ⟨d, 0, none⟩)) rfl (by kernel_rfl) (by kernel_rfl) (by kernel_rfl) (fun _ _ _ h => h) (Or.inl ⟨by kernel_rfl, fun w hSw => by obtain ⟨q1, q2, q3, q4⟩ := hSw; go_simp⟩) (by assumption) ?_; simp only [Act.put, List.setIfInBounds_toArray]; refine wpAnyH_take (i := 18) (v := .pointer (some ⟨d, 0, none⟩)) rfl (by kernel_rfl) (by kernel_rfl) (by kernel_rfl) (fun _ _ _ h => h) (Or.inl ⟨by kernel_rfl, fun w hSw => by obtain ⟨q1, q2, q3, q4⟩ := hSw; go_simp⟩) (by assumption) ?_; simp only [Act.put, List.setIfInBounds_toArray]; refine wpAnyH_take (i := 19) (v := .pointer (some ⟨d, 3, none⟩)) rfl (by kernel_rfl) (by kernel_rfl) (by kernel_rfl) (fun _ _ _ h => h) (Or.inl ⟨by kernel_rfl, fun w hSw => by obtain ⟨q1, q2, q3, q4⟩ := hSw; go_simp⟩) (by assumption) ?_; simp only [Act.put, List.setIfInBounds_toArray]; refine wpAnyH_take (i := 20) (v := .int .u64 y) rfl (by kernel_rfl) (by kernel_rfl) (by kernel_rfl) (fun _ _ _ h => h) (Or.inl ⟨by kernel_rfl, fun w hSw => by obtain ⟨q1, q2, q3, q4⟩ := hSw; go_simp⟩) (by assumption) ?_; simp only [Act.put, List.setIfInBounds_toArray]
        refine wpAnyH_ready (rs := [21]) (by kernel_rfl) (by simp) ?_; refine AllReadyH.cons rfl (fun K hK => ?_) AllReadyH.nil
        go_simp
        refine (HRd.out _ (HC1.out.trans (Chg.drew (Chg.refl [] w1)))).mono ?_
        rintro e w2 ⟨rfl, ⟨rv, uv, hq⟩, hC⟩
        rw [HER.out]
        dsimp only
        obtain ⟨r', u', e1, e2, hb2, hF2, hG2⟩ := hq.parts
        have HB2 := Lib.hid hb2
        have HP2 := Lib.hid (And.intro e1 (And.intro e2 (And.intro hF2 hG2)))
        have HC2 := Lib.hid (((HC1.out.mono (T := [d]) (by simp)).trans (Chg.drew (Chg.refl [d] w1))).trans hC)
        clear e1 e2 hb2 hF2 hG2 hq hC hHeld
        clear dc0 df0 dc1 df1 dc2 df2 dc3 df3 dc4 df4 dc5 df5 dc6 df6 dc7 df7 dc8 df8 dc9 df9 dc10 df10 dc11 df11 dc12 df12 dc13 df13 dc14 df14 dc15 df15
        refine hK.out _ _ ⟨(HB2.out.cell 2).trans (by rw [← HXX.out.1]; rfl), (HB2.out.cell 3).trans (by rw [← HXX.out.2]; rfl), HB2.out.cell 8, HB2.out.cell 15⟩ (fun hHeld => ?_)
        clear hK K
        refine wpAnyH_take (i := 22) (v := .bool false) rfl (by kernel_rfl) (by kernel_rfl) (by kernel_rfl) (fun _ _ _ h => h) (Or.inl ⟨by kernel_rfl, fun w hSw => by obtain ⟨q1, q2, q3, q4⟩ := hSw; go_simp⟩) (by assumption) ?_; simp only [Act.put, List.setIfInBounds_toArray]; refine wpAnyH_take (i := 23) (v := .bool false) rfl (by kernel_rfl) (by kernel_rfl) (by kernel_rfl) (fun _ _ _ h => h) (Or.inl ⟨by kernel_rfl, fun w hSw => by obtain ⟨q1, q2, q3, q4⟩ := hSw; go_simp⟩) (by assumption) ?_; simp only [Act.put, List.setIfInBounds_toArray]
        refine wpAnyH_done (by kernel_rfl) ?_ _
        clear hHeld
        have dc0 : (w2).cell? ⟨d, 0, none⟩ = some (.int .i64 x.at_) := (HB2.out).cell 0; have df0 : (w2).frozen? ⟨d, 0, none⟩ = false := (HB2.out).free 0; have dc1 : (w2).cell? ⟨d, 1, none⟩ = some (.int .u64 x.n) := (HB2.out).cell 1; have df1 : (w2).frozen? ⟨d, 1, none⟩ = false := (HB2.out).free 1; have dc2 : (w2).cell? ⟨d, 2, none⟩ = some (.int .i64 x.a) := (HB2.out).cell 2; have df2 : (w2).frozen? ⟨d, 2, none⟩ = false := (HB2.out).free 2; have dc3 : (w2).cell? ⟨d, 3, none⟩ = some (.int .u64 x.v) := (HB2.out).cell 3; have df3 : (w2).frozen? ⟨d, 3, none⟩ = false := (HB2.out).free 3; have dc4 : (w2).cell? ⟨d, 4, none⟩ = some (.int .u64 x.g) := (HB2.out).cell 4; have df4 : (w2).frozen? ⟨d, 4, none⟩ = false := (HB2.out).free 4; have dc5 : (w2).cell? ⟨d, 5, none⟩ = some (.int .i64 x.i) := (HB2.out).cell 5; have df5 : (w2).frozen? ⟨d, 5, none⟩ = false := (HB2.out).free 5; have dc6 : (w2).cell? ⟨d, 6, none⟩ = some (.int .i64 x.to) := (HB2.out).cell 6; have df6 : (w2).frozen? ⟨d, 6, none⟩ = false := (HB2.out).free 6; have dc7 : (w2).cell? ⟨d, 7, none⟩ = some (.int .i64 x.how) := (HB2.out).cell 7; have df7 : (w2).frozen? ⟨d, 7, none⟩ = false := (HB2.out).free 7; have dc8 : (w2).cell? ⟨d, 8, none⟩ = some (.int .u64 s.snap) := (HB2.out).cell 8; have df8 : (w2).frozen? ⟨d, 8, none⟩ = false := (HB2.out).free 8; have dc9 : (w2).cell? ⟨d, 9, none⟩ = some (.int .u64 s.value) := (HB2.out).cell 9; have df9 : (w2).frozen? ⟨d, 9, none⟩ = false := (HB2.out).free 9; have dc10 : (w2).cell? ⟨d, 10, none⟩ = some (r'.val) := (HB2.out).cell 10; have df10 : (w2).frozen? ⟨d, 10, none⟩ = false := (HB2.out).free 10; have dc11 : (w2).cell? ⟨d, 11, none⟩ = some (u'.val) := (HB2.out).cell 11; have df11 : (w2).frozen? ⟨d, 11, none⟩ = false := (HB2.out).free 11; have dc12 : (w2).cell? ⟨d, 12, none⟩ = some (.bool s.live) := (HB2.out).cell 12; have df12 : (w2).frozen? ⟨d, 12, none⟩ = false := (HB2.out).free 12; have dc13 : (w2).cell? ⟨d, 13, none⟩ = some (.bool s.writing) := (HB2.out).cell 13; have df13 : (w2).frozen? ⟨d, 13, none⟩ = false := (HB2.out).free 13; have dc14 : (w2).cell? ⟨d, 14, none⟩ = some (.int .i64 s.ended) := (HB2.out).cell 14; have df14 : (w2).frozen? ⟨d, 14, none⟩ = false := (HB2.out).free 14; have dc15 : (w2).cell? ⟨d, 15, none⟩ = some (.int .i64 s.points) := (HB2.out).cell 15; have df15 : (w2).frozen? ⟨d, 15, none⟩ = false := (HB2.out).free 15
        rw [HXX.out.1] at dc2
        rw [HXX.out.2] at dc3
        go_wp2_with fail
        go_end0
        refine ⟨rfl, ?_⟩
        rw [HLd.out, HE.out, HER.out, if_neg (by decide)]
        obtain ⟨e1, e2, hF2, hG2⟩ := HP2.out
        have := DAt.mk' (w := w2) (s' := { s with R := rdL s.R a y, value := y, points := wrap64 (s.points + 1), ph := .idle }) { x with at_ := 0 } e1 e2 hF2 hG2 HK.out.2.2.2.2 (by repeat (first | with_reducible exact Chg.refl _ _ | with_reducible refine Chg.setCell ?_ (by simp) _ | with_reducible refine Chg.drew ?_)) (((HB2.out.set 9 _).set 15 _).set 0 _) rfl
        exact ⟨this.1, HC2.out.trans this.2⟩
      · have HER := Lib.hid h0
        clear h0
        go_enter Try.func83, Try.ntmps83
        go_wp2_with fail
        go_quiet ((go_at_call 80; exact HV.out _))
        obtain ⟨w1, hw1⟩ : ∃ w1, w1 = w.drewN nq := ⟨_, rfl⟩
        rw [← hw1]
        have hC1 : Chg [] w w1 := hw1 ▸ (Chg.refl [] w).drewN nq
        have HC1 := Lib.hid hC1
        have HB1 := Lib.hid (hC1.blk HB.out (by simp))
        clear hw1 hC1
        clear dc0 df0 dc1 df1 dc2 df2 dc3 df3 dc4 df4 dc5 df5 dc6 df6 dc7 df7 dc8 df8 dc9 df9 dc10 df10 dc11 df11 dc12 df12 dc13 df13 dc14 df14 dc15 df15
        have dc0 : (w1).cell? ⟨d, 0, none⟩ = some (.int .i64 x.at_) := (HB1.out).cell 0; have df0 : (w1).frozen? ⟨d, 0, none⟩ = false := (HB1.out).free 0; have dc1 : (w1).cell? ⟨d, 1, none⟩ = some (.int .u64 x.n) := (HB1.out).cell 1; have df1 : (w1).frozen? ⟨d, 1, none⟩ = false := (HB1.out).free 1; have dc2 : (w1).cell? ⟨d, 2, none⟩ = some (.int .i64 x.a) := (HB1.out).cell 2; have df2 : (w1).frozen? ⟨d, 2, none⟩ = false := (HB1.out).free 2; have dc3 : (w1).cell? ⟨d, 3, none⟩ = some (.int .u64 x.v) := (HB1.out).cell 3; have df3 : (w1).frozen? ⟨d, 3, none⟩ = false := (HB1.out).free 3; have dc4 : (w1).cell? ⟨d, 4, none⟩ = some (.int .u64 x.g) := (HB1.out).cell 4; have df4 : (w1).frozen? ⟨d, 4, none⟩ = false := (HB1.out).free 4; have dc5 : (w1).cell? ⟨d, 5, none⟩ = some (.int .i64 x.i) := (HB1.out).cell 5; have df5 : (w1).frozen? ⟨d, 5, none⟩ = false := (HB1.out).free 5; have dc6 : (w1).cell? ⟨d, 6, none⟩ = some (.int .i64 x.to) := (HB1.out).cell 6; have df6 : (w1).frozen? ⟨d, 6, none⟩ = false := (HB1.out).free 6; have dc7 : (w1).cell? ⟨d, 7, none⟩ = some (.int .i64 x.how) := (HB1.out).cell 7; have df7 : (w1).frozen? ⟨d, 7, none⟩ = false := (HB1.out).free 7; have dc8 : (w1).cell? ⟨d, 8, none⟩ = some (.int .u64 s.snap) := (HB1.out).cell 8; have df8 : (w1).frozen? ⟨d, 8, none⟩ = false := (HB1.out).free 8; have dc9 : (w1).cell? ⟨d, 9, none⟩ = some (.int .u64 s.value) := (HB1.out).cell 9; have df9 : (w1).frozen? ⟨d, 9, none⟩ = false := (HB1.out).free 9; have dc10 : (w1).cell? ⟨d, 10, none⟩ = some (r.val) := (HB1.out).cell 10; have df10 : (w1).frozen? ⟨d, 10, none⟩ = false := (HB1.out).free 10; have dc11 : (w1).cell? ⟨d, 11, none⟩ = some (u.val) := (HB1.out).cell 11; have df11 : (w1).frozen? ⟨d, 11, none⟩ = false := (HB1.out).free 11; have dc12 : (w1).cell? ⟨d, 12, none⟩ = some (.bool s.live) := (HB1.out).cell 12; have df12 : (w1).frozen? ⟨d, 12, none⟩ = false := (HB1.out).free 12; have dc13 : (w1).cell? ⟨d, 13, none⟩ = some (.bool s.writing) := (HB1.out).cell 13; have df13 : (w1).frozen? ⟨d, 13, none⟩ = false := (HB1.out).free 13; have dc14 : (w1).cell? ⟨d, 14, none⟩ = some (.int .i64 s.ended) := (HB1.out).cell 14; have df14 : (w1).frozen? ⟨d, 14, none⟩ = false := (HB1.out).free 14; have dc15 : (w1).cell? ⟨d, 15, none⟩ = some (.int .i64 s.points) := (HB1.out).cell 15; have df15 : (w1).frozen? ⟨d, 15, none⟩ = false := (HB1.out).free 15
        rw [HXX.out.1] at dc2
        rw [HXX.out.2] at dc3
        go_wp2_with fail
        refine wp_region_held_drew (S := (fun w' : World => w'.cell? ⟨d, 2, none⟩ = some (.int .i64 a) ∧ w'.cell? ⟨d, 3, none⟩ = some (.int .u64 y) ∧ w'.cell? ⟨d, 8, none⟩ = some (.int .u64 s.snap) ∧ w'.cell? ⟨d, 15, none⟩ = some (.int .i64 s.points))) (by kernel_rfl) ⟨dc2, dc3, dc8, dc15⟩ (fun hHeld => ?_)
        refine wpAnyH_take (i := 0) (v := .bool false) rfl (by kernel_rfl) (by kernel_rfl) (by kernel_rfl) (fun _ _ _ h => h) (Or.inl ⟨by kernel_rfl, fun w hSw => by obtain ⟨q1, q2, q3, q4⟩ := hSw; go_simp⟩) (by assumption) ?_; simp only [Act.put, List.setIfInBounds_toArray]; refine wpAnyH_take (i := 1) (v := .bool false) rfl (by kernel_rfl) (by kernel_rfl) (by kernel_rfl) (fun _ _ _ h => h) (Or.inl ⟨by kernel_rfl, fun w hSw => by obtain ⟨q1, q2, q3, q4⟩ := hSw; go_simp⟩) (by assumption) ?_; simp only [Act.put, List.setIfInBounds_toArray]; refine wpAnyH_take (i := 2) (v := undef) rfl (by kernel_rfl) (by kernel_rfl) (by kernel_rfl) (fun _ _ _ h => h) (Or.inr ⟨by kernel_rfl, rfl⟩) (by assumption) ?_; simp only [Act.put, List.setIfInBounds_toArray]; refine wpAnyH_take (i := 3) (v := undef) rfl (by kernel_rfl) (by kernel_rfl) (by kernel_rfl) (fun _ _ _ h => h) (Or.inr ⟨by kernel_rfl, rfl⟩) (by assumption) ?_; simp only [Act.put, List.setIfInBounds_toArray]; refine wpAnyH_take (i := 4) (v := undef) rfl (by kernel_rfl) (by kernel_rfl) (by kernel_rfl) (fun _ _ _ h => h) (Or.inr ⟨by kernel_rfl, rfl⟩) (by assumption) ?_; simp only [Act.put, List.setIfInBounds_toArray]; refine wpAnyH_take (i := 5) (v := undef) rfl (by kernel_rfl) (by kernel_rfl) (by kernel_rfl) (fun _ _ _ h => h) (Or.inr ⟨by kernel_rfl, rfl⟩) (by assumption) ?_; simp only [Act.put, List.setIfInBounds_toArray]; refine wpAnyH_take (i := 6) (v := undef) rfl (by kernel_rfl) (by kernel_rfl) (by kernel_rfl) (fun _ _ _ h => h) (Or.inr ⟨by kernel_rfl, rfl⟩) (by assumption) ?_; simp only [Act.put, List.setIfInBounds_toArray]; refine wpAnyH_take (i := 7) (v := undef) rfl (by kernel_rfl) (by kernel_rfl) (by kernel_rfl) (fun _ _ _ h => h) (Or.inr ⟨by kernel_rfl, rfl⟩) (by assumption) ?_; simp only [Act.put, List.setIfInBounds_toArray]; refine wpAnyH_take (i := 8) (v := .bool false) rfl (by kernel_rfl) (by kernel_rfl) (by kernel_rfl) (fun _ _ _ h => h) (Or.inl ⟨by kernel_rfl, fun w hSw => by obtain ⟨q1, q2, q3, q4⟩ := hSw; go_simp⟩) (by assumption) ?_; simp only [Act.put, List.setIfInBounds_toArray]; refine wpAnyH_take (i := 9) (v := .bool false) rfl (by kernel_rfl) (by kernel_rfl) (by kernel_rfl) (fun _ _ _ h => h) (Or.inl ⟨by kernel_rfl, fun w hSw => by obtain ⟨q1, q2, q3, q4⟩ := hSw; go_simp⟩) (by assumption) ?_; simp only [Act.put, List.setIfInBounds_toArray]; refine wpAnyH_take (i := 10) (v := .pointer (some ⟨d, 0, none⟩)) rfl (by kernel_rfl) (by kernel_rfl) (by kernel_rfl) (fun _ _ _ h => h) (Or.inl ⟨by kernel_rfl, fun w hSw => by obtain ⟨q1, q2, q3, q4⟩ := hSw; go_simp⟩) (by assumption) ?_; simp only [Act.put, List.setIfInBounds_toArray]; refine wpAnyH_take (i := 11) (v := .pointer (some ⟨d, 0, none⟩)) rfl (by kernel_rfl) (by kernel_rfl) (by kernel_rfl) (fun _ _ _ h => h) (Or.inl ⟨by kernel_rfl, fun w hSw => by obtain ⟨q1, q2, q3, q4⟩ := hSw; go_simp⟩) (by assumption) ?_; simp only [Act.put, List.setIfInBounds_toArray]; refine wpAnyH_take (i := 12) (v := .pointer (some ⟨d, 10, none⟩)) rfl (by kernel_rfl) (by kernel_rfl) (by kernel_rfl) (fun _ _ _ h => h) (Or.inl ⟨by kernel_rfl, fun w hSw => by obtain ⟨q1, q2, q3, q4⟩ := hSw; go_simp⟩) (by assumption) ?_; simp only [Act.put, List.setIfInBounds_toArray]; refine wpAnyH_take (i := 13) (v := .pointer (some ⟨d, 0, none⟩)) rfl (by kernel_rfl) (by kernel_rfl) (by kernel_rfl) (fun _ _ _ h => h) (Or.inl ⟨by kernel_rfl, fun w hSw => by obtain ⟨q1, q2, q3, q4⟩ := hSw; go_simp⟩) (by assumption) ?_; simp only [Act.put, List.setIfInBounds_toArray]; refine wpAnyH_take (i := 14) (v := .pointer (some ⟨d, 0, none⟩)) rfl (by kernel_rfl) (by kernel_rfl) (by kernel_rfl) (fun _ _ _ h => h) (Or.inl ⟨by kernel_rfl, fun w hSw => by obtain ⟨q1, q2, q3, q4⟩ := hSw; go_simp⟩) (by assumption) ?_; simp only [Act.put, List.setIfInBounds_toArray]; refine wpAnyH_take (i := 15) (v := .pointer (some ⟨d, 2, none⟩)) rfl (by kernel_rfl) (by kernel_rfl) (by kernel_rfl) (fun _ _ _ h => h) (Or.inl ⟨by kernel_rfl, fun w hSw => by obtain ⟨q1, q2, q3, q4⟩ := hSw; go_simp⟩) (by assumption) ?_; simp only [Act.put, List.setIfInBounds_toArray]; refine wpAnyH_take (i := 16) (v := .int .i64 a) rfl (by kernel_rfl) (by kernel_rfl) (by kernel_rfl) (fun _ _ _ h => h) (Or.inl ⟨by kernel_rfl, fun w hSw => by obtain ⟨q1, q2, q3, q4⟩ := hSw; go_simp⟩) (by assumption) ?_; simp only [Act.put, List.setIfInBounds_toArray]; refine wpAnyH_take (i := 17) (v := .pointer (some ⟨d, 0, none⟩)) rfl (by kernel_rfl) (by kernel_rfl) (by kernel_rfl) (fun _ _ _ h => h) (Or.inl ⟨by kernel_rfl, fun w hSw => by obtain ⟨q1, q2, q3, q4⟩ := hSw; go_simp⟩) (by assumption) ?_; simp only [Act.put, List.setIfInBounds_toArray]; refine wpAnyH_take (i := 18) (v := .pointer (some ⟨d, 0, none⟩)) rfl (by kernel_rfl) (by kernel_rfl) (by kernel_rfl) (fun _ _ _ h => h) (Or.inl ⟨by kernel_rfl, fun w hSw => by obtain ⟨q1, q2, q3, q4⟩ := hSw; go_simp⟩) (by assumption) ?_; simp only [Act.put, List.setIfInBounds_toArray]; refine wpAnyH_take (i := 19) (v := .pointer (some ⟨d, 3, none⟩)) rfl (by kernel_rfl) (by kernel_rfl) (by kernel_rfl) (fun _ _ _ h => h) (Or.inl ⟨by kernel_rfl, fun w hSw => by obtain ⟨q1, q2, q3, q4⟩ := hSw; go_simp⟩) (by assumption) ?_; simp only [Act.put, List.setIfInBounds_toArray]; refine wpAnyH_take (i := 20) (v := .int .u64 y) rfl (by kernel_rfl) (by kernel_rfl) (by kernel_rfl) (fun _ _ _ h => h) (Or.inl ⟨by kernel_rfl, fun w hSw => by obtain ⟨q1, q2, q3, q4⟩ := hSw; go_simp⟩) (by assumption) ?_; simp only [Act.put, List.setIfInBounds_toArray]
        refine wpAnyH_ready (rs := [21]) (by kernel_rfl) (by simp) ?_; refine AllReadyH.cons rfl (fun K hK => ?_) AllReadyH.nil
        go_simp
        refine (HRd.out _ (HC1.out.trans (Chg.drew (Chg.refl [] w1)))).mono ?_
        rintro e w2 ⟨rfl, ⟨rv, uv, hq⟩, hC⟩
        rw [HER.out]
        dsimp only
        obtain ⟨r', u', e1, e2, hb2, hF2, hG2⟩ := hq.parts
        have HB2 := Lib.hid hb2
        have HP2 := Lib.hid (And.intro e1 (And.intro e2 (And.intro hF2 hG2)))
        have HC2 := Lib.hid (((HC1.out.mono (T := [d]) (by simp)).trans (Chg.drew (Chg.refl [d] w1))).trans hC)
        clear e1 e2 hb2 hF2 hG2 hq hC hHeld
        clear dc0 df0 dc1 df1 dc2 df2 dc3 df3 dc4 df4 dc5 df5 dc6 df6 dc7 df7 dc8 df8 dc9 df9 dc10 df10 dc11 df11 dc12 df12 dc13 df13 dc14 df14 dc15 df15
        refine hK.out _ _ ⟨(HB2.out.cell 2).trans (by rw [← HXX.out.1]; rfl), (HB2.out.cell 3).trans (by rw [← HXX.out.2]; rfl), HB2.out.cell 8, HB2.out.cell 15⟩ (fun hHeld => ?_)
        clear hK K
        refine wpAnyH_take (i := 22) (v := .bool true) rfl (by kernel_rfl) (by kernel_rfl) (by kernel_rfl) (fun _ _ _ h => h) (Or.inl ⟨by kernel_rfl, fun w hSw => by obtain ⟨q1, q2, q3, q4⟩ := hSw; go_simp⟩) (by assumption) ?_; simp only [Act.put, List.setIfInBounds_toArray]; refine wpAnyH_take (i := 23) (v := .bool true) rfl (by kernel_rfl) (by kernel_rfl) (by kernel_rfl) (fun _ _ _ h => h) (Or.inl ⟨by kernel_rfl, fun w hSw => by obtain ⟨q1, q2, q3, q4⟩ := hSw; go_simp⟩) (by assumption) ?_; simp only [Act.put, List.setIfInBounds_toArray]
        refine wpAnyH_done (by kernel_rfl) ?_ _
        clear hHeld
        have dc0 : (w2).cell? ⟨d, 0, none⟩ = some (.int .i64 x.at_) := (HB2.out).cell 0; have df0 : (w2).frozen? ⟨d, 0, none⟩ = false := (HB2.out).free 0; have dc1 : (w2).cell? ⟨d, 1, none⟩ = some (.int .u64 x.n) := (HB2.out).cell 1; have df1 : (w2).frozen? ⟨d, 1, none⟩ = false := (HB2.out).free 1; have dc2 : (w2).cell? ⟨d, 2, none⟩ = some (.int .i64 x.a) := (HB2.out).cell 2; have df2 : (w2).frozen? ⟨d, 2, none⟩ = false := (HB2.out).free 2; have dc3 : (w2).cell? ⟨d, 3, none⟩ = some (.int .u64 x.v) := (HB2.out).cell 3; have df3 : (w2).frozen? ⟨d, 3, none⟩ = false := (HB2.out).free 3; have dc4 : (w2).cell? ⟨d, 4, none⟩ = some (.int .u64 x.g) := (HB2.out).cell 4; have df4 : (w2).frozen? ⟨d, 4, none⟩ = false := (HB2.out).free 4; have dc5 : (w2).cell? ⟨d, 5, none⟩ = some (.int .i64 x.i) := (HB2.out).cell 5; have df5 : (w2).frozen? ⟨d, 5, none⟩ = false := (HB2.out).free 5; have dc6 : (w2).cell? ⟨d, 6, none⟩ = some (.int .i64 x.to) := (HB2.out).cell 6; have df6 : (w2).frozen? ⟨d, 6, none⟩ = false := (HB2.out).free 6; have dc7 : (w2).cell? ⟨d, 7, none⟩ = some (.int .i64 x.how) := (HB2.out).cell 7; have df7 : (w2).frozen? ⟨d, 7, none⟩ = false := (HB2.out).free 7; have dc8 : (w2).cell? ⟨d, 8, none⟩ = some (.int .u64 s.snap) := (HB2.out).cell 8; have df8 : (w2).frozen? ⟨d, 8, none⟩ = false := (HB2.out).free 8; have dc9 : (w2).cell? ⟨d, 9, none⟩ = some (.int .u64 s.value) := (HB2.out).cell 9; have df9 : (w2).frozen? ⟨d, 9, none⟩ = false := (HB2.out).free 9; have dc10 : (w2).cell? ⟨d, 10, none⟩ = some (r'.val) := (HB2.out).cell 10; have df10 : (w2).frozen? ⟨d, 10, none⟩ = false := (HB2.out).free 10; have dc11 : (w2).cell? ⟨d, 11, none⟩ = some (u'.val) := (HB2.out).cell 11; have df11 : (w2).frozen? ⟨d, 11, none⟩ = false := (HB2.out).free 11; have dc12 : (w2).cell? ⟨d, 12, none⟩ = some (.bool s.live) := (HB2.out).cell 12; have df12 : (w2).frozen? ⟨d, 12, none⟩ = false := (HB2.out).free 12; have dc13 : (w2).cell? ⟨d, 13, none⟩ = some (.bool s.writing) := (HB2.out).cell 13; have df13 : (w2).frozen? ⟨d, 13, none⟩ = false := (HB2.out).free 13; have dc14 : (w2).cell? ⟨d, 14, none⟩ = some (.int .i64 s.ended) := (HB2.out).cell 14; have df14 : (w2).frozen? ⟨d, 14, none⟩ = false := (HB2.out).free 14; have dc15 : (w2).cell? ⟨d, 15, none⟩ = some (.int .i64 s.points) := (HB2.out).cell 15; have df15 : (w2).frozen? ⟨d, 15, none⟩ = false := (HB2.out).free 15
        rw [HXX.out.1] at dc2
        rw [HXX.out.2] at dc3
        go_wp2_with fail
        refine (dleave_any w2 d x s _ _ 2 HB2.out).mono ?_
        rintro e w3 ⟨rfl, hb3, hC3⟩
        have HB3 := Lib.hid hb3
        have HC3 := Lib.hid hC3
        clear hb3 hC3
        go_wp2_with fail
        refine bodyPost_ret (results_none rfl _ _ _) rfl ?_
        refine ⟨rfl, ?_⟩
        rw [HLd.out, HE.out, HER.out, if_pos (by decide)]
        obtain ⟨e1, e2, hF2, hG2⟩ := HP2.out
        have := DAt.mk' (s' := { s with R := rdL s.R a y, ph := .leaveN 2 }) { x with how := 2, at_ := 12 } e1 e2 hF2 hG2 HK.out.2.2.2.2 HC3.out HB3.out ⟨rfl, rfl⟩
        exact ⟨this.1, HC2.out.trans this.2⟩
    | true =>
      have hc : (valOf s.R a != y) = false := by simpa [hi] using hiv
      rw [hi] at HV
      clear hi hiv
      generalize valOf s.R a = z at *
      rcases h70 with h0 | h0
      · have HER := Lib.hid h0
        clear h0
        go_enter Try.func83, Try.ntmps83
        go_wp2_with fail
        go_quiet ((go_at_call 80; exact HV.out _))
        obtain ⟨w1, hw1⟩ : ∃ w1, w1 = w.drewN nq := ⟨_, rfl⟩
        rw [← hw1]
        have hC1 : Chg [] w w1 := hw1 ▸ (Chg.refl [] w).drewN nq
        have HC1 := Lib.hid hC1
        have HB1 := Lib.hid (hC1.blk HB.out (by simp))
        clear hw1 hC1
        clear dc0 df0 dc1 df1 dc2 df2 dc3 df3 dc4 df4 dc5 df5 dc6 df6 dc7 df7 dc8 df8 dc9 df9 dc10 df10 dc11 df11 dc12 df12 dc13 df13 dc14 df14 dc15 df15
        have dc0 : (w1).cell? ⟨d, 0, none⟩ = some (.int .i64 x.at_) := (HB1.out).cell 0; have df0 : (w1).frozen? ⟨d, 0, none⟩ = false := (HB1.out).free 0; have dc1 : (w1).cell? ⟨d, 1, none⟩ = some (.int .u64 x.n) := (HB1.out).cell 1; have df1 : (w1).frozen? ⟨d, 1, none⟩ = false := (HB1.out).free 1; have dc2 : (w1).cell? ⟨d, 2, none⟩ = some (.int .i64 x.a) := (HB1.out).cell 2; have df2 : (w1).frozen? ⟨d, 2, none⟩ = false := (HB1.out).free 2; have dc3 : (w1).cell? ⟨d, 3, none⟩ = some (.int .u64 x.v) := (HB1.out).cell 3; have df3 : (w1).frozen? ⟨d, 3, none⟩ = false := (HB1.out).free 3; have dc4 : (w1).cell? ⟨d, 4, none⟩ = some (.int .u64 x.g) := (HB1.out).cell 4; have df4 : (w1).frozen? ⟨d, 4, none⟩ = false := (HB1.out).free 4; have dc5 : (w1).cell? ⟨d, 5, none⟩ = some (.int .i64 x.i) := (HB1.out).cell 5; have df5 : (w1).frozen? ⟨d, 5, none⟩ = false := (HB1.out).free 5; have dc6 : (w1).cell? ⟨d, 6, none⟩ = some (.int .i64 x.to) := (HB1.out).cell 6; have df6 : (w1).frozen? ⟨d, 6, none⟩ = false := (HB1.out).free 6; have dc7 : (w1).cell? ⟨d, 7, none⟩ = some (.int .i64 x.how) := (HB1.out).cell 7; have df7 : (w1).frozen? ⟨d, 7, none⟩ = false := (HB1.out).free 7; have dc8 : (w1).cell? ⟨d, 8, none⟩ = some (.int .u64 s.snap) := (HB1.out).cell 8; have df8 : (w1).frozen? ⟨d, 8, none⟩ = false := (HB1.out).free 8; have dc9 : (w1).cell? ⟨d, 9, none⟩ = some (.int .u64 s.value) := (HB1.out).cell 9; have df9 : (w1).frozen? ⟨d, 9, none⟩ = false := (HB1.out).free 9; have dc10 : (w1).cell? ⟨d, 10, none⟩ = some (r.val) := (HB1.out).cell 10; have df10 : (w1).frozen? ⟨d, 10, none⟩ = false := (HB1.out).free 10; have dc11 : (w1).cell? ⟨d, 11, none⟩ = some (u.val) := (HB1.out).cell 11; have df11 : (w1).frozen? ⟨d, 11, none⟩ = false := (HB1.out).free 11; have dc12 : (w1).cell? ⟨d, 12, none⟩ = some (.bool s.live) := (HB1.out).cell 12; have df12 : (w1).frozen? ⟨d, 12, none⟩ = false := (HB1.out).free 12; have dc13 : (w1).cell? ⟨d, 13, none⟩ = some (.bool s.writing) := (HB1.out).cell 13; have df13 : (w1).frozen? ⟨d, 13, none⟩ = false := (HB1.out).free 13; have dc14 : (w1).cell? ⟨d, 14, none⟩ = some (.int .i64 s.ended) := (HB1.out).cell 14; have df14 : (w1).frozen? ⟨d, 14, none⟩ = false := (HB1.out).free 14; have dc15 : (w1).cell? ⟨d, 15, none⟩ = some (.int .i64 s.points) := (HB1.out).cell 15; have df15 : (w1).frozen? ⟨d, 15, none⟩ = false := (HB1.out).free 15
        rw [HXX.out.1] at dc2
        rw [HXX.out.2] at dc3
        go_wp2_with fail
        refine wp_region_held_drew (S := (fun w' : World => w'.cell? ⟨d, 2, none⟩ = some (.int .i64 a) ∧ w'.cell? ⟨d, 3, none⟩ = some (.int .u64 y) ∧ w'.cell? ⟨d, 8, none⟩ = some (.int .u64 s.snap) ∧ w'.cell? ⟨d, 15, none⟩ = some (.int .i64 s.points))) (by kernel_rfl) ⟨dc2, dc3, dc8, dc15⟩ (fun hHeld => ?_)
        refine wpAnyH_take (i := 0) (v := .bool true) rfl (by kernel_rfl) (by kernel_rfl) (by kernel_rfl) (fun _ _ _ h => h) (Or.inl ⟨by kernel_rfl, fun w hSw => by obtain ⟨q1, q2, q3, q4⟩ := hSw; go_simp⟩) (by assumption) ?_; simp only [Act.put, List.setIfInBounds_toArray]; refine wpAnyH_take (i := 1) (v := .bool true) rfl (by kernel_rfl) (by kernel_rfl) (by kernel_rfl) (fun _ _ _ h => h) (Or.inl ⟨by kernel_rfl, fun w hSw => by obtain ⟨q1, q2, q3, q4⟩ := hSw; go_simp⟩) (by assumption) ?_; simp only [Act.put, List.setIfInBounds_toArray]; refine wpAnyH_take (i := 2) (v := .int .u64 z) rfl (by kernel_rfl) (by kernel_rfl) (by kernel_rfl) (fun _ _ _ h => h) (Or.inl ⟨by kernel_rfl, fun w hSw => by obtain ⟨q1, q2, q3, q4⟩ := hSw; go_simp⟩) (by assumption) ?_; simp only [Act.put, List.setIfInBounds_toArray]; refine wpAnyH_take (i := 3) (v := .pointer (some ⟨d, 0, none⟩)) rfl (by kernel_rfl) (by kernel_rfl) (by kernel_rfl) (fun _ _ _ h => h) (Or.inl ⟨by kernel_rfl, fun w hSw => by obtain ⟨q1, q2, q3, q4⟩ := hSw; go_simp⟩) (by assumption) ?_; simp only [Act.put, List.setIfInBounds_toArray]; refine wpAnyH_take (i := 4) (v := .pointer (some ⟨d, 0, none⟩)) rfl (by kernel_rfl) (by kernel_rfl) (by kernel_rfl) (fun _ _ _ h => h) (Or.inl ⟨by kernel_rfl, fun w hSw => by obtain ⟨q1, q2, q3, q4⟩ := hSw; go_simp⟩) (by assumption) ?_; simp only [Act.put, List.setIfInBounds_toArray]; refine wpAnyH_take (i := 5) (v := .pointer (some ⟨d, 3, none⟩)) rfl (by kernel_rfl) (by kernel_rfl) (by kernel_rfl) (fun _ _ _ h => h) (Or.inl ⟨by kernel_rfl, fun w hSw => by obtain ⟨q1, q2, q3, q4⟩ := hSw; go_simp⟩) (by assumption) ?_; simp only [Act.put, List.setIfInBounds_toArray]; refine wpAnyH_take (i := 6) (v := .int .u64 y) rfl (by kernel_rfl) (by kernel_rfl) (by kernel_rfl) (fun _ _ _ h => h) (Or.inl ⟨by kernel_rfl, fun w hSw => by obtain ⟨q1, q2, q3, q4⟩ := hSw; go_simp⟩) (by assumption) ?_; simp only [Act.put, List.setIfInBounds_toArray]; refine wpAnyH_take (i := 7) (v := .bool false) rfl (by kernel_rfl) (by kernel_rfl) (by kernel_rfl) (fun _ _ _ h => h) (Or.inl ⟨by kernel_rfl, fun w hSw => by obtain ⟨q1, q2, q3, q4⟩ := hSw; go_simp⟩) (by assumption) ?_; simp only [Act.put, List.setIfInBounds_toArray]; refine wpAnyH_take (i := 8) (v := .bool false) rfl (by kernel_rfl) (by kernel_rfl) (by kernel_rfl) (fun _ _ _ h => h) (Or.inl ⟨by kernel_rfl, fun w hSw => by obtain ⟨q1, q2, q3, q4⟩ := hSw; go_simp⟩) (by assumption) ?_; simp only [Act.put, List.setIfInBounds_toArray]; refine wpAnyH_take (i := 9) (v := .bool false) rfl (by kernel_rfl) (by kernel_rfl) (by kernel_rfl) (fun _ _ _ h => h) (Or.inl ⟨by kernel_rfl, fun w hSw => by obtain ⟨q1, q2, q3, q4⟩ := hSw; go_simp⟩) (by assumption) ?_; simp only [Act.put, List.setIfInBounds_toArray]; refine wpAnyH_take (i := 10) (v := .pointer (some ⟨d, 0, none⟩)) rfl (by kernel_rfl) (by kernel_rfl) (by kernel_rfl) (fun _ _ _ h => h) (Or.inl ⟨by kernel_rfl, fun w hSw => by obtain ⟨q1, q2, q3, q4⟩ := hSw; go_simp⟩) (by assumption) ?_; simp only [Act.put, List.setIfInBounds_toArray]; refine wpAnyH_take (i := 11) (v := .pointer (some ⟨d, 0, none⟩)) rfl (by kernel_rfl) (by kernel_rfl) (by kernel_rfl) (fun _ _ _ h => h) (Or.inl ⟨by kernel_rfl, fun w hSw => by obtain ⟨q1, q2, q3, q4⟩ := hSw; go_simp⟩) (by assumption) ?_; simp only [Act.put, List.setIfInBounds_toArray]; refine wpAnyH_take (i := 12) (v := .pointer (some ⟨d, 10, none⟩)) rfl (by kernel_rfl) (by kernel_rfl) (by kernel_rfl) (fun _ _ _ h => h) (Or.inl ⟨by kernel_rfl, fun w hSw => by obtain ⟨q1, q2, q3, q4⟩ := hSw; go_simp⟩) (by assumption) ?_; simp only [Act.put, List.setIfInBounds_toArray]; refine wpAnyH_take (i := 13) (v := .pointer (some ⟨d, 0, none⟩)) rfl (by kernel_rfl) (by kernel_rfl) (by kernel_rfl) (fun _ _ _ h => h) (Or.inl ⟨by kernel_rfl, fun w hSw => by obtain ⟨q1, q2, q3, q4⟩ := hSw; go_simp⟩) (by assumption) ?_; simp only [Act.put, List.setIfInBounds_toArray]; refine wpAnyH_take (i := 14) (v := .pointer (some ⟨d, 0, none⟩)) rfl (by kernel_rfl) (by kernel_rfl) (by kernel_rfl) (fun _ _ _ h => h) (Or.inl ⟨by kernel_rfl, fun w hSw => by obtain ⟨q1, q2, q3, q4⟩ := hSw; go_simp⟩) (by assumption) ?_; simp only [Act.put, List.setIfInBounds_toArray]; refine wpAnyH_take (i := 15) (v := .pointer (some ⟨d, 2, none⟩)) rfl (by kernel_rfl) (by kernel_rfl) (by kernel_rfl) (fun _ _ _ h => h) (Or.inl ⟨by kernel_rfl, fun w hSw => by obtain ⟨q1, q2, q3, q4⟩ := hSw; go_simp⟩) (by assumption) ?_; simp only [Act.put, List.setIfInBounds_toArray]; refine wpAnyH_take (i := 16) (v := .int .i64 a) rfl (by kernel_rfl) (by kernel_rfl) (by kernel_rfl) (fun _ _ _ h => h) (Or.inl ⟨by kernel_rfl, fun w hSw => by obtain ⟨q1, q2, q3, q4⟩ := hSw; go_simp⟩) (by assumption) ?_; simp only [Act.put, List.setIfInBounds_toArray]; refine wpAnyH_take (i := 17) (v := .pointer (some ⟨d, 0, none⟩)) rfl (by kernel_rfl) (by kernel_rfl) (by kernel_rfl) (fun _ _ _ h => h) (Or.inl ⟨by kernel_rfl, fun w hSw => by obtain ⟨q1, q2, q3, q4⟩ := hSw; go_simp⟩) (by assumption) ?_; simp only [Act.put, List.setIfInBounds_toArray]; refine wpAnyH_take (i := 18) (v := .pointer (some ⟨d, 0, none⟩)) rfl (by kernel_rfl) (by kernel_rfl) (by kernel_rfl) (fun _ _ _ h => h) (Or.inl ⟨by kernel_rfl, fun w hSw => by obtain ⟨q1, q2, q3, q4⟩ := hSw; go_simp⟩) (by assumption) ?_; simp only [Act.put, List.setIfInBounds_toArray]; refine wpAnyH_take (i := 19) (v := .pointer (some ⟨d, 3, none⟩)) rfl (by kernel_rfl) (by kernel_rfl) (by kernel_rfl) (fun _ _ _ h => h) (Or.inl ⟨by kernel_rfl, fun w hSw => by obtain ⟨q1, q2, q3, q4⟩ := hSw; go_simp⟩) (by assumption) ?_; simp only [Act.put, List.setIfInBounds_toArray]; refine wpAnyH_take (i := 20) (v := .int .u64 y) rfl (by kernel_rfl) (by kernel_rfl) (by kernel_rfl) (fun _ _ _ h => h) (Or.inl ⟨by kernel_rfl, fun w hSw => by obtain ⟨q1, q2, q3, q4⟩ := hSw; go_simp⟩) (by assumption) ?_; simp only [Act.put, List.setIfInBounds_toArray]
        refine wpAnyH_ready (rs := [21]) (by kernel_rfl) (by simp) ?_; refine AllReadyH.cons rfl (fun K hK => ?_) AllReadyH.nil
        go_simp
        refine (HRd.out _ (HC1.out.trans (Chg.drew (Chg.refl [] w1)))).mono ?_
        rintro e w2 ⟨rfl, ⟨rv, uv, hq⟩, hC⟩
        rw [HER.out]
        dsimp only
        obtain ⟨r', u', e1, e2, hb2, hF2, hG2⟩ := hq.parts
        have HB2 := Lib.hid hb2
        have HP2 := Lib.hid (And.intro e1 (And.intro e2 (And.intro hF2 hG2)))
        have HC2 := Lib.hid (((HC1.out.mono (T := [d]) (by simp)).trans (Chg.drew (Chg.refl [d] w1))).trans hC)
        clear e1 e2 hb2 hF2 hG2 hq hC hHeld
        clear dc0 df0 dc1 df1 dc2 df2 dc3 df3 dc4 df4 dc5 df5 dc6 df6 dc7 df7 dc8 df8 dc9 df9 dc10 df10 dc11 df11 dc12 df12 dc13 df13 dc14 df14 dc15 df15
        refine hK.out _ _ ⟨(HB2.out.cell 2).trans (by rw [← HXX.out.1]; rfl), (HB2.out.cell 3).trans (by rw [← HXX.out.2]; rfl), HB2.out.cell 8, HB2.out.cell 15⟩ (fun hHeld => ?_)
        clear hK K
        refine wpAnyH_take (i := 22) (v := .bool false) rfl (by kernel_rfl) (by kernel_rfl) (by kernel_rfl) (fun _ _ _ h => h) (Or.inl ⟨by kernel_rfl, fun w hSw => by obtain ⟨q1, q2, q3, q4⟩ := hSw; go_simp⟩) (by assumption) ?_; simp only [Act.put, List.setIfInBounds_toArray]; refine wpAnyH_take (i := 23) (v := .bool false) rfl (by kernel_rfl) (by kernel_rfl) (by kernel_rfl) (fun _ _ _ h => h) (Or.inl ⟨by kernel_rfl, fun w hSw => by obtain ⟨q1, q2, q3, q4⟩ := hSw; go_simp⟩) (by assumption) ?_; simp only [Act.put, List.setIfInBounds_toArray]
        refine wpAnyH_done (by kernel_rfl) ?_ _
        clear hHeld
        have dc0 : (w2).cell? ⟨d, 0, none⟩ = some (.int .i64 x.at_) := (HB2.out).cell 0; have df0 : (w2).frozen? ⟨d, 0, none⟩ = false := (HB2.out).free 0; have dc1 : (w2).cell? ⟨d, 1, none⟩ = some (.int .u64 x.n) := (HB2.out).cell 1; have df1 : (w2).frozen? ⟨d, 1, none⟩ = false := (HB2.out).free 1; have dc2 : (w2).cell? ⟨d, 2, none⟩ = some (.int .i64 x.a) := (HB2.out).cell 2; have df2 : (w2).frozen? ⟨d, 2, none⟩ = false := (HB2.out).free 2; have dc3 : (w2).cell? ⟨d, 3, none⟩ = some (.int .u64 x.v) := (HB2.out).cell 3; have df3 : (w2).frozen? ⟨d, 3, none⟩ = false := (HB2.out).free 3; have dc4 : (w2).cell? ⟨d, 4, none⟩ = some (.int .u64 x.g) := (HB2.out).cell 4; have df4 : (w2).frozen? ⟨d, 4, none⟩ = false := (HB2.out).free 4; have dc5 : (w2).cell? ⟨d, 5, none⟩ = some (.int .i64 x.i) := (HB2.out).cell 5; have df5 : (w2).frozen? ⟨d, 5, none⟩ = false := (HB2.out).free 5; have dc6 : (w2).cell? ⟨d, 6, none⟩ = some (.int .i64 x.to) := (HB2.out).cell 6; have df6 : (w2).frozen? ⟨d, 6, none⟩ = false := (HB2.out).free 6; have dc7 : (w2).cell? ⟨d, 7, none⟩ = some (.int .i64 x.how) := (HB2.out).cell 7; have df7 : (w2).frozen? ⟨d, 7, none⟩ = false := (HB2.out).free 7; have dc8 : (w2).cell? ⟨d, 8, none⟩ = some (.int .u64 s.snap) := (HB2.out).cell 8; have df8 : (w2).frozen? ⟨d, 8, none⟩ = false := (HB2.out).free 8; have dc9 : (w2).cell? ⟨d, 9, none⟩ = some (.int .u64 s.value) := (HB2.out).cell 9; have df9 : (w2).frozen? ⟨d, 9, none⟩ = false := (HB2.out).free 9; have dc10 : (w2).cell? ⟨d, 10, none⟩ = some (r'.val) := (HB2.out).cell 10; have df10 : (w2).frozen? ⟨d, 10, none⟩ = false := (HB2.out).free 10; have dc11 : (w2).cell? ⟨d, 11, none⟩ = some (u'.val) := (HB2.out).cell 11; have df11 : (w2).frozen? ⟨d, 11, none⟩ = false := (HB2.out).free 11; have dc12 : (w2).cell? ⟨d, 12, none⟩ = some (.bool s.live) := (HB2.out).cell 12; have df12 : (w2).frozen? ⟨d, 12, none⟩ = false := (HB2.out).free 12; have dc13 : (w2).cell? ⟨d, 13, none⟩ = some (.bool s.writing) := (HB2.out).cell 13; have df13 : (w2).frozen? ⟨d, 13, none⟩ = false := (HB2.out).free 13; have dc14 : (w2).cell? ⟨d, 14, none⟩ = some (.int .i64 s.ended) := (HB2.out).cell 14; have df14 : (w2).frozen? ⟨d, 14, none⟩ = false := (HB2.out).free 14; have dc15 : (w2).cell? ⟨d, 15, none⟩ = some (.int .i64 s.points) := (HB2.out).cell 15; have df15 : (w2).frozen? ⟨d, 15, none⟩ = false := (HB2.out).free 15
        rw [HXX.out.1] at dc2
        rw [HXX.out.2] at dc3
        go_wp2_with fail
        go_end0
        refine ⟨rfl, ?_⟩
        rw [HLd.out, HE.out, HER.out, if_neg (by decide)]
        obtain ⟨e1, e2, hF2, hG2⟩ := HP2.out
        have := DAt.mk' (w := w2) (s' := { s with R := rdL s.R a y, value := y, points := wrap64 (s.points + 1), ph := .idle }) { x with at_ := 0 } e1 e2 hF2 hG2 HK.out.2.2.2.2 (by repeat (first | with_reducible exact Chg.refl _ _ | with_reducible refine Chg.setCell ?_ (by simp) _ | with_reducible refine Chg.drew ?_)) (((HB2.out.set 9 _).set 15 _).set 0 _) rfl
        exact ⟨this.1, HC2.out.trans this.2⟩
      · have HER := Lib.hid h0
        clear h0
        go_enter Try.func83, Try.ntmps83
        go_wp2_with fail
        go_quiet ((go_at_call 80; exact HV.out _))
        obtain ⟨w1, hw1⟩ : ∃ w1, w1 = w.drewN nq := ⟨_, rfl⟩
        rw [← hw1]
        have hC1 : Chg [] w w1 := hw1 ▸ (Chg.refl [] w).drewN nq
        have HC1 := Lib.hid hC1
        have HB1 := Lib.hid (hC1.blk HB.out (by simp))
        clear hw1 hC1
        clear dc0 df0 dc1 df1 dc2 df2 dc3 df3 dc4 df4 dc5 df5 dc6 df6 dc7 df7 dc8 df8 dc9 df9 dc10 df10 dc11 df11 dc12 df12 dc13 df13 dc14 df14 dc15 df15
        have dc0 : (w1).cell? ⟨d, 0, none⟩ = some (.int .i64 x.at_) := (HB1.out).cell 0; have df0 : (w1).frozen? ⟨d, 0, none⟩ = false := (HB1.out).free 0; have dc1 : (w1).cell? ⟨d, 1, none⟩ = some (.int .u64 x.n) := (HB1.out).cell 1; have df1 : (w1).frozen? ⟨d, 1, none⟩ = false := (HB1.out).free 1; have dc2 : (w1).cell? ⟨d, 2, none⟩ = some (.int .i64 x.a) := (HB1.out).cell 2; have df2 : (w1).frozen? ⟨d, 2, none⟩ = false := (HB1.out).free 2; have dc3 : (w1).cell? ⟨d, 3, none⟩ = some (.int .u64 x.v) := (HB1.out).cell 3; have df3 : (w1).frozen? ⟨d, 3, none⟩ = false := (HB1.out).free 3; have dc4 : (w1).cell? ⟨d, 4, none⟩ = some (.int .u64 x.g) := (HB1.out).cell 4; have df4 : (w1).frozen? ⟨d, 4, none⟩ = false := (HB1.out).free 4; have dc5 : (w1).cell? ⟨d, 5, none⟩ = some (.int .i64 x.i) := (HB1.out).cell 5; have df5 : (w1).frozen? ⟨d, 5, none⟩ = false := (HB1.out).free 5; have dc6 : (w1).cell? ⟨d, 6, none⟩ = some (.int .i64 x.to) := (HB1.out).cell 6; have df6 : (w1).frozen? ⟨d, 6, none⟩ = false := (HB1.out).free 6; have dc7 : (w1).cell? ⟨d, 7, none⟩ = some (.int .i64 x.how) := (HB1.out).cell 7; have df7 : (w1).frozen? ⟨d, 7, none⟩ = false := (HB1.out).free 7; have dc8 : (w1).cell? ⟨d, 8, none⟩ = some (.int .u64 s.snap) := (HB1.out).cell 8; have df8 : (w1).frozen? ⟨d, 8, none⟩ = false := (HB1.out).free 8; have dc9 : (w1).cell? ⟨d, 9, none⟩ = some (.int .u64 s.value) := (HB1.out).cell 9; have df9 : (w1).frozen? ⟨d, 9, none⟩ = false := (HB1.out).free 9; have dc10 : (w1).cell? ⟨d, 10, none⟩ = some (r.val) := (HB1.out).cell 10; have df10 : (w1).frozen? ⟨d, 10, none⟩ = false := (HB1.out).free 10; have dc11 : (w1).cell? ⟨d, 11, none⟩ = some (u.val) := (HB1.out).cell 11; have df11 : (w1).frozen? ⟨d, 11, none⟩ = false := (HB1.out).free 11; have dc12 : (w1).cell? ⟨d, 12, none⟩ = some (.bool s.live) := (HB1.out).cell 12; have df12 : (w1).frozen? ⟨d, 12, none⟩ = false := (HB1.out).free 12; have dc13 : (w1).cell? ⟨d, 13, none⟩ = some (.bool s.writing) := (HB1.out).cell 13; have df13 : (w1).frozen? ⟨d, 13, none⟩ = false := (HB1.out).free 13; have dc14 : (w1).cell? ⟨d, 14, none⟩ = some (.int .i64 s.ended) := (HB1.out).cell 14; have df14 : (w1).frozen? ⟨d, 14, none⟩ = false := (HB1.out).free 14; have dc15 : (w1).cell? ⟨d, 15, none⟩ = some (.int .i64 s.points) := (HB1.out).cell 15; have df15 : (w1).frozen? ⟨d, 15, none⟩ = false := (HB1.out).free 15
        rw [HXX.out.1] at dc2
        rw [HXX.out.2] at dc3
        go_wp2_with fail
        refine wp_region_held_drew (S := (fun w' : World => w'.cell? ⟨d, 2, none⟩ = some (.int .i64 a) ∧ w'.cell? ⟨d, 3, none⟩ = some (.int .u64 y) ∧ w'.cell? ⟨d, 8, none⟩ = some (.int .u64 s.snap) ∧ w'.cell? ⟨d, 15, none⟩ = some (.int .i64 s.points))) (by kernel_rfl) ⟨dc2, dc3, dc8, dc15⟩ (fun hHeld => ?_)
        refine wpAnyH_take (i := 0) (v := .bool true) rfl (by kernel_rfl) (by kernel_rfl) (by kernel_rfl) (fun _ _ _ h => h) (Or.inl ⟨by kernel_rfl, fun w hSw => by obtain ⟨q1, q2, q3, q4⟩ := hSw; go_simp⟩) (by assumption) ?_; simp only [Act.put, List.setIfInBounds_toArray]; refine wpAnyH_take (i := 1) (v := .bool true) rfl (by kernel_rfl) (by kernel_rfl) (by kernel_rfl) (fun _ _ _ h => h) (Or.inl ⟨by kernel_rfl, fun w hSw => by obtain ⟨q1, q2, q3, q4⟩ := hSw; go_simp⟩) (by assumption) ?_; simp only [Act.put, List.setIfInBounds_toArray]; refine wpAnyH_take (i := 2) (v := .int .u64 z) rfl (by kernel_rfl) (by kernel_rfl) (by kernel_rfl) (fun _ _ _ h => h) (Or.inl ⟨by kernel_rfl, fun w hSw => by obtain ⟨q1, q2, q3, q4⟩ := hSw; go_simp⟩) (by assumption) ?_; simp only [Act.put, List.setIfInBounds_toArray]; refine wpAnyH_take (i := 3) (v := .pointer (some ⟨d, 0, none⟩)) rfl (by kernel_rfl) (by kernel_rfl) (by kernel_rfl) (fun _ _ _ h => h) (Or.inl ⟨by kernel_rfl, fun w hSw => by obtain ⟨q1, q2, q3, q4⟩ := hSw; go_simp⟩) (by assumption) ?_; simp only [Act.put, List.setIfInBounds_toArray]; refine wpAnyH_take (i := 4) (v := .pointer (some ⟨d, 0, none⟩)) rfl (by kernel_rfl) (by kernel_rfl) (by kernel_rfl) (fun _ _ _ h => h) (Or.inl ⟨by kernel_rfl, fun w hSw => by obtain ⟨q1, q2, q3, q4⟩ := hSw; go_simp⟩) (by assumption) ?_; simp only [Act.put, List.setIfInBounds_toArray]; refine wpAnyH_take (i := 5) (v := .pointer (some ⟨d, 3, none⟩)) rfl (by kernel_rfl) (by kernel_rfl) (by kernel_rfl) (fun _ _ _ h => h) (Or.inl ⟨by kernel_rfl, fun w hSw => by obtain ⟨q1, q2, q3, q4⟩ := hSw; go_simp⟩) (by assumption) ?_; simp only [Act.put, List.setIfInBounds_toArray]; refine wpAnyH_take (i := 6) (v := .int .u64 y) rfl (by kernel_rfl) (by kernel_rfl) (by kernel_rfl) (fun _ _ _ h => h) (Or.inl ⟨by kernel_rfl, fun w hSw => by obtain ⟨q1, q2, q3, q4⟩ := hSw; go_simp⟩) (by assumption) ?_; simp only [Act.put, List.setIfInBounds_toArray]; refine wpAnyH_take (i := 7) (v := .bool false) rfl (by kernel_rfl) (by kernel_rfl) (by kernel_rfl) (fun _ _ _ h => h) (Or.inl ⟨by kernel_rfl, fun w hSw => by obtain ⟨q1, q2, q3, q4⟩ := hSw; go_simp⟩) (by assumption) ?_; simp only [Act.put, List.setIfInBounds_toArray]; refine wpAnyH_take (i := 8) (v := .bool false) rfl (by kernel_rfl) (by kernel_rfl) (by kernel_rfl) (fun _ _ _ h => h) (Or.inl ⟨by kernel_rfl, fun w hSw => by obtain ⟨q1, q2, q3, q4⟩ := hSw; go_simp⟩) (by assumption) ?_; simp only [Act.put, List.setIfInBounds_toArray]; refine wpAnyH_take (i := 9) (v := .bool false) rfl (by kernel_rfl) (by kernel_rfl) (by kernel_rfl) (fun _ _ _ h => h) (Or.inl ⟨by kernel_rfl, fun w hSw => by obtain ⟨q1, q2, q3, q4⟩ := hSw; go_simp⟩) (by assumption) ?_; simp only [Act.put, List.setIfInBounds_toArray]; refine wpAnyH_take (i := 10) (v := .pointer (some ⟨d, 0, none⟩)) rfl (by kernel_rfl) (by kernel_rfl) (by kernel_rfl) (fun _ _ _ h => h) (Or.inl ⟨by kernel_rfl, fun w hSw => by obtain ⟨q1, q2, q3, q4⟩ := hSw; go_simp⟩) (by assumption) ?_; simp only [Act.put, List.setIfInBounds_toArray]; refine wpAnyH_take (i := 11) (v := .pointer (some ⟨d, 0, none⟩)) rfl (by kernel_rfl) (by kernel_rfl) (by kernel_rfl) (fun _ _ _ h => h) (Or.inl ⟨by kernel_rfl, fun w hSw => by obtain ⟨q1, q2, q3, q4⟩ := hSw; go_simp⟩) (by assumption) ?_; simp only [Act.put, List.setIfInBounds_toArray]; refine wpAnyH_take (i := 12) (v := .pointer (some ⟨d, 10, none⟩)) rfl (by kernel_rfl) (by kernel_rfl) (by kernel_rfl) (fun _ _ _ h => h) (Or.inl ⟨by kernel_rfl, fun w hSw => by obtain ⟨q1, q2, q3, q4⟩ := hSw; go_simp⟩) (by assumption) ?_; simp only [Act.put, List.setIfInBounds_toArray]; refine wpAnyH_take (i := 13) (v := .pointer (some ⟨d, 0, none⟩)) rfl (by kernel_rfl) (by kernel_rfl) (by kernel_rfl) (fun _ _ _ h => h) (Or.inl ⟨by kernel_rfl, fun w hSw => by obtain ⟨q1, q2, q3, q4⟩ := hSw; go_simp⟩) (by assumption) ?_; simp only [Act.put, List.setIfInBounds_toArray]; refine wpAnyH_take (i := 14) (v := .pointer (some ⟨d, 0, none⟩)) rfl (by kernel_rfl) (by kernel_rfl) (by kernel_rfl) (fun _ _ _ h => h) (Or.inl ⟨by kernel_rfl, fun w hSw => by obtain ⟨q1, q2, q3, q4⟩ := hSw; go_simp⟩) (by assumption) ?_; simp only [Act.put, List.setIfInBounds_toArray]; refine wpAnyH_take (i := 15) (v := .pointer (some ⟨d, 2, none⟩)) rfl (by kernel_rfl) (by kernel_rfl) (by kernel_rfl) (fun _ _ _ h => h) (Or.inl ⟨by kernel_rfl, fun w hSw => by obtain ⟨q1, q2, q3, q4⟩ := hSw; go_simp⟩) (by assumption) ?_; simp only [Act.put, List.setIfInBounds_toArray]; refine wpAnyH_take (i := 16) (v := .int .i64 a) rfl (by kernel_rfl) (by kernel_rfl) (by kernel_rfl) (fun _ _ _ h => h) (Or.inl ⟨by kernel_rfl, fun w hSw => by obtain ⟨q1, q2, q3, q4⟩ := hSw; go_simp⟩) (by assumption) ?_; simp only [Act.put, List.setIfInBounds_toArray]; refine wpAnyH_take (i := 17) (v := .pointer (some ⟨d, 0, none⟩)) rfl (by kernel_rfl) (by kernel_rfl) (by kernel_rfl) (fun _ _ _ h => h) (Or.inl ⟨by kernel_rfl, fun w hSw => by obtain ⟨q1, q2, q3, q4⟩ := hSw; go_simp⟩) (by assumption) ?_; simp only [Act.put, List.setIfInBounds_toArray]; refine wpAnyH_take (i := 18) (v := .pointer (some ⟨d, 0, none⟩)) rfl (by kernel_rfl) (by kernel_rfl) (by kernel_rfl) (fun _ _ _ h => h) (Or.inl ⟨by kernel_rfl, fun w hSw => by obtain ⟨q1, q2, q3, q4⟩ := hSw; go_simp⟩) (by assumption) ?_; simp only [Act.put, List.setIfInBounds_toArray]; refine wpAnyH_take (i := 19) (v := .pointer (some ⟨d, 3, none⟩)) rfl (by kernel_rfl) (by kernel_rfl) (by kernel_rfl) (fun _ _ _ h => h) (Or.inl ⟨by kernel_rfl, fun w hSw => by obtain ⟨q1, q2, q3, q4⟩ := hSw; go_simp⟩) (by assumption) ?_; simp only [Act.put, List.setIfInBounds_toArray]; refine wpAnyH_take (i := 20) (v := .int .u64 y) rfl (by kernel_rfl) (by kernel_rfl) (by kernel_rfl) (fun _ _ _ h => h) (Or.inl ⟨by kernel_rfl, fun w hSw => by obtain ⟨q1, q2, q3, q4⟩ := hSw; go_simp⟩) (by assumption) ?_; simp only [Act.put, List.setIfInBounds_toArray]
        refine wpAnyH_ready (rs := [21]) (by kernel_rfl) (by simp) ?_; refine AllReadyH.cons rfl (fun K hK => ?_) AllReadyH.nil
        go_simp
        refine (HRd.out _ (HC1.out.trans (Chg.drew (Chg.refl [] w1)))).mono ?_
        rintro e w2 ⟨rfl, ⟨rv, uv, hq⟩, hC⟩
        rw [HER.out]
        dsimp only
        obtain ⟨r', u', e1, e2, hb2, hF2, hG2⟩ := hq.parts
        have HB2 := Lib.hid hb2
        have HP2 := Lib.hid (And.intro e1 (And.intro e2 (And.intro hF2 hG2)))
        have HC2 := Lib.hid (((HC1.out.mono (T := [d]) (by simp)).trans (Chg.drew (Chg.refl [d] w1))).trans hC)
        clear e1 e2 hb2 hF2 hG2 hq hC hHeld
        clear dc0 df0 dc1 df1 dc2 df2 dc3 df3 dc4 df4 dc5 df5 dc6 df6 dc7 df7 dc8 df8 dc9 df9 dc10 df10 dc11 df11 dc12 df12 dc13 df13 dc14 df14 dc15 df15
        refine hK.out _ _ ⟨(HB2.out.cell 2).trans (by rw [← HXX.out.1]; rfl), (HB2.out.cell 3).trans (by rw [← HXX.out.2]; rfl), HB2.out.cell 8, HB2.out.cell 15⟩ (fun hHeld => ?_)
        clear hK K
        refine wpAnyH_take (i := 22) (v := .bool true) rfl (by kernel_rfl) (by kernel_rfl) (by kernel_rfl) (fun _ _ _ h => h) (Or.inl ⟨by kernel_rfl, fun w hSw => by obtain ⟨q1, q2, q3, q4⟩ := hSw; go_simp⟩) (by assumption) ?_; simp only [Act.put, List.setIfInBounds_toArray]; refine wpAnyH_take (i := 23) (v := .bool true) rfl (by kernel_rfl) (by kernel_rfl) (by kernel_rfl) (fun _ _ _ h => h) (Or.inl ⟨by kernel_rfl, fun w hSw => by obtain ⟨q1, q2, q3, q4⟩ := hSw; go_simp⟩) (by assumption) ?_; simp only [Act.put, List.setIfInBounds_toArray]
        refine wpAnyH_done (by kernel_rfl) ?_ _
        clear hHeld
        have dc0 : (w2).cell? ⟨d, 0, none⟩ = some (.int .i64 x.at_) := (HB2.out).cell 0; have df0 : (w2).frozen? ⟨d, 0, none⟩ = false := (HB2.out).free 0; have dc1 : (w2).cell? ⟨d, 1, none⟩ = some (.int .u64 x.n) := (HB2.out).cell 1; have df1 : (w2).frozen? ⟨d, 1, none⟩ = false := (HB2.out).free 1; have dc2 : (w2).cell? ⟨d, 2, none⟩ = some (.int .i64 x.a) := (HB2.out).cell 2; have df2 : (w2).frozen? ⟨d, 2, none⟩ = false := (HB2.out).free 2; have dc3 : (w2).cell? ⟨d, 3, none⟩ = some (.int .u64 x.v) := (HB2.out).cell 3; have df3 : (w2).frozen? ⟨d, 3, none⟩ = false := (HB2.out).free 3; have dc4 : (w2).cell? ⟨d, 4, none⟩ = some (.int .u64 x.g) := (HB2.out).cell 4; have df4 : (w2).frozen? ⟨d, 4, none⟩ = false := (HB2.out).free 4; have dc5 : (w2).cell? ⟨d, 5, none⟩ = some (.int .i64 x.i) := (HB2.out).cell 5; have df5 : (w2).frozen? ⟨d, 5, none⟩ = false := (HB2.out).free 5; have dc6 : (w2).cell? ⟨d, 6, none⟩ = some (.int .i64 x.to) := (HB2.out).cell 6; have df6 : (w2).frozen? ⟨d, 6, none⟩ = false := (HB2.out).free 6; have dc7 : (w2).cell? ⟨d, 7, none⟩ = some (.int .i64 x.how) := (HB2.out).cell 7; have df7 : (w2).frozen? ⟨d, 7, none⟩ = false := (HB2.out).free 7; have dc8 : (w2).cell? ⟨d, 8, none⟩ = some (.int .u64 s.snap) := (HB2.out).cell 8; have df8 : (w2).frozen? ⟨d, 8, none⟩ = false := (HB2.out).free 8; have dc9 : (w2).cell? ⟨d, 9, none⟩ = some (.int .u64 s.value) := (HB2.out).cell 9; have df9 : (w2).frozen? ⟨d, 9, none⟩ = false := (HB2.out).free 9; have dc10 : (w2).cell? ⟨d, 10, none⟩ = some (r'.val) := (HB2.out).cell 10; have df10 : (w2).frozen? ⟨d, 10, none⟩ = false := (HB2.out).free 10; have dc11 : (w2).cell? ⟨d, 11, none⟩ = some (u'.val) := (HB2.out).cell 11; have df11 : (w2).frozen? ⟨d, 11, none⟩ = false := (HB2.out).free 11; have dc12 : (w2).cell? ⟨d, 12, none⟩ = some (.bool s.live) := (HB2.out).cell 12; have df12 : (w2).frozen? ⟨d, 12, none⟩ = false := (HB2.out).free 12; have dc13 : (w2).cell? ⟨d, 13, none⟩ = some (.bool s.writing) := (HB2.out).cell 13; have df13 : (w2).frozen? ⟨d, 13, none⟩ = false := (HB2.out).free 13; have dc14 : (w2).cell? ⟨d, 14, none⟩ = some (.int .i64 s.ended) := (HB2.out).cell 14; have df14 : (w2).frozen? ⟨d, 14, none⟩ = false := (HB2.out).free 14; have dc15 : (w2).cell? ⟨d, 15, none⟩ = some (.int .i64 s.points) := (HB2.out).cell 15; have df15 : (w2).frozen? ⟨d, 15, none⟩ = false := (HB2.out).free 15
        rw [HXX.out.1] at dc2
        rw [HXX.out.2] at dc3
        go_wp2_with fail
        refine (dleave_any w2 d x s _ _ 2 HB2.out).mono ?_
        rintro e w3 ⟨rfl, hb3, hC3⟩
        have HB3 := Lib.hid hb3
        have HC3 := Lib.hid hC3
        clear hb3 hC3
        go_wp2_with fail
        refine bodyPost_ret (results_none rfl _ _ _) rfl ?_
        refine ⟨rfl, ?_⟩
        rw [HLd.out, HE.out, HER.out, if_pos (by decide)]
        obtain ⟨e1, e2, hF2, hG2⟩ := HP2.out
        have := DAt.mk' (s' := { s with R := rdL s.R a y, ph := .leaveN 2 }) { x with how := 2, at_ := 12 } e1 e2 hF2 hG2 HK.out.2.2.2.2 HC3.out HB3.out ⟨rfl, rfl⟩
        exact ⟨this.1, HC2.out.trans this.2⟩

/-- A commit's first step was answered. -/
theorem dtaken_any (w : World) (N : List Nat) (d : Nat) (x : DX) (s : PS) (r u : SlP) (ok : Bool) (h1 : r.l = s.R) (h2 : u.l = s.W) (hF : FzP w N r) (hG : FzP w N u) (hd : d ∈ N) (hb : Blk w d (dcells x s r.val u.val) 60) :
    Calls Try.prog 85 #[.pointer (some ⟨d, 0, none⟩), .bool ok] w fun e w' => e = .returned (.tuple #[]) ∧ DAt w' N d (if ok then { s with points := wrap64 (s.points + 1), writing := true, ph := .back 0 } else { s with ph := .checkSeq .take }) ∧ Chg [d] w w' := by
  have HB := Lib.hid hb
  have HK := Lib.hid (And.intro h1 (And.intro h2 (And.intro hF (And.intro hG hd))))
  have dc0 : (w).cell? ⟨d, 0, none⟩ = some (.int .i64 x.at_) := (hb).cell 0; have df0 : (w).frozen? ⟨d, 0, none⟩ = false := (hb).free 0; have dc1 : (w).cell? ⟨d, 1, none⟩ = some (.int .u64 x.n) := (hb).cell 1; have df1 : (w).frozen? ⟨d, 1, none⟩ = false := (hb).free 1; have dc2 : (w).cell? ⟨d, 2, none⟩ = some (.int .i64 x.a) := (hb).cell 2; have df2 : (w).frozen? ⟨d, 2, none⟩ = false := (hb).free 2; have dc3 : (w).cell? ⟨d, 3, none⟩ = some (.int .u64 x.v) := (hb).cell 3; have df3 : (w).frozen? ⟨d, 3, none⟩ = false := (hb).free 3; have dc4 : (w).cell? ⟨d, 4, none⟩ = some (.int .u64 x.g) := (hb).cell 4; have df4 : (w).frozen? ⟨d, 4, none⟩ = false := (hb).free 4; have dc5 : (w).cell? ⟨d, 5, none⟩ = some (.int .i64 x.i) := (hb).cell 5; have df5 : (w).frozen? ⟨d, 5, none⟩ = false := (hb).free 5; have dc6 : (w).cell? ⟨d, 6, none⟩ = some (.int .i64 x.to) := (hb).cell 6; have df6 : (w).frozen? ⟨d, 6, none⟩ = false := (hb).free 6; have dc7 : (w).cell? ⟨d, 7, none⟩ = some (.int .i64 x.how) := (hb).cell 7; have df7 : (w).frozen? ⟨d, 7, none⟩ = false := (hb).free 7; have dc8 : (w).cell? ⟨d, 8, none⟩ = some (.int .u64 s.snap) := (hb).cell 8; have df8 : (w).frozen? ⟨d, 8, none⟩ = false := (hb).free 8; have dc9 : (w).cell? ⟨d, 9, none⟩ = some (.int .u64 s.value) := (hb).cell 9; have df9 : (w).frozen? ⟨d, 9, none⟩ = false := (hb).free 9; have dc10 : (w).cell? ⟨d, 10, none⟩ = some (r.val) := (hb).cell 10; have df10 : (w).frozen? ⟨d, 10, none⟩ = false := (hb).free 10; have dc11 : (w).cell? ⟨d, 11, none⟩ = some (u.val) := (hb).cell 11; have df11 : (w).frozen? ⟨d, 11, none⟩ = false := (hb).free 11; have dc12 : (w).cell? ⟨d, 12, none⟩ = some (.bool s.live) := (hb).cell 12; have df12 : (w).frozen? ⟨d, 12, none⟩ = false := (hb).free 12; have dc13 : (w).cell? ⟨d, 13, none⟩ = some (.bool s.writing) := (hb).cell 13; have df13 : (w).frozen? ⟨d, 13, none⟩ = false := (hb).free 13; have dc14 : (w).cell? ⟨d, 14, none⟩ = some (.int .i64 s.ended) := (hb).cell 14; have df14 : (w).frozen? ⟨d, 14, none⟩ = false := (hb).free 14; have dc15 : (w).cell? ⟨d, 15, none⟩ = some (.int .i64 s.points) := (hb).cell 15; have df15 : (w).frozen? ⟨d, 15, none⟩ = false := (hb).free 15
  clear h1 h2 hF hG hd hb
  cases ok with
  | false =>
    go_enter Try.func85, Try.ntmps85
    go_wp2_with fail
    refine bodyPost_ret (results_none rfl _ _ _) rfl ?_
    exact ⟨rfl, DAt.mk' { x with to := 9, at_ := 6 } HK.out.1 HK.out.2.1 HK.out.2.2.1 HK.out.2.2.2.1 HK.out.2.2.2.2 (by repeat (first | with_reducible exact Chg.refl _ _ | with_reducible refine Chg.setCell ?_ (by simp) _ | with_reducible refine Chg.drew ?_)) ((HB.out.set 6 _).set 0 _) ⟨rfl, rfl⟩⟩
  | true =>
    go_enter Try.func85, Try.ntmps85
    go_wp2_with fail
    go_end0
    exact ⟨rfl, DAt.mk' { x with i := 0, at_ := 10 } HK.out.1 HK.out.2.1 HK.out.2.2.1 HK.out.2.2.2.1 HK.out.2.2.2.2 (by repeat (first | with_reducible exact Chg.refl _ _ | with_reducible refine Chg.setCell ?_ (by simp) _ | with_reducible refine Chg.drew ?_)) ((((HB.out.set 15 _).set 13 _).set 5 _).set 0 _) ⟨rfl, rfl⟩⟩

end Go.Proofs.Ytilffolppnnkaaa
