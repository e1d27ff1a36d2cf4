/- A path of layer 8: Load, Store, and what it tells. -/
import Derived.Test.YtilffolppnnkaaaSoft13
namespace Go.Proofs.Ytilffolppnnkaaa
set_option maxRecDepth 100000
open Go.RowKit

def PS.err (s : PS) (a : Int) : Int := touchErr s.busy s.live a

theorem load_no (w : World) (p g : Nat) (r : Rq) (nx : Value) (a : Int) (bz lv wr : Bool) (sn vl en pt : Int) (h : Blk w p (pcells g r nx bz lv wr sn vl en pt) 69) (er : Int) (he : touchErr bz lv a = er) (hne : er = 80 ∨ er = 2) :
    Calls Try.prog 16 #[.pointer (some ⟨p, 0, none⟩), .int .i64 a] w fun e w' => e = .returned (.int .i64 er) ∧ w = w' := by
  have HR := Lib.hid (touches_any w p g r nx a bz lv wr sn vl en pt h)
  rw [he] at HR
  clear h he
  rcases hne with rfl | rfl
  · go_enter Try.func16, Try.ntmps16
    go_wp2_with fail
    refine HR.out.mono ?_
    rintro e w' ⟨rfl, rfl⟩
    go_wp2_with fail
    go_ret
    exact ⟨rfl, rfl⟩
  · go_enter Try.func16, Try.ntmps16
    go_wp2_with fail
    refine HR.out.mono ?_
    rintro e w' ⟨rfl, rfl⟩
    go_wp2_with fail
    go_ret
    exact ⟨rfl, rfl⟩

theorem load_own (w : World) (p g : Nat) (L : List Nat) (R W : PL) (r : Rq) (nx : Value) (a : Int) (wr : Bool) (sn vl en pt : Int) (ha : (Lit.int .i64 a).wf = true) (h8 : 8 ≤ a) (h : Blk w p (pcells g r nx false true wr sn vl en pt) 69) (hL : LogAt w g L R W) (u : Int) (hu : valOf W a = u) (hi : isIn W a = true) :
    Calls Try.prog 16 #[.pointer (some ⟨p, 0, none⟩), .int .i64 a] w fun e w' => e = .returned (.int .i64 0) ∧ ∃ w1, Chg [p] w w1 ∧ Blk w1 p (pcells g r nx false true wr sn u en pt) 69 ∧ w1 = w' := by
  have HR := Lib.hid (touches_any w p g r nx a false true wr sn vl en pt h)
  rw [show touchErr false true a = 0 from by unfold touchErr; simp; omega] at HR
  have HK := Lib.hid (Look_any w g L R W a ha hL)
  rw [hu, hi] at HK
  have HB := Lib.hid (h.set 10 (.int .u64 u))
  have pc0 : (w).cell? ⟨p, 0, none⟩ = some (.pointer (some ⟨g, 0, none⟩)) := (h).cell 0; have pf0 : (w).frozen? ⟨p, 0, none⟩ = false := (h).free 0; have pc1 : (w).cell? ⟨p, 1, none⟩ = some (.int .i64 r.op) := (h).cell 1; have pf1 : (w).frozen? ⟨p, 1, none⟩ = false := (h).free 1; have pc2 : (w).cell? ⟨p, 2, none⟩ = some (.int .i64 r.addr) := (h).cell 2; have pf2 : (w).frozen? ⟨p, 2, none⟩ = false := (h).free 2; have pc3 : (w).cell? ⟨p, 3, none⟩ = some (.int .u64 r.val) := (h).cell 3; have pf3 : (w).frozen? ⟨p, 3, none⟩ = false := (h).free 3; have pc4 : (w).cell? ⟨p, 4, none⟩ = some (.int .u64 r.old) := (h).cell 4; have pf4 : (w).frozen? ⟨p, 4, none⟩ = false := (h).free 4; have pc5 : (w).cell? ⟨p, 5, none⟩ = some (nx) := (h).cell 5; have pf5 : (w).frozen? ⟨p, 5, none⟩ = false := (h).free 5; have pc6 : (w).cell? ⟨p, 6, none⟩ = some (.bool false) := (h).cell 6; have pf6 : (w).frozen? ⟨p, 6, none⟩ = false := (h).free 6; have pc7 : (w).cell? ⟨p, 7, none⟩ = some (.bool true) := (h).cell 7; have pf7 : (w).frozen? ⟨p, 7, none⟩ = false := (h).free 7; have pc8 : (w).cell? ⟨p, 8, none⟩ = some (.bool wr) := (h).cell 8; have pf8 : (w).frozen? ⟨p, 8, none⟩ = false := (h).free 8; have pc9 : (w).cell? ⟨p, 9, none⟩ = some (.int .u64 sn) := (h).cell 9; have pf9 : (w).frozen? ⟨p, 9, none⟩ = false := (h).free 9; have pc10 : (w).cell? ⟨p, 10, none⟩ = some (.int .u64 vl) := (h).cell 10; have pf10 : (w).frozen? ⟨p, 10, none⟩ = false := (h).free 10; have pc11 : (w).cell? ⟨p, 11, none⟩ = some (.int .i64 en) := (h).cell 11; have pf11 : (w).frozen? ⟨p, 11, none⟩ = false := (h).free 11; have pc12 : (w).cell? ⟨p, 12, none⟩ = some (.int .i64 pt) := (h).cell 12; have pf12 : (w).frozen? ⟨p, 12, none⟩ = false := (h).free 12
  clear h hL hu hi
  go_enter Try.func16, Try.ntmps16
  go_wp2_with fail
  refine HR.out.mono ?_
  rintro e w' ⟨rfl, rfl⟩
  go_wp2_with fail
  refine HK.out.mono ?_
  rintro e w' ⟨rfl, rfl⟩
  go_wp2_with fail
  go_ret
  exact ⟨rfl, _, (Chg.refl _ _).setCell (by simp) _, HB.out, rfl⟩

theorem load_mem (w : World) (p g : Nat) (L : List Nat) (R W : PL) (r : Rq) (nx : Value) (a : Int) (wr : Bool) (sn vl en pt : Int) (ha : (Lit.int .i64 a).wf = true) (h8 : 8 ≤ a) (h : Blk w p (pcells g r nx false true wr sn vl en pt) 69) (hL : LogAt w g L R W) (u : Int) (hu : valOf W a = u) (hi : isIn W a = false) :
    Calls Try.prog 16 #[.pointer (some ⟨p, 0, none⟩), .int .i64 a] w fun e w' => e = .returned (.int .i64 0) ∧ ∃ w1, Chg [p] w w1 ∧ FetchPost w1 p g a true true wr sn vl en pt (.returned (.tuple #[])) w' := by
  have HR := Lib.hid (touches_any w p g r nx a false true wr sn vl en pt h)
  rw [show touchErr false true a = 0 from by unfold touchErr; simp; omega] at HR
  have HK := Lib.hid (Look_any w g L R W a ha hL)
  rw [hu, hi] at HK
  have HB := Lib.hid (h.set 6 (.bool true))
  have pc0 : (w).cell? ⟨p, 0, none⟩ = some (.pointer (some ⟨g, 0, none⟩)) := (h).cell 0; have pf0 : (w).frozen? ⟨p, 0, none⟩ = false := (h).free 0; have pc1 : (w).cell? ⟨p, 1, none⟩ = some (.int .i64 r.op) := (h).cell 1; have pf1 : (w).frozen? ⟨p, 1, none⟩ = false := (h).free 1; have pc2 : (w).cell? ⟨p, 2, none⟩ = some (.int .i64 r.addr) := (h).cell 2; have pf2 : (w).frozen? ⟨p, 2, none⟩ = false := (h).free 2; have pc3 : (w).cell? ⟨p, 3, none⟩ = some (.int .u64 r.val) := (h).cell 3; have pf3 : (w).frozen? ⟨p, 3, none⟩ = false := (h).free 3; have pc4 : (w).cell? ⟨p, 4, none⟩ = some (.int .u64 r.old) := (h).cell 4; have pf4 : (w).frozen? ⟨p, 4, none⟩ = false := (h).free 4; have pc5 : (w).cell? ⟨p, 5, none⟩ = some (nx) := (h).cell 5; have pf5 : (w).frozen? ⟨p, 5, none⟩ = false := (h).free 5; have pc6 : (w).cell? ⟨p, 6, none⟩ = some (.bool false) := (h).cell 6; have pf6 : (w).frozen? ⟨p, 6, none⟩ = false := (h).free 6; have pc7 : (w).cell? ⟨p, 7, none⟩ = some (.bool true) := (h).cell 7; have pf7 : (w).frozen? ⟨p, 7, none⟩ = false := (h).free 7; have pc8 : (w).cell? ⟨p, 8, none⟩ = some (.bool wr) := (h).cell 8; have pf8 : (w).frozen? ⟨p, 8, none⟩ = false := (h).free 8; have pc9 : (w).cell? ⟨p, 9, none⟩ = some (.int .u64 sn) := (h).cell 9; have pf9 : (w).frozen? ⟨p, 9, none⟩ = false := (h).free 9; have pc10 : (w).cell? ⟨p, 10, none⟩ = some (.int .u64 vl) := (h).cell 10; have pf10 : (w).frozen? ⟨p, 10, none⟩ = false := (h).free 10; have pc11 : (w).cell? ⟨p, 11, none⟩ = some (.int .i64 en) := (h).cell 11; have pf11 : (w).frozen? ⟨p, 11, none⟩ = false := (h).free 11; have pc12 : (w).cell? ⟨p, 12, none⟩ = some (.int .i64 pt) := (h).cell 12; have pf12 : (w).frozen? ⟨p, 12, none⟩ = false := (h).free 12
  clear h hL hu hi
  go_enter Try.func16, Try.ntmps16
  go_wp2_with fail
  refine HR.out.mono ?_
  rintro e w' ⟨rfl, rfl⟩
  go_wp2_with fail
  refine HK.out.mono ?_
  rintro e w' ⟨rfl, rfl⟩
  go_wp2_with fail
  refine (fetch_any _ p g r nx a true true wr sn vl en pt HB.out).mono ?_
  rintro e w' hq
  have HQ := Lib.hid hq
  obtain rfl := hq.1
  clear hq
  go_wp2_with fail
  go_ret
  exact ⟨rfl, _, (Chg.refl _ _).setCell (by simp) _, HQ.out⟩

theorem err_cases (s : PS) (a : Int) : (s.err a = 80 ∨ s.err a = 2) ∧ (s.ready && decide (8 ≤ a)) = false ∨ s.err a = 0 ∧ s.ready = true ∧ 8 ≤ a ∧ (s.ready && decide (8 ≤ a)) = true := by
  unfold PS.err touchErr PS.ready
  by_cases hc : (s.busy || !s.live) = true
  · rw [if_pos hc, hc]; exact .inl ⟨.inl rfl, rfl⟩
  · rw [if_neg hc]
    simp only [Bool.not_eq_true] at hc
    rw [hc]
    by_cases ha : a < 8
    · rw [if_pos ha]; exact .inl ⟨.inr rfl, by simp; omega⟩
    · rw [if_neg ha]; exact .inr ⟨rfl, rfl, by omega, by simp; omega⟩

theorem Load_any (w : World) (p : Nat) (F : List Nat) (s : PS) (a : Int) (ha : (Lit.int .i64 a).wf = true) (h : PathAt w p F s) :
    Calls Try.prog 16 #[.pointer (some ⟨p, 0, none⟩), .int .i64 a] w fun e w' => e = .returned (.int .i64 (s.err a)) ∧ GavePost w p F (s.load a) w' := by
  have hsame := h
  obtain ⟨g, L, E, nx, hi, hs, rfl⟩ := h
  unfold PS.load
  rcases err_cases s a with ⟨he, hc⟩ | ⟨he, hr, h8, hc⟩
  · rw [hc]
    refine (load_no w p g _ nx a _ _ _ _ _ _ _ hi.blk _ rfl he).mono ?_
    rintro e w' ⟨rfl, rfl⟩
    exact ⟨rfl, _, hsame, Mv.refl _ _⟩
  · rw [hc, if_pos rfl, he]
    simp only [PS.ready, Bool.not_eq_true', Bool.or_eq_false_iff, Bool.not_eq_false'] at hr
    obtain ⟨rfl, rfl, hw, hp⟩ := hs.of_idle hr.1
    have hi' := hi
    rw [hr.1] at hi
    have hb := hi.blk
    rw [hr.2] at hb
    by_cases hin : isIn s.W a = true
    · rw [if_pos hin]
      refine (load_own w p g L s.R s.W _ _ a _ _ _ _ _ ha h8 hb hi.log _ rfl hin).mono ?_
      rintro e w' ⟨rfl, w1, hC, hB, rfl⟩
      refine ⟨rfl, gave (s' := { s with value := valOf s.W a }) hi' OffT.nil hC rfl rfl (Chg.refl _ _) ?_ (by show EShape p s.R s.W s.ph _ _; rw [hp]; exact .idle) (Grew.nil _ _ _)⟩
      rw [hw] at hB
      show Blk _ p (pcells g (wantOf s.snap s.R s.W s.ph) .nilFunc s.ph.busy s.live s.writing s.snap (valOf s.W a) s.ended s.points) _
      rw [hp, hr.2]
      exact hB
    · rw [if_neg hin]
      refine (load_mem w p g L s.R s.W _ _ a _ _ _ _ _ ha h8 hb hi.log _ rfl (by simpa using hin)).mono ?_
      rintro e w' ⟨rfl, w1, hC, _, b1, b2, b3, q1, q2, q3, h1, h2, h3, h4, h5⟩
      refine ⟨rfl, gave hi' OffT.nil hC rfl rfl (h5.mono (by simp)) ?_ (.loadWord a b1 b2 b3) (Grew.fresh h2 q1 (Grew.fresh h3 q2 (Grew.fresh h4 q3 (Grew.nil _ _ _))))⟩
      rw [show ({ s with ph := .loadWord a } : PS).live = true from hr.2]
      exact h1

theorem store_no (w : World) (p g : Nat) (r : Rq) (nx : Value) (a v : Int) (bz lv wr : Bool) (sn vl en pt : Int) (h : Blk w p (pcells g r nx bz lv wr sn vl en pt) 69) (er : Int) (he : touchErr bz lv a = er) (hne : er = 80 ∨ er = 2) :
    Calls Try.prog 18 #[.pointer (some ⟨p, 0, none⟩), .int .i64 a, .int .u64 v] w fun e w' => e = .returned (.int .i64 er) ∧ w = w' := by
  have HR := Lib.hid (touches_any w p g r nx a bz lv wr sn vl en pt h)
  rw [he] at HR
  clear h he
  rcases hne with rfl | rfl
  · go_enter Try.func18, Try.ntmps18
    go_wp2_with fail
    refine HR.out.mono ?_
    rintro e w' ⟨rfl, rfl⟩
    go_wp2_with fail
    go_ret
    exact ⟨rfl, rfl⟩
  · go_enter Try.func18, Try.ntmps18
    go_wp2_with fail
    refine HR.out.mono ?_
    rintro e w' ⟨rfl, rfl⟩
    go_wp2_with fail
    go_ret
    exact ⟨rfl, rfl⟩

def StoredPost (w : World) (p g : Nat) (L : List Nat) (R W : PL) (a v er : Int) (r : Rq) (nx : Value) (wr : Bool) (sn vl en pt : Int) (w' : World) : Prop :=
  ∃ w1 L', LogAt w1 g L' R (wrL W a v) ∧ Mv L L' w w1 ∧ if er = 0 then Blk w' p (pcells g r nx false true wr sn vl en pt) 69 ∧ Chg [p] w1 w' else ∃ w2, Chg [p] w1 w2 ∧ LeavePost w2 p g 2 true true wr sn vl en pt (.returned (.tuple #[])) w'

theorem store_yes (w : World) (p g : Nat) (L : List Nat) (R W : PL) (r : Rq) (nx : Value) (a v : Int) (wr : Bool) (sn vl en pt : Int) (ha : (Lit.int .i64 a).wf = true) (hv : (Lit.int .u64 v).wf = true) (h8 : 8 ≤ a) (h : Blk w p (pcells g r nx false true wr sn vl en pt) 69) (hL : LogAt w g L R W) (hpL : p ∉ L) (er : Int) (he : wrErr W a = er) (h70 : er = 0 ∨ er = 70) :
    Calls Try.prog 18 #[.pointer (some ⟨p, 0, none⟩), .int .i64 a, .int .u64 v] w fun e w' => e = .returned (.int .i64 0) ∧ StoredPost w p g L R W a v er r nx wr sn vl en pt w' := by
  have HR := Lib.hid (touches_any w p g r nx a false true wr sn vl en pt h)
  rw [show touchErr false true a = 0 from by unfold touchErr; simp; omega] at HR
  have HK := Lib.hid (Write_any w g L R W a v ha hv hL)
  have HPL := Lib.hid hpL
  have HE := Lib.hid he
  have HB := Lib.hid h
  have pc0 : (w).cell? ⟨p, 0, none⟩ = some (.pointer (some ⟨g, 0, none⟩)) := (h).cell 0; have pf0 : (w).frozen? ⟨p, 0, none⟩ = false := (h).free 0; have pc1 : (w).cell? ⟨p, 1, none⟩ = some (.int .i64 r.op) := (h).cell 1; have pf1 : (w).frozen? ⟨p, 1, none⟩ = false := (h).free 1; have pc2 : (w).cell? ⟨p, 2, none⟩ = some (.int .i64 r.addr) := (h).cell 2; have pf2 : (w).frozen? ⟨p, 2, none⟩ = false := (h).free 2; have pc3 : (w).cell? ⟨p, 3, none⟩ = some (.int .u64 r.val) := (h).cell 3; have pf3 : (w).frozen? ⟨p, 3, none⟩ = false := (h).free 3; have pc4 : (w).cell? ⟨p, 4, none⟩ = some (.int .u64 r.old) := (h).cell 4; have pf4 : (w).frozen? ⟨p, 4, none⟩ = false := (h).free 4; have pc5 : (w).cell? ⟨p, 5, none⟩ = some (nx) := (h).cell 5; have pf5 : (w).frozen? ⟨p, 5, none⟩ = false := (h).free 5; have pc6 : (w).cell? ⟨p, 6, none⟩ = some (.bool false) := (h).cell 6; have pf6 : (w).frozen? ⟨p, 6, none⟩ = false := (h).free 6; have pc7 : (w).cell? ⟨p, 7, none⟩ = some (.bool true) := (h).cell 7; have pf7 : (w).frozen? ⟨p, 7, none⟩ = false := (h).free 7; have pc8 : (w).cell? ⟨p, 8, none⟩ = some (.bool wr) := (h).cell 8; have pf8 : (w).frozen? ⟨p, 8, none⟩ = false := (h).free 8; have pc9 : (w).cell? ⟨p, 9, none⟩ = some (.int .u64 sn) := (h).cell 9; have pf9 : (w).frozen? ⟨p, 9, none⟩ = false := (h).free 9; have pc10 : (w).cell? ⟨p, 10, none⟩ = some (.int .u64 vl) := (h).cell 10; have pf10 : (w).frozen? ⟨p, 10, none⟩ = false := (h).free 10; have pc11 : (w).cell? ⟨p, 11, none⟩ = some (.int .i64 en) := (h).cell 11; have pf11 : (w).frozen? ⟨p, 11, none⟩ = false := (h).free 11; have pc12 : (w).cell? ⟨p, 12, none⟩ = some (.int .i64 pt) := (h).cell 12; have pf12 : (w).frozen? ⟨p, 12, none⟩ = false := (h).free 12
  clear h hL hpL he
  go_enter Try.func18, Try.ntmps18
  go_wp2_with fail
  refine HR.out.mono ?_
  rintro e w' ⟨rfl, rfl⟩
  go_wp2_with fail
  refine HK.out.mono ?_
  rintro e w1 ⟨rfl, L', hL1, hM⟩
  rw [HE.out]
  have HL1 := Lib.hid hL1
  have HM := Lib.hid hM
  have HB1 := Lib.hid (hM.chg.blk HB.out HPL.out)
  have HB2 := Lib.hid (HB1.out.set 6 (.bool true))
  clear pc0 pf0 pc1 pf1 pc2 pf2 pc3 pf3 pc4 pf4 pc5 pf5 pc6 pf6 pc7 pf7 pc8 pf8 pc9 pf9 pc10 pf10 pc11 pf11 pc12 pf12
  have pc0 : (w1).cell? ⟨p, 0, none⟩ = some (.pointer (some ⟨g, 0, none⟩)) := (HB1.out).cell 0; have pf0 : (w1).frozen? ⟨p, 0, none⟩ = false := (HB1.out).free 0; have pc1 : (w1).cell? ⟨p, 1, none⟩ = some (.int .i64 r.op) := (HB1.out).cell 1; have pf1 : (w1).frozen? ⟨p, 1, none⟩ = false := (HB1.out).free 1; have pc2 : (w1).cell? ⟨p, 2, none⟩ = some (.int .i64 r.addr) := (HB1.out).cell 2; have pf2 : (w1).frozen? ⟨p, 2, none⟩ = false := (HB1.out).free 2; have pc3 : (w1).cell? ⟨p, 3, none⟩ = some (.int .u64 r.val) := (HB1.out).cell 3; have pf3 : (w1).frozen? ⟨p, 3, none⟩ = false := (HB1.out).free 3; have pc4 : (w1).cell? ⟨p, 4, none⟩ = some (.int .u64 r.old) := (HB1.out).cell 4; have pf4 : (w1).frozen? ⟨p, 4, none⟩ = false := (HB1.out).free 4; have pc5 : (w1).cell? ⟨p, 5, none⟩ = some (nx) := (HB1.out).cell 5; have pf5 : (w1).frozen? ⟨p, 5, none⟩ = false := (HB1.out).free 5; have pc6 : (w1).cell? ⟨p, 6, none⟩ = some (.bool false) := (HB1.out).cell 6; have pf6 : (w1).frozen? ⟨p, 6, none⟩ = false := (HB1.out).free 6; have pc7 : (w1).cell? ⟨p, 7, none⟩ = some (.bool true) := (HB1.out).cell 7; have pf7 : (w1).frozen? ⟨p, 7, none⟩ = false := (HB1.out).free 7; have pc8 : (w1).cell? ⟨p, 8, none⟩ = some (.bool wr) := (HB1.out).cell 8; have pf8 : (w1).frozen? ⟨p, 8, none⟩ = false := (HB1.out).free 8; have pc9 : (w1).cell? ⟨p, 9, none⟩ = some (.int .u64 sn) := (HB1.out).cell 9; have pf9 : (w1).frozen? ⟨p, 9, none⟩ = false := (HB1.out).free 9; have pc10 : (w1).cell? ⟨p, 10, none⟩ = some (.int .u64 vl) := (HB1.out).cell 10; have pf10 : (w1).frozen? ⟨p, 10, none⟩ = false := (HB1.out).free 10; have pc11 : (w1).cell? ⟨p, 11, none⟩ = some (.int .i64 en) := (HB1.out).cell 11; have pf11 : (w1).frozen? ⟨p, 11, none⟩ = false := (HB1.out).free 11; have pc12 : (w1).cell? ⟨p, 12, none⟩ = some (.int .i64 pt) := (HB1.out).cell 12; have pf12 : (w1).frozen? ⟨p, 12, none⟩ = false := (HB1.out).free 12
  clear hL1 hM
  rcases h70 with rfl | rfl
  · go_wp2_with fail
    go_ret
    exact ⟨rfl, w1, L', HL1.out, HM.out, by rw [if_pos rfl]; exact ⟨HB1.out, Chg.refl _ _⟩⟩
  · go_wp2_with fail
    refine (leave_any _ p g r nx 2 true true wr sn vl en pt HB2.out).mono ?_
    rintro e w' hq
    have HQ := Lib.hid hq
    obtain rfl := hq.1
    clear hq
    go_wp2_with fail
    go_ret
    exact ⟨rfl, w1, L', HL1.out, HM.out, by rw [if_neg (by decide)]; exact ⟨_, (Chg.refl _ _).setCell (by simp) _, HQ.out⟩⟩

theorem wrL_full {W : PL} {a v : Int} (ha : 0 ≤ a) (h : wrErr W a ≠ 0) : wrL W a v = W := by
  unfold wrErr rdErr putErr at h
  rw [if_neg (by omega)] at h
  unfold wrL putL
  rw [if_neg (by omega)]
  cases hp : place W a with
  | some i => rw [hp] at h; simp at h
  | none =>
    rw [hp] at h
    simp only [Option.isSome_none, Bool.false_eq_true, if_false] at h
    split at h
    · rename_i hl; simp only [if_pos hl]
    · exact absurd rfl h

theorem Store_any (w : World) (p : Nat) (F : List Nat) (s : PS) (a v : Int) (ha : (Lit.int .i64 a).wf = true) (hv : (Lit.int .u64 v).wf = true) (h : PathAt w p F s) :
    Calls Try.prog 18 #[.pointer (some ⟨p, 0, none⟩), .int .i64 a, .int .u64 v] w fun e w' => e = .returned (.int .i64 (s.err a)) ∧ GavePost w p F (s.store a v) w' := by
  have hsame := h
  obtain ⟨g, L, E, nx, hi, hs, rfl⟩ := h
  unfold PS.store
  rcases err_cases s a with ⟨he, hc⟩ | ⟨he, hr, h8, hc⟩
  · rw [hc]
    refine (store_no w p g _ nx a v _ _ _ _ _ _ _ hi.blk _ rfl he).mono ?_
    rintro e w' ⟨rfl, rfl⟩
    exact ⟨rfl, _, hsame, Mv.refl _ _⟩
  · rw [hc, if_pos rfl, he]
    simp only [PS.ready, Bool.not_eq_true', Bool.or_eq_false_iff, Bool.not_eq_false'] at hr
    obtain ⟨rfl, rfl, hw, hp⟩ := hs.of_idle hr.1
    have hi' := hi
    rw [hr.1] at hi
    have hb := hi.blk
    rw [hr.2] at hb
    have h70 : wrErr s.W a = 0 ∨ wrErr s.W a = 70 := rdErr_two (by omega)
    refine (store_yes w p g L s.R s.W _ _ a v _ _ _ _ _ ha hv h8 hb hi.log hi.pL _ rfl h70).mono ?_
    rintro e w' ⟨rfl, w1, L', hL1, hM, hq⟩
    refine ⟨rfl, ?_⟩
    by_cases h0 : wrErr s.W a = 0
    · rw [if_pos h0] at hq ⊢
      refine gave_log (Chg.refl _ _) hi OffT.nil (s' := { s with W := wrL s.W a v }) hM hL1 (hq.2.mono (by simp)) ?_ (by show EShape p s.R _ s.ph _ _; rw [hp]; exact .idle) (Grew.nil _ _ _)
      rw [hw] at hq
      show Blk _ p (pcells g (wantOf s.snap s.R (wrL s.W a v) s.ph) .nilFunc s.ph.busy s.live s.writing s.snap s.value s.ended s.points) _
      rw [hp, hr.2]
      exact hq.1
    · rw [if_neg h0] at hq ⊢
      rw [wrL_full (by omega) h0] at hL1
      obtain ⟨w2, hC2, _, n0, c1, c2, c3, c4, c5, hn0, q1, q2, q3, q4, q5, c6, q6, h1, h2, h3, h4, h5, h6, h7, h8'⟩ := hq
      have := hC2.size
      refine gave_log (Chg.refl _ _) hi OffT.nil (s' := { s with ph := .leaveN 2 }) hM hL1 ((hC2.mono (by simp)).trans (h8'.mono (by simp))) ?_ (.leaveN 2 c1 c2 c3 c4 c5 c6) ?_
      · rw [show ({ s with ph := .leaveN 2 } : PS).live = true from hr.2]
        exact h1
      · exact Grew.fresh h2 (by omega) (Grew.fresh h3 (by omega) (Grew.fresh h4 (by omega) (Grew.fresh h5 (by omega) (Grew.fresh h6 (by omega) (Grew.fresh h7 (by omega) (Grew.nil _ _ _))))))

end Go.Proofs.Ytilffolppnnkaaa
