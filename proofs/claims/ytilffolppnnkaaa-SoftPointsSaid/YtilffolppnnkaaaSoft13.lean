/- A path of layer 8: its calls that begin an operation. -/
import Derived.Test.YtilffolppnnkaaaSoft12
namespace Go.Proofs.Ytilffolppnnkaaa
set_option maxRecDepth 100000
open Go.RowKit

def PS.ready (s : PS) : Bool := !(s.busy || !s.live)
def PS.begin (s : PS) : PS := if s.busy || s.live then s else { s with R := [], W := [], value := 0, ended := 0, ph := .beginN }
def PS.load (s : PS) (a : Int) : PS := if s.ready && decide (8 ≤ a) then (if isIn s.W a then { s with value := valOf s.W a } else { s with ph := .loadWord a }) else s
def PS.store (s : PS) (a v : Int) : PS := if s.ready && decide (8 ≤ a) then (if wrErr s.W a = 0 then { s with W := wrL s.W a v } else { s with ph := .leaveN 2 }) else s
def PS.commit (s : PS) : PS := if s.ready then (if s.W = [] then { s with ph := .leaveN 1 } else { s with ph := .take }) else s
def PS.quit (s : PS) : PS := if s.ready then { s with ph := .leaveN 3 } else s

theorem EShape.of_idle {p : Nat} {s : PS} {nx : Value} {E : List Cell} (h : EShape p s.R s.W s.ph nx E) (hb : s.busy = false) : nx = .nilFunc ∧ E = [] ∧ s.want = ⟨0, 0, 0, 0⟩ ∧ s.ph = .idle := by
  have hp := PS.busy_idle hb
  rw [hp] at h
  cases h
  exact ⟨rfl, rfl, by simp [PS.want, hp, wantOf], hp⟩

theorem begin_no (w : World) (p g : Nat) (r : Rq) (nx : Value) (bz lv wr : Bool) (sn vl en pt : Int) (h : Blk w p (pcells g r nx bz lv wr sn vl en pt) 69) (hc : (bz || lv) = true) :
    Calls Try.prog 14 #[.pointer (some ⟨p, 0, none⟩)] w fun e w' => e = .returned (.int .i64 80) ∧ w = w' := by
  have pc0 : (w).cell? ⟨p, 0, none⟩ = some (.pointer (some ⟨g, 0, none⟩)) := (h).cell 0; have pf0 : (w).frozen? ⟨p, 0, none⟩ = false := (h).free 0; have pc1 : (w).cell? ⟨p, 1, none⟩ = some (.int .i64 r.op) := (h).cell 1; have pf1 : (w).frozen? ⟨p, 1, none⟩ = false := (h).free 1; have pc2 : (w).cell? ⟨p, 2, none⟩ = some (.int .i64 r.addr) := (h).cell 2; have pf2 : (w).frozen? ⟨p, 2, none⟩ = false := (h).free 2; have pc3 : (w).cell? ⟨p, 3, none⟩ = some (.int .u64 r.val) := (h).cell 3; have pf3 : (w).frozen? ⟨p, 3, none⟩ = false := (h).free 3; have pc4 : (w).cell? ⟨p, 4, none⟩ = some (.int .u64 r.old) := (h).cell 4; have pf4 : (w).frozen? ⟨p, 4, none⟩ = false := (h).free 4; have pc5 : (w).cell? ⟨p, 5, none⟩ = some (nx) := (h).cell 5; have pf5 : (w).frozen? ⟨p, 5, none⟩ = false := (h).free 5; have pc6 : (w).cell? ⟨p, 6, none⟩ = some (.bool bz) := (h).cell 6; have pf6 : (w).frozen? ⟨p, 6, none⟩ = false := (h).free 6; have pc7 : (w).cell? ⟨p, 7, none⟩ = some (.bool lv) := (h).cell 7; have pf7 : (w).frozen? ⟨p, 7, none⟩ = false := (h).free 7; have pc8 : (w).cell? ⟨p, 8, none⟩ = some (.bool wr) := (h).cell 8; have pf8 : (w).frozen? ⟨p, 8, none⟩ = false := (h).free 8; have pc9 : (w).cell? ⟨p, 9, none⟩ = some (.int .u64 sn) := (h).cell 9; have pf9 : (w).frozen? ⟨p, 9, none⟩ = false := (h).free 9; have pc10 : (w).cell? ⟨p, 10, none⟩ = some (.int .u64 vl) := (h).cell 10; have pf10 : (w).frozen? ⟨p, 10, none⟩ = false := (h).free 10; have pc11 : (w).cell? ⟨p, 11, none⟩ = some (.int .i64 en) := (h).cell 11; have pf11 : (w).frozen? ⟨p, 11, none⟩ = false := (h).free 11; have pc12 : (w).cell? ⟨p, 12, none⟩ = some (.int .i64 pt) := (h).cell 12; have pf12 : (w).frozen? ⟨p, 12, none⟩ = false := (h).free 12
  clear h
  cases bz with
  | true =>
    go_enter Try.func14, Try.ntmps14
    go_wp2_with fail
    refine (pnone_any _ p g pc0).mono ?_
    rintro e w' ⟨rfl, rfl⟩
    go_wp2_with fail
    go_ret
    exact ⟨rfl, rfl⟩
  | false =>
    cases lv with
    | true =>
      go_enter Try.func14, Try.ntmps14
      go_wp2_with fail
      refine (pnone_any _ p g pc0).mono ?_
      rintro e w' ⟨rfl, rfl⟩
      go_wp2_with fail
      go_ret
      exact ⟨rfl, rfl⟩
    | false => simp at hc

theorem begin_yes (w : World) (p g : Nat) (L : List Nat) (R W : PL) (r : Rq) (nx : Value) (wr : Bool) (sn vl en pt : Int) (h : Blk w p (pcells g r nx false false wr sn vl en pt) 69) (hL : LogAt w g L R W) (hpL : p ∉ L) :
    Calls Try.prog 14 #[.pointer (some ⟨p, 0, none⟩)] w fun e w' => e = .returned (.int .i64 0) ∧ ∃ w1 L', LogAt w1 g L' [] [] ∧ Mv L L' w w1 ∧ ∃ w2, Chg [p] w1 w2 ∧ CountPost w2 p g 1 (.func (.func 39) #[.pointer (some ⟨p, 0, none⟩)] #[]) true false wr sn 0 0 pt (.returned (.tuple #[])) w' := by
  have HL := Lib.hid hL
  have HPL := Lib.hid hpL
  have HB := Lib.hid h
  have pc0 : (w).cell? ⟨p, 0, none⟩ = some (.pointer (some ⟨g, 0, none⟩)) := (h).cell 0; have pf0 : (w).frozen? ⟨p, 0, none⟩ = false := (h).free 0; have pc1 : (w).cell? ⟨p, 1, none⟩ = some (.int .i64 r.op) := (h).cell 1; have pf1 : (w).frozen? ⟨p, 1, none⟩ = false := (h).free 1; have pc2 : (w).cell? ⟨p, 2, none⟩ = some (.int .i64 r.addr) := (h).cell 2; have pf2 : (w).frozen? ⟨p, 2, none⟩ = false := (h).free 2; have pc3 : (w).cell? ⟨p, 3, none⟩ = some (.int .u64 r.val) := (h).cell 3; have pf3 : (w).frozen? ⟨p, 3, none⟩ = false := (h).free 3; have pc4 : (w).cell? ⟨p, 4, none⟩ = some (.int .u64 r.old) := (h).cell 4; have pf4 : (w).frozen? ⟨p, 4, none⟩ = false := (h).free 4; have pc5 : (w).cell? ⟨p, 5, none⟩ = some (nx) := (h).cell 5; have pf5 : (w).frozen? ⟨p, 5, none⟩ = false := (h).free 5; have pc6 : (w).cell? ⟨p, 6, none⟩ = some (.bool false) := (h).cell 6; have pf6 : (w).frozen? ⟨p, 6, none⟩ = false := (h).free 6; have pc7 : (w).cell? ⟨p, 7, none⟩ = some (.bool false) := (h).cell 7; have pf7 : (w).frozen? ⟨p, 7, none⟩ = false := (h).free 7; have pc8 : (w).cell? ⟨p, 8, none⟩ = some (.bool wr) := (h).cell 8; have pf8 : (w).frozen? ⟨p, 8, none⟩ = false := (h).free 8; have pc9 : (w).cell? ⟨p, 9, none⟩ = some (.int .u64 sn) := (h).cell 9; have pf9 : (w).frozen? ⟨p, 9, none⟩ = false := (h).free 9; have pc10 : (w).cell? ⟨p, 10, none⟩ = some (.int .u64 vl) := (h).cell 10; have pf10 : (w).frozen? ⟨p, 10, none⟩ = false := (h).free 10; have pc11 : (w).cell? ⟨p, 11, none⟩ = some (.int .i64 en) := (h).cell 11; have pf11 : (w).frozen? ⟨p, 11, none⟩ = false := (h).free 11; have pc12 : (w).cell? ⟨p, 12, none⟩ = some (.int .i64 pt) := (h).cell 12; have pf12 : (w).frozen? ⟨p, 12, none⟩ = false := (h).free 12
  clear h hL hpL
  go_enter Try.func14, Try.ntmps14
  go_wp2_with fail
  refine (pnone_any _ p g pc0).mono ?_
  rintro e w' ⟨rfl, rfl⟩
  go_wp2_with fail
  refine (Clear_any w g L R W HL.out).mono ?_
  rintro e w1 ⟨rfl, L', hL1, hM⟩
  have HL1 := Lib.hid hL1
  have HM := Lib.hid hM
  have HB1 := Lib.hid (hM.chg.blk HB.out HPL.out)
  clear pc0 pf0 pc1 pf1 pc2 pf2 pc3 pf3 pc4 pf4 pc5 pf5 pc6 pf6 pc7 pf7 pc8 pf8 pc9 pf9 pc10 pf10 pc11 pf11 pc12 pf12
  have pc0 : (w1).cell? ⟨p, 0, none⟩ = some (.pointer (some ⟨g, 0, none⟩)) := (HB1.out).cell 0; have pf0 : (w1).frozen? ⟨p, 0, none⟩ = false := (HB1.out).free 0; have pc1 : (w1).cell? ⟨p, 1, none⟩ = some (.int .i64 r.op) := (HB1.out).cell 1; have pf1 : (w1).frozen? ⟨p, 1, none⟩ = false := (HB1.out).free 1; have pc2 : (w1).cell? ⟨p, 2, none⟩ = some (.int .i64 r.addr) := (HB1.out).cell 2; have pf2 : (w1).frozen? ⟨p, 2, none⟩ = false := (HB1.out).free 2; have pc3 : (w1).cell? ⟨p, 3, none⟩ = some (.int .u64 r.val) := (HB1.out).cell 3; have pf3 : (w1).frozen? ⟨p, 3, none⟩ = false := (HB1.out).free 3; have pc4 : (w1).cell? ⟨p, 4, none⟩ = some (.int .u64 r.old) := (HB1.out).cell 4; have pf4 : (w1).frozen? ⟨p, 4, none⟩ = false := (HB1.out).free 4; have pc5 : (w1).cell? ⟨p, 5, none⟩ = some (nx) := (HB1.out).cell 5; have pf5 : (w1).frozen? ⟨p, 5, none⟩ = false := (HB1.out).free 5; have pc6 : (w1).cell? ⟨p, 6, none⟩ = some (.bool false) := (HB1.out).cell 6; have pf6 : (w1).frozen? ⟨p, 6, none⟩ = false := (HB1.out).free 6; have pc7 : (w1).cell? ⟨p, 7, none⟩ = some (.bool false) := (HB1.out).cell 7; have pf7 : (w1).frozen? ⟨p, 7, none⟩ = false := (HB1.out).free 7; have pc8 : (w1).cell? ⟨p, 8, none⟩ = some (.bool wr) := (HB1.out).cell 8; have pf8 : (w1).frozen? ⟨p, 8, none⟩ = false := (HB1.out).free 8; have pc9 : (w1).cell? ⟨p, 9, none⟩ = some (.int .u64 sn) := (HB1.out).cell 9; have pf9 : (w1).frozen? ⟨p, 9, none⟩ = false := (HB1.out).free 9; have pc10 : (w1).cell? ⟨p, 10, none⟩ = some (.int .u64 vl) := (HB1.out).cell 10; have pf10 : (w1).frozen? ⟨p, 10, none⟩ = false := (HB1.out).free 10; have pc11 : (w1).cell? ⟨p, 11, none⟩ = some (.int .i64 en) := (HB1.out).cell 11; have pf11 : (w1).frozen? ⟨p, 11, none⟩ = false := (HB1.out).free 11; have pc12 : (w1).cell? ⟨p, 12, none⟩ = some (.int .i64 pt) := (HB1.out).cell 12; have pf12 : (w1).frozen? ⟨p, 12, none⟩ = false := (HB1.out).free 12
  clear hL1 hM
  go_wp2_with fail
  refine (count_any _ p g r nx 1 _ _ _ true false wr sn 0 0 pt (((HB1.out.set 10 (.int .u64 0)).set 11 (.int .i64 0)).set 6 (.bool true))).mono ?_
  rintro e w' hq
  have HQ := Lib.hid hq
  obtain rfl := hq.1
  clear hq
  go_wp2_with fail
  go_ret
  exact ⟨rfl, w1, L', HL1.out, HM.out, _, (((Chg.refl _ _).setCell (by simp) _).setCell (by simp) _).setCell (by simp) _, HQ.out⟩

theorem Begin_any (w : World) (p : Nat) (F : List Nat) (s : PS) (h : PathAt w p F s) :
    Calls Try.prog 14 #[.pointer (some ⟨p, 0, none⟩)] w fun e w' => e = .returned (.int .i64 (if s.busy || s.live then 80 else 0)) ∧ GavePost w p F s.begin w' := by
  have hsame := h
  obtain ⟨g, L, E, nx, hi, hs, rfl⟩ := h
  unfold PS.begin
  by_cases hc : (s.busy || s.live) = true
  · rw [if_pos hc, if_pos hc]
    refine (begin_no w p g _ nx _ _ _ _ _ _ _ hi.blk hc).mono ?_
    rintro e w' ⟨rfl, rfl⟩
    exact ⟨rfl, _, hsame, Mv.refl _ _⟩
  · rw [if_neg hc, if_neg hc]
    simp only [Bool.or_eq_true, not_or, Bool.not_eq_true] at hc
    obtain ⟨rfl, rfl, hw, hp⟩ := hs.of_idle hc.1
    rw [hc.1] at hi
    have hb := hi.blk
    rw [hc.2] at hb
    refine (begin_yes w p g L s.R s.W _ _ _ _ _ _ _ hb hi.log hi.pL).mono ?_
    rintro e w' ⟨rfl, w1, L', hL1, hM, w2, hC, _, h1, h2, h3, h4, h5, h6⟩
    refine ⟨rfl, gave_log (Chg.refl _ _) hi OffT.nil (s' := { s with R := [], W := [], value := 0, ended := 0, ph := .beginN }) hM hL1 ((hC.mono (by simp)).trans (h6.mono (by simp))) ?_ (.beginN w2.heap.size (w2.heap.size + 1) (w2.heap.size + 1 + 1) (w2.heap.size + 1 + 1 + 1)) ?_⟩
    · rw [show ({ s with R := [], W := [], value := 0, ended := 0, ph := .beginN } : PS).live = false from hc.2]
      exact h1
    · have := hC.size
      exact Grew.fresh h2 this (Grew.fresh h3 (by simp; omega) (Grew.fresh h4 (by simp; omega) (Grew.fresh h5 (by simp; omega) (Grew.nil _ _ _))))

/-- An attempt that is to end: busy first. -/
theorem leave_gave {w w1 w' : World} {p g : Nat} {L : List Nat} {nx : Value} {r : Rq} {s : PS} (hi : PathIn w p g L [] nx false r s) (hC : Chg [p] w w1) (how : Int) {e : Ending}
    (hq : LeavePost w1 p g how true s.live s.writing s.snap s.value s.ended s.points e w') : GavePost w p (p :: (L ++ ([] : List Cell).map (·.1))) { s with ph := .leaveN how } w' := by
  obtain ⟨_, n0, c1, c2, c3, c4, c5, hn0, q1, q2, q3, q4, q5, c6, q6, h1, h2, h3, h4, h5, h6, h7, h8⟩ := hq
  refine gave hi OffT.nil hC rfl rfl (h8.mono (by simp)) h1 (.leaveN how c1 c2 c3 c4 c5 c6) ?_
  exact Grew.fresh h2 (by omega) (Grew.fresh h3 (by omega) (Grew.fresh h4 (by omega) (Grew.fresh h5 (by omega) (Grew.fresh h6 (by omega) (Grew.fresh h7 (by omega) (Grew.nil _ _ _))))))

theorem quit_no (w : World) (p g : Nat) (r : Rq) (nx : Value) (bz lv wr : Bool) (sn vl en pt : Int) (h : Blk w p (pcells g r nx bz lv wr sn vl en pt) 69) (hc : (bz || !lv) = true) :
    Calls Try.prog 28 #[.pointer (some ⟨p, 0, none⟩)] w fun e w' => e = .returned (.int .i64 80) ∧ w = w' := by
  have HR := Lib.hid (ready_any w p g r nx bz lv wr sn vl en pt h)
  rw [hc] at HR
  simp only [if_true] at HR
  clear h hc
  go_enter Try.func28, Try.ntmps28
  go_wp2_with fail
  refine HR.out.mono ?_
  rintro e w' ⟨rfl, rfl⟩
  go_wp2_with fail
  go_ret
  exact ⟨rfl, rfl⟩
theorem quit_yes (w : World) (p g : Nat) (r : Rq) (nx : Value) (wr : Bool) (sn vl en pt : Int) (h : Blk w p (pcells g r nx false true wr sn vl en pt) 69) :
    Calls Try.prog 28 #[.pointer (some ⟨p, 0, none⟩)] w fun e w' => e = .returned (.int .i64 0) ∧ ∃ w1, Chg [p] w w1 ∧ LeavePost w1 p g 3 true true wr sn vl en pt (.returned (.tuple #[])) w' := by
  have HR := Lib.hid (ready_any w p g r nx false true wr sn vl en pt h)
  simp only [Bool.not_true, Bool.or_false, Bool.false_eq_true, if_false] at HR
  have HB := Lib.hid (h.set 6 (.bool true))
  have pc0 : (w).cell? ⟨p, 0, none⟩ = some (.pointer (some ⟨g, 0, none⟩)) := (h).cell 0; have pf0 : (w).frozen? ⟨p, 0, none⟩ = false := (h).free 0; have pc1 : (w).cell? ⟨p, 1, none⟩ = some (.int .i64 r.op) := (h).cell 1; have pf1 : (w).frozen? ⟨p, 1, none⟩ = false := (h).free 1; have pc2 : (w).cell? ⟨p, 2, none⟩ = some (.int .i64 r.addr) := (h).cell 2; have pf2 : (w).frozen? ⟨p, 2, none⟩ = false := (h).free 2; have pc3 : (w).cell? ⟨p, 3, none⟩ = some (.int .u64 r.val) := (h).cell 3; have pf3 : (w).frozen? ⟨p, 3, none⟩ = false := (h).free 3; have pc4 : (w).cell? ⟨p, 4, none⟩ = some (.int .u64 r.old) := (h).cell 4; have pf4 : (w).frozen? ⟨p, 4, none⟩ = false := (h).free 4; have pc5 : (w).cell? ⟨p, 5, none⟩ = some (nx) := (h).cell 5; have pf5 : (w).frozen? ⟨p, 5, none⟩ = false := (h).free 5; have pc6 : (w).cell? ⟨p, 6, none⟩ = some (.bool false) := (h).cell 6; have pf6 : (w).frozen? ⟨p, 6, none⟩ = false := (h).free 6; have pc7 : (w).cell? ⟨p, 7, none⟩ = some (.bool true) := (h).cell 7; have pf7 : (w).frozen? ⟨p, 7, none⟩ = false := (h).free 7; have pc8 : (w).cell? ⟨p, 8, none⟩ = some (.bool wr) := (h).cell 8; have pf8 : (w).frozen? ⟨p, 8, none⟩ = false := (h).free 8; have pc9 : (w).cell? ⟨p, 9, none⟩ = some (.int .u64 sn) := (h).cell 9; have pf9 : (w).frozen? ⟨p, 9, none⟩ = false := (h).free 9; have pc10 : (w).cell? ⟨p, 10, none⟩ = some (.int .u64 vl) := (h).cell 10; have pf10 : (w).frozen? ⟨p, 10, none⟩ = false := (h).free 10; have pc11 : (w).cell? ⟨p, 11, none⟩ = some (.int .i64 en) := (h).cell 11; have pf11 : (w).frozen? ⟨p, 11, none⟩ = false := (h).free 11; have pc12 : (w).cell? ⟨p, 12, none⟩ = some (.int .i64 pt) := (h).cell 12; have pf12 : (w).frozen? ⟨p, 12, none⟩ = false := (h).free 12
  clear h
  go_enter Try.func28, Try.ntmps28
  go_wp2_with fail
  refine HR.out.mono ?_
  rintro e w' ⟨rfl, rfl⟩
  go_wp2_with fail
  refine (leave_any _ p g r nx 3 true true wr sn vl en pt HB.out).mono ?_
  rintro e w' hq
  have HQ := Lib.hid hq
  obtain rfl := hq.1
  clear hq
  go_wp2_with fail
  go_ret
  exact ⟨rfl, _, (Chg.refl _ _).setCell (by simp) _, HQ.out⟩
theorem Quit_any (w : World) (p : Nat) (F : List Nat) (s : PS) (h : PathAt w p F s) :
    Calls Try.prog 28 #[.pointer (some ⟨p, 0, none⟩)] w fun e w' => e = .returned (.int .i64 (if s.ready then 0 else 80)) ∧ GavePost w p F s.quit w' := by
  have hsame := h
  obtain ⟨g, L, E, nx, hi, hs, rfl⟩ := h
  unfold PS.quit
  by_cases hc : s.ready = true
  · rw [if_pos hc, if_pos hc]
    simp only [PS.ready, Bool.not_eq_true', Bool.or_eq_false_iff, Bool.not_eq_false'] at hc
    obtain ⟨rfl, rfl, hw, hp⟩ := hs.of_idle hc.1
    rw [hc.1] at hi
    have hb := hi.blk
    rw [hc.2] at hb
    refine (quit_yes w p g _ _ _ _ _ _ _ hb).mono ?_
    rintro e w' ⟨rfl, w1, hC, hq⟩
    exact ⟨rfl, leave_gave hi hC 3 (by rw [hc.2]; exact hq)⟩
  · rw [if_neg hc, if_neg hc]
    have hc' : (s.busy || !s.live) = true := by
      revert hc; unfold PS.ready; cases s.busy <;> cases s.live <;> simp
    refine (quit_no w p g _ nx _ _ _ _ _ _ _ hi.blk hc').mono ?_
    rintro e w' ⟨rfl, rfl⟩
    exact ⟨rfl, _, hsame, Mv.refl _ _⟩

theorem commit_no (w : World) (p g : Nat) (r : Rq) (nx : Value) (bz lv wr : Bool) (sn vl en pt : Int) (h : Blk w p (pcells g r nx bz lv wr sn vl en pt) 69) (hc : (bz || !lv) = true) :
    Calls Try.prog 19 #[.pointer (some ⟨p, 0, none⟩)] w fun e w' => e = .returned (.int .i64 80) ∧ w = w' := by
  have HR := Lib.hid (ready_any w p g r nx bz lv wr sn vl en pt h)
  rw [hc] at HR
  simp only [if_true] at HR
  clear h hc
  go_enter Try.func19, Try.ntmps19
  go_wp2_with fail
  refine HR.out.mono ?_
  rintro e w' ⟨rfl, rfl⟩
  go_wp2_with fail
  go_ret
  exact ⟨rfl, rfl⟩
def CommitPost (w1 : World) (p g : Nat) (W : PL) (wr : Bool) (sn vl en pt : Int) (w' : World) : Prop := if W = [] then LeavePost w1 p g 1 true true wr sn vl en pt (.returned (.tuple #[])) w' else TakePost w1 p g true true wr sn vl en pt (.returned (.tuple #[])) w'
theorem commit_yes (w : World) (p g : Nat) (L : List Nat) (R W : PL) (r : Rq) (nx : Value) (wr : Bool) (sn vl en pt : Int) (h : Blk w p (pcells g r nx false true wr sn vl en pt) 69) (hL : LogAt w g L R W) (hpL : p ∉ L) :
    Calls Try.prog 19 #[.pointer (some ⟨p, 0, none⟩)] w fun e w' => e = .returned (.int .i64 0) ∧ ∃ w1, Chg [p] w w1 ∧ CommitPost w1 p g W wr sn vl en pt w' := by
  have HR := Lib.hid (ready_any w p g r nx false true wr sn vl en pt h)
  simp only [Bool.not_true, Bool.or_false, Bool.false_eq_true, if_false] at HR
  have hC1 : Chg [p] w (w.setCell ⟨p, 6, none⟩ (.bool true)) := (Chg.refl _ _).setCell (by simp) _
  have HC1 := Lib.hid hC1
  have HB := Lib.hid (h.set 6 (.bool true))
  have HL := Lib.hid (hL.chg hC1 (fun x hx he => by simp at he; subst he; exact hpL hx))
  have HM := Lib.hid hL.most.2.1
  have pc0 : (w).cell? ⟨p, 0, none⟩ = some (.pointer (some ⟨g, 0, none⟩)) := (h).cell 0; have pf0 : (w).frozen? ⟨p, 0, none⟩ = false := (h).free 0; have pc1 : (w).cell? ⟨p, 1, none⟩ = some (.int .i64 r.op) := (h).cell 1; have pf1 : (w).frozen? ⟨p, 1, none⟩ = false := (h).free 1; have pc2 : (w).cell? ⟨p, 2, none⟩ = some (.int .i64 r.addr) := (h).cell 2; have pf2 : (w).frozen? ⟨p, 2, none⟩ = false := (h).free 2; have pc3 : (w).cell? ⟨p, 3, none⟩ = some (.int .u64 r.val) := (h).cell 3; have pf3 : (w).frozen? ⟨p, 3, none⟩ = false := (h).free 3; have pc4 : (w).cell? ⟨p, 4, none⟩ = some (.int .u64 r.old) := (h).cell 4; have pf4 : (w).frozen? ⟨p, 4, none⟩ = false := (h).free 4; have pc5 : (w).cell? ⟨p, 5, none⟩ = some (nx) := (h).cell 5; have pf5 : (w).frozen? ⟨p, 5, none⟩ = false := (h).free 5; have pc6 : (w).cell? ⟨p, 6, none⟩ = some (.bool false) := (h).cell 6; have pf6 : (w).frozen? ⟨p, 6, none⟩ = false := (h).free 6; have pc7 : (w).cell? ⟨p, 7, none⟩ = some (.bool true) := (h).cell 7; have pf7 : (w).frozen? ⟨p, 7, none⟩ = false := (h).free 7; have pc8 : (w).cell? ⟨p, 8, none⟩ = some (.bool wr) := (h).cell 8; have pf8 : (w).frozen? ⟨p, 8, none⟩ = false := (h).free 8; have pc9 : (w).cell? ⟨p, 9, none⟩ = some (.int .u64 sn) := (h).cell 9; have pf9 : (w).frozen? ⟨p, 9, none⟩ = false := (h).free 9; have pc10 : (w).cell? ⟨p, 10, none⟩ = some (.int .u64 vl) := (h).cell 10; have pf10 : (w).frozen? ⟨p, 10, none⟩ = false := (h).free 10; have pc11 : (w).cell? ⟨p, 11, none⟩ = some (.int .i64 en) := (h).cell 11; have pf11 : (w).frozen? ⟨p, 11, none⟩ = false := (h).free 11; have pc12 : (w).cell? ⟨p, 12, none⟩ = some (.int .i64 pt) := (h).cell 12; have pf12 : (w).frozen? ⟨p, 12, none⟩ = false := (h).free 12
  clear h hC1 hL hpL
  go_enter Try.func19, Try.ntmps19
  go_wp2_with fail
  refine HR.out.mono ?_
  rintro e w' ⟨rfl, rfl⟩
  go_wp2_with fail
  refine (Writes_any _ g L R W HL.out).mono ?_
  rintro e w2 ⟨v, rfl, hr, hb⟩
  obtain ⟨A, cap, hv, _⟩ := ownsRow_cell hr
  subst hv
  have hC2 := Chg.of_below hb [p]
  have HC2 := Lib.hid hC2
  have HB2 := Lib.hid ((Chg.of_below hb []).blk HB.out (by simp))
  clear hb hr hC2
  by_cases hW : W = []
  · subst hW
    simp only [List.length_nil]
    go_wp2_with fail
    refine (leave_any _ p g r nx 1 true true wr sn vl en pt HB2.out).mono ?_
    rintro e w' hq
    have HQ := Lib.hid hq
    obtain rfl := hq.1
    clear hq
    go_wp2_with fail
    go_ret
    exact ⟨rfl, w2, HC1.out.trans HC2.out, by unfold CommitPost; rw [if_pos rfl]; exact HQ.out⟩
  · have HW := Lib.hid hW
    have hl : ((W.length : Int) == 0) = false := by
      have := List.length_pos_iff.2 hW
      simp; exact hW
    clear hW
    have hl2 : ¬ ((W.length : Int) = 0) := by simpa using hl
    go_wp2_with fail
    refine (take_any _ p g r nx true true wr sn vl en pt HB2.out).mono ?_
    rintro e w' hq
    have HQ := Lib.hid hq
    obtain rfl := hq.1
    clear hq
    go_wp2_with fail
    go_ret
    exact ⟨rfl, w2, HC1.out.trans HC2.out, by unfold CommitPost; rw [if_neg HW.out]; exact HQ.out⟩
theorem Commit_any (w : World) (p : Nat) (F : List Nat) (s : PS) (h : PathAt w p F s) :
    Calls Try.prog 19 #[.pointer (some ⟨p, 0, none⟩)] w fun e w' => e = .returned (.int .i64 (if s.ready then 0 else 80)) ∧ GavePost w p F s.commit w' := by
  have hsame := h
  obtain ⟨g, L, E, nx, hi, hs, rfl⟩ := h
  unfold PS.commit
  by_cases hc : s.ready = true
  · rw [if_pos hc, if_pos hc]
    simp only [PS.ready, Bool.not_eq_true', Bool.or_eq_false_iff, Bool.not_eq_false'] at hc
    obtain ⟨rfl, rfl, hw, hp⟩ := hs.of_idle hc.1
    rw [hc.1] at hi
    have hb := hi.blk
    rw [hc.2] at hb
    refine (commit_yes w p g L s.R s.W _ _ _ _ _ _ _ hb hi.log hi.pL).mono ?_
    rintro e w' ⟨rfl, w1, hC, hq⟩
    unfold CommitPost at hq
    refine ⟨rfl, ?_⟩
    by_cases hW : s.W = []
    · rw [if_pos hW] at hq ⊢
      exact leave_gave hi hC 1 (by rw [hc.2]; exact hq)
    · rw [if_neg hW] at hq ⊢
      obtain ⟨_, b1, b2, q1, q2, h1, h2, h3, h4⟩ := hq
      refine gave hi OffT.nil hC rfl rfl (h4.mono (by simp)) ?_ (.take b1 b2) (Grew.fresh h2 q1 (Grew.fresh h3 q2 (Grew.nil _ _ _)))
      rw [show ({ s with ph := .take } : PS).live = true from hc.2]
      exact h1
  · rw [if_neg hc, if_neg hc]
    have hc' : (s.busy || !s.live) = true := by
      revert hc; unfold PS.ready; cases s.busy <;> cases s.live <;> simp
    refine (commit_no w p g _ nx _ _ _ _ _ _ _ hi.blk hc').mono ?_
    rintro e w' ⟨rfl, rfl⟩
    exact ⟨rfl, _, hsame, Mv.refl _ _⟩

end Go.Proofs.Ytilffolppnnkaaa
