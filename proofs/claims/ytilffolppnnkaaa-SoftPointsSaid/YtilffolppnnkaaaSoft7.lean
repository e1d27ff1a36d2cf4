/- A path of layer 8: what it answers where nothing is turned; its next step, whatever it is. -/
import Derived.Test.YtilffolppnnkaaaSoft6
import Derived.BigQuiet
namespace Go.Proofs.Ytilffolppnnkaaa
set_option maxRecDepth 100000
open Go.RowKit

theorem back2_any (w : World) (p g : Nat) (r : Rq) (nx : Value) (bp : Nat) (bz lv wr : Bool) (sn vl en pt : Int) (h : Blk w p (pcells g r nx bz lv wr sn vl en pt) 69)
    (h1 : Blk w bp [.pointer (some ⟨p, 0, none⟩)] 31) :
    Calls Try.prog 98 #[.pointer (some ⟨bp, 0, none⟩)] w fun e w' => e = .returned (.tuple #[]) ∧ ∃ w1, Chg [p] w w1 ∧ LeavePost w1 p g 1 bz lv false sn vl en pt e w' := by
  have k1 : w.cell? ⟨bp, 0, none⟩ = some (.pointer (some ⟨p, 0, none⟩)) := h1.cell 0
  have hn1 : p ≠ bp := h.ne h1 (by decide)
  have hB1 : Blk (w.setCell ⟨p, 8, none⟩ (.bool false)) p (pcells g r nx bz lv false sn vl en pt) 69 := h.set 8 (.bool false)
  have HB1 := Lib.hid hB1
  have pc0 : (w).cell? ⟨p, 0, none⟩ = some (.pointer (some ⟨g, 0, none⟩)) := (h).cell 0; have pf0 : (w).frozen? ⟨p, 0, none⟩ = false := (h).free 0; have pc1 : (w).cell? ⟨p, 1, none⟩ = some (.int .i64 r.op) := (h).cell 1; have pf1 : (w).frozen? ⟨p, 1, none⟩ = false := (h).free 1; have pc2 : (w).cell? ⟨p, 2, none⟩ = some (.int .i64 r.addr) := (h).cell 2; have pf2 : (w).frozen? ⟨p, 2, none⟩ = false := (h).free 2; have pc3 : (w).cell? ⟨p, 3, none⟩ = some (.int .u64 r.val) := (h).cell 3; have pf3 : (w).frozen? ⟨p, 3, none⟩ = false := (h).free 3; have pc4 : (w).cell? ⟨p, 4, none⟩ = some (.int .u64 r.old) := (h).cell 4; have pf4 : (w).frozen? ⟨p, 4, none⟩ = false := (h).free 4; have pc5 : (w).cell? ⟨p, 5, none⟩ = some (nx) := (h).cell 5; have pf5 : (w).frozen? ⟨p, 5, none⟩ = false := (h).free 5; have pc6 : (w).cell? ⟨p, 6, none⟩ = some (.bool bz) := (h).cell 6; have pf6 : (w).frozen? ⟨p, 6, none⟩ = false := (h).free 6; have pc7 : (w).cell? ⟨p, 7, none⟩ = some (.bool lv) := (h).cell 7; have pf7 : (w).frozen? ⟨p, 7, none⟩ = false := (h).free 7; have pc8 : (w).cell? ⟨p, 8, none⟩ = some (.bool wr) := (h).cell 8; have pf8 : (w).frozen? ⟨p, 8, none⟩ = false := (h).free 8; have pc9 : (w).cell? ⟨p, 9, none⟩ = some (.int .u64 sn) := (h).cell 9; have pf9 : (w).frozen? ⟨p, 9, none⟩ = false := (h).free 9; have pc10 : (w).cell? ⟨p, 10, none⟩ = some (.int .u64 vl) := (h).cell 10; have pf10 : (w).frozen? ⟨p, 10, none⟩ = false := (h).free 10; have pc11 : (w).cell? ⟨p, 11, none⟩ = some (.int .i64 en) := (h).cell 11; have pf11 : (w).frozen? ⟨p, 11, none⟩ = false := (h).free 11; have pc12 : (w).cell? ⟨p, 12, none⟩ = some (.int .i64 pt) := (h).cell 12; have pf12 : (w).frozen? ⟨p, 12, none⟩ = false := (h).free 12
  clear h h1 hB1
  go_enter Try.func98, Try.ntmps98
  go_wp2_with fail
  refine (leave_any _ p g r nx 1 bz lv false sn vl en pt HB1.out).mono ?_
  rintro e w' ⟨rfl, h1⟩
  have H1 := Lib.hid h1
  clear h1
  go_wp2_with fail
  go_end0
  exact ⟨rfl, _, (Chg.refl _ w).setCell (by simp) _, rfl, H1.out⟩

theorem pnone_any (w : World) (p g : Nat) (h : w.cell? ⟨p, 0, none⟩ = some (.pointer (some ⟨g, 0, none⟩))) :
    Calls Try.prog 36 #[.pointer (some ⟨p, 0, none⟩)] w fun e w' => e = .returned (.bool false) ∧ w = w' := by
  go_enter Try.func36, Try.ntmps36
  go_wp2
  go_ret
  exact ⟨rfl, rfl⟩

theorem PBusy_any (w : World) (p g : Nat) (r : Rq) (nx : Value) (bz lv wr : Bool) (sn vl en pt : Int) (h : Blk w p (pcells g r nx bz lv wr sn vl en pt) 69) :
    Calls Try.prog 26 #[.pointer (some ⟨p, 0, none⟩)] w fun e w' => e = .returned (.bool bz) ∧ w = w' := by
  have pc0 : (w).cell? ⟨p, 0, none⟩ = some (.pointer (some ⟨g, 0, none⟩)) := (h).cell 0; have pf0 : (w).frozen? ⟨p, 0, none⟩ = false := (h).free 0; have pc1 : (w).cell? ⟨p, 1, none⟩ = some (.int .i64 r.op) := (h).cell 1; have pf1 : (w).frozen? ⟨p, 1, none⟩ = false := (h).free 1; have pc2 : (w).cell? ⟨p, 2, none⟩ = some (.int .i64 r.addr) := (h).cell 2; have pf2 : (w).frozen? ⟨p, 2, none⟩ = false := (h).free 2; have pc3 : (w).cell? ⟨p, 3, none⟩ = some (.int .u64 r.val) := (h).cell 3; have pf3 : (w).frozen? ⟨p, 3, none⟩ = false := (h).free 3; have pc4 : (w).cell? ⟨p, 4, none⟩ = some (.int .u64 r.old) := (h).cell 4; have pf4 : (w).frozen? ⟨p, 4, none⟩ = false := (h).free 4; have pc5 : (w).cell? ⟨p, 5, none⟩ = some (nx) := (h).cell 5; have pf5 : (w).frozen? ⟨p, 5, none⟩ = false := (h).free 5; have pc6 : (w).cell? ⟨p, 6, none⟩ = some (.bool bz) := (h).cell 6; have pf6 : (w).frozen? ⟨p, 6, none⟩ = false := (h).free 6; have pc7 : (w).cell? ⟨p, 7, none⟩ = some (.bool lv) := (h).cell 7; have pf7 : (w).frozen? ⟨p, 7, none⟩ = false := (h).free 7; have pc8 : (w).cell? ⟨p, 8, none⟩ = some (.bool wr) := (h).cell 8; have pf8 : (w).frozen? ⟨p, 8, none⟩ = false := (h).free 8; have pc9 : (w).cell? ⟨p, 9, none⟩ = some (.int .u64 sn) := (h).cell 9; have pf9 : (w).frozen? ⟨p, 9, none⟩ = false := (h).free 9; have pc10 : (w).cell? ⟨p, 10, none⟩ = some (.int .u64 vl) := (h).cell 10; have pf10 : (w).frozen? ⟨p, 10, none⟩ = false := (h).free 10; have pc11 : (w).cell? ⟨p, 11, none⟩ = some (.int .i64 en) := (h).cell 11; have pf11 : (w).frozen? ⟨p, 11, none⟩ = false := (h).free 11; have pc12 : (w).cell? ⟨p, 12, none⟩ = some (.int .i64 pt) := (h).cell 12; have pf12 : (w).frozen? ⟨p, 12, none⟩ = false := (h).free 12
  clear h
  go_enter Try.func26, Try.ntmps26
  go_wp2_with fail
  refine (pnone_any _ p g pc0).mono ?_
  rintro e w' ⟨rfl, rfl⟩
  go_wp2_with fail
  go_ret
  exact ⟨rfl, rfl⟩

theorem PLive_any (w : World) (p g : Nat) (r : Rq) (nx : Value) (bz lv wr : Bool) (sn vl en pt : Int) (h : Blk w p (pcells g r nx bz lv wr sn vl en pt) 69) :
    Calls Try.prog 21 #[.pointer (some ⟨p, 0, none⟩)] w fun e w' => e = .returned (.bool lv) ∧ w = w' := by
  have pc0 : (w).cell? ⟨p, 0, none⟩ = some (.pointer (some ⟨g, 0, none⟩)) := (h).cell 0; have pf0 : (w).frozen? ⟨p, 0, none⟩ = false := (h).free 0; have pc1 : (w).cell? ⟨p, 1, none⟩ = some (.int .i64 r.op) := (h).cell 1; have pf1 : (w).frozen? ⟨p, 1, none⟩ = false := (h).free 1; have pc2 : (w).cell? ⟨p, 2, none⟩ = some (.int .i64 r.addr) := (h).cell 2; have pf2 : (w).frozen? ⟨p, 2, none⟩ = false := (h).free 2; have pc3 : (w).cell? ⟨p, 3, none⟩ = some (.int .u64 r.val) := (h).cell 3; have pf3 : (w).frozen? ⟨p, 3, none⟩ = false := (h).free 3; have pc4 : (w).cell? ⟨p, 4, none⟩ = some (.int .u64 r.old) := (h).cell 4; have pf4 : (w).frozen? ⟨p, 4, none⟩ = false := (h).free 4; have pc5 : (w).cell? ⟨p, 5, none⟩ = some (nx) := (h).cell 5; have pf5 : (w).frozen? ⟨p, 5, none⟩ = false := (h).free 5; have pc6 : (w).cell? ⟨p, 6, none⟩ = some (.bool bz) := (h).cell 6; have pf6 : (w).frozen? ⟨p, 6, none⟩ = false := (h).free 6; have pc7 : (w).cell? ⟨p, 7, none⟩ = some (.bool lv) := (h).cell 7; have pf7 : (w).frozen? ⟨p, 7, none⟩ = false := (h).free 7; have pc8 : (w).cell? ⟨p, 8, none⟩ = some (.bool wr) := (h).cell 8; have pf8 : (w).frozen? ⟨p, 8, none⟩ = false := (h).free 8; have pc9 : (w).cell? ⟨p, 9, none⟩ = some (.int .u64 sn) := (h).cell 9; have pf9 : (w).frozen? ⟨p, 9, none⟩ = false := (h).free 9; have pc10 : (w).cell? ⟨p, 10, none⟩ = some (.int .u64 vl) := (h).cell 10; have pf10 : (w).frozen? ⟨p, 10, none⟩ = false := (h).free 10; have pc11 : (w).cell? ⟨p, 11, none⟩ = some (.int .i64 en) := (h).cell 11; have pf11 : (w).frozen? ⟨p, 11, none⟩ = false := (h).free 11; have pc12 : (w).cell? ⟨p, 12, none⟩ = some (.int .i64 pt) := (h).cell 12; have pf12 : (w).frozen? ⟨p, 12, none⟩ = false := (h).free 12
  clear h
  go_enter Try.func21, Try.ntmps21
  go_wp2_with fail
  refine (pnone_any _ p g pc0).mono ?_
  rintro e w' ⟨rfl, rfl⟩
  go_wp2_with fail
  go_ret
  exact ⟨rfl, rfl⟩

theorem PWriting_any (w : World) (p g : Nat) (r : Rq) (nx : Value) (bz lv wr : Bool) (sn vl en pt : Int) (h : Blk w p (pcells g r nx bz lv wr sn vl en pt) 69) :
    Calls Try.prog 31 #[.pointer (some ⟨p, 0, none⟩)] w fun e w' => e = .returned (.bool wr) ∧ w = w' := by
  have pc0 : (w).cell? ⟨p, 0, none⟩ = some (.pointer (some ⟨g, 0, none⟩)) := (h).cell 0; have pf0 : (w).frozen? ⟨p, 0, none⟩ = false := (h).free 0; have pc1 : (w).cell? ⟨p, 1, none⟩ = some (.int .i64 r.op) := (h).cell 1; have pf1 : (w).frozen? ⟨p, 1, none⟩ = false := (h).free 1; have pc2 : (w).cell? ⟨p, 2, none⟩ = some (.int .i64 r.addr) := (h).cell 2; have pf2 : (w).frozen? ⟨p, 2, none⟩ = false := (h).free 2; have pc3 : (w).cell? ⟨p, 3, none⟩ = some (.int .u64 r.val) := (h).cell 3; have pf3 : (w).frozen? ⟨p, 3, none⟩ = false := (h).free 3; have pc4 : (w).cell? ⟨p, 4, none⟩ = some (.int .u64 r.old) := (h).cell 4; have pf4 : (w).frozen? ⟨p, 4, none⟩ = false := (h).free 4; have pc5 : (w).cell? ⟨p, 5, none⟩ = some (nx) := (h).cell 5; have pf5 : (w).frozen? ⟨p, 5, none⟩ = false := (h).free 5; have pc6 : (w).cell? ⟨p, 6, none⟩ = some (.bool bz) := (h).cell 6; have pf6 : (w).frozen? ⟨p, 6, none⟩ = false := (h).free 6; have pc7 : (w).cell? ⟨p, 7, none⟩ = some (.bool lv) := (h).cell 7; have pf7 : (w).frozen? ⟨p, 7, none⟩ = false := (h).free 7; have pc8 : (w).cell? ⟨p, 8, none⟩ = some (.bool wr) := (h).cell 8; have pf8 : (w).frozen? ⟨p, 8, none⟩ = false := (h).free 8; have pc9 : (w).cell? ⟨p, 9, none⟩ = some (.int .u64 sn) := (h).cell 9; have pf9 : (w).frozen? ⟨p, 9, none⟩ = false := (h).free 9; have pc10 : (w).cell? ⟨p, 10, none⟩ = some (.int .u64 vl) := (h).cell 10; have pf10 : (w).frozen? ⟨p, 10, none⟩ = false := (h).free 10; have pc11 : (w).cell? ⟨p, 11, none⟩ = some (.int .i64 en) := (h).cell 11; have pf11 : (w).frozen? ⟨p, 11, none⟩ = false := (h).free 11; have pc12 : (w).cell? ⟨p, 12, none⟩ = some (.int .i64 pt) := (h).cell 12; have pf12 : (w).frozen? ⟨p, 12, none⟩ = false := (h).free 12
  clear h
  go_enter Try.func31, Try.ntmps31
  go_wp2_with fail
  refine (pnone_any _ p g pc0).mono ?_
  rintro e w' ⟨rfl, rfl⟩
  go_wp2_with fail
  go_ret
  exact ⟨rfl, rfl⟩

theorem PValue_any (w : World) (p g : Nat) (r : Rq) (nx : Value) (bz lv wr : Bool) (sn vl en pt : Int) (h : Blk w p (pcells g r nx bz lv wr sn vl en pt) 69) :
    Calls Try.prog 17 #[.pointer (some ⟨p, 0, none⟩)] w fun e w' => e = .returned (.int .u64 vl) ∧ w = w' := by
  have pc0 : (w).cell? ⟨p, 0, none⟩ = some (.pointer (some ⟨g, 0, none⟩)) := (h).cell 0; have pf0 : (w).frozen? ⟨p, 0, none⟩ = false := (h).free 0; have pc1 : (w).cell? ⟨p, 1, none⟩ = some (.int .i64 r.op) := (h).cell 1; have pf1 : (w).frozen? ⟨p, 1, none⟩ = false := (h).free 1; have pc2 : (w).cell? ⟨p, 2, none⟩ = some (.int .i64 r.addr) := (h).cell 2; have pf2 : (w).frozen? ⟨p, 2, none⟩ = false := (h).free 2; have pc3 : (w).cell? ⟨p, 3, none⟩ = some (.int .u64 r.val) := (h).cell 3; have pf3 : (w).frozen? ⟨p, 3, none⟩ = false := (h).free 3; have pc4 : (w).cell? ⟨p, 4, none⟩ = some (.int .u64 r.old) := (h).cell 4; have pf4 : (w).frozen? ⟨p, 4, none⟩ = false := (h).free 4; have pc5 : (w).cell? ⟨p, 5, none⟩ = some (nx) := (h).cell 5; have pf5 : (w).frozen? ⟨p, 5, none⟩ = false := (h).free 5; have pc6 : (w).cell? ⟨p, 6, none⟩ = some (.bool bz) := (h).cell 6; have pf6 : (w).frozen? ⟨p, 6, none⟩ = false := (h).free 6; have pc7 : (w).cell? ⟨p, 7, none⟩ = some (.bool lv) := (h).cell 7; have pf7 : (w).frozen? ⟨p, 7, none⟩ = false := (h).free 7; have pc8 : (w).cell? ⟨p, 8, none⟩ = some (.bool wr) := (h).cell 8; have pf8 : (w).frozen? ⟨p, 8, none⟩ = false := (h).free 8; have pc9 : (w).cell? ⟨p, 9, none⟩ = some (.int .u64 sn) := (h).cell 9; have pf9 : (w).frozen? ⟨p, 9, none⟩ = false := (h).free 9; have pc10 : (w).cell? ⟨p, 10, none⟩ = some (.int .u64 vl) := (h).cell 10; have pf10 : (w).frozen? ⟨p, 10, none⟩ = false := (h).free 10; have pc11 : (w).cell? ⟨p, 11, none⟩ = some (.int .i64 en) := (h).cell 11; have pf11 : (w).frozen? ⟨p, 11, none⟩ = false := (h).free 11; have pc12 : (w).cell? ⟨p, 12, none⟩ = some (.int .i64 pt) := (h).cell 12; have pf12 : (w).frozen? ⟨p, 12, none⟩ = false := (h).free 12
  clear h
  go_enter Try.func17, Try.ntmps17
  go_wp2_with fail
  refine (pnone_any _ p g pc0).mono ?_
  rintro e w' ⟨rfl, rfl⟩
  go_wp2_with fail
  go_ret
  exact ⟨rfl, rfl⟩

theorem PEnded_any (w : World) (p g : Nat) (r : Rq) (nx : Value) (bz lv wr : Bool) (sn vl en pt : Int) (h : Blk w p (pcells g r nx bz lv wr sn vl en pt) 69) :
    Calls Try.prog 20 #[.pointer (some ⟨p, 0, none⟩)] w fun e w' => e = .returned (.int .i64 en) ∧ w = w' := by
  have pc0 : (w).cell? ⟨p, 0, none⟩ = some (.pointer (some ⟨g, 0, none⟩)) := (h).cell 0; have pf0 : (w).frozen? ⟨p, 0, none⟩ = false := (h).free 0; have pc1 : (w).cell? ⟨p, 1, none⟩ = some (.int .i64 r.op) := (h).cell 1; have pf1 : (w).frozen? ⟨p, 1, none⟩ = false := (h).free 1; have pc2 : (w).cell? ⟨p, 2, none⟩ = some (.int .i64 r.addr) := (h).cell 2; have pf2 : (w).frozen? ⟨p, 2, none⟩ = false := (h).free 2; have pc3 : (w).cell? ⟨p, 3, none⟩ = some (.int .u64 r.val) := (h).cell 3; have pf3 : (w).frozen? ⟨p, 3, none⟩ = false := (h).free 3; have pc4 : (w).cell? ⟨p, 4, none⟩ = some (.int .u64 r.old) := (h).cell 4; have pf4 : (w).frozen? ⟨p, 4, none⟩ = false := (h).free 4; have pc5 : (w).cell? ⟨p, 5, none⟩ = some (nx) := (h).cell 5; have pf5 : (w).frozen? ⟨p, 5, none⟩ = false := (h).free 5; have pc6 : (w).cell? ⟨p, 6, none⟩ = some (.bool bz) := (h).cell 6; have pf6 : (w).frozen? ⟨p, 6, none⟩ = false := (h).free 6; have pc7 : (w).cell? ⟨p, 7, none⟩ = some (.bool lv) := (h).cell 7; have pf7 : (w).frozen? ⟨p, 7, none⟩ = false := (h).free 7; have pc8 : (w).cell? ⟨p, 8, none⟩ = some (.bool wr) := (h).cell 8; have pf8 : (w).frozen? ⟨p, 8, none⟩ = false := (h).free 8; have pc9 : (w).cell? ⟨p, 9, none⟩ = some (.int .u64 sn) := (h).cell 9; have pf9 : (w).frozen? ⟨p, 9, none⟩ = false := (h).free 9; have pc10 : (w).cell? ⟨p, 10, none⟩ = some (.int .u64 vl) := (h).cell 10; have pf10 : (w).frozen? ⟨p, 10, none⟩ = false := (h).free 10; have pc11 : (w).cell? ⟨p, 11, none⟩ = some (.int .i64 en) := (h).cell 11; have pf11 : (w).frozen? ⟨p, 11, none⟩ = false := (h).free 11; have pc12 : (w).cell? ⟨p, 12, none⟩ = some (.int .i64 pt) := (h).cell 12; have pf12 : (w).frozen? ⟨p, 12, none⟩ = false := (h).free 12
  clear h
  go_enter Try.func20, Try.ntmps20
  go_wp2_with fail
  refine (pnone_any _ p g pc0).mono ?_
  rintro e w' ⟨rfl, rfl⟩
  go_wp2_with fail
  go_ret
  exact ⟨rfl, rfl⟩

theorem PPoints_any (w : World) (p g : Nat) (r : Rq) (nx : Value) (bz lv wr : Bool) (sn vl en pt : Int) (h : Blk w p (pcells g r nx bz lv wr sn vl en pt) 69) :
    Calls Try.prog 27 #[.pointer (some ⟨p, 0, none⟩)] w fun e w' => e = .returned (.int .i64 pt) ∧ w = w' := by
  have pc0 : (w).cell? ⟨p, 0, none⟩ = some (.pointer (some ⟨g, 0, none⟩)) := (h).cell 0; have pf0 : (w).frozen? ⟨p, 0, none⟩ = false := (h).free 0; have pc1 : (w).cell? ⟨p, 1, none⟩ = some (.int .i64 r.op) := (h).cell 1; have pf1 : (w).frozen? ⟨p, 1, none⟩ = false := (h).free 1; have pc2 : (w).cell? ⟨p, 2, none⟩ = some (.int .i64 r.addr) := (h).cell 2; have pf2 : (w).frozen? ⟨p, 2, none⟩ = false := (h).free 2; have pc3 : (w).cell? ⟨p, 3, none⟩ = some (.int .u64 r.val) := (h).cell 3; have pf3 : (w).frozen? ⟨p, 3, none⟩ = false := (h).free 3; have pc4 : (w).cell? ⟨p, 4, none⟩ = some (.int .u64 r.old) := (h).cell 4; have pf4 : (w).frozen? ⟨p, 4, none⟩ = false := (h).free 4; have pc5 : (w).cell? ⟨p, 5, none⟩ = some (nx) := (h).cell 5; have pf5 : (w).frozen? ⟨p, 5, none⟩ = false := (h).free 5; have pc6 : (w).cell? ⟨p, 6, none⟩ = some (.bool bz) := (h).cell 6; have pf6 : (w).frozen? ⟨p, 6, none⟩ = false := (h).free 6; have pc7 : (w).cell? ⟨p, 7, none⟩ = some (.bool lv) := (h).cell 7; have pf7 : (w).frozen? ⟨p, 7, none⟩ = false := (h).free 7; have pc8 : (w).cell? ⟨p, 8, none⟩ = some (.bool wr) := (h).cell 8; have pf8 : (w).frozen? ⟨p, 8, none⟩ = false := (h).free 8; have pc9 : (w).cell? ⟨p, 9, none⟩ = some (.int .u64 sn) := (h).cell 9; have pf9 : (w).frozen? ⟨p, 9, none⟩ = false := (h).free 9; have pc10 : (w).cell? ⟨p, 10, none⟩ = some (.int .u64 vl) := (h).cell 10; have pf10 : (w).frozen? ⟨p, 10, none⟩ = false := (h).free 10; have pc11 : (w).cell? ⟨p, 11, none⟩ = some (.int .i64 en) := (h).cell 11; have pf11 : (w).frozen? ⟨p, 11, none⟩ = false := (h).free 11; have pc12 : (w).cell? ⟨p, 12, none⟩ = some (.int .i64 pt) := (h).cell 12; have pf12 : (w).frozen? ⟨p, 12, none⟩ = false := (h).free 12
  clear h
  go_enter Try.func27, Try.ntmps27
  go_wp2_with fail
  refine (pnone_any _ p g pc0).mono ?_
  rintro e w' ⟨rfl, rfl⟩
  go_wp2_with fail
  go_ret
  exact ⟨rfl, rfl⟩


theorem ready_any (w : World) (p g : Nat) (r : Rq) (nx : Value) (bz lv wr : Bool) (sn vl en pt : Int) (h : Blk w p (pcells g r nx bz lv wr sn vl en pt) 69) :
    Calls Try.prog 45 #[.pointer (some ⟨p, 0, none⟩)] w fun e w' => e = .returned (.int .i64 (if bz || !lv then 80 else 0)) ∧ w = w' := by
  have pc0 : (w).cell? ⟨p, 0, none⟩ = some (.pointer (some ⟨g, 0, none⟩)) := (h).cell 0; have pf0 : (w).frozen? ⟨p, 0, none⟩ = false := (h).free 0; have pc1 : (w).cell? ⟨p, 1, none⟩ = some (.int .i64 r.op) := (h).cell 1; have pf1 : (w).frozen? ⟨p, 1, none⟩ = false := (h).free 1; have pc2 : (w).cell? ⟨p, 2, none⟩ = some (.int .i64 r.addr) := (h).cell 2; have pf2 : (w).frozen? ⟨p, 2, none⟩ = false := (h).free 2; have pc3 : (w).cell? ⟨p, 3, none⟩ = some (.int .u64 r.val) := (h).cell 3; have pf3 : (w).frozen? ⟨p, 3, none⟩ = false := (h).free 3; have pc4 : (w).cell? ⟨p, 4, none⟩ = some (.int .u64 r.old) := (h).cell 4; have pf4 : (w).frozen? ⟨p, 4, none⟩ = false := (h).free 4; have pc5 : (w).cell? ⟨p, 5, none⟩ = some (nx) := (h).cell 5; have pf5 : (w).frozen? ⟨p, 5, none⟩ = false := (h).free 5; have pc6 : (w).cell? ⟨p, 6, none⟩ = some (.bool bz) := (h).cell 6; have pf6 : (w).frozen? ⟨p, 6, none⟩ = false := (h).free 6; have pc7 : (w).cell? ⟨p, 7, none⟩ = some (.bool lv) := (h).cell 7; have pf7 : (w).frozen? ⟨p, 7, none⟩ = false := (h).free 7; have pc8 : (w).cell? ⟨p, 8, none⟩ = some (.bool wr) := (h).cell 8; have pf8 : (w).frozen? ⟨p, 8, none⟩ = false := (h).free 8; have pc9 : (w).cell? ⟨p, 9, none⟩ = some (.int .u64 sn) := (h).cell 9; have pf9 : (w).frozen? ⟨p, 9, none⟩ = false := (h).free 9; have pc10 : (w).cell? ⟨p, 10, none⟩ = some (.int .u64 vl) := (h).cell 10; have pf10 : (w).frozen? ⟨p, 10, none⟩ = false := (h).free 10; have pc11 : (w).cell? ⟨p, 11, none⟩ = some (.int .i64 en) := (h).cell 11; have pf11 : (w).frozen? ⟨p, 11, none⟩ = false := (h).free 11; have pc12 : (w).cell? ⟨p, 12, none⟩ = some (.int .i64 pt) := (h).cell 12; have pf12 : (w).frozen? ⟨p, 12, none⟩ = false := (h).free 12
  clear h
  cases bz with
  | true =>
    go_enter Try.func45, Try.ntmps45
    go_wp2_with fail
    refine (pnone_any _ p g pc0).mono ?_
    rintro e w' ⟨rfl, rfl⟩
    go_wp2_with fail
    go_ret
    exact ⟨rfl, rfl⟩
  | false =>
    cases lv with
    | true =>
      go_enter Try.func45, Try.ntmps45
      go_wp2_with fail
      refine (pnone_any _ p g pc0).mono ?_
      rintro e w' ⟨rfl, rfl⟩
      go_wp2_with fail
      go_ret
      exact ⟨rfl, rfl⟩
    | false =>
      go_enter Try.func45, Try.ntmps45
      go_wp2_with fail
      refine (pnone_any _ p g pc0).mono ?_
      rintro e w' ⟨rfl, rfl⟩
      go_wp2_with fail
      go_ret
      exact ⟨rfl, rfl⟩

def touchErr (bz lv : Bool) (a : Int) : Int := if bz || !lv then 80 else if a < 8 then 2 else 0
theorem touches_any (w : World) (p g : Nat) (r : Rq) (nx : Value) (a : Int) (bz lv wr : Bool) (sn vl en pt : Int) (h : Blk w p (pcells g r nx bz lv wr sn vl en pt) 69) :
    Calls Try.prog 40 #[.pointer (some ⟨p, 0, none⟩), .int .i64 a] w fun e w' => e = .returned (.int .i64 (touchErr bz lv a)) ∧ w = w' := by
  have HB := Lib.hid h
  clear h
  unfold touchErr
  by_cases hc : (bz || !lv) = true
  · simp only [hc, if_true]
    have HR := Lib.hid (ready_any w p g r nx bz lv wr sn vl en pt HB.out)
    simp only [hc, if_true] at HR
    have HR' := HR
    clear HR
    go_enter Try.func40, Try.ntmps40
    go_wp2_with fail
    refine HR'.out.mono ?_
    rintro e w' ⟨rfl, rfl⟩
    go_wp2_with fail
    go_ret
    exact ⟨rfl, rfl⟩
  · have hf : (bz || !lv) = false := by simpa using hc
    simp only [hf, Bool.false_eq_true, if_false]
    have HR := Lib.hid (ready_any w p g r nx bz lv wr sn vl en pt HB.out)
    simp only [hf, Bool.false_eq_true, if_false] at HR
    clear hc hf
    by_cases ha : a < 8
    · simp only [if_pos ha]
      go_enter Try.func40, Try.ntmps40
      go_wp2_with fail
      refine HR.out.mono ?_
      rintro e w' ⟨rfl, rfl⟩
      go_wp2_with fail
      go_ret
      exact ⟨rfl, rfl⟩
    · simp only [if_neg ha]
      go_enter Try.func40, Try.ntmps40
      go_wp2_with fail
      refine HR.out.mono ?_
      rintro e w' ⟨rfl, rfl⟩
      go_wp2_with fail
      go_ret
      exact ⟨rfl, rfl⟩

/-- Does something come behind an answer? -/
def isNext : Value → Bool
  | .nilFunc => false
  | _ => true

end Go.Proofs.Ytilffolppnnkaaa
