/- A path of layer 8: counting, settling, points, leaving. -/
import Derived.Test.YtilffolppnnkaaaSoft1
namespace Go.Proofs.Ytilffolppnnkaaa
set_option maxRecDepth 100000
open Go.RowKit

def CountPost (w : World) (p g : Nat) (by_ : Int) (th : Value) (bz lv wr : Bool) (sn vl en pt : Int) (e : Ending) (w' : World) : Prop :=
  e = .returned (.tuple #[]) ∧ Blk w' p (pcells g ⟨1, 1, 0, 0⟩ (.func (.func 88) #[] #[.pointer (some ⟨(w.heap.size + 1 + 1 + 1), 0, none⟩)]) bz lv wr sn vl en pt) 69 ∧
  Blk w' w.heap.size [.pointer (some ⟨p, 0, none⟩)] 31 ∧ Blk w' (w.heap.size + 1) [.int .u64 by_] 23 ∧ Blk w' (w.heap.size + 1 + 1) [th] 1 ∧
  Blk w' (w.heap.size + 1 + 1 + 1) [(.func (.func 60) #[] #[.pointer (some ⟨w.heap.size, 0, none⟩), .pointer (some ⟨(w.heap.size + 1), 0, none⟩), .pointer (some ⟨(w.heap.size + 1 + 1), 0, none⟩)])] 94 ∧ Chg [p] w w'
theorem count_any (w : World) (p g : Nat) (r : Rq) (nx : Value) (by_ : Int) (F : FuncId) (bd cs : Array Value) (bz lv wr : Bool) (sn vl en pt : Int) (h : Blk w p (pcells g r nx bz lv wr sn vl en pt) 69) :
    Calls Try.prog 38 #[.pointer (some ⟨p, 0, none⟩), .int .u64 by_, .func (.func F) bd cs] w (CountPost w p g by_ (.func (.func F) bd cs) bz lv wr sn vl en pt) := by
  have HB := Lib.hid (((h.alloc (.cells #[.pointer (some ⟨p, 0, none⟩)] 31)).alloc (.cells #[.int .u64 by_] 23)).alloc (.cells #[.func (.func F) bd cs] 1))
  have HN1 := Lib.hid (((Blk.new w [.pointer (some ⟨p, 0, none⟩)] 31).alloc (.cells #[.int .u64 by_] 23)).alloc (.cells #[.func (.func F) bd cs] 1))
  have HN2 := Lib.hid ((Blk.new (w.alloc (.cells #[.pointer (some ⟨p, 0, none⟩)] 31)) [.int .u64 by_] 23).alloc (.cells #[.func (.func F) bd cs] 1))
  have HN3 := Lib.hid (Blk.new ((w.alloc (.cells #[.pointer (some ⟨p, 0, none⟩)] 31)).alloc (.cells #[.int .u64 by_] 23)) [.func (.func F) bd cs] 1)
  have HC := Lib.hid ((((Chg.refl [p] w).alloc (.cells #[.pointer (some ⟨p, 0, none⟩)] 31)).alloc (.cells #[.int .u64 by_] 23)).alloc (.cells #[.func (.func F) bd cs] 1))
  have hpl := h.lt
  clear h
  go_enter Try.func38, Try.ntmps38
  go_wp2_with fail
  refine (load_any _ p g r nx 1 _ _ _ bz lv wr sn vl en pt HB.out).mono ?_
  rintro e w' ⟨rfl, h1, h2, h3⟩
  have H1 := Lib.hid h1
  have H2 := Lib.hid h2
  have H3 := Lib.hid h3
  clear h1 h2 h3
  go_wp2_with fail
  go_end0
  simp only [World.size_alloc] at H1 H2 HN1 HN2 HN3
  exact ⟨rfl, H1.out, H3.out.blk HN1.out (by simp; omega), H3.out.blk HN2.out (by simp; omega), H3.out.blk HN3.out (by simp; omega), H2.out, HC.out.trans H3.out⟩

/-- The count that was loaded is to be turned. -/
def Count1Post (w : World) (p g : Nat) (bp bb bt : Nat) (o v : Int) (bz lv wr : Bool) (sn vl en pt : Int) (e : Ending) (w' : World) : Prop :=
  e = .returned (.tuple #[]) ∧ Blk w' p (pcells g ⟨3, 1, v, o⟩ (.func (.func 89) #[] #[.pointer (some ⟨w.heap.size, 0, none⟩)]) bz lv wr sn vl en pt) 69 ∧
  Blk w' w.heap.size [(.func (.func 62) #[] #[.pointer (some ⟨bp, 0, none⟩), .pointer (some ⟨bb, 0, none⟩), .pointer (some ⟨bt, 0, none⟩)])] 93 ∧ Chg [p] w w'
theorem count1_any (w : World) (p g : Nat) (r : Rq) (nx : Value) (v by_ : Int) (bp bb bt : Nat) (bz lv wr : Bool) (sn vl en pt : Int) (h : Blk w p (pcells g r nx bz lv wr sn vl en pt) 69)
    (h1 : Blk w bp [.pointer (some ⟨p, 0, none⟩)] 31) (h2 : Blk w bb [.int .u64 by_] 23) :
    Calls Try.prog 60 #[.int .u64 v, .pointer (some ⟨bp, 0, none⟩), .pointer (some ⟨bb, 0, none⟩), .pointer (some ⟨bt, 0, none⟩)] w (Count1Post w p g bp bb bt v (IntKind.u64.wrap (v + by_)) bz lv wr sn vl en pt) := by
  have k1 : w.cell? ⟨bp, 0, none⟩ = some (.pointer (some ⟨p, 0, none⟩)) := h1.cell 0
  have k2 : w.cell? ⟨bb, 0, none⟩ = some (.int .u64 by_) := h2.cell 0
  have HB := Lib.hid h
  clear h h1 h2
  go_enter Try.func60, Try.ntmps60
  go_wp2_with fail
  refine (cas_any _ p g r nx 1 v (IntKind.u64.wrap (v + by_)) _ _ _ bz lv wr sn vl en pt HB.out).mono ?_
  rintro e w' ⟨rfl, h1, h2, h3⟩
  have H1 := Lib.hid h1
  have H2 := Lib.hid h2
  have H3 := Lib.hid h3
  clear h1 h2 h3
  go_wp2_with fail
  go_end0
  exact ⟨rfl, H1.out, H2.out, H3.out⟩

theorem count11_no (w : World) (p g : Nat) (r : Rq) (nx : Value) (by_ : Int) (F : FuncId) (bd cs : Array Value) (bp bb bt : Nat) (bz lv wr : Bool) (sn vl en pt : Int) (h : Blk w p (pcells g r nx bz lv wr sn vl en pt) 69)
    (h1 : Blk w bp [.pointer (some ⟨p, 0, none⟩)] 31) (h2 : Blk w bb [.int .u64 by_] 23) (h3 : Blk w bt [.func (.func F) bd cs] 1) :
    Calls Try.prog 62 #[.bool false, .pointer (some ⟨bp, 0, none⟩), .pointer (some ⟨bb, 0, none⟩), .pointer (some ⟨bt, 0, none⟩)] w (CountPost w p g by_ (.func (.func F) bd cs) bz lv wr sn vl en pt) := by
  have k1 : w.cell? ⟨bp, 0, none⟩ = some (.pointer (some ⟨p, 0, none⟩)) := h1.cell 0
  have k2 : w.cell? ⟨bb, 0, none⟩ = some (.int .u64 by_) := h2.cell 0
  have k3 : w.cell? ⟨bt, 0, none⟩ = some (.func (.func F) bd cs) := h3.cell 0
  have HB := Lib.hid h
  clear h h1 h2 h3
  go_enter Try.func62, Try.ntmps62
  go_wp2_with fail
  refine (count_any _ p g r nx by_ _ _ _ bz lv wr sn vl en pt HB.out).mono ?_
  rintro e w' ⟨rfl, h1⟩
  have H1 := Lib.hid h1
  clear h1
  go_wp2_with fail
  go_end0
  exact ⟨rfl, H1.out⟩
theorem count11_yes (w : World) (F : FuncId) (hF : Plain F) (bd cs : Array Value) (bp bb bt : Nat) (Q : World → Prop) (h3 : Blk w bt [.func (.func F) bd cs] 1)
    (h : Calls Try.prog F (bd ++ cs) w fun e w' => e = .returned (.tuple #[]) ∧ Q w') :
    Calls Try.prog 62 #[.bool true, .pointer (some ⟨bp, 0, none⟩), .pointer (some ⟨bb, 0, none⟩), .pointer (some ⟨bt, 0, none⟩)] w fun e w' => e = .returned (.tuple #[]) ∧ Q w' := by
  have k3 : w.cell? ⟨bt, 0, none⟩ = some (.func (.func F) bd cs) := h3.cell 0
  unfold Plain at hF
  have H := Lib.hid h
  clear h h3
  go_enter Try.func62, Try.ntmps62
  go_wp2_with fail
  refine H.out.mono ?_
  rintro e w' ⟨rfl, hq⟩
  go_wp2_with fail
  go_end0
  exact ⟨rfl, hq⟩

def SettlePost (w : World) (p g : Nat) (th : Value) (bz lv wr : Bool) (sn vl en pt : Int) (e : Ending) (w' : World) : Prop :=
  e = .returned (.tuple #[]) ∧ Blk w' p (pcells g ⟨1, 0, 0, 0⟩ (.func (.func 88) #[] #[.pointer (some ⟨(w.heap.size + 1 + 1), 0, none⟩)]) bz lv wr sn vl en pt) 69 ∧
  Blk w' w.heap.size [.pointer (some ⟨p, 0, none⟩)] 31 ∧ Blk w' (w.heap.size + 1) [th] 94 ∧
  Blk w' (w.heap.size + 1 + 1) [(.func (.func 90) #[] #[.pointer (some ⟨w.heap.size, 0, none⟩), .pointer (some ⟨(w.heap.size + 1), 0, none⟩)])] 94 ∧ Chg [p] w w'
theorem settle_any (w : World) (p g : Nat) (r : Rq) (nx : Value) (F : FuncId) (bd cs : Array Value) (bz lv wr : Bool) (sn vl en pt : Int) (h : Blk w p (pcells g r nx bz lv wr sn vl en pt) 69) :
    Calls Try.prog 63 #[.pointer (some ⟨p, 0, none⟩), .func (.func F) bd cs] w (SettlePost w p g (.func (.func F) bd cs) bz lv wr sn vl en pt) := by
  have HB := Lib.hid ((h.alloc (.cells #[.pointer (some ⟨p, 0, none⟩)] 31)).alloc (.cells #[.func (.func F) bd cs] 94))
  have HN1 := Lib.hid ((Blk.new w [.pointer (some ⟨p, 0, none⟩)] 31).alloc (.cells #[.func (.func F) bd cs] 94))
  have HN3 := Lib.hid (Blk.new (w.alloc (.cells #[.pointer (some ⟨p, 0, none⟩)] 31)) [.func (.func F) bd cs] 94)
  have HC := Lib.hid (((Chg.refl [p] w).alloc (.cells #[.pointer (some ⟨p, 0, none⟩)] 31)).alloc (.cells #[.func (.func F) bd cs] 94))
  have hpl := h.lt
  clear h
  go_enter Try.func63, Try.ntmps63
  go_wp2_with fail
  refine (load_any _ p g r nx 0 _ _ _ bz lv wr sn vl en pt HB.out).mono ?_
  rintro e w' ⟨rfl, h1, h2, h3⟩
  have H1 := Lib.hid h1
  have H2 := Lib.hid h2
  have H3 := Lib.hid h3
  clear h1 h2 h3
  go_wp2_with fail
  go_end0
  simp only [World.size_alloc] at H1 H2 HN1 HN3
  exact ⟨rfl, H1.out, H3.out.blk HN1.out (by simp; omega), H3.out.blk HN3.out (by simp; omega), H2.out, HC.out.trans H3.out⟩

theorem settle1_odd (w : World) (p g : Nat) (r : Rq) (nx : Value) (v : Int) (hv0 : 0 ≤ v) (hv : v % 2 = 1) (F : FuncId) (bd cs : Array Value) (bp bt : Nat) (bz lv wr : Bool) (sn vl en pt : Int) (h : Blk w p (pcells g r nx bz lv wr sn vl en pt) 69)
    (h1 : Blk w bp [.pointer (some ⟨p, 0, none⟩)] 31) (h3 : Blk w bt [.func (.func F) bd cs] 94) :
    Calls Try.prog 90 #[.int .u64 v, .pointer (some ⟨bp, 0, none⟩), .pointer (some ⟨bt, 0, none⟩)] w (SettlePost w p g (.func (.func F) bd cs) bz lv wr sn vl en pt) := by
  have k1 : w.cell? ⟨bp, 0, none⟩ = some (.pointer (some ⟨p, 0, none⟩)) := h1.cell 0
  have k3 : w.cell? ⟨bt, 0, none⟩ = some (.func (.func F) bd cs) := h3.cell 0
  have HB := Lib.hid h
  have ht : (v.tmod 2 == 1) = true := by rw [Int.tmod_eq_emod_of_nonneg hv0, hv]; rfl
  clear h h1 h3 hv hv0
  go_enter Try.func90, Try.ntmps90
  go_wp2_with fail
  refine (settle_any _ p g r nx _ _ _ bz lv wr sn vl en pt HB.out).mono ?_
  rintro e w' ⟨rfl, h1⟩
  have H1 := Lib.hid h1
  clear h1
  go_wp2_with fail
  go_end0
  exact ⟨rfl, H1.out⟩
theorem settle1_even (w : World) (v : Int) (hv0 : 0 ≤ v) (hv : v % 2 = 0) (F : FuncId) (hF : Plain F) (bd cs : Array Value) (bp bt : Nat) (Q : World → Prop) (h3 : Blk w bt [.func (.func F) bd cs] 94)
    (h : Calls Try.prog F (bd ++ #[.int .u64 v] ++ cs) w fun e w' => e = .returned (.tuple #[]) ∧ Q w') :
    Calls Try.prog 90 #[.int .u64 v, .pointer (some ⟨bp, 0, none⟩), .pointer (some ⟨bt, 0, none⟩)] w fun e w' => e = .returned (.tuple #[]) ∧ Q w' := by
  have k3 : w.cell? ⟨bt, 0, none⟩ = some (.func (.func F) bd cs) := h3.cell 0
  have ht : (v.tmod 2 == 1) = false := by rw [Int.tmod_eq_emod_of_nonneg hv0, hv]; rfl
  unfold Plain at hF
  have H := Lib.hid h
  clear h h3 hv hv0
  go_enter Try.func90, Try.ntmps90
  go_wp2_with fail
  refine H.out.mono ?_
  rintro e w' ⟨rfl, hq⟩
  go_wp2_with fail
  go_end0
  exact ⟨rfl, hq⟩

theorem point_any (w : World) (p g : Nat) (r : Rq) (nx : Value) (bz lv wr : Bool) (sn vl en pt v : Int) (h : Blk w p (pcells g r nx bz lv wr sn vl en pt) 69) :
    Calls Try.prog 72 #[.pointer (some ⟨p, 0, none⟩), .int .u64 v] w fun e w' => e = .returned (.tuple #[]) ∧ Blk w' p (pcells g r nx bz lv wr v vl en (wrap64 (pt + 1))) 69 ∧ Chg [p] w w' := by
  have HB := Lib.hid h
  have pc0 : (w).cell? ⟨p, 0, none⟩ = some (.pointer (some ⟨g, 0, none⟩)) := (h).cell 0; have pf0 : (w).frozen? ⟨p, 0, none⟩ = false := (h).free 0; have pc1 : (w).cell? ⟨p, 1, none⟩ = some (.int .i64 r.op) := (h).cell 1; have pf1 : (w).frozen? ⟨p, 1, none⟩ = false := (h).free 1; have pc2 : (w).cell? ⟨p, 2, none⟩ = some (.int .i64 r.addr) := (h).cell 2; have pf2 : (w).frozen? ⟨p, 2, none⟩ = false := (h).free 2; have pc3 : (w).cell? ⟨p, 3, none⟩ = some (.int .u64 r.val) := (h).cell 3; have pf3 : (w).frozen? ⟨p, 3, none⟩ = false := (h).free 3; have pc4 : (w).cell? ⟨p, 4, none⟩ = some (.int .u64 r.old) := (h).cell 4; have pf4 : (w).frozen? ⟨p, 4, none⟩ = false := (h).free 4; have pc5 : (w).cell? ⟨p, 5, none⟩ = some (nx) := (h).cell 5; have pf5 : (w).frozen? ⟨p, 5, none⟩ = false := (h).free 5; have pc6 : (w).cell? ⟨p, 6, none⟩ = some (.bool bz) := (h).cell 6; have pf6 : (w).frozen? ⟨p, 6, none⟩ = false := (h).free 6; have pc7 : (w).cell? ⟨p, 7, none⟩ = some (.bool lv) := (h).cell 7; have pf7 : (w).frozen? ⟨p, 7, none⟩ = false := (h).free 7; have pc8 : (w).cell? ⟨p, 8, none⟩ = some (.bool wr) := (h).cell 8; have pf8 : (w).frozen? ⟨p, 8, none⟩ = false := (h).free 8; have pc9 : (w).cell? ⟨p, 9, none⟩ = some (.int .u64 sn) := (h).cell 9; have pf9 : (w).frozen? ⟨p, 9, none⟩ = false := (h).free 9; have pc10 : (w).cell? ⟨p, 10, none⟩ = some (.int .u64 vl) := (h).cell 10; have pf10 : (w).frozen? ⟨p, 10, none⟩ = false := (h).free 10; have pc11 : (w).cell? ⟨p, 11, none⟩ = some (.int .i64 en) := (h).cell 11; have pf11 : (w).frozen? ⟨p, 11, none⟩ = false := (h).free 11; have pc12 : (w).cell? ⟨p, 12, none⟩ = some (.int .i64 pt) := (h).cell 12; have pf12 : (w).frozen? ⟨p, 12, none⟩ = false := (h).free 12
  clear h
  go_enter Try.func72, Try.ntmps72
  go_wp2_with fail
  go_end0
  refine ⟨rfl, (HB.out.set 9 _).set 12 _, ?_⟩
  repeat (first | with_reducible exact HB | with_reducible exact Chg.refl _ _ | with_reducible refine Chg.setCell ?_ (by simp) _ | with_reducible refine Chg.alloc ?_ _ | with_reducible refine Chg.drew ?_)
theorem done_any (w : World) (p g : Nat) (r : Rq) (nx : Value) (bz lv wr : Bool) (sn vl en pt : Int) (h : Blk w p (pcells g r nx bz lv wr sn vl en pt) 69) :
    Calls Try.prog 73 #[.pointer (some ⟨p, 0, none⟩)] w fun e w' => e = .returned (.tuple #[]) ∧ Blk w' p (pcells g r nx false lv wr sn vl en pt) 69 ∧ Chg [p] w w' := by
  have HB := Lib.hid h
  have pc0 : (w).cell? ⟨p, 0, none⟩ = some (.pointer (some ⟨g, 0, none⟩)) := (h).cell 0; have pf0 : (w).frozen? ⟨p, 0, none⟩ = false := (h).free 0; have pc1 : (w).cell? ⟨p, 1, none⟩ = some (.int .i64 r.op) := (h).cell 1; have pf1 : (w).frozen? ⟨p, 1, none⟩ = false := (h).free 1; have pc2 : (w).cell? ⟨p, 2, none⟩ = some (.int .i64 r.addr) := (h).cell 2; have pf2 : (w).frozen? ⟨p, 2, none⟩ = false := (h).free 2; have pc3 : (w).cell? ⟨p, 3, none⟩ = some (.int .u64 r.val) := (h).cell 3; have pf3 : (w).frozen? ⟨p, 3, none⟩ = false := (h).free 3; have pc4 : (w).cell? ⟨p, 4, none⟩ = some (.int .u64 r.old) := (h).cell 4; have pf4 : (w).frozen? ⟨p, 4, none⟩ = false := (h).free 4; have pc5 : (w).cell? ⟨p, 5, none⟩ = some (nx) := (h).cell 5; have pf5 : (w).frozen? ⟨p, 5, none⟩ = false := (h).free 5; have pc6 : (w).cell? ⟨p, 6, none⟩ = some (.bool bz) := (h).cell 6; have pf6 : (w).frozen? ⟨p, 6, none⟩ = false := (h).free 6; have pc7 : (w).cell? ⟨p, 7, none⟩ = some (.bool lv) := (h).cell 7; have pf7 : (w).frozen? ⟨p, 7, none⟩ = false := (h).free 7; have pc8 : (w).cell? ⟨p, 8, none⟩ = some (.bool wr) := (h).cell 8; have pf8 : (w).frozen? ⟨p, 8, none⟩ = false := (h).free 8; have pc9 : (w).cell? ⟨p, 9, none⟩ = some (.int .u64 sn) := (h).cell 9; have pf9 : (w).frozen? ⟨p, 9, none⟩ = false := (h).free 9; have pc10 : (w).cell? ⟨p, 10, none⟩ = some (.int .u64 vl) := (h).cell 10; have pf10 : (w).frozen? ⟨p, 10, none⟩ = false := (h).free 10; have pc11 : (w).cell? ⟨p, 11, none⟩ = some (.int .i64 en) := (h).cell 11; have pf11 : (w).frozen? ⟨p, 11, none⟩ = false := (h).free 11; have pc12 : (w).cell? ⟨p, 12, none⟩ = some (.int .i64 pt) := (h).cell 12; have pf12 : (w).frozen? ⟨p, 12, none⟩ = false := (h).free 12
  clear h
  go_enter Try.func73, Try.ntmps73
  go_wp2_with fail
  go_end0
  refine ⟨rfl, HB.out.set 6 _, ?_⟩
  repeat (first | with_reducible exact HB | with_reducible exact Chg.refl _ _ | with_reducible refine Chg.setCell ?_ (by simp) _ | with_reducible refine Chg.alloc ?_ _ | with_reducible refine Chg.drew ?_)
theorem began_any (w : World) (p g : Nat) (r : Rq) (nx : Value) (bz lv wr : Bool) (sn vl en pt v : Int) (h : Blk w p (pcells g r nx bz lv wr sn vl en pt) 69) :
    Calls Try.prog 64 #[.pointer (some ⟨p, 0, none⟩), .int .u64 v] w fun e w' => e = .returned (.tuple #[]) ∧ Blk w' p (pcells g r nx false true wr v vl en (wrap64 (pt + 1))) 69 ∧ Chg [p] w w' := by
  have HB := Lib.hid h
  clear h
  go_enter Try.func64, Try.ntmps64
  go_wp2_with fail
  refine (point_any _ p g r nx bz lv wr sn vl en pt v HB.out).mono ?_
  rintro e w1 ⟨rfl, h1, h2⟩
  have H1 := Lib.hid h1
  have H2 := Lib.hid h2
  have pc0 : (w1).cell? ⟨p, 0, none⟩ = some (.pointer (some ⟨g, 0, none⟩)) := (h1).cell 0; have pf0 : (w1).frozen? ⟨p, 0, none⟩ = false := (h1).free 0; have pc1 : (w1).cell? ⟨p, 1, none⟩ = some (.int .i64 r.op) := (h1).cell 1; have pf1 : (w1).frozen? ⟨p, 1, none⟩ = false := (h1).free 1; have pc2 : (w1).cell? ⟨p, 2, none⟩ = some (.int .i64 r.addr) := (h1).cell 2; have pf2 : (w1).frozen? ⟨p, 2, none⟩ = false := (h1).free 2; have pc3 : (w1).cell? ⟨p, 3, none⟩ = some (.int .u64 r.val) := (h1).cell 3; have pf3 : (w1).frozen? ⟨p, 3, none⟩ = false := (h1).free 3; have pc4 : (w1).cell? ⟨p, 4, none⟩ = some (.int .u64 r.old) := (h1).cell 4; have pf4 : (w1).frozen? ⟨p, 4, none⟩ = false := (h1).free 4; have pc5 : (w1).cell? ⟨p, 5, none⟩ = some (nx) := (h1).cell 5; have pf5 : (w1).frozen? ⟨p, 5, none⟩ = false := (h1).free 5; have pc6 : (w1).cell? ⟨p, 6, none⟩ = some (.bool bz) := (h1).cell 6; have pf6 : (w1).frozen? ⟨p, 6, none⟩ = false := (h1).free 6; have pc7 : (w1).cell? ⟨p, 7, none⟩ = some (.bool lv) := (h1).cell 7; have pf7 : (w1).frozen? ⟨p, 7, none⟩ = false := (h1).free 7; have pc8 : (w1).cell? ⟨p, 8, none⟩ = some (.bool wr) := (h1).cell 8; have pf8 : (w1).frozen? ⟨p, 8, none⟩ = false := (h1).free 8; have pc9 : (w1).cell? ⟨p, 9, none⟩ = some (.int .u64 v) := (h1).cell 9; have pf9 : (w1).frozen? ⟨p, 9, none⟩ = false := (h1).free 9; have pc10 : (w1).cell? ⟨p, 10, none⟩ = some (.int .u64 vl) := (h1).cell 10; have pf10 : (w1).frozen? ⟨p, 10, none⟩ = false := (h1).free 10; have pc11 : (w1).cell? ⟨p, 11, none⟩ = some (.int .i64 en) := (h1).cell 11; have pf11 : (w1).frozen? ⟨p, 11, none⟩ = false := (h1).free 11; have pc12 : (w1).cell? ⟨p, 12, none⟩ = some (.int .i64 (wrap64 (pt + 1))) := (h1).cell 12; have pf12 : (w1).frozen? ⟨p, 12, none⟩ = false := (h1).free 12
  clear h1 h2
  go_wp2_with fail
  refine (done_any _ p g r nx bz true wr v vl en (wrap64 (pt + 1)) (H1.out.set 7 (.bool true))).mono ?_
  rintro e w2 ⟨rfl, h1, h2⟩
  have H3 := Lib.hid h1
  have H4 := Lib.hid h2
  clear h1 h2
  go_wp2_with fail
  go_end0
  refine ⟨rfl, H3.out, (H2.out.setCell ?_ _).trans H4.out⟩
  simp
theorem wait_any (w : World) (p g : Nat) (r : Rq) (nx : Value) (bz lv wr : Bool) (sn vl en pt : Int) (h : Blk w p (pcells g r nx bz lv wr sn vl en pt) 69) :
    Calls Try.prog 39 #[.pointer (some ⟨p, 0, none⟩)] w (SettlePost w p g (.func (.func 64) #[.pointer (some ⟨p, 0, none⟩)] #[]) bz lv wr sn vl en pt) := by
  have HB := Lib.hid h
  clear h
  go_enter Try.func39, Try.ntmps39
  go_wp2_with fail
  refine (settle_any _ p g r nx _ _ _ bz lv wr sn vl en pt HB.out).mono ?_
  rintro e w' ⟨rfl, h1⟩
  have H1 := Lib.hid h1
  clear h1
  go_wp2_with fail
  go_end0
  exact ⟨rfl, H1.out⟩

/-- An attempt is to end so. -/
def LeavePost (w : World) (p g : Nat) (how : Int) (bz lv wr : Bool) (sn vl en pt : Int) (e : Ending) (w' : World) : Prop :=
  e = .returned (.tuple #[]) ∧ ∃ n b1 b2 b3 b4 b5, w.heap.size = n ∧ n ≤ b1 ∧ n ≤ b2 ∧ n ≤ b3 ∧ n ≤ b4 ∧ n ≤ b5 ∧ ∃ b6, n ≤ b6 ∧
  Blk w' p (pcells g ⟨1, 1, 0, 0⟩ (.func (.func 88) #[] #[.pointer (some ⟨b6, 0, none⟩)]) bz lv wr sn vl en pt) 69 ∧
  Blk w' b1 [.pointer (some ⟨p, 0, none⟩)] 31 ∧ Blk w' b2 [.int .i64 how] 3 ∧
  Blk w' b3 [.pointer (some ⟨p, 0, none⟩)] 31 ∧ Blk w' b4 [.int .u64 18446744073709551615] 23 ∧ Blk w' b5 [(.func (.func 75) #[] #[.pointer (some ⟨b2, 0, none⟩), .pointer (some ⟨b1, 0, none⟩)])] 1 ∧
  Blk w' b6 [(.func (.func 60) #[] #[.pointer (some ⟨b3, 0, none⟩), .pointer (some ⟨b4, 0, none⟩), .pointer (some ⟨b5, 0, none⟩)])] 94 ∧ Chg [p] w w'
theorem leave_any (w : World) (p g : Nat) (r : Rq) (nx : Value) (how : Int) (bz lv wr : Bool) (sn vl en pt : Int) (h : Blk w p (pcells g r nx bz lv wr sn vl en pt) 69) :
    Calls Try.prog 44 #[.pointer (some ⟨p, 0, none⟩), .int .i64 how] w (LeavePost w p g how bz lv wr sn vl en pt) := by
  have HB := Lib.hid ((h.alloc (.cells #[.pointer (some ⟨p, 0, none⟩)] 31)).alloc (.cells #[.int .i64 how] 3))
  have HN1 := Lib.hid ((Blk.new w [.pointer (some ⟨p, 0, none⟩)] 31).alloc (.cells #[.int .i64 how] 3))
  have HN2 := Lib.hid (Blk.new (w.alloc (.cells #[.pointer (some ⟨p, 0, none⟩)] 31)) [.int .i64 how] 3)
  have HC := Lib.hid (((Chg.refl [p] w).alloc (.cells #[.pointer (some ⟨p, 0, none⟩)] 31)).alloc (.cells #[.int .i64 how] 3))
  have hpl := h.lt
  clear h
  go_enter Try.func44, Try.ntmps44
  go_wp2_with fail
  refine (count_any _ p g r nx _ _ _ _ bz lv wr sn vl en pt HB.out).mono ?_
  rintro e w' ⟨rfl, h1, h2, h3, h4, h5, h6⟩
  have H1 := Lib.hid h1
  have H2 := Lib.hid h2
  have H3 := Lib.hid h3
  have H4 := Lib.hid h4
  have H5 := Lib.hid h5
  have H6 := Lib.hid h6
  clear h1 h2 h3 h4 h5 h6
  go_wp2_with fail
  go_end0
  simp only [World.size_alloc] at H1 H2 H3 H4 H5 HN1 HN2
  exact ⟨rfl, _, _, _, _, _, _, rfl, by omega, by omega, by omega, by omega, by omega, _, by omega, H1.out, H6.out.blk HN1.out (by simp; omega), H6.out.blk HN2.out (by simp; omega), H2.out, H3.out, H4.out, H5.out, HC.out.trans H6.out⟩

theorem leave1_any (w : World) (p g : Nat) (r : Rq) (nx : Value) (how : Int) (bh bp : Nat) (bz lv wr : Bool) (sn vl en pt : Int) (h : Blk w p (pcells g r nx bz lv wr sn vl en pt) 69)
    (h1 : Blk w bp [.pointer (some ⟨p, 0, none⟩)] 31) (h2 : Blk w bh [.int .i64 how] 3) :
    Calls Try.prog 75 #[.pointer (some ⟨bh, 0, none⟩), .pointer (some ⟨bp, 0, none⟩)] w fun e w' => e = .returned (.tuple #[]) ∧ Blk w' p (pcells g r nx false false wr sn vl how pt) 69 ∧ Chg [p] w w' := by
  have HB := Lib.hid h
  have k1 : w.cell? ⟨bp, 0, none⟩ = some (.pointer (some ⟨p, 0, none⟩)) := h1.cell 0
  have k2 : w.cell? ⟨bh, 0, none⟩ = some (.int .i64 how) := h2.cell 0
  have hn1 : p ≠ bp := h.ne h1 (by decide)
  have hn2 : p ≠ bh := h.ne h2 (by decide)
  have H1 := Lib.hid h1
  have H2 := Lib.hid h2
  have pc0 : (w).cell? ⟨p, 0, none⟩ = some (.pointer (some ⟨g, 0, none⟩)) := (h).cell 0; have pf0 : (w).frozen? ⟨p, 0, none⟩ = false := (h).free 0; have pc1 : (w).cell? ⟨p, 1, none⟩ = some (.int .i64 r.op) := (h).cell 1; have pf1 : (w).frozen? ⟨p, 1, none⟩ = false := (h).free 1; have pc2 : (w).cell? ⟨p, 2, none⟩ = some (.int .i64 r.addr) := (h).cell 2; have pf2 : (w).frozen? ⟨p, 2, none⟩ = false := (h).free 2; have pc3 : (w).cell? ⟨p, 3, none⟩ = some (.int .u64 r.val) := (h).cell 3; have pf3 : (w).frozen? ⟨p, 3, none⟩ = false := (h).free 3; have pc4 : (w).cell? ⟨p, 4, none⟩ = some (.int .u64 r.old) := (h).cell 4; have pf4 : (w).frozen? ⟨p, 4, none⟩ = false := (h).free 4; have pc5 : (w).cell? ⟨p, 5, none⟩ = some (nx) := (h).cell 5; have pf5 : (w).frozen? ⟨p, 5, none⟩ = false := (h).free 5; have pc6 : (w).cell? ⟨p, 6, none⟩ = some (.bool bz) := (h).cell 6; have pf6 : (w).frozen? ⟨p, 6, none⟩ = false := (h).free 6; have pc7 : (w).cell? ⟨p, 7, none⟩ = some (.bool lv) := (h).cell 7; have pf7 : (w).frozen? ⟨p, 7, none⟩ = false := (h).free 7; have pc8 : (w).cell? ⟨p, 8, none⟩ = some (.bool wr) := (h).cell 8; have pf8 : (w).frozen? ⟨p, 8, none⟩ = false := (h).free 8; have pc9 : (w).cell? ⟨p, 9, none⟩ = some (.int .u64 sn) := (h).cell 9; have pf9 : (w).frozen? ⟨p, 9, none⟩ = false := (h).free 9; have pc10 : (w).cell? ⟨p, 10, none⟩ = some (.int .u64 vl) := (h).cell 10; have pf10 : (w).frozen? ⟨p, 10, none⟩ = false := (h).free 10; have pc11 : (w).cell? ⟨p, 11, none⟩ = some (.int .i64 en) := (h).cell 11; have pf11 : (w).frozen? ⟨p, 11, none⟩ = false := (h).free 11; have pc12 : (w).cell? ⟨p, 12, none⟩ = some (.int .i64 pt) := (h).cell 12; have pf12 : (w).frozen? ⟨p, 12, none⟩ = false := (h).free 12
  clear h h1 h2
  go_enter Try.func75, Try.ntmps75
  go_wp2_with fail
  go_region_held3 (fun w' => w'.cell? ⟨bp, 0, none⟩ = some (.pointer (some ⟨p, 0, none⟩)) ∧ w'.cell? ⟨bh, 0, none⟩ = some (.int .i64 how)) (exact ⟨(Chg.blk (S := [p]) (w := w) (by repeat (first | with_reducible exact Chg.refl _ _ | with_reducible refine Chg.setCell ?_ (by simp) _ | with_reducible refine Chg.alloc ?_ _ | with_reducible refine Chg.drew ?_)) H1.out (by simp; omega)).cell 0, (Chg.blk (S := [p]) (w := w) (by repeat (first | with_reducible exact Chg.refl _ _ | with_reducible refine Chg.setCell ?_ (by simp) _ | with_reducible refine Chg.alloc ?_ _ | with_reducible refine Chg.drew ?_)) H2.out (by simp; omega)).cell 0⟩) (fail)
  have HB' := Lib.hid (((HB.out.set 7 (.bool false)).set 11 (.int .i64 how)).drew)
  have HC := Lib.hid ((((Chg.refl [p] w).setCell (p := ⟨p, 7, none⟩) (by simp) (.bool false)).setCell (p := ⟨p, 11, none⟩) (by simp) (.int .i64 how)).drew)
  have hb1 : p ≠ bp := hn1
  have k1 : ((w.setCell ⟨p, 7, none⟩ (.bool false)).setCell ⟨p, 11, none⟩ (.int .i64 how)).drew.cell? ⟨bp, 0, none⟩ = some (.pointer (some ⟨p, 0, none⟩)) := (HC.out.blk H1.out (by simp; omega)).cell 0
  go_wp2_with fail
  refine (done_any _ p g r nx bz false wr sn vl how pt HB'.out).mono ?_
  rintro e w2 ⟨rfl, h1, h2⟩
  have H3 := Lib.hid h1
  have H4 := Lib.hid h2
  clear h1 h2
  go_wp2_with fail
  go_end0
  exact ⟨rfl, H3.out, HC.out.trans H4.out⟩

end Go.Proofs.Ytilffolppnnkaaa
