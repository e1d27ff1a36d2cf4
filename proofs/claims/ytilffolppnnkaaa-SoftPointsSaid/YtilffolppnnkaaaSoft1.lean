/- A path of layer 8: its smallest calls. -/
import Derived.Test.YtilffolppnnkaaaSLog6
import Derived.Deep.RegionHeld3
import Derived.Laws.EntriesVeiled
namespace Go.Proofs.Ytilffolppnnkaaa
set_option maxRecDepth 100000
open Go.RowKit

/-- A request. -/
structure Rq where
  op : Int
  addr : Int
  val : Int
  old : Int

/-- A path's cells. -/
def pcells (g : Nat) (r : Rq) (nx : Value) (busy live writing : Bool) (snap value ended points : Int) : List Value :=
  [.pointer (some ⟨g, 0, none⟩), .int .i64 r.op, .int .i64 r.addr, .int .u64 r.val, .int .u64 r.old, nx, .bool busy, .bool live, .bool writing, .int .u64 snap, .int .u64 value, .int .i64 ended, .int .i64 points]

set_option maxHeartbeats 1000000 in
theorem ask_any (w : World) (p g : Nat) (r r' : Rq) (nx : Value) (F : FuncId) (b : Nat) (bz lv wr : Bool) (sn vl en pt : Int) (h : Blk w p (pcells g r nx bz lv wr sn vl en pt) 69) :
    Calls Try.prog 87 #[.pointer (some ⟨p, 0, none⟩), .agg #[.int .i64 r'.op, .int .i64 r'.addr, .int .u64 r'.val, .int .u64 r'.old], .func (.func F) #[] #[.pointer (some ⟨b, 0, none⟩)]] w fun e w' => e = .returned (.tuple #[]) ∧ Blk w' p (pcells g r' (.func (.func F) #[] #[.pointer (some ⟨b, 0, none⟩)]) bz lv wr sn vl en pt) 69 ∧ Chg [p] w w' := by
  have HB := Lib.hid h
  have hpl := h.lt
  have pc0 : (w).cell? ⟨p, 0, none⟩ = some (.pointer (some ⟨g, 0, none⟩)) := (h).cell 0; have pf0 : (w).frozen? ⟨p, 0, none⟩ = false := (h).free 0; have pc1 : (w).cell? ⟨p, 1, none⟩ = some (.int .i64 r.op) := (h).cell 1; have pf1 : (w).frozen? ⟨p, 1, none⟩ = false := (h).free 1; have pc2 : (w).cell? ⟨p, 2, none⟩ = some (.int .i64 r.addr) := (h).cell 2; have pf2 : (w).frozen? ⟨p, 2, none⟩ = false := (h).free 2; have pc3 : (w).cell? ⟨p, 3, none⟩ = some (.int .u64 r.val) := (h).cell 3; have pf3 : (w).frozen? ⟨p, 3, none⟩ = false := (h).free 3; have pc4 : (w).cell? ⟨p, 4, none⟩ = some (.int .u64 r.old) := (h).cell 4; have pf4 : (w).frozen? ⟨p, 4, none⟩ = false := (h).free 4; have pc5 : (w).cell? ⟨p, 5, none⟩ = some (nx) := (h).cell 5; have pf5 : (w).frozen? ⟨p, 5, none⟩ = false := (h).free 5; have pc6 : (w).cell? ⟨p, 6, none⟩ = some (.bool bz) := (h).cell 6; have pf6 : (w).frozen? ⟨p, 6, none⟩ = false := (h).free 6; have pc7 : (w).cell? ⟨p, 7, none⟩ = some (.bool lv) := (h).cell 7; have pf7 : (w).frozen? ⟨p, 7, none⟩ = false := (h).free 7; have pc8 : (w).cell? ⟨p, 8, none⟩ = some (.bool wr) := (h).cell 8; have pf8 : (w).frozen? ⟨p, 8, none⟩ = false := (h).free 8; have pc9 : (w).cell? ⟨p, 9, none⟩ = some (.int .u64 sn) := (h).cell 9; have pf9 : (w).frozen? ⟨p, 9, none⟩ = false := (h).free 9; have pc10 : (w).cell? ⟨p, 10, none⟩ = some (.int .u64 vl) := (h).cell 10; have pf10 : (w).frozen? ⟨p, 10, none⟩ = false := (h).free 10; have pc11 : (w).cell? ⟨p, 11, none⟩ = some (.int .i64 en) := (h).cell 11; have pf11 : (w).frozen? ⟨p, 11, none⟩ = false := (h).free 11; have pc12 : (w).cell? ⟨p, 12, none⟩ = some (.int .i64 pt) := (h).cell 12; have pf12 : (w).frozen? ⟨p, 12, none⟩ = false := (h).free 12
  clear h
  go_enter Try.func87, Try.ntmps87
  go_wp2_with fail
  go_end0
  refine ⟨rfl, (((((HB.out.set 1 _).set 2 _).set 3 _).set 4 _).set 5 _).alloc _, ?_⟩
  repeat (first | with_reducible exact HB | with_reducible exact Chg.refl _ _ | with_reducible refine Chg.setCell ?_ (by simp) _ | with_reducible refine Chg.alloc ?_ _ | with_reducible refine Chg.drew ?_)

def LoadPost (w : World) (p g : Nat) (a : Int) (th : Value) (bz lv wr : Bool) (sn vl en pt : Int) (e : Ending) (w' : World) : Prop :=
  e = .returned (.tuple #[]) ∧ Blk w' p (pcells g ⟨1, a, 0, 0⟩ (.func (.func 88) #[] #[.pointer (some ⟨w.heap.size, 0, none⟩)]) bz lv wr sn vl en pt) 69 ∧ Blk w' w.heap.size [th] 94 ∧ Chg [p] w w'
theorem load_any (w : World) (p g : Nat) (r : Rq) (nx : Value) (a : Int) (F : FuncId) (bd cs : Array Value) (bz lv wr : Bool) (sn vl en pt : Int) (h : Blk w p (pcells g r nx bz lv wr sn vl en pt) 69) :
    Calls Try.prog 59 #[.pointer (some ⟨p, 0, none⟩), .int .i64 a, .func (.func F) bd cs] w (LoadPost w p g a (.func (.func F) bd cs) bz lv wr sn vl en pt) := by
  have HB := Lib.hid (h.alloc (.cells #[.func (.func F) bd cs] 94))
  have HN := Lib.hid (Blk.new w [.func (.func F) bd cs] 94)
  have hpl := h.lt
  clear h
  go_enter Try.func59, Try.ntmps59
  go_wp2_with fail
  refine (ask_any _ p g r ⟨1, a, 0, 0⟩ nx _ _ bz lv wr sn vl en pt HB.out).mono ?_
  rintro e w' ⟨rfl, h1, h2⟩
  have H1 := Lib.hid h1
  have H2 := Lib.hid h2
  clear h1 h2
  go_wp2_with fail
  go_end0
  exact ⟨rfl, H1.out, H2.out.blk HN.out (by simp; omega), ((Chg.refl [p] w).alloc _).trans H2.out⟩

def CasPost (w : World) (p g : Nat) (a o v : Int) (th : Value) (bz lv wr : Bool) (sn vl en pt : Int) (e : Ending) (w' : World) : Prop :=
  e = .returned (.tuple #[]) ∧ Blk w' p (pcells g ⟨3, a, v, o⟩ (.func (.func 89) #[] #[.pointer (some ⟨w.heap.size, 0, none⟩)]) bz lv wr sn vl en pt) 69 ∧ Blk w' w.heap.size [th] 93 ∧ Chg [p] w w'
theorem cas_any (w : World) (p g : Nat) (r : Rq) (nx : Value) (a o v : Int) (F : FuncId) (bd cs : Array Value) (bz lv wr : Bool) (sn vl en pt : Int) (h : Blk w p (pcells g r nx bz lv wr sn vl en pt) 69) :
    Calls Try.prog 61 #[.pointer (some ⟨p, 0, none⟩), .int .i64 a, .int .u64 o, .int .u64 v, .func (.func F) bd cs] w (CasPost w p g a o v (.func (.func F) bd cs) bz lv wr sn vl en pt) := by
  have HB := Lib.hid (h.alloc (.cells #[.func (.func F) bd cs] 93))
  have HN := Lib.hid (Blk.new w [.func (.func F) bd cs] 93)
  have hpl := h.lt
  clear h
  go_enter Try.func61, Try.ntmps61
  go_wp2_with fail
  refine (ask_any _ p g r ⟨3, a, v, o⟩ nx _ _ bz lv wr sn vl en pt HB.out).mono ?_
  rintro e w' ⟨rfl, h1, h2⟩
  have H1 := Lib.hid h1
  have H2 := Lib.hid h2
  clear h1 h2
  go_wp2_with fail
  go_end0
  exact ⟨rfl, H1.out, H2.out.blk HN.out (by simp; omega), ((Chg.refl [p] w).alloc _).trans H2.out⟩

def StorePost (w : World) (p g : Nat) (a v : Int) (th : Value) (bz lv wr : Bool) (sn vl en pt : Int) (e : Ending) (w' : World) : Prop :=
  e = .returned (.tuple #[]) ∧ Blk w' p (pcells g ⟨2, a, v, 0⟩ (.func (.func 103) #[] #[.pointer (some ⟨w.heap.size, 0, none⟩)]) bz lv wr sn vl en pt) 69 ∧ Blk w' w.heap.size [th] 1 ∧ Chg [p] w w'
theorem store_any (w : World) (p g : Nat) (r : Rq) (nx : Value) (a v : Int) (F : FuncId) (bd cs : Array Value) (bz lv wr : Bool) (sn vl en pt : Int) (h : Blk w p (pcells g r nx bz lv wr sn vl en pt) 69) :
    Calls Try.prog 96 #[.pointer (some ⟨p, 0, none⟩), .int .i64 a, .int .u64 v, .func (.func F) bd cs] w (StorePost w p g a v (.func (.func F) bd cs) bz lv wr sn vl en pt) := by
  have HB := Lib.hid (h.alloc (.cells #[.func (.func F) bd cs] 1))
  have HN := Lib.hid (Blk.new w [.func (.func F) bd cs] 1)
  have hpl := h.lt
  clear h
  go_enter Try.func96, Try.ntmps96
  go_wp2_with fail
  refine (ask_any _ p g r ⟨2, a, v, 0⟩ nx _ _ bz lv wr sn vl en pt HB.out).mono ?_
  rintro e w' ⟨rfl, h1, h2⟩
  have H1 := Lib.hid h1
  have H2 := Lib.hid h2
  clear h1 h2
  go_wp2_with fail
  go_end0
  exact ⟨rfl, H1.out, H2.out.blk HN.out (by simp; omega), ((Chg.refl [p] w).alloc _).trans H2.out⟩

/-- A function that is handed on: it is entered as it stands. -/
def Plain (F : FuncId) : Prop := ∀ (args : Array Value) (w : World), (callFunc F args).run Try.prog w = .ok (.enter F args) w

theorem load1_any (w : World) (b : Nat) (v : Int) (ok : Bool) (F : FuncId) (hF : Plain F) (bd cs : Array Value) (Q : World → Prop) (hb : Blk w b [.func (.func F) bd cs] 94)
    (h : Calls Try.prog F (bd ++ #[.int .u64 v] ++ cs) w fun e w' => e = .returned (.tuple #[]) ∧ Q w') :
    Calls Try.prog 88 #[.int .u64 v, .bool ok, .pointer (some ⟨b, 0, none⟩)] w fun e w' => e = .returned (.tuple #[]) ∧ Q w' := by
  have k0 : w.cell? ⟨b, 0, none⟩ = some (.func (.func F) bd cs) := hb.cell 0
  unfold Plain at hF
  have H := Lib.hid h
  clear h hb
  go_enter Try.func88, Try.ntmps88
  go_wp2_with fail
  refine H.out.mono ?_
  rintro e w' ⟨rfl, hq⟩
  go_wp2_with fail
  go_end0
  exact ⟨rfl, hq⟩
theorem cas1_any (w : World) (b : Nat) (v : Int) (ok : Bool) (F : FuncId) (hF : Plain F) (bd cs : Array Value) (Q : World → Prop) (hb : Blk w b [.func (.func F) bd cs] 93)
    (h : Calls Try.prog F (bd ++ #[.bool ok] ++ cs) w fun e w' => e = .returned (.tuple #[]) ∧ Q w') :
    Calls Try.prog 89 #[.int .u64 v, .bool ok, .pointer (some ⟨b, 0, none⟩)] w fun e w' => e = .returned (.tuple #[]) ∧ Q w' := by
  have k0 : w.cell? ⟨b, 0, none⟩ = some (.func (.func F) bd cs) := hb.cell 0
  unfold Plain at hF
  have H := Lib.hid h
  clear h hb
  go_enter Try.func89, Try.ntmps89
  go_wp2_with fail
  refine H.out.mono ?_
  rintro e w' ⟨rfl, hq⟩
  go_wp2_with fail
  go_end0
  exact ⟨rfl, hq⟩
theorem store1_any (w : World) (b : Nat) (v : Int) (ok : Bool) (F : FuncId) (hF : Plain F) (bd cs : Array Value) (Q : World → Prop) (hb : Blk w b [.func (.func F) bd cs] 1)
    (h : Calls Try.prog F (bd ++ cs) w fun e w' => e = .returned (.tuple #[]) ∧ Q w') :
    Calls Try.prog 103 #[.int .u64 v, .bool ok, .pointer (some ⟨b, 0, none⟩)] w fun e w' => e = .returned (.tuple #[]) ∧ Q w' := by
  have k0 : w.cell? ⟨b, 0, none⟩ = some (.func (.func F) bd cs) := hb.cell 0
  unfold Plain at hF
  have H := Lib.hid h
  clear h hb
  go_enter Try.func103, Try.ntmps103
  go_wp2_with fail
  refine H.out.mono ?_
  rintro e w' ⟨rfl, hq⟩
  go_wp2_with fail
  go_end0
  exact ⟨rfl, hq⟩

end Go.Proofs.Ytilffolppnnkaaa
