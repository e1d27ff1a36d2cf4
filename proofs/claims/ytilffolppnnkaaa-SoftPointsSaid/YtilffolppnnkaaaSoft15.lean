/- A path of layer 8: what it tells. -/
import Derived.Test.YtilffolppnnkaaaSoft14
import Derived.StillTailTactics
import Derived.RegionTactic
namespace Go.Proofs.Ytilffolppnnkaaa
set_option maxRecDepth 100000
open Go.RowKit

def Rq.val' (r : Rq) : Value := .agg #[.int .i64 r.op, .int .i64 r.addr, .int .u64 r.val, .int .u64 r.old]

theorem want_idle (w : World) (p g : Nat) (r : Rq) (bz lv wr : Bool) (sn vl en pt : Int) (h : Blk w p (pcells g r .nilFunc bz lv wr sn vl en pt) 69) :
    Calls Try.prog 23 #[.pointer (some ⟨p, 0, none⟩)] w fun e w' => e = .returned (.tuple #[r.val', .bool false]) ∧ Chg [] w w' := by
  have he : ∀ w : World, (binOp .neq 67 .nilFunc .nilFunc).run Try.prog w = .ok (.bool false) w := fun _ => by kernel_rfl
  have hn : (w.alloc (.cells #[.int .i64 0, .int .i64 0, .int .u64 0, .int .u64 0] 49)).cell? ⟨p, 0, none⟩ = some (.pointer (some ⟨g, 0, none⟩)) := (h.alloc _).cell 0
  have hpl := h.lt
  have HB := Lib.hid h
  obtain ⟨o, ad, va, ol⟩ := r
  have pc0 : (w).cell? ⟨p, 0, none⟩ = some (.pointer (some ⟨g, 0, none⟩)) := (h).cell 0; have pf0 : (w).frozen? ⟨p, 0, none⟩ = false := (h).free 0; have pc1 : (w).cell? ⟨p, 1, none⟩ = some (.int .i64 (⟨o, ad, va, ol⟩ : Rq).op) := (h).cell 1; have pf1 : (w).frozen? ⟨p, 1, none⟩ = false := (h).free 1; have pc2 : (w).cell? ⟨p, 2, none⟩ = some (.int .i64 (⟨o, ad, va, ol⟩ : Rq).addr) := (h).cell 2; have pf2 : (w).frozen? ⟨p, 2, none⟩ = false := (h).free 2; have pc3 : (w).cell? ⟨p, 3, none⟩ = some (.int .u64 (⟨o, ad, va, ol⟩ : Rq).val) := (h).cell 3; have pf3 : (w).frozen? ⟨p, 3, none⟩ = false := (h).free 3; have pc4 : (w).cell? ⟨p, 4, none⟩ = some (.int .u64 (⟨o, ad, va, ol⟩ : Rq).old) := (h).cell 4; have pf4 : (w).frozen? ⟨p, 4, none⟩ = false := (h).free 4; have pc5 : (w).cell? ⟨p, 5, none⟩ = some (.nilFunc) := (h).cell 5; have pf5 : (w).frozen? ⟨p, 5, none⟩ = false := (h).free 5; have pc6 : (w).cell? ⟨p, 6, none⟩ = some (.bool bz) := (h).cell 6; have pf6 : (w).frozen? ⟨p, 6, none⟩ = false := (h).free 6; have pc7 : (w).cell? ⟨p, 7, none⟩ = some (.bool lv) := (h).cell 7; have pf7 : (w).frozen? ⟨p, 7, none⟩ = false := (h).free 7; have pc8 : (w).cell? ⟨p, 8, none⟩ = some (.bool wr) := (h).cell 8; have pf8 : (w).frozen? ⟨p, 8, none⟩ = false := (h).free 8; have pc9 : (w).cell? ⟨p, 9, none⟩ = some (.int .u64 sn) := (h).cell 9; have pf9 : (w).frozen? ⟨p, 9, none⟩ = false := (h).free 9; have pc10 : (w).cell? ⟨p, 10, none⟩ = some (.int .u64 vl) := (h).cell 10; have pf10 : (w).frozen? ⟨p, 10, none⟩ = false := (h).free 10; have pc11 : (w).cell? ⟨p, 11, none⟩ = some (.int .i64 en) := (h).cell 11; have pf11 : (w).frozen? ⟨p, 11, none⟩ = false := (h).free 11; have pc12 : (w).cell? ⟨p, 12, none⟩ = some (.int .i64 pt) := (h).cell 12; have pf12 : (w).frozen? ⟨p, 12, none⟩ = false := (h).free 12
  clear h
  go_enter Try.func23, Try.ntmps23
  go_wp2_with fail
  refine (pnone_any _ p g hn).mono ?_
  rintro e w' ⟨rfl, rfl⟩
  go_wp2_with fail
  go_region
  all_goals (go_wp2_with fail)
  refine bodyPost_ret (v := .tuple #[(⟨o, ad, va, ol⟩ : Rq).val', .bool false]) ?_ rfl ⟨rfl, ((Chg.refl _ _).alloc _).drew⟩
  simp [results, Try.results23, go_sem, Rq.val']

theorem want_q (w : World) (p g : Nat) (r : Rq) (F : FuncId) (b : Nat) (bz lv wr : Bool) (sn vl en pt : Int) (h : Blk w p (pcells g r (.func (.func F) #[] #[.pointer (some ⟨b, 0, none⟩)]) bz lv wr sn vl en pt) 69) :
    Calls Try.prog 23 #[.pointer (some ⟨p, 0, none⟩)] w fun e w' => e = .returned (.tuple #[r.val', .bool true]) ∧ Chg [] w w' := by
  have he : ∀ w : World, (binOp .neq 67 (.func (.func F) #[] #[.pointer (some ⟨b, 0, none⟩)]) .nilFunc).run Try.prog w = .ok (.bool true) w := fun _ => by kernel_rfl
  have hn : (w.alloc (.cells #[.int .i64 0, .int .i64 0, .int .u64 0, .int .u64 0] 49)).cell? ⟨p, 0, none⟩ = some (.pointer (some ⟨g, 0, none⟩)) := (h.alloc _).cell 0
  have hpl := h.lt
  have HB := Lib.hid h
  obtain ⟨o, ad, va, ol⟩ := r
  have pc0 : (w).cell? ⟨p, 0, none⟩ = some (.pointer (some ⟨g, 0, none⟩)) := (h).cell 0; have pf0 : (w).frozen? ⟨p, 0, none⟩ = false := (h).free 0; have pc1 : (w).cell? ⟨p, 1, none⟩ = some (.int .i64 (⟨o, ad, va, ol⟩ : Rq).op) := (h).cell 1; have pf1 : (w).frozen? ⟨p, 1, none⟩ = false := (h).free 1; have pc2 : (w).cell? ⟨p, 2, none⟩ = some (.int .i64 (⟨o, ad, va, ol⟩ : Rq).addr) := (h).cell 2; have pf2 : (w).frozen? ⟨p, 2, none⟩ = false := (h).free 2; have pc3 : (w).cell? ⟨p, 3, none⟩ = some (.int .u64 (⟨o, ad, va, ol⟩ : Rq).val) := (h).cell 3; have pf3 : (w).frozen? ⟨p, 3, none⟩ = false := (h).free 3; have pc4 : (w).cell? ⟨p, 4, none⟩ = some (.int .u64 (⟨o, ad, va, ol⟩ : Rq).old) := (h).cell 4; have pf4 : (w).frozen? ⟨p, 4, none⟩ = false := (h).free 4; have pc5 : (w).cell? ⟨p, 5, none⟩ = some ((.func (.func F) #[] #[.pointer (some ⟨b, 0, none⟩)])) := (h).cell 5; have pf5 : (w).frozen? ⟨p, 5, none⟩ = false := (h).free 5; have pc6 : (w).cell? ⟨p, 6, none⟩ = some (.bool bz) := (h).cell 6; have pf6 : (w).frozen? ⟨p, 6, none⟩ = false := (h).free 6; have pc7 : (w).cell? ⟨p, 7, none⟩ = some (.bool lv) := (h).cell 7; have pf7 : (w).frozen? ⟨p, 7, none⟩ = false := (h).free 7; have pc8 : (w).cell? ⟨p, 8, none⟩ = some (.bool wr) := (h).cell 8; have pf8 : (w).frozen? ⟨p, 8, none⟩ = false := (h).free 8; have pc9 : (w).cell? ⟨p, 9, none⟩ = some (.int .u64 sn) := (h).cell 9; have pf9 : (w).frozen? ⟨p, 9, none⟩ = false := (h).free 9; have pc10 : (w).cell? ⟨p, 10, none⟩ = some (.int .u64 vl) := (h).cell 10; have pf10 : (w).frozen? ⟨p, 10, none⟩ = false := (h).free 10; have pc11 : (w).cell? ⟨p, 11, none⟩ = some (.int .i64 en) := (h).cell 11; have pf11 : (w).frozen? ⟨p, 11, none⟩ = false := (h).free 11; have pc12 : (w).cell? ⟨p, 12, none⟩ = some (.int .i64 pt) := (h).cell 12; have pf12 : (w).frozen? ⟨p, 12, none⟩ = false := (h).free 12
  clear h
  go_enter Try.func23, Try.ntmps23
  go_wp2_with fail
  refine (pnone_any _ p g hn).mono ?_
  rintro e w' ⟨rfl, rfl⟩
  go_wp2_with fail
  go_region
  all_goals (go_wp2_with fail)
  refine bodyPost_ret (v := .tuple #[(⟨o, ad, va, ol⟩ : Rq).val', .bool true]) ?_ rfl ⟨rfl, ((Chg.refl _ _).alloc _).drew⟩
  simp [results, Try.results23, go_sem, Rq.val']

theorem EShape.next {p : Nat} {R W : PL} {ph : Ph} {nx : Value} {E : List Cell} (h : EShape p R W ph nx E) : (ph.busy = false ∧ nx = .nilFunc) ∨ (ph.busy = true ∧ ∃ F b, nx = .func (.func F) #[] #[.pointer (some ⟨b, 0, none⟩)]) := by
  cases h <;> first | exact .inl ⟨rfl, rfl⟩ | exact .inr ⟨rfl, _, _, rfl⟩

theorem Want_any (w : World) (p : Nat) (F : List Nat) (s : PS) (h : PathAt w p F s) :
    Calls Try.prog 23 #[.pointer (some ⟨p, 0, none⟩)] w fun e w' => e = .returned (.tuple #[s.want.val', .bool s.busy]) ∧ PathAt w' p F s ∧ Chg [] w w' := by
  have hsame := h
  obtain ⟨g, L, E, nx, hi, hs, rfl⟩ := h
  rcases hs.next with ⟨hb, rfl⟩ | ⟨hb, G, b, rfl⟩
  · rw [show s.busy = false from hb]
    refine (want_idle w p g _ _ _ _ _ _ _ _ hi.blk).mono ?_
    rintro e w' ⟨rfl, hC⟩
    exact ⟨rfl, hsame.look hC, hC⟩
  · rw [show s.busy = true from hb]
    refine (want_q w p g _ G b _ _ _ _ _ _ _ hi.blk).mono ?_
    rintro e w' ⟨rfl, hC⟩
    exact ⟨rfl, hsame.look hC, hC⟩

theorem SReads_any (w : World) (p : Nat) (F : List Nat) (s : PS) (h : PathAt w p F s) :
    Calls Try.prog 32 #[.pointer (some ⟨p, 0, none⟩)] w (ToldPost w s.R) := by
  obtain ⟨g, L, E, nx, hi, hs, rfl⟩ := h
  have k0 : w.cell? ⟨p, 0, none⟩ = some (.pointer (some ⟨g, 0, none⟩)) := hi.blk.cell 0
  have HL := Lib.hid hi.log
  clear hi hs
  go_enter Try.func32, Try.ntmps32
  go_wp2_with fail
  refine (pnone_any _ p g k0).mono ?_
  rintro e w' ⟨rfl, rfl⟩
  go_wp2_with fail
  refine (Reads_any _ g L s.R s.W HL.out).mono ?_
  rintro e w' ⟨x, rfl, hr, hb⟩
  have HR := Lib.hid hr
  have HB := Lib.hid hb
  clear hr hb
  go_wp2_with fail
  go_ret
  exact ⟨_, rfl, HR.out, HB.out⟩
theorem SWrites_any (w : World) (p : Nat) (F : List Nat) (s : PS) (h : PathAt w p F s) :
    Calls Try.prog 33 #[.pointer (some ⟨p, 0, none⟩)] w (ToldPost w s.W) := by
  obtain ⟨g, L, E, nx, hi, hs, rfl⟩ := h
  have k0 : w.cell? ⟨p, 0, none⟩ = some (.pointer (some ⟨g, 0, none⟩)) := hi.blk.cell 0
  have HL := Lib.hid hi.log
  clear hi hs
  go_enter Try.func33, Try.ntmps33
  go_wp2_with fail
  refine (pnone_any _ p g k0).mono ?_
  rintro e w' ⟨rfl, rfl⟩
  go_wp2_with fail
  refine (Writes_any _ g L s.R s.W HL.out).mono ?_
  rintro e w' ⟨x, rfl, hr, hb⟩
  have HR := Lib.hid hr
  have HB := Lib.hid hb
  clear hr hb
  go_wp2_with fail
  go_ret
  exact ⟨_, rfl, HR.out, HB.out⟩

theorem Busy_any (w : World) (p : Nat) (F : List Nat) (s : PS) (h : PathAt w p F s) :
    Calls Try.prog 26 #[.pointer (some ⟨p, 0, none⟩)] w fun e w' => e = .returned (.bool s.busy) ∧ w = w' := by
  obtain ⟨g, L, E, nx, hi, hs, rfl⟩ := h; exact PBusy_any w p g _ _ _ _ _ _ _ _ _ hi.blk
theorem Live_any (w : World) (p : Nat) (F : List Nat) (s : PS) (h : PathAt w p F s) :
    Calls Try.prog 21 #[.pointer (some ⟨p, 0, none⟩)] w fun e w' => e = .returned (.bool s.live) ∧ w = w' := by
  obtain ⟨g, L, E, nx, hi, hs, rfl⟩ := h; exact PLive_any w p g _ _ _ _ _ _ _ _ _ hi.blk
theorem Writing_any (w : World) (p : Nat) (F : List Nat) (s : PS) (h : PathAt w p F s) :
    Calls Try.prog 31 #[.pointer (some ⟨p, 0, none⟩)] w fun e w' => e = .returned (.bool s.writing) ∧ w = w' := by
  obtain ⟨g, L, E, nx, hi, hs, rfl⟩ := h; exact PWriting_any w p g _ _ _ _ _ _ _ _ _ hi.blk
theorem SValue_any (w : World) (p : Nat) (F : List Nat) (s : PS) (h : PathAt w p F s) :
    Calls Try.prog 17 #[.pointer (some ⟨p, 0, none⟩)] w fun e w' => e = .returned (.int .u64 s.value) ∧ w = w' := by
  obtain ⟨g, L, E, nx, hi, hs, rfl⟩ := h; exact PValue_any w p g _ _ _ _ _ _ _ _ _ hi.blk
theorem Ended_any (w : World) (p : Nat) (F : List Nat) (s : PS) (h : PathAt w p F s) :
    Calls Try.prog 20 #[.pointer (some ⟨p, 0, none⟩)] w fun e w' => e = .returned (.int .i64 s.ended) ∧ w = w' := by
  obtain ⟨g, L, E, nx, hi, hs, rfl⟩ := h; exact PEnded_any w p g _ _ _ _ _ _ _ _ _ hi.blk
theorem Points_any (w : World) (p : Nat) (F : List Nat) (s : PS) (h : PathAt w p F s) :
    Calls Try.prog 27 #[.pointer (some ⟨p, 0, none⟩)] w fun e w' => e = .returned (.int .i64 s.points) ∧ w = w' := by
  obtain ⟨g, L, E, nx, hi, hs, rfl⟩ := h; exact PPoints_any w p g _ _ _ _ _ _ _ _ _ hi.blk

end Go.Proofs.Ytilffolppnnkaaa
