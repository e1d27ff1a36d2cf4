/- A register file's other calls: All, PC, Jump, Save, Restore, Drop, Point, New; and Get and Set. -/
import Derived.Test.YtmdbgomofbbpcaaRegs1
import Derived.StillTailTactics
import Derived.BigQuiet
import Derived.Deep.RegionHeld3
namespace Go.Proofs.Ytmdbgomofbbpcaa
open Go.RowKit

def u64s (l : List Int) : Value := .agg (l.map (Value.int .u64)).toArray

def GetPost (w : World) (F : RF) (i : Int) (e : Ending) (w' : World) : Prop :=
  e = .returned (.tuple #[.int .u64 (memWord F.rs i), .int .i64 (memErr 8 i)]) ∧ w = w'

set_option maxHeartbeats 400000 in
theorem Get_any (w : World) (b : Nat) (F : RF) (i : Int) (hF : FileAt w b F) :
    Calls Try.prog 16 #[.pointer (some ⟨b, 0, none⟩), .int .i64 i] w (GetPost w F i) := by
  have hm := hF.made
  have hl := hF.ok.len
  by_cases h : 0 ≤ i ∧ i < 8
  · have e1 : memErr 8 i = 0 := memErr_in h
    have e2 : memWord F.rs i = F.rs[i.toNat]?.getD 0 := by simp only [memWord]; rw [if_pos (by omega)]
    have hc : w.cell? ⟨b, i.toNat, none⟩ = some (.int .u64 (F.rs[i.toNat]?.getD 0)) := hF.reg (by omega)
    obtain ⟨h0, h1⟩ := h
    clear hl
    go_enter Try.func16, Try.ntmps16
    go_wp2_with fail
    refine (where_any _ _ _ hm).mono ?_
    rintro e w' ⟨rfl, rfl⟩
    go_wp2_with fail
    go_ret2
    exact ⟨ret_int2 e2.symm e1.symm, rfl⟩
  · have e1 : memErr 8 i = 2 := memErr_out h
    have e2 : memWord F.rs i = 0 := by simp only [memWord]; rw [if_neg (by omega)]
    clear hl
    go_enter Try.func16, Try.ntmps16
    go_wp2_with fail
    refine (where_any _ _ _ hm).mono ?_
    rintro e w' ⟨rfl, rfl⟩
    go_wp2_with fail
    go_ret2
    exact ⟨ret_int2 e2.symm e1.symm, rfl⟩

def SetPost (w : World) (b : Nat) (F : RF) (i v : Int) (e : Ending) (w' : World) : Prop :=
  e = .returned (.int .i64 (memErr 8 i)) ∧ FileAt w' b (fSet F i v) ∧ Chg [b] w w'

theorem FileAt.setReg {w : World} {b : Nat} {F : RF} (h : FileAt w b F) {i : Int} (h0 : 0 ≤ i) (h1 : i < 8) (v : Int) : FileAt (w.setCell ⟨b, i.toNat, none⟩ (.int .u64 v)) b (fSet F i v) := by
  refine ⟨h.ok.set i v, ?_⟩
  obtain ⟨pv, x, y⟩ := h.blk
  have hl := h.ok.len
  refine ⟨pv, ?_, y.set x i.toNat (.int .u64 v) rfl rfl rfl⟩
  have := x.set i.toNat (.int .u64 v)
  rw [List.set_append_left _ _ (by simp; omega), ← List.map_set] at this
  simp only [fSet, memPut]
  rw [if_pos (by omega)]
  exact this

set_option maxHeartbeats 400000 in
theorem Set_any (w : World) (b : Nat) (F : RF) (i v : Int) (hF : FileAt w b F) :
    Calls Try.prog 15 #[.pointer (some ⟨b, 0, none⟩), .int .i64 i, .int .u64 v] w (SetPost w b F i v) := by
  have hm := hF.made
  have hl := hF.ok.len
  have hf := hF.free
  by_cases h : 0 ≤ i ∧ i < 8
  · have e1 : memErr 8 i = 0 := memErr_in h
    have hc : w.cell? ⟨b, i.toNat, none⟩ = some (.int .u64 (F.rs[i.toNat]?.getD 0)) := hF.reg (by omega)
    obtain ⟨h0, h1⟩ := h
    clear hl
    go_enter Try.func15, Try.ntmps15
    go_wp2_with fail
    refine (where_any _ _ _ hm).mono ?_
    rintro e w' ⟨rfl, rfl⟩
    go_wp2_with fail
    go_ret
    exact ⟨ret_int e1.symm, hF.setReg h0 h1 v, (Chg.refl _ _).setCell (by simp) _⟩
  · have e1 : memErr 8 i = 2 := memErr_out h
    have e2 : fSet F i v = F := by simp only [fSet]; rw [memPut_out (by omega)]
    clear hl
    go_enter Try.func15, Try.ntmps15
    go_wp2_with fail
    refine (where_any _ _ _ hm).mono ?_
    rintro e w' ⟨rfl, rfl⟩
    go_wp2_with fail
    go_ret
    exact ⟨ret_int e1.symm, by rw [e2]; exact hF, Chg.refl _ _⟩

theorem FileAt.setPc {w : World} {b : Nat} {F : RF} (h : FileAt w b F) {n : Int} (h0 : 0 ≤ n) (h1 : n ≤ 9223372036854775807) : FileAt (w.setCell ⟨b, 8, none⟩ (.int .i64 n)) b (fJump F n) := by
  refine ⟨h.ok.jump h1, ?_⟩
  obtain ⟨pv, x, y⟩ := h.blk
  have hl := h.ok.len
  refine ⟨pv, ?_, y.set x 8 (.int .i64 n) rfl rfl rfl⟩
  have := x.set 8 (.int .i64 n)
  rw [List.set_append_right _ _ (by simp; omega)] at this
  simp only [fJump]
  rw [if_pos h0]
  simpa [hl] using this

def JumpPost (w : World) (b : Nat) (F : RF) (n : Int) (e : Ending) (w' : World) : Prop :=
  e = .returned (.int .i64 (jumpErr n)) ∧ FileAt w' b (fJump F n) ∧ Chg [b] w w'

set_option maxHeartbeats 400000 in
theorem Jump_any (w : World) (b : Nat) (F : RF) (n : Int) (hn : n ≤ 9223372036854775807) (hF : FileAt w b F) :
    Calls Try.prog 17 #[.pointer (some ⟨b, 0, none⟩), .int .i64 n] w (JumpPost w b F n) := by
  have hm := hF.made
  have hc := hF.pcCell
  have hf := hF.free
  by_cases h : 0 ≤ n
  · have e1 : jumpErr n = 0 := by simp only [jumpErr]; rw [if_pos h]
    go_enter Try.func17, Try.ntmps17
    go_wp2_with fail
    refine (none_any _ _ hm).mono ?_
    rintro e w' ⟨rfl, rfl⟩
    go_wp2_with fail
    go_ret
    exact ⟨ret_int e1.symm, hF.setPc h hn, (Chg.refl _ _).setCell (by simp) _⟩
  · have e1 : jumpErr n = 2 := by simp only [jumpErr]; rw [if_neg h]
    have e2 : fJump F n = F := by simp only [fJump]; rw [if_neg h]
    go_enter Try.func17, Try.ntmps17
    go_wp2_with fail
    refine (none_any _ _ hm).mono ?_
    rintro e w' ⟨rfl, rfl⟩
    go_wp2_with fail
    go_ret
    exact ⟨ret_int e1.symm, by rw [e2]; exact hF, Chg.refl _ _⟩

theorem PC_any (w : World) (b : Nat) (F : RF) (hF : FileAt w b F) :
    Calls Try.prog 20 #[.pointer (some ⟨b, 0, none⟩)] w fun e w' => e = .returned (.int .i64 F.pc) ∧ w = w' := by
  have hm := hF.made
  have hc := hF.pcCell
  go_enter Try.func20, Try.ntmps20
  go_wp2_with fail
  refine (none_any _ _ hm).mono ?_
  rintro e w' ⟨rfl, rfl⟩
  go_wp2_with fail
  go_ret
  exact ⟨rfl, rfl⟩

def AllPost (w : World) (F : RF) (e : Ending) (w' : World) : Prop := e = .returned (u64s F.rs) ∧ Chg [] w w'

set_option maxHeartbeats 400000 in
theorem All_any (w : World) (b : Nat) (F : RF) (hF : FileAt w b F) :
    Calls Try.prog 19 #[.pointer (some ⟨b, 0, none⟩)] w (AllPost w F) := by
  have hm (o : Obj) := (hF.alloc o).made
  have hlt := hF.lt
  obtain ⟨rs, pc, is, ps, to⟩ := F
  obtain ⟨r0, r1, r2, r3, r4, r5, r6, r7, rfl⟩ := eight hF.ok.len
  have c0 : w.cell? ⟨b, 0, none⟩ = some (.int .u64 r0) := hF.reg (i := 0) (by decide)
  have c1 : w.cell? ⟨b, 1, none⟩ = some (.int .u64 r1) := hF.reg (i := 1) (by decide)
  have c2 : w.cell? ⟨b, 2, none⟩ = some (.int .u64 r2) := hF.reg (i := 2) (by decide)
  have c3 : w.cell? ⟨b, 3, none⟩ = some (.int .u64 r3) := hF.reg (i := 3) (by decide)
  have c4 : w.cell? ⟨b, 4, none⟩ = some (.int .u64 r4) := hF.reg (i := 4) (by decide)
  have c5 : w.cell? ⟨b, 5, none⟩ = some (.int .u64 r5) := hF.reg (i := 5) (by decide)
  have c6 : w.cell? ⟨b, 6, none⟩ = some (.int .u64 r6) := hF.reg (i := 6) (by decide)
  have c7 : w.cell? ⟨b, 7, none⟩ = some (.int .u64 r7) := hF.reg (i := 7) (by decide)
  go_enter Try.func19, Try.ntmps19
  go_wp2_with fail
  refine (none_any _ _ (hm _)).mono ?_
  rintro e w' ⟨rfl, rfl⟩
  go_wp2_with fail
  refine bodyPost_ret (v := u64s [r0, r1, r2, r3, r4, r5, r6, r7]) ?_ rfl ⟨rfl, (Chg.refl _ _).alloc _⟩
  simp [results, Try.results19, go_sem, u64s]

theorem All_no (w : World) (v : Value) (h : ∀ o, NoFile (w.alloc o) v) :
    Calls Try.prog 19 #[v] w fun e w' => e = .returned (u64s zeros8) ∧ Chg [] w w' := by
  go_enter Try.func19, Try.ntmps19
  go_wp2_with fail
  refine (none_no _ _ (h _)).mono ?_
  rintro e w' ⟨rfl, rfl⟩
  go_wp2_with fail
  refine bodyPost_ret (v := u64s zeros8) ?_ rfl ⟨rfl, (Chg.refl _ _).alloc _⟩
  simp [results, Try.results19, go_sem, u64s, zeros8]

def NewPost (w : World) (e : Ending) (w' : World) : Prop :=
  e = .returned (.pointer (some ⟨w.heap.size, 0, none⟩)) ∧ FileAt w' w.heap.size fNew ∧ Chg [] w w' ∧ w'.heap.size = w.heap.size + 1

theorem New_any (w : World) : Calls Try.prog 9 #[] w (NewPost w) := by
  go_enter Try.func9, Try.ntmps9
  go_wp2_with fail
  go_ret
  exact ⟨rfl, ⟨RF.Ok.new, _, Blk.new w _ _, .noPt rfl rfl⟩, (Chg.refl _ _).alloc _, by simp⟩

theorem marked_any (w : World) (b : Nat) (F : RF) (hF : FileAt w b F) :
    Calls Try.prog 29 #[.pointer (some ⟨b, 0, none⟩)] w fun e w' => e = .returned (.int .i64 (markErr F)) ∧ w = w' := by
  have hm := hF.made
  obtain ⟨ok, pv, x, y⟩ := hF
  have hp : w.cell? ⟨b, 9, none⟩ = some pv := by
    rw [x.cell, List.getElem?_append_right (by simp [ok.len])]; simp [ok.len]
  clear x
  cases y with
  | noPt h e =>
    subst e
    rw [markErr, h]
    clear ok h
    go_enter Try.func29, Try.ntmps29
    go_wp2_with fail
    refine (none_any _ _ hm).mono ?_
    rintro e w' ⟨rfl, rfl⟩
    go_wp2_with fail
    go_ret
    exact ⟨rfl, rfl⟩
  | onPt bp h e k =>
    subst e
    rw [markErr, h]
    clear ok h k
    go_enter Try.func29, Try.ntmps29
    go_wp2_with fail
    refine (none_any _ _ hm).mono ?_
    rintro e w' ⟨rfl, rfl⟩
    go_wp2_with fail
    go_ret
    exact ⟨rfl, rfl⟩

def SavePost (w : World) (b : Nat) (F : RF) (e : Ending) (w' : World) : Prop :=
  e = .returned (.int .i64 0) ∧ FileAt w' b (fSave F) ∧ Chg [b] w w'

set_option maxHeartbeats 400000 in
theorem Save_any (w : World) (b : Nat) (F : RF) (hF : FileAt w b F) :
    Calls Try.prog 18 #[.pointer (some ⟨b, 0, none⟩)] w (SavePost w b F) := by
  have hm := hF.made
  have hlt := hF.lt
  obtain ⟨rs, pc, is, ps, to⟩ := F
  obtain ⟨r0, r1, r2, r3, r4, r5, r6, r7, rfl⟩ := eight hF.ok.len
  have c0 : w.cell? ⟨b, 0, none⟩ = some (.int .u64 r0) := hF.reg (i := 0) (by decide)
  have c1 : w.cell? ⟨b, 1, none⟩ = some (.int .u64 r1) := hF.reg (i := 1) (by decide)
  have c2 : w.cell? ⟨b, 2, none⟩ = some (.int .u64 r2) := hF.reg (i := 2) (by decide)
  have c3 : w.cell? ⟨b, 3, none⟩ = some (.int .u64 r3) := hF.reg (i := 3) (by decide)
  have c4 : w.cell? ⟨b, 4, none⟩ = some (.int .u64 r4) := hF.reg (i := 4) (by decide)
  have c5 : w.cell? ⟨b, 5, none⟩ = some (.int .u64 r5) := hF.reg (i := 5) (by decide)
  have c6 : w.cell? ⟨b, 6, none⟩ = some (.int .u64 r6) := hF.reg (i := 6) (by decide)
  have c7 : w.cell? ⟨b, 7, none⟩ = some (.int .u64 r7) := hF.reg (i := 7) (by decide)
  have c8 : w.cell? ⟨b, 8, none⟩ = some (.int .i64 pc) := hF.pcCell
  have hf := hF.free
  have hok := hF.ok
  obtain ⟨_, pv, x, y⟩ := hF
  have c9 : w.cell? ⟨b, 9, none⟩ = some pv := x.cell 9
  go_enter Try.func18, Try.ntmps18
  go_wp2_with fail
  refine (none_any _ _ hm).mono ?_
  rintro e w' ⟨rfl, rfl⟩
  go_wp2_with fail
  go_ret
  refine ⟨rfl, ⟨hok.save, .pointer (some ⟨w.heap.size, 0, none⟩), (x.set 9 _).alloc _, .onPt w.heap.size rfl rfl ?_⟩, ((Chg.refl _ _).setCell (by simp) _).alloc _⟩
  have h := Blk.new (w.setCell ⟨b, 9, none⟩ (.pointer (some ⟨w.heap.size, 0, none⟩))) [.int .u64 r0, .int .u64 r1, .int .u64 r2, .int .u64 r3, .int .u64 r4, .int .u64 r5, .int .u64 r6, .int .u64 r7, .int .i64 pc] 46
  have e : (w.setCell ⟨b, 9, none⟩ (.pointer (some ⟨w.heap.size, 0, none⟩))).heap.size = w.heap.size := by simp [World.setCell]
  rw [e] at h
  exact h

end Go.Proofs.Ytmdbgomofbbpcaa
