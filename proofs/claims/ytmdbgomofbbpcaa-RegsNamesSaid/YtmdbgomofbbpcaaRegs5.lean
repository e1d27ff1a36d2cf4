/- The document's file: its calls, each by a contract. -/
import Derived.Test.YtmdbgomofbbpcaaRegs4
namespace Go.Proofs.Ytmdbgomofbbpcaa
open Go.RowKit

/-- The document's file at block b. -/
structure RefAt (w : World) (b : Nat) (F : RF) : Prop where
  ok : F.Ok
  blk : Blk w b (F.rs.map (Value.int .u64) ++ ([.int .i64 F.pc, .bool F.is] ++ (F.ps.map (Value.int .u64) ++ [.int .i64 F.to]))) 29

section
variable {w w' : World} {b : Nat} {F : RF}
theorem RefAt.alloc (h : RefAt w b F) (o : Obj) : RefAt (w.alloc o) b F := ⟨h.ok, h.blk.alloc o⟩
theorem RefAt.drew (h : RefAt w b F) : RefAt w.drew b F := ⟨h.ok, h.blk.drew⟩
theorem RefAt.drewN (h : RefAt w b F) (n : Nat) : RefAt (w.drewN n) b F := ⟨h.ok, h.blk.drewN n⟩
theorem RefAt.lt (h : RefAt w b F) : b < w.heap.size := h.blk.lt
theorem RefAt.chg {S : List Nat} (h : RefAt w b F) (k : Chg S w w') (hb : b ∉ S) : RefAt w' b F := ⟨h.ok, k.blk h.blk hb⟩
theorem RefAt.reg (h : RefAt w b F) {i : Nat} (hi : i < 8) : w.cell? ⟨b, i, none⟩ = some (.int .u64 (F.rs[i]?.getD 0)) := by
  rw [h.blk.cell, List.getElem?_append_left (by simp [h.ok.len, hi])]; exact map_get (by rw [h.ok.len]; exact hi)
theorem RefAt.setReg (h : RefAt w b F) {i : Int} (h0 : 0 ≤ i) (h1 : i < 8) (v : Int) : RefAt (w.setCell ⟨b, i.toNat, none⟩ (.int .u64 v)) b (fSet F i v) := by
  refine ⟨h.ok.set i v, ?_⟩
  have hl := h.ok.len
  have := h.blk.set i.toNat (.int .u64 v)
  rw [List.set_append_left _ _ (by simp; omega), ← List.map_set] at this
  simp only [fSet, memPut]
  rw [if_pos (by omega)]
  exact this
end

def rPost (w : World) (b : Nat) (n : Int) (G : RF) (e : Ending) (w' : World) : Prop :=
  e = .returned (.int .i64 n) ∧ RefAt w' b G ∧ Chg [b] w w'

set_option maxHeartbeats 400000 in
theorem rSet_any (w : World) (b : Nat) (F : RF) (i v : Int) (hF : RefAt w b F) :
    Calls Try.prog 23 #[.pointer (some ⟨b, 0, none⟩), .int .i64 i, .int .u64 v] w (rPost w b (memErr 8 i) (fSet F i v)) := by
  have hf := hF.blk.free
  by_cases h : 0 ≤ i ∧ i < 8
  · have e1 : memErr 8 i = 0 := memErr_in h
    have hc : w.cell? ⟨b, i.toNat, none⟩ = some (.int .u64 (F.rs[i.toNat]?.getD 0)) := hF.reg (by omega)
    obtain ⟨h0, h1⟩ := h
    go_enter Try.func23, Try.ntmps23
    go_wp2_with fail
    go_ret
    exact ⟨ret_int e1.symm, hF.setReg h0 h1 v, (Chg.refl _ _).setCell (by simp) _⟩
  · have e1 : memErr 8 i = 2 := memErr_out h
    have hl := hF.ok.len
    have e2 : fSet F i v = F := by simp only [fSet]; rw [memPut_out (by omega)]
    clear hl
    have h' : i < 0 ∨ 8 ≤ i := by omega
    clear h
    rcases h' with h | h
    all_goals
      go_enter Try.func23, Try.ntmps23
      go_wp2_with fail
      go_ret
      exact ⟨ret_int e1.symm, by rw [e2]; exact hF, Chg.refl _ _⟩

set_option maxHeartbeats 400000 in
theorem rGet_any (w : World) (b : Nat) (F : RF) (i : Int) (hF : RefAt w b F) :
    Calls Try.prog 28 #[.pointer (some ⟨b, 0, none⟩), .int .i64 i] w (GetPost w F i) := by
  have hl := hF.ok.len
  by_cases h : 0 ≤ i ∧ i < 8
  · have e1 : memErr 8 i = 0 := memErr_in h
    have e2 : memWord F.rs i = F.rs[i.toNat]?.getD 0 := by simp only [memWord]; rw [if_pos (by omega)]
    have hc : w.cell? ⟨b, i.toNat, none⟩ = some (.int .u64 (F.rs[i.toNat]?.getD 0)) := hF.reg (by omega)
    obtain ⟨h0, h1⟩ := h
    clear hl
    go_enter Try.func28, Try.ntmps28
    go_wp2_with fail
    go_ret2
    exact ⟨ret_int2 e2.symm e1.symm, rfl⟩
  · have e1 : memErr 8 i = 2 := memErr_out h
    have e2 : memWord F.rs i = 0 := by simp only [memWord]; rw [if_neg (by omega)]
    clear hl
    have h' : i < 0 ∨ 8 ≤ i := by omega
    clear h
    rcases h' with h | h
    all_goals
      go_enter Try.func28, Try.ntmps28
      go_wp2_with fail
      go_ret2
      exact ⟨ret_int2 e2.symm e1.symm, rfl⟩

set_option maxHeartbeats 400000 in
theorem rJump_any (w : World) (b : Nat) (F : RF) (n : Int) (hn : n ≤ 9223372036854775807) (hF : RefAt w b F) :
    Calls Try.prog 24 #[.pointer (some ⟨b, 0, none⟩), .int .i64 n] w (rPost w b (jumpErr n) (fJump F n)) := by
  have hok' := hF.ok.jump hn
  obtain ⟨rs, pc, is, ps, to⟩ := F
  have hok := hF.ok
  obtain ⟨r0, r1, r2, r3, r4, r5, r6, r7, rfl⟩ := eight hok.len
  obtain ⟨p0, p1, p2, p3, p4, p5, p6, p7, rfl⟩ := eight hok.plen
  have k := hF.blk
  have hf := k.free
  have c8 : w.cell? ⟨b, 8, none⟩ = some (.int .i64 pc) := k.cell 8
  by_cases h : 0 ≤ n
  · have e1 : jumpErr n = 0 := by simp only [jumpErr]; rw [if_pos h]
    have K := Lib.hid k
    have H := Lib.hid hok'
    clear k hok hok' hF
    go_enter Try.func24, Try.ntmps24
    go_wp2_with fail
    go_ret
    refine ⟨rfl, ⟨H.out, ?_⟩, (Chg.refl _ _).setCell (by simp) _⟩
    have := K.out.set 8 (.int .i64 n)
    simp only [fJump, if_pos h]
    exact this
  · have e1 : jumpErr n = 2 := by simp only [jumpErr]; rw [if_neg h]
    have e2 : fJump ⟨[r0, r1, r2, r3, r4, r5, r6, r7], pc, is, [p0, p1, p2, p3, p4, p5, p6, p7], to⟩ n = ⟨[r0, r1, r2, r3, r4, r5, r6, r7], pc, is, [p0, p1, p2, p3, p4, p5, p6, p7], to⟩ := by simp only [fJump]; rw [if_neg h]
    go_enter Try.func24, Try.ntmps24
    go_wp2_with fail
    go_ret
    exact ⟨rfl, hF, Chg.refl _ _⟩

set_option maxRecDepth 100000 in
set_option maxHeartbeats 4000000 in
theorem rSave_any (w : World) (b : Nat) (F : RF) (hF : RefAt w b F) :
    Calls Try.prog 25 #[.pointer (some ⟨b, 0, none⟩)] w (rPost w b 0 (fSave F)) := by
  have hok' := hF.ok.save
  obtain ⟨rs, pc, is, ps, to⟩ := F
  have hok := hF.ok
  obtain ⟨r0, r1, r2, r3, r4, r5, r6, r7, rfl⟩ := eight hok.len
  obtain ⟨p0, p1, p2, p3, p4, p5, p6, p7, rfl⟩ := eight hok.plen
  have k := hF.blk
  have hf := k.free
  have c0 : w.cell? ⟨b, 0, none⟩ = some (.int .u64 r0) := k.cell 0
  have c1 : w.cell? ⟨b, 1, none⟩ = some (.int .u64 r1) := k.cell 1
  have c2 : w.cell? ⟨b, 2, none⟩ = some (.int .u64 r2) := k.cell 2
  have c3 : w.cell? ⟨b, 3, none⟩ = some (.int .u64 r3) := k.cell 3
  have c4 : w.cell? ⟨b, 4, none⟩ = some (.int .u64 r4) := k.cell 4
  have c5 : w.cell? ⟨b, 5, none⟩ = some (.int .u64 r5) := k.cell 5
  have c6 : w.cell? ⟨b, 6, none⟩ = some (.int .u64 r6) := k.cell 6
  have c7 : w.cell? ⟨b, 7, none⟩ = some (.int .u64 r7) := k.cell 7
  have c8 : w.cell? ⟨b, 8, none⟩ = some (.int .i64 pc) := k.cell 8
  have c9 : w.cell? ⟨b, 9, none⟩ = some (.bool is) := k.cell 9
  have c10 : w.cell? ⟨b, 10, none⟩ = some (.int .u64 p0) := k.cell 10
  have c11 : w.cell? ⟨b, 11, none⟩ = some (.int .u64 p1) := k.cell 11
  have c12 : w.cell? ⟨b, 12, none⟩ = some (.int .u64 p2) := k.cell 12
  have c13 : w.cell? ⟨b, 13, none⟩ = some (.int .u64 p3) := k.cell 13
  have c14 : w.cell? ⟨b, 14, none⟩ = some (.int .u64 p4) := k.cell 14
  have c15 : w.cell? ⟨b, 15, none⟩ = some (.int .u64 p5) := k.cell 15
  have c16 : w.cell? ⟨b, 16, none⟩ = some (.int .u64 p6) := k.cell 16
  have c17 : w.cell? ⟨b, 17, none⟩ = some (.int .u64 p7) := k.cell 17
  have c18 : w.cell? ⟨b, 18, none⟩ = some (.int .i64 to) := k.cell 18
  have K := Lib.hid k
  have H := Lib.hid hok'
  clear k hok hok' hF
  go_enter Try.func25, Try.ntmps25
  go_wp2_with fail
  go_ret
  have k2 := ((((((((((K.out.set 9 (.bool true)).set 10 (.int .u64 r0)).set 11 (.int .u64 r1)).set 12 (.int .u64 r2)).set 13 (.int .u64 r3)).set 14 (.int .u64 r4)).set 15 (.int .u64 r5)).set 16 (.int .u64 r6)).set 17 (.int .u64 r7)).set 18 (.int .i64 pc))
  have c := (((((((((((Chg.refl [b] w).setCell (p := ⟨b, 9, none⟩) (by simp) (.bool true)).setCell (p := ⟨b, 10, none⟩) (by simp) (.int .u64 r0)).setCell (p := ⟨b, 11, none⟩) (by simp) (.int .u64 r1)).setCell (p := ⟨b, 12, none⟩) (by simp) (.int .u64 r2)).setCell (p := ⟨b, 13, none⟩) (by simp) (.int .u64 r3)).setCell (p := ⟨b, 14, none⟩) (by simp) (.int .u64 r4)).setCell (p := ⟨b, 15, none⟩) (by simp) (.int .u64 r5)).setCell (p := ⟨b, 16, none⟩) (by simp) (.int .u64 r6)).setCell (p := ⟨b, 17, none⟩) (by simp) (.int .u64 r7)).setCell (p := ⟨b, 18, none⟩) (by simp) (.int .i64 pc))
  exact ⟨rfl, ⟨H.out, k2⟩, c⟩

set_option maxRecDepth 100000 in
set_option maxHeartbeats 4000000 in
theorem rRestore_any (w : World) (b : Nat) (F : RF) (hF : RefAt w b F) :
    Calls Try.prog 26 #[.pointer (some ⟨b, 0, none⟩)] w (rPost w b (markErr F) (fRestore F)) := by
  have hok' := hF.ok.restore
  obtain ⟨rs, pc, is, ps, to⟩ := F
  have hok := hF.ok
  obtain ⟨r0, r1, r2, r3, r4, r5, r6, r7, rfl⟩ := eight hok.len
  obtain ⟨p0, p1, p2, p3, p4, p5, p6, p7, rfl⟩ := eight hok.plen
  have k := hF.blk
  have hf := k.free
  have c0 : w.cell? ⟨b, 0, none⟩ = some (.int .u64 r0) := k.cell 0
  have c1 : w.cell? ⟨b, 1, none⟩ = some (.int .u64 r1) := k.cell 1
  have c2 : w.cell? ⟨b, 2, none⟩ = some (.int .u64 r2) := k.cell 2
  have c3 : w.cell? ⟨b, 3, none⟩ = some (.int .u64 r3) := k.cell 3
  have c4 : w.cell? ⟨b, 4, none⟩ = some (.int .u64 r4) := k.cell 4
  have c5 : w.cell? ⟨b, 5, none⟩ = some (.int .u64 r5) := k.cell 5
  have c6 : w.cell? ⟨b, 6, none⟩ = some (.int .u64 r6) := k.cell 6
  have c7 : w.cell? ⟨b, 7, none⟩ = some (.int .u64 r7) := k.cell 7
  have c8 : w.cell? ⟨b, 8, none⟩ = some (.int .i64 pc) := k.cell 8
  have c9 : w.cell? ⟨b, 9, none⟩ = some (.bool is) := k.cell 9
  have c10 : w.cell? ⟨b, 10, none⟩ = some (.int .u64 p0) := k.cell 10
  have c11 : w.cell? ⟨b, 11, none⟩ = some (.int .u64 p1) := k.cell 11
  have c12 : w.cell? ⟨b, 12, none⟩ = some (.int .u64 p2) := k.cell 12
  have c13 : w.cell? ⟨b, 13, none⟩ = some (.int .u64 p3) := k.cell 13
  have c14 : w.cell? ⟨b, 14, none⟩ = some (.int .u64 p4) := k.cell 14
  have c15 : w.cell? ⟨b, 15, none⟩ = some (.int .u64 p5) := k.cell 15
  have c16 : w.cell? ⟨b, 16, none⟩ = some (.int .u64 p6) := k.cell 16
  have c17 : w.cell? ⟨b, 17, none⟩ = some (.int .u64 p7) := k.cell 17
  have c18 : w.cell? ⟨b, 18, none⟩ = some (.int .i64 to) := k.cell 18
  have K := Lib.hid k
  have H := Lib.hid hok'
  cases is with
  | true =>
    clear k hok hok' hF
    go_enter Try.func26, Try.ntmps26
    go_wp2_with fail
    go_ret
    have k2 := (((((((((K.out.set 0 (.int .u64 p0)).set 1 (.int .u64 p1)).set 2 (.int .u64 p2)).set 3 (.int .u64 p3)).set 4 (.int .u64 p4)).set 5 (.int .u64 p5)).set 6 (.int .u64 p6)).set 7 (.int .u64 p7)).set 8 (.int .i64 to))
    have c := ((((((((((Chg.refl [b] w).setCell (p := ⟨b, 0, none⟩) (by simp) (.int .u64 p0)).setCell (p := ⟨b, 1, none⟩) (by simp) (.int .u64 p1)).setCell (p := ⟨b, 2, none⟩) (by simp) (.int .u64 p2)).setCell (p := ⟨b, 3, none⟩) (by simp) (.int .u64 p3)).setCell (p := ⟨b, 4, none⟩) (by simp) (.int .u64 p4)).setCell (p := ⟨b, 5, none⟩) (by simp) (.int .u64 p5)).setCell (p := ⟨b, 6, none⟩) (by simp) (.int .u64 p6)).setCell (p := ⟨b, 7, none⟩) (by simp) (.int .u64 p7)).setCell (p := ⟨b, 8, none⟩) (by simp) (.int .i64 to))
    exact ⟨rfl, ⟨H.out, k2⟩, c⟩
  | false =>
    clear k hok hok'
    go_enter Try.func26, Try.ntmps26
    go_wp2_with fail
    go_ret
    exact ⟨rfl, hF, Chg.refl _ _⟩

set_option maxRecDepth 100000 in
set_option maxHeartbeats 4000000 in
theorem rDrop_any (w : World) (b : Nat) (F : RF) (hF : RefAt w b F) :
    Calls Try.prog 27 #[.pointer (some ⟨b, 0, none⟩)] w (rPost w b (markErr F) (fDrop F)) := by
  have hok' := hF.ok.drop
  obtain ⟨rs, pc, is, ps, to⟩ := F
  have hok := hF.ok
  obtain ⟨r0, r1, r2, r3, r4, r5, r6, r7, rfl⟩ := eight hok.len
  obtain ⟨p0, p1, p2, p3, p4, p5, p6, p7, rfl⟩ := eight hok.plen
  have k := hF.blk
  have hf := k.free
  have c0 : w.cell? ⟨b, 0, none⟩ = some (.int .u64 r0) := k.cell 0
  have c1 : w.cell? ⟨b, 1, none⟩ = some (.int .u64 r1) := k.cell 1
  have c2 : w.cell? ⟨b, 2, none⟩ = some (.int .u64 r2) := k.cell 2
  have c3 : w.cell? ⟨b, 3, none⟩ = some (.int .u64 r3) := k.cell 3
  have c4 : w.cell? ⟨b, 4, none⟩ = some (.int .u64 r4) := k.cell 4
  have c5 : w.cell? ⟨b, 5, none⟩ = some (.int .u64 r5) := k.cell 5
  have c6 : w.cell? ⟨b, 6, none⟩ = some (.int .u64 r6) := k.cell 6
  have c7 : w.cell? ⟨b, 7, none⟩ = some (.int .u64 r7) := k.cell 7
  have c8 : w.cell? ⟨b, 8, none⟩ = some (.int .i64 pc) := k.cell 8
  have c9 : w.cell? ⟨b, 9, none⟩ = some (.bool is) := k.cell 9
  have c10 : w.cell? ⟨b, 10, none⟩ = some (.int .u64 p0) := k.cell 10
  have c11 : w.cell? ⟨b, 11, none⟩ = some (.int .u64 p1) := k.cell 11
  have c12 : w.cell? ⟨b, 12, none⟩ = some (.int .u64 p2) := k.cell 12
  have c13 : w.cell? ⟨b, 13, none⟩ = some (.int .u64 p3) := k.cell 13
  have c14 : w.cell? ⟨b, 14, none⟩ = some (.int .u64 p4) := k.cell 14
  have c15 : w.cell? ⟨b, 15, none⟩ = some (.int .u64 p5) := k.cell 15
  have c16 : w.cell? ⟨b, 16, none⟩ = some (.int .u64 p6) := k.cell 16
  have c17 : w.cell? ⟨b, 17, none⟩ = some (.int .u64 p7) := k.cell 17
  have c18 : w.cell? ⟨b, 18, none⟩ = some (.int .i64 to) := k.cell 18
  have K := Lib.hid k
  have H := Lib.hid hok'
  cases is with
  | true =>
    clear k hok hok' hF
    go_enter Try.func27, Try.ntmps27
    go_wp2_with fail
    go_ret
    have k2 := ((((((((((K.out.set 9 (.bool false)).set 10 (.int .u64 0)).set 11 (.int .u64 0)).set 12 (.int .u64 0)).set 13 (.int .u64 0)).set 14 (.int .u64 0)).set 15 (.int .u64 0)).set 16 (.int .u64 0)).set 17 (.int .u64 0)).set 18 (.int .i64 0))
    have c := (((((((((((Chg.refl [b] w).setCell (p := ⟨b, 9, none⟩) (by simp) (.bool false)).setCell (p := ⟨b, 10, none⟩) (by simp) (.int .u64 0)).setCell (p := ⟨b, 11, none⟩) (by simp) (.int .u64 0)).setCell (p := ⟨b, 12, none⟩) (by simp) (.int .u64 0)).setCell (p := ⟨b, 13, none⟩) (by simp) (.int .u64 0)).setCell (p := ⟨b, 14, none⟩) (by simp) (.int .u64 0)).setCell (p := ⟨b, 15, none⟩) (by simp) (.int .u64 0)).setCell (p := ⟨b, 16, none⟩) (by simp) (.int .u64 0)).setCell (p := ⟨b, 17, none⟩) (by simp) (.int .u64 0)).setCell (p := ⟨b, 18, none⟩) (by simp) (.int .i64 0))
    exact ⟨rfl, ⟨H.out, k2⟩, c⟩
  | false =>
    clear k hok hok'
    go_enter Try.func27, Try.ntmps27
    go_wp2_with fail
    go_ret
    exact ⟨rfl, hF, Chg.refl _ _⟩

end Go.Proofs.Ytmdbgomofbbpcaa
