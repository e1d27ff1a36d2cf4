/- A register file: Restore. -/
import Derived.Test.YtmdbgomofbbpcaaRegs3
namespace Go.Proofs.Ytmdbgomofbbpcaa
open Go.RowKit

def RestorePost (w : World) (b : Nat) (F : RF) (e : Ending) (w' : World) : Prop :=
  e = .returned (.int .i64 (markErr F)) ∧ FileAt w' b (fRestore F) ∧ Chg [b] w w'

set_option maxRecDepth 100000 in
set_option maxHeartbeats 4000000 in
theorem Restore_any (w : World) (b : Nat) (F : RF) (hF : FileAt w b F) :
    Calls Try.prog 12 #[.pointer (some ⟨b, 0, none⟩)] w (RestorePost w b F) := by
  by_cases h : F.is = true
  · have e1 : markErr F = 0 := by simp [markErr, h]
    have hfree := hF.free
    have hok := hF.ok
    have hok' := hok.restore
    have c8 := hF.pcCell
    have hreg := fun i hi => hF.reg (i := i) hi
    obtain ⟨_, pv, x, y⟩ := id hF
    have hp : w.cell? ⟨b, 9, none⟩ = some pv := by
      rw [x.cell, List.getElem?_append_right (by simp [hok.len])]; simp [hok.len]
    cases y with
    | noPt h2 _ => rw [h] at h2; cases h2
    | onPt bp _ e k =>
      subst e
      have nb : b ≠ bp := x.ne k (by decide)
      obtain ⟨rs, pc, is, ps, to⟩ := F
      obtain ⟨r0, r1, r2, r3, r4, r5, r6, r7, rfl⟩ := eight hok.len
      obtain ⟨p0, p1, p2, p3, p4, p5, p6, p7, rfl⟩ := eight hok.plen
      subst h
      have c0 : w.cell? ⟨b, 0, none⟩ = some (.int .u64 r0) := hF.reg (i := 0) (by decide)
      have c1 : w.cell? ⟨b, 1, none⟩ = some (.int .u64 r1) := hF.reg (i := 1) (by decide)
      have c2 : w.cell? ⟨b, 2, none⟩ = some (.int .u64 r2) := hF.reg (i := 2) (by decide)
      have c3 : w.cell? ⟨b, 3, none⟩ = some (.int .u64 r3) := hF.reg (i := 3) (by decide)
      have c4 : w.cell? ⟨b, 4, none⟩ = some (.int .u64 r4) := hF.reg (i := 4) (by decide)
      have c5 : w.cell? ⟨b, 5, none⟩ = some (.int .u64 r5) := hF.reg (i := 5) (by decide)
      have c6 : w.cell? ⟨b, 6, none⟩ = some (.int .u64 r6) := hF.reg (i := 6) (by decide)
      have c7 : w.cell? ⟨b, 7, none⟩ = some (.int .u64 r7) := hF.reg (i := 7) (by decide)
      have d0 : w.cell? ⟨bp, 0, none⟩ = some (.int .u64 p0) := k.cell 0
      have d1 : w.cell? ⟨bp, 1, none⟩ = some (.int .u64 p1) := k.cell 1
      have d2 : w.cell? ⟨bp, 2, none⟩ = some (.int .u64 p2) := k.cell 2
      have d3 : w.cell? ⟨bp, 3, none⟩ = some (.int .u64 p3) := k.cell 3
      have d4 : w.cell? ⟨bp, 4, none⟩ = some (.int .u64 p4) := k.cell 4
      have d5 : w.cell? ⟨bp, 5, none⟩ = some (.int .u64 p5) := k.cell 5
      have d6 : w.cell? ⟨bp, 6, none⟩ = some (.int .u64 p6) := k.cell 6
      have d7 : w.cell? ⟨bp, 7, none⟩ = some (.int .u64 p7) := k.cell 7
      have d8 : w.cell? ⟨bp, 8, none⟩ = some (.int .i64 to) := k.cell 8
      have X := Lib.hid x
      have KK := Lib.hid k
      have HO := Lib.hid hok'
      have hq := fun W => eq_regs W r0 r1 r2 r3 r4 r5 r6 r7 p0 p1 p2 p3 p4 p5 p6 p7
      clear x k hok hok' hreg
      by_cases g1 : [r0, r1, r2, r3, r4, r5, r6, r7] = [p0, p1, p2, p3, p4, p5, p6, p7]
      · have q1 := (eqInts_iff (l := [r0, r1, r2, r3, r4, r5, r6, r7]) (m := [p0, p1, p2, p3, p4, p5, p6, p7])).2 g1
        have G1 := Lib.hid g1
        clear g1
        by_cases g2 : pc = to
        · have q2 : (pc == to) = true := by simpa using g2
          have G2 := Lib.hid g2
          clear g2
          go_enter Try.func12, Try.ntmps12
          go_wp2_with fail
          refine (marked_any _ _ _ hF).mono ?_
          rintro e w' ⟨rfl, rfl⟩
          go_wp2_with fail
          go_quiet (fail)
          go_wp2_with fail
          go_ret
          refine ⟨ret_int e1.symm, ?_, (Chg.refl _ _).drewN _⟩
          have g1 := G1.out
          have g2 := G2.out
          simp only [fRestore, if_true]
          rw [← g1, ← g2] at hF ⊢
          exact hF.drewN _
        · have q2 : (pc == to) = false := by simpa using g2
          clear g2
          go_enter Try.func12, Try.ntmps12
          go_wp2_with fail
          refine (marked_any _ _ _ hF).mono ?_
          rintro e w' ⟨rfl, rfl⟩
          go_wp2_with fail
          go_quiet (fail)
          go_wp2_with fail
          go_ret
          refine ⟨ret_int e1.symm, ⟨HO.out, _, (((((((((X.out.drew.set 0 (.int .u64 p0)).set 1 (.int .u64 p1)).set 2 (.int .u64 p2)).set 3 (.int .u64 p3)).set 4 (.int .u64 p4)).set 5 (.int .u64 p5)).set 6 (.int .u64 p6)).set 7 (.int .u64 p7)).set 8 (.int .i64 to)), .onPt bp rfl rfl (((((((((KK.out.drew.other nb _).other nb _).other nb _).other nb _).other nb _).other nb _).other nb _).other nb _).other nb _)⟩, (((((((((((Chg.refl [b] w).drewN _).setCell (by simp) _).setCell (by simp) _).setCell (by simp) _).setCell (by simp) _).setCell (by simp) _).setCell (by simp) _).setCell (by simp) _).setCell (by simp) _).setCell (by simp) _)⟩
      · have q1 : eqInts [r0, r1, r2, r3, r4, r5, r6, r7] [p0, p1, p2, p3, p4, p5, p6, p7] = false := by simpa [eqInts] using g1
        clear g1
        go_enter Try.func12, Try.ntmps12
        go_wp2_with fail
        refine (marked_any _ _ _ hF).mono ?_
        rintro e w' ⟨rfl, rfl⟩
        go_wp2_with fail
        go_quiet (fail)
        go_wp2_with fail
        go_ret
        refine ⟨ret_int e1.symm, ⟨HO.out, _, (((((((((X.out.drew.set 0 (.int .u64 p0)).set 1 (.int .u64 p1)).set 2 (.int .u64 p2)).set 3 (.int .u64 p3)).set 4 (.int .u64 p4)).set 5 (.int .u64 p5)).set 6 (.int .u64 p6)).set 7 (.int .u64 p7)).set 8 (.int .i64 to)), .onPt bp rfl rfl (((((((((KK.out.drew.other nb _).other nb _).other nb _).other nb _).other nb _).other nb _).other nb _).other nb _).other nb _)⟩, (((((((((((Chg.refl [b] w).drewN _).setCell (by simp) _).setCell (by simp) _).setCell (by simp) _).setCell (by simp) _).setCell (by simp) _).setCell (by simp) _).setCell (by simp) _).setCell (by simp) _).setCell (by simp) _)⟩
  · have h' : F.is = false := by simpa using h
    have e1 : markErr F = 60 := by simp [markErr, h']
    have e2 : fRestore F = F := by simp [fRestore, h']
    go_enter Try.func12, Try.ntmps12
    go_wp2_with fail
    refine (marked_any _ _ _ hF).mono ?_
    rintro e w' ⟨rfl, rfl⟩
    go_wp2_with fail
    go_quiet (fail)
    go_wp2_with fail
    go_ret
    exact ⟨ret_int e1.symm, by rw [e2]; exact hF.drewN _, (Chg.refl _ _).drewN _⟩

theorem Restore_no (w : World) (v : Value) (h : NoFile w v) :
    Calls Try.prog 12 #[v] w fun e w' => e = .returned (.int .i64 1) ∧ Chg [] w w' := by
  go_enter Try.func12, Try.ntmps12
  go_wp2_with fail
  refine (marked_no _ _ h).mono ?_
  rintro e w' ⟨rfl, rfl⟩
  go_wp2_with fail
  go_quiet (fail)
  go_wp2_with fail
  go_ret
  exact ⟨rfl, (Chg.refl _ _).drewN _⟩

end Go.Proofs.Ytmdbgomofbbpcaa
