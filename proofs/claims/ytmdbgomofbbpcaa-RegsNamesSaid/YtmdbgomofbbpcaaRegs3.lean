/- A register file: Drop, Restore, Point. -/
import Derived.Test.YtmdbgomofbbpcaaRegs2
namespace Go.Proofs.Ytmdbgomofbbpcaa
open Go.RowKit

theorem Try.infoU64 : (Try.prog.info? 26).map (fun i => (i.zero, i.size, i.bytes)) = some (some (.int .u64 0), 1, 8) := by kernel_rfl
theorem Try.cellsU64 : Try.prog.cellsOf 26 = 1 := by kernel_rfl

theorem eq_regs (w : World) (a0 a1 a2 a3 a4 a5 a6 a7 b0 b1 b2 b3 b4 b5 b6 b7 : Int) :
    (Op.equalIn 10000 27 (.agg #[.int .u64 a0, .int .u64 a1, .int .u64 a2, .int .u64 a3, .int .u64 a4, .int .u64 a5, .int .u64 a6, .int .u64 a7]) (.agg #[.int .u64 b0, .int .u64 b1, .int .u64 b2, .int .u64 b3, .int .u64 b4, .int .u64 b5, .int .u64 b6, .int .u64 b7])).run Try.prog w = .ok (eqInts [a0, a1, a2, a3, a4, a5, a6, a7] [b0, b1, b2, b3, b4, b5, b6, b7]) w := by
  obtain ⟨i0, hi, _⟩ := info_parts Try.infoU64
  exact run_eq_array w 9998 (k := .u64) Try.underlying27 hi Try.cellsU64 Try.underlying26 [a0, a1, a2, a3, a4, a5, a6, a7] [b0, b1, b2, b3, b4, b5, b6, b7] rfl rfl

def DropPost (w : World) (b : Nat) (F : RF) (e : Ending) (w' : World) : Prop :=
  e = .returned (.int .i64 (markErr F)) ∧ FileAt w' b (fDrop F) ∧ Chg [b] w w'

set_option maxHeartbeats 400000 in
theorem Drop_any (w : World) (b : Nat) (F : RF) (hF : FileAt w b F) :
    Calls Try.prog 13 #[.pointer (some ⟨b, 0, none⟩)] w (DropPost w b F) := by
  by_cases h : F.is = true
  · have e1 : markErr F = 0 := by simp [markErr, h]
    have hfree := hF.free
    have hok := hF.ok
    have hok' := hok.drop
    obtain ⟨_, pv, x, y⟩ := id hF
    have hp : w.cell? ⟨b, 9, none⟩ = some pv := by
      rw [x.cell, List.getElem?_append_right (by simp [hok.len])]; simp [hok.len]
    have x2 := x.set 9 (.pointer none)
    rw [List.set_append_right _ _ (by simp [hok.len])] at x2
    simp only [List.length_map, hok.len] at x2
    clear x y hok
    go_enter Try.func13, Try.ntmps13
    go_wp2_with fail
    refine (marked_any _ _ _ hF).mono ?_
    rintro e w' ⟨rfl, rfl⟩
    go_wp2_with fail
    go_ret
    refine ⟨ret_int e1.symm, ⟨hok', .pointer none, ?_⟩, (Chg.refl _ _).setCell (by simp) _⟩
    simp only [fDrop, h, if_true]
    exact ⟨x2, .noPt rfl rfl⟩
  · have h' : F.is = false := by simpa using h
    have e1 : markErr F = 60 := by simp [markErr, h']
    have e2 : fDrop F = F := by simp [fDrop, h']
    go_enter Try.func13, Try.ntmps13
    go_wp2_with fail
    refine (marked_any _ _ _ hF).mono ?_
    rintro e w' ⟨rfl, rfl⟩
    go_wp2_with fail
    go_ret
    exact ⟨ret_int e1.symm, by rw [e2]; exact hF, Chg.refl _ _⟩

def PointPost (w : World) (F : RF) (e : Ending) (w' : World) : Prop :=
  e = .returned (.tuple #[u64s F.ps, .int .i64 F.to, .bool F.is]) ∧ Chg [] w w'

set_option maxHeartbeats 400000 in
theorem Point_any (w : World) (b : Nat) (F : RF) (hF : FileAt w b F) :
    Calls Try.prog 14 #[.pointer (some ⟨b, 0, none⟩)] w (PointPost w F) := by
  have hFa := hF.alloc
  by_cases h : F.is = true
  · have e1 : markErr F = 0 := by simp [markErr, h]
    have hok := hF.ok
    obtain ⟨_, pv, x, y⟩ := id hF
    have hp : w.cell? ⟨b, 9, none⟩ = some pv := by
      rw [x.cell, List.getElem?_append_right (by simp [hok.len])]; simp [hok.len]
    cases y with
    | noPt h2 _ => rw [h] at h2; cases h2
    | onPt bp _ e k =>
      subst e
      have hb1 := x.lt
      have hb2 := k.lt
      obtain ⟨rs, pc, is, ps, to⟩ := F
      obtain ⟨p0, p1, p2, p3, p4, p5, p6, p7, rfl⟩ := eight hok.plen
      subst h
      clear hF
      go_enter Try.func14, Try.ntmps14
      go_wp2_with fail
      refine (marked_any _ _ _ (hFa _)).mono ?_
      rintro e w' ⟨rfl, rfl⟩
      go_wp2_with fail
      have kn := Blk.new w [.int .u64 0, .int .u64 0, .int .u64 0, .int .u64 0, .int .u64 0, .int .u64 0, .int .u64 0, .int .u64 0] 27
      have hC := (Chg.refl [] w).alloc (.cells #[.int .u64 0, .int .u64 0, .int .u64 0, .int .u64 0, .int .u64 0, .int .u64 0, .int .u64 0, .int .u64 0] 27)
      have k2 := k.alloc (.cells #[.int .u64 0, .int .u64 0, .int .u64 0, .int .u64 0, .int .u64 0, .int .u64 0, .int .u64 0, .int .u64 0] 27)
      have hp2 := (World.cell?_alloc_lt w (.cells #[.int .u64 0, .int .u64 0, .int .u64 0, .int .u64 0, .int .u64 0, .int .u64 0, .int .u64 0, .int .u64 0] 27) ⟨b, 9, none⟩ hb1).trans hp
      clear hp x k hFa
      generalize hW : w.alloc (.cells #[.int .u64 0, .int .u64 0, .int .u64 0, .int .u64 0, .int .u64 0, .int .u64 0, .int .u64 0, .int .u64 0] 27) = W at *
      generalize hrb : w.heap.size = rb at kn ⊢
      have c0 : W.cell? ⟨bp, 0, none⟩ = some (.int .u64 p0) := k2.cell 0
      have c1 : W.cell? ⟨bp, 1, none⟩ = some (.int .u64 p1) := k2.cell 1
      have c2 : W.cell? ⟨bp, 2, none⟩ = some (.int .u64 p2) := k2.cell 2
      have c3 : W.cell? ⟨bp, 3, none⟩ = some (.int .u64 p3) := k2.cell 3
      have c4 : W.cell? ⟨bp, 4, none⟩ = some (.int .u64 p4) := k2.cell 4
      have c5 : W.cell? ⟨bp, 5, none⟩ = some (.int .u64 p5) := k2.cell 5
      have c6 : W.cell? ⟨bp, 6, none⟩ = some (.int .u64 p6) := k2.cell 6
      have c7 : W.cell? ⟨bp, 7, none⟩ = some (.int .u64 p7) := k2.cell 7
      have c8 : W.cell? ⟨bp, 8, none⟩ = some (.int .i64 to) := k2.cell 8
      have n0 : W.cell? ⟨rb, 0, none⟩ = some (.int .u64 0) := kn.cell 0
      have n1 : W.cell? ⟨rb, 1, none⟩ = some (.int .u64 0) := kn.cell 1
      have n2 : W.cell? ⟨rb, 2, none⟩ = some (.int .u64 0) := kn.cell 2
      have n3 : W.cell? ⟨rb, 3, none⟩ = some (.int .u64 0) := kn.cell 3
      have n4 : W.cell? ⟨rb, 4, none⟩ = some (.int .u64 0) := kn.cell 4
      have n5 : W.cell? ⟨rb, 5, none⟩ = some (.int .u64 0) := kn.cell 5
      have n6 : W.cell? ⟨rb, 6, none⟩ = some (.int .u64 0) := kn.cell 6
      have n7 : W.cell? ⟨rb, 7, none⟩ = some (.int .u64 0) := kn.cell 7
      have hfr : ∀ i, W.frozen? ⟨rb, i, none⟩ = false := kn.free
      have nb : b ≠ rb := by omega
      have nbp : bp ≠ rb := by omega
      have nb' : rb ≠ b := by omega
      have nbp' : rb ≠ bp := by omega
      have kf := ((((((((kn.set 0 (.int .u64 p0)).set 1 (.int .u64 p1)).set 2 (.int .u64 p2)).set 3 (.int .u64 p3)).set 4 (.int .u64 p4)).set 5 (.int .u64 p5)).set 6 (.int .u64 p6)).set 7 (.int .u64 p7)).drew
      have KF := Lib.hid kf
      clear k2 kn kf
      have ho : rb < w.heap.size → rb ∈ ([] : List Nat) := fun h => by omega
      clear hrb
      have HO := Lib.hid ho; clear ho
      go_region_held3 (fun w' => w'.cell? ⟨b, 9, none⟩ = some (.pointer (some ⟨bp, 0, none⟩)) ∧ w'.cell? ⟨bp, 0, none⟩ = some (.int .u64 p0) ∧ w'.cell? ⟨bp, 1, none⟩ = some (.int .u64 p1) ∧ w'.cell? ⟨bp, 2, none⟩ = some (.int .u64 p2) ∧ w'.cell? ⟨bp, 3, none⟩ = some (.int .u64 p3) ∧ w'.cell? ⟨bp, 4, none⟩ = some (.int .u64 p4) ∧ w'.cell? ⟨bp, 5, none⟩ = some (.int .u64 p5) ∧ w'.cell? ⟨bp, 6, none⟩ = some (.int .u64 p6) ∧ w'.cell? ⟨bp, 7, none⟩ = some (.int .u64 p7) ∧ w'.cell? ⟨bp, 8, none⟩ = some (.int .i64 to)) (go_keep) (fail)
      go_wp2_with fail
      have ho := HO.out
      have kf := KF.out
      simp only [List.set_cons_zero, List.set_cons_succ] at kf
      refine bodyPost_ret (v := .tuple #[u64s [p0, p1, p2, p3, p4, p5, p6, p7], .int .i64 to, .bool true]) ?_ rfl ⟨rfl, ((((((((hC.setCell ho _).setCell ho _).setCell ho _).setCell ho _).setCell ho _).setCell ho _).setCell ho _).setCell ho _).drew⟩
      have d0 := kf.cell 0
      have d1 := kf.cell 1
      have d2 := kf.cell 2
      have d3 := kf.cell 3
      have d4 := kf.cell 4
      have d5 := kf.cell 5
      have d6 := kf.cell 6
      have d7 := kf.cell 7
      revert d0 d1 d2 d3 d4 d5 d6 d7
      clear kf hC c0 c1 c2 c3 c4 c5 c6 c7 c8 n0 n1 n2 n3 n4 n5 n6 n7 HO KF hfr ho
      generalize World.drew _ = Wf
      intro d0 d1 d2 d3 d4 d5 d6 d7
      simp at d0 d1 d2 d3 d4 d5 d6 d7
      simp [results, Try.results14, go_sem, u64s, d0, d1, d2, d3, d4, d5, d6, d7]
  · have h' : F.is = false := by simpa using h
    have e1 : markErr F = 60 := by simp [markErr, h']
    obtain ⟨e2, e3⟩ := hF.ok.no h'
    go_enter Try.func14, Try.ntmps14
    go_wp2_with fail
    refine (marked_any _ _ _ (hFa _)).mono ?_
    rintro e w' ⟨rfl, rfl⟩
    go_wp2_with fail
    refine bodyPost_ret (v := .tuple #[u64s zeros8, .int .i64 0, .bool false]) ?_ rfl ⟨by rw [e2, e3, h'], (Chg.refl _ _).alloc _⟩
    simp [results, Try.results14, go_sem, u64s, zeros8]

theorem Point_no (w : World) (v : Value) (h : ∀ o, NoFile (w.alloc o) v) :
    Calls Try.prog 14 #[v] w fun e w' => e = .returned (.tuple #[u64s zeros8, .int .i64 0, .bool false]) ∧ Chg [] w w' := by
  go_enter Try.func14, Try.ntmps14
  go_wp2_with fail
  refine (marked_no _ _ (h _)).mono ?_
  rintro e w' ⟨rfl, rfl⟩
  go_wp2_with fail
  refine bodyPost_ret (v := .tuple #[u64s zeros8, .int .i64 0, .bool false]) ?_ rfl ⟨rfl, (Chg.refl _ _).alloc _⟩
  simp [results, Try.results14, go_sem, u64s, zeros8]

end Go.Proofs.Ytmdbgomofbbpcaa
