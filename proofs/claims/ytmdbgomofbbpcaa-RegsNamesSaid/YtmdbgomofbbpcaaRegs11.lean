/- RegsLast: the last checkpoint counts alone. -/
import Derived.Test.YtmdbgomofbbpcaaRegs10
namespace Go.Proofs.Ytmdbgomofbbpcaa
open Go.RowKit

set_option maxRecDepth 100000 in
set_option maxHeartbeats 2000000 in
theorem RegsLast_ok (w : World) (A A2 : Option Addr) (cap cap2 : Nat) (xs ys : List (Int × Int × Int)) (hR : Rd w w.heap.size A 3 encOp xs) (hR2 : Rd w w.heap.size A2 3 encOp ys) (hxs : ∀ p ∈ xs, i64ok p.2.1) (hys : ∀ p ∈ ys, i64ok p.2.1) (hl1 : xs.length ≤ 1000) (hl2 : ys.length ≤ 1000) :
    Calls Try.prog 8 #[.slice A xs.length cap, .slice A2 ys.length cap2] w (StaysPost w) := by
  have hl1' : (xs.length : Int) ≤ 1000 := by omega
  have hl2' : (ys.length : Int) ≤ 1000 := by omega
  go_enter Try.func8, Try.ntmps8
  go_wp2_with fail
  refine (alive_any w).mono ?_
  rintro e w1 ⟨rfl, hC1⟩
  go_wp2_with fail
  refine (New_any w1).mono ?_
  rintro e w2 ⟨rfl, hF2, hC2, -⟩
  have hO : OwnAt w w2 w1.heap.size fNew := ⟨hF2, hC1.size, (hC1.trans hC2).nil_below⟩
  generalize w1.heap.size = a at *
  clear hF2 hC2 hC1
  go_wp2_with fail
  refine (play_any w2 a A cap true fNew xs hl1 w.heap.size (hR.below hO.bel) hO.la hxs hO.f).mono ?_
  rintro e w3 ⟨rfl, hF3, hC3⟩
  replace hO := hO.did hF3 hC3
  clear hF3 hC3
  generalize fPlay true fNew xs = F at *
  go_wp2_with fail
  refine (Save_any _ a _ hO.f).mono ?_
  rintro e w4 ⟨rfl, hFx, hCx⟩
  replace hO := hO.did hFx hCx
  clear hFx hCx
  go_wp2_with fail
  refine (play_any w4 a A2 cap2 true _ ys hl2 w.heap.size (hR2.below hO.bel) hO.la hys hO.f).mono ?_
  rintro e w5 ⟨rfl, hFx, hCx⟩
  replace hO := hO.did hFx hCx
  clear hFx hCx
  generalize fPlay true (fSave F) ys = G at *
  obtain ⟨rs, pc, is, ps, to⟩ := G
  obtain ⟨r0, r1, r2, r3, r4, r5, r6, r7, rfl⟩ := eight hO.f.ok.len
  have hp0 : 0 ≤ pc := hO.f.ok.pc0
  have hp1 : pc ≤ 9223372036854775807 := hO.f.ok.pc1
  go_wp2_with fail
  refine (All_any _ a _ hO.f).mono ?_
  rintro e w6 ⟨rfl, hCx⟩
  simp only [u64s, List.map_cons, List.map_nil]
  replace hO := hO.look hCx
  clear hCx
  go_wp2_with fail
  refine (PC_any _ a _ hO.f).mono ?_
  rintro e w7 ⟨rfl, rfl⟩
  go_wp2_with fail
  have kt := Blk.new w6 [.int .u64 r0, .int .u64 r1, .int .u64 r2, .int .u64 r3, .int .u64 r4, .int .u64 r5, .int .u64 r6, .int .u64 r7] 27
  replace hO := hO.alloc (.cells #[.int .u64 r0, .int .u64 r1, .int .u64 r2, .int .u64 r3, .int .u64 r4, .int .u64 r5, .int .u64 r6, .int .u64 r7] 27)
  generalize w6.alloc (.cells #[.int .u64 r0, .int .u64 r1, .int .u64 r2, .int .u64 r3, .int .u64 r4, .int .u64 r5, .int .u64 r6, .int .u64 r7] 27) = w8 at *
  generalize w6.heap.size = t7 at *
  have ht7a : t7 ≠ a := by obtain ⟨_, kf⟩ := hO.f.block; exact kt.ne kf (by decide)
  refine (Save_any _ a _ hO.f).mono ?_
  rintro e w9 ⟨rfl, hFx, hCx⟩
  replace hO := hO.did hFx hCx
  replace kt := hCx.blk kt (by simpa using ht7a)
  clear hFx hCx
  replace hO : OwnAt w w9 a ⟨[r0, r1, r2, r3, r4, r5, r6, r7], pc, true, [r0, r1, r2, r3, r4, r5, r6, r7], pc⟩ := hO
  have k3 : w9.cell? ⟨t7, 3, none⟩ = some (.int .u64 r3) := kt.cell 3
  have kf := kt.free
  go_wp2_with fail
  refine (Set_any _ a _ 3 _ hO.f).mono ?_
  rintro e w10 ⟨rfl, hFx, hCx⟩
  replace hO := hO.did hFx hCx
  replace kt := hCx.blk kt (by simpa using ht7a)
  clear hFx hCx
  clear k3
  go_wp2_with fail
  refine (Jump_any _ a _ (pc / 2) (by omega) hO.f).mono ?_
  rintro e w11 ⟨rfl, hFx, hCx⟩
  replace hO := hO.did hFx hCx
  replace kt := hCx.blk kt (by simpa using ht7a)
  clear hFx hCx
  go_wp2_with fail
  refine (Restore_any _ a _ hO.f).mono ?_
  rintro e w12 ⟨rfl, hFx, hCx⟩
  replace hO := hO.did hFx hCx
  replace kt := hCx.blk kt (by simpa using ht7a)
  clear hFx hCx
  replace hO : OwnAt w w12 a ⟨[r0, r1, r2, r3, r4, r5, r6, r7], pc, true, [r0, r1, r2, r3, r4, r5, r6, r7], pc⟩ := hO
  have m1 : ∀ x n, markErr (fJump (fSet ⟨[r0, r1, r2, r3, r4, r5, r6, r7], pc, true, [r0, r1, r2, r3, r4, r5, r6, r7], pc⟩ 3 x) n) = 0 := fun _ _ => rfl
  have m2 : markErr ⟨[r0, r1, r2, r3, r4, r5, r6, r7], pc, true, [r0, r1, r2, r3, r4, r5, r6, r7], pc⟩ = 0 := rfl
  have hq := eq_regs
  have q := eqInts_self [r0, r1, r2, r3, r4, r5, r6, r7]
  go_wp2_with fail
  go_region_held3 (fun w' => w'.cell? ⟨t7, 0, none⟩ = some (.int .u64 r0) ∧ w'.cell? ⟨t7, 1, none⟩ = some (.int .u64 r1) ∧ w'.cell? ⟨t7, 2, none⟩ = some (.int .u64 r2) ∧ w'.cell? ⟨t7, 3, none⟩ = some (.int .u64 r3) ∧ w'.cell? ⟨t7, 4, none⟩ = some (.int .u64 r4) ∧ w'.cell? ⟨t7, 5, none⟩ = some (.int .u64 r5) ∧ w'.cell? ⟨t7, 6, none⟩ = some (.int .u64 r6) ∧ w'.cell? ⟨t7, 7, none⟩ = some (.int .u64 r7)) (first | exact ⟨kt.cell 0, kt.cell 1, kt.cell 2, kt.cell 3, kt.cell 4, kt.cell 5, kt.cell 6, kt.cell 7⟩ | exact ⟨(hC9.blk kt.drew (by simp)).cell 0, (hC9.blk kt.drew (by simp)).cell 1, (hC9.blk kt.drew (by simp)).cell 2, (hC9.blk kt.drew (by simp)).cell 3, (hC9.blk kt.drew (by simp)).cell 4, (hC9.blk kt.drew (by simp)).cell 5, (hC9.blk kt.drew (by simp)).cell 6, (hC9.blk kt.drew (by simp)).cell 7⟩ | exact ⟨(hCd.blk (hC9.blk kt.drew (by simp)) (by simpa using ht7a)).cell 0, (hCd.blk (hC9.blk kt.drew (by simp)) (by simpa using ht7a)).cell 1, (hCd.blk (hC9.blk kt.drew (by simp)) (by simpa using ht7a)).cell 2, (hCd.blk (hC9.blk kt.drew (by simp)) (by simpa using ht7a)).cell 3, (hCd.blk (hC9.blk kt.drew (by simp)) (by simpa using ht7a)).cell 4, (hCd.blk (hC9.blk kt.drew (by simp)) (by simpa using ht7a)).cell 5, (hCd.blk (hC9.blk kt.drew (by simp)) (by simpa using ht7a)).cell 6, (hCd.blk (hC9.blk kt.drew (by simp)) (by simpa using ht7a)).cell 7⟩)
    (first
      | (go_at_call 19; refine (All_any _ a _ hO.f.drew).mono ?_; rintro e w12 ⟨rfl, hC9⟩; simp only [u64s, List.map_cons, List.map_nil])
      | (go_at_call 20; refine (PC_any _ a _ (hO.f.drew.chg hC9 (by simp) (by simp))).mono ?_; rintro e w13 ⟨rfl, rfl⟩)
      | (go_at_call 13; refine (Drop_any _ a _ (hO.f.drew.chg hC9 (by simp) (by simp))).mono ?_; rintro e w14 ⟨rfl, hFd, hCd⟩))
  replace hO : OwnAt w w14 a ⟨[r0, r1, r2, r3, r4, r5, r6, r7], pc, false, zeros8, 0⟩ := (hO.drew.look hC9).did hFd hCd
  replace kt := hCd.blk (hC9.blk kt.drew (by simp)) (by simpa using ht7a)
  clear hFd hCd hC9
  go_wp2_with fail
  refine (Point_any _ a _ hO.f).mono ?_
  rintro e w15 ⟨rfl, hCx⟩
  simp only [u64s, List.map_cons, List.map_nil]
  replace hO := hO.look hCx
  replace kt := hCx.blk kt (by simp)
  clear hCx
  simp only [zeros8, List.map_cons, List.map_nil]
  go_wp2_with fail
  have ku := Blk.new w15 [.int .u64 0, .int .u64 0, .int .u64 0, .int .u64 0, .int .u64 0, .int .u64 0, .int .u64 0, .int .u64 0] 27
  replace hO := hO.alloc (.cells #[.int .u64 0, .int .u64 0, .int .u64 0, .int .u64 0, .int .u64 0, .int .u64 0, .int .u64 0, .int .u64 0] 27)
  replace kt := kt.alloc (.cells #[.int .u64 0, .int .u64 0, .int .u64 0, .int .u64 0, .int .u64 0, .int .u64 0, .int .u64 0, .int .u64 0] 27)
  generalize w15.alloc (.cells #[.int .u64 0, .int .u64 0, .int .u64 0, .int .u64 0, .int .u64 0, .int .u64 0, .int .u64 0, .int .u64 0] 27) = w16 at *
  generalize w15.heap.size = t11 at *
  have ht11a : t11 ≠ a := by obtain ⟨_, kf⟩ := hO.f.block; exact ku.ne kf (by decide)
  have m3 : markErr ⟨[r0, r1, r2, r3, r4, r5, r6, r7], pc, false, zeros8, 0⟩ = 60 := rfl
  clear ku
  go_region_held3 (fun w' => w'.cell? ⟨t7, 0, none⟩ = some (.int .u64 r0) ∧ w'.cell? ⟨t7, 1, none⟩ = some (.int .u64 r1) ∧ w'.cell? ⟨t7, 2, none⟩ = some (.int .u64 r2) ∧ w'.cell? ⟨t7, 3, none⟩ = some (.int .u64 r3) ∧ w'.cell? ⟨t7, 4, none⟩ = some (.int .u64 r4) ∧ w'.cell? ⟨t7, 5, none⟩ = some (.int .u64 r5) ∧ w'.cell? ⟨t7, 6, none⟩ = some (.int .u64 r6) ∧ w'.cell? ⟨t7, 7, none⟩ = some (.int .u64 r7)) (first | exact ⟨kt.cell 0, kt.cell 1, kt.cell 2, kt.cell 3, kt.cell 4, kt.cell 5, kt.cell 6, kt.cell 7⟩ | exact ⟨(hCr.blk kt.drew (by simpa using ht7a)).cell 0, (hCr.blk kt.drew (by simpa using ht7a)).cell 1, (hCr.blk kt.drew (by simpa using ht7a)).cell 2, (hCr.blk kt.drew (by simpa using ht7a)).cell 3, (hCr.blk kt.drew (by simpa using ht7a)).cell 4, (hCr.blk kt.drew (by simpa using ht7a)).cell 5, (hCr.blk kt.drew (by simpa using ht7a)).cell 6, (hCr.blk kt.drew (by simpa using ht7a)).cell 7⟩ | exact ⟨(hCd.blk (hCr.blk kt.drew (by simpa using ht7a)) (by simpa using ht7a)).cell 0, (hCd.blk (hCr.blk kt.drew (by simpa using ht7a)) (by simpa using ht7a)).cell 1, (hCd.blk (hCr.blk kt.drew (by simpa using ht7a)) (by simpa using ht7a)).cell 2, (hCd.blk (hCr.blk kt.drew (by simpa using ht7a)) (by simpa using ht7a)).cell 3, (hCd.blk (hCr.blk kt.drew (by simpa using ht7a)) (by simpa using ht7a)).cell 4, (hCd.blk (hCr.blk kt.drew (by simpa using ht7a)) (by simpa using ht7a)).cell 5, (hCd.blk (hCr.blk kt.drew (by simpa using ht7a)) (by simpa using ht7a)).cell 6, (hCd.blk (hCr.blk kt.drew (by simpa using ht7a)) (by simpa using ht7a)).cell 7⟩ | exact ⟨(hC9.blk (hCd.blk (hCr.blk kt.drew (by simpa using ht7a)) (by simpa using ht7a)) (by simp)).cell 0, (hC9.blk (hCd.blk (hCr.blk kt.drew (by simpa using ht7a)) (by simpa using ht7a)) (by simp)).cell 1, (hC9.blk (hCd.blk (hCr.blk kt.drew (by simpa using ht7a)) (by simpa using ht7a)) (by simp)).cell 2, (hC9.blk (hCd.blk (hCr.blk kt.drew (by simpa using ht7a)) (by simpa using ht7a)) (by simp)).cell 3, (hC9.blk (hCd.blk (hCr.blk kt.drew (by simpa using ht7a)) (by simpa using ht7a)) (by simp)).cell 4, (hC9.blk (hCd.blk (hCr.blk kt.drew (by simpa using ht7a)) (by simpa using ht7a)) (by simp)).cell 5, (hC9.blk (hCd.blk (hCr.blk kt.drew (by simpa using ht7a)) (by simpa using ht7a)) (by simp)).cell 6, (hC9.blk (hCd.blk (hCr.blk kt.drew (by simpa using ht7a)) (by simpa using ht7a)) (by simp)).cell 7⟩)
    (first
      | (go_at_call 12; refine (Restore_any _ a _ hO.f.drew).mono ?_; rintro e w17 ⟨rfl, hFr, hCr⟩; replace hFr : FileAt w17 a ⟨[r0, r1, r2, r3, r4, r5, r6, r7], pc, false, zeros8, 0⟩ := hFr)
      | (go_at_call 13; refine (Drop_any _ a _ hFr).mono ?_; rintro e w18 ⟨rfl, hFd, hCd⟩; replace hFd : FileAt w18 a ⟨[r0, r1, r2, r3, r4, r5, r6, r7], pc, false, zeros8, 0⟩ := hFd)
      | (go_at_call 19; refine (All_any _ a _ hFd).mono ?_; rintro e w19 ⟨rfl, hC9⟩; simp only [u64s, List.map_cons, List.map_nil])
      | (go_at_call 20; refine (PC_any _ a _ (hFd.chg hC9 (by simp) (by simp))).mono ?_; rintro e w20 ⟨rfl, rfl⟩))
  go_wp2_with fail
  go_ret
  exact ⟨rfl, (((hO.drew.did hFr hCr).did hFd hCd).look hC9).bel⟩

theorem RegsLast_any (w : World) (A A2 : Option Addr) (cap cap2 : Nat) (xs ys : List (Int × Int × Int)) (hR : Rd w w.heap.size A 3 encOp xs) (hR2 : Rd w w.heap.size A2 3 encOp ys) (hxs : ∀ p ∈ xs, i64ok p.2.1) (hys : ∀ p ∈ ys, i64ok p.2.1) :
    Calls Try.prog 8 #[.slice A xs.length cap, .slice A2 ys.length cap2] w (StaysPost w) := by
  by_cases hlen : 1000 < xs.length
  · have hl' : (1000 : Int) < xs.length := by omega
    go_enter Try.func8, Try.ntmps8
    go_wp2_with fail
    refine (alive_any w).mono ?_
    rintro e w1 ⟨rfl, hC1⟩
    go_wp2_with fail
    go_ret
    exact ⟨rfl, hC1.nil_below⟩
  by_cases hlen2 : 1000 < ys.length
  · have hl' : (1000 : Int) < ys.length := by omega
    have hl2 : (xs.length : Int) ≤ 1000 := by omega
    go_enter Try.func8, Try.ntmps8
    go_wp2_with fail
    refine (alive_any w).mono ?_
    rintro e w1 ⟨rfl, hC1⟩
    go_wp2_with fail
    go_ret
    exact ⟨rfl, hC1.nil_below⟩
  exact RegsLast_ok w A A2 cap cap2 xs ys hR hR2 hxs hys (by omega) (by omega)

end Go.Proofs.Ytmdbgomofbbpcaa
