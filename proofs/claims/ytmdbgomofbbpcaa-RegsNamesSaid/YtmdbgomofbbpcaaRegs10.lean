/- RegsOne and RegsLast: a Set's register; the last checkpoint. -/
import Derived.Test.YtmdbgomofbbpcaaRegs9
namespace Go.Proofs.Ytmdbgomofbbpcaa
open Go.RowKit

set_option maxRecDepth 100000 in
set_option maxHeartbeats 1000000 in
theorem RegsOne_in (w : World) (A : Option Addr) (cap : Nat) (xs : List (Int × Int × Int)) (i v : Int) (hR : Rd w w.heap.size A 3 encOp xs) (hxs : ∀ p ∈ xs, i64ok p.2.1) (hl1 : xs.length ≤ 1000) (h0 : 0 ≤ i) (h1 : i < 8) :
    Calls Try.prog 7 #[.slice A xs.length cap, .int .i64 i, .int .u64 v] w (StaysPost w) := by
  have hl1' : (xs.length : Int) ≤ 1000 := by omega
  go_enter Try.func7, Try.ntmps7
  go_wp2_with fail
  refine (alive_any w).mono ?_
  rintro e w1 ⟨rfl, hC1⟩
  go_wp2_with fail
  refine (New_any w1).mono ?_
  rintro e w2 ⟨rfl, hF2, hC2, -⟩
  have hO : OwnAt w w2 w1.heap.size fNew := ⟨hF2, hC1.size, (hC1.trans hC2).nil_below⟩
  generalize w1.heap.size = a at *
  clear hF2 hC2 hC1
  go_wp2_with fail
  refine (play_any w2 a A cap true fNew xs hl1 w.heap.size (hR.below hO.bel) hO.la hxs hO.f).mono ?_
  rintro e w3 ⟨rfl, hF3, hC3⟩
  replace hO := hO.did hF3 hC3
  clear hF3 hC3
  generalize fPlay true fNew xs = F at *
  obtain ⟨rs, pc, is, ps, to⟩ := F
  obtain ⟨r0, r1, r2, r3, r4, r5, r6, r7, rfl⟩ := eight hO.f.ok.len
  obtain ⟨p0, p1, p2, p3, p4, p5, p6, p7, rfl⟩ := eight hO.f.ok.plen
  go_wp2_with fail
  refine (All_any _ a _ hO.f).mono ?_
  rintro e w4 ⟨rfl, hCx⟩
  simp only [u64s, List.map_cons, List.map_nil]
  replace hO := hO.look hCx
  clear hCx
  go_wp2_with fail
  refine (PC_any _ a _ hO.f).mono ?_
  rintro e w5 ⟨rfl, rfl⟩
  go_wp2_with fail
  have hw4 := hO.bel.size
  have kt := Blk.new w4 [.int .u64 r0, .int .u64 r1, .int .u64 r2, .int .u64 r3, .int .u64 r4, .int .u64 r5, .int .u64 r6, .int .u64 r7] 27
  replace hO := hO.alloc (.cells #[.int .u64 r0, .int .u64 r1, .int .u64 r2, .int .u64 r3, .int .u64 r4, .int .u64 r5, .int .u64 r6, .int .u64 r7] 27)
  generalize w4.alloc (.cells #[.int .u64 r0, .int .u64 r1, .int .u64 r2, .int .u64 r3, .int .u64 r4, .int .u64 r5, .int .u64 r6, .int .u64 r7] 27) = w6 at *
  generalize w4.heap.size = t9 at *
  have ht9a : t9 ≠ a := by obtain ⟨_, kf⟩ := hO.f.block; exact kt.ne kf (by decide)
  refine (Point_any _ a _ hO.f).mono ?_
  rintro e w7 ⟨rfl, hCx⟩
  simp only [u64s, List.map_cons, List.map_nil]
  replace hO := hO.look hCx
  replace kt := hCx.blk kt (by simp)
  clear hCx
  go_wp2_with fail
  have hlt9 := kt.lt
  have ku := Blk.new w7 [.int .u64 p0, .int .u64 p1, .int .u64 p2, .int .u64 p3, .int .u64 p4, .int .u64 p5, .int .u64 p6, .int .u64 p7] 27
  replace hO := hO.alloc (.cells #[.int .u64 p0, .int .u64 p1, .int .u64 p2, .int .u64 p3, .int .u64 p4, .int .u64 p5, .int .u64 p6, .int .u64 p7] 27)
  replace kt := kt.alloc (.cells #[.int .u64 p0, .int .u64 p1, .int .u64 p2, .int .u64 p3, .int .u64 p4, .int .u64 p5, .int .u64 p6, .int .u64 p7] 27)
  generalize w7.alloc (.cells #[.int .u64 p0, .int .u64 p1, .int .u64 p2, .int .u64 p3, .int .u64 p4, .int .u64 p5, .int .u64 p6, .int .u64 p7] 27) = w8 at *
  generalize w7.heap.size = t11 at *
  have ht11a : t11 ≠ a := by obtain ⟨_, kf⟩ := hO.f.block; exact ku.ne kf (by decide)
  refine (Set_any _ a _ i v hO.f).mono ?_
  rintro e w9 ⟨rfl, hFx, hCx⟩
  replace hO := hO.did hFx hCx
  replace kt := hCx.blk kt (by simpa using ht9a)
  replace ku := hCx.blk ku (by simpa using ht11a)
  clear hFx hCx
  have m : memErr 8 i = 0 := memErr_in ⟨h0, h1⟩
  have ht : t9 ≠ t11 := by omega
  have kf := kt.free
  have hci : w9.cell? ⟨t9, i.toNat, none⟩ = some (.int .u64 ([r0, r1, r2, r3, r4, r5, r6, r7][i.toNat]?.getD 0)) := by
    have hx : i.toNat < [r0, r1, r2, r3, r4, r5, r6, r7].length := by simp; omega
    exact (kt.cell i.toNat).trans (map_get (k := .u64) hx)
  have kt2 : Blk (w9.setCell ⟨t9, i.toNat, none⟩ (.int .u64 v)) t9 ((memPut [r0, r1, r2, r3, r4, r5, r6, r7] i v).map (Value.int .u64)) 27 := by
    have hx := kt.set i.toNat (.int .u64 v)
    simp only [memPut]
    rw [if_pos ⟨h0, by simpa using h1⟩, List.map_set]
    exact hx
  have ku2 := ku.other (a := ⟨t9, i.toNat, none⟩) ht (.int .u64 v)
  have hO2 : OwnAt w (w9.setCell ⟨t9, i.toNat, none⟩ (.int .u64 v)) a (fSet ⟨[r0, r1, r2, r3, r4, r5, r6, r7], pc, is, [p0, p1, p2, p3, p4, p5, p6, p7], to⟩ i v) := by
    have hs : Chg [t9] w9 (w9.setCell ⟨t9, i.toNat, none⟩ (.int .u64 v)) := (Chg.refl _ _).setCell (by simp) _
    refine ⟨hO.f.chg1 hs kt ht9a.symm (by decide), hO.la, below_chg hO.bel hs ?_ (Nat.le_refl _)⟩
    intro x hx; simp at hx; omega
  obtain ⟨s0, s1, s2, s3, s4, s5, s6, s7, hs⟩ := eight (l := memPut [r0, r1, r2, r3, r4, r5, r6, r7] i v) (by rw [memPut_length]; rfl)
  simp only [fSet] at hO2
  rw [hs] at hO2 kt2
  have HO := Lib.hid hO2
  have KT := Lib.hid kt2
  have KU := Lib.hid ku2
  clear hO kt ku hO2 kt2 ku2 hs
  go_wp2_with fail
  generalize w9.setCell _ _ = w9' at *
  have hO := HO.out
  have kt := KT.out
  have ku := KU.out
  clear HO KT KU kf hci
  refine (Point_any _ a _ hO.f).mono ?_
  rintro e w10 ⟨rfl, hCx⟩
  simp only [u64s, List.map_cons, List.map_nil]
  replace hO := hO.look hCx
  replace kt := hCx.blk kt (by simp)
  replace ku := hCx.blk ku (by simp)
  clear hCx
  go_wp2_with fail
  have kv := Blk.new w10 [.int .u64 p0, .int .u64 p1, .int .u64 p2, .int .u64 p3, .int .u64 p4, .int .u64 p5, .int .u64 p6, .int .u64 p7] 27
  replace hO := hO.alloc (.cells #[.int .u64 p0, .int .u64 p1, .int .u64 p2, .int .u64 p3, .int .u64 p4, .int .u64 p5, .int .u64 p6, .int .u64 p7] 27)
  replace kt := kt.alloc (.cells #[.int .u64 p0, .int .u64 p1, .int .u64 p2, .int .u64 p3, .int .u64 p4, .int .u64 p5, .int .u64 p6, .int .u64 p7] 27)
  replace ku := ku.alloc (.cells #[.int .u64 p0, .int .u64 p1, .int .u64 p2, .int .u64 p3, .int .u64 p4, .int .u64 p5, .int .u64 p6, .int .u64 p7] 27)
  generalize w10.alloc (.cells #[.int .u64 p0, .int .u64 p1, .int .u64 p2, .int .u64 p3, .int .u64 p4, .int .u64 p5, .int .u64 p6, .int .u64 p7] 27) = w11 at *
  generalize w10.heap.size = t15 at *
  have ht15a : t15 ≠ a := by obtain ⟨_, kf⟩ := hO.f.block; exact kv.ne kf (by decide)
  have hq := eq_regs
  have q := eqInts_self [s0, s1, s2, s3, s4, s5, s6, s7]
  have q2 := eqInts_self [p0, p1, p2, p3, p4, p5, p6, p7]
  go_region_held3 (fun w' => w'.cell? ⟨t9, 0, none⟩ = some (.int .u64 s0) ∧ w'.cell? ⟨t9, 1, none⟩ = some (.int .u64 s1) ∧ w'.cell? ⟨t9, 2, none⟩ = some (.int .u64 s2) ∧ w'.cell? ⟨t9, 3, none⟩ = some (.int .u64 s3) ∧ w'.cell? ⟨t9, 4, none⟩ = some (.int .u64 s4) ∧ w'.cell? ⟨t9, 5, none⟩ = some (.int .u64 s5) ∧ w'.cell? ⟨t9, 6, none⟩ = some (.int .u64 s6) ∧ w'.cell? ⟨t9, 7, none⟩ = some (.int .u64 s7) ∧ w'.cell? ⟨t11, 0, none⟩ = some (.int .u64 p0) ∧ w'.cell? ⟨t11, 1, none⟩ = some (.int .u64 p1) ∧ w'.cell? ⟨t11, 2, none⟩ = some (.int .u64 p2) ∧ w'.cell? ⟨t11, 3, none⟩ = some (.int .u64 p3) ∧ w'.cell? ⟨t11, 4, none⟩ = some (.int .u64 p4) ∧ w'.cell? ⟨t11, 5, none⟩ = some (.int .u64 p5) ∧ w'.cell? ⟨t11, 6, none⟩ = some (.int .u64 p6) ∧ w'.cell? ⟨t11, 7, none⟩ = some (.int .u64 p7) ∧ w'.cell? ⟨t15, 0, none⟩ = some (.int .u64 p0) ∧ w'.cell? ⟨t15, 1, none⟩ = some (.int .u64 p1) ∧ w'.cell? ⟨t15, 2, none⟩ = some (.int .u64 p2) ∧ w'.cell? ⟨t15, 3, none⟩ = some (.int .u64 p3) ∧ w'.cell? ⟨t15, 4, none⟩ = some (.int .u64 p4) ∧ w'.cell? ⟨t15, 5, none⟩ = some (.int .u64 p5) ∧ w'.cell? ⟨t15, 6, none⟩ = some (.int .u64 p6) ∧ w'.cell? ⟨t15, 7, none⟩ = some (.int .u64 p7)) (first | exact ⟨kt.cell 0, kt.cell 1, kt.cell 2, kt.cell 3, kt.cell 4, kt.cell 5, kt.cell 6, kt.cell 7, ku.cell 0, ku.cell 1, ku.cell 2, ku.cell 3, ku.cell 4, ku.cell 5, ku.cell 6, ku.cell 7, kv.cell 0, kv.cell 1, kv.cell 2, kv.cell 3, kv.cell 4, kv.cell 5, kv.cell 6, kv.cell 7⟩ | exact ⟨(hC9.blk kt.drew (by simp)).cell 0, (hC9.blk kt.drew (by simp)).cell 1, (hC9.blk kt.drew (by simp)).cell 2, (hC9.blk kt.drew (by simp)).cell 3, (hC9.blk kt.drew (by simp)).cell 4, (hC9.blk kt.drew (by simp)).cell 5, (hC9.blk kt.drew (by simp)).cell 6, (hC9.blk kt.drew (by simp)).cell 7, (hC9.blk ku.drew (by simp)).cell 0, (hC9.blk ku.drew (by simp)).cell 1, (hC9.blk ku.drew (by simp)).cell 2, (hC9.blk ku.drew (by simp)).cell 3, (hC9.blk ku.drew (by simp)).cell 4, (hC9.blk ku.drew (by simp)).cell 5, (hC9.blk ku.drew (by simp)).cell 6, (hC9.blk ku.drew (by simp)).cell 7, (hC9.blk kv.drew (by simp)).cell 0, (hC9.blk kv.drew (by simp)).cell 1, (hC9.blk kv.drew (by simp)).cell 2, (hC9.blk kv.drew (by simp)).cell 3, (hC9.blk kv.drew (by simp)).cell 4, (hC9.blk kv.drew (by simp)).cell 5, (hC9.blk kv.drew (by simp)).cell 6, (hC9.blk kv.drew (by simp)).cell 7⟩)
    (first
      | (go_at_call 19; refine (All_any _ a _ hO.f.drew).mono ?_; rintro e w12 ⟨rfl, hC9⟩; simp only [u64s, List.map_cons, List.map_nil])
      | (go_at_call 20; refine (PC_any _ a _ (hO.f.drew.chg hC9 (by simp) (by simp))).mono ?_; rintro e w13 ⟨rfl, rfl⟩))
  go_wp2_with fail
  go_ret
  exact ⟨rfl, (hO.drew.look hC9).bel⟩

set_option maxRecDepth 100000 in
set_option maxHeartbeats 1000000 in
theorem RegsOne_lo (w : World) (A : Option Addr) (cap : Nat) (xs : List (Int × Int × Int)) (i v : Int) (hR : Rd w w.heap.size A 3 encOp xs) (hxs : ∀ p ∈ xs, i64ok p.2.1) (hl1 : xs.length ≤ 1000) (h0 : i < 0) :
    Calls Try.prog 7 #[.slice A xs.length cap, .int .i64 i, .int .u64 v] w (StaysPost w) := by
  have hl1' : (xs.length : Int) ≤ 1000 := by omega
  go_enter Try.func7, Try.ntmps7
  go_wp2_with fail
  refine (alive_any w).mono ?_
  rintro e w1 ⟨rfl, hC1⟩
  go_wp2_with fail
  refine (New_any w1).mono ?_
  rintro e w2 ⟨rfl, hF2, hC2, -⟩
  have hO : OwnAt w w2 w1.heap.size fNew := ⟨hF2, hC1.size, (hC1.trans hC2).nil_below⟩
  generalize w1.heap.size = a at *
  clear hF2 hC2 hC1
  go_wp2_with fail
  refine (play_any w2 a A cap true fNew xs hl1 w.heap.size (hR.below hO.bel) hO.la hxs hO.f).mono ?_
  rintro e w3 ⟨rfl, hF3, hC3⟩
  replace hO := hO.did hF3 hC3
  clear hF3 hC3
  generalize fPlay true fNew xs = F at *
  obtain ⟨rs, pc, is, ps, to⟩ := F
  obtain ⟨r0, r1, r2, r3, r4, r5, r6, r7, rfl⟩ := eight hO.f.ok.len
  obtain ⟨p0, p1, p2, p3, p4, p5, p6, p7, rfl⟩ := eight hO.f.ok.plen
  go_wp2_with fail
  refine (All_any _ a _ hO.f).mono ?_
  rintro e w4 ⟨rfl, hCx⟩
  simp only [u64s, List.map_cons, List.map_nil]
  replace hO := hO.look hCx
  clear hCx
  go_wp2_with fail
  refine (PC_any _ a _ hO.f).mono ?_
  rintro e w5 ⟨rfl, rfl⟩
  go_wp2_with fail
  have kt := Blk.new w4 [.int .u64 r0, .int .u64 r1, .int .u64 r2, .int .u64 r3, .int .u64 r4, .int .u64 r5, .int .u64 r6, .int .u64 r7] 27
  replace hO := hO.alloc (.cells #[.int .u64 r0, .int .u64 r1, .int .u64 r2, .int .u64 r3, .int .u64 r4, .int .u64 r5, .int .u64 r6, .int .u64 r7] 27)
  generalize w4.alloc (.cells #[.int .u64 r0, .int .u64 r1, .int .u64 r2, .int .u64 r3, .int .u64 r4, .int .u64 r5, .int .u64 r6, .int .u64 r7] 27) = w6 at *
  generalize w4.heap.size = t9 at *
  have ht9a : t9 ≠ a := by obtain ⟨_, kf⟩ := hO.f.block; exact kt.ne kf (by decide)
  refine (Point_any _ a _ hO.f).mono ?_
  rintro e w7 ⟨rfl, hCx⟩
  simp only [u64s, List.map_cons, List.map_nil]
  replace hO := hO.look hCx
  replace kt := hCx.blk kt (by simp)
  clear hCx
  go_wp2_with fail
  have ku := Blk.new w7 [.int .u64 p0, .int .u64 p1, .int .u64 p2, .int .u64 p3, .int .u64 p4, .int .u64 p5, .int .u64 p6, .int .u64 p7] 27
  replace hO := hO.alloc (.cells #[.int .u64 p0, .int .u64 p1, .int .u64 p2, .int .u64 p3, .int .u64 p4, .int .u64 p5, .int .u64 p6, .int .u64 p7] 27)
  replace kt := kt.alloc (.cells #[.int .u64 p0, .int .u64 p1, .int .u64 p2, .int .u64 p3, .int .u64 p4, .int .u64 p5, .int .u64 p6, .int .u64 p7] 27)
  generalize w7.alloc (.cells #[.int .u64 p0, .int .u64 p1, .int .u64 p2, .int .u64 p3, .int .u64 p4, .int .u64 p5, .int .u64 p6, .int .u64 p7] 27) = w8 at *
  generalize w7.heap.size = t11 at *
  have ht11a : t11 ≠ a := by obtain ⟨_, kf⟩ := hO.f.block; exact ku.ne kf (by decide)
  refine (Set_any _ a _ i v hO.f).mono ?_
  rintro e w9 ⟨rfl, hFx, hCx⟩
  replace hO := hO.did hFx hCx
  replace kt := hCx.blk kt (by simpa using ht9a)
  replace ku := hCx.blk ku (by simpa using ht11a)
  clear hFx hCx
  have m : memErr 8 i = 2 := memErr_out (by omega)
  have e2 : fSet ⟨[r0, r1, r2, r3, r4, r5, r6, r7], pc, is, [p0, p1, p2, p3, p4, p5, p6, p7], to⟩ i v = ⟨[r0, r1, r2, r3, r4, r5, r6, r7], pc, is, [p0, p1, p2, p3, p4, p5, p6, p7], to⟩ := by simp only [fSet]; rw [memPut_out (by simp; omega)]
  rw [e2] at hO
  clear e2
  go_wp2_with fail
  refine (Point_any _ a _ hO.f).mono ?_
  rintro e w10 ⟨rfl, hCx⟩
  simp only [u64s, List.map_cons, List.map_nil]
  replace hO := hO.look hCx
  replace kt := hCx.blk kt (by simp)
  replace ku := hCx.blk ku (by simp)
  clear hCx
  go_wp2_with fail
  have kv := Blk.new w10 [.int .u64 p0, .int .u64 p1, .int .u64 p2, .int .u64 p3, .int .u64 p4, .int .u64 p5, .int .u64 p6, .int .u64 p7] 27
  replace hO := hO.alloc (.cells #[.int .u64 p0, .int .u64 p1, .int .u64 p2, .int .u64 p3, .int .u64 p4, .int .u64 p5, .int .u64 p6, .int .u64 p7] 27)
  replace kt := kt.alloc (.cells #[.int .u64 p0, .int .u64 p1, .int .u64 p2, .int .u64 p3, .int .u64 p4, .int .u64 p5, .int .u64 p6, .int .u64 p7] 27)
  replace ku := ku.alloc (.cells #[.int .u64 p0, .int .u64 p1, .int .u64 p2, .int .u64 p3, .int .u64 p4, .int .u64 p5, .int .u64 p6, .int .u64 p7] 27)
  generalize w10.alloc (.cells #[.int .u64 p0, .int .u64 p1, .int .u64 p2, .int .u64 p3, .int .u64 p4, .int .u64 p5, .int .u64 p6, .int .u64 p7] 27) = w11 at *
  generalize w10.heap.size = t15 at *
  have ht15a : t15 ≠ a := by obtain ⟨_, kf⟩ := hO.f.block; exact kv.ne kf (by decide)
  have hq := eq_regs
  have q := eqInts_self [r0, r1, r2, r3, r4, r5, r6, r7]
  have q2 := eqInts_self [p0, p1, p2, p3, p4, p5, p6, p7]
  go_region_held3 (fun w' => w'.cell? ⟨t9, 0, none⟩ = some (.int .u64 r0) ∧ w'.cell? ⟨t9, 1, none⟩ = some (.int .u64 r1) ∧ w'.cell? ⟨t9, 2, none⟩ = some (.int .u64 r2) ∧ w'.cell? ⟨t9, 3, none⟩ = some (.int .u64 r3) ∧ w'.cell? ⟨t9, 4, none⟩ = some (.int .u64 r4) ∧ w'.cell? ⟨t9, 5, none⟩ = some (.int .u64 r5) ∧ w'.cell? ⟨t9, 6, none⟩ = some (.int .u64 r6) ∧ w'.cell? ⟨t9, 7, none⟩ = some (.int .u64 r7) ∧ w'.cell? ⟨t11, 0, none⟩ = some (.int .u64 p0) ∧ w'.cell? ⟨t11, 1, none⟩ = some (.int .u64 p1) ∧ w'.cell? ⟨t11, 2, none⟩ = some (.int .u64 p2) ∧ w'.cell? ⟨t11, 3, none⟩ = some (.int .u64 p3) ∧ w'.cell? ⟨t11, 4, none⟩ = some (.int .u64 p4) ∧ w'.cell? ⟨t11, 5, none⟩ = some (.int .u64 p5) ∧ w'.cell? ⟨t11, 6, none⟩ = some (.int .u64 p6) ∧ w'.cell? ⟨t11, 7, none⟩ = some (.int .u64 p7) ∧ w'.cell? ⟨t15, 0, none⟩ = some (.int .u64 p0) ∧ w'.cell? ⟨t15, 1, none⟩ = some (.int .u64 p1) ∧ w'.cell? ⟨t15, 2, none⟩ = some (.int .u64 p2) ∧ w'.cell? ⟨t15, 3, none⟩ = some (.int .u64 p3) ∧ w'.cell? ⟨t15, 4, none⟩ = some (.int .u64 p4) ∧ w'.cell? ⟨t15, 5, none⟩ = some (.int .u64 p5) ∧ w'.cell? ⟨t15, 6, none⟩ = some (.int .u64 p6) ∧ w'.cell? ⟨t15, 7, none⟩ = some (.int .u64 p7)) (first | exact ⟨kt.cell 0, kt.cell 1, kt.cell 2, kt.cell 3, kt.cell 4, kt.cell 5, kt.cell 6, kt.cell 7, ku.cell 0, ku.cell 1, ku.cell 2, ku.cell 3, ku.cell 4, ku.cell 5, ku.cell 6, ku.cell 7, kv.cell 0, kv.cell 1, kv.cell 2, kv.cell 3, kv.cell 4, kv.cell 5, kv.cell 6, kv.cell 7⟩ | exact ⟨(hC9.blk kt.drew (by simp)).cell 0, (hC9.blk kt.drew (by simp)).cell 1, (hC9.blk kt.drew (by simp)).cell 2, (hC9.blk kt.drew (by simp)).cell 3, (hC9.blk kt.drew (by simp)).cell 4, (hC9.blk kt.drew (by simp)).cell 5, (hC9.blk kt.drew (by simp)).cell 6, (hC9.blk kt.drew (by simp)).cell 7, (hC9.blk ku.drew (by simp)).cell 0, (hC9.blk ku.drew (by simp)).cell 1, (hC9.blk ku.drew (by simp)).cell 2, (hC9.blk ku.drew (by simp)).cell 3, (hC9.blk ku.drew (by simp)).cell 4, (hC9.blk ku.drew (by simp)).cell 5, (hC9.blk ku.drew (by simp)).cell 6, (hC9.blk ku.drew (by simp)).cell 7, (hC9.blk kv.drew (by simp)).cell 0, (hC9.blk kv.drew (by simp)).cell 1, (hC9.blk kv.drew (by simp)).cell 2, (hC9.blk kv.drew (by simp)).cell 3, (hC9.blk kv.drew (by simp)).cell 4, (hC9.blk kv.drew (by simp)).cell 5, (hC9.blk kv.drew (by simp)).cell 6, (hC9.blk kv.drew (by simp)).cell 7⟩)
    (first
      | (go_at_call 19; refine (All_any _ a _ hO.f.drew).mono ?_; rintro e w12 ⟨rfl, hC9⟩; simp only [u64s, List.map_cons, List.map_nil])
      | (go_at_call 20; refine (PC_any _ a _ (hO.f.drew.chg hC9 (by simp) (by simp))).mono ?_; rintro e w13 ⟨rfl, rfl⟩))
  go_wp2_with fail
  go_ret
  exact ⟨rfl, (hO.drew.look hC9).bel⟩

set_option maxRecDepth 100000 in
set_option maxHeartbeats 1000000 in
theorem RegsOne_hi (w : World) (A : Option Addr) (cap : Nat) (xs : List (Int × Int × Int)) (i v : Int) (hR : Rd w w.heap.size A 3 encOp xs) (hxs : ∀ p ∈ xs, i64ok p.2.1) (hl1 : xs.length ≤ 1000) (h0 : 8 ≤ i) :
    Calls Try.prog 7 #[.slice A xs.length cap, .int .i64 i, .int .u64 v] w (StaysPost w) := by
  have hl1' : (xs.length : Int) ≤ 1000 := by omega
  go_enter Try.func7, Try.ntmps7
  go_wp2_with fail
  refine (alive_any w).mono ?_
  rintro e w1 ⟨rfl, hC1⟩
  go_wp2_with fail
  refine (New_any w1).mono ?_
  rintro e w2 ⟨rfl, hF2, hC2, -⟩
  have hO : OwnAt w w2 w1.heap.size fNew := ⟨hF2, hC1.size, (hC1.trans hC2).nil_below⟩
  generalize w1.heap.size = a at *
  clear hF2 hC2 hC1
  go_wp2_with fail
  refine (play_any w2 a A cap true fNew xs hl1 w.heap.size (hR.below hO.bel) hO.la hxs hO.f).mono ?_
  rintro e w3 ⟨rfl, hF3, hC3⟩
  replace hO := hO.did hF3 hC3
  clear hF3 hC3
  generalize fPlay true fNew xs = F at *
  obtain ⟨rs, pc, is, ps, to⟩ := F
  obtain ⟨r0, r1, r2, r3, r4, r5, r6, r7, rfl⟩ := eight hO.f.ok.len
  obtain ⟨p0, p1, p2, p3, p4, p5, p6, p7, rfl⟩ := eight hO.f.ok.plen
  go_wp2_with fail
  refine (All_any _ a _ hO.f).mono ?_
  rintro e w4 ⟨rfl, hCx⟩
  simp only [u64s, List.map_cons, List.map_nil]
  replace hO := hO.look hCx
  clear hCx
  go_wp2_with fail
  refine (PC_any _ a _ hO.f).mono ?_
  rintro e w5 ⟨rfl, rfl⟩
  go_wp2_with fail
  have kt := Blk.new w4 [.int .u64 r0, .int .u64 r1, .int .u64 r2, .int .u64 r3, .int .u64 r4, .int .u64 r5, .int .u64 r6, .int .u64 r7] 27
  replace hO := hO.alloc (.cells #[.int .u64 r0, .int .u64 r1, .int .u64 r2, .int .u64 r3, .int .u64 r4, .int .u64 r5, .int .u64 r6, .int .u64 r7] 27)
  generalize w4.alloc (.cells #[.int .u64 r0, .int .u64 r1, .int .u64 r2, .int .u64 r3, .int .u64 r4, .int .u64 r5, .int .u64 r6, .int .u64 r7] 27) = w6 at *
  generalize w4.heap.size = t9 at *
  have ht9a : t9 ≠ a := by obtain ⟨_, kf⟩ := hO.f.block; exact kt.ne kf (by decide)
  refine (Point_any _ a _ hO.f).mono ?_
  rintro e w7 ⟨rfl, hCx⟩
  simp only [u64s, List.map_cons, List.map_nil]
  replace hO := hO.look hCx
  replace kt := hCx.blk kt (by simp)
  clear hCx
  go_wp2_with fail
  have ku := Blk.new w7 [.int .u64 p0, .int .u64 p1, .int .u64 p2, .int .u64 p3, .int .u64 p4, .int .u64 p5, .int .u64 p6, .int .u64 p7] 27
  replace hO := hO.alloc (.cells #[.int .u64 p0, .int .u64 p1, .int .u64 p2, .int .u64 p3, .int .u64 p4, .int .u64 p5, .int .u64 p6, .int .u64 p7] 27)
  replace kt := kt.alloc (.cells #[.int .u64 p0, .int .u64 p1, .int .u64 p2, .int .u64 p3, .int .u64 p4, .int .u64 p5, .int .u64 p6, .int .u64 p7] 27)
  generalize w7.alloc (.cells #[.int .u64 p0, .int .u64 p1, .int .u64 p2, .int .u64 p3, .int .u64 p4, .int .u64 p5, .int .u64 p6, .int .u64 p7] 27) = w8 at *
  generalize w7.heap.size = t11 at *
  have ht11a : t11 ≠ a := by obtain ⟨_, kf⟩ := hO.f.block; exact ku.ne kf (by decide)
  refine (Set_any _ a _ i v hO.f).mono ?_
  rintro e w9 ⟨rfl, hFx, hCx⟩
  replace hO := hO.did hFx hCx
  replace kt := hCx.blk kt (by simpa using ht9a)
  replace ku := hCx.blk ku (by simpa using ht11a)
  clear hFx hCx
  have m : memErr 8 i = 2 := memErr_out (by omega)
  have e2 : fSet ⟨[r0, r1, r2, r3, r4, r5, r6, r7], pc, is, [p0, p1, p2, p3, p4, p5, p6, p7], to⟩ i v = ⟨[r0, r1, r2, r3, r4, r5, r6, r7], pc, is, [p0, p1, p2, p3, p4, p5, p6, p7], to⟩ := by simp only [fSet]; rw [memPut_out (by simp; omega)]
  rw [e2] at hO
  clear e2
  go_wp2_with fail
  refine (Point_any _ a _ hO.f).mono ?_
  rintro e w10 ⟨rfl, hCx⟩
  simp only [u64s, List.map_cons, List.map_nil]
  replace hO := hO.look hCx
  replace kt := hCx.blk kt (by simp)
  replace ku := hCx.blk ku (by simp)
  clear hCx
  go_wp2_with fail
  have kv := Blk.new w10 [.int .u64 p0, .int .u64 p1, .int .u64 p2, .int .u64 p3, .int .u64 p4, .int .u64 p5, .int .u64 p6, .int .u64 p7] 27
  replace hO := hO.alloc (.cells #[.int .u64 p0, .int .u64 p1, .int .u64 p2, .int .u64 p3, .int .u64 p4, .int .u64 p5, .int .u64 p6, .int .u64 p7] 27)
  replace kt := kt.alloc (.cells #[.int .u64 p0, .int .u64 p1, .int .u64 p2, .int .u64 p3, .int .u64 p4, .int .u64 p5, .int .u64 p6, .int .u64 p7] 27)
  replace ku := ku.alloc (.cells #[.int .u64 p0, .int .u64 p1, .int .u64 p2, .int .u64 p3, .int .u64 p4, .int .u64 p5, .int .u64 p6, .int .u64 p7] 27)
  generalize w10.alloc (.cells #[.int .u64 p0, .int .u64 p1, .int .u64 p2, .int .u64 p3, .int .u64 p4, .int .u64 p5, .int .u64 p6, .int .u64 p7] 27) = w11 at *
  generalize w10.heap.size = t15 at *
  have ht15a : t15 ≠ a := by obtain ⟨_, kf⟩ := hO.f.block; exact kv.ne kf (by decide)
  have hq := eq_regs
  have q := eqInts_self [r0, r1, r2, r3, r4, r5, r6, r7]
  have q2 := eqInts_self [p0, p1, p2, p3, p4, p5, p6, p7]
  go_region_held3 (fun w' => w'.cell? ⟨t9, 0, none⟩ = some (.int .u64 r0) ∧ w'.cell? ⟨t9, 1, none⟩ = some (.int .u64 r1) ∧ w'.cell? ⟨t9, 2, none⟩ = some (.int .u64 r2) ∧ w'.cell? ⟨t9, 3, none⟩ = some (.int .u64 r3) ∧ w'.cell? ⟨t9, 4, none⟩ = some (.int .u64 r4) ∧ w'.cell? ⟨t9, 5, none⟩ = some (.int .u64 r5) ∧ w'.cell? ⟨t9, 6, none⟩ = some (.int .u64 r6) ∧ w'.cell? ⟨t9, 7, none⟩ = some (.int .u64 r7) ∧ w'.cell? ⟨t11, 0, none⟩ = some (.int .u64 p0) ∧ w'.cell? ⟨t11, 1, none⟩ = some (.int .u64 p1) ∧ w'.cell? ⟨t11, 2, none⟩ = some (.int .u64 p2) ∧ w'.cell? ⟨t11, 3, none⟩ = some (.int .u64 p3) ∧ w'.cell? ⟨t11, 4, none⟩ = some (.int .u64 p4) ∧ w'.cell? ⟨t11, 5, none⟩ = some (.int .u64 p5) ∧ w'.cell? ⟨t11, 6, none⟩ = some (.int .u64 p6) ∧ w'.cell? ⟨t11, 7, none⟩ = some (.int .u64 p7) ∧ w'.cell? ⟨t15, 0, none⟩ = some (.int .u64 p0) ∧ w'.cell? ⟨t15, 1, none⟩ = some (.int .u64 p1) ∧ w'.cell? ⟨t15, 2, none⟩ = some (.int .u64 p2) ∧ w'.cell? ⟨t15, 3, none⟩ = some (.int .u64 p3) ∧ w'.cell? ⟨t15, 4, none⟩ = some (.int .u64 p4) ∧ w'.cell? ⟨t15, 5, none⟩ = some (.int .u64 p5) ∧ w'.cell? ⟨t15, 6, none⟩ = some (.int .u64 p6) ∧ w'.cell? ⟨t15, 7, none⟩ = some (.int .u64 p7)) (first | exact ⟨kt.cell 0, kt.cell 1, kt.cell 2, kt.cell 3, kt.cell 4, kt.cell 5, kt.cell 6, kt.cell 7, ku.cell 0, ku.cell 1, ku.cell 2, ku.cell 3, ku.cell 4, ku.cell 5, ku.cell 6, ku.cell 7, kv.cell 0, kv.cell 1, kv.cell 2, kv.cell 3, kv.cell 4, kv.cell 5, kv.cell 6, kv.cell 7⟩ | exact ⟨(hC9.blk kt.drew (by simp)).cell 0, (hC9.blk kt.drew (by simp)).cell 1, (hC9.blk kt.drew (by simp)).cell 2, (hC9.blk kt.drew (by simp)).cell 3, (hC9.blk kt.drew (by simp)).cell 4, (hC9.blk kt.drew (by simp)).cell 5, (hC9.blk kt.drew (by simp)).cell 6, (hC9.blk kt.drew (by simp)).cell 7, (hC9.blk ku.drew (by simp)).cell 0, (hC9.blk ku.drew (by simp)).cell 1, (hC9.blk ku.drew (by simp)).cell 2, (hC9.blk ku.drew (by simp)).cell 3, (hC9.blk ku.drew (by simp)).cell 4, (hC9.blk ku.drew (by simp)).cell 5, (hC9.blk ku.drew (by simp)).cell 6, (hC9.blk ku.drew (by simp)).cell 7, (hC9.blk kv.drew (by simp)).cell 0, (hC9.blk kv.drew (by simp)).cell 1, (hC9.blk kv.drew (by simp)).cell 2, (hC9.blk kv.drew (by simp)).cell 3, (hC9.blk kv.drew (by simp)).cell 4, (hC9.blk kv.drew (by simp)).cell 5, (hC9.blk kv.drew (by simp)).cell 6, (hC9.blk kv.drew (by simp)).cell 7⟩)
    (first
      | (go_at_call 19; refine (All_any _ a _ hO.f.drew).mono ?_; rintro e w12 ⟨rfl, hC9⟩; simp only [u64s, List.map_cons, List.map_nil])
      | (go_at_call 20; refine (PC_any _ a _ (hO.f.drew.chg hC9 (by simp) (by simp))).mono ?_; rintro e w13 ⟨rfl, rfl⟩))
  go_wp2_with fail
  go_ret
  exact ⟨rfl, (hO.drew.look hC9).bel⟩

theorem RegsOne_any (w : World) (A : Option Addr) (cap : Nat) (xs : List (Int × Int × Int)) (i v : Int) (hR : Rd w w.heap.size A 3 encOp xs) (hxs : ∀ p ∈ xs, i64ok p.2.1) :
    Calls Try.prog 7 #[.slice A xs.length cap, .int .i64 i, .int .u64 v] w (StaysPost w) := by
  by_cases hlen : 1000 < xs.length
  · have hl' : (1000 : Int) < xs.length := by omega
    go_enter Try.func7, Try.ntmps7
    go_wp2_with fail
    refine (alive_any w).mono ?_
    rintro e w1 ⟨rfl, hC1⟩
    go_wp2_with fail
    go_ret
    exact ⟨rfl, hC1.nil_below⟩
  have hl : xs.length ≤ 1000 := by omega
  by_cases h0 : i < 0
  · exact RegsOne_lo w A cap xs i v hR hxs hl h0
  by_cases h1 : i < 8
  · exact RegsOne_in w A cap xs i v hR hxs hl (by omega) h1
  · exact RegsOne_hi w A cap xs i v hR hxs hl (by omega)

end Go.Proofs.Ytmdbgomofbbpcaa
