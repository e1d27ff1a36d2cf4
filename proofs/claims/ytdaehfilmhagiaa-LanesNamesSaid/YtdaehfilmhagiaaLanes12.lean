/- LanesNames: the chapter's examples. -/
import Derived.Test.YtdaehfilmhagiaaLanes10
namespace Go.Proofs.Ytdaehfilmhagiaa
open Go.RowKit

set_option maxHeartbeats 2000000 in
theorem Try_no (w : World) (v : Value) (h : ∀ o, NoCtl (w.alloc o) v) :
    Calls Try.prog 20 #[v] w fun e w' => e = .returned (.int .i64 0) ∧ Chg [] w w' := by
  go_enter Try.func20, Try.ntmps20
  go_wp2_with fail
  refine (Counts_no _ _ h).mono ?_
  rintro e w1 ⟨rfl, hC1⟩
  have HC := Lib.hid hC1
  clear hC1 h
  have i0 : ∀ w, (Instr.index 35 (.agg #[.int .i64 0, .int .i64 0, .int .i64 0, .int .i64 0, .int .i64 0]) (.int .i64 0)).run Try.prog w = .ok (.int .i64 0) w := fun _ => by kernel_rfl
  have i1 : ∀ w, (Instr.index 35 (.agg #[.int .i64 0, .int .i64 0, .int .i64 0, .int .i64 0, .int .i64 0]) (.int .i64 1)).run Try.prog w = .ok (.int .i64 0) w := fun _ => by kernel_rfl
  have i2 : ∀ w, (Instr.index 35 (.agg #[.int .i64 0, .int .i64 0, .int .i64 0, .int .i64 0, .int .i64 0]) (.int .i64 2)).run Try.prog w = .ok (.int .i64 0) w := fun _ => by kernel_rfl
  have i3 : ∀ w, (Instr.index 35 (.agg #[.int .i64 0, .int .i64 0, .int .i64 0, .int .i64 0, .int .i64 0]) (.int .i64 3)).run Try.prog w = .ok (.int .i64 0) w := fun _ => by kernel_rfl
  have i4 : ∀ w, (Instr.index 35 (.agg #[.int .i64 0, .int .i64 0, .int .i64 0, .int .i64 0, .int .i64 0]) (.int .i64 4)).run Try.prog w = .ok (.int .i64 0) w := fun _ => by kernel_rfl
  go_wp2_with fail
  go_loopw [3, 8] (fun n i wr => ∃ k : Int, (0 ≤ k ∧ k ≤ 5) ∧ i = .int .i64 k ∧ n = .int .i64 0 ∧ wr = w1) (fun _ i _ => 5 - (intOf i).toNat)
  case atStart => exact ⟨0, by omega, rfl, rfl, rfl⟩
  case round =>
    obtain ⟨k, ⟨hk0, hk⟩, rfl, rfl, rfl⟩ := hrel
    rcases (by omega : k = 0 ∨ k = 1 ∨ k = 2 ∨ k = 3 ∨ k = 4 ∨ k = 5) with rfl | rfl | rfl | rfl | rfl | rfl
    · go_wp2_with fail
      go_roundw
      case rel => exact ⟨1, by omega, by simp, by simp, by simp⟩
      case measure => simp [intOf]
    · go_wp2_with fail
      go_roundw
      case rel => exact ⟨2, by omega, by simp, by simp, by simp⟩
      case measure => simp [intOf]
    · go_wp2_with fail
      go_roundw
      case rel => exact ⟨3, by omega, by simp, by simp, by simp⟩
      case measure => simp [intOf]
    · go_wp2_with fail
      go_roundw
      case rel => exact ⟨4, by omega, by simp, by simp, by simp⟩
      case measure => simp [intOf]
    · go_wp2_with fail
      go_roundw
      case rel => exact ⟨5, by omega, by simp, by simp, by simp⟩
      case measure => simp [intOf]
    · go_wp2_with fail
      go_ret
      exact ⟨rfl, HC.out⟩

theorem noCtl_zero {w : World} {b : Nat} {l : List Value} {t : TypeId} (h : Blk w b l t) (hl : l[11]? = some (.bool false)) : NoCtl w (.pointer (some ⟨b, 0, none⟩)) := .inr ⟨b, rfl, (h.cell 11).trans hl⟩

set_option maxRecDepth 100000 in
set_option maxHeartbeats 4000000 in
theorem LanesNames_any (w : World) : Calls Try.prog 8 #[] w (StaysPost w) := by
  go_enter Try.func8, Try.ntmps8
  go_wp2_with fail
  have kb := Blk.new w [.int .i64 2, .int .i64 0, .int .i64 1] 23
  have hC := (Chg.refl [] w).alloc (.cells #[.int .i64 2, .int .i64 0, .int .i64 1] 23)
  generalize w.alloc (.cells #[.int .i64 2, .int .i64 0, .int .i64 1] 23) = w0 at *
  have hbb : w.heap.size ≤ w.heap.size := Nat.le_refl _
  obtain ⟨bb, hbe⟩ : ∃ bb, bb = w.heap.size := ⟨_, rfl⟩
  rw [← hbe] at kb ⊢
  clear hbb hbe
  refine (New_ok _ 2 0 1 (by decide)).mono ?_
  rintro e w1 ⟨b, rfl, hb, hCt, hx⟩
  have hO : OwnAt w w1 b (LC.new 2 0 1) := ⟨hCt, Nat.le_trans hC.size hb, (hC.trans hx).nil_below, LC.Ok.new (by decide)⟩
  replace kb := hx.blk kb (by simp)
  have hbne : bb ≠ b := kb.ne hCt (by decide)
  clear hCt hx hb hC
  go_wp2_with fail
  refine (Enter_any _ b _ hO.c).mono ?_
  rintro e w2 ⟨rfl, h1, hx⟩
  replace hO : OwnAt w w2 b ⟨2, 0, 1, 1, 0, 0, 0, 0, 0⟩ := hO.did h1 hO.ok.first hx
  replace kb := hx.blk kb (by simpa using hbne)
  clear h1 hx
  go_wp2_with fail
  refine (Abort_any _ b _ 1 hO.ok hO.c).mono ?_
  rintro e w3 ⟨rfl, h1, hx⟩
  replace hO : OwnAt w w3 b ⟨2, 0, 1, 1, 0, 1, 0, 0, 0⟩ := hO.did h1 (hO.ok.abort 1) hx
  replace kb := hx.blk kb (by simpa using hbne)
  clear h1 hx
  go_wp2_with fail
  refine (Abort_any _ b _ 5 hO.ok hO.c).mono ?_
  rintro e w4 ⟨rfl, h1, hx⟩
  replace hO : OwnAt w w4 b ⟨2, 0, 1, 3, 0, 2, 0, 0, 0⟩ := hO.did h1 (hO.ok.abort 5) hx
  replace kb := hx.blk kb (by simpa using hbne)
  clear h1 hx
  go_wp2_with fail
  refine (Abort_any _ b _ 8 hO.ok hO.c).mono ?_
  rintro e w5 ⟨rfl, h1, hx⟩
  replace hO : OwnAt w w5 b ⟨2, 0, 1, 4, 0, 2, 0, 1, 0⟩ := hO.did h1 (hO.ok.abort 8) hx
  replace kb := hx.blk kb (by simpa using hbne)
  clear h1 hx
  rw [show abortLane ⟨2, 0, 1, 3, 0, 2, 0, 0, 0⟩ 8 = 4 from rfl]
  rw [show abortErr ⟨2, 0, 1, 3, 0, 2, 0, 0, 0⟩ 8 = 0 from rfl]
  go_wp2_with fail
  refine (Abort_any _ b _ 1 hO.ok hO.c).mono ?_
  rintro e w6 ⟨rfl, h1, hx⟩
  replace hO : OwnAt w w6 b ⟨2, 0, 1, 4, 0, 2, 0, 1, 0⟩ := hO.did h1 (hO.ok.abort 1) hx
  replace kb := hx.blk kb (by simpa using hbne)
  clear h1 hx
  rw [show abortLane ⟨2, 0, 1, 4, 0, 2, 0, 1, 0⟩ 1 = 0 from rfl]
  rw [show abortErr ⟨2, 0, 1, 4, 0, 2, 0, 1, 0⟩ 1 = 90 from rfl]
  go_wp2_with fail
  refine (Counts_any _ b _ hO.c).mono ?_
  rintro e w7 ⟨rfl, hx⟩
  replace hO := hO.look hx
  replace kb := hx.blk kb (by simp)
  clear hx
  dsimp only
  go_wp2_with fail
  have kn := Blk.new w7 [.int .i64 0, .int .i64 2, .int .i64 0, .int .i64 1, .int .i64 0] 35
  replace hO := hO.alloc (.cells #[.int .i64 0, .int .i64 2, .int .i64 0, .int .i64 1, .int .i64 0] 35)
  replace kb := kb.alloc (.cells #[.int .i64 0, .int .i64 2, .int .i64 0, .int .i64 1, .int .i64 0] 35)
  generalize w7.alloc (.cells #[.int .i64 0, .int .i64 2, .int .i64 0, .int .i64 1, .int .i64 0] 35) = wa at *
  generalize w7.heap.size = t8 at *
  have hnb : t8 ≠ b := kn.ne hO.c (by decide)
  refine (Leave_any _ b _ hO.c).mono ?_
  rintro e w8 ⟨rfl, h1, hx⟩
  replace hO : OwnAt w w8 b (LC.new 2 0 1) := hO.did h1 hO.ok.none hx
  replace kb := hx.blk kb (by simpa using hbne)
  replace kn := hx.blk kn (by simpa using hnb)
  clear h1 hx
  go_wp2_with fail
  refine (Enter_any _ b _ hO.c).mono ?_
  rintro e w9 ⟨rfl, h1, hx⟩
  replace hO : OwnAt w w9 b ⟨2, 0, 1, 1, 0, 0, 0, 0, 0⟩ := hO.did h1 hO.ok.first hx
  replace kb := hx.blk kb (by simpa using hbne)
  replace kn := hx.blk kn (by simpa using hnb)
  clear h1 hx
  rw [show enterLane (LC.new 2 0 1) = 1 from rfl]
  rw [show enterErr (LC.new 2 0 1) = 0 from rfl]
  go_wp2_with fail
  refine (Abort_any _ b _ 3 hO.ok hO.c).mono ?_
  rintro e w10 ⟨rfl, h1, hx⟩
  replace hO : OwnAt w w10 b ⟨2, 0, 1, 3, 0, 1, 0, 0, 0⟩ := hO.did h1 (hO.ok.abort 3) hx
  replace kb := hx.blk kb (by simpa using hbne)
  replace kn := hx.blk kn (by simpa using hnb)
  clear h1 hx
  rw [show abortLane ⟨2, 0, 1, 1, 0, 0, 0, 0, 0⟩ 3 = 3 from rfl]
  rw [show abortErr ⟨2, 0, 1, 1, 0, 0, 0, 0, 0⟩ 3 = 0 from rfl]
  have x0 : w10.cell? ⟨bb, 0, none⟩ = some (.int .i64 2) := kb.cell 0
  have x1 : w10.cell? ⟨bb, 1, none⟩ = some (.int .i64 0) := kb.cell 1
  have x2 : w10.cell? ⟨bb, 2, none⟩ = some (.int .i64 1) := kb.cell 2
  go_wp2_with fail
  have hbl := hO.bel
  refine (New_ok _ 2 0 1 (by decide)).mono ?_
  rintro e w11 ⟨d, rfl, hd, hCt, hx⟩
  replace hO : OwnAt w w11 d _ := ⟨hCt, Nat.le_trans hbl.size hd, below_chg hbl hx (by simp) (Nat.le_refl _), LC.Ok.new (by decide)⟩
  replace kb := hx.blk kb (by simp)
  replace kn := hx.blk kn (by simp)
  clear hx hd hbl
  have hbd : bb ≠ d := kb.ne hCt (by decide)
  have hnd : t8 ≠ d := kn.ne hCt (by decide)
  clear hCt
  go_wp2_with fail
  refine (Abort_any _ d _ 1 hO.ok hO.c).mono ?_
  rintro e w12 ⟨rfl, h1, hx⟩
  replace hO : OwnAt w w12 d (LC.new 2 0 1) := hO.did h1 (hO.ok.abort 1) hx
  replace kb := hx.blk kb (by simpa using hbd)
  replace kn := hx.blk kn (by simpa using hnd)
  clear h1 hx
  rw [show abortLane (LC.new 2 0 1) 1 = 0 from rfl]
  rw [show abortErr (LC.new 2 0 1) 1 = 90 from rfl]
  go_wp2_with fail
  refine (Leave_any _ d _ hO.c).mono ?_
  rintro e w13 ⟨rfl, h1, hx⟩
  replace hO : OwnAt w w13 d (LC.new 2 0 1) := hO.did h1 hO.ok hx
  replace kb := hx.blk kb (by simpa using hbd)
  replace kn := hx.blk kn (by simpa using hnd)
  clear h1 hx
  rw [show leaveErr (LC.new 2 0 1) = 90 from rfl]
  go_wp2_with fail
  refine (Enter_any _ d _ hO.c).mono ?_
  rintro e w14 ⟨rfl, h1, hx⟩
  replace hO : OwnAt w w14 d ⟨2, 0, 1, 1, 0, 0, 0, 0, 0⟩ := hO.did h1 hO.ok.first hx
  replace kb := hx.blk kb (by simpa using hbd)
  replace kn := hx.blk kn (by simpa using hnd)
  clear h1 hx
  go_wp2_with fail
  refine (Abort_any _ d _ 7 hO.ok hO.c).mono ?_
  rintro e w15 ⟨rfl, h1, hx⟩
  replace hO : OwnAt w w15 d ⟨2, 0, 1, 1, 0, 0, 0, 0, 0⟩ := hO.did h1 (hO.ok.abort 7) hx
  replace kb := hx.blk kb (by simpa using hbd)
  replace kn := hx.blk kn (by simpa using hnd)
  clear h1 hx
  rw [show abortLane ⟨2, 0, 1, 1, 0, 0, 0, 0, 0⟩ 7 = 0 from rfl]
  rw [show abortErr ⟨2, 0, 1, 1, 0, 0, 0, 0, 0⟩ 7 = 2 from rfl]
  go_wp2_with fail
  refine (Abort_any _ d _ 0 hO.ok hO.c).mono ?_
  rintro e w16 ⟨rfl, h1, hx⟩
  replace hO : OwnAt w w16 d ⟨2, 0, 1, 1, 0, 0, 0, 0, 0⟩ := hO.did h1 (hO.ok.abort 0) hx
  replace kb := hx.blk kb (by simpa using hbd)
  replace kn := hx.blk kn (by simpa using hnd)
  clear h1 hx
  rw [show abortLane ⟨2, 0, 1, 1, 0, 0, 0, 0, 0⟩ 0 = 0 from rfl]
  rw [show abortErr ⟨2, 0, 1, 1, 0, 0, 0, 0, 0⟩ 0 = 2 from rfl]
  go_wp2_with fail
  refine (Enter_any _ d _ hO.c).mono ?_
  rintro e w17 ⟨rfl, h1, hx⟩
  replace hO : OwnAt w w17 d ⟨2, 0, 1, 1, 0, 0, 0, 0, 0⟩ := hO.did h1 hO.ok hx
  replace kb := hx.blk kb (by simpa using hbd)
  replace kn := hx.blk kn (by simpa using hnd)
  clear h1 hx
  rw [show enterLane ⟨2, 0, 1, 1, 0, 0, 0, 0, 0⟩ = 0 from rfl]
  rw [show enterErr ⟨2, 0, 1, 1, 0, 0, 0, 0, 0⟩ = 90 from rfl]
  have x0 : w17.cell? ⟨bb, 0, none⟩ = some (.int .i64 2) := kb.cell 0
  have x1 : w17.cell? ⟨bb, 1, none⟩ = some (.int .i64 0) := kb.cell 1
  have x2 : w17.cell? ⟨bb, 2, none⟩ = some (.int .i64 1) := kb.cell 2
  go_wp2_with fail
  refine (Most_any _ 2 0 1).mono ?_
  rintro e w18 ⟨rfl, hx⟩
  replace hO := hO.look hx
  replace kb := hx.blk kb (by simp)
  replace kn := hx.blk kn (by simp)
  clear hx
  rw [if_pos (by decide), if_pos (by decide)]
  go_wp2_with fail
  refine (New_bad _ 17 0 0 (by decide)).mono ?_
  rintro e w19 ⟨rfl, hx⟩
  replace hO := hO.look hx
  replace kb := hx.blk kb (by simp)
  replace kn := hx.blk kn (by simp)
  clear hx
  go_wp2_with fail
  have hbl := hO.bel
  refine (New_ok _ 0 0 0 (by decide)).mono ?_
  rintro e w20 ⟨o, rfl, hd, hCt, hx⟩
  replace hO : OwnAt w w20 o _ := ⟨hCt, Nat.le_trans hbl.size hd, below_chg hbl hx (by simp) (Nat.le_refl _), LC.Ok.new (by decide)⟩
  replace kb := hx.blk kb (by simp)
  replace kn := hx.blk kn (by simp)
  clear hx hd hbl
  have hbo : bb ≠ o := kb.ne hCt (by decide)
  have hno : t8 ≠ o := kn.ne hCt (by decide)
  clear hCt
  go_wp2_with fail
  refine (Enter_any _ o _ hO.c).mono ?_
  rintro e w21 ⟨rfl, h1, hx⟩
  replace hO : OwnAt w w21 o ⟨0, 0, 0, 4, 0, 0, 0, 0, 0⟩ := hO.did h1 hO.ok.first hx
  replace kb := hx.blk kb (by simpa using hbo)
  replace kn := hx.blk kn (by simpa using hno)
  clear h1 hx
  rw [show enterLane (LC.new 0 0 0) = 4 from rfl]
  rw [show enterErr (LC.new 0 0 0) = 0 from rfl]
  go_wp2_with fail
  have kz := Blk.new w21 [.int .i64 0, .int .i64 0, .int .i64 0, .int .i64 0, .int .i64 0, .int .i64 0, .int .i64 0, .int .i64 0, .int .i64 0, .int .i64 0, .int .i64 0, .bool false] 55
  replace hO := hO.alloc (.cells #[.int .i64 0, .int .i64 0, .int .i64 0, .int .i64 0, .int .i64 0, .int .i64 0, .int .i64 0, .int .i64 0, .int .i64 0, .int .i64 0, .int .i64 0, .bool false] 55)
  replace kb := kb.alloc (.cells #[.int .i64 0, .int .i64 0, .int .i64 0, .int .i64 0, .int .i64 0, .int .i64 0, .int .i64 0, .int .i64 0, .int .i64 0, .int .i64 0, .int .i64 0, .bool false] 55)
  replace kn := kn.alloc (.cells #[.int .i64 0, .int .i64 0, .int .i64 0, .int .i64 0, .int .i64 0, .int .i64 0, .int .i64 0, .int .i64 0, .int .i64 0, .int .i64 0, .int .i64 0, .bool false] 55)
  generalize w21.alloc (.cells #[.int .i64 0, .int .i64 0, .int .i64 0, .int .i64 0, .int .i64 0, .int .i64 0, .int .i64 0, .int .i64 0, .int .i64 0, .int .i64 0, .int .i64 0, .bool false] 55) = wz at *
  generalize w21.heap.size = z at *
  refine (Enter_no _ _ (.inl rfl)).mono ?_
  rintro e wy ⟨rfl, rfl⟩
  go_wp2_with fail
  refine (Abort_no _ _ 0 (noCtl_zero kz rfl)).mono ?_
  rintro e wy ⟨rfl, rfl⟩
  go_wp2_with fail
  refine (Leave_no _ _ (.inl rfl)).mono ?_
  rintro e wy ⟨rfl, rfl⟩
  go_wp2_with fail
  refine (Lane_no _ _ (noCtl_zero kz rfl)).mono ?_
  rintro e wy ⟨rfl, rfl⟩
  go_wp2_with fail
  refine (Try_no _ _ (fun o => .inl rfl)).mono ?_
  rintro e w22 ⟨rfl, hx⟩
  replace hO := hO.look hx
  replace kb := hx.blk kb (by simp)
  replace kn := hx.blk kn (by simp)
  replace kz := hx.blk kz (by simp)
  clear hx
  go_wp2_with fail
  have hq := eq_five
  have q := eqInts_self [0, 0, 0, 0, 0]
  have q2 := eqInts_self [0, 2, 0, 1, 0]
  refine (Counts_no _ _ (fun o => noCtl_zero (kz.alloc o) rfl)).mono ?_
  rintro e w23 ⟨rfl, hx⟩
  replace hO := hO.look hx
  replace kb := hx.blk kb (by simp)
  replace kn := hx.blk kn (by simp)
  replace kz := hx.blk kz (by simp)
  clear hx
  go_wp2_with fail
  refine (Hard_no _ _ (.inl rfl)).mono ?_
  rintro e wy ⟨rfl, rfl⟩
  go_wp2_with fail
  refine (alive_any _).mono ?_
  rintro e w24 ⟨rfl, hx⟩
  replace hO := hO.look hx
  replace kb := hx.blk kb (by simp)
  replace kn := hx.blk kn (by simp)
  replace kz := hx.blk kz (by simp)
  clear hx
  have y0 : w24.cell? ⟨t8, 0, none⟩ = some (.int .i64 0) := kn.cell 0
  have y1 : w24.cell? ⟨t8, 1, none⟩ = some (.int .i64 2) := kn.cell 1
  have y2 : w24.cell? ⟨t8, 2, none⟩ = some (.int .i64 0) := kn.cell 2
  have y3 : w24.cell? ⟨t8, 3, none⟩ = some (.int .i64 1) := kn.cell 3
  have y4 : w24.cell? ⟨t8, 4, none⟩ = some (.int .i64 0) := kn.cell 4
  go_wp2_with fail
  go_ret
  exact ⟨rfl, hO.bel⟩

end Go.Proofs.Ytdaehfilmhagiaa
