/- LanesWide. -/
import Derived.Test.YtdaehfilmhagiaaLanes7
import Derived.Test.YtdaehfilmhagiaaOpen
namespace Go.Proofs.Ytdaehfilmhagiaa
open Go.RowKit

def encInt (n : Int) : List Value := [.int .i64 n]

theorem Try.infoI64 : (Try.prog.info? 3).map (fun i => (i.zero, i.size, i.bytes)) = some (some (.int .i64 0), 1, 8) := by kernel_rfl
theorem Try.cellsI64 : Try.prog.cellsOf 3 = 1 := by kernel_rfl
theorem eq_five (w : World) (a0 a1 a2 a3 a4 b0 b1 b2 b3 b4 : Int) :
    (Op.equalIn 10000 35 (.agg #[.int .i64 a0, .int .i64 a1, .int .i64 a2, .int .i64 a3, .int .i64 a4]) (.agg #[.int .i64 b0, .int .i64 b1, .int .i64 b2, .int .i64 b3, .int .i64 b4])).run Try.prog w = .ok (eqInts [a0, a1, a2, a3, a4] [b0, b1, b2, b3, b4]) w := by
  obtain ⟨i0, hi, _⟩ := info_parts Try.infoI64
  exact run_eq_array w 9998 (k := .i64) Try.underlying35 hi Try.cellsI64 Try.underlying3 [a0, a1, a2, a3, a4] [b0, b1, b2, b3, b4] rfl rfl

/-- A control in a hardware lane, made of a budget that lies at bb. -/
def WideRel (w : World) (b bb : Nat) (f s o : Int) (wr : World) : Prop := ∃ C : LC, OwnAt w wr b C ∧ C.lane ≠ 0 ∧ C.o = o ∧ Blk wr bb [.int .i64 f, .int .i64 s, .int .i64 o] 23

theorem abort_o (C : LC) (n : Int) : (C.abort n).o = C.o := by
  unfold LC.abort
  split
  · split
    · unfold LC.inc LC.to; split <;> (try split) <;> rfl
    · split
      · unfold LC.inc LC.to; split <;> (try split) <;> rfl
      · unfold LC.inc; split <;> (try split) <;> rfl
  · rfl
theorem abort_lane0 {C : LC} (h : C.lane ≠ 0) (n : Int) : (C.abort n).lane ≠ 0 := by
  obtain ⟨f, s, o, lane, c0, c1, c2, c3, c4⟩ := C
  have hn : ∀ (D : LC) (k : Nat), ((D.next k : Nat) : Int) ≠ 0 := fun D k => by unfold LC.next; split <;> (try split) <;> (try split) <;> decide
  unfold LC.abort
  split
  · split
    · exact hn _ _
    · split
      · exact hn _ _
      · unfold LC.inc; split <;> (try split) <;> exact h
  · exact h

set_option maxRecDepth 100000 in
set_option maxHeartbeats 1000000 in
theorem LanesWide_any (w : World) (f s o : Int) (A : Option Addr) (cap : Nat) (xs : List Int) (hR : Rd w w.heap.size A 1 encInt xs) :
    Calls Try.prog 3 #[.agg #[.int .i64 f, .int .i64 s, .int .i64 o], .slice A xs.length cap] w (StaysPost w) := by
  by_cases hlen : 100 < xs.length
  · have hl' : (100 : Int) < xs.length := by omega
    go_enter Try.func3, Try.ntmps3
    go_wp2_with fail
    refine (alive_any _).mono ?_
    rintro e w1 ⟨rfl, hC1⟩
    go_wp2_with fail
    go_ret
    exact ⟨rfl, (((Chg.refl [] w).alloc _).trans hC1).nil_below⟩
  have hl' : (xs.length : Int) ≤ 100 := by omega
  clear hlen
  go_enter Try.func3, Try.ntmps3
  go_wp2_with fail
  have kb := Blk.new w [.int .i64 f, .int .i64 s, .int .i64 o] 23
  refine (alive_any _).mono ?_
  rintro e w1 ⟨rfl, hC1⟩
  have hC := ((Chg.refl [] w).alloc (.cells #[.int .i64 f, .int .i64 s, .int .i64 o] 23)).trans hC1
  replace kb := hC1.blk kb (by simp)
  have x0 := kb.cell 0
  have x1 := kb.cell 1
  have x2 := kb.cell 2
  simp only [List.getElem?_cons_zero, List.getElem?_cons_succ] at x0 x1 x2
  clear hC1
  go_wp2_with fail
  refine (small_any _ f s o).mono ?_
  rintro e w2 ⟨f', s', o', hm, rfl, hC2⟩
  replace hC := hC.trans hC2
  have HM := Lib.hid hm
  clear hC2 hm kb x0 x1 x2
  go_wp2_with fail
  have kb := Blk.new w2 [.int .i64 f', .int .i64 s', .int .i64 o'] 23
  replace hC := hC.alloc (.cells #[.int .i64 f', .int .i64 s', .int .i64 o'] 23)
  generalize w2.alloc (.cells #[.int .i64 f', .int .i64 s', .int .i64 o'] 23) = w3 at *
  generalize w2.heap.size = bb at *
  refine (New_ok _ f' s' o' HM.out).mono ?_
  rintro e w4 ⟨b, rfl, hb, hCt, hC4⟩
  have hO : OwnAt w w4 b (LC.new f' s' o') := ⟨hCt, Nat.le_trans hC.size hb, (hC.trans hC4).nil_below, LC.Ok.new HM.out⟩
  replace kb := hC4.blk kb (by simp)
  clear hCt hC4 hb hC
  go_wp2_with fail
  refine (Enter_any _ b _ hO.c).mono ?_
  rintro e w5 ⟨rfl, hC5, hCh5⟩
  have hbne : bb ≠ b := kb.ne hO.c (by decide)
  replace hO := hO.did hC5 (LC.Ok.first hO.ok) hCh5
  replace kb := hCh5.blk kb (by simpa using hbne)
  have hl0 : (LC.new f' s' o').first.lane ≠ 0 := by simp only [LC.first, LC.next]; split <;> (try split) <;> (try split) <;> decide
  have hW : WideRel w b bb f' s' o' w5 := ⟨_, hO, hl0, rfl, kb⟩
  clear hC5 hCh5 hl0 hO kb
  go_wp2_with fail
  go_loopw [9] (fun i wr => ∃ k : Nat, k ≤ xs.length ∧ i = .int .i64 k ∧ WideRel w b bb f' s' o' wr) (fun i _ => xs.length - (intOf i).toNat)
  case atStart => exact ⟨0, Nat.zero_le _, rfl, hW⟩
  case round =>
    clear hW
    obtain ⟨k, hk, rfl, C, hO, hl0, ho, kb⟩ := hrel
    by_cases hgo : k < xs.length ∧ C.hard = true
    · obtain ⟨hlt, hh⟩ := hgo
      obtain ⟨bi, off, rfl, hbb, hc⟩ := hR.below hO.bel (by omega)
      have c0 : wr.cell? ⟨bi, off + k, none⟩ = some (.int .i64 xs[k]) := by simpa [encInt] using hc k hlt 0 (by decide)
      clear hc
      go_wp2_with fail
      refine (Hard_any _ b C hO.c).mono ?_
      rintro e w6 ⟨rfl, rfl⟩
      rw [hh]
      go_wp2_with fail
      refine (code_any _ _).mono ?_
      rintro e w6 ⟨n, hn, rfl, hC6⟩
      replace hO := hO.look hC6
      replace kb := hC6.blk kb (by simp)
      by_cases h3 : n = 3
      · subst h3
        go_wp2_with fail
        go_roundw
        case rel => exact ⟨k + 1, by omega, by go_num, C, hO, hl0, ho, kb⟩
        case measure => simp [intOf]; omega
      · go_wp2_with fail
        refine (Abort_any _ b C n hO.ok hO.c).mono ?_
        rintro e w7 ⟨rfl, hC7, hCh7⟩
        replace hO := hO.did hC7 (hO.ok.abort n) hCh7
        replace kb := hCh7.blk kb (by simpa using hbne)
        have ho' := (abort_o C n).trans ho
        have hl' := abort_lane0 hl0 n
        clear hC7 hCh7
        go_wp2_with fail
        go_roundw
        case rel => exact ⟨k + 1, by omega, by go_num, _, hO, hl', ho', kb⟩
        case measure => simp [intOf]; omega
    · by_cases hh : C.hard = true
      · obtain rfl : k = xs.length := by
          by_cases hlt : k < xs.length
          · exact absurd ⟨hlt, hh⟩ hgo
          · omega
        clear hgo
        go_wp2_with fail
        refine (Hard_any _ b C hO.c).mono ?_
        rintro e w6 ⟨rfl, rfl⟩
        rw [hh]
        have hl12 : C.lane = 1 ∨ C.lane = 2 := by simpa [LC.hard] using hh
        obtain ⟨f1, s1, o1, lane, c0, c1, c2, c3, c4⟩ := C
        have hsm := hO.ok.small
        obtain ⟨_, ⟨p1, q1⟩, ⟨p2, q2⟩, _, _⟩ := hsm
        dsimp only at *
        subst ho
        clear hh
        rcases hl12 with rfl | rfl
        · by_cases hoz : o1 = 0
          · subst hoz
            have hw : IntKind.i64.wrap (c1 + 1) = c1 + 1 := IntWalk.i64_in _ (by omega)
            go_wp2_with fail
            refine (Counts_any _ b _ hO.c).mono ?_
            rintro e w6 ⟨rfl, hC6⟩
            dsimp only
            replace hO := hO.look hC6
            replace kb := hC6.blk kb (by simp)
            clear hC6
            go_wp2_with fail
            have htw := hO.bel.size
            have kt := Blk.new w6 [.int .i64 c0, .int .i64 c1, .int .i64 c2, .int .i64 c3, .int .i64 c4] 35
            replace hO := hO.alloc (.cells #[.int .i64 c0, .int .i64 c1, .int .i64 c2, .int .i64 c3, .int .i64 c4] 35)
            replace kb := kb.alloc (.cells #[.int .i64 c0, .int .i64 c1, .int .i64 c2, .int .i64 c3, .int .i64 c4] 35)
            generalize w6.alloc (.cells #[.int .i64 c0, .int .i64 c1, .int .i64 c2, .int .i64 c3, .int .i64 c4] 35) = w7 at *
            generalize w6.heap.size = t at *
            have htb : t ≠ b := kt.ne hO.c (by decide)
            have hbt : b ≠ t := htb.symm
            have hbbt : bb ≠ t := kb.ne kt (by decide)
            refine (Lane_any _ b _ hO.c).mono ?_
            rintro e w8 ⟨rfl, rfl⟩
            dsimp only
            go_wp2_with fail
            refine (Abort_any _ b _ 3 hO.ok hO.c).mono ?_
            rintro e w8 ⟨rfl, hC8, hCh8⟩
            have eA : LC.abort ⟨f1, s1, 0, 1, c0, c1, c2, c3, c4⟩ 3 = ⟨f1, s1, 0, 4, c0, c1 + 1, c2, c3, c4⟩ := by simp [LC.abort, LC.within, codeOk, LC.inc, LC.to, LC.next]
            have eB : abortLane ⟨f1, s1, 0, 1, c0, c1, c2, c3, c4⟩ 3 = 4 := by simp [abortLane, LC.within, codeOk, eA]
            have eC : abortErr ⟨f1, s1, 0, 1, c0, c1, c2, c3, c4⟩ 3 = 0 := rfl
            have hok := hO.ok.abort 3
            rw [eA] at hC8 hok
            rw [eB, eC]
            replace hO := hO.did hC8 hok hCh8
            replace kb := hCh8.blk kb (by simpa using hbne)
            replace kt := hCh8.blk kt (by simpa using htb)
            clear hC8 hCh8 hok eA eB eC
            have x2 : w8.cell? ⟨bb, 2, none⟩ = some (.int .i64 0) := kb.cell 2
            have y1 : w8.cell? ⟨t, 1, none⟩ = some (.int .i64 c1) := kt.cell 1
            have yf := kt.free
            have kt2 := kt.set 1 (.int .i64 (c1 + 1))
            have hO2 : OwnAt w (w8.setCell ⟨t, 1, none⟩ (.int .i64 (c1 + 1))) b ⟨f1, s1, 0, 4, c0, c1 + 1, c2, c3, c4⟩ :=
              ⟨Blk.other hO.c (a := ⟨t, 1, none⟩) htb _, hO.la, below_chg hO.bel ((Chg.refl [t] w8).setCell (p := ⟨t, 1, none⟩) (by simp) (.int .i64 (c1 + 1))) (by intro x hx; simp at hx; omega) (Nat.le_refl _), hO.ok⟩
            simp only [List.set_cons_zero, List.set_cons_succ] at kt2
            have HO := Lib.hid hO2
            have KT := Lib.hid kt2
            clear hO2 kt2 kt kb hO
            go_wp2_with fail
            generalize w8.setCell _ _ = w9 at *
            have hO := HO.out
            have kt := KT.out
            have hq := eq_five
            have q := eqInts_self [c0, c1 + 1, c2, c3, c4]
            go_region_held3 (fun w' => w'.cell? ⟨t, 0, none⟩ = some (.int .i64 (c0)) ∧ w'.cell? ⟨t, 1, none⟩ = some (.int .i64 (c1 + 1)) ∧ w'.cell? ⟨t, 2, none⟩ = some (.int .i64 (c2)) ∧ w'.cell? ⟨t, 3, none⟩ = some (.int .i64 (c3)) ∧ w'.cell? ⟨t, 4, none⟩ = some (.int .i64 (c4))) (first | exact ⟨kt.cell 0, kt.cell 1, kt.cell 2, kt.cell 3, kt.cell 4⟩ | exact ⟨(hC11.blk kt.drew (by simp)).cell 0, (hC11.blk kt.drew (by simp)).cell 1, (hC11.blk kt.drew (by simp)).cell 2, (hC11.blk kt.drew (by simp)).cell 3, (hC11.blk kt.drew (by simp)).cell 4⟩)
              (first
                | (go_at_call 17; refine (Lane_any _ b _ (Blk.drew hO.c)).mono ?_; rintro e w10 ⟨rfl, rfl⟩; dsimp only)
                | (go_at_call 13; refine (Hard_any _ b _ (Blk.drew hO.c)).mono ?_; rintro e w10 ⟨rfl, rfl⟩)
                | (go_at_call 16; refine (Counts_any _ b _ (Blk.drew hO.c)).mono ?_; rintro e w11 ⟨rfl, hC11⟩; dsimp only))
            go_wp2_with fail
            go_ret
            exact ⟨rfl, (hO.look ((Chg.refl _ _).drew.trans hC11)).bel⟩
          · have hoz2 : (o1 == 0) = false := by simpa using hoz
            have hw : IntKind.i64.wrap (c1 + 1) = c1 + 1 := IntWalk.i64_in _ (by omega)
            go_wp2_with fail
            refine (Counts_any _ b _ hO.c).mono ?_
            rintro e w6 ⟨rfl, hC6⟩
            dsimp only
            replace hO := hO.look hC6
            replace kb := hC6.blk kb (by simp)
            clear hC6
            go_wp2_with fail
            have htw := hO.bel.size
            have kt := Blk.new w6 [.int .i64 c0, .int .i64 c1, .int .i64 c2, .int .i64 c3, .int .i64 c4] 35
            replace hO := hO.alloc (.cells #[.int .i64 c0, .int .i64 c1, .int .i64 c2, .int .i64 c3, .int .i64 c4] 35)
            replace kb := kb.alloc (.cells #[.int .i64 c0, .int .i64 c1, .int .i64 c2, .int .i64 c3, .int .i64 c4] 35)
            generalize w6.alloc (.cells #[.int .i64 c0, .int .i64 c1, .int .i64 c2, .int .i64 c3, .int .i64 c4] 35) = w7 at *
            generalize w6.heap.size = t at *
            have htb : t ≠ b := kt.ne hO.c (by decide)
            have hbt : b ≠ t := htb.symm
            have hbbt : bb ≠ t := kb.ne kt (by decide)
            refine (Lane_any _ b _ hO.c).mono ?_
            rintro e w8 ⟨rfl, rfl⟩
            dsimp only
            go_wp2_with fail
            refine (Abort_any _ b _ 3 hO.ok hO.c).mono ?_
            rintro e w8 ⟨rfl, hC8, hCh8⟩
            have eA : LC.abort ⟨f1, s1, o1, 1, c0, c1, c2, c3, c4⟩ 3 = ⟨f1, s1, o1, 3, c0, c1 + 1, c2, c3, c4⟩ := by simp [LC.abort, LC.within, codeOk, LC.inc, LC.to, LC.next, hoz]
            have eB : abortLane ⟨f1, s1, o1, 1, c0, c1, c2, c3, c4⟩ 3 = 3 := by simp [abortLane, LC.within, codeOk, eA]
            have eC : abortErr ⟨f1, s1, o1, 1, c0, c1, c2, c3, c4⟩ 3 = 0 := rfl
            have hok := hO.ok.abort 3
            rw [eA] at hC8 hok
            rw [eB, eC]
            replace hO := hO.did hC8 hok hCh8
            replace kb := hCh8.blk kb (by simpa using hbne)
            replace kt := hCh8.blk kt (by simpa using htb)
            clear hC8 hCh8 hok eA eB eC
            have x2 : w8.cell? ⟨bb, 2, none⟩ = some (.int .i64 o1) := kb.cell 2
            have y1 : w8.cell? ⟨t, 1, none⟩ = some (.int .i64 c1) := kt.cell 1
            have yf := kt.free
            have kt2 := kt.set 1 (.int .i64 (c1 + 1))
            have hO2 : OwnAt w (w8.setCell ⟨t, 1, none⟩ (.int .i64 (c1 + 1))) b ⟨f1, s1, o1, 3, c0, c1 + 1, c2, c3, c4⟩ :=
              ⟨Blk.other hO.c (a := ⟨t, 1, none⟩) htb _, hO.la, below_chg hO.bel ((Chg.refl [t] w8).setCell (p := ⟨t, 1, none⟩) (by simp) (.int .i64 (c1 + 1))) (by intro x hx; simp at hx; omega) (Nat.le_refl _), hO.ok⟩
            simp only [List.set_cons_zero, List.set_cons_succ] at kt2
            have HO := Lib.hid hO2
            have KT := Lib.hid kt2
            clear hO2 kt2 kt kb hO
            go_wp2_with fail
            generalize w8.setCell _ _ = w9 at *
            have hO := HO.out
            have kt := KT.out
            have hq := eq_five
            have q := eqInts_self [c0, c1 + 1, c2, c3, c4]
            go_region_held3 (fun w' => w'.cell? ⟨t, 0, none⟩ = some (.int .i64 (c0)) ∧ w'.cell? ⟨t, 1, none⟩ = some (.int .i64 (c1 + 1)) ∧ w'.cell? ⟨t, 2, none⟩ = some (.int .i64 (c2)) ∧ w'.cell? ⟨t, 3, none⟩ = some (.int .i64 (c3)) ∧ w'.cell? ⟨t, 4, none⟩ = some (.int .i64 (c4))) (first | exact ⟨kt.cell 0, kt.cell 1, kt.cell 2, kt.cell 3, kt.cell 4⟩ | exact ⟨(hC11.blk kt.drew (by simp)).cell 0, (hC11.blk kt.drew (by simp)).cell 1, (hC11.blk kt.drew (by simp)).cell 2, (hC11.blk kt.drew (by simp)).cell 3, (hC11.blk kt.drew (by simp)).cell 4⟩)
              (first
                | (go_at_call 17; refine (Lane_any _ b _ (Blk.drew hO.c)).mono ?_; rintro e w10 ⟨rfl, rfl⟩; dsimp only)
                | (go_at_call 13; refine (Hard_any _ b _ (Blk.drew hO.c)).mono ?_; rintro e w10 ⟨rfl, rfl⟩)
                | (go_at_call 16; refine (Counts_any _ b _ (Blk.drew hO.c)).mono ?_; rintro e w11 ⟨rfl, hC11⟩; dsimp only))
            go_wp2_with fail
            go_ret
            exact ⟨rfl, (hO.look ((Chg.refl _ _).drew.trans hC11)).bel⟩
        · by_cases hoz : o1 = 0
          · subst hoz
            have hw : IntKind.i64.wrap (c2 + 1) = c2 + 1 := IntWalk.i64_in _ (by omega)
            go_wp2_with fail
            refine (Counts_any _ b _ hO.c).mono ?_
            rintro e w6 ⟨rfl, hC6⟩
            dsimp only
            replace hO := hO.look hC6
            replace kb := hC6.blk kb (by simp)
            clear hC6
            go_wp2_with fail
            have htw := hO.bel.size
            have kt := Blk.new w6 [.int .i64 c0, .int .i64 c1, .int .i64 c2, .int .i64 c3, .int .i64 c4] 35
            replace hO := hO.alloc (.cells #[.int .i64 c0, .int .i64 c1, .int .i64 c2, .int .i64 c3, .int .i64 c4] 35)
            replace kb := kb.alloc (.cells #[.int .i64 c0, .int .i64 c1, .int .i64 c2, .int .i64 c3, .int .i64 c4] 35)
            generalize w6.alloc (.cells #[.int .i64 c0, .int .i64 c1, .int .i64 c2, .int .i64 c3, .int .i64 c4] 35) = w7 at *
            generalize w6.heap.size = t at *
            have htb : t ≠ b := kt.ne hO.c (by decide)
            have hbt : b ≠ t := htb.symm
            have hbbt : bb ≠ t := kb.ne kt (by decide)
            refine (Lane_any _ b _ hO.c).mono ?_
            rintro e w8 ⟨rfl, rfl⟩
            dsimp only
            go_wp2_with fail
            refine (Abort_any _ b _ 3 hO.ok hO.c).mono ?_
            rintro e w8 ⟨rfl, hC8, hCh8⟩
            have eA : LC.abort ⟨f1, s1, 0, 2, c0, c1, c2, c3, c4⟩ 3 = ⟨f1, s1, 0, 4, c0, c1, c2 + 1, c3, c4⟩ := by simp [LC.abort, LC.within, codeOk, LC.inc, LC.to, LC.next]
            have eB : abortLane ⟨f1, s1, 0, 2, c0, c1, c2, c3, c4⟩ 3 = 4 := by simp [abortLane, LC.within, codeOk, eA]
            have eC : abortErr ⟨f1, s1, 0, 2, c0, c1, c2, c3, c4⟩ 3 = 0 := rfl
            have hok := hO.ok.abort 3
            rw [eA] at hC8 hok
            rw [eB, eC]
            replace hO := hO.did hC8 hok hCh8
            replace kb := hCh8.blk kb (by simpa using hbne)
            replace kt := hCh8.blk kt (by simpa using htb)
            clear hC8 hCh8 hok eA eB eC
            have x2 : w8.cell? ⟨bb, 2, none⟩ = some (.int .i64 0) := kb.cell 2
            have y2 : w8.cell? ⟨t, 2, none⟩ = some (.int .i64 c2) := kt.cell 2
            have yf := kt.free
            have kt2 := kt.set 2 (.int .i64 (c2 + 1))
            have hO2 : OwnAt w (w8.setCell ⟨t, 2, none⟩ (.int .i64 (c2 + 1))) b ⟨f1, s1, 0, 4, c0, c1, c2 + 1, c3, c4⟩ :=
              ⟨Blk.other hO.c (a := ⟨t, 2, none⟩) htb _, hO.la, below_chg hO.bel ((Chg.refl [t] w8).setCell (p := ⟨t, 2, none⟩) (by simp) (.int .i64 (c2 + 1))) (by intro x hx; simp at hx; omega) (Nat.le_refl _), hO.ok⟩
            simp only [List.set_cons_zero, List.set_cons_succ] at kt2
            have HO := Lib.hid hO2
            have KT := Lib.hid kt2
            clear hO2 kt2 kt kb hO
            go_wp2_with fail
            generalize w8.setCell _ _ = w9 at *
            have hO := HO.out
            have kt := KT.out
            have hq := eq_five
            have q := eqInts_self [c0, c1, c2 + 1, c3, c4]
            go_region_held3 (fun w' => w'.cell? ⟨t, 0, none⟩ = some (.int .i64 (c0)) ∧ w'.cell? ⟨t, 1, none⟩ = some (.int .i64 (c1)) ∧ w'.cell? ⟨t, 2, none⟩ = some (.int .i64 (c2 + 1)) ∧ w'.cell? ⟨t, 3, none⟩ = some (.int .i64 (c3)) ∧ w'.cell? ⟨t, 4, none⟩ = some (.int .i64 (c4))) (first | exact ⟨kt.cell 0, kt.cell 1, kt.cell 2, kt.cell 3, kt.cell 4⟩ | exact ⟨(hC11.blk kt.drew (by simp)).cell 0, (hC11.blk kt.drew (by simp)).cell 1, (hC11.blk kt.drew (by simp)).cell 2, (hC11.blk kt.drew (by simp)).cell 3, (hC11.blk kt.drew (by simp)).cell 4⟩)
              (first
                | (go_at_call 17; refine (Lane_any _ b _ (Blk.drew hO.c)).mono ?_; rintro e w10 ⟨rfl, rfl⟩; dsimp only)
                | (go_at_call 13; refine (Hard_any _ b _ (Blk.drew hO.c)).mono ?_; rintro e w10 ⟨rfl, rfl⟩)
                | (go_at_call 16; refine (Counts_any _ b _ (Blk.drew hO.c)).mono ?_; rintro e w11 ⟨rfl, hC11⟩; dsimp only))
            go_wp2_with fail
            go_ret
            exact ⟨rfl, (hO.look ((Chg.refl _ _).drew.trans hC11)).bel⟩
          · have hoz2 : (o1 == 0) = false := by simpa using hoz
            have hw : IntKind.i64.wrap (c2 + 1) = c2 + 1 := IntWalk.i64_in _ (by omega)
            go_wp2_with fail
            refine (Counts_any _ b _ hO.c).mono ?_
            rintro e w6 ⟨rfl, hC6⟩
            dsimp only
            replace hO := hO.look hC6
            replace kb := hC6.blk kb (by simp)
            clear hC6
            go_wp2_with fail
            have htw := hO.bel.size
            have kt := Blk.new w6 [.int .i64 c0, .int .i64 c1, .int .i64 c2, .int .i64 c3, .int .i64 c4] 35
            replace hO := hO.alloc (.cells #[.int .i64 c0, .int .i64 c1, .int .i64 c2, .int .i64 c3, .int .i64 c4] 35)
            replace kb := kb.alloc (.cells #[.int .i64 c0, .int .i64 c1, .int .i64 c2, .int .i64 c3, .int .i64 c4] 35)
            generalize w6.alloc (.cells #[.int .i64 c0, .int .i64 c1, .int .i64 c2, .int .i64 c3, .int .i64 c4] 35) = w7 at *
            generalize w6.heap.size = t at *
            have htb : t ≠ b := kt.ne hO.c (by decide)
            have hbt : b ≠ t := htb.symm
            have hbbt : bb ≠ t := kb.ne kt (by decide)
            refine (Lane_any _ b _ hO.c).mono ?_
            rintro e w8 ⟨rfl, rfl⟩
            dsimp only
            go_wp2_with fail
            refine (Abort_any _ b _ 3 hO.ok hO.c).mono ?_
            rintro e w8 ⟨rfl, hC8, hCh8⟩
            have eA : LC.abort ⟨f1, s1, o1, 2, c0, c1, c2, c3, c4⟩ 3 = ⟨f1, s1, o1, 3, c0, c1, c2 + 1, c3, c4⟩ := by simp [LC.abort, LC.within, codeOk, LC.inc, LC.to, LC.next, hoz]
            have eB : abortLane ⟨f1, s1, o1, 2, c0, c1, c2, c3, c4⟩ 3 = 3 := by simp [abortLane, LC.within, codeOk, eA]
            have eC : abortErr ⟨f1, s1, o1, 2, c0, c1, c2, c3, c4⟩ 3 = 0 := rfl
            have hok := hO.ok.abort 3
            rw [eA] at hC8 hok
            rw [eB, eC]
            replace hO := hO.did hC8 hok hCh8
            replace kb := hCh8.blk kb (by simpa using hbne)
            replace kt := hCh8.blk kt (by simpa using htb)
            clear hC8 hCh8 hok eA eB eC
            have x2 : w8.cell? ⟨bb, 2, none⟩ = some (.int .i64 o1) := kb.cell 2
            have y2 : w8.cell? ⟨t, 2, none⟩ = some (.int .i64 c2) := kt.cell 2
            have yf := kt.free
            have kt2 := kt.set 2 (.int .i64 (c2 + 1))
            have hO2 : OwnAt w (w8.setCell ⟨t, 2, none⟩ (.int .i64 (c2 + 1))) b ⟨f1, s1, o1, 3, c0, c1, c2 + 1, c3, c4⟩ :=
              ⟨Blk.other hO.c (a := ⟨t, 2, none⟩) htb _, hO.la, below_chg hO.bel ((Chg.refl [t] w8).setCell (p := ⟨t, 2, none⟩) (by simp) (.int .i64 (c2 + 1))) (by intro x hx; simp at hx; omega) (Nat.le_refl _), hO.ok⟩
            simp only [List.set_cons_zero, List.set_cons_succ] at kt2
            have HO := Lib.hid hO2
            have KT := Lib.hid kt2
            clear hO2 kt2 kt kb hO
            go_wp2_with fail
            generalize w8.setCell _ _ = w9 at *
            have hO := HO.out
            have kt := KT.out
            have hq := eq_five
            have q := eqInts_self [c0, c1, c2 + 1, c3, c4]
            go_region_held3 (fun w' => w'.cell? ⟨t, 0, none⟩ = some (.int .i64 (c0)) ∧ w'.cell? ⟨t, 1, none⟩ = some (.int .i64 (c1)) ∧ w'.cell? ⟨t, 2, none⟩ = some (.int .i64 (c2 + 1)) ∧ w'.cell? ⟨t, 3, none⟩ = some (.int .i64 (c3)) ∧ w'.cell? ⟨t, 4, none⟩ = some (.int .i64 (c4))) (first | exact ⟨kt.cell 0, kt.cell 1, kt.cell 2, kt.cell 3, kt.cell 4⟩ | exact ⟨(hC11.blk kt.drew (by simp)).cell 0, (hC11.blk kt.drew (by simp)).cell 1, (hC11.blk kt.drew (by simp)).cell 2, (hC11.blk kt.drew (by simp)).cell 3, (hC11.blk kt.drew (by simp)).cell 4⟩)
              (first
                | (go_at_call 17; refine (Lane_any _ b _ (Blk.drew hO.c)).mono ?_; rintro e w10 ⟨rfl, rfl⟩; dsimp only)
                | (go_at_call 13; refine (Hard_any _ b _ (Blk.drew hO.c)).mono ?_; rintro e w10 ⟨rfl, rfl⟩)
                | (go_at_call 16; refine (Counts_any _ b _ (Blk.drew hO.c)).mono ?_; rintro e w11 ⟨rfl, hC11⟩; dsimp only))
            go_wp2_with fail
            go_ret
            exact ⟨rfl, (hO.look ((Chg.refl _ _).drew.trans hC11)).bel⟩
      · have hh' : C.hard = false := by simpa using hh
        by_cases hlt : k < xs.length
        · clear hgo hh
          go_wp2_with fail
          refine (Hard_any _ b C hO.c).mono ?_
          rintro e w6 ⟨rfl, rfl⟩
          rw [hh']
          go_wp2_with fail
          refine (Hard_any _ b C hO.c).mono ?_
          rintro e w6 ⟨rfl, rfl⟩
          rw [hh']
          go_wp2_with fail
          go_ret
          exact ⟨rfl, hO.bel⟩
        · obtain rfl : k = xs.length := by omega
          clear hgo hh
          go_wp2_with fail
          refine (Hard_any _ b C hO.c).mono ?_
          rintro e w6 ⟨rfl, rfl⟩
          rw [hh']
          go_wp2_with fail
          go_ret
          exact ⟨rfl, hO.bel⟩

end Go.Proofs.Ytdaehfilmhagiaa
