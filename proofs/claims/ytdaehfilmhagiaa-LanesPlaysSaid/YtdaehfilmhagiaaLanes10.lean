/- LanesAnew. -/
import Derived.Test.YtdaehfilmhagiaaLanes9
namespace Go.Proofs.Ytdaehfilmhagiaa
open Go.RowKit

def LC.sameB (C : LC) (f s o : Int) : Prop := C.f = f ∧ C.s = s ∧ C.o = o
theorem sameB_abort {C : LC} {f s o : Int} (h : C.sameB f s o) (n : Int) : (C.abort n).sameB f s o := by
  unfold LC.abort
  split
  · split
    · unfold LC.inc LC.to; split <;> (try split) <;> exact h
    · split
      · unfold LC.inc LC.to; split <;> (try split) <;> exact h
      · unfold LC.inc; split <;> (try split) <;> exact h
  · exact h
theorem sameB_out {C : LC} {f s o : Int} (h : C.sameB f s o) (hok : C.Ok) (hl : C.lane = 0) : C = LC.new f s o := by
  obtain ⟨f1, s1, o1, lane, c0, c1, c2, c3, c4⟩ := C
  obtain ⟨rfl, rfl, rfl⟩ := h
  obtain ⟨a, b, c⟩ := hok.out hl
  have z0 := hok.z0
  have z4 := hok.z4
  dsimp only at *
  subst a b c z0 z4 hl
  rfl
theorem sameB_none {C : LC} {f s o : Int} (h : C.sameB f s o) : C.none = LC.new f s o := by
  obtain ⟨rfl, rfl, rfl⟩ := h
  rfl

theorem OwnAt.other {w wr w' : World} {b c : Nat} {C G : LC} (h : OwnAt w wr b C) (hc : w.heap.size ≤ c) (h3 : Chg [c] wr w') (hne : b ≠ c) : OwnAt w w' b C :=
  ⟨h3.blk h.c (by simpa using hne), h.la, below_chg h.bel h3 (by intro x hx; simp at hx; omega) (Nat.le_refl _), h.ok⟩

def encOp (p : Int × Int) : List Value := [.int .i64 p.1, .int .i64 p.2]

def AnewRel (w : World) (c d : Nat) (f s o : Int) (wr : World) : Prop := ∃ C : LC, OwnAt w wr c C ∧ C.sameB f s o ∧ OwnAt w wr d (LC.new f s o)
def BothRel (w : World) (c d : Nat) (wr : World) : Prop := ∃ C : LC, OwnAt w wr c C ∧ OwnAt w wr d C

set_option maxRecDepth 100000 in
set_option maxHeartbeats 2000000 in
theorem LanesAnew_ok (w : World) (f s o : Int) (A A2 : Option Addr) (cap cap2 : Nat) (xs : List (Int × Int)) (ys : List Int) (hR : Rd w w.heap.size A 2 encOp xs) (hR2 : Rd w w.heap.size A2 1 encInt ys) (hl1 : xs.length ≤ 1000) (hl2 : ys.length ≤ 1000) :
    Calls Try.prog 7 #[.agg #[.int .i64 f, .int .i64 s, .int .i64 o], .slice A xs.length cap, .slice A2 ys.length cap2] w (StaysPost w) := by
  have hl1' : (xs.length : Int) ≤ 1000 := by omega
  have hl2' : (ys.length : Int) ≤ 1000 := by omega
  go_enter Try.func7, Try.ntmps7
  go_wp2_with fail
  have kb := Blk.new w [.int .i64 f, .int .i64 s, .int .i64 o] 23
  refine (alive_any _).mono ?_
  rintro e w1 ⟨rfl, hC1⟩
  have hC := ((Chg.refl [] w).alloc (.cells #[.int .i64 f, .int .i64 s, .int .i64 o] 23)).trans hC1
  replace kb := hC1.blk kb (by simp)
  have x0 := kb.cell 0
  have x1 := kb.cell 1
  have x2 := kb.cell 2
  simp only [List.getElem?_cons_zero, List.getElem?_cons_succ] at x0 x1 x2
  clear hC1
  go_wp2_with fail
  refine (small_any _ f s o).mono ?_
  rintro e w2 ⟨f', s', o', hm, rfl, hC2⟩
  replace hC := hC.trans hC2
  have HM := Lib.hid hm
  clear hC2 hm kb x0 x1 x2
  go_wp2_with fail
  have kb := Blk.new w2 [.int .i64 f', .int .i64 s', .int .i64 o'] 23
  replace hC := hC.alloc (.cells #[.int .i64 f', .int .i64 s', .int .i64 o'] 23)
  generalize w2.alloc (.cells #[.int .i64 f', .int .i64 s', .int .i64 o'] 23) = w3 at *
  generalize w2.heap.size = bb at *
  refine (New_ok _ f' s' o' HM.out).mono ?_
  rintro e w4 ⟨c, rfl, hb, hCt, hC4⟩
  have hO : OwnAt w w4 c (LC.new f' s' o') := ⟨hCt, Nat.le_trans hC.size hb, (hC.trans hC4).nil_below, LC.Ok.new HM.out⟩
  replace kb := hC4.blk kb (by simp)
  have x0 := kb.cell 0
  have x1 := kb.cell 1
  have x2 := kb.cell 2
  simp only [List.getElem?_cons_zero, List.getElem?_cons_succ] at x0 x1 x2
  clear hCt hC4 hb hC kb
  go_wp2_with fail
  refine (New_ok _ f' s' o' HM.out).mono ?_
  rintro e w5 ⟨d, rfl, hd, hDt, hC5⟩
  have hcd : c ≠ d := by have := Blk.lt hO.c; omega
  have hdc : d ≠ c := hcd.symm
  have h4s := hO.bel.size
  replace hO := hO.look hC5
  have hP : OwnAt w w5 d (LC.new f' s' o') := ⟨hDt, by omega, hO.bel, LC.Ok.new HM.out⟩
  have hA : AnewRel w c d f' s' o' w5 := ⟨_, hO, ⟨rfl, rfl, rfl⟩, hP⟩
  have hwc := hO.la
  have hwd := hP.la
  have HA := Lib.hid hA
  clear hDt hC5 hd hO hP hA x0 x1 x2
  go_wp2_with fail
  go_loopw [13] (fun i wr => ∃ k : Nat, k ≤ xs.length ∧ i = .int .i64 k ∧ AnewRel w c d f' s' o' wr) (fun i _ => xs.length - (intOf i).toNat)
  case atStart => exact ⟨0, Nat.zero_le _, rfl, HA.out⟩
  case round =>
    clear HA
    obtain ⟨k, hk, rfl, C, hO, hB, hP⟩ := hrel
    by_cases hlt : k < xs.length
    · obtain ⟨bi, off, rfl, hbb, hc⟩ := hR.below hO.bel (by omega)
      have c0 : wr.cell? ⟨bi, off + k * 2, none⟩ = some (.int .i64 xs[k].1) := hc k hlt 0 (by decide)
      have c1 : wr.cell? ⟨bi, off + k * 2 + 1, none⟩ = some (.int .i64 xs[k].2) := hc k hlt 1 (by decide)
      clear hc
      generalize xs[k].1 = kk at *
      generalize xs[k].2 = n at *
      by_cases q0 : kk = 0
      · subst q0
        go_wp2_with fail
        refine (Enter_any _ c C hO.c).mono ?_
        rintro e w6 ⟨rfl, h1, h2⟩
        have hP' := hP.other (G := C) hwc h2 hdc
        have hO' : ∃ D, OwnAt w w6 c D ∧ D.sameB f' s' o' := by
          by_cases hl : C.lane = 0
          · rw [if_pos hl] at h1; exact ⟨_, hO.did h1 hO.ok.first h2, hB⟩
          · rw [if_neg hl] at h1; exact ⟨_, hO.did h1 hO.ok h2, hB⟩
        obtain ⟨D, hOD, hBD⟩ := hO'
        clear h1 h2
        go_wp2_with fail
        go_roundw
        case rel => exact ⟨k + 1, by omega, by go_num, D, hOD, hBD, hP'⟩
        case measure => simp [intOf]; omega
      by_cases q1 : kk = 1
      · subst q1
        go_wp2_with fail
        refine (Abort_any _ c C n hO.ok hO.c).mono ?_
        rintro e w6 ⟨rfl, h1, h2⟩
        have hP' := hP.other (G := C) hwc h2 hdc
        have hO' := hO.did h1 (hO.ok.abort n) h2
        clear h1 h2
        go_wp2_with fail
        go_roundw
        case rel => exact ⟨k + 1, by omega, by go_num, _, hO', sameB_abort hB n, hP'⟩
        case measure => simp [intOf]; omega
      by_cases q2 : kk = 2
      · subst q2
        go_wp2_with fail
        refine (Leave_any _ c C hO.c).mono ?_
        rintro e w6 ⟨rfl, h1, h2⟩
        have hP' := hP.other (G := C) hwc h2 hdc
        have hO' : ∃ D, OwnAt w w6 c D ∧ D.sameB f' s' o' := by
          by_cases hl : C.lane = 0
          · rw [if_pos hl] at h1; exact ⟨_, hO.did h1 hO.ok h2, hB⟩
          · rw [if_neg hl] at h1; exact ⟨_, hO.did h1 hO.ok.none h2, hB⟩
        obtain ⟨D, hOD, hBD⟩ := hO'
        clear h1 h2
        go_wp2_with fail
        go_roundw
        case rel => exact ⟨k + 1, by omega, by go_num, D, hOD, hBD, hP'⟩
        case measure => simp [intOf]; omega
      · have p0 : (kk == 0) = false := by simpa using q0
        have p1 : (kk == 1) = false := by simpa using q1
        have p2 : (kk == 2) = false := by simpa using q2
        clear q0 q1 q2
        go_wp2_with fail
        go_roundw
        case rel => exact ⟨k + 1, by omega, by go_num, C, hO, hB, hP⟩
        case measure => simp [intOf]; omega
    · obtain rfl : k = xs.length := by omega
      have hq := eq_five
      have q := eqInts_self [0, 0, 0, 0, 0]
      by_cases hl : C.lane = 0
      · obtain rfl := sameB_out hB hO.ok hl
        clear hl hB
        go_wp2_with fail
        refine (Lane_any _ c _ hO.c).mono ?_
        rintro e w6 ⟨rfl, rfl⟩
        dsimp only [LC.new]
        go_wp2_with fail
        refine (Lane_any _ c _ hO.c).mono ?_
        rintro e w6 ⟨rfl, rfl⟩
        dsimp only [LC.new]
        go_wp2_with fail
        refine (Try_any _ c _ hO.ok.small hO.c).mono ?_
        rintro e wt ⟨rfl, hCx⟩
        have et : LC.tries ⟨f', s', o', 0, 0, 0, 0, 0, 0⟩ = 0 := rfl
        dsimp only [LC.new]
        rw [et]
        replace hO := hO.look hCx
        replace hP := hP.look hCx
        clear hCx
        go_wp2_with fail
        refine (Counts_any _ c _ hO.c).mono ?_
        rintro e wt2 ⟨rfl, hCx⟩
        dsimp only [LC.new]
        replace hO := hO.look hCx
        replace hP := hP.look hCx
        clear hCx
        go_wp2_with fail
        refine (Hard_any _ c _ hO.c).mono ?_
        rintro e wt3 ⟨rfl, rfl⟩
        have eh : LC.hard ⟨f', s', o', 0, 0, 0, 0, 0, 0⟩ = false := rfl
        dsimp only [LC.new]
        rw [eh]
        go_wp2_with fail
        refine (Enter_any _ c _ hO.c).mono ?_
        rintro e w8 ⟨rfl, h1, h2⟩
        replace hP := hP.other (G := LC.new f' s' o') hwc h2 hdc
        replace hO := hO.did h1 hO.ok.first h2
        clear h1 h2
        have ee : enterErr (LC.new f' s' o') = 0 := rfl
        rw [ee]
        go_wp2_with fail
        refine (Enter_any _ d _ hP.c).mono ?_
        rintro e w9 ⟨rfl, h1, h2⟩
        replace hO := hO.other (G := LC.new f' s' o') hwd h2 hcd
        replace hP := hP.did h1 hP.ok.first h2
        clear h1 h2
        rw [ee]
        have HB : BothRel w c d w9 := ⟨_, hO, hP⟩
        have HB' := Lib.hid HB
        clear HB hO hP
        go_wp2_with fail
        go_loopw [18] (fun i wr => ∃ k : Nat, k ≤ ys.length ∧ i = .int .i64 k ∧ BothRel w c d wr) (fun i _ => ys.length - (intOf i).toNat)
        case atStart => exact ⟨0, Nat.zero_le _, rfl, HB'.out⟩
        case round =>
          clear HB'
          obtain ⟨k, hk, rfl, C, hO, hP⟩ := hrel
          by_cases hlt : k < ys.length
          · obtain ⟨bi, off, rfl, hbb, hc⟩ := hR2.below hO.bel (by omega)
            have c0 : wr.cell? ⟨bi, off + k, none⟩ = some (.int .i64 ys[k]) := by simpa [encInt] using hc k hlt 0 (by decide)
            have c0' : ∀ W, Below w.heap.size wr W → W.cell? ⟨bi, off + k, none⟩ = some (.int .i64 ys[k]) := fun W h => (h.cell (p := ⟨bi, _, none⟩) hbb).trans c0
            clear hc
            generalize ys[k] = n at *
            go_wp2_with fail
            refine (Abort_any _ c C n hO.ok hO.c).mono ?_
            rintro e w6 ⟨rfl, h1, h2⟩
            have hP' := hP.other (G := C) hwc h2 hdc
            have hO' := hO.did h1 (hO.ok.abort n) h2
            have c1 := c0' w6 (below_chg (Below.refl _ _) h2 (by intro x hx; simp at hx; omega) hO.bel.size)
            clear h1 h2 hO hP
            go_wp2_with fail
            refine (Abort_any _ d C n hP'.ok hP'.c).mono ?_
            rintro e w7 ⟨rfl, h1, h2⟩
            have hO2 := hO'.other (G := C) hwd h2 hcd
            have hP2 := hP'.did h1 (hP'.ok.abort n) h2
            clear h1 h2 hO' hP'
            go_wp2_with fail
            go_roundw
            case rel => exact ⟨k + 1, by omega, by go_num, _, hO2, hP2⟩
            case measure => simp [intOf]; omega
          · obtain rfl : k = ys.length := by omega
            go_wp2_with fail
            refine (Lane_any _ c _ hO.c).mono ?_
            rintro e w6 ⟨rfl, rfl⟩
            go_wp2_with fail
            refine (Lane_any _ d _ hP.c).mono ?_
            rintro e w6 ⟨rfl, rfl⟩
            go_wp2_with fail
            refine (Try_any _ c _ hO.ok.small hO.c).mono ?_
            rintro e w6 ⟨rfl, hCx⟩
            replace hO := hO.look hCx
            replace hP := hP.look hCx
            clear hCx
            go_wp2_with fail
            refine (Try_any _ d _ hP.ok.small hP.c).mono ?_
            rintro e w7 ⟨rfl, hCx⟩
            replace hO := hO.look hCx
            replace hP := hP.look hCx
            clear hCx
            go_wp2_with fail
            refine (Counts_any _ c _ hO.c).mono ?_
            rintro e w8 ⟨rfl, hCx⟩
            replace hO := hO.look hCx
            replace hP := hP.look hCx
            clear hCx
            go_wp2_with fail
            refine (Counts_any _ d _ hP.c).mono ?_
            rintro e w9 ⟨rfl, hCx⟩
            replace hO := hO.look hCx
            have q' := eqInts_self [C.c0, C.c1, C.c2, C.c3, C.c4]
            clear hCx
            go_wp2_with fail
            go_ret
            exact ⟨rfl, hO.bel⟩
      · have hlb : (C.lane == 0) = false := by simpa using hl
        have hlv : leaveErr C = 0 := by simp [leaveErr, hl]
        have HL := Lib.hid hl
        go_wp2_with fail
        refine (Lane_any _ c _ hO.c).mono ?_
        rintro e w6 ⟨rfl, rfl⟩
        go_wp2_with fail
        refine (Leave_any _ c _ hO.c).mono ?_
        rintro e w6 ⟨rfl, h1, h2⟩
        rw [if_neg HL.out, sameB_none hB] at h1
        rw [hlv]
        replace hP := hP.other (G := C) hwc h2 hdc
        replace hO := hO.did h1 (LC.Ok.new HM.out) h2
        clear h1 h2 hB hlv HL
        go_wp2_with fail
        refine (Lane_any _ c _ hO.c).mono ?_
        rintro e w7 ⟨rfl, rfl⟩
        dsimp only [LC.new]
        go_wp2_with fail
        refine (Try_any _ c _ hO.ok.small hO.c).mono ?_
        rintro e wt ⟨rfl, hCx⟩
        have et : LC.tries ⟨f', s', o', 0, 0, 0, 0, 0, 0⟩ = 0 := rfl
        dsimp only [LC.new]
        rw [et]
        replace hO := hO.look hCx
        replace hP := hP.look hCx
        clear hCx
        go_wp2_with fail
        refine (Counts_any _ c _ hO.c).mono ?_
        rintro e wt2 ⟨rfl, hCx⟩
        dsimp only [LC.new]
        replace hO := hO.look hCx
        replace hP := hP.look hCx
        clear hCx
        go_wp2_with fail
        refine (Hard_any _ c _ hO.c).mono ?_
        rintro e wt3 ⟨rfl, rfl⟩
        have eh : LC.hard ⟨f', s', o', 0, 0, 0, 0, 0, 0⟩ = false := rfl
        dsimp only [LC.new]
        rw [eh]
        go_wp2_with fail
        refine (Enter_any _ c _ hO.c).mono ?_
        rintro e w8 ⟨rfl, h1, h2⟩
        replace hP := hP.other (G := LC.new f' s' o') hwc h2 hdc
        replace hO := hO.did h1 hO.ok.first h2
        clear h1 h2
        have ee : enterErr (LC.new f' s' o') = 0 := rfl
        rw [ee]
        go_wp2_with fail
        refine (Enter_any _ d _ hP.c).mono ?_
        rintro e w9 ⟨rfl, h1, h2⟩
        replace hO := hO.other (G := LC.new f' s' o') hwd h2 hcd
        replace hP := hP.did h1 hP.ok.first h2
        clear h1 h2
        rw [ee]
        have HB : BothRel w c d w9 := ⟨_, hO, hP⟩
        have HB' := Lib.hid HB
        clear HB hO hP
        go_wp2_with fail
        go_loopw [18] (fun i wr => ∃ k : Nat, k ≤ ys.length ∧ i = .int .i64 k ∧ BothRel w c d wr) (fun i _ => ys.length - (intOf i).toNat)
        case atStart => exact ⟨0, Nat.zero_le _, rfl, HB'.out⟩
        case round =>
          clear HB'
          obtain ⟨k, hk, rfl, C, hO, hP⟩ := hrel
          by_cases hlt : k < ys.length
          · obtain ⟨bi, off, rfl, hbb, hc⟩ := hR2.below hO.bel (by omega)
            have c0 : wr.cell? ⟨bi, off + k, none⟩ = some (.int .i64 ys[k]) := by simpa [encInt] using hc k hlt 0 (by decide)
            have c0' : ∀ W, Below w.heap.size wr W → W.cell? ⟨bi, off + k, none⟩ = some (.int .i64 ys[k]) := fun W h => (h.cell (p := ⟨bi, _, none⟩) hbb).trans c0
            clear hc
            generalize ys[k] = n at *
            go_wp2_with fail
            refine (Abort_any _ c C n hO.ok hO.c).mono ?_
            rintro e w6 ⟨rfl, h1, h2⟩
            have hP' := hP.other (G := C) hwc h2 hdc
            have hO' := hO.did h1 (hO.ok.abort n) h2
            have c1 := c0' w6 (below_chg (Below.refl _ _) h2 (by intro x hx; simp at hx; omega) hO.bel.size)
            clear h1 h2 hO hP
            go_wp2_with fail
            refine (Abort_any _ d C n hP'.ok hP'.c).mono ?_
            rintro e w7 ⟨rfl, h1, h2⟩
            have hO2 := hO'.other (G := C) hwd h2 hcd
            have hP2 := hP'.did h1 (hP'.ok.abort n) h2
            clear h1 h2 hO' hP'
            go_wp2_with fail
            go_roundw
            case rel => exact ⟨k + 1, by omega, by go_num, _, hO2, hP2⟩
            case measure => simp [intOf]; omega
          · obtain rfl : k = ys.length := by omega
            go_wp2_with fail
            refine (Lane_any _ c _ hO.c).mono ?_
            rintro e w6 ⟨rfl, rfl⟩
            go_wp2_with fail
            refine (Lane_any _ d _ hP.c).mono ?_
            rintro e w6 ⟨rfl, rfl⟩
            go_wp2_with fail
            refine (Try_any _ c _ hO.ok.small hO.c).mono ?_
            rintro e w6 ⟨rfl, hCx⟩
            replace hO := hO.look hCx
            replace hP := hP.look hCx
            clear hCx
            go_wp2_with fail
            refine (Try_any _ d _ hP.ok.small hP.c).mono ?_
            rintro e w7 ⟨rfl, hCx⟩
            replace hO := hO.look hCx
            replace hP := hP.look hCx
            clear hCx
            go_wp2_with fail
            refine (Counts_any _ c _ hO.c).mono ?_
            rintro e w8 ⟨rfl, hCx⟩
            replace hO := hO.look hCx
            replace hP := hP.look hCx
            clear hCx
            go_wp2_with fail
            refine (Counts_any _ d _ hP.c).mono ?_
            rintro e w9 ⟨rfl, hCx⟩
            replace hO := hO.look hCx
            have q' := eqInts_self [C.c0, C.c1, C.c2, C.c3, C.c4]
            clear hCx
            go_wp2_with fail
            go_ret
            exact ⟨rfl, hO.bel⟩

set_option maxRecDepth 100000 in
set_option maxHeartbeats 1000000 in
theorem LanesAnew_any (w : World) (f s o : Int) (A A2 : Option Addr) (cap cap2 : Nat) (xs : List (Int × Int)) (ys : List Int) (hR : Rd w w.heap.size A 2 encOp xs) (hR2 : Rd w w.heap.size A2 1 encInt ys) :
    Calls Try.prog 7 #[.agg #[.int .i64 f, .int .i64 s, .int .i64 o], .slice A xs.length cap, .slice A2 ys.length cap2] w (StaysPost w) := by
  by_cases hlen : 1000 < xs.length
  · have hl' : (1000 : Int) < xs.length := by omega
    go_enter Try.func7, Try.ntmps7
    go_wp2_with fail
    refine (alive_any _).mono ?_
    rintro e w1 ⟨rfl, hC1⟩
    go_wp2_with fail
    go_ret
    exact ⟨rfl, (((Chg.refl [] w).alloc _).trans hC1).nil_below⟩
  by_cases hlen2 : 1000 < ys.length
  · have hl1 : (xs.length : Int) ≤ 1000 := by omega
    have hl' : (1000 : Int) < ys.length := by omega
    go_enter Try.func7, Try.ntmps7
    go_wp2_with fail
    refine (alive_any _).mono ?_
    rintro e w1 ⟨rfl, hC1⟩
    go_wp2_with fail
    go_ret
    exact ⟨rfl, (((Chg.refl [] w).alloc _).trans hC1).nil_below⟩
  exact LanesAnew_ok w f s o A A2 cap cap2 xs ys hR hR2 (by omega) (by omega)

end Go.Proofs.Ytdaehfilmhagiaa
