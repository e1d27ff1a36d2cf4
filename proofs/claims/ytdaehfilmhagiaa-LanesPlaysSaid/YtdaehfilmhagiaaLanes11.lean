/- LanesEnds. -/
import Derived.Test.YtdaehfilmhagiaaLanes10
namespace Go.Proofs.Ytdaehfilmhagiaa
open Go.RowKit

theorem abort_tries {C : LC} (hw : C.within) {n : Int} (hn : codeOk n) : (C.abort n).tries = C.tries + 1 := by
  obtain ⟨f, s, o, lane, c0, c1, c2, c3, c4⟩ := C
  simp only [LC.abort, if_pos (And.intro hw hn)]
  rcases hw with e | e | e <;> dsimp only at e <;> subst e <;> simp [LC.inc, LC.cnt, LC.have, LC.to, LC.tries] <;> (repeat' split) <;> dsimp only <;> omega
theorem abort_lane {C : LC} (hok : C.Ok) (hw : C.within) {n : Int} (hn : codeOk n) : C.lane ≤ (C.abort n).lane := by
  obtain ⟨f, s, o, lane, c0, c1, c2, c3, c4⟩ := C
  simp only [LC.abort, if_pos (And.intro hw hn)]
  rcases hw with e | e | e <;> dsimp only at e <;> subst e <;> simp [LC.inc, LC.cnt, LC.have, LC.to, LC.next] <;> (repeat' split) <;> simp_all
theorem abortLane_in {C : LC} (hw : C.within) {n : Int} (hn : codeOk n) : abortLane C n = (C.abort n).lane := by unfold abortLane; rw [if_pos ⟨hw, hn⟩]
theorem abortErr_in {C : LC} (hw : C.within) {n : Int} (hn : codeOk n) : abortErr C n = 0 := by unfold abortErr; rw [if_neg (by simpa using hw), if_pos hn]
theorem hard_in {C : LC} (hw : C.within) : C.hard = decide (C.lane < 3) := by
  unfold LC.hard
  rcases hw with e | e | e <;> rw [e] <;> decide
theorem tries_most {C : LC} (hok : C.Ok) : C.tries ≤ C.f + C.s + C.o := by
  have ⟨_, _, _, z0, z4, ⟨_, _⟩, ⟨_, _⟩, ⟨_, _⟩, _, _, _, _⟩ := hok
  unfold LC.tries; omega

/-- The budget, as the statement's function tells. -/
def budT (f s o k : Int) : Int := if k = 1 then f else if k = 2 then s else if k = 3 then o else 0
theorem open_bud {C : LC} (hok : C.Ok) (hw : C.within) : (budT C.f C.s C.o C.lane == 0) = false := by
  have ⟨_, _, _, _, _, ⟨_, _⟩, ⟨_, _⟩, ⟨_, _⟩, _, o1, o2, o3⟩ := hok
  have h : budT C.f C.s C.o C.lane ≠ 0 := by
    rcases hw with e | e | e <;> rw [e] <;> simp [budT]
    · have := o1 e; omega
    · have := o2 e; omega
    · have := o3 e; omega
  simpa using h

def EndsRel (w : World) (b bb : Nat) (f s o : Int) (k : Nat) (at' : Int) (wr : World) : Prop :=
  ∃ C : LC, OwnAt w wr b C ∧ C.sameB f s o ∧ C.lane ≠ 0 ∧ at' = C.lane ∧ C.tries = k ∧ Blk wr bb [.int .i64 f, .int .i64 s, .int .i64 o] 23

set_option maxRecDepth 100000 in
set_option maxHeartbeats 2000000 in
theorem LanesEnds_ok (w : World) (f s o : Int) (A : Option Addr) (cap : Nat) (xs : List Int) (hR : Rd w w.heap.size A 1 encInt xs) (hl1 : xs.length ≤ 1000) :
    Calls Try.prog 4 #[.agg #[.int .i64 f, .int .i64 s, .int .i64 o], .slice A xs.length cap] w (StaysPost w) := by
  have hl1' : (xs.length : Int) ≤ 1000 := by omega
  go_enter Try.func4, Try.ntmps4
  go_wp2_with fail
  have kb := Blk.new w [.int .i64 f, .int .i64 s, .int .i64 o] 23
  refine (alive_any _).mono ?_
  rintro e w1 ⟨rfl, hC1⟩
  have hC := ((Chg.refl [] w).alloc (.cells #[.int .i64 f, .int .i64 s, .int .i64 o] 23)).trans hC1
  replace kb := hC1.blk kb (by simp)
  have x0 := kb.cell 0
  have x1 := kb.cell 1
  have x2 := kb.cell 2
  simp only [List.getElem?_cons_zero, List.getElem?_cons_succ] at x0 x1 x2
  clear hC1
  go_wp2_with fail
  refine (small_any _ f s o).mono ?_
  rintro e w2 ⟨f', s', o', hm, rfl, hC2⟩
  replace hC := hC.trans hC2
  have HM := Lib.hid hm
  clear hC2 hm kb x0 x1 x2
  go_wp2_with fail
  have kb := Blk.new w2 [.int .i64 f', .int .i64 s', .int .i64 o'] 23
  replace hC := hC.alloc (.cells #[.int .i64 f', .int .i64 s', .int .i64 o'] 23)
  generalize w2.alloc (.cells #[.int .i64 f', .int .i64 s', .int .i64 o'] 23) = w3 at *
  generalize w2.heap.size = bb at *
  obtain ⟨⟨fa, fb⟩, ⟨sa, sb⟩, ⟨oa, ob⟩⟩ := HM.out
  have hwfs : IntKind.i64.wrap (f' + s') = f' + s' := IntWalk.i64_in _ (by omega)
  refine (Most_any _ f' s' o').mono ?_
  rintro e w4 ⟨rfl, hC4⟩
  rw [if_pos HM.out, if_pos HM.out]
  replace hC := hC.trans hC4
  replace kb := hC4.blk kb (by simp)
  have x0 := kb.cell 0
  have x1 := kb.cell 1
  have x2 := kb.cell 2
  simp only [List.getElem?_cons_zero, List.getElem?_cons_succ] at x0 x1 x2
  clear hC4
  go_wp2_with fail
  refine (New_ok _ f' s' o' HM.out).mono ?_
  rintro e w5 ⟨b, rfl, hb, hCt, hC5⟩
  have hO : OwnAt w w5 b (LC.new f' s' o') := ⟨hCt, Nat.le_trans hC.size hb, (hC.trans hC5).nil_below, LC.Ok.new HM.out⟩
  replace kb := hC5.blk kb (by simp)
  have hbne : bb ≠ b := kb.ne hCt (by decide)
  clear hCt hC5 hb hC x0 x1 x2
  go_wp2_with fail
  refine (Enter_any _ b _ hO.c).mono ?_
  rintro e w6 ⟨rfl, hC6, hCh6⟩
  replace hO := hO.did hC6 (LC.Ok.first hO.ok) hCh6
  replace kb := hCh6.blk kb (by simpa using hbne)
  have hl0 : (LC.new f' s' o').first.lane ≠ 0 := by simp only [LC.first, LC.next]; split <;> (try split) <;> (try split) <;> decide
  have ee : enterErr (LC.new f' s' o') = 0 := rfl
  have el : enterLane (LC.new f' s' o') = (LC.new f' s' o').first.lane := rfl
  rw [ee, el]
  have hE : EndsRel w b bb f' s' o' 0 (LC.new f' s' o').first.lane w6 := ⟨_, hO, ⟨rfl, rfl, rfl⟩, hl0, rfl, rfl, kb⟩
  have HE := Lib.hid hE
  have x0 := kb.cell 0
  have x1 := kb.cell 1
  have x2 := kb.cell 2
  simp only [List.getElem?_cons_zero, List.getElem?_cons_succ] at x0 x1 x2
  generalize (LC.new f' s' o').first.lane = at0 at *
  clear hC6 hCh6 hl0 hO kb hE ee el
  go_wp2_with fail
  have hla := HE
  clear hla x0 x1 x2
  go_loopw [11, 13, 14] (fun at' n i wr => ∃ k : Nat, k ≤ xs.length + 100 ∧ i = .int .i64 k ∧ n = .int .i64 k ∧ ∃ a : Int, at' = .int .i64 a ∧ EndsRel w b bb f' s' o' k a wr) (fun _ _ i _ => xs.length + 100 - (intOf i).toNat)
  case atStart => exact ⟨0, Nat.zero_le _, rfl, rfl, _, rfl, HE.out⟩
  case round =>
    clear HE
    obtain ⟨k, hk, rfl, rfl, a, rfl, C, hO, hB, hl0, rfl, ht, kb⟩ := hrel
    have hws : IntKind.i64.wrap ((xs.length : Int) + 100) = (xs.length : Int) + 100 := IntWalk.i64_in _ (by omega)
    have htm := tries_most hO.ok
    obtain ⟨e1, e2, e3⟩ := id hB
    rw [e1, e2, e3] at htm
    by_cases h4 : C.lane = 4
    · -- the end
      have h4b : (C.lane == 4) = true := by simpa using h4
      have hko : k < xs.length + 100 := by omega
      have hab : C.abort 1 = C := by simp [LC.abort, LC.within, h4]
      have habl : abortLane C 1 = 0 := by simp [abortLane, LC.within, h4]
      have habe : abortErr C 1 = 90 := by simp [abortErr, LC.within, h4]
      have HAB := Lib.hid hab
      clear hab e1 e2 e3 htm
      go_wp2_with fail
      refine (Abort_any _ b C 1 hO.ok hO.c).mono ?_
      rintro e w7 ⟨rfl, h1, h2⟩
      rw [habl, habe]
      rw [HAB.out] at h1
      replace hO := hO.did h1 hO.ok h2
      clear h1 h2
      go_wp2_with fail
      refine (Lane_any _ b _ hO.c).mono ?_
      rintro e w8 ⟨rfl, rfl⟩
      go_wp2_with fail
      refine (Try_any _ b _ hO.ok.small hO.c).mono ?_
      rintro e w8 ⟨rfl, hCx⟩
      rw [ht]
      replace hO := hO.look hCx
      go_wp2_with fail
      go_ret
      exact ⟨rfl, hO.bel⟩
    · have hw : C.within := by
        have h0 := hO.ok.l0
        have h5 := hO.ok.l4
        unfold LC.within; omega
      clear e1 e2 e3
      have hgo := open_bud hO.ok hw
      rw [show C.f = f' from hB.1, show C.s = s' from hB.2.1, show C.o = o' from hB.2.2] at hgo
      have hhd := hard_in hw
      have hkk : k < xs.length + 100 := by omega
      have h4b : (C.lane == 4) = false := by simpa using h4
      have hlk : C.lane = 0 ∨ C.lane = 1 ∨ C.lane = 2 ∨ C.lane = 3 ∨ C.lane = 4 := by have := hO.ok.l0; have := hO.ok.l4; omega
      have hHW := Lib.hid hw
      have HL0 := Lib.hid hl0
      clear hw hl0 htm
      by_cases hlt : k < xs.length
      · obtain ⟨bi, off, rfl, hbb, hc⟩ := hR.below hO.bel (by omega)
        have c0 : wr.cell? ⟨bi, off + k, none⟩ = some (.int .i64 xs[k]) := by simpa [encInt] using hc k hlt 0 (by decide)
        clear hc
        go_wp2_with fail
        refine (code_any _ _).mono ?_
        rintro e w7 ⟨n, hn, rfl, hCx⟩
        replace hO := hO.look hCx
        replace kb := hCx.blk kb (by simp)
        clear hCx
        have hD := hO.ok.abort n
        have hDl := abort_lane hO.ok hHW.out hn
        have hDt := abort_tries hHW.out hn
        have hDb := sameB_abort hB n
        have hD0 := abort_lane0 HL0.out n
        have hDm := tries_most hD
        have eL := abortLane_in hHW.out hn
        have eE := abortErr_in hHW.out hn
        have hDl4 := hD.l4
        rw [hDb.1, hDb.2.1, hDb.2.2, hDt, ht] at hDm
        rw [ht] at hDt
        have HDT := Lib.hid hDt
        have HD := Lib.hid hD
        have HDB := Lib.hid hDb
        clear hn hDt hD hDb
        have x0 : w7.cell? ⟨bb, 0, none⟩ = some (.int .i64 f') := kb.cell 0
        have x1 : w7.cell? ⟨bb, 1, none⟩ = some (.int .i64 s') := kb.cell 1
        have x2 : w7.cell? ⟨bb, 2, none⟩ = some (.int .i64 o') := kb.cell 2
        go_wp2_with fail
        refine (budget_any _ f' s' o' C.lane hlk).mono ?_
        rintro e w8 ⟨rfl, hCx⟩
        have eb : (if C.lane = 1 then f' else if C.lane = 2 then s' else if C.lane = 3 then o' else 0) = budT f' s' o' C.lane := rfl
        rw [eb]
        replace hO := hO.look hCx
        replace kb := hCx.blk kb (by simp)
        clear hCx x0 x1 x2 eb
        go_wp2_with fail
        refine (Lane_any _ b _ hO.c).mono ?_
        rintro e w9 ⟨rfl, rfl⟩
        go_wp2_with fail
        refine (Hard_any _ b _ hO.c).mono ?_
        rintro e w9 ⟨rfl, rfl⟩
        rw [hhd]
        go_wp2_with fail
        refine (Abort_any _ b C n hO.ok hO.c).mono ?_
        rintro e w9 ⟨rfl, h1, h2⟩
        rw [eL, eE]
        replace hO := hO.did h1 HD.out h2
        replace kb := h2.blk kb (by simpa using hbne)
        clear h1 h2 eL eE hgo hhd
        have hdt := HDT.out
        have hdb := HDB.out
        generalize C.abort n = D at *
        have hwk : IntKind.i64.wrap ((k : Int) + 1) = (k : Int) + 1 := IntWalk.i64_in _ (by omega)
        have hwo : IntKind.i64.wrap (f' + s' + o') = f' + s' + o' := IntWalk.i64_in _ (by omega)
        have HDt := Lib.hid hdt
        clear hdt HDT HDB HD
        go_wp2_with fail
        refine (Try_any _ b _ hO.ok.small hO.c).mono ?_
        rintro e w10 ⟨rfl, hCx⟩
        rw [HDt.out]
        replace hO := hO.look hCx
        replace kb := hCx.blk kb (by simp)
        clear hCx
        go_wp2_with fail
        refine (Counts_any _ b _ hO.c).mono ?_
        rintro e w11 ⟨rfl, hCx⟩
        replace hO := hO.look hCx
        replace kb := hCx.blk kb (by simp)
        clear hCx
        obtain ⟨df, ds, d3, dl, c0, c1, c2, c3, c4⟩ := D
        obtain ⟨rfl, rfl, rfl⟩ := hdb
        have z0 : c0 = 0 := hO.ok.z0
        have z4 : c4 = 0 := hO.ok.z4
        subst z0 z4
        obtain ⟨m1, n1⟩ : 0 ≤ c1 ∧ c1 ≤ df := hO.ok.n1
        obtain ⟨m2, n2⟩ : 0 ≤ c2 ∧ c2 ≤ ds := hO.ok.n2
        obtain ⟨m3, n3⟩ : 0 ≤ c3 ∧ c3 ≤ d3 := hO.ok.n3
        dsimp only at *
        go_wp2_with fail
        have kt := Blk.new w11 [.int .i64 0, .int .i64 c1, .int .i64 c2, .int .i64 c3, .int .i64 0] 35
        replace hO := hO.alloc (.cells #[.int .i64 0, .int .i64 c1, .int .i64 c2, .int .i64 c3, .int .i64 0] 35)
        replace kb := kb.alloc (.cells #[.int .i64 0, .int .i64 c1, .int .i64 c2, .int .i64 c3, .int .i64 0] 35)
        generalize w11.alloc (.cells #[.int .i64 0, .int .i64 c1, .int .i64 c2, .int .i64 c3, .int .i64 0] 35) = w12 at *
        generalize w11.heap.size = t at *
        have hw12 : IntKind.i64.wrap (c1 + c2) = c1 + c2 := IntWalk.i64_in _ (by omega)
        go_loopw [19] (fun j wr => ∃ m : Int, (1 ≤ m ∧ m ≤ 4) ∧ j = .int .i64 m ∧ Chg [] w12 wr) (fun j _ => 4 - (intOf j).toNat)
        case atStart => exact ⟨1, by omega, rfl, Chg.refl _ _⟩
        case round =>
          obtain ⟨m, ⟨hm1, hm4⟩, rfl, hCh⟩ := hrel
          have kbr := hCh.blk kb (by simp)
          have ktr := hCh.blk kt (by simp)
          have x0 := kbr.cell 0
          have x1 := kbr.cell 1
          have x2 := kbr.cell 2
          have y0 := ktr.cell 0
          have y1 := ktr.cell 1
          have y2 := ktr.cell 2
          have y3 := ktr.cell 3
          have y4 := ktr.cell 4
          simp only [List.getElem?_cons_zero, List.getElem?_cons_succ] at x0 x1 x2 y0 y1 y2 y3 y4
          rcases (by omega : m = 1 ∨ m = 2 ∨ m = 3 ∨ m = 4) with rfl | rfl | rfl | rfl
          · go_wp2_with fail
            go_region_held3 (fun w' => w'.cell? ⟨t, 1, none⟩ = some (.int .i64 c1) ∧ w'.cell? ⟨bb, 0, none⟩ = some (.int .i64 df) ∧ w'.cell? ⟨bb, 1, none⟩ = some (.int .i64 ds) ∧ w'.cell? ⟨bb, 2, none⟩ = some (.int .i64 d3)) (first | exact ⟨ktr.cell 1, kbr.cell 0, kbr.cell 1, kbr.cell 2⟩ | exact ⟨(hCx.blk ktr.drew (by simp)).cell 1, (hCx.blk kbr.drew (by simp)).cell 0, (hCx.blk kbr.drew (by simp)).cell 1, (hCx.blk kbr.drew (by simp)).cell 2⟩)
              (first
                | (go_at_call 19; refine (budget_any _ df ds d3 1 (by decide)).mono ?_; rintro e w13 ⟨rfl, hCx⟩))
            go_wp2_with fail
            go_roundw
            case rel => exact ⟨2, by decide, rfl, hCh.drew.trans hCx⟩
            case measure => simp [intOf]
          · go_wp2_with fail
            go_region_held3 (fun w' => w'.cell? ⟨t, 2, none⟩ = some (.int .i64 c2) ∧ w'.cell? ⟨bb, 0, none⟩ = some (.int .i64 df) ∧ w'.cell? ⟨bb, 1, none⟩ = some (.int .i64 ds) ∧ w'.cell? ⟨bb, 2, none⟩ = some (.int .i64 d3)) (first | exact ⟨ktr.cell 2, kbr.cell 0, kbr.cell 1, kbr.cell 2⟩ | exact ⟨(hCx.blk ktr.drew (by simp)).cell 2, (hCx.blk kbr.drew (by simp)).cell 0, (hCx.blk kbr.drew (by simp)).cell 1, (hCx.blk kbr.drew (by simp)).cell 2⟩)
              (first
                | (go_at_call 19; refine (budget_any _ df ds d3 2 (by decide)).mono ?_; rintro e w13 ⟨rfl, hCx⟩))
            go_wp2_with fail
            go_roundw
            case rel => exact ⟨3, by decide, rfl, hCh.drew.trans hCx⟩
            case measure => simp [intOf]
          · go_wp2_with fail
            go_region_held3 (fun w' => w'.cell? ⟨t, 3, none⟩ = some (.int .i64 c3) ∧ w'.cell? ⟨bb, 0, none⟩ = some (.int .i64 df) ∧ w'.cell? ⟨bb, 1, none⟩ = some (.int .i64 ds) ∧ w'.cell? ⟨bb, 2, none⟩ = some (.int .i64 d3)) (first | exact ⟨ktr.cell 3, kbr.cell 0, kbr.cell 1, kbr.cell 2⟩ | exact ⟨(hCx.blk ktr.drew (by simp)).cell 3, (hCx.blk kbr.drew (by simp)).cell 0, (hCx.blk kbr.drew (by simp)).cell 1, (hCx.blk kbr.drew (by simp)).cell 2⟩)
              (first
                | (go_at_call 19; refine (budget_any _ df ds d3 3 (by decide)).mono ?_; rintro e w13 ⟨rfl, hCx⟩))
            go_wp2_with fail
            go_roundw
            case rel => exact ⟨4, by decide, rfl, hCh.drew.trans hCx⟩
            case measure => simp [intOf]
          · go_wp2_with fail
            go_roundw
            case rel => exact ⟨k + 1, by omega, by go_num, by go_num, _, rfl, _, hO.look hCh, ⟨rfl, rfl, rfl⟩, hD0, rfl, HDt.out, kbr⟩
            case measure => simp [intOf]; omega
      · have hn : codeOk 1 := by decide
        have hD := hO.ok.abort 1
        have hDl := abort_lane hO.ok hHW.out hn
        have hDt := abort_tries hHW.out hn
        have hDb := sameB_abort hB 1
        have hD0 := abort_lane0 HL0.out 1
        have hDm := tries_most hD
        have eL := abortLane_in hHW.out hn
        have eE := abortErr_in hHW.out hn
        have hDl4 := hD.l4
        rw [hDb.1, hDb.2.1, hDb.2.2, hDt, ht] at hDm
        rw [ht] at hDt
        have HDT := Lib.hid hDt
        have HD := Lib.hid hD
        have HDB := Lib.hid hDb
        clear hn hDt hD hDb
        have x0 : wr.cell? ⟨bb, 0, none⟩ = some (.int .i64 f') := kb.cell 0
        have x1 : wr.cell? ⟨bb, 1, none⟩ = some (.int .i64 s') := kb.cell 1
        have x2 : wr.cell? ⟨bb, 2, none⟩ = some (.int .i64 o') := kb.cell 2
        go_wp2_with fail
        refine (budget_any _ f' s' o' C.lane hlk).mono ?_
        rintro e w8 ⟨rfl, hCx⟩
        have eb : (if C.lane = 1 then f' else if C.lane = 2 then s' else if C.lane = 3 then o' else 0) = budT f' s' o' C.lane := rfl
        rw [eb]
        replace hO := hO.look hCx
        replace kb := hCx.blk kb (by simp)
        clear hCx x0 x1 x2 eb
        go_wp2_with fail
        refine (Lane_any _ b _ hO.c).mono ?_
        rintro e w9 ⟨rfl, rfl⟩
        go_wp2_with fail
        refine (Hard_any _ b _ hO.c).mono ?_
        rintro e w9 ⟨rfl, rfl⟩
        rw [hhd]
        go_wp2_with fail
        refine (Abort_any _ b C 1 hO.ok hO.c).mono ?_
        rintro e w9 ⟨rfl, h1, h2⟩
        rw [eL, eE]
        replace hO := hO.did h1 HD.out h2
        replace kb := h2.blk kb (by simpa using hbne)
        clear h1 h2 eL eE hgo hhd
        have hdt := HDT.out
        have hdb := HDB.out
        generalize C.abort 1 = D at *
        have hwk : IntKind.i64.wrap ((k : Int) + 1) = (k : Int) + 1 := IntWalk.i64_in _ (by omega)
        have hwo : IntKind.i64.wrap (f' + s' + o') = f' + s' + o' := IntWalk.i64_in _ (by omega)
        have HDt := Lib.hid hdt
        clear hdt HDT HDB HD
        go_wp2_with fail
        refine (Try_any _ b _ hO.ok.small hO.c).mono ?_
        rintro e w10 ⟨rfl, hCx⟩
        rw [HDt.out]
        replace hO := hO.look hCx
        replace kb := hCx.blk kb (by simp)
        clear hCx
        go_wp2_with fail
        refine (Counts_any _ b _ hO.c).mono ?_
        rintro e w11 ⟨rfl, hCx⟩
        replace hO := hO.look hCx
        replace kb := hCx.blk kb (by simp)
        clear hCx
        obtain ⟨df, ds, d3, dl, c0, c1, c2, c3, c4⟩ := D
        obtain ⟨rfl, rfl, rfl⟩ := hdb
        have z0 : c0 = 0 := hO.ok.z0
        have z4 : c4 = 0 := hO.ok.z4
        subst z0 z4
        obtain ⟨m1, n1⟩ : 0 ≤ c1 ∧ c1 ≤ df := hO.ok.n1
        obtain ⟨m2, n2⟩ : 0 ≤ c2 ∧ c2 ≤ ds := hO.ok.n2
        obtain ⟨m3, n3⟩ : 0 ≤ c3 ∧ c3 ≤ d3 := hO.ok.n3
        dsimp only at *
        go_wp2_with fail
        have kt := Blk.new w11 [.int .i64 0, .int .i64 c1, .int .i64 c2, .int .i64 c3, .int .i64 0] 35
        replace hO := hO.alloc (.cells #[.int .i64 0, .int .i64 c1, .int .i64 c2, .int .i64 c3, .int .i64 0] 35)
        replace kb := kb.alloc (.cells #[.int .i64 0, .int .i64 c1, .int .i64 c2, .int .i64 c3, .int .i64 0] 35)
        generalize w11.alloc (.cells #[.int .i64 0, .int .i64 c1, .int .i64 c2, .int .i64 c3, .int .i64 0] 35) = w12 at *
        generalize w11.heap.size = t at *
        have hw12 : IntKind.i64.wrap (c1 + c2) = c1 + c2 := IntWalk.i64_in _ (by omega)
        go_loopw [19] (fun j wr => ∃ m : Int, (1 ≤ m ∧ m ≤ 4) ∧ j = .int .i64 m ∧ Chg [] w12 wr) (fun j _ => 4 - (intOf j).toNat)
        case atStart => exact ⟨1, by omega, rfl, Chg.refl _ _⟩
        case round =>
          obtain ⟨m, ⟨hm1, hm4⟩, rfl, hCh⟩ := hrel
          have kbr := hCh.blk kb (by simp)
          have ktr := hCh.blk kt (by simp)
          have x0 := kbr.cell 0
          have x1 := kbr.cell 1
          have x2 := kbr.cell 2
          have y0 := ktr.cell 0
          have y1 := ktr.cell 1
          have y2 := ktr.cell 2
          have y3 := ktr.cell 3
          have y4 := ktr.cell 4
          simp only [List.getElem?_cons_zero, List.getElem?_cons_succ] at x0 x1 x2 y0 y1 y2 y3 y4
          rcases (by omega : m = 1 ∨ m = 2 ∨ m = 3 ∨ m = 4) with rfl | rfl | rfl | rfl
          · go_wp2_with fail
            go_region_held3 (fun w' => w'.cell? ⟨t, 1, none⟩ = some (.int .i64 c1) ∧ w'.cell? ⟨bb, 0, none⟩ = some (.int .i64 df) ∧ w'.cell? ⟨bb, 1, none⟩ = some (.int .i64 ds) ∧ w'.cell? ⟨bb, 2, none⟩ = some (.int .i64 d3)) (first | exact ⟨ktr.cell 1, kbr.cell 0, kbr.cell 1, kbr.cell 2⟩ | exact ⟨(hCx.blk ktr.drew (by simp)).cell 1, (hCx.blk kbr.drew (by simp)).cell 0, (hCx.blk kbr.drew (by simp)).cell 1, (hCx.blk kbr.drew (by simp)).cell 2⟩)
              (first
                | (go_at_call 19; refine (budget_any _ df ds d3 1 (by decide)).mono ?_; rintro e w13 ⟨rfl, hCx⟩))
            go_wp2_with fail
            go_roundw
            case rel => exact ⟨2, by decide, rfl, hCh.drew.trans hCx⟩
            case measure => simp [intOf]
          · go_wp2_with fail
            go_region_held3 (fun w' => w'.cell? ⟨t, 2, none⟩ = some (.int .i64 c2) ∧ w'.cell? ⟨bb, 0, none⟩ = some (.int .i64 df) ∧ w'.cell? ⟨bb, 1, none⟩ = some (.int .i64 ds) ∧ w'.cell? ⟨bb, 2, none⟩ = some (.int .i64 d3)) (first | exact ⟨ktr.cell 2, kbr.cell 0, kbr.cell 1, kbr.cell 2⟩ | exact ⟨(hCx.blk ktr.drew (by simp)).cell 2, (hCx.blk kbr.drew (by simp)).cell 0, (hCx.blk kbr.drew (by simp)).cell 1, (hCx.blk kbr.drew (by simp)).cell 2⟩)
              (first
                | (go_at_call 19; refine (budget_any _ df ds d3 2 (by decide)).mono ?_; rintro e w13 ⟨rfl, hCx⟩))
            go_wp2_with fail
            go_roundw
            case rel => exact ⟨3, by decide, rfl, hCh.drew.trans hCx⟩
            case measure => simp [intOf]
          · go_wp2_with fail
            go_region_held3 (fun w' => w'.cell? ⟨t, 3, none⟩ = some (.int .i64 c3) ∧ w'.cell? ⟨bb, 0, none⟩ = some (.int .i64 df) ∧ w'.cell? ⟨bb, 1, none⟩ = some (.int .i64 ds) ∧ w'.cell? ⟨bb, 2, none⟩ = some (.int .i64 d3)) (first | exact ⟨ktr.cell 3, kbr.cell 0, kbr.cell 1, kbr.cell 2⟩ | exact ⟨(hCx.blk ktr.drew (by simp)).cell 3, (hCx.blk kbr.drew (by simp)).cell 0, (hCx.blk kbr.drew (by simp)).cell 1, (hCx.blk kbr.drew (by simp)).cell 2⟩)
              (first
                | (go_at_call 19; refine (budget_any _ df ds d3 3 (by decide)).mono ?_; rintro e w13 ⟨rfl, hCx⟩))
            go_wp2_with fail
            go_roundw
            case rel => exact ⟨4, by decide, rfl, hCh.drew.trans hCx⟩
            case measure => simp [intOf]
          · go_wp2_with fail
            go_roundw
            case rel => exact ⟨k + 1, by omega, by go_num, by go_num, _, rfl, _, hO.look hCh, ⟨rfl, rfl, rfl⟩, hD0, rfl, HDt.out, kbr⟩
            case measure => simp [intOf]; omega


set_option maxRecDepth 100000 in
set_option maxHeartbeats 1000000 in
theorem LanesEnds_any (w : World) (f s o : Int) (A : Option Addr) (cap : Nat) (xs : List Int) (hR : Rd w w.heap.size A 1 encInt xs) :
    Calls Try.prog 4 #[.agg #[.int .i64 f, .int .i64 s, .int .i64 o], .slice A xs.length cap] w (StaysPost w) := by
  by_cases hlen : 1000 < xs.length
  · have hl' : (1000 : Int) < xs.length := by omega
    go_enter Try.func4, Try.ntmps4
    go_wp2_with fail
    refine (alive_any _).mono ?_
    rintro e w1 ⟨rfl, hC1⟩
    go_wp2_with fail
    go_ret
    exact ⟨rfl, (((Chg.refl [] w).alloc _).trans hC1).nil_below⟩
  · exact LanesEnds_ok w f s o A cap xs hR (by omega)

end Go.Proofs.Ytdaehfilmhagiaa
