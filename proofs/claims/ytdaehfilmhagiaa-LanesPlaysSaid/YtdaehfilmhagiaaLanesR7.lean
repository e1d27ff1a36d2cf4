/- A call on a control and on the document's: they answer alike, and stand alike. -/
import Derived.Test.YtdaehfilmhagiaaLanesR6
namespace Go.Proofs.Ytdaehfilmhagiaa
open Go.RowKit

/-- A control at a, the document's at b, both above what was there. -/
structure PairAt (w wr : World) (a b : Nat) (C : LC) (f s o : Int) (ls : List Int) : Prop where
  own : OwnAt w wr a C
  al : Alike C f s o ls
  r : RefAt wr b f s o C.lane ls
  lb : w.heap.size ≤ b

theorem PairAt.ne {w wr : World} {a b : Nat} {C : LC} {f s o : Int} {ls : List Int} (h : PairAt w wr a b C f s o ls) : a ≠ b := by
  obtain ⟨_, x, _⟩ := h.r.blk
  exact Blk.ne h.own.c x (by decide)
theorem RefAt.own {w w' : World} {a b : Nat} {C : LC} {f s o lane : Int} {ls : List Int} (h : RefAt w b f s o lane ls) (hc : CtlAt w a C) (k : Chg [a] w w') (hne : b ≠ a) : RefAt w' b f s o lane ls :=
  h.chg k (by simpa using hne) (by intro c hcm cs hcs; simp at hcm; subst hcm; exact absurd (hcs.inj hc).2 (by decide))
theorem PairAt.look {w wr w' : World} {a b : Nat} {C : LC} {f s o : Int} {ls : List Int} (h : PairAt w wr a b C f s o ls) (k : Chg [] wr w') : PairAt w w' a b C f s o ls :=
  ⟨h.own.look k, h.al, h.r.chg k (by simp) (by simp), h.lb⟩

def DoPost (w : World) (a b : Nat) (f s o : Int) (e : Ending) (w' : World) : Prop := e = .returned (.bool true) ∧ ∃ C ls, PairAt w w' a b C f s o ls

set_option maxRecDepth 100000 in
set_option maxHeartbeats 1000000 in
theorem do_0 (w wr : World) (a b : Nat) (C : LC) (f s o n : Int) (ls : List Int) (h : PairAt w wr a b C f s o ls) :
    Calls Try.prog 22 #[.pointer (some ⟨a, 0, none⟩), .pointer (some ⟨b, 0, none⟩), .agg #[.int .i64 0, .int .i64 n]] wr (DoPost w a b f s o) := by
  have hab := h.ne
  have hba := hab.symm
  go_enter Try.func22, Try.ntmps22
  go_wp2_with fail
  have kb := Blk.new wr [.int .i64 0, .int .i64 n] 49
  replace h := h.look ((Chg.refl [] wr).alloc (.cells #[.int .i64 0, .int .i64 n] 49))
  generalize wr.alloc (.cells #[.int .i64 0, .int .i64 n] 49) = w0 at *
  generalize wr.heap.size = bx at *
  clear kb
  by_cases hl : C.lane = 0
  · have e1 : enterLane C = nextFrom f s o 1 := by unfold enterLane; rw [if_pos hl]; exact (next_from h.al.b (k := 0) (by decide)).symm
    have e2 : enterErr C = 0 := by unfold enterErr; rw [if_pos hl]
    refine (Enter_any _ a C h.own.c).mono ?_
    rintro e w1 ⟨rfl, h1, h2⟩
    rw [if_pos hl] at h1
    have hr1 := h.r.own h.own.c h2 hba
    have ho1 := h.own.did h1 h.own.ok.first h2
    rw [e1, e2]
    have hl0 := h.own.ok.l0
    have H := Lib.hid h
    clear h h1 h2
    go_wp2_with fail
    have hre := refEnter_any _ b f s o C.lane ls hl0 hr1
    rw [if_pos hl] at hre
    refine hre.mono ?_
    rintro e w2 ⟨rfl, h1, h2⟩
    have ho2 := ho1.other (G := C) H.out.lb h2 hab
    have hal : Alike C.first f s o [] := by obtain ⟨hx, hy, hz⟩ := H.out.al.b; subst hx hy hz; exact Alike.nil
    have hln : C.first.lane = nextFrom f s o 1 := (next_from H.out.al.b (k := 0) (by decide)).symm
    rw [← hln] at h1
    have HP : PairAt w w2 a b C.first f s o [] := ⟨ho2, hal, h1, H.out.lb⟩
    clear hre hr1 ho1 h1 h2 ho2 hal hln e1 e2
    generalize nextFrom f s o 1 = nx
    go_wp2_with fail
    go_ret
    exact ⟨rfl, _, _, HP⟩
  · have e1 : enterLane C = 0 := by unfold enterLane; rw [if_neg hl]
    have e2 : enterErr C = 90 := by unfold enterErr; rw [if_neg hl]
    refine (Enter_any _ a C h.own.c).mono ?_
    rintro e w1 ⟨rfl, h1, h2⟩
    rw [if_neg hl] at h1
    have hr1 := h.r.own h.own.c h2 hba
    have ho1 := h.own.did h1 h.own.ok h2
    rw [e1, e2]
    have hl0 := h.own.ok.l0
    have H := Lib.hid h
    clear h h1 h2
    go_wp2_with fail
    have hre := refEnter_any _ b f s o C.lane ls hl0 hr1
    rw [if_neg hl] at hre
    refine hre.mono ?_
    rintro e w2 ⟨rfl, h1, h2⟩
    have ho2 := ho1.other (G := C) H.out.lb h2 hab
    have HP : PairAt w w2 a b C f s o ls := ⟨ho2, H.out.al, h1, H.out.lb⟩
    clear hre hr1 ho1 h1 h2 ho2 e1 e2 hl
    go_wp2_with fail
    go_ret
    exact ⟨rfl, _, _, HP⟩

set_option maxRecDepth 100000 in
set_option maxHeartbeats 1000000 in
theorem do_1 (w wr : World) (a b : Nat) (C : LC) (f s o n : Int) (ls : List Int) (h : PairAt w wr a b C f s o ls) :
    Calls Try.prog 22 #[.pointer (some ⟨a, 0, none⟩), .pointer (some ⟨b, 0, none⟩), .agg #[.int .i64 1, .int .i64 n]] wr (DoPost w a b f s o) := by
  have hab := h.ne
  have hba := hab.symm
  go_enter Try.func22, Try.ntmps22
  go_wp2_with fail
  have kb := Blk.new wr [.int .i64 1, .int .i64 n] 49
  replace h := h.look ((Chg.refl [] wr).alloc (.cells #[.int .i64 1, .int .i64 n] 49))
  generalize wr.alloc (.cells #[.int .i64 1, .int .i64 n] 49) = w0 at *
  generalize wr.heap.size = bx at *
  have x1 : w0.cell? ⟨bx, 1, none⟩ = some (.int .i64 n) := kb.cell 1
  have hxa : bx ≠ a := kb.ne h.own.c (by decide)
  go_wp2_with fail
  refine (Abort_any _ a C n h.own.ok h.own.c).mono ?_
  rintro e w1 ⟨rfl, h1, h2⟩
  have hr1 := h.r.own h.own.c h2 hba
  have ho1 := h.own.did h1 (h.own.ok.abort n) h2
  have kb1 := h2.blk kb (by simpa using hxa)
  have x1 : w1.cell? ⟨bx, 1, none⟩ = some (.int .i64 n) := kb1.cell 1
  have H := Lib.hid h
  clear h h1 h2 kb kb1
  go_wp2_with fail
  refine (refAbort_any _ b C f s o n ls H.out.own.ok H.out.al hr1).mono ?_
  rintro e w2 ⟨rfl, h1, h2⟩
  have ho2 := ho1.other (G := C) H.out.lb h2 hab
  have hal : Alike (C.abort n) f s o (absList C n ls) := by
    unfold absList
    by_cases hc : C.within ∧ codeOk n
    · rw [if_pos hc]; exact H.out.al.abort hc.1 hc.2
    · rw [if_neg hc]
      have e1 : C.abort n = C := by unfold LC.abort; rw [if_neg hc]
      rw [e1]; exact H.out.al
  have HP : PairAt w w2 a b (C.abort n) f s o (absList C n ls) := ⟨ho2, hal, h1, H.out.lb⟩
  clear hr1 ho1 h1 h2 ho2 hal
  generalize abortLane C n = al
  generalize abortErr C n = ae
  go_wp2_with fail
  go_ret
  exact ⟨rfl, _, _, HP⟩

set_option maxRecDepth 100000 in
set_option maxHeartbeats 1000000 in
theorem do_2 (w wr : World) (a b : Nat) (C : LC) (f s o n : Int) (ls : List Int) (h : PairAt w wr a b C f s o ls) :
    Calls Try.prog 22 #[.pointer (some ⟨a, 0, none⟩), .pointer (some ⟨b, 0, none⟩), .agg #[.int .i64 2, .int .i64 n]] wr (DoPost w a b f s o) := by
  have hab := h.ne
  have hba := hab.symm
  go_enter Try.func22, Try.ntmps22
  go_wp2_with fail
  have kb := Blk.new wr [.int .i64 2, .int .i64 n] 49
  replace h := h.look ((Chg.refl [] wr).alloc (.cells #[.int .i64 2, .int .i64 n] 49))
  generalize wr.alloc (.cells #[.int .i64 2, .int .i64 n] 49) = w0 at *
  generalize wr.heap.size = bx at *
  clear kb
  refine (Leave_any _ a C h.own.c).mono ?_
  rintro e w1 ⟨rfl, h1, h2⟩
  have hr1 := h.r.own h.own.c h2 hba
  by_cases hl : C.lane = 0
  · rw [if_pos hl] at h1
    have ho1 := h.own.did h1 h.own.ok h2
    have e1 : leaveErr C = 90 := by unfold leaveErr; rw [if_pos hl]
    rw [e1]
    have H := Lib.hid h
    clear h h1 h2
    go_wp2_with fail
    have hre := refLeave_any _ b f s o C.lane ls hr1
    rw [if_pos hl] at hre
    refine hre.mono ?_
    rintro e w2 ⟨rfl, h1, h2⟩
    have ho2 := ho1.other (G := C) H.out.lb h2 hab
    rw [← hl] at h1
    have HP : PairAt w w2 a b C f s o ls := ⟨ho2, H.out.al, h1, H.out.lb⟩
    clear hre hr1 ho1 h1 h2 ho2 e1 hl
    go_wp2_with fail
    go_ret
    exact ⟨rfl, _, _, HP⟩
  · rw [if_neg hl] at h1
    have ho1 := h.own.did h1 h.own.ok.none h2
    have e1 : leaveErr C = 0 := by unfold leaveErr; rw [if_neg hl]
    rw [e1]
    have H := Lib.hid h
    clear h h1 h2
    go_wp2_with fail
    have hre := refLeave_any _ b f s o C.lane ls hr1
    rw [if_neg hl] at hre
    refine hre.mono ?_
    rintro e w2 ⟨rfl, h1, h2⟩
    have ho2 := ho1.other (G := C) H.out.lb h2 hab
    have hal : Alike C.none f s o [] := by obtain ⟨hx, hy, hz⟩ := H.out.al.b; subst hx hy hz; exact Alike.nil
    have HP : PairAt w w2 a b C.none f s o [] := ⟨ho2, hal, h1, H.out.lb⟩
    clear hre hr1 ho1 h1 h2 ho2 e1 hl hal
    go_wp2_with fail
    go_ret
    exact ⟨rfl, _, _, HP⟩

set_option maxRecDepth 100000 in
set_option maxHeartbeats 1000000 in
theorem do_3 (w wr : World) (a b : Nat) (C : LC) (f s o n : Int) (ls : List Int) (h : PairAt w wr a b C f s o ls) :
    Calls Try.prog 22 #[.pointer (some ⟨a, 0, none⟩), .pointer (some ⟨b, 0, none⟩), .agg #[.int .i64 3, .int .i64 n]] wr (DoPost w a b f s o) := by
  have hab := h.ne
  have hba := hab.symm
  go_enter Try.func22, Try.ntmps22
  go_wp2_with fail
  have kb := Blk.new wr [.int .i64 3, .int .i64 n] 49
  replace h := h.look ((Chg.refl [] wr).alloc (.cells #[.int .i64 3, .int .i64 n] 49))
  generalize wr.alloc (.cells #[.int .i64 3, .int .i64 n] 49) = w0 at *
  generalize wr.heap.size = bx at *
  obtain ⟨v, x, y⟩ := h.r.blk
  go_region_held3 (fun w' => w'.cell? ⟨b, 3, none⟩ = some (.int .i64 C.lane)) (exact x.cell 3)
    (first
      | (go_at_call 17; refine (Lane_any _ a C (Blk.drew h.own.c)).mono ?_; rintro e w1 ⟨rfl, rfl⟩))
  go_wp2_with fail
  go_ret
  exact ⟨rfl, _, _, h.look ((Chg.refl [] _).drew)⟩

set_option maxRecDepth 100000 in
set_option maxHeartbeats 1000000 in
theorem do_4 (w wr : World) (a b : Nat) (C : LC) (f s o n : Int) (ls : List Int) (h : PairAt w wr a b C f s o ls) :
    Calls Try.prog 22 #[.pointer (some ⟨a, 0, none⟩), .pointer (some ⟨b, 0, none⟩), .agg #[.int .i64 4, .int .i64 n]] wr (DoPost w a b f s o) := by
  have hab := h.ne
  have hba := hab.symm
  go_enter Try.func22, Try.ntmps22
  go_wp2_with fail
  have kb := Blk.new wr [.int .i64 4, .int .i64 n] 49
  replace h := h.look ((Chg.refl [] wr).alloc (.cells #[.int .i64 4, .int .i64 n] 49))
  generalize wr.alloc (.cells #[.int .i64 4, .int .i64 n] 49) = w0 at *
  generalize wr.heap.size = bx at *
  obtain ⟨v, x, y⟩ := h.r.blk
  obtain ⟨A, cap, rfl, _⟩ := y.len
  go_region_held3 (fun w' => w'.cell? ⟨b, 4, none⟩ = some (.slice A ls.length cap)) (first | exact x.cell 4 | exact (h2.blk x.drew (by simp)).cell 4)
    (first
      | (go_at_call 20; refine (Try_any _ a C h.own.ok.small (Blk.drew h.own.c)).mono ?_; rintro e w1 ⟨rfl, h2⟩; rw [h.al.len]))
  go_wp2_with fail
  go_ret
  exact ⟨rfl, _, _, h.look ((Chg.refl [] _).drew.trans h2)⟩

set_option maxRecDepth 100000 in
set_option maxHeartbeats 1000000 in
theorem do_5 (w wr : World) (a b : Nat) (C : LC) (f s o n : Int) (ls : List Int) (h : PairAt w wr a b C f s o ls) :
    Calls Try.prog 22 #[.pointer (some ⟨a, 0, none⟩), .pointer (some ⟨b, 0, none⟩), .agg #[.int .i64 5, .int .i64 n]] wr (DoPost w a b f s o) := by
  have hab := h.ne
  have hba := hab.symm
  go_enter Try.func22, Try.ntmps22
  go_wp2_with fail
  have kb := Blk.new wr [.int .i64 5, .int .i64 n] 49
  replace h := h.look ((Chg.refl [] wr).alloc (.cells #[.int .i64 5, .int .i64 n] 49))
  generalize wr.alloc (.cells #[.int .i64 5, .int .i64 n] 49) = w0 at *
  generalize wr.heap.size = bx at *
  refine (Counts_any _ a C h.own.c).mono ?_
  rintro e w1 ⟨rfl, h2⟩
  rw [show C.c0 = 0 from h.own.ok.z0, h.al.n1, h.al.n2, h.al.n3, h.al.n4]
  replace h := h.look h2
  clear h2 kb
  go_wp2_with fail
  refine (refCounts_any _ b f s o C.lane ls h.r).mono ?_
  rintro e w2 ⟨rfl, h2⟩
  replace h := h.look h2
  have hq := eq_five
  have q := eqInts_self [0, cnt ls 1, cnt ls 2, cnt ls 3, cnt ls 4]
  clear h2
  go_wp2_with fail
  go_ret
  exact ⟨rfl, _, _, h⟩

set_option maxRecDepth 100000 in
set_option maxHeartbeats 1000000 in
theorem do_6 (w wr : World) (a b : Nat) (C : LC) (f s o n : Int) (ls : List Int) (h : PairAt w wr a b C f s o ls) :
    Calls Try.prog 22 #[.pointer (some ⟨a, 0, none⟩), .pointer (some ⟨b, 0, none⟩), .agg #[.int .i64 6, .int .i64 n]] wr (DoPost w a b f s o) := by
  have hab := h.ne
  have hba := hab.symm
  go_enter Try.func22, Try.ntmps22
  go_wp2_with fail
  have kb := Blk.new wr [.int .i64 6, .int .i64 n] 49
  replace h := h.look ((Chg.refl [] wr).alloc (.cells #[.int .i64 6, .int .i64 n] 49))
  generalize wr.alloc (.cells #[.int .i64 6, .int .i64 n] 49) = w0 at *
  generalize wr.heap.size = bx at *
  obtain ⟨v, x, y⟩ := h.r.blk
  have c3 : w0.cell? ⟨b, 3, none⟩ = some (.int .i64 C.lane) := x.cell 3
  have HA : ∀ n, Calls Try.prog 13 #[.pointer (some ⟨a, 0, none⟩)] (w0.drewN n) fun e w' => e = .returned (.bool C.hard) ∧ w' = w0.drewN n := fun n => (Hard_any (w0.drewN n) a C (Blk.drewN h.own.c n)).mono fun _ _ hh => ⟨hh.1, hh.2.symm⟩
  have HH := Lib.hid h
  clear h x y kb
  by_cases l1 : C.lane = 1
  · have eh : C.hard = true := by simp [LC.hard, l1]
    rw [eh] at HA
    rw [l1] at c3
    clear l1 eh
    go_quiet ((go_at_call 13; exact Calls.quiet_of_same (HA _)))
    go_wp2_with fail
    go_ret
    exact ⟨rfl, _, _, HH.out.look ((Chg.refl [] _).drewN _)⟩
  by_cases l2 : C.lane = 2
  · have eh : C.hard = true := by simp [LC.hard, l2]
    rw [eh] at HA
    rw [l2] at c3
    clear l1 l2 eh
    go_quiet ((go_at_call 13; exact Calls.quiet_of_same (HA _)))
    go_wp2_with fail
    go_ret
    exact ⟨rfl, _, _, HH.out.look ((Chg.refl [] _).drewN _)⟩
  · have eh : C.hard = false := by simp [LC.hard, l1, l2]
    have b1 : (C.lane == 1) = false := by simpa using l1
    have b2 : (C.lane == 2) = false := by simpa using l2
    rw [eh] at HA
    clear l1 l2 eh
    generalize C.lane = cl at *
    go_quiet ((go_at_call 13; exact Calls.quiet_of_same (HA _)))
    go_wp2_with fail
    go_ret
    exact ⟨rfl, _, _, HH.out.look ((Chg.refl [] _).drewN _)⟩

set_option maxRecDepth 100000 in
set_option maxHeartbeats 1000000 in
theorem do_rest (w wr : World) (a b : Nat) (C : LC) (f s o k n : Int) (ls : List Int) (q0 : (k == 0) = false) (q1 : (k == 1) = false) (q2 : (k == 2) = false) (q3 : (k == 3) = false) (q4 : (k == 4) = false) (q5 : (k == 5) = false) (q6 : (k == 6) = false) (h : PairAt w wr a b C f s o ls) :
    Calls Try.prog 22 #[.pointer (some ⟨a, 0, none⟩), .pointer (some ⟨b, 0, none⟩), .agg #[.int .i64 k, .int .i64 n]] wr (DoPost w a b f s o) := by
  have hab := h.ne
  have hba := hab.symm
  go_enter Try.func22, Try.ntmps22
  go_wp2_with fail
  go_ret
  exact ⟨rfl, _, _, h.look ((Chg.refl [] wr).alloc _)⟩

theorem do_any (w wr : World) (a b : Nat) (C : LC) (f s o k n : Int) (ls : List Int) (h : PairAt w wr a b C f s o ls) :
    Calls Try.prog 22 #[.pointer (some ⟨a, 0, none⟩), .pointer (some ⟨b, 0, none⟩), .agg #[.int .i64 k, .int .i64 n]] wr (DoPost w a b f s o) := by
  by_cases h0 : k = 0
  · subst h0; exact do_0 w wr a b C f s o n ls h
  by_cases h1 : k = 1
  · subst h1; exact do_1 w wr a b C f s o n ls h
  by_cases h2 : k = 2
  · subst h2; exact do_2 w wr a b C f s o n ls h
  by_cases h3 : k = 3
  · subst h3; exact do_3 w wr a b C f s o n ls h
  by_cases h4 : k = 4
  · subst h4; exact do_4 w wr a b C f s o n ls h
  by_cases h5 : k = 5
  · subst h5; exact do_5 w wr a b C f s o n ls h
  by_cases h6 : k = 6
  · subst h6; exact do_6 w wr a b C f s o n ls h
  exact do_rest w wr a b C f s o k n ls (by simpa using h0) (by simpa using h1) (by simpa using h2) (by simpa using h3) (by simpa using h4) (by simpa using h5) (by simpa using h6) h

end Go.Proofs.Ytdaehfilmhagiaa
