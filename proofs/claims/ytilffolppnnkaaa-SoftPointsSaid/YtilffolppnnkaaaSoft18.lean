/- Layer 8's statements: a place, a call that begins an operation. -/
import Derived.Test.YtilffolppnnkaaaSoft17
namespace Go.Proofs.Ytilffolppnnkaaa
set_option maxRecDepth 100000
open Go.RowKit

def placeA (a n : Int) : Int := 8 + a % n
theorem placeA_ok {a n : Int} (hn : 0 < n) (hm : n ≤ 1000) : 8 ≤ placeA a n ∧ placeA a n < 8 + n := by
  unfold placeA
  have := Int.emod_nonneg a (show n ≠ 0 by omega)
  have := Int.emod_lt_of_pos a hn
  omega
theorem i64_small {a : Int} (h : 0 ≤ a) (h' : a ≤ 2000) : (Lit.int .i64 a).wf = true := by
  simp [Lit.wf, IntKind.min, IntKind.max, IntKind.signed, IntKind.bits]; omega
theorem placeA_aok {a n : Int} (hn : 0 < n) (hm : n ≤ 1000) : aok (placeA a n) := by
  have := placeA_ok (a := a) hn hm
  exact ⟨by omega, i64_small (by omega) (by omega)⟩

theorem place_any (w : World) (a n : Int) (ha : (Lit.int .i64 a).wf = true) (hn : 0 < n) (hm : n ≤ 1000) :
    Calls Try.prog 11 #[.int .i64 a, .int .i64 n] w fun e w' => e = .returned (.int .i64 (placeA a n)) ∧ w = w' := by
  have h0 : (n == 0) = false := by simp; omega
  have h1 : (n == -1) = false := by simp; omega
  have hlt := Int.tmod_lt_of_pos a hn
  have hgt := Int.lt_tmod_of_pos a hn
  have hp : placeA a n = if a.tmod n < 0 then 8 + (a.tmod n + n) else 8 + a.tmod n := by
    unfold placeA
    have e := Int.emod_nonneg a (show n ≠ 0 by omega)
    have e2 := Int.emod_lt_of_pos a hn
    have e3 : a.tmod n = if 0 ≤ a ∨ a % n = 0 then a % n else a % n - n := by
      rw [Int.tmod_eq_emod]
      by_cases h : 0 ≤ a
      · simp [h]
      · by_cases h2 : a % n = 0
        · have : n ∣ a := Int.dvd_of_emod_eq_zero h2
          simp [this, h2]
        · have : ¬ n ∣ a := fun hd => h2 (Int.emod_eq_zero_of_dvd hd)
          simp [this, h, h2]
          omega
    rw [e3]
    split
    · rw [if_neg (by omega)]
    · rw [if_pos (by omega)]; omega
  rw [hp]
  clear hp ha
  by_cases hneg : a.tmod n < 0
  · rw [if_pos hneg]
    go_enter Try.func11, Try.ntmps11
    go_wp2_with fail
    go_ret
    exact ⟨rfl, rfl⟩
  · rw [if_neg hneg]
    go_enter Try.func11, Try.ntmps11
    go_wp2_with fail
    go_ret
    exact ⟨rfl, rfl⟩

def PS.berr (s : PS) : Int := if s.busy || s.live then 80 else 0
def PS.rerr (s : PS) : Int := if s.ready then 0 else 80
def PS.gerr (s : PS) : Int := if s.busy then 0 else 80
theorem Begin_e (w : World) (p : Nat) (F : List Nat) (s : PS) (h : PathAt w p F s) : Calls Try.prog 14 #[.pointer (some ⟨p, 0, none⟩)] w fun e w' => e = .returned (.int .i64 s.berr) ∧ GavePost w p F s.begin w' := Begin_any w p F s h
theorem Quit_e (w : World) (p : Nat) (F : List Nat) (s : PS) (h : PathAt w p F s) : Calls Try.prog 28 #[.pointer (some ⟨p, 0, none⟩)] w fun e w' => e = .returned (.int .i64 s.rerr) ∧ GavePost w p F s.quit w' := Quit_any w p F s h
theorem Commit_e (w : World) (p : Nat) (F : List Nat) (s : PS) (h : PathAt w p F s) : Calls Try.prog 19 #[.pointer (some ⟨p, 0, none⟩)] w fun e w' => e = .returned (.int .i64 s.rerr) ∧ GavePost w p F s.commit w' := Commit_any w p F s h
theorem Give_e (w : World) (p : Nat) (F : List Nat) (s : PS) (v : Int) (ok : Bool) (hv : w64ok v) (ho : s.ph.ok s.R s.W) (h : PathAt w p F s) : Calls Try.prog 24 #[.pointer (some ⟨p, 0, none⟩), .int .u64 v, .bool ok] w fun e w' => e = .returned (.int .i64 s.gerr) ∧ GavePost w p F (s.give v ok) w' := Give_any w p F s v ok hv ho h

def PS.begins (s : PS) (k a v n : Int) : PS :=
  if k = 0 then s.begin else if k = 1 then s.load (placeA a n) else if k = 2 then s.store (placeA a n) v else if k = 3 then s.commit else if k = 4 then s.quit else s

theorem GavePost.box {w w1 w' : World} {p : Nat} {F : List Nat} {s' : PS} (hC : Chg [] w w1) (h : GavePost w1 p F s' w') : GavePost w p F s' w' := by
  obtain ⟨F', h1, h2⟩ := h
  exact ⟨F', h1, (Mv.of_same hC).trans h2⟩

set_option maxHeartbeats 1000000 in
theorem begins_any (w : World) (p : Nat) (F : List Nat) (s : PS) (k a v n : Int) (ok : Bool) (ha : (Lit.int .i64 a).wf = true) (hv : (Lit.int .u64 v).wf = true) (hn : 0 < n) (hm : n ≤ 1000) (h : PathAt w p F s) :
    Calls Try.prog 22 #[.pointer (some ⟨p, 0, none⟩), .agg #[.int .i64 k, .int .i64 a, .int .u64 v, .bool ok], .int .i64 n] w fun e w' => e = .returned (.tuple #[]) ∧ GavePost w p F (s.begins k a v n) w' := by
  have hC := (Chg.refl [] w).alloc (.cells #[.int .i64 k, .int .i64 a, .int .u64 v, .bool ok] 44)
  have hX := Blk.new w [.int .i64 k, .int .i64 a, .int .u64 v, .bool ok] 44
  have HF := Lib.hid (show w.heap.size ∉ F from fun e => by have := h.lt _ e; omega)
  have HP := Lib.hid (h.look hC)
  have HC := Lib.hid hC
  have HX := Lib.hid hX
  have HA := Lib.hid (placeA_aok (a := a) hn hm)
  unfold PS.begins
  clear h hC hX
  by_cases h0 : k = 0
  · subst h0
    rw [if_pos rfl]
    have HQ := Lib.hid (Begin_e _ p F s HP.out)
    clear ha hv hn hm
    go_enter Try.func22, Try.ntmps22
    go_wp2_with fail
    refine HQ.out.mono ?_
    rintro e w' ⟨rfl, hq⟩
    have HG := Lib.hid hq
    clear hq
    go_wp2_with fail
    go_end0
    exact ⟨rfl, HG.out.box HC.out⟩
  rw [if_neg h0]
  by_cases h1 : k = 1
  · subst h1
    rw [if_pos rfl]
    have HQ := Lib.hid (Load_any _ p F s (placeA a n) HA.out.2 HP.out)
    have HL := Lib.hid (place_any (w.alloc (.cells #[.int .i64 1, .int .i64 a, .int .u64 v, .bool ok] 44)) a n ha hn hm)
    generalize placeA a n = b at *
    clear ha hv hn hm h0
    go_enter Try.func22, Try.ntmps22
    go_wp2_with fail
    refine HL.out.mono ?_
    rintro e w' ⟨rfl, rfl⟩
    go_wp2_with fail
    refine HQ.out.mono ?_
    rintro e w' ⟨rfl, hq⟩
    have HG := Lib.hid hq
    clear hq
    go_wp2_with fail
    go_end0
    exact ⟨rfl, HG.out.box HC.out⟩
  rw [if_neg h1]
  by_cases h2 : k = 2
  · subst h2
    rw [if_pos rfl]
    have HHn := Lib.hid (And.intro ha (And.intro hn hm))
    have HV := Lib.hid hv
    generalize hb : placeA a n = b at *
    have HHb := Lib.hid hb
    clear ha hv hn hm h0 h1 hb
    go_enter Try.func22, Try.ntmps22
    go_wp2_with fail
    go_region_held3 (fun w' => w'.cell? ⟨w.heap.size, 1, none⟩ = some (.int .i64 a) ∧ w'.cell? ⟨w.heap.size, 2, none⟩ = some (.int .u64 v))
      (first | exact ⟨HX.out.cell 1, HX.out.cell 2⟩ | (obtain ⟨F2, hp2, hm2⟩ := HG.out; exact ⟨(hm2.chg.blk HX.out.drew HF.out).cell 1, (hm2.chg.blk HX.out.drew HF.out).cell 2⟩))
      (first
        | (go_at_call 11; refine (place_any _ a n HHn.out.1 HHn.out.2.1 HHn.out.2.2).mono ?_; rintro e w' ⟨rfl, rfl⟩; rw [HHb.out])
        | (go_at_call 18; refine (Store_any _ p F s b v HA.out.2 HV.out (HP.out.look ((Chg.refl [] _).drew))).mono ?_; rintro e w' ⟨rfl, hq⟩; have HG := Lib.hid hq; clear hq)
        | fail)
    go_wp2_with fail
    go_end0
    exact ⟨rfl, HG.out.box (HC.out.trans ((Chg.refl [] _).drew))⟩
  rw [if_neg h2]
  by_cases h3 : k = 3
  · subst h3
    rw [if_pos rfl]
    have HQ := Lib.hid (Commit_e _ p F s HP.out)
    clear ha hv hn hm h0 h1 h2
    go_enter Try.func22, Try.ntmps22
    go_wp2_with fail
    refine HQ.out.mono ?_
    rintro e w' ⟨rfl, hq⟩
    have HG := Lib.hid hq
    clear hq
    go_wp2_with fail
    go_end0
    exact ⟨rfl, HG.out.box HC.out⟩
  rw [if_neg h3]
  by_cases h4 : k = 4
  · subst h4
    rw [if_pos rfl]
    have HQ := Lib.hid (Quit_e _ p F s HP.out)
    clear ha hv hn hm h0 h1 h2 h3
    go_enter Try.func22, Try.ntmps22
    go_wp2_with fail
    refine HQ.out.mono ?_
    rintro e w' ⟨rfl, hq⟩
    have HG := Lib.hid hq
    clear hq
    go_wp2_with fail
    go_end0
    exact ⟨rfl, HG.out.box HC.out⟩
  rw [if_neg h4]
  have e0 : (k == 0) = false := by simpa using h0
  have e1 : (k == 1) = false := by simpa using h1
  have e2 : (k == 2) = false := by simpa using h2
  have e3 : (k == 3) = false := by simpa using h3
  have e4 : (k == 4) = false := by simpa using h4
  clear ha hv hn hm h0 h1 h2 h3 h4
  go_enter Try.func22, Try.ntmps22
  go_wp2_with fail
  go_end0
  exact ⟨rfl, F, HP.out, Mv.of_same HC.out⟩

theorem PS.begins_ok {s : PS} {k a v n : Int} (hn : 0 < n) (hm : n ≤ 1000) (h : s.ph.ok s.R s.W) : (s.begins k a v n).ph.ok (s.begins k a v n).R (s.begins k a v n).W := by
  have hidle : s.ready = true → s.ph = .idle := fun hr => PS.busy_idle (by
    unfold PS.ready at hr; cases hb : s.busy <;> simp [hb] at hr ⊢)
  unfold PS.begins
  split
  · unfold PS.begin; split
    · exact h
    · trivial
  split
  · unfold PS.load; split
    · split
      · exact h
      · exact placeA_aok hn hm
    · exact h
  split
  · unfold PS.store; split
    · rename_i hc
      simp only [Bool.and_eq_true] at hc
      split
      · simp only [hidle hc.1]; trivial
      · trivial
    · exact h
  split
  · unfold PS.commit; split
    · split
      · trivial
      · rename_i hW; exact hW
    · exact h
  split
  · unfold PS.quit; split
    · trivial
    · exact h
  · exact h

end Go.Proofs.Ytilffolppnnkaaa
