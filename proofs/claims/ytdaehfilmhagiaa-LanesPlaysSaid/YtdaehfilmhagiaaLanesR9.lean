/- LanesPlays. -/
import Derived.Test.YtdaehfilmhagiaaLanesR8
namespace Go.Proofs.Ytdaehfilmhagiaa
open Go.RowKit

def PlaysRel (w : World) (a b : Nat) (f s o : Int) (wr : World) : Prop := ∃ C ls, PairAt w wr a b C f s o ls

set_option maxRecDepth 100000 in
set_option maxHeartbeats 2000000 in
theorem LanesPlays_ok (w : World) (f s o : Int) (A : Option Addr) (cap : Nat) (xs : List (Int × Int)) (hR : Rd w w.heap.size A 2 encOp xs) (hl1 : xs.length ≤ 1000) (hm : may f s o) :
    Calls Try.prog 6 #[.agg #[.int .i64 f, .int .i64 s, .int .i64 o], .slice A xs.length cap] w (StaysPost w) := by
  have hl1' : (xs.length : Int) ≤ 1000 := by omega
  have HM := Lib.hid hm
  clear hm
  go_enter Try.func6, Try.ntmps6
  go_wp2_with fail
  have kb := Blk.new w [.int .i64 f, .int .i64 s, .int .i64 o] 23
  have hC := (Chg.refl [] w).alloc (.cells #[.int .i64 f, .int .i64 s, .int .i64 o] 23)
  generalize w.alloc (.cells #[.int .i64 f, .int .i64 s, .int .i64 o] 23) = w1 at *
  refine (New_ok _ f s o HM.out).mono ?_
  rintro e w2 ⟨a, rfl, hb, hCt, hC2⟩
  have hO : OwnAt w w2 a (LC.new f s o) := ⟨hCt, Nat.le_trans hC.size hb, (hC.trans hC2).nil_below, LC.Ok.new HM.out⟩
  replace kb := hC2.blk kb (by simp)
  have x0 := kb.cell 0
  have x1 := kb.cell 1
  have x2 := kb.cell 2
  simp only [List.getElem?_cons_zero, List.getElem?_cons_succ] at x0 x1 x2
  have HO := Lib.hid hO
  have HC := Lib.hid (hC.trans hC2)
  clear hCt hC2 hb hC hO
  go_wp2_with fail
  refine (May_any _ f s o).mono ?_
  rintro e w3 ⟨rfl, hC3⟩
  rw [decide_eq_true HM.out]
  replace kb := hC3.blk kb (by simp)
  have x0 := kb.cell 0
  have x1 := kb.cell 1
  have x2 := kb.cell 2
  simp only [List.getElem?_cons_zero, List.getElem?_cons_succ] at x0 x1 x2
  have HO3 := Lib.hid (HO.out.look hC3)
  clear hC3 kb
  go_wp2_with fail
  have kb := Blk.new w3 [.int .i64 f, .int .i64 s, .int .i64 o, .int .i64 0, .slice none 0 0] 46
  have hR3 : RefAt _ w3.heap.size f s o 0 [] := ⟨⟨_, kb, .nil rfl rfl⟩, by simp⟩
  have hP : PlaysRel w a w3.heap.size f s o (w3.alloc (.cells #[.int .i64 f, .int .i64 s, .int .i64 o, .int .i64 0, .slice none 0 0] 46)) :=
    ⟨_, [], HO3.out.look ((Chg.refl [] _).alloc _), Alike.nil, hR3, HO3.out.bel.size⟩
  have HP := Lib.hid hP
  clear kb hR3 hP x0 x1 x2
  go_loopw [8] (fun i wr => ∃ k : Nat, k ≤ xs.length ∧ i = .int .i64 k ∧ PlaysRel w a w3.heap.size f s o wr) (fun i _ => xs.length - (intOf i).toNat)
  case atStart => exact ⟨0, Nat.zero_le _, rfl, HP.out⟩
  case round =>
    clear HP HO3 HC HO
    obtain ⟨k, hk, rfl, C, ls, hP⟩ := hrel
    generalize w3.heap.size = b at *
    by_cases hlt : k < xs.length
    · obtain ⟨bi, off, rfl, hbb, hc⟩ := hR.below hP.own.bel (by omega)
      have c0 : wr.cell? ⟨bi, off + k * 2, none⟩ = some (.int .i64 xs[k].1) := hc k hlt 0 (by decide)
      have c1 : wr.cell? ⟨bi, off + k * 2 + 1, none⟩ = some (.int .i64 xs[k].2) := hc k hlt 1 (by decide)
      clear hc
      generalize xs[k].1 = kk at *
      generalize xs[k].2 = n at *
      have HP := Lib.hid hP
      clear hP
      go_wp2_with fail
      refine (do_any w _ a b C f s o kk n ls HP.out).mono ?_
      rintro e w4 ⟨rfl, C', ls', hP4⟩
      have HP4 := Lib.hid hP4
      clear hP4
      go_wp2_with fail
      go_roundw
      case rel => exact ⟨k + 1, by omega, by go_num, _, _, HP4.out⟩
      case measure => simp [intOf]; omega
    · obtain rfl : k = xs.length := by omega
      have HP := Lib.hid hP
      clear hP
      go_wp2_with fail
      refine (same_any w _ a b C f s o ls HP.out).mono ?_
      rintro e w4 ⟨rfl, hC4⟩
      have HP4 := Lib.hid (HP.out.own.look hC4)
      clear hC4
      go_wp2_with fail
      go_ret
      exact ⟨rfl, HP4.out.bel⟩

set_option maxRecDepth 100000 in
set_option maxHeartbeats 1000000 in
theorem LanesPlays_any (w : World) (f s o : Int) (A : Option Addr) (cap : Nat) (xs : List (Int × Int)) (hR : Rd w w.heap.size A 2 encOp xs) :
    Calls Try.prog 6 #[.agg #[.int .i64 f, .int .i64 s, .int .i64 o], .slice A xs.length cap] w (StaysPost w) := by
  by_cases hlen : 1000 < xs.length
  · have hl' : (1000 : Int) < xs.length := by omega
    go_enter Try.func6, Try.ntmps6
    go_wp2_with fail
    go_ret
    exact ⟨rfl, (((Chg.refl [] w).alloc _)).nil_below⟩
  by_cases hm : may f s o
  · exact LanesPlays_ok w f s o A cap xs hR (by omega) hm
  have hl' : (xs.length : Int) ≤ 1000 := by omega
  have HM := Lib.hid hm
  clear hm hlen
  go_enter Try.func6, Try.ntmps6
  go_wp2_with fail
  have kb := Blk.new w [.int .i64 f, .int .i64 s, .int .i64 o] 23
  have hC := (Chg.refl [] w).alloc (.cells #[.int .i64 f, .int .i64 s, .int .i64 o] 23)
  generalize w.alloc (.cells #[.int .i64 f, .int .i64 s, .int .i64 o] 23) = w1 at *
  refine (New_bad _ f s o HM.out).mono ?_
  rintro e w2 ⟨rfl, hC2⟩
  replace kb := hC2.blk kb (by simp)
  have x0 := kb.cell 0
  have x1 := kb.cell 1
  have x2 := kb.cell 2
  simp only [List.getElem?_cons_zero, List.getElem?_cons_succ] at x0 x1 x2
  have HC := Lib.hid (hC.trans hC2)
  clear hC2 hC
  go_wp2_with fail
  refine (May_any _ f s o).mono ?_
  rintro e w3 ⟨rfl, hC3⟩
  rw [decide_eq_false HM.out]
  have HC3 := Lib.hid (HC.out.trans hC3)
  clear hC3 kb
  go_wp2_with fail
  go_ret
  exact ⟨rfl, HC3.out.nil_below⟩

end Go.Proofs.Ytdaehfilmhagiaa
