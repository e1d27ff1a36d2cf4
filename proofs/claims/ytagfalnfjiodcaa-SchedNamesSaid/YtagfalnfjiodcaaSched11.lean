/- What a scheduler ends in, read; told, alive. -/
import Derived.Test.YtagfalnfjiodcaaSched10
namespace Go.Proofs.Ytagfalnfjiodcaa
open Go.RowKit

/-- What a scheduler ends in, for a reader. -/
def SN (w : World) (l : IL) (err : Int) (e : Ending) (w' : World) : Prop := ∃ A cap, e = .returned (.tuple #[.slice A l.length cap, .int .i64 err]) ∧ l.length ≤ cap ∧ NumsA w' A w'.heap.size l ∧ Chg [] w w'
theorem SPost.sn {w w' : World} {l : IL} {err : Int} {e : Ending} (h : SPost w l err e w') : SN w l err e w' := by
  obtain ⟨v, rfl, hv, hc⟩ := h
  obtain ⟨A, cap, rfl, hl, hA⟩ := NumsA.of_row hv
  exact ⟨A, cap, rfl, hl, hA, hc⟩
theorem NumsA.chg {w w' : World} {A : Option Addr} {l : IL} (h : NumsA w A w.heap.size l) (k : Chg [] w w') : NumsA w' A w'.heap.size l :=
  (h.below (k.to_below (B := w.heap.size) (by simp) (Nat.le_refl _))).mono k.size

def ToldRel (W : World) (n : Nat) (i : Value) (wr : World) : Prop := ∃ k q : Nat, k ≤ n ∧ i = .int .i64 k ∧ wr = W.drewN q

set_option maxHeartbeats 1000000 in
theorem told_true (W : World) (A B : Option Addr) (cap cap' : Nat) (l : IL) (hm : l.length ≤ 10000) (hA : NumsA W A W.heap.size l) (hB : NumsA W B W.heap.size l) :
    Calls Try.prog 48 #[.slice A l.length cap, .int .i64 0, .slice B l.length cap'] W fun e w' => e = .returned (.bool true) ∧ Chg [] W w' := by
  have HA := Lib.hid hA
  have HB := Lib.hid hB
  have hm' : (l.length : Int) ≤ 10000 := by omega
  clear hA hB
  go_enter Try.func48, Try.ntmps48
  go_wp2_with fail
  go_loopw [19] (fun i wr => ToldRel W l.length i wr) (fun i _ => l.length - (intOf i).toNat)
  case atStart => exact ⟨0, 0, Nat.zero_le _, rfl, rfl⟩
  case round =>
    obtain ⟨k, q, hk, rfl, rfl⟩ := hrel
    by_cases hlt : k < l.length
    · obtain ⟨b, off, rfl, _, c1⟩ := HA.out k hlt
      obtain ⟨b2, off2, rfl, _, c2⟩ := HB.out k hlt
      generalize l[k] = lk at *
      go_wp2_with fail
      go_quiet (fail)
      go_wp2_with fail
      go_roundw
      case rel => exact ⟨k + 1, _, by omega, by go_num, rfl⟩
      case measure => simp [intOf]; omega
    · obtain rfl : k = l.length := by omega
      go_wp2_with fail
      go_ret
      exact ⟨rfl, (Chg.refl _ _).drewN _⟩

theorem NumsA.ofBlk {w : World} {b : Nat} {l : IL} {t : TypeId} (h : Blk w b (l.map (Value.int .i64)) t) : NumsA w (some ⟨b, 0, none⟩) w.heap.size l := NumsA.of_blk h

set_option maxRecDepth 100000 in
set_option maxHeartbeats 4000000 in
theorem alive_any (W : World) : Calls Try.prog 30 #[] W fun e w' => e = .returned (.bool true) ∧ Chg [] W w' := by
  have e1 : outs (fun t => ((t % 3 : Nat) : Int)) 5 = [0, 1, 2, 0, 1] := by decide
  have e2 : outs (fun t => ((wC [3, 1] (wSt [3, 1] t) : Nat) : Int)) 5 = [0, 0, 1, 0, 0] := by decide
  have e3 : outs (fun t => ((rC [2, 0] (rSt [2, 0] t) : Nat) : Int)) 6 = [0, 0, 0, 1, 0, 0] := by decide
  go_enter Try.func30, Try.ntmps30
  go_wp2_with fail
  refine (Rounds_ok W 3 5 (by decide) (by decide) (by decide)).mono ?_
  intro e w1 h
  rw [e1] at h
  obtain ⟨A1, k1, rfl, _, hA1, hC1⟩ := SPost.sn h
  have HA1 := Lib.hid hA1
  have HC1 := Lib.hid hC1
  clear h hA1 hC1
  have hb2 : NumsA (w1.alloc (.cells #[.int .i64 3, .int .i64 1] 3)) (some ⟨w1.heap.size, 0, none⟩) (w1.alloc (.cells #[.int .i64 3, .int .i64 1] 3)).heap.size [3, 1] := NumsA.of_blk (Blk.new w1 [.int .i64 3, .int .i64 1] 3)
  go_wp2_with fail
  refine (Weights_ok _ _ 2 5 [3, 1] ⟨by decide, by decide⟩ hb2 (by decide)).mono ?_
  clear hb2
  intro e w2 h
  rw [e2] at h
  obtain ⟨A2, k2, rfl, _, hA2, hC2⟩ := SPost.sn h
  have hC2' : Chg [] w1 w2 := ((Chg.refl _ _).alloc _).trans hC2
  have HA2 := Lib.hid hA2
  have HC2 := Lib.hid hC2'
  clear h hA2 hC2 hC2'
  have hb3 : NumsA (w2.alloc (.cells #[.int .i64 2, .int .i64 0] 3)) (some ⟨w2.heap.size, 0, none⟩) (w2.alloc (.cells #[.int .i64 2, .int .i64 0] 3)).heap.size [2, 0] := NumsA.of_blk (Blk.new w2 [.int .i64 2, .int .i64 0] 3)
  go_wp2_with fail
  refine (Ranks_ok _ _ 2 6 [2, 0] ⟨by decide, by decide⟩ hb3 (by decide)).mono ?_
  clear hb3
  intro e w3 h
  rw [e3] at h
  obtain ⟨A3, k3, rfl, _, hA3, hC3⟩ := SPost.sn h
  have hC3' : Chg [] w2 w3 := ((Chg.refl _ _).alloc _).trans hC3
  have HA3 := Lib.hid hA3
  have HB1 := Lib.hid ((HA1.out.chg HC2.out).chg hC3')
  have HB2 := Lib.hid (HA2.out.chg hC3')
  have HC3 := Lib.hid ((HC1.out.trans HC2.out).trans hC3')
  clear h hA3 hC3 hC3' HA1 HA2 HC1 HC2
  go_wp2_with fail
  have c0 : Chg [] w3 (w3.alloc (.cells #[.int .i64 0, .int .i64 1, .int .i64 2, .int .i64 0, .int .i64 1] 3)) := (Chg.refl _ _).alloc _
  refine (told_true (w3.alloc (.cells #[.int .i64 0, .int .i64 1, .int .i64 2, .int .i64 0, .int .i64 1] 3)) _ _ _ 5 [0, 1, 2, 0, 1] (by decide) (HB1.out.chg c0) (NumsA.of_blk (Blk.new w3 [.int .i64 0, .int .i64 1, .int .i64 2, .int .i64 0, .int .i64 1] 3))).mono ?_
  rintro e v0 ⟨rfl, d0⟩
  have N01 := Lib.hid ((HB2.out.chg c0).chg d0)
  have N02 := Lib.hid ((HA3.out.chg c0).chg d0)
  have HD0 := Lib.hid (c0.trans d0)
  clear c0 d0
  go_wp2_with fail
  have c1 : Chg [] v0 (v0.alloc (.cells #[.int .i64 0, .int .i64 0, .int .i64 1, .int .i64 0, .int .i64 0] 3)) := (Chg.refl _ _).alloc _
  refine (told_true (v0.alloc (.cells #[.int .i64 0, .int .i64 0, .int .i64 1, .int .i64 0, .int .i64 0] 3)) _ _ _ 5 [0, 0, 1, 0, 0] (by decide) (N01.out.chg c1) (NumsA.of_blk (Blk.new v0 [.int .i64 0, .int .i64 0, .int .i64 1, .int .i64 0, .int .i64 0] 3))).mono ?_
  rintro e v1 ⟨rfl, d1⟩
  have N12 := Lib.hid ((N02.out.chg c1).chg d1)
  have HD1 := Lib.hid ((HD0.out.trans c1).trans d1)
  clear c1 d1
  go_wp2_with fail
  have c2 : Chg [] v1 (v1.alloc (.cells #[.int .i64 0, .int .i64 0, .int .i64 0, .int .i64 1, .int .i64 0, .int .i64 0] 3)) := (Chg.refl _ _).alloc _
  refine (told_true (v1.alloc (.cells #[.int .i64 0, .int .i64 0, .int .i64 0, .int .i64 1, .int .i64 0, .int .i64 0] 3)) _ _ _ 6 [0, 0, 0, 1, 0, 0] (by decide) (N12.out.chg c2) (NumsA.of_blk (Blk.new v1 [.int .i64 0, .int .i64 0, .int .i64 0, .int .i64 1, .int .i64 0, .int .i64 0] 3))).mono ?_
  rintro e v2 ⟨rfl, d2⟩
  have HD2 := Lib.hid ((HD1.out.trans c2).trans d2)
  clear c2 d2
  go_wp2_with fail
  go_ret
  exact ⟨rfl, HC3.out.trans HD2.out⟩

end Go.Proofs.Ytagfalnfjiodcaa
