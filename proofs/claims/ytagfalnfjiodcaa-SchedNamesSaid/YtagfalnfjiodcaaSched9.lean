/- Weights, Ranks. -/
import Derived.Test.YtagfalnfjiodcaaSched8
namespace Go.Proofs.Ytagfalnfjiodcaa
open Go.RowKit

set_option maxRecDepth 100000 in
set_option maxHeartbeats 2000000 in
theorem Weights_bad (w : World) (A : Option Addr) (cap : Nat) (l : IL) (m err : Int) (hl : l.length ≤ 100) (hA : NumsA w A w.heap.size l) (he : mayL l 1 m = err) (hee : err = 240 ∨ err = 2) :
    Calls Try.prog 18 #[.slice A l.length cap, .int .i64 m] w (SPost w [] err) := by
  have hA1 : NumsA (w.alloc (.cells #[.slice A l.length cap] 23)) A (w.alloc (.cells #[.slice A l.length cap] 23)).heap.size l := (hA.below ((Below.refl _ w).alloc (Nat.le_refl _) _)).mono (by simp)
  have HA := Lib.hid hA1
  have HE := Lib.hid he
  clear hA hA1 he
  have hm := may_any _ A cap l 1 m hl HA.out
  rw [HE.out] at hm
  rcases hee with rfl | rfl
  all_goals
    go_enter Try.func18, Try.ntmps18
    go_wp2_with fail
    refine hm.mono ?_
    clear hm
    rintro e w2 ⟨rfl, h2⟩
    have HC2 := Lib.hid (((Chg.refl [] w).alloc _).trans h2.1)
    clear h2
    go_wp2_with fail
    go_ret2
    exact SPost.bad HC2.out

set_option maxRecDepth 100000 in
set_option maxHeartbeats 4000000 in
theorem Weights_ok (w : World) (A : Option Addr) (cap M : Nat) (l : IL) (hl : Within 1 l) (hA : NumsA w A w.heap.size l) (hM : M ≤ 10000) :
    Calls Try.prog 18 #[.slice A l.length cap, .int .i64 (M : Int)] w (SPost w (outs (fun t => ((wC l (wSt l t) : Nat) : Int)) M) 0) := by
  have hA1 : NumsA (w.alloc (.cells #[.slice A l.length cap] 23)) A (w.alloc (.cells #[.slice A l.length cap] 23)).heap.size l := (hA.below ((Below.refl _ w).alloc (Nat.le_refl _) _)).mono (by simp)
  have hA0 : NumsA (w.alloc (.cells #[.slice A l.length cap] 23)) A w.heap.size l := (hA.below ((Below.refl _ w).alloc (Nat.le_refl _) _))
  have hl1 := hl.1.1
  have hl4 := hl.1.2
  have he : mayL l 1 (M : Int) = 0 := by
    unfold mayL
    rw [if_neg (fun h => by
      rcases h with h | h | h
      · omega
      · omega
      · obtain ⟨x, hx, hb⟩ := List.any_eq_true.1 h
        have := hl.2 x hx
        simp [badN] at hb
        omega), if_neg (by omega)]
  have hm := may_any _ A cap l 1 (M : Int) (by omega) hA1
  rw [he] at hm
  have HA := Lib.hid hA0
  have HL := Lib.hid hl
  have HB := Lib.hid (Blk.new w [.slice A l.length cap] 23)
  clear hA hA1 he hl hA0
  go_enter Try.func18, Try.ntmps18
  go_wp2_with fail
  refine hm.mono ?_
  clear hm
  rintro e w2 ⟨rfl, h2⟩
  have HC2 := Lib.hid (((Chg.refl [] w).alloc _).trans h2.1)
  have HA2 := Lib.hid (HA.out.below (h2.1.to_below (B := w.heap.size) (by simp) (by simp)))
  have HB2 := Lib.hid (h2.1.blk HB.out (by simp))
  clear h2
  go_wp2_with fail
  refine (callsIn_wide.1 (turns_in 0 _ _ ⟨_, _, rfl⟩ _)).mono ?_
  rintro e w' ⟨rfl, rfl⟩
  go_wp2_with fail
  have hwc : w.heap.size < w2.heap.size := HB2.out.lt
  have b0 := ((Blk.new w2 [.int .i64 0, .int .i64 0, .int .i64 0, .int .i64 0] 66).alloc (.cells #[.int .i64 (M : Int)] 3)).alloc (.cells #[.func (.func 42) #[] #[.pointer (some ⟨w.heap.size, 0, none⟩), .pointer (some ⟨w2.heap.size, 0, none⟩)]] 64)
  have b1 := (Blk.new (w2.alloc (.cells #[.int .i64 0, .int .i64 0, .int .i64 0, .int .i64 0] 66)) [.int .i64 (M : Int)] 3).alloc (.cells #[.func (.func 42) #[] #[.pointer (some ⟨w.heap.size, 0, none⟩), .pointer (some ⟨w2.heap.size, 0, none⟩)]] 64)
  have b2 := Blk.new ((w2.alloc (.cells #[.int .i64 0, .int .i64 0, .int .i64 0, .int .i64 0] 66)).alloc (.cells #[.int .i64 (M : Int)] 3)) [.func (.func 42) #[] #[.pointer (some ⟨w.heap.size, 0, none⟩), .pointer (some ⟨w2.heap.size, 0, none⟩)]] 64
  have bc := ((HB2.out.alloc (.cells #[.int .i64 0, .int .i64 0, .int .i64 0, .int .i64 0] 66)).alloc (.cells #[.int .i64 (M : Int)] 3)).alloc (.cells #[.func (.func 42) #[] #[.pointer (some ⟨w.heap.size, 0, none⟩), .pointer (some ⟨w2.heap.size, 0, none⟩)]] 64)
  have ba : NumsA (((w2.alloc (.cells #[.int .i64 0, .int .i64 0, .int .i64 0, .int .i64 0] 66)).alloc (.cells #[.int .i64 (M : Int)] 3)).alloc (.cells #[.func (.func 42) #[] #[.pointer (some ⟨w.heap.size, 0, none⟩), .pointer (some ⟨w2.heap.size, 0, none⟩)]] 64)) A w.heap.size l := HA2.out.below ((((Below.refl _ w2).alloc (by omega) _).alloc (by simp; omega) _).alloc (by simp; omega) _)
  have hC3 := ((HC2.out.alloc (.cells #[.int .i64 0, .int .i64 0, .int .i64 0, .int .i64 0] 66)).alloc (.cells #[.int .i64 (M : Int)] 3)).alloc (.cells #[.func (.func 42) #[] #[.pointer (some ⟨w.heap.size, 0, none⟩), .pointer (some ⟨w2.heap.size, 0, none⟩)]] 64)
  simp only [World.size_alloc] at b1 b2
  have hsz3 : (((w2.alloc (.cells #[.int .i64 0, .int .i64 0, .int .i64 0, .int .i64 0] 66)).alloc (.cells #[.int .i64 (M : Int)] 3)).alloc (.cells #[.func (.func 42) #[] #[.pointer (some ⟨w.heap.size, 0, none⟩), .pointer (some ⟨w2.heap.size, 0, none⟩)]] 64)).heap.size = w2.heap.size + 1 + 1 + 1 := by simp
  generalize ((w2.alloc (.cells #[.int .i64 0, .int .i64 0, .int .i64 0, .int .i64 0] 66)).alloc (.cells #[.int .i64 (M : Int)] 3)).alloc (.cells #[.func (.func 42) #[] #[.pointer (some ⟨w.heap.size, 0, none⟩), .pointer (some ⟨w2.heap.size, 0, none⟩)]] 64) = w3 at b0 b1 b2 bc ba hC3 hsz3 ⊢
  have hseq := turns_weights 2 (Nat.le_refl _) (w2.heap.size + 1) (w2.heap.size + 1 + 1) w3.heap.size M w.heap.size w2.heap.size hM [w2.heap.size] (fun t => ((wC l (wSt l t) : Nat) : Int)) (fun j W => Blk W w2.heap.size ((wSt l j).map (Value.int .i64)) 66 ∧ Blk W w.heap.size [.slice A l.length cap] 23 ∧ NumsA W A w.heap.size l ∧ w.heap.size ≤ W.heap.size) (fun h => by have := List.mem_singleton.1 h; omega) (fun h => by have := List.mem_singleton.1 h; omega) (by omega) (by omega)
    (fun j W hj hS => (weights1_any W w.heap.size w2.heap.size w.heap.size A cap l (wSt l j) HL.out (wSt_len l j) (fun x hx => by have := wSt_bound HL.out j x hx; omega) hS.2.1 hS.2.2.1 (by omega) hS.1).mono (fun e W' h => ⟨h.1, ⟨h.2.1, h.2.2.1.blk hS.2.1 (by simp; omega), hS.2.2.1.below (h.2.2.1.to_below (B := w.heap.size) (by simp; omega) hS.2.2.2), Nat.le_trans hS.2.2.2 h.2.2.1.size⟩, h.2.2⟩))
    (fun j X Y hS hb => ⟨(hb.block _ (by omega)).trans hS.1, (hb.block _ (by omega)).trans hS.2.1, hS.2.2.1.below (hb.mono (by omega)), Nat.le_trans hS.2.2.2 hb.size⟩) w3 (Nat.le_refl _) ⟨b0, bc, ba, by omega⟩ b1 b2
  have hall := callsIn_wide.1 (all_in 3 (Nat.le_refl _) [w2.heap.size] (w2.heap.size + 1) (w2.heap.size + 1 + 1) (outs (fun t => ((wC l (wSt l t) : Nat) : Int)) M) (by rw [outs_len]; exact hM) w3 (by simp; omega) (by rw [outs_len]; exact hseq))
  have HC3 := Lib.hid hC3
  have hws : w.heap.size ≤ w3.heap.size := by omega
  have HZ := Lib.hid hsz3
  clear hseq b0 b1 b2 bc ba hC3 hsz3
  refine hall.mono ?_
  clear hall
  rintro e w4 ⟨v, rfl, hv, hc⟩
  have HV := Lib.hid (ownsRow_base hv hws)
  have HC4 := Lib.hid (HC3.out.trans' hc (by simp; omega))
  clear hv hc
  go_wp2_with fail
  go_ret2
  exact ⟨v, rfl, HV.out, HC4.out⟩

set_option maxRecDepth 100000 in
set_option maxHeartbeats 2000000 in
theorem Ranks_bad (w : World) (A : Option Addr) (cap : Nat) (l : IL) (m err : Int) (hl : l.length ≤ 100) (hA : NumsA w A w.heap.size l) (he : mayL l 0 m = err) (hee : err = 240 ∨ err = 2) :
    Calls Try.prog 20 #[.slice A l.length cap, .int .i64 m] w (SPost w [] err) := by
  have hA1 : NumsA (w.alloc (.cells #[.slice A l.length cap] 23)) A (w.alloc (.cells #[.slice A l.length cap] 23)).heap.size l := (hA.below ((Below.refl _ w).alloc (Nat.le_refl _) _)).mono (by simp)
  have HA := Lib.hid hA1
  have HE := Lib.hid he
  clear hA hA1 he
  have hm := may_any _ A cap l 0 m hl HA.out
  rw [HE.out] at hm
  rcases hee with rfl | rfl
  all_goals
    go_enter Try.func20, Try.ntmps20
    go_wp2_with fail
    refine hm.mono ?_
    clear hm
    rintro e w2 ⟨rfl, h2⟩
    have HC2 := Lib.hid (((Chg.refl [] w).alloc _).trans h2.1)
    clear h2
    go_wp2_with fail
    go_ret2
    exact SPost.bad HC2.out

set_option maxRecDepth 100000 in
set_option maxHeartbeats 4000000 in
theorem Ranks_ok (w : World) (A : Option Addr) (cap M : Nat) (l : IL) (hl : Within 0 l) (hA : NumsA w A w.heap.size l) (hM : M ≤ 10000) :
    Calls Try.prog 20 #[.slice A l.length cap, .int .i64 (M : Int)] w (SPost w (outs (fun t => ((rC l (rSt l t) : Nat) : Int)) M) 0) := by
  have hA1 : NumsA (w.alloc (.cells #[.slice A l.length cap] 23)) A (w.alloc (.cells #[.slice A l.length cap] 23)).heap.size l := (hA.below ((Below.refl _ w).alloc (Nat.le_refl _) _)).mono (by simp)
  have hA0 : NumsA (w.alloc (.cells #[.slice A l.length cap] 23)) A w.heap.size l := (hA.below ((Below.refl _ w).alloc (Nat.le_refl _) _))
  have hl1 := hl.1.1
  have hl4 := hl.1.2
  have he : mayL l 0 (M : Int) = 0 := by
    unfold mayL
    rw [if_neg (fun h => by
      rcases h with h | h | h
      · omega
      · omega
      · obtain ⟨x, hx, hb⟩ := List.any_eq_true.1 h
        have := hl.2 x hx
        simp [badN] at hb
        omega), if_neg (by omega)]
  have hm := may_any _ A cap l 0 (M : Int) (by omega) hA1
  rw [he] at hm
  have HA := Lib.hid hA0
  have HL := Lib.hid hl
  have HB := Lib.hid (Blk.new w [.slice A l.length cap] 23)
  clear hA hA1 he hl hA0
  go_enter Try.func20, Try.ntmps20
  go_wp2_with fail
  refine hm.mono ?_
  clear hm
  rintro e w2 ⟨rfl, h2⟩
  have HC2 := Lib.hid (((Chg.refl [] w).alloc _).trans h2.1)
  have HA2 := Lib.hid (HA.out.below (h2.1.to_below (B := w.heap.size) (by simp) (by simp)))
  have HB2 := Lib.hid (h2.1.blk HB.out (by simp))
  clear h2
  go_wp2_with fail
  refine (callsIn_wide.1 (turns_in 0 _ _ ⟨_, _, rfl⟩ _)).mono ?_
  rintro e w' ⟨rfl, rfl⟩
  go_wp2_with fail
  have hwc : w.heap.size < w2.heap.size := HB2.out.lt
  have b0 := ((Blk.new w2 [.int .i64 0, .int .i64 0, .int .i64 0, .int .i64 0] 66).alloc (.cells #[.int .i64 (M : Int)] 3)).alloc (.cells #[.func (.func 44) #[] #[.pointer (some ⟨w.heap.size, 0, none⟩), .pointer (some ⟨w2.heap.size, 0, none⟩)]] 64)
  have b1 := (Blk.new (w2.alloc (.cells #[.int .i64 0, .int .i64 0, .int .i64 0, .int .i64 0] 66)) [.int .i64 (M : Int)] 3).alloc (.cells #[.func (.func 44) #[] #[.pointer (some ⟨w.heap.size, 0, none⟩), .pointer (some ⟨w2.heap.size, 0, none⟩)]] 64)
  have b2 := Blk.new ((w2.alloc (.cells #[.int .i64 0, .int .i64 0, .int .i64 0, .int .i64 0] 66)).alloc (.cells #[.int .i64 (M : Int)] 3)) [.func (.func 44) #[] #[.pointer (some ⟨w.heap.size, 0, none⟩), .pointer (some ⟨w2.heap.size, 0, none⟩)]] 64
  have bc := ((HB2.out.alloc (.cells #[.int .i64 0, .int .i64 0, .int .i64 0, .int .i64 0] 66)).alloc (.cells #[.int .i64 (M : Int)] 3)).alloc (.cells #[.func (.func 44) #[] #[.pointer (some ⟨w.heap.size, 0, none⟩), .pointer (some ⟨w2.heap.size, 0, none⟩)]] 64)
  have ba : NumsA (((w2.alloc (.cells #[.int .i64 0, .int .i64 0, .int .i64 0, .int .i64 0] 66)).alloc (.cells #[.int .i64 (M : Int)] 3)).alloc (.cells #[.func (.func 44) #[] #[.pointer (some ⟨w.heap.size, 0, none⟩), .pointer (some ⟨w2.heap.size, 0, none⟩)]] 64)) A w.heap.size l := HA2.out.below ((((Below.refl _ w2).alloc (by omega) _).alloc (by simp; omega) _).alloc (by simp; omega) _)
  have hC3 := ((HC2.out.alloc (.cells #[.int .i64 0, .int .i64 0, .int .i64 0, .int .i64 0] 66)).alloc (.cells #[.int .i64 (M : Int)] 3)).alloc (.cells #[.func (.func 44) #[] #[.pointer (some ⟨w.heap.size, 0, none⟩), .pointer (some ⟨w2.heap.size, 0, none⟩)]] 64)
  simp only [World.size_alloc] at b1 b2
  have hsz3 : (((w2.alloc (.cells #[.int .i64 0, .int .i64 0, .int .i64 0, .int .i64 0] 66)).alloc (.cells #[.int .i64 (M : Int)] 3)).alloc (.cells #[.func (.func 44) #[] #[.pointer (some ⟨w.heap.size, 0, none⟩), .pointer (some ⟨w2.heap.size, 0, none⟩)]] 64)).heap.size = w2.heap.size + 1 + 1 + 1 := by simp
  generalize ((w2.alloc (.cells #[.int .i64 0, .int .i64 0, .int .i64 0, .int .i64 0] 66)).alloc (.cells #[.int .i64 (M : Int)] 3)).alloc (.cells #[.func (.func 44) #[] #[.pointer (some ⟨w.heap.size, 0, none⟩), .pointer (some ⟨w2.heap.size, 0, none⟩)]] 64) = w3 at b0 b1 b2 bc ba hC3 hsz3 ⊢
  have hseq := turns_ranks 2 (Nat.le_refl _) (w2.heap.size + 1) (w2.heap.size + 1 + 1) w3.heap.size M w.heap.size w2.heap.size hM [w2.heap.size] (fun t => ((rC l (rSt l t) : Nat) : Int)) (fun j W => Blk W w2.heap.size ((rSt l j).map (Value.int .i64)) 66 ∧ Blk W w.heap.size [.slice A l.length cap] 23 ∧ NumsA W A w.heap.size l ∧ w.heap.size ≤ W.heap.size) (fun h => by have := List.mem_singleton.1 h; omega) (fun h => by have := List.mem_singleton.1 h; omega) (by omega) (by omega)
    (fun j W hj hS => (ranks1_any W w.heap.size w2.heap.size w.heap.size A cap l (rSt l j) HL.out (rSt_len l j) (fun x hx => by have := rSt_bound l j x hx; omega) hS.2.1 hS.2.2.1 hS.2.2.2 hS.1).mono (fun e W' h => ⟨h.1, ⟨h.2.1, h.2.2.1.blk hS.2.1 (by simp; omega), hS.2.2.1.below (h.2.2.1.to_below (B := w.heap.size) (by simp; omega) hS.2.2.2), Nat.le_trans hS.2.2.2 h.2.2.1.size⟩, h.2.2⟩))
    (fun j X Y hS hb => ⟨(hb.block _ (by omega)).trans hS.1, (hb.block _ (by omega)).trans hS.2.1, hS.2.2.1.below (hb.mono (by omega)), Nat.le_trans hS.2.2.2 hb.size⟩) w3 (Nat.le_refl _) ⟨b0, bc, ba, by omega⟩ b1 b2
  have hall := callsIn_wide.1 (all_in 3 (Nat.le_refl _) [w2.heap.size] (w2.heap.size + 1) (w2.heap.size + 1 + 1) (outs (fun t => ((rC l (rSt l t) : Nat) : Int)) M) (by rw [outs_len]; exact hM) w3 (by simp; omega) (by rw [outs_len]; exact hseq))
  have HC3 := Lib.hid hC3
  have hws : w.heap.size ≤ w3.heap.size := by omega
  have HZ := Lib.hid hsz3
  clear hseq b0 b1 b2 bc ba hC3 hsz3
  refine hall.mono ?_
  clear hall
  rintro e w4 ⟨v, rfl, hv, hc⟩
  have HV := Lib.hid (ownsRow_base hv hws)
  have HC4 := Lib.hid (HC3.out.trans' hc (by simp; omega))
  clear hv hc
  go_wp2_with fail
  go_ret2
  exact ⟨v, rfl, HV.out, HC4.out⟩

end Go.Proofs.Ytagfalnfjiodcaa
