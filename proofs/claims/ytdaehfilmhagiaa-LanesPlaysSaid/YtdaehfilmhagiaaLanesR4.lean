/- The document's control: Counts. -/
import Derived.Test.YtdaehfilmhagiaaLanesR3
namespace Go.Proofs.Ytdaehfilmhagiaa
open Go.RowKit

def arrL (ls : List Int) (k : Int) : List Value := [.int .i64 0, .int .i64 (if 1 < k then cnt ls 1 else 0), .int .i64 (if 2 < k then cnt ls 2 else 0), .int .i64 (if 3 < k then cnt ls 3 else 0), .int .i64 (if 4 < k then cnt ls 4 else 0)]
def refCountsPost (w : World) (ls : List Int) (e : Ending) (w' : World) : Prop := e = .returned (.agg #[.int .i64 0, .int .i64 (cnt ls 1), .int .i64 (cnt ls 2), .int .i64 (cnt ls 3), .int .i64 (cnt ls 4)]) ∧ Chg [] w w'

set_option maxRecDepth 100000 in
set_option maxHeartbeats 1000000 in
theorem refCounts_any (w : World) (b : Nat) (f s o lane : Int) (ls : List Int) (h : RefAt w b f s o lane ls) :
    Calls Try.prog 31 #[.pointer (some ⟨b, 0, none⟩)] w (refCountsPost w ls) := by
  go_enter Try.func31, Try.ntmps31
  go_wp2_with fail
  have kr := (Blk.new w [.int .i64 0, .int .i64 0, .int .i64 0, .int .i64 0, .int .i64 0] 35).alloc (.cells #[.int .i64 0, .int .i64 0, .int .i64 0, .int .i64 0, .int .i64 0] 35)
  have kt := Blk.new (w.alloc (.cells #[.int .i64 0, .int .i64 0, .int .i64 0, .int .i64 0, .int .i64 0] 35)) [.int .i64 0, .int .i64 0, .int .i64 0, .int .i64 0, .int .i64 0] 35
  have hC := ((Chg.refl [] w).alloc (.cells #[.int .i64 0, .int .i64 0, .int .i64 0, .int .i64 0, .int .i64 0] 35)).alloc (.cells #[.int .i64 0, .int .i64 0, .int .i64 0, .int .i64 0, .int .i64 0] 35)
  rw [World.size_alloc] at kt
  have hne : w.heap.size ≠ w.heap.size + 1 := by omega
  generalize (w.alloc (.cells #[.int .i64 0, .int .i64 0, .int .i64 0, .int .i64 0, .int .i64 0] 35)).alloc (.cells #[.int .i64 0, .int .i64 0, .int .i64 0, .int .i64 0, .int .i64 0] 35) = w0 at *
  generalize ht : w.heap.size + 1 = t at kt hne ⊢
  generalize hr : w.heap.size = r at kr hne ⊢
  have ho1 : r < w.heap.size → r ∈ ([] : List Nat) := fun h => by omega
  have ho2 : t < w.heap.size → t ∈ ([] : List Nat) := fun h => by omega
  have HO1 := Lib.hid ho1
  have HO2 := Lib.hid ho2
  clear ho1 ho2 hr ht
  go_loopw [4] (fun i wr => ∃ k : Int, (1 ≤ k ∧ k ≤ 5) ∧ i = .int .i64 k ∧ Chg [] w wr ∧ Blk wr t (arrL ls k) 35 ∧ Blk wr r [.int .i64 0, .int .i64 0, .int .i64 0, .int .i64 0, .int .i64 0] 35) (fun i _ => 5 - (intOf i).toNat)
  case atStart => exact ⟨1, by decide, rfl, hC, kt, kr⟩
  case round =>
    clear hC kt kr
    obtain ⟨k, ⟨hk1, hk5⟩, rfl, hC, kt, kr⟩ := hrel
    have hRA := h.chg hC (by simp) (by simp)
    rcases (by omega : k = 1 ∨ k = 2 ∨ k = 3 ∨ k = 4 ∨ k = 5) with rfl | rfl | rfl | rfl | rfl
    · replace kt : Blk wr t [.int .i64 0, .int .i64 0, .int .i64 0, .int .i64 0, .int .i64 0] 35 := kt
      have y := kt.cell 1
      simp only [List.getElem?_cons_zero, List.getElem?_cons_succ] at y
      have hf := kt.free
      go_wp2_with fail
      refine (Count_any _ b f s o lane 1 ls hRA).mono ?_
      rintro e w1 ⟨rfl, rfl⟩
      go_wp2_with fail
      go_roundw
      case rel => exact ⟨2, by decide, rfl, hC.setCell HO2.out _, kt.set 1 (.int .i64 (cnt ls 1)), kr.other (a := ⟨t, 1, none⟩) hne.symm _⟩
      case measure => simp [intOf]
    · replace kt : Blk wr t [.int .i64 0, .int .i64 (cnt ls 1), .int .i64 0, .int .i64 0, .int .i64 0] 35 := kt
      have y := kt.cell 2
      simp only [List.getElem?_cons_zero, List.getElem?_cons_succ] at y
      have hf := kt.free
      go_wp2_with fail
      refine (Count_any _ b f s o lane 2 ls hRA).mono ?_
      rintro e w1 ⟨rfl, rfl⟩
      go_wp2_with fail
      go_roundw
      case rel => exact ⟨3, by decide, rfl, hC.setCell HO2.out _, kt.set 2 (.int .i64 (cnt ls 2)), kr.other (a := ⟨t, 2, none⟩) hne.symm _⟩
      case measure => simp [intOf]
    · replace kt : Blk wr t [.int .i64 0, .int .i64 (cnt ls 1), .int .i64 (cnt ls 2), .int .i64 0, .int .i64 0] 35 := kt
      have y := kt.cell 3
      simp only [List.getElem?_cons_zero, List.getElem?_cons_succ] at y
      have hf := kt.free
      go_wp2_with fail
      refine (Count_any _ b f s o lane 3 ls hRA).mono ?_
      rintro e w1 ⟨rfl, rfl⟩
      go_wp2_with fail
      go_roundw
      case rel => exact ⟨4, by decide, rfl, hC.setCell HO2.out _, kt.set 3 (.int .i64 (cnt ls 3)), kr.other (a := ⟨t, 3, none⟩) hne.symm _⟩
      case measure => simp [intOf]
    · replace kt : Blk wr t [.int .i64 0, .int .i64 (cnt ls 1), .int .i64 (cnt ls 2), .int .i64 (cnt ls 3), .int .i64 0] 35 := kt
      have y := kt.cell 4
      simp only [List.getElem?_cons_zero, List.getElem?_cons_succ] at y
      have hf := kt.free
      go_wp2_with fail
      refine (Count_any _ b f s o lane 4 ls hRA).mono ?_
      rintro e w1 ⟨rfl, rfl⟩
      go_wp2_with fail
      go_roundw
      case rel => exact ⟨5, by decide, rfl, hC.setCell HO2.out _, kt.set 4 (.int .i64 (cnt ls 4)), kr.other (a := ⟨t, 4, none⟩) hne.symm _⟩
      case measure => simp [intOf]
    · replace kt : Blk wr t [.int .i64 0, .int .i64 (cnt ls 1), .int .i64 (cnt ls 2), .int .i64 (cnt ls 3), .int .i64 (cnt ls 4)] 35 := kt
      have y0 := kt.cell 0
      have y1 := kt.cell 1
      have y2 := kt.cell 2
      have y3 := kt.cell 3
      have y4 := kt.cell 4
      have r0 := kr.cell 0
      have r1 := kr.cell 1
      have r2 := kr.cell 2
      have r3 := kr.cell 3
      have r4 := kr.cell 4
      simp only [List.getElem?_cons_zero, List.getElem?_cons_succ] at y0 y1 y2 y3 y4 r0 r1 r2 r3 r4
      have hf := kr.free
      have KR := Lib.hid kr
      have HC := Lib.hid hC
      clear kt kr hRA hC h
      generalize hn1 : cnt ls 1 = n1 at *
      have HN1 := Lib.hid hn1
      clear hn1
      generalize hn2 : cnt ls 2 = n2 at *
      have HN2 := Lib.hid hn2
      clear hn2
      generalize hn3 : cnt ls 3 = n3 at *
      have HN3 := Lib.hid hn3
      clear hn3
      generalize hn4 : cnt ls 4 = n4 at *
      have HN4 := Lib.hid hn4
      clear hn4
      go_wp2_with fail
      refine bodyPost_ret (v := .agg #[.int .i64 0, .int .i64 n1, .int .i64 n2, .int .i64 n3, .int .i64 n4]) ?_ rfl ⟨by rw [HN1.out, HN2.out, HN3.out, HN4.out], ((((HC.out.setCell HO1.out _).setCell HO1.out _).setCell HO1.out _).setCell HO1.out _).setCell HO1.out _⟩
      have kf := ((((KR.out.set 0 (.int .i64 0)).set 1 (.int .i64 n1)).set 2 (.int .i64 n2)).set 3 (.int .i64 n3)).set 4 (.int .i64 n4)
      simp only [List.set_cons_zero, List.set_cons_succ] at kf
      have d0 := kf.cell 0
      have d1 := kf.cell 1
      have d2 := kf.cell 2
      have d3 := kf.cell 3
      have d4 := kf.cell 4
      clear kf
      revert d0 d1 d2 d3 d4
      generalize World.setCell _ _ _ = Wf
      intro d0 d1 d2 d3 d4
      simp at d0 d1 d2 d3 d4
      simp [results, Try.results31, go_sem, d0, d1, d2, d3, d4]

end Go.Proofs.Ytdaehfilmhagiaa
