/- What a code answers, run alone; the chapter's first example. -/
import Derived.Test.YthlhjahhjoclfaaCd23
import Derived.Test.YthlhjahhjoclfaaCd26
import Derived.Test.YthlhjahhjoclfaaArr
namespace Go.Proofs.Ythlhjahhjoclfaa
set_option maxRecDepth 100000
open Go.RowKit

def AnsPost (W : World) (bm : Nat) (l : List Ins) (M : List Int) (e : Ending) (w' : World) : Prop :=
  ∃ a0 a1 a2, ansOf l.length (run9 l M) = [a0, a1, a2] ∧ e = .returned (.agg #[.int .u64 a0, .int .u64 a1, .int .u64 a2]) ∧ Blk w' bm ((run9 l M).mem.map (Value.int .u64)) 32 ∧ Chg [bm] W w'

set_option maxHeartbeats 4000000 in
theorem answers_any (W : World) (A : Option Addr) (cap : Nat) (l : List Ins) (bm : Nat) (M0 : List Int)
    (hl : l.length ≤ 1024) (hu : ∀ i ∈ l, UseI l.length i) (hA : RdI W W.heap.size A l) (hAm : ∀ a, A = some a → a.block ∉ [bm]) (hM : M0.length ≤ 1000) (hMok : ∀ x ∈ M0, uok x) (hB : Blk W bm (M0.map (Value.int .u64)) 32) :
    Calls Try.prog 22 #[.slice A l.length cap, .slice (some ⟨bm, 0, none⟩) M0.length M0.length] W (AnsPost W bm l M0) := by
  have hal : Chg [] W (W.alloc (.cells #[.int .u64 0, .int .u64 0, .int .u64 0] 54)) := (Chg.refl [] W).alloc _
  have HA := Lib.hid (hA.chg0 hal)
  have HAm := Lib.hid hAm
  have HU := Lib.hid hu
  have HB := Lib.hid (hal.blk hB (by simp))
  have HMk := Lib.hid hMok
  have HZ := Lib.hid (Blk.new W [.int .u64 0, .int .u64 0, .int .u64 0] 54)
  have HC := Lib.hid hal
  have hbl : bm < W.heap.size := hB.lt
  clear hA hAm hu hB hMok hal
  go_enter Try.func22, Try.ntmps22
  go_wp2_with fail
  refine (Play_any _ A cap l bm M0 9 9 9 9 9 9 9 9 0 504 1 20000 hl HU.out HA.out HAm.out hM HMk.out HB.out nine_ok (by decide) (by decide) (by decide) (by decide)).mono ?_
  rintro e w1 ⟨r0, r1, r2, r3, r4, r5, r6, r7, hr, rfl, hb, _, hc⟩
  have hrun : run9 l M0 = runM l ((0 : Nat) : Int) ((504 : Nat) : Int) 20000 20001 ⟨M0, [9, 9, 9, 9, 9, 9, 9, 9], 0, false, 0, 0, false⟩ := rfl
  rw [← hrun] at hr hb ⊢
  have HR := Lib.hid hr
  have HB1 := Lib.hid hb
  have HC1 := Lib.hid ((HC.out.mono (T := [bm]) (by simp)).trans hc)
  have HZ1 := Lib.hid (hc.blk HZ.out (by simp; omega))
  have hlz : W.heap.size < w1.heap.size := HZ1.out.lt
  clear hr hb hc hrun
  have z0 : w1.cell? ⟨W.heap.size, 0, none⟩ = some (.int .u64 0) := HZ1.out.cell 0
  have z1 : w1.cell? ⟨W.heap.size, 1, none⟩ = some (.int .u64 0) := HZ1.out.cell 1
  have z2 : w1.cell? ⟨W.heap.size, 2, none⟩ = some (.int .u64 0) := HZ1.out.cell 2
  have y0 : w1.frozen? ⟨W.heap.size, 0, none⟩ = false := HZ1.out.free 0
  have y1 : w1.frozen? ⟨W.heap.size, 1, none⟩ = false := HZ1.out.free 1
  have y2 : w1.frozen? ⟨W.heap.size, 2, none⟩ = false := HZ1.out.free 2
  cases hf : fineM l.length 1 (run9 l M0)
  · have HF := Lib.hid hf
    clear hf
    have s0 := HZ1.out.set 0 (.int .u64 77)
    have s1 := s0.set 1 (.int .u64 0)
    have s2 := s1.set 2 (.int .u64 0)
    have c0 : (w1.setCell ⟨W.heap.size, 0, none⟩ (.int .u64 77)).cell? ⟨W.heap.size, 0, none⟩ = some (.int .u64 77) := s0.cell 0
    have c1 : ((w1.setCell ⟨W.heap.size, 0, none⟩ (.int .u64 77)).setCell ⟨W.heap.size, 1, none⟩ (.int .u64 0)).cell? ⟨W.heap.size, 1, none⟩ = some (.int .u64 0) := s1.cell 1
    have c2 : (((w1.setCell ⟨W.heap.size, 0, none⟩ (.int .u64 77)).setCell ⟨W.heap.size, 1, none⟩ (.int .u64 0)).setCell ⟨W.heap.size, 2, none⟩ (.int .u64 0)).cell? ⟨W.heap.size, 2, none⟩ = some (.int .u64 0) := s2.cell 2
    have HS := And.intro (Lib.hid c0) (And.intro (Lib.hid c1) (Lib.hid c2))
    clear s0 s1 s2 c0 c1 c2
    go_wp2_with fail
    refine bodyPost_ret (v := .agg #[.int .u64 77, .int .u64 0, .int .u64 0]) ?_ rfl ⟨77, 0, 0, by simp [ansOf, HF.out], rfl, ?_, ?_⟩
    · simp [results, Try.results22, go_sem, HS.1.out, HS.2.1.out, HS.2.2.out, hlz]
    · have h2 := HB1.out
      have hx : bm ≠ W.heap.size := by omega
      have hy : W.heap.size ≠ bm := Ne.symm hx
      repeat (with_reducible refine Blk.alloc ?_ _)
      exact ((h2.other (a := ⟨W.heap.size, 0, none⟩) hy _).other (a := ⟨W.heap.size, 1, none⟩) hy _).other (a := ⟨W.heap.size, 2, none⟩) hy _
    · have h2 := HC1.out
      have hb2 : ¬ W.heap.size < W.heap.size := by omega
      repeat (first | with_reducible exact h2 | with_reducible refine Chg.setCell ?_ (fun h => absurd h hb2) _ | with_reducible refine Chg.alloc ?_ _)
  · have HF := Lib.hid hf
    clear hf
    have s0 := HZ1.out.set 0 (.int .u64 r0)
    have s1 := s0.set 1 (.int .u64 r1)
    have s2 := s1.set 2 (.int .u64 r2)
    have c0 : (w1.setCell ⟨W.heap.size, 0, none⟩ (.int .u64 r0)).cell? ⟨W.heap.size, 0, none⟩ = some (.int .u64 r0) := s0.cell 0
    have c1 : ((w1.setCell ⟨W.heap.size, 0, none⟩ (.int .u64 r0)).setCell ⟨W.heap.size, 1, none⟩ (.int .u64 r1)).cell? ⟨W.heap.size, 1, none⟩ = some (.int .u64 r1) := s1.cell 1
    have c2 : (((w1.setCell ⟨W.heap.size, 0, none⟩ (.int .u64 r0)).setCell ⟨W.heap.size, 1, none⟩ (.int .u64 r1)).setCell ⟨W.heap.size, 2, none⟩ (.int .u64 r2)).cell? ⟨W.heap.size, 2, none⟩ = some (.int .u64 r2) := s2.cell 2
    have HS := And.intro (Lib.hid c0) (And.intro (Lib.hid c1) (Lib.hid c2))
    clear s0 s1 s2 c0 c1 c2
    go_wp2_with fail
    refine bodyPost_ret (v := .agg #[.int .u64 r0, .int .u64 r1, .int .u64 r2]) ?_ rfl ⟨r0, r1, r2, by simp [ansOf, HF.out, HR.out], rfl, ?_, ?_⟩
    · simp [results, Try.results22, go_sem, HS.1.out, HS.2.1.out, HS.2.2.out, hlz]
    · have h2 := HB1.out
      have hx : bm ≠ W.heap.size := by omega
      have hy : W.heap.size ≠ bm := Ne.symm hx
      repeat (with_reducible refine Blk.alloc ?_ _)
      exact ((h2.other (a := ⟨W.heap.size, 0, none⟩) hy _).other (a := ⟨W.heap.size, 1, none⟩) hy _).other (a := ⟨W.heap.size, 2, none⟩) hy _
    · have h2 := HC1.out
      have hb2 : ¬ W.heap.size < W.heap.size := by omega
      repeat (first | with_reducible exact h2 | with_reducible refine Chg.setCell ?_ (fun h => absurd h hb2) _ | with_reducible refine Chg.alloc ?_ _)
end Go.Proofs.Ythlhjahhjoclfaa
