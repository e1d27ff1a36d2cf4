/- LibsNames: the chapter's examples. -/
import Derived.Test.YthlhjahhjoclfaaCd31
import Derived.Test.YthlhjahhjoclfaaLibs4
namespace Go.Proofs.Ythlhjahhjoclfaa
set_option maxRecDepth 100000
open Go.RowKit

theorem use_of {l : List Ins} (h : useL l = true) : l.length ≤ 1024 ∧ ∀ i ∈ l, UseI l.length i := ⟨Nat.le_trans (useL_of h).1 (by decide), (useL_of h).2.2⟩
def qM0 : List Int := zeros
theorem qM0_ok : qM0.length = 504 ∧ ∀ x ∈ qM0, uok x := ⟨zeros_len, zeros_ok⟩
def qM1 : List Int := (run9 (queuePushL 0 2 7) qM0).mem
theorem qM1_ok : qM1.length = 504 ∧ ∀ x ∈ qM1, uok x := ⟨(run9_mem (use_of (use_00 0 0 2 0 7)).2 qM0_ok.2).1.trans qM0_ok.1, (run9_mem (use_of (use_00 0 0 2 0 7)).2 qM0_ok.2).2⟩
theorem qA0 : ansOf (queuePushL 0 2 7).length (run9 (queuePushL 0 2 7) qM0) = [1, 0, 0] := by kernel_rfl
def qM2 : List Int := (run9 (queuePushL 0 2 8) qM1).mem
theorem qM2_ok : qM2.length = 504 ∧ ∀ x ∈ qM2, uok x := ⟨(run9_mem (use_of (use_00 0 0 2 0 8)).2 qM1_ok.2).1.trans qM1_ok.1, (run9_mem (use_of (use_00 0 0 2 0 8)).2 qM1_ok.2).2⟩
theorem qA1 : ansOf (queuePushL 0 2 8).length (run9 (queuePushL 0 2 8) qM1) = [1, 0, 0] := by kernel_rfl
def qM3 : List Int := (run9 (queuePushL 0 2 9) qM2).mem
theorem qM3_ok : qM3.length = 504 ∧ ∀ x ∈ qM3, uok x := ⟨(run9_mem (use_of (use_00 0 0 2 0 9)).2 qM2_ok.2).1.trans qM2_ok.1, (run9_mem (use_of (use_00 0 0 2 0 9)).2 qM2_ok.2).2⟩
theorem qA2 : ansOf (queuePushL 0 2 9).length (run9 (queuePushL 0 2 9) qM2) = [0, 0, 0] := by kernel_rfl
def qM4 : List Int := (run9 (queuePopL 0 2) qM3).mem
theorem qM4_ok : qM4.length = 504 ∧ ∀ x ∈ qM4, uok x := ⟨(run9_mem (use_of (use_01 0 0 2 0 0)).2 qM3_ok.2).1.trans qM3_ok.1, (run9_mem (use_of (use_01 0 0 2 0 0)).2 qM3_ok.2).2⟩
theorem qA3 : ansOf (queuePopL 0 2).length (run9 (queuePopL 0 2) qM3) = [1, 7, 0] := by kernel_rfl
def qM5 : List Int := (run9 (queuePopL 0 2) qM4).mem
theorem qM5_ok : qM5.length = 504 ∧ ∀ x ∈ qM5, uok x := ⟨(run9_mem (use_of (use_01 0 0 2 0 0)).2 qM4_ok.2).1.trans qM4_ok.1, (run9_mem (use_of (use_01 0 0 2 0 0)).2 qM4_ok.2).2⟩
theorem qA4 : ansOf (queuePopL 0 2).length (run9 (queuePopL 0 2) qM4) = [1, 8, 0] := by kernel_rfl
def qM6 : List Int := (run9 (queuePopL 0 2) qM5).mem
theorem qM6_ok : qM6.length = 504 ∧ ∀ x ∈ qM6, uok x := ⟨(run9_mem (use_of (use_01 0 0 2 0 0)).2 qM5_ok.2).1.trans qM5_ok.1, (run9_mem (use_of (use_01 0 0 2 0 0)).2 qM5_ok.2).2⟩
theorem qA5 : ansOf (queuePopL 0 2).length (run9 (queuePopL 0 2) qM5) = [0, 0, 0] := by kernel_rfl
def hM0 : List Int := zeros
theorem hM0_ok : hM0.length = 504 ∧ ∀ x ∈ hM0, uok x := ⟨zeros_len, zeros_ok⟩
def hM1 : List Int := (run9 (hashPutL 0 1 1 5 6) hM0).mem
theorem hM1_ok : hM1.length = 504 ∧ ∀ x ∈ hM1, uok x := ⟨(run9_mem (use_of (use_10 0 1 1 5 6)).2 hM0_ok.2).1.trans hM0_ok.1, (run9_mem (use_of (use_10 0 1 1 5 6)).2 hM0_ok.2).2⟩
theorem hA0 : ansOf (hashPutL 0 1 1 5 6).length (run9 (hashPutL 0 1 1 5 6) hM0) = [1, 0, 0] := by kernel_rfl
def hM2 : List Int := (run9 (hashPutL 0 1 1 5 7) hM1).mem
theorem hM2_ok : hM2.length = 504 ∧ ∀ x ∈ hM2, uok x := ⟨(run9_mem (use_of (use_10 0 1 1 5 7)).2 hM1_ok.2).1.trans hM1_ok.1, (run9_mem (use_of (use_10 0 1 1 5 7)).2 hM1_ok.2).2⟩
theorem hA1 : ansOf (hashPutL 0 1 1 5 7).length (run9 (hashPutL 0 1 1 5 7) hM1) = [2, 6, 0] := by kernel_rfl
def hM3 : List Int := (run9 (hashPutL 0 1 1 6 1) hM2).mem
theorem hM3_ok : hM3.length = 504 ∧ ∀ x ∈ hM3, uok x := ⟨(run9_mem (use_of (use_10 0 1 1 6 1)).2 hM2_ok.2).1.trans hM2_ok.1, (run9_mem (use_of (use_10 0 1 1 6 1)).2 hM2_ok.2).2⟩
theorem hA2 : ansOf (hashPutL 0 1 1 6 1).length (run9 (hashPutL 0 1 1 6 1) hM2) = [0, 0, 0] := by kernel_rfl
def hM4 : List Int := (run9 (hashCutL 0 1 1 5) hM3).mem
theorem hM4_ok : hM4.length = 504 ∧ ∀ x ∈ hM4, uok x := ⟨(run9_mem (use_of (use_12 0 1 1 5 0)).2 hM3_ok.2).1.trans hM3_ok.1, (run9_mem (use_of (use_12 0 1 1 5 0)).2 hM3_ok.2).2⟩
theorem hA3 : ansOf (hashCutL 0 1 1 5).length (run9 (hashCutL 0 1 1 5) hM3) = [1, 7, 0] := by kernel_rfl
def hM5 : List Int := (run9 (hashGetL 0 1 1 5) hM4).mem
theorem hM5_ok : hM5.length = 504 ∧ ∀ x ∈ hM5, uok x := ⟨(run9_mem (use_of (use_11 0 1 1 5 0)).2 hM4_ok.2).1.trans hM4_ok.1, (run9_mem (use_of (use_11 0 1 1 5 0)).2 hM4_ok.2).2⟩
theorem hA4 : ansOf (hashGetL 0 1 1 5).length (run9 (hashGetL 0 1 1 5) hM4) = [0, 0, 0] := by kernel_rfl
def tM0 : List Int := zeros
theorem tM0_ok : tM0.length = 504 ∧ ∀ x ∈ tM0, uok x := ⟨zeros_len, zeros_ok⟩
def tM1 : List Int := (run9 (treePutL 0 3 5 1) tM0).mem
theorem tM1_ok : tM1.length = 504 ∧ ∀ x ∈ tM1, uok x := ⟨(run9_mem (use_of (use_20 0 0 3 5 1)).2 tM0_ok.2).1.trans tM0_ok.1, (run9_mem (use_of (use_20 0 0 3 5 1)).2 tM0_ok.2).2⟩
theorem tA0 : ansOf (treePutL 0 3 5 1).length (run9 (treePutL 0 3 5 1) tM0) = [1, 0, 0] := by kernel_rfl
def tM2 : List Int := (run9 (treePutL 0 3 18446744073709551615 2) tM1).mem
theorem tM2_ok : tM2.length = 504 ∧ ∀ x ∈ tM2, uok x := ⟨(run9_mem (use_of (use_20 0 0 3 18446744073709551615 2)).2 tM1_ok.2).1.trans tM1_ok.1, (run9_mem (use_of (use_20 0 0 3 18446744073709551615 2)).2 tM1_ok.2).2⟩
theorem tA1 : ansOf (treePutL 0 3 18446744073709551615 2).length (run9 (treePutL 0 3 18446744073709551615 2) tM1) = [1, 0, 0] := by kernel_rfl
def tM3 : List Int := (run9 (treePutL 0 3 3 4) tM2).mem
theorem tM3_ok : tM3.length = 504 ∧ ∀ x ∈ tM3, uok x := ⟨(run9_mem (use_of (use_20 0 0 3 3 4)).2 tM2_ok.2).1.trans tM2_ok.1, (run9_mem (use_of (use_20 0 0 3 3 4)).2 tM2_ok.2).2⟩
theorem tA2 : ansOf (treePutL 0 3 3 4).length (run9 (treePutL 0 3 3 4) tM2) = [1, 0, 0] := by kernel_rfl
def tM4 : List Int := (run9 (treeLeastL 0 3) tM3).mem
theorem tM4_ok : tM4.length = 504 ∧ ∀ x ∈ tM4, uok x := ⟨(run9_mem (use_of (use_23 0 0 3 0 0)).2 tM3_ok.2).1.trans tM3_ok.1, (run9_mem (use_of (use_23 0 0 3 0 0)).2 tM3_ok.2).2⟩
theorem tA3 : ansOf (treeLeastL 0 3).length (run9 (treeLeastL 0 3) tM3) = [1, 3, 4] := by kernel_rfl
def tM5 : List Int := (run9 (treeCutL 0 3 3) tM4).mem
theorem tM5_ok : tM5.length = 504 ∧ ∀ x ∈ tM5, uok x := ⟨(run9_mem (use_of (use_22 0 0 3 3 0)).2 tM4_ok.2).1.trans tM4_ok.1, (run9_mem (use_of (use_22 0 0 3 3 0)).2 tM4_ok.2).2⟩
theorem tA4 : ansOf (treeCutL 0 3 3).length (run9 (treeCutL 0 3 3) tM4) = [1, 4, 0] := by kernel_rfl
def tM6 : List Int := (run9 (treeLeastL 0 3) tM5).mem
theorem tM6_ok : tM6.length = 504 ∧ ∀ x ∈ tM6, uok x := ⟨(run9_mem (use_of (use_23 0 0 3 0 0)).2 tM5_ok.2).1.trans tM5_ok.1, (run9_mem (use_of (use_23 0 0 3 0 0)).2 tM5_ok.2).2⟩
theorem tA5 : ansOf (treeLeastL 0 3).length (run9 (treeLeastL 0 3) tM5) = [1, 5, 1] := by kernel_rfl
def tM7 : List Int := (run9 (treeGetL 0 3 18446744073709551615) tM6).mem
theorem tM7_ok : tM7.length = 504 ∧ ∀ x ∈ tM7, uok x := ⟨(run9_mem (use_of (use_21 0 0 3 18446744073709551615 0)).2 tM6_ok.2).1.trans tM6_ok.1, (run9_mem (use_of (use_21 0 0 3 18446744073709551615 0)).2 tM6_ok.2).2⟩
theorem tA6 : ansOf (treeGetL 0 3 18446744073709551615).length (run9 (treeGetL 0 3 18446744073709551615) tM6) = [1, 2, 0] := by kernel_rfl

/-- A code that is held on to beside one memory. -/
def Held (w : World) (A : Option Addr) (b : Nat) (l : List Ins) : Prop := RdI w w.heap.size A l ∧ ∀ a, A = some a → a.block ∉ [b]
theorem Held.look {w w' : World} {A : Option Addr} {b : Nat} {l : List Ins} (h : Held w A b l) (k : Chg [] w w') : Held w' A b l := ⟨h.1.chg0 k, h.2⟩
theorem Held.ran {w w' : World} {A : Option Addr} {b : Nat} {l : List Ins} (h : Held w A b l) (k : Chg [b] w w') : Held w' A b l := ⟨h.1.chg k h.2, h.2⟩
theorem held_of {w w' : World} {v : Value} {b : Nat} {l : List Ins} (hr : w'.ownsRow w.heap.size 25 5 v l.length (l.flatMap encI)) (hb : b < w.heap.size) : ∃ A c, v = .slice A l.length c ∧ Held w' A b l := by
  obtain ⟨A, c, e, h1, h2⟩ := row_slice (bm := b) hr hb
  exact ⟨A, c, e, h1, h2⟩
def QR (W : World) (bq lb : Nat) (okv i : Value) (wr : World) : Prop :=
  okv = .bool true ∧ Chg [] W wr ∧ Blk wr lb [.int .u64 7, .int .u64 8, .int .u64 9] 32 ∧
    ((i = .int .i64 0 ∧ Blk wr bq (qM0.map (Value.int .u64)) 32) ∨ (i = .int .i64 1 ∧ Blk wr bq (qM1.map (Value.int .u64)) 32) ∨ (i = .int .i64 2 ∧ Blk wr bq (qM2.map (Value.int .u64)) 32) ∨ (i = .int .i64 3 ∧ Blk wr bq (qM3.map (Value.int .u64)) 32))

set_option maxHeartbeats 8000000 in
theorem LibsNames_any (W : World) : Calls Try.prog 7 #[] W (StaysPost W) := by
  have hmk := make_zeros
  have hq := eq_three
  have q0 : eqInts [1, 0, 0] [1, 0, 0] = true := by decide
  have q1 : eqInts [0, 0, 0] [1, 0, 0] = false := by decide
  have q2 : eqInts [0, 0, 0] [0, 0, 0] = true := by decide
  have q3 : eqInts [1, 7, 0] [1, 7, 0] = true := by decide
  have q4 : eqInts [1, 8, 0] [1, 8, 0] = true := by decide
  have q5 : eqInts [2, 6, 0] [2, 6, 0] = true := by decide
  have q6 : eqInts [1, 3, 4] [1, 3, 4] = true := by decide
  have q7 : eqInts [1, 4, 0] [1, 4, 0] = true := by decide
  have q8 : eqInts [1, 5, 1] [1, 5, 1] = true := by decide
  have q9 : eqInts [1, 2, 0] [1, 2, 0] = true := by decide
  obtain ⟨bq, hbq⟩ : ∃ b, W.heap.size = b := ⟨_, rfl⟩
  have HB := Lib.hid (Blk.new W (zeros.map (Value.int .u64)) 32)
  have HC := Lib.hid ((Chg.refl [] W).alloc (.cells (zeros.map (Value.int .u64)).toArray 32))
  go_enter Try.func7, Try.ntmps7
  go_wp2_with fail
  refine (alive_any _).mono ?_
  rintro e w1 ⟨rfl, hx⟩
  replace HB := Lib.hid (hx.blk HB.out (by simp))
  replace HC := Lib.hid (HC.out.trans hx)
  have HG : Hid (W.heap.size ≤ bq) := Lib.hid (by omega)
  rw [hbq] at HB
  clear hx hbq
  have HBl := Lib.hid (Blk.new w1 [.int .u64 7, .int .u64 8, .int .u64 9] 32)
  have hX := (Chg.refl [] w1).alloc (.cells #[.int .u64 7, .int .u64 8, .int .u64 9] 32)
  replace HB := Lib.hid (hX.blk HB.out (by simp))
  replace HC := Lib.hid (HC.out.trans hX)
  have HN := Lib.hid (show bq ≠ w1.heap.size from by have := HB.out.lt; have h2 := (show bq < w1.heap.size + 1 from by simpa using this); intro e; subst e; have := HB.out.symm.trans HBl.out; simp at this; exact absurd (congrArg List.length this) (by simp [zeros]))
  clear hX
  go_wp2_with fail
  go_loopw [2, 35] (fun okv i wr => QR W bq w1.heap.size okv i wr) (fun _ i _ => 3 - (intOf i).toNat)
  case atStart => exact ⟨rfl, HC.out, HBl.out, .inl ⟨rfl, HB.out⟩⟩
  case round =>
    clear HB HC HBl
    obtain ⟨rfl, hC, hBl, hcase⟩ := hrel
    have HC := Lib.hid hC
    have HBl := Lib.hid hBl
    have l0 := hBl.cell 0
    have l1 := hBl.cell 1
    have l2 := hBl.cell 2
    simp only [List.getElem?_cons_zero, List.getElem?_cons_succ] at l0 l1 l2
    clear hC hBl
    rcases hcase with ⟨rfl, hB⟩ | ⟨rfl, hB⟩ | ⟨rfl, hB⟩ | ⟨rfl, hB⟩
    · have HB := Lib.hid hB
      clear hB
      go_wp2_with fail
      refine (QueuePush_yes _ 0 2 7 (by decide) (by decide) (by decide)).mono ?_
      rintro e w2 ⟨v1, rfl, hr, hx⟩
      obtain ⟨A1, c1, rfl, hA1⟩ := held_of hr HB.out.lt
      have HA1 := Lib.hid hA1
      replace HB := Lib.hid (hx.blk HB.out (by simp))
      replace HBl := Lib.hid (hx.blk HBl.out (by simp))
      replace HC := Lib.hid (HC.out.trans hx)
      clear hr hA1 hx
      go_wp2_with fail
      refine (answers_504 _ A1 c1 (queuePushL 0 2 7) bq qM0 qM0_ok.1 (use_of (use_00 0 0 2 0 7)).1 (use_of (use_00 0 0 2 0 7)).2 HA1.out.1 HA1.out.2 qM0_ok.2 HB.out).mono ?_
      rintro e wn ⟨a0, a1, a2, ha, rfl, hb, hx⟩
      obtain ⟨rfl, rfl, rfl⟩ : a0 = 1 ∧ a1 = 0 ∧ a2 = 0 := by have := ha.symm.trans qA0; simpa using this
      replace HB : Hid (Blk wn bq (qM1.map (Value.int .u64)) 32) := Lib.hid hb
      replace HC := Lib.hid (HC.out.trans' hx (fun x hx hl => by simp at hx; subst hx; have := HG.out; omega))
      replace HBl := Lib.hid (hx.blk HBl.out (by simpa using HN.out.symm))
      clear ha hb hx
      go_wp2_with fail
      go_roundw
      case rel => exact ⟨rfl, HC.out.alloc _, HBl.out.alloc _, .inr (.inl ⟨rfl, HB.out.alloc _⟩)⟩
      case measure => simp [intOf]
    · have HB := Lib.hid hB
      clear hB
      go_wp2_with fail
      refine (QueuePush_yes _ 0 2 8 (by decide) (by decide) (by decide)).mono ?_
      rintro e w2 ⟨v1, rfl, hr, hx⟩
      obtain ⟨A1, c1, rfl, hA1⟩ := held_of hr HB.out.lt
      have HA1 := Lib.hid hA1
      replace HB := Lib.hid (hx.blk HB.out (by simp))
      replace HBl := Lib.hid (hx.blk HBl.out (by simp))
      replace HC := Lib.hid (HC.out.trans hx)
      clear hr hA1 hx
      go_wp2_with fail
      refine (answers_504 _ A1 c1 (queuePushL 0 2 8) bq qM1 qM1_ok.1 (use_of (use_00 0 0 2 0 8)).1 (use_of (use_00 0 0 2 0 8)).2 HA1.out.1 HA1.out.2 qM1_ok.2 HB.out).mono ?_
      rintro e wn ⟨a0, a1, a2, ha, rfl, hb, hx⟩
      obtain ⟨rfl, rfl, rfl⟩ : a0 = 1 ∧ a1 = 0 ∧ a2 = 0 := by have := ha.symm.trans qA1; simpa using this
      replace HB : Hid (Blk wn bq (qM2.map (Value.int .u64)) 32) := Lib.hid hb
      replace HC := Lib.hid (HC.out.trans' hx (fun x hx hl => by simp at hx; subst hx; have := HG.out; omega))
      replace HBl := Lib.hid (hx.blk HBl.out (by simpa using HN.out.symm))
      clear ha hb hx
      go_wp2_with fail
      go_roundw
      case rel => exact ⟨rfl, HC.out.alloc _, HBl.out.alloc _, .inr (.inr (.inl ⟨rfl, HB.out.alloc _⟩))⟩
      case measure => simp [intOf]
    · have HB := Lib.hid hB
      clear hB
      go_wp2_with fail
      refine (QueuePush_yes _ 0 2 9 (by decide) (by decide) (by decide)).mono ?_
      rintro e w2 ⟨v1, rfl, hr, hx⟩
      obtain ⟨A1, c1, rfl, hA1⟩ := held_of hr HB.out.lt
      have HA1 := Lib.hid hA1
      replace HB := Lib.hid (hx.blk HB.out (by simp))
      replace HBl := Lib.hid (hx.blk HBl.out (by simp))
      replace HC := Lib.hid (HC.out.trans hx)
      clear hr hA1 hx
      go_wp2_with fail
      refine (answers_504 _ A1 c1 (queuePushL 0 2 9) bq qM2 qM2_ok.1 (use_of (use_00 0 0 2 0 9)).1 (use_of (use_00 0 0 2 0 9)).2 HA1.out.1 HA1.out.2 qM2_ok.2 HB.out).mono ?_
      rintro e wn ⟨a0, a1, a2, ha, rfl, hb, hx⟩
      obtain ⟨rfl, rfl, rfl⟩ : a0 = 0 ∧ a1 = 0 ∧ a2 = 0 := by have := ha.symm.trans qA2; simpa using this
      replace HB : Hid (Blk wn bq (qM3.map (Value.int .u64)) 32) := Lib.hid hb
      replace HC := Lib.hid (HC.out.trans' hx (fun x hx hl => by simp at hx; subst hx; have := HG.out; omega))
      replace HBl := Lib.hid (hx.blk HBl.out (by simpa using HN.out.symm))
      clear ha hb hx
      go_wp2_with fail
      go_roundw
      case rel => exact ⟨rfl, HC.out.alloc _, HBl.out.alloc _, .inr (.inr (.inr ⟨rfl, HB.out.alloc _⟩))⟩
      case measure => simp [intOf]
    · have HB := Lib.hid hB
      clear hB l0 l1 l2 HBl HN
      go_wp2_with fail
      refine (QueuePop_yes _ 0 2 (by decide)).mono ?_
      rintro e w2 ⟨v1, rfl, hr, hx⟩
      obtain ⟨A1, c1, rfl, hA1⟩ := held_of hr HB.out.lt
      have HA1 := Lib.hid hA1
      replace HB := Lib.hid (hx.blk HB.out (by simp))
      replace HC := Lib.hid (HC.out.trans hx)
      clear hr hA1 hx
      go_wp2_with fail
      refine (answers_504 _ A1 c1 (queuePopL 0 2) bq qM3 qM3_ok.1 (use_of (use_01 0 0 2 0 0)).1 (use_of (use_01 0 0 2 0 0)).2 HA1.out.1 HA1.out.2 qM3_ok.2 HB.out).mono ?_
      rintro e wn ⟨a0, a1, a2, ha, rfl, hb, hx⟩
      obtain ⟨rfl, rfl, rfl⟩ : a0 = 1 ∧ a1 = 7 ∧ a2 = 0 := by have := ha.symm.trans qA3; simpa using this
      replace HB : Hid (Blk wn bq (qM4.map (Value.int .u64)) 32) := Lib.hid hb
      replace HC := Lib.hid (HC.out.trans' hx (fun x hx hl => by simp at hx; subst hx; have := HG.out; omega))
      replace HA1 := Lib.hid (HA1.out.ran hx)
      clear ha hb hx
      go_wp2_with fail
      refine (answers_504 _ A1 c1 (queuePopL 0 2) bq qM4 qM4_ok.1 (use_of (use_01 0 0 2 0 0)).1 (use_of (use_01 0 0 2 0 0)).2 HA1.out.1 HA1.out.2 qM4_ok.2 HB.out).mono ?_
      rintro e wn ⟨a0, a1, a2, ha, rfl, hb, hx⟩
      obtain ⟨rfl, rfl, rfl⟩ : a0 = 1 ∧ a1 = 8 ∧ a2 = 0 := by have := ha.symm.trans qA4; simpa using this
      replace HB : Hid (Blk wn bq (qM5.map (Value.int .u64)) 32) := Lib.hid hb
      replace HC := Lib.hid (HC.out.trans' hx (fun x hx hl => by simp at hx; subst hx; have := HG.out; omega))
      replace HA1 := Lib.hid (HA1.out.ran hx)
      clear ha hb hx
      go_wp2_with fail
      refine (answers_504 _ A1 c1 (queuePopL 0 2) bq qM5 qM5_ok.1 (use_of (use_01 0 0 2 0 0)).1 (use_of (use_01 0 0 2 0 0)).2 HA1.out.1 HA1.out.2 qM5_ok.2 HB.out).mono ?_
      rintro e wn ⟨a0, a1, a2, ha, rfl, hb, hx⟩
      obtain ⟨rfl, rfl, rfl⟩ : a0 = 0 ∧ a1 = 0 ∧ a2 = 0 := by have := ha.symm.trans qA5; simpa using this
      replace HB : Hid (Blk wn bq (qM6.map (Value.int .u64)) 32) := Lib.hid hb
      replace HC := Lib.hid (HC.out.trans' hx (fun x hx hl => by simp at hx; subst hx; have := HG.out; omega))
      replace HA1 := Lib.hid (HA1.out.ran hx)
      clear ha hb hx
      clear HA1 HB HG
      have HWn := Lib.hid HC.out.size
      obtain ⟨bh, hbh⟩ : ∃ b, wn.heap.size = b := ⟨_, rfl⟩
      have HB := Lib.hid ((Blk.new wn (zeros.map (Value.int .u64)) 32).alloc (.cells #[.slice (some ⟨wn.heap.size, 0, none⟩) 504 504] 50))
      have HX := Lib.hid (Blk.new (wn.alloc (.cells (zeros.map (Value.int .u64)).toArray 32)) [.slice (some ⟨wn.heap.size, 0, none⟩) 504 504] 50)
      replace HC := Lib.hid ((HC.out.alloc (.cells (zeros.map (Value.int .u64)).toArray 32)).alloc (.cells #[.slice (some ⟨wn.heap.size, 0, none⟩) 504 504] 50))
      have HG : Hid (W.heap.size ≤ bh) := Lib.hid (by rw [← hbh]; exact HWn.out)
      simp only [World.size_alloc] at HX
      rw [hbh] at HB HX HC
      have HNe : Hid (bh + 1 ≠ bh) := Lib.hid (by omega)
      go_wp2_with fail
      try clear hbh
      refine (HashCut_yes _ 0 1 1 5 (by decide) (by decide) (by decide)).mono ?_
      rintro e w2 ⟨v1, rfl, hr, hx⟩
      obtain ⟨Acut, ccut, rfl, hA1⟩ := held_of (b := bh) hr HB.out.lt
      have Hcut := Lib.hid hA1
      replace HB := Lib.hid (hx.blk HB.out (by simp))
      replace HX := Lib.hid (hx.blk HX.out (by simp))
      replace HC := Lib.hid (HC.out.trans hx)
      have kb := HX.out.cell 0
      simp only [List.getElem?_cons_zero] at kb
      clear hr hA1 hx
      go_wp2_with fail
      clear kb
      refine (HashGet_yes _ 0 1 1 5 (by decide) (by decide) (by decide)).mono ?_
      rintro e w2 ⟨v1, rfl, hr, hx⟩
      obtain ⟨Aget, cget, rfl, hA1⟩ := held_of (b := bh) hr HB.out.lt
      have Hget := Lib.hid hA1
      replace Hcut := Lib.hid (Hcut.out.look hx)
      replace HB := Lib.hid (hx.blk HB.out (by simp))
      replace HX := Lib.hid (hx.blk HX.out (by simp))
      replace HC := Lib.hid (HC.out.trans hx)
      have kb := HX.out.cell 0
      simp only [List.getElem?_cons_zero] at kb
      clear hr hA1 hx
      go_wp2_with fail
      clear kb
      refine (put1_any _ (bh + 1) bh hM0 5 6 (by decide) (by decide) (by decide) (by decide) hM0_ok.1 hM0_ok.2 HB.out HX.out).mono ?_
      rintro e wn ⟨a0, a1, a2, ha, rfl, hb, hx⟩
      obtain ⟨rfl, rfl, rfl⟩ : a0 = 1 ∧ a1 = 0 ∧ a2 = 0 := by have := ha.symm.trans hA0; simpa using this
      replace HB : Hid (Blk wn bh (hM1.map (Value.int .u64)) 32) := Lib.hid hb
      replace HX := Lib.hid (hx.blk HX.out (by simp))
      replace HC := Lib.hid (HC.out.trans' hx (fun x hx hl => by simp at hx; subst hx; have := HG.out; omega))
      replace Hcut := Lib.hid (Hcut.out.ran hx)
      replace Hget := Lib.hid (Hget.out.ran hx)
      have kb : wn.cell? ⟨bh + 1, 0, none⟩ = some (.slice (some ⟨bh, 0, none⟩) 504 504) := HX.out.cell 0
      clear ha hb hx
      go_wp2_with fail
      clear kb
      refine (put1_any _ (bh + 1) bh hM1 5 7 (by decide) (by decide) (by decide) (by decide) hM1_ok.1 hM1_ok.2 HB.out HX.out).mono ?_
      rintro e wn ⟨a0, a1, a2, ha, rfl, hb, hx⟩
      obtain ⟨rfl, rfl, rfl⟩ : a0 = 2 ∧ a1 = 6 ∧ a2 = 0 := by have := ha.symm.trans hA1; simpa using this
      replace HB : Hid (Blk wn bh (hM2.map (Value.int .u64)) 32) := Lib.hid hb
      replace HX := Lib.hid (hx.blk HX.out (by simp))
      replace HC := Lib.hid (HC.out.trans' hx (fun x hx hl => by simp at hx; subst hx; have := HG.out; omega))
      replace Hcut := Lib.hid (Hcut.out.ran hx)
      replace Hget := Lib.hid (Hget.out.ran hx)
      have kb : wn.cell? ⟨bh + 1, 0, none⟩ = some (.slice (some ⟨bh, 0, none⟩) 504 504) := HX.out.cell 0
      clear ha hb hx
      go_wp2_with fail
      clear kb
      refine (put1_any _ (bh + 1) bh hM2 6 1 (by decide) (by decide) (by decide) (by decide) hM2_ok.1 hM2_ok.2 HB.out HX.out).mono ?_
      rintro e wn ⟨a0, a1, a2, ha, rfl, hb, hx⟩
      obtain ⟨rfl, rfl, rfl⟩ : a0 = 0 ∧ a1 = 0 ∧ a2 = 0 := by have := ha.symm.trans hA2; simpa using this
      replace HB : Hid (Blk wn bh (hM3.map (Value.int .u64)) 32) := Lib.hid hb
      replace HX := Lib.hid (hx.blk HX.out (by simp))
      replace HC := Lib.hid (HC.out.trans' hx (fun x hx hl => by simp at hx; subst hx; have := HG.out; omega))
      replace Hcut := Lib.hid (Hcut.out.ran hx)
      replace Hget := Lib.hid (Hget.out.ran hx)
      have kb : wn.cell? ⟨bh + 1, 0, none⟩ = some (.slice (some ⟨bh, 0, none⟩) 504 504) := HX.out.cell 0
      clear ha hb hx
      go_wp2_with fail
      clear kb
      refine (answers_504 _ Acut ccut (hashCutL 0 1 1 5) bh hM3 hM3_ok.1 (use_of (use_12 0 1 1 5 0)).1 (use_of (use_12 0 1 1 5 0)).2 Hcut.out.1 Hcut.out.2 hM3_ok.2 HB.out).mono ?_
      rintro e wn ⟨a0, a1, a2, ha, rfl, hb, hx⟩
      obtain ⟨rfl, rfl, rfl⟩ : a0 = 1 ∧ a1 = 7 ∧ a2 = 0 := by have := ha.symm.trans hA3; simpa using this
      replace HB : Hid (Blk wn bh (hM4.map (Value.int .u64)) 32) := Lib.hid hb
      replace HX := Lib.hid (hx.blk HX.out (by simp))
      replace HC := Lib.hid (HC.out.trans' hx (fun x hx hl => by simp at hx; subst hx; have := HG.out; omega))
      replace Hcut := Lib.hid (Hcut.out.ran hx)
      replace Hget := Lib.hid (Hget.out.ran hx)
      have kb : wn.cell? ⟨bh + 1, 0, none⟩ = some (.slice (some ⟨bh, 0, none⟩) 504 504) := HX.out.cell 0
      clear ha hb hx
      go_wp2_with fail
      clear kb
      refine (answers_504 _ Aget cget (hashGetL 0 1 1 5) bh hM4 hM4_ok.1 (use_of (use_11 0 1 1 5 0)).1 (use_of (use_11 0 1 1 5 0)).2 Hget.out.1 Hget.out.2 hM4_ok.2 HB.out).mono ?_
      rintro e wn ⟨a0, a1, a2, ha, rfl, hb, hx⟩
      obtain ⟨rfl, rfl, rfl⟩ : a0 = 0 ∧ a1 = 0 ∧ a2 = 0 := by have := ha.symm.trans hA4; simpa using this
      replace HB : Hid (Blk wn bh (hM5.map (Value.int .u64)) 32) := Lib.hid hb
      replace HX := Lib.hid (hx.blk HX.out (by simp))
      replace HC := Lib.hid (HC.out.trans' hx (fun x hx hl => by simp at hx; subst hx; have := HG.out; omega))
      replace Hcut := Lib.hid (Hcut.out.ran hx)
      replace Hget := Lib.hid (Hget.out.ran hx)
      have kb : wn.cell? ⟨bh + 1, 0, none⟩ = some (.slice (some ⟨bh, 0, none⟩) 504 504) := HX.out.cell 0
      clear ha hb hx
      clear kb Hcut Hget
      clear HB HG HX HNe
      have HWn := Lib.hid HC.out.size
      obtain ⟨bt, hbt⟩ : ∃ b, wn.heap.size = b := ⟨_, rfl⟩
      have HB := Lib.hid ((Blk.new wn (zeros.map (Value.int .u64)) 32).alloc (.cells #[.slice (some ⟨wn.heap.size, 0, none⟩) 504 504] 50))
      have HX := Lib.hid (Blk.new (wn.alloc (.cells (zeros.map (Value.int .u64)).toArray 32)) [.slice (some ⟨wn.heap.size, 0, none⟩) 504 504] 50)
      replace HC := Lib.hid ((HC.out.alloc (.cells (zeros.map (Value.int .u64)).toArray 32)).alloc (.cells #[.slice (some ⟨wn.heap.size, 0, none⟩) 504 504] 50))
      have HG : Hid (W.heap.size ≤ bt) := Lib.hid (by rw [← hbt]; exact HWn.out)
      simp only [World.size_alloc] at HX
      rw [hbt] at HB HX HC
      have HNe : Hid (bt + 1 ≠ bt) := Lib.hid (by omega)
      go_wp2_with fail
      try clear hbt
      refine (TreeLeast_yes _ 0 3 (by decide)).mono ?_
      rintro e w2 ⟨v1, rfl, hr, hx⟩
      obtain ⟨Alst, clst, rfl, hA1⟩ := held_of (b := bt) hr HB.out.lt
      have Hlst := Lib.hid hA1
      replace HB := Lib.hid (hx.blk HB.out (by simp))
      replace HX := Lib.hid (hx.blk HX.out (by simp))
      replace HC := Lib.hid (HC.out.trans hx)
      have kb := HX.out.cell 0
      simp only [List.getElem?_cons_zero] at kb
      clear hr hA1 hx
      go_wp2_with fail
      clear kb
      refine (TreeCut_yes _ 0 3 3 (by decide) (by decide) (by decide)).mono ?_
      rintro e w2 ⟨v1, rfl, hr, hx⟩
      obtain ⟨Aout, cout, rfl, hA1⟩ := held_of (b := bt) hr HB.out.lt
      have Hout := Lib.hid hA1
      replace Hlst := Lib.hid (Hlst.out.look hx)
      replace HB := Lib.hid (hx.blk HB.out (by simp))
      replace HX := Lib.hid (hx.blk HX.out (by simp))
      replace HC := Lib.hid (HC.out.trans hx)
      have kb := HX.out.cell 0
      simp only [List.getElem?_cons_zero] at kb
      clear hr hA1 hx
      go_wp2_with fail
      clear kb
      refine (TreeGet_yes _ 0 3 18446744073709551615 (by decide) (by decide) (by decide)).mono ?_
      rintro e w2 ⟨v1, rfl, hr, hx⟩
      obtain ⟨Asee, csee, rfl, hA1⟩ := held_of (b := bt) hr HB.out.lt
      have Hsee := Lib.hid hA1
      replace Hlst := Lib.hid (Hlst.out.look hx)
      replace Hout := Lib.hid (Hout.out.look hx)
      replace HB := Lib.hid (hx.blk HB.out (by simp))
      replace HX := Lib.hid (hx.blk HX.out (by simp))
      replace HC := Lib.hid (HC.out.trans hx)
      have kb := HX.out.cell 0
      simp only [List.getElem?_cons_zero] at kb
      clear hr hA1 hx
      go_wp2_with fail
      clear kb
      refine (tie1_any _ (bt + 1) bt tM0 5 1 (by decide) (by decide) (by decide) (by decide) tM0_ok.1 tM0_ok.2 HB.out HX.out).mono ?_
      rintro e wn ⟨a0, a1, a2, ha, rfl, hb, hx⟩
      obtain ⟨rfl, rfl, rfl⟩ : a0 = 1 ∧ a1 = 0 ∧ a2 = 0 := by have := ha.symm.trans tA0; simpa using this
      replace HB : Hid (Blk wn bt (tM1.map (Value.int .u64)) 32) := Lib.hid hb
      replace HX := Lib.hid (hx.blk HX.out (by simp))
      replace HC := Lib.hid (HC.out.trans' hx (fun x hx hl => by simp at hx; subst hx; have := HG.out; omega))
      replace Hlst := Lib.hid (Hlst.out.ran hx)
      replace Hout := Lib.hid (Hout.out.ran hx)
      replace Hsee := Lib.hid (Hsee.out.ran hx)
      have kb : wn.cell? ⟨bt + 1, 0, none⟩ = some (.slice (some ⟨bt, 0, none⟩) 504 504) := HX.out.cell 0
      clear ha hb hx
      go_wp2_with fail
      clear kb
      refine (tie1_any _ (bt + 1) bt tM1 18446744073709551615 2 (by decide) (by decide) (by decide) (by decide) tM1_ok.1 tM1_ok.2 HB.out HX.out).mono ?_
      rintro e wn ⟨a0, a1, a2, ha, rfl, hb, hx⟩
      obtain ⟨rfl, rfl, rfl⟩ : a0 = 1 ∧ a1 = 0 ∧ a2 = 0 := by have := ha.symm.trans tA1; simpa using this
      replace HB : Hid (Blk wn bt (tM2.map (Value.int .u64)) 32) := Lib.hid hb
      replace HX := Lib.hid (hx.blk HX.out (by simp))
      replace HC := Lib.hid (HC.out.trans' hx (fun x hx hl => by simp at hx; subst hx; have := HG.out; omega))
      replace Hlst := Lib.hid (Hlst.out.ran hx)
      replace Hout := Lib.hid (Hout.out.ran hx)
      replace Hsee := Lib.hid (Hsee.out.ran hx)
      have kb : wn.cell? ⟨bt + 1, 0, none⟩ = some (.slice (some ⟨bt, 0, none⟩) 504 504) := HX.out.cell 0
      clear ha hb hx
      go_wp2_with fail
      clear kb
      refine (tie1_any _ (bt + 1) bt tM2 3 4 (by decide) (by decide) (by decide) (by decide) tM2_ok.1 tM2_ok.2 HB.out HX.out).mono ?_
      rintro e wn ⟨a0, a1, a2, ha, rfl, hb, hx⟩
      obtain ⟨rfl, rfl, rfl⟩ : a0 = 1 ∧ a1 = 0 ∧ a2 = 0 := by have := ha.symm.trans tA2; simpa using this
      replace HB : Hid (Blk wn bt (tM3.map (Value.int .u64)) 32) := Lib.hid hb
      replace HX := Lib.hid (hx.blk HX.out (by simp))
      replace HC := Lib.hid (HC.out.trans' hx (fun x hx hl => by simp at hx; subst hx; have := HG.out; omega))
      replace Hlst := Lib.hid (Hlst.out.ran hx)
      replace Hout := Lib.hid (Hout.out.ran hx)
      replace Hsee := Lib.hid (Hsee.out.ran hx)
      have kb : wn.cell? ⟨bt + 1, 0, none⟩ = some (.slice (some ⟨bt, 0, none⟩) 504 504) := HX.out.cell 0
      clear ha hb hx
      go_wp2_with fail
      clear kb
      refine (answers_504 _ Alst clst (treeLeastL 0 3) bt tM3 tM3_ok.1 (use_of (use_23 0 0 3 0 0)).1 (use_of (use_23 0 0 3 0 0)).2 Hlst.out.1 Hlst.out.2 tM3_ok.2 HB.out).mono ?_
      rintro e wn ⟨a0, a1, a2, ha, rfl, hb, hx⟩
      obtain ⟨rfl, rfl, rfl⟩ : a0 = 1 ∧ a1 = 3 ∧ a2 = 4 := by have := ha.symm.trans tA3; simpa using this
      replace HB : Hid (Blk wn bt (tM4.map (Value.int .u64)) 32) := Lib.hid hb
      replace HX := Lib.hid (hx.blk HX.out (by simp))
      replace HC := Lib.hid (HC.out.trans' hx (fun x hx hl => by simp at hx; subst hx; have := HG.out; omega))
      replace Hlst := Lib.hid (Hlst.out.ran hx)
      replace Hout := Lib.hid (Hout.out.ran hx)
      replace Hsee := Lib.hid (Hsee.out.ran hx)
      have kb : wn.cell? ⟨bt + 1, 0, none⟩ = some (.slice (some ⟨bt, 0, none⟩) 504 504) := HX.out.cell 0
      clear ha hb hx
      go_wp2_with fail
      clear kb
      refine (answers_504 _ Aout cout (treeCutL 0 3 3) bt tM4 tM4_ok.1 (use_of (use_22 0 0 3 3 0)).1 (use_of (use_22 0 0 3 3 0)).2 Hout.out.1 Hout.out.2 tM4_ok.2 HB.out).mono ?_
      rintro e wn ⟨a0, a1, a2, ha, rfl, hb, hx⟩
      obtain ⟨rfl, rfl, rfl⟩ : a0 = 1 ∧ a1 = 4 ∧ a2 = 0 := by have := ha.symm.trans tA4; simpa using this
      replace HB : Hid (Blk wn bt (tM5.map (Value.int .u64)) 32) := Lib.hid hb
      replace HX := Lib.hid (hx.blk HX.out (by simp))
      replace HC := Lib.hid (HC.out.trans' hx (fun x hx hl => by simp at hx; subst hx; have := HG.out; omega))
      replace Hlst := Lib.hid (Hlst.out.ran hx)
      replace Hout := Lib.hid (Hout.out.ran hx)
      replace Hsee := Lib.hid (Hsee.out.ran hx)
      have kb : wn.cell? ⟨bt + 1, 0, none⟩ = some (.slice (some ⟨bt, 0, none⟩) 504 504) := HX.out.cell 0
      clear ha hb hx
      go_wp2_with fail
      clear kb
      refine (answers_504 _ Alst clst (treeLeastL 0 3) bt tM5 tM5_ok.1 (use_of (use_23 0 0 3 0 0)).1 (use_of (use_23 0 0 3 0 0)).2 Hlst.out.1 Hlst.out.2 tM5_ok.2 HB.out).mono ?_
      rintro e wn ⟨a0, a1, a2, ha, rfl, hb, hx⟩
      obtain ⟨rfl, rfl, rfl⟩ : a0 = 1 ∧ a1 = 5 ∧ a2 = 1 := by have := ha.symm.trans tA5; simpa using this
      replace HB : Hid (Blk wn bt (tM6.map (Value.int .u64)) 32) := Lib.hid hb
      replace HX := Lib.hid (hx.blk HX.out (by simp))
      replace HC := Lib.hid (HC.out.trans' hx (fun x hx hl => by simp at hx; subst hx; have := HG.out; omega))
      replace Hlst := Lib.hid (Hlst.out.ran hx)
      replace Hout := Lib.hid (Hout.out.ran hx)
      replace Hsee := Lib.hid (Hsee.out.ran hx)
      have kb : wn.cell? ⟨bt + 1, 0, none⟩ = some (.slice (some ⟨bt, 0, none⟩) 504 504) := HX.out.cell 0
      clear ha hb hx
      go_wp2_with fail
      clear kb
      refine (answers_504 _ Asee csee (treeGetL 0 3 18446744073709551615) bt tM6 tM6_ok.1 (use_of (use_21 0 0 3 18446744073709551615 0)).1 (use_of (use_21 0 0 3 18446744073709551615 0)).2 Hsee.out.1 Hsee.out.2 tM6_ok.2 HB.out).mono ?_
      rintro e wn ⟨a0, a1, a2, ha, rfl, hb, hx⟩
      obtain ⟨rfl, rfl, rfl⟩ : a0 = 1 ∧ a1 = 2 ∧ a2 = 0 := by have := ha.symm.trans tA6; simpa using this
      replace HB : Hid (Blk wn bt (tM7.map (Value.int .u64)) 32) := Lib.hid hb
      replace HX := Lib.hid (hx.blk HX.out (by simp))
      replace HC := Lib.hid (HC.out.trans' hx (fun x hx hl => by simp at hx; subst hx; have := HG.out; omega))
      replace Hlst := Lib.hid (Hlst.out.ran hx)
      replace Hout := Lib.hid (Hout.out.ran hx)
      replace Hsee := Lib.hid (Hsee.out.ran hx)
      have kb : wn.cell? ⟨bt + 1, 0, none⟩ = some (.slice (some ⟨bt, 0, none⟩) 504 504) := HX.out.cell 0
      clear ha hb hx
      clear kb Hlst Hout Hsee
      clear HB HG HX HNe
      go_wp2_with fail
      refine (QueuePush_no _ 501 2 0 (by decide)).mono ?_
      rintro e w2 ⟨rfl, hx⟩
      replace HC := Lib.hid (HC.out.trans hx)
      clear hx
      go_wp2_with fail
      refine (QueuePush_yes _ 500 2 0 (by decide) (by decide) (by decide)).mono ?_
      rintro e w3 ⟨v1, rfl, hr, hx⟩
      obtain ⟨A9, c9, rfl, _⟩ := ownsRow_cell hr
      replace HC := Lib.hid (HC.out.trans hx)
      clear hr hx
      go_wp2_with fail
      refine (HashGet_no _ 0 3 1 0 (by decide)).mono ?_
      rintro e w4 ⟨rfl, hx⟩
      replace HC := Lib.hid (HC.out.trans hx)
      clear hx
      go_wp2_with fail
      have hJ1 := Blk.new w4 [.int .i64 13, .int .i64 0, .int .i64 0, .int .i64 0, .int .i64 0, .int .i64 1, .int .i64 0, .int .i64 0, .int .i64 0, .int .i64 0] 25
      have hJ2 := Blk.new (w4.alloc (.cells #[.int .i64 13, .int .i64 0, .int .i64 0, .int .i64 0, .int .i64 0, .int .i64 1, .int .i64 0, .int .i64 0, .int .i64 0, .int .i64 0] 25)) [.int .i64 13, .int .i64 0, .int .i64 0, .int .i64 0, .int .i64 1] 25
      have hJ3 := Blk.new ((w4.alloc (.cells #[.int .i64 13, .int .i64 0, .int .i64 0, .int .i64 0, .int .i64 0, .int .i64 1, .int .i64 0, .int .i64 0, .int .i64 0, .int .i64 0] 25)).alloc (.cells #[.int .i64 13, .int .i64 0, .int .i64 0, .int .i64 0, .int .i64 1] 25)) [.slice (some ⟨w4.heap.size, 0, none⟩) 2 2, .slice (some ⟨w4.heap.size + 1, 0, none⟩) 1 1] 23
      simp only [World.size_alloc] at hJ2 hJ3
      have hX := (((Chg.refl [] w4).alloc (.cells #[.int .i64 13, .int .i64 0, .int .i64 0, .int .i64 0, .int .i64 0, .int .i64 1, .int .i64 0, .int .i64 0, .int .i64 0, .int .i64 0] 25)).alloc (.cells #[.int .i64 13, .int .i64 0, .int .i64 0, .int .i64 0, .int .i64 1] 25)).alloc (.cells #[.slice (some ⟨w4.heap.size, 0, none⟩) 2 2, .slice (some ⟨w4.heap.size + 1, 0, none⟩) 1 1] 23)
      have hP : Parts (((w4.alloc (.cells #[.int .i64 13, .int .i64 0, .int .i64 0, .int .i64 0, .int .i64 0, .int .i64 1, .int .i64 0, .int .i64 0, .int .i64 0, .int .i64 0] 25)).alloc (.cells #[.int .i64 13, .int .i64 0, .int .i64 0, .int .i64 0, .int .i64 1] 25)).alloc (.cells #[.slice (some ⟨w4.heap.size, 0, none⟩) 2 2, .slice (some ⟨w4.heap.size + 1, 0, none⟩) 1 1] 23)) (some ⟨w4.heap.size + 1 + 1, 0, none⟩) [⟨some ⟨w4.heap.size, 0, none⟩, 2, [⟨13, 0, 0, 0, 0⟩, ⟨1, 0, 0, 0, 0⟩]⟩, ⟨some ⟨w4.heap.size + 1, 0, none⟩, 1, [⟨13, 0, 0, 0, 1⟩]⟩] := by
        refine ⟨Rd.of_blk (enc := encS) (l := [⟨some ⟨w4.heap.size, 0, none⟩, 2, [⟨13, 0, 0, 0, 0⟩, ⟨1, 0, 0, 0, 0⟩]⟩, ⟨some ⟨w4.heap.size + 1, 0, none⟩, 1, [⟨13, 0, 0, 0, 1⟩]⟩]) (t := 23) (fun _ => rfl) hJ3, fun s hs => ?_⟩
        simp only [List.mem_cons, List.not_mem_nil, or_false] at hs
        rcases hs with rfl | rfl
        · exact ⟨(show (2 : Nat) ≤ 2 from Nat.le_refl _), (show (2 : Nat) ≤ maxLen from by decide), (fun h => nomatch h), Rd.of_blk (enc := encI) (l := [⟨13, 0, 0, 0, 0⟩, ⟨1, 0, 0, 0, 0⟩]) (t := 25) encI_len ((hJ1.alloc _).alloc _)⟩
        · exact ⟨(show (1 : Nat) ≤ 1 from Nat.le_refl _), (show (1 : Nat) ≤ maxLen from by decide), (fun h => nomatch h), Rd.of_blk (enc := encI) (l := [⟨13, 0, 0, 0, 1⟩]) (t := 25) encI_len (hJ2.alloc _)⟩
      have HP := Lib.hid hP
      replace HC := Lib.hid (HC.out.trans hX)
      clear hJ1 hJ2 hJ3 hX hP
      refine (Join_any _ _ 2 [⟨some ⟨w4.heap.size, 0, none⟩, 2, [⟨13, 0, 0, 0, 0⟩, ⟨1, 0, 0, 0, 0⟩]⟩, ⟨some ⟨w4.heap.size + 1, 0, none⟩, 1, [⟨13, 0, 0, 0, 1⟩]⟩] (show (2 : Nat) ≤ 20 from by decide) (fun s hs => by
        simp only [List.mem_cons, List.not_mem_nil, or_false] at hs
        rcases hs with rfl | rfl
        · exact (show (2 : Nat) ≤ 300 from by decide)
        · exact (show (1 : Nat) ≤ 300 from by decide)) HP.out).mono ?_
      rintro e w5 ⟨v5, rfl, hr, hx⟩
      have hj : joinL (([⟨some ⟨w4.heap.size, 0, none⟩, 2, [⟨13, 0, 0, 0, 0⟩, ⟨1, 0, 0, 0, 0⟩]⟩, ⟨some ⟨w4.heap.size + 1, 0, none⟩, 1, [⟨13, 0, 0, 0, 1⟩]⟩] : List Sl).map Sl.l) = [⟨13, 0, 0, 0, 0⟩, ⟨1, 0, 0, 0, 0⟩, ⟨13, 0, 0, 0, 3⟩] := by simp [joinL, shI]; exact ⟨by kernel_rfl, by kernel_rfl⟩
      rw [hj] at hr
      obtain ⟨g5, cp5, rfl, _, _, hcp, hcp2⟩ := ownsRow_posC hr (by decide)
      have y4 : w5.cell? ⟨g5, 4, none⟩ = some (.int .i64 0) := (World.ownsRow.cellAt hr 4 (by decide)).trans rfl
      have y14 : w5.cell? ⟨g5, 14, none⟩ = some (.int .i64 3) := (World.ownsRow.cellAt hr 14 (by decide)).trans rfl
      have hcp' : 3 ≤ cp5 := hcp
      replace HC := Lib.hid (HC.out.trans hx)
      clear hr hx HP hj hcp
      have t1 : tSize 125 = 503 := by decide
      have t2 : tSize 126 = 0 := by decide
      have HT1 := Lib.hid (TreeSize_any w5 125)
      have HT2 := Lib.hid (TreeSize_any w5 126)
      rw [t1] at HT1
      rw [t2] at HT2
      clear t1 t2
      go_wp2_with fail
      refine HT1.out.mono ?_
      rintro e w' ⟨rfl, rfl⟩
      go_wp2_with fail
      refine HT2.out.mono ?_
      rintro e w' ⟨rfl, rfl⟩
      go_wp2_with fail
      refine (Join_any w5 none 0 [] (by decide) (fun s hs => by cases hs) ⟨Rd.nil _ _ _ _ _, fun s hs => by cases hs⟩).mono ?_
      rintro e w6 ⟨v6, rfl, hr, hx⟩
      obtain ⟨A6, c6, rfl, _⟩ := ownsRow_cell hr
      replace HC := Lib.hid (HC.out.trans hx)
      clear hr hx
      go_wp2_with fail
      go_ret
      exact ⟨rfl, HC.out.nil_below⟩

end Go.Proofs.Ythlhjahhjoclfaa
