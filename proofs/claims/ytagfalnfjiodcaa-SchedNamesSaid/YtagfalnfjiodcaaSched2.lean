/- 'all' over 'turns': so many numbers, each by a closure that keeps its state in cells. -/
import Derived.Test.YtagfalnfjiodcaaSched1
import Derived.RangeFuncNested
namespace Go.Proofs.Ytagfalnfjiodcaa
open Go.RowKit Go.Shelf

attribute [local go_sem] Oper.semAt_some

/-- The first so many numbers. -/
def outs (f : Nat → Int) (k : Nat) : IL := (List.range k).map f
theorem outs_succ (f : Nat → Int) (k : Nat) : outs f (k + 1) = outs f k ++ [f k] := by simp [outs, List.range_succ]
theorem outs_len (f : Nat → Int) (k : Nat) : (outs f k).length = k := by simp [outs]

theorem infoI64 : (Try.prog.info? 3).map (fun i => (i.zero, i.size, i.bytes)) = some (some (.int .i64 0), 1, 8) := by kernel_rfl

set_option maxHeartbeats 1000000 in
theorem turns_in (n : Nat) (m : Int) (fv : Value) (hfv : ∃ f caps, fv = .func (.func f) #[] caps) (w : World) :
    CallsIn Fence.wide n Try.prog 34 #[.int .i64 m, fv] w fun e w' => e = .returned (.func (.func 50) #[] #[.pointer (some ⟨w.heap.size, 0, none⟩), .pointer (some ⟨w.heap.size + 1, 0, none⟩)]) ∧ w' = (w.alloc (.cells #[.int .i64 m] 3)).alloc (.cells #[fv] 64) := by
  obtain ⟨f, caps, rfl⟩ := hfv
  refine callsIn_of_wp Try.func34 rfl trivial ?_ rfl
  simp only [Try.ntmps34, List.size_toArray, List.length_cons, List.length_nil, Nat.reduceAdd, Nat.reduceSub, Array.replicate_succ, Array.replicate_zero, List.push_toArray, List.append_toArray, List.nil_append, List.cons_append]
  gi_wp2
  go_ret
  exact ⟨rfl, rfl⟩

theorem Chg.below {C : List Nat} {w W W' : World} (h : Chg C w W) (k : Below w.heap.size W W') : Chg C w W' :=
  ⟨k.os.trans h.os, k.tape.trans h.tape, k.output.trans h.output, Nat.le_trans h.size k.size, fun i hi hs => (k.block i hi).trans (h.block i hi hs)⟩

def AllPost (C : List Nat) (w : World) (l : IL) (e : Ending) (w' : World) : Prop := ∃ v, e = .returned v ∧ w'.ownsRow w.heap.size 3 1 v l.length (l.map (Value.int .i64)) ∧ Chg C w w'
def AllI (C : List Nat) (w : World) (pre : IL) (W : World) : Prop := (∃ v, Boxed W w.heap.size 23 v ∧ W.ownsRow w.heap.size 3 1 v pre.length (pre.map (Value.int .i64)) ∧ True) ∧ Chg C w W

theorem allI_T {C : List Nat} {w : World} (hC : ∀ x ∈ C, x < w.heap.size) : AbT (TC C) (AllI C w) := by
  rintro s X Y ⟨⟨v, hv, hr, _⟩, hc⟩ ⟨h1, h2⟩
  refine ⟨⟨v, (h1.block _ hv.lt (fun hm => by have := hC _ hm; omega)).trans hv, ownsRow_chg hr h1 (fun g hg hgC => ?_), trivial⟩, hc.trans h1⟩
  have a := (hr.lt g (by simpa using hg)).1
  have b := hC g hgC
  omega

set_option maxRecDepth 100000 in
set_option maxHeartbeats 2000000 in
theorem all_in (n : Nat) (hn : 3 ≤ n) (C : List Nat) (Bn Bf : Nat) (outl : IL) (hm : outl.length ≤ 10000) (w : World) (hC : ∀ x ∈ C, x < w.heap.size)
    (hseq : SeqT Fence.wide (n - 1) Try.prog 50 #[.pointer (some ⟨Bn, 0, none⟩), .pointer (some ⟨Bf, 0, none⟩)] (fun x : Int => #[.int .i64 x]) (TC C) (Below w.heap.size) (fun ys => ys = outl) (fun _ => True) outl.length w) :
    CallsIn Fence.wide n Try.prog 33 #[.func (.func 50) #[] #[.pointer (some ⟨Bn, 0, none⟩), .pointer (some ⟨Bf, 0, none⟩)]] w (AllPost C w outl) := by
  have h1 : 1 ≤ n := by omega
  obtain ⟨i0, hi, hz0, hz1, hz2⟩ := info_parts infoI64
  refine callsIn_of_wp_marks Try.func33 rfl trivial ?_ rfl
  simp only [Try.ntmps33, List.size_toArray, List.length_cons, List.length_nil, Nat.reduceAdd, Nat.reduceSub, Array.replicate_succ, Array.replicate_zero, List.push_toArray, List.append_toArray, List.nil_append, List.cons_append]
  gi_wp2
  have bO := Boxed.new w 23 (.slice none 0 0)
  refine rangeFunc_T rfl h1 (gf := 50) (lb := #[.pointer (some ⟨Bn, 0, none⟩), .pointer (some ⟨Bf, 0, none⟩)]) rfl trivial (enters_of Try.func50 (by kernel_rfl) rfl)
    hseq (fun X Y h => h.2.from _) belowK_t (belowK_b (by simp)) ((Below.refl _ w).alloc (Nat.le_refl _) _) (fun _ => rfl)
    (AllI C w)
    (OwnFrom.and (Own.from (holdsRow_own w.heap.size w.heap.size 23 3 1 (fun pre : IL => pre.length) (fun pre => pre.map (Value.int .i64)) (fun _ _ => True)) _) (chg_own (by simp)))
    (allI_T hC)
    ⟨⟨_, bO, World.ownsRow_nil _ _ _ _, trivial⟩, (Chg.refl _ _).alloc _⟩
    (fun x => { tmps := #[.func (.func 50) #[] #[.pointer (some ⟨Bn, 0, none⟩), .pointer (some ⟨Bf, 0, none⟩)], undef, .slice none 0 0, .pointer (some ⟨w.heap.size, 0, none⟩), .int .i64 x, .func (.func 50) #[] #[.pointer (some ⟨Bn, 0, none⟩), .pointer (some ⟨Bf, 0, none⟩)], .int .i64 x, undef, undef, undef, undef, undef], defers := [] })
    ?assign ?body ?done
  case assign =>
    intro l x W K hK
    gi_wp2
    exact hK
  case body =>
    rintro l pre x W ⟨⟨v, hv, hrow, _⟩, hB⟩ hlt
    have hc := hv.cell
    have hs := hB.size
    gi_wp2_with (gi_at_builtin; refine wpListIn_append_own _ rfl _ _ 23 rfl w.heap.size 3 i0 (.int .i64 0) 1 8 Try.underlying23 hi hz0 hz1 hz2 rfl (by decide) _ _ _ rfl (hrow.alloc _) ⟨W.heap.size, 0, none⟩ 1 1 [.int .i64 x] rfl rfl (cell_one_new _ _ _) (by simp [Value.oneCell']) (by unfold maxLen; omega) (by omega) (by simp; omega) ?_; intro v' w1 hown' hgrow _; obtain ⟨g', cap', rfl⟩ := ownsRow_succ hown'; obtain ⟨hv1, hv2, hr2, hk2, hb2⟩ := hv.appended (by decide) hrow hs (Nat.le_refl _) hown' hgrow; have hc1 := hv1.cell; have hf1 := hv1.frozen)
    refine ⟨hk2.from _, hb2, ⟨_, hv2, by simpa using hr2, trivial⟩, hB.below hb2⟩
  case done =>
    rintro D ys W hD rfl ⟨⟨v, hv, hrow, _⟩, hB⟩ hK
    have hc := hv.cell
    gi_wp2
    refine ⟨by simp, .inl ⟨_, _, rfl, run_takeDeferred hK, ?_⟩⟩
    exact ⟨_, results_tmp rfl _ _ _, v, rfl, ownsRow_putObj hrow _ hK rfl, hB.putObj (by simp at hD; omega) _⟩


set_option maxRecDepth 100000 in
set_option maxHeartbeats 2000000 in
/-- turns' loop over rounds's closure. -/
theorem turns_rounds (n : Nat) (hn : 2 ≤ n) (Bn Bf n₀ m c0 c1 : Nat) (hm : m ≤ 10000) (C : List Nat) (out : Nat → Int) (St : Nat → World → Prop) (hCn : Bn ∉ C) (hCf : Bf ∉ C) (hn1 : Bn < n₀) (hn2 : Bf < n₀)
    (hw : ∀ j W, j < m → St j W → Calls Try.prog 35 #[.pointer (some ⟨c0, 0, none⟩), .pointer (some ⟨c1, 0, none⟩)] W fun e W' => e = .returned (.int .i64 (out j)) ∧ St (j + 1) W' ∧ TC C W W')
    (hK : ∀ j X Y, St j X → Below n₀ X Y → St j Y) (w : World) (hn₀ : n₀ ≤ w.heap.size) (h0 : St 0 w)
    (hBn : Blk w Bn [.int .i64 (m : Int)] 3) (hBf : Blk w Bf [.func (.func 35) #[] #[.pointer (some ⟨c0, 0, none⟩), .pointer (some ⟨c1, 0, none⟩)]] 64) :
    SeqT Fence.wide n Try.prog 50 #[.pointer (some ⟨Bn, 0, none⟩), .pointer (some ⟨Bf, 0, none⟩)] (fun x : Int => #[.int .i64 x]) (TC C) (Below n₀) (fun ys => ys = outs out m) (fun _ => True) m w := by
  intro l J Jx W hW hJ hJx hY hJ0
  have h1 : 1 ≤ n := by omega
  have hm' : (m : Int) ≤ 10000 := by omega
  have hS0 : St 0 W := hK 0 _ _ h0 (hW.mono hn₀)
  have cn : Blk W Bn [.int .i64 (m : Int)] 3 := (hW.block _ hBn.lt).trans hBn
  have cf : Blk W Bf [.func (.func 35) #[] #[.pointer (some ⟨c0, 0, none⟩), .pointer (some ⟨c1, 0, none⟩)]] 64 := (hW.block _ hBf.lt).trans hBf
  have HW := Lib.hid hw
  have HK := Lib.hid hK
  have HJ := Lib.hid hJ
  have HY := Lib.hid hY
  have k0 : W.cell? ⟨Bn, 0, none⟩ = some (.int .i64 (m : Int)) := cn.cell 0
  clear hw hK hJ hJx hY hBn hBf h0
  refine callsIn_of_wp Try.func50 rfl trivial ?_ rfl
  simp only [Try.ntmps50, List.size_toArray, List.length_cons, List.length_nil, Nat.reduceAdd, Nat.reduceSub, Array.replicate_succ, Array.replicate_zero, List.push_toArray, List.append_toArray, List.nil_append, List.cons_append]
  gi_wp2
  gi_loopw [5] (fun i wr => ∃ k : Nat, k ≤ m ∧ i = .int .i64 k ∧ J (outs out k) wr ∧ St k wr ∧ Blk wr Bf [.func (.func 35) #[] #[.pointer (some ⟨c0, 0, none⟩), .pointer (some ⟨c1, 0, none⟩)]] 64) (fun i _ => m - (intOf i).toNat)
  case atStart => exact ⟨0, Nat.zero_le _, rfl, hJ0, hS0, cf⟩
  case round =>
    obtain ⟨k, hk, rfl, hJk, hSk, hBk⟩ := hrel
    by_cases hlt : k < m
    · have kf : wr.cell? ⟨Bf, 0, none⟩ = some (.func (.func 35) #[] #[.pointer (some ⟨c0, 0, none⟩), .pointer (some ⟨c1, 0, none⟩)]) := hBk.cell 0
      have hcl := HW.out k wr hlt hSk
      have HJk := Lib.hid hJk
      have HBk := Lib.hid hBk
      clear hJk hSk hBk
      gi_wp2_with fail
      refine ⟨trivial, ?_⟩
      refine (callsIn_wide.2 hcl).mono ?_
      rintro e w' ⟨rfl, h2, h3⟩
      have H2 := Lib.hid h2
      have H3 := Lib.hid h3
      have hJ2 := HJ.out _ _ _ HJk.out h3
      have hB2 := Lib.hid (h3.1.blk HBk.out hCf)
      obtain ⟨fn, tmps, assign, body, hyy, hR⟩ := HY.out _ (out k) _ hJ2 (by rw [outs_len]; exact hlt)
      clear h2 h3 hJ2
      gi_wp2
      refine hR.mono ?_
      rintro e W3 (⟨rfl, hJ3, hk3⟩ | ⟨rfl, hJx3⟩)
      · have HJ3 := Lib.hid hJ3
        have HK3 := Lib.hid hk3
        clear hJ3 hk3
        gi_wp2
        go_roundw
        case rel => exact ⟨k + 1, by omega, by simp, by rw [outs_succ]; exact HJ3.out, HK.out _ _ _ H2.out HK3.out, (HK3.out.block _ hn2).trans hB2.out⟩
        case measure => simp [intOf]; omega
      · gi_wp2
        refine bodyPost_ret (results_none rfl _ _ _) rfl ?_
        exact ⟨⟨_, rfl⟩, .inr ⟨_, trivial, hJx3⟩⟩
    · obtain rfl : k = m := by omega
      gi_wp2
      go_end0
      exact ⟨⟨_, rfl⟩, .inl ⟨_, rfl, hJk⟩⟩


set_option maxRecDepth 100000 in
set_option maxHeartbeats 2000000 in
/-- turns' loop over weights's closure. -/
theorem turns_weights (n : Nat) (hn : 2 ≤ n) (Bn Bf n₀ m c0 c1 : Nat) (hm : m ≤ 10000) (C : List Nat) (out : Nat → Int) (St : Nat → World → Prop) (hCn : Bn ∉ C) (hCf : Bf ∉ C) (hn1 : Bn < n₀) (hn2 : Bf < n₀)
    (hw : ∀ j W, j < m → St j W → Calls Try.prog 42 #[.pointer (some ⟨c0, 0, none⟩), .pointer (some ⟨c1, 0, none⟩)] W fun e W' => e = .returned (.int .i64 (out j)) ∧ St (j + 1) W' ∧ TC C W W')
    (hK : ∀ j X Y, St j X → Below n₀ X Y → St j Y) (w : World) (hn₀ : n₀ ≤ w.heap.size) (h0 : St 0 w)
    (hBn : Blk w Bn [.int .i64 (m : Int)] 3) (hBf : Blk w Bf [.func (.func 42) #[] #[.pointer (some ⟨c0, 0, none⟩), .pointer (some ⟨c1, 0, none⟩)]] 64) :
    SeqT Fence.wide n Try.prog 50 #[.pointer (some ⟨Bn, 0, none⟩), .pointer (some ⟨Bf, 0, none⟩)] (fun x : Int => #[.int .i64 x]) (TC C) (Below n₀) (fun ys => ys = outs out m) (fun _ => True) m w := by
  intro l J Jx W hW hJ hJx hY hJ0
  have h1 : 1 ≤ n := by omega
  have hm' : (m : Int) ≤ 10000 := by omega
  have hS0 : St 0 W := hK 0 _ _ h0 (hW.mono hn₀)
  have cn : Blk W Bn [.int .i64 (m : Int)] 3 := (hW.block _ hBn.lt).trans hBn
  have cf : Blk W Bf [.func (.func 42) #[] #[.pointer (some ⟨c0, 0, none⟩), .pointer (some ⟨c1, 0, none⟩)]] 64 := (hW.block _ hBf.lt).trans hBf
  have HW := Lib.hid hw
  have HK := Lib.hid hK
  have HJ := Lib.hid hJ
  have HY := Lib.hid hY
  have k0 : W.cell? ⟨Bn, 0, none⟩ = some (.int .i64 (m : Int)) := cn.cell 0
  clear hw hK hJ hJx hY hBn hBf h0
  refine callsIn_of_wp Try.func50 rfl trivial ?_ rfl
  simp only [Try.ntmps50, List.size_toArray, List.length_cons, List.length_nil, Nat.reduceAdd, Nat.reduceSub, Array.replicate_succ, Array.replicate_zero, List.push_toArray, List.append_toArray, List.nil_append, List.cons_append]
  gi_wp2
  gi_loopw [5] (fun i wr => ∃ k : Nat, k ≤ m ∧ i = .int .i64 k ∧ J (outs out k) wr ∧ St k wr ∧ Blk wr Bf [.func (.func 42) #[] #[.pointer (some ⟨c0, 0, none⟩), .pointer (some ⟨c1, 0, none⟩)]] 64) (fun i _ => m - (intOf i).toNat)
  case atStart => exact ⟨0, Nat.zero_le _, rfl, hJ0, hS0, cf⟩
  case round =>
    obtain ⟨k, hk, rfl, hJk, hSk, hBk⟩ := hrel
    by_cases hlt : k < m
    · have kf : wr.cell? ⟨Bf, 0, none⟩ = some (.func (.func 42) #[] #[.pointer (some ⟨c0, 0, none⟩), .pointer (some ⟨c1, 0, none⟩)]) := hBk.cell 0
      have hcl := HW.out k wr hlt hSk
      have HJk := Lib.hid hJk
      have HBk := Lib.hid hBk
      clear hJk hSk hBk
      gi_wp2_with fail
      refine ⟨trivial, ?_⟩
      refine (callsIn_wide.2 hcl).mono ?_
      rintro e w' ⟨rfl, h2, h3⟩
      have H2 := Lib.hid h2
      have H3 := Lib.hid h3
      have hJ2 := HJ.out _ _ _ HJk.out h3
      have hB2 := Lib.hid (h3.1.blk HBk.out hCf)
      obtain ⟨fn, tmps, assign, body, hyy, hR⟩ := HY.out _ (out k) _ hJ2 (by rw [outs_len]; exact hlt)
      clear h2 h3 hJ2
      gi_wp2
      refine hR.mono ?_
      rintro e W3 (⟨rfl, hJ3, hk3⟩ | ⟨rfl, hJx3⟩)
      · have HJ3 := Lib.hid hJ3
        have HK3 := Lib.hid hk3
        clear hJ3 hk3
        gi_wp2
        go_roundw
        case rel => exact ⟨k + 1, by omega, by simp, by rw [outs_succ]; exact HJ3.out, HK.out _ _ _ H2.out HK3.out, (HK3.out.block _ hn2).trans hB2.out⟩
        case measure => simp [intOf]; omega
      · gi_wp2
        refine bodyPost_ret (results_none rfl _ _ _) rfl ?_
        exact ⟨⟨_, rfl⟩, .inr ⟨_, trivial, hJx3⟩⟩
    · obtain rfl : k = m := by omega
      gi_wp2
      go_end0
      exact ⟨⟨_, rfl⟩, .inl ⟨_, rfl, hJk⟩⟩


set_option maxRecDepth 100000 in
set_option maxHeartbeats 2000000 in
/-- turns' loop over ranks's closure. -/
theorem turns_ranks (n : Nat) (hn : 2 ≤ n) (Bn Bf n₀ m c0 c1 : Nat) (hm : m ≤ 10000) (C : List Nat) (out : Nat → Int) (St : Nat → World → Prop) (hCn : Bn ∉ C) (hCf : Bf ∉ C) (hn1 : Bn < n₀) (hn2 : Bf < n₀)
    (hw : ∀ j W, j < m → St j W → Calls Try.prog 44 #[.pointer (some ⟨c0, 0, none⟩), .pointer (some ⟨c1, 0, none⟩)] W fun e W' => e = .returned (.int .i64 (out j)) ∧ St (j + 1) W' ∧ TC C W W')
    (hK : ∀ j X Y, St j X → Below n₀ X Y → St j Y) (w : World) (hn₀ : n₀ ≤ w.heap.size) (h0 : St 0 w)
    (hBn : Blk w Bn [.int .i64 (m : Int)] 3) (hBf : Blk w Bf [.func (.func 44) #[] #[.pointer (some ⟨c0, 0, none⟩), .pointer (some ⟨c1, 0, none⟩)]] 64) :
    SeqT Fence.wide n Try.prog 50 #[.pointer (some ⟨Bn, 0, none⟩), .pointer (some ⟨Bf, 0, none⟩)] (fun x : Int => #[.int .i64 x]) (TC C) (Below n₀) (fun ys => ys = outs out m) (fun _ => True) m w := by
  intro l J Jx W hW hJ hJx hY hJ0
  have h1 : 1 ≤ n := by omega
  have hm' : (m : Int) ≤ 10000 := by omega
  have hS0 : St 0 W := hK 0 _ _ h0 (hW.mono hn₀)
  have cn : Blk W Bn [.int .i64 (m : Int)] 3 := (hW.block _ hBn.lt).trans hBn
  have cf : Blk W Bf [.func (.func 44) #[] #[.pointer (some ⟨c0, 0, none⟩), .pointer (some ⟨c1, 0, none⟩)]] 64 := (hW.block _ hBf.lt).trans hBf
  have HW := Lib.hid hw
  have HK := Lib.hid hK
  have HJ := Lib.hid hJ
  have HY := Lib.hid hY
  have k0 : W.cell? ⟨Bn, 0, none⟩ = some (.int .i64 (m : Int)) := cn.cell 0
  clear hw hK hJ hJx hY hBn hBf h0
  refine callsIn_of_wp Try.func50 rfl trivial ?_ rfl
  simp only [Try.ntmps50, List.size_toArray, List.length_cons, List.length_nil, Nat.reduceAdd, Nat.reduceSub, Array.replicate_succ, Array.replicate_zero, List.push_toArray, List.append_toArray, List.nil_append, List.cons_append]
  gi_wp2
  gi_loopw [5] (fun i wr => ∃ k : Nat, k ≤ m ∧ i = .int .i64 k ∧ J (outs out k) wr ∧ St k wr ∧ Blk wr Bf [.func (.func 44) #[] #[.pointer (some ⟨c0, 0, none⟩), .pointer (some ⟨c1, 0, none⟩)]] 64) (fun i _ => m - (intOf i).toNat)
  case atStart => exact ⟨0, Nat.zero_le _, rfl, hJ0, hS0, cf⟩
  case round =>
    obtain ⟨k, hk, rfl, hJk, hSk, hBk⟩ := hrel
    by_cases hlt : k < m
    · have kf : wr.cell? ⟨Bf, 0, none⟩ = some (.func (.func 44) #[] #[.pointer (some ⟨c0, 0, none⟩), .pointer (some ⟨c1, 0, none⟩)]) := hBk.cell 0
      have hcl := HW.out k wr hlt hSk
      have HJk := Lib.hid hJk
      have HBk := Lib.hid hBk
      clear hJk hSk hBk
      gi_wp2_with fail
      refine ⟨trivial, ?_⟩
      refine (callsIn_wide.2 hcl).mono ?_
      rintro e w' ⟨rfl, h2, h3⟩
      have H2 := Lib.hid h2
      have H3 := Lib.hid h3
      have hJ2 := HJ.out _ _ _ HJk.out h3
      have hB2 := Lib.hid (h3.1.blk HBk.out hCf)
      obtain ⟨fn, tmps, assign, body, hyy, hR⟩ := HY.out _ (out k) _ hJ2 (by rw [outs_len]; exact hlt)
      clear h2 h3 hJ2
      gi_wp2
      refine hR.mono ?_
      rintro e W3 (⟨rfl, hJ3, hk3⟩ | ⟨rfl, hJx3⟩)
      · have HJ3 := Lib.hid hJ3
        have HK3 := Lib.hid hk3
        clear hJ3 hk3
        gi_wp2
        go_roundw
        case rel => exact ⟨k + 1, by omega, by simp, by rw [outs_succ]; exact HJ3.out, HK.out _ _ _ H2.out HK3.out, (HK3.out.block _ hn2).trans hB2.out⟩
        case measure => simp [intOf]; omega
      · gi_wp2
        refine bodyPost_ret (results_none rfl _ _ _) rfl ?_
        exact ⟨⟨_, rfl⟩, .inr ⟨_, trivial, hJx3⟩⟩
    · obtain rfl : k = m := by omega
      gi_wp2
      go_end0
      exact ⟨⟨_, rfl⟩, .inl ⟨_, rfl, hJk⟩⟩


set_option maxRecDepth 100000 in
set_option maxHeartbeats 2000000 in
/-- turns' loop over seeds's closure. -/
theorem turns_seeds (n : Nat) (hn : 2 ≤ n) (Bn Bf n₀ m c0 c1 c2 : Nat) (hm : m ≤ 10000) (C : List Nat) (out : Nat → Int) (St : Nat → World → Prop) (hCn : Bn ∉ C) (hCf : Bf ∉ C) (hn1 : Bn < n₀) (hn2 : Bf < n₀)
    (hw : ∀ j W, j < m → St j W → Calls Try.prog 37 #[.pointer (some ⟨c0, 0, none⟩), .pointer (some ⟨c1, 0, none⟩), .pointer (some ⟨c2, 0, none⟩)] W fun e W' => e = .returned (.int .i64 (out j)) ∧ St (j + 1) W' ∧ TC C W W')
    (hK : ∀ j X Y, St j X → Below n₀ X Y → St j Y) (w : World) (hn₀ : n₀ ≤ w.heap.size) (h0 : St 0 w)
    (hBn : Blk w Bn [.int .i64 (m : Int)] 3) (hBf : Blk w Bf [.func (.func 37) #[] #[.pointer (some ⟨c0, 0, none⟩), .pointer (some ⟨c1, 0, none⟩), .pointer (some ⟨c2, 0, none⟩)]] 64) :
    SeqT Fence.wide n Try.prog 50 #[.pointer (some ⟨Bn, 0, none⟩), .pointer (some ⟨Bf, 0, none⟩)] (fun x : Int => #[.int .i64 x]) (TC C) (Below n₀) (fun ys => ys = outs out m) (fun _ => True) m w := by
  intro l J Jx W hW hJ hJx hY hJ0
  have h1 : 1 ≤ n := by omega
  have hm' : (m : Int) ≤ 10000 := by omega
  have hS0 : St 0 W := hK 0 _ _ h0 (hW.mono hn₀)
  have cn : Blk W Bn [.int .i64 (m : Int)] 3 := (hW.block _ hBn.lt).trans hBn
  have cf : Blk W Bf [.func (.func 37) #[] #[.pointer (some ⟨c0, 0, none⟩), .pointer (some ⟨c1, 0, none⟩), .pointer (some ⟨c2, 0, none⟩)]] 64 := (hW.block _ hBf.lt).trans hBf
  have HW := Lib.hid hw
  have HK := Lib.hid hK
  have HJ := Lib.hid hJ
  have HY := Lib.hid hY
  have k0 : W.cell? ⟨Bn, 0, none⟩ = some (.int .i64 (m : Int)) := cn.cell 0
  clear hw hK hJ hJx hY hBn hBf h0
  refine callsIn_of_wp Try.func50 rfl trivial ?_ rfl
  simp only [Try.ntmps50, List.size_toArray, List.length_cons, List.length_nil, Nat.reduceAdd, Nat.reduceSub, Array.replicate_succ, Array.replicate_zero, List.push_toArray, List.append_toArray, List.nil_append, List.cons_append]
  gi_wp2
  gi_loopw [5] (fun i wr => ∃ k : Nat, k ≤ m ∧ i = .int .i64 k ∧ J (outs out k) wr ∧ St k wr ∧ Blk wr Bf [.func (.func 37) #[] #[.pointer (some ⟨c0, 0, none⟩), .pointer (some ⟨c1, 0, none⟩), .pointer (some ⟨c2, 0, none⟩)]] 64) (fun i _ => m - (intOf i).toNat)
  case atStart => exact ⟨0, Nat.zero_le _, rfl, hJ0, hS0, cf⟩
  case round =>
    obtain ⟨k, hk, rfl, hJk, hSk, hBk⟩ := hrel
    by_cases hlt : k < m
    · have kf : wr.cell? ⟨Bf, 0, none⟩ = some (.func (.func 37) #[] #[.pointer (some ⟨c0, 0, none⟩), .pointer (some ⟨c1, 0, none⟩), .pointer (some ⟨c2, 0, none⟩)]) := hBk.cell 0
      have hcl := HW.out k wr hlt hSk
      have HJk := Lib.hid hJk
      have HBk := Lib.hid hBk
      clear hJk hSk hBk
      gi_wp2_with fail
      refine ⟨trivial, ?_⟩
      refine (callsIn_wide.2 hcl).mono ?_
      rintro e w' ⟨rfl, h2, h3⟩
      have H2 := Lib.hid h2
      have H3 := Lib.hid h3
      have hJ2 := HJ.out _ _ _ HJk.out h3
      have hB2 := Lib.hid (h3.1.blk HBk.out hCf)
      obtain ⟨fn, tmps, assign, body, hyy, hR⟩ := HY.out _ (out k) _ hJ2 (by rw [outs_len]; exact hlt)
      clear h2 h3 hJ2
      gi_wp2
      refine hR.mono ?_
      rintro e W3 (⟨rfl, hJ3, hk3⟩ | ⟨rfl, hJx3⟩)
      · have HJ3 := Lib.hid hJ3
        have HK3 := Lib.hid hk3
        clear hJ3 hk3
        gi_wp2
        go_roundw
        case rel => exact ⟨k + 1, by omega, by simp, by rw [outs_succ]; exact HJ3.out, HK.out _ _ _ H2.out HK3.out, (HK3.out.block _ hn2).trans hB2.out⟩
        case measure => simp [intOf]; omega
      · gi_wp2
        refine bodyPost_ret (results_none rfl _ _ _) rfl ?_
        exact ⟨⟨_, rfl⟩, .inr ⟨_, trivial, hJx3⟩⟩
    · obtain rfl : k = m := by omega
      gi_wp2
      go_end0
      exact ⟨⟨_, rfl⟩, .inl ⟨_, rfl, hJk⟩⟩

end Go.Proofs.Ytagfalnfjiodcaa
