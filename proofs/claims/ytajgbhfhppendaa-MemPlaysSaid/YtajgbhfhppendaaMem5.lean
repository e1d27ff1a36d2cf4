/- mem.All and Copy: what they answer. -/
import Derived.RangeFuncBox
import Derived.RangeFuncNested
import Derived.RangeFuncLeaves
import Derived.Shelf.Abstract
import Derived.OwnWalkIn
import Derived.TacticsInMore
import Derived.LoopNIn
import Derived.LoopIn
import Derived.Maps.AppendAt
import Derived.Test.YtajgbhfhppendaaMem3
namespace Go.Proofs.Ytajgbhfhppendaa
open Go.RowKit Go.Shelf

attribute [local go_sem] Oper.semAt_some

theorem range_prefix {k m : Nat} (h : k ≤ m) : List.range k <+: List.range m := by
  obtain ⟨d, rfl⟩ := Nat.exists_eq_add_of_le h
  rw [List.range_add]
  exact List.prefix_append _ _

/-- What a round keeps: all below n₀, and the iterator's own box. -/
def KeepB (n₀ Bx : Nat) (W W' : World) : Prop := Below n₀ W W' ∧ ∀ o : Obj, o.isCells = true → W.heap[Bx]? = some o → W'.heap[Bx]? = some o
theorem keepB_t {n₀ Bx : Nat} {A B C : World} (h : KeepB n₀ Bx A B) (k : KeepB n₀ Bx B C) : KeepB n₀ Bx A C := ⟨h.1.trans k.1, fun o ho hb => k.2 o ho (h.2 o ho hb)⟩
theorem keepB_b {n₀ Bx : Nat} {w : World} (hn : n₀ ≤ w.heap.size) (W : World) (l : Nat) (o o' : Obj) (hl : w.heap.size ≤ l) (h : W.heap[l]? = some o) (h1 : o.isCells = false) (h2 : o.isWalk = false) : KeepB n₀ Bx W (W.putObj l o') :=
  ⟨belowK_b hn W l o o' hl h h1 h2, fun p hp hb => by
    by_cases e : l = Bx
    · subst e; rw [h] at hb; cases hb; rw [h1] at hp; cases hp
    · rw [World.putObj_heap_other (by omega)]; exact hb⟩

theorem blk_own {β : Type} (B : Nat) (t : TypeId) (l : List Value) : Own (fun (_ : β) W => Blk W B l t) := fun s X Y row hs hg hrow =>
  (hg.block B hs.lt (fun e' => by obtain ⟨o, ho, hc⟩ := hrow B e'.symm; rw [show X.heap[B]? = _ from hs] at ho; cases ho; cases hc)).trans hs

theorem cells_new8 (W : World) (a b c d e f g h : Value) (t : TypeId) : ∀ j u, [a, b, c, d, e, f, g, h][j]? = some u → (W.alloc (.cells #[a, b, c, d, e, f, g, h] t)).cell? ((⟨W.heap.size, 0, none⟩ : Addr).add j) = some u := by
  intro j u hj
  have e1 : ((⟨W.heap.size, 0, none⟩ : Addr).add j) = ⟨W.heap.size, j, none⟩ := by unfold Addr.add; split <;> simp_all
  rw [e1, World.cell?_alloc_new]
  simpa using hj

def lineV (ws : List Int) (i : Nat) : Value := .agg #[.int .u64 ((ws[i * 8]?.getD 0)), .int .u64 ((ws[i * 8 + 1]?.getD 0)), .int .u64 ((ws[i * 8 + 2]?.getD 0)), .int .u64 ((ws[i * 8 + 3]?.getD 0)), .int .u64 ((ws[i * 8 + 4]?.getD 0)), .int .u64 ((ws[i * 8 + 5]?.getD 0)), .int .u64 ((ws[i * 8 + 6]?.getD 0)), .int .u64 ((ws[i * 8 + 7]?.getD 0))]

theorem MemAt.lineCells {w : World} {bm bl n : Nat} {ws : List Int} (h : MemAt w bm bl n ws) {k : Nat} (hk : k < n) (j : Nat) (hj : j < 8) : w.cell? ⟨bl, k * 8 + j, none⟩ = some (.int .u64 (ws[k * 8 + j]?.getD 0)) := h.word (by omega)

set_option maxRecDepth 100000 in
set_option maxHeartbeats 2000000 in
theorem each1_in (n : Nat) (hn : 1 ≤ n) (l Bx n₀ bm bl m : Nat) (ws : List Int) (h1 : bm < n₀) (h2 : bl < n₀) (J Jx : List Nat → World → Prop)
    (hY : ∀ pre x W, J pre W → pre.length < m → YieldAt Fence.wide (n - 1) Try.prog l #[lineV ws x] W fun e W' =>
      (e = .returned (.bool true) ∧ J (pre ++ [x]) W' ∧ KeepB n₀ Bx W W') ∨ (e = .returned (.bool false) ∧ Jx (pre ++ [x]) W'))
    (W : World) (hB : Boxed W Bx 24 (.pointer (some ⟨bm, 0, none⟩))) (hM : MemAt W bm bl m ws) (h0 : J [] W) :
    CallsIn Fence.wide n Try.prog 25 #[.func (.yield l) #[] #[], .pointer (some ⟨Bx, 0, none⟩)] W fun e W' => (∃ v, e = .returned v) ∧
      ((∃ ys, ys = List.range m ∧ J ys W') ∨ (∃ pre, pre <+: List.range m ∧ Jx pre W')) := by
  have hsm := hM.small
  have hcB := hB.cell
  refine callsIn_of_wp Try.func25 rfl trivial ?_ rfl
  simp only [Try.ntmps25, List.size_toArray, List.length_cons, List.length_nil, Nat.reduceAdd, Nat.reduceSub, Array.replicate_succ, Array.replicate_zero, List.push_toArray, List.append_toArray, List.nil_append, List.cons_append]
  gi_wp2_with (refine ⟨trivial, ?_⟩; gi_at_call 21; refine (callsIn_wide.2 (Lines_any _ bm bl m ws hM)).mono ?_; rintro e w' ⟨rfl, rfl⟩)
  gi_loopw [6] (fun i wr => ∃ k : Nat, k ≤ m ∧ i = .int .i64 k ∧ J (List.range k) wr ∧ KeepB n₀ Bx W wr)
    (fun i _ => m - (intOf i).toNat)
  case atStart => exact ⟨0, Nat.zero_le _, rfl, h0, Below.refl _ _, fun _ _ h => h⟩
  case round =>
    obtain ⟨k, hk, rfl, hJs, hnx⟩ := hrel
    by_cases hlt : k < m
    · obtain ⟨fn, tmps, assign, body, hy, hR⟩ := hY _ k wr hJs (by rw [List.length_range]; exact hlt)
      have hMr := hM.below hnx.1 h1 h2
      have hc := Boxed.cell (hnx.2 _ rfl hB)
      obtain ⟨cap, hm⟩ := hMr.cell
      have c0 := hMr.lineCells hlt 0 (by decide)
      have c1 := hMr.lineCells hlt 1 (by decide)
      have c2 := hMr.lineCells hlt 2 (by decide)
      have c3 := hMr.lineCells hlt 3 (by decide)
      have c4 := hMr.lineCells hlt 4 (by decide)
      have c5 := hMr.lineCells hlt 5 (by decide)
      have c6 := hMr.lineCells hlt 6 (by decide)
      have c7 := hMr.lineCells hlt 7 (by decide)
      simp only [Nat.add_zero] at c0
      dsimp only [lineV] at hy
      gi_wp2
      refine hR.mono ?_
      rintro e W3 (⟨rfl, hJ3, hk3⟩ | ⟨rfl, hJx3⟩)
      · gi_wp2
        go_roundw
        case rel => exact ⟨k + 1, by omega, by simp, by rw [List.range_succ]; exact hJ3, keepB_t hnx hk3⟩
        case measure => simp [intOf]; omega
      · gi_wp2
        refine bodyPost_ret (results_none rfl _ _ _) rfl ?_
        exact ⟨⟨_, rfl⟩, .inr ⟨List.range (k + 1), range_prefix (by omega), by rw [List.range_succ]; exact hJx3⟩⟩
    · obtain rfl : k = m := by omega
      gi_wp2
      go_end0
      exact ⟨⟨_, rfl⟩, .inl ⟨_, rfl, hJs⟩⟩

set_option maxHeartbeats 1000000 in
/-- **m.each()**: the receiver is boxed; the function value captures the box. -/
theorem each_in (n : Nat) (p : Option Addr) (w : World) :
    CallsIn Fence.wide n Try.prog 24 #[.pointer p] w fun e w' => e = .returned (.func (.func 25) #[] #[.pointer (some ⟨w.heap.size, 0, none⟩)]) ∧ w' = w.alloc (.cells #[.pointer p] 24) := by
  refine callsIn_of_wp Try.func24 rfl trivial ?_ rfl
  simp only [Try.ntmps24, List.size_toArray, List.length_cons, List.length_nil, Nat.reduceAdd, Nat.reduceSub, Array.replicate_succ, Array.replicate_zero, List.push_toArray, List.append_toArray, List.nil_append, List.cons_append]
  gi_wp2
  go_ret
  exact ⟨rfl, rfl⟩

theorem each_stops (n : Nat) (hn : 1 ≤ n) (Bx n₀ bm bl m : Nat) (ws : List Int) (w : World) (h1 : bm < n₀) (h2 : bl < n₀) (hn₀ : n₀ ≤ w.heap.size)
    (hB : Boxed w Bx 24 (.pointer (some ⟨bm, 0, none⟩))) (hM : MemAt w bm bl m ws) :
    SeqStopsK Fence.wide n Try.prog 25 #[.pointer (some ⟨Bx, 0, none⟩)] (fun x : Nat => #[lineV ws x]) (KeepB n₀ Bx) (fun ys => ys = List.range m) (fun pre => pre <+: List.range m) m w := fun l J Jx W hW _ _ hY h0 =>
  each1_in n hn l Bx n₀ bm bl m ws h1 h2 J Jx hY W ((hW.block _ hB.lt).trans hB) (hM.below hW (by omega) (by omega)) h0

/-- The cells of some lines. -/
def lineC (ws : List Int) (i : Nat) : List Value := [.int .u64 (ws[i * 8]?.getD 0), .int .u64 (ws[i * 8 + 1]?.getD 0), .int .u64 (ws[i * 8 + 2]?.getD 0), .int .u64 (ws[i * 8 + 3]?.getD 0), .int .u64 (ws[i * 8 + 4]?.getD 0), .int .u64 (ws[i * 8 + 5]?.getD 0), .int .u64 (ws[i * 8 + 6]?.getD 0), .int .u64 (ws[i * 8 + 7]?.getD 0)]
def lineCs (ws : List Int) (pre : List Nat) : List Value := pre.flatMap (lineC ws)
theorem lineCs_snoc (ws : List Int) (pre : List Nat) (x : Nat) : lineCs ws (pre ++ [x]) = lineCs ws pre ++ lineC ws x := by simp [lineCs]
theorem lineCs_upto (ws : List Int) : ∀ n, lineCs ws (List.range n) = (List.range (n * 8)).map fun j => Value.int .u64 (ws[j]?.getD 0)
  | 0 => rfl
  | n + 1 => by rw [List.range_succ, lineCs_snoc, lineCs_upto ws n]; simp [lineC, Nat.succ_mul, List.range_succ]
theorem lineCs_all (ws : List Int) (n : Nat) (h : ws.length = 8 * n) : lineCs ws (List.range n) = ws.map (Value.int .u64) := by
  rw [lineCs_upto]
  apply List.ext_getElem
  · simp [h, Nat.mul_comm]
  · intro i h1 h2
    simp at h2
    simp [h2]

set_option maxRecDepth 100000 in
set_option maxHeartbeats 2000000 in
theorem All_in (n : Nat) (hn : 3 ≤ n) (bm bl m : Nat) (ws : List Int) (w : World) (hM : MemAt w bm bl m ws) :
    CallsIn Fence.wide n Try.prog 12 #[.pointer (some ⟨bm, 0, none⟩)] w fun e W' => ∃ v, e = .returned v ∧ W'.ownsRow w.heap.size 36 8 v m (ws.map (Value.int .u64)) ∧ Below w.heap.size w W' := by
  have h1 : 1 ≤ n := by omega
  have hsm := hM.small
  obtain ⟨i0, hi, hz0, hz1, hz2⟩ := info_parts Try.infoLine
  refine callsIn_of_wp_marks Try.func12 rfl trivial ?_ rfl
  simp only [Try.ntmps12, List.size_toArray, List.length_cons, List.length_nil, Nat.reduceAdd, Nat.reduceSub, Array.replicate_succ, Array.replicate_zero, List.push_toArray, List.append_toArray, List.nil_append, List.cons_append]
  gi_wp2_with (refine ⟨trivial, ?_⟩; gi_at_call 24; refine (each_in (n - 1) _ _).mono ?_; rintro e w' ⟨rfl, rfl⟩)
  have bO := Boxed.new w 38 (.slice none 0 0)
  have bN := Boxed.new (w.alloc (.cells #[.slice none 0 0] 38)) 24 (.pointer (some ⟨bm, 0, none⟩))
  rw [World.size_alloc] at bN
  have hB0 : Below w.heap.size w ((w.alloc (.cells #[.slice none 0 0] 38)).alloc (.cells #[.pointer (some ⟨bm, 0, none⟩)] 24)) := ((Below.refl _ w).alloc (Nat.le_refl _) _).alloc (by simp) _
  have hlm := hM.mlt
  have hll := hM.llt
  refine wpIn_rangeFunc_ownH rfl h1 (gf := 25) (lb := #[.pointer (some ⟨w.heap.size + 1, 0, none⟩)]) rfl trivial (enters_of Try.func25 (by kernel_rfl) rfl)
    (each_stops (n - 1) (by omega) (w.heap.size + 1) w.heap.size bm bl m ws _ (by omega) (by omega) (by simp; omega) bN (hM.below hB0 hlm hll)) keepB_t (keepB_b (by simp; omega)) (Below.refl _ _) (fun _ => rfl)
    (fun pre W => ((∃ v, Boxed W w.heap.size 38 v ∧ W.ownsRow w.heap.size 36 8 v pre.length (lineCs ws pre) ∧ True) ∧ Boxed W (w.heap.size + 1) 24 (.pointer (some ⟨bm, 0, none⟩))) ∧ Below w.heap.size w W)
    (fun _ _ _ => False)
    (OwnFrom.and (OwnFrom.and (Own.from (holdsRow_own w.heap.size w.heap.size 38 36 8 (fun pre : List Nat => pre.length) (fun pre => lineCs ws pre) (fun _ _ => True)) _) (Own.from (boxed_own _ _ _) _)) (ownFrom_below (Nat.le_refl _) (by simp; omega)))
    (fun _ _ _ _ _ hs _ _ => hs)
    ⟨⟨⟨_, bO.alloc _, World.ownsRow_nil _ _ _ _, trivial⟩, bN⟩, hB0⟩
    (fun x a' W => ∃ Bx, w.heap.size + 2 ≤ Bx ∧ Blk W Bx [.int .u64 (ws[x * 8]?.getD 0), .int .u64 (ws[x * 8 + 1]?.getD 0), .int .u64 (ws[x * 8 + 2]?.getD 0), .int .u64 (ws[x * 8 + 3]?.getD 0), .int .u64 (ws[x * 8 + 4]?.getD 0), .int .u64 (ws[x * 8 + 5]?.getD 0), .int .u64 (ws[x * 8 + 6]?.getD 0), .int .u64 (ws[x * 8 + 7]?.getD 0)] 36 ∧
      a' = { tmps := #[.pointer (some ⟨bm, 0, none⟩), undef, .slice none 0 0, .pointer (some ⟨w.heap.size, 0, none⟩), .pointer (some ⟨Bx, 0, none⟩), .pointer (some ⟨bm, 0, none⟩), .func (.func 25) #[] #[.pointer (some ⟨w.heap.size + 1, 0, none⟩)], lineV ws x, undef, undef, undef, undef, undef], defers := [] })
    (fun x a' s X Y row ⟨Bx, h1, h2, h3⟩ hg hr => ⟨Bx, h1, (blk_own Bx _ _) () X Y row h2 hg (fun r e => (hr r e).2), h3⟩)
    ?assign ?body ?done ?stop
  case assign =>
    rintro l pre x W K ⟨⟨⟨v, hv, hrow, hpre⟩, hbN⟩, hB⟩ hK
    dsimp only [lineV]
    gi_wp2
    have hsz := hbN.lt
    exact hK _ _ ((KeepsOthers.alloc _ _).from _) ⟨(Below.refl _ W).alloc hB.size _, fun o _ ho => (Below.heap_alloc _ _ _ hbN.lt).trans ho⟩ ⟨⟨⟨v, hv.alloc _, hrow.alloc _, hpre⟩, hbN.alloc _⟩, hB.alloc hB.size _⟩ ⟨W.heap.size, by omega, Blk.new W _ _, rfl⟩
  case body =>
    rintro l pre x a' W hl ⟨r, hr⟩ ⟨⟨⟨v, hv, hrow, hpre⟩, hbN⟩, hB⟩ ⟨Bx, hBx, bX, rfl⟩ hlt
    have hc := hv.cell
    have hsz := hbN.lt
    have hbl := bX.lt
    have cX := bX.cell
    have c0 := cX 0
    have c1 := cX 1
    have c2 := cX 2
    have c3 := cX 3
    have c4 := cX 4
    have c5 := cX 5
    have c6 := cX 6
    have c7 := cX 7
    simp only [List.getElem?_cons_succ, List.getElem?_cons_zero] at c0 c1 c2 c3 c4 c5 c6 c7
    clear cX
    dsimp only [lineV]
    gi_wp2_with (gi_at_builtin; refine wpListIn_append_own _ rfl _ _ 38 rfl w.heap.size 36 i0 _ 8 64 Try.underlying38 hi hz0 hz1 hz2 rfl (by decide) _ _ _ rfl (hrow.alloc _) ⟨W.heap.size, 0, none⟩ 1 1 (lineC ws x) rfl rfl (cells_new8 _ _ _ _ _ _ _ _ _ _) (by simp [lineC, Value.oneCell']) (by unfold maxLen; omega) (by omega) (by have := hB.size; simp; omega) ?_; intro v' w1 hown' hgrow _; obtain ⟨g', cap', rfl⟩ := ownsRow_succ hown'; obtain ⟨hv1, hv2, hr2, hk2, hb2⟩ := hv.appended (by decide) hrow hB.size (Nat.le_refl _) hown' hgrow; have hc1 := hv1.cell; have hf1 := hv1.frozen)
    have hbN1 := ((hbN.alloc (.cells (lineC ws x).toArray 36)).kept hgrow (hbN.not_row (by decide) hrow)).other (B' := w.heap.size) (by omega) (.slice (some ⟨g', 0, none⟩) (pre.length + 1) cap')
    refine ⟨hk2.from _, ⟨hb2, fun o _ ho => ?_⟩, ⟨⟨_, hv2, by rw [lineCs_snoc]; simpa using hr2, trivial⟩, hbN1⟩, hB.trans hb2⟩
    rw [show W.heap[w.heap.size + 1]? = _ from hbN] at ho; cases ho; exact hbN1
  case done =>
    rintro D ys W hD rfl ⟨⟨⟨v, hv, hrow, hpre⟩, hbN⟩, hB⟩ hK
    have hc := hv.cell
    gi_wp2
    refine ⟨by simp, .inl ⟨_, _, rfl, run_takeDeferred hK, ?_⟩⟩
    rw [List.length_range, lineCs_all ws m hM.len] at hrow
    exact ⟨_, results_tmp rfl _ _ _, v, rfl, ownsRow_putObj hrow _ hK rfl, hB.trans (belowK_b (w := w) (Nat.le_refl _) W D _ _ (by simp at hD; omega) hK rfl rfl)⟩
  case stop =>
    rintro D c pre W _ _ h _
    exact h.elim

set_option maxHeartbeats 1000000 in
theorem each1_nil_in (n : Nat) (hn : 1 ≤ n) (l Bx : Nat) (J : List Nat → World → Prop) (W : World) (hB : Boxed W Bx 24 (.pointer none)) (h0 : J [] W) :
    CallsIn Fence.wide n Try.prog 25 #[.func (.yield l) #[] #[], .pointer (some ⟨Bx, 0, none⟩)] W fun e W' => (∃ v, e = .returned v) ∧ J [] W' := by
  have hcB := hB.cell
  refine callsIn_of_wp Try.func25 rfl trivial ?_ rfl
  simp only [Try.ntmps25, List.size_toArray, List.length_cons, List.length_nil, Nat.reduceAdd, Nat.reduceSub, Array.replicate_succ, Array.replicate_zero, List.push_toArray, List.append_toArray, List.nil_append, List.cons_append]
  gi_wp2_with (refine ⟨trivial, ?_⟩; gi_at_call 21; refine (callsIn_wide.2 (Lines_nil _)).mono ?_; rintro e w' ⟨rfl, rfl⟩)
  gi_loopw [6] (fun i wr => i = .int .i64 0 ∧ J [] wr) (fun _ _ => 0)
  case atStart => exact ⟨rfl, h0⟩
  case round =>
    obtain ⟨rfl, hJs⟩ := hrel
    gi_wp2
    go_end0
    exact ⟨⟨_, rfl⟩, hJs⟩

set_option maxRecDepth 100000 in
set_option maxHeartbeats 2000000 in
theorem All_nil_in (n : Nat) (hn : 3 ≤ n) (w : World) :
    CallsIn Fence.wide n Try.prog 12 #[.pointer none] w fun e W' => e = .returned (.slice none 0 0) ∧ Below w.heap.size w W' := by
  have h1 : 1 ≤ n := by omega
  refine callsIn_of_wp_marks Try.func12 rfl trivial ?_ rfl
  simp only [Try.ntmps12, List.size_toArray, List.length_cons, List.length_nil, Nat.reduceAdd, Nat.reduceSub, Array.replicate_succ, Array.replicate_zero, List.push_toArray, List.append_toArray, List.nil_append, List.cons_append]
  gi_wp2_with (refine ⟨trivial, ?_⟩; gi_at_call 24; refine (each_in (n - 1) _ _).mono ?_; rintro e w' ⟨rfl, rfl⟩)
  have bO := Boxed.new w 38 (.slice none 0 0)
  have bN := Boxed.new (w.alloc (.cells #[.slice none 0 0] 38)) 24 (.pointer none)
  rw [World.size_alloc] at bN
  have hB0 : Below w.heap.size w ((w.alloc (.cells #[.slice none 0 0] 38)).alloc (.cells #[.pointer none] 24)) := ((Below.refl _ w).alloc (Nat.le_refl _) _).alloc (by simp) _
  have hseq : SeqStopsK Fence.wide (n - 1) Try.prog 25 #[.pointer (some ⟨w.heap.size + 1, 0, none⟩)] (fun x : Nat => #[lineV [] x]) (Below w.heap.size) (fun ys => ys = []) (fun _ => False) 0 ((w.alloc (.cells #[.slice none 0 0] 38)).alloc (.cells #[.pointer none] 24)) :=
    fun l J Jx W hW _ _ _ h0 => (each1_nil_in (n - 1) (by omega) l _ J W ((hW.block _ bN.lt).trans bN) h0).mono fun e W' ⟨he, hj⟩ => ⟨he, .inl ⟨[], rfl, hj⟩⟩
  refine wpIn_rangeFunc_ownH rfl h1 (gf := 25) (lb := #[.pointer (some ⟨w.heap.size + 1, 0, none⟩)]) rfl trivial (enters_of Try.func25 (by kernel_rfl) rfl)
    hseq belowK_t (belowK_b (by simp; omega)) (Below.refl _ _) (fun _ => rfl)
    (fun _ W => Boxed W w.heap.size 38 (.slice none 0 0) ∧ Below w.heap.size w W)
    (fun _ _ _ => False)
    (OwnFrom.and (Own.from (boxed_own _ _ _) _) (ownFrom_below (Nat.le_refl _) (by simp; omega)))
    (fun _ _ _ _ _ hs _ _ => hs)
    ⟨bO.alloc _, hB0⟩
    (fun _ _ _ => True)
    (fun _ _ _ _ _ _ _ _ _ => trivial)
    ?assign ?body ?done ?stop
  case assign =>
    rintro l pre x W K ⟨hv, hB⟩ hK
    dsimp only [lineV]
    gi_wp2
    exact hK _ _ ((KeepsOthers.alloc _ _).from _) ((Below.refl _ W).alloc hB.size _) ⟨hv.alloc _, hB.alloc hB.size _⟩ trivial
  case body =>
    rintro l pre x a' W hl _ _ _ hlt
    exact absurd hlt (by omega)
  case done =>
    rintro D ys W hD rfl ⟨hv, hB⟩ hK
    have hc := hv.cell
    gi_wp2
    refine ⟨by simp, .inl ⟨_, _, rfl, run_takeDeferred hK, ?_⟩⟩
    exact ⟨_, results_tmp rfl _ _ _, rfl, hB.trans (belowK_b (w := w) (Nat.le_refl _) W D _ _ (by simp at hD; omega) hK rfl rfl)⟩
  case stop =>
    rintro D c pre W _ _ h _
    exact h.elim

theorem All_nil (w : World) : Calls Try.prog 12 #[.pointer none] w fun e W' => e = .returned (.slice none 0 0) ∧ Below w.heap.size w W' :=
  callsIn_wide.1 (All_nil_in 3 (Nat.le_refl _) w)

theorem All_any (bm bl m : Nat) (ws : List Int) (w : World) (hM : MemAt w bm bl m ws) :
    Calls Try.prog 12 #[.pointer (some ⟨bm, 0, none⟩)] w fun e W' => ∃ v, e = .returned v ∧ W'.ownsRow w.heap.size 36 8 v m (ws.map (Value.int .u64)) ∧ Below w.heap.size w W' :=
  callsIn_wide.1 (All_in 3 (Nat.le_refl _) bm bl m ws w hM)

end Go.Proofs.Ytajgbhfhppendaa
