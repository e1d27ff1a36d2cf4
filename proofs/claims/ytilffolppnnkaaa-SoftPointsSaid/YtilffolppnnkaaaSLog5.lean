/- slices.All over pairs; a list told in memory of its own. -/
import Derived.Test.YtilffolppnnkaaaSLog4
import Derived.Test.YtilffolppnnkaaaRng
namespace Go.Proofs.Ytilffolppnnkaaa
set_option maxRecDepth 100000
open Go.RowKit Go.Shelf

attribute [local go_sem] Oper.semAt_some

/-- What has come when k rounds are over. -/
def upto {α : Type} (f : Nat → α) (k : Nat) : List α := (List.range k).map f
theorem upto_succ {α : Type} (f : Nat → α) (k : Nat) : upto f (k + 1) = upto f k ++ [f k] := by simp [upto, List.range_succ]
theorem upto_length {α : Type} (f : Nat → α) (k : Nat) : (upto f k).length = k := by simp [upto]

def pairAt (l : PL) (j : Nat) : Nat × (Int × Int) := (j, l[j]?.getD (0, 0))

/-- The pairs lie from a slice's head on. -/
def PRd (W : World) (A : Option Addr) (n₀ : Nat) (l : PL) : Prop := ∀ k, k < l.length → ∃ b, A = some ⟨b, 0, none⟩ ∧ b < n₀ ∧ W.cell? ⟨b, k * 2, none⟩ = some (.int .i64 (l[k]?.getD (0, 0)).1) ∧ W.cell? ⟨b, k * 2 + 1, none⟩ = some (.int .u64 (l[k]?.getD (0, 0)).2)
theorem PRd.below {W W' : World} {A : Option Addr} {n₀ : Nat} {l : PL} (h : PRd W A n₀ l) (k : Below n₀ W W') : PRd W' A n₀ l := fun j hj => by
  obtain ⟨b, e, hb, h1, h2⟩ := h j hj
  exact ⟨b, e, hb, (k.cell (p := ⟨b, _, none⟩) hb).trans h1, (k.cell (p := ⟨b, _, none⟩) hb).trans h2⟩
theorem PRd.of_row {w : World} {base : Nat} {A : Option Addr} {cap : Nat} {l : PL} (h : w.ownsRow base 85 2 (.slice A l.length cap) l.length (cellsP l)) : PRd w A w.heap.size l := fun k hk => by
  obtain ⟨A', cap', e, _, _, _, hc⟩ := ownsRow_cell h
  obtain ⟨b, rfl, hm, h1, _⟩ := hc (k * 2) (by omega)
  obtain ⟨b', e', _, h2, _⟩ := hc (k * 2 + 1) (by omega)
  simp only [Option.some.injEq, Addr.mk.injEq, and_true] at e'
  subst e'
  simp only [Value.slice.injEq] at e
  refine ⟨b, e.1, ownsRow_lt h b hm, ?_, ?_⟩
  · have := cellsP_get l k 0 hk (by decide)
    rw [Nat.add_zero] at this
    rw [h1, this]; simp [encP, hk]
  · rw [h2, cellsP_get l k 1 hk (by decide)]; simp [encP, hk]

set_option maxRecDepth 100000 in
set_option maxHeartbeats 2000000 in
theorem all1_in (n : Nat) (hn : 1 ≤ n) (l Bs n₀ cap : Nat) (A : Option Addr) (ps : PL) (hlen : ps.length ≤ maxLen) (J Jx : List (Nat × (Int × Int)) → World → Prop)
    (W : World) (hn₀ : n₀ ≤ W.heap.size) (hJ : AbidesFrom W.heap.size J)
    (hY : ∀ pre x W, J pre W → pre.length < ps.length → YieldAt Fence.wide (n - 1) Try.prog l #[.int .i64 (x.1 : Nat), .agg #[.int .i64 x.2.1, .int .u64 x.2.2]] W fun e W' =>
      (e = .returned (.bool true) ∧ J (pre ++ [x]) W' ∧ Below n₀ W W') ∨ (e = .returned (.bool false) ∧ Jx (pre ++ [x]) W'))
    (hBs : W.cell? ⟨Bs, 0, none⟩ = some (.slice A ps.length cap)) (hc : PRd W A n₀ ps) (h0 : J [] W) :
    CallsIn Fence.wide n Try.prog 104 #[.func (.yield l) #[] #[], .pointer (some ⟨Bs, 0, none⟩)] W fun e W' => (∃ v, e = .returned v) ∧
      ((∃ ys, ys = upto (pairAt ps) ps.length ∧ J ys W') ∨ (∃ pre, (∃ k, k ≤ ps.length ∧ pre = upto (pairAt ps) k) ∧ Jx pre W')) := by
  have hl2 : (ps.length : Int) ≤ 9223372036854775807 := by unfold maxLen at hlen; omega
  refine callsIn_of_wp Try.func104 rfl trivial ?_ rfl
  simp only [Try.ntmps104, List.size_toArray, List.length_cons, List.length_nil, Nat.reduceAdd, Nat.reduceSub, Array.replicate_succ, Array.replicate_zero, List.push_toArray, List.append_toArray, List.nil_append, List.cons_append]
  gi_wp2
  gi_loopw [7] (fun i wr => ∃ k : Nat, k ≤ ps.length ∧ i = .int .i64 k ∧ J (upto (pairAt ps) k) wr ∧ Below n₀ W wr)
    (fun i _ => ps.length - (intOf i).toNat)
  case atStart => exact ⟨0, Nat.zero_le _, rfl, h0, Below.refl _ _⟩
  case round =>
    obtain ⟨k, hk, rfl, hJs, hnx⟩ := hrel
    by_cases hlt : k < ps.length
    · obtain ⟨b, rfl, hb, hx, hy⟩ := (hc.below hnx) k hlt
      have hJ1 : J (upto (pairAt ps) k) (wr.alloc (.cells #[.int .i64 (ps[k]?.getD (0, 0)).1, .int .u64 (ps[k]?.getD (0, 0)).2] 85)) := hJ _ _ _ none hJs (World.grownBy_alloc _ _ _) (by simp)
      obtain ⟨fn, tmps, assign, body, hyy, hR⟩ := hY _ (pairAt ps k) _ hJ1 (by rw [upto_length]; exact hlt)
      have hB1 : Below n₀ W (wr.alloc (.cells #[.int .i64 (ps[k]?.getD (0, 0)).1, .int .u64 (ps[k]?.getD (0, 0)).2] 85)) := hnx.alloc (Nat.le_trans hn₀ hnx.size) _
      have HB := Lib.hid hB1
      have HC := Lib.hid hc
      have HJ := Lib.hid hJ
      have HY := Lib.hid hY
      clear hc hJ hY hB1 hJ1 hnx hJs
      simp only [pairAt] at hyy
      have eU := Lib.hid (upto_succ (pairAt ps) k)
      have hp : pairAt ps k = (k, ps[k]?.getD (0, 0)) := rfl
      rw [hp] at eU hR
      clear hp
      generalize ps[k]?.getD (0, 0) = q at *
      obtain ⟨q1, q2⟩ := q
      dsimp only at *
      gi_wp2
      refine hR.mono ?_
      rintro e W3 (⟨rfl, hJ3, hk3⟩ | ⟨rfl, hJx3⟩)
      · gi_wp2
        go_roundw
        case rel => exact ⟨k + 1, by omega, by simp, by rw [eU.out]; exact hJ3, HB.out.trans hk3⟩
        case measure => simp [intOf]; omega
      · gi_wp2
        refine bodyPost_ret (results_none rfl _ _ _) rfl ?_
        exact ⟨⟨_, rfl⟩, .inr ⟨_, ⟨k + 1, by omega, eU.out.symm⟩, hJx3⟩⟩
    · obtain rfl : k = ps.length := by omega
      gi_wp2
      go_end0
      exact ⟨⟨_, rfl⟩, .inl ⟨_, rfl, hJs⟩⟩

set_option maxHeartbeats 1000000 in
theorem sall_in (n : Nat) (A : Option Addr) (len cap : Nat) (w : World) :
    CallsIn Fence.wide n Try.prog 102 #[.slice A len cap] w fun e w' => e = .returned (.func (.func 104) #[] #[.pointer (some ⟨w.heap.size, 0, none⟩)]) ∧ w' = w.alloc (.cells #[.slice A len cap] 56) := by
  refine callsIn_of_wp Try.func102 rfl trivial ?_ rfl
  simp only [Try.ntmps102, List.size_toArray, List.length_cons, List.length_nil, Nat.reduceAdd, Nat.reduceSub, Array.replicate_succ, Array.replicate_zero, List.push_toArray, List.append_toArray, List.nil_append, List.cons_append]
  gi_wp2
  go_ret
  exact ⟨rfl, rfl⟩

set_option maxHeartbeats 1000000 in
theorem lall_in (n : Nat) (hn : 1 ≤ n) (b : Nat) (A : Option Addr) (len cap : Nat) (w : World) (hc : w.cell? ⟨b, 0, none⟩ = some (.slice A len cap)) :
    CallsIn Fence.wide n Try.prog 95 #[.pointer (some ⟨b, 0, none⟩)] w fun e w' => e = .returned (.func (.func 104) #[] #[.pointer (some ⟨w.heap.size, 0, none⟩)]) ∧ w' = w.alloc (.cells #[.slice A len cap] 56) := by
  refine callsIn_of_wp Try.func95 rfl trivial ?_ rfl
  simp only [Try.ntmps95, List.size_toArray, List.length_cons, List.length_nil, Nat.reduceAdd, Nat.reduceSub, Array.replicate_succ, Array.replicate_zero, List.push_toArray, List.append_toArray, List.nil_append, List.cons_append]
  gi_wp2_with (refine ⟨trivial, ?_⟩; gi_at_call 102; refine (sall_in (n - 1) _ _ _ _).mono ?_; rintro e w' ⟨rfl, rfl⟩)
  go_ret
  exact ⟨rfl, rfl⟩

theorem all_stops (n : Nat) (hn : 1 ≤ n) (Bs n₀ cap : Nat) (A : Option Addr) (ps : PL) (hlen : ps.length ≤ maxLen) (w : World) (hBs : Bs < w.heap.size) (hn₀ : n₀ ≤ w.heap.size)
    (hc : w.cell? ⟨Bs, 0, none⟩ = some (.slice A ps.length cap)) (hP : PRd w A n₀ ps) :
    SeqStopsK Fence.wide n Try.prog 104 #[.pointer (some ⟨Bs, 0, none⟩)] (fun x : Nat × (Int × Int) => #[.int .i64 (x.1 : Nat), .agg #[.int .i64 x.2.1, .int .u64 x.2.2]]) (Below n₀) (fun ys => ys = upto (pairAt ps) ps.length)
      (fun pre => ∃ k, k ≤ ps.length ∧ pre = upto (pairAt ps) k) ps.length w := fun l J Jx W hW hJ _ hY h0 =>
  all1_in n hn l Bs n₀ cap A ps hlen J Jx W (Nat.le_trans hn₀ hW.size) hJ hY ((hW.cell (p := ⟨Bs, 0, none⟩) hBs).trans hc) (hP.below (hW.mono hn₀)) h0

theorem upto_pairs (ps : PL) (k : Nat) (hk : k ≤ ps.length) : (upto (pairAt ps) k).map (fun x => x.2) = ps.take k := by
  apply List.ext_getElem
  · simp [upto, hk]
  · intro i h1 h2
    have : i < ps.length := by simp [upto] at h1; omega
    simp [upto, pairAt, this]

def ToldPost (w : World) (l : PL) (e : Ending) (w' : World) : Prop := ∃ v, e = .returned v ∧ w'.ownsRow w.heap.size 85 2 v l.length (cellsP l) ∧ Below w.heap.size w w'

def pr (x : Nat × (Int × Int)) : Int × Int := x.2
def ToldI (w : World) (pre : List (Nat × (Int × Int))) (W : World) : Prop := (∃ v, Boxed W w.heap.size 56 v ∧ W.ownsRow w.heap.size 85 2 v (pre.map pr).length (cellsP (pre.map pr)) ∧ True) ∧ Below w.heap.size w W

set_option maxRecDepth 100000 in
set_option maxHeartbeats 2000000 in
theorem told_in (n : Nat) (hn : 3 ≤ n) (b : Nat) (v0 : Value) (m : Nat) (ps : PL) (w : World) (h : ListAt w b v0 m ps) :
    CallsIn Fence.wide n Try.prog 76 #[.pointer (some ⟨b, 0, none⟩)] w (ToldPost w ps) := by
  have h1 : 1 ≤ n := by omega
  obtain ⟨i0, hi, hz0, hz1, hz2⟩ := info_parts infoPair
  obtain ⟨A, cap, rfl, hcap, hmax, _⟩ := ownsRow_cell h.row
  have hP0 := PRd.of_row h.row
  have hlen : ps.length ≤ maxLen := Nat.le_trans hcap hmax
  have hm := h.most
  have hbl := h.blk.lt
  have c0 : w.cell? ⟨b, 0, none⟩ = some (.slice A ps.length cap) := h.blk.cell 0
  clear h
  refine callsIn_of_wp_marks Try.func76 rfl trivial ?_ rfl
  simp only [Try.ntmps76, List.size_toArray, List.length_cons, List.length_nil, Nat.reduceAdd, Nat.reduceSub, Array.replicate_succ, Array.replicate_zero, List.push_toArray, List.append_toArray, List.nil_append, List.cons_append]
  have c0' : (w.alloc (.cells #[.slice none 0 0] 56)).cell? ⟨b, 0, none⟩ = some (.slice A ps.length cap) := (((Below.refl w.heap.size w).alloc (Nat.le_refl _) _).cell (p := ⟨b, 0, none⟩) hbl).trans c0
  gi_wp2_with (refine ⟨trivial, ?_⟩; gi_at_call 95; refine (lall_in (n - 1) (by omega) b A ps.length cap _ c0').mono ?_; rintro e w' ⟨rfl, rfl⟩)
  have bO := Boxed.new w 56 (.slice none 0 0)
  have bN := Boxed.new (w.alloc (.cells #[.slice none 0 0] 56)) 56 (.slice A ps.length cap)
  rw [World.size_alloc] at bN
  have hB0 : Below w.heap.size w ((w.alloc (.cells #[.slice none 0 0] 56)).alloc (.cells #[.slice A ps.length cap] 56)) := ((Below.refl _ w).alloc (Nat.le_refl _) _).alloc (by simp) _
  refine wpIn_rangeFunc_ownH rfl h1 (gf := 104) (lb := #[.pointer (some ⟨w.heap.size + 1, 0, none⟩)]) rfl trivial (enters_of Try.func104 (by kernel_rfl) rfl)
    (all_stops (n - 1) (by omega) (w.heap.size + 1) w.heap.size cap A ps hlen _ (by simp) (by simp; omega) bN.cell (hP0.below hB0)) belowK_t (belowK_b (by simp; omega)) (Below.refl _ _) (fun _ => rfl)
    (ToldI w) (fun _ _ _ => False)
    (OwnFrom.and (Own.from (holdsRow_own w.heap.size w.heap.size 56 85 2 (fun pre : List (Nat × (Int × Int)) => (pre.map pr).length) (fun pre => cellsP (pre.map pr)) (fun _ _ => True)) _) (ownFrom_below (Nat.le_refl _) (by simp; omega)))
    (fun _ _ _ _ _ hs _ _ => hs)
    ⟨⟨_, bO.alloc _, World.ownsRow_nil _ _ _ _, trivial⟩, hB0⟩
    (fun x a' W => ∃ B5, a' = { tmps := #[.pointer (some ⟨b, 0, none⟩), undef, .slice none 0 0, .pointer (some ⟨w.heap.size, 0, none⟩), undef, .pointer (some ⟨B5, 0, none⟩), .pointer (some ⟨b, 0, none⟩), .func (.func 104) #[] #[.pointer (some ⟨w.heap.size + 1, 0, none⟩)], .int .i64 (x.1 : Nat), .agg #[.int .i64 x.2.1, .int .u64 x.2.2], undef, undef, undef, undef, undef], defers := [] } ∧ Blk W B5 [.int .i64 x.2.1, .int .u64 x.2.2] 85)
    (fun x a' s X Y row hx hg hr => by
      obtain ⟨B5, e1, e2⟩ := hx
      exact ⟨B5, e1, Own.from (blk_own (β := Unit) _ _ _) _ () X Y row e2 hg hr⟩)
    ?assign ?body ?done ?stop
  case assign =>
    rintro l pre x W K hI hK
    gi_wp2
    have hI2 : ToldI w pre (W.alloc (.cells #[.int .i64 x.2.1, .int .u64 x.2.2] 85)) := by
      obtain ⟨⟨v, hv, hr, ht⟩, hB⟩ := hI
      exact ⟨⟨v, hv.alloc _, hr.alloc _, ht⟩, hB.alloc hB.size _⟩
    have hw : w.heap.size ≤ W.heap.size := hI.2.size
    exact hK _ _ ((KeepsOthers.alloc _ _).from _) ((Below.refl _ _).alloc hw _) hI2 ⟨_, rfl, Blk.new W [.int .i64 x.2.1, .int .u64 x.2.2] 85⟩
  case body =>
    rintro l pre x a' W hl ⟨r, hr⟩ ⟨⟨v, hv, hrow, _⟩, hB⟩ ⟨B5, rfl, hb5⟩ hlt
    have hc := hv.cell
    have d0 : W.cell? ⟨B5, 0, none⟩ = some (.int .i64 x.2.1) := hb5.cell 0
    have d1 : W.cell? ⟨B5, 1, none⟩ = some (.int .u64 x.2.2) := hb5.cell 1
    have hpl : (pre.map pr).length < ps.length := by simpa using hlt
    have hx : (pre ++ [x]).map pr = pre.map pr ++ [(x.2.1, x.2.2)] := by simp [pr]
    have HX := Lib.hid hx
    obtain ⟨x0, x1, x2⟩ := x
    dsimp only at d0 d1 HX ⊢
    clear hb5 hx
    generalize pre.map pr = qs at *
    gi_wp2_with (gi_at_builtin; refine wpListIn_append_own _ rfl _ _ 56 rfl w.heap.size 85 i0 (.agg #[.int .i64 0, .int .u64 0]) 2 16 Try.underlying56 hi hz0 hz1 hz2 rfl (by decide) _ _ _ rfl (hrow.alloc _) ⟨W.heap.size, 0, none⟩ 1 1 [.int .i64 x1, .int .u64 x2] rfl rfl (cells_new W [.int .i64 x1, .int .u64 x2] 85) (by simp [Value.oneCell']) (by omega) (by omega) (by have := hB.size; simp; omega) ?_; intro v' w1 hown' hgrow _; obtain ⟨g', cap', rfl⟩ := ownsRow_succ hown'; obtain ⟨hv1, hv2, hr2, hk2, hb2⟩ := hv.appended (by decide) hrow hB.size (Nat.le_refl _) hown' hgrow; have hc1 := hv1.cell; have hf1 := hv1.frozen)
    refine ⟨hk2.from _, hb2, ⟨⟨_, hv2, ?_, trivial⟩, hB.trans hb2⟩⟩
    rw [HX.out, cellsP_snoc, List.length_append]
    exact hr2
  case done =>
    rintro D ys W hD rfl ⟨⟨v, hv, hrow, _⟩, hB⟩ hK
    have hc := hv.cell
    rw [show (upto (pairAt ps) ps.length).map pr = ps from by have := upto_pairs ps ps.length (Nat.le_refl _); rw [List.take_length] at this; exact this] at hrow
    gi_wp2
    refine ⟨by simp, .inl ⟨_, _, rfl, run_takeDeferred hK, ?_⟩⟩
    exact ⟨_, results_tmp rfl _ _ _, v, rfl, ownsRow_putObj hrow _ hK rfl, hB.trans (belowK_b (w := w) (Nat.le_refl _) W D _ _ (by simp at hD; omega) hK rfl rfl)⟩
  case stop =>
    rintro D c pre W _ _ h _
    exact h.elim

theorem told_any (b : Nat) (v0 : Value) (m : Nat) (ps : PL) (w : World) (h : ListAt w b v0 m ps) :
    Calls Try.prog 76 #[.pointer (some ⟨b, 0, none⟩)] w (ToldPost w ps) := callsIn_wide.1 (told_in 3 (Nat.le_refl _) b v0 m ps w h)

end Go.Proofs.Ytilffolppnnkaaa
