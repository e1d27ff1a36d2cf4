/- A log's Reads, Writes, Broken. -/
import Derived.Test.YtobpknbnfkjnhaaLog5
namespace Go.Proofs.Ytobpknbnfkjnhaa
open Go.RowKit Go.Shelf

attribute [local go_sem] Oper.semAt_some

set_option maxHeartbeats 1000000 in
theorem Reads_any (w : World) (g : Nat) (F : List Nat) (R W : PL) (h : LogAt w g F R W) :
    Calls Try.prog 15 #[.pointer (some ⟨g, 0, none⟩)] w (ToldPost w R) := by
  obtain ⟨b, c, v, m, u, n, h1, h2, h3, rfl, h4, h5, h6⟩ := h.parts
  have k0 : w.cell? ⟨g, 0, none⟩ = some (.pointer (some ⟨b, 0, none⟩)) := h1.cell 0
  have H2 := Lib.hid h2
  clear h h1 h2 h3 h4 h5 h6
  go_enter Try.func15, Try.ntmps15
  go_wp2_with fail
  refine (none_any _ _ _ k0).mono ?_
  rintro e w' ⟨rfl, rfl⟩
  go_wp2_with fail
  refine (told_any b v m R _ H2.out).mono ?_
  rintro e w' ⟨x, rfl, hr, hb⟩
  have HR := Lib.hid hr
  have HB := Lib.hid hb
  clear hr hb
  go_wp2_with fail
  go_ret
  exact ⟨_, rfl, HR.out, HB.out⟩

set_option maxHeartbeats 1000000 in
theorem Writes_any (w : World) (g : Nat) (F : List Nat) (R W : PL) (h : LogAt w g F R W) :
    Calls Try.prog 16 #[.pointer (some ⟨g, 0, none⟩)] w (ToldPost w W) := by
  obtain ⟨b, c, v, m, u, n, h1, h2, h3, rfl, h4, h5, h6⟩ := h.parts
  have k0 : w.cell? ⟨g, 0, none⟩ = some (.pointer (some ⟨b, 0, none⟩)) := h1.cell 0
  have k1 : w.cell? ⟨g, 1, none⟩ = some (.pointer (some ⟨c, 0, none⟩)) := h1.cell 1
  have H3 := Lib.hid h3
  clear h h1 h2 h3 h4 h5 h6
  go_enter Try.func16, Try.ntmps16
  go_wp2_with fail
  refine (none_any _ _ _ k0).mono ?_
  rintro e w' ⟨rfl, rfl⟩
  go_wp2_with fail
  refine (told_any c u n W _ H3.out).mono ?_
  rintro e w' ⟨x, rfl, hr, hb⟩
  have HR := Lib.hid hr
  have HB := Lib.hid hb
  clear hr hb
  go_wp2_with fail
  go_ret
  exact ⟨_, rfl, HR.out, HB.out⟩

/-- Is a read no longer so? -/
def bad (now : PL) (p : Int × Int) : Bool := isIn now p.1 && (valOf now p.1 != p.2)
def brk (R now : PL) : Option Nat := R.findIdx? (bad now)
def brkI (R now : PL) : Int := match brk R now with | some i => i | none => 0

/-- A slice of pairs that is read. -/
def NRd (W : World) (A : Option Addr) (n₀ : Nat) (l : PL) : Prop := ∀ k, k < l.length → ∃ b off, A = some ⟨b, off, none⟩ ∧ b < n₀ ∧ W.cell? ⟨b, off + k * 2, none⟩ = some (.int .i64 (l[k]?.getD (0, 0)).1) ∧ W.cell? ⟨b, off + k * 2 + 1, none⟩ = some (.int .u64 (l[k]?.getD (0, 0)).2)
theorem NRd.below {W W' : World} {A : Option Addr} {n₀ : Nat} {l : PL} (h : NRd W A n₀ l) (k : Below n₀ W W') : NRd W' A n₀ l := fun j hj => by
  obtain ⟨b, off, e, hb, h1, h2⟩ := h j hj
  exact ⟨b, off, e, hb, (k.cell (p := ⟨b, _, none⟩) hb).trans h1, (k.cell (p := ⟨b, _, none⟩) hb).trans h2⟩
theorem NRd.of_prd {W : World} {A : Option Addr} {n₀ : Nat} {l : PL} (h : PRd W A n₀ l) : NRd W A n₀ l := fun j hj => by
  obtain ⟨b, e, hb, h1, h2⟩ := h j hj
  exact ⟨b, 0, e, hb, by rw [Nat.zero_add]; exact h1, by rw [Nat.zero_add]; exact h2⟩

theorem valOf_at {l : PL} {k : Nat} (hk : k < l.length) {a : Int} (h1 : ∀ j (hj : j < l.length), j < k → l[j].1 ≠ a) (h2 : l[k].1 = a) : isIn l a = true ∧ valOf l a = l[k].2 := by
  have : place l a = some k := by
    rw [place, List.findIdx?_eq_some_iff_getElem]
    exact ⟨hk, by simpa using h2, fun j hj => by simpa using h1 j (by omega) hj⟩
  exact ⟨by simp [isIn, this], by simp [valOf, this, hk]⟩
theorem isIn_none {l : PL} {a : Int} (h1 : ∀ j (hj : j < l.length), l[j].1 ≠ a) : isIn l a = false := by
  have : place l a = none := place_none.2 (fun p hp => by obtain ⟨j, hj, rfl⟩ := List.getElem_of_mem hp; exact h1 j hj)
  simp [isIn, this]

def BrokenPost (w : World) (R now : PL) (e : Ending) (w' : World) : Prop := e = .returned (.tuple #[.int .i64 (brkI R now), .bool (brk R now).isSome]) ∧ Below w.heap.size w w'

def BrkI (w : World) (A : Option Addr) (now : PL) (cap : Nat) (pre : List (Nat × (Int × Int))) (W : World) : Prop :=
  (∀ x ∈ pre, bad now x.2 = false) ∧ Blk W w.heap.size [.slice A now.length cap] 24 ∧ Blk W (w.heap.size + 1) [.int .i64 0] 3 ∧ Blk W (w.heap.size + 1 + 1) [.bool false] 4 ∧ Below w.heap.size w W
def BrkX (w : World) (now : PL) (c : Code) (pre : List (Nat × (Int × Int))) (W : World) : Prop :=
  (c = .ret ∧ ∃ ini last, pre = ini ++ [last] ∧ (∀ x ∈ ini, bad now x.2 = false) ∧ bad now last.2 = true ∧ Blk W (w.heap.size + 1) [.int .i64 (last.1 : Nat)] 3 ∧ Blk W (w.heap.size + 1 + 1) [.bool true] 4) ∧ Below w.heap.size w W
theorem brkI_own (w : World) (A : Option Addr) (now : PL) (cap : Nat) {B : Nat} (hB : w.heap.size ≤ B) : OwnFrom B (BrkI w A now cap) := fun s X Y row h hg hr =>
  ⟨h.1, Own.from (blk_own (β := Unit) _ _ _) _ () X Y row h.2.1 hg hr, Own.from (blk_own (β := Unit) _ _ _) _ () X Y row h.2.2.1 hg hr, Own.from (blk_own (β := Unit) _ _ _) _ () X Y row h.2.2.2.1 hg hr, ownFrom_below (β := Unit) (Nat.le_refl _) hB () X Y row h.2.2.2.2 hg hr⟩
theorem brkX_own (w : World) (now : PL) {B : Nat} (hB : w.heap.size ≤ B) (c : Code) : OwnFrom B (BrkX w now c) := fun s X Y row h hg hr => by
  obtain ⟨⟨hc, ini, last, e1, e2, e3, e4, e5⟩, hb⟩ := h
  exact ⟨⟨hc, ini, last, e1, e2, e3, Own.from (blk_own (β := Unit) _ _ _) _ () X Y row e4 hg hr, Own.from (blk_own (β := Unit) _ _ _) _ () X Y row e5 hg hr⟩, ownFrom_below (β := Unit) (Nat.le_refl _) hB () X Y row hb hg hr⟩

set_option maxRecDepth 100000 in
set_option maxHeartbeats 2000000 in
theorem Broken_in (n : Nat) (hn : 3 ≤ n) (g : Nat) (F : List Nat) (R W0 now : PL) (A : Option Addr) (cap : Nat) (w : World) (hl : now.length ≤ maxLen) (hN : NRd w A w.heap.size now) (h : LogAt w g F R W0) :
    CallsIn Fence.wide n Try.prog 25 #[.pointer (some ⟨g, 0, none⟩), .slice A now.length cap] w (BrokenPost w R now) := by
  have h1 : 1 ≤ n := by omega
  have hl2 : (now.length : Int) ≤ 9223372036854775807 := by unfold maxLen at hl; omega
  obtain ⟨b, c, v, m, u, n', p1, p2, p3, rfl, p4, p5, p6⟩ := h.parts
  obtain ⟨A2, cap2, rfl, hcap, hmax, _⟩ := ownsRow_cell p2.row
  have hP0 := PRd.of_row p2.row
  have hlen : R.length ≤ maxLen := Nat.le_trans hcap hmax
  have hgl := p1.lt
  have hbl := p2.blk.lt
  have k0 : ∀ W, Below w.heap.size w W → W.cell? ⟨g, 0, none⟩ = some (.pointer (some ⟨b, 0, none⟩)) := fun W hW => (hW.cell (p := ⟨g, 0, none⟩) hgl).trans (p1.cell 0)
  have c0 : ∀ W, Below w.heap.size w W → W.cell? ⟨b, 0, none⟩ = some (.slice A2 R.length cap2) := fun W hW => (hW.cell (p := ⟨b, 0, none⟩) hbl).trans (p2.blk.cell 0)
  clear h p1 p2 p3 p4 p5 p6
  have K0 := Lib.hid k0
  have C0 := Lib.hid c0
  clear k0 c0
  have hW1 : Below w.heap.size w (((w.alloc (.cells #[.slice A now.length cap] 24)).alloc (.cells #[.int .i64 0] 3)).alloc (.cells #[.bool false] 4)) := (((Below.refl _ w).alloc (Nat.le_refl _) _).alloc (by simp) _).alloc (by simp; omega) _
  have k0 := K0.out _ hW1
  refine callsIn_of_wp_marks Try.func25 rfl trivial ?_ rfl
  simp only [Try.ntmps25, List.size_toArray, List.length_cons, List.length_nil, Nat.reduceAdd, Nat.reduceSub, Array.replicate_succ, Array.replicate_zero, List.push_toArray, List.append_toArray, List.nil_append, List.cons_append]
  gi_wp2_with fail
  rw [wpIn_wide]
  refine wp_scope_straight ?_
  rw [← wpIn_wide (n := n)]
  gi_wp2_with (refine ⟨trivial, ?_⟩; gi_at_call 26; refine (callsIn_wide.2 (none_any _ g b k0)).mono ?_; rintro e w' ⟨rfl, rfl⟩)
  have c0 := C0.out _ hW1
  have HW1 := Lib.hid hW1
  clear hW1
  refine wpIn_label ?_
  gi_wp2_with (refine ⟨trivial, ?_⟩; gi_at_call 36; refine (lall_in (n - 1) (by omega) b A2 R.length cap2 _ c0).mono ?_; rintro e w' ⟨rfl, rfl⟩)
  have bN := Boxed.new (((w.alloc (.cells #[.slice A now.length cap] 24)).alloc (.cells #[.int .i64 0] 3)).alloc (.cells #[.bool false] 4)) 24 (.slice A2 R.length cap2)
  have b0 := (((Blk.new w [.slice A now.length cap] 24).alloc (.cells #[.int .i64 0] 3)).alloc (.cells #[.bool false] 4)).alloc (.cells #[.slice A2 R.length cap2] 24)
  have b1 := ((Blk.new (w.alloc (.cells #[.slice A now.length cap] 24)) [.int .i64 0] 3).alloc (.cells #[.bool false] 4)).alloc (.cells #[.slice A2 R.length cap2] 24)
  have b2 := (Blk.new ((w.alloc (.cells #[.slice A now.length cap] 24)).alloc (.cells #[.int .i64 0] 3)) [.bool false] 4).alloc (.cells #[.slice A2 R.length cap2] 24)
  simp only [World.size_alloc] at bN b1 b2
  have hB0 := HW1.out.alloc (by simp; omega) (.cells #[.slice A2 R.length cap2] 24)
  refine wpIn_rangeFunc_ownH rfl h1 (gf := 38) (lb := #[.pointer (some ⟨w.heap.size + 1 + 1 + 1, 0, none⟩)]) rfl trivial (enters_of Try.func38 (by kernel_rfl) rfl)
    (all_stops (n - 1) (by omega) (w.heap.size + 1 + 1 + 1) w.heap.size cap2 A2 R hlen _ (by simp) (by simp; omega) bN.cell (hP0.below hB0)) belowK_t (belowK_b (by simp; omega)) (Below.refl _ _) (fun _ => rfl)
    (BrkI w A now cap) (BrkX w now)
    (brkI_own w A now cap (by simp; omega)) (brkX_own w now (by simp; omega))
    ⟨by simp, b0, b1, b2, hB0⟩
    (fun x a' W => ∃ B7, a' = { tmps := #[.pointer (some ⟨g, 0, none⟩), .slice A now.length cap, undef, .pointer (some ⟨w.heap.size, 0, none⟩), .pointer (some ⟨w.heap.size + 1, 0, none⟩), .pointer (some ⟨w.heap.size + 1 + 1, 0, none⟩), .int .i64 (x.1 : Nat), .pointer (some ⟨B7, 0, none⟩), undef, undef, .pointer (some ⟨g, 0, none⟩), .bool false, .pointer (some ⟨g, 0, none⟩), .pointer (some ⟨g, 0, none⟩), .pointer (some ⟨g, 0, none⟩), .pointer (some ⟨b, 0, none⟩), .func (.func 38) #[] #[.pointer (some ⟨w.heap.size + 1 + 1 + 1, 0, none⟩)], .int .i64 (x.1 : Nat), .agg #[.int .i64 x.2.1, .int .u64 x.2.2], undef, undef, undef, undef, undef, undef, undef, undef, undef, undef, undef, undef, undef, undef, undef, undef, undef, undef], defers := [] } ∧ Blk W B7 [.int .i64 x.2.1, .int .u64 x.2.2] 39)
    (fun x a' s X Y row hx hg hr => by
      obtain ⟨B5, e1, e2⟩ := hx
      exact ⟨B5, e1, Own.from (blk_own (β := Unit) _ _ _) _ () X Y row e2 hg hr⟩)
    ?assign ?body ?done ?stop
  case assign =>
    rintro l pre x W K hI hK
    gi_wp2
    have hw : w.heap.size ≤ W.heap.size := hI.2.2.2.2.size
    exact hK _ _ ((KeepsOthers.alloc _ _).from _) ((Below.refl _ _).alloc hw _) ⟨hI.1, hI.2.1.alloc _, hI.2.2.1.alloc _, hI.2.2.2.1.alloc _, hI.2.2.2.2.alloc hw _⟩ ⟨_, rfl, Blk.new W [.int .i64 x.2.1, .int .u64 x.2.2] 39⟩
  case body =>
    rintro l pre x a' W hl ⟨r, hr⟩ hI ⟨B7, rfl, hb7⟩ hlt
    obtain ⟨x0, x1, x2⟩ := x
    have HI := Lib.hid hI
    have d0 : W.cell? ⟨w.heap.size, 0, none⟩ = some (.slice A now.length cap) := hI.2.1.cell 0
    clear hI
    dsimp only at hb7 ⊢
    gi_wp2
    gi_loopw [21] (fun i wr => ∃ k : Nat, k ≤ now.length ∧ i = .int .i64 k ∧ (∀ j (hj : j < now.length), j < k → now[j].1 ≠ x1) ∧ Chg [] W wr ∧ KeepsOthers W wr) (fun i _ => now.length - (intOf i).toNat)
    case atStart => exact ⟨0, Nat.zero_le _, rfl, fun j hj h => absurd h (by omega), Chg.refl _ _, KeepsOthers.refl _⟩
    case round =>
      obtain ⟨k, hk, rfl, hno, hC, hK⟩ := hrel
      have hI' := HI.out
      have HN := Lib.hid hno
      have HC := Lib.hid hC
      have HK := Lib.hid hK
      have hbl7 := hC.blk hb7 (by simp)
      have e0 : wr.cell? ⟨B7, 0, none⟩ = some (.int .i64 x1) := hbl7.cell 0
      have e1 : wr.cell? ⟨B7, 1, none⟩ = some (.int .u64 x2) := hbl7.cell 1
      have hB7 := hbl7.lt
      have hbw : Below w.heap.size w wr := hI'.2.2.2.2.trans (hC.nil_below.mono hI'.2.2.2.2.size)
      have hsz : w.heap.size ≤ W.heap.size := hI'.2.2.2.2.size
      have HW := Lib.hid hbw
      have hnw := hN.below hbw
      have g4 : Blk wr (w.heap.size + 1) [.int .i64 0] 3 := hC.blk hI'.2.2.1 (by simp)
      have g5 : Blk wr (w.heap.size + 1 + 1) [.bool false] 4 := hC.blk hI'.2.2.2.1 (by simp)
      have G4 := Lib.hid g4
      have G5 := Lib.hid g5
      clear hno hC hK hI' hbw g4 g5
      by_cases hlt : k < now.length
      · obtain ⟨bn, off, rfl, hbn, f0, f1⟩ := hnw k hlt
        have eq : now[k]?.getD (0, 0) = now[k] := by simp [hlt]
        rw [eq] at f0 f1
        clear eq hnw
        by_cases he : now[k].1 = x1
        · have hv := valOf_at hlt (a := x1) (fun j hj h => HN.out j hj h) he
          have HV := Lib.hid hv
          rw [he] at f0
          by_cases hq : now[k].2 = x2
          · rw [hq] at f1
            have hbad : bad now (x1, x2) = false := by simp [bad, hv.2, hq]
            have HBAD := Lib.hid hbad
            clear hv hbad hq he
            gi_wp2
            have hC2 := HC.out.alloc (.cells #[.int .i64 x1, .int .u64 x2] 39)
            refine ⟨((HK.out.trans (KeepsOthers.alloc _ _))).from _, hC2.nil_below.mono hsz, fun y hy => ?_, hC2.blk HI.out.2.1 (by simp), hC2.blk HI.out.2.2.1 (by simp), hC2.blk HI.out.2.2.2.1 (by simp), HW.out.alloc HW.out.size _⟩
            rcases List.mem_append.1 hy with hy | hy
            · exact HI.out.1 y hy
            · simp at hy; subst hy; exact HBAD.out
          · have hbad : bad now (x1, x2) = true := by simp [bad, hv.1, hv.2, hq]
            have HBAD := Lib.hid hbad
            have hqb : (now[k].2 != x2) = true := by simpa using hq
            have t4 : (wr.alloc (.cells #[.int .i64 x1, .int .u64 now[k].2] 39)).cell? ⟨w.heap.size + 1, 0, none⟩ = some (.int .i64 0) := (G4.out.alloc _).cell 0
            have t5 : (wr.alloc (.cells #[.int .i64 x1, .int .u64 now[k].2] 39)).cell? ⟨w.heap.size + 1 + 1, 0, none⟩ = some (.bool false) := (G5.out.alloc _).cell 0
            have z4 : (wr.alloc (.cells #[.int .i64 x1, .int .u64 now[k].2] 39)).frozen? ⟨w.heap.size + 1, 0, none⟩ = false := (G4.out.alloc _).free 0
            have z5 : (wr.alloc (.cells #[.int .i64 x1, .int .u64 now[k].2] 39)).frozen? ⟨w.heap.size + 1 + 1, 0, none⟩ = false := (G5.out.alloc _).free 0
            clear hv hbad hq he
            generalize now[k].2 = nv at *
            gi_wp2
            have hB8 := ((HW.out.alloc HW.out.size (.cells #[.int .i64 x1, .int .u64 nv] 39)).setCell (p := ⟨w.heap.size + 1, 0, none⟩) (by simp) (.int .i64 (x0 : Nat))).setCell (p := ⟨w.heap.size + 1 + 1, 0, none⟩) (by simp; omega) (.bool true)
            refine ⟨(((HK.out.trans (KeepsOthers.alloc _ _)).trans (KeepsOthers.setCell _ _ _)).trans (KeepsOthers.setCell _ _ _)).from _, ⟨rfl, pre, (x0, x1, x2), rfl, HI.out.1, HBAD.out, ?_, ?_⟩, hB8⟩
            · exact ((G4.out.alloc _).set 0 _).other (a := ⟨w.heap.size + 1 + 1, 0, none⟩) (by simp) _
            · exact ((G5.out.alloc _).other (a := ⟨w.heap.size + 1, 0, none⟩) (by simp) _).set 0 _
        · have heb : (now[k].1 == x1) = false := by simpa using he
          have hno' : ∀ j (hj : j < now.length), j < k + 1 → now[j].1 ≠ x1 := fun j hj h => by
            by_cases e : j = k
            · subst e; exact he
            · exact HN.out j hj (by omega)
          have HN2 := Lib.hid hno'
          clear hno' he
          generalize now[k].1 = na at *
          generalize now[k].2 = nv at *
          gi_wp2
          go_roundw
          case rel => exact ⟨k + 1, by omega, by simp, HN2.out, HC.out.alloc _, HK.out.trans (KeepsOthers.alloc _ _)⟩
          case measure => simp [intOf]; omega
      · obtain rfl : k = now.length := by omega
        gi_wp2
        refine ⟨HK.out.from _, HC.out.nil_below.mono hsz, fun y hy => ?_, HC.out.blk HI.out.2.1 (by simp), G4.out, G5.out, HW.out⟩
        rcases List.mem_append.1 hy with hy | hy
        · exact HI.out.1 y hy
        · simp at hy; subst hy
          have := isIn_none (l := now) (a := x1) (fun j hj => HN.out j hj hj)
          simp [bad, this]
  case done =>
    rintro D ys W hD rfl hI hK
    have hD' : w.heap.size + 1 + 1 < D := by simp at hD; omega
    have hnb : brk R now = none := by
      rw [brk, List.findIdx?_eq_none_iff]
      intro p hp
      obtain ⟨j, hj, rfl⟩ := List.getElem_of_mem hp
      have := hI.1 (pairAt R j) (by simp only [upto, List.mem_map, List.mem_range]; exact ⟨j, hj, rfl⟩)
      simpa [pairAt, hj] using this
    have e1 : brkI R now = 0 := by simp [brkI, hnb]
    have HNB := Lib.hid hnb
    have E1 := Lib.hid e1
    have HI := Lib.hid hI
    have t4 : W.cell? ⟨w.heap.size + 1, 0, none⟩ = some (.int .i64 0) := hI.2.2.1.cell 0
    have t5 : W.cell? ⟨w.heap.size + 1 + 1, 0, none⟩ = some (.bool false) := hI.2.2.2.1.cell 0
    have z4 : W.frozen? ⟨w.heap.size + 1, 0, none⟩ = false := hI.2.2.1.free 0
    have z5 : W.frozen? ⟨w.heap.size + 1 + 1, 0, none⟩ = false := hI.2.2.2.1.free 0
    clear hI hnb e1
    gi_wp2
    have hK' := (KeepsOthers.setCell (W.setCell ⟨w.heap.size + 1, 0, none⟩ (.int .i64 0)) ⟨w.heap.size + 1 + 1, 0, none⟩ (.bool false)).same D _ ((KeepsOthers.setCell W ⟨w.heap.size + 1, 0, none⟩ (.int .i64 0)).same D _ hK rfl) rfl
    have q4 := ((HI.out.2.2.1.set 0 (.int .i64 0)).other (a := ⟨w.heap.size + 1 + 1, 0, none⟩) (by simp) (.bool false)).putObj (D := D) (by omega) (.deferred none)
    have q5 := ((HI.out.2.2.2.1.other (a := ⟨w.heap.size + 1, 0, none⟩) (by simp) (.int .i64 0)).set 0 (.bool false)).putObj (D := D) (by omega) (.deferred none)
    have r4 := q4.cell 0
    have r5 := q5.cell 0
    simp only [List.set_cons_zero, List.getElem?_cons_zero] at r4 r5
    refine ⟨by simp, .inl ⟨_, _, rfl, run_takeDeferred hK', ?_⟩⟩
    refine ⟨.tuple #[.int .i64 0, .bool false], ?_, ?_, ?_⟩
    · simp [results, Try.results25, go_sem, r4, r5]
    · rw [E1.out, HNB.out]; rfl
    · exact ((HI.out.2.2.2.2.setCell (p := ⟨w.heap.size + 1, 0, none⟩) (by simp) _).setCell (p := ⟨w.heap.size + 1 + 1, 0, none⟩) (by simp; omega) _).trans (belowK_b (w := w) (Nat.le_refl _) _ D _ _ (by omega) hK' rfl rfl)
  case stop =>
    rintro D c pre W hD ⟨k, hk, rfl⟩ hX hK
    have hD' : w.heap.size + 1 + 1 < D := by simp at hD; omega
    obtain ⟨⟨rfl, ini, last, e1, e2, e3, e4, e5⟩, hB⟩ := hX
    gi_wp2
    obtain ⟨k', rfl⟩ : ∃ k', k = k' + 1 := by
      cases k with
      | zero => simp [upto] at e1
      | succ k' => exact ⟨k', rfl⟩
    rw [upto_succ] at e1
    obtain ⟨rfl, e6⟩ := List.append_inj' e1 rfl
    obtain rfl : pairAt R k' = last := by simpa using e6
    have hk' : k' < R.length := by omega
    have hnb : brk R now = some k' := by
      rw [brk, List.findIdx?_eq_some_iff_getElem]
      refine ⟨hk', by simpa [pairAt, hk'] using e3, fun j hj => ?_⟩
      have := e2 (pairAt R j) (by simp only [upto, List.mem_map, List.mem_range]; exact ⟨j, hj, rfl⟩)
      have hj' : j < R.length := by omega
      simpa [pairAt, hj'] using this
    have q4 := (e4.putObj (D := D) (by omega) (.deferred none)).cell 0
    have q5 := (e5.putObj (D := D) (by omega) (.deferred none)).cell 0
    simp only [List.getElem?_cons_zero] at q4 q5
    refine ⟨by simp, .inl ⟨_, _, rfl, run_takeDeferred hK, ?_⟩⟩
    refine ⟨.tuple #[.int .i64 (k' : Int), .bool true], ?_, ?_, ?_⟩
    · simp [results, Try.results25, go_sem, q4, q5, pairAt]
    · simp [brkI, hnb]
    · exact hB.trans (belowK_b (w := w) (Nat.le_refl _) _ D _ _ (by omega) hK rfl rfl)

theorem Broken_any (g : Nat) (F : List Nat) (R W0 now : PL) (A : Option Addr) (cap : Nat) (w : World) (hl : now.length ≤ maxLen) (hN : NRd w A w.heap.size now) (h : LogAt w g F R W0) :
    Calls Try.prog 25 #[.pointer (some ⟨g, 0, none⟩), .slice A now.length cap] w (BrokenPost w R now) := callsIn_wide.1 (Broken_in 3 (Nat.le_refl _) g F R W0 now A cap w hl hN h)

end Go.Proofs.Ytobpknbnfkjnhaa
