/- A path of layer 8: a validation begins; the sequence is taken; words are written back. -/
import Derived.Test.YtilffolppnnkaaaSoft5
namespace Go.Proofs.Ytilffolppnnkaaa
set_option maxRecDepth 100000
open Go.RowKit

/-- A validation's first question. -/
def Validate1Post (w : World) (p g : Nat) (R : PL) (gv : Int) (bp bt : Nat) (bz lv wr : Bool) (sn vl en pt : Int) (e : Ending) (w' : World) : Prop :=
  ∃ w1 bg br bi bs bl ba v rbs, Chg [] w w1 ∧ VEnv w1 p R 0 gv bp bt bg br bi bs bl ba v rbs ∧ (∀ x ∈ [bg, br, bi, bs, bl, ba] ++ rbs, w.heap.size ≤ x) ∧ StepPost w1 p g R 0 bp bt bg br bi bs bl ba bz lv wr sn vl en pt e w'

/-- Its world. -/
def vWorld (w1 : World) (bp bt bg : Nat) (v : Value) : World := (((((w1.alloc (.cells #[v] 56)).alloc (.cells #[.int .i64 0] 3)).alloc (.cells #[(.func (.func 94) #[] #[.pointer (some ⟨(w1.heap.size + 1), 0, none⟩), .pointer (some ⟨w1.heap.size, 0, none⟩), .pointer (some ⟨bp, 0, none⟩), .pointer (some ⟨(w1.heap.size + 1 + 1 + 1), 0, none⟩), .pointer (some ⟨(w1.heap.size + 1 + 1 + 1 + 1), 0, none⟩)])] 1)).alloc (.cells #[(.func (.func 92) #[] #[.pointer (some ⟨w1.heap.size, 0, none⟩), .pointer (some ⟨(w1.heap.size + 1), 0, none⟩), .pointer (some ⟨bp, 0, none⟩), .pointer (some ⟨(w1.heap.size + 1 + 1), 0, none⟩)])] 94)).alloc (.cells #[(.func (.func 93) #[] #[.pointer (some ⟨bg, 0, none⟩), .pointer (some ⟨bp, 0, none⟩), .pointer (some ⟨bt, 0, none⟩)])] 94))
theorem venv_new (w1 : World) (p : Nat) (R : PL) (gv : Int) (bp bt bg : Nat) (v : Value) (rbs : List Nat) (hp : Blk w1 bp [.pointer (some ⟨p, 0, none⟩)] 31) (hg : Blk w1 bg [.int .u64 gv] 23) (hr : RowB w1 v R rbs) :
    VEnv (vWorld w1 bp bt bg v) p R 0 gv bp bt bg w1.heap.size (w1.heap.size + 1) (w1.heap.size + 1 + 1) (w1.heap.size + 1 + 1 + 1) (w1.heap.size + 1 + 1 + 1 + 1) v rbs := by
  have c1 := (Chg.refl [] w1).alloc (.cells #[v] 56)
  have hc : Chg [] w1 (vWorld w1 bp bt bg v) := ((((c1.alloc _).alloc _).alloc _).alloc _)
  refine ⟨hc.blk hp (by simp), hc.blk hg (by simp), ?_, ?_, hr.chg hc (by simp), ?_, ?_, ?_⟩
  · have := Blk.new (w1.alloc (.cells #[v] 56)) [.int .i64 0] 3
    simp only [World.size_alloc] at this
    exact ((this.alloc _).alloc _).alloc _
  · exact ((((Blk.new w1 [v] 56).alloc _).alloc _).alloc _).alloc _
  · have := Blk.new ((w1.alloc (.cells #[v] 56)).alloc (.cells #[.int .i64 0] 3)) [(.func (.func 94) #[] #[.pointer (some ⟨(w1.heap.size + 1), 0, none⟩), .pointer (some ⟨w1.heap.size, 0, none⟩), .pointer (some ⟨bp, 0, none⟩), .pointer (some ⟨(w1.heap.size + 1 + 1 + 1), 0, none⟩), .pointer (some ⟨(w1.heap.size + 1 + 1 + 1 + 1), 0, none⟩)])] 1
    simp only [World.size_alloc] at this
    exact (this.alloc _).alloc _
  · have := Blk.new (((w1.alloc (.cells #[v] 56)).alloc (.cells #[.int .i64 0] 3)).alloc (.cells #[(.func (.func 94) #[] #[.pointer (some ⟨(w1.heap.size + 1), 0, none⟩), .pointer (some ⟨w1.heap.size, 0, none⟩), .pointer (some ⟨bp, 0, none⟩), .pointer (some ⟨(w1.heap.size + 1 + 1 + 1), 0, none⟩), .pointer (some ⟨(w1.heap.size + 1 + 1 + 1 + 1), 0, none⟩)])] 1)) [(.func (.func 92) #[] #[.pointer (some ⟨w1.heap.size, 0, none⟩), .pointer (some ⟨(w1.heap.size + 1), 0, none⟩), .pointer (some ⟨bp, 0, none⟩), .pointer (some ⟨(w1.heap.size + 1 + 1), 0, none⟩)])] 94
    simp only [World.size_alloc] at this
    exact this.alloc _
  · have := Blk.new ((((w1.alloc (.cells #[v] 56)).alloc (.cells #[.int .i64 0] 3)).alloc (.cells #[(.func (.func 94) #[] #[.pointer (some ⟨(w1.heap.size + 1), 0, none⟩), .pointer (some ⟨w1.heap.size, 0, none⟩), .pointer (some ⟨bp, 0, none⟩), .pointer (some ⟨(w1.heap.size + 1 + 1 + 1), 0, none⟩), .pointer (some ⟨(w1.heap.size + 1 + 1 + 1 + 1), 0, none⟩)])] 1)).alloc (.cells #[(.func (.func 92) #[] #[.pointer (some ⟨w1.heap.size, 0, none⟩), .pointer (some ⟨(w1.heap.size + 1), 0, none⟩), .pointer (some ⟨bp, 0, none⟩), .pointer (some ⟨(w1.heap.size + 1 + 1), 0, none⟩)])] 94)) [(.func (.func 93) #[] #[.pointer (some ⟨bg, 0, none⟩), .pointer (some ⟨bp, 0, none⟩), .pointer (some ⟨bt, 0, none⟩)])] 94
    simp only [World.size_alloc] at this
    exact this

set_option maxHeartbeats 1000000 in
theorem validate1_any (w : World) (p g : Nat) (L : List Nat) (R W : PL) (r : Rq) (nx : Value) (gv : Int) (bp bt : Nat) (bz lv wr : Bool) (sn vl en pt : Int) (h : Blk w p (pcells g r nx bz lv wr sn vl en pt) 69)
    (hL : LogAt w g L R W) (h1 : Blk w bp [.pointer (some ⟨p, 0, none⟩)] 31) (h128 : R.length ≤ 128) :
    Calls Try.prog 91 #[.int .u64 gv, .pointer (some ⟨bp, 0, none⟩), .pointer (some ⟨bt, 0, none⟩)] w fun e w' => e = .returned (.tuple #[]) ∧ Validate1Post w p g R gv bp bt bz lv wr sn vl en pt e w' := by
  have hC0 : Chg [] w (w.alloc (.cells #[.int .u64 gv] 23)) := (Chg.refl [] w).alloc _
  have hG := Blk.new w [.int .u64 gv] 23
  have hB := hC0.blk h (by simp)
  have hP := hC0.blk h1 (by simp)
  have hL' := hL.look hC0
  have k1 : w.cell? ⟨bp, 0, none⟩ = some (.pointer (some ⟨p, 0, none⟩)) := h1.cell 0
  have k2 : w.cell? ⟨p, 0, none⟩ = some (.pointer (some ⟨g, 0, none⟩)) := h.cell 0
  have hbl := h1.lt
  have hpl := h.lt
  have HG := Lib.hid hG
  have HB := Lib.hid hB
  have HP := Lib.hid hP
  have HL := Lib.hid hL'
  have HC := Lib.hid hC0
  have H128 := Lib.hid h128
  clear h h1 hL h128 hG hB hP hL' hC0
  go_enter Try.func91, Try.ntmps91
  go_wp2_with fail
  refine (Reads_any _ g L R W HL.out).mono ?_
  rintro e w1 ⟨v, rfl, hrow, hb⟩
  have hc1 := Chg.of_below hb []
  have HW := Lib.hid hc1
  have G1 := Lib.hid (hc1.blk HG.out (by simp))
  have P1 := Lib.hid (hc1.blk HP.out (by simp))
  have B1 := Lib.hid (hc1.blk HB.out (by simp))
  obtain ⟨rbs, hrow2, hnew⟩ := RowB.of_told hrow
  have R1 := Lib.hid hrow2
  have N1 := Lib.hid hnew
  obtain ⟨A, n, cap, rfl⟩ : ∃ A n cap, v = .slice A n cap := by
    cases hrow2 with
    | nil h0 hv' => obtain ⟨A, c, e⟩ := hv'; exact ⟨A, _, c, e⟩
    | row rb cap cur hv' hb hm ht => exact ⟨_, _, _, hv'⟩
  clear hrow hb hc1 hrow2 hnew k1 k2 hbl hpl
  go_wp2_with fail
  have hv := venv_new w1 p R gv bp bt w.heap.size (.slice A n cap) rbs P1.out G1.out R1.out
  have hw : Chg [] w1 (vWorld w1 bp bt w.heap.size (.slice A n cap)) := (((((Chg.refl [] w1).alloc _).alloc _).alloc _).alloc _).alloc _
  have HV := Lib.hid hv
  have HW2 := Lib.hid hw
  refine (step_any (vWorld w1 bp bt w.heap.size (.slice A n cap)) p g r nx R 0 gv bp bt _ _ _ _ _ _ _ rbs bz lv wr sn vl en pt (hw.blk B1.out (by simp)) (Nat.zero_le _) H128.out hv).mono ?_
  clear hv hw
  intro e w' hq
  obtain rfl : e = .returned (.tuple #[]) := by unfold StepPost at hq; split at hq <;> exact hq.1
  have HQ := Lib.hid hq
  clear hq
  go_wp2_with fail
  go_end0
  refine ⟨rfl, _, _, _, _, _, _, _, _, _, (HC.out.trans HW.out).trans HW2.out, HV.out, ?_, HQ.out⟩
  have hs1 := HW.out.size
  simp only [World.size_alloc] at hs1
  intro x hx
  simp only [List.mem_append, List.mem_cons, List.not_mem_nil, or_false] at hx
  rcases hx with (rfl | rfl | rfl | rfl | rfl | rfl) | hx
  · exact Nat.le_refl _
  · omega
  · omega
  · omega
  · omega
  · omega
  · have := N1.out x hx
    simp only [World.size_alloc] at this
    omega

/-- The sequence is asked for. -/
def TakePost (w : World) (p g : Nat) (bz lv wr : Bool) (sn vl en pt : Int) (e : Ending) (w' : World) : Prop :=
  e = .returned (.tuple #[]) ∧ ∃ b1 b2, w.heap.size ≤ b1 ∧ w.heap.size ≤ b2 ∧ Blk w' p (pcells g ⟨3, 0, IntKind.u64.wrap (sn + 1), sn⟩ (.func (.func 89) #[] #[.pointer (some ⟨b2, 0, none⟩)]) bz lv wr sn vl en pt) 69 ∧
  Blk w' b1 [.pointer (some ⟨p, 0, none⟩)] 31 ∧ Blk w' b2 [(.func (.func 77) #[] #[.pointer (some ⟨b1, 0, none⟩)])] 93 ∧ Chg [p] w w'
set_option maxHeartbeats 1000000 in
theorem take_any (w : World) (p g : Nat) (r : Rq) (nx : Value) (bz lv wr : Bool) (sn vl en pt : Int) (h : Blk w p (pcells g r nx bz lv wr sn vl en pt) 69) :
    Calls Try.prog 47 #[.pointer (some ⟨p, 0, none⟩)] w (TakePost w p g bz lv wr sn vl en pt) := by
  have hC0 : Chg [p] w (w.alloc (.cells #[.pointer (some ⟨p, 0, none⟩)] 31)) := (Chg.refl _ w).alloc _
  have HC := Lib.hid hC0
  have HN := Lib.hid (Blk.new w [.pointer (some ⟨p, 0, none⟩)] 31)
  have HB := Lib.hid (h.alloc (.cells #[.pointer (some ⟨p, 0, none⟩)] 31))
  have hpl := h.lt
  clear h hC0
  have k1 : (w.alloc (.cells #[.pointer (some ⟨p, 0, none⟩)] 31)).cell? ⟨w.heap.size, 0, none⟩ = some (.pointer (some ⟨p, 0, none⟩)) := HN.out.cell 0
  have k2 : (w.alloc (.cells #[.pointer (some ⟨p, 0, none⟩)] 31)).cell? ⟨p, 9, none⟩ = some (.int .u64 sn) := HB.out.cell 9
  go_enter Try.func47, Try.ntmps47
  go_wp2_with fail
  go_region_held3 (fun w' => w'.cell? ⟨w.heap.size, 0, none⟩ = some (.pointer (some ⟨p, 0, none⟩)) ∧ w'.cell? ⟨p, 9, none⟩ = some (.int .u64 sn))
    (first | exact ⟨k1, k2⟩ | exact ⟨X.out.2.1.cell 0, X.out.1.cell 9⟩)
    (first | (go_at_call 61; refine (cas_any _ p g r nx 0 sn (IntKind.u64.wrap (sn + 1)) _ _ _ bz lv wr sn vl en pt HB.out.drew).mono ?_; rintro e w' ⟨rfl, x1, x2, x3⟩; have X := Lib.hid (And.intro x1 (And.intro (x3.blk HN.out.drew (by simp; omega)) (And.intro x2 (HC.out.drew.trans x3)))); clear x1 x2 x3) | fail)
  go_wp2_with fail
  go_end0
  exact ⟨rfl, _, _, Nat.le_refl _, HC.out.size, X.out.1, X.out.2.1, X.out.2.2.1, X.out.2.2.2⟩

/-- What is left is written back, or the sequence. -/
def BackPost (w : World) (p g : Nat) (left : PL) (rb o cap : Nat) (bz lv wr : Bool) (sn vl en pt : Int) (e : Ending) (w' : World) : Prop :=
  e = .returned (.tuple #[]) ∧ ∃ b1 b2 b3, w.heap.size ≤ b1 ∧ w.heap.size ≤ b2 ∧ w.heap.size ≤ b3 ∧ Blk w' b1 [.pointer (some ⟨p, 0, none⟩)] 31 ∧ Chg [p] w w' ∧
  match left with
  | [] => Blk w' p (pcells g ⟨2, 0, IntKind.u64.wrap (sn + 2), 0⟩ (.func (.func 103) #[] #[.pointer (some ⟨b3, 0, none⟩)]) bz lv wr sn vl en pt) 69 ∧ Blk w' b3 [(.func (.func 98) #[] #[.pointer (some ⟨b1, 0, none⟩)])] 1
  | q :: l => Blk w' p (pcells g ⟨2, q.1, q.2, 0⟩ (.func (.func 103) #[] #[.pointer (some ⟨b3, 0, none⟩)]) bz lv wr sn vl en pt) 69 ∧ Blk w' b2 [.slice (some ⟨rb, o, none⟩) (l.length + 1) cap] 56 ∧ Blk w' b3 [(.func (.func 97) #[] #[.pointer (some ⟨b1, 0, none⟩), .pointer (some ⟨b2, 0, none⟩)])] 1

set_option maxHeartbeats 1000000 in
theorem back_more (w : World) (p g : Nat) (r : Rq) (nx : Value) (q : Int × Int) (l : PL) (rb o cap : Nat) (bz lv wr : Bool) (sn vl en pt : Int) (h : Blk w p (pcells g r nx bz lv wr sn vl en pt) 69)
    (cur : List Value) (hb : Blk w rb cur 85) (h1 : cur[o]? = some (.int .i64 q.1)) (h2 : cur[o + 1]? = some (.int .u64 q.2)) (h128 : l.length ≤ 128) :
    Calls Try.prog 78 #[.pointer (some ⟨p, 0, none⟩), .slice (some ⟨rb, o, none⟩) (l.length + 1) cap] w (BackPost w p g (q :: l) rb o cap bz lv wr sn vl en pt) := by
  have hC0 : Chg [p] w ((w.alloc (.cells #[.pointer (some ⟨p, 0, none⟩)] 31)).alloc (.cells #[.slice (some ⟨rb, o, none⟩) (l.length + 1) cap] 56)) := ((Chg.refl _ w).alloc _).alloc _
  have HC := Lib.hid hC0
  have HN1 := Lib.hid ((Blk.new w [.pointer (some ⟨p, 0, none⟩)] 31).alloc (.cells #[.slice (some ⟨rb, o, none⟩) (l.length + 1) cap] 56))
  have hN2 := Blk.new (w.alloc (.cells #[.pointer (some ⟨p, 0, none⟩)] 31)) [.slice (some ⟨rb, o, none⟩) (l.length + 1) cap] 56
  simp only [World.size_alloc] at hN2
  have HN2 := Lib.hid hN2
  have hB := (h.alloc (.cells #[.pointer (some ⟨p, 0, none⟩)] 31)).alloc (.cells #[.slice (some ⟨rb, o, none⟩) (l.length + 1) cap] 56)
  have hR := (hb.alloc (.cells #[.pointer (some ⟨p, 0, none⟩)] 31)).alloc (.cells #[.slice (some ⟨rb, o, none⟩) (l.length + 1) cap] 56)
  have HB := Lib.hid hB
  have HR := Lib.hid hR
  have HRp := Lib.hid (hR.ne hB (by decide))
  have hpl := h.lt
  have hrl := hb.lt
  have K1 := Lib.hid h1
  have K2 := Lib.hid h2
  have k3 : w.cell? ⟨rb, o, none⟩ = some (.int .i64 q.1) := (hb.cell o).trans h1
  have k4 : w.cell? ⟨rb, o + 1, none⟩ = some (.int .u64 q.2) := (hb.cell (o + 1)).trans h2
  have hll : (0 : Int) < (l.length : Int) + 1 := by omega
  clear h hC0 hN2 hB hR hb h1 h2
  obtain ⟨q1, q2⟩ := q
  dsimp only at k3 k4 K1 K2
  generalize hn : l.length = n at *
  have HNn := Lib.hid hn
  clear hn
  go_enter Try.func78, Try.ntmps78
  go_wp2_with fail
  have HWs := Lib.hid (And.intro HC.out.size (Nat.le_refl w.heap.size))
  go_region_held3 (fun w' => w'.cell? ⟨w.heap.size, 0, none⟩ = some (.pointer (some ⟨p, 0, none⟩)) ∧ w'.cell? ⟨w.heap.size + 1, 0, none⟩ = some (.slice (some ⟨rb, o, none⟩) (n + 1) cap) ∧ w'.cell? ⟨rb, o, none⟩ = some (.int .i64 q1) ∧ w'.cell? ⟨rb, o + 1, none⟩ = some (.int .u64 q2))
    (first | exact ⟨HN1.out.cell 0, HN2.out.cell 0, (HR.out.cell _).trans K1.out, (HR.out.cell _).trans K2.out⟩ | exact ⟨X.out.2.1.cell 0, X.out.2.2.1.cell 0, (X.out.2.2.2.1.cell _).trans K1.out, (X.out.2.2.2.1.cell _).trans K2.out⟩)
    (first | (go_at_call 96; refine (store_any _ p g r nx q1 q2 _ _ _ bz lv wr sn vl en pt HB.out.drew).mono ?_; rintro e w' ⟨rfl, x1, x2, x3⟩; have X := Lib.hid (And.intro x1 (And.intro (x3.blk HN1.out.drew (by simp; omega)) (And.intro (x3.blk HN2.out.drew (by simp; omega)) (And.intro (x3.blk HR.out.drew (by simpa using HRp.out)) (And.intro x2 (HC.out.drew.trans x3)))))); clear x1 x2 x3) | fail)
  go_wp2_with fail
  refine bodyPost_ret (results_none rfl _ _ _) rfl ?_
  have hn := HNn.out
  subst hn
  refine ⟨rfl, _, w.heap.size + 1, _, Nat.le_refl _, by omega, HC.out.size, X.out.2.1, X.out.2.2.2.2.2, ?_⟩
  exact ⟨X.out.1, X.out.2.2.1, X.out.2.2.2.2.1⟩

set_option maxHeartbeats 1000000 in
theorem back_end (w : World) (p g : Nat) (r : Rq) (nx : Value) (A : Option Addr) (rb o cap : Nat) (bz lv wr : Bool) (sn vl en pt : Int) (h : Blk w p (pcells g r nx bz lv wr sn vl en pt) 69) :
    Calls Try.prog 78 #[.pointer (some ⟨p, 0, none⟩), .slice A 0 cap] w (BackPost w p g [] rb o cap bz lv wr sn vl en pt) := by
  have hC0 : Chg [p] w ((w.alloc (.cells #[.pointer (some ⟨p, 0, none⟩)] 31)).alloc (.cells #[.slice A 0 cap] 56)) := ((Chg.refl _ w).alloc _).alloc _
  have HC := Lib.hid hC0
  have HN1 := Lib.hid ((Blk.new w [.pointer (some ⟨p, 0, none⟩)] 31).alloc (.cells #[.slice A 0 cap] 56))
  have hB := (h.alloc (.cells #[.pointer (some ⟨p, 0, none⟩)] 31)).alloc (.cells #[.slice A 0 cap] 56)
  have HB := Lib.hid hB
  have hpl := h.lt
  have k2 : w.cell? ⟨p, 9, none⟩ = some (.int .u64 sn) := h.cell 9
  clear h hC0 hB
  go_enter Try.func78, Try.ntmps78
  go_wp2_with fail
  go_region_held3 (fun w' => w'.cell? ⟨w.heap.size, 0, none⟩ = some (.pointer (some ⟨p, 0, none⟩)) ∧ w'.cell? ⟨p, 9, none⟩ = some (.int .u64 sn))
    (first | exact ⟨HN1.out.cell 0, HB.out.cell 9⟩ | exact ⟨X.out.2.1.cell 0, X.out.1.cell 9⟩)
    (first | (go_at_call 96; refine (store_any _ p g r nx 0 (IntKind.u64.wrap (sn + 2)) _ _ _ bz lv wr sn vl en pt HB.out.drew).mono ?_; rintro e w' ⟨rfl, x1, x2, x3⟩; have X := Lib.hid (And.intro x1 (And.intro (x3.blk HN1.out.drew (by simp; omega)) (And.intro x2 (HC.out.drew.trans x3)))); clear x1 x2 x3) | fail)
  go_wp2_with fail
  go_end0
  exact ⟨rfl, _, 0 + w.heap.size, _, Nat.le_refl _, by omega, HC.out.size, X.out.2.1, X.out.2.2.2, X.out.1, X.out.2.2.1⟩

/-- What is left, as a slice of what a row holds from one place on. -/
theorem back_any (w : World) (p g : Nat) (r : Rq) (nx : Value) (l : PL) (A : Option Addr) (rb o cap : Nat) (bz lv wr : Bool) (sn vl en pt : Int) (h : Blk w p (pcells g r nx bz lv wr sn vl en pt) 69)
    (cur : List Value) (hA : l ≠ [] → A = some ⟨rb, o, none⟩ ∧ Blk w rb cur 85) (hc : ∀ q l', l = q :: l' → cur[o]? = some (.int .i64 q.1) ∧ cur[o + 1]? = some (.int .u64 q.2)) (h128 : l.length ≤ 128) :
    Calls Try.prog 78 #[.pointer (some ⟨p, 0, none⟩), .slice A l.length cap] w (BackPost w p g l rb o cap bz lv wr sn vl en pt) := by
  cases l with
  | nil => exact back_end w p g r nx A rb o cap bz lv wr sn vl en pt h
  | cons q l =>
    obtain ⟨rfl, hb⟩ := hA (by simp)
    obtain ⟨h1, h2⟩ := hc q l rfl
    exact back_more w p g r nx q l rb o cap bz lv wr sn vl en pt h cur hb h1 h2 (by simp at h128; omega)

theorem BackPost.of_drew {w : World} {p g : Nat} {left : PL} {rb o cap : Nat} {bz lv wr : Bool} {sn vl en pt : Int} {e : Ending} {w' : World} (h : BackPost w.drew p g left rb o cap bz lv wr sn vl en pt e w') : BackPost w p g left rb o cap bz lv wr sn vl en pt e w' := by
  obtain ⟨he, b1, b2, b3, h1, h2, h3, h4, h5, h6⟩ := h
  exact ⟨he, b1, b2, b3, h1, h2, h3, h4, ((Chg.refl _ w).drew).trans h5, h6⟩
theorem BackPost.chg {w : World} {p g : Nat} {left : PL} {rb o cap : Nat} {bz lv wr : Bool} {sn vl en pt : Int} {e : Ending} {w' : World} (h : BackPost w p g left rb o cap bz lv wr sn vl en pt e w') : Chg [p] w w' := by
  obtain ⟨he, b1, b2, b3, h1, h2, h3, h4, h5, h6⟩ := h
  exact h5

theorem BackPost.p0 {w : World} {p g : Nat} {left : PL} {rb o cap : Nat} {bz lv wr : Bool} {sn vl en pt : Int} {e : Ending} {w' : World} (h : BackPost w p g left rb o cap bz lv wr sn vl en pt e w') : w'.cell? ⟨p, 0, none⟩ = some (.pointer (some ⟨g, 0, none⟩)) := by
  obtain ⟨he, b1, b2, b3, h1, h2, h3, h4, h5, h6⟩ := h
  cases left with
  | nil => exact h6.1.cell 0
  | cons q l => exact h6.1.cell 0
theorem row_of {w : World} {n₀ : Nat} {v : Value} {R : PL} (h : w.ownsRow n₀ 85 2 v R.length (cellsP R)) (h0 : R ≠ []) :
    ∃ rb cap cur, v = .slice (some ⟨rb, 0, none⟩) R.length cap ∧ Blk w rb cur 85 ∧ n₀ ≤ rb ∧ R.length ≤ cap ∧ cap ≤ maxLen ∧ cur.take (R.length * 2) = cellsP R := by
  obtain ⟨A, cap, rfl, h1, h2, _⟩ := ownsRow_cell h
  have hp : 0 < R.length := List.length_pos_iff.2 h0
  obtain ⟨g, cap', cur, e, hb, hB, ht⟩ := ownsRow_pos h hp
  exact ⟨g, cap, cur, by simp only [Value.slice.injEq] at e ⊢; simp [e.1], hB, hb, h1, h2, ht⟩
theorem row_at {cur : List Value} {R : PL} (ht : cur.take (R.length * 2) = cellsP R) {i : Nat} (hi : i < R.length) : cur[i * 2]? = some (.int .i64 R[i].1) ∧ cur[i * 2 + 1]? = some (.int .u64 R[i].2) := by
  have h0 := cellsP_get R i 0 hi (by decide)
  have h1 := cellsP_get R i 1 hi (by decide)
  rw [← ht, List.getElem?_take_of_lt (by omega)] at h0 h1
  rw [Nat.add_zero] at h0
  exact ⟨h0.trans rfl, h1.trans rfl⟩
theorem row_head {cur : List Value} {R : PL} (ht : cur.take (R.length * 2) = cellsP R) : ∀ q l', R = q :: l' → cur[0]? = some (.int .i64 q.1) ∧ cur[0 + 1]? = some (.int .u64 q.2) := by
  rintro q l' rfl
  have := row_at ht (i := 0) (by simp)
  simpa using this

set_option maxHeartbeats 1000000 in
theorem back1_any (w : World) (p g : Nat) (r : Rq) (nx : Value) (l : PL) (rb o cap : Nat) (b1 b2 : Nat) (bz lv wr : Bool) (sn vl en pt : Int) (h : Blk w p (pcells g r nx bz lv wr sn vl en pt) 69)
    (hp : Blk w b1 [.pointer (some ⟨p, 0, none⟩)] 31) (hl : Blk w b2 [.slice (some ⟨rb, o, none⟩) (l.length + 1) cap] 56) (hcap : l.length + 1 ≤ cap) (hcm : cap ≤ maxLen)
    (cur : List Value) (hb : Blk w rb cur 85) (hc : ∀ q l', l = q :: l' → cur[o + 2]? = some (.int .i64 q.1) ∧ cur[o + 2 + 1]? = some (.int .u64 q.2)) (h128 : l.length ≤ 128) :
    Calls Try.prog 97 #[.pointer (some ⟨b1, 0, none⟩), .pointer (some ⟨b2, 0, none⟩)] w (BackPost w p g l rb (o + 2) (cap - 1) bz lv wr sn vl en pt) := by
  have k1 : w.cell? ⟨b1, 0, none⟩ = some (.pointer (some ⟨p, 0, none⟩)) := hp.cell 0
  have k2 : w.cell? ⟨b2, 0, none⟩ = some (.slice (some ⟨rb, o, none⟩) (l.length + 1) cap) := hl.cell 0
  have HB := Lib.hid h
  have H1 := Lib.hid hp
  have H2 := Lib.hid hl
  have HR := Lib.hid hb
  have HCc := Lib.hid hc
  have H8 := Lib.hid h128
  have HN := Lib.hid (And.intro (h.ne hp (by decide)) (h.ne hl (by decide)))
  have e1 : (1 : Int) ≤ (l.length : Int) + 1 := by omega
  have e2 : (l.length : Int) + 1 ≤ (cap : Int) := by omega
  have e3 : (1 : Int) ≤ (cap : Int) := by omega
  clear h hp hl hb hc h128
  by_cases hc1 : cap = 1
  · subst hc1
    have h0 : l = [] := List.length_eq_zero_iff.1 (by omega)
    subst h0
    simp only [List.length_nil, Nat.zero_add] at k2 e1 e2 H2 hcap
    clear hcap hcm e1 e2 e3
    go_enter Try.func97, Try.ntmps97
    go_wp2_with fail
    go_region_held3 (fun w' => w'.cell? ⟨b1, 0, none⟩ = some (.pointer (some ⟨p, 0, none⟩)) ∧ w'.cell? ⟨b2, 0, none⟩ = some (.slice (some ⟨rb, o, none⟩) 1 1))
      (first | exact ⟨k1, k2⟩ | exact ⟨(X1.out.blk H1.out (by simpa using HN.out.1.symm)).cell 0, (X1.out.blk H2.out (by simpa using HN.out.2.symm)).cell 0⟩)
      (first | (go_at_call 78; refine (back_end _ p g r nx _ rb (o + 2) 0 bz lv wr sn vl en pt HB.out.drew).mono ?_; intro e w' hq; obtain rfl := hq.1; have X := Lib.hid (BackPost.of_drew hq); have X1 := Lib.hid (X.out.chg); clear hq) | fail)
    go_wp2_with fail
    go_end0
    exact X.out
  · go_enter Try.func97, Try.ntmps97
    go_wp2_with fail
    go_region_held3 (fun w' => w'.cell? ⟨b1, 0, none⟩ = some (.pointer (some ⟨p, 0, none⟩)) ∧ w'.cell? ⟨b2, 0, none⟩ = some (.slice (some ⟨rb, o, none⟩) (l.length + 1) cap))
      (first | exact ⟨k1, k2⟩ | exact ⟨(X1.out.blk H1.out (by simpa using HN.out.1.symm)).cell 0, (X1.out.blk H2.out (by simpa using HN.out.2.symm)).cell 0⟩)
      (first | (go_at_call 78; refine (back_any _ p g r nx l (some ⟨rb, o + 2, none⟩) rb (o + 2) (cap - 1) bz lv wr sn vl en pt HB.out.drew cur (fun _ => ⟨rfl, HR.out.drew⟩) HCc.out H8.out).mono ?_; intro e w' hq; obtain rfl := hq.1; have X := Lib.hid (BackPost.of_drew hq); have X1 := Lib.hid (X.out.chg); clear hq) | fail)
    go_wp2_with fail
    go_end0
    exact X.out

/-- The sequence was turned: what is to be written is written back. -/
def TakenPost (w : World) (p g : Nat) (W : PL) (bz lv wr : Bool) (sn vl en pt : Int) (e : Ending) (w' : World) : Prop :=
  ∃ w1 rb cap cur, Chg [p] w w1 ∧ w.heap.size ≤ rb ∧ rb ≠ p ∧ Blk w1 rb cur 85 ∧ cur.take (W.length * 2) = cellsP W ∧ W.length ≤ cap ∧ cap ≤ maxLen ∧ BackPost w1 p g W rb 0 cap bz lv true sn vl en (wrap64 (pt + 1)) e w'

theorem take1_no (w : World) (p g : Nat) (r : Rq) (nx : Value) (bp : Nat) (bz lv wr : Bool) (sn vl en pt : Int) (h : Blk w p (pcells g r nx bz lv wr sn vl en pt) 69)
    (h1 : Blk w bp [.pointer (some ⟨p, 0, none⟩)] 31) :
    Calls Try.prog 77 #[.bool false, .pointer (some ⟨bp, 0, none⟩)] w (ValidatePost w p g (.func (.func 47) #[.pointer (some ⟨p, 0, none⟩)] #[]) bz lv wr sn vl en pt) := by
  have k1 : w.cell? ⟨bp, 0, none⟩ = some (.pointer (some ⟨p, 0, none⟩)) := h1.cell 0
  have HB := Lib.hid h
  clear h h1
  go_enter Try.func77, Try.ntmps77
  go_wp2_with fail
  refine (validate_any _ p g r nx _ _ _ bz lv wr sn vl en pt HB.out).mono ?_
  rintro e w' ⟨rfl, h1⟩
  have H1 := Lib.hid h1
  clear h1
  go_wp2_with fail
  refine bodyPost_ret (results_none rfl _ _ _) rfl ?_
  exact ⟨rfl, H1.out⟩

set_option maxHeartbeats 1000000 in
theorem take1_yes (w : World) (p g : Nat) (L : List Nat) (R W : PL) (r : Rq) (nx : Value) (bp : Nat) (bz lv wr : Bool) (sn vl en pt : Int) (h : Blk w p (pcells g r nx bz lv wr sn vl en pt) 69)
    (hL : LogAt w g L R W) (hpL : p ∉ L) (hW : W ≠ []) (h128 : W.length ≤ 128) (h1 : Blk w bp [.pointer (some ⟨p, 0, none⟩)] 31) :
    Calls Try.prog 77 #[.bool true, .pointer (some ⟨bp, 0, none⟩)] w fun e w' => e = .returned (.tuple #[]) ∧ TakenPost w p g W bz lv wr sn vl en pt e w' := by
  have k1 : w.cell? ⟨bp, 0, none⟩ = some (.pointer (some ⟨p, 0, none⟩)) := h1.cell 0
  have hn1 : p ≠ bp := h.ne h1 (by decide)
  have hC1 : Chg [p] w ((w.setCell ⟨p, 12, none⟩ (.int .i64 (wrap64 (pt + 1)))).setCell ⟨p, 8, none⟩ (.bool true)) := ((Chg.refl _ w).setCell (by simp) _).setCell (by simp) _
  have hB1 : Blk ((w.setCell ⟨p, 12, none⟩ (.int .i64 (wrap64 (pt + 1)))).setCell ⟨p, 8, none⟩ (.bool true)) p (pcells g r nx bz lv true sn vl en (wrap64 (pt + 1))) 69 := (h.set 12 (.int .i64 (wrap64 (pt + 1)))).set 8 (.bool true)
  have hL1 := hL.chg hC1 (fun x hx he => by simp at he; subst he; exact hpL hx)
  have hP1 := hC1.blk h1 (by simpa using hn1.symm)
  have HC1 := Lib.hid hC1
  have HB1 := Lib.hid hB1
  have HL1 := Lib.hid hL1
  have HP1 := Lib.hid hP1
  have HW := Lib.hid (And.intro hW h128)
  have pc0 : (w).cell? ⟨p, 0, none⟩ = some (.pointer (some ⟨g, 0, none⟩)) := (h).cell 0; have pf0 : (w).frozen? ⟨p, 0, none⟩ = false := (h).free 0; have pc1 : (w).cell? ⟨p, 1, none⟩ = some (.int .i64 r.op) := (h).cell 1; have pf1 : (w).frozen? ⟨p, 1, none⟩ = false := (h).free 1; have pc2 : (w).cell? ⟨p, 2, none⟩ = some (.int .i64 r.addr) := (h).cell 2; have pf2 : (w).frozen? ⟨p, 2, none⟩ = false := (h).free 2; have pc3 : (w).cell? ⟨p, 3, none⟩ = some (.int .u64 r.val) := (h).cell 3; have pf3 : (w).frozen? ⟨p, 3, none⟩ = false := (h).free 3; have pc4 : (w).cell? ⟨p, 4, none⟩ = some (.int .u64 r.old) := (h).cell 4; have pf4 : (w).frozen? ⟨p, 4, none⟩ = false := (h).free 4; have pc5 : (w).cell? ⟨p, 5, none⟩ = some (nx) := (h).cell 5; have pf5 : (w).frozen? ⟨p, 5, none⟩ = false := (h).free 5; have pc6 : (w).cell? ⟨p, 6, none⟩ = some (.bool bz) := (h).cell 6; have pf6 : (w).frozen? ⟨p, 6, none⟩ = false := (h).free 6; have pc7 : (w).cell? ⟨p, 7, none⟩ = some (.bool lv) := (h).cell 7; have pf7 : (w).frozen? ⟨p, 7, none⟩ = false := (h).free 7; have pc8 : (w).cell? ⟨p, 8, none⟩ = some (.bool wr) := (h).cell 8; have pf8 : (w).frozen? ⟨p, 8, none⟩ = false := (h).free 8; have pc9 : (w).cell? ⟨p, 9, none⟩ = some (.int .u64 sn) := (h).cell 9; have pf9 : (w).frozen? ⟨p, 9, none⟩ = false := (h).free 9; have pc10 : (w).cell? ⟨p, 10, none⟩ = some (.int .u64 vl) := (h).cell 10; have pf10 : (w).frozen? ⟨p, 10, none⟩ = false := (h).free 10; have pc11 : (w).cell? ⟨p, 11, none⟩ = some (.int .i64 en) := (h).cell 11; have pf11 : (w).frozen? ⟨p, 11, none⟩ = false := (h).free 11; have pc12 : (w).cell? ⟨p, 12, none⟩ = some (.int .i64 pt) := (h).cell 12; have pf12 : (w).frozen? ⟨p, 12, none⟩ = false := (h).free 12
  have s1 : ((w.setCell ⟨p, 12, none⟩ (.int .i64 (wrap64 (pt + 1)))).setCell ⟨p, 8, none⟩ (.bool true)).cell? ⟨bp, 0, none⟩ = some (.pointer (some ⟨p, 0, none⟩)) := hP1.cell 0
  have s2 : ((w.setCell ⟨p, 12, none⟩ (.int .i64 (wrap64 (pt + 1)))).setCell ⟨p, 8, none⟩ (.bool true)).cell? ⟨p, 0, none⟩ = some (.pointer (some ⟨g, 0, none⟩)) := hB1.cell 0
  have HS := Lib.hid (And.intro s1 s2)
  have HNb := Lib.hid hn1
  clear h h1 hL hC1 hB1 hL1 hP1 hW h128 s1 s2
  go_enter Try.func77, Try.ntmps77
  go_wp2_with fail
  go_region_held3 (fun w' => w'.cell? ⟨bp, 0, none⟩ = some (.pointer (some ⟨p, 0, none⟩)) ∧ w'.cell? ⟨p, 0, none⟩ = some (.pointer (some ⟨g, 0, none⟩)))
    (first | exact HS.out | exact ⟨Y1.out.cell 0, Y2.out.cell 0⟩ | exact ⟨(X.out.chg.blk Y1.out (by simpa using HNb.out.symm)).cell 0, X.out.p0⟩)
    (first
      | (go_at_call 46; refine (Writes_any _ g L R W (HL1.out.look ((Chg.refl [] _).drew))).mono ?_; rintro e w2 ⟨v, rfl, hrow, hb⟩; obtain ⟨rb, cap, cur, rfl, hbr, hnr, hm1, hm2, ht⟩ := row_of hrow HW.out.1; have hc2 := ((Chg.refl [] _).drew).trans (Chg.of_below hb []); have Y1 := Lib.hid (hc2.blk HP1.out (by simp)); have Y2 := Lib.hid (hc2.blk HB1.out (by simp)); have Y3 := Lib.hid hbr; have Y4 := Lib.hid (And.intro (Nat.le_trans HC1.out.size hnr) (And.intro ht (And.intro hm1 hm2))); have Y5 := Lib.hid (HC1.out.trans (hc2.mono (by simp))); clear hrow hb hbr hnr hm1 hm2 ht hc2)
      | (go_at_call 78; refine (back_any _ p g r nx W (some ⟨rb, 0, none⟩) rb 0 cap bz lv true sn vl en (wrap64 (pt + 1)) Y2.out cur (fun _ => ⟨rfl, Y3.out⟩) (row_head Y4.out.2.1) HW.out.2).mono ?_; intro e w' hq; obtain rfl := hq.1; have X := Lib.hid hq; clear hq)
      | fail)
  go_wp2_with fail
  go_end0
  exact ⟨rfl, _, rb, cap, cur, Y5.out, Y4.out.1, Y3.out.ne Y2.out (by decide), Y3.out, Y4.out.2.1, Y4.out.2.2.1, Y4.out.2.2.2, X.out⟩

end Go.Proofs.Ytilffolppnnkaaa
