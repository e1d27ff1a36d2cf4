/- A path of layer 8: a word is fetched. -/
import Derived.Test.YtilffolppnnkaaaSoft2
namespace Go.Proofs.Ytilffolppnnkaaa
set_option maxRecDepth 100000
open Go.RowKit

theorem quiet_left {P : Program} {f : FuncId} {args : Array Value} {w : World} {n : Nat} {v : Value}
    (h : Calls P f args (w.drewN n) fun e w' => e = .returned v ∧ w.drewN n = w') : Calls P f args (w.drewN n) fun e w'' => e = .returned v ∧ ∃ m, w'' = w.drewN m :=
  h.mono fun _ _ ⟨he, hm⟩ => ⟨he, n, hm.symm⟩

def FetchPost (w : World) (p g : Nat) (a : Int) (bz lv wr : Bool) (sn vl en pt : Int) (e : Ending) (w' : World) : Prop :=
  e = .returned (.tuple #[]) ∧ ∃ b1 b2 b3, w.heap.size ≤ b1 ∧ w.heap.size ≤ b2 ∧ w.heap.size ≤ b3 ∧ Blk w' p (pcells g ⟨1, a, 0, 0⟩ (.func (.func 88) #[] #[.pointer (some ⟨b3, 0, none⟩)]) bz lv wr sn vl en pt) 69 ∧
  Blk w' b1 [.pointer (some ⟨p, 0, none⟩)] 31 ∧ Blk w' b2 [.int .i64 a] 3 ∧ Blk w' b3 [(.func (.func 66) #[] #[.pointer (some ⟨b1, 0, none⟩), .pointer (some ⟨b2, 0, none⟩)])] 94 ∧ Chg [p] w w'
theorem fetch_any (w : World) (p g : Nat) (r : Rq) (nx : Value) (a : Int) (bz lv wr : Bool) (sn vl en pt : Int) (h : Blk w p (pcells g r nx bz lv wr sn vl en pt) 69) :
    Calls Try.prog 42 #[.pointer (some ⟨p, 0, none⟩), .int .i64 a] w (FetchPost w p g a bz lv wr sn vl en pt) := by
  have HB := Lib.hid ((h.alloc (.cells #[.pointer (some ⟨p, 0, none⟩)] 31)).alloc (.cells #[.int .i64 a] 3))
  have HN1 := Lib.hid ((Blk.new w [.pointer (some ⟨p, 0, none⟩)] 31).alloc (.cells #[.int .i64 a] 3))
  have HN2 := Lib.hid (Blk.new (w.alloc (.cells #[.pointer (some ⟨p, 0, none⟩)] 31)) [.int .i64 a] 3)
  have HC := Lib.hid (((Chg.refl [p] w).alloc (.cells #[.pointer (some ⟨p, 0, none⟩)] 31)).alloc (.cells #[.int .i64 a] 3))
  have hpl := h.lt
  clear h
  go_enter Try.func42, Try.ntmps42
  go_wp2_with fail
  refine (load_any _ p g r nx a _ _ _ bz lv wr sn vl en pt HB.out).mono ?_
  rintro e w' ⟨rfl, h1, h2, h3⟩
  have H1 := Lib.hid h1
  have H2 := Lib.hid h2
  have H3 := Lib.hid h3
  clear h1 h2 h3
  go_wp2_with fail
  go_end0
  simp only [World.size_alloc] at H1 H2 HN1 HN2
  exact ⟨rfl, _, _, _, by omega, by omega, by omega, H1.out, H3.out.blk HN1.out (by simp; omega), H3.out.blk HN2.out (by simp; omega), H2.out, HC.out.trans H3.out⟩

def Fetch1Post (w : World) (p g : Nat) (v : Int) (bp ba : Nat) (bz lv wr : Bool) (sn vl en pt : Int) (e : Ending) (w' : World) : Prop :=
  e = .returned (.tuple #[]) ∧ ∃ b1 b2, w.heap.size ≤ b1 ∧ w.heap.size ≤ b2 ∧ Blk w' p (pcells g ⟨1, 0, 0, 0⟩ (.func (.func 88) #[] #[.pointer (some ⟨b2, 0, none⟩)]) bz lv wr sn vl en pt) 69 ∧
  Blk w' b1 [.int .u64 v] 23 ∧ Blk w' b2 [(.func (.func 67) #[] #[.pointer (some ⟨bp, 0, none⟩), .pointer (some ⟨ba, 0, none⟩), .pointer (some ⟨b1, 0, none⟩)])] 94 ∧ Chg [p] w w'
theorem fetch1_any (w : World) (p g : Nat) (r : Rq) (nx : Value) (v : Int) (bp ba : Nat) (bz lv wr : Bool) (sn vl en pt : Int) (h : Blk w p (pcells g r nx bz lv wr sn vl en pt) 69)
    (h1 : Blk w bp [.pointer (some ⟨p, 0, none⟩)] 31) :
    Calls Try.prog 66 #[.int .u64 v, .pointer (some ⟨bp, 0, none⟩), .pointer (some ⟨ba, 0, none⟩)] w (Fetch1Post w p g v bp ba bz lv wr sn vl en pt) := by
  have HB := Lib.hid (h.alloc (.cells #[.int .u64 v] 23))
  have HN1 := Lib.hid (Blk.new w [.int .u64 v] 23)
  have HC := Lib.hid ((Chg.refl [p] w).alloc (.cells #[.int .u64 v] 23))
  have k1 : w.cell? ⟨bp, 0, none⟩ = some (.pointer (some ⟨p, 0, none⟩)) := h1.cell 0
  have hbl := h1.lt
  have hpl := h.lt
  clear h h1
  go_enter Try.func66, Try.ntmps66
  go_wp2_with fail
  refine (load_any _ p g r nx 0 _ _ _ bz lv wr sn vl en pt HB.out).mono ?_
  rintro e w' ⟨rfl, h1, h2, h3⟩
  have H1 := Lib.hid h1
  have H2 := Lib.hid h2
  have H3 := Lib.hid h3
  clear h1 h2 h3
  go_wp2_with fail
  go_end0
  simp only [World.size_alloc] at H1 H2 HN1
  exact ⟨rfl, _, _, by omega, by omega, H1.out, H3.out.blk HN1.out (by simp; omega), H2.out, HC.out.trans H3.out⟩

def ValidatePost (w : World) (p g : Nat) (th : Value) (bz lv wr : Bool) (sn vl en pt : Int) (e : Ending) (w' : World) : Prop :=
  e = .returned (.tuple #[]) ∧ ∃ b1 b2 b3 b4 b5, w.heap.size ≤ b1 ∧ w.heap.size ≤ b2 ∧ w.heap.size ≤ b3 ∧ w.heap.size ≤ b4 ∧ w.heap.size ≤ b5 ∧ Blk w' p (pcells g ⟨1, 0, 0, 0⟩ (.func (.func 88) #[] #[.pointer (some ⟨b5, 0, none⟩)]) bz lv wr sn vl en pt) 69 ∧
  Blk w' b1 [.pointer (some ⟨p, 0, none⟩)] 31 ∧ Blk w' b2 [th] 1 ∧ Blk w' b3 [.pointer (some ⟨p, 0, none⟩)] 31 ∧ Blk w' b4 [(.func (.func 91) #[] #[.pointer (some ⟨b1, 0, none⟩), .pointer (some ⟨b2, 0, none⟩)])] 94 ∧ Blk w' b5 [(.func (.func 90) #[] #[.pointer (some ⟨b3, 0, none⟩), .pointer (some ⟨b4, 0, none⟩)])] 94 ∧ Chg [p] w w'
theorem validate_any (w : World) (p g : Nat) (r : Rq) (nx : Value) (F : FuncId) (bd cs : Array Value) (bz lv wr : Bool) (sn vl en pt : Int) (h : Blk w p (pcells g r nx bz lv wr sn vl en pt) 69) :
    Calls Try.prog 68 #[.pointer (some ⟨p, 0, none⟩), .func (.func F) bd cs] w (ValidatePost w p g (.func (.func F) bd cs) bz lv wr sn vl en pt) := by
  have HB := Lib.hid ((h.alloc (.cells #[.pointer (some ⟨p, 0, none⟩)] 31)).alloc (.cells #[.func (.func F) bd cs] 1))
  have HN1 := Lib.hid ((Blk.new w [.pointer (some ⟨p, 0, none⟩)] 31).alloc (.cells #[.func (.func F) bd cs] 1))
  have HN2 := Lib.hid (Blk.new (w.alloc (.cells #[.pointer (some ⟨p, 0, none⟩)] 31)) [.func (.func F) bd cs] 1)
  have HC := Lib.hid (((Chg.refl [p] w).alloc (.cells #[.pointer (some ⟨p, 0, none⟩)] 31)).alloc (.cells #[.func (.func F) bd cs] 1))
  have hpl := h.lt
  clear h
  go_enter Try.func68, Try.ntmps68
  go_wp2_with fail
  refine (settle_any _ p g r nx _ _ _ bz lv wr sn vl en pt HB.out).mono ?_
  rintro e w' ⟨rfl, h1, h2, h3, h4, h5⟩
  have H1 := Lib.hid h1
  have H2 := Lib.hid h2
  have H3 := Lib.hid h3
  have H4 := Lib.hid h4
  have H5 := Lib.hid h5
  clear h1 h2 h3 h4 h5
  go_wp2_with fail
  go_end0
  simp only [World.size_alloc] at H1 H2 H3 H4 HN1 HN2
  exact ⟨rfl, _, _, _, _, _, by omega, by omega, by omega, by omega, by omega, H1.out, H5.out.blk HN1.out (by simp; omega), H5.out.blk HN2.out (by simp; omega), H2.out, H3.out, H4.out, HC.out.trans H5.out⟩

theorem fetch11_ne (w : World) (p g : Nat) (r : Rq) (nx : Value) (v : Int) (bp ba bv : Nat) (bz lv wr : Bool) (sn vl en pt : Int) (hne : v ≠ sn) (h : Blk w p (pcells g r nx bz lv wr sn vl en pt) 69)
    (h1 : Blk w bp [.pointer (some ⟨p, 0, none⟩)] 31) :
    Calls Try.prog 67 #[.int .u64 v, .pointer (some ⟨bp, 0, none⟩), .pointer (some ⟨ba, 0, none⟩), .pointer (some ⟨bv, 0, none⟩)] w (ValidatePost w p g (.func (.func 69) #[] #[.pointer (some ⟨bp, 0, none⟩), .pointer (some ⟨ba, 0, none⟩)]) bz lv wr sn vl en pt) := by
  have HB := Lib.hid h
  have k1 : w.cell? ⟨bp, 0, none⟩ = some (.pointer (some ⟨p, 0, none⟩)) := h1.cell 0
  have hc : (v != sn) = true := by simpa using hne
  have pc0 : (w).cell? ⟨p, 0, none⟩ = some (.pointer (some ⟨g, 0, none⟩)) := (h).cell 0; have pf0 : (w).frozen? ⟨p, 0, none⟩ = false := (h).free 0; have pc1 : (w).cell? ⟨p, 1, none⟩ = some (.int .i64 r.op) := (h).cell 1; have pf1 : (w).frozen? ⟨p, 1, none⟩ = false := (h).free 1; have pc2 : (w).cell? ⟨p, 2, none⟩ = some (.int .i64 r.addr) := (h).cell 2; have pf2 : (w).frozen? ⟨p, 2, none⟩ = false := (h).free 2; have pc3 : (w).cell? ⟨p, 3, none⟩ = some (.int .u64 r.val) := (h).cell 3; have pf3 : (w).frozen? ⟨p, 3, none⟩ = false := (h).free 3; have pc4 : (w).cell? ⟨p, 4, none⟩ = some (.int .u64 r.old) := (h).cell 4; have pf4 : (w).frozen? ⟨p, 4, none⟩ = false := (h).free 4; have pc5 : (w).cell? ⟨p, 5, none⟩ = some (nx) := (h).cell 5; have pf5 : (w).frozen? ⟨p, 5, none⟩ = false := (h).free 5; have pc6 : (w).cell? ⟨p, 6, none⟩ = some (.bool bz) := (h).cell 6; have pf6 : (w).frozen? ⟨p, 6, none⟩ = false := (h).free 6; have pc7 : (w).cell? ⟨p, 7, none⟩ = some (.bool lv) := (h).cell 7; have pf7 : (w).frozen? ⟨p, 7, none⟩ = false := (h).free 7; have pc8 : (w).cell? ⟨p, 8, none⟩ = some (.bool wr) := (h).cell 8; have pf8 : (w).frozen? ⟨p, 8, none⟩ = false := (h).free 8; have pc9 : (w).cell? ⟨p, 9, none⟩ = some (.int .u64 sn) := (h).cell 9; have pf9 : (w).frozen? ⟨p, 9, none⟩ = false := (h).free 9; have pc10 : (w).cell? ⟨p, 10, none⟩ = some (.int .u64 vl) := (h).cell 10; have pf10 : (w).frozen? ⟨p, 10, none⟩ = false := (h).free 10; have pc11 : (w).cell? ⟨p, 11, none⟩ = some (.int .i64 en) := (h).cell 11; have pf11 : (w).frozen? ⟨p, 11, none⟩ = false := (h).free 11; have pc12 : (w).cell? ⟨p, 12, none⟩ = some (.int .i64 pt) := (h).cell 12; have pf12 : (w).frozen? ⟨p, 12, none⟩ = false := (h).free 12
  clear h h1 hne
  go_enter Try.func67, Try.ntmps67
  go_wp2_with fail
  refine (validate_any _ p g r nx _ _ _ bz lv wr sn vl en pt HB.out).mono ?_
  rintro e w' ⟨rfl, h1⟩
  have H1 := Lib.hid h1
  clear h1
  go_wp2_with fail
  go_end0
  exact ⟨rfl, H1.out⟩

/-- Is a word that was fetched no good? -/
def badRead (R : PL) (a v : Int) : Bool := (isIn R a && (valOf R a != v)) || (rdErr R a != 0)
/-- A word was read at one sequence. -/
def FetchedPost (w : World) (p g : Nat) (L : List Nat) (R W : PL) (a v : Int) (r : Rq) (nx : Value) (bz lv wr : Bool) (sn vl en pt : Int) (e : Ending) (w' : World) : Prop :=
  e = .returned (.tuple #[]) ∧ ∃ w1 L', LogAt w1 g L' (rdL R a v) W ∧ Mv L L' w w1 ∧
    if badRead R a v then LeavePost w1 p g 2 bz lv wr sn vl en pt e w' else Blk w' p (pcells g r nx false lv wr sn v en (wrap64 (pt + 1))) 69 ∧ Chg [p] w1 w'

theorem Was_q (w : World) (n : Nat) (g : Nat) (L : List Nat) (R W : PL) (a u : Int) (i : Bool) (ha : (Lit.int .i64 a).wf = true) (h : LogAt w g L R W) (hu : valOf R a = u) (hi : isIn R a = i) :
    Calls Try.prog 70 #[.pointer (some ⟨g, 0, none⟩), .int .i64 a] (w.drewN n) fun e w'' => e = .returned (.tuple #[.int .u64 u, .bool i]) ∧ ∃ m, w'' = w.drewN m := by
  subst hu hi
  exact quiet_left (Was_any _ g L R W a ha (h.look ((Chg.refl _ w).drewN n)))

set_option maxHeartbeats 1000000 in
theorem fetch11_bad (w : World) (p g : Nat) (L : List Nat) (R W : PL) (r : Rq) (nx : Value) (v a : Int) (bp ba bv : Nat) (bz lv wr : Bool) (sn vl en pt : Int) (ha : (Lit.int .i64 a).wf = true) (h : Blk w p (pcells g r nx bz lv wr sn vl en pt) 69)
    (hL : LogAt w g L R W) (h1 : Blk w bp [.pointer (some ⟨p, 0, none⟩)] 31) (h2 : Blk w ba [.int .i64 a] 3) (h3 : Blk w bv [.int .u64 v] 23) (hi : isIn R a = true) (hv : valOf R a ≠ v) :
    Calls Try.prog 67 #[.int .u64 sn, .pointer (some ⟨bp, 0, none⟩), .pointer (some ⟨ba, 0, none⟩), .pointer (some ⟨bv, 0, none⟩)] w (FetchedPost w p g L R W a v r nx bz lv wr sn vl en pt) := by
  have HB := Lib.hid h
  have HL := Lib.hid hL
  have H1 := Lib.hid h1
  have H2 := Lib.hid h2
  have H3 := Lib.hid h3
  have k1 : w.cell? ⟨bp, 0, none⟩ = some (.pointer (some ⟨p, 0, none⟩)) := h1.cell 0
  have k2 : w.cell? ⟨ba, 0, none⟩ = some (.int .i64 a) := h2.cell 0
  have k3 : w.cell? ⟨bv, 0, none⟩ = some (.int .u64 v) := h3.cell 0
  have hc : (valOf R a != v) = true := by simpa using hv
  have hb : badRead R a v = true := by simp [badRead, hi, hc]
  have hr : rdL R a v = R := by
    have : (place R a).isSome = true := hi
    unfold rdL; split
    · rfl
    · rfl
  have pc0 : (w).cell? ⟨p, 0, none⟩ = some (.pointer (some ⟨g, 0, none⟩)) := (h).cell 0; have pf0 : (w).frozen? ⟨p, 0, none⟩ = false := (h).free 0; have pc1 : (w).cell? ⟨p, 1, none⟩ = some (.int .i64 r.op) := (h).cell 1; have pf1 : (w).frozen? ⟨p, 1, none⟩ = false := (h).free 1; have pc2 : (w).cell? ⟨p, 2, none⟩ = some (.int .i64 r.addr) := (h).cell 2; have pf2 : (w).frozen? ⟨p, 2, none⟩ = false := (h).free 2; have pc3 : (w).cell? ⟨p, 3, none⟩ = some (.int .u64 r.val) := (h).cell 3; have pf3 : (w).frozen? ⟨p, 3, none⟩ = false := (h).free 3; have pc4 : (w).cell? ⟨p, 4, none⟩ = some (.int .u64 r.old) := (h).cell 4; have pf4 : (w).frozen? ⟨p, 4, none⟩ = false := (h).free 4; have pc5 : (w).cell? ⟨p, 5, none⟩ = some (nx) := (h).cell 5; have pf5 : (w).frozen? ⟨p, 5, none⟩ = false := (h).free 5; have pc6 : (w).cell? ⟨p, 6, none⟩ = some (.bool bz) := (h).cell 6; have pf6 : (w).frozen? ⟨p, 6, none⟩ = false := (h).free 6; have pc7 : (w).cell? ⟨p, 7, none⟩ = some (.bool lv) := (h).cell 7; have pf7 : (w).frozen? ⟨p, 7, none⟩ = false := (h).free 7; have pc8 : (w).cell? ⟨p, 8, none⟩ = some (.bool wr) := (h).cell 8; have pf8 : (w).frozen? ⟨p, 8, none⟩ = false := (h).free 8; have pc9 : (w).cell? ⟨p, 9, none⟩ = some (.int .u64 sn) := (h).cell 9; have pf9 : (w).frozen? ⟨p, 9, none⟩ = false := (h).free 9; have pc10 : (w).cell? ⟨p, 10, none⟩ = some (.int .u64 vl) := (h).cell 10; have pf10 : (w).frozen? ⟨p, 10, none⟩ = false := (h).free 10; have pc11 : (w).cell? ⟨p, 11, none⟩ = some (.int .i64 en) := (h).cell 11; have pf11 : (w).frozen? ⟨p, 11, none⟩ = false := (h).free 11; have pc12 : (w).cell? ⟨p, 12, none⟩ = some (.int .i64 pt) := (h).cell 12; have pf12 : (w).frozen? ⟨p, 12, none⟩ = false := (h).free 12
  unfold FetchedPost
  rw [hb, hr]
  have HA := Lib.hid ha
  have HI := Lib.hid hi
  clear h h1 h2 h3 hL hv hb hr ha hi
  generalize hu : valOf R a = u at *
  have HU := Lib.hid hu
  clear hu
  go_enter Try.func67, Try.ntmps67
  go_wp2_with fail
  go_quiet ((go_at_call 70; exact Was_q w _ g L R W a _ _ HA.out HL.out HU.out HI.out))
  obtain ⟨w1, hw1⟩ : ∃ w1, w1 = w.drewN nq := ⟨_, rfl⟩
  rw [← hw1]
  have hC1 : Chg [] w w1 := hw1 ▸ (Chg.refl [] w).drewN nq
  have HC1 := Lib.hid hC1
  clear hw1 hC1 k1 k2 k3 pc0 pf0 pc1 pf1 pc2 pf2 pc3 pf3 pc4 pf4 pc5 pf5 pc6 pf6 pc7 pf7 pc8 pf8 pc9 pf9 pc10 pf10 pc11 pf11 pc12 pf12
  have k1 : w1.cell? ⟨bp, 0, none⟩ = some (.pointer (some ⟨p, 0, none⟩)) := (HC1.out.blk H1.out (by simp)).cell 0
  have k2 : w1.cell? ⟨ba, 0, none⟩ = some (.int .i64 a) := (HC1.out.blk H2.out (by simp)).cell 0
  have k3 : w1.cell? ⟨bv, 0, none⟩ = some (.int .u64 v) := (HC1.out.blk H3.out (by simp)).cell 0
  have pc0 : w1.cell? ⟨p, 0, none⟩ = some (.pointer (some ⟨g, 0, none⟩)) := (HC1.out.blk HB.out (by simp)).cell 0
  go_wp2_with fail
  go_quiet (fail)
  obtain ⟨w2, hw2⟩ : ∃ w2, w2 = w1.drewN nq := ⟨_, rfl⟩
  rw [← hw2]
  have hC2 : Chg [] w w2 := HC1.out.trans (hw2 ▸ (Chg.refl [] w1).drewN nq)
  have HC2 := Lib.hid hC2
  clear hw2 hC2 k1 k2 k3 pc0
  have k1 : w2.cell? ⟨bp, 0, none⟩ = some (.pointer (some ⟨p, 0, none⟩)) := (HC2.out.blk H1.out (by simp)).cell 0
  go_wp2_with fail
  refine (leave_any _ p g r nx _ bz lv wr sn vl en pt (HC2.out.blk HB.out (by simp))).mono ?_
  rintro e w' ⟨rfl, h1⟩
  have HQ := Lib.hid h1
  clear h1
  go_wp2_with fail
  refine bodyPost_ret (results_none rfl _ _ _) rfl ?_
  exact ⟨rfl, w2, L, HL.out.look HC2.out, ⟨HC2.out.mono (by simp), fun _ hx => .inl hx⟩, rfl, HQ.out⟩

set_option maxHeartbeats 1000000 in
theorem fetch11_read (w : World) (p g : Nat) (L : List Nat) (R W : PL) (r : Rq) (nx : Value) (v a : Int) (bp ba bv : Nat) (bz lv wr : Bool) (sn vl en pt : Int) (ha : (Lit.int .i64 a).wf = true) (h : Blk w p (pcells g r nx bz lv wr sn vl en pt) 69)
    (hL : LogAt w g L R W) (h1 : Blk w bp [.pointer (some ⟨p, 0, none⟩)] 31) (h2 : Blk w ba [.int .i64 a] 3) (h3 : Blk w bv [.int .u64 v] 23) (hvw : (Lit.int .u64 v).wf = true) (u : Int) (i : Bool) (hu : valOf R a = u) (hi : isIn R a = i) (hv : (i && (u != v)) = false) (er : Int) (her : rdErr R a = er) (h70 : er = 0 ∨ er = 70) (hg : ∀ x ∈ L, x ≠ p ∧ x ≠ bp ∧ x ≠ ba ∧ x ≠ bv) :
    Calls Try.prog 67 #[.int .u64 sn, .pointer (some ⟨bp, 0, none⟩), .pointer (some ⟨ba, 0, none⟩), .pointer (some ⟨bv, 0, none⟩)] w (FetchedPost w p g L R W a v r nx bz lv wr sn vl en pt) := by
  have HB := Lib.hid h
  have HL := Lib.hid hL
  have H1 := Lib.hid h1
  have H2 := Lib.hid h2
  have H3 := Lib.hid h3
  have k1 : w.cell? ⟨bp, 0, none⟩ = some (.pointer (some ⟨p, 0, none⟩)) := h1.cell 0
  have k2 : w.cell? ⟨ba, 0, none⟩ = some (.int .i64 a) := h2.cell 0
  have k3 : w.cell? ⟨bv, 0, none⟩ = some (.int .u64 v) := h3.cell 0
  have hb : badRead R a v = (er != 0) := by simp only [badRead, hi, hu, hv, her, Bool.false_or]
  have pc0 : (w).cell? ⟨p, 0, none⟩ = some (.pointer (some ⟨g, 0, none⟩)) := (h).cell 0; have pf0 : (w).frozen? ⟨p, 0, none⟩ = false := (h).free 0; have pc1 : (w).cell? ⟨p, 1, none⟩ = some (.int .i64 r.op) := (h).cell 1; have pf1 : (w).frozen? ⟨p, 1, none⟩ = false := (h).free 1; have pc2 : (w).cell? ⟨p, 2, none⟩ = some (.int .i64 r.addr) := (h).cell 2; have pf2 : (w).frozen? ⟨p, 2, none⟩ = false := (h).free 2; have pc3 : (w).cell? ⟨p, 3, none⟩ = some (.int .u64 r.val) := (h).cell 3; have pf3 : (w).frozen? ⟨p, 3, none⟩ = false := (h).free 3; have pc4 : (w).cell? ⟨p, 4, none⟩ = some (.int .u64 r.old) := (h).cell 4; have pf4 : (w).frozen? ⟨p, 4, none⟩ = false := (h).free 4; have pc5 : (w).cell? ⟨p, 5, none⟩ = some (nx) := (h).cell 5; have pf5 : (w).frozen? ⟨p, 5, none⟩ = false := (h).free 5; have pc6 : (w).cell? ⟨p, 6, none⟩ = some (.bool bz) := (h).cell 6; have pf6 : (w).frozen? ⟨p, 6, none⟩ = false := (h).free 6; have pc7 : (w).cell? ⟨p, 7, none⟩ = some (.bool lv) := (h).cell 7; have pf7 : (w).frozen? ⟨p, 7, none⟩ = false := (h).free 7; have pc8 : (w).cell? ⟨p, 8, none⟩ = some (.bool wr) := (h).cell 8; have pf8 : (w).frozen? ⟨p, 8, none⟩ = false := (h).free 8; have pc9 : (w).cell? ⟨p, 9, none⟩ = some (.int .u64 sn) := (h).cell 9; have pf9 : (w).frozen? ⟨p, 9, none⟩ = false := (h).free 9; have pc10 : (w).cell? ⟨p, 10, none⟩ = some (.int .u64 vl) := (h).cell 10; have pf10 : (w).frozen? ⟨p, 10, none⟩ = false := (h).free 10; have pc11 : (w).cell? ⟨p, 11, none⟩ = some (.int .i64 en) := (h).cell 11; have pf11 : (w).frozen? ⟨p, 11, none⟩ = false := (h).free 11; have pc12 : (w).cell? ⟨p, 12, none⟩ = some (.int .i64 pt) := (h).cell 12; have pf12 : (w).frozen? ⟨p, 12, none⟩ = false := (h).free 12
  unfold FetchedPost
  rw [hb]
  have HA := Lib.hid ha
  have HI := Lib.hid hi
  have HU := Lib.hid hu
  have HG := Lib.hid hg
  have HV := Lib.hid hvw
  have HVV := Lib.hid hv
  have HE := Lib.hid her
  clear h h1 h2 h3 hL hb ha hi hu hg hvw hv her
  go_enter Try.func67, Try.ntmps67
  go_wp2_with fail
  go_quiet ((go_at_call 70; exact Was_q w _ g L R W a _ _ HA.out HL.out HU.out HI.out))
  obtain ⟨w1, hw1⟩ : ∃ w1, w1 = w.drewN nq := ⟨_, rfl⟩
  rw [← hw1]
  have hC1 : Chg [] w w1 := hw1 ▸ (Chg.refl [] w).drewN nq
  have HC1 := Lib.hid hC1
  clear hw1 hC1 k1 k2 k3 pc0 pf0 pc1 pf1 pc2 pf2 pc3 pf3 pc4 pf4 pc5 pf5 pc6 pf6 pc7 pf7 pc8 pf8 pc9 pf9 pc10 pf10 pc11 pf11 pc12 pf12
  have k1 : w1.cell? ⟨bp, 0, none⟩ = some (.pointer (some ⟨p, 0, none⟩)) := (HC1.out.blk H1.out (by simp)).cell 0
  have k2 : w1.cell? ⟨ba, 0, none⟩ = some (.int .i64 a) := (HC1.out.blk H2.out (by simp)).cell 0
  have k3 : w1.cell? ⟨bv, 0, none⟩ = some (.int .u64 v) := (HC1.out.blk H3.out (by simp)).cell 0
  have pc0 : w1.cell? ⟨p, 0, none⟩ = some (.pointer (some ⟨g, 0, none⟩)) := (HC1.out.blk HB.out (by simp)).cell 0
  have h1p : bp ∉ L := fun hx => (HG.out bp hx).2.1 rfl
  have h2p : ba ∉ L := fun hx => (HG.out ba hx).2.2.1 rfl
  have h3p : bv ∉ L := fun hx => (HG.out bv hx).2.2.2 rfl
  have h0p : p ∉ L := fun hx => (HG.out p hx).1 rfl
  have HP := Lib.hid (And.intro h0p (And.intro h1p (And.intro h2p h3p)))
  clear h1p h2p h3p h0p
  have hcase : er = 0 ∨ (i = false ∧ er = 70) := by
    rcases h70 with h | h
    · exact .inl h
    · cases i with
      | false => exact .inr ⟨rfl, h⟩
      | true =>
        exfalso
        have e1 : (place R a).isSome = true := HI.out
        have e2 := HE.out
        unfold rdErr at e2
        split at e2
        · omega
        · omega
  clear h70
  rcases hcase with rfl | ⟨rfl, rfl⟩
  · cases i with
    | false =>
      go_wp2_with fail
      refine wp_region_held_drew (S := (fun w' : World => w'.cell? ⟨bp, 0, none⟩ = some (.pointer (some ⟨p, 0, none⟩)) ∧ w'.cell? ⟨ba, 0, none⟩ = some (.int .i64 a) ∧ w'.cell? ⟨bv, 0, none⟩ = some (.int .u64 v) ∧ w'.cell? ⟨p, 0, none⟩ = some (.pointer (some ⟨g, 0, none⟩)))) (by kernel_rfl) ⟨k1, k2, k3, pc0⟩ (fun hHeld => ?_)
      refine wpAnyH_take (i := 0) (v := .bool false) rfl (by kernel_rfl) (by kernel_rfl) (by kernel_rfl) (fun _ _ _ h => h) (Or.inl ⟨by kernel_rfl, fun w hSw => by obtain ⟨q1, q2, q3, q4⟩ := hSw; go_simp⟩) (by assumption) ?_; simp only [Act.put, List.setIfInBounds_toArray]; refine wpAnyH_take (i := 1) (v := .bool false) rfl (by kernel_rfl) (by kernel_rfl) (by kernel_rfl) (fun _ _ _ h => h) (Or.inl ⟨by kernel_rfl, fun w hSw => by obtain ⟨q1, q2, q3, q4⟩ := hSw; go_simp⟩) (by assumption) ?_; simp only [Act.put, List.setIfInBounds_toArray]; refine wpAnyH_take (i := 2) (v := undef) rfl (by kernel_rfl) (by kernel_rfl) (by kernel_rfl) (fun _ _ _ h => h) (Or.inr ⟨by kernel_rfl, rfl⟩) (by assumption) ?_; simp only [Act.put, List.setIfInBounds_toArray]; refine wpAnyH_take (i := 3) (v := undef) rfl (by kernel_rfl) (by kernel_rfl) (by kernel_rfl) (fun _ _ _ h => h) (Or.inr ⟨by kernel_rfl, rfl⟩) (by assumption) ?_; simp only [Act.put, List.setIfInBounds_toArray]; refine wpAnyH_take (i := 4) (v := undef) rfl (by kernel_rfl) (by kernel_rfl) (by kernel_rfl) (fun _ _ _ h => h) (Or.inr ⟨by kernel_rfl, rfl⟩) (by assumption) ?_; simp only [Act.put, List.setIfInBounds_toArray]; refine wpAnyH_take (i := 5) (v := .bool false) rfl (by kernel_rfl) (by kernel_rfl) (by kernel_rfl) (fun _ _ _ h => h) (Or.inl ⟨by kernel_rfl, fun w hSw => by obtain ⟨q1, q2, q3, q4⟩ := hSw; go_simp⟩) (by assumption) ?_; simp only [Act.put, List.setIfInBounds_toArray]; refine wpAnyH_take (i := 6) (v := .bool false) rfl (by kernel_rfl) (by kernel_rfl) (by kernel_rfl) (fun _ _ _ h => h) (Or.inl ⟨by kernel_rfl, fun w hSw => by obtain ⟨q1, q2, q3, q4⟩ := hSw; go_simp⟩) (by assumption) ?_; simp only [Act.put, List.setIfInBounds_toArray]; refine wpAnyH_take (i := 7) (v := .pointer (some ⟨p, 0, none⟩)) rfl (by kernel_rfl) (by kernel_rfl) (by kernel_rfl) (fun _ _ _ h => h) (Or.inl ⟨by kernel_rfl, fun w hSw => by obtain ⟨q1, q2, q3, q4⟩ := hSw; go_simp⟩) (by assumption) ?_; simp only [Act.put, List.setIfInBounds_toArray]; refine wpAnyH_take (i := 8) (v := .pointer (some ⟨p, 0, none⟩)) rfl (by kernel_rfl) (by kernel_rfl) (by kernel_rfl) (fun _ _ _ h => h) (Or.inl ⟨by kernel_rfl, fun w hSw => by obtain ⟨q1, q2, q3, q4⟩ := hSw; go_simp⟩) (by assumption) ?_; simp only [Act.put, List.setIfInBounds_toArray]; refine wpAnyH_take (i := 9) (v := .pointer (some ⟨p, 0, none⟩)) rfl (by kernel_rfl) (by kernel_rfl) (by kernel_rfl) (fun _ _ _ h => h) (Or.inl ⟨by kernel_rfl, fun w hSw => by obtain ⟨q1, q2, q3, q4⟩ := hSw; go_simp⟩) (by assumption) ?_; simp only [Act.put, List.setIfInBounds_toArray]; refine wpAnyH_take (i := 10) (v := .pointer (some ⟨g, 0, none⟩)) rfl (by kernel_rfl) (by kernel_rfl) (by kernel_rfl) (fun _ _ _ h => h) (Or.inl ⟨by kernel_rfl, fun w hSw => by obtain ⟨q1, q2, q3, q4⟩ := hSw; go_simp⟩) (by assumption) ?_; simp only [Act.put, List.setIfInBounds_toArray]; refine wpAnyH_take (i := 11) (v := .int .i64 a) rfl (by kernel_rfl) (by kernel_rfl) (by kernel_rfl) (fun _ _ _ h => h) (Or.inl ⟨by kernel_rfl, fun w hSw => by obtain ⟨q1, q2, q3, q4⟩ := hSw; go_simp⟩) (by assumption) ?_; simp only [Act.put, List.setIfInBounds_toArray]; refine wpAnyH_take (i := 12) (v := .int .u64 v) rfl (by kernel_rfl) (by kernel_rfl) (by kernel_rfl) (fun _ _ _ h => h) (Or.inl ⟨by kernel_rfl, fun w hSw => by obtain ⟨q1, q2, q3, q4⟩ := hSw; go_simp⟩) (by assumption) ?_; simp only [Act.put, List.setIfInBounds_toArray]
      refine wpAnyH_ready (rs := [13]) (by kernel_rfl) (by simp) ?_; refine AllReadyH.cons rfl (fun K hK => ?_) AllReadyH.nil
      go_simp
      refine (Read_any _ g L R W a v HA.out HV.out (HL.out.look (HC1.out.trans (Chg.drew (Chg.refl [] w1))))).mono ?_
      rintro e w2 ⟨rfl, hq⟩
      rw [HE.out]
      dsimp only
      obtain ⟨L', hL2, hM⟩ := hq
      have hC : Chg L w w2 := ((HC1.out.mono (T := L) (by simp)).trans (Chg.drew (Chg.refl L w1))).trans hM.chg
      have hMv : Mv L L' w w2 := ⟨hC, fun x hx => (hM.new x hx).elim .inl (fun h => .inr (Nat.le_trans HC1.out.size h))⟩
      have b0 := hC.blk HB.out HP.out.1
      have b1 := hC.blk H1.out HP.out.2.1
      have b2 := hC.blk H2.out HP.out.2.2.1
      have b3 := hC.blk H3.out HP.out.2.2.2
      have B0 := Lib.hid b0
      have HL2 := Lib.hid hL2
      have HM2 := Lib.hid hMv
      clear hL2 hM hC hMv k1 k2 k3 pc0 hHeld
      have k1 : w2.cell? ⟨bp, 0, none⟩ = some (.pointer (some ⟨p, 0, none⟩)) := b1.cell 0
      have k3 : w2.cell? ⟨bv, 0, none⟩ = some (.int .u64 v) := b3.cell 0
      have B1 := Lib.hid b1
      have hn1 : p ≠ bp := b0.ne b1 (by decide)
      have hn2 : p ≠ bv := b0.ne b3 (by decide)
      refine hK.out _ _ ⟨b1.cell 0, b2.cell 0, b3.cell 0, b0.cell 0⟩ (fun hHeld => ?_)
      clear hK K b1 b2 b3
      refine wpAnyH_take (i := 14) (v := .bool false) rfl (by kernel_rfl) (by kernel_rfl) (by kernel_rfl) (fun _ _ _ h => h) (Or.inl ⟨by kernel_rfl, fun w hSw => by obtain ⟨q1, q2, q3, q4⟩ := hSw; go_simp⟩) (by assumption) ?_; simp only [Act.put, List.setIfInBounds_toArray]; refine wpAnyH_take (i := 15) (v := .bool false) rfl (by kernel_rfl) (by kernel_rfl) (by kernel_rfl) (fun _ _ _ h => h) (Or.inl ⟨by kernel_rfl, fun w hSw => by obtain ⟨q1, q2, q3, q4⟩ := hSw; go_simp⟩) (by assumption) ?_; simp only [Act.put, List.setIfInBounds_toArray]
      refine wpAnyH_done (by kernel_rfl) ?_ _
      clear hHeld
      have pc0 : (w2).cell? ⟨p, 0, none⟩ = some (.pointer (some ⟨g, 0, none⟩)) := (b0).cell 0; have pf0 : (w2).frozen? ⟨p, 0, none⟩ = false := (b0).free 0; have pc1 : (w2).cell? ⟨p, 1, none⟩ = some (.int .i64 r.op) := (b0).cell 1; have pf1 : (w2).frozen? ⟨p, 1, none⟩ = false := (b0).free 1; have pc2 : (w2).cell? ⟨p, 2, none⟩ = some (.int .i64 r.addr) := (b0).cell 2; have pf2 : (w2).frozen? ⟨p, 2, none⟩ = false := (b0).free 2; have pc3 : (w2).cell? ⟨p, 3, none⟩ = some (.int .u64 r.val) := (b0).cell 3; have pf3 : (w2).frozen? ⟨p, 3, none⟩ = false := (b0).free 3; have pc4 : (w2).cell? ⟨p, 4, none⟩ = some (.int .u64 r.old) := (b0).cell 4; have pf4 : (w2).frozen? ⟨p, 4, none⟩ = false := (b0).free 4; have pc5 : (w2).cell? ⟨p, 5, none⟩ = some (nx) := (b0).cell 5; have pf5 : (w2).frozen? ⟨p, 5, none⟩ = false := (b0).free 5; have pc6 : (w2).cell? ⟨p, 6, none⟩ = some (.bool bz) := (b0).cell 6; have pf6 : (w2).frozen? ⟨p, 6, none⟩ = false := (b0).free 6; have pc7 : (w2).cell? ⟨p, 7, none⟩ = some (.bool lv) := (b0).cell 7; have pf7 : (w2).frozen? ⟨p, 7, none⟩ = false := (b0).free 7; have pc8 : (w2).cell? ⟨p, 8, none⟩ = some (.bool wr) := (b0).cell 8; have pf8 : (w2).frozen? ⟨p, 8, none⟩ = false := (b0).free 8; have pc9 : (w2).cell? ⟨p, 9, none⟩ = some (.int .u64 sn) := (b0).cell 9; have pf9 : (w2).frozen? ⟨p, 9, none⟩ = false := (b0).free 9; have pc10 : (w2).cell? ⟨p, 10, none⟩ = some (.int .u64 vl) := (b0).cell 10; have pf10 : (w2).frozen? ⟨p, 10, none⟩ = false := (b0).free 10; have pc11 : (w2).cell? ⟨p, 11, none⟩ = some (.int .i64 en) := (b0).cell 11; have pf11 : (w2).frozen? ⟨p, 11, none⟩ = false := (b0).free 11; have pc12 : (w2).cell? ⟨p, 12, none⟩ = some (.int .i64 pt) := (b0).cell 12; have pf12 : (w2).frozen? ⟨p, 12, none⟩ = false := (b0).free 12
      clear b0
      have B2 := Lib.hid (B0.out.set 10 (.int .u64 v))
      have C2 := Lib.hid ((Chg.refl [p] w2).setCell (p := ⟨p, 10, none⟩) (by simp) (.int .u64 v))
      have B3 := Lib.hid (C2.out.blk B1.out (by simp; omega))
      go_wp2_with fail
      refine (point_any _ p g r nx bz lv wr sn v en pt sn B2.out).mono ?_
      rintro e w3 ⟨rfl, h1, h2⟩
      have B4 := Lib.hid h1
      have C4 := Lib.hid (C2.out.trans h2)
      have B5 := Lib.hid (h2.blk B3.out (by simp; omega))
      clear h1 h2 k1
      have k1 : w3.cell? ⟨bp, 0, none⟩ = some (.pointer (some ⟨p, 0, none⟩)) := B5.out.cell 0
      go_wp2_with fail
      refine (done_any _ p g r nx bz lv wr sn v en (wrap64 (pt + 1)) B4.out).mono ?_
      rintro e w4 ⟨rfl, h1, h2⟩
      have B6 := Lib.hid h1
      have C6 := Lib.hid (C4.out.trans h2)
      clear h1 h2
      go_wp2_with fail
      go_end0
      exact ⟨rfl, w2, L', HL2.out, HM2.out, B6.out, C6.out⟩
    | true =>
      have hc : (u != v) = false := HVV.out
      go_wp2_with fail
      refine wp_region_held_drew (S := (fun w' : World => w'.cell? ⟨bp, 0, none⟩ = some (.pointer (some ⟨p, 0, none⟩)) ∧ w'.cell? ⟨ba, 0, none⟩ = some (.int .i64 a) ∧ w'.cell? ⟨bv, 0, none⟩ = some (.int .u64 v) ∧ w'.cell? ⟨p, 0, none⟩ = some (.pointer (some ⟨g, 0, none⟩)))) (by kernel_rfl) ⟨k1, k2, k3, pc0⟩ (fun hHeld => ?_)
      refine wpAnyH_take (i := 0) (v := .bool true) rfl (by kernel_rfl) (by kernel_rfl) (by kernel_rfl) (fun _ _ _ h => h) (Or.inl ⟨by kernel_rfl, fun w hSw => by obtain ⟨q1, q2, q3, q4⟩ := hSw; go_simp⟩) (by assumption) ?_; simp only [Act.put, List.setIfInBounds_toArray]; refine wpAnyH_take (i := 1) (v := .bool true) rfl (by kernel_rfl) (by kernel_rfl) (by kernel_rfl) (fun _ _ _ h => h) (Or.inl ⟨by kernel_rfl, fun w hSw => by obtain ⟨q1, q2, q3, q4⟩ := hSw; go_simp⟩) (by assumption) ?_; simp only [Act.put, List.setIfInBounds_toArray]; refine wpAnyH_take (i := 2) (v := .int .u64 u) rfl (by kernel_rfl) (by kernel_rfl) (by kernel_rfl) (fun _ _ _ h => h) (Or.inl ⟨by kernel_rfl, fun w hSw => by obtain ⟨q1, q2, q3, q4⟩ := hSw; go_simp⟩) (by assumption) ?_; simp only [Act.put, List.setIfInBounds_toArray]; refine wpAnyH_take (i := 3) (v := .int .u64 v) rfl (by kernel_rfl) (by kernel_rfl) (by kernel_rfl) (fun _ _ _ h => h) (Or.inl ⟨by kernel_rfl, fun w hSw => by obtain ⟨q1, q2, q3, q4⟩ := hSw; go_simp⟩) (by assumption) ?_; simp only [Act.put, List.setIfInBounds_toArray]; refine wpAnyH_take (i := 4) (v := .bool false) rfl (by kernel_rfl) (by kernel_rfl) (by kernel_rfl) (fun _ _ _ h => h) (Or.inl ⟨by kernel_rfl, fun w hSw => by obtain ⟨q1, q2, q3, q4⟩ := hSw; go_simp⟩) (by assumption) ?_; simp only [Act.put, List.setIfInBounds_toArray]; refine wpAnyH_take (i := 5) (v := .bool false) rfl (by kernel_rfl) (by kernel_rfl) (by kernel_rfl) (fun _ _ _ h => h) (Or.inl ⟨by kernel_rfl, fun w hSw => by obtain ⟨q1, q2, q3, q4⟩ := hSw; go_simp⟩) (by assumption) ?_; simp only [Act.put, List.setIfInBounds_toArray]; refine wpAnyH_take (i := 6) (v := .bool false) rfl (by kernel_rfl) (by kernel_rfl) (by kernel_rfl) (fun _ _ _ h => h) (Or.inl ⟨by kernel_rfl, fun w hSw => by obtain ⟨q1, q2, q3, q4⟩ := hSw; go_simp⟩) (by assumption) ?_; simp only [Act.put, List.setIfInBounds_toArray]; refine wpAnyH_take (i := 7) (v := .pointer (some ⟨p, 0, none⟩)) rfl (by kernel_rfl) (by kernel_rfl) (by kernel_rfl) (fun _ _ _ h => h) (Or.inl ⟨by kernel_rfl, fun w hSw => by obtain ⟨q1, q2, q3, q4⟩ := hSw; go_simp⟩) (by assumption) ?_; simp only [Act.put, List.setIfInBounds_toArray]; refine wpAnyH_take (i := 8) (v := .pointer (some ⟨p, 0, none⟩)) rfl (by kernel_rfl) (by kernel_rfl) (by kernel_rfl) (fun _ _ _ h => h) (Or.inl ⟨by kernel_rfl, fun w hSw => by obtain ⟨q1, q2, q3, q4⟩ := hSw; go_simp⟩) (by assumption) ?_; simp only [Act.put, List.setIfInBounds_toArray]; refine wpAnyH_take (i := 9) (v := .pointer (some ⟨p, 0, none⟩)) rfl (by kernel_rfl) (by kernel_rfl) (by kernel_rfl) (fun _ _ _ h => h) (Or.inl ⟨by kernel_rfl, fun w hSw => by obtain ⟨q1, q2, q3, q4⟩ := hSw; go_simp⟩) (by assumption) ?_; simp only [Act.put, List.setIfInBounds_toArray]; refine wpAnyH_take (i := 10) (v := .pointer (some ⟨g, 0, none⟩)) rfl (by kernel_rfl) (by kernel_rfl) (by kernel_rfl) (fun _ _ _ h => h) (Or.inl ⟨by kernel_rfl, fun w hSw => by obtain ⟨q1, q2, q3, q4⟩ := hSw; go_simp⟩) (by assumption) ?_; simp only [Act.put, List.setIfInBounds_toArray]; refine wpAnyH_take (i := 11) (v := .int .i64 a) rfl (by kernel_rfl) (by kernel_rfl) (by kernel_rfl) (fun _ _ _ h => h) (Or.inl ⟨by kernel_rfl, fun w hSw => by obtain ⟨q1, q2, q3, q4⟩ := hSw; go_simp⟩) (by assumption) ?_; simp only [Act.put, List.setIfInBounds_toArray]; refine wpAnyH_take (i := 12) (v := .int .u64 v) rfl (by kernel_rfl) (by kernel_rfl) (by kernel_rfl) (fun _ _ _ h => h) (Or.inl ⟨by kernel_rfl, fun w hSw => by obtain ⟨q1, q2, q3, q4⟩ := hSw; go_simp⟩) (by assumption) ?_; simp only [Act.put, List.setIfInBounds_toArray]
      refine wpAnyH_ready (rs := [13]) (by kernel_rfl) (by simp) ?_; refine AllReadyH.cons rfl (fun K hK => ?_) AllReadyH.nil
      go_simp
      refine (Read_any _ g L R W a v HA.out HV.out (HL.out.look (HC1.out.trans (Chg.drew (Chg.refl [] w1))))).mono ?_
      rintro e w2 ⟨rfl, hq⟩
      rw [HE.out]
      dsimp only
      obtain ⟨L', hL2, hM⟩ := hq
      have hC : Chg L w w2 := ((HC1.out.mono (T := L) (by simp)).trans (Chg.drew (Chg.refl L w1))).trans hM.chg
      have hMv : Mv L L' w w2 := ⟨hC, fun x hx => (hM.new x hx).elim .inl (fun h => .inr (Nat.le_trans HC1.out.size h))⟩
      have b0 := hC.blk HB.out HP.out.1
      have b1 := hC.blk H1.out HP.out.2.1
      have b2 := hC.blk H2.out HP.out.2.2.1
      have b3 := hC.blk H3.out HP.out.2.2.2
      have B0 := Lib.hid b0
      have HL2 := Lib.hid hL2
      have HM2 := Lib.hid hMv
      clear hL2 hM hC hMv k1 k2 k3 pc0 hHeld
      have k1 : w2.cell? ⟨bp, 0, none⟩ = some (.pointer (some ⟨p, 0, none⟩)) := b1.cell 0
      have k3 : w2.cell? ⟨bv, 0, none⟩ = some (.int .u64 v) := b3.cell 0
      have B1 := Lib.hid b1
      have hn1 : p ≠ bp := b0.ne b1 (by decide)
      have hn2 : p ≠ bv := b0.ne b3 (by decide)
      refine hK.out _ _ ⟨b1.cell 0, b2.cell 0, b3.cell 0, b0.cell 0⟩ (fun hHeld => ?_)
      clear hK K b1 b2 b3
      refine wpAnyH_take (i := 14) (v := .bool false) rfl (by kernel_rfl) (by kernel_rfl) (by kernel_rfl) (fun _ _ _ h => h) (Or.inl ⟨by kernel_rfl, fun w hSw => by obtain ⟨q1, q2, q3, q4⟩ := hSw; go_simp⟩) (by assumption) ?_; simp only [Act.put, List.setIfInBounds_toArray]; refine wpAnyH_take (i := 15) (v := .bool false) rfl (by kernel_rfl) (by kernel_rfl) (by kernel_rfl) (fun _ _ _ h => h) (Or.inl ⟨by kernel_rfl, fun w hSw => by obtain ⟨q1, q2, q3, q4⟩ := hSw; go_simp⟩) (by assumption) ?_; simp only [Act.put, List.setIfInBounds_toArray]
      refine wpAnyH_done (by kernel_rfl) ?_ _
      clear hHeld
      have pc0 : (w2).cell? ⟨p, 0, none⟩ = some (.pointer (some ⟨g, 0, none⟩)) := (b0).cell 0; have pf0 : (w2).frozen? ⟨p, 0, none⟩ = false := (b0).free 0; have pc1 : (w2).cell? ⟨p, 1, none⟩ = some (.int .i64 r.op) := (b0).cell 1; have pf1 : (w2).frozen? ⟨p, 1, none⟩ = false := (b0).free 1; have pc2 : (w2).cell? ⟨p, 2, none⟩ = some (.int .i64 r.addr) := (b0).cell 2; have pf2 : (w2).frozen? ⟨p, 2, none⟩ = false := (b0).free 2; have pc3 : (w2).cell? ⟨p, 3, none⟩ = some (.int .u64 r.val) := (b0).cell 3; have pf3 : (w2).frozen? ⟨p, 3, none⟩ = false := (b0).free 3; have pc4 : (w2).cell? ⟨p, 4, none⟩ = some (.int .u64 r.old) := (b0).cell 4; have pf4 : (w2).frozen? ⟨p, 4, none⟩ = false := (b0).free 4; have pc5 : (w2).cell? ⟨p, 5, none⟩ = some (nx) := (b0).cell 5; have pf5 : (w2).frozen? ⟨p, 5, none⟩ = false := (b0).free 5; have pc6 : (w2).cell? ⟨p, 6, none⟩ = some (.bool bz) := (b0).cell 6; have pf6 : (w2).frozen? ⟨p, 6, none⟩ = false := (b0).free 6; have pc7 : (w2).cell? ⟨p, 7, none⟩ = some (.bool lv) := (b0).cell 7; have pf7 : (w2).frozen? ⟨p, 7, none⟩ = false := (b0).free 7; have pc8 : (w2).cell? ⟨p, 8, none⟩ = some (.bool wr) := (b0).cell 8; have pf8 : (w2).frozen? ⟨p, 8, none⟩ = false := (b0).free 8; have pc9 : (w2).cell? ⟨p, 9, none⟩ = some (.int .u64 sn) := (b0).cell 9; have pf9 : (w2).frozen? ⟨p, 9, none⟩ = false := (b0).free 9; have pc10 : (w2).cell? ⟨p, 10, none⟩ = some (.int .u64 vl) := (b0).cell 10; have pf10 : (w2).frozen? ⟨p, 10, none⟩ = false := (b0).free 10; have pc11 : (w2).cell? ⟨p, 11, none⟩ = some (.int .i64 en) := (b0).cell 11; have pf11 : (w2).frozen? ⟨p, 11, none⟩ = false := (b0).free 11; have pc12 : (w2).cell? ⟨p, 12, none⟩ = some (.int .i64 pt) := (b0).cell 12; have pf12 : (w2).frozen? ⟨p, 12, none⟩ = false := (b0).free 12
      clear b0
      have B2 := Lib.hid (B0.out.set 10 (.int .u64 v))
      have C2 := Lib.hid ((Chg.refl [p] w2).setCell (p := ⟨p, 10, none⟩) (by simp) (.int .u64 v))
      have B3 := Lib.hid (C2.out.blk B1.out (by simp; omega))
      go_wp2_with fail
      refine (point_any _ p g r nx bz lv wr sn v en pt sn B2.out).mono ?_
      rintro e w3 ⟨rfl, h1, h2⟩
      have B4 := Lib.hid h1
      have C4 := Lib.hid (C2.out.trans h2)
      have B5 := Lib.hid (h2.blk B3.out (by simp; omega))
      clear h1 h2 k1
      have k1 : w3.cell? ⟨bp, 0, none⟩ = some (.pointer (some ⟨p, 0, none⟩)) := B5.out.cell 0
      go_wp2_with fail
      refine (done_any _ p g r nx bz lv wr sn v en (wrap64 (pt + 1)) B4.out).mono ?_
      rintro e w4 ⟨rfl, h1, h2⟩
      have B6 := Lib.hid h1
      have C6 := Lib.hid (C4.out.trans h2)
      clear h1 h2
      go_wp2_with fail
      go_end0
      exact ⟨rfl, w2, L', HL2.out, HM2.out, B6.out, C6.out⟩
  · go_wp2_with fail
    refine wp_region_held_drew (S := (fun w' : World => w'.cell? ⟨bp, 0, none⟩ = some (.pointer (some ⟨p, 0, none⟩)) ∧ w'.cell? ⟨ba, 0, none⟩ = some (.int .i64 a) ∧ w'.cell? ⟨bv, 0, none⟩ = some (.int .u64 v) ∧ w'.cell? ⟨p, 0, none⟩ = some (.pointer (some ⟨g, 0, none⟩)))) (by kernel_rfl) ⟨k1, k2, k3, pc0⟩ (fun hHeld => ?_)
    refine wpAnyH_take (i := 0) (v := .bool false) rfl (by kernel_rfl) (by kernel_rfl) (by kernel_rfl) (fun _ _ _ h => h) (Or.inl ⟨by kernel_rfl, fun w hSw => by obtain ⟨q1, q2, q3, q4⟩ := hSw; go_simp⟩) (by assumption) ?_; simp only [Act.put, List.setIfInBounds_toArray]; refine wpAnyH_take (i := 1) (v := .bool false) rfl (by kernel_rfl) (by kernel_rfl) (by kernel_rfl) (fun _ _ _ h => h) (Or.inl ⟨by kernel_rfl, fun w hSw => by obtain ⟨q1, q2, q3, q4⟩ := hSw; go_simp⟩) (by assumption) ?_; simp only [Act.put, List.setIfInBounds_toArray]; refine wpAnyH_take (i := 2) (v := undef) rfl (by kernel_rfl) (by kernel_rfl) (by kernel_rfl) (fun _ _ _ h => h) (Or.inr ⟨by kernel_rfl, rfl⟩) (by assumption) ?_; simp only [Act.put, List.setIfInBounds_toArray]; refine wpAnyH_take (i := 3) (v := undef) rfl (by kernel_rfl) (by kernel_rfl) (by kernel_rfl) (fun _ _ _ h => h) (Or.inr ⟨by kernel_rfl, rfl⟩) (by assumption) ?_; simp only [Act.put, List.setIfInBounds_toArray]; refine wpAnyH_take (i := 4) (v := undef) rfl (by kernel_rfl) (by kernel_rfl) (by kernel_rfl) (fun _ _ _ h => h) (Or.inr ⟨by kernel_rfl, rfl⟩) (by assumption) ?_; simp only [Act.put, List.setIfInBounds_toArray]; refine wpAnyH_take (i := 5) (v := .bool false) rfl (by kernel_rfl) (by kernel_rfl) (by kernel_rfl) (fun _ _ _ h => h) (Or.inl ⟨by kernel_rfl, fun w hSw => by obtain ⟨q1, q2, q3, q4⟩ := hSw; go_simp⟩) (by assumption) ?_; simp only [Act.put, List.setIfInBounds_toArray]; refine wpAnyH_take (i := 6) (v := .bool false) rfl (by kernel_rfl) (by kernel_rfl) (by kernel_rfl) (fun _ _ _ h => h) (Or.inl ⟨by kernel_rfl, fun w hSw => by obtain ⟨q1, q2, q3, q4⟩ := hSw; go_simp⟩) (by assumption) ?_; simp only [Act.put, List.setIfInBounds_toArray]; refine wpAnyH_take (i := 7) (v := .pointer (some ⟨p, 0, none⟩)) rfl (by kernel_rfl) (by kernel_rfl) (by kernel_rfl) (fun _ _ _ h => h) (Or.inl ⟨by kernel_rfl, fun w hSw => by obtain ⟨q1, q2, q3, q4⟩ := hSw; go_simp⟩) (by assumption) ?_; simp only [Act.put, List.setIfInBounds_toArray]; refine wpAnyH_take (i := 8) (v := .pointer (some ⟨p, 0, none⟩)) rfl (by kernel_rfl) (by kernel_rfl) (by kernel_rfl) (fun _ _ _ h => h) (Or.inl ⟨by kernel_rfl, fun w hSw => by obtain ⟨q1, q2, q3, q4⟩ := hSw; go_simp⟩) (by assumption) ?_; simp only [Act.put, List.setIfInBounds_toArray]; refine wpAnyH_take (i := 9) (v := .pointer (some ⟨p, 0, none⟩)) rfl (by kernel_rfl) (by kernel_rfl) (by kernel_rfl) (fun _ _ _ h => h) (Or.inl ⟨by kernel_rfl, fun w hSw => by obtain ⟨q1, q2, q3, q4⟩ := hSw; go_simp⟩) (by assumption) ?_; simp only [Act.put, List.setIfInBounds_toArray]; refine wpAnyH_take (i := 10) (v := .pointer (some ⟨g, 0, none⟩)) rfl (by kernel_rfl) (by kernel_rfl) (by kernel_rfl) (fun _ _ _ h => h) (Or.inl ⟨by kernel_rfl, fun w hSw => by obtain ⟨q1, q2, q3, q4⟩ := hSw; go_simp⟩) (by assumption) ?_; simp only [Act.put, List.setIfInBounds_toArray]; refine wpAnyH_take (i := 11) (v := .int .i64 a) rfl (by kernel_rfl) (by kernel_rfl) (by kernel_rfl) (fun _ _ _ h => h) (Or.inl ⟨by kernel_rfl, fun w hSw => by obtain ⟨q1, q2, q3, q4⟩ := hSw; go_simp⟩) (by assumption) ?_; simp only [Act.put, List.setIfInBounds_toArray]; refine wpAnyH_take (i := 12) (v := .int .u64 v) rfl (by kernel_rfl) (by kernel_rfl) (by kernel_rfl) (fun _ _ _ h => h) (Or.inl ⟨by kernel_rfl, fun w hSw => by obtain ⟨q1, q2, q3, q4⟩ := hSw; go_simp⟩) (by assumption) ?_; simp only [Act.put, List.setIfInBounds_toArray]
    refine wpAnyH_ready (rs := [13]) (by kernel_rfl) (by simp) ?_; refine AllReadyH.cons rfl (fun K hK => ?_) AllReadyH.nil
    go_simp
    refine (Read_any _ g L R W a v HA.out HV.out (HL.out.look (HC1.out.trans (Chg.drew (Chg.refl [] w1))))).mono ?_
    rintro e w2 ⟨rfl, hq⟩
    rw [HE.out]
    dsimp only
    obtain ⟨L', hL2, hM⟩ := hq
    have hC : Chg L w w2 := ((HC1.out.mono (T := L) (by simp)).trans (Chg.drew (Chg.refl L w1))).trans hM.chg
    have hMv : Mv L L' w w2 := ⟨hC, fun x hx => (hM.new x hx).elim .inl (fun h => .inr (Nat.le_trans HC1.out.size h))⟩
    have b0 := hC.blk HB.out HP.out.1
    have b1 := hC.blk H1.out HP.out.2.1
    have b2 := hC.blk H2.out HP.out.2.2.1
    have b3 := hC.blk H3.out HP.out.2.2.2
    have B0 := Lib.hid b0
    have HL2 := Lib.hid hL2
    have HM2 := Lib.hid hMv
    clear hL2 hM hC hMv k1 k2 k3 pc0 hHeld
    have k1 : w2.cell? ⟨bp, 0, none⟩ = some (.pointer (some ⟨p, 0, none⟩)) := b1.cell 0
    have k3 : w2.cell? ⟨bv, 0, none⟩ = some (.int .u64 v) := b3.cell 0
    have B1 := Lib.hid b1
    have hn1 : p ≠ bp := b0.ne b1 (by decide)
    have hn2 : p ≠ bv := b0.ne b3 (by decide)
    refine hK.out _ _ ⟨b1.cell 0, b2.cell 0, b3.cell 0, b0.cell 0⟩ (fun hHeld => ?_)
    clear hK K b1 b2 b3
    refine wpAnyH_take (i := 14) (v := .bool true) rfl (by kernel_rfl) (by kernel_rfl) (by kernel_rfl) (fun _ _ _ h => h) (Or.inl ⟨by kernel_rfl, fun w hSw => by obtain ⟨q1, q2, q3, q4⟩ := hSw; go_simp⟩) (by assumption) ?_; simp only [Act.put, List.setIfInBounds_toArray]; refine wpAnyH_take (i := 15) (v := .bool true) rfl (by kernel_rfl) (by kernel_rfl) (by kernel_rfl) (fun _ _ _ h => h) (Or.inl ⟨by kernel_rfl, fun w hSw => by obtain ⟨q1, q2, q3, q4⟩ := hSw; go_simp⟩) (by assumption) ?_; simp only [Act.put, List.setIfInBounds_toArray]
    refine wpAnyH_done (by kernel_rfl) ?_ _
    clear hHeld
    clear b0
    go_wp2_with fail
    refine (leave_any _ p g r nx _ bz lv wr sn vl en pt B0.out).mono ?_
    rintro e w' ⟨rfl, h1⟩
    have HQ := Lib.hid h1
    clear h1
    go_wp2_with fail
    refine bodyPost_ret (results_none rfl _ _ _) rfl ?_
    exact ⟨rfl, w2, L', HL2.out, HM2.out, rfl, HQ.out⟩

end Go.Proofs.Ytilffolppnnkaaa
