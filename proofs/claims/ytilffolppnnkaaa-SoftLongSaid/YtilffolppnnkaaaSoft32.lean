/- A path beside the document's: a call on both. -/
import Derived.Test.YtilffolppnnkaaaSoft31
namespace Go.Proofs.Ytilffolppnnkaaa
set_option maxRecDepth 100000
open Go.RowKit

def opD (s : PS) (h : PL) (o : OpV) : PS × PL :=
  if o.k = 0 then (s.begin, h) else if o.k = 1 then (s.load o.a, h) else if o.k = 2 then (s.store o.a o.v, h) else if o.k = 3 then (s.commit, h) else if o.k = 4 then (s.quit, h) else if o.k = 5 then (s.give o.v o.ok, h) else if o.k = 6 then stepM (s, h) else (s, h)
def DoPost (w : World) (p : Nat) (F : List Nat) (d m c : Nat) (x : PS × PL) (e : Ending) (w' : World) : Prop :=
  e = .returned (.bool true) ∧ ∃ F' c', c' ≤ c + 1 ∧ Duo w' p F' x.1 d x.1 m c' x.2 ∧ Mv (d :: m :: F) (d :: m :: F') w w'
theorem Mv.up {F F' : List Nat} {w w' : World} (hM : Mv F F' w w') (d m : Nat) : Mv (d :: m :: F) (d :: m :: F') w w' := (hM.cons m).cons d
theorem Mv.dd {F : List Nat} {w w' : World} {d m : Nat} (hC : Chg [d] w w') : Mv (d :: m :: F) (d :: m :: F) w w' := ⟨hC.mono (by simp), fun _ hx => .inl hx⟩
theorem Mv.mm {F : List Nat} {w w' : World} {d m : Nat} (hC : Chg [m] w w') : Mv (d :: m :: F) (d :: m :: F) w w' := ⟨hC.mono (by simp), fun _ hx => .inl hx⟩
theorem Mv.look {F : List Nat} {w w' : World} (hC : Chg [] w w') : Mv F F w w' := Mv.of_same hC

theorem idle_of_ready {s : PS} (hr : s.ready = true) : s.ph = .idle := PS.busy_idle (by
  unfold PS.ready at hr; cases hb : s.busy <;> simp [hb] at hr ⊢)
theorem PS.begin_ok {s : PS} (h : s.ph.ok s.R s.W) : s.begin.ph.ok s.begin.R s.begin.W := by
  unfold PS.begin; split
  · exact h
  · trivial
theorem PS.load_ok {s : PS} {a : Int} (ha : (Lit.int .i64 a).wf = true) (h : s.ph.ok s.R s.W) : (s.load a).ph.ok (s.load a).R (s.load a).W := by
  unfold PS.load; split
  · rename_i hc
    simp only [Bool.and_eq_true, decide_eq_true_eq] at hc
    split
    · exact h
    · exact ⟨by omega, ha⟩
  · exact h
theorem PS.store_ok {s : PS} {a v : Int} (h : s.ph.ok s.R s.W) : (s.store a v).ph.ok (s.store a v).R (s.store a v).W := by
  unfold PS.store; split
  · rename_i hc
    simp only [Bool.and_eq_true] at hc
    split
    · simp only [idle_of_ready hc.1]; trivial
    · trivial
  · exact h
theorem PS.commit_ok {s : PS} (h : s.ph.ok s.R s.W) : s.commit.ph.ok s.commit.R s.commit.W := by
  unfold PS.commit; split
  · split
    · trivial
    · rename_i hW; exact hW
  · exact h
theorem PS.quit_ok {s : PS} (h : s.ph.ok s.R s.W) : s.quit.ph.ok s.quit.R s.quit.W := by
  unfold PS.quit; split
  · trivial
  · exact h

set_option maxHeartbeats 2000000 in
theorem do_0 (w : World) (p d m c : Nat) (F : List Nat) (s : PS) (h : PL) (oa ov : Int) (ob : Bool) (hD : Duo w p F s d s m c h) (hoa : (Lit.int .i64 oa).wf = true) (hov : (Lit.int .u64 ov).wf = true) (hc : c ≤ 1000000000) :
    Calls Try.prog 29 #[.pointer (some ⟨p, 0, none⟩), .pointer (some ⟨d, 0, none⟩), .agg #[.int .i64 0, .int .i64 oa, .int .u64 ov, .bool ob], .map (some m)] w (DoPost w p F d m c (opD s h ⟨0, oa, ov, ob⟩)) := by
  have hX0 := (Chg.refl [] w).alloc (.cells #[.int .i64 0, .int .i64 oa, .int .u64 ov, .bool ob] 44)
  have HX0 := Lib.hid hX0
  have HBx := Lib.hid (Blk.new w [.int .i64 0, .int .i64 oa, .int .u64 ov, .bool ob] 44)
  have H0 := Lib.hid (hD.look hX0)
  have HOk := Lib.hid hD.T.ok
  have HPr := Lib.hid hD.T.path.pairs
  have HBo := Lib.hid (show w.heap.size ∉ d :: m :: F from fun e => by have := hD.lt _ e; omega)
  have HOA := Lib.hid hoa
  have HOV := Lib.hid hov
  have HC := Lib.hid hc
  have HE := Lib.hid (show opD s h ⟨0, oa, ov, ob⟩ = (s.begin, h) from rfl)
  clear hD hX0 hoa hov hc
  go_enter Try.func29, Try.ntmps29
  go_wp2_with fail
  refine (Begin_e _ p F s H0.out.T.path).mono ?_
  rintro e w1 ⟨rfl, F1, hp, hM⟩
  have H1 := Lib.hid (H0.out.path hp hM (PS.begin_ok HOk.out))
  have HM1 := Lib.hid ((Mv.look HX0.out).trans (hM.up d m))
  clear hp hM
  go_wp2_with fail
  refine (dBegin_any w1 _ d s (by simp) H1.out.D).mono ?_
  rintro e w2 ⟨rfl, hd2, hC2⟩
  have H2 := Lib.hid (H1.out.doc hd2 hC2)
  have HM2 := Lib.hid (HM1.out.trans (Mv.dd hC2))
  clear hd2 hC2
  go_wp2_with fail
  go_ret
  refine ⟨rfl, F1, c, by omega, ?_, HM2.out⟩
  rw [HE.out]; exact H2.out

set_option maxHeartbeats 2000000 in
theorem do_3 (w : World) (p d m c : Nat) (F : List Nat) (s : PS) (h : PL) (oa ov : Int) (ob : Bool) (hD : Duo w p F s d s m c h) (hoa : (Lit.int .i64 oa).wf = true) (hov : (Lit.int .u64 ov).wf = true) (hc : c ≤ 1000000000) :
    Calls Try.prog 29 #[.pointer (some ⟨p, 0, none⟩), .pointer (some ⟨d, 0, none⟩), .agg #[.int .i64 3, .int .i64 oa, .int .u64 ov, .bool ob], .map (some m)] w (DoPost w p F d m c (opD s h ⟨3, oa, ov, ob⟩)) := by
  have hX0 := (Chg.refl [] w).alloc (.cells #[.int .i64 3, .int .i64 oa, .int .u64 ov, .bool ob] 44)
  have HX0 := Lib.hid hX0
  have HBx := Lib.hid (Blk.new w [.int .i64 3, .int .i64 oa, .int .u64 ov, .bool ob] 44)
  have H0 := Lib.hid (hD.look hX0)
  have HOk := Lib.hid hD.T.ok
  have HPr := Lib.hid hD.T.path.pairs
  have HBo := Lib.hid (show w.heap.size ∉ d :: m :: F from fun e => by have := hD.lt _ e; omega)
  have HOA := Lib.hid hoa
  have HOV := Lib.hid hov
  have HC := Lib.hid hc
  have HE := Lib.hid (show opD s h ⟨3, oa, ov, ob⟩ = (s.commit, h) from rfl)
  clear hD hX0 hoa hov hc
  go_enter Try.func29, Try.ntmps29
  go_wp2_with fail
  refine (Commit_e _ p F s H0.out.T.path).mono ?_
  rintro e w1 ⟨rfl, F1, hp, hM⟩
  have H1 := Lib.hid (H0.out.path hp hM (PS.commit_ok HOk.out))
  have HM1 := Lib.hid ((Mv.look HX0.out).trans (hM.up d m))
  clear hp hM
  go_wp2_with fail
  refine (dCommit_any w1 _ d s (by simp) H1.out.D).mono ?_
  rintro e w2 ⟨rfl, hd2, hC2⟩
  have H2 := Lib.hid (H1.out.doc hd2 hC2)
  have HM2 := Lib.hid (HM1.out.trans (Mv.dd hC2))
  clear hd2 hC2
  go_wp2_with fail
  go_ret
  refine ⟨rfl, F1, c, by omega, ?_, HM2.out⟩
  rw [HE.out]; exact H2.out

set_option maxHeartbeats 2000000 in
theorem do_4 (w : World) (p d m c : Nat) (F : List Nat) (s : PS) (h : PL) (oa ov : Int) (ob : Bool) (hD : Duo w p F s d s m c h) (hoa : (Lit.int .i64 oa).wf = true) (hov : (Lit.int .u64 ov).wf = true) (hc : c ≤ 1000000000) :
    Calls Try.prog 29 #[.pointer (some ⟨p, 0, none⟩), .pointer (some ⟨d, 0, none⟩), .agg #[.int .i64 4, .int .i64 oa, .int .u64 ov, .bool ob], .map (some m)] w (DoPost w p F d m c (opD s h ⟨4, oa, ov, ob⟩)) := by
  have hX0 := (Chg.refl [] w).alloc (.cells #[.int .i64 4, .int .i64 oa, .int .u64 ov, .bool ob] 44)
  have HX0 := Lib.hid hX0
  have HBx := Lib.hid (Blk.new w [.int .i64 4, .int .i64 oa, .int .u64 ov, .bool ob] 44)
  have H0 := Lib.hid (hD.look hX0)
  have HOk := Lib.hid hD.T.ok
  have HPr := Lib.hid hD.T.path.pairs
  have HBo := Lib.hid (show w.heap.size ∉ d :: m :: F from fun e => by have := hD.lt _ e; omega)
  have HOA := Lib.hid hoa
  have HOV := Lib.hid hov
  have HC := Lib.hid hc
  have HE := Lib.hid (show opD s h ⟨4, oa, ov, ob⟩ = (s.quit, h) from rfl)
  clear hD hX0 hoa hov hc
  go_enter Try.func29, Try.ntmps29
  go_wp2_with fail
  refine (Quit_e _ p F s H0.out.T.path).mono ?_
  rintro e w1 ⟨rfl, F1, hp, hM⟩
  have H1 := Lib.hid (H0.out.path hp hM (PS.quit_ok HOk.out))
  have HM1 := Lib.hid ((Mv.look HX0.out).trans (hM.up d m))
  clear hp hM
  go_wp2_with fail
  refine (dQuit_any w1 _ d s (by simp) H1.out.D).mono ?_
  rintro e w2 ⟨rfl, hd2, hC2⟩
  have H2 := Lib.hid (H1.out.doc hd2 hC2)
  have HM2 := Lib.hid (HM1.out.trans (Mv.dd hC2))
  clear hd2 hC2
  go_wp2_with fail
  go_ret
  refine ⟨rfl, F1, c, by omega, ?_, HM2.out⟩
  rw [HE.out]; exact H2.out

set_option maxHeartbeats 2000000 in
theorem do_1 (w : World) (p d m c : Nat) (F : List Nat) (s : PS) (h : PL) (oa ov : Int) (ob : Bool) (hD : Duo w p F s d s m c h) (hoa : (Lit.int .i64 oa).wf = true) (hov : (Lit.int .u64 ov).wf = true) (hc : c ≤ 1000000000) :
    Calls Try.prog 29 #[.pointer (some ⟨p, 0, none⟩), .pointer (some ⟨d, 0, none⟩), .agg #[.int .i64 1, .int .i64 oa, .int .u64 ov, .bool ob], .map (some m)] w (DoPost w p F d m c (opD s h ⟨1, oa, ov, ob⟩)) := by
  have hX0 := (Chg.refl [] w).alloc (.cells #[.int .i64 1, .int .i64 oa, .int .u64 ov, .bool ob] 44)
  have HX0 := Lib.hid hX0
  have HBx := Lib.hid (Blk.new w [.int .i64 1, .int .i64 oa, .int .u64 ov, .bool ob] 44)
  have H0 := Lib.hid (hD.look hX0)
  have HOk := Lib.hid hD.T.ok
  have HPr := Lib.hid hD.T.path.pairs
  have HBo := Lib.hid (show w.heap.size ∉ d :: m :: F from fun e => by have := hD.lt _ e; omega)
  have HOA := Lib.hid hoa
  have HOV := Lib.hid hov
  have HC := Lib.hid hc
  have HE := Lib.hid (show opD s h ⟨1, oa, ov, ob⟩ = (s.load oa, h) from rfl)
  clear hD hX0 hoa hov hc
  go_enter Try.func29, Try.ntmps29
  go_wp2_with fail
  go_region_held3 (fun w' => w'.cell? ⟨w.heap.size, 1, none⟩ = some (.int .i64 oa))
    (first | exact HBx.out.cell 1 | exact HB1.out.cell 1 | exact HB2.out.cell 1)
    (first
      | (go_at_call 16; have hD0 := H0.out.look ((Chg.refl [] _).drew); refine (Load_any _ p F s oa HOA.out hD0.T.path).mono ?_; rintro e w1 ⟨rfl, F1, hp, hM⟩; have H1 := Lib.hid (hD0.path hp hM (PS.load_ok HOA.out HOk.out)); have HM1 := Lib.hid ((Mv.look (HX0.out.trans ((Chg.refl [] _).drew))).trans (hM.up d m)); have HB1 := Lib.hid (hM.chg.blk HBx.out.drew (fun e => HBo.out (by simp [e]))); clear hp hM hD0)
      | (go_at_call 49; refine (dLoad_any w1 _ d s oa (by simp) (by have := HPr.out.2.1; omega) H1.out.D).mono ?_; rintro e w2 ⟨rfl, hd2, hC2⟩; have H2 := Lib.hid (H1.out.doc hd2 hC2); have HM2 := Lib.hid (HM1.out.trans (Mv.dd hC2)); have HB2 := Lib.hid (hC2.blk HB1.out (fun e => HBo.out (by simp at e; simp [e]))); clear hd2 hC2)
      | fail)
  all_goals
    go_wp2_with fail
    go_ret
    refine ⟨rfl, F1, c, by omega, ?_, HM2.out⟩
    rw [HE.out]; exact H2.out

set_option maxHeartbeats 2000000 in
theorem do_2 (w : World) (p d m c : Nat) (F : List Nat) (s : PS) (h : PL) (oa ov : Int) (ob : Bool) (hD : Duo w p F s d s m c h) (hoa : (Lit.int .i64 oa).wf = true) (hov : (Lit.int .u64 ov).wf = true) (hc : c ≤ 1000000000) :
    Calls Try.prog 29 #[.pointer (some ⟨p, 0, none⟩), .pointer (some ⟨d, 0, none⟩), .agg #[.int .i64 2, .int .i64 oa, .int .u64 ov, .bool ob], .map (some m)] w (DoPost w p F d m c (opD s h ⟨2, oa, ov, ob⟩)) := by
  have hX0 := (Chg.refl [] w).alloc (.cells #[.int .i64 2, .int .i64 oa, .int .u64 ov, .bool ob] 44)
  have HX0 := Lib.hid hX0
  have HBx := Lib.hid (Blk.new w [.int .i64 2, .int .i64 oa, .int .u64 ov, .bool ob] 44)
  have H0 := Lib.hid (hD.look hX0)
  have HOk := Lib.hid hD.T.ok
  have HPr := Lib.hid hD.T.path.pairs
  have HBo := Lib.hid (show w.heap.size ∉ d :: m :: F from fun e => by have := hD.lt _ e; omega)
  have HOA := Lib.hid hoa
  have HOV := Lib.hid hov
  have HC := Lib.hid hc
  have HE := Lib.hid (show opD s h ⟨2, oa, ov, ob⟩ = (s.store oa ov, h) from rfl)
  clear hD hX0 hoa hov hc
  go_enter Try.func29, Try.ntmps29
  go_wp2_with fail
  go_region_held3 (fun w' => w'.cell? ⟨w.heap.size, 1, none⟩ = some (.int .i64 oa) ∧ w'.cell? ⟨w.heap.size, 2, none⟩ = some (.int .u64 ov))
    (first | exact ⟨HBx.out.cell 1, HBx.out.cell 2⟩ | exact ⟨HB1.out.cell 1, HB1.out.cell 2⟩ | exact ⟨HB2.out.cell 1, HB2.out.cell 2⟩)
    (first
      | (go_at_call 18; have hD0 := H0.out.look ((Chg.refl [] _).drew); refine (Store_any _ p F s oa ov HOA.out HOV.out hD0.T.path).mono ?_; rintro e w1 ⟨rfl, F1, hp, hM⟩; have H1 := Lib.hid (hD0.path hp hM (PS.store_ok HOk.out)); have HM1 := Lib.hid ((Mv.look (HX0.out.trans ((Chg.refl [] _).drew))).trans (hM.up d m)); have HB1 := Lib.hid (hM.chg.blk HBx.out.drew (fun e => HBo.out (by simp [e]))); clear hp hM hD0)
      | (go_at_call 50; refine (dStore_any w1 _ d s oa ov (by simp) H1.out.lt HPr.out.2.1 H1.out.D).mono ?_; rintro e w2 ⟨rfl, hd2, hC2⟩; have H2 := Lib.hid (H1.out.doc hd2 hC2); have HM2 := Lib.hid (HM1.out.trans (Mv.dd hC2)); have HB2 := Lib.hid (hC2.blk HB1.out (fun e => HBo.out (by simp at e; simp [e]))); clear hd2 hC2)
      | fail)
  all_goals
    go_wp2_with fail
    go_ret
    refine ⟨rfl, F1, c, by omega, ?_, HM2.out⟩
    rw [HE.out]; exact H2.out

set_option maxHeartbeats 2000000 in
theorem do_5 (w : World) (p d m c : Nat) (F : List Nat) (s : PS) (h : PL) (oa ov : Int) (ob : Bool) (hD : Duo w p F s d s m c h) (hoa : (Lit.int .i64 oa).wf = true) (hov : (Lit.int .u64 ov).wf = true) (hc : c ≤ 1000000000) :
    Calls Try.prog 29 #[.pointer (some ⟨p, 0, none⟩), .pointer (some ⟨d, 0, none⟩), .agg #[.int .i64 5, .int .i64 oa, .int .u64 ov, .bool ob], .map (some m)] w (DoPost w p F d m c (opD s h ⟨5, oa, ov, ob⟩)) := by
  have hX0 := (Chg.refl [] w).alloc (.cells #[.int .i64 5, .int .i64 oa, .int .u64 ov, .bool ob] 44)
  have HX0 := Lib.hid hX0
  have HBx := Lib.hid (Blk.new w [.int .i64 5, .int .i64 oa, .int .u64 ov, .bool ob] 44)
  have H0 := Lib.hid (hD.look hX0)
  have HOk := Lib.hid hD.T.ok
  have HPr := Lib.hid hD.T.path.pairs
  have HBo := Lib.hid (show w.heap.size ∉ d :: m :: F from fun e => by have := hD.lt _ e; omega)
  have HOA := Lib.hid hoa
  have HOV := Lib.hid hov
  have HC := Lib.hid hc
  have HE := Lib.hid (show opD s h ⟨5, oa, ov, ob⟩ = (s.give ov ob, h) from rfl)
  clear hD hX0 hoa hov hc
  go_enter Try.func29, Try.ntmps29
  go_wp2_with fail
  go_region_held3 (fun w' => w'.cell? ⟨w.heap.size, 2, none⟩ = some (.int .u64 ov) ∧ w'.cell? ⟨w.heap.size, 3, none⟩ = some (.bool ob))
    (first | exact ⟨HBx.out.cell 2, HBx.out.cell 3⟩ | exact ⟨HB1.out.cell 2, HB1.out.cell 3⟩ | exact ⟨HB2.out.cell 2, HB2.out.cell 3⟩)
    (first
      | (go_at_call 24; have hD0 := H0.out.look ((Chg.refl [] _).drew); refine (Give_e _ p F s ov ob (w64_of_wf HOV.out) HOk.out hD0.T.path).mono ?_; rintro e w1 ⟨rfl, F1, hp, hM⟩; have H1 := Lib.hid (hD0.path hp hM (PS.give_ok (w64_of_wf HOV.out) HOk.out)); have HM1 := Lib.hid ((Mv.look (HX0.out.trans ((Chg.refl [] _).drew))).trans (hM.up d m)); have HB1 := Lib.hid (hM.chg.blk HBx.out.drew (fun e => HBo.out (by simp [e]))); clear hp hM hD0)
      | (go_at_call 53; refine (dGive_any w1 _ d s ov ob (by simp) H1.out.lt (w64_of_wf HOV.out) HOk.out HPr.out.1 HPr.out.2.1 H1.out.D).mono ?_; rintro e w2 ⟨rfl, hd2, hC2⟩; have H2 := Lib.hid (H1.out.doc hd2 hC2); have HM2 := Lib.hid (HM1.out.trans (Mv.dd hC2)); have HB2 := Lib.hid (hC2.blk HB1.out (fun e => HBo.out (by simp at e; simp [e]))); clear hd2 hC2)
      | fail)
  all_goals
    go_wp2_with fail
    go_ret
    refine ⟨rfl, F1, c, by omega, ?_, HM2.out⟩
    rw [HE.out]; exact H2.out

set_option maxHeartbeats 2000000 in
theorem do_6 (w : World) (p d m c : Nat) (F : List Nat) (s : PS) (h : PL) (oa ov : Int) (ob : Bool) (hD : Duo w p F s d s m c h) (hoa : (Lit.int .i64 oa).wf = true) (hov : (Lit.int .u64 ov).wf = true) (hc : c ≤ 1000000000) :
    Calls Try.prog 29 #[.pointer (some ⟨p, 0, none⟩), .pointer (some ⟨d, 0, none⟩), .agg #[.int .i64 6, .int .i64 oa, .int .u64 ov, .bool ob], .map (some m)] w (DoPost w p F d m c (opD s h ⟨6, oa, ov, ob⟩)) := by
  have hX0 := (Chg.refl [] w).alloc (.cells #[.int .i64 6, .int .i64 oa, .int .u64 ov, .bool ob] 44)
  have HX0 := Lib.hid hX0
  have HBx := Lib.hid (Blk.new w [.int .i64 6, .int .i64 oa, .int .u64 ov, .bool ob] 44)
  have H0 := Lib.hid (hD.look hX0)
  have HOk := Lib.hid hD.T.ok
  have HPr := Lib.hid hD.T.path.pairs
  have HBo := Lib.hid (show w.heap.size ∉ d :: m :: F from fun e => by have := hD.lt _ e; omega)
  have HOA := Lib.hid hoa
  have HOV := Lib.hid hov
  have HC := Lib.hid hc
  have HE := Lib.hid (show opD s h ⟨6, oa, ov, ob⟩ = stepM (s, h) from rfl)
  have HW := Lib.hid (PS.want_ok hD.T.ok HPr.out.2.2.1 HPr.out.2.2.2.1)
  have HV := Lib.hid (hD.T.mem.ok s.want.addr)
  clear hD hX0 hoa hov hc
  go_enter Try.func29, Try.ntmps29
  go_wp2_with fail
  refine (dWant_any _ _ d s HOk.out HPr.out.1 HPr.out.2.1 H0.out.D).mono ?_
  rintro e w1 ⟨rfl, hC1⟩
  have hX1 := hC1.trans ((Chg.refl [] w1).alloc (.cells #[.int .i64 s.want.op, .int .i64 s.want.addr, .int .u64 s.want.val, .int .u64 s.want.old] 49))
  have H1 := Lib.hid (H0.out.look hX1)
  have HX1 := Lib.hid (HX0.out.trans hX1)
  clear hC1 hX1
  unfold Rq.val'
  go_wp2_with fail
  refine (Answer_any _ m c h s.want HW.out (by have := HC.out; unfold maxLen; omega) H1.out.T.mem).mono ?_
  rintro e w2 ⟨rfl, hm2, hC2⟩
  have H2 := Lib.hid (H1.out.mem hm2 hC2)
  have HM2 := Lib.hid ((Mv.look HX1.out).trans (Mv.mm (F := F) (d := d) hC2))
  clear hm2 hC2
  go_wp2_with fail
  refine (Give_e w2 p F s _ _ HV.out HOk.out H2.out.T.path).mono ?_
  rintro e w3 ⟨rfl, F3, hp, hM⟩
  have H3 := Lib.hid (H2.out.path hp hM (PS.give_ok HV.out HOk.out))
  have HM3 := Lib.hid (HM2.out.trans (hM.up d m))
  clear hp hM
  go_wp2_with fail
  refine (dGive_any w3 _ d s _ _ (by simp) H3.out.lt HV.out HOk.out HPr.out.1 HPr.out.2.1 H3.out.D).mono ?_
  rintro e w4 ⟨rfl, hd4, hC4⟩
  have H4 := Lib.hid (H3.out.doc hd4 hC4)
  have HM4 := Lib.hid (HM3.out.trans (Mv.dd hC4))
  clear hd4 hC4
  go_wp2_with fail
  go_ret
  refine ⟨rfl, F3, ansC c h s.want, ansC_le _ _ _, ?_, HM4.out⟩
  rw [HE.out]; exact H4.out

set_option maxHeartbeats 2000000 in
theorem do_7 (w : World) (p d m c : Nat) (F : List Nat) (s : PS) (h : PL) (oa ov : Int) (ob : Bool) (hD : Duo w p F s d s m c h) (hoa : (Lit.int .i64 oa).wf = true) (hov : (Lit.int .u64 ov).wf = true) (hc : c ≤ 1000000000) :
    Calls Try.prog 29 #[.pointer (some ⟨p, 0, none⟩), .pointer (some ⟨d, 0, none⟩), .agg #[.int .i64 7, .int .i64 oa, .int .u64 ov, .bool ob], .map (some m)] w (DoPost w p F d m c (opD s h ⟨7, oa, ov, ob⟩)) := by
  have hX0 := (Chg.refl [] w).alloc (.cells #[.int .i64 7, .int .i64 oa, .int .u64 ov, .bool ob] 44)
  have HX0 := Lib.hid hX0
  have HBx := Lib.hid (Blk.new w [.int .i64 7, .int .i64 oa, .int .u64 ov, .bool ob] 44)
  have H0 := Lib.hid (hD.look hX0)
  have HOk := Lib.hid hD.T.ok
  have HPr := Lib.hid hD.T.path.pairs
  have HBo := Lib.hid (show w.heap.size ∉ d :: m :: F from fun e => by have := hD.lt _ e; omega)
  have HOA := Lib.hid hoa
  have HOV := Lib.hid hov
  have HC := Lib.hid hc
  have HE := Lib.hid (show opD s h ⟨7, oa, ov, ob⟩ = (s, h) from rfl)
  clear hD hX0 hoa hov hc
  go_enter Try.func29, Try.ntmps29
  go_wp2_with fail
  refine (Want_any _ p F s H0.out.T.path).mono ?_
  rintro e w1 ⟨rfl, hp1, hC1⟩
  have hX1 := hC1.trans ((Chg.refl [] w1).alloc (.cells #[.int .i64 s.want.op, .int .i64 s.want.addr, .int .u64 s.want.val, .int .u64 s.want.old] 49))
  have H1 := Lib.hid (H0.out.look hX1)
  have HX1 := Lib.hid (HX0.out.trans hX1)
  have HB1 := Lib.hid (Blk.new w1 [.int .i64 s.want.op, .int .i64 s.want.addr, .int .u64 s.want.val, .int .u64 s.want.old] 49)
  clear hp1 hC1 hX1
  unfold Rq.val'
  go_wp2_with fail
  refine (dWant_any _ _ d s HOk.out HPr.out.1 HPr.out.2.1 H1.out.D).mono ?_
  rintro e w2 ⟨rfl, hC2⟩
  have hX2 := hC2.trans ((Chg.refl [] w2).alloc (.cells #[.int .i64 s.want.op, .int .i64 s.want.addr, .int .u64 s.want.val, .int .u64 s.want.old] 49))
  have H2 := Lib.hid (H1.out.look hX2)
  have HX2 := Lib.hid (HX1.out.trans hX2)
  have HB2 := Lib.hid (hX2.blk HB1.out (by simp))
  have q0 := HB2.out.cell 0
  have q1 := HB2.out.cell 1
  have q2 := HB2.out.cell 2
  have q3 := HB2.out.cell 3
  simp only [List.getElem?_cons_zero, List.getElem?_cons_succ] at q0 q1 q2 q3
  clear hC2 hX2
  unfold Rq.val'
  go_wp2_with fail
  go_ret
  refine ⟨rfl, F, c, by omega, ?_, Mv.look HX2.out⟩
  rw [HE.out]; exact H2.out

set_option maxHeartbeats 2000000 in
theorem do_8 (w : World) (p d m c : Nat) (F : List Nat) (s : PS) (h : PL) (oa ov : Int) (ob : Bool) (hD : Duo w p F s d s m c h) (hoa : (Lit.int .i64 oa).wf = true) (hov : (Lit.int .u64 ov).wf = true) (hc : c ≤ 1000000000) :
    Calls Try.prog 29 #[.pointer (some ⟨p, 0, none⟩), .pointer (some ⟨d, 0, none⟩), .agg #[.int .i64 8, .int .i64 oa, .int .u64 ov, .bool ob], .map (some m)] w (DoPost w p F d m c (opD s h ⟨8, oa, ov, ob⟩)) := by
  have hX0 := (Chg.refl [] w).alloc (.cells #[.int .i64 8, .int .i64 oa, .int .u64 ov, .bool ob] 44)
  have HX0 := Lib.hid hX0
  have HBx := Lib.hid (Blk.new w [.int .i64 8, .int .i64 oa, .int .u64 ov, .bool ob] 44)
  have H0 := Lib.hid (hD.look hX0)
  have HOk := Lib.hid hD.T.ok
  have HPr := Lib.hid hD.T.path.pairs
  have HBo := Lib.hid (show w.heap.size ∉ d :: m :: F from fun e => by have := hD.lt _ e; omega)
  have HOA := Lib.hid hoa
  have HOV := Lib.hid hov
  have HC := Lib.hid hc
  have HE := Lib.hid (show opD s h ⟨8, oa, ov, ob⟩ = (s, h) from rfl)
  clear hD hX0 hoa hov hc
  obtain ⟨x, r, u, h1, h2, hb, hF, hG, hp⟩ := H0.out.D
  have hi := hp.idle
  have hz : (x.at_ != 0) = s.busy := by
    show _ = s.ph.busy
    cases hbz : s.ph.busy with
    | true => simpa using hi.2 hbz
    | false => simpa using hi.1 hbz
  obtain ⟨W0, hW0⟩ : ∃ W0, W0 = w.alloc (.cells #[.int .i64 8, .int .i64 oa, .int .u64 ov, .bool ob] 44) := ⟨_, rfl⟩
  rw [← hW0] at H0 hb HX0
  have QBusy := Lib.hid (show ∀ n, Calls Try.prog 26 #[.pointer (some ⟨p, 0, none⟩)] (W0.drewN n) fun e w'' => e = .returned (.bool s.busy) ∧ ∃ j, w'' = W0.drewN j from fun n => quiet_left (Busy_any (W0.drewN n) p F s (H0.out.T.path.look ((Chg.refl [] W0).drewN n))))
  have QLive := Lib.hid (show ∀ n, Calls Try.prog 21 #[.pointer (some ⟨p, 0, none⟩)] (W0.drewN n) fun e w'' => e = .returned (.bool s.live) ∧ ∃ j, w'' = W0.drewN j from fun n => quiet_left (Live_any (W0.drewN n) p F s (H0.out.T.path.look ((Chg.refl [] W0).drewN n))))
  have QWriting := Lib.hid (show ∀ n, Calls Try.prog 31 #[.pointer (some ⟨p, 0, none⟩)] (W0.drewN n) fun e w'' => e = .returned (.bool s.writing) ∧ ∃ j, w'' = W0.drewN j from fun n => quiet_left (Writing_any (W0.drewN n) p F s (H0.out.T.path.look ((Chg.refl [] W0).drewN n))))
  have dc0 : (W0).cell? ⟨d, 0, none⟩ = some (.int .i64 x.at_) := (hb).cell 0; have df0 : (W0).frozen? ⟨d, 0, none⟩ = false := (hb).free 0; have dc1 : (W0).cell? ⟨d, 1, none⟩ = some (.int .u64 x.n) := (hb).cell 1; have df1 : (W0).frozen? ⟨d, 1, none⟩ = false := (hb).free 1; have dc2 : (W0).cell? ⟨d, 2, none⟩ = some (.int .i64 x.a) := (hb).cell 2; have df2 : (W0).frozen? ⟨d, 2, none⟩ = false := (hb).free 2; have dc3 : (W0).cell? ⟨d, 3, none⟩ = some (.int .u64 x.v) := (hb).cell 3; have df3 : (W0).frozen? ⟨d, 3, none⟩ = false := (hb).free 3; have dc4 : (W0).cell? ⟨d, 4, none⟩ = some (.int .u64 x.g) := (hb).cell 4; have df4 : (W0).frozen? ⟨d, 4, none⟩ = false := (hb).free 4; have dc5 : (W0).cell? ⟨d, 5, none⟩ = some (.int .i64 x.i) := (hb).cell 5; have df5 : (W0).frozen? ⟨d, 5, none⟩ = false := (hb).free 5; have dc6 : (W0).cell? ⟨d, 6, none⟩ = some (.int .i64 x.to) := (hb).cell 6; have df6 : (W0).frozen? ⟨d, 6, none⟩ = false := (hb).free 6; have dc7 : (W0).cell? ⟨d, 7, none⟩ = some (.int .i64 x.how) := (hb).cell 7; have df7 : (W0).frozen? ⟨d, 7, none⟩ = false := (hb).free 7; have dc8 : (W0).cell? ⟨d, 8, none⟩ = some (.int .u64 s.snap) := (hb).cell 8; have df8 : (W0).frozen? ⟨d, 8, none⟩ = false := (hb).free 8; have dc9 : (W0).cell? ⟨d, 9, none⟩ = some (.int .u64 s.value) := (hb).cell 9; have df9 : (W0).frozen? ⟨d, 9, none⟩ = false := (hb).free 9; have dc10 : (W0).cell? ⟨d, 10, none⟩ = some (r.val) := (hb).cell 10; have df10 : (W0).frozen? ⟨d, 10, none⟩ = false := (hb).free 10; have dc11 : (W0).cell? ⟨d, 11, none⟩ = some (u.val) := (hb).cell 11; have df11 : (W0).frozen? ⟨d, 11, none⟩ = false := (hb).free 11; have dc12 : (W0).cell? ⟨d, 12, none⟩ = some (.bool s.live) := (hb).cell 12; have df12 : (W0).frozen? ⟨d, 12, none⟩ = false := (hb).free 12; have dc13 : (W0).cell? ⟨d, 13, none⟩ = some (.bool s.writing) := (hb).cell 13; have df13 : (W0).frozen? ⟨d, 13, none⟩ = false := (hb).free 13; have dc14 : (W0).cell? ⟨d, 14, none⟩ = some (.int .i64 s.ended) := (hb).cell 14; have df14 : (W0).frozen? ⟨d, 14, none⟩ = false := (hb).free 14; have dc15 : (W0).cell? ⟨d, 15, none⟩ = some (.int .i64 s.points) := (hb).cell 15; have df15 : (W0).frozen? ⟨d, 15, none⟩ = false := (hb).free 15
  clear h1 h2 hb hF hG hp hi HBx
  go_enter Try.func29, Try.ntmps29
  go_wp2_with fail
  rw [← hW0]
  clear hW0
  go_quiet (first | (go_at_call 26; with_reducible exact QBusy.out _) | (go_at_call 21; with_reducible exact QLive.out _) | (go_at_call 31; with_reducible exact QWriting.out _))
  go_wp2_with fail
  go_ret
  refine ⟨rfl, F, c, by omega, ?_, Mv.look (HX0.out.trans ((Chg.refl [] _).drewN _))⟩
  rw [HE.out]; exact H0.out.look ((Chg.refl [] _).drewN _)

set_option maxHeartbeats 2000000 in
theorem do_9 (w : World) (p d m c : Nat) (F : List Nat) (s : PS) (h : PL) (oa ov : Int) (ob : Bool) (hD : Duo w p F s d s m c h) (hoa : (Lit.int .i64 oa).wf = true) (hov : (Lit.int .u64 ov).wf = true) (hc : c ≤ 1000000000) :
    Calls Try.prog 29 #[.pointer (some ⟨p, 0, none⟩), .pointer (some ⟨d, 0, none⟩), .agg #[.int .i64 9, .int .i64 oa, .int .u64 ov, .bool ob], .map (some m)] w (DoPost w p F d m c (opD s h ⟨9, oa, ov, ob⟩)) := by
  have hX0 := (Chg.refl [] w).alloc (.cells #[.int .i64 9, .int .i64 oa, .int .u64 ov, .bool ob] 44)
  have HX0 := Lib.hid hX0
  have HBx := Lib.hid (Blk.new w [.int .i64 9, .int .i64 oa, .int .u64 ov, .bool ob] 44)
  have H0 := Lib.hid (hD.look hX0)
  have HOk := Lib.hid hD.T.ok
  have HPr := Lib.hid hD.T.path.pairs
  have HBo := Lib.hid (show w.heap.size ∉ d :: m :: F from fun e => by have := hD.lt _ e; omega)
  have HOA := Lib.hid hoa
  have HOV := Lib.hid hov
  have HC := Lib.hid hc
  have HE := Lib.hid (show opD s h ⟨9, oa, ov, ob⟩ = (s, h) from rfl)
  clear hD hX0 hoa hov hc
  obtain ⟨x, r, u, h1, h2, hb, hF, hG, hp⟩ := H0.out.D
  have hi := hp.idle
  have hz : (x.at_ != 0) = s.busy := by
    show _ = s.ph.busy
    cases hbz : s.ph.busy with
    | true => simpa using hi.2 hbz
    | false => simpa using hi.1 hbz
  obtain ⟨W0, hW0⟩ : ∃ W0, W0 = w.alloc (.cells #[.int .i64 9, .int .i64 oa, .int .u64 ov, .bool ob] 44) := ⟨_, rfl⟩
  rw [← hW0] at H0 hb HX0
  have QValue := Lib.hid (show ∀ n, Calls Try.prog 17 #[.pointer (some ⟨p, 0, none⟩)] (W0.drewN n) fun e w'' => e = .returned (.int .u64 s.value) ∧ ∃ j, w'' = W0.drewN j from fun n => quiet_left (SValue_any (W0.drewN n) p F s (H0.out.T.path.look ((Chg.refl [] W0).drewN n))))
  have QEnded := Lib.hid (show ∀ n, Calls Try.prog 20 #[.pointer (some ⟨p, 0, none⟩)] (W0.drewN n) fun e w'' => e = .returned (.int .i64 s.ended) ∧ ∃ j, w'' = W0.drewN j from fun n => quiet_left (Ended_any (W0.drewN n) p F s (H0.out.T.path.look ((Chg.refl [] W0).drewN n))))
  have QPoints := Lib.hid (show ∀ n, Calls Try.prog 27 #[.pointer (some ⟨p, 0, none⟩)] (W0.drewN n) fun e w'' => e = .returned (.int .i64 s.points) ∧ ∃ j, w'' = W0.drewN j from fun n => quiet_left (Points_any (W0.drewN n) p F s (H0.out.T.path.look ((Chg.refl [] W0).drewN n))))
  have dc0 : (W0).cell? ⟨d, 0, none⟩ = some (.int .i64 x.at_) := (hb).cell 0; have df0 : (W0).frozen? ⟨d, 0, none⟩ = false := (hb).free 0; have dc1 : (W0).cell? ⟨d, 1, none⟩ = some (.int .u64 x.n) := (hb).cell 1; have df1 : (W0).frozen? ⟨d, 1, none⟩ = false := (hb).free 1; have dc2 : (W0).cell? ⟨d, 2, none⟩ = some (.int .i64 x.a) := (hb).cell 2; have df2 : (W0).frozen? ⟨d, 2, none⟩ = false := (hb).free 2; have dc3 : (W0).cell? ⟨d, 3, none⟩ = some (.int .u64 x.v) := (hb).cell 3; have df3 : (W0).frozen? ⟨d, 3, none⟩ = false := (hb).free 3; have dc4 : (W0).cell? ⟨d, 4, none⟩ = some (.int .u64 x.g) := (hb).cell 4; have df4 : (W0).frozen? ⟨d, 4, none⟩ = false := (hb).free 4; have dc5 : (W0).cell? ⟨d, 5, none⟩ = some (.int .i64 x.i) := (hb).cell 5; have df5 : (W0).frozen? ⟨d, 5, none⟩ = false := (hb).free 5; have dc6 : (W0).cell? ⟨d, 6, none⟩ = some (.int .i64 x.to) := (hb).cell 6; have df6 : (W0).frozen? ⟨d, 6, none⟩ = false := (hb).free 6; have dc7 : (W0).cell? ⟨d, 7, none⟩ = some (.int .i64 x.how) := (hb).cell 7; have df7 : (W0).frozen? ⟨d, 7, none⟩ = false := (hb).free 7; have dc8 : (W0).cell? ⟨d, 8, none⟩ = some (.int .u64 s.snap) := (hb).cell 8; have df8 : (W0).frozen? ⟨d, 8, none⟩ = false := (hb).free 8; have dc9 : (W0).cell? ⟨d, 9, none⟩ = some (.int .u64 s.value) := (hb).cell 9; have df9 : (W0).frozen? ⟨d, 9, none⟩ = false := (hb).free 9; have dc10 : (W0).cell? ⟨d, 10, none⟩ = some (r.val) := (hb).cell 10; have df10 : (W0).frozen? ⟨d, 10, none⟩ = false := (hb).free 10; have dc11 : (W0).cell? ⟨d, 11, none⟩ = some (u.val) := (hb).cell 11; have df11 : (W0).frozen? ⟨d, 11, none⟩ = false := (hb).free 11; have dc12 : (W0).cell? ⟨d, 12, none⟩ = some (.bool s.live) := (hb).cell 12; have df12 : (W0).frozen? ⟨d, 12, none⟩ = false := (hb).free 12; have dc13 : (W0).cell? ⟨d, 13, none⟩ = some (.bool s.writing) := (hb).cell 13; have df13 : (W0).frozen? ⟨d, 13, none⟩ = false := (hb).free 13; have dc14 : (W0).cell? ⟨d, 14, none⟩ = some (.int .i64 s.ended) := (hb).cell 14; have df14 : (W0).frozen? ⟨d, 14, none⟩ = false := (hb).free 14; have dc15 : (W0).cell? ⟨d, 15, none⟩ = some (.int .i64 s.points) := (hb).cell 15; have df15 : (W0).frozen? ⟨d, 15, none⟩ = false := (hb).free 15
  clear h1 h2 hb hF hG hp hi HBx
  go_enter Try.func29, Try.ntmps29
  go_wp2_with fail
  rw [← hW0]
  clear hW0
  go_quiet (first | (go_at_call 17; with_reducible exact QValue.out _) | (go_at_call 20; with_reducible exact QEnded.out _) | (go_at_call 27; with_reducible exact QPoints.out _))
  go_wp2_with fail
  go_ret
  refine ⟨rfl, F, c, by omega, ?_, Mv.look (HX0.out.trans ((Chg.refl [] _).drewN _))⟩
  rw [HE.out]; exact H0.out.look ((Chg.refl [] _).drewN _)

set_option maxHeartbeats 2000000 in
theorem do_10 (w : World) (p d m c : Nat) (F : List Nat) (s : PS) (h : PL) (oa ov : Int) (ob : Bool) (hD : Duo w p F s d s m c h) (hoa : (Lit.int .i64 oa).wf = true) (hov : (Lit.int .u64 ov).wf = true) (hc : c ≤ 1000000000) :
    Calls Try.prog 29 #[.pointer (some ⟨p, 0, none⟩), .pointer (some ⟨d, 0, none⟩), .agg #[.int .i64 10, .int .i64 oa, .int .u64 ov, .bool ob], .map (some m)] w (DoPost w p F d m c (opD s h ⟨10, oa, ov, ob⟩)) := by
  have hX0 := (Chg.refl [] w).alloc (.cells #[.int .i64 10, .int .i64 oa, .int .u64 ov, .bool ob] 44)
  have HX0 := Lib.hid hX0
  have HBx := Lib.hid (Blk.new w [.int .i64 10, .int .i64 oa, .int .u64 ov, .bool ob] 44)
  have H0 := Lib.hid (hD.look hX0)
  have HOk := Lib.hid hD.T.ok
  have HPr := Lib.hid hD.T.path.pairs
  have HBo := Lib.hid (show w.heap.size ∉ d :: m :: F from fun e => by have := hD.lt _ e; omega)
  have HOA := Lib.hid hoa
  have HOV := Lib.hid hov
  have HC := Lib.hid hc
  have HE := Lib.hid (show opD s h ⟨10, oa, ov, ob⟩ = (s, h) from rfl)
  clear hD hX0 hoa hov hc
  go_enter Try.func29, Try.ntmps29
  go_wp2_with fail
  refine (lists_any _ p d m c F s h H0.out).mono ?_
  rintro e w1 ⟨rfl, hC1⟩
  have HC1 := Lib.hid hC1
  clear hC1
  go_wp2_with fail
  go_ret
  refine ⟨rfl, F, c, by omega, ?_, Mv.look (HX0.out.trans HC1.out)⟩
  rw [HE.out]; exact H0.out.look HC1.out

set_option maxHeartbeats 2000000 in
theorem do_none (w : World) (p d m c : Nat) (F : List Nat) (s : PS) (h : PL) (k oa ov : Int) (ob : Bool) (hk : ¬ (0 ≤ k ∧ k ≤ 10)) (hD : Duo w p F s d s m c h) (hoa : (Lit.int .i64 oa).wf = true) (hov : (Lit.int .u64 ov).wf = true) (hc : c ≤ 1000000000) :
    Calls Try.prog 29 #[.pointer (some ⟨p, 0, none⟩), .pointer (some ⟨d, 0, none⟩), .agg #[.int .i64 k, .int .i64 oa, .int .u64 ov, .bool ob], .map (some m)] w (DoPost w p F d m c (opD s h ⟨k, oa, ov, ob⟩)) := by
  have hX0 := (Chg.refl [] w).alloc (.cells #[.int .i64 k, .int .i64 oa, .int .u64 ov, .bool ob] 44)
  have HX0 := Lib.hid hX0
  have HBx := Lib.hid (Blk.new w [.int .i64 k, .int .i64 oa, .int .u64 ov, .bool ob] 44)
  have H0 := Lib.hid (hD.look hX0)
  have HOk := Lib.hid hD.T.ok
  have HPr := Lib.hid hD.T.path.pairs
  have HBo := Lib.hid (show w.heap.size ∉ d :: m :: F from fun e => by have := hD.lt _ e; omega)
  have HOA := Lib.hid hoa
  have HOV := Lib.hid hov
  have HC := Lib.hid hc
  have HE := Lib.hid (show opD s h ⟨k, oa, ov, ob⟩ = (s, h) from by
      unfold opD; simp only; rw [if_neg (by omega), if_neg (by omega), if_neg (by omega), if_neg (by omega), if_neg (by omega), if_neg (by omega), if_neg (by omega)])
  have e0 : (k == 0) = false := by simp; omega
  have e1 : (k == 1) = false := by simp; omega
  have e2 : (k == 2) = false := by simp; omega
  have e3 : (k == 3) = false := by simp; omega
  have e4 : (k == 4) = false := by simp; omega
  have e5 : (k == 5) = false := by simp; omega
  have e6 : (k == 6) = false := by simp; omega
  have e7 : (k == 7) = false := by simp; omega
  have e8 : (k == 8) = false := by simp; omega
  have e9 : (k == 9) = false := by simp; omega
  have e10 : (k == 10) = false := by simp; omega
  clear hD hX0 hoa hov hc
  clear hk
  go_enter Try.func29, Try.ntmps29
  go_wp2_with fail
  go_ret
  refine ⟨rfl, F, c, by omega, ?_, Mv.look HX0.out⟩
  rw [HE.out]; exact H0.out

theorem do_any (w : World) (p d m c : Nat) (F : List Nat) (s : PS) (h : PL) (o : OpV) (hD : Duo w p F s d s m c h) (ho : OpOk o) (hc : c ≤ 1000000000) :
    Calls Try.prog 29 #[.pointer (some ⟨p, 0, none⟩), .pointer (some ⟨d, 0, none⟩), .agg #[.int .i64 o.k, .int .i64 o.a, .int .u64 o.v, .bool o.ok], .map (some m)] w (DoPost w p F d m c (opD s h o)) := by
  obtain ⟨k, oa, ov, ob⟩ := o
  obtain ⟨h1, h2⟩ := ho
  by_cases hk : 0 ≤ k ∧ k ≤ 10
  · obtain ⟨n, rfl⟩ : ∃ n : Nat, k = n := ⟨k.toNat, by omega⟩
    have hn : n ≤ 10 := by omega
    match n, hn with
    | 0, _ => exact do_0 w p d m c F s h oa ov ob hD h1 h2 hc
    | 1, _ => exact do_1 w p d m c F s h oa ov ob hD h1 h2 hc
    | 2, _ => exact do_2 w p d m c F s h oa ov ob hD h1 h2 hc
    | 3, _ => exact do_3 w p d m c F s h oa ov ob hD h1 h2 hc
    | 4, _ => exact do_4 w p d m c F s h oa ov ob hD h1 h2 hc
    | 5, _ => exact do_5 w p d m c F s h oa ov ob hD h1 h2 hc
    | 6, _ => exact do_6 w p d m c F s h oa ov ob hD h1 h2 hc
    | 7, _ => exact do_7 w p d m c F s h oa ov ob hD h1 h2 hc
    | 8, _ => exact do_8 w p d m c F s h oa ov ob hD h1 h2 hc
    | 9, _ => exact do_9 w p d m c F s h oa ov ob hD h1 h2 hc
    | 10, _ => exact do_10 w p d m c F s h oa ov ob hD h1 h2 hc
  · exact do_none w p d m c F s h k oa ov ob hk hD h1 h2 hc

end Go.Proofs.Ytilffolppnnkaaa
