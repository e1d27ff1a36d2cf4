/- A path of layer 8: a validation's steps. -/
import Derived.Test.YtilffolppnnkaaaSoft4
namespace Go.Proofs.Ytilffolppnnkaaa
set_option maxRecDepth 100000
open Go.RowKit

/-- What a validation holds on to. -/
structure VEnv (w : World) (p : Nat) (R : PL) (i : Nat) (gv : Int) (bp bt bg br bi bs bl ba : Nat) (v : Value) (rbs : List Nat) : Prop where
  hp : Blk w bp [.pointer (some ⟨p, 0, none⟩)] 31
  hg : Blk w bg [.int .u64 gv] 23
  hi : Blk w bi [.int .i64 (i : Int)] 3
  hr : Blk w br [v] 56
  row : RowB w v R rbs
  hs : Blk w bs [(.func (.func 94) #[] #[.pointer (some ⟨bi, 0, none⟩), .pointer (some ⟨br, 0, none⟩), .pointer (some ⟨bp, 0, none⟩), .pointer (some ⟨bl, 0, none⟩), .pointer (some ⟨ba, 0, none⟩)])] 1
  hl : Blk w bl [(.func (.func 92) #[] #[.pointer (some ⟨br, 0, none⟩), .pointer (some ⟨bi, 0, none⟩), .pointer (some ⟨bp, 0, none⟩), .pointer (some ⟨bs, 0, none⟩)])] 94
  ha : Blk w ba [(.func (.func 93) #[] #[.pointer (some ⟨bg, 0, none⟩), .pointer (some ⟨bp, 0, none⟩), .pointer (some ⟨bt, 0, none⟩)])] 94
def vF (bp bg br bi bs bl ba : Nat) (rbs : List Nat) : List Nat := [bp, bg, br, bi, bs, bl, ba] ++ rbs
theorem VEnv.chg {S : List Nat} {w w' : World} {p : Nat} {R : PL} {i : Nat} {gv : Int} {bp bt bg br bi bs bl ba : Nat} {v : Value} {rbs : List Nat} (h : VEnv w p R i gv bp bt bg br bi bs bl ba v rbs) (k : Chg S w w') (hs : Apart (vF bp bg br bi bs bl ba rbs) S) : VEnv w' p R i gv bp bt bg br bi bs bl ba v rbs :=
  ⟨k.blk h.hp (hs _ (by simp [vF])), k.blk h.hg (hs _ (by simp [vF])), k.blk h.hi (hs _ (by simp [vF])), k.blk h.hr (hs _ (by simp [vF])), h.row.chg k (fun x hx => hs x (by simp [vF, hx])), k.blk h.hs (hs _ (by simp [vF])), k.blk h.hl (hs _ (by simp [vF])), k.blk h.ha (hs _ (by simp [vF]))⟩
theorem VEnv.lt {w : World} {p : Nat} {R : PL} {i : Nat} {gv : Int} {bp bt bg br bi bs bl ba : Nat} {v : Value} {rbs : List Nat} (h : VEnv w p R i gv bp bt bg br bi bs bl ba v rbs) : ∀ x ∈ vF bp bg br bi bs bl ba rbs, x < w.heap.size := by
  intro x hx
  simp only [vF, List.mem_append, List.mem_cons, List.not_mem_nil, or_false] at hx
  rcases hx with (rfl | rfl | rfl | rfl | rfl | rfl | rfl) | hx
  · exact h.hp.lt
  · exact h.hg.lt
  · exact h.hr.lt
  · exact h.hi.lt
  · exact h.hs.lt
  · exact h.hl.lt
  · exact h.ha.lt
  · exact h.row.lt x hx
/-- The path's block is not one of a validation's. -/
theorem VEnv.off {w : World} {p : Nat} {R : PL} {i : Nat} {gv : Int} {bp bt bg br bi bs bl ba : Nat} {v : Value} {rbs : List Nat} (h : VEnv w p R i gv bp bt bg br bi bs bl ba v rbs) {l : List Value} (hb : Blk w p l 69) : Apart (vF bp bg br bi bs bl ba rbs) [p] := by
  intro x hx he
  simp at he; subst he
  simp only [vF, List.mem_append, List.mem_cons, List.not_mem_nil, or_false] at hx
  rcases hx with (rfl | rfl | rfl | rfl | rfl | rfl | rfl) | hx
  · exact hb.ne h.hp (by decide) rfl
  · exact hb.ne h.hg (by decide) rfl
  · exact hb.ne h.hr (by decide) rfl
  · exact hb.ne h.hi (by decide) rfl
  · exact hb.ne h.hs (by decide) rfl
  · exact hb.ne h.hl (by decide) rfl
  · exact hb.ne h.ha (by decide) rfl
  · exact h.row.ne hb (by decide) hx

/-- What is asked next, and what comes behind it. -/
def StepPost (w : World) (p g : Nat) (R : PL) (i : Nat) (bp bt bg br bi bs bl ba : Nat) (bz lv wr : Bool) (sn vl en pt : Int) (e : Ending) (w' : World) : Prop :=
  if i < R.length then LoadPost w p g (R[i]?.getD (0, 0)).1 (.func (.func 92) #[] #[.pointer (some ⟨br, 0, none⟩), .pointer (some ⟨bi, 0, none⟩), .pointer (some ⟨bp, 0, none⟩), .pointer (some ⟨bs, 0, none⟩)]) bz lv wr sn vl en pt e w'
  else LoadPost w p g 0 (.func (.func 93) #[] #[.pointer (some ⟨bg, 0, none⟩), .pointer (some ⟨bp, 0, none⟩), .pointer (some ⟨bt, 0, none⟩)]) bz lv wr sn vl en pt e w'
theorem step_any (w : World) (p g : Nat) (r : Rq) (nx : Value) (R : PL) (i : Nat) (gv : Int) (bp bt bg br bi bs bl ba : Nat) (v : Value) (rbs : List Nat) (bz lv wr : Bool) (sn vl en pt : Int) (h : Blk w p (pcells g r nx bz lv wr sn vl en pt) 69)
    (hi : i ≤ R.length) (h128 : R.length ≤ 128) (hv : VEnv w p R i gv bp bt bg br bi bs bl ba v rbs) :
    Calls Try.prog 94 #[.pointer (some ⟨bi, 0, none⟩), .pointer (some ⟨br, 0, none⟩), .pointer (some ⟨bp, 0, none⟩), .pointer (some ⟨bl, 0, none⟩), .pointer (some ⟨ba, 0, none⟩)] w (StepPost w p g R i bp bt bg br bi bs bl ba bz lv wr sn vl en pt) := by
  unfold StepPost
  by_cases hlt : i < R.length
  · simp only [if_pos hlt]
    cases hv.row with
    | nil h0 _ => subst h0; simp at hlt
    | row rb cap cur hv' hb hm ht =>
      have hc := (row_cell hb ht hlt).1
      rw [show R[i]?.getD (0, 0) = R[i] from by simp [hlt]]
      exact step_more w p g r nx i R.length cap rb R[i].1 bi br bp bl ba bs bz lv wr sn vl en pt h hlt h128 hv.hi (hv' ▸ hv.hr) hv.hp hv.hl cur hb ((hb.cell (i * 2)).symm.trans hc)
  · simp only [if_neg hlt]
    obtain rfl : i = R.length := by omega
    obtain ⟨A, cap, rfl⟩ : ∃ A cap, v = .slice A R.length cap := by
      cases hv.row with
      | nil h0 hv' => obtain ⟨A, c, e⟩ := hv'; exact ⟨A, c, by rw [e, h0]; rfl⟩
      | row rb cap cur hv' hb hm ht => exact ⟨_, _, hv'⟩
    exact step_end w p g r nx R.length cap A bi br bp bl ba bg bt bz lv wr sn vl en pt h hv.hi hv.hr hv.hp hv.ha

theorem look_no (w : World) (p g : Nat) (r : Rq) (nx : Value) (R : PL) (i : Nat) (gv : Int) (bp bt bg br bi bs bl ba : Nat) (v : Value) (rbs : List Nat) (bz lv wr : Bool) (sn vl en pt x : Int) (h : Blk w p (pcells g r nx bz lv wr sn vl en pt) 69)
    (hi : i < R.length) (h128 : R.length ≤ 128) (hv : VEnv w p R i gv bp bt bg br bi bs bl ba v rbs) (hx : x ≠ (R[i]?.getD (0, 0)).2) :
    Calls Try.prog 92 #[.int .u64 x, .pointer (some ⟨br, 0, none⟩), .pointer (some ⟨bi, 0, none⟩), .pointer (some ⟨bp, 0, none⟩), .pointer (some ⟨bs, 0, none⟩)] w (LeavePost w p g 2 bz lv wr sn vl en pt) := by
  rw [show R[i]?.getD (0, 0) = R[i] from by simp [hi]] at hx
  cases hv.row with
  | nil h0 _ => subst h0; simp at hi
  | row rb cap cur hv' hb hm ht =>
    subst hv'
    have kr := (row_cell hb ht hi).2
    have k1 : w.cell? ⟨bi, 0, none⟩ = some (.int .i64 (i : Int)) := hv.hi.cell 0
    have k2 : w.cell? ⟨br, 0, none⟩ = some (.slice (some ⟨rb, 0, none⟩) R.length cap) := hv.hr.cell 0
    have k3 : w.cell? ⟨bp, 0, none⟩ = some (.pointer (some ⟨p, 0, none⟩)) := hv.hp.cell 0
    have HB := Lib.hid h
    generalize hy : R[i].2 = y at *
    have hc : (x != y) = true := by simpa using hx
    clear hv hb ht h hx hy hm
    generalize R.length = n at *
    go_enter Try.func92, Try.ntmps92
    go_wp2_with fail
    refine (leave_any _ p g r nx 2 bz lv wr sn vl en pt HB.out).mono ?_
    rintro e w' ⟨rfl, h1⟩
    have H1 := Lib.hid h1
    clear h1
    go_wp2_with fail
    refine bodyPost_ret (results_none rfl _ _ _) rfl ?_
    exact ⟨rfl, H1.out⟩

theorem look_yes (w : World) (p g : Nat) (r : Rq) (nx : Value) (R : PL) (i : Nat) (gv : Int) (bp bt bg br bi bs bl ba : Nat) (v : Value) (rbs : List Nat) (bz lv wr : Bool) (sn vl en pt x : Int) (h : Blk w p (pcells g r nx bz lv wr sn vl en pt) 69)
    (hi : i < R.length) (h128 : R.length ≤ 128) (hv : VEnv w p R i gv bp bt bg br bi bs bl ba v rbs) (hx : x = (R[i]?.getD (0, 0)).2) :
    Calls Try.prog 92 #[.int .u64 x, .pointer (some ⟨br, 0, none⟩), .pointer (some ⟨bi, 0, none⟩), .pointer (some ⟨bp, 0, none⟩), .pointer (some ⟨bs, 0, none⟩)] w fun e w' => e = .returned (.tuple #[]) ∧ ∃ w1, Chg [bi] w w1 ∧ VEnv w1 p R (i + 1) gv bp bt bg br bi bs bl ba v rbs ∧ StepPost w1 p g R (i + 1) bp bt bg br bi bs bl ba bz lv wr sn vl en pt e w' := by
  rw [show R[i]?.getD (0, 0) = R[i] from by simp [hi]] at hx
  have hw1 : VEnv (w.setCell ⟨bi, 0, none⟩ (.int .i64 ((i : Int) + 1))) p R (i + 1) gv bp bt bg br bi bs bl ba v rbs := by
    have hc : Chg [bi] w (w.setCell ⟨bi, 0, none⟩ (.int .i64 ((i : Int) + 1))) := (Chg.refl _ w).setCell (by simp) _
    refine ⟨hc.blk hv.hp (by simpa using hv.hp.ne hv.hi (by decide)), hc.blk hv.hg (by simpa using hv.hg.ne hv.hi (by decide)), ?_, hc.blk hv.hr (by simpa using hv.hr.ne hv.hi (by decide)), hv.row.chg hc (fun y hy => by simp; rintro rfl; exact hv.row.ne hv.hi (by decide) hy), hc.blk hv.hs (by simpa using hv.hs.ne hv.hi (by decide)), hc.blk hv.hl (by simpa using hv.hl.ne hv.hi (by decide)), hc.blk hv.ha (by simpa using hv.ha.ne hv.hi (by decide))⟩
    have := hv.hi.set 0 (.int .i64 ((i : Int) + 1))
    simpa using this
  have hb1 : Blk (w.setCell ⟨bi, 0, none⟩ (.int .i64 ((i : Int) + 1))) p (pcells g r nx bz lv wr sn vl en pt) 69 := ((Chg.refl [bi] w).setCell (by simp) _).blk h (by simpa using h.ne hv.hi (by decide))
  have HB := Lib.hid hb1
  have HV := Lib.hid hw1
  cases hv.row with
  | nil h0 _ => subst h0; simp at hi
  | row rb cap cur hv' hb hm ht =>
    subst hv'
    have kr := (row_cell hb ht hi).2
    have k1 : w.cell? ⟨bi, 0, none⟩ = some (.int .i64 (i : Int)) := hv.hi.cell 0
    have kf : w.frozen? ⟨bi, 0, none⟩ = false := hv.hi.free 0
    have k2 : w.cell? ⟨br, 0, none⟩ = some (.slice (some ⟨rb, 0, none⟩) R.length cap) := hv.hr.cell 0
    have k4 : w.cell? ⟨bs, 0, none⟩ = some (.func (.func 94) #[] #[.pointer (some ⟨bi, 0, none⟩), .pointer (some ⟨br, 0, none⟩), .pointer (some ⟨bp, 0, none⟩), .pointer (some ⟨bl, 0, none⟩), .pointer (some ⟨ba, 0, none⟩)]) := hv.hs.cell 0
    have hn : bs ≠ bi := hv.hs.ne hv.hi (by decide)
    have hw : wrap64 ((i : Int) + 1) = (i : Int) + 1 := IntWalk.wrap64_in _ ⟨by omega, by omega⟩
    generalize hy : R[i].2 = y at *
    have H1 := Lib.hid (And.intro hi h128)
    have hc : (x != y) = false := by simpa using hx
    have hln : (i : Int) < (R.length : Int) := by omega
    have hl8 : R.length ≤ 128 := h128
    clear hv hb ht h hx hy hm hw1 hb1 h128
    go_enter Try.func92, Try.ntmps92
    go_wp2_with fail
    refine (step_any _ p g r nx R (i + 1) gv bp bt bg br bi bs bl ba _ _ bz lv wr sn vl en pt HB.out H1.out.1 H1.out.2 HV.out).mono ?_
    intro e w' hq
    obtain rfl : e = .returned (.tuple #[]) := by unfold StepPost at hq; split at hq <;> exact hq.1
    have HQ := Lib.hid hq
    clear hq
    go_wp2_with fail
    go_end0
    exact ⟨rfl, _, (Chg.refl _ w).setCell (by simp) _, HV.out, HQ.out⟩

theorem again_no (w : World) (p g : Nat) (r : Rq) (nx : Value) (gv x : Int) (F : FuncId) (bd cs : Array Value) (bp bt bg : Nat) (bz lv wr : Bool) (sn vl en pt : Int) (h : Blk w p (pcells g r nx bz lv wr sn vl en pt) 69)
    (h1 : Blk w bg [.int .u64 gv] 23) (h2 : Blk w bp [.pointer (some ⟨p, 0, none⟩)] 31) (h3 : Blk w bt [.func (.func F) bd cs] 1) (hx : x ≠ gv) :
    Calls Try.prog 93 #[.int .u64 x, .pointer (some ⟨bg, 0, none⟩), .pointer (some ⟨bp, 0, none⟩), .pointer (some ⟨bt, 0, none⟩)] w (ValidatePost w p g (.func (.func F) bd cs) bz lv wr sn vl en pt) := by
  have k1 : w.cell? ⟨bg, 0, none⟩ = some (.int .u64 gv) := h1.cell 0
  have k2 : w.cell? ⟨bp, 0, none⟩ = some (.pointer (some ⟨p, 0, none⟩)) := h2.cell 0
  have k3 : w.cell? ⟨bt, 0, none⟩ = some (.func (.func F) bd cs) := h3.cell 0
  have HB := Lib.hid h
  have hc : (x != gv) = true := by simpa using hx
  clear h h1 h2 h3 hx
  go_enter Try.func93, Try.ntmps93
  go_wp2_with fail
  refine (validate_any _ p g r nx _ _ _ bz lv wr sn vl en pt HB.out).mono ?_
  rintro e w' ⟨rfl, h1⟩
  have H1 := Lib.hid h1
  clear h1
  go_wp2_with fail
  refine bodyPost_ret (results_none rfl _ _ _) rfl ?_
  exact ⟨rfl, H1.out⟩
theorem again_yes (w : World) (p g : Nat) (r : Rq) (nx : Value) (gv : Int) (F : FuncId) (hF : Plain F) (bd cs : Array Value) (bp bt bg : Nat) (bz lv wr : Bool) (sn vl en pt : Int) (Q : World → Prop) (h : Blk w p (pcells g r nx bz lv wr sn vl en pt) 69)
    (h1 : Blk w bg [.int .u64 gv] 23) (h2 : Blk w bp [.pointer (some ⟨p, 0, none⟩)] 31) (h3 : Blk w bt [.func (.func F) bd cs] 1)
    (hq : ∀ w1, Chg [p] w w1 → Blk w1 p (pcells g r nx bz lv wr gv vl en (wrap64 (pt + 1))) 69 → Calls Try.prog F (bd ++ cs) w1 fun e w' => e = .returned (.tuple #[]) ∧ Q w') :
    Calls Try.prog 93 #[.int .u64 gv, .pointer (some ⟨bg, 0, none⟩), .pointer (some ⟨bp, 0, none⟩), .pointer (some ⟨bt, 0, none⟩)] w fun e w' => e = .returned (.tuple #[]) ∧ Q w' := by
  have k1 : w.cell? ⟨bg, 0, none⟩ = some (.int .u64 gv) := h1.cell 0
  have k2 : w.cell? ⟨bp, 0, none⟩ = some (.pointer (some ⟨p, 0, none⟩)) := h2.cell 0
  have HB := Lib.hid h
  have HN := Lib.hid (h.ne h3 (by decide))
  have H3 := Lib.hid h3
  have HQ := Lib.hid hq
  unfold Plain at hF
  clear h h1 h2 h3 hq
  go_enter Try.func93, Try.ntmps93
  go_wp2_with fail
  refine (point_any _ p g r nx bz lv wr sn vl en pt gv HB.out).mono ?_
  rintro e w1 ⟨rfl, h1, h2⟩
  have H1 := Lib.hid h1
  have H2 := Lib.hid h2
  have k3 : w1.cell? ⟨bt, 0, none⟩ = some (.func (.func F) bd cs) := (h2.blk H3.out (by simpa using HN.out.symm)).cell 0
  clear h1 h2 k1 k2
  go_wp2_with fail
  refine (HQ.out w1 H2.out H1.out).mono ?_
  rintro e w2 ⟨rfl, hq⟩
  have HQ2 := Lib.hid hq
  clear hq
  go_wp2_with fail
  go_end0
  exact ⟨rfl, HQ2.out⟩

end Go.Proofs.Ytilffolppnnkaaa
