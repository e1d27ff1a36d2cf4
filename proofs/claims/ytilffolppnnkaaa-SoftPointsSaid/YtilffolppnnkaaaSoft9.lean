/- A path of layer 8: what an answer makes of it. -/
import Derived.Test.YtilffolppnnkaaaSoft8
namespace Go.Proofs.Ytilffolppnnkaaa
set_option maxRecDepth 100000
open Go.RowKit

def To.ph : To → Ph
  | .fetch a => .loadWord a
  | .take => .take
def nextCheck (R : PL) (to : To) (g : Int) (i : Nat) : Ph := if i < R.length then .checkOne to g i else .checkEnd to g

/-- What an answer makes of a path. -/
def PS.give (s : PS) (v : Int) (ok : Bool) : PS :=
  match s.ph with
  | .idle => s
  | .beginN => { s with ph := .beginCas v }
  | .beginCas _ => { s with ph := if ok then .beginSeq else .beginN }
  | .beginSeq => if v % 2 = 1 then s else { s with ph := .idle, snap := v, points := wrap64 (s.points + 1), live := true }
  | .loadWord a => { s with ph := .loadSeq a v }
  | .loadSeq a u => if v = s.snap then (if badRead s.R a u then { s with R := rdL s.R a u, ph := .leaveN 2 } else { s with R := rdL s.R a u, value := u, points := wrap64 (s.points + 1), ph := .idle }) else { s with ph := .checkSeq (.fetch a) }
  | .checkSeq to => if v % 2 = 1 then s else { s with ph := nextCheck s.R to v 0 }
  | .checkOne to g i => if v = (s.R[i]?.getD (0, 0)).2 then { s with ph := nextCheck s.R to g (i + 1) } else { s with ph := .leaveN 2 }
  | .checkEnd to g => if v = g then { s with snap := g, points := wrap64 (s.points + 1), ph := to.ph } else { s with ph := .checkSeq to }
  | .take => if ok then { s with points := wrap64 (s.points + 1), writing := true, ph := .back 0 } else { s with ph := .checkSeq .take }
  | .back i => { s with ph := if i + 1 < s.W.length then .back (i + 1) else .release }
  | .release => { s with writing := false, ph := .leaveN 1 }
  | .leaveN how => { s with ph := .leaveCas how v }
  | .leaveCas how _ => if ok then { s with live := false, ended := how, ph := .idle } else { s with ph := .leaveN how }

def aok (a : Int) : Prop := 0 ≤ a ∧ (Lit.int .i64 a).wf = true
def w64ok (v : Int) : Prop := 0 ≤ v ∧ (Lit.int .u64 v).wf = true
def To.ok (W : PL) : To → Prop
  | .fetch a => aok a
  | .take => W ≠ []
/-- What a path's place asks of its numbers. -/
def Ph.ok (R W : PL) : Ph → Prop
  | .loadWord a => aok a
  | .loadSeq a u => aok a ∧ w64ok u
  | .checkSeq to => to.ok W
  | .checkOne to _ i => to.ok W ∧ i < R.length
  | .checkEnd to _ => to.ok W
  | .take => W ≠ []
  | .back i => i < W.length
  | _ => True

theorem Facts.n0 {w : World} {x0 : Cell} {l : List Cell} (h : Facts w (x0 :: l)) : Blk w x0.1 x0.2.1 x0.2.2 := h _ (by simp)
theorem Facts.n1 {w : World} {x0 x1 : Cell} {l : List Cell} (h : Facts w (x0 :: x1 :: l)) : Blk w x1.1 x1.2.1 x1.2.2 := h _ (by simp)
theorem Facts.n2 {w : World} {x0 x1 x2 : Cell} {l : List Cell} (h : Facts w (x0 :: x1 :: x2 :: l)) : Blk w x2.1 x2.2.1 x2.2.2 := h _ (by simp)
theorem Facts.n3 {w : World} {x0 x1 x2 x3 : Cell} {l : List Cell} (h : Facts w (x0 :: x1 :: x2 :: x3 :: l)) : Blk w x3.1 x3.2.1 x3.2.2 := h _ (by simp)
theorem Facts.n4 {w : World} {x0 x1 x2 x3 x4 : Cell} {l : List Cell} (h : Facts w (x0 :: x1 :: x2 :: x3 :: x4 :: l)) : Blk w x4.1 x4.2.1 x4.2.2 := h _ (by simp)
theorem Facts.n5 {w : World} {x0 x1 x2 x3 x4 x5 : Cell} {l : List Cell} (h : Facts w (x0 :: x1 :: x2 :: x3 :: x4 :: x5 :: l)) : Blk w x5.1 x5.2.1 x5.2.2 := h _ (by simp)
theorem Facts.n6 {w : World} {x0 x1 x2 x3 x4 x5 x6 : Cell} {l : List Cell} (h : Facts w (x0 :: x1 :: x2 :: x3 :: x4 :: x5 :: x6 :: l)) : Blk w x6.1 x6.2.1 x6.2.2 := h _ (by simp)
theorem Facts.n7 {w : World} {x0 x1 x2 x3 x4 x5 x6 x7 : Cell} {l : List Cell} (h : Facts w (x0 :: x1 :: x2 :: x3 :: x4 :: x5 :: x6 :: x7 :: l)) : Blk w x7.1 x7.2.1 x7.2.2 := h _ (by simp)
theorem Facts.n8 {w : World} {x0 x1 x2 x3 x4 x5 x6 x7 x8 : Cell} {l : List Cell} (h : Facts w (x0 :: x1 :: x2 :: x3 :: x4 :: x5 :: x6 :: x7 :: x8 :: l)) : Blk w x8.1 x8.2.1 x8.2.2 := h _ (by simp)

/-- What stands behind a step: old, or new. -/
def Grew (w w' : World) (E l : List Cell) : Prop := ∀ x ∈ l, Blk w' x.1 x.2.1 x.2.2 ∧ (x.1 ∈ E.map (·.1) ∨ w.heap.size ≤ x.1)
theorem Grew.nil (w w' : World) (E : List Cell) : Grew w w' E [] := fun _ h => by cases h
theorem Grew.keep {w w' : World} {E l : List Cell} {x : Cell} (G : Facts w' E) (hx : x ∈ E) (k : Grew w w' E l) : Grew w w' E (x :: l) := fun y hy => by
  rcases List.mem_cons.1 hy with rfl | e
  · exact ⟨G y hx, .inl (List.mem_map_of_mem hx)⟩
  · exact k y e
theorem Grew.fresh {w w' : World} {E l : List Cell} {x : Cell} (h : Blk w' x.1 x.2.1 x.2.2) (hn : w.heap.size ≤ x.1) (k : Grew w w' E l) : Grew w w' E (x :: l) := fun y hy => by
  rcases List.mem_cons.1 hy with rfl | e
  · exact ⟨h, .inr hn⟩
  · exact k y e
theorem Grew.all {w w' : World} {E l : List Cell} (G : Facts w' E) (hx : ∀ x ∈ l, x ∈ E) : Grew w w' E l := fun y hy => ⟨G y (hx y hy), .inl (List.mem_map_of_mem (hx y hy))⟩
theorem Grew.app {w w' : World} {E l m : List Cell} (h : Grew w w' E l) (k : Grew w w' E m) : Grew w w' E (l ++ m) := fun x hx => (List.mem_append.1 hx).elim (h x) (k x)

theorem give_idle (w : World) (p g : Nat) (r : Rq) (v : Int) (ok bz lv wr : Bool) (sn vl en pt : Int) (h : Blk w p (pcells g r .nilFunc bz lv wr sn vl en pt) 69) :
    Calls Try.prog 24 #[.pointer (some ⟨p, 0, none⟩), .int .u64 v, .bool ok] w fun e w' => e = .returned (.int .i64 80) ∧ w = w' := by
  have pc0 : (w).cell? ⟨p, 0, none⟩ = some (.pointer (some ⟨g, 0, none⟩)) := (h).cell 0; have pf0 : (w).frozen? ⟨p, 0, none⟩ = false := (h).free 0; have pc1 : (w).cell? ⟨p, 1, none⟩ = some (.int .i64 r.op) := (h).cell 1; have pf1 : (w).frozen? ⟨p, 1, none⟩ = false := (h).free 1; have pc2 : (w).cell? ⟨p, 2, none⟩ = some (.int .i64 r.addr) := (h).cell 2; have pf2 : (w).frozen? ⟨p, 2, none⟩ = false := (h).free 2; have pc3 : (w).cell? ⟨p, 3, none⟩ = some (.int .u64 r.val) := (h).cell 3; have pf3 : (w).frozen? ⟨p, 3, none⟩ = false := (h).free 3; have pc4 : (w).cell? ⟨p, 4, none⟩ = some (.int .u64 r.old) := (h).cell 4; have pf4 : (w).frozen? ⟨p, 4, none⟩ = false := (h).free 4; have pc5 : (w).cell? ⟨p, 5, none⟩ = some (.nilFunc) := (h).cell 5; have pf5 : (w).frozen? ⟨p, 5, none⟩ = false := (h).free 5; have pc6 : (w).cell? ⟨p, 6, none⟩ = some (.bool bz) := (h).cell 6; have pf6 : (w).frozen? ⟨p, 6, none⟩ = false := (h).free 6; have pc7 : (w).cell? ⟨p, 7, none⟩ = some (.bool lv) := (h).cell 7; have pf7 : (w).frozen? ⟨p, 7, none⟩ = false := (h).free 7; have pc8 : (w).cell? ⟨p, 8, none⟩ = some (.bool wr) := (h).cell 8; have pf8 : (w).frozen? ⟨p, 8, none⟩ = false := (h).free 8; have pc9 : (w).cell? ⟨p, 9, none⟩ = some (.int .u64 sn) := (h).cell 9; have pf9 : (w).frozen? ⟨p, 9, none⟩ = false := (h).free 9; have pc10 : (w).cell? ⟨p, 10, none⟩ = some (.int .u64 vl) := (h).cell 10; have pf10 : (w).frozen? ⟨p, 10, none⟩ = false := (h).free 10; have pc11 : (w).cell? ⟨p, 11, none⟩ = some (.int .i64 en) := (h).cell 11; have pf11 : (w).frozen? ⟨p, 11, none⟩ = false := (h).free 11; have pc12 : (w).cell? ⟨p, 12, none⟩ = some (.int .i64 pt) := (h).cell 12; have pf12 : (w).frozen? ⟨p, 12, none⟩ = false := (h).free 12
  clear h
  have he : ∀ w : World, (binOp .eql 67 .nilFunc .nilFunc).run Try.prog w = .ok (.bool true) w := fun _ => by kernel_rfl
  go_enter Try.func24, Try.ntmps24
  go_wp2_with fail
  refine (pnone_any _ p g pc0).mono ?_
  rintro e w' ⟨rfl, rfl⟩
  go_wp2_with fail
  go_ret
  exact ⟨rfl, rfl⟩

theorem give_gen (w : World) (p g : Nat) (r : Rq) (v : Int) (ok : Bool) (F : FuncId) (hF : Plain F) (b : Nat) (bz lv wr : Bool) (sn vl en pt : Int) (Q : World → Prop) (h : Blk w p (pcells g r (.func (.func F) #[] #[.pointer (some ⟨b, 0, none⟩)]) bz lv wr sn vl en pt) 69)
    (hq : ∀ w1, Chg [p] w w1 → Blk w1 p (pcells g ⟨0, 0, 0, 0⟩ .nilFunc bz lv wr sn vl en pt) 69 → Calls Try.prog F #[.int .u64 v, .bool ok, .pointer (some ⟨b, 0, none⟩)] w1 fun e w' => e = .returned (.tuple #[]) ∧ Q w') :
    Calls Try.prog 24 #[.pointer (some ⟨p, 0, none⟩), .int .u64 v, .bool ok] w fun e w' => e = .returned (.int .i64 0) ∧ Q w' := by
  have HB := Lib.hid h
  have HQ := Lib.hid hq
  unfold Plain at hF
  have pc0 : (w).cell? ⟨p, 0, none⟩ = some (.pointer (some ⟨g, 0, none⟩)) := (h).cell 0; have pf0 : (w).frozen? ⟨p, 0, none⟩ = false := (h).free 0; have pc1 : (w).cell? ⟨p, 1, none⟩ = some (.int .i64 r.op) := (h).cell 1; have pf1 : (w).frozen? ⟨p, 1, none⟩ = false := (h).free 1; have pc2 : (w).cell? ⟨p, 2, none⟩ = some (.int .i64 r.addr) := (h).cell 2; have pf2 : (w).frozen? ⟨p, 2, none⟩ = false := (h).free 2; have pc3 : (w).cell? ⟨p, 3, none⟩ = some (.int .u64 r.val) := (h).cell 3; have pf3 : (w).frozen? ⟨p, 3, none⟩ = false := (h).free 3; have pc4 : (w).cell? ⟨p, 4, none⟩ = some (.int .u64 r.old) := (h).cell 4; have pf4 : (w).frozen? ⟨p, 4, none⟩ = false := (h).free 4; have pc5 : (w).cell? ⟨p, 5, none⟩ = some ((.func (.func F) #[] #[.pointer (some ⟨b, 0, none⟩)])) := (h).cell 5; have pf5 : (w).frozen? ⟨p, 5, none⟩ = false := (h).free 5; have pc6 : (w).cell? ⟨p, 6, none⟩ = some (.bool bz) := (h).cell 6; have pf6 : (w).frozen? ⟨p, 6, none⟩ = false := (h).free 6; have pc7 : (w).cell? ⟨p, 7, none⟩ = some (.bool lv) := (h).cell 7; have pf7 : (w).frozen? ⟨p, 7, none⟩ = false := (h).free 7; have pc8 : (w).cell? ⟨p, 8, none⟩ = some (.bool wr) := (h).cell 8; have pf8 : (w).frozen? ⟨p, 8, none⟩ = false := (h).free 8; have pc9 : (w).cell? ⟨p, 9, none⟩ = some (.int .u64 sn) := (h).cell 9; have pf9 : (w).frozen? ⟨p, 9, none⟩ = false := (h).free 9; have pc10 : (w).cell? ⟨p, 10, none⟩ = some (.int .u64 vl) := (h).cell 10; have pf10 : (w).frozen? ⟨p, 10, none⟩ = false := (h).free 10; have pc11 : (w).cell? ⟨p, 11, none⟩ = some (.int .i64 en) := (h).cell 11; have pf11 : (w).frozen? ⟨p, 11, none⟩ = false := (h).free 11; have pc12 : (w).cell? ⟨p, 12, none⟩ = some (.int .i64 pt) := (h).cell 12; have pf12 : (w).frozen? ⟨p, 12, none⟩ = false := (h).free 12
  clear h hq
  have he : ∀ w : World, (binOp .eql 67 (.func (.func F) #[] #[.pointer (some ⟨b, 0, none⟩)]) .nilFunc).run Try.prog w = .ok (.bool false) w := fun _ => by kernel_rfl
  go_enter Try.func24, Try.ntmps24
  go_wp2_with fail
  refine (pnone_any _ p g pc0).mono ?_
  rintro e w' ⟨rfl, rfl⟩
  go_wp2_with fail
  refine (HQ.out _ ?_ (((((HB.out.set 1 (.int .i64 0)).set 2 (.int .i64 0)).set 3 (.int .u64 0)).set 4 (.int .u64 0)).set 5 .nilFunc)).mono ?_
  · repeat (first | with_reducible exact HB | with_reducible exact Chg.refl _ _ | with_reducible refine Chg.setCell ?_ (by simp) _ | with_reducible refine Chg.alloc ?_ _ | with_reducible refine Chg.drew ?_)
  rintro e w' ⟨rfl, hq⟩
  have HQ2 := Lib.hid hq
  clear hq
  go_wp2_with fail
  go_ret
  exact ⟨rfl, HQ2.out⟩

theorem fetch111_any (w : World) (p g : Nat) (r : Rq) (nx : Value) (a : Int) (b1 b2 : Nat) (bz lv wr : Bool) (sn vl en pt : Int) (h : Blk w p (pcells g r nx bz lv wr sn vl en pt) 69)
    (h1 : Blk w b1 [.pointer (some ⟨p, 0, none⟩)] 31) (h2 : Blk w b2 [.int .i64 a] 3) :
    Calls Try.prog 69 #[.pointer (some ⟨b1, 0, none⟩), .pointer (some ⟨b2, 0, none⟩)] w (FetchPost w p g a bz lv wr sn vl en pt) := by
  have k1 : w.cell? ⟨b1, 0, none⟩ = some (.pointer (some ⟨p, 0, none⟩)) := h1.cell 0
  have k2 : w.cell? ⟨b2, 0, none⟩ = some (.int .i64 a) := h2.cell 0
  have HB := Lib.hid h
  clear h h1 h2
  go_enter Try.func69, Try.ntmps69
  go_wp2_with fail
  refine (fetch_any _ p g r nx a bz lv wr sn vl en pt HB.out).mono ?_
  rintro e w' ⟨rfl, h1⟩
  have H1 := Lib.hid h1
  clear h1
  go_wp2_with fail
  go_end0
  exact ⟨rfl, H1.out⟩

def GavePost (w : World) (p : Nat) (F : List Nat) (s' : PS) (w' : World) : Prop := ∃ F', PathAt w' p F' s' ∧ Mv F F' w w'

/-- A step of which the log knows nothing. -/
theorem gave {w w1 w' : World} {p g : Nat} {L : List Nat} {E : List Cell} {nx : Value} {bz : Bool} {r : Rq} {s : PS} (h : PathIn w p g L E nx bz r s) (hoff : OffT E) (hC : Chg [p] w w1) {s' : PS} {E' : List Cell} {nx' : Value}
    (hR : s'.R = s.R) (hW : s'.W = s.W) (hC2 : Chg (p :: E.map (·.1)) w1 w')
    (hB : Blk w' p (pcells g s'.want nx' s'.busy s'.live s'.writing s'.snap s'.value s'.ended s'.points) 69)
    (hE : EShape p s'.R s'.W s'.ph nx' E') (hg : Grew w1 w' E E') : GavePost w p (p :: (L ++ E.map (·.1))) s' w' :=
  PathAt.step h hR hW ((hC.mono (by simp)).trans hC2) hB hE (fun x hx => (hg x hx).1) (fun x hx => (hg x hx).2.imp id (fun e => Nat.le_trans hC.size e)) (facts_off h.blk h.facts hoff)

theorem offp {w : World} {p : Nat} {l : List Value} {E : List Cell} (hb : Blk w p l 69) (h : Facts w E) (ht : OffT E) : ∀ x ∈ E, x.1 ∉ [p] := by
  intro x hx he
  simp at he
  exact facts_off hb h ht (he ▸ List.mem_map_of_mem hx)

/-- Behind it the path's place is another one. -/
theorem gv_beginN {w : World} {p g : Nat} {L : List Nat} {E : List Cell} {nx : Value} {s : PS} {v : Int} {ok : Bool} (hph : s.ph = .beginN) (h : PathIn w p g L E nx s.busy s.want s) (hs : EShape p s.R s.W .beginN nx E) :
    Calls Try.prog 24 #[.pointer (some ⟨p, 0, none⟩), .int .u64 v, .bool ok] w fun e w' => e = .returned (.int .i64 0) ∧ GavePost w p (p :: (L ++ E.map (·.1))) { s with ph := .beginCas v } w' := by
  have hoff := hs.off
  cases hs with
  | beginN b1 b2 b3 b4 =>
    refine give_gen w p g _ v ok _ (fun _ _ => by kernel_rfl : Plain 88) b4 _ _ _ _ _ _ _ _ h.blk fun w1 hC hB => ?_
    have G1 := h.facts.chg hC (offp h.blk h.facts hoff)
    refine load1_any w1 b4 v ok _ (fun _ _ => by kernel_rfl : Plain 60) #[] _ _ G1.n3 ?_
    refine (count1_any w1 p g _ _ v 1 b1 b2 b3 _ _ _ _ _ _ _ hB G1.n0 G1.n1).mono ?_
    rintro e w' ⟨rfl, h1, h2, h3⟩
    have G2 := h.facts.chg (hC.trans h3) (offp h.blk h.facts hoff)
    refine ⟨rfl, gave h hoff hC rfl rfl (h3.mono (by simp)) ?_ (.beginCas v b1 b2 b3 w1.heap.size) ?_⟩
    · simp only [PS.busy, hph] at h1; exact h1
    · exact Grew.keep G2 (by simp) (Grew.keep G2 (by simp) (Grew.keep G2 (by simp) (Grew.fresh h2 (Nat.le_refl _) (Grew.nil _ _ _))))

end Go.Proofs.Ytilffolppnnkaaa
