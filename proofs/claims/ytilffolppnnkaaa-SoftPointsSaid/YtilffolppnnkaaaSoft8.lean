/- A path of layer 8, whole: where it is, and what lies behind its next step. -/
import Derived.Test.YtilffolppnnkaaaSoft7
namespace Go.Proofs.Ytilffolppnnkaaa
set_option maxRecDepth 100000
open Go.RowKit

/-- Where a path goes on behind a validation. -/
inductive To where
  | fetch (a : Int)
  | take

/-- Behind which request a path is. -/
inductive Ph where
  | idle
  | beginN
  | beginCas (n : Int)
  | beginSeq
  | loadWord (a : Int)
  | loadSeq (a v : Int)
  | checkSeq (to : To)
  | checkOne (to : To) (g : Int) (i : Nat)
  | checkEnd (to : To) (g : Int)
  | take
  | back (i : Nat)
  | release
  | leaveN (how : Int)
  | leaveCas (how n : Int)

/-- A path. -/
structure PS where
  ph : Ph := .idle
  snap : Int := 0
  value : Int := 0
  R : PL := []
  W : PL := []
  live : Bool := false
  writing : Bool := false
  ended : Int := 0
  points : Int := 0

def Ph.busy : Ph → Bool
  | .idle => false
  | _ => true

/-- What is asked. -/
def wantOf (snap : Int) (R W : PL) : Ph → Rq
  | .idle => ⟨0, 0, 0, 0⟩
  | .beginN => ⟨1, 1, 0, 0⟩
  | .beginCas n => ⟨3, 1, IntKind.u64.wrap (n + 1), n⟩
  | .beginSeq => ⟨1, 0, 0, 0⟩
  | .loadWord a => ⟨1, a, 0, 0⟩
  | .loadSeq _ _ => ⟨1, 0, 0, 0⟩
  | .checkSeq _ => ⟨1, 0, 0, 0⟩
  | .checkOne _ _ i => ⟨1, (R[i]?.getD (0, 0)).1, 0, 0⟩
  | .checkEnd _ _ => ⟨1, 0, 0, 0⟩
  | .take => ⟨3, 0, IntKind.u64.wrap (snap + 1), snap⟩
  | .back i => ⟨2, (W[i]?.getD (0, 0)).1, (W[i]?.getD (0, 0)).2, 0⟩
  | .release => ⟨2, 0, IntKind.u64.wrap (snap + 2), 0⟩
  | .leaveN _ => ⟨1, 1, 0, 0⟩
  | .leaveCas _ n => ⟨3, 1, IntKind.u64.wrap (n + 18446744073709551615), n⟩
def PS.want (s : PS) : Rq := wantOf s.snap s.R s.W s.ph
def PS.busy (s : PS) : Bool := s.ph.busy

/-- A block, what it holds, its type. -/
abbrev Cell := Nat × List Value × TypeId
def Facts (w : World) (l : List Cell) : Prop := ∀ x ∈ l, Blk w x.1 x.2.1 x.2.2
theorem Facts.chg {S : List Nat} {w w' : World} {l : List Cell} (h : Facts w l) (k : Chg S w w') (hs : ∀ x ∈ l, x.1 ∉ S) : Facts w' l := fun x hx => k.blk (h x hx) (hs x hx)
theorem Facts.app {w : World} {l m : List Cell} (h : Facts w l) (k : Facts w m) : Facts w (l ++ m) := fun x hx => (List.mem_append.1 hx).elim (h x) (k x)
theorem Facts.cons {w : World} {x : Cell} {l : List Cell} (h : Blk w x.1 x.2.1 x.2.2) (k : Facts w l) : Facts w (x :: l) := fun y hy => by
  rcases List.mem_cons.1 hy with rfl | e
  · exact h
  · exact k y e
theorem Facts.nil (w : World) : Facts w [] := fun _ h => by cases h

inductive RowC (R : PL) : Value → List Cell → Prop where
  | nil (A : Option Addr) (cap : Nat) (h : R = []) : RowC R (.slice A 0 cap) []
  | row (rb cap : Nat) (cur : List Value) (h1 : R.length ≤ cap) (h2 : cap ≤ maxLen) (ht : cur.take (R.length * 2) = cellsP R) : RowC R (.slice (some ⟨rb, 0, none⟩) R.length cap) [(rb, cur, 85)]
theorem RowC.to {w : World} {R : PL} {v : Value} {l : List Cell} (h : RowC R v l) (k : Facts w l) : RowB w v R (l.map (·.1)) := by
  cases h with
  | nil A cap h => exact .nil h ⟨_, _, rfl⟩
  | row rb cap cur h1 h2 ht => exact .row rb cap cur rfl (k (rb, cur, 85) (by simp)) ⟨h1, h2⟩ ht
theorem RowC.of {w : World} {R : PL} {v : Value} {rbs : List Nat} (h : RowB w v R rbs) : ∃ l, RowC R v l ∧ Facts w l ∧ rbs = l.map (·.1) := by
  cases h with
  | nil h hv => obtain ⟨A, c, rfl⟩ := hv; exact ⟨[], .nil A c h, Facts.nil w, rfl⟩
  | row rb cap cur hv hb hm ht => subst hv; exact ⟨_, .row rb cap cur hm.1 hm.2 ht, Facts.cons hb (Facts.nil w), rfl⟩

/-- What comes behind a validation. -/
inductive Then (p : Nat) : To → Value → List Cell → Prop where
  | fetch (a : Int) (b1 b2 : Nat) : Then p (.fetch a) (.func (.func 69) #[] #[.pointer (some ⟨b1, 0, none⟩), .pointer (some ⟨b2, 0, none⟩)]) [(b1, [.pointer (some ⟨p, 0, none⟩)], 31), (b2, [.int .i64 a], 3)]
  | take : Then p .take (.func (.func 47) #[.pointer (some ⟨p, 0, none⟩)] #[]) []

/-- What lies behind a path's next step. -/
inductive EShape (p : Nat) (R W : PL) : Ph → Value → List Cell → Prop where
  | idle : EShape p R W .idle .nilFunc []
  | beginN (b1 b2 b3 b4 : Nat) : EShape p R W .beginN (.func (.func 88) #[] #[.pointer (some ⟨b4, 0, none⟩)]) [(b1, [.pointer (some ⟨p, 0, none⟩)], 31), (b2, [.int .u64 1], 23), (b3, [(.func (.func 39) #[.pointer (some ⟨p, 0, none⟩)] #[])], 1), (b4, [(.func (.func 60) #[] #[.pointer (some ⟨b1, 0, none⟩), .pointer (some ⟨b2, 0, none⟩), .pointer (some ⟨b3, 0, none⟩)])], 94)]
  | beginCas (n : Int) (b1 b2 b3 b4 : Nat) : EShape p R W (.beginCas n) (.func (.func 89) #[] #[.pointer (some ⟨b4, 0, none⟩)]) [(b1, [.pointer (some ⟨p, 0, none⟩)], 31), (b2, [.int .u64 1], 23), (b3, [(.func (.func 39) #[.pointer (some ⟨p, 0, none⟩)] #[])], 1), (b4, [(.func (.func 62) #[] #[.pointer (some ⟨b1, 0, none⟩), .pointer (some ⟨b2, 0, none⟩), .pointer (some ⟨b3, 0, none⟩)])], 93)]
  | beginSeq (b1 b2 b3 : Nat) : EShape p R W .beginSeq (.func (.func 88) #[] #[.pointer (some ⟨b3, 0, none⟩)]) [(b1, [.pointer (some ⟨p, 0, none⟩)], 31), (b2, [(.func (.func 64) #[.pointer (some ⟨p, 0, none⟩)] #[])], 94), (b3, [(.func (.func 90) #[] #[.pointer (some ⟨b1, 0, none⟩), .pointer (some ⟨b2, 0, none⟩)])], 94)]
  | loadWord (a : Int) (b1 b2 b3 : Nat) : EShape p R W (.loadWord a) (.func (.func 88) #[] #[.pointer (some ⟨b3, 0, none⟩)]) [(b1, [.pointer (some ⟨p, 0, none⟩)], 31), (b2, [.int .i64 a], 3), (b3, [(.func (.func 66) #[] #[.pointer (some ⟨b1, 0, none⟩), .pointer (some ⟨b2, 0, none⟩)])], 94)]
  | loadSeq (a v : Int) (b1 b2 b3 b4 : Nat) : EShape p R W (.loadSeq a v) (.func (.func 88) #[] #[.pointer (some ⟨b4, 0, none⟩)]) [(b1, [.pointer (some ⟨p, 0, none⟩)], 31), (b2, [.int .i64 a], 3), (b3, [.int .u64 v], 23), (b4, [(.func (.func 67) #[] #[.pointer (some ⟨b1, 0, none⟩), .pointer (some ⟨b2, 0, none⟩), .pointer (some ⟨b3, 0, none⟩)])], 94)]
  | checkSeq (to : To) (th : Value) (l : List Cell) (ht : Then p to th l) (b1 b2 b3 b4 b5 : Nat) : EShape p R W (.checkSeq to) (.func (.func 88) #[] #[.pointer (some ⟨b5, 0, none⟩)]) ([(b1, [.pointer (some ⟨p, 0, none⟩)], 31), (b2, [th], 1), (b3, [.pointer (some ⟨p, 0, none⟩)], 31), (b4, [(.func (.func 91) #[] #[.pointer (some ⟨b1, 0, none⟩), .pointer (some ⟨b2, 0, none⟩)])], 94), (b5, [(.func (.func 90) #[] #[.pointer (some ⟨b3, 0, none⟩), .pointer (some ⟨b4, 0, none⟩)])], 94)] ++ l)
  | checkOne (to : To) (g : Int) (i : Nat) (th : Value) (l : List Cell) (ht : Then p to th l) (v : Value) (row : List Cell) (hr : RowC R v row) (bp bt bg br bi bs bl ba bx : Nat) (hbl : bi ∉ l.map (·.1)) : EShape p R W (.checkOne to g i) (.func (.func 88) #[] #[.pointer (some ⟨bx, 0, none⟩)])
      ([(bp, [.pointer (some ⟨p, 0, none⟩)], 31), (bg, [.int .u64 g], 23), (bi, [.int .i64 (i : Int)], 3), (br, [v], 56), (bs, [(.func (.func 94) #[] #[.pointer (some ⟨bi, 0, none⟩), .pointer (some ⟨br, 0, none⟩), .pointer (some ⟨bp, 0, none⟩), .pointer (some ⟨bl, 0, none⟩), .pointer (some ⟨ba, 0, none⟩)])], 1), (bl, [(.func (.func 92) #[] #[.pointer (some ⟨br, 0, none⟩), .pointer (some ⟨bi, 0, none⟩), .pointer (some ⟨bp, 0, none⟩), .pointer (some ⟨bs, 0, none⟩)])], 94), (ba, [(.func (.func 93) #[] #[.pointer (some ⟨bg, 0, none⟩), .pointer (some ⟨bp, 0, none⟩), .pointer (some ⟨bt, 0, none⟩)])], 94), (bt, [th], 1), (bx, [(.func (.func 92) #[] #[.pointer (some ⟨br, 0, none⟩), .pointer (some ⟨bi, 0, none⟩), .pointer (some ⟨bp, 0, none⟩), .pointer (some ⟨bs, 0, none⟩)])], 94)] ++ row ++ l)
  | checkEnd (to : To) (g : Int) (th : Value) (l : List Cell) (ht : Then p to th l) (bp bt bg bx : Nat) : EShape p R W (.checkEnd to g) (.func (.func 88) #[] #[.pointer (some ⟨bx, 0, none⟩)]) ([(bp, [.pointer (some ⟨p, 0, none⟩)], 31), (bg, [.int .u64 g], 23), (bt, [th], 1), (bx, [(.func (.func 93) #[] #[.pointer (some ⟨bg, 0, none⟩), .pointer (some ⟨bp, 0, none⟩), .pointer (some ⟨bt, 0, none⟩)])], 94)] ++ l)
  | take (b1 b2 : Nat) : EShape p R W .take (.func (.func 89) #[] #[.pointer (some ⟨b2, 0, none⟩)]) [(b1, [.pointer (some ⟨p, 0, none⟩)], 31), (b2, [(.func (.func 77) #[] #[.pointer (some ⟨b1, 0, none⟩)])], 93)]
  | back (i rb cap : Nat) (cur : List Value) (h1 : W.length ≤ cap) (h2 : cap ≤ maxLen) (ht : cur.take (W.length * 2) = cellsP W) (b1 b2 b3 : Nat) : EShape p R W (.back i) (.func (.func 103) #[] #[.pointer (some ⟨b3, 0, none⟩)]) [(b1, [.pointer (some ⟨p, 0, none⟩)], 31), (b2, [.slice (some ⟨rb, i * 2, none⟩) (W.length - i) (cap - i)], 56), (b3, [(.func (.func 97) #[] #[.pointer (some ⟨b1, 0, none⟩), .pointer (some ⟨b2, 0, none⟩)])], 1), (rb, cur, 85)]
  | release (b1 b3 : Nat) : EShape p R W .release (.func (.func 103) #[] #[.pointer (some ⟨b3, 0, none⟩)]) [(b1, [.pointer (some ⟨p, 0, none⟩)], 31), (b3, [(.func (.func 98) #[] #[.pointer (some ⟨b1, 0, none⟩)])], 1)]
  | leaveN (how : Int) (b1 b2 b3 b4 b5 b6 : Nat) : EShape p R W (.leaveN how) (.func (.func 88) #[] #[.pointer (some ⟨b6, 0, none⟩)]) [(b1, [.pointer (some ⟨p, 0, none⟩)], 31), (b2, [.int .i64 how], 3), (b3, [.pointer (some ⟨p, 0, none⟩)], 31), (b4, [.int .u64 18446744073709551615], 23), (b5, [(.func (.func 75) #[] #[.pointer (some ⟨b2, 0, none⟩), .pointer (some ⟨b1, 0, none⟩)])], 1), (b6, [(.func (.func 60) #[] #[.pointer (some ⟨b3, 0, none⟩), .pointer (some ⟨b4, 0, none⟩), .pointer (some ⟨b5, 0, none⟩)])], 94)]
  | leaveCas (how n : Int) (b1 b2 b3 b4 b5 b6 : Nat) : EShape p R W (.leaveCas how n) (.func (.func 89) #[] #[.pointer (some ⟨b6, 0, none⟩)]) [(b1, [.pointer (some ⟨p, 0, none⟩)], 31), (b2, [.int .i64 how], 3), (b3, [.pointer (some ⟨p, 0, none⟩)], 31), (b4, [.int .u64 18446744073709551615], 23), (b5, [(.func (.func 75) #[] #[.pointer (some ⟨b2, 0, none⟩), .pointer (some ⟨b1, 0, none⟩)])], 1), (b6, [(.func (.func 62) #[] #[.pointer (some ⟨b3, 0, none⟩), .pointer (some ⟨b4, 0, none⟩), .pointer (some ⟨b5, 0, none⟩)])], 93)]

def OffT (l : List Cell) : Prop := ∀ x ∈ l, x.2.2 ≠ 69
theorem OffT.nil : OffT [] := fun _ h => by cases h
theorem OffT.cons {x : Cell} {l : List Cell} (h : x.2.2 ≠ 69) (k : OffT l) : OffT (x :: l) := fun y hy => by
  rcases List.mem_cons.1 hy with rfl | e
  · exact h
  · exact k y e
theorem OffT.app {l m : List Cell} (h : OffT l) (k : OffT m) : OffT (l ++ m) := fun x hx => (List.mem_append.1 hx).elim (h x) (k x)
theorem Then.off {p : Nat} {to : To} {th : Value} {l : List Cell} (h : Then p to th l) : OffT l := by
  cases h <;> (repeat (refine OffT.cons (by simp) ?_)) <;> exact OffT.nil
theorem RowC.off {R : PL} {v : Value} {l : List Cell} (h : RowC R v l) : OffT l := by
  cases h <;> (repeat (refine OffT.cons (by simp) ?_)) <;> exact OffT.nil
theorem EShape.off {p : Nat} {R W : PL} {ph : Ph} {nx : Value} {l : List Cell} (h : EShape p R W ph nx l) : OffT l := by
  cases h with
  | checkSeq to th l ht b1 b2 b3 b4 b5 => exact OffT.app (by repeat (first | exact OffT.nil | refine OffT.cons (by simp) ?_)) ht.off
  | checkOne to g i th l ht v row hr bp bt bg br bi bs bl ba bx hbl => exact OffT.app (OffT.app (by repeat (first | exact OffT.nil | refine OffT.cons (by simp) ?_)) hr.off) ht.off
  | checkEnd to g th l ht bp bt bg bx => exact OffT.app (by repeat (first | exact OffT.nil | refine OffT.cons (by simp) ?_)) ht.off
  | _ => repeat (first | exact OffT.nil | refine OffT.cons (by simp) ?_)

/-- A path in memory: p its block, L its log's, E what lies behind its next step. -/
structure PathIn (w : World) (p g : Nat) (L : List Nat) (E : List Cell) (nx : Value) (bz : Bool) (r : Rq) (s : PS) : Prop where
  blk : Blk w p (pcells g r nx bz s.live s.writing s.snap s.value s.ended s.points) 69
  log : LogAt w g L s.R s.W
  pL : p ∉ L
  LE : Apart L (E.map (·.1))
  facts : Facts w E
def PathAt (w : World) (p : Nat) (F : List Nat) (s : PS) : Prop := ∃ g L E nx, PathIn w p g L E nx s.busy s.want s ∧ EShape p s.R s.W s.ph nx E ∧ F = p :: (L ++ E.map (·.1))

theorem facts_off {w : World} {p : Nat} {l : List Value} {E : List Cell} (hb : Blk w p l 69) (h : Facts w E) (ht : OffT E) : p ∉ E.map (·.1) := by
  intro hm
  obtain ⟨x, hx, rfl⟩ := List.mem_map.1 hm
  exact hb.ne (h x hx) (fun e => ht x hx e.symm) rfl

theorem PathAt.lt {w : World} {p : Nat} {F : List Nat} {s : PS} (h : PathAt w p F s) : ∀ x ∈ F, x < w.heap.size := by
  obtain ⟨g, L, E, nx, hi, hs, rfl⟩ := h
  intro x hx
  simp only [List.mem_cons, List.mem_append] at hx
  rcases hx with rfl | hx | hx
  · exact hi.blk.lt
  · exact hi.log.lt x hx
  · obtain ⟨y, hy, rfl⟩ := List.mem_map.1 hx; exact (hi.facts y hy).lt
theorem PathAt.chg {S : List Nat} {w w' : World} {p : Nat} {F : List Nat} {s : PS} (h : PathAt w p F s) (k : Chg S w w') (hs : Apart F S) : PathAt w' p F s := by
  obtain ⟨g, L, E, nx, hi, hsh, rfl⟩ := h
  exact ⟨g, L, E, nx, ⟨k.blk hi.blk (hs p (by simp)), hi.log.chg k (fun x hx => hs x (by simp [hx])), hi.pL, hi.LE, hi.facts.chg k (fun x hx => hs x.1 (by simp only [List.mem_cons, List.mem_append]; exact .inr (.inr (List.mem_map_of_mem hx))))⟩, hsh, rfl⟩
theorem PathAt.look {w w' : World} {p : Nat} {F : List Nat} {s : PS} (h : PathAt w p F s) (k : Chg [] w w') : PathAt w' p F s := h.chg k (Apart.nil_right _)

/-- A step is done: the log may have turned first, then the path's block and what lay behind its step. -/
theorem PathAt.next {w w1 w' : World} {p g : Nat} {L : List Nat} {E : List Cell} {nx : Value} {bz : Bool} {r : Rq} {s : PS} (h : PathIn w p g L E nx bz r s) {s' : PS} {L' : List Nat} {E' : List Cell} {nx' : Value}
    (hM : Mv L L' w w1) (hL : LogAt w1 g L' s'.R s'.W) (hC : Chg (p :: E.map (·.1)) w1 w')
    (hB : Blk w' p (pcells g s'.want nx' s'.busy s'.live s'.writing s'.snap s'.value s'.ended s'.points) 69)
    (hE : EShape p s'.R s'.W s'.ph nx' E') (hf : Facts w' E') (hn : ∀ x ∈ E', x.1 ∈ E.map (·.1) ∨ w1.heap.size ≤ x.1) (hpE : p ∉ E.map (·.1)) :
    ∃ F', PathAt w' p F' s' ∧ Mv (p :: (L ++ E.map (·.1))) F' w w' := by
  have hlt : ∀ x ∈ E.map (·.1), x < w.heap.size := by
    intro x hx; obtain ⟨y, hy, rfl⟩ := List.mem_map.1 hx; exact (h.facts y hy).lt
  have hA : Apart L' (p :: E.map (·.1)) := by
    intro x hx he
    rcases List.mem_cons.1 he with rfl | he
    · exact (hM.new x hx).elim h.pL (fun e => by have := h.blk.lt; omega)
    · exact (hM.new x hx).elim (fun e => h.LE x e he) (fun e => by have := hlt x he; omega)
  have hL2 := hL.chg hC hA
  refine ⟨_, ⟨g, L', E', nx', ⟨hB, hL2, fun hx => hA p hx (by simp), ?_, hf⟩, hE, rfl⟩, ⟨?_, ?_⟩⟩
  · intro x hx he
    obtain ⟨y, hy, rfl⟩ := List.mem_map.1 he
    exact (hn y hy).elim (fun e => hA _ hx (by simp only [List.mem_cons]; exact .inr e)) (fun e => by have := hL.lt _ hx; omega)
  · refine (hM.chg.mono (fun x hx => by simp [hx])).trans' (hC.mono (T := p :: (L ++ E.map (·.1))) (fun x hx => ?_)) (fun x hx _ => hx)
    simp only [List.mem_cons, List.mem_append] at hx ⊢
    exact hx.elim .inl (fun e => .inr (.inr e))
  · intro x hx
    simp only [List.mem_cons, List.mem_append] at hx ⊢
    rcases hx with rfl | hx | hx
    · exact .inl (.inl rfl)
    · exact (hM.new x hx).elim (fun e => .inl (.inr (.inl e))) .inr
    · obtain ⟨y, hy, rfl⟩ := List.mem_map.1 hx
      exact (hn y hy).elim (fun e => .inl (.inr (.inr e))) (fun e => .inr (Nat.le_trans hM.chg.size e))

/-- The same where the log stays. -/
theorem PathAt.step {w w' : World} {p g : Nat} {L : List Nat} {E : List Cell} {nx : Value} {bz : Bool} {r : Rq} {s : PS} (h : PathIn w p g L E nx bz r s) {s' : PS} {E' : List Cell} {nx' : Value}
    (hR : s'.R = s.R) (hW : s'.W = s.W) (hC : Chg (p :: E.map (·.1)) w w')
    (hB : Blk w' p (pcells g s'.want nx' s'.busy s'.live s'.writing s'.snap s'.value s'.ended s'.points) 69)
    (hE : EShape p s'.R s'.W s'.ph nx' E') (hf : Facts w' E') (hn : ∀ x ∈ E', x.1 ∈ E.map (·.1) ∨ w.heap.size ≤ x.1) (hpE : p ∉ E.map (·.1)) :
    ∃ F', PathAt w' p F' s' ∧ Mv (p :: (L ++ E.map (·.1))) F' w w' :=
  PathAt.next h (Mv.refl L w) (by rw [hR, hW]; exact h.log) hC hB hE hf hn hpE

def SNewPost (w : World) (e : Ending) (w' : World) : Prop := ∃ p F, e = .returned (.pointer (some ⟨p, 0, none⟩)) ∧ PathAt w' p F {} ∧ Mv [] F w w'
theorem SNew_any (w : World) : Calls Try.prog 13 #[] w (SNewPost w) := by
  go_enter Try.func13, Try.ntmps13
  go_wp2_with fail
  refine (New_any w).mono ?_
  rintro e w1 ⟨g, L, rfl, hL, hM⟩
  have HL := Lib.hid hL
  have HM := Lib.hid hM
  clear hL hM
  go_wp2_with fail
  go_ret
  have hb := Blk.new w1 (pcells g ⟨0, 0, 0, 0⟩ .nilFunc false false false 0 0 0 0) 69
  have hlt := HL.out.lt
  refine ⟨w1.heap.size, _, rfl, ⟨g, L, [], .nilFunc, ⟨hb, HL.out.look ((Chg.refl _ _).alloc _), (fun h => by have := hlt _ h; omega), (fun x _ h => by cases h), Facts.nil _⟩, .idle, rfl⟩, ⟨HM.out.chg.alloc _, ?_⟩⟩
  intro x hx
  simp only [List.map_nil, List.append_nil, List.mem_cons] at hx
  rcases hx with rfl | hx
  · exact .inr HM.out.chg.size
  · exact HM.out.new x hx

end Go.Proofs.Ytilffolppnnkaaa
