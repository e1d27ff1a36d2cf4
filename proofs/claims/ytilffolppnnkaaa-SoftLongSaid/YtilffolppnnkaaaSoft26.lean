/- The document's path of layer 8: the calls that begin an operation. -/
import Derived.Test.YtilffolppnnkaaaSDoc1
import Derived.Test.YtilffolppnnkaaaSoft18
namespace Go.Proofs.Ytilffolppnnkaaa
set_option maxRecDepth 100000
open Go.RowKit

/-- What a path of the document's has beside its words. -/
structure DX where
  at_ : Int
  n : Int
  a : Int
  v : Int
  g : Int
  i : Int
  to : Int
  how : Int
def dcells (x : DX) (s : PS) (r u : Value) : List Value :=
  [.int .i64 x.at_, .int .u64 x.n, .int .i64 x.a, .int .u64 x.v, .int .u64 x.g, .int .i64 x.i, .int .i64 x.to, .int .i64 x.how, .int .u64 s.snap, .int .u64 s.value, r, u, .bool s.live, .bool s.writing, .int .i64 s.ended, .int .i64 s.points]
def DocTo (x : DX) : To → Prop
  | .fetch a => x.to = 4 ∧ x.a = a
  | .take => x.to = 9
/-- Where it is. -/
def DocPh (x : DX) : Ph → Prop
  | .idle => x.at_ = 0
  | .beginN => x.at_ = 1
  | .beginCas n => x.at_ = 2 ∧ x.n = n
  | .beginSeq => x.at_ = 3
  | .loadWord a => x.at_ = 4 ∧ x.a = a
  | .loadSeq a v => x.at_ = 5 ∧ x.a = a ∧ x.v = v
  | .checkSeq to => x.at_ = 6 ∧ DocTo x to
  | .checkOne to g i => x.at_ = 7 ∧ DocTo x to ∧ x.g = g ∧ x.i = i
  | .checkEnd to g => x.at_ = 8 ∧ DocTo x to ∧ x.g = g
  | .take => x.at_ = 9
  | .back i => x.at_ = 10 ∧ x.i = i
  | .release => x.at_ = 11
  | .leaveN how => x.at_ = 12 ∧ x.how = how
  | .leaveCas how n => x.at_ = 13 ∧ x.how = how ∧ x.n = n
theorem DocPh.idle {x : DX} {ph : Ph} (h : DocPh x ph) : (ph.busy = false → x.at_ = 0) ∧ (ph.busy = true → x.at_ ≠ 0) := by
  cases ph <;> refine ⟨fun e => ?_, fun e => ?_⟩ <;> simp only [DocPh] at h <;> first | exact h | (simp [Ph.busy] at e; done) | omega

/-- The document's path in memory. -/
def DAt (w : World) (N : List Nat) (d : Nat) (s : PS) : Prop := ∃ x r u, r.l = s.R ∧ u.l = s.W ∧ Blk w d (dcells x s r.val u.val) 60 ∧ FzP w N r ∧ FzP w N u ∧ DocPh x s.ph
theorem DAt.mk' {w w' : World} {N : List Nat} {d : Nat} {r u : SlP} {s' : PS} (x' : DX) (h1 : r.l = s'.R) (h2 : u.l = s'.W) (hF : FzP w N r) (hG : FzP w N u) (hd : d ∈ N) (hC : Chg [d] w w')
    (hB : Blk w' d (dcells x' s' r.val u.val) 60) (hp : DocPh x' s'.ph) : DAt w' N d s' ∧ Chg [d] w w' :=
  ⟨⟨x', r, u, h1, h2, hB, hF.step (hC.mono (fun y hy => by simp at hy; subst hy; exact hd)) (fun y hy => .inl hy), hG.step (hC.mono (fun y hy => by simp at hy; subst hy; exact hd)) (fun y hy => .inl hy), hp⟩, hC⟩
def DPost (w : World) (N : List Nat) (d : Nat) (s : PS) (er : Int) (e : Ending) (w' : World) : Prop := e = .returned (.int .i64 er) ∧ DAt w' N d s ∧ Chg [d] w w'
def nilP : SlP := ⟨none, 0, []⟩
theorem nilP_fz (w : World) (N : List Nat) : FzP w N nilP := ⟨Nat.le_refl _, Nat.zero_le _, fun _ => rfl, Rd.nil _ _ _ _ _, fun a (h : (none : Option Addr) = some a) => (by cases h), fun a (h : (none : Option Addr) = some a) => (by cases h)⟩

theorem dready_any (w : World) (d : Nat) (x : DX) (s : PS) (r u : Value) (h : Blk w d (dcells x s r u) 60) (hp : DocPh x s.ph) :
    Calls Try.prog 79 #[.pointer (some ⟨d, 0, none⟩)] w fun e w' => e = .returned (.bool s.ready) ∧ w = w' := by
  have dc0 : (w).cell? ⟨d, 0, none⟩ = some (.int .i64 x.at_) := (h).cell 0; have df0 : (w).frozen? ⟨d, 0, none⟩ = false := (h).free 0; have dc1 : (w).cell? ⟨d, 1, none⟩ = some (.int .u64 x.n) := (h).cell 1; have df1 : (w).frozen? ⟨d, 1, none⟩ = false := (h).free 1; have dc2 : (w).cell? ⟨d, 2, none⟩ = some (.int .i64 x.a) := (h).cell 2; have df2 : (w).frozen? ⟨d, 2, none⟩ = false := (h).free 2; have dc3 : (w).cell? ⟨d, 3, none⟩ = some (.int .u64 x.v) := (h).cell 3; have df3 : (w).frozen? ⟨d, 3, none⟩ = false := (h).free 3; have dc4 : (w).cell? ⟨d, 4, none⟩ = some (.int .u64 x.g) := (h).cell 4; have df4 : (w).frozen? ⟨d, 4, none⟩ = false := (h).free 4; have dc5 : (w).cell? ⟨d, 5, none⟩ = some (.int .i64 x.i) := (h).cell 5; have df5 : (w).frozen? ⟨d, 5, none⟩ = false := (h).free 5; have dc6 : (w).cell? ⟨d, 6, none⟩ = some (.int .i64 x.to) := (h).cell 6; have df6 : (w).frozen? ⟨d, 6, none⟩ = false := (h).free 6; have dc7 : (w).cell? ⟨d, 7, none⟩ = some (.int .i64 x.how) := (h).cell 7; have df7 : (w).frozen? ⟨d, 7, none⟩ = false := (h).free 7; have dc8 : (w).cell? ⟨d, 8, none⟩ = some (.int .u64 s.snap) := (h).cell 8; have df8 : (w).frozen? ⟨d, 8, none⟩ = false := (h).free 8; have dc9 : (w).cell? ⟨d, 9, none⟩ = some (.int .u64 s.value) := (h).cell 9; have df9 : (w).frozen? ⟨d, 9, none⟩ = false := (h).free 9; have dc10 : (w).cell? ⟨d, 10, none⟩ = some (r) := (h).cell 10; have df10 : (w).frozen? ⟨d, 10, none⟩ = false := (h).free 10; have dc11 : (w).cell? ⟨d, 11, none⟩ = some (u) := (h).cell 11; have df11 : (w).frozen? ⟨d, 11, none⟩ = false := (h).free 11; have dc12 : (w).cell? ⟨d, 12, none⟩ = some (.bool s.live) := (h).cell 12; have df12 : (w).frozen? ⟨d, 12, none⟩ = false := (h).free 12; have dc13 : (w).cell? ⟨d, 13, none⟩ = some (.bool s.writing) := (h).cell 13; have df13 : (w).frozen? ⟨d, 13, none⟩ = false := (h).free 13; have dc14 : (w).cell? ⟨d, 14, none⟩ = some (.int .i64 s.ended) := (h).cell 14; have df14 : (w).frozen? ⟨d, 14, none⟩ = false := (h).free 14; have dc15 : (w).cell? ⟨d, 15, none⟩ = some (.int .i64 s.points) := (h).cell 15; have df15 : (w).frozen? ⟨d, 15, none⟩ = false := (h).free 15
  have hi := hp.idle
  have hr : s.ready = !(s.ph.busy || !s.live) := rfl
  clear h hp
  cases hb : s.ph.busy with
  | true =>
    have h0 : (x.at_ == 0) = false := by have := hi.2 hb; simpa using this
    have HR := Lib.hid (show s.ready = false from by rw [hr, hb]; rfl)
    clear hi hr
    go_enter Try.func79, Try.ntmps79
    go_wp2_with fail
    go_ret
    exact ⟨by rw [HR.out]; rfl, rfl⟩
  | false =>
    have h0 := hi.1 hb
    rw [h0] at dc0
    have HR := Lib.hid (show s.ready = s.live from by rw [hr, hb]; simp)
    clear hi hr h0
    go_enter Try.func79, Try.ntmps79
    go_wp2_with fail
    go_ret
    exact ⟨by rw [HR.out]; rfl, rfl⟩

theorem dleave_any (w : World) (d : Nat) (x : DX) (s : PS) (r u : Value) (how : Int) (h : Blk w d (dcells x s r u) 60) :
    Calls Try.prog 82 #[.pointer (some ⟨d, 0, none⟩), .int .i64 how] w fun e w' => e = .returned (.tuple #[]) ∧ Blk w' d (dcells { x with how := how, at_ := 12 } s r u) 60 ∧ Chg [d] w w' := by
  have HB := Lib.hid h
  have dc0 : (w).cell? ⟨d, 0, none⟩ = some (.int .i64 x.at_) := (h).cell 0; have df0 : (w).frozen? ⟨d, 0, none⟩ = false := (h).free 0; have dc1 : (w).cell? ⟨d, 1, none⟩ = some (.int .u64 x.n) := (h).cell 1; have df1 : (w).frozen? ⟨d, 1, none⟩ = false := (h).free 1; have dc2 : (w).cell? ⟨d, 2, none⟩ = some (.int .i64 x.a) := (h).cell 2; have df2 : (w).frozen? ⟨d, 2, none⟩ = false := (h).free 2; have dc3 : (w).cell? ⟨d, 3, none⟩ = some (.int .u64 x.v) := (h).cell 3; have df3 : (w).frozen? ⟨d, 3, none⟩ = false := (h).free 3; have dc4 : (w).cell? ⟨d, 4, none⟩ = some (.int .u64 x.g) := (h).cell 4; have df4 : (w).frozen? ⟨d, 4, none⟩ = false := (h).free 4; have dc5 : (w).cell? ⟨d, 5, none⟩ = some (.int .i64 x.i) := (h).cell 5; have df5 : (w).frozen? ⟨d, 5, none⟩ = false := (h).free 5; have dc6 : (w).cell? ⟨d, 6, none⟩ = some (.int .i64 x.to) := (h).cell 6; have df6 : (w).frozen? ⟨d, 6, none⟩ = false := (h).free 6; have dc7 : (w).cell? ⟨d, 7, none⟩ = some (.int .i64 x.how) := (h).cell 7; have df7 : (w).frozen? ⟨d, 7, none⟩ = false := (h).free 7; have dc8 : (w).cell? ⟨d, 8, none⟩ = some (.int .u64 s.snap) := (h).cell 8; have df8 : (w).frozen? ⟨d, 8, none⟩ = false := (h).free 8; have dc9 : (w).cell? ⟨d, 9, none⟩ = some (.int .u64 s.value) := (h).cell 9; have df9 : (w).frozen? ⟨d, 9, none⟩ = false := (h).free 9; have dc10 : (w).cell? ⟨d, 10, none⟩ = some (r) := (h).cell 10; have df10 : (w).frozen? ⟨d, 10, none⟩ = false := (h).free 10; have dc11 : (w).cell? ⟨d, 11, none⟩ = some (u) := (h).cell 11; have df11 : (w).frozen? ⟨d, 11, none⟩ = false := (h).free 11; have dc12 : (w).cell? ⟨d, 12, none⟩ = some (.bool s.live) := (h).cell 12; have df12 : (w).frozen? ⟨d, 12, none⟩ = false := (h).free 12; have dc13 : (w).cell? ⟨d, 13, none⟩ = some (.bool s.writing) := (h).cell 13; have df13 : (w).frozen? ⟨d, 13, none⟩ = false := (h).free 13; have dc14 : (w).cell? ⟨d, 14, none⟩ = some (.int .i64 s.ended) := (h).cell 14; have df14 : (w).frozen? ⟨d, 14, none⟩ = false := (h).free 14; have dc15 : (w).cell? ⟨d, 15, none⟩ = some (.int .i64 s.points) := (h).cell 15; have df15 : (w).frozen? ⟨d, 15, none⟩ = false := (h).free 15
  clear h
  go_enter Try.func82, Try.ntmps82
  go_wp2_with fail
  go_end0
  exact ⟨rfl, (HB.out.set 7 _).set 0 _, (by repeat (first | with_reducible exact Chg.refl _ _ | with_reducible refine Chg.setCell ?_ (by simp) _ | with_reducible refine Chg.drew ?_))⟩

theorem dBegin_any (w : World) (N : List Nat) (d : Nat) (s : PS) (hd : d ∈ N) (h : DAt w N d s) :
    Calls Try.prog 48 #[.pointer (some ⟨d, 0, none⟩)] w (DPost w N d s.begin s.berr) := by
  have HS := Lib.hid h
  obtain ⟨x, r, u, h1, h2, hb, hF, hG, hp⟩ := h
  have HB := Lib.hid hb
  have HFG := Lib.hid (And.intro hF (And.intro hG hd))
  have HX := Lib.hid hp
  have dc0 : (w).cell? ⟨d, 0, none⟩ = some (.int .i64 x.at_) := (hb).cell 0; have df0 : (w).frozen? ⟨d, 0, none⟩ = false := (hb).free 0; have dc1 : (w).cell? ⟨d, 1, none⟩ = some (.int .u64 x.n) := (hb).cell 1; have df1 : (w).frozen? ⟨d, 1, none⟩ = false := (hb).free 1; have dc2 : (w).cell? ⟨d, 2, none⟩ = some (.int .i64 x.a) := (hb).cell 2; have df2 : (w).frozen? ⟨d, 2, none⟩ = false := (hb).free 2; have dc3 : (w).cell? ⟨d, 3, none⟩ = some (.int .u64 x.v) := (hb).cell 3; have df3 : (w).frozen? ⟨d, 3, none⟩ = false := (hb).free 3; have dc4 : (w).cell? ⟨d, 4, none⟩ = some (.int .u64 x.g) := (hb).cell 4; have df4 : (w).frozen? ⟨d, 4, none⟩ = false := (hb).free 4; have dc5 : (w).cell? ⟨d, 5, none⟩ = some (.int .i64 x.i) := (hb).cell 5; have df5 : (w).frozen? ⟨d, 5, none⟩ = false := (hb).free 5; have dc6 : (w).cell? ⟨d, 6, none⟩ = some (.int .i64 x.to) := (hb).cell 6; have df6 : (w).frozen? ⟨d, 6, none⟩ = false := (hb).free 6; have dc7 : (w).cell? ⟨d, 7, none⟩ = some (.int .i64 x.how) := (hb).cell 7; have df7 : (w).frozen? ⟨d, 7, none⟩ = false := (hb).free 7; have dc8 : (w).cell? ⟨d, 8, none⟩ = some (.int .u64 s.snap) := (hb).cell 8; have df8 : (w).frozen? ⟨d, 8, none⟩ = false := (hb).free 8; have dc9 : (w).cell? ⟨d, 9, none⟩ = some (.int .u64 s.value) := (hb).cell 9; have df9 : (w).frozen? ⟨d, 9, none⟩ = false := (hb).free 9; have dc10 : (w).cell? ⟨d, 10, none⟩ = some (r.val) := (hb).cell 10; have df10 : (w).frozen? ⟨d, 10, none⟩ = false := (hb).free 10; have dc11 : (w).cell? ⟨d, 11, none⟩ = some (u.val) := (hb).cell 11; have df11 : (w).frozen? ⟨d, 11, none⟩ = false := (hb).free 11; have dc12 : (w).cell? ⟨d, 12, none⟩ = some (.bool s.live) := (hb).cell 12; have df12 : (w).frozen? ⟨d, 12, none⟩ = false := (hb).free 12; have dc13 : (w).cell? ⟨d, 13, none⟩ = some (.bool s.writing) := (hb).cell 13; have df13 : (w).frozen? ⟨d, 13, none⟩ = false := (hb).free 13; have dc14 : (w).cell? ⟨d, 14, none⟩ = some (.int .i64 s.ended) := (hb).cell 14; have df14 : (w).frozen? ⟨d, 14, none⟩ = false := (hb).free 14; have dc15 : (w).cell? ⟨d, 15, none⟩ = some (.int .i64 s.points) := (hb).cell 15; have df15 : (w).frozen? ⟨d, 15, none⟩ = false := (hb).free 15
  have hi := hp.idle
  clear h1 h2 hb hF hG hp hd
  cases hbz : s.ph.busy with
  | true =>
    have h0 : (x.at_ != 0) = true := by have := hi.2 hbz; simpa using this
    have HE := Lib.hid (show s.berr = 80 ∧ s.begin = s from by constructor <;> simp [PS.berr, PS.begin, PS.busy, hbz])
    clear hi
    go_enter Try.func48, Try.ntmps48
    go_wp2_with fail
    go_ret
    exact ⟨by rw [HE.out.1]; rfl, by rw [HE.out.2]; exact HS.out, Chg.refl _ _⟩
  | false =>
    have h0 := hi.1 hbz
    rw [h0] at dc0
    cases hl : s.live with
    | true =>
      rw [hl] at dc12
      have HE := Lib.hid (show s.berr = 80 ∧ s.begin = s from by constructor <;> simp [PS.berr, PS.begin, PS.busy, hbz, hl])
      clear hi h0
      go_enter Try.func48, Try.ntmps48
      go_wp2_with fail
      go_ret
      exact ⟨by rw [HE.out.1]; rfl, by rw [HE.out.2]; exact HS.out, Chg.refl _ _⟩
    | false =>
      rw [hl] at dc12
      have HE := Lib.hid (show s.berr = 0 ∧ s.begin = { s with R := [], W := [], value := 0, ended := 0, ph := .beginN } from by constructor <;> simp [PS.berr, PS.begin, PS.busy, hbz, hl])
      clear hi h0
      go_enter Try.func48, Try.ntmps48
      go_wp2_with fail
      go_ret
      refine ⟨by rw [HE.out.1]; rfl, ?_⟩
      rw [HE.out.2]
      exact DAt.mk' (r := nilP) (u := nilP) { x with at_ := 1 } rfl rfl (nilP_fz _ _) (nilP_fz _ _) HFG.out.2.2 (by repeat (first | with_reducible exact Chg.refl _ _ | with_reducible refine Chg.setCell ?_ (by simp) _ | with_reducible refine Chg.drew ?_)) (((((HB.out.set 10 _).set 11 _).set 9 _).set 14 _).set 0 _) rfl

theorem dQuit_any (w : World) (N : List Nat) (d : Nat) (s : PS) (hd : d ∈ N) (h : DAt w N d s) :
    Calls Try.prog 52 #[.pointer (some ⟨d, 0, none⟩)] w (DPost w N d s.quit s.rerr) := by
  have HS := Lib.hid h
  obtain ⟨x, r, u, h1, h2, hb, hF, hG, hp⟩ := h
  have HR := Lib.hid (dready_any w d x s _ _ hb hp)
  have HL := Lib.hid (dleave_any w d x s _ _ 3 hb)
  have HFG := Lib.hid (And.intro hF (And.intro hG hd))
  have H12 := Lib.hid (And.intro h1 h2)
  clear h1 h2 hb hF hG hp hd
  cases hr : s.ready with
  | true =>
    rw [hr] at HR
    have HE := Lib.hid (show s.rerr = 0 ∧ s.quit = { s with ph := .leaveN 3 } from by simp [PS.rerr, PS.quit, hr])
    clear hr
    go_enter Try.func52, Try.ntmps52
    go_wp2_with fail
    refine HR.out.mono ?_
    rintro e w' ⟨rfl, rfl⟩
    go_wp2_with fail
    refine HL.out.mono ?_
    rintro e w1 ⟨rfl, hb1, hC1⟩
    have HB1 := Lib.hid hb1
    have HC1 := Lib.hid hC1
    clear hb1 hC1
    go_wp2_with fail
    go_ret
    refine ⟨by rw [HE.out.1]; rfl, ?_⟩
    rw [HE.out.2]
    exact DAt.mk' { x with how := 3, at_ := 12 } H12.out.1 H12.out.2 HFG.out.1 HFG.out.2.1 HFG.out.2.2 HC1.out HB1.out ⟨rfl, rfl⟩
  | false =>
    rw [hr] at HR
    have HE := Lib.hid (show s.rerr = 80 ∧ s.quit = s from by simp [PS.rerr, PS.quit, hr])
    clear hr
    go_enter Try.func52, Try.ntmps52
    go_wp2_with fail
    refine HR.out.mono ?_
    rintro e w' ⟨rfl, rfl⟩
    go_wp2_with fail
    go_ret
    exact ⟨by rw [HE.out.1]; rfl, by rw [HE.out.2]; exact HS.out, Chg.refl _ _⟩

theorem dCommit_any (w : World) (N : List Nat) (d : Nat) (s : PS) (hd : d ∈ N) (h : DAt w N d s) :
    Calls Try.prog 51 #[.pointer (some ⟨d, 0, none⟩)] w (DPost w N d s.commit s.rerr) := by
  have HS := Lib.hid h
  obtain ⟨x, r, u, h1, h2, hb, hF, hG, hp⟩ := h
  have HR := Lib.hid (dready_any w d x s _ _ hb hp)
  have HL := Lib.hid (dleave_any w d x s _ _ 1 hb)
  have HB := Lib.hid hb
  have HFG := Lib.hid (And.intro hF (And.intro hG hd))
  have H12 := Lib.hid (And.intro h1 h2)
  have dc0 : (w).cell? ⟨d, 0, none⟩ = some (.int .i64 x.at_) := (hb).cell 0; have df0 : (w).frozen? ⟨d, 0, none⟩ = false := (hb).free 0; have dc1 : (w).cell? ⟨d, 1, none⟩ = some (.int .u64 x.n) := (hb).cell 1; have df1 : (w).frozen? ⟨d, 1, none⟩ = false := (hb).free 1; have dc2 : (w).cell? ⟨d, 2, none⟩ = some (.int .i64 x.a) := (hb).cell 2; have df2 : (w).frozen? ⟨d, 2, none⟩ = false := (hb).free 2; have dc3 : (w).cell? ⟨d, 3, none⟩ = some (.int .u64 x.v) := (hb).cell 3; have df3 : (w).frozen? ⟨d, 3, none⟩ = false := (hb).free 3; have dc4 : (w).cell? ⟨d, 4, none⟩ = some (.int .u64 x.g) := (hb).cell 4; have df4 : (w).frozen? ⟨d, 4, none⟩ = false := (hb).free 4; have dc5 : (w).cell? ⟨d, 5, none⟩ = some (.int .i64 x.i) := (hb).cell 5; have df5 : (w).frozen? ⟨d, 5, none⟩ = false := (hb).free 5; have dc6 : (w).cell? ⟨d, 6, none⟩ = some (.int .i64 x.to) := (hb).cell 6; have df6 : (w).frozen? ⟨d, 6, none⟩ = false := (hb).free 6; have dc7 : (w).cell? ⟨d, 7, none⟩ = some (.int .i64 x.how) := (hb).cell 7; have df7 : (w).frozen? ⟨d, 7, none⟩ = false := (hb).free 7; have dc8 : (w).cell? ⟨d, 8, none⟩ = some (.int .u64 s.snap) := (hb).cell 8; have df8 : (w).frozen? ⟨d, 8, none⟩ = false := (hb).free 8; have dc9 : (w).cell? ⟨d, 9, none⟩ = some (.int .u64 s.value) := (hb).cell 9; have df9 : (w).frozen? ⟨d, 9, none⟩ = false := (hb).free 9; have dc10 : (w).cell? ⟨d, 10, none⟩ = some (r.val) := (hb).cell 10; have df10 : (w).frozen? ⟨d, 10, none⟩ = false := (hb).free 10; have dc11 : (w).cell? ⟨d, 11, none⟩ = some (.slice u.A u.l.length u.cap) := (hb).cell 11; have df11 : (w).frozen? ⟨d, 11, none⟩ = false := (hb).free 11; have dc12 : (w).cell? ⟨d, 12, none⟩ = some (.bool s.live) := (hb).cell 12; have df12 : (w).frozen? ⟨d, 12, none⟩ = false := (hb).free 12; have dc13 : (w).cell? ⟨d, 13, none⟩ = some (.bool s.writing) := (hb).cell 13; have df13 : (w).frozen? ⟨d, 13, none⟩ = false := (hb).free 13; have dc14 : (w).cell? ⟨d, 14, none⟩ = some (.int .i64 s.ended) := (hb).cell 14; have df14 : (w).frozen? ⟨d, 14, none⟩ = false := (hb).free 14; have dc15 : (w).cell? ⟨d, 15, none⟩ = some (.int .i64 s.points) := (hb).cell 15; have df15 : (w).frozen? ⟨d, 15, none⟩ = false := (hb).free 15
  clear h1 h2 hb hF hG hp hd
  cases hr : s.ready with
  | true =>
    rw [hr] at HR
    by_cases hW : s.W = []
    · have HE := Lib.hid (show s.rerr = 0 ∧ s.commit = { s with ph := .leaveN 1 } from by simp [PS.rerr, PS.commit, hr, hW])
      have hl0 : u.l.length = 0 := by rw [H12.out.2, hW]; rfl
      rw [hl0] at dc11
      clear hr hW hl0
      go_enter Try.func51, Try.ntmps51
      go_wp2_with fail
      refine HR.out.mono ?_
      rintro e w' ⟨rfl, rfl⟩
      go_wp2_with fail
      refine HL.out.mono ?_
      rintro e w1 ⟨rfl, hb1, hC1⟩
      have HB1 := Lib.hid hb1
      have HC1 := Lib.hid hC1
      clear hb1 hC1
      go_wp2_with fail
      go_ret
      refine ⟨by rw [HE.out.1]; rfl, ?_⟩
      rw [HE.out.2]
      exact DAt.mk' { x with how := 1, at_ := 12 } H12.out.1 H12.out.2 HFG.out.1 HFG.out.2.1 HFG.out.2.2 HC1.out HB1.out ⟨rfl, rfl⟩
    · have HE := Lib.hid (show s.rerr = 0 ∧ s.commit = { s with ph := .take } from by simp [PS.rerr, PS.commit, hr, hW])
      have hl : ((u.l.length : Int) == 0) = false := by rw [H12.out.2]; simpa using hW
      have hl2 : ¬ ((u.l.length : Int) = 0) := by simpa using hl
      clear hr hW
      go_enter Try.func51, Try.ntmps51
      go_wp2_with fail
      refine HR.out.mono ?_
      rintro e w' ⟨rfl, rfl⟩
      go_wp2_with fail
      go_ret
      refine ⟨by rw [HE.out.1]; rfl, ?_⟩
      rw [HE.out.2]
      exact DAt.mk' { x with at_ := 9 } H12.out.1 H12.out.2 HFG.out.1 HFG.out.2.1 HFG.out.2.2 (by repeat (first | with_reducible exact Chg.refl _ _ | with_reducible refine Chg.setCell ?_ (by simp) _ | with_reducible refine Chg.drew ?_)) (HB.out.set 0 _) rfl
  | false =>
    rw [hr] at HR
    have HE := Lib.hid (show s.rerr = 80 ∧ s.commit = s from by simp [PS.rerr, PS.commit, hr])
    clear hr
    go_enter Try.func51, Try.ntmps51
    go_wp2_with fail
    refine HR.out.mono ?_
    rintro e w' ⟨rfl, rfl⟩
    go_wp2_with fail
    go_ret
    exact ⟨by rw [HE.out.1]; rfl, by rw [HE.out.2]; exact HS.out, Chg.refl _ _⟩

end Go.Proofs.Ytilffolppnnkaaa
