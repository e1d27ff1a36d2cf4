/- A path of layer 8: what an answer makes of it, place by place. -/
import Derived.Test.YtilffolppnnkaaaSoft9
namespace Go.Proofs.Ytilffolppnnkaaa
set_option maxRecDepth 100000
open Go.RowKit

theorem gv_beginCas_yes {w : World} {p g : Nat} {L : List Nat} {E : List Cell} {nx : Value} {s : PS} {n : Int} {v : Int} {ok : Bool} (hph : s.ph = .beginCas n) (hok : ok = true) (h : PathIn w p g L E nx s.busy s.want s) (hs : EShape p s.R s.W (.beginCas n) nx E) :
    Calls Try.prog 24 #[.pointer (some ⟨p, 0, none⟩), .int .u64 v, .bool ok] w fun e w' => e = .returned (.int .i64 0) ∧ GavePost w p (p :: (L ++ E.map (·.1))) ({ s with ph := .beginSeq }) w' := by
  have hoff := hs.off
  cases hs with
  | beginCas n b1 b2 b3 b4 =>
    refine give_gen w p g _ v ok _ (fun _ _ => by kernel_rfl : Plain 89) b4 _ _ _ _ _ _ _ _ h.blk fun w1 hC hB => ?_
    have G1 := h.facts.chg hC (offp h.blk h.facts hoff)
    subst hok
    refine cas1_any w1 b4 v true _ (fun _ _ => by kernel_rfl : Plain 62) #[] _ _ G1.n3 ?_
    refine count11_yes w1 _ (fun _ _ => by kernel_rfl : Plain 39) _ #[] b1 b2 b3 _ G1.n2 ?_
    refine (wait_any w1 p g _ _ _ _ _ _ _ _ _ hB).mono ?_
    rintro e w' ⟨rfl, h1, h2, h3, h4, h5⟩
    refine ⟨rfl, gave h hoff hC rfl rfl (h5.mono (by simp)) ?_ (.beginSeq w1.heap.size (w1.heap.size + 1) (w1.heap.size + 1 + 1)) ?_⟩
    · simp only [PS.busy, hph] at h1; exact h1
    · exact Grew.fresh h2 (Nat.le_refl _) (Grew.fresh h3 (by simp) (Grew.fresh h4 (by simp; omega) (Grew.nil _ _ _)))

theorem gv_beginCas_no {w : World} {p g : Nat} {L : List Nat} {E : List Cell} {nx : Value} {s : PS} {n : Int} {v : Int} {ok : Bool} (hph : s.ph = .beginCas n) (hok : ok = false) (h : PathIn w p g L E nx s.busy s.want s) (hs : EShape p s.R s.W (.beginCas n) nx E) :
    Calls Try.prog 24 #[.pointer (some ⟨p, 0, none⟩), .int .u64 v, .bool ok] w fun e w' => e = .returned (.int .i64 0) ∧ GavePost w p (p :: (L ++ E.map (·.1))) ({ s with ph := .beginN }) w' := by
  have hoff := hs.off
  cases hs with
  | beginCas n b1 b2 b3 b4 =>
    refine give_gen w p g _ v ok _ (fun _ _ => by kernel_rfl : Plain 89) b4 _ _ _ _ _ _ _ _ h.blk fun w1 hC hB => ?_
    have G1 := h.facts.chg hC (offp h.blk h.facts hoff)
    subst hok
    refine cas1_any w1 b4 v false _ (fun _ _ => by kernel_rfl : Plain 62) #[] _ _ G1.n3 ?_
    refine (count11_no w1 p g _ _ 1 _ _ _ b1 b2 b3 _ _ _ _ _ _ _ hB G1.n0 G1.n1 G1.n2).mono ?_
    rintro e w' ⟨rfl, h1, h2, h3, h4, h5, h6⟩
    refine ⟨rfl, gave h hoff hC rfl rfl (h6.mono (by simp)) ?_ (.beginN w1.heap.size (w1.heap.size + 1) (w1.heap.size + 1 + 1) (w1.heap.size + 1 + 1 + 1)) ?_⟩
    · simp only [PS.busy, hph] at h1; exact h1
    · exact Grew.fresh h2 (Nat.le_refl _) (Grew.fresh h3 (by simp) (Grew.fresh h4 (by simp; omega) (Grew.fresh h5 (by simp; omega) (Grew.nil _ _ _))))

theorem gv_beginSeq_odd {w : World} {p g : Nat} {L : List Nat} {E : List Cell} {nx : Value} {s : PS} {v : Int} {ok : Bool} (hph : s.ph = .beginSeq) (hv : w64ok v) (hodd : v % 2 = 1) (h : PathIn w p g L E nx s.busy s.want s) (hs : EShape p s.R s.W (.beginSeq) nx E) :
    Calls Try.prog 24 #[.pointer (some ⟨p, 0, none⟩), .int .u64 v, .bool ok] w fun e w' => e = .returned (.int .i64 0) ∧ GavePost w p (p :: (L ++ E.map (·.1))) (s) w' := by
  have hoff := hs.off
  cases hs with
  | beginSeq b1 b2 b3 =>
    refine give_gen w p g _ v ok _ (fun _ _ => by kernel_rfl : Plain 88) b3 _ _ _ _ _ _ _ _ h.blk fun w1 hC hB => ?_
    have G1 := h.facts.chg hC (offp h.blk h.facts hoff)
    refine load1_any w1 b3 v ok _ (fun _ _ => by kernel_rfl : Plain 90) #[] _ _ G1.n2 ?_
    refine (settle1_odd w1 p g _ _ v hv.1 hodd _ _ _ b1 b2 _ _ _ _ _ _ _ hB G1.n0 G1.n1).mono ?_
    rintro e w' ⟨rfl, h1, h2, h3, h4, h5⟩
    refine ⟨rfl, gave h hoff hC rfl rfl (h5.mono (by simp)) ?_ (by rw [hph]; exact .beginSeq w1.heap.size (w1.heap.size + 1) (w1.heap.size + 1 + 1)) ?_⟩
    · rw [show s.want = ⟨1, 0, 0, 0⟩ from by simp only [PS.want, hph, wantOf]]; exact h1
    · exact Grew.fresh h2 (Nat.le_refl _) (Grew.fresh h3 (by simp) (Grew.fresh h4 (by simp; omega) (Grew.nil _ _ _)))

theorem gv_beginSeq_even {w : World} {p g : Nat} {L : List Nat} {E : List Cell} {nx : Value} {s : PS} {v : Int} {ok : Bool} (hph : s.ph = .beginSeq) (hv : w64ok v) (hev : v % 2 = 0) (h : PathIn w p g L E nx s.busy s.want s) (hs : EShape p s.R s.W (.beginSeq) nx E) :
    Calls Try.prog 24 #[.pointer (some ⟨p, 0, none⟩), .int .u64 v, .bool ok] w fun e w' => e = .returned (.int .i64 0) ∧ GavePost w p (p :: (L ++ E.map (·.1))) ({ s with ph := .idle, snap := v, points := wrap64 (s.points + 1), live := true }) w' := by
  have hoff := hs.off
  cases hs with
  | beginSeq b1 b2 b3 =>
    refine give_gen w p g _ v ok _ (fun _ _ => by kernel_rfl : Plain 88) b3 _ _ _ _ _ _ _ _ h.blk fun w1 hC hB => ?_
    have G1 := h.facts.chg hC (offp h.blk h.facts hoff)
    refine load1_any w1 b3 v ok _ (fun _ _ => by kernel_rfl : Plain 90) #[] _ _ G1.n2 ?_
    refine settle1_even w1 v hv.1 hev _ (fun _ _ => by kernel_rfl : Plain 64) _ #[] b1 b2 _ G1.n1 ?_
    refine (began_any w1 p g _ _ _ _ _ _ _ _ _ v hB).mono ?_
    rintro e w' ⟨rfl, h1, h2⟩
    exact ⟨rfl, gave h hoff hC rfl rfl (h2.mono (by simp)) h1 .idle (Grew.nil _ _ _)⟩

theorem gv_loadWord {w : World} {p g : Nat} {L : List Nat} {E : List Cell} {nx : Value} {s : PS} {a : Int} {v : Int} {ok : Bool} (hph : s.ph = .loadWord a) (h : PathIn w p g L E nx s.busy s.want s) (hs : EShape p s.R s.W (.loadWord a) nx E) :
    Calls Try.prog 24 #[.pointer (some ⟨p, 0, none⟩), .int .u64 v, .bool ok] w fun e w' => e = .returned (.int .i64 0) ∧ GavePost w p (p :: (L ++ E.map (·.1))) ({ s with ph := .loadSeq a v }) w' := by
  have hoff := hs.off
  cases hs with
  | loadWord a b1 b2 b3 =>
    refine give_gen w p g _ v ok _ (fun _ _ => by kernel_rfl : Plain 88) b3 _ _ _ _ _ _ _ _ h.blk fun w1 hC hB => ?_
    have G1 := h.facts.chg hC (offp h.blk h.facts hoff)
    refine load1_any w1 b3 v ok _ (fun _ _ => by kernel_rfl : Plain 66) #[] _ _ G1.n2 ?_
    refine (fetch1_any w1 p g _ _ v b1 b2 _ _ _ _ _ _ _ hB G1.n0).mono ?_
    rintro e w' ⟨rfl, c1, c2, q1, q2, h1, h2, h3, h4⟩
    have G2 := h.facts.chg (hC.trans h4) (offp h.blk h.facts hoff)
    refine ⟨rfl, gave h hoff hC rfl rfl (h4.mono (by simp)) ?_ (.loadSeq a v b1 b2 c1 c2) ?_⟩
    · simp only [PS.busy, hph] at h1; exact h1
    · exact Grew.keep G2 (by simp) (Grew.keep G2 (by simp) (Grew.fresh h2 q1 (Grew.fresh h3 q2 (Grew.nil _ _ _))))

theorem gv_loadSeq_ne {w : World} {p g : Nat} {L : List Nat} {E : List Cell} {nx : Value} {s : PS} {a u : Int} {v : Int} {ok : Bool} (hph : s.ph = .loadSeq a u) (hne : v ≠ s.snap) (h : PathIn w p g L E nx s.busy s.want s) (hs : EShape p s.R s.W (.loadSeq a u) nx E) :
    Calls Try.prog 24 #[.pointer (some ⟨p, 0, none⟩), .int .u64 v, .bool ok] w fun e w' => e = .returned (.int .i64 0) ∧ GavePost w p (p :: (L ++ E.map (·.1))) ({ s with ph := .checkSeq (.fetch a) }) w' := by
  have hoff := hs.off
  cases hs with
  | loadSeq a u b1 b2 b3 b4 =>
    refine give_gen w p g _ v ok _ (fun _ _ => by kernel_rfl : Plain 88) b4 _ _ _ _ _ _ _ _ h.blk fun w1 hC hB => ?_
    have G1 := h.facts.chg hC (offp h.blk h.facts hoff)
    refine load1_any w1 b4 v ok _ (fun _ _ => by kernel_rfl : Plain 67) #[] _ _ G1.n3 ?_
    refine (fetch11_ne w1 p g _ _ v b1 b2 b3 _ _ _ _ _ _ _ hne hB G1.n0).mono ?_
    rintro e w' ⟨rfl, c1, c2, c3, c4, c5, q1, q2, q3, q4, q5, h1, h2, h3, h4, h5, h6, h7⟩
    have G2 := h.facts.chg (hC.trans h7) (offp h.blk h.facts hoff)
    refine ⟨rfl, gave h hoff hC rfl rfl (h7.mono (by simp)) ?_ (.checkSeq (.fetch a) _ _ (.fetch a b1 b2) c1 c2 c3 c4 c5) ?_⟩
    · simp only [PS.busy, hph] at h1; exact h1
    · exact Grew.fresh h2 q1 (Grew.fresh h3 q2 (Grew.fresh h4 q3 (Grew.fresh h5 q4 (Grew.fresh h6 q5 (Grew.keep G2 (by simp) (Grew.keep G2 (by simp) (Grew.nil _ _ _)))))))

theorem gv_checkSeq_odd {w : World} {p g : Nat} {L : List Nat} {E : List Cell} {nx : Value} {s : PS} {to : To} {v : Int} {ok : Bool} (hph : s.ph = .checkSeq to) (hv : w64ok v) (hodd : v % 2 = 1) (h : PathIn w p g L E nx s.busy s.want s) (hs : EShape p s.R s.W (.checkSeq to) nx E) :
    Calls Try.prog 24 #[.pointer (some ⟨p, 0, none⟩), .int .u64 v, .bool ok] w fun e w' => e = .returned (.int .i64 0) ∧ GavePost w p (p :: (L ++ E.map (·.1))) (s) w' := by
  have hoff := hs.off
  cases hs with
  | checkSeq to th l ht b1 b2 b3 b4 b5 =>
    refine give_gen w p g _ v ok _ (fun _ _ => by kernel_rfl : Plain 88) b5 _ _ _ _ _ _ _ _ h.blk fun w1 hC hB => ?_
    have G1 := h.facts.chg hC (offp h.blk h.facts hoff)
    refine load1_any w1 b5 v ok _ (fun _ _ => by kernel_rfl : Plain 90) #[] _ _ G1.n4 ?_
    refine (settle1_odd w1 p g _ _ v hv.1 hodd _ _ _ b3 b4 _ _ _ _ _ _ _ hB G1.n2 G1.n3).mono ?_
    rintro e w' ⟨rfl, h1, h2, h3, h4, h5⟩
    have G2 := h.facts.chg (hC.trans h5) (offp h.blk h.facts hoff)
    refine ⟨rfl, gave h hoff hC rfl rfl (h5.mono (by simp)) ?_ (by rw [hph]; exact .checkSeq to th l ht b1 b2 w1.heap.size (w1.heap.size + 1) (w1.heap.size + 1 + 1)) ?_⟩
    · rw [show s.want = ⟨1, 0, 0, 0⟩ from by simp only [PS.want, hph, wantOf]]; exact h1
    · exact Grew.keep G2 (by simp) (Grew.keep G2 (by simp) (Grew.fresh h2 (Nat.le_refl _) (Grew.fresh h3 (by simp) (Grew.fresh h4 (by simp; omega) (Grew.all G2 (fun x hx => List.mem_append_right _ hx))))))

theorem gv_checkEnd_no {w : World} {p g : Nat} {L : List Nat} {E : List Cell} {nx : Value} {s : PS} {to : To} {gv : Int} {v : Int} {ok : Bool} (hph : s.ph = .checkEnd to gv) (hne : v ≠ gv) (h : PathIn w p g L E nx s.busy s.want s) (hs : EShape p s.R s.W (.checkEnd to gv) nx E) :
    Calls Try.prog 24 #[.pointer (some ⟨p, 0, none⟩), .int .u64 v, .bool ok] w fun e w' => e = .returned (.int .i64 0) ∧ GavePost w p (p :: (L ++ E.map (·.1))) ({ s with ph := .checkSeq to }) w' := by
  have hoff := hs.off
  cases hs with
  | checkEnd to gv th l ht bp bt bg bx =>
    refine give_gen w p g _ v ok _ (fun _ _ => by kernel_rfl : Plain 88) bx _ _ _ _ _ _ _ _ h.blk fun w1 hC hB => ?_
    have G1 := h.facts.chg hC (offp h.blk h.facts hoff)
    refine load1_any w1 bx v ok _ (fun _ _ => by kernel_rfl : Plain 93) #[] _ _ G1.n3 ?_
    have hth : ∃ F bd cs, th = .func (.func F) bd cs := by cases ht <;> exact ⟨_, _, _, rfl⟩
    obtain ⟨F, bd, cs, rfl⟩ := hth
    refine (again_no w1 p g _ _ gv v F bd cs bp bt bg _ _ _ _ _ _ _ hB G1.n1 G1.n0 G1.n2 hne).mono ?_
    rintro e w' ⟨rfl, c1, c2, c3, c4, c5, q1, q2, q3, q4, q5, h1, h2, h3, h4, h5, h6, h7⟩
    have G2 := h.facts.chg (hC.trans h7) (offp h.blk h.facts hoff)
    refine ⟨rfl, gave h hoff hC rfl rfl (h7.mono (by simp)) ?_ (.checkSeq to _ _ ht c1 c2 c3 c4 c5) ?_⟩
    · simp only [PS.busy, hph] at h1; exact h1
    · exact Grew.fresh h2 q1 (Grew.fresh h3 q2 (Grew.fresh h4 q3 (Grew.fresh h5 q4 (Grew.fresh h6 q5 (Grew.all G2 (fun x hx => List.mem_append_right _ hx))))))

theorem gv_checkEnd_yes {w : World} {p g : Nat} {L : List Nat} {E : List Cell} {nx : Value} {s : PS} {to : To} {gv : Int} {v : Int} {ok : Bool} (hph : s.ph = .checkEnd to gv) (hev : v = gv) (h : PathIn w p g L E nx s.busy s.want s) (hs : EShape p s.R s.W (.checkEnd to gv) nx E) :
    Calls Try.prog 24 #[.pointer (some ⟨p, 0, none⟩), .int .u64 v, .bool ok] w fun e w' => e = .returned (.int .i64 0) ∧ GavePost w p (p :: (L ++ E.map (·.1))) ({ s with snap := gv, points := wrap64 (s.points + 1), ph := to.ph }) w' := by
  have hoff := hs.off
  cases hs with
  | checkEnd to gv th l ht bp bt bg bx =>
    refine give_gen w p g _ v ok _ (fun _ _ => by kernel_rfl : Plain 88) bx _ _ _ _ _ _ _ _ h.blk fun w1 hC hB => ?_
    have G1 := h.facts.chg hC (offp h.blk h.facts hoff)
    subst hev
    refine load1_any w1 bx v ok _ (fun _ _ => by kernel_rfl : Plain 93) #[] _ _ G1.n3 ?_
    cases ht with
    | fetch a b1 b2 =>
      refine again_yes w1 p g _ _ v _ (fun _ _ => by kernel_rfl : Plain 69) #[] _ bp bt bg _ _ _ _ _ _ _ _ hB G1.n1 G1.n0 G1.n2 fun w2 hC2 hB2 => ?_
      have G2 := h.facts.chg (hC.trans hC2) (offp h.blk h.facts hoff)
      refine (fetch111_any w2 p g _ _ a b1 b2 _ _ _ _ _ _ _ hB2 G2.n4 G2.n5).mono ?_
      rintro e w' ⟨rfl, c1, c2, c3, q1, q2, q3, h1, h2, h3, h4, h5⟩
      refine ⟨rfl, gave h hoff (hC.trans hC2) rfl rfl (h5.mono (by simp)) ?_ (.loadWord a c1 c2 c3) ?_⟩
      · simp only [PS.busy, hph] at h1; exact h1
      · exact Grew.fresh h2 q1 (Grew.fresh h3 q2 (Grew.fresh h4 q3 (Grew.nil _ _ _)))
    | take =>
      refine again_yes w1 p g _ _ v _ (fun _ _ => by kernel_rfl : Plain 47) _ #[] bp bt bg _ _ _ _ _ _ _ _ hB G1.n1 G1.n0 G1.n2 fun w2 hC2 hB2 => ?_
      refine (take_any w2 p g _ _ _ _ _ _ _ _ _ hB2).mono ?_
      rintro e w' ⟨rfl, c1, c2, q1, q2, h1, h2, h3, h4⟩
      refine ⟨rfl, gave h hoff (hC.trans hC2) rfl rfl (h4.mono (by simp)) ?_ (.take c1 c2) ?_⟩
      · simp only [PS.busy, hph] at h1; exact h1
      · exact Grew.fresh h2 q1 (Grew.fresh h3 q2 (Grew.nil _ _ _))

theorem gv_take_no {w : World} {p g : Nat} {L : List Nat} {E : List Cell} {nx : Value} {s : PS} {v : Int} {ok : Bool} (hph : s.ph = .take) (hok : ok = false) (h : PathIn w p g L E nx s.busy s.want s) (hs : EShape p s.R s.W (.take) nx E) :
    Calls Try.prog 24 #[.pointer (some ⟨p, 0, none⟩), .int .u64 v, .bool ok] w fun e w' => e = .returned (.int .i64 0) ∧ GavePost w p (p :: (L ++ E.map (·.1))) ({ s with ph := .checkSeq .take }) w' := by
  have hoff := hs.off
  cases hs with
  | take b1 b2 =>
    refine give_gen w p g _ v ok _ (fun _ _ => by kernel_rfl : Plain 89) b2 _ _ _ _ _ _ _ _ h.blk fun w1 hC hB => ?_
    have G1 := h.facts.chg hC (offp h.blk h.facts hoff)
    subst hok
    refine cas1_any w1 b2 v false _ (fun _ _ => by kernel_rfl : Plain 77) #[] _ _ G1.n1 ?_
    refine (take1_no w1 p g _ _ b1 _ _ _ _ _ _ _ hB G1.n0).mono ?_
    rintro e w' ⟨rfl, c1, c2, c3, c4, c5, q1, q2, q3, q4, q5, h1, h2, h3, h4, h5, h6, h7⟩
    refine ⟨rfl, gave h hoff hC rfl rfl (h7.mono (by simp)) ?_ (.checkSeq .take _ _ .take c1 c2 c3 c4 c5) ?_⟩
    · simp only [PS.busy, hph] at h1; exact h1
    · exact Grew.fresh h2 q1 (Grew.fresh h3 q2 (Grew.fresh h4 q3 (Grew.fresh h5 q4 (Grew.fresh h6 q5 (Grew.nil _ _ _)))))

theorem gv_leaveN {w : World} {p g : Nat} {L : List Nat} {E : List Cell} {nx : Value} {s : PS} {how : Int} {v : Int} {ok : Bool} (hph : s.ph = .leaveN how) (h : PathIn w p g L E nx s.busy s.want s) (hs : EShape p s.R s.W (.leaveN how) nx E) :
    Calls Try.prog 24 #[.pointer (some ⟨p, 0, none⟩), .int .u64 v, .bool ok] w fun e w' => e = .returned (.int .i64 0) ∧ GavePost w p (p :: (L ++ E.map (·.1))) ({ s with ph := .leaveCas how v }) w' := by
  have hoff := hs.off
  cases hs with
  | leaveN how b1 b2 b3 b4 b5 b6 =>
    refine give_gen w p g _ v ok _ (fun _ _ => by kernel_rfl : Plain 88) b6 _ _ _ _ _ _ _ _ h.blk fun w1 hC hB => ?_
    have G1 := h.facts.chg hC (offp h.blk h.facts hoff)
    refine load1_any w1 b6 v ok _ (fun _ _ => by kernel_rfl : Plain 60) #[] _ _ G1.n5 ?_
    refine (count1_any w1 p g _ _ v 18446744073709551615 b3 b4 b5 _ _ _ _ _ _ _ hB G1.n2 G1.n3).mono ?_
    rintro e w' ⟨rfl, h1, h2, h3⟩
    have G2 := h.facts.chg (hC.trans h3) (offp h.blk h.facts hoff)
    refine ⟨rfl, gave h hoff hC rfl rfl (h3.mono (by simp)) ?_ (.leaveCas how v b1 b2 b3 b4 b5 w1.heap.size) ?_⟩
    · simp only [PS.busy, hph] at h1; exact h1
    · exact Grew.keep G2 (by simp) (Grew.keep G2 (by simp) (Grew.keep G2 (by simp) (Grew.keep G2 (by simp) (Grew.keep G2 (by simp) (Grew.fresh h2 (Nat.le_refl _) (Grew.nil _ _ _))))))

theorem gv_leaveCas_no {w : World} {p g : Nat} {L : List Nat} {E : List Cell} {nx : Value} {s : PS} {how n : Int} {v : Int} {ok : Bool} (hph : s.ph = .leaveCas how n) (hok : ok = false) (h : PathIn w p g L E nx s.busy s.want s) (hs : EShape p s.R s.W (.leaveCas how n) nx E) :
    Calls Try.prog 24 #[.pointer (some ⟨p, 0, none⟩), .int .u64 v, .bool ok] w fun e w' => e = .returned (.int .i64 0) ∧ GavePost w p (p :: (L ++ E.map (·.1))) ({ s with ph := .leaveN how }) w' := by
  have hoff := hs.off
  cases hs with
  | leaveCas how n b1 b2 b3 b4 b5 b6 =>
    refine give_gen w p g _ v ok _ (fun _ _ => by kernel_rfl : Plain 89) b6 _ _ _ _ _ _ _ _ h.blk fun w1 hC hB => ?_
    have G1 := h.facts.chg hC (offp h.blk h.facts hoff)
    subst hok
    refine cas1_any w1 b6 v false _ (fun _ _ => by kernel_rfl : Plain 62) #[] _ _ G1.n5 ?_
    refine (count11_no w1 p g _ _ 18446744073709551615 _ _ _ b3 b4 b5 _ _ _ _ _ _ _ hB G1.n2 G1.n3 G1.n4).mono ?_
    rintro e w' ⟨rfl, h1, h2, h3, h4, h5, h6⟩
    have G2 := h.facts.chg (hC.trans h6) (offp h.blk h.facts hoff)
    refine ⟨rfl, gave h hoff hC rfl rfl (h6.mono (by simp)) ?_ (.leaveN how b1 b2 w1.heap.size (w1.heap.size + 1) (w1.heap.size + 1 + 1) (w1.heap.size + 1 + 1 + 1)) ?_⟩
    · simp only [PS.busy, hph] at h1; exact h1
    · exact Grew.keep G2 (by simp) (Grew.keep G2 (by simp) (Grew.fresh h2 (Nat.le_refl _) (Grew.fresh h3 (by simp) (Grew.fresh h4 (by simp; omega) (Grew.fresh h5 (by simp; omega) (Grew.nil _ _ _))))))

theorem gv_leaveCas_yes {w : World} {p g : Nat} {L : List Nat} {E : List Cell} {nx : Value} {s : PS} {how n : Int} {v : Int} {ok : Bool} (hph : s.ph = .leaveCas how n) (hok : ok = true) (h : PathIn w p g L E nx s.busy s.want s) (hs : EShape p s.R s.W (.leaveCas how n) nx E) :
    Calls Try.prog 24 #[.pointer (some ⟨p, 0, none⟩), .int .u64 v, .bool ok] w fun e w' => e = .returned (.int .i64 0) ∧ GavePost w p (p :: (L ++ E.map (·.1))) ({ s with live := false, ended := how, ph := .idle }) w' := by
  have hoff := hs.off
  cases hs with
  | leaveCas how n b1 b2 b3 b4 b5 b6 =>
    refine give_gen w p g _ v ok _ (fun _ _ => by kernel_rfl : Plain 89) b6 _ _ _ _ _ _ _ _ h.blk fun w1 hC hB => ?_
    have G1 := h.facts.chg hC (offp h.blk h.facts hoff)
    subst hok
    refine cas1_any w1 b6 v true _ (fun _ _ => by kernel_rfl : Plain 62) #[] _ _ G1.n5 ?_
    refine count11_yes w1 _ (fun _ _ => by kernel_rfl : Plain 75) #[] _ b3 b4 b5 _ G1.n4 ?_
    refine (leave1_any w1 p g _ _ how b2 b1 _ _ _ _ _ _ _ hB G1.n0 G1.n1).mono ?_
    rintro e w' ⟨rfl, h1, h2⟩
    exact ⟨rfl, gave h hoff hC rfl rfl (h2.mono (by simp)) h1 .idle (Grew.nil _ _ _)⟩

theorem gv_release {w : World} {p g : Nat} {L : List Nat} {E : List Cell} {nx : Value} {s : PS} {v : Int} {ok : Bool} (hph : s.ph = .release) (h : PathIn w p g L E nx s.busy s.want s) (hs : EShape p s.R s.W (.release) nx E) :
    Calls Try.prog 24 #[.pointer (some ⟨p, 0, none⟩), .int .u64 v, .bool ok] w fun e w' => e = .returned (.int .i64 0) ∧ GavePost w p (p :: (L ++ E.map (·.1))) ({ s with writing := false, ph := .leaveN 1 }) w' := by
  have hoff := hs.off
  cases hs with
  | release b1 b3 =>
    refine give_gen w p g _ v ok _ (fun _ _ => by kernel_rfl : Plain 103) b3 _ _ _ _ _ _ _ _ h.blk fun w1 hC hB => ?_
    have G1 := h.facts.chg hC (offp h.blk h.facts hoff)
    refine store1_any w1 b3 v ok _ (fun _ _ => by kernel_rfl : Plain 98) #[] _ _ G1.n1 ?_
    refine (back2_any w1 p g _ _ b1 _ _ _ _ _ _ _ hB G1.n0).mono ?_
    rintro e w' ⟨rfl, w2, hC2, hq⟩
    obtain ⟨_, n0, c1, c2, c3, c4, c5, hn0, q1, q2, q3, q4, q5, c6, q6, h1, h2, h3, h4, h5, h6, h7, h8⟩ := hq
    refine ⟨rfl, gave h hoff (hC.trans hC2) rfl rfl (h8.mono (by simp)) ?_ (.leaveN 1 c1 c2 c3 c4 c5 c6) ?_⟩
    · simp only [PS.busy, hph] at h1; exact h1
    · exact Grew.fresh h2 (by omega) (Grew.fresh h3 (by omega) (Grew.fresh h4 (by omega) (Grew.fresh h5 (by omega) (Grew.fresh h6 (by omega) (Grew.fresh h7 (by omega) (Grew.nil _ _ _))))))


end Go.Proofs.Ytilffolppnnkaaa
