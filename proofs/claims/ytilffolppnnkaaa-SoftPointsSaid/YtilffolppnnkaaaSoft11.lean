/- A path of layer 8: what an answer makes of it: a word that was fetched, a validation's steps, the sequence taken, words written back. -/
import Derived.Test.YtilffolppnnkaaaSoft10
namespace Go.Proofs.Ytilffolppnnkaaa
set_option maxRecDepth 100000
open Go.RowKit

theorem PathIn.given {w w1 : World} {p g : Nat} {L : List Nat} {E : List Cell} {nx nx1 : Value} {bz : Bool} {r r1 : Rq} {s : PS} (h : PathIn w p g L E nx bz r s) (hoff : OffT E) (hC : Chg [p] w w1)
    (hB : Blk w1 p (pcells g r1 nx1 bz s.live s.writing s.snap s.value s.ended s.points) 69) : PathIn w1 p g L E nx1 bz r1 s :=
  ⟨hB, h.log.chg hC (fun x hx he => by simp at he; subst he; exact h.pL hx), h.pL, h.LE, h.facts.chg hC (offp h.blk h.facts hoff)⟩

/-- A step that turns the log. -/
theorem gave_log {w w1 w2 w' : World} {p g : Nat} {L L' : List Nat} {E : List Cell} {nx : Value} {bz : Bool} {r : Rq} {s : PS} (hC : Chg [p] w w1) (h : PathIn w1 p g L E nx bz r s) (hoff : OffT E) {s' : PS} {E' : List Cell} {nx' : Value}
    (hM : Mv L L' w1 w2) (hL : LogAt w2 g L' s'.R s'.W) (hC2 : Chg (p :: E.map (·.1)) w2 w')
    (hB : Blk w' p (pcells g s'.want nx' s'.busy s'.live s'.writing s'.snap s'.value s'.ended s'.points) 69)
    (hE : EShape p s'.R s'.W s'.ph nx' E') (hg : Grew w2 w' E E') : GavePost w p (p :: (L ++ E.map (·.1))) s' w' := by
  obtain ⟨F', a, b⟩ := PathAt.next h hM hL hC2 hB hE (fun x hx => (hg x hx).1) (fun x hx => (hg x hx).2) (facts_off h.blk h.facts hoff)
  exact ⟨F', a, Mv.trans ⟨hC.mono (by simp), fun _ hx => .inl hx⟩ b⟩

theorem rdErr_two {R : PL} {a : Int} (ha : 0 ≤ a) : rdErr R a = 0 ∨ rdErr R a = 70 := by
  unfold rdErr putErr
  rw [if_neg (by omega)]
  split
  · exact .inl rfl
  · split
    · exact .inr rfl
    · exact .inl rfl

def PS.loaded (s : PS) (a u : Int) : PS := if badRead s.R a u then { s with R := rdL s.R a u, ph := .leaveN 2 } else { s with R := rdL s.R a u, value := u, points := wrap64 (s.points + 1), ph := .idle }

theorem gv_fetched {w w1 w' : World} {p g : Nat} {L : List Nat} {E : List Cell} {bz : Bool} {s : PS} {a u : Int} (hph : s.ph = .loadSeq a u) (hC : Chg [p] w w1) (h : PathIn w1 p g L E .nilFunc s.busy ⟨0, 0, 0, 0⟩ s) (hoff : OffT E)
    {e : Ending} (hq : FetchedPost w1 p g L s.R s.W a u ⟨0, 0, 0, 0⟩ .nilFunc s.busy s.live s.writing s.snap s.value s.ended s.points e w') : GavePost w p (p :: (L ++ E.map (·.1))) (s.loaded a u) w' := by
  obtain ⟨_, w2, L', hL, hM, hi⟩ := hq
  unfold PS.loaded
  by_cases hb : badRead s.R a u = true
  · rw [if_pos hb] at hi ⊢
    obtain ⟨_, n0, c1, c2, c3, c4, c5, hn0, q1, q2, q3, q4, q5, c6, q6, h1, h2, h3, h4, h5, h6, h7, h8⟩ := hi
    refine gave_log hC h hoff hM hL (h8.mono (by simp)) ?_ (.leaveN 2 c1 c2 c3 c4 c5 c6) ?_
    · simp only [PS.busy, hph] at h1; exact h1
    · exact Grew.fresh h2 (by omega) (Grew.fresh h3 (by omega) (Grew.fresh h4 (by omega) (Grew.fresh h5 (by omega) (Grew.fresh h6 (by omega) (Grew.fresh h7 (by omega) (Grew.nil _ _ _))))))
  · rw [if_neg hb] at hi ⊢
    exact gave_log hC h hoff hM hL (hi.2.mono (by simp)) hi.1 .idle (Grew.nil _ _ _)

theorem gv_loadSeq_eq {w : World} {p g : Nat} {L : List Nat} {E : List Cell} {nx : Value} {s : PS} {a u : Int} {v : Int} {ok : Bool} (hph : s.ph = .loadSeq a u) (he : v = s.snap) (ha : aok a) (hu : w64ok u) (h : PathIn w p g L E nx s.busy s.want s) (hs : EShape p s.R s.W (.loadSeq a u) nx E) :
    Calls Try.prog 24 #[.pointer (some ⟨p, 0, none⟩), .int .u64 v, .bool ok] w fun e w' => e = .returned (.int .i64 0) ∧ GavePost w p (p :: (L ++ E.map (·.1))) (s.loaded a u) w' := by
  have hoff := hs.off
  cases hs with
  | loadSeq a u b1 b2 b3 b4 =>
    refine give_gen w p g _ v ok _ (fun _ _ => by kernel_rfl : Plain 88) b4 _ _ _ _ _ _ _ _ h.blk fun w1 hC hB => ?_
    have h' := h.given hoff hC hB
    have G1 := h'.facts
    refine load1_any w1 b4 v ok _ (fun _ _ => by kernel_rfl : Plain 67) #[] _ _ G1.n3 ?_
    subst he
    by_cases hbad : isIn s.R a = true ∧ valOf s.R a ≠ u
    · refine (fetch11_bad w1 p g L s.R s.W _ _ u a b1 b2 b3 _ _ _ _ _ _ _ ha.2 hB h'.log G1.n0 G1.n1 G1.n2 hbad.1 hbad.2).mono ?_
      intro e w' hq
      exact ⟨hq.1, gv_fetched (bz := false) hph hC h' hoff hq⟩
    · refine (fetch11_read w1 p g L s.R s.W _ _ u a b1 b2 b3 _ _ _ _ _ _ _ ha.2 hB h'.log G1.n0 G1.n1 G1.n2 hu.2 _ _ rfl rfl ?_ _ rfl (rdErr_two ha.1) ?_).mono ?_
      · by_cases hi : isIn s.R a = true
        · have : valOf s.R a = u := Classical.byContradiction fun e => hbad ⟨hi, e⟩
          simp [this]
        · simp [hi]
      · intro x hx
        refine ⟨fun e => h.pL (e ▸ hx), ?_, ?_, ?_⟩ <;> (rintro rfl; exact h.LE _ hx (by simp))
      intro e w' hq
      exact ⟨hq.1, gv_fetched (bz := false) hph hC h' hoff hq⟩

/-- A validation's next question, and what comes behind it. -/
theorem stepped {w w0 w2 w' : World} {p g : Nat} {R W : PL} {E : List Cell} {i : Nat} {gv : Int} {bp bt bg br bi bs bl ba : Nat} {v : Value} {rbs : List Nat} {to : To} {th : Value} {l : List Cell} {bz lv wr : Bool} {sn vl en pt : Int} {e : Ending} {cs : List Value}
    (hG : Facts w0 E) (hb : Blk w2 p cs 69) (hn : w.heap.size ≤ w2.heap.size) (hv : VEnv w2 p R i gv bp bt bg br bi bs bl ba v rbs) (hold : ∀ x ∈ vF bp bg br bi bs bl ba rbs, x ∈ E.map (·.1) ∨ w.heap.size ≤ x)
    (ht : Then p to th l) (hbt : Blk w2 bt [th] 1) (hbo : bt ∈ E.map (·.1)) (hl : Facts w2 l) (hlo : ∀ x ∈ l, x ∈ E) (hbl : bi ∉ l.map (·.1))
    (hst : StepPost w2 p g R i bp bt bg br bi bs bl ba bz lv wr sn vl en pt e w') :
    ∃ nx' E', Blk w' p (pcells g (wantOf sn R W (nextCheck R to gv i)) nx' bz lv wr sn vl en pt) 69 ∧ EShape p R W (nextCheck R to gv i) nx' E' ∧ Grew w w' E E' ∧ Chg [p] w2 w' := by
  unfold StepPost at hst
  have hoffl : ∀ x ∈ l, x.1 ∉ [p] := offp hb hl ht.off
  have hbp : bt ∉ [p] := by simpa using hbt.ne hb (by decide)
  unfold nextCheck
  by_cases hi : i < R.length
  · rw [if_pos hi] at hst ⊢
    obtain ⟨_, h1, h2, h3⟩ := hst
    have hv' := hv.chg h3 (hv.off hb)
    obtain ⟨row, hrc, hrf, rfl⟩ := RowC.of hv'.row
    refine ⟨_, _, h1, .checkOne to gv i th l ht v row hrc bp bt bg br bi bs bl ba w2.heap.size hbl, ?_, h3⟩
    have o := fun x hx => hold x hx
    refine Grew.app (Grew.app ?_ ?_) ?_
    · intro x hx
      simp only [List.mem_cons, List.not_mem_nil, or_false] at hx
      rcases hx with rfl | rfl | rfl | rfl | rfl | rfl | rfl | rfl | rfl
      · exact ⟨hv'.hp, o _ (by simp [vF])⟩
      · exact ⟨hv'.hg, o _ (by simp [vF])⟩
      · exact ⟨hv'.hi, o _ (by simp [vF])⟩
      · exact ⟨hv'.hr, o _ (by simp [vF])⟩
      · exact ⟨hv'.hs, o _ (by simp [vF])⟩
      · exact ⟨hv'.hl, o _ (by simp [vF])⟩
      · exact ⟨hv'.ha, o _ (by simp [vF])⟩
      · exact ⟨h3.blk hbt hbp, .inl hbo⟩
      · exact ⟨h2, .inr hn⟩
    · intro x hx
      exact ⟨hrf x hx, o _ (by simp only [vF, List.mem_append]; exact .inr (List.mem_map_of_mem hx))⟩
    · intro x hx
      exact ⟨h3.blk (hl x hx) (hoffl x hx), .inl (List.mem_map_of_mem (hlo x hx))⟩
  · rw [if_neg hi] at hst ⊢
    obtain ⟨_, h1, h2, h3⟩ := hst
    have hv' := hv.chg h3 (hv.off hb)
    refine ⟨_, _, h1, .checkEnd to gv th l ht bp bt bg w2.heap.size, ?_, h3⟩
    have o := fun x hx => hold x hx
    refine Grew.app ?_ ?_
    · intro x hx
      simp only [List.mem_cons, List.not_mem_nil, or_false] at hx
      rcases hx with rfl | rfl | rfl | rfl
      · exact ⟨hv'.hp, o _ (by simp [vF])⟩
      · exact ⟨hv'.hg, o _ (by simp [vF])⟩
      · exact ⟨h3.blk hbt hbp, .inl hbo⟩
      · exact ⟨h2, .inr hn⟩
    · intro x hx
      exact ⟨h3.blk (hl x hx) (hoffl x hx), .inl (List.mem_map_of_mem (hlo x hx))⟩

theorem LogAt.most {w : World} {g : Nat} {F : List Nat} {R W : PL} (h : LogAt w g F R W) : R.length ≤ 128 ∧ W.length ≤ 128 ∧ PairsOk R ∧ PairsOk W ∧ Once R ∧ Once W := by
  obtain ⟨b, c, v, m, u, n, _, h1, h2, _⟩ := h.parts
  exact ⟨h1.most, h2.most, h1.ok, h2.ok, h1.once, h2.once⟩

theorem gv_checkSeq_even {w : World} {p g : Nat} {L : List Nat} {E : List Cell} {nx : Value} {s : PS} {to : To} {v : Int} {ok : Bool} (hph : s.ph = .checkSeq to) (hv : w64ok v) (hev : v % 2 = 0) (h : PathIn w p g L E nx s.busy s.want s) (hs : EShape p s.R s.W (.checkSeq to) nx E) :
    Calls Try.prog 24 #[.pointer (some ⟨p, 0, none⟩), .int .u64 v, .bool ok] w fun e w' => e = .returned (.int .i64 0) ∧ GavePost w p (p :: (L ++ E.map (·.1))) ({ s with ph := nextCheck s.R to v 0 }) w' := by
  have hoff := hs.off
  cases hs with
  | checkSeq to th l ht b1 b2 b3 b4 b5 =>
    refine give_gen w p g _ v ok _ (fun _ _ => by kernel_rfl : Plain 88) b5 _ _ _ _ _ _ _ _ h.blk fun w1 hC hB => ?_
    have h' := h.given hoff hC hB
    have G1 := h'.facts
    refine load1_any w1 b5 v ok _ (fun _ _ => by kernel_rfl : Plain 90) #[] _ _ G1.n4 ?_
    refine settle1_even w1 v hv.1 hev _ (fun _ _ => by kernel_rfl : Plain 91) #[] _ b3 b4 _ G1.n3 ?_
    refine (validate1_any w1 p g L s.R s.W _ _ v b1 b2 _ _ _ _ _ _ _ hB h'.log G1.n0 h'.log.most.1).mono ?_
    rintro e w' ⟨rfl, w2, bg, br, bi, bs, bl, ba, vv, rbs, hC2, hv2, hnew, hst⟩
    have hC3 : Chg [p] w1 w2 := hC2.mono (by simp)
    have h2 := h'.given hoff hC3 (hC2.blk hB (by simp))
    have G2 := h2.facts
    have hbl : bi ∉ l.map (·.1) := by
      intro hx
      obtain ⟨y, hy, he⟩ := List.mem_map.1 hx
      have h1 := (G1 y (by simp [hy])).lt
      have h2 := hnew bi (by simp)
      omega
    obtain ⟨nx', E', q1, q2, q3, q4⟩ := stepped (w := w1) (W := s.W) G2 h2.blk hC2.size hv2 (fun x hx => by
      simp only [vF, List.mem_append, List.mem_cons, List.not_mem_nil, or_false] at hx hnew
      rcases hx with (rfl | rfl | rfl | rfl | rfl | rfl | rfl) | hx
      · exact .inl (by simp)
      · exact .inr (hnew _ (by simp))
      · exact .inr (hnew _ (by simp))
      · exact .inr (hnew _ (by simp))
      · exact .inr (hnew _ (by simp))
      · exact .inr (hnew _ (by simp))
      · exact .inr (hnew _ (by simp))
      · exact .inr (hnew _ (by simp [hx]))) ht G2.n1 (by simp) (fun x hx => G2 x (by simp [hx])) (fun x hx => List.mem_append_right _ hx) hbl hst
    refine ⟨rfl, gave h hoff hC rfl rfl ((hC3.mono (by simp)).trans (q4.mono (by simp))) ?_ q2 ?_⟩
    · have hbz : ({ s with ph := nextCheck s.R to v 0 } : PS).busy = s.busy := by
        simp only [PS.busy, hph, nextCheck]; split <;> rfl
      rw [hbz]; exact q1
    · exact fun x hx => ⟨(q3 x hx).1, (q3 x hx).2⟩

theorem gv_checkOne_no {w : World} {p g : Nat} {L : List Nat} {E : List Cell} {nx : Value} {s : PS} {to : To} {gv : Int} {i : Nat} {v : Int} {ok : Bool} (hph : s.ph = .checkOne to gv i) (hi : i < s.R.length) (hne : v ≠ (s.R[i]?.getD (0, 0)).2) (h : PathIn w p g L E nx s.busy s.want s) (hs : EShape p s.R s.W (.checkOne to gv i) nx E) :
    Calls Try.prog 24 #[.pointer (some ⟨p, 0, none⟩), .int .u64 v, .bool ok] w fun e w' => e = .returned (.int .i64 0) ∧ GavePost w p (p :: (L ++ E.map (·.1))) ({ s with ph := .leaveN 2 }) w' := by
  have hoff := hs.off
  cases hs with
  | checkOne to gv i th l ht vv row hr bp bt bg br bi bs bl ba bx hbl =>
    refine give_gen w p g _ v ok _ (fun _ _ => by kernel_rfl : Plain 88) bx _ _ _ _ _ _ _ _ h.blk fun w1 hC hB => ?_
    have h' := h.given hoff hC hB
    have G1 := h'.facts
    have hv : VEnv w1 p s.R i gv bp bt bg br bi bs bl ba vv (row.map (·.1)) := ⟨G1.n0, G1.n1, G1.n2, G1.n3, hr.to (fun x hx => G1 x (by simp [hx])), G1.n4, G1.n5, G1.n6⟩
    refine load1_any w1 bx v ok _ (fun _ _ => by kernel_rfl : Plain 92) #[] _ _ G1.n8 ?_
    refine (look_no w1 p g _ _ s.R i gv bp bt bg br bi bs bl ba vv _ _ _ _ _ _ _ _ v hB hi h'.log.most.1 hv hne).mono ?_
    rintro e w' ⟨rfl, n0, c1, c2, c3, c4, c5, hn0, q1, q2, q3, q4, q5, c6, q6, h1, h2, h3, h4, h5, h6, h7, h8⟩
    refine ⟨rfl, gave h hoff hC rfl rfl (h8.mono (by simp)) ?_ (.leaveN 2 c1 c2 c3 c4 c5 c6) ?_⟩
    · simp only [PS.busy, hph] at h1; exact h1
    · exact Grew.fresh h2 (by omega) (Grew.fresh h3 (by omega) (Grew.fresh h4 (by omega) (Grew.fresh h5 (by omega) (Grew.fresh h6 (by omega) (Grew.fresh h7 (by omega) (Grew.nil _ _ _))))))

theorem gv_checkOne_yes {w : World} {p g : Nat} {L : List Nat} {E : List Cell} {nx : Value} {s : PS} {to : To} {gv : Int} {i : Nat} {v : Int} {ok : Bool} (hph : s.ph = .checkOne to gv i) (hi : i < s.R.length) (hev : v = (s.R[i]?.getD (0, 0)).2) (h : PathIn w p g L E nx s.busy s.want s) (hs : EShape p s.R s.W (.checkOne to gv i) nx E) :
    Calls Try.prog 24 #[.pointer (some ⟨p, 0, none⟩), .int .u64 v, .bool ok] w fun e w' => e = .returned (.int .i64 0) ∧ GavePost w p (p :: (L ++ E.map (·.1))) ({ s with ph := nextCheck s.R to gv (i + 1) }) w' := by
  have hoff := hs.off
  cases hs with
  | checkOne to gv i th l ht vv row hr bp bt bg br bi bs bl ba bx hbl =>
    refine give_gen w p g _ v ok _ (fun _ _ => by kernel_rfl : Plain 88) bx _ _ _ _ _ _ _ _ h.blk fun w1 hC hB => ?_
    have h' := h.given hoff hC hB
    have G1 := h'.facts
    have hv : VEnv w1 p s.R i gv bp bt bg br bi bs bl ba vv (row.map (·.1)) := ⟨G1.n0, G1.n1, G1.n2, G1.n3, hr.to (fun x hx => G1 x (by simp [hx])), G1.n4, G1.n5, G1.n6⟩
    refine load1_any w1 bx v ok _ (fun _ _ => by kernel_rfl : Plain 92) #[] _ _ G1.n8 ?_
    refine (look_yes w1 p g _ _ s.R i gv bp bt bg br bi bs bl ba vv _ _ _ _ _ _ _ _ v hB hi h'.log.most.1 hv hev).mono ?_
    rintro e w' ⟨rfl, w2, hC2, hv2, hst⟩
    have hbi : ∀ (b : Nat) (c : List Value) (t : TypeId), t ≠ 3 → Blk w1 b c t → Blk w2 b c t := fun b c t hne hb => hC2.blk hb (by simpa using hb.ne G1.n2 hne)
    have htl : ∀ x ∈ l, Blk w2 x.1 x.2.1 x.2.2 := by
      intro x hx
      refine hC2.blk (G1 x (by simp [hx])) ?_
      intro he
      simp at he
      exact hbl (he ▸ List.mem_map_of_mem hx)
    obtain ⟨nx', E', q1, q2, q3, q4⟩ := stepped (w := w1) (W := s.W) G1 (hbi _ _ _ (by decide) hB) hC2.size hv2 (fun x hx => .inl (by
      simp only [vF, List.mem_append, List.mem_cons, List.not_mem_nil, or_false] at hx
      simp only [List.map_append, List.map_cons, List.map_nil, List.mem_append, List.mem_cons, List.not_mem_nil, or_false]
      rcases hx with (rfl | rfl | rfl | rfl | rfl | rfl | rfl) | hx <;> simp [*])) ht (hbi _ _ _ (by decide) G1.n7) (by simp) htl (fun x hx => List.mem_append_right _ hx) hbl hst
    refine ⟨rfl, gave h hoff hC rfl rfl ((hC2.mono (by simp)).trans (q4.mono (by simp))) ?_ q2 ?_⟩
    · have hbz : ({ s with ph := nextCheck s.R to gv (i + 1) } : PS).busy = s.busy := by
        simp only [PS.busy, hph, nextCheck]; split <;> rfl
      rw [hbz]; exact q1
    · exact fun x hx => ⟨(q3 x hx).1, (q3 x hx).2⟩

end Go.Proofs.Ytilffolppnnkaaa
