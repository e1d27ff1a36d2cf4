/- A path of layer 8: what an answer makes of it, whole. -/
import Derived.Test.YtilffolppnnkaaaSoft11
namespace Go.Proofs.Ytilffolppnnkaaa
set_option maxRecDepth 100000
open Go.RowKit

theorem gv_take_yes {w : World} {p g : Nat} {L : List Nat} {E : List Cell} {nx : Value} {s : PS} {v : Int} {ok : Bool} (hph : s.ph = .take) (hok : ok = true) (hW : s.W ≠ []) (h : PathIn w p g L E nx s.busy s.want s) (hs : EShape p s.R s.W .take nx E) :
    Calls Try.prog 24 #[.pointer (some ⟨p, 0, none⟩), .int .u64 v, .bool ok] w fun e w' => e = .returned (.int .i64 0) ∧ GavePost w p (p :: (L ++ E.map (·.1))) ({ s with points := wrap64 (s.points + 1), writing := true, ph := .back 0 }) w' := by
  have hoff := hs.off
  cases hs with
  | take b1 b2 =>
    refine give_gen w p g _ v ok _ (fun _ _ => by kernel_rfl : Plain 89) b2 _ _ _ _ _ _ _ _ h.blk fun w1 hC hB => ?_
    have h' := h.given hoff hC hB
    have G1 := h'.facts
    subst hok
    refine cas1_any w1 b2 v true _ (fun _ _ => by kernel_rfl : Plain 77) #[] _ _ G1.n1 ?_
    refine (take1_yes w1 p g L s.R s.W _ _ b1 _ _ _ _ _ _ _ hB h'.log h'.pL hW h'.log.most.2.1 G1.n0).mono ?_
    rintro e w' ⟨rfl, w2, rb, cap, cur, hC2, hrb, hrp, hbr, ht, hc1, hc2, hq⟩
    obtain ⟨_, b1', b2', b3', q1, q2, q3, h1, h5, h6⟩ := hq
    obtain ⟨q, l, hw⟩ := List.exists_cons_of_ne_nil hW
    rw [hw] at h6
    obtain ⟨h2, h3, h4⟩ := h6
    refine ⟨rfl, gave h hoff hC rfl rfl ((hC2.mono (by simp)).trans (h5.mono (by simp))) ?_ (.back 0 rb cap cur hc1 hc2 ht b1' b2' b3') ?_⟩
    · have hwant : ({ s with points := wrap64 (s.points + 1), writing := true, ph := .back 0 } : PS).want = ⟨2, q.1, q.2, 0⟩ := by
        simp [PS.want, wantOf, hw]
      rw [hwant]
      have hbz : ({ s with points := wrap64 (s.points + 1), writing := true, ph := .back 0 } : PS).busy = s.busy := by simp only [PS.busy, hph]; rfl
      rw [hbz]; exact h2
    · refine Grew.fresh h1 (Nat.le_trans hC2.size q1) (Grew.fresh ?_ (Nat.le_trans hC2.size q2) (Grew.fresh h4 (Nat.le_trans hC2.size q3) (Grew.fresh (h5.blk hbr (by simpa using hrp)) hrb (Grew.nil _ _ _))))
      simpa [hw] using h3

theorem gv_back {w : World} {p g : Nat} {L : List Nat} {E : List Cell} {nx : Value} {s : PS} {i : Nat} {v : Int} {ok : Bool} (hph : s.ph = .back i) (hi : i < s.W.length) (h : PathIn w p g L E nx s.busy s.want s) (hs : EShape p s.R s.W (.back i) nx E) :
    Calls Try.prog 24 #[.pointer (some ⟨p, 0, none⟩), .int .u64 v, .bool ok] w fun e w' => e = .returned (.int .i64 0) ∧ GavePost w p (p :: (L ++ E.map (·.1))) ({ s with ph := if i + 1 < s.W.length then .back (i + 1) else .release }) w' := by
  have hoff := hs.off
  cases hs with
  | back i rb cap cur hc1 hc2 ht b1 b2 b3 =>
    refine give_gen w p g _ v ok _ (fun _ _ => by kernel_rfl : Plain 103) b3 _ _ _ _ _ _ _ _ h.blk fun w1 hC hB => ?_
    have h' := h.given hoff hC hB
    have G1 := h'.facts
    refine store1_any w1 b3 v ok _ (fun _ _ => by kernel_rfl : Plain 97) #[] _ _ G1.n2 ?_
    have hlen : (s.W.drop (i + 1)).length = s.W.length - (i + 1) := by simp
    have h2 := G1.n1
    simp only at h2
    rw [show s.W.length - i = (s.W.drop (i + 1)).length + 1 from by rw [hlen]; omega] at h2
    have hm := h'.log.most.2.1
    have hnext : ∀ q l', s.W.drop (i + 1) = q :: l' → i + 1 < s.W.length ∧ (s.W[i + 1]?.getD (0, 0)) = q ∧ cur[(i + 1) * 2]? = some (.int .i64 q.1) ∧ cur[(i + 1) * 2 + 1]? = some (.int .u64 q.2) := by
      intro q l' hd
      have hl : i + 1 < s.W.length := by
        have := congrArg List.length hd
        simp at this; omega
      have hq : s.W[i + 1] = q := by
        rw [List.drop_eq_getElem_cons hl] at hd
        exact (List.cons.inj hd).1
      have := row_at ht hl
      rw [hq] at this
      exact ⟨hl, by simp [hl, hq], this⟩
    refine (back1_any w1 p g _ _ (s.W.drop (i + 1)) rb (i * 2) (cap - i) b1 b2 _ _ _ _ _ _ _ hB G1.n0 h2 (by omega) (by omega) cur G1.n3 (fun q l' hd => by
      have := hnext q l' hd
      rw [show i * 2 + 2 = (i + 1) * 2 from by omega]; exact this.2.2) (by omega)).mono ?_
    rintro e w' ⟨rfl, b1', b2', b3', q1, q2, q3, h1, h5, h6⟩
    have G2 := h'.facts.chg h5 (offp h'.blk h'.facts hoff)
    cases hd : s.W.drop (i + 1) with
    | nil =>
      rw [hd] at h6
      obtain ⟨h3, h4⟩ := h6
      have hn : ¬ i + 1 < s.W.length := by rw [List.drop_eq_nil_iff] at hd; omega
      rw [if_neg hn]
      refine ⟨rfl, gave h hoff hC rfl rfl (h5.mono (by simp)) ?_ (.release b1' b3') ?_⟩
      · simp only [PS.busy, hph] at h3; exact h3
      · exact Grew.fresh h1 q1 (Grew.fresh h4 q3 (Grew.nil _ _ _))
    | cons q l =>
      rw [hd] at h6
      obtain ⟨h3, h4, h7⟩ := h6
      obtain ⟨hn, hq, _⟩ := hnext q l hd
      rw [if_pos hn]
      refine ⟨rfl, gave h hoff hC rfl rfl (h5.mono (by simp)) ?_ (.back (i + 1) rb cap cur hc1 hc2 ht b1' b2' b3') ?_⟩
      · have hwant : ({ s with ph := .back (i + 1) } : PS).want = ⟨2, q.1, q.2, 0⟩ := by
          simp only [PS.want, wantOf, hq]
        rw [hwant]
        simp only [PS.busy, hph] at h3; exact h3
      · refine Grew.fresh h1 q1 (Grew.fresh ?_ q2 (Grew.fresh h7 q3 (Grew.keep G2 (by simp) (Grew.nil _ _ _))))
        have hl : l.length + 1 = s.W.length - (i + 1) := by rw [← hlen, hd]; rfl
        simp only
        rw [show (i + 1) * 2 = i * 2 + 2 from by omega, ← hl, show cap - (i + 1) = cap - i - 1 from by omega]
        exact h4

theorem PS.busy_idle {s : PS} (h : s.busy = false) : s.ph = .idle := by
  unfold PS.busy at h
  cases hp : s.ph <;> rw [hp] at h <;> first | rfl | cases h

/-- What an answer makes of a path, wherever it is. -/
theorem Give_any (w : World) (p : Nat) (F : List Nat) (s : PS) (v : Int) (ok : Bool) (hv : w64ok v) (ho : s.ph.ok s.R s.W) (h : PathAt w p F s) :
    Calls Try.prog 24 #[.pointer (some ⟨p, 0, none⟩), .int .u64 v, .bool ok] w fun e w' => e = .returned (.int .i64 (if s.busy then 0 else 80)) ∧ GavePost w p F (s.give v ok) w' := by
  have hsame := h
  obtain ⟨g, L, E, nx, hi, hs, rfl⟩ := h
  have hbz : s.busy = s.ph.busy := rfl
  unfold PS.give
  cases hp : s.ph with
  | idle =>
    rw [hp] at hs ho
    cases hs
    have hb : s.busy = false := by rw [hbz, hp]; rfl
    rw [hb]
    refine (give_idle w p g _ v ok _ _ _ _ _ _ _ hi.blk).mono ?_
    rintro e w' ⟨rfl, rfl⟩
    exact ⟨rfl, _, hsame, Mv.refl _ _⟩
  | _ =>
    rw [hp] at hs ho
    have hb : s.busy = true := by rw [hbz, hp]; rfl
    rw [hb]
    simp only [if_true]
    first
      | exact gv_beginN hp hi hs
      | (cases ok with
         | true => first | exact gv_beginCas_yes hp rfl hi hs | exact gv_take_yes hp rfl ho hi hs | exact gv_leaveCas_yes hp rfl hi hs
         | false => first | exact gv_beginCas_no hp rfl hi hs | exact gv_take_no hp rfl hi hs | exact gv_leaveCas_no hp rfl hi hs)
      | exact gv_loadWord hp hi hs
      | exact gv_leaveN hp hi hs
      | exact gv_release hp hi hs
      | exact gv_back hp ho hi hs
      | (by_cases hodd : v % 2 = 1
         · rw [if_pos hodd]; exact gv_beginSeq_odd hp hv hodd hi hs
         · rw [if_neg hodd]; exact gv_beginSeq_even hp hv (by omega) hi hs)
      | (by_cases hodd : v % 2 = 1
         · rw [if_pos hodd]; exact gv_checkSeq_odd hp hv hodd hi hs
         · rw [if_neg hodd]; exact gv_checkSeq_even hp hv (by omega) hi hs)
      | (rename_i a u; by_cases he : v = s.snap
         · rw [if_pos he]; exact gv_loadSeq_eq hp he ho.1 ho.2 hi hs
         · rw [if_neg he]; exact gv_loadSeq_ne hp he hi hs)
      | (rename_i to gv i; by_cases he : v = (s.R[i]?.getD (0, 0)).2
         · rw [if_pos he]; exact gv_checkOne_yes hp ho.2 he hi hs
         · rw [if_neg he]; exact gv_checkOne_no hp ho.2 he hi hs)
      | (rename_i to gv; by_cases he : v = gv
         · rw [if_pos he]; exact gv_checkEnd_yes hp he hi hs
         · rw [if_neg he]; exact gv_checkEnd_no hp he hi hs)

end Go.Proofs.Ytilffolppnnkaaa
