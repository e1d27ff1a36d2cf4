/- The document's log inside the document's path: Read, Write. -/
import Derived.Test.YtilffolppnnkaaaSLogR2
namespace Go.Proofs.Ytilffolppnnkaaa
set_option maxRecDepth 100000
open Go.RowKit

/-- A block of cells c whose cells 10 and 11 are the lists R and W. -/
def DocC (w : World) (N : List Nat) (d : Nat) (c : List Value) (R W : PL) : Prop := ∃ r u : SlP, r.l = R ∧ u.l = W ∧ c[10]? = some r.val ∧ c[11]? = some u.val ∧ Blk w d c 60 ∧ FzP w N r ∧ FzP w N u
def RdCPost (w : World) (N : List Nat) (d : Nat) (c : List Value) (R W : PL) (err : Int) (e : Ending) (w' : World) : Prop := e = .returned (.int .i64 err) ∧ (∃ rv uv, DocC w' N d ((c.set 10 rv).set 11 uv) R W) ∧ Chg [d] w w'
theorem len10 {c : List Value} {v : Value} (h : c[10]? = some v) : 10 < c.length := (List.getElem?_eq_some_iff.1 h).1
theorem len11 {c : List Value} {v : Value} (h : c[11]? = some v) : 11 < c.length := (List.getElem?_eq_some_iff.1 h).1
theorem get10 {c : List Value} {a b : Value} (h : 10 < c.length) : ((c.set 10 a).set 11 b)[10]? = some a := by
  rw [List.getElem?_set_ne (by decide), List.getElem?_set_self h]
theorem get11 {c : List Value} {a b : Value} (h : 11 < c.length) : ((c.set 10 a).set 11 b)[11]? = some b := by
  rw [List.getElem?_set_self (by simpa using h)]
theorem set11 {c : List Value} {a u : Value} (h : c[11]? = some u) : (c.set 10 a).set 11 u = c.set 10 a := by
  apply List.ext_getElem?
  intro i
  by_cases e : i = 11
  · subst e; rw [List.getElem?_set_self (by simpa using len11 h), List.getElem?_set_ne (by decide), h]
  · rw [List.getElem?_set_ne (fun x => e x.symm)]
theorem set10 {c : List Value} {u v : Value} (h : c[10]? = some u) : (c.set 10 u).set 11 v = c.set 11 v := by
  have : c.set 10 u = c := by
    apply List.ext_getElem?
    intro i
    by_cases e : i = 10
    · subst e; rw [List.getElem?_set_self (len10 h), h]
    · rw [List.getElem?_set_ne (fun x => e x.symm)]
  rw [this]
theorem DocC.same {w : World} {N : List Nat} {d : Nat} {c : List Value} {R W : PL} (h : DocC w N d c R W) : ∃ rv uv, DocC w N d ((c.set 10 rv).set 11 uv) R W := by
  obtain ⟨r, u, e1, e2, h10, h11, hb, h1, h2⟩ := h
  refine ⟨r.val, u.val, r, u, e1, e2, get10 (len10 h10), get11 (len11 h11), ?_, h1, h2⟩
  rw [set11 h11]
  have : c.set 10 r.val = c := by
    apply List.ext_getElem?
    intro i
    by_cases e : i = 10
    · subst e; rw [List.getElem?_set_self (len10 h10), h10]
    · rw [List.getElem?_set_ne (fun x => e x.symm)]
  rw [this]; exact hb

set_option maxRecDepth 100000 in
set_option maxHeartbeats 2000000 in
theorem ReadC_any (w : World) (N : List Nat) (d : Nat) (c : List Value) (R W : PL) (a x : Int) (hd : d ∈ N) (hN : ∀ x ∈ N, x < w.heap.size) (hR : R.length ≤ 128) (h : DocC w N d c R W) :
    Calls Try.prog 101 #[.pointer (some ⟨d, 10, none⟩), .int .i64 a, .int .u64 x] w (RdCPost w N d c (rdL R a x) W (rdErr R a)) := by
  obtain ⟨i0, hi, hz0, hz1, hz2⟩ := info_parts infoPair
  by_cases h0 : a < 0
  · have e1 : rdErr R a = 2 := by simp [rdErr, h0]
    have e2 : rdL R a x = R := by simp [rdL, h0]
    rw [e1, e2]
    have H := Lib.hid h
    clear h e1 e2 hR
    go_enter Try.func101, Try.ntmps101
    go_wp2_with fail
    go_ret
    exact ⟨rfl, H.out.same, Chg.refl _ _⟩
  have h0' : 0 ≤ a := by omega
  obtain ⟨r, u, rfl, rfl, h10, h11, hb, h1, h2⟩ := h
  have H10 := Lib.hid h10
  have H11 := Lib.hid h11
  have k0 : w.cell? ⟨d, 10, none⟩ = some (.slice r.A r.l.length r.cap) := (hb.cell 10).trans h10
  have f0 : w.frozen? ⟨d, 10, none⟩ = false := hb.free 10
  have HP := Lib.hid (Place_any w r.A r.cap _ r.l a (by omega) h1.rd)
  have HB := Lib.hid hb
  have H1 := Lib.hid h1
  have H2 := Lib.hid h2
  have hRl : (r.l.length : Int) ≤ 128 := by omega
  by_cases hs : (place r.l a).isSome = true
  · have e1 : rdErr r.l a = 0 := by simp [rdErr, h0, hs]
    have e2 : rdL r.l a x = r.l := by simp [rdL, h0, hs]
    rw [e1, e2]
    have hp := (placeI_ge r.l a).2 hs
    clear h0 hs e1 e2 hb h1 h2 h10 h11
    generalize placeI r.l a = p at *
    go_enter Try.func101, Try.ntmps101
    go_wp2_with fail
    refine HP.out.mono ?_
    rintro e w' ⟨rfl, rfl⟩
    go_wp2_with fail
    go_ret
    exact ⟨rfl, DocC.same ⟨r, u, rfl, rfl, H10.out, H11.out, HB.out, H1.out, H2.out⟩, Chg.refl _ _⟩
  · have hp : ¬ 0 ≤ placeI r.l a := fun h => hs ((placeI_ge r.l a).1 h)
    have hp' : placeI r.l a < 0 := by omega
    by_cases hf : r.l.length = 128
    · have e1 : rdErr r.l a = 70 := by simp [rdErr, h0, hs, putErr, hf]
      have e2 : rdL r.l a x = r.l := by simp [rdL, h0, hs, putL, hf]
      rw [e1, e2]
      have hf' : (128 : Int) ≤ r.l.length := by omega
      clear h0 hs e1 e2 hb h1 h2 h10 h11 hf hp hR
      generalize placeI r.l a = p at *
      go_enter Try.func101, Try.ntmps101
      go_wp2_with fail
      refine HP.out.mono ?_
      rintro e w' ⟨rfl, rfl⟩
      go_wp2_with fail
      go_ret
      exact ⟨rfl, DocC.same ⟨r, u, rfl, rfl, H10.out, H11.out, HB.out, H1.out, H2.out⟩, Chg.refl _ _⟩
    · have e1 : rdErr r.l a = 0 := by simp [rdErr, h0, hs, putErr, hf]
      have e2 : rdL r.l a x = r.l ++ [(a, x)] := by simp [rdL, h0, hs, putL, hf]
      rw [e1, e2]
      have hf' : (r.l.length : Int) < 128 := by omega
      have HT := Lib.hid (Twin_any w r.A r.cap _ r.l (by omega) h1.len h1.nil h1.rd)
      have HN := Lib.hid hN
      have HD := Lib.hid hd
      have hdl := hb.lt
      clear h0 hs e1 e2 hb h1 h2 h10 h11 hf hp hN hd
      generalize placeI r.l a = p at *
      go_enter Try.func101, Try.ntmps101
      go_wp2_with fail
      refine HP.out.mono ?_
      rintro e w' ⟨rfl, rfl⟩
      go_wp2_with fail
      refine HT.out.mono ?_
      rintro e w1 ⟨v, rfl, hv, hC⟩
      have HV := Lib.hid hv
      have HC := Lib.hid hC
      have hs1 := hC.size
      clear hv hC
      go_wp2_with (first
        | (at_builtin; refine wpList_append_own_at _ rfl (.tmp 27) (.tmp 31) 56 rfl (w.heap.size) 85 i0 (.agg #[.int .i64 0, .int .u64 0]) 2 16 Try.underlying56 hi hz0 hz1 hz2 rfl (by decide) _ _ _ rfl (HV.out.alloc _) ⟨w1.heap.size, 0, none⟩ 1 1 [.int .i64 a, .int .u64 x] rfl rfl (cells_at (by simp) [.int .i64 a, .int .u64 x] _) (by simp [Value.oneCell']) (by unfold maxLen; omega) (by omega) (by first | omega | (simp; omega) | simp) ?_; intro va1 wa1 hown1 hgrow1 _ hblk1; have hsz1 := hgrow1.size; have HO1 := Lib.hid hown1; have HG1 := Lib.hid hgrow1; have HB1 := Lib.hid hblk1; clear hown1 hgrow1 hblk1; obtain ⟨g1, cg1, hv1, hg1, hg2, hc1, hc2⟩ := ownsRow_posC HO1.out (by omega); subst hv1; have HC1 := Lib.hid ((HC.out.alloc _).grew (HV.out.alloc _) HG1.out (fun q h1 h2 => by omega)); have hb1 := HC1.out.blk HB.out (by simp); have f1 : wa1.frozen? ⟨d, 10, none⟩ = false := hb1.free 10; have k1 : wa1.cell? ⟨d, 10, none⟩ = some r.val := (hb1.cell 10).trans H10.out; have HB1' := Lib.hid hb1; clear hb1))
      go_ret
      have hO1 : wa1.ownsRow w.heap.size 85 2 (.slice (some ⟨g1, 0, none⟩) (r.l.length + 1) cg1) (r.l ++ [(a, x)]).length ((r.l ++ [(a, x)]).flatMap encP) := by
        rw [show (r.l ++ [(a, x)]).length = r.l.length + 1 from by simp, flat_snoc]; exact HO1.out
      have hgd : g1 ≠ d := by omega
      have hO2 := ownsRow_chg hO1 ((Chg.refl [d] wa1).setCell (p := ⟨d, 10, none⟩) (by simp) (.slice (some ⟨g1, 0, none⟩) (r.l.length + 1) cg1)) (by simpa [Value.ownBlock] using hgd)
      obtain ⟨s, hs, hsv, hF⟩ := FzP.of_row (N := N) hO2 (fun y hy hm => by simp [Value.ownBlock] at hy; subst hy; have := HN.out y hm; omega)
      have hb2 := HB1'.out.set 10 (.slice (some ⟨g1, 0, none⟩) (r.l.length + 1) cg1)
      have hC2 : Chg [d] w (wa1.setCell ⟨d, 10, none⟩ (.slice (some ⟨g1, 0, none⟩) (r.l.length + 1) cg1)) := (HC1.out.mono (by simp)).setCell (by simp) _
      refine ⟨rfl, ⟨s.val, u.val, s, u, hs, rfl, ?_, ?_, ?_, hF, H2.out.step (hC2.mono (fun y hy => by simp at hy; subst hy; exact HD.out)) (fun y hy => .inl hy)⟩, hC2⟩
      · exact get10 (len10 H10.out)
      · exact get11 (len11 H11.out)
      · rw [← hsv, set11 H11.out]; exact hb2

set_option maxRecDepth 100000 in
set_option maxHeartbeats 4000000 in
theorem WriteC_any (w : World) (N : List Nat) (d : Nat) (c : List Value) (R W : PL) (a x : Int) (hd : d ∈ N) (hN : ∀ x ∈ N, x < w.heap.size) (hW : W.length ≤ 128) (h : DocC w N d c R W) :
    Calls Try.prog 81 #[.pointer (some ⟨d, 10, none⟩), .int .i64 a, .int .u64 x] w (RdCPost w N d c R (wrL W a x) (wrErr W a)) := by
  obtain ⟨i0, hi, hz0, hz1, hz2⟩ := info_parts infoPair
  by_cases h0 : a < 0
  · have e1 : wrErr W a = 2 := by simp [wrErr, rdErr, h0]
    have e2 : wrL W a x = W := by simp [wrL, h0]
    rw [e1, e2]
    have H := Lib.hid h
    clear h e1 e2 hW
    go_enter Try.func81, Try.ntmps81
    go_wp2_with fail
    go_ret
    exact ⟨rfl, H.out.same, Chg.refl _ _⟩
  have h0' : 0 ≤ a := by omega
  obtain ⟨r, u, rfl, rfl, h10, h11, hb, h1, h2⟩ := h
  have H10 := Lib.hid h10
  have H11 := Lib.hid h11
  have k1 : w.cell? ⟨d, 11, none⟩ = some (.slice u.A u.l.length u.cap) := (hb.cell 11).trans h11
  have HT := Lib.hid (Twin_any w u.A u.cap _ u.l (by omega) h2.len h2.nil h2.rd)
  have HB := Lib.hid hb
  have H1 := Lib.hid h1
  have H2 := Lib.hid h2
  have HN := Lib.hid hN
  have HD := Lib.hid hd
  have hdl := hb.lt
  have hWl : (u.l.length : Int) ≤ 128 := by omega
  have fin : ∀ (w' : World) (g1 cg1 : Nat) (l : PL), w.heap.size ≤ g1 → Chg [d] w w' → Blk w' d c 60 → w'.ownsRow w.heap.size 85 2 (.slice (some ⟨g1, 0, none⟩) l.length cg1) l.length (l.flatMap encP) →
      (∃ rv uv, DocC (w'.setCell ⟨d, 11, none⟩ (.slice (some ⟨g1, 0, none⟩) l.length cg1)) N d ((c.set 10 rv).set 11 uv) r.l l) ∧ Chg [d] w (w'.setCell ⟨d, 11, none⟩ (.slice (some ⟨g1, 0, none⟩) l.length cg1)) := by
    intro w' g1 cg1 l hg hC hB hO
    have hgd : g1 ≠ d := by omega
    have hO2 := ownsRow_chg hO ((Chg.refl [d] w').setCell (p := ⟨d, 11, none⟩) (by simp) (.slice (some ⟨g1, 0, none⟩) l.length cg1)) (by simpa [Value.ownBlock] using hgd)
    obtain ⟨s, hs, hsv, hF⟩ := FzP.of_row (N := N) hO2 (fun y hy hm => by simp [Value.ownBlock] at hy; subst hy; have := HN.out y hm; omega)
    have hb2 := hB.set 11 (.slice (some ⟨g1, 0, none⟩) l.length cg1)
    have hC2 : Chg [d] w (w'.setCell ⟨d, 11, none⟩ (.slice (some ⟨g1, 0, none⟩) l.length cg1)) := hC.setCell (by simp) _
    refine ⟨⟨r.val, s.val, r, s, rfl, hs, get10 (len10 H10.out), get11 (len11 H11.out), ?_, H1.out.step (hC2.mono (fun y hy => by simp at hy; subst hy; exact HD.out)) (fun y hy => .inl hy), hF⟩, hC2⟩
    rw [set10 H10.out, ← hsv]; exact hb2
  have HFin := Lib.hid fin
  clear hN hd hb h1 h2 h10 h11 fin
  cases hp : place u.l a with
  | some i =>
    obtain ⟨hil, hia⟩ := place_lt hp
    have e1 : wrErr u.l a = 0 := by simp [wrErr, rdErr, h0, hp]
    have e2 : wrL u.l a x = u.l.set i (a, x) := by simp [wrL, h0, hp]
    rw [e1, e2]
    have HPE := Lib.hid (show placeI u.l a = i from by rw [placeI, hp])
    have hil' : (i : Int) < u.l.length := by omega
    have hpos1 : 0 < u.l.length := by omega
    clear h0 e1 e2 hp
    go_enter Try.func81, Try.ntmps81
    go_wp2_with fail
    refine HT.out.mono ?_
    rintro e w1 ⟨v, rfl, hv, hC⟩
    obtain ⟨g1, cg1, rfl, hg1, hg2, hc1, hc2⟩ := ownsRow_posC hv hpos1
    have hP := Place_any w1 (some ⟨g1, 0, none⟩) cg1 _ u.l a (by omega) (Rd.lend encP_len hv rfl)
    rw [HPE.out] at hP
    have HP := Lib.hid hP
    have hb1 := hC.blk HB.out (by simp)
    have f1 : w1.frozen? ⟨d, 11, none⟩ = false := hb1.free 11
    have kk1 : w1.cell? ⟨d, 11, none⟩ = some u.val := (hb1.cell 11).trans H11.out
    have c1 : w1.cell? ⟨g1, i * 2 + 1, none⟩ = some (.int .u64 u.l[i].2) := by
      rw [hv.cellAt _ (by omega), flat_get encP_len u.l i hil 1 (by decide)]; rfl
    have fg : w1.frozen? ⟨g1, i * 2 + 1, none⟩ = false := hv.frozenAt _
    have hSt := (hv.stored (i * 2 + 1) (.int .u64 x)).1
    rw [flatP_set _ _ hil, hia] at hSt
    have hgd : ¬ g1 = d := by omega
    have hgd' : ¬ d = g1 := by omega
    have HSt := Lib.hid hSt
    have HC1 := Lib.hid ((hC.mono (T := [d]) (by simp)).setCell (p := ⟨g1, i * 2 + 1, none⟩) (fun h => absurd (show g1 < w.heap.size from h) (by omega)) (.int .u64 x))
    have HB1 := Lib.hid (hb1.other (a := ⟨g1, i * 2 + 1, none⟩) (by simpa using hgd) (.int .u64 x))
    clear hv hC hP hb1 hSt hia
    generalize u.l[i].2 = y at *
    go_wp2_with fail
    refine HP.out.mono ?_
    rintro e w' ⟨rfl, rfl⟩
    go_wp2_with fail
    go_ret
    have hls : (u.l.set i (a, x)).length = u.l.length := by simp
    have := HFin.out _ g1 cg1 (u.l.set i (a, x)) hg1 HC1.out HB1.out (by rw [hls]; exact HSt.out)
    rw [hls] at this
    exact ⟨rfl, this.1, this.2⟩
  | none =>
    have HPE := Lib.hid (show placeI u.l a = -1 from by rw [placeI, hp])
    by_cases hf : u.l.length = 128
    · have e1 : wrErr u.l a = 70 := by simp [wrErr, rdErr, h0, hp, putErr, hf]
      have e2 : wrL u.l a x = u.l := by simp [wrL, h0, hp, putL, hf]
      rw [e1, e2]
      have hf' : (128 : Int) ≤ u.l.length := by omega
      clear h0 e1 e2 hf hp hW
      go_enter Try.func81, Try.ntmps81
      go_wp2_with fail
      refine HT.out.mono ?_
      rintro e w1 ⟨v, rfl, hv, hC⟩
      obtain ⟨Av, cv, rfl, _, _, _, hRv, _⟩ := Rd.of_row encP_len hv
      have hP := Place_any w1 Av cv _ u.l a (by omega) hRv
      rw [HPE.out] at hP
      have HP := Lib.hid hP
      have HC := Lib.hid hC
      have hb1 := Lib.hid (hC.blk HB.out (by simp))
      clear hv hC hP hRv
      go_wp2_with fail
      refine HP.out.mono ?_
      rintro e w' ⟨rfl, rfl⟩
      go_wp2_with fail
      go_ret
      have hCN := HC.out.mono (T := N) (by simp)
      exact ⟨rfl, DocC.same ⟨r, u, rfl, rfl, H10.out, H11.out, hb1.out, H1.out.step hCN (fun y hy => .inl hy), H2.out.step hCN (fun y hy => .inl hy)⟩, HC.out.mono (by simp)⟩
    · have e1 : wrErr u.l a = 0 := by simp [wrErr, rdErr, h0, hp, putErr, hf]
      have e2 : wrL u.l a x = u.l ++ [(a, x)] := by simp [wrL, h0, hp, putL, hf]
      rw [e1, e2]
      have hf' : (u.l.length : Int) < 128 := by omega
      clear h0 e1 e2 hf hp
      go_enter Try.func81, Try.ntmps81
      go_wp2_with fail
      refine HT.out.mono ?_
      rintro e w1 ⟨v, rfl, hv, hC⟩
      obtain ⟨Av, cv, rfl, _, _, _, hRv, _⟩ := Rd.of_row encP_len hv
      have hP := Place_any w1 Av cv _ u.l a (by omega) hRv
      rw [HPE.out] at hP
      have HP := Lib.hid hP
      have HC := Lib.hid hC
      have HV := Lib.hid hv
      have hs1 := hC.size
      clear hv hC hP hRv
      go_wp2_with fail
      refine HP.out.mono ?_
      rintro e w' ⟨rfl, rfl⟩
      go_wp2_with (first
        | (at_builtin; refine wpList_append_own_at _ rfl (.tmp 34) (.tmp 38) 56 rfl (w.heap.size) 85 i0 (.agg #[.int .i64 0, .int .u64 0]) 2 16 Try.underlying56 hi hz0 hz1 hz2 rfl (by decide) _ _ _ rfl (HV.out.alloc _) ⟨w1.heap.size, 0, none⟩ 1 1 [.int .i64 a, .int .u64 x] rfl rfl (cells_at (by simp) [.int .i64 a, .int .u64 x] _) (by simp [Value.oneCell']) (by unfold maxLen; omega) (by omega) (by first | omega | (simp; omega) | simp) ?_; intro va1 wa1 hown1 hgrow1 _ hblk1; have hsz1 := hgrow1.size; have HO1 := Lib.hid hown1; have HG1 := Lib.hid hgrow1; have HB1 := Lib.hid hblk1; clear hown1 hgrow1 hblk1; obtain ⟨g1, cg1, hv1, hg1, hg2, hc1, hc2⟩ := ownsRow_posC HO1.out (by omega); subst hv1; have HC1 := Lib.hid ((HC.out.alloc _).grew (HV.out.alloc _) HG1.out (fun q h1 h2 => by omega)); have hb1 := HC1.out.blk HB.out (by simp); have f1 : wa1.frozen? ⟨d, 11, none⟩ = false := hb1.free 11; have kk1 : wa1.cell? ⟨d, 11, none⟩ = some u.val := (hb1.cell 11).trans H11.out; have HB1' := Lib.hid hb1; clear hb1))
      go_ret
      have hl : (u.l ++ [(a, x)]).length = u.l.length + 1 := by simp
      have := HFin.out wa1 g1 cg1 (u.l ++ [(a, x)]) hg1 (HC1.out.mono (by simp)) HB1'.out (by rw [hl, flat_snoc]; exact HO1.out)
      rw [hl] at this
      exact ⟨rfl, this.1, this.2⟩

end Go.Proofs.Ytilffolppnnkaaa
