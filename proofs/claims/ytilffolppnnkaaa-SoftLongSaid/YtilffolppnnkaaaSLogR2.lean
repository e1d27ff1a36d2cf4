/- The document's Read, Write, Broken. -/
import Derived.Test.YtilffolppnnkaaaSLogR1
namespace Go.Proofs.Ytilffolppnnkaaa
set_option maxRecDepth 100000
open Go.RowKit

theorem Rd.lend {α : Type} {size : Nat} {enc : α → List Value} (he : ∀ x, (enc x).length = size) {w : World} {base g n c : Nat} {l : List α} {e : TypeId} (h : w.ownsRow base e size (.slice (some ⟨g, 0, none⟩) n c) n (l.flatMap enc)) (hn : n = l.length) : Rd w w.heap.size (some ⟨g, 0, none⟩) size enc l := by
  subst hn
  obtain ⟨A, cap, hv, _, _, _, hR, _⟩ := Rd.of_row he h
  obtain ⟨rfl, rfl⟩ : some ⟨g, 0, none⟩ = A ∧ c = cap := by simpa using hv
  exact hR
/-- A list of pairs that nobody writes to any more. -/
structure SlP where
  A : Option Addr
  cap : Nat
  l : PL
def SlP.val (s : SlP) : Value := .slice s.A s.l.length s.cap
structure FzP (w : World) (N : List Nat) (s : SlP) : Prop where
  len : s.l.length ≤ s.cap
  max : s.cap ≤ maxLen
  nil : s.A = none → s.cap = 0
  rd : RdP w w.heap.size s.A s.l
  lt : ∀ a, s.A = some a → a.block < w.heap.size
  out : ∀ a, s.A = some a → a.block ∉ N
theorem FzP.step {w w' : World} {N N' : List Nat} {s : SlP} (h : FzP w N s) (k : Chg N w w') (hN : ∀ x ∈ N', x ∈ N ∨ w.heap.size ≤ x) : FzP w' N' s :=
  ⟨h.len, h.max, h.nil, h.rd.chg k h.out, fun a e => Nat.lt_of_lt_of_le (h.lt a e) k.size, fun a e hm => (hN _ hm).elim (h.out a e) (fun hx => by have := h.lt a e; omega)⟩
theorem FzP.of_row {w : World} {base : Nat} {v : Value} {l : PL} {t : TypeId} {N : List Nat} (h : w.ownsRow base t 2 v l.length (l.flatMap encP)) (hN : ∀ x ∈ v.ownBlock.toList, x ∉ N) : ∃ s : SlP, s.l = l ∧ v = s.val ∧ FzP w N s := by
  obtain ⟨A, cap, rfl, h1, h2, h3, hR, hg⟩ := Rd.of_row encP_len h
  exact ⟨⟨A, cap, l⟩, rfl, rfl, h1, h2, h3, hR, fun a e => (h.lt _ (hg a e)).2, fun a e => hN _ (by simp [hg a e])⟩

/-- The document's log. -/
def DocAt (w : World) (N : List Nat) (d : Nat) (R W : PL) : Prop := ∃ r u : SlP, r.l = R ∧ u.l = W ∧ Blk w d [r.val, u.val] 58 ∧ FzP w N r ∧ FzP w N u
theorem DocAt.step {w w' : World} {N N' : List Nat} {d : Nat} {R W : PL} (h : DocAt w N d R W) (k : Chg N w w') (hN : ∀ x ∈ N', x ∈ N ∨ w.heap.size ≤ x) (hd : Blk w' d = Blk w d) : DocAt w' N' d R W := by
  obtain ⟨r, u, e1, e2, hb, h1, h2⟩ := h
  exact ⟨r, u, e1, e2, by rw [hd]; exact hb, h1.step k hN, h2.step k hN⟩

def ReadRPost (w : World) (N : List Nat) (d : Nat) (R W : PL) (err : Int) (e : Ending) (w' : World) : Prop := e = .returned (.int .i64 err) ∧ DocAt w' N d R W ∧ Chg [d] w w'

theorem placeI_ge (l : PL) (a : Int) : (0 ≤ placeI l a) ↔ (place l a).isSome = true := by
  unfold placeI
  cases place l a <;> simp

set_option maxRecDepth 100000 in
set_option maxHeartbeats 2000000 in
theorem ReadR_any (w : World) (N : List Nat) (d : Nat) (R W : PL) (a x : Int) (hd : d ∈ N) (hN : ∀ x ∈ N, x < w.heap.size) (hR : R.length ≤ 128) (h : DocAt w N d R W) :
    Calls Try.prog 101 #[.pointer (some ⟨d, 0, none⟩), .int .i64 a, .int .u64 x] w (ReadRPost w N d (rdL R a x) W (rdErr R a)) := by
  obtain ⟨i0, hi, hz0, hz1, hz2⟩ := info_parts infoPair
  by_cases h0 : a < 0
  · have e1 : rdErr R a = 2 := by simp [rdErr, h0]
    have e2 : rdL R a x = R := by simp [rdL, h0]
    rw [e1, e2]
    have H := Lib.hid h
    clear h e1 e2 hR
    go_enter Try.func101, Try.ntmps101
    go_wp2_with fail
    go_ret
    exact ⟨rfl, H.out, Chg.refl _ _⟩
  have h0' : 0 ≤ a := by omega
  obtain ⟨r, u, rfl, rfl, hb, h1, h2⟩ := h
  have k0 : w.cell? ⟨d, 0, none⟩ = some (.slice r.A r.l.length r.cap) := hb.cell 0
  have f0 : w.frozen? ⟨d, 0, none⟩ = false := hb.free 0
  have HP := Lib.hid (Place_any w r.A r.cap _ r.l a (by omega) h1.rd)
  have HB := Lib.hid hb
  have H1 := Lib.hid h1
  have H2 := Lib.hid h2
  have hRl : (r.l.length : Int) ≤ 128 := by omega
  by_cases hs : (place r.l a).isSome = true
  · have e1 : rdErr r.l a = 0 := by simp [rdErr, h0, hs]
    have e2 : rdL r.l a x = r.l := by simp [rdL, h0, hs]
    rw [e1, e2]
    have hp := (placeI_ge r.l a).2 hs
    clear h0 hs e1 e2 hb h1 h2
    generalize placeI r.l a = p at *
    go_enter Try.func101, Try.ntmps101
    go_wp2_with fail
    refine HP.out.mono ?_
    rintro e w' ⟨rfl, rfl⟩
    go_wp2_with fail
    go_ret
    exact ⟨rfl, ⟨r, u, rfl, rfl, HB.out, H1.out, H2.out⟩, Chg.refl _ _⟩
  · have hp : ¬ 0 ≤ placeI r.l a := fun h => hs ((placeI_ge r.l a).1 h)
    have hp' : placeI r.l a < 0 := by omega
    by_cases hf : r.l.length = 128
    · have e1 : rdErr r.l a = 70 := by simp [rdErr, h0, hs, putErr, hf]
      have e2 : rdL r.l a x = r.l := by simp [rdL, h0, hs, putL, hf]
      rw [e1, e2]
      have hf' : (128 : Int) ≤ r.l.length := by omega
      clear h0 hs e1 e2 hb h1 h2 hf hp hR
      generalize placeI r.l a = p at *
      go_enter Try.func101, Try.ntmps101
      go_wp2_with fail
      refine HP.out.mono ?_
      rintro e w' ⟨rfl, rfl⟩
      go_wp2_with fail
      go_ret
      exact ⟨rfl, ⟨r, u, rfl, rfl, HB.out, H1.out, H2.out⟩, Chg.refl _ _⟩
    · have e1 : rdErr r.l a = 0 := by simp [rdErr, h0, hs, putErr, hf]
      have e2 : rdL r.l a x = r.l ++ [(a, x)] := by simp [rdL, h0, hs, putL, hf]
      rw [e1, e2]
      have hf' : (r.l.length : Int) < 128 := by omega
      have HT := Lib.hid (Twin_any w r.A r.cap _ r.l (by omega) h1.len h1.nil h1.rd)
      have HN := Lib.hid hN
      have HD := Lib.hid hd
      have hdl := hb.lt
      clear h0 hs e1 e2 hb h1 h2 hf hp hN hd
      generalize placeI r.l a = p at *
      go_enter Try.func101, Try.ntmps101
      go_wp2_with fail
      refine HP.out.mono ?_
      rintro e w' ⟨rfl, rfl⟩
      go_wp2_with fail
      refine HT.out.mono ?_
      rintro e w1 ⟨v, rfl, hv, hC⟩
      have HV := Lib.hid hv
      have HC := Lib.hid hC
      have hs1 := hC.size
      clear hv hC
      go_wp2_with (first
        | (at_builtin; refine wpList_append_own_at _ rfl (.tmp 27) (.tmp 31) 56 rfl (w.heap.size) 85 i0 (.agg #[.int .i64 0, .int .u64 0]) 2 16 Try.underlying56 hi hz0 hz1 hz2 rfl (by decide) _ _ _ rfl (HV.out.alloc _) ⟨w1.heap.size, 0, none⟩ 1 1 [.int .i64 a, .int .u64 x] rfl rfl (cells_at (by simp) [.int .i64 a, .int .u64 x] _) (by simp [Value.oneCell']) (by unfold maxLen; omega) (by omega) (by first | omega | (simp; omega) | simp) ?_; intro va1 wa1 hown1 hgrow1 _ hblk1; have hsz1 := hgrow1.size; have HO1 := Lib.hid hown1; have HG1 := Lib.hid hgrow1; have HB1 := Lib.hid hblk1; clear hown1 hgrow1 hblk1; obtain ⟨g1, cg1, hv1, hg1, hg2, hc1, hc2⟩ := ownsRow_posC HO1.out (by omega); subst hv1; have HC1 := Lib.hid ((HC.out.alloc _).grew (HV.out.alloc _) HG1.out (fun q h1 h2 => by omega)); have hb1 := HC1.out.blk HB.out (by simp); have f1 : wa1.frozen? ⟨d, 0, none⟩ = false := hb1.free 0; have k1 : wa1.cell? ⟨d, 0, none⟩ = some r.val := hb1.cell 0; have HB1' := Lib.hid hb1; clear hb1))
      go_ret
      have hO1 : wa1.ownsRow w.heap.size 85 2 (.slice (some ⟨g1, 0, none⟩) (r.l.length + 1) cg1) (r.l ++ [(a, x)]).length ((r.l ++ [(a, x)]).flatMap encP) := by
        rw [show (r.l ++ [(a, x)]).length = r.l.length + 1 from by simp, flat_snoc]; exact HO1.out
      have hgd : g1 ≠ d := by omega
      have hO2 := ownsRow_chg hO1 ((Chg.refl [d] wa1).setCell (p := ⟨d, 0, none⟩) (by simp) (.slice (some ⟨g1, 0, none⟩) (r.l.length + 1) cg1)) (by simpa [Value.ownBlock] using hgd)
      obtain ⟨s, hs, hsv, hF⟩ := FzP.of_row (N := N) hO2 (fun y hy hm => by simp [Value.ownBlock] at hy; subst hy; have := HN.out y hm; omega)
      have hb2 := HB1'.out.set 0 (.slice (some ⟨g1, 0, none⟩) (r.l.length + 1) cg1)
      have hC2 : Chg [d] w (wa1.setCell ⟨d, 0, none⟩ (.slice (some ⟨g1, 0, none⟩) (r.l.length + 1) cg1)) := (HC1.out.mono (by simp)).setCell (by simp) _
      refine ⟨rfl, ⟨s, u, hs, rfl, ?_, hF, H2.out.step (hC2.mono (fun y hy => by simp at hy; subst hy; exact HD.out)) (fun y hy => .inl hy)⟩, ?_⟩
      · rw [← hsv]; exact hb2
      · exact hC2

theorem flatP_set (l : PL) (i : Nat) (hi : i < l.length) (x : Int) : (l.flatMap encP).set (i * 2 + 1) (.int .u64 x) = (l.set i (l[i].1, x)).flatMap encP := by
  rw [← cellsP_flat, ← cellsP_flat]; exact cellsP_set l i hi x

set_option maxRecDepth 100000 in
set_option maxHeartbeats 4000000 in
theorem WriteR_any (w : World) (N : List Nat) (d : Nat) (R W : PL) (a x : Int) (hd : d ∈ N) (hN : ∀ x ∈ N, x < w.heap.size) (hW : W.length ≤ 128) (h : DocAt w N d R W) :
    Calls Try.prog 81 #[.pointer (some ⟨d, 0, none⟩), .int .i64 a, .int .u64 x] w (ReadRPost w N d R (wrL W a x) (wrErr W a)) := by
  obtain ⟨i0, hi, hz0, hz1, hz2⟩ := info_parts infoPair
  by_cases h0 : a < 0
  · have e1 : wrErr W a = 2 := by simp [wrErr, rdErr, h0]
    have e2 : wrL W a x = W := by simp [wrL, h0]
    rw [e1, e2]
    have H := Lib.hid h
    clear h e1 e2 hW
    go_enter Try.func81, Try.ntmps81
    go_wp2_with fail
    go_ret
    exact ⟨rfl, H.out, Chg.refl _ _⟩
  have h0' : 0 ≤ a := by omega
  obtain ⟨r, u, rfl, rfl, hb, h1, h2⟩ := h
  have k1 : w.cell? ⟨d, 1, none⟩ = some (.slice u.A u.l.length u.cap) := hb.cell 1
  have HT := Lib.hid (Twin_any w u.A u.cap _ u.l (by omega) h2.len h2.nil h2.rd)
  have HB := Lib.hid hb
  have H1 := Lib.hid h1
  have H2 := Lib.hid h2
  have HN := Lib.hid hN
  have HD := Lib.hid hd
  have hdl := hb.lt
  have hWl : (u.l.length : Int) ≤ 128 := by omega
  have fin : ∀ (w' : World) (g1 cg1 : Nat) (l : PL), w.heap.size ≤ g1 → Chg [d] w w' → Blk w' d [r.val, u.val] 58 → w'.ownsRow w.heap.size 85 2 (.slice (some ⟨g1, 0, none⟩) l.length cg1) l.length (l.flatMap encP) →
      DocAt (w'.setCell ⟨d, 1, none⟩ (.slice (some ⟨g1, 0, none⟩) l.length cg1)) N d r.l l ∧ Chg [d] w (w'.setCell ⟨d, 1, none⟩ (.slice (some ⟨g1, 0, none⟩) l.length cg1)) := by
    intro w' g1 cg1 l hg hC hB hO
    have hgd : g1 ≠ d := by omega
    have hO2 := ownsRow_chg hO ((Chg.refl [d] w').setCell (p := ⟨d, 1, none⟩) (by simp) (.slice (some ⟨g1, 0, none⟩) l.length cg1)) (by simpa [Value.ownBlock] using hgd)
    obtain ⟨s, hs, hsv, hF⟩ := FzP.of_row (N := N) hO2 (fun y hy hm => by simp [Value.ownBlock] at hy; subst hy; have := HN.out y hm; omega)
    have hb2 := hB.set 1 (.slice (some ⟨g1, 0, none⟩) l.length cg1)
    have hC2 : Chg [d] w (w'.setCell ⟨d, 1, none⟩ (.slice (some ⟨g1, 0, none⟩) l.length cg1)) := hC.setCell (by simp) _
    refine ⟨⟨r, s, rfl, hs, ?_, H1.out.step (hC2.mono (fun y hy => by simp at hy; subst hy; exact HD.out)) (fun y hy => .inl hy), hF⟩, hC2⟩
    rw [← hsv]; exact hb2
  have HFin := Lib.hid fin
  clear hN hd hb h1 h2 fin
  cases hp : place u.l a with
  | some i =>
    obtain ⟨hil, hia⟩ := place_lt hp
    have e1 : wrErr u.l a = 0 := by simp [wrErr, rdErr, h0, hp]
    have e2 : wrL u.l a x = u.l.set i (a, x) := by simp [wrL, h0, hp]
    rw [e1, e2]
    have HPE := Lib.hid (show placeI u.l a = i from by rw [placeI, hp])
    have hil' : (i : Int) < u.l.length := by omega
    have hpos1 : 0 < u.l.length := by omega
    clear h0 e1 e2 hp
    go_enter Try.func81, Try.ntmps81
    go_wp2_with fail
    refine HT.out.mono ?_
    rintro e w1 ⟨v, rfl, hv, hC⟩
    obtain ⟨g1, cg1, rfl, hg1, hg2, hc1, hc2⟩ := ownsRow_posC hv hpos1
    have hP := Place_any w1 (some ⟨g1, 0, none⟩) cg1 _ u.l a (by omega) (Rd.lend encP_len hv rfl)
    rw [HPE.out] at hP
    have HP := Lib.hid hP
    have hb1 := hC.blk HB.out (by simp)
    have f1 : w1.frozen? ⟨d, 1, none⟩ = false := hb1.free 1
    have kk1 : w1.cell? ⟨d, 1, none⟩ = some u.val := hb1.cell 1
    have c1 : w1.cell? ⟨g1, i * 2 + 1, none⟩ = some (.int .u64 u.l[i].2) := by
      rw [hv.cellAt _ (by omega), flat_get encP_len u.l i hil 1 (by decide)]; rfl
    have fg : w1.frozen? ⟨g1, i * 2 + 1, none⟩ = false := hv.frozenAt _
    have hSt := (hv.stored (i * 2 + 1) (.int .u64 x)).1
    rw [flatP_set _ _ hil, hia] at hSt
    have hgd : ¬ g1 = d := by omega
    have hgd' : ¬ d = g1 := by omega
    have HSt := Lib.hid hSt
    have HC1 := Lib.hid ((hC.mono (T := [d]) (by simp)).setCell (p := ⟨g1, i * 2 + 1, none⟩) (fun h => absurd (show g1 < w.heap.size from h) (by omega)) (.int .u64 x))
    have HB1 := Lib.hid (hb1.other (a := ⟨g1, i * 2 + 1, none⟩) (by simpa using hgd) (.int .u64 x))
    clear hv hC hP hb1 hSt hia
    generalize u.l[i].2 = y at *
    go_wp2_with fail
    refine HP.out.mono ?_
    rintro e w' ⟨rfl, rfl⟩
    go_wp2_with fail
    go_ret
    have hls : (u.l.set i (a, x)).length = u.l.length := by simp
    have := HFin.out _ g1 cg1 (u.l.set i (a, x)) hg1 HC1.out HB1.out (by rw [hls]; exact HSt.out)
    rw [hls] at this
    exact ⟨rfl, this.1, this.2⟩
  | none =>
    have HPE := Lib.hid (show placeI u.l a = -1 from by rw [placeI, hp])
    by_cases hf : u.l.length = 128
    · have e1 : wrErr u.l a = 70 := by simp [wrErr, rdErr, h0, hp, putErr, hf]
      have e2 : wrL u.l a x = u.l := by simp [wrL, h0, hp, putL, hf]
      rw [e1, e2]
      have hf' : (128 : Int) ≤ u.l.length := by omega
      clear h0 e1 e2 hf hp hW
      go_enter Try.func81, Try.ntmps81
      go_wp2_with fail
      refine HT.out.mono ?_
      rintro e w1 ⟨v, rfl, hv, hC⟩
      obtain ⟨Av, cv, rfl, _, _, _, hRv, _⟩ := Rd.of_row encP_len hv
      have hP := Place_any w1 Av cv _ u.l a (by omega) hRv
      rw [HPE.out] at hP
      have HP := Lib.hid hP
      have HC := Lib.hid hC
      have hb1 := Lib.hid (hC.blk HB.out (by simp))
      clear hv hC hP hRv
      go_wp2_with fail
      refine HP.out.mono ?_
      rintro e w' ⟨rfl, rfl⟩
      go_wp2_with fail
      go_ret
      have hCN := HC.out.mono (T := N) (by simp)
      exact ⟨rfl, ⟨r, u, rfl, rfl, hb1.out, H1.out.step hCN (fun y hy => .inl hy), H2.out.step hCN (fun y hy => .inl hy)⟩, HC.out.mono (by simp)⟩
    · have e1 : wrErr u.l a = 0 := by simp [wrErr, rdErr, h0, hp, putErr, hf]
      have e2 : wrL u.l a x = u.l ++ [(a, x)] := by simp [wrL, h0, hp, putL, hf]
      rw [e1, e2]
      have hf' : (u.l.length : Int) < 128 := by omega
      clear h0 e1 e2 hf hp
      go_enter Try.func81, Try.ntmps81
      go_wp2_with fail
      refine HT.out.mono ?_
      rintro e w1 ⟨v, rfl, hv, hC⟩
      obtain ⟨Av, cv, rfl, _, _, _, hRv, _⟩ := Rd.of_row encP_len hv
      have hP := Place_any w1 Av cv _ u.l a (by omega) hRv
      rw [HPE.out] at hP
      have HP := Lib.hid hP
      have HC := Lib.hid hC
      have HV := Lib.hid hv
      have hs1 := hC.size
      clear hv hC hP hRv
      go_wp2_with fail
      refine HP.out.mono ?_
      rintro e w' ⟨rfl, rfl⟩
      go_wp2_with (first
        | (at_builtin; refine wpList_append_own_at _ rfl (.tmp 34) (.tmp 38) 56 rfl (w.heap.size) 85 i0 (.agg #[.int .i64 0, .int .u64 0]) 2 16 Try.underlying56 hi hz0 hz1 hz2 rfl (by decide) _ _ _ rfl (HV.out.alloc _) ⟨w1.heap.size, 0, none⟩ 1 1 [.int .i64 a, .int .u64 x] rfl rfl (cells_at (by simp) [.int .i64 a, .int .u64 x] _) (by simp [Value.oneCell']) (by unfold maxLen; omega) (by omega) (by first | omega | (simp; omega) | simp) ?_; intro va1 wa1 hown1 hgrow1 _ hblk1; have hsz1 := hgrow1.size; have HO1 := Lib.hid hown1; have HG1 := Lib.hid hgrow1; have HB1 := Lib.hid hblk1; clear hown1 hgrow1 hblk1; obtain ⟨g1, cg1, hv1, hg1, hg2, hc1, hc2⟩ := ownsRow_posC HO1.out (by omega); subst hv1; have HC1 := Lib.hid ((HC.out.alloc _).grew (HV.out.alloc _) HG1.out (fun q h1 h2 => by omega)); have hb1 := HC1.out.blk HB.out (by simp); have f1 : wa1.frozen? ⟨d, 1, none⟩ = false := hb1.free 1; have kk1 : wa1.cell? ⟨d, 1, none⟩ = some u.val := hb1.cell 1; have HB1' := Lib.hid hb1; clear hb1))
      go_ret
      have hl : (u.l ++ [(a, x)]).length = u.l.length + 1 := by simp
      have := HFin.out wa1 g1 cg1 (u.l ++ [(a, x)]) hg1 (HC1.out.mono (by simp)) HB1'.out (by rw [hl, flat_snoc]; exact HO1.out)
      rw [hl] at this
      exact ⟨rfl, this.1, this.2⟩

end Go.Proofs.Ytilffolppnnkaaa
