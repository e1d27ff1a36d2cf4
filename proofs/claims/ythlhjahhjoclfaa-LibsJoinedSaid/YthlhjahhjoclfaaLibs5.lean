/- LibsJoins: the lists that are lent. -/
import Derived.Test.YthlhjahhjoclfaaLibs4
namespace Go.Proofs.Ythlhjahhjoclfaa
open Go.RowKit

theorem quiet_add {P : Program} {f : FuncId} {args : Array Value} {w : World} {a n : Nat} {v : Value}
    (h : Calls P f args (w.drewN (a + n)) fun e w' => e = .returned v ∧ ∃ m, w' = (w.drewN (a + n)).drewN m) :
    Calls P f args (w.drewN (a + n)) fun e w'' => e = .returned v ∧ ∃ m, w'' = w.drewN (a + m) :=
  h.mono fun _ _ ⟨he, m, hm⟩ => ⟨he, n + m, by rw [hm, World.drewN_drewN, Nat.add_assoc]⟩
def i77 : Ins := ⟨77, 0, 0, 0, 0⟩
/-- A list that was lent: one more behind its end; its block is not one of F. -/
def LentOk (w : World) (F : List Nat) (s : Sl) : Prop := ∃ g, s.A = some ⟨g, 0, none⟩ ∧ g < w.heap.size ∧ g ∉ F ∧ s.l.length + 1 ≤ s.cap ∧ s.cap ≤ 9223372036854775807 ∧ RdI w w.heap.size s.A (s.l ++ [i77])
theorem LentOk.step {w w' : World} {F F' : List Nat} {s : Sl} (h : LentOk w F s) (k : Chg F w w') (hF : ∀ x ∈ F', x ∈ F ∨ w.heap.size ≤ x) : LentOk w' F' s := by
  obtain ⟨g, e, hg, hn, h1, h2, hR⟩ := h
  refine ⟨g, e, Nat.lt_of_lt_of_le hg k.size, fun hm => (hF g hm).elim hn (fun h => by omega), h1, h2, hR.chg k (fun a ha => ?_)⟩
  rw [e] at ha; cases ha; exact hn
theorem LentOk.ok {w : World} {F : List Nat} {s : Sl} (h : LentOk w F s) : SlOk w w.heap.size s := by
  obtain ⟨g, e, hg, hn, h1, h2, hR⟩ := h
  exact ⟨by omega, by unfold maxLen; exact h2, (fun e' => by rw [e] at e'; cases e'), hR.head⟩
theorem encS_len (s : Sl) : (encS s).length = 1 := rfl
theorem encS_one (l : List Sl) : ∀ u ∈ l.flatMap encS, u.oneCell' = true := by
  intro u hu
  obtain ⟨x, _, hx⟩ := List.mem_flatMap.1 hu
  simp [encS] at hx
  subst hx; rfl
theorem infoSls : (Try.prog.info? 23).map (fun i => (i.zero, i.size, i.bytes)) = some (some (.slice none 0 0), 1, 24) := by kernel_rfl

def LtRel (W : World) (ps : List Sl) (vl i : Value) (wr : World) : Prop := ∃ (k : Nat) (ss : List Sl), k ≤ ps.length ∧ i = .int .i64 k ∧ (∀ s ∈ ps.take k, s.l.length ≤ 300) ∧ ss.map Sl.l = (ps.take k).map Sl.l ∧ wr.ownsRow W.heap.size 23 1 vl ss.length (ss.flatMap encS) ∧ (∀ s ∈ ss, LentOk wr vl.ownBlock.toList s) ∧ Chg [] W wr

theorem Rd.lend {α : Type} {size : Nat} {enc : α → List Value} (he : ∀ x, (enc x).length = size) {w : World} {base g n c : Nat} {l : List α} {e : TypeId} (h : w.ownsRow base e size (.slice (some ⟨g, 0, none⟩) n c) n (l.flatMap enc)) (hn : n = l.length) : Rd w w.heap.size (some ⟨g, 0, none⟩) size enc l := by
  subst hn
  obtain ⟨A, cap, hv, _, _, _, hR, _⟩ := Rd.of_row he h
  obtain ⟨rfl, rfl⟩ : some ⟨g, 0, none⟩ = A ∧ c = cap := by simpa using hv
  exact hR

/-- The same, below a number. -/
def LentB (w : World) (B : Nat) (s : Sl) : Prop := ∃ g, s.A = some ⟨g, 0, none⟩ ∧ s.l.length + 1 ≤ s.cap ∧ s.cap ≤ 9223372036854775807 ∧ RdI w B s.A (s.l ++ [i77])
theorem LentOk.lentB {w : World} {F : List Nat} {s : Sl} (h : LentOk w F s) : LentB w w.heap.size s := by
  obtain ⟨g, e, hg, hn, h1, h2, hR⟩ := h
  exact ⟨g, e, h1, h2, hR⟩
theorem lent_parts {w w' : World} {A : Option Addr} {ss : List Sl} (h : Rd w w.heap.size A 1 encS ss) (hl : ∀ s ∈ ss, LentB w w.heap.size s) (k : Chg [] w w') : Parts w' A ss :=
  ⟨h.chg0 k, fun s hs => by
    obtain ⟨g, e, h1, h2, hR⟩ := hl s hs
    exact ⟨by omega, by unfold maxLen; exact h2, (fun e' => by rw [e] at e'; cases e'), (hR.chg0 k).head⟩⟩

def incI (x : Ins) : Ins := { x with op := wrap64 (x.op + 1) }
def incL (l : List Ins) (k : Nat) : List Ins := (l.take k).map incI ++ l.drop k
theorem incL_len {l : List Ins} {k : Nat} (hk : k ≤ l.length) : (incL l k).length = l.length := by simp [incL]; omega
theorem incL_get {l : List Ins} {k : Nat} (hk : k < l.length) (h : k < (incL l k).length) : (incL l k)[k] = l[k] := by
  simp only [incL]
  rw [List.getElem_append_right (by simp; omega)]
  simp [Nat.min_eq_left (Nat.le_of_lt hk)]
theorem incL_step {l : List Ins} {k : Nat} (hk : k < l.length) : incL l (k + 1) = (incL l k).set k (incI l[k]) := by
  simp only [incL]
  rw [List.set_append_right _ _ (by simp; omega)]
  simp only [List.length_map, List.length_take, Nat.min_eq_left (Nat.le_of_lt hk), Nat.sub_self]
  rw [List.drop_eq_getElem_cons hk, List.set_cons_zero, List.take_add_one, List.getElem?_eq_getElem hk, List.map_append]
  simp only [Option.toList_some, List.map_cons, List.map_nil, List.append_assoc, List.cons_append, List.nil_append]

def IncRel (W0 : World) (B : Nat) (va : Value) (l : List Ins) (i : Value) (wr : World) : Prop := ∃ k : Nat, k ≤ l.length ∧ i = .int .i64 k ∧ wr.ownsRow B 25 5 va l.length ((incL l k).flatMap encI) ∧ Chg va.ownBlock.toList W0 wr

set_option maxRecDepth 100000 in
set_option maxHeartbeats 4000000 in
theorem LibsJoins_any (W : World) (A : Option Addr) (cap : Nat) (ps : List Sl) (hcap : ps.length ≤ maxLen) (h : Parts W A ps) :
    Calls Try.prog 3 #[.slice A ps.length cap] W (StaysPost W) := by
  unfold maxLen at hcap
  obtain ⟨i0, hi, hz0, hz1, hz2⟩ := info_parts infoIns
  obtain ⟨j0, hj, hy0, hy1, hy2⟩ := info_parts infoSls
  have HP := Lib.hid h
  clear h
  by_cases hn : 20 < ps.length
  · have hn' : (20 : Int) < ps.length := by omega
    go_enter Try.func3, Try.ntmps3
    go_wp2_with fail
    go_ret
    exact ⟨rfl, Below.refl _ _⟩
  have hn' : (ps.length : Int) ≤ 20 := by omega
  have hn20 : ps.length ≤ 20 := by omega
  clear hn
  go_enter Try.func3, Try.ntmps3
  go_wp2_with fail
  go_loopw [3, 4] (fun vl i wr => LtRel W ps vl i wr) (fun _ i _ => ps.length - (intOf i).toNat)
  case atStart => exact ⟨0, [], Nat.zero_le _, rfl, by simp, rfl, World.ownsRow_nil _ _ _ _, by simp, Chg.refl _ _⟩
  case round =>
    obtain ⟨k, ss, hk, rfl, hle, hss, hO, hL, hC⟩ := hrel
    have hsk : ss.length = k := by have := congrArg List.length hss; simpa [Nat.min_eq_left hk] using this
    by_cases hlt : k < ps.length
    · obtain ⟨hR, hq⟩ := HP.out
      obtain ⟨b, off, rfl, hb, hc⟩ := hR (by omega)
      have c0 : wr.cell? ⟨b, off + k, none⟩ = some (.slice ps[k].A ps[k].l.length ps[k].cap) := by
        have := hc k hlt 0 (by decide)
        rw [Nat.mul_one, Nat.add_zero] at this
        rw [hC.cell0 hb, this]; rfl
      obtain ⟨q1, q2, q3, q4⟩ := hq _ (List.getElem_mem hlt)
      unfold maxLen at q2
      have q2' : (ps[k].l.length : Int) ≤ 9223372036854775807 := by omega
      have HQ4 := Lib.hid (q4.chg0 hC)
      have HLe := Lib.hid hle
      have HSs := Lib.hid hss
      have HT := Lib.hid (show ps.take (k + 1) = ps.take k ++ [ps[k]] from by rw [List.take_add_one, List.getElem?_eq_getElem hlt]; rfl)
      have HO := Lib.hid hO
      have HL := Lib.hid hL
      have HC := Lib.hid hC
      have HA0 := Lib.hid q3
      clear hR hc hle hss hO hL hC q3 q4 hq
      generalize hpk : ps[k] = pk at *
      clear hpk
      obtain ⟨A1, cap1, p⟩ := pk
      simp only at *
      by_cases h300 : 300 < p.length
      · have h300' : (300 : Int) < p.length := by omega
        clear h300
        go_wp2_with fail
        go_ret
        exact ⟨rfl, HC.out.to_below (by simp) (Nat.le_refl _)⟩
      have h300' : (p.length : Int) ≤ 300 := by omega
      have h300n : p.length ≤ 300 := by omega
      clear h300
      have HN := Lib.hid (HQ4.out.news (by decide) encI_len)
      have hbw : b < wr.heap.size := Nat.lt_of_lt_of_le hb HC.out.size
      have hsw := HC.out.size
      have hss2 : ss.length ≤ 20 := by omega
      go_wp2_with (first
        | (at_builtin; refine wpList_append_own_any _ rfl (.tmp 26) (.tmp 30) 23 rfl (wr.heap.size) 25 i0 (.agg #[.int .i64 0, .int .i64 0, .int .i64 0, .int .i64 0, .int .i64 0]) 5 40 Try.underlying23 hi hz0 hz1 hz2 rfl (by decide) _ _ _ rfl (World.ownsRow_nil wr wr.heap.size _ 5) A1 (p.length) (cap1) (List.flatMap encI p) rfl HA0.out (flat_len encI_len _) q1 HN.out (encI_one _) (by unfold maxLen; omega) (by omega) (by first | omega | (simp; omega) | simp) ?_; intro va1 wa1 hown1 hgrow1 hblk1 hnil1; have hsz1 := hgrow1.size; have HO1 := Lib.hid hown1; have HG1 := Lib.hid hgrow1; have HB1 := Lib.hid hblk1; have HZ1 := Lib.hid hnil1; clear hown1 hgrow1 hblk1 hnil1)
        | (at_builtin; refine wpList_append_own_at _ rfl (.tmp 31) (.tmp 33) 23 rfl (wr.heap.size) 25 i0 (.agg #[.int .i64 0, .int .i64 0, .int .i64 0, .int .i64 0, .int .i64 0]) 5 40 Try.underlying23 hi hz0 hz1 hz2 rfl (by decide) _ _ _ rfl (HO1.out.alloc _) ⟨wa1.heap.size, 0, none⟩ 1 1 [.int .i64 77, .int .i64 0, .int .i64 0, .int .i64 0, .int .i64 0] rfl rfl (cells_at (by simp) [.int .i64 77, .int .i64 0, .int .i64 0, .int .i64 0, .int .i64 0] _) (by simp [Value.oneCell']) (by unfold maxLen; omega) (by omega) (by first | omega | (simp; omega) | simp) ?_; intro va2 wa2 hown1 hgrow1 _ hblk1; have hsz2 := hgrow1.size; have HO2 := Lib.hid hown1; have HG2 := Lib.hid hgrow1; have HB2 := Lib.hid hblk1; clear hown1 hgrow1 hblk1; obtain ⟨g, c, hv1, hg1, hg2, hc1, hc2⟩ := ownsRow_posC HO2.out (by omega); subst hv1; have hc1' : (p.length : Int) ≤ c := (by omega); have hc2' : (c : Int) ≤ 9223372036854775807 := (by omega); have HCw := Lib.hid ((((Chg.refl [] wr).grew (World.ownsRow_nil wr wr.heap.size 25 5) HG1.out (fun q h1 h2 => absurd h1 (by omega))).alloc _).grew (HO1.out.alloc _) HG2.out (fun q h1 h2 => absurd h1 (by omega))); have c2 := (HCw.out.cell0 hbw (off + k)).trans c0; have HOw := Lib.hid (ownsRow_chg HO.out HCw.out (by simp)); have hsz3 := HCw.out.size)
        | (at_builtin; refine wpList_append_own_at _ rfl (.tmp 35) (.tmp 43) 22 rfl (W.heap.size) 23 j0 (.slice none 0 0) 1 24 Try.underlying22 hj hy0 hy1 hy2 rfl (by decide) _ _ _ rfl (HOw.out.alloc _) ⟨wa2.heap.size, 0, none⟩ 1 1 [.slice (some ⟨g, 0, none⟩) p.length c] rfl rfl (cells_at (by simp) [.slice (some ⟨g, 0, none⟩) p.length c] _) (by simp [Value.oneCell']) (by unfold maxLen; omega) (by omega) (by first | omega | (simp; omega) | simp) ?_; intro va3 wa3 hown1 hgrow1 _ hblk1; have hsz3 := hgrow1.size; have HO3 := Lib.hid hown1; have HG3 := Lib.hid hgrow1; have HB3 := Lib.hid hblk1; clear hown1 hgrow1 hblk1))
      go_roundw
      case rel =>
        have hg3 : (wa2.alloc (.cells #[.slice (some ⟨g, 0, none⟩) p.length c] 23)).grownBy wa3 u3.ownBlock := HG3.out
        have hb3 : va3.ownBlock = u3.ownBlock ∨ va3.ownBlock = some (wa2.alloc (.cells #[.slice (some ⟨g, 0, none⟩) p.length c] 23)).heap.size := HB3.out
        have hbs : (wa2.alloc (.cells #[.slice (some ⟨g, 0, none⟩) p.length c] 23)).heap.size = wa2.heap.size + 1 := by simp
        rw [hbs] at hb3
        have hlt3 := ownsRow_lt HO.out
        have hF : ∀ x ∈ va3.ownBlock.toList, x ∈ u3.ownBlock.toList ∨ wa2.heap.size < x := by
          intro x hx
          rcases hb3 with e | e
          · rw [e] at hx; exact .inl hx
          · rw [e] at hx; simp at hx; exact .inr (by omega)
        have hC3 : Chg u3.ownBlock.toList wa2 wa3 := ((Chg.refl _ wa2).alloc _).grown hg3 (fun q e _ => by simpa using e)
        refine ⟨k + 1, ss ++ [⟨some ⟨g, 0, none⟩, c, p⟩], by omega, by go_num, ?_, ?_, ?_, ?_, ?_⟩
        · rw [HT.out]
          intro s hs
          rcases List.mem_append.1 hs with hs | hs
          · exact HLe.out s hs
          · simp at hs; subst hs; exact h300n
        · rw [HT.out, List.map_append, List.map_append, HSs.out]; rfl
        · have h := HO3.out
          rw [List.length_append, flat_app]
          exact h
        · intro s hs
          rcases List.mem_append.1 hs with hs | hs
          · exact (HL.out s hs).step ((HCw.out.mono (by simp)).trans hC3) (fun x hx => (hF x hx).elim .inl (fun h => .inr (by omega)))
          · simp at hs
            subst hs
            refine ⟨g, rfl, Nat.lt_of_lt_of_le hg2 hC3.size, fun hm => ?_, by simpa using hc1, hc2, ?_⟩
            · rcases hF g hm with h | h
              · have := hlt3 g h; omega
              · omega
            · have hr := HO2.out
              rw [List.nil_append, show [Value.int .i64 77, .int .i64 0, .int .i64 0, .int .i64 0, .int .i64 0] = encI i77 from rfl, ← flat_snoc] at hr
              exact (Rd.lend encI_len hr (by simp)).chg hC3 (fun a ha hm => by cases ha; have := hlt3 g hm; omega)
        · exact ((HC.out.trans HCw.out).alloc _).grown hg3 (fun q e hl => by have := (HO.out.lt q e).1; omega)
      case measure => simp [intOf]; omega
    · obtain rfl : k = ps.length := by omega
      rw [List.take_length] at hle hss
      have hle2 : ∀ s ∈ ss, s.l.length ≤ 300 := fun s hs => by
        have : s.l ∈ ps.map Sl.l := by rw [← hss]; exact List.mem_map_of_mem hs
        obtain ⟨s', hs', e⟩ := List.mem_map.1 this
        rw [← e]; exact hle s' hs'
      have hll : (joinL (ps.map Sl.l)).length ≤ 6000 := by
        have := joinL_len (ps.map Sl.l) (fun p hp => by obtain ⟨s, hs, rfl⟩ := List.mem_map.1 hp; exact hle s hs) ps.length (by simp)
        rw [List.take_of_length_le (by simp)] at this
        omega
      obtain ⟨Al, cl, rfl, hcl1, hcl2, _, hRl, _⟩ := Rd.of_row encS_len hO
      have hR1 := JoinR_any wr A cap ps hn20 hle (HP.out.chg0 hC)
      have HR1 := Lib.hid hR1
      have HLe := Lib.hid hle
      have HLe2 := Lib.hid hle2
      have HSs := Lib.hid hss
      have HL := Lib.hid (fun s hs => (hL s hs).lentB)
      have HC := Lib.hid hC
      have HRl := Lib.hid hRl
      have hsk' : (ss.length : Int) ≤ 20 := by omega
      have HSk := Lib.hid hsk
      clear hle hle2 hss hO hL hC hRl hR1 hsk
      obtain ⟨w0, rfl⟩ : ∃ w0, w0 = wr := ⟨_, rfl⟩
      generalize hLd : joinL (ps.map Sl.l) = L at *
      have HLd := Lib.hid hLd
      clear hLd
      have hll' : (L.length : Int) ≤ 6000 := by omega
      go_wp2_with fail
      refine HR1.out.mono ?_
      rintro e w1 ⟨vw, rfl, hw, hC1⟩
      obtain ⟨Aw, cw, rfl, _, _, _, hRw, _⟩ := Rd.of_row encI_len hw
      have HRw := Lib.hid hRw
      have HD1 := Lib.hid hC1
      have hJ1 := Join_any w1 Al cl ss (by omega) HLe2.out (lent_parts HRl.out HL.out hC1)
      rw [HSs.out, HLd.out] at hJ1
      have HJ1 := Lib.hid hJ1
      have hs01 := hC1.size
      clear hw hRw hC1 HR1 hJ1
      go_wp2_with fail
      refine HJ1.out.mono ?_
      rintro e w2 ⟨va, rfl, ha, hC2⟩
      obtain ⟨Aa, ca, rfl, hca1, hca2, _, hRa, _⟩ := Rd.of_row encI_len ha
      have HOa := Lib.hid ha
      have HRa := Lib.hid hRa
      have HF := Lib.hid (fun x hx => ha.lt x (by simpa using hx) : ∀ x ∈ (Value.slice Aa L.length ca).ownBlock.toList, w1.heap.size ≤ x ∧ x < w2.heap.size)
      have HW2 := Lib.hid hC2
      have HD2 := Lib.hid (HD1.out.trans hC2)
      have hJ2 := Join_any w2 Al cl ss (by omega) HLe2.out (lent_parts HRl.out HL.out HD2.out)
      rw [HSs.out, HLd.out] at hJ2
      have HJ2 := Lib.hid hJ2
      have hs12 := hC2.size
      clear ha hRa hC2 HJ1 HD1 hJ2
      go_wp2_with fail
      refine HJ2.out.mono ?_
      rintro e w3 ⟨vb, rfl, hbO, hC3⟩
      obtain ⟨Ab, cb, rfl, hcb1, hcb2, _, _, _⟩ := Rd.of_row encI_len hbO
      have HOb := Lib.hid hbO
      have HW3 := Lib.hid (HW2.out.trans hC3)
      have HD3 := Lib.hid (HD2.out.trans hC3)
      have hs23 := hC3.size
      have HOa3 := Lib.hid (ownsRow_chg HOa.out hC3 (by simp))
      have HRa3 := Lib.hid (HRa.out.chg0 hC3)
      clear hbO hC3 HJ2 HD2 HW2 HRa HOa
      go_wp2_with fail
      refine (Same_true w3 Aa Aw ca cw _ _ L (by omega) HRa3.out (HRw.out.chg0 HW3.out)).mono ?_
      rintro e w4 ⟨rfl, q4, rfl⟩
      have hd4 : Chg [] w3 (w3.drewN q4) := (Chg.refl _ _).drewN q4
      have HOa4 := Lib.hid (ownsRow_chg HOa3.out hd4 (by simp))
      have HOb4 := Lib.hid (ownsRow_chg HOb.out hd4 (by simp))
      have HW4 := Lib.hid (HW3.out.trans hd4)
      have HD4 := Lib.hid (HD3.out.trans hd4)
      have hs34 := hd4.size
      clear hd4 HOa3 HOb HW3 HD3 HRa3
      generalize w3.drewN q4 = w4 at *
      go_wp2_with fail
      go_loopw [57] (fun i wr => IncRel w4 w1.heap.size (.slice Aa L.length ca) L i wr) (fun i _ => L.length - (intOf i).toNat)
      case atStart => exact ⟨0, Nat.zero_le _, rfl, HOa4.out, Chg.refl _ _⟩
      case round =>
        obtain ⟨k, hk, rfl, hO, hC⟩ := hrel
        by_cases hltk : k < L.length
        · obtain ⟨ga, rfl⟩ : ∃ ga, Aa = some ⟨ga, 0, none⟩ := by
            obtain ⟨g, c, he, _⟩ := ownsRow_posC hO (by omega)
            exact ⟨g, by simpa using (Value.slice.inj he).1⟩
          have hix : k < (incL L k).length := by rw [incL_len hk]; exact hltk
          have d0 : wr.cell? ⟨ga, k * 5, none⟩ = some (.int .i64 L[k].op) := by
            have := flat_get encI_len _ _ hix 0 (by decide)
            rw [incL_get hltk] at this
            exact (hO.cellAt (k * 5 + 0) (by omega)).trans this
          have f0 : wr.frozen? ⟨ga, k * 5, none⟩ = false := hO.frozenAt _
          have hSt := (hO.stored (k * 5) (.int .i64 (wrap64 (L[k].op + 1)))).1
          rw [flat_set0 _ _ _ hix, incL_get hltk, show ({ L[k] with op := wrap64 (L[k].op + 1) } : Ins) = incI L[k] from rfl, ← incL_step hltk] at hSt
          have HSt := Lib.hid hSt
          have HCr := Lib.hid hC
          clear hSt hO hC hix
          generalize L[k].op = op at *
          go_wp2_with fail
          go_roundw
          case rel => exact ⟨k + 1, by omega, by go_num, HSt.out, HCr.out.setCell (by simp [Value.ownBlock]) _⟩
          case measure => simp [intOf]; omega
        · obtain rfl : k = L.length := by omega
          have HOa5 := Lib.hid hO
          have HOb5 := Lib.hid (ownsRow_chg HOb4.out hC (fun x hx hm => by have := (HOb4.out.lt x (by simpa using hx)).1; have := (HF.out x hm).2; omega))
          have HW5 := Lib.hid (HW4.out.trans' hC (fun x hx hl => by have := (HF.out x hx).1; omega))
          have HD5 := Lib.hid (HD4.out.trans' hC (fun x hx hl => by have := (HF.out x hx).1; omega))
          have hs45 := hC.size
          clear hO hC HOa4 HOb4 HW4 HD4
          obtain ⟨w5, rfl⟩ : ∃ w5, w5 = wr := ⟨_, rfl⟩
          go_wp2_with (first
            | (at_builtin; refine wpList_append_own_at _ rfl (.tmp 71) (.tmp 73) 23 rfl (w1.heap.size) 25 i0 (.agg #[.int .i64 0, .int .i64 0, .int .i64 0, .int .i64 0, .int .i64 0]) 5 40 Try.underlying23 hi hz0 hz1 hz2 rfl (by decide) _ _ _ rfl (HOa5.out.alloc _) ⟨w5.heap.size, 0, none⟩ 1 1 [.int .i64 5, .int .i64 0, .int .i64 0, .int .i64 0, .int .i64 0] rfl rfl (cells_at (by simp) [.int .i64 5, .int .i64 0, .int .i64 0, .int .i64 0, .int .i64 0] _) (by simp [Value.oneCell']) (by unfold maxLen; omega) (by omega) (by first | omega | (simp; omega) | simp) ?_; intro va6 wa6 hown1 hgrow1 _ hblk1; have hsz6 := hgrow1.size; have HO6 := Lib.hid hown1; have HG6 := Lib.hid hgrow1; have HB6 := Lib.hid hblk1; clear hown1 hgrow1 hblk1))
          have hg6 : (w5.alloc (.cells #[.int .i64 5, .int .i64 0, .int .i64 0, .int .i64 0, .int .i64 0] 25)).grownBy wa6 (Value.slice Aa L.length ca).ownBlock := HG6.out
          have hOb6 := ownsRow_chg (HOb5.out.alloc (.cells #[.int .i64 5, .int .i64 0, .int .i64 0, .int .i64 0, .int .i64 0] 25)) (Chg.of_grown hg6) (fun x hx hm => by have := (HOb5.out.lt x (by simpa using hx)).1; have := (HF.out x hm).2; omega)
          obtain ⟨ga6, ca6, rfl, _, _, _, _⟩ := ownsRow_posC HO6.out (by omega)
          obtain ⟨Ab', cb', he, _, _, _, hRb6, _⟩ := Rd.of_row encI_len hOb6
          obtain ⟨rfl, rfl⟩ : Ab = Ab' ∧ cb = cb' := by simpa using he
          have HRb6 := Lib.hid hRb6
          have hW6 : Chg [] w1 wa6 := (HW5.out.alloc _).grown hg6 (fun q e hl => by have := (HF.out q (by simpa using e)).1; omega)
          have hD6 : Chg [] w0 wa6 := (HD5.out.alloc _).grown hg6 (fun q e hl => by have := (HF.out q (by simpa using e)).1; omega)
          have HRw6 := Lib.hid (HRw.out.chg0 hW6)
          have HD6 := Lib.hid hD6
          have HC6 := Lib.hid (HC.out.trans hD6)
          clear hg6 hOb6 he hRb6 hW6 hD6 HRw HW5 HD5 HOb5 HOa5 HO6 HG6 HB6 HF
          go_wp2_with fail
          go_loopw [10] (fun i wr => SmRel wa6 ps.length i wr) (fun i _ => ps.length - (intOf i).toNat)
          case atStart => exact ⟨0, 0, Nat.zero_le _, rfl, rfl⟩
          case round =>
            obtain ⟨i, q, hi', rfl, rfl⟩ := hrel
            by_cases hlti : i < ps.length
            · have hsi : i < ss.length := by rw [HSk.out]; exact hlti
              have hel : ss[i].l = ps[i].l := by
                have h1 : (ss.map Sl.l)[i]? = (ps.map Sl.l)[i]? := by rw [HSs.out]
                rw [List.getElem?_map, List.getElem?_map, List.getElem?_eq_getElem hsi, List.getElem?_eq_getElem hlti] at h1
                simpa using h1
              obtain ⟨bl, ol, rfl, _, hcl⟩ := (HRl.out.chg0 HD6.out) (by omega)
              have c0 : wa6.cell? ⟨bl, ol + i, none⟩ = some (.slice ss[i].A ss[i].l.length ss[i].cap) := by
                have := hcl i hsi 0 (by decide)
                rw [Nat.mul_one, Nat.add_zero] at this
                rw [this]; rfl
              obtain ⟨hRp, hSp⟩ := HP.out.chg0 HC6.out
              obtain ⟨bp, op, rfl, _, hcp⟩ := hRp (by omega)
              have c1 : wa6.cell? ⟨bp, op + i, none⟩ = some (.slice ps[i].A ps[i].l.length ps[i].cap) := by
                have := hcp i hlti 0 (by decide)
                rw [Nat.mul_one, Nat.add_zero] at this
                rw [this]; rfl
              obtain ⟨q1, q2, q3, q4⟩ := hSp _ (List.getElem_mem hlti)
              have h300 := HLe.out _ (List.getElem_mem hlti)
              obtain ⟨g, hg, hg1, hg2, hgR⟩ := HL.out _ (List.getElem_mem hsi)
              have hgR6 := hgR.chg0 HD6.out
              have c2 : wa6.cell? ⟨g, ss[i].l.length * 5, none⟩ = some (.int .i64 77) := by
                obtain ⟨b', o', e', _, hc'⟩ := hgR6 (by simp)
                rw [hg] at e'
                obtain ⟨rfl, rfl⟩ : g = b' ∧ 0 = o' := by simpa using e'
                have := hc' ss[i].l.length (by simp) 0 (by decide)
                rw [List.getElem_append_right (Nat.le_refl _)] at this
                simp only [Nat.sub_self, List.getElem_cons_zero, Nat.zero_add, Nat.add_zero] at this
                exact this
              have HSa := Lib.hid hgR6.head
              have HSb := Lib.hid q4
              rw [hg] at c0 HSa
              rw [hel] at c0 c2 hg1 HSa
              have hg2' : (ss[i].cap : Int) ≤ 9223372036854775807 := by omega
              have hg1' : (ps[i].l.length : Int) + 1 ≤ ss[i].cap := by omega
              have h300' : (ps[i].l.length : Int) ≤ 300 := by omega
              have h300x : ps[i].l.length ≤ 100000 := by omega
              clear hel hcl hRp hSp hcp q1 q2 q3 q4 hgR hgR6 hg
              generalize ps[i].l = p at *
              generalize ps[i].A = A1 at *
              generalize ps[i].cap = cap1 at *
              generalize ss[i].cap = cap2 at *
              go_wp2_with fail
              go_quiet ((go_at_call 11; exact quiet_add (Same_true _ _ _ _ _ _ _ p h300x (HSa.out.chg0 ((Chg.refl _ _).drewN _)) (HSb.out.chg0 ((Chg.refl _ _).drewN _)))))
              go_wp2_with fail
              go_roundw
              case rel => exact ⟨i + 1, _, by omega, by go_num, rfl⟩
              case measure => simp [intOf]; omega
            · obtain rfl : i = ps.length := by omega
              go_wp2_with fail
              refine (Same_true _ Ab Aw cb cw _ _ L (by omega) (HRb6.out.chg0 ((Chg.refl _ _).drewN q)) (HRw6.out.chg0 ((Chg.refl _ _).drewN q))).mono ?_
              rintro e w7 ⟨rfl, q7, rfl⟩
              have HC7 := Lib.hid ((HC6.out.drewN q).drewN q7)
              clear HC6
              generalize (wa6.drewN q).drewN q7 = w7 at *
              go_wp2_with fail
              go_ret
              exact ⟨rfl, HC7.out.to_below (by simp) (Nat.le_refl _)⟩

end Go.Proofs.Ythlhjahhjoclfaa
