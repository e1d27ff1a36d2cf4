/- SoftClash: its walk. -/
import Derived.Test.YtilffolppnnkaaaSoft22
import Derived.Test.YtilffolppnnkaaaSoft19
import Derived.Test.YtilffolppnnkaaaEl
namespace Go.Proofs.Ytilffolppnnkaaa
set_option maxRecDepth 100000
open Go.RowKit

def encU (x : Int) : List Value := [.int .u64 x]
def FirstPost (w : World) (ws : List Int) (s : Int) (n : Nat) (e : Ending) (w' : World) : Prop := ∃ m, e = .returned (.map (some m)) ∧ MemAt w' m (n + 2) (firstH ws s n) ∧ Chg [] w w' ∧ w.heap.size ≤ m
set_option maxHeartbeats 1000000 in
theorem first_any (w : World) (A : Option Addr) (cap : Nat) (ws : List Int) (s : Int) (n : Nat) (hws : ∀ x ∈ ws, w64ok x) (hs : w64ok s) (hn : n ≤ 1000) (hl : ws.length ≤ 1000) (hR : Rd w w.heap.size A 1 encU ws) :
    Calls Try.prog 12 #[.slice A ws.length cap, .int .u64 s, .int .i64 n] w (FirstPost w ws s n) := by
  have hmm := @run_makeMap Try.prog
  have HR := Lib.hid hR
  have HW := Lib.hid hws
  have HN := Lib.hid (And.intro hn hl)
  clear hR hws hn hl
  go_enter Try.func12, Try.ntmps12
  go_wp2_with (first
    | (refine wpList_memPut _ rfl _ _ _ (.inr rfl) w.heap.size 0 [] rfl (MemAt.new w) (by decide) 0 (IntKind.u64.wrap (s * 2)) rfl rfl (by decide) (u64_wrap _) ?_; intro wa hka hCa; have HKa := Lib.hid hka; have HCa := Lib.hid hCa; clear hka hCa)
    | (refine wpList_memPut _ rfl _ _ _ (.inr rfl) w.heap.size _ [(0, IntKind.u64.wrap (s * 2))] rfl HKa.out (by decide) 1 0 rfl rfl (by decide) ⟨by decide, by decide⟩ ?_; intro wb hkb hCb; have HKb := Lib.hid hkb; have HCb := Lib.hid hCb; clear hkb hCb))
  have HM0 : Hid (MemAt wb w.heap.size 2 (firstH ws s 0)) := HKb
  have HC0 : Hid (Chg [] w wb) := Lib.hid ((((Chg.refl [] w).alloc _).trans' HCa.out (fun x hx hl => by simp at hx; omega)).trans' HCb.out (fun x hx hl => by simp at hx; omega))
  clear HKa HKb HCa HCb
  go_loopw [8] (fun i wr => ∃ k : Nat, k ≤ n ∧ i = .int .i64 k ∧ MemAt wr w.heap.size (k + 2) (firstH ws s k) ∧ Chg [] w wr) (fun i _ => n - (intOf i).toNat)
  case atStart => exact ⟨0, Nat.zero_le _, rfl, HM0.out, HC0.out⟩
  case round =>
    clear HM0 HC0
    obtain ⟨k, hk, rfl, hm, hc⟩ := hrel
    have HM := Lib.hid hm
    have HC := Lib.hid hc
    clear hm hc
    by_cases hlt : k < n
    · have hkn : (k : Int) < n := by omega
      have hk1 : (k : Int) ≤ 1000 := by have := HN.out.1; omega
      have HA := Lib.hid (i64_small (a := 8 + (k : Int)) (by omega) (by omega))
      have HP := Lib.hid (show k + 2 < maxLen from by unfold maxLen; omega)
      have HP3 := Lib.hid (show k + 3 < maxLen from by unfold maxLen; omega)
      have hup : upC (k + 2) (firstH ws s k) (8 + (k : Int)) = k + 3 := by
        unfold upC; rw [inH_first, decide_eq_false (by omega)]; rfl
      have hup2 : upC (k + 3) ((8 + (k : Int), 0) :: firstH ws s k) (8 + (k : Int)) = k + 3 := by
        unfold upC; rw [inH_cons, decide_eq_true rfl]; rfl
      have HU := Lib.hid (And.intro hup hup2)
      clear hup hup2
      by_cases hlw : k < ws.length
      · have hR := HR.out.keep (Nat.le_refl _) HC.out (by simp)
        obtain ⟨bi, off, rfl, hbb, hcell⟩ := hR (by omega)
        have c0 : wr.cell? ⟨bi, off + k * 1, none⟩ = some (.int .u64 ws[k]) := hcell k hlw 0 (by decide)
        rw [Nat.mul_one] at c0
        have HV := Lib.hid (HW.out ws[k] (List.getElem_mem hlw))
        have hkw : (k : Int) < ws.length := by omega
        have HE := Lib.hid (show firstH ws s (k + 1) = (8 + (k : Int), ws[k]) :: (8 + (k : Int), 0) :: firstH ws s k from by rw [firstH, if_pos hlw]; simp [hlw])
        have HBB := Lib.hid hbb
        have HLT := Lib.hid (And.intro hk hlt)
        clear hR hcell hk hlt hbb
        generalize ws[k] = x at *
        go_wp2_with (first
          | (at_mapUpdate; refine wpList_memPut _ rfl _ _ _ (.inl rfl) w.heap.size (k + 2) (firstH ws s k) rfl HM.out HP.out (8 + (k : Int)) 0 rfl rfl HA.out ⟨by decide, by decide⟩ ?_; intro wa hka hCa; rw [HU.out.1] at hka; have HKa := Lib.hid hka; have HCa := Lib.hid hCa; have c1 := (hCa.cell (Nat.lt_of_lt_of_le HBB.out HC.out.size) (by simp; have := HBB.out; omega) (off + k)).trans c0; clear hka hCa)
          | (at_mapUpdate; refine wpList_memPut _ rfl _ _ _ (.inl rfl) w.heap.size (k + 3) ((8 + (k : Int), 0) :: firstH ws s k) rfl HKa.out HP3.out (8 + (k : Int)) x rfl rfl HA.out HV.out ?_; intro wb hkb hCb; rw [HU.out.2] at hkb; have HKb := Lib.hid hkb; have HCb := Lib.hid hCb; clear hkb hCb))
        go_roundw
        case rel =>
          refine ⟨k + 1, by have := HLT.out; omega, by go_num, by rw [HE.out]; exact HKb.out, ?_⟩
          exact (HC.out.trans' HCa.out (fun y hy hl => by simp at hy; omega)).trans' HCb.out (fun y hy hl => by simp at hy; omega)
        case measure => have := HLT.out; simp [intOf]; omega
      · have hkw : ¬ ((k : Int) < ws.length) := by omega
        have HE := Lib.hid (show firstH ws s (k + 1) = (8 + (k : Int), 0) :: firstH ws s k from by rw [firstH, if_neg hlw])
        have HLT := Lib.hid (And.intro hk hlt)
        clear hk hlt hlw
        go_wp2_with (first
          | (at_mapUpdate; refine wpList_memPut _ rfl _ _ _ (.inl rfl) w.heap.size (k + 2) (firstH ws s k) rfl HM.out HP.out (8 + (k : Int)) 0 rfl rfl HA.out ⟨by decide, by decide⟩ ?_; intro wa hka hCa; rw [HU.out.1] at hka; have HKa := Lib.hid hka; have HCa := Lib.hid hCa; clear hka hCa))
        go_roundw
        case rel =>
          refine ⟨k + 1, by have := HLT.out; omega, by go_num, by rw [HE.out]; exact HKa.out, ?_⟩
          exact HC.out.trans' HCa.out (fun y hy hl => by simp at hy; omega)
        case measure => have := HLT.out; simp [intOf]; omega
    · obtain rfl : k = n := by omega
      have hkn : ¬ ((k : Int) < k) := by omega
      go_wp2_with fail
      go_ret
      exact ⟨w.heap.size, rfl, HM.out, HC.out, Nat.le_refl _⟩

/-- Two paths over one memory. -/
structure Three (w : World) (p : Nat) (F : List Nat) (s : PS) (q : Nat) (G : List Nat) (t : PS) (m c : Nat) (h : PL) : Prop where
  P : Two w p F m c s h
  Q : Two w q G m c t h
  ap : Apart F G
theorem Three.swap {w : World} {p q m c : Nat} {F G : List Nat} {s t : PS} {h : PL} (k : Three w p F s q G t m c h) : Three w q G t p F s m c h := ⟨k.Q, k.P, k.ap.symm⟩
theorem Three.stepP {w w' : World} {p q m c : Nat} {F F' G : List Nat} {s s' t : PS} {h : PL} (k : Three w p F s q G t m c h) (hp : PathAt w' p F' s') (hM : Mv F F' w w') (ho : s'.ph.ok s'.R s'.W) : Three w' p F' s' q G t m c h :=
  ⟨k.P.step hp hM ho, k.Q.chg hM.chg (fun x hx he => by
    rcases List.mem_cons.1 hx with rfl | hx
    · exact k.P.off he
    · exact k.ap x he hx), k.ap.mv hM k.Q.path.lt⟩
theorem Three.stepQ {w w' : World} {p q m c : Nat} {F G G' : List Nat} {s t t' : PS} {h : PL} (k : Three w p F s q G t m c h) (hp : PathAt w' q G' t') (hM : Mv G G' w w') (ho : t'.ph.ok t'.R t'.W) : Three w' p F s q G' t' m c h :=
  (k.swap.stepP hp hM ho).swap
theorem Three.finP {w w' : World} {p q m c c' : Nat} {F F' G : List Nat} {s s' t : PS} {h h' : PL} (k : Three w p F s q G t m c h) (hT : Two w' p F' m c' s' h') (hM : Mv (m :: F) (m :: F') w w') : Three w' p F' s' q G t m c' h' := by
  refine ⟨hT, ⟨k.Q.path.chg hM.chg (fun x hx he => ?_), hT.mem, k.Q.off, k.Q.ok⟩, fun x hx hg => ?_⟩
  · rcases List.mem_cons.1 he with rfl | he
    · exact k.Q.off hx
    · exact k.ap x he hx
  · rcases hM.new x (by simp [hx]) with e | e
    · rcases List.mem_cons.1 e with rfl | e
      · exact k.Q.off hg
      · exact k.ap x e hg
    · have := k.Q.path.lt x hg; omega
theorem Three.finQ {w w' : World} {p q m c c' : Nat} {F G G' : List Nat} {s t t' : PS} {h h' : PL} (k : Three w p F s q G t m c h) (hT : Two w' q G' m c' t' h') (hM : Mv (m :: G) (m :: G') w w') : Three w' p F s q G' t' m c' h' :=
  (k.swap.finP hT hM).swap
theorem Mv.inmP {F F' : List Nat} {w w' : World} {m : Nat} (hM : Mv (m :: F) (m :: F') w w') (G : List Nat) : Mv (m :: (F ++ G)) (m :: (F' ++ G)) w w' :=
  ⟨hM.chg.mono (fun x hx => by simp only [List.mem_cons, List.mem_append] at hx ⊢; exact hx.imp id .inl), fun x hx => by
    simp only [List.mem_cons, List.mem_append] at hx ⊢
    rcases hx with hx | hx | hx
    · exact .inl (.inl hx)
    · exact (hM.new x (by simp [hx])).imp (fun e => by simp only [List.mem_cons] at e; exact e.imp id .inl) id
    · exact .inl (.inr (.inr hx))⟩
theorem Mv.inmQ {G G' : List Nat} {w w' : World} {m : Nat} (hM : Mv (m :: G) (m :: G') w w') (F : List Nat) : Mv (m :: (F ++ G)) (m :: (F ++ G')) w w' :=
  ⟨hM.chg.mono (fun x hx => by simp only [List.mem_cons, List.mem_append] at hx ⊢; exact hx.imp id .inr), fun x hx => by
    simp only [List.mem_cons, List.mem_append] at hx ⊢
    rcases hx with hx | hx | hx
    · exact .inl (.inl hx)
    · exact .inl (.inr (.inl hx))
    · exact (hM.new x (by simp [hx])).imp (fun e => by simp only [List.mem_cons] at e; exact e.imp id .inr) id⟩
theorem Mv.inP {F F' : List Nat} {w w' : World} (hM : Mv F F' w w') (m : Nat) (G : List Nat) : Mv (m :: (F ++ G)) (m :: (F' ++ G)) w w' := (hM.cons m).inmP G
theorem Mv.inQ {G G' : List Nat} {w w' : World} (hM : Mv G G' w w') (m : Nat) (F : List Nat) : Mv (m :: (F ++ G)) (m :: (F ++ G')) w w' := (hM.cons m).inmQ F

set_option maxHeartbeats 4000000 in
theorem SoftClash_any (w : World) (A : Option Addr) (cap : Nat) (ws : List Int) (xa xb x : Int) (wr : Bool) (hws : ∀ y ∈ ws, w64ok y) (hxa : (Lit.int .i64 xa).wf = true) (hxb : (Lit.int .i64 xb).wf = true) (hx : w64ok x) (hR : Rd w w.heap.size A 1 encU ws) :
    Calls Try.prog 3 #[.slice A ws.length cap, .agg #[.int .i64 xa, .int .i64 xb, .int .u64 x, .bool wr]] w (StaysPost w) := by
  have HX := Lib.hid (Blk.new w [.int .i64 xa, .int .i64 xb, .int .u64 x, .bool wr] 25)
  have hC1 := (Chg.refl [] w).alloc (.cells #[.int .i64 xa, .int .i64 xb, .int .u64 x, .bool wr] 25)
  have HC1 := Lib.hid hC1
  have HR := Lib.hid (hR.chg0 hC1)
  have HW := Lib.hid hws
  have HXA := Lib.hid hxa
  have HXB := Lib.hid hxb
  have HXX := Lib.hid hx
  clear hC1 hR hws hxa hxb hx
  go_enter Try.func3, Try.ntmps3
  go_wp2_with fail
  refine (alive_any _).mono ?_
  rintro e w0 ⟨rfl, hB⟩
  have HB := Lib.hid hB
  clear hB
  by_cases hlen : ¬ ws.length ≤ 100
  · have hl1 : (100 : Int) < (ws.length : Int) := by omega
    go_wp2_with fail
    go_ret
    exact ⟨rfl, (HC1.out.nil_below).trans (HB.out.mono (by simp))⟩
  replace hlen : ws.length ≤ 100 := by omega
  have hl1 : ¬ (100 : Int) < (ws.length : Int) := by omega
  have HL := Lib.hid hlen
  have HB0 := Lib.hid (Chg.of_below HB.out [])
  have kx0 : w0.cell? ⟨w.heap.size, 0, none⟩ = some (.int .i64 xa) := (HB0.out.blk HX.out (by simp)).cell 0
  have kx1 : w0.cell? ⟨w.heap.size, 1, none⟩ = some (.int .i64 xb) := (HB0.out.blk HX.out (by simp)).cell 1
  clear hlen
  obtain ⟨a, hA⟩ : ∃ a, placeA xa 6 = a := ⟨_, rfl⟩
  obtain ⟨b, hB⟩ : ∃ b, placeA xb 6 = b := ⟨_, rfl⟩
  have HA := Lib.hid (hA ▸ placeA_aok (a := xa) (n := 6) (by decide) (by decide))
  have HA8 := Lib.hid (hA ▸ (placeA_ok (a := xa) (n := 6) (by decide) (by decide)).1)
  have HBk := Lib.hid (hB ▸ placeA_aok (a := xb) (n := 6) (by decide) (by decide))
  have HB8 := Lib.hid (hB ▸ (placeA_ok (a := xb) (n := 6) (by decide) (by decide)).1)
  have PA := Lib.hid (show ∀ W, Calls Try.prog 11 #[.int .i64 xa, .int .i64 6] W fun e w' => e = .returned (.int .i64 a) ∧ w' = W from fun W => hA ▸ (place_any W xa 6 HXA.out (by decide) (by decide)).mono fun _ _ h => ⟨h.1, h.2.symm⟩)
  have PB := Lib.hid (show ∀ W, Calls Try.prog 11 #[.int .i64 xb, .int .i64 6] W fun e w' => e = .returned (.int .i64 b) ∧ w' = W from fun W => hB ▸ (place_any W xb 6 HXB.out (by decide) (by decide)).mono fun _ _ h => ⟨h.1, h.2.symm⟩)
  clear hA hB
  go_wp2_with fail
  go_quiet (first
      | (go_at_call 11; with_reducible exact Calls.quiet_of_same (PA.out _))
      | (go_at_call 11; with_reducible exact Calls.quiet_of_same (PB.out _)))
  go_wp2_with fail
  refine (first_any _ A cap ws 3 6 HW.out ⟨by decide, by decide⟩ (by decide) (by have := HL.out; omega) (HR.out.chg0 (HB0.out.trans ((Chg.refl [] _).drewN _)))).mono ?_
  rintro e w1 ⟨m, rfl, hm, hC, hml⟩
  have HMm := Lib.hid hm
  have HCm := Lib.hid (HB0.out.trans (((Chg.refl [] _).drewN _).trans hC))
  have HML := Lib.hid (show w0.heap.size ≤ m from hml)
  clear hm hC hml
  obtain ⟨h, hh⟩ : ∃ h, firstH ws 3 6 = h := ⟨_, rfl⟩
  have HE := Lib.hid (show getH h 0 = 6 ∧ getH h 1 = 0 from by rw [← hh]; constructor <;> (rw [getH_first]; rfl))
  rw [hh] at HMm
  clear hh
  go_wp2_with fail
  refine (SNew_e w1).mono ?_
  rintro e w2 ⟨p, F0, rfl, hp, hM⟩
  have HP := Lib.hid hp
  have HMp := Lib.hid hM
  clear hp hM
  go_wp2_with fail
  refine (SNew_e w2).mono ?_
  rintro e w3 ⟨q, G0, rfl, hp, hM⟩
  have HQ := Lib.hid hp
  have HMq := Lib.hid hM
  clear hp hM
  have HT3 : Hid (Three w3 p F0 {} q G0 {} m 8 h) := Lib.hid (by
      have a1 := HP.out.look HMq.out.chg
      have hm3 := (HMm.out.chg HMp.out.chg (by simp)).chg HMq.out.chg (by simp)
      have o1 : m ∉ F0 := fun hx => (HMp.out.new m hx).elim (fun e => by cases e) (fun e => by have := HMm.out.lt; omega)
      have o2 : m ∉ G0 := fun hx => (HMq.out.new m hx).elim (fun e => by cases e) (fun e => by have := HMm.out.lt; have := HMp.out.chg.size; omega)
      exact ⟨⟨a1, hm3, o1, trivial⟩, ⟨HQ.out, hm3, o2, trivial⟩, fun x hx hg => (HMq.out.new x hg).elim (fun e => by cases e) (fun e => by have := HP.out.lt x hx; omega)⟩)
  have HM3 : Hid (Mv [] (m :: (F0 ++ G0)) (w.alloc (.cells #[.int .i64 xa, .int .i64 xb, .int .u64 x, .bool wr] 25)) w3) := Lib.hid (by
      refine ⟨HCm.out.trans (HMp.out.chg.trans HMq.out.chg), fun x hx => .inr ?_⟩
      have s0 := HB0.out.size; have s1 := HCm.out.size; have s2 := HMp.out.chg.size
      simp only [List.mem_cons, List.mem_append] at hx
      rcases hx with rfl | hx | hx
      · have := HML.out; omega
      · exact (HMp.out.new x hx).elim (fun e => by cases e) (fun e => by omega)
      · exact (HMq.out.new x hx).elim (fun e => by cases e) (fun e => by omega))
  clear HP HMp HQ HMq HMm HCm
  obtain ⟨c0, hc0⟩ : ∃ c, c = 8 := ⟨_, rfl⟩
  rw [← hc0] at HT3
  have HC0 : Hid (c0 ≤ 10) := Lib.hid (by omega)
  clear hc0
  go_wp2_with fail
  refine (Begin_e _ p F0 ({}) HT3.out.P.path).mono ?_
  rintro e w4 ⟨he, F1, hp, hM⟩
  obtain rfl : e = .returned (.int .i64 0) := he
  try clear he
  have HT4 : Hid (Three w4 p F1 (PS.begin {}) q G0 ({}) m c0 (h)) := Lib.hid (HT3.out.stepP hp hM (trivial))
  have HM4 := Lib.hid (HM3.out.trans (hM.inP m G0))
  clear hp hM
  go_wp2_with fail
  have hfin := clash1 HE.out.1 HE.out.2
  refine (finish_any _ p m F1 c0 (PS.begin {}, h) (by have := HC0.out; omega) HT4.out.P).mono ?_
  rintro e w5 ⟨he, F2, c1, hc, hp, hM⟩
  rw [hfin] at he hp
  obtain rfl : e = .returned (.bool true) := he
  have HT5 : Hid (Three w5 p F2 (cP2) q G0 ({}) m c1 (hist1 h)) := Lib.hid (HT4.out.finP hp hM)
  have HM5 := Lib.hid (HM4.out.trans (hM.inmP G0))
  have HC1 : Hid (c1 ≤ 3010) := Lib.hid (by have := HC0.out; omega)
  clear hp hM hc hfin
  go_wp2_with fail
  refine (Load_any _ p F2 (cP2) a HA.out.2 HT5.out.P.path).mono ?_
  rintro e w6 ⟨he, F3, hp, hM⟩
  obtain rfl : e = .returned (.int .i64 0) := by rw [he]; simp [PS.err, touchErr, PS.busy, Ph.busy]; have := HA8.out; omega
  try clear he
  have HT6 : Hid (Three w6 p F3 (cP2.load a) q G0 ({}) m c1 (hist1 h)) := Lib.hid (HT5.out.stepP hp hM (by rw [load_ready rfl HA8.out rfl]; exact HA.out))
  have HM6 := Lib.hid (HM5.out.trans (hM.inP m G0))
  clear hp hM
  have HE1 := Lib.hid (show getH (hist1 h) 0 = 6 ∧ getH (hist1 h) 1 = 1 from ⟨by rw [getH_other _ _ (by decide)]; exact HE.out.1, getH_same _ _ _⟩)
  obtain ⟨v, hv⟩ : ∃ v, getH (hist1 h) a = v := ⟨_, rfl⟩
  have HVv := Lib.hid hv
  clear hv
  go_wp2_with fail
  have hfin := (HVv.out ▸ clash2 HA8.out HE1.out.1 : finM 3000 (cP2.load a, hist1 h) = (cP4 a v, hist1 h))
  refine (finish_any _ p m F3 c1 (cP2.load a, hist1 h) (by have := HC1.out; omega) HT6.out.P).mono ?_
  rintro e w7 ⟨he, F4, c2, hc, hp, hM⟩
  rw [hfin] at he hp
  obtain rfl : e = .returned (.bool true) := he
  have HT7 : Hid (Three w7 p F4 (cP4 a v) q G0 ({}) m c2 (hist1 h)) := Lib.hid (HT6.out.finP hp hM)
  have HM7 := Lib.hid (HM6.out.trans (hM.inmP G0))
  have HC2 : Hid (c2 ≤ 6010) := Lib.hid (by have := HC1.out; omega)
  clear hp hM hc hfin
  go_wp2_with fail
  refine (SValue_any _ p F4 (cP4 a v) HT7.out.P.path).mono ?_
  rintro e w' ⟨he, rfl⟩
  obtain rfl : e = .returned (.int .u64 v) := he
  try clear he
  go_wp2_with fail
  refine (Begin_e _ q G0 ({}) HT7.out.Q.path).mono ?_
  rintro e w8 ⟨he, G1, hp, hM⟩
  obtain rfl : e = .returned (.int .i64 0) := he
  try clear he
  have HT8 : Hid (Three w8 p F4 (cP4 a v) q G1 (PS.begin {}) m c2 (hist1 h)) := Lib.hid (HT7.out.stepQ hp hM (trivial))
  have HM8 := Lib.hid (HM7.out.trans (hM.inQ m F4))
  clear hp hM
  go_wp2_with fail
  have hfin := clash1 HE1.out.1 HE1.out.2
  refine (finish_any _ q m G1 c2 (PS.begin {}, hist1 h) (by have := HC2.out; omega) HT8.out.Q).mono ?_
  rintro e w9 ⟨he, G2, c3, hc, hp, hM⟩
  rw [hfin] at he hp
  obtain rfl : e = .returned (.bool true) := he
  have HT9 : Hid (Three w9 p F4 (cP4 a v) q G2 (cP2) m c3 (hist2 h)) := Lib.hid (HT8.out.finQ hp hM)
  have HM9 := Lib.hid (HM8.out.trans (hM.inmQ F4))
  have HC3 : Hid (c3 ≤ 9010) := Lib.hid (by have := HC2.out; omega)
  clear hp hM hc hfin
  have kx2 : w9.cell? ⟨w.heap.size, 2, none⟩ = some (.int .u64 x) := (HM9.out.chg.blk HX.out (by simp)).cell 2
  go_wp2_with fail
  refine (Store_any _ q G2 (cP2) a x HA.out.2 HXX.out.2 HT9.out.Q.path).mono ?_
  rintro e w10 ⟨he, G3, hp, hM⟩
  obtain rfl : e = .returned (.int .i64 0) := by rw [he]; simp [PS.err, touchErr, PS.busy, Ph.busy]; have := HA8.out; omega
  try clear he
  rw [clash3 HA8.out] at hp
  have HT10 : Hid (Three w10 p F4 (cP4 a v) q G3 (cQ3 a x) m c3 (hist2 h)) := Lib.hid (HT9.out.stepQ hp hM (trivial))
  have HM10 := Lib.hid (HM9.out.trans (hM.inQ m F4))
  clear hp hM
  go_wp2_with fail
  refine (Commit_e _ q G3 (cQ3 a x) HT10.out.Q.path).mono ?_
  rintro e w11 ⟨he, G4, hp, hM⟩
  obtain rfl : e = .returned (.int .i64 0) := by rw [he]; simp [PS.rerr, PS.ready, PS.busy, Ph.busy]
  try clear he
  have HT11 : Hid (Three w11 p F4 (cP4 a v) q G4 ((cQ3 a x).commit) m c3 (hist2 h)) := Lib.hid (HT10.out.stepQ hp hM (by simp [PS.commit, PS.ready, PS.busy, Ph.busy, Ph.ok]))
  have HM11 := Lib.hid (HM10.out.trans (hM.inQ m F4))
  clear hp hM
  go_wp2_with fail
  have hfin := clash4 (v := x) HA8.out HE.out.1 HE.out.2
  refine (finish_any _ q m G4 c3 ((cQ3 a x).commit, hist2 h) (by have := HC3.out; omega) HT11.out.Q).mono ?_
  rintro e w12 ⟨he, G5, c4, hc, hp, hM⟩
  rw [hfin] at he hp
  obtain rfl : e = .returned (.bool true) := he
  have HT12 : Hid (Three w12 p F4 (cP4 a v) q G5 (cQ5 a x) m c4 (hist3 h a x)) := Lib.hid (HT11.out.finQ hp hM)
  have HM12 := Lib.hid (HM11.out.trans (hM.inmQ F4))
  have HC4 : Hid (c4 ≤ 12010) := Lib.hid (by have := HC3.out; omega)
  clear hp hM hc hfin
  go_wp2_with fail
  refine (Ended_any _ q G5 (cQ5 a x) HT12.out.Q.path).mono ?_
  rintro e w' ⟨he, rfl⟩
  obtain rfl : e = .returned (.int .i64 1) := he
  try clear he
  clear kx2
  have kx2 : w12.cell? ⟨w.heap.size, 2, none⟩ = some (.int .u64 x) := (HM12.out.chg.blk HX.out (by simp)).cell 2
  have hl1 : (Instr.lookup 29 (.map (some m)) (.int .i64 a) false).run Try.prog w12 = .ok (.int .u64 (x)) w12 := by
    have e := HT12.out.P.mem.look (a := a) HA.out.2
    rw [show getH (hist3 h a x) a = x from h3_a HA8.out] at e
    exact e
  have hl2 : (Instr.lookup 29 (.map (some m)) (.int .i64 0) false).run Try.prog w12 = .ok (.int .u64 (8)) w12 := by
    have e := HT12.out.P.mem.look (a := 0) (by decide)
    rw [show getH (hist3 h a x) 0 = 8 from h3_0 (x := x) (h := h) HA8.out] at e
    exact e
  obtain ⟨u, hu⟩ : ∃ u, getH (hist3 h a x) b = u := ⟨_, rfl⟩
  have HUu := Lib.hid hu
  have hl3 : (Instr.lookup 29 (.map (some m)) (.int .i64 b) false).run Try.prog w12 = .ok (.int .u64 (u)) w12 := by
    have e := HT12.out.P.mem.look (a := b) HBk.out.2
    rw [show getH (hist3 h a x) b = u from hu] at e
    exact e
  clear hu
  have kx3 : w12.cell? ⟨w.heap.size, 3, none⟩ = some (.bool wr) := (HM12.out.chg.blk HX.out (by simp)).cell 3
  by_cases hxv : x = v
  · have HXV := Lib.hid hxv
    clear hxv
    cases wr with
    | true =>
      go_wp2_with fail
      clear kx2 kx3 hl1 hl2 hl3
      refine (Store_any _ p F4 (cP4 a v) b (IntKind.u64.wrap (u + 1)) HBk.out.2 (u64_wrap _).2 HT12.out.P.path).mono ?_
      rintro e w13 ⟨he, F5, hp, hM⟩
      obtain rfl : e = .returned (.int .i64 0) := by rw [he]; simp [PS.err, touchErr, PS.busy, Ph.busy]; have := HB8.out; omega
      try clear he
      rw [clash5 HB8.out] at hp
      have HT13 : Hid (Three w13 p F5 (cP6 a v b (IntKind.u64.wrap (u + 1))) q G5 (cQ5 a x) m c4 (hist3 h a x)) := Lib.hid (HT12.out.stepP hp hM (trivial))
      have HM13 := Lib.hid (HM12.out.trans (hM.inP m G5))
      clear hp hM
      go_wp2_with fail
      refine (Commit_e _ p F5 (cP6 a v b (IntKind.u64.wrap (u + 1))) HT13.out.P.path).mono ?_
      rintro e w14 ⟨he, F6, hp, hM⟩
      obtain rfl : e = .returned (.int .i64 0) := by rw [he]; simp [PS.rerr, PS.ready, PS.busy, Ph.busy]
      try clear he
      have HT14 : Hid (Three w14 p F6 ((cP6 a v b (IntKind.u64.wrap (u + 1))).commit) q G5 (cQ5 a x) m c4 (hist3 h a x)) := Lib.hid (HT13.out.stepP hp hM (by simp [PS.commit, PS.ready, PS.busy, Ph.busy, Ph.ok]))
      have HM14 := Lib.hid (HM13.out.trans (hM.inP m G5))
      clear hp hM
      obtain ⟨pt, hpt⟩ := clash7 (h := h) (u := IntKind.u64.wrap (u + 1)) HA8.out HB8.out HXV.out
      go_wp2_with fail
      have hfin := hpt
      refine (finish_any _ p m F6 c4 ((cP6 a v b (IntKind.u64.wrap (u + 1))).commit, hist3 h a x) (by have := HC4.out; omega) HT14.out.P).mono ?_
      rintro e w15 ⟨he, F7, c5, hc, hp, hM⟩
      rw [hfin] at he hp
      obtain rfl : e = .returned (.bool true) := he
      have HT15 : Hid (Three w15 p F7 ({ snap := 8, points := pt, value := v, R := [(a, v)], W := [(b, IntKind.u64.wrap (u + 1))], ended := 1 }) q G5 (cQ5 a x) m c5 ((1, 0) :: (0, 10) :: (b, IntKind.u64.wrap (u + 1)) :: (0, 9) :: hist3 h a x)) := Lib.hid (HT14.out.finP hp hM)
      have HM15 := Lib.hid (HM14.out.trans (hM.inmP G5))
      have HC5 : Hid (c5 ≤ 15010) := Lib.hid (by have := HC4.out; omega)
      clear hp hM hc hfin
      have kx2 : w15.cell? ⟨w.heap.size, 2, none⟩ = some (.int .u64 x) := (HM15.out.chg.blk HX.out (by simp)).cell 2
      have hvx : (v == x) = true := by simp [HXV.out]
      have kx3 : w15.cell? ⟨w.heap.size, 3, none⟩ = some (.bool true) := (HM15.out.chg.blk HX.out (by simp)).cell 3
      go_wp2_with fail
      refine (Ended_any _ p F7 ({ snap := 8, points := pt, value := v, R := [(a, v)], W := [(b, IntKind.u64.wrap (u + 1))], ended := 1 }) HT15.out.P.path).mono ?_
      rintro e w' ⟨he, rfl⟩
      obtain rfl : e = .returned (.int .i64 1) := he
      try clear he
      have hl4 : (Instr.lookup 29 (.map (some m)) (.int .i64 b) false).run Try.prog w15 = .ok (.int .u64 (IntKind.u64.wrap (u + 1))) w15 := by
        have e := HT15.out.P.mem.look (a := b) HBk.out.2
        rw [show getH ((1, 0) :: (0, 10) :: (b, IntKind.u64.wrap (u + 1)) :: (0, 9) :: hist3 h a x) b = IntKind.u64.wrap (u + 1) from by rw [getH_other _ _ (by have := HB8.out; omega), getH_other _ _ (by have := HB8.out; omega), getH_same]] at e
        exact e
      have hl5 : (Instr.lookup 29 (.map (some m)) (.int .i64 0) false).run Try.prog w15 = .ok (.int .u64 (10)) w15 := by
        have e := HT15.out.P.mem.look (a := 0) (by decide)
        rw [show getH ((1, 0) :: (0, 10) :: (b, IntKind.u64.wrap (u + 1)) :: (0, 9) :: hist3 h a x) 0 = 10 from by rw [getH_other _ _ (by decide), getH_same]] at e
        exact e
      have hl6 : (Instr.lookup 29 (.map (some m)) (.int .i64 1) false).run Try.prog w15 = .ok (.int .u64 (0)) w15 := by
        have e := HT15.out.P.mem.look (a := 1) (by decide)
        rw [show getH ((1, 0) :: (0, 10) :: (b, IntKind.u64.wrap (u + 1)) :: (0, 9) :: hist3 h a x) 1 = 0 from getH_same _ _ _] at e
        exact e
      go_wp2_with fail
      go_ret
      exact ⟨rfl, (HC1.out.trans (HM15.out.chg)).nil_below⟩
    | false =>
      go_wp2_with fail
      clear kx2 kx3 hl1 hl2 hl3
      refine (Load_any _ p F4 (cP4 a v) b HBk.out.2 HT12.out.P.path).mono ?_
      rintro e w13 ⟨he, F5, hp, hM⟩
      obtain rfl : e = .returned (.int .i64 0) := by rw [he]; simp [PS.err, touchErr, PS.busy, Ph.busy]; have := HB8.out; omega
      try clear he
      have HT13 : Hid (Three w13 p F5 ((cP4 a v).load b) q G5 (cQ5 a x) m c4 (hist3 h a x)) := Lib.hid (HT12.out.stepP hp hM (by rw [clash_load HB8.out]; exact HBk.out))
      have HM13 := Lib.hid (HM12.out.trans (hM.inP m G5))
      clear hp hM
      obtain ⟨R9, pt, hpt⟩ := clash9 (h := h) HA8.out HB8.out HXV.out
      rw [HUu.out] at hpt
      go_wp2_with fail
      have hfin := hpt
      refine (finish_any _ p m F5 c4 ((cP4 a v).load b, hist3 h a x) (by have := HC4.out; omega) HT13.out.P).mono ?_
      rintro e w14 ⟨he, F6, c5, hc, hp, hM⟩
      rw [hfin] at he hp
      obtain rfl : e = .returned (.bool true) := he
      have HT14 : Hid (Three w14 p F6 ({ snap := 8, live := true, R := R9, points := pt, value := u }) q G5 (cQ5 a x) m c5 (hist3 h a x)) := Lib.hid (HT13.out.finP hp hM)
      have HM14 := Lib.hid (HM13.out.trans (hM.inmP G5))
      have HC5 : Hid (c5 ≤ 15010) := Lib.hid (by have := HC4.out; omega)
      clear hp hM hc hfin
      have kx2 : w14.cell? ⟨w.heap.size, 2, none⟩ = some (.int .u64 x) := (HM14.out.chg.blk HX.out (by simp)).cell 2
      have hvx : (v == x) = true := by simp [HXV.out]
      have kx3 : w14.cell? ⟨w.heap.size, 3, none⟩ = some (.bool false) := (HM14.out.chg.blk HX.out (by simp)).cell 3
      go_wp2_with fail
      refine (Live_any _ p F6 ({ snap := 8, live := true, R := R9, points := pt, value := u }) HT14.out.P.path).mono ?_
      rintro e w' ⟨he, rfl⟩
      obtain rfl : e = .returned (.bool true) := he
      try clear he
      go_wp2_with fail
      refine (SValue_any _ p F6 ({ snap := 8, live := true, R := R9, points := pt, value := u }) HT14.out.P.path).mono ?_
      rintro e w' ⟨he, rfl⟩
      obtain rfl : e = .returned (.int .u64 u) := he
      try clear he
      have hl4 : (Instr.lookup 29 (.map (some m)) (.int .i64 1) false).run Try.prog w14 = .ok (.int .u64 (1)) w14 := by
        have e := HT14.out.P.mem.look (a := 1) (by decide)
        rw [show getH (hist3 h a x) 1 = 1 from h3_1] at e
        exact e
      go_wp2_with fail
      go_ret
      exact ⟨rfl, (HC1.out.trans (HM14.out.chg)).nil_below⟩
  · have HXV : Hid (x ≠ v) := Lib.hid hxv
    clear hxv
    cases wr with
    | true =>
      go_wp2_with fail
      clear kx2 kx3 hl1 hl2 hl3
      refine (Store_any _ p F4 (cP4 a v) b (IntKind.u64.wrap (u + 1)) HBk.out.2 (u64_wrap _).2 HT12.out.P.path).mono ?_
      rintro e w13 ⟨he, F5, hp, hM⟩
      obtain rfl : e = .returned (.int .i64 0) := by rw [he]; simp [PS.err, touchErr, PS.busy, Ph.busy]; have := HB8.out; omega
      try clear he
      rw [clash5 HB8.out] at hp
      have HT13 : Hid (Three w13 p F5 (cP6 a v b (IntKind.u64.wrap (u + 1))) q G5 (cQ5 a x) m c4 (hist3 h a x)) := Lib.hid (HT12.out.stepP hp hM (trivial))
      have HM13 := Lib.hid (HM12.out.trans (hM.inP m G5))
      clear hp hM
      go_wp2_with fail
      refine (Commit_e _ p F5 (cP6 a v b (IntKind.u64.wrap (u + 1))) HT13.out.P.path).mono ?_
      rintro e w14 ⟨he, F6, hp, hM⟩
      obtain rfl : e = .returned (.int .i64 0) := by rw [he]; simp [PS.rerr, PS.ready, PS.busy, Ph.busy]
      try clear he
      have HT14 : Hid (Three w14 p F6 ((cP6 a v b (IntKind.u64.wrap (u + 1))).commit) q G5 (cQ5 a x) m c4 (hist3 h a x)) := Lib.hid (HT13.out.stepP hp hM (by simp [PS.commit, PS.ready, PS.busy, Ph.busy, Ph.ok]))
      have HM14 := Lib.hid (HM13.out.trans (hM.inP m G5))
      clear hp hM
      go_wp2_with fail
      have hfin := clash6 (h := h) (b := b) (u := IntKind.u64.wrap (u + 1)) HA8.out HXV.out
      refine (finish_any _ p m F6 c4 ((cP6 a v b (IntKind.u64.wrap (u + 1))).commit, hist3 h a x) (by have := HC4.out; omega) HT14.out.P).mono ?_
      rintro e w15 ⟨he, F7, c5, hc, hp, hM⟩
      rw [hfin] at he hp
      obtain rfl : e = .returned (.bool true) := he
      have HT15 : Hid (Three w15 p F7 ({ snap := 6, points := 2, value := v, R := [(a, v)], W := [(b, IntKind.u64.wrap (u + 1))], ended := 2 }) q G5 (cQ5 a x) m c5 ((1, 0) :: hist3 h a x)) := Lib.hid (HT14.out.finP hp hM)
      have HM15 := Lib.hid (HM14.out.trans (hM.inmP G5))
      have HC5 : Hid (c5 ≤ 15010) := Lib.hid (by have := HC4.out; omega)
      clear hp hM hc hfin
      have kx2 : w15.cell? ⟨w.heap.size, 2, none⟩ = some (.int .u64 x) := (HM15.out.chg.blk HX.out (by simp)).cell 2
      have hvx : (v == x) = false := by have := HXV.out; simp; exact fun e => this e.symm
      have kx3 : w15.cell? ⟨w.heap.size, 3, none⟩ = some (.bool true) := (HM15.out.chg.blk HX.out (by simp)).cell 3
      go_wp2_with fail
      refine (Ended_any _ p F7 ({ snap := 6, points := 2, value := v, R := [(a, v)], W := [(b, IntKind.u64.wrap (u + 1))], ended := 2 }) HT15.out.P.path).mono ?_
      rintro e w' ⟨he, rfl⟩
      obtain rfl : e = .returned (.int .i64 2) := he
      try clear he
      go_wp2_with fail
      refine (Live_any _ p F7 ({ snap := 6, points := 2, value := v, R := [(a, v)], W := [(b, IntKind.u64.wrap (u + 1))], ended := 2 }) HT15.out.P.path).mono ?_
      rintro e w' ⟨he, rfl⟩
      obtain rfl : e = .returned (.bool false) := he
      try clear he
      have hl4 : (Instr.lookup 29 (.map (some m)) (.int .i64 b) false).run Try.prog w15 = .ok (.int .u64 (u)) w15 := by
        have e := HT15.out.P.mem.look (a := b) HBk.out.2
        rw [show getH ((1, 0) :: hist3 h a x) b = u from by rw [getH_other _ _ (by have := HB8.out; omega)]; exact HUu.out] at e
        exact e
      have hl5 : (Instr.lookup 29 (.map (some m)) (.int .i64 0) false).run Try.prog w15 = .ok (.int .u64 (8)) w15 := by
        have e := HT15.out.P.mem.look (a := 0) (by decide)
        rw [show getH ((1, 0) :: hist3 h a x) 0 = 8 from by rw [getH_other _ _ (by decide)]; exact h3_0 HA8.out] at e
        exact e
      have hl6 : (Instr.lookup 29 (.map (some m)) (.int .i64 1) false).run Try.prog w15 = .ok (.int .u64 (0)) w15 := by
        have e := HT15.out.P.mem.look (a := 1) (by decide)
        rw [show getH ((1, 0) :: hist3 h a x) 1 = 0 from getH_same _ _ _] at e
        exact e
      go_wp2_with fail
      go_ret
      exact ⟨rfl, (HC1.out.trans (HM15.out.chg)).nil_below⟩
    | false =>
      go_wp2_with fail
      clear kx2 kx3 hl1 hl2 hl3
      refine (Load_any _ p F4 (cP4 a v) b HBk.out.2 HT12.out.P.path).mono ?_
      rintro e w13 ⟨he, F5, hp, hM⟩
      obtain rfl : e = .returned (.int .i64 0) := by rw [he]; simp [PS.err, touchErr, PS.busy, Ph.busy]; have := HB8.out; omega
      try clear he
      have HT13 : Hid (Three w13 p F5 ((cP4 a v).load b) q G5 (cQ5 a x) m c4 (hist3 h a x)) := Lib.hid (HT12.out.stepP hp hM (by rw [clash_load HB8.out]; exact HBk.out))
      have HM13 := Lib.hid (HM12.out.trans (hM.inP m G5))
      clear hp hM
      go_wp2_with fail
      have hfin := clash8 (h := h) HA8.out HB8.out HXV.out
      refine (finish_any _ p m F5 c4 ((cP4 a v).load b, hist3 h a x) (by have := HC4.out; omega) HT13.out.P).mono ?_
      rintro e w14 ⟨he, F6, c5, hc, hp, hM⟩
      rw [hfin] at he hp
      obtain rfl : e = .returned (.bool true) := he
      have HT14 : Hid (Three w14 p F6 ({ snap := 6, points := 2, value := v, R := [(a, v)], ended := 2 }) q G5 (cQ5 a x) m c5 ((1, 0) :: hist3 h a x)) := Lib.hid (HT13.out.finP hp hM)
      have HM14 := Lib.hid (HM13.out.trans (hM.inmP G5))
      have HC5 : Hid (c5 ≤ 15010) := Lib.hid (by have := HC4.out; omega)
      clear hp hM hc hfin
      have kx2 : w14.cell? ⟨w.heap.size, 2, none⟩ = some (.int .u64 x) := (HM14.out.chg.blk HX.out (by simp)).cell 2
      have hvx : (v == x) = false := by have := HXV.out; simp; exact fun e => this e.symm
      have kx3 : w14.cell? ⟨w.heap.size, 3, none⟩ = some (.bool false) := (HM14.out.chg.blk HX.out (by simp)).cell 3
      go_wp2_with fail
      refine (Ended_any _ p F6 ({ snap := 6, points := 2, value := v, R := [(a, v)], ended := 2 }) HT14.out.P.path).mono ?_
      rintro e w' ⟨he, rfl⟩
      obtain rfl : e = .returned (.int .i64 2) := he
      try clear he
      go_wp2_with fail
      refine (Live_any _ p F6 ({ snap := 6, points := 2, value := v, R := [(a, v)], ended := 2 }) HT14.out.P.path).mono ?_
      rintro e w' ⟨he, rfl⟩
      obtain rfl : e = .returned (.bool false) := he
      try clear he
      have hl4 : (Instr.lookup 29 (.map (some m)) (.int .i64 b) false).run Try.prog w14 = .ok (.int .u64 (u)) w14 := by
        have e := HT14.out.P.mem.look (a := b) HBk.out.2
        rw [show getH ((1, 0) :: hist3 h a x) b = u from by rw [getH_other _ _ (by have := HB8.out; omega)]; exact HUu.out] at e
        exact e
      have hl5 : (Instr.lookup 29 (.map (some m)) (.int .i64 0) false).run Try.prog w14 = .ok (.int .u64 (8)) w14 := by
        have e := HT14.out.P.mem.look (a := 0) (by decide)
        rw [show getH ((1, 0) :: hist3 h a x) 0 = 8 from by rw [getH_other _ _ (by decide)]; exact h3_0 HA8.out] at e
        exact e
      have hl6 : (Instr.lookup 29 (.map (some m)) (.int .i64 1) false).run Try.prog w14 = .ok (.int .u64 (0)) w14 := by
        have e := HT14.out.P.mem.look (a := 1) (by decide)
        rw [show getH ((1, 0) :: hist3 h a x) 1 = 0 from getH_same _ _ _] at e
        exact e
      go_wp2_with fail
      go_ret
      exact ⟨rfl, (HC1.out.trans (HM14.out.chg)).nil_below⟩


end Go.Proofs.Ytilffolppnnkaaa
