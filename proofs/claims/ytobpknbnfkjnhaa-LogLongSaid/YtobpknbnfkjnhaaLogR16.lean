/- LogLong. -/
import Derived.Test.YtobpknbnfkjnhaaLogR15
namespace Go.Proofs.Ytobpknbnfkjnhaa
open Go.RowKit

def LgRel (w : World) (g d kb : Nat) (many : Int) (i : Value) (wr : World) : Prop :=
  ∃ k : Nat, (k : Int) ≤ many ∧ i = .int .i64 k ∧ ∃ F s, OwnPl w wr g F d kb [kb] s 0
theorem mul_le300 {a : Int} {k : Nat} (h0 : 0 ≤ a) (h1 : a ≤ 1000000) (hk : k ≤ 300) : 0 ≤ a * k ∧ a * k ≤ 300000000 :=
  ⟨Int.mul_nonneg h0 (by omega), Int.le_trans (Int.mul_le_mul h1 (show (k : Int) ≤ 300 by omega) (by omega) (by omega)) (by omega)⟩

set_option maxRecDepth 100000 in
set_option maxHeartbeats 8000000 in
theorem LogLong_ok (w : World) (a0 a1 : Int) (h00 : 0 ≤ a0) (h01 : a0 ≤ 1000000) (h10 : 0 ≤ a1) (h11 : a1 ≤ 300) (A : Option Addr) (cap : Nat) (xs : List OpV) (hR : Rd w w.heap.size A 4 encOpV xs) (hl : xs.length ≤ 200) (hok : ∀ o ∈ xs, OpOk2 w o) :
    Calls Try.prog 7 #[.int .i64 a0, .int .i64 a1, .slice A xs.length cap] w (TruePost w) := by
  have hl' : (xs.length : Int) ≤ 200 := by omega
  have HR := Lib.hid hR
  have HOk := Lib.hid hok
  clear hR hok
  go_enter Try.func7, Try.ntmps7
  go_wp2_with fail
  refine (New_any w).mono ?_
  rintro e w1 ⟨g, F, rfl, h1, h2⟩
  have H := Lib.hid (OwnPl.start h1 h2)
  clear h1 h2
  generalize hd : w1.heap.size = d at *
  generalize hkb : d + 1 = kb at *
  go_wp2_with fail
  rw [hd] at *
  go_loopw [10] (fun i wr => LgRel w g d kb a1 i wr) (fun i _ => a1.toNat - (intOf i).toNat)
  case atStart => exact ⟨0, by omega, rfl, F, ([], []), H.out⟩
  case round =>
    clear H
    obtain ⟨k, hk, rfl, G, s, hO⟩ := hrel
    have HO := Lib.hid hO
    have hk300 : (k : Int) ≤ 300 := by omega
    clear hO
    by_cases hlt : (k : Int) < a1
    · obtain ⟨p0, p1⟩ := mul_le300 (a := a0) (k := k) h00 h01 (by omega)
      obtain ⟨p, hp⟩ : ∃ p : Int, a0 * (k : Int) = p := ⟨_, rfl⟩
      rw [hp] at p0 p1
      have wf1 : (Lit.int .i64 (a0 + (k : Int))).wf = true := by simp [Lit.wf, IntKind.min, IntKind.max, IntKind.signed, IntKind.bits]; omega
      have wf2 : (Lit.int .i64 (a0 + 2 * (k : Int))).wf = true := by simp [Lit.wf, IntKind.min, IntKind.max, IntKind.signed, IntKind.bits]; omega
      have wf3 : (Lit.int .u64 (p % 11)).wf = true := by simp [Lit.wf, IntKind.min, IntKind.max, IntKind.signed, IntKind.bits]; omega
      have WF1 := Lib.hid wf1
      have WF2 := Lib.hid wf2
      have WF3 := Lib.hid wf3
      clear wf1 wf2 wf3
      obtain ⟨ml, _⟩ := HO.out.p.log.most
      have hdn : d ∈ allN G d [kb] := by simp [allN]
      go_wp2_with fail
      refine (Read_any _ g G s.1 s.2 (a0 + k) (p % 11) WF1.out WF3.out HO.out.p.log).mono ?_
      rintro e w2 ⟨rfl, G1, q1, q2⟩
      have HD1 := Lib.hid (HO.out.p.log_did (s' := (rdL s.1 (a0 + k) (p % 11), s.2)) q1 q2)
      clear q1 q2
      go_wp2_with fail
      refine (ReadR_any _ (allN G1 d [kb]) d s.1 s.2 (a0 + k) (p % 11) (by simp [allN]) HD1.out.1.lt ml HD1.out.1.doc).mono ?_
      rintro e w3 ⟨rfl, q1, q2⟩
      have HD2 := Lib.hid (HD1.out.1.doc_did (t' := (rdL s.1 (a0 + k) (p % 11), s.2)) q1 q2)
      clear q1 q2
      obtain ⟨_, mw⟩ := HD2.out.1.log.most
      generalize hs2 : rdL s.1 (a0 + k) (p % 11) = s1 at *
      generalize rdErr s.1 (a0 + k) = er at *
      clear hs2
      go_wp2_with fail
      refine (Write_any _ g G1 s1 s.2 (a0 + 2 * k) (p % 11) WF2.out WF3.out HD2.out.1.log).mono ?_
      rintro e w4 ⟨rfl, G3, q1, q2⟩
      have HD3 := Lib.hid (HD2.out.1.log_did (s' := (s1, wrL s.2 (a0 + 2 * k) (p % 11))) q1 q2)
      clear q1 q2
      go_wp2_with fail
      refine (WriteR_any _ (allN G3 d [kb]) d s1 s.2 (a0 + 2 * k) (p % 11) (by simp [allN]) HD3.out.1.lt mw HD3.out.1.doc).mono ?_
      rintro e w5 ⟨rfl, q1, q2⟩
      have HD4 := Lib.hid (HD3.out.1.doc_did (t' := (s1, wrL s.2 (a0 + 2 * k) (p % 11))) q1 q2)
      clear q1 q2
      generalize wrL s.2 (a0 + 2 * k) (p % 11) = s2 at *
      generalize wrErr s.2 (a0 + 2 * k) = er2 at *
      go_wp2_with fail
      go_roundw
      case rel => exact ⟨k + 1, by omega, by go_num, G3, (s1, s2), HO.out.did HD4.out.1 (((HD1.out.2.trans HD2.out.2).trans HD3.out.2).trans HD4.out.2)⟩
      case measure => simp [intOf]; omega
    · obtain rfl : (k : Int) = a1 := by omega
      clear hlt
      go_wp2_with fail
      go_loopw [12] (fun i wr => OpsRel w g d kb s xs i wr) (fun i _ => xs.length - (intOf i).toNat)
      case atStart => exact ⟨0, Nat.zero_le _, rfl, G, _, 0, HO.out, Nat.le_refl _⟩
      case round =>
        clear HO
        obtain ⟨j, hk, rfl, G2, K, n, hO, hn⟩ := hrel
        have HO := Lib.hid hO
        have hsz := hO.size
        clear hO
        by_cases hlt : j < xs.length
        · obtain ⟨bi, off, rfl, hbb, hc⟩ := HR.out (by omega)
          have HS := Lib.hid (opPlay_succ s xs hlt)
          have HX := Lib.hid (HOk.out _ (List.getElem_mem hlt))
          have cc : ∀ j, bi < wr.heap.size ∧ wr.cell? ⟨bi, j, none⟩ = w.cell? ⟨bi, j, none⟩ := fun j => ⟨by omega, HO.out.bel.cell (p := ⟨bi, _, none⟩) hbb⟩
          have c0 : wr.cell? ⟨bi, off + j * 4, none⟩ = some (.int .i64 xs[j].k) := (cc _).2.trans (hc j hlt 0 (by decide))
          have c1 : wr.cell? ⟨bi, off + j * 4 + 1, none⟩ = some (.int .i64 xs[j].a) := (cc _).2.trans (hc j hlt 1 (by decide))
          have c2 : wr.cell? ⟨bi, off + j * 4 + 2, none⟩ = some (.int .u64 xs[j].v) := (cc _).2.trans (hc j hlt 2 (by decide))
          have c3 : wr.cell? ⟨bi, off + j * 4 + 3, none⟩ = some (.slice xs[j].nA xs[j].now.length xs[j].ncap) := (cc _).2.trans (hc j hlt 3 (by decide))
          have hbr := (cc 0).1
          clear hc cc
          generalize xs[j] = o at *
          generalize opPlay s (xs.take j) = t at *
          by_cases hnow : o.now.length ≤ 300
          · have hnow' : (o.now.length : Int) ≤ 300 := by omega
            go_wp2_with fail
            refine (do_own w wr g G2 d kb K t n j o HX.out hn (by omega) hnow HO.out).mono ?_
            rintro e w2 ⟨rfl, G2', K', n', h1, h2⟩
            have H2 := Lib.hid h1
            clear h1
            go_wp2_with fail
            go_roundw
            case rel => exact ⟨j + 1, by omega, by go_num, G2', K', n', by rw [HS.out]; exact H2.out, h2⟩
            case measure => simp [intOf]; omega
          · have hnow' : (300 : Int) < o.now.length := by omega
            go_wp2_with fail
            go_ret
            exact ⟨rfl, HO.out.bel⟩
        · obtain rfl : j = xs.length := by omega
          rw [List.take_length] at HO
          clear hk hlt
          generalize opPlay s xs = t at *
          obtain ⟨r, u, hr, hu, hb, f1, f2⟩ := HO.out.p.doc
          obtain ⟨m1, m2⟩ := HO.out.p.log.most
          have m1' : t.1.length ≤ 1000 := by omega
          have m2' : t.2.length ≤ 1000 := by omega
          have k0 : wr.cell? ⟨d, 0, none⟩ = some (.slice r.A t.1.length r.cap) := by rw [← hr]; exact hb.cell 0
          have k1 : wr.cell? ⟨d, 1, none⟩ = some (.slice u.A t.2.length u.cap) := by rw [← hu]; exact hb.cell 1
          have q1 := f1.rd
          have q2 := f2.rd
          rw [hr] at q1
          rw [hu] at q2
          have HQ1 := Lib.hid q1
          have HQ2 := Lib.hid q2
          have hdl := HO.out.p.dlt
          clear hb f1 f2 hr hu q1 q2 m1 m2
          go_wp2_with fail
          go_region_held3 (fun w' => w'.cell? ⟨d, 0, none⟩ = some (.slice r.A t.1.length r.cap) ∧ w'.cell? ⟨d, 1, none⟩ = some (.slice u.A t.2.length u.cap))
            (first | exact ⟨k0, k1⟩ | exact K1.out | exact K2.out | exact K3.out | exact K4.out | exact K5.out)
            (first
              | (go_at_call 15; have hP0 := HO.out.p.look ((Chg.refl [] _).drew); refine (Reads_any _ g G2 t.1 t.2 hP0.log).mono ?_; rintro e w1 ⟨x, rfl, hv, hbl⟩; obtain ⟨A1, c1, hx, hv1, hR1, hP1, hC1⟩ := hP0.told hv hbl; subst hx; have HR1 := Lib.hid hR1; have HP1 := Lib.hid hP1; have HC1 := Lib.hid (((Chg.refl [] wr).drew).trans hC1); have hsz1 := hC1.size; have K1 : Hid ((fun w' => w'.cell? ⟨d, 0, none⟩ = some (.slice r.A t.1.length r.cap) ∧ w'.cell? ⟨d, 1, none⟩ = some (.slice u.A t.2.length u.cap)) w1) := Lib.hid ⟨(hC1.nil_below.cell (p := ⟨d, 0, none⟩) (by simpa using hdl)).trans k0, (hC1.nil_below.cell (p := ⟨d, 1, none⟩) (by simpa using hdl)).trans k1⟩; clear hv hbl hv1 hR1 hP1 hC1 hP0)
              | (go_at_call 21; refine (SameP_q _ A2 u.A c2 u.cap _ _ t.2 m2' HR2.out (HQ2.out.chg0 HC2.out)).mono ?_; rintro e w4 ⟨rfl, q4, rfl⟩; have HP4 := Lib.hid (HP2.out.look ((Chg.refl [] _).drewN q4)); have HC4 := Lib.hid (HC2.out.trans ((Chg.refl [] _).drewN q4)); have K4 : Hid ((fun w' => w'.cell? ⟨d, 0, none⟩ = some (.slice r.A t.1.length r.cap) ∧ w'.cell? ⟨d, 1, none⟩ = some (.slice u.A t.2.length u.cap)) (w2.drewN q4)) := Lib.hid K2.out)
              | (go_at_call 21; refine (SameP_q _ A1 r.A c1 r.cap _ _ t.1 m1' HR1.out (HQ1.out.chg0 HC1.out)).mono ?_; rintro e w3 ⟨rfl, q3, rfl⟩; have HP3 := Lib.hid (HP1.out.look ((Chg.refl [] _).drewN q3)); have HC3 := Lib.hid (HC1.out.trans ((Chg.refl [] _).drewN q3)); have K3 : Hid ((fun w' => w'.cell? ⟨d, 0, none⟩ = some (.slice r.A t.1.length r.cap) ∧ w'.cell? ⟨d, 1, none⟩ = some (.slice u.A t.2.length u.cap)) (w1.drewN q3)) := Lib.hid K1.out)
              | (go_at_call 16; refine (Writes_any _ g G2 t.1 t.2 HP3.out.log).mono ?_; rintro e w2 ⟨x, rfl, hv, hbl⟩; obtain ⟨A2, c2, hx, hv1, hR1, hP1, hC1⟩ := HP3.out.told hv hbl; subst hx; have HR2 := Lib.hid hR1; have HP2 := Lib.hid hP1; have HC2 := Lib.hid (HC3.out.trans hC1); have K2 : Hid ((fun w' => w'.cell? ⟨d, 0, none⟩ = some (.slice r.A t.1.length r.cap) ∧ w'.cell? ⟨d, 1, none⟩ = some (.slice u.A t.2.length u.cap)) w2) := Lib.hid ⟨(hC1.nil_below.cell (p := ⟨d, 0, none⟩) (by have := HP3.out.dlt; simpa using this)).trans K3.out.1, (hC1.nil_below.cell (p := ⟨d, 1, none⟩) (by have := HP3.out.dlt; simpa using this)).trans K3.out.2⟩; clear hv hbl hv1 hR1 hP1 hC1)
              | (go_at_call 22; obtain ⟨vt, vu, ts, us, hk5, hn5⟩ := HP4.out.kept; refine (still_any _ _ kb K vt vu ts us (by omega) hk5).mono ?_; rintro e w5 ⟨rfl, q5, rfl⟩; have HC5 := Lib.hid (HC4.out.trans ((Chg.refl [] _).drewN q5)); have K5 : Hid ((fun w' => w'.cell? ⟨d, 0, none⟩ = some (.slice r.A t.1.length r.cap) ∧ w'.cell? ⟨d, 1, none⟩ = some (.slice u.A t.2.length u.cap)) ((w2.drewN q4).drewN q5)) := Lib.hid K2.out; clear hk5)
              | fail)
          all_goals
            go_wp2_with fail
            go_ret
            exact ⟨rfl, by rw [← World.drewN_drewN]; exact HO.out.bel.trans (HC5.out.nil_below.mono HO.out.size)⟩

theorem LogLong_any (w : World) (a0 a1 : Int) (A : Option Addr) (cap : Nat) (xs : List OpV) (hR : Rd w w.heap.size A 4 encOpV xs) (hok : ∀ o ∈ xs, OpOk2 w o) (hm : xs.length ≤ maxLen) :
    Calls Try.prog 7 #[.int .i64 a0, .int .i64 a1, .slice A xs.length cap] w (TruePost w) := by
  by_cases hl : xs.length ≤ 200
  · have hl' : (xs.length : Int) ≤ 200 := by omega
    by_cases h10 : 0 ≤ a1
    · by_cases h11 : a1 ≤ 300
      · by_cases h00 : 0 ≤ a0
        · by_cases h01 : a0 ≤ 1000000
          · exact LogLong_ok w a0 a1 h00 h01 h10 h11 A cap xs hR hl hok
          · have n1 : 1000000 < a0 := by omega
            clear hR hok
            go_enter Try.func7, Try.ntmps7
            go_wp2_with fail
            go_ret
            exact ⟨rfl, Below.refl _ _⟩
        · have n1 : a0 < 0 := by omega
          clear hR hok
          go_enter Try.func7, Try.ntmps7
          go_wp2_with fail
          go_ret
          exact ⟨rfl, Below.refl _ _⟩
      · have n1 : 300 < a1 := by omega
        clear hR hok
        go_enter Try.func7, Try.ntmps7
        go_wp2_with fail
        go_ret
        exact ⟨rfl, Below.refl _ _⟩
    · have n1 : a1 < 0 := by omega
      clear hR hok
      go_enter Try.func7, Try.ntmps7
      go_wp2_with fail
      go_ret
      exact ⟨rfl, Below.refl _ _⟩
  · have hl' : (200 : Int) < xs.length := by omega
    clear hR hok
    go_enter Try.func7, Try.ntmps7
    go_wp2_with fail
    go_ret
    exact ⟨rfl, Below.refl _ _⟩

end Go.Proofs.Ytobpknbnfkjnhaa
