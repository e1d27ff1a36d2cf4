/- LogPlays. -/
import Derived.Test.YtobpknbnfkjnhaaLogR14
namespace Go.Proofs.Ytobpknbnfkjnhaa
open Go.RowKit

set_option maxRecDepth 100000 in
set_option maxHeartbeats 8000000 in
theorem LogPlays_ok (w : World) (A : Option Addr) (cap : Nat) (xs : List OpV) (hR : Rd w w.heap.size A 4 encOpV xs) (hl : xs.length ≤ 1000) (hok : ∀ o ∈ xs, OpOk2 w o) :
    Calls Try.prog 6 #[.slice A xs.length cap] w (TruePost w) := by
  have hl' : (xs.length : Int) ≤ 1000 := by omega
  have HR := Lib.hid hR
  have HOk := Lib.hid hok
  clear hR hok
  go_enter Try.func6, Try.ntmps6
  go_wp2_with fail
  refine (New_any w).mono ?_
  rintro e w1 ⟨g, F, rfl, h1, h2⟩
  have H := Lib.hid (OwnPl.start h1 h2)
  clear h1 h2
  generalize hd : w1.heap.size = d at *
  generalize hkb : d + 1 = kb at *
  go_wp2_with fail
  rw [hd] at *
  go_loopw [6] (fun i wr => OpsRel w g d kb ([], []) xs i wr) (fun i _ => xs.length - (intOf i).toNat)
  case atStart => exact ⟨0, Nat.zero_le _, rfl, F, _, 0, H.out, Nat.le_refl _⟩
  case round =>
    clear H
    obtain ⟨k, hk, rfl, G, K, n, hO, hn⟩ := hrel
    have HO := Lib.hid hO
    have hsz := hO.size
    clear hO
    by_cases hlt : k < xs.length
    · obtain ⟨bi, off, rfl, hbb, hc⟩ := HR.out (by omega)
      have HS := Lib.hid (opPlay_succ ([], []) xs hlt)
      have HX := Lib.hid (HOk.out _ (List.getElem_mem hlt))
      have cc : ∀ j, bi < wr.heap.size ∧ wr.cell? ⟨bi, j, none⟩ = w.cell? ⟨bi, j, none⟩ := fun j => ⟨by omega, HO.out.bel.cell (p := ⟨bi, _, none⟩) hbb⟩
      have c0 : wr.cell? ⟨bi, off + k * 4, none⟩ = some (.int .i64 xs[k].k) := (cc _).2.trans (hc k hlt 0 (by decide))
      have c1 : wr.cell? ⟨bi, off + k * 4 + 1, none⟩ = some (.int .i64 xs[k].a) := (cc _).2.trans (hc k hlt 1 (by decide))
      have c2 : wr.cell? ⟨bi, off + k * 4 + 2, none⟩ = some (.int .u64 xs[k].v) := (cc _).2.trans (hc k hlt 2 (by decide))
      have c3 : wr.cell? ⟨bi, off + k * 4 + 3, none⟩ = some (.slice xs[k].nA xs[k].now.length xs[k].ncap) := (cc _).2.trans (hc k hlt 3 (by decide))
      have hbr := (cc 0).1
      clear hc cc
      generalize xs[k] = o at *
      generalize opPlay ([], []) (xs.take k) = t at *
      by_cases hnow : o.now.length ≤ 300
      · have hnow' : (o.now.length : Int) ≤ 300 := by omega
        go_wp2_with fail
        refine (do_own w wr g G d kb K t n k o HX.out hn (by omega) hnow HO.out).mono ?_
        rintro e w2 ⟨rfl, G', K', n', h1, h2⟩
        have H2 := Lib.hid h1
        clear h1
        go_wp2_with fail
        go_roundw
        case rel => exact ⟨k + 1, by omega, by go_num, G', K', n', by rw [HS.out]; exact H2.out, h2⟩
        case measure => simp [intOf]; omega
      · have hnow' : (300 : Int) < o.now.length := by omega
        go_wp2_with fail
        go_ret
        exact ⟨rfl, HO.out.bel⟩
    · obtain rfl : k = xs.length := by omega
      rw [List.take_length] at HO
      clear hk hlt
      generalize opPlay ([], []) xs = t at *
      obtain ⟨r, u, hr, hu, hb, f1, f2⟩ := HO.out.p.doc
      obtain ⟨m1, m2⟩ := HO.out.p.log.most
      have m1' : t.1.length ≤ 1000 := by omega
      have m2' : t.2.length ≤ 1000 := by omega
      have k0 : wr.cell? ⟨d, 0, none⟩ = some (.slice r.A t.1.length r.cap) := by rw [← hr]; exact hb.cell 0
      have k1 : wr.cell? ⟨d, 1, none⟩ = some (.slice u.A t.2.length u.cap) := by rw [← hu]; exact hb.cell 1
      have q1 := f1.rd
      have q2 := f2.rd
      rw [hr] at q1
      rw [hu] at q2
      have HQ1 := Lib.hid q1
      have HQ2 := Lib.hid q2
      have hdl := HO.out.p.dlt
      clear hb f1 f2 hr hu q1 q2 m1 m2
      go_wp2_with fail
      go_region_held3 (fun w' => w'.cell? ⟨d, 0, none⟩ = some (.slice r.A t.1.length r.cap) ∧ w'.cell? ⟨d, 1, none⟩ = some (.slice u.A t.2.length u.cap))
        (first | exact ⟨k0, k1⟩ | exact K1.out | exact K2.out | exact K3.out | exact K4.out | exact K5.out)
        (first
          | (go_at_call 15; have hP0 := HO.out.p.look ((Chg.refl [] _).drew); refine (Reads_any _ g G t.1 t.2 hP0.log).mono ?_; rintro e w1 ⟨x, rfl, hv, hbl⟩; obtain ⟨A1, c1, hx, hv1, hR1, hP1, hC1⟩ := hP0.told hv hbl; subst hx; have HR1 := Lib.hid hR1; have HP1 := Lib.hid hP1; have HC1 := Lib.hid (((Chg.refl [] wr).drew).trans hC1); have hsz1 := hC1.size; have K1 : Hid ((fun w' => w'.cell? ⟨d, 0, none⟩ = some (.slice r.A t.1.length r.cap) ∧ w'.cell? ⟨d, 1, none⟩ = some (.slice u.A t.2.length u.cap)) w1) := Lib.hid ⟨(hC1.nil_below.cell (p := ⟨d, 0, none⟩) (by simpa using hdl)).trans k0, (hC1.nil_below.cell (p := ⟨d, 1, none⟩) (by simpa using hdl)).trans k1⟩; clear hv hbl hv1 hR1 hP1 hC1 hP0)
          | (go_at_call 21; refine (SameP_q _ A2 u.A c2 u.cap _ _ t.2 m2' HR2.out (HQ2.out.chg0 HC2.out)).mono ?_; rintro e w4 ⟨rfl, q4, rfl⟩; have HP4 := Lib.hid (HP2.out.look ((Chg.refl [] _).drewN q4)); have HC4 := Lib.hid (HC2.out.trans ((Chg.refl [] _).drewN q4)); have K4 : Hid ((fun w' => w'.cell? ⟨d, 0, none⟩ = some (.slice r.A t.1.length r.cap) ∧ w'.cell? ⟨d, 1, none⟩ = some (.slice u.A t.2.length u.cap)) (w2.drewN q4)) := Lib.hid K2.out)
          | (go_at_call 21; refine (SameP_q _ A1 r.A c1 r.cap _ _ t.1 m1' HR1.out (HQ1.out.chg0 HC1.out)).mono ?_; rintro e w3 ⟨rfl, q3, rfl⟩; have HP3 := Lib.hid (HP1.out.look ((Chg.refl [] _).drewN q3)); have HC3 := Lib.hid (HC1.out.trans ((Chg.refl [] _).drewN q3)); have K3 : Hid ((fun w' => w'.cell? ⟨d, 0, none⟩ = some (.slice r.A t.1.length r.cap) ∧ w'.cell? ⟨d, 1, none⟩ = some (.slice u.A t.2.length u.cap)) (w1.drewN q3)) := Lib.hid K1.out)
          | (go_at_call 16; refine (Writes_any _ g G t.1 t.2 HP3.out.log).mono ?_; rintro e w2 ⟨x, rfl, hv, hbl⟩; obtain ⟨A2, c2, hx, hv1, hR1, hP1, hC1⟩ := HP3.out.told hv hbl; subst hx; have HR2 := Lib.hid hR1; have HP2 := Lib.hid hP1; have HC2 := Lib.hid (HC3.out.trans hC1); have K2 : Hid ((fun w' => w'.cell? ⟨d, 0, none⟩ = some (.slice r.A t.1.length r.cap) ∧ w'.cell? ⟨d, 1, none⟩ = some (.slice u.A t.2.length u.cap)) w2) := Lib.hid ⟨(hC1.nil_below.cell (p := ⟨d, 0, none⟩) (by have := HP3.out.dlt; simpa using this)).trans K3.out.1, (hC1.nil_below.cell (p := ⟨d, 1, none⟩) (by have := HP3.out.dlt; simpa using this)).trans K3.out.2⟩; clear hv hbl hv1 hR1 hP1 hC1)
          | (go_at_call 22; obtain ⟨vt, vu, ts, us, hk5, hn5⟩ := HP4.out.kept; refine (still_any _ _ kb K vt vu ts us (by omega) hk5).mono ?_; rintro e w5 ⟨rfl, q5, rfl⟩; have HC5 := Lib.hid (HC4.out.trans ((Chg.refl [] _).drewN q5)); have K5 : Hid ((fun w' => w'.cell? ⟨d, 0, none⟩ = some (.slice r.A t.1.length r.cap) ∧ w'.cell? ⟨d, 1, none⟩ = some (.slice u.A t.2.length u.cap)) ((w2.drewN q4).drewN q5)) := Lib.hid K2.out; clear hk5)
          | fail)
      all_goals
        go_wp2_with fail
        go_ret
        exact ⟨rfl, by rw [← World.drewN_drewN]; exact HO.out.bel.trans (HC5.out.nil_below.mono HO.out.size)⟩

theorem LogPlays_any (w : World) (A : Option Addr) (cap : Nat) (xs : List OpV) (hR : Rd w w.heap.size A 4 encOpV xs) (hok : ∀ o ∈ xs, OpOk2 w o) (hm : xs.length ≤ maxLen) :
    Calls Try.prog 6 #[.slice A xs.length cap] w (TruePost w) := by
  by_cases hl : xs.length ≤ 1000
  · exact LogPlays_ok w A cap xs hR hl hok
  have hl' : (1000 : Int) < xs.length := by omega
  clear hR hok
  go_enter Try.func6, Try.ntmps6
  go_wp2_with fail
  go_ret
  exact ⟨rfl, Below.refl _ _⟩

end Go.Proofs.Ytobpknbnfkjnhaa
