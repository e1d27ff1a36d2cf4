/- do: Writes. -/
import Derived.Test.YtobpknbnfkjnhaaLogR10
namespace Go.Proofs.Ytobpknbnfkjnhaa
open Go.RowKit

set_option maxRecDepth 100000 in
set_option maxHeartbeats 4000000 in
theorem do_6 (w : World) (g : Nat) (F : List Nat) (d kb : Nat) (K : List Nat) (s : RW) (n : Nat) (a v : Int) (nA : Option Addr) (nl ncap : Nat) (hn : n ≤ 1000) (h : PlAt w g F d kb K s s n) :
    Calls Try.prog 20 #[.pointer (some ⟨g, 0, none⟩), .pointer (some ⟨d, 0, none⟩), .agg #[.int .i64 6, .int .i64 a, .int .u64 v, .slice nA nl ncap], .pointer (some ⟨kb, 0, none⟩)] w (DoPost w g F d kb K s n) := by
  have hb0 := Blk.new w [.int .i64 6, .int .i64 a, .int .u64 v, .slice nA nl ncap] 26
  have hC0 : Chg [] w (w.alloc (.cells #[.int .i64 6, .int .i64 a, .int .u64 v, .slice nA nl ncap] 26)) := (Chg.refl _ _).alloc _
  have H0 := Lib.hid (h.look hC0)
  have HB0 := Lib.hid hb0
  have HC0 := Lib.hid hC0
  obtain ⟨ml, mw⟩ := h.log.most
  have hW0 : ∃ w0, w0 = w.alloc (.cells #[.int .i64 6, .int .i64 a, .int .u64 v, .slice nA nl ncap] 26) := ⟨_, rfl⟩
  clear h hb0 hC0
  go_enter Try.func20, Try.ntmps20
  go_wp2_with fail
  obtain ⟨w0, hw0⟩ := hW0
  rw [← hw0] at H0 HB0 HC0 ⊢
  clear hw0
  obtain ⟨r, u, hr, hu, hb, f1, f2⟩ := H0.out.doc
  have k0 : w0.cell? ⟨d, 0, none⟩ = some (.slice r.A s.1.length r.cap) := by rw [← hr]; exact hb.cell 0
  have hrd := f1.rd
  rw [hr] at hrd
  have HRd := Lib.hid hrd
  have k5 : w0.cell? ⟨d, 1, none⟩ = some (.slice u.A s.2.length u.cap) := by rw [← hu]; exact hb.cell 1
  have hrd2 := f2.rd
  rw [hu] at hrd2
  have HRd2 := Lib.hid hrd2
  clear hb f1 f2 hr hu hrd hrd2
  go_region_held3 (fun w' => w'.cell? ⟨d, 0, none⟩ = some (.slice r.A s.1.length r.cap))
    (first | exact k0 | exact k1)
    (first
      | (go_at_call 15; refine (Reads_any _ g F s.1 s.2 (H0.out.look ((Chg.refl [] _).drew)).log).mono ?_; rintro e w1 ⟨x, rfl, hv, hbl⟩; obtain ⟨A1, c1, hx, hv1, hR1, hP1, hC1⟩ := (H0.out.look ((Chg.refl [] _).drew)).told hv hbl; subst hx; have HO1 := Lib.hid hv1; have HR1 := Lib.hid hR1; have HP1 := Lib.hid hP1; have HC1 := Lib.hid hC1; have k1 : w1.cell? ⟨d, 0, none⟩ = some (.slice r.A s.1.length r.cap) := (hbl.cell (p := ⟨d, 0, none⟩) (by have := H0.out.dlt; simpa using this)).trans k0; clear hv hbl hv1 hR1 hP1 hC1)
      | fail)
  all_goals
    have hBx : Blk w1 w.heap.size [.int .i64 6, .int .i64 a, .int .u64 v, .slice nA nl ncap] 26 := HC1.out.blk HB0.out.drew (by simp)
    have q0 : w1.cell? ⟨w.heap.size, 0, none⟩ = some (.int .i64 6) := hBx.cell 0
    have k6 : w1.cell? ⟨d, 1, none⟩ = some (.slice u.A s.2.length u.cap) := (HC1.out.nil_below.cell (p := ⟨d, 1, none⟩) (by have := H0.out.dlt; simpa using this)).trans k5
    have hml : s.2.length ≤ 1000 := by omega
    clear hBx
    go_wp2_with fail
    go_region_held3 (fun w' => w'.cell? ⟨d, 1, none⟩ = some (.slice u.A s.2.length u.cap))
      (first | exact k6 | exact k7)
      (first
        | (go_at_call 16; refine (Writes_any _ g F s.1 s.2 (HP1.out.look ((Chg.refl [] _).drew)).log).mono ?_; rintro e w2 ⟨x, rfl, hv, hbl⟩; obtain ⟨A2, c2, hx, hv1, hR1, hP1, hC1⟩ := (HP1.out.look ((Chg.refl [] _).drew)).told hv hbl; subst hx; have HO2 := Lib.hid hv1; have HR2 := Lib.hid hR1; have HP2 := Lib.hid hP1; have HC2 := Lib.hid hC1; have k7 : w2.cell? ⟨d, 1, none⟩ = some (.slice u.A s.2.length u.cap) := (hbl.cell (p := ⟨d, 1, none⟩) (by have := HP1.out.dlt; simpa using this)).trans k6; clear hv hbl hv1 hR1 hP1 hC1)
        | fail)
    all_goals
      go_wp2_with fail
      refine (SameP_q _ A2 u.A c2 u.cap _ _ s.2 hml HR2.out (HRd2.out.chg0 ((((Chg.refl [] _).drew).trans HC1.out).trans (((Chg.refl [] _).drew).trans HC2.out)))).mono ?_
      rintro e w3 ⟨rfl, q, rfl⟩
      go_wp2_with fail
      refine (keep_pl _ _ g F d kb K s s n A2 c2 s.2 hn mw (HP1.out.look ((Chg.refl [] _).drew)) (HC2.out.trans ((Chg.refl [] _).drewN _)) (ownsRow_chg HO2.out ((Chg.refl [] _).drewN q) (by simp))).mono ?_
      rintro e w4 ⟨rfl, K', h1, h2⟩
      have H3 := Lib.hid h1
      have HM3 := Lib.hid h2
      clear h1 h2
      go_wp2_with fail
      go_ret
      exact ⟨rfl, F, K', n + 1, H3.out, Mv.pre (((HC0.out.trans ((Chg.refl [] _).drew)).trans HC1.out).trans ((Chg.refl [] _).drew)) HM3.out, by omega⟩

end Go.Proofs.Ytobpknbnfkjnhaa
