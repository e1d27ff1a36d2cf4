/- do: Clear, Was, Look; nothing. -/
import Derived.Test.YtobpknbnfkjnhaaLogR7
namespace Go.Proofs.Ytobpknbnfkjnhaa
open Go.RowKit

theorem FzP.none (w : World) (N : List Nat) : FzP w N ⟨none, 0, []⟩ := ⟨Nat.le_refl _, Nat.zero_le _, fun _ => rfl, Rd.nil _ _ _ _ _, (fun a e => by cases e), (fun a e => by cases e)⟩
theorem quiet_left {P : Program} {f : FuncId} {args : Array Value} {w : World} {n : Nat} {v : Value}
    (h : Calls P f args (w.drewN n) fun e w' => e = .returned v ∧ w.drewN n = w') : Calls P f args (w.drewN n) fun e w'' => e = .returned v ∧ ∃ m, w'' = w.drewN m :=
  h.mono fun _ _ ⟨he, hm⟩ => ⟨he, n, hm.symm⟩

set_option maxRecDepth 100000 in
set_option maxHeartbeats 4000000 in
theorem do_2 (w : World) (g : Nat) (F : List Nat) (d kb : Nat) (K : List Nat) (s : RW) (n : Nat) (a v : Int) (nA : Option Addr) (nl ncap : Nat) (h : PlAt w g F d kb K s s n) :
    Calls Try.prog 20 #[.pointer (some ⟨g, 0, none⟩), .pointer (some ⟨d, 0, none⟩), .agg #[.int .i64 2, .int .i64 a, .int .u64 v, .slice nA nl ncap], .pointer (some ⟨kb, 0, none⟩)] w (DoPost w g F d kb K ([], []) n) := by
  have hC0 : Chg [] w (w.alloc (.cells #[.int .i64 2, .int .i64 a, .int .u64 v, .slice nA nl ncap] 26)) := (Chg.refl _ _).alloc _
  have h0 := h.look hC0
  obtain ⟨r, u, _, _, hb, f1, f2⟩ := h.doc
  have k0 : w.cell? ⟨d, 0, none⟩ = some r.val := hb.cell 0
  have k1 : w.cell? ⟨d, 1, none⟩ = some u.val := hb.cell 1
  have g0 : w.frozen? ⟨d, 0, none⟩ = false := hb.free 0
  have g1 : w.frozen? ⟨d, 1, none⟩ = false := hb.free 1
  have hdl := hb.lt
  have hst : Chg [d] (w.alloc (.cells #[.int .i64 2, .int .i64 a, .int .u64 v, .slice nA nl ncap] 26)) (((w.setCell ⟨d, 0, none⟩ (.slice none 0 0)).setCell ⟨d, 1, none⟩ (.slice none 0 0)).alloc (.cells #[.int .i64 2, .int .i64 a, .int .u64 v, .slice nA nl ncap] 26)) := by
    refine ⟨rfl, rfl, rfl, by simp, fun k hk hks => ?_⟩
    have hkd : k ≠ d := by simpa using hks
    by_cases he : k = w.heap.size
    · subst he
      have e1 := heap_alloc_new w (.cells #[.int .i64 2, .int .i64 a, .int .u64 v, .slice nA nl ncap] 26)
      have e2 := heap_alloc_new ((w.setCell ⟨d, 0, none⟩ (.slice none 0 0)).setCell ⟨d, 1, none⟩ (.slice none 0 0)) (.cells #[.int .i64 2, .int .i64 a, .int .u64 v, .slice nA nl ncap] 26)
      simp only [Go.World.size_setCell] at e2
      rw [e1, e2]
    · have hk2 : k < w.heap.size := by simp at hk; omega
      rw [Below.heap_alloc _ _ _ (by simpa using hk2), Below.heap_alloc _ _ _ hk2, Below.heap_setCell _ _ _ _ hkd, Below.heap_setCell _ _ _ _ hkd]
  have hdoc : DocAt (((w.setCell ⟨d, 0, none⟩ (.slice none 0 0)).setCell ⟨d, 1, none⟩ (.slice none 0 0)).alloc (.cells #[.int .i64 2, .int .i64 a, .int .u64 v, .slice nA nl ncap] 26)) (allN F d K) d [] [] :=
    ⟨⟨none, 0, []⟩, ⟨none, 0, []⟩, rfl, rfl, ((hb.set 0 (.slice none 0 0)).set 1 (.slice none 0 0)).alloc _, FzP.none _ _, FzP.none _ _⟩
  have HD := Lib.hid (h0.doc_did (t' := ([], [])) hdoc hst)
  have HC0 := Lib.hid hC0
  clear h h0 hb f1 f2 hst hdoc hC0
  go_enter Try.func20, Try.ntmps20
  go_wp2_with fail
  refine (Clear_any _ g F s.1 s.2 HD.out.1.log).mono ?_
  rintro e w1 ⟨rfl, F', h1, m1⟩
  have HD1 := Lib.hid (HD.out.1.log_did (s' := ([], [])) h1 m1)
  clear h1 m1
  go_wp2_with fail
  go_ret
  exact ⟨rfl, F', K, n, HD1.out.1, Mv.pre HC0.out (HD.out.2.trans HD1.out.2), by omega⟩

set_option maxRecDepth 100000 in
set_option maxHeartbeats 4000000 in
theorem do_3 (w : World) (g : Nat) (F : List Nat) (d kb : Nat) (K : List Nat) (s : RW) (n : Nat) (a v : Int) (nA : Option Addr) (nl ncap : Nat) (wa : (Lit.int .i64 a).wf = true) (h : PlAt w g F d kb K s s n) :
    Calls Try.prog 20 #[.pointer (some ⟨g, 0, none⟩), .pointer (some ⟨d, 0, none⟩), .agg #[.int .i64 3, .int .i64 a, .int .u64 v, .slice nA nl ncap], .pointer (some ⟨kb, 0, none⟩)] w (DoPost w g F d kb K s n) := by
  have hC0 : Chg [] w (w.alloc (.cells #[.int .i64 3, .int .i64 a, .int .u64 v, .slice nA nl ncap] 26)) := (Chg.refl _ _).alloc _
  have h0 := h.look hC0
  obtain ⟨r, u, hr, hu, hb, f1, f2⟩ := h.doc
  obtain ⟨ml, _⟩ := h.log.most
  have k0 : w.cell? ⟨d, 0, none⟩ = some (.slice r.A r.l.length r.cap) := hb.cell 0
  have hdl := hb.lt
  have hrd := f1.rd.chg0 hC0
  rw [hr] at k0 hrd
  have HL := Lib.hid h0.log
  have HRd := Lib.hid hrd
  have H := Lib.hid h0
  have HC0 := Lib.hid hC0
  have HML := Lib.hid (Nat.le_trans ml (show 128 ≤ 1000 by decide))
  clear h h0 hb f1 f2 hC0 hrd ml hr hu
  go_enter Try.func20, Try.ntmps20
  go_wp2_with fail
  refine (Was_any _ g F s.1 s.2 a wa HL.out).mono ?_
  rintro e w1 ⟨rfl, rfl⟩
  go_wp2_with fail
  go_quiet ((go_at_call 31; exact quiet_left (Value_any _ r.A r.cap _ s.1 a HML.out (HRd.out.chg0 ((Chg.refl _ _).drewN _)))))
  go_wp2_with fail
  go_ret
  exact ⟨rfl, F, K, n, H.out.look ((Chg.refl _ _).drewN _), Mv.pre HC0.out (Mv.of_same ((Chg.refl _ _).drewN _)), by omega⟩

set_option maxRecDepth 100000 in
set_option maxHeartbeats 4000000 in
theorem do_4 (w : World) (g : Nat) (F : List Nat) (d kb : Nat) (K : List Nat) (s : RW) (n : Nat) (a v : Int) (nA : Option Addr) (nl ncap : Nat) (wa : (Lit.int .i64 a).wf = true) (h : PlAt w g F d kb K s s n) :
    Calls Try.prog 20 #[.pointer (some ⟨g, 0, none⟩), .pointer (some ⟨d, 0, none⟩), .agg #[.int .i64 4, .int .i64 a, .int .u64 v, .slice nA nl ncap], .pointer (some ⟨kb, 0, none⟩)] w (DoPost w g F d kb K s n) := by
  have hC0 : Chg [] w (w.alloc (.cells #[.int .i64 4, .int .i64 a, .int .u64 v, .slice nA nl ncap] 26)) := (Chg.refl _ _).alloc _
  have h0 := h.look hC0
  obtain ⟨r, u, hr, hu, hb, f1, f2⟩ := h.doc
  obtain ⟨_, ml⟩ := h.log.most
  have k1 : w.cell? ⟨d, 1, none⟩ = some (.slice u.A u.l.length u.cap) := hb.cell 1
  have hdl := hb.lt
  have hrd := f2.rd.chg0 hC0
  rw [hu] at k1 hrd
  have HL := Lib.hid h0.log
  have HRd := Lib.hid hrd
  have H := Lib.hid h0
  have HC0 := Lib.hid hC0
  have HML := Lib.hid (Nat.le_trans ml (show 128 ≤ 1000 by decide))
  clear h h0 hb f1 f2 hC0 hrd ml hr hu
  go_enter Try.func20, Try.ntmps20
  go_wp2_with fail
  refine (Look_any _ g F s.1 s.2 a wa HL.out).mono ?_
  rintro e w1 ⟨rfl, rfl⟩
  go_wp2_with fail
  go_quiet ((go_at_call 31; exact quiet_left (Value_any _ u.A u.cap _ s.2 a HML.out (HRd.out.chg0 ((Chg.refl _ _).drewN _)))))
  go_wp2_with fail
  go_ret
  exact ⟨rfl, F, K, n, H.out.look ((Chg.refl _ _).drewN _), Mv.pre HC0.out (Mv.of_same ((Chg.refl _ _).drewN _)), by omega⟩

set_option maxRecDepth 100000 in
set_option maxHeartbeats 4000000 in
theorem do_none (w : World) (g : Nat) (F : List Nat) (d kb : Nat) (K : List Nat) (s : RW) (n : Nat) (k a v : Int) (nA : Option Addr) (nl ncap : Nat) (hk : k < 0 ∨ 7 < k) (h : PlAt w g F d kb K s s n) :
    Calls Try.prog 20 #[.pointer (some ⟨g, 0, none⟩), .pointer (some ⟨d, 0, none⟩), .agg #[.int .i64 k, .int .i64 a, .int .u64 v, .slice nA nl ncap], .pointer (some ⟨kb, 0, none⟩)] w (DoPost w g F d kb K s n) := by
  have b0 : (k == 0) = false := by simp; omega
  have b1 : (k == 1) = false := by simp; omega
  have b2 : (k == 2) = false := by simp; omega
  have b3 : (k == 3) = false := by simp; omega
  have b4 : (k == 4) = false := by simp; omega
  have b5 : (k == 5) = false := by simp; omega
  have b6 : (k == 6) = false := by simp; omega
  have b7 : (k == 7) = false := by simp; omega
  have H := Lib.hid h
  clear h hk
  go_enter Try.func20, Try.ntmps20
  go_wp2_with fail
  go_ret
  exact ⟨rfl, F, K, n, H.out.look ((Chg.refl _ _).alloc _), Mv.of_same ((Chg.refl _ _).alloc _), by omega⟩

end Go.Proofs.Ytobpknbnfkjnhaa
