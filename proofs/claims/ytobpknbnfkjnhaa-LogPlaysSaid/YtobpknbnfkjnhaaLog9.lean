/- LogCleared. -/
import Derived.Test.YtobpknbnfkjnhaaLog8
namespace Go.Proofs.Ytobpknbnfkjnhaa
open Go.RowKit

/-- Two logs made since the law began. -/
structure TwoLog (w w1 wr : World) (g h : Nat) (F G : List Nat) (s t : RW) : Prop where
  o : OwnLog w1.heap.size w1 wr g F s
  l : LogAt wr h G t.1 t.2
  ge : ∀ x ∈ G, w1.heap.size ≤ x
  ap : Apart F G
  bel : Below w.heap.size w w1
theorem TwoLog.did1 {w w1 wr w' : World} {g h : Nat} {F F' G : List Nat} {s s' t : RW} (k : TwoLog w w1 wr g h F G s t) (h1 : OwnLog w1.heap.size w1 w' g F' s') (m : Mv F F' wr w') : TwoLog w w1 w' g h F' G s' t :=
  ⟨h1, k.l.chg m.chg k.ap.symm, k.ge, k.ap.mv m k.l.lt, k.bel⟩
theorem TwoLog.swap {w w1 wr : World} {g h : Nat} {F G : List Nat} {s t : RW} (k : TwoLog w w1 wr g h F G s t) : TwoLog w w1 wr h g G F t s :=
  ⟨⟨k.l, k.ge, k.o.bel, k.o.le⟩, k.o.l, k.o.ge, k.ap.symm, k.bel⟩
theorem TwoLog.look {w w1 wr w' : World} {g h : Nat} {F G : List Nat} {s t : RW} (k : TwoLog w w1 wr g h F G s t) (b : Below wr.heap.size wr w') : TwoLog w w1 w' g h F G s t :=
  ⟨k.o.look b, k.l.look (Chg.of_below b []), k.ge, k.ap, k.bel⟩
theorem TwoLog.stay {w w1 wr : World} {g h : Nat} {F G : List Nat} {s t : RW} (k : TwoLog w w1 wr g h F G s t) : Below w.heap.size w wr := k.bel.trans (k.o.bel.mono k.bel.size)

theorem LogAt.facts {w : World} {g : Nat} {F : List Nat} {R W : PL} (h : LogAt w g F R W) : (Once R ∧ PairsOk R ∧ R.length ≤ 128) ∧ Once W ∧ PairsOk W ∧ W.length ≤ 128 := by
  obtain ⟨b, c, v, m, u, n, _, h2, h3, _⟩ := h.parts
  exact ⟨⟨h2.once, h2.ok, h2.most⟩, h3.once, h3.ok, h3.most⟩
theorem once_place {l : PL} (h : Once l) {k : Nat} (hk : k < l.length) : isIn l l[k].1 = true ∧ valOf l l[k].1 = l[k].2 := by
  refine valOf_at hk (fun j hj hjk e => ?_) rfl
  have h2 := List.pairwise_iff_getElem.1 h j k (by simpa using hj) (by simpa using hk) hjk
  exact h2 (by simpa using e)
theorem told_rd {w : World} {base : Nat} {v : Value} {l : PL} (h : w.ownsRow base 39 2 v l.length (cellsP l)) : ∃ A cap, v = .slice A l.length cap ∧ PRd w A w.heap.size l := by
  obtain ⟨A, cap, rfl, _⟩ := ownsRow_cell h
  exact ⟨A, cap, rfl, PRd.of_row h⟩

set_option maxRecDepth 100000 in
set_option maxHeartbeats 4000000 in
theorem LogCleared_ok (w : World) (A A2 : Option Addr) (cap cap2 : Nat) (xs ys : List OpV) (hR : Rd w w.heap.size A 4 encOpV xs) (hR2 : Rd w w.heap.size A2 4 encOpV ys) (hl : xs.length ≤ 1000) (hl2 : ys.length ≤ 1000)
    (hok : ∀ o ∈ xs, (Lit.int .i64 o.a).wf = true ∧ (Lit.int .u64 o.v).wf = true) (hok2 : ∀ o ∈ ys, (Lit.int .i64 o.a).wf = true ∧ (Lit.int .u64 o.v).wf = true) :
    Calls Try.prog 4 #[.slice A xs.length cap, .slice A2 ys.length cap2] w (StaysPost w) := by
  have hl' : (xs.length : Int) ≤ 1000 := by omega
  have hl2' : (ys.length : Int) ≤ 1000 := by omega
  have HR := Lib.hid hR
  have HOK := Lib.hid hok
  have HR2 := Lib.hid hR2
  have HOK2 := Lib.hid hok2
  obtain ⟨R, W, hS⟩ : ∃ R W, opPlay ([], []) ys = (R, W) := ⟨_, _, rfl⟩
  have HS := Lib.hid hS
  clear hR hok hR2 hok2 hS
  go_enter Try.func4, Try.ntmps4
  go_wp2_with fail
  refine (alive_any _).mono ?_
  rintro e w1 ⟨rfl, h1⟩
  have HB := Lib.hid h1
  clear h1
  go_wp2_with fail
  refine (New_any _).mono ?_
  rintro e w2 ⟨g, F2, rfl, h1, h2⟩
  have H2 := Lib.hid (h1.own h2)
  clear h1 h2
  go_wp2_with fail
  refine (New_any _).mono ?_
  rintro e w3 ⟨h, G, rfl, h1, h2⟩
  have H3 : Hid (TwoLog w w1 w3 g h F2 G ([], []) ([], [])) := Lib.hid ⟨H2.out.look h2.chg.nil_below, h1, fun x hx => (h2.new x hx).elim (fun e => absurd e (by simp)) (Nat.le_trans H2.out.le'), Apart.symm (Apart.new (fun x hx => (h2.new x hx).elim (fun e => absurd e (by simp)) id) H2.out.l.lt), HB.out⟩
  clear h1 h2
  go_wp2_with fail
  refine (play_any w1.heap.size w1 _ g F2 ([], []) A cap xs ((HR.out.below H3.out.stay).mono H3.out.bel.size) hl HOK.out H3.out.o).mono ?_
  rintro e w4 ⟨rfl, F4, h1, h2⟩
  have H4 := Lib.hid (H3.out.did1 h1 h2)
  clear h1 h2
  go_wp2_with fail
  refine (Clear_any _ g F4 _ _ H4.out.o.l).mono ?_
  rintro e w5 ⟨rfl, F5, h1, h2⟩
  have H5 := Lib.hid (H4.out.did1 (s' := ([], [])) (H4.out.o.did h1 h2) h2)
  clear h1 h2
  go_wp2_with fail
  refine (Reads_any _ g F5 [] [] H5.out.o.l).mono ?_
  rintro e w6 ⟨v, rfl, h1, h2⟩
  obtain ⟨_, _, rfl⟩ := told_len h1
  have H6 := Lib.hid (H5.out.look h2)
  clear h1 h2
  go_wp2_with fail
  refine (Writes_any _ g F5 [] [] H6.out.o.l).mono ?_
  rintro e w7 ⟨v, rfl, h1, h2⟩
  obtain ⟨_, _, rfl⟩ := told_len h1
  have H7 := Lib.hid (H6.out.look h2)
  clear h1 h2
  go_wp2_with fail
  refine (play_any w1.heap.size w1 _ g F5 ([], []) A2 cap2 ys ((HR2.out.below H7.out.stay).mono H7.out.bel.size) hl2 HOK2.out H7.out.o).mono ?_
  rintro e w8 ⟨rfl, F8, h1, h2⟩
  rw [HS.out] at h1
  have H8 := Lib.hid (H7.out.did1 h1 h2).swap
  clear h1 h2
  go_wp2_with fail
  refine (play_any w1.heap.size w1 _ h G ([], []) A2 cap2 ys ((HR2.out.below H8.out.stay).mono H8.out.bel.size) hl2 HOK2.out H8.out.o).mono ?_
  rintro e w9 ⟨rfl, G9, h1, h2⟩
  rw [HS.out] at h1
  have H9 := Lib.hid (H8.out.did1 h1 h2).swap
  clear h1 h2
  go_wp2_with fail
  refine (Reads_any _ g F8 R W H9.out.o.l).mono ?_
  rintro e w10 ⟨v, rfl, h1, h2⟩
  obtain ⟨Ar, _, rfl, hr⟩ := told_rd h1
  have H10 := Lib.hid (H9.out.look h2)
  have PR10 := Lib.hid hr
  clear h1 h2 hr
  go_wp2_with fail
  refine (Reads_any _ h G9 R W H10.out.l).mono ?_
  rintro e w11 ⟨v, rfl, h1, h2⟩
  obtain ⟨As, _, rfl, hr⟩ := told_rd h1
  have H11 := Lib.hid (H10.out.look h2)
  have PS11 := Lib.hid hr
  have PR11 := Lib.hid ((PR10.out.below h2))
  have HZ11 := Lib.hid h2
  clear h1 h2 hr
  go_wp2_with fail
  refine (Writes_any _ g F8 R W H11.out.o.l).mono ?_
  rintro e w12 ⟨v, rfl, h1, h2⟩
  obtain ⟨Aw, _, rfl, hr⟩ := told_rd h1
  have H12 := Lib.hid (H11.out.look h2)
  have PW12 := Lib.hid hr
  have PS12 := Lib.hid (PS11.out.below h2)
  have PR12 := Lib.hid (PR11.out.below (h2.mono HZ11.out.size))
  have HZ12 := Lib.hid (HZ11.out.trans (h2.mono HZ11.out.size))
  have HY12 := Lib.hid h2
  clear h1 h2 hr
  go_wp2_with fail
  refine (Writes_any _ h G9 R W H12.out.l).mono ?_
  rintro e w13 ⟨v, rfl, h1, h2⟩
  obtain ⟨Ax, _, rfl, hr⟩ := told_rd h1
  have H13 := Lib.hid (H12.out.look h2)
  have PX := Lib.hid hr
  have PW := Lib.hid (PW12.out.below h2)
  have PS := Lib.hid (PS12.out.below (h2.mono HY12.out.size))
  have PR := Lib.hid (PR12.out.below (h2.mono HZ12.out.size))
  clear h1 h2 hr
  obtain ⟨⟨oR, kR, mR⟩, oW, kW, mW⟩ := H13.out.o.l.facts
  have OR := Lib.hid oR
  have KR := Lib.hid kR
  have OW := Lib.hid oW
  have KW := Lib.hid kW
  clear oR kR oW kW
  go_wp2_with fail
  go_loopw [12] (fun i wr => ∃ k : Nat, k ≤ R.length ∧ i = .int .i64 k ∧ ∃ n, wr = w13.drewN n) (fun i _ => R.length - (intOf i).toNat)
  case atStart => exact ⟨0, Nat.zero_le _, rfl, 0, rfl⟩
  case round =>
    obtain ⟨k, hk, rfl, n, rfl⟩ := hrel
    by_cases hlt : k < R.length
    · obtain ⟨b, rfl, _, c0, c1⟩ := PR.out k hlt
      obtain ⟨c, rfl, _, d0, d1⟩ := PS.out k hlt
      have eq : R[k]?.getD (0, 0) = R[k] := by simp [hlt]
      rw [eq] at c0 c1 d0 d1
      obtain ⟨i1, i2⟩ := once_place OR.out hlt
      obtain ⟨wa, _⟩ := KR.out _ (List.getElem_mem hlt)
      have I1 := Lib.hid i1
      have I2 := Lib.hid i2
      have WA := Lib.hid wa
      clear eq i1 i2 wa
      generalize R[k].1 = ra at *
      generalize R[k].2 = rv at *
      go_wp2_with fail
      refine (Was_any _ g F8 R W ra WA.out (H13.out.o.l.look ((Chg.refl [] w13).drewN n))).mono ?_
      rintro e w' ⟨rfl, rfl⟩
      rw [I1.out, I2.out]
      go_wp2_with fail
      go_quiet (fail)
      go_wp2_with fail
      go_roundw
      case rel => exact ⟨k + 1, by omega, by go_num, _, rfl⟩
      case measure => simp [intOf]; omega
    · obtain rfl : k = R.length := by omega
      go_wp2_with fail
      go_loopw [15] (fun i wr => ∃ k : Nat, k ≤ W.length ∧ i = .int .i64 k ∧ ∃ n, wr = w13.drewN n) (fun i _ => W.length - (intOf i).toNat)
      case atStart => exact ⟨0, Nat.zero_le _, rfl, n, rfl⟩
      case round =>
        clear hlt hk
        rename_i n0 _ _ _
        obtain ⟨k, hk, rfl, n, rfl⟩ := hrel
        by_cases hlt : k < W.length
        · obtain ⟨b, rfl, _, c0, c1⟩ := PW.out k hlt
          obtain ⟨c, rfl, _, d0, d1⟩ := PX.out k hlt
          have eq : W[k]?.getD (0, 0) = W[k] := by simp [hlt]
          rw [eq] at c0 c1 d0 d1
          obtain ⟨i1, i2⟩ := once_place OW.out hlt
          obtain ⟨wa, _⟩ := KW.out _ (List.getElem_mem hlt)
          have I1 := Lib.hid i1
          have I2 := Lib.hid i2
          have WA := Lib.hid wa
          clear eq i1 i2 wa
          generalize W[k].1 = ra at *
          generalize W[k].2 = rv at *
          go_wp2_with fail
          refine (Look_any _ h G9 R W ra WA.out (H13.out.l.look ((Chg.refl [] w13).drewN n))).mono ?_
          rintro e w' ⟨rfl, rfl⟩
          rw [I1.out, I2.out]
          go_wp2_with fail
          go_quiet (fail)
          go_wp2_with fail
          go_roundw
          case rel => exact ⟨k + 1, by omega, by go_num, _, rfl⟩
          case measure => simp [intOf]; omega
        · obtain rfl : k = W.length := by omega
          go_wp2_with fail
          go_ret
          exact ⟨rfl, H13.out.stay.trans (((Chg.refl [] w13).drewN n).nil_below.mono H13.out.stay.size)⟩

set_option maxRecDepth 100000 in
set_option maxHeartbeats 2000000 in
theorem LogCleared_any (w : World) (A A2 : Option Addr) (cap cap2 : Nat) (xs ys : List OpV) (hR : Rd w w.heap.size A 4 encOpV xs) (hR2 : Rd w w.heap.size A2 4 encOpV ys)
    (hok : ∀ o ∈ xs, (Lit.int .i64 o.a).wf = true ∧ (Lit.int .u64 o.v).wf = true) (hok2 : ∀ o ∈ ys, (Lit.int .i64 o.a).wf = true ∧ (Lit.int .u64 o.v).wf = true) :
    Calls Try.prog 4 #[.slice A xs.length cap, .slice A2 ys.length cap2] w (StaysPost w) := by
  by_cases hlen : 1000 < xs.length
  · have hl' : (1000 : Int) < xs.length := by omega
    go_enter Try.func4, Try.ntmps4
    go_wp2_with fail
    refine (alive_any _).mono ?_
    rintro e w1 ⟨rfl, h1⟩
    go_wp2_with fail
    go_ret
    exact ⟨rfl, h1⟩
  by_cases hlen2 : 1000 < ys.length
  · have hl' : (xs.length : Int) ≤ 1000 := by omega
    have hl2' : (1000 : Int) < ys.length := by omega
    go_enter Try.func4, Try.ntmps4
    go_wp2_with fail
    refine (alive_any _).mono ?_
    rintro e w1 ⟨rfl, h1⟩
    go_wp2_with fail
    go_ret
    exact ⟨rfl, h1⟩
  exact LogCleared_ok w A A2 cap cap2 xs ys hR hR2 (by omega) (by omega) hok hok2

end Go.Proofs.Ytobpknbnfkjnhaa
