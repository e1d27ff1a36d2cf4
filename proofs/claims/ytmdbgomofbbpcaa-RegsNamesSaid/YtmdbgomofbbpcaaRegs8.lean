/- RegsPlays and RegsTwo: files stand as the document's do. -/
import Derived.Test.YtmdbgomofbbpcaaRegs7
namespace Go.Proofs.Ytmdbgomofbbpcaa
open Go.RowKit

theorem refNew (w : World) : RefAt (w.alloc (.cells #[.int .u64 0, .int .u64 0, .int .u64 0, .int .u64 0, .int .u64 0, .int .u64 0, .int .u64 0, .int .u64 0, .int .i64 0, .bool false, .int .u64 0, .int .u64 0, .int .u64 0, .int .u64 0, .int .u64 0, .int .u64 0, .int .u64 0, .int .u64 0, .int .i64 0] 29)) w.heap.size fNew :=
  ⟨RF.Ok.new, Blk.new w _ _⟩

structure PairAt (w wr : World) (a b : Nat) (F : RF) : Prop where
  f : FileAt wr a F
  r : RefAt wr b F
  ne : a ≠ b
  la : w.heap.size ≤ a
  lb : w.heap.size ≤ b
  bel : Below w.heap.size w wr

theorem PairAt.did {w wr w' : World} {a b : Nat} {F : RF} {k n v : Int} (h : PairAt w wr a b F) (h1 : FileAt w' a (fDo F k n v)) (h2 : RefAt w' b (fDo F k n v)) (h3 : Chg [a, b] wr w') : PairAt w w' a b (fDo F k n v) :=
  ⟨h1, h2, h.ne, h.la, h.lb, below_chg h.bel h3 (by intro x hx; have := h.la; have := h.lb; simp at hx; omega) (Nat.le_refl _)⟩

set_option maxRecDepth 100000 in
set_option maxHeartbeats 1000000 in
theorem RegsPlays_any (w : World) (A : Option Addr) (cap : Nat) (xs : List (Int × Int × Int)) (hR : Rd w w.heap.size A 3 encOp xs) (hxs : ∀ p ∈ xs, i64ok p.2.1) :
    Calls Try.prog 3 #[.slice A xs.length cap] w (StaysPost w) := by
  by_cases hlen : 1000 < xs.length
  · have hl' : (1000 : Int) < xs.length := by omega
    go_enter Try.func3, Try.ntmps3
    go_wp2_with fail
    go_ret
    exact ⟨rfl, Below.refl _ _⟩
  · have hl' : (xs.length : Int) ≤ 1000 := by omega
    have HX := Lib.hid hxs
    clear hxs
    go_enter Try.func3, Try.ntmps3
    go_wp2_with fail
    refine (New_any w).mono ?_
    rintro e w1 ⟨rfl, hF1, hC1, -⟩
    go_wp2_with fail
    have hl1 := hF1.lt
    have hP : PairAt w _ w.heap.size w1.heap.size fNew := ⟨hF1.alloc _, refNew w1, by omega, Nat.le_refl _, by omega, (hC1.alloc _).nil_below⟩
    clear hF1 hC1 hl1
    generalize w1.alloc _ = w2 at *
    obtain ⟨a, ha⟩ : ∃ a, a = w.heap.size := ⟨_, rfl⟩
    rw [← ha] at hP ⊢
    clear ha
    generalize w1.heap.size = b at *
    go_loopw [5] (fun i wr => ∃ k : Nat, k ≤ xs.length ∧ i = .int .i64 k ∧ ∃ F, PairAt w wr a b F) (fun i _ => xs.length - (intOf i).toNat)
    case atStart => exact ⟨0, Nat.zero_le _, rfl, _, hP⟩
    case round =>
      obtain ⟨k, hk, rfl, F, hP⟩ := hrel
      by_cases hlt : k < xs.length
      · obtain ⟨bb, off, rfl, hbb, hc⟩ := hR.below hP.bel (by omega)
        have hp := HX.out _ (List.getElem_mem hlt)
        obtain ⟨_, hn⟩ := hp
        have c0 : wr.cell? ⟨bb, off + k * 3, none⟩ = some (.int .i64 xs[k].1) := hc k hlt 0 (by decide)
        have c1 : wr.cell? ⟨bb, off + k * 3 + 1, none⟩ = some (.int .i64 xs[k].2.1) := hc k hlt 1 (by decide)
        have c2 : wr.cell? ⟨bb, off + k * 3 + 2, none⟩ = some (.int .u64 xs[k].2.2) := hc k hlt 2 (by decide)
        clear hc
        go_wp2_with fail
        refine (do_any _ a b F _ _ _ hn hP.f hP.r hP.ne).mono ?_
        rintro e w3 ⟨rfl, h1, h2, h3⟩
        go_wp2_with fail
        go_roundw
        case rel => exact ⟨k + 1, by omega, by go_num, _, hP.did h1 h2 h3⟩
        case measure => simp [intOf]; omega
      · obtain rfl : k = xs.length := by omega
        go_wp2_with fail
        refine (same_any _ a b F hP.f hP.r).mono ?_
        rintro e w3 ⟨rfl, hC3⟩
        go_wp2_with fail
        go_ret
        exact ⟨rfl, hP.bel.trans (hC3.to_below (by simp) hP.bel.size)⟩

/-- Two pairs. -/
structure TwoAt (w wr : World) (a b c d : Nat) (F G : RF) : Prop where
  p : PairAt w wr a b F
  q : PairAt w wr c d G
  ac : a ≠ c
  bd : b ≠ d

theorem TwoAt.ad {w wr : World} {a b c d : Nat} {F G : RF} (h : TwoAt w wr a b c d F G) : a ≠ d := by
  obtain ⟨_, k⟩ := h.p.f.block
  exact k.ne h.q.r.blk (by decide)
theorem TwoAt.cb {w wr : World} {a b c d : Nat} {F G : RF} (h : TwoAt w wr a b c d F G) : c ≠ b := by
  obtain ⟨_, k⟩ := h.q.f.block
  exact k.ne h.p.r.blk (by decide)

theorem PairAt.other {w wr w' : World} {a b c d : Nat} {F G : RF} (h : PairAt w wr a b F) (hq : PairAt w wr c d G) (h3 : Chg [c, d] wr w') (hac : a ≠ c) (had : a ≠ d) (hbc : b ≠ c) (hbd : b ≠ d) : PairAt w w' a b F := by
  obtain ⟨_, kc⟩ := hq.f.block
  have kd := hq.r.blk
  refine ⟨h.f.chg h3 (by simp [hac, had]) ?_, h.r.chg h3 (by simp [hbc, hbd]), h.ne, h.la, h.lb, below_chg h.bel h3 (by intro x hx; have := hq.la; have := hq.lb; simp at hx; omega) (Nat.le_refl _)⟩
  intro x hx cs hx'
  simp at hx
  rcases hx with rfl | rfl
  · exact absurd (kc.inj hx').2 (by decide)
  · exact absurd (kd.inj hx').2 (by decide)

theorem TwoAt.did1 {w wr w' : World} {a b c d : Nat} {F G : RF} {k n v : Int} (h : TwoAt w wr a b c d F G) (h1 : FileAt w' a (fDo F k n v)) (h2 : RefAt w' b (fDo F k n v)) (h3 : Chg [a, b] wr w') : TwoAt w w' a b c d (fDo F k n v) G :=
  ⟨h.p.did h1 h2 h3, h.q.other h.p h3 h.ac.symm h.cb h.ad.symm h.bd.symm, h.ac, h.bd⟩
theorem TwoAt.did2 {w wr w' : World} {a b c d : Nat} {F G : RF} {k n v : Int} (h : TwoAt w wr a b c d F G) (h1 : FileAt w' c (fDo G k n v)) (h2 : RefAt w' d (fDo G k n v)) (h3 : Chg [c, d] wr w') : TwoAt w w' a b c d F (fDo G k n v) :=
  ⟨h.p.other h.q h3 h.ac h.ad h.cb.symm h.bd, h.q.did h1 h2 h3, h.ac, h.bd⟩

def encBool (b : Bool) : List Value := [.bool b]

set_option maxRecDepth 100000 in
set_option maxHeartbeats 1000000 in
theorem RegsTwo_any (w : World) (A A2 : Option Addr) (cap cap2 : Nat) (xs : List (Int × Int × Int)) (bs : List Bool) (hR : Rd w w.heap.size A 3 encOp xs) (hR2 : Rd w w.heap.size A2 1 encBool bs) (hbs : bs.length ≤ maxLen) (hxs : ∀ p ∈ xs, i64ok p.2.1) :
    Calls Try.prog 4 #[.slice A xs.length cap, .slice A2 bs.length cap2] w (StaysPost w) := by
  by_cases hlen : 1000 < xs.length
  · have hl' : (1000 : Int) < xs.length := by omega
    go_enter Try.func4, Try.ntmps4
    go_wp2_with fail
    go_ret
    exact ⟨rfl, Below.refl _ _⟩
  · have hl' : (xs.length : Int) ≤ 1000 := by omega
    have HX := Lib.hid hxs
    clear hxs
    go_enter Try.func4, Try.ntmps4
    go_wp2_with fail
    refine (New_any w).mono ?_
    rintro e w1 ⟨rfl, hF1, hC1, -⟩
    go_wp2_with fail
    refine (New_any w1).mono ?_
    rintro e w2 ⟨rfl, hF2, hC2, -⟩
    have hF1' := hF1.chg hC2 (by simp) (by simp)
    have hbe := hC1.trans' hC2 (by simp)
    go_wp2_with fail
    have hb4 := ((hbe.alloc (.cells #[.int .u64 0, .int .u64 0, .int .u64 0, .int .u64 0, .int .u64 0, .int .u64 0, .int .u64 0, .int .u64 0, .int .i64 0, .bool false, .int .u64 0, .int .u64 0, .int .u64 0, .int .u64 0, .int .u64 0, .int .u64 0, .int .u64 0, .int .u64 0, .int .i64 0] 29)).alloc (.cells #[.int .u64 0, .int .u64 0, .int .u64 0, .int .u64 0, .int .u64 0, .int .u64 0, .int .u64 0, .int .u64 0, .int .i64 0, .bool false, .int .u64 0, .int .u64 0, .int .u64 0, .int .u64 0, .int .u64 0, .int .u64 0, .int .u64 0, .int .u64 0, .int .i64 0] 29)).nil_below
    have hr4 := refNew (w2.alloc (.cells #[.int .u64 0, .int .u64 0, .int .u64 0, .int .u64 0, .int .u64 0, .int .u64 0, .int .u64 0, .int .u64 0, .int .i64 0, .bool false, .int .u64 0, .int .u64 0, .int .u64 0, .int .u64 0, .int .u64 0, .int .u64 0, .int .u64 0, .int .u64 0, .int .i64 0] 29))
    rw [World.size_alloc] at hr4
    have hl1 := hF1.lt
    have hl2 := hF2.lt
    have hP : TwoAt w _ w.heap.size w2.heap.size w1.heap.size (w2.heap.size + 1) fNew fNew := ⟨⟨(hF1'.alloc _).alloc _, (refNew w2).alloc _, by omega, Nat.le_refl _, by omega, hb4⟩, ⟨(hF2.alloc _).alloc _, hr4, by omega, by omega, by omega, hb4⟩, by omega, by omega⟩
    clear hF1 hF2 hF1' hC1 hC2 hl1 hl2 hbe hb4 hr4
    generalize World.alloc _ _ = w4 at *
    obtain ⟨a, ha⟩ : ∃ a, a = w.heap.size := ⟨_, rfl⟩
    rw [← ha] at hP ⊢
    clear ha
    generalize w2.heap.size + 1 = d at *
    generalize w2.heap.size = b at *
    generalize w1.heap.size = c at *
    go_loopw [9] (fun i wr => ∃ k : Nat, k ≤ xs.length ∧ i = .int .i64 k ∧ ∃ F G, TwoAt w wr a b c d F G) (fun i _ => xs.length - (intOf i).toNat)
    case atStart => exact ⟨0, Nat.zero_le _, rfl, _, _, hP⟩
    case round =>
      obtain ⟨k, hk, rfl, F, G, hP⟩ := hrel
      by_cases hlt : k < xs.length
      · obtain ⟨bb, off, rfl, hbb, hc⟩ := hR.below hP.p.bel (by omega)
        have hp := HX.out _ (List.getElem_mem hlt)
        obtain ⟨_, hn⟩ := hp
        have c0 : wr.cell? ⟨bb, off + k * 3, none⟩ = some (.int .i64 xs[k].1) := hc k hlt 0 (by decide)
        have c1 : wr.cell? ⟨bb, off + k * 3 + 1, none⟩ = some (.int .i64 xs[k].2.1) := hc k hlt 1 (by decide)
        have c2 : wr.cell? ⟨bb, off + k * 3 + 2, none⟩ = some (.int .u64 xs[k].2.2) := hc k hlt 2 (by decide)
        clear hc
        by_cases hin : k < bs.length
        · obtain ⟨b2, off2, rfl, hb2, hd⟩ := hR2.below hP.p.bel (by omega)
          have d0 : wr.cell? ⟨b2, off2 + k, none⟩ = some (.bool bs[k]) := by have := hd k hin 0 (by decide); simpa [encBool] using this
          clear hd
          generalize hbk : bs[k] = bk at *
          clear hbk
          cases bk with
          | true =>
            go_wp2_with fail
            refine (do_any _ c d G _ _ _ hn hP.q.f hP.q.r hP.q.ne).mono ?_
            rintro e w3 ⟨rfl, h1, h2, h3⟩
            go_wp2_with fail
            go_roundw
            case rel => exact ⟨k + 1, by omega, by go_num, _, _, hP.did2 h1 h2 h3⟩
            case measure => simp [intOf]; omega
          | false =>
            go_wp2_with fail
            refine (do_any _ a b F _ _ _ hn hP.p.f hP.p.r hP.p.ne).mono ?_
            rintro e w3 ⟨rfl, h1, h2, h3⟩
            go_wp2_with fail
            go_roundw
            case rel => exact ⟨k + 1, by omega, by go_num, _, _, hP.did1 h1 h2 h3⟩
            case measure => simp [intOf]; omega
        · go_wp2_with fail
          refine (do_any _ a b F _ _ _ hn hP.p.f hP.p.r hP.p.ne).mono ?_
          rintro e w3 ⟨rfl, h1, h2, h3⟩
          go_wp2_with fail
          go_roundw
          case rel => exact ⟨k + 1, by omega, by go_num, _, _, hP.did1 h1 h2 h3⟩
          case measure => simp [intOf]; omega
      · obtain rfl : k = xs.length := by omega
        go_wp2_with fail
        refine (same_any _ a b F hP.p.f hP.p.r).mono ?_
        rintro e w3 ⟨rfl, hC3⟩
        go_wp2_with fail
        refine (same_any _ c d G (hP.q.f.chg hC3 (by simp) (by simp)) (hP.q.r.chg hC3 (by simp))).mono ?_
        rintro e w4 ⟨rfl, hC4⟩
        go_wp2_with fail
        go_ret
        exact ⟨rfl, hP.p.bel.trans ((hC3.trans hC4).to_below (by simp) hP.p.bel.size)⟩

end Go.Proofs.Ytmdbgomofbbpcaa
