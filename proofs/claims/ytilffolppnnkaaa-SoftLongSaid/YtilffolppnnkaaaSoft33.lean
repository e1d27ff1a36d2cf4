/- SoftPlays: whatever is called, a path answers, and stands, as the document says. -/
import Derived.Test.YtilffolppnnkaaaSoft32
import Derived.Carry
namespace Go.Proofs.Ytilffolppnnkaaa
set_option maxRecDepth 100000
open Go.RowKit

set_option maxHeartbeats 2000000 in
theorem same_any (w : World) (p d m c : Nat) (F : List Nat) (s : PS) (h : PL) (hD : Duo w p F s d s m c h) :
    Calls Try.prog 30 #[.pointer (some ⟨p, 0, none⟩), .pointer (some ⟨d, 0, none⟩)] w fun e w' => e = .returned (.bool true) ∧ Chg [] w w' := by
  have H0 := Lib.hid hD
  have HOk := Lib.hid hD.T.ok
  have HPr := Lib.hid hD.T.path.pairs
  clear hD
  go_enter Try.func30, Try.ntmps30
  go_wp2_with fail
  refine (Want_any _ p F s H0.out.T.path).mono ?_
  rintro e w1 ⟨rfl, hp1, hC1⟩
  have hX1 := hC1.trans ((Chg.refl [] w1).alloc (.cells #[.int .i64 s.want.op, .int .i64 s.want.addr, .int .u64 s.want.val, .int .u64 s.want.old] 49))
  have H1 := Lib.hid (H0.out.look hX1)
  have HX1 := Lib.hid hX1
  have HB1 := Lib.hid (Blk.new w1 [.int .i64 s.want.op, .int .i64 s.want.addr, .int .u64 s.want.val, .int .u64 s.want.old] 49)
  clear hp1 hC1 hX1
  unfold Rq.val'
  go_wp2_with fail
  refine (dWant_any _ _ d s HOk.out HPr.out.1 HPr.out.2.1 H1.out.D).mono ?_
  rintro e w2 ⟨rfl, hC2⟩
  have hX2 := hC2.trans ((Chg.refl [] w2).alloc (.cells #[.int .i64 s.want.op, .int .i64 s.want.addr, .int .u64 s.want.val, .int .u64 s.want.old] 49))
  have H2 := Lib.hid (H1.out.look hX2)
  have HX2 := Lib.hid (HX1.out.trans hX2)
  have HB2 := Lib.hid (hX2.blk HB1.out (by simp))
  obtain ⟨W0, hW0⟩ : ∃ W0, W0 = (w2.alloc (.cells #[.int .i64 s.want.op, .int .i64 s.want.addr, .int .u64 s.want.val, .int .u64 s.want.old] 49)).drew := ⟨_, rfl⟩
  have HZ : Hid (Chg [] w W0) := Lib.hid (hW0 ▸ (HX2.out.trans ((Chg.refl [] _).drew)))
  have H3 : Hid (Duo W0 p F s d s m c h) := Lib.hid (hW0 ▸ (H2.out.look ((Chg.refl [] _).drew)))
  obtain ⟨x, r, u, h1, h2, hb, hF, hG, hp⟩ := H3.out.D
  have hi := hp.idle
  have hz : (x.at_ != 0) = s.busy := by
    show _ = s.ph.busy
    cases hbz : s.ph.busy with
    | true => simpa using hi.2 hbz
    | false => simpa using hi.1 hbz
  have QBusy : Hid (Calls Try.prog 26 #[.pointer (some ⟨p, 0, none⟩)] W0 fun e w'' => e = .returned (.bool s.busy) ∧ w'' = W0) := Lib.hid ((Busy_any W0 p F s H3.out.T.path).mono fun _ _ hh => ⟨hh.1, hh.2.symm⟩)
  have QLive : Hid (Calls Try.prog 21 #[.pointer (some ⟨p, 0, none⟩)] W0 fun e w'' => e = .returned (.bool s.live) ∧ w'' = W0) := Lib.hid ((Live_any W0 p F s H3.out.T.path).mono fun _ _ hh => ⟨hh.1, hh.2.symm⟩)
  have QWriting : Hid (Calls Try.prog 31 #[.pointer (some ⟨p, 0, none⟩)] W0 fun e w'' => e = .returned (.bool s.writing) ∧ w'' = W0) := Lib.hid ((Writing_any W0 p F s H3.out.T.path).mono fun _ _ hh => ⟨hh.1, hh.2.symm⟩)
  have QValue : Hid (Calls Try.prog 17 #[.pointer (some ⟨p, 0, none⟩)] W0 fun e w'' => e = .returned (.int .u64 s.value) ∧ w'' = W0) := Lib.hid ((SValue_any W0 p F s H3.out.T.path).mono fun _ _ hh => ⟨hh.1, hh.2.symm⟩)
  have QEnded : Hid (Calls Try.prog 20 #[.pointer (some ⟨p, 0, none⟩)] W0 fun e w'' => e = .returned (.int .i64 s.ended) ∧ w'' = W0) := Lib.hid ((Ended_any W0 p F s H3.out.T.path).mono fun _ _ hh => ⟨hh.1, hh.2.symm⟩)
  have QPoints : Hid (Calls Try.prog 27 #[.pointer (some ⟨p, 0, none⟩)] W0 fun e w'' => e = .returned (.int .i64 s.points) ∧ w'' = W0) := Lib.hid ((Points_any W0 p F s H3.out.T.path).mono fun _ _ hh => ⟨hh.1, hh.2.symm⟩)
  have hb' := hb
  rw [hW0] at hb'
  clear hC2 hX2 h1 h2 hF hG hp hi
  unfold Rq.val'
  go_wp2_with fail
  refine wp_region_still_tail 66 (by kernel_rfl) (by kernel_rfl) ?_
  simp only [List.append_eq, List.cons_append, List.nil_append, List.take_succ_cons, List.take_zero, List.drop_succ_cons, List.drop_zero]
  have q0 := HB2.out.drew.cell 0
  have q1 := HB2.out.drew.cell 1
  have q2 := HB2.out.drew.cell 2
  have q3 := HB2.out.drew.cell 3
  have z := Blk.new w2 [.int .i64 s.want.op, .int .i64 s.want.addr, .int .u64 s.want.val, .int .u64 s.want.old] 49
  have r0 := z.drew.cell 0
  have r1 := z.drew.cell 1
  have r2 := z.drew.cell 2
  have r3 := z.drew.cell 3
  simp only [List.getElem?_cons_zero, List.getElem?_cons_succ] at q0 q1 q2 q3 r0 r1 r2 r3
  clear z hb'
  have dc0 : (W0).cell? ⟨d, 0, none⟩ = some (.int .i64 x.at_) := (hb).cell 0; have df0 : (W0).frozen? ⟨d, 0, none⟩ = false := (hb).free 0; have dc1 : (W0).cell? ⟨d, 1, none⟩ = some (.int .u64 x.n) := (hb).cell 1; have df1 : (W0).frozen? ⟨d, 1, none⟩ = false := (hb).free 1; have dc2 : (W0).cell? ⟨d, 2, none⟩ = some (.int .i64 x.a) := (hb).cell 2; have df2 : (W0).frozen? ⟨d, 2, none⟩ = false := (hb).free 2; have dc3 : (W0).cell? ⟨d, 3, none⟩ = some (.int .u64 x.v) := (hb).cell 3; have df3 : (W0).frozen? ⟨d, 3, none⟩ = false := (hb).free 3; have dc4 : (W0).cell? ⟨d, 4, none⟩ = some (.int .u64 x.g) := (hb).cell 4; have df4 : (W0).frozen? ⟨d, 4, none⟩ = false := (hb).free 4; have dc5 : (W0).cell? ⟨d, 5, none⟩ = some (.int .i64 x.i) := (hb).cell 5; have df5 : (W0).frozen? ⟨d, 5, none⟩ = false := (hb).free 5; have dc6 : (W0).cell? ⟨d, 6, none⟩ = some (.int .i64 x.to) := (hb).cell 6; have df6 : (W0).frozen? ⟨d, 6, none⟩ = false := (hb).free 6; have dc7 : (W0).cell? ⟨d, 7, none⟩ = some (.int .i64 x.how) := (hb).cell 7; have df7 : (W0).frozen? ⟨d, 7, none⟩ = false := (hb).free 7; have dc8 : (W0).cell? ⟨d, 8, none⟩ = some (.int .u64 s.snap) := (hb).cell 8; have df8 : (W0).frozen? ⟨d, 8, none⟩ = false := (hb).free 8; have dc9 : (W0).cell? ⟨d, 9, none⟩ = some (.int .u64 s.value) := (hb).cell 9; have df9 : (W0).frozen? ⟨d, 9, none⟩ = false := (hb).free 9; have dc10 : (W0).cell? ⟨d, 10, none⟩ = some (r.val) := (hb).cell 10; have df10 : (W0).frozen? ⟨d, 10, none⟩ = false := (hb).free 10; have dc11 : (W0).cell? ⟨d, 11, none⟩ = some (u.val) := (hb).cell 11; have df11 : (W0).frozen? ⟨d, 11, none⟩ = false := (hb).free 11; have dc12 : (W0).cell? ⟨d, 12, none⟩ = some (.bool s.live) := (hb).cell 12; have df12 : (W0).frozen? ⟨d, 12, none⟩ = false := (hb).free 12; have dc13 : (W0).cell? ⟨d, 13, none⟩ = some (.bool s.writing) := (hb).cell 13; have df13 : (W0).frozen? ⟨d, 13, none⟩ = false := (hb).free 13; have dc14 : (W0).cell? ⟨d, 14, none⟩ = some (.int .i64 s.ended) := (hb).cell 14; have df14 : (W0).frozen? ⟨d, 14, none⟩ = false := (hb).free 14; have dc15 : (W0).cell? ⟨d, 15, none⟩ = some (.int .i64 s.points) := (hb).cell 15; have df15 : (W0).frozen? ⟨d, 15, none⟩ = false := (hb).free 15
  change wpStill _ _ (w2.alloc (.cells #[.int .i64 s.want.op, .int .i64 s.want.addr, .int .u64 s.want.val, .int .u64 s.want.old] 49)).drew _ _ _
  rw [← hW0] at q0 q1 q2 q3 r0 r1 r2 r3 ⊢
  have HW0 := Lib.hid hW0
  clear hb hW0
  repeat still_step
  still_call (QBusy.out)
  repeat still_step
  still_call (QLive.out)
  repeat still_step
  still_call (QWriting.out)
  repeat still_step
  still_call (QValue.out)
  repeat still_step
  still_call (QEnded.out)
  repeat still_step
  still_call (QPoints.out)
  repeat still_step
  refine wpStill_nil ?_
  have hW0 := HW0.out
  change wpList _ _ _ _ _ (w2.alloc (.cells #[.int .i64 s.want.op, .int .i64 s.want.addr, .int .u64 s.want.val, .int .u64 s.want.old] 49)).drew
  rw [← hW0]
  clear hW0
  go_wp2_with fail
  refine (lists_any W0 p d m c F s h H3.out).mono ?_
  rintro e w3 ⟨rfl, hC3⟩
  have HC3 := Lib.hid hC3
  clear hC3
  go_wp2_with fail
  go_ret
  exact ⟨rfl, HZ.out.trans HC3.out⟩

abbrev zeroD : List Value := [.int .i64 0, .int .u64 0, .int .i64 0, .int .u64 0, .int .u64 0, .int .i64 0, .int .i64 0, .int .i64 0, .int .u64 0, .int .u64 0, .slice none 0 0, .slice none 0 0, .bool false, .bool false, .int .i64 0, .int .i64 0]
/-- The two at first. -/
theorem duo_new {w w1 : World} {p : Nat} {F : List Nat} (hp : PathAt w1 p F {}) (hM : Mv [] F w w1) :
    Duo ((w1.alloc (.cells zeroD.toArray 60)).alloc (.map #[] 0)) p F {} w1.heap.size {} (w1.heap.size + 1) 0 [] ∧
      Mv [] (w1.heap.size :: (w1.heap.size + 1) :: F) w ((w1.alloc (.cells zeroD.toArray 60)).alloc (.map #[] 0)) := by
  have hC := ((Chg.refl [] w1).alloc (.cells zeroD.toArray 60)).alloc (.map #[] 0)
  have hm := MemAt.new (w1.alloc (.cells zeroD.toArray 60))
  simp only [World.size_alloc] at hm
  have hd : Blk ((w1.alloc (.cells zeroD.toArray 60)).alloc (.map #[] 0)) w1.heap.size zeroD 60 := (Blk.new w1 zeroD _).alloc _
  have hl := hp.lt
  refine ⟨⟨⟨hp.look hC, hm, fun e => by have := hl _ e; omega, trivial⟩, ⟨⟨0, 0, 0, 0, 0, 0, 0, 0⟩, nilP, nilP, rfl, rfl, hd, nilP_fz _ _, nilP_fz _ _, rfl⟩, fun e => ?_⟩, ?_⟩
  · rcases List.mem_cons.1 e with e | e
    · omega
    · have := hl _ e; omega
  · refine ⟨hM.chg.trans hC, fun x hx => .inr ?_⟩
    have := hM.chg.size
    simp only [List.mem_cons] at hx
    rcases hx with rfl | rfl | hx
    · omega
    · omega
    · exact (hM.new x hx).elim (fun e => by cases e) id

def PlayRel (w : World) (p d m : Nat) (n : Nat) (i : Value) (wr : World) : Prop :=
  ∃ (k : Nat) (F : List Nat) (c : Nat) (s : PS) (h : PL), k ≤ n ∧ i = .int .i64 k ∧ c ≤ k ∧ Duo wr p F s d s m c h ∧ Mv [] (d :: m :: F) w wr

set_option maxHeartbeats 2000000 in
theorem SoftPlays_any (w : World) (A : Option Addr) (cap : Nat) (xs : List OpV) (hok : ∀ o ∈ xs, OpOk o) (hR : Rd w w.heap.size A 4 encOpV xs) :
    Calls Try.prog 6 #[.slice A xs.length cap] w (StaysPost w) := by
  have hmm := @run_makeMap Try.prog
  have HR := Lib.hid hR
  have HO := Lib.hid hok
  clear hR hok
  by_cases hlen : ¬ xs.length ≤ 2000
  · have hl1 : (2000 : Int) < (xs.length : Int) := by omega
    go_enter Try.func6, Try.ntmps6
    go_wp2_with fail
    go_ret
    exact ⟨rfl, Below.refl _ _⟩
  replace hlen : xs.length ≤ 2000 := by omega
  have hl1 : ¬ (2000 : Int) < (xs.length : Int) := by omega
  go_enter Try.func6, Try.ntmps6
  go_wp2_with fail
  refine (SNew_e w).mono ?_
  rintro e w1 ⟨p, F0, rfl, hp, hM⟩
  have hDM := duo_new hp hM
  have HD0 := Lib.hid hDM.1
  have HM0 := Lib.hid hDM.2
  clear hp hM hDM
  go_wp2_with fail
  obtain ⟨d, hd⟩ : ∃ d, w1.heap.size = d := ⟨_, rfl⟩
  obtain ⟨m, hm⟩ : ∃ m, d + 1 = m := ⟨_, rfl⟩
  rw [hd, hm] at HD0 HM0
  simp only [hd, hm]
  go_loopw [6] (fun i wr => PlayRel w p d m xs.length i wr) (fun i _ => xs.length - (intOf i).toNat)
  case atStart => exact ⟨0, F0, 0, {}, [], Nat.zero_le _, rfl, Nat.le_refl _, HD0.out, HM0.out⟩
  case round =>
    clear HD0 HM0
    obtain ⟨k, F, c, s, h, hk, rfl, hc, hD, hM⟩ := hrel
    have HD := Lib.hid hD
    have HM := Lib.hid hM
    have HC := Lib.hid hc
    clear hD hM hc
    by_cases hlt : k < xs.length
    · have hR := HR.out.keep (Nat.le_refl _) HM.out.chg (by simp)
      obtain ⟨bi, off, rfl, hbb, hcell⟩ := hR (by omega)
      have c0 : wr.cell? ⟨bi, off + k * 4, none⟩ = some (.int .i64 xs[k].k) := hcell k hlt 0 (by decide)
      have c1 : wr.cell? ⟨bi, off + k * 4 + 1, none⟩ = some (.int .i64 xs[k].a) := hcell k hlt 1 (by decide)
      have c2 : wr.cell? ⟨bi, off + k * 4 + 2, none⟩ = some (.int .u64 xs[k].v) := hcell k hlt 2 (by decide)
      have c3 : wr.cell? ⟨bi, off + k * 4 + 3, none⟩ = some (.bool xs[k].ok) := hcell k hlt 3 (by decide)
      have HQ := Lib.hid (HO.out xs[k] (List.getElem_mem hlt))
      have HK := Lib.hid (And.intro hk (And.intro hlt hlen))
      have hkl : (k : Int) < xs.length := by omega
      have hx2 : (xs.length : Int) ≤ 2000 := by omega
      clear hcell hR hk hlen hl1 hbb
      generalize xs[k] = o at *
      go_wp2_with fail
      refine (do_any wr p d m c F s h o HD.out HQ.out (by have := HC.out; have := HK.out; omega)).mono ?_
      rintro e w2 ⟨rfl, F2, c2', hc2, hD2, hM2⟩
      have HD2 := Lib.hid hD2
      have HM2 := Lib.hid (HM.out.trans hM2)
      have HC2 := Lib.hid hc2
      clear hc2 hD2 hM2
      go_wp2_with fail
      go_roundw
      case rel => exact ⟨k + 1, F2, c2', _, _, by have := HK.out; omega, by go_num, by have := HC.out; have := HC2.out; omega, HD2.out, HM2.out⟩
      case measure => have := HK.out; simp [intOf]; omega
    · have hkl : ¬ ((k : Int) < xs.length) := by omega
      clear hlt
      go_wp2_with fail
      refine (same_any wr p d m c F s h HD.out).mono ?_
      rintro e w2 ⟨rfl, hC2⟩
      have HC2 := Lib.hid hC2
      clear hC2
      go_wp2_with fail
      go_ret
      exact ⟨rfl, (HM.out.chg.trans HC2.out).nil_below⟩

end Go.Proofs.Ytilffolppnnkaaa
