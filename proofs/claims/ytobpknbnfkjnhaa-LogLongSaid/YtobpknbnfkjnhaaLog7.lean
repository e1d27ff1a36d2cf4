/- The outright laws' helpers: play, alive. -/
import Derived.Test.YtobpknbnfkjnhaaLog6
import Derived.Test.YtobpknbnfkjnhaaOpen
namespace Go.Proofs.Ytobpknbnfkjnhaa
open Go.RowKit

/-- A call. -/
structure OpV where
  k : Int
  a : Int
  v : Int
  nA : Option Addr
  ncap : Nat
  now : PL
def encOpV (o : OpV) : List Value := [.int .i64 o.k, .int .i64 o.a, .int .u64 o.v, .slice o.nA o.now.length o.ncap]
def OpOk (w : World) (o : OpV) : Prop := (Lit.int .i64 o.a).wf = true ∧ (Lit.int .u64 o.v).wf = true ∧ o.now.length ≤ maxLen ∧ PairsOk o.now ∧ NRd w o.nA w.heap.size o.now

abbrev RW := PL × PL
def opStep (s : RW) (o : OpV) : RW := if o.k = 0 then (rdL s.1 o.a o.v, s.2) else if o.k = 1 then (s.1, wrL s.2 o.a o.v) else if o.k = 2 then ([], []) else s
def opPlay (s : RW) (xs : List OpV) : RW := xs.foldl opStep s
theorem opPlay_succ (s : RW) (xs : List OpV) {k : Nat} (h : k < xs.length) : opPlay s (xs.take (k + 1)) = opStep (opPlay s (xs.take k)) xs[k] := by
  simp only [opPlay]
  rw [List.take_succ_eq_append_getElem h, List.foldl_append]
  rfl

theorem Mv.below {F F' : List Nat} {B : Nat} {w w' : World} (h : Mv F F' w w') (hF : ∀ x ∈ F, B ≤ x) (hB : B ≤ w.heap.size) : Below B w w' := h.chg.to_below hF hB
theorem Mv.ge {F F' : List Nat} {B : Nat} {w w' : World} (h : Mv F F' w w') (hF : ∀ x ∈ F, B ≤ x) (hB : B ≤ w.heap.size) : ∀ x ∈ F', B ≤ x := fun x hx => (h.new x hx).elim (hF x) (Nat.le_trans hB)

/-- A log made since the law began. -/
structure OwnLog (B : Nat) (w wr : World) (g : Nat) (F : List Nat) (s : RW) : Prop where
  l : LogAt wr g F s.1 s.2
  ge : ∀ x ∈ F, B ≤ x
  bel : Below B w wr
  le : B ≤ w.heap.size
theorem OwnLog.le' {B : Nat} {w wr : World} {g : Nat} {F : List Nat} {s : RW} (h : OwnLog B w wr g F s) : B ≤ wr.heap.size := Nat.le_trans h.le h.bel.size
theorem OwnLog.did {B : Nat} {w wr w' : World} {g : Nat} {F F' : List Nat} {s t : RW} (h : OwnLog B w wr g F s) (h1 : LogAt w' g F' t.1 t.2) (m : Mv F F' wr w') : OwnLog B w w' g F' t :=
  ⟨h1, m.ge h.ge h.le', h.bel.trans (m.below h.ge h.le'), h.le⟩
theorem OwnLog.look {B : Nat} {w wr w' : World} {g : Nat} {F : List Nat} {s : RW} (h : OwnLog B w wr g F s) (k : Below wr.heap.size wr w') : OwnLog B w w' g F s :=
  ⟨h.l.look (Chg.of_below k []), h.ge, h.bel.trans (k.mono h.le'), h.le⟩

def PlayPost (w wr : World) (B g : Nat) (F : List Nat) (s : RW) (e : Ending) (w' : World) : Prop := e = .returned (.tuple #[]) ∧ ∃ F', OwnLog B w w' g F' s ∧ Mv F F' wr w'

set_option maxRecDepth 100000 in
set_option maxHeartbeats 2000000 in
theorem play_any (B : Nat) (w wq : World) (g : Nat) (F : List Nat) (s : RW) (A : Option Addr) (cap : Nat) (xs : List OpV) (hR : Rd wq B A 4 encOpV xs) (hl : xs.length ≤ 1000) (hok : ∀ o ∈ xs, (Lit.int .i64 o.a).wf = true ∧ (Lit.int .u64 o.v).wf = true) (h : OwnLog B w wq g F s) :
    Calls Try.prog 12 #[.pointer (some ⟨g, 0, none⟩), .slice A xs.length cap] wq (PlayPost w wq B g F (opPlay s xs)) := by
  have H0 := Lib.hid h
  clear h
  go_enter Try.func12, Try.ntmps12
  go_wp2_with fail
  go_loopw [4] (fun i wr => ∃ k : Nat, k ≤ xs.length ∧ i = .int .i64 k ∧ ∃ G, OwnLog B w wr g G (opPlay s (xs.take k)) ∧ Mv F G wq wr ∧ Rd wr B A 4 encOpV xs) (fun i _ => xs.length - (intOf i).toNat)
  case atStart => exact ⟨0, Nat.zero_le _, rfl, F, H0.out, Mv.refl _ _, hR⟩
  case round =>
    clear hR H0
    obtain ⟨k, hk, rfl, G, hO, hM, hR⟩ := hrel
    by_cases hlt : k < xs.length
    · obtain ⟨bi, off, rfl, hbb, hc⟩ := hR (by omega)
      have HR := Lib.hid hR
      have c0 : wr.cell? ⟨bi, off + k * 4, none⟩ = some (.int .i64 xs[k].k) := hc k hlt 0 (by decide)
      have c1 : wr.cell? ⟨bi, off + k * 4 + 1, none⟩ = some (.int .i64 xs[k].a) := hc k hlt 1 (by decide)
      have c2 : wr.cell? ⟨bi, off + k * 4 + 2, none⟩ = some (.int .u64 xs[k].v) := hc k hlt 2 (by decide)
      obtain ⟨wa, wv⟩ := hok _ (List.getElem_mem hlt)
      have HS := Lib.hid (opPlay_succ s xs hlt)
      have HO := Lib.hid hO
      have HM := Lib.hid hM
      have WA := Lib.hid wa
      have WV := Lib.hid wv
      clear hc hR hO hM wa wv hok
      have eS : ∀ t, opStep t xs[k] = (if xs[k].k = 0 then (rdL t.1 xs[k].a xs[k].v, t.2) else if xs[k].k = 1 then (t.1, wrL t.2 xs[k].a xs[k].v) else if xs[k].k = 2 then ([], []) else t) := fun _ => rfl
      rw [eS] at HS
      clear eS
      generalize xs[k].k = kk at *
      generalize xs[k].a = aa at *
      generalize xs[k].v = vv at *
      generalize opPlay s (xs.take k) = t at *
      by_cases q0 : kk = 0
      · subst q0
        rw [if_pos rfl] at HS
        go_wp2_with fail
        go_still_tail 11, (by kernel_rfl)
        go_wp2_with fail
        refine (Read_any _ g G t.1 t.2 aa vv WA.out WV.out (HO.out.l.look ((Chg.refl [] wr).drewN 1))).mono ?_
        rintro e w2 ⟨rfl, G', h1, h2⟩
        have hO' : OwnLog B w w2 g G' (rdL t.1 aa vv, t.2) := (HO.out.look ((Chg.refl [] wr).drewN 1).nil_below).did h1 h2
        have hb := (((Chg.refl [] wr).drewN 1).nil_below.mono HO.out.le').trans (h2.below HO.out.ge HO.out.le')
        have HO' := Lib.hid hO'
        have HB := Lib.hid hb
        have H2 := Lib.hid h2
        clear hO' hb h1 h2
        generalize rdErr t.1 aa = re at *
        go_wp2_with fail
        go_roundw
        case rel => exact ⟨k + 1, by omega, by go_num, G', by rw [HS.out]; exact HO'.out, HM.out.trans ((Mv.of_same ((Chg.refl [] wr).drewN 1)).trans H2.out), HR.out.below HB.out⟩
        case measure => simp [intOf]; omega
      by_cases q1 : kk = 1
      · subst q1
        rw [if_neg (by decide), if_pos rfl] at HS
        clear q0
        go_wp2_with fail
        go_still_tail 11, (by kernel_rfl)
        go_wp2_with fail
        refine (Write_any _ g G t.1 t.2 aa vv WA.out WV.out (HO.out.l.look ((Chg.refl [] wr).drewN 1))).mono ?_
        rintro e w2 ⟨rfl, G', h1, h2⟩
        have hO' : OwnLog B w w2 g G' (t.1, wrL t.2 aa vv) := (HO.out.look ((Chg.refl [] wr).drewN 1).nil_below).did h1 h2
        have hb := (((Chg.refl [] wr).drewN 1).nil_below.mono HO.out.le').trans (h2.below HO.out.ge HO.out.le')
        have HO' := Lib.hid hO'
        have HB := Lib.hid hb
        have H2 := Lib.hid h2
        clear hO' hb h1 h2
        generalize wrErr t.2 aa = re at *
        go_wp2_with fail
        go_roundw
        case rel => exact ⟨k + 1, by omega, by go_num, G', by rw [HS.out]; exact HO'.out, HM.out.trans ((Mv.of_same ((Chg.refl [] wr).drewN 1)).trans H2.out), HR.out.below HB.out⟩
        case measure => simp [intOf]; omega
      by_cases q2 : kk = 2
      · subst q2
        rw [if_neg (by decide), if_neg (by decide), if_pos rfl] at HS
        clear q0 q1
        go_wp2_with fail
        refine (Clear_any _ g G t.1 t.2 HO.out.l).mono ?_
        rintro e w2 ⟨rfl, G', h1, h2⟩
        have hO' : OwnLog B w w2 g G' ([], []) := HO.out.did h1 h2
        have hb := h2.below HO.out.ge HO.out.le'
        have HO' := Lib.hid hO'
        have HB := Lib.hid hb
        have H2 := Lib.hid h2
        clear hO' hb h1 h2
        go_wp2_with fail
        go_roundw
        case rel => exact ⟨k + 1, by omega, by go_num, G', by rw [HS.out]; exact HO'.out, HM.out.trans H2.out, HR.out.below HB.out⟩
        case measure => simp [intOf]; omega
      have b0 : (kk == 0) = false := by simpa using q0
      have b1 : (kk == 1) = false := by simpa using q1
      have b2 : (kk == 2) = false := by simpa using q2
      rw [if_neg q0, if_neg q1, if_neg q2] at HS
      clear q0 q1 q2
      go_wp2_with fail
      go_roundw
      case rel => exact ⟨k + 1, by omega, by go_num, G, by rw [HS.out]; exact HO.out, HM.out, HR.out⟩
      case measure => simp [intOf]; omega
    · obtain rfl : k = xs.length := by omega
      rw [List.take_length] at hO
      have HO := Lib.hid hO
      have HM := Lib.hid hM
      clear hO hM hok hR
      go_wp2_with fail
      go_end0
      exact ⟨rfl, G, HO.out, HM.out⟩

theorem LogAt.own {w w' : World} {g : Nat} {F : List Nat} (h : LogAt w' g F [] []) (m : Mv [] F w w') : OwnLog w.heap.size w w' g F ([], []) :=
  ⟨h, fun x hx => (m.new x hx).elim (fun e => absurd e (by simp)) id, m.chg.nil_below, Nat.le_refl _⟩

def TruePost (w : World) (e : Ending) (w' : World) : Prop := e = .returned (.bool true) ∧ Below w.heap.size w w'

set_option maxRecDepth 100000 in
set_option maxHeartbeats 2000000 in
theorem alive_any (w : World) : Calls Try.prog 10 #[] w (TruePost w) := by
  go_enter Try.func10, Try.ntmps10
  go_wp2_with fail
  refine (New_any w).mono ?_
  rintro e w1 ⟨g, F, rfl, h1, h2⟩
  have H := Lib.hid (h1.own h2)
  clear h1 h2
  go_wp2_with fail
  refine (Read_any _ g F [] [] 9 5 rfl rfl H.out.l).mono ?_
  rintro e w2 ⟨rfl, F2, h1, h2⟩
  have H2 := Lib.hid (H.out.did (t := ([(9, 5)], [])) h1 h2)
  clear h1 h2
  rw [show rdErr [] 9 = 0 from rfl]
  go_wp2_with fail
  refine (Read_any _ g F2 [(9, 5)] [] 8 6 rfl rfl H2.out.l).mono ?_
  rintro e w3 ⟨rfl, F3, h1, h2⟩
  have H3 := Lib.hid (H2.out.did (t := ([(9, 5), (8, 6)], [])) h1 h2)
  clear h1 h2
  go_wp2_with fail
  refine (Read_any _ g F3 [(9, 5), (8, 6)] [] 9 7 rfl rfl H3.out.l).mono ?_
  rintro e w4 ⟨rfl, F4, h1, h2⟩
  have H4 := Lib.hid (H3.out.did (t := ([(9, 5), (8, 6)], [])) h1 h2)
  clear h1 h2
  rw [show rdErr [(9, 5), (8, 6)] 9 = 0 from rfl]
  go_wp2_with fail
  refine (Write_any _ g F4 [(9, 5), (8, 6)] [] 9 1 rfl rfl H4.out.l).mono ?_
  rintro e w5 ⟨rfl, F5, h1, h2⟩
  have H5 := Lib.hid (H4.out.did (t := ([(9, 5), (8, 6)], [(9, 1)])) h1 h2)
  clear h1 h2
  rw [show wrErr [] 9 = 0 from rfl]
  go_wp2_with fail
  refine (Write_any _ g F5 [(9, 5), (8, 6)] [(9, 1)] 9 3 rfl rfl H5.out.l).mono ?_
  rintro e w6 ⟨rfl, F6, h1, h2⟩
  have H6 := Lib.hid (H5.out.did (t := ([(9, 5), (8, 6)], [(9, 3)])) h1 h2)
  clear h1 h2
  go_wp2_with fail
  refine (Was_any _ g F6 [(9, 5), (8, 6)] [(9, 3)] 9 rfl H6.out.l).mono ?_
  rintro e w7 ⟨rfl, rfl⟩
  rw [show valOf [(9, 5), (8, 6)] 9 = 5 from rfl, show isIn [(9, 5), (8, 6)] 9 = true from rfl]
  go_wp2_with fail
  refine (Look_any _ g F6 [(9, 5), (8, 6)] [(9, 3)] 9 rfl H6.out.l).mono ?_
  rintro e w7 ⟨rfl, rfl⟩
  rw [show valOf [(9, 3)] 9 = 3 from rfl, show isIn [(9, 3)] 9 = true from rfl]
  go_wp2_with fail
  refine (Reads_any _ g F6 [(9, 5), (8, 6)] [(9, 3)] H6.out.l).mono ?_
  rintro e w7 ⟨v, rfl, h1, h2⟩
  obtain ⟨b, cap, cur, rfl, hb, hblk, hcur⟩ := ownsRow_pos h1 (by decide)
  obtain ⟨A', cap', e', _, _, _, hc⟩ := ownsRow_cell h1
  obtain ⟨b', rfl, _, d2, _⟩ := hc 2 (by decide)
  obtain ⟨b'', e'', _, d3, _⟩ := hc 3 (by decide)
  simp only [Value.slice.injEq, Option.some.injEq, Addr.mk.injEq, and_true] at e' e''
  obtain ⟨rfl, _, rfl⟩ := e'
  subst e''
  simp [cellsP, encP] at d2 d3
  have H7 := Lib.hid (H6.out.look h2)
  clear h1 h2 hb hblk hcur hc
  go_wp2_with fail
  go_ret
  exact ⟨rfl, H7.out.bel⟩

end Go.Proofs.Ytobpknbnfkjnhaa
