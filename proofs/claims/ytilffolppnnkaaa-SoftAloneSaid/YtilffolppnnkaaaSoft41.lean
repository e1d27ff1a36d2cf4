/- SoftAlone: the walk. -/
import Derived.Test.YtilffolppnnkaaaSoft42
import Derived.Maps.RangeWalk
import Derived.Deep.CutRange
import Derived.Deep.CutBlock
import Derived.Test.YtilffolppnnkaaaSoft23
import Derived.Test.YtilffolppnnkaaaSoft20
namespace Go.Proofs.Ytilffolppnnkaaa
set_option maxRecDepth 100000
open Go.RowKit

/-- Between two calls. -/
def AloneRel (W w0 : World) (p m u : Nat) (n : Nat) (lv rdv wrv i : Value) (wr : World) : Prop :=
  ∃ (k : Nat) (F : List Nat) (s : PS) (h g rd wt : PL) (r cr b cb : Nat), k ≤ n ∧ i = .int .i64 k ∧ lv = .bool s.live ∧ rdv = .map (some r) ∧ wrv = .map (some b) ∧
    AloneAt wr p F s m 202 h u 202 g r cr rd b cb wt ∧ Al k s h g ∧ (s.live = true → AlL s h rd wt ∧ cr = s.R.length ∧ cb = s.W.length) ∧ s.writing = false ∧
    Chg [] W wr ∧ (∀ x ∈ u :: r :: b :: m :: F, w0.heap.size ≤ x)


theorem MemAt.len {w : World} {m c : Nat} {h : PL} (k : MemAt w m c h) (ty : TypeId) : (Builtin.len_ #[29] ty #[.map (some m)]).run Try.prog w = .ok (.int .i64 c) w := by
  obtain ⟨D, h1, h2, _⟩ := k.map
  have := h1.len Try.underlying29 ty
  rw [h2] at this; exact this
theorem IntsAt.len {w : World} {m c : Nat} {h : PL} (k : IntsAt w m c h) (ty : TypeId) : (Builtin.len_ #[42] ty #[.map (some m)]).run Try.prog w = .ok (.int .i64 c) w := by
  obtain ⟨D, h1, h2, _⟩ := k.map
  have := h1.len Try.underlying42 ty
  rw [h2] at this; exact this
theorem Chg.to_grown {b : Nat} {w w' : World} (h : Chg [b] w w') : w.grownBy w' (some b) := ⟨h.os, h.tape, h.output, h.size, fun i hi hne => h.block i hi (by simp only [List.mem_singleton]; intro e; exact hne (by rw [e]))⟩
theorem Chg.to_grown0 {w w' : World} (h : Chg [] w w') : w.grownBy w' none := ⟨h.os, h.tape, h.output, h.size, fun i hi _ => h.block i hi (by simp)⟩
theorem AloneAt.beside {w w' : World} {p : Nat} {F : List Nat} {s : PS} {m c : Nat} {h : PL} {u d : Nat} {g : PL} {r cr : Nat} {rd : PL} {b cb : Nat} {wr : PL} (K : AloneAt w p F s m c h u d g r cr rd b cb wr) {x : Nat} (hC : Chg [x] w w') (hx : x ∉ u :: r :: b :: m :: F) :
    AloneAt w' p F s m c h u d g r cr rd b cb wr := by
  simp only [List.mem_cons, not_or] at hx
  obtain ⟨h1, h2, h3, h4, h5⟩ := hx
  exact ⟨K.two.chg hC (apart_one (by simp [h4, h5])), K.sh.chg hC (by simp [Ne.symm h1]), K.rdm.chg hC (by simp [Ne.symm h2]), K.wrm.chg hC (by simp [Ne.symm h3]), K.off, K.ne⟩
theorem AloneAt.lt {w : World} {p : Nat} {F : List Nat} {s : PS} {m c : Nat} {h : PL} {u d : Nat} {g : PL} {r cr : Nat} {rd : PL} {b cb : Nat} {wr : PL} (K : AloneAt w p F s m c h u d g r cr rd b cb wr) : ∀ x ∈ u :: r :: b :: m :: F, x < w.heap.size := by
  intro x hx
  simp only [List.mem_cons] at hx
  rcases hx with rfl | rfl | rfl | hx
  · exact K.sh.lt
  · exact K.rdm.lt
  · exact K.wrm.lt
  · exact K.two.lt x (by simpa using hx)

theorem Al.more {i : Nat} {s : PS} {h g : PL} (A : Al i s h g) : Al (i + 1) s h g := ⟨A.ph, A.eq, A.hk, A.gk, A.even, A.zero, by have := A.most; omega, A.one⟩
theorem mv_new {l F F' : List Nat} {w w' : World} {n : Nat} (hM : Mv F F' w w') (hn : n ≤ w.heap.size) (h : ∀ x ∈ l ++ F, n ≤ x) : ∀ x ∈ l ++ F', n ≤ x := fun x hx => by
  rcases List.mem_append.1 hx with e | e
  · exact h x (List.mem_append.2 (.inl e))
  · exact (hM.new x e).elim (fun e => h x (List.mem_append.2 (.inr e))) (fun e => by omega)
theorem mv_not {l F F' : List Nat} {w w' : World} {x : Nat} (hM : Mv F F' w w') (hx : x < w.heap.size) (h : x ∉ l ++ F) : x ∉ l ++ F' := fun e => by
  rcases List.mem_append.1 e with e | e
  · exact h (List.mem_append.2 (.inl e))
  · exact (hM.new x e).elim (fun e => h (List.mem_append.2 (.inr e))) (fun e => by omega)

/-- Is there no room? -/
def fullB (lv own : Bool) (z : Int) (cr cb : Nat) (k : Int) : Bool := lv && (k == 1 && !own && z == 0 && cr == 128 || k == 2 && !own && cb == 128)

/-- Behind the switch. -/
def CutRel (W w0 : World) (p m u j : Nat) (h : PL) (s' : PS) (h' : PL) (fb : Bool) (lv rdv wrv : Value) (wx : World) : Prop :=
  ∃ (F : List Nat) (g rd wt : PL) (r cr b cb : Nat), lv = .bool (s'.live || fb) ∧ rdv = .map (some r) ∧ wrv = .map (some b) ∧
    AloneAt wx p F s' m 202 h' u 202 g r cr rd b cb wt ∧ Came j h s' h' g rd wt cr cb ∧ inH g 1 = true ∧ (fb = true → s'.live = false ∧ s'.ended = 2) ∧ Chg [] W wx ∧ (∀ x ∈ u :: r :: b :: m :: F, w0.heap.size ≤ x)

/-- The range over what was written. -/
def PutLoop (w : World) (p : Nat) (F : List Nat) (s : PS) (m : Nat) (h : PL) (u : Nat) (g : PL) (r cr : Nat) (rd : PL) (b cb : Nat) (wt : PL) (D : DataW Unit) (wr : World) : Prop :=
  ∃ (left : Lit → Bool) (cnt : Nat) (gv : PL), wr.ranges Try.prog 3 (plainElem Try.prog 23) b w.heap.size cb D left cnt ∧ PutRel wt g left gv ∧
    AloneAt wr p F s m 202 h u 202 gv r cr rd b cb wt ∧ Chg [u] w wr
/-- The range over what should be. -/
def SeeLoop (w : World) (p : Nat) (F : List Nat) (s : PS) (m : Nat) (h : PL) (u : Nat) (g : PL) (r cr : Nat) (rd : PL) (b cb : Nat) (wt : PL) (D : DataW Unit) (wr : World) : Prop :=
  ∃ (left : Lit → Bool) (cnt : Nat), wr.ranges Try.prog 3 (plainElem Try.prog 23) u w.heap.size 202 D left cnt ∧ AloneAt wr p F s m 202 h u 202 g r cr rd b cb wt ∧ Chg [] w wr
theorem Chg.of_grown0 {w w' : World} (h : w.grownBy w' none) : Chg [] w w' := ⟨h.os, h.tape, h.output, h.size, fun i hi _ => h.block i hi (by simp)⟩

theorem AloneAt.fresh {w : World} {p : Nat} {F : List Nat} {s : PS} {m c : Nat} {h : PL} {u d : Nat} {g : PL} (T : Two w p F m c s h) (hu : MemAt w u d g) (ho : u ∉ m :: F) :
    AloneAt ((w.alloc (.map #[] 0)).alloc (.map #[] 0)) p F s m c h u d g w.heap.size 0 [] (w.heap.size + 1) 0 [] := by
  have C1 : Chg [] w (w.alloc (.map #[] 0)) := (Chg.refl [] w).alloc _
  have C2 : Chg [] (w.alloc (.map #[] 0)) ((w.alloc (.map #[] 0)).alloc (.map #[] 0)) := (Chg.refl [] _).alloc _
  have hl := hu.lt
  have hF : ∀ x ∈ m :: F, x < w.heap.size := T.lt
  have hs : (w.alloc (.map #[] 0)).heap.size = w.heap.size + 1 := by simp
  have e2 := MemAt.new (w.alloc (.map #[] 0))
  rw [hs] at e2
  exact ⟨T.look (C1.trans C2), hu.chg (C1.trans C2) (by simp), (IntsAt.new w).chg C2 (by simp), e2, ⟨ho, fun e => by have := hF _ e; omega, fun e => by have := hF _ e; omega⟩, by omega, by omega, by omega⟩
theorem Al.first (ws : List Int) (q : Int) (h0 : 0 ≤ q) (h1 : q < 1000) : Al 0 {} (firstH ws q 200) (firstH ws q 200) := by
  have e0 : getH (firstH ws q 200) 0 = q * 2 := by
    rw [getH_first, if_pos rfl]; exact wrap_fit (by omega) (by omega)
  have hk : ∀ a, inH (firstH ws q 200) a = decide (a = 0 ∨ a = 1 ∨ 8 ≤ a ∧ a < 208) := fun a => by rw [inH_first]; rfl
  refine ⟨rfl, fun _ => rfl, hk, hk, by rw [e0]; omega, by rw [e0]; omega, by rw [e0]; omega, ?_⟩
  rw [getH_first]; rfl

set_option maxHeartbeats 4000000 in
theorem SoftAlone_any (w : World) (A : Option Addr) (cap : Nat) (ws : List Int) (seq : Int) (A' : Option Addr) (cap' : Nat) (xs : List OpV) (hws : ∀ y ∈ ws, w64ok y) (hsq : w64ok seq) (hok : ∀ o ∈ xs, OpOk o) (hR : Rd w w.heap.size A 1 encU ws) (hR' : Rd w w.heap.size A' 4 encOpV xs) :
    Calls Try.prog 4 #[.slice A ws.length cap, .int .u64 seq, .slice A' xs.length cap'] w (StaysPost w) := by
  have hmm := @run_makeMap Try.prog
  have HW := Lib.hid hws
  have HS := Lib.hid hsq
  have HO := Lib.hid hok
  have HR := Lib.hid hR
  have HR2 := Lib.hid hR'
  clear hws hok hR hR' hsq
  go_enter Try.func4, Try.ntmps4
  go_wp2_with fail
  refine (alive_any _).mono ?_
  rintro e w0 ⟨rfl, hB⟩
  have HB := Lib.hid hB
  clear hB
  by_cases hlen : ¬ ws.length ≤ 300
  · have hl1 : (300 : Int) < (ws.length : Int) := by omega
    go_wp2_with fail
    go_ret
    exact ⟨rfl, HB.out⟩
  replace hlen : ws.length ≤ 300 := by omega
  have hl1 : ¬ (300 : Int) < (ws.length : Int) := by omega
  by_cases hlen2 : ¬ xs.length ≤ 400
  · have hl2 : (400 : Int) < (xs.length : Int) := by omega
    go_wp2_with fail
    go_ret
    exact ⟨rfl, HB.out⟩
  replace hlen2 : xs.length ≤ 400 := by omega
  have hl2 : ¬ (400 : Int) < (xs.length : Int) := by omega
  have HL := Lib.hid (And.intro hlen hlen2)
  have HB0 := Lib.hid (Chg.of_below HB.out [])
  clear hlen hlen2
  go_wp2_with fail
  refine (SNew_e w0).mono ?_
  rintro e w1 ⟨p, F0, rfl, hp, hM⟩
  have HP := Lib.hid hp
  have HM := Lib.hid hM
  clear hp hM
  go_wp2_with fail
  have hq0 : 0 ≤ seq.tmod 1000 := Int.tmod_nonneg _ HS.out.1
  have hq1 : seq.tmod 1000 < 1000 := Int.tmod_lt_of_pos _ (by decide)
  obtain ⟨q, hq⟩ : ∃ q, seq.tmod 1000 = q := ⟨_, rfl⟩
  rw [hq] at hq0 hq1 ⊢
  have HQ := Lib.hid (And.intro hq0 hq1)
  have HQw := Lib.hid (show w64ok q from ⟨hq0, by simp [Lit.wf, IntKind.min, IntKind.max, IntKind.signed, IntKind.bits]; omega⟩)
  clear hq0 hq1
  have HC1 := Lib.hid (HB0.out.trans (HM.out.chg))
  refine (first_any w1 A cap ws q 200 HW.out HQw.out (by decide) (by have := HL.out; omega) (HR.out.chg0 HC1.out)).mono ?_
  rintro e w2 ⟨m, rfl, hm, hC, hml⟩
  have HMm := Lib.hid hm
  have HC2 := Lib.hid hC
  have HML := Lib.hid hml
  clear hm hC hml
  go_wp2_with fail
  refine (first_any w2 A cap ws q 200 HW.out HQw.out (by decide) (by have := HL.out; omega) (HR.out.chg0 (HC1.out.trans HC2.out))).mono ?_
  rintro e w3 ⟨u, rfl, hm, hC, hml⟩
  have HMu := Lib.hid hm
  have HC3 := Lib.hid hC
  have HUL := Lib.hid hml
  clear hm hC hml
  go_wp2_with fail
  have T3 : Two w3 p F0 m 202 {} (firstH ws q 200) :=
    ⟨(HP.out.chg HC2.out (Apart.nil_right _)).chg HC3.out (Apart.nil_right _), HMm.out.chg HC3.out (by simp), fun e => by have := HP.out.lt _ e; have := HML.out; omega, trivial⟩
  have hu3 : u ∉ m :: F0 := fun e => by
    rcases List.mem_cons.1 e with e | e
    · have := HMm.out.lt; have := HUL.out; omega
    · have := HP.out.lt _ e; have := HC2.out.size; have := HUL.out; omega
  have HA0 := Lib.hid (AloneAt.fresh T3 HMu.out hu3)
  have HAl := Lib.hid (Al.first ws q HQ.out.1 HQ.out.2)
  clear T3 hu3
  go_loopw [12, 13, 14, 15] (fun lv rdv wrv i wr => AloneRel w w0 p m u xs.length lv rdv wrv i wr) (fun _ _ _ i _ => xs.length - (intOf i).toNat)
  case atStart =>
    refine ⟨0, F0, {}, firstH ws q 200, firstH ws q 200, [], [], w3.heap.size, 0, w3.heap.size + 1, 0, Nat.zero_le _, rfl, rfl, rfl, by simp, HA0.out, HAl.out, fun e => by (cases e), rfl, (HC1.out.trans (HC2.out.trans HC3.out)).trans (((Chg.refl [] _).alloc _).trans ((Chg.refl [] _).alloc _)), ?_⟩
    have h1 := HM.out.chg.size
    have h2 := HC2.out.size
    have h3 := HC3.out.size
    have h4 := HML.out
    have h5 := HUL.out
    intro x hx
    simp only [List.mem_cons] at hx
    rcases hx with rfl | rfl | rfl | rfl | hx
    · omega
    · omega
    · omega
    · omega
    · exact (HM.out.new x hx).elim (fun e => by cases e) id
  case round =>
    clear HA0 HAl
    obtain ⟨j, F, s, h, g, rd, wt, r, cr, b, cb, hj, rfl, rfl, rfl, rfl, hA, hAl, hLi, hwr, hC, hge⟩ := hrel
    generalize hlv : s.live = lv at hLi ⊢
    have HLv := Lib.hid hlv
    have HA := Lib.hid hA
    have HAl := Lib.hid hAl
    have HLi := Lib.hid hLi
    have HWr := Lib.hid hwr
    have HC := Lib.hid hC
    have HGe := Lib.hid hge
    clear hA hAl hLi hwr hC hge hlv
    by_cases hlt : j < xs.length
    · have hR := HR2.out.keep (Nat.le_refl _) HC.out (by simp)
      obtain ⟨bi, off, rfl, hbb, hcell⟩ := hR (by omega)
      have c0 : wr.cell? ⟨bi, off + j * 4, none⟩ = some (.int .i64 xs[j].k) := hcell j hlt 0 (by decide)
      have c1 : wr.cell? ⟨bi, off + j * 4 + 1, none⟩ = some (.int .i64 xs[j].a) := hcell j hlt 1 (by decide)
      have c2 : wr.cell? ⟨bi, off + j * 4 + 2, none⟩ = some (.int .u64 xs[j].v) := hcell j hlt 2 (by decide)
      have c3 : wr.cell? ⟨bi, off + j * 4 + 3, none⟩ = some (.bool xs[j].ok) := hcell j hlt 3 (by decide)
      have HQ := Lib.hid (HO.out xs[j] (List.getElem_mem hlt))
      have hkl : (j : Int) < xs.length := by omega
      have HK := Lib.hid (And.intro hj (And.intro hlt HL.out))
      clear hcell hR hj hbb
      generalize xs[j] = o at *
      obtain ⟨k, oa, ov, ob⟩ := o
      simp only at c0 c1 c2 c3
      by_cases hk0 : k < 0
      · go_wp2_with fail
        go_roundw
        case rel =>
          have hC4 := (Chg.refl [] wr).alloc (.cells #[.int .i64 k, .int .i64 oa, .int .u64 ov, .bool ob] 44)
          exact ⟨j + 1, F, s, h, g, rd, wt, r, cr, b, cb, by have := HK.out; omega, by go_num, by rw [HLv.out], rfl, rfl, HA.out.look hC4, HAl.out.more, fun e => HLi.out (HLv.out.symm.trans e), HWr.out, HC.out.trans hC4, HGe.out⟩
        case measure => have := HK.out; simp [intOf]; omega
      by_cases hk4 : 4 < k
      · go_wp2_with fail
        go_roundw
        case rel =>
          have hC4 := (Chg.refl [] wr).alloc (.cells #[.int .i64 k, .int .i64 oa, .int .u64 ov, .bool ob] 44)
          exact ⟨j + 1, F, s, h, g, rd, wt, r, cr, b, cb, by have := HK.out; omega, by go_num, by rw [HLv.out], rfl, rfl, HA.out.look hC4, HAl.out.more, fun e => HLi.out (HLv.out.symm.trans e), HWr.out, HC.out.trans hC4, HGe.out⟩
        case measure => have := HK.out; simp [intOf]; omega
      have HKk := Lib.hid (show 0 ≤ k ∧ k ≤ 4 by omega)
      go_wp2_with fail
      have hC4 := (Chg.refl [] wr).alloc (.cells #[.int .i64 k, .int .i64 oa, .int .u64 ov, .bool ob] 44)
      have HX4 := Lib.hid (Blk.new wr [.int .i64 k, .int .i64 oa, .int .u64 ov, .bool ob] 44)
      have HXn := Lib.hid (show wr.heap.size ∉ [u, r, b, m] ++ F from fun e => by have := HA.out.lt _ e; omega)
      have HA4 := Lib.hid (HA.out.look hC4)
      have HC4 := Lib.hid (HC.out.trans hC4)
      have HS4 := Lib.hid (show w0.heap.size ≤ wr.heap.size from Nat.le_of_lt (Nat.lt_of_le_of_lt (HGe.out u (by simp)) HA.out.sh.lt))
      have HS4' := Lib.hid hC4.size
      clear hC4 HA HC c0 c1 c2 c3 hk0 hk4
      generalize wr.alloc _ = w4 at *
      have hsz4 : w0.heap.size ≤ w4.heap.size := Nat.le_trans HS4.out HS4'.out
      have HSz4 := Lib.hid hsz4
      clear HS4 HS4' hsz4
      generalize wr.heap.size = x0 at *
      have d0 : w4.cell? ⟨x0, 0, none⟩ = some (.int .i64 k) := HX4.out.cell 0
      have d1 : w4.cell? ⟨x0, 1, none⟩ = some (.int .i64 oa) := HX4.out.cell 1
      have d2 : w4.cell? ⟨x0, 2, none⟩ = some (.int .u64 ov) := HX4.out.cell 2
      have d3 : w4.cell? ⟨x0, 3, none⟩ = some (.bool ob) := HX4.out.cell 3
      refine (place_any w4 oa 200 HQ.out.1 (by decide) (by decide)).mono ?_
      rintro e w5 ⟨rfl, rfl⟩
      go_wp2_with fail
      refine (begins_any w4 p F s k oa ov 200 ob HQ.out.1 HQ.out.2 (by decide) (by decide) HA4.out.two.path).mono ?_
      rintro e w5 ⟨rfl, F5, hp5, hM5⟩
      have HA5 := Lib.hid (HA4.out.step (HA4.out.two.step hp5 hM5 (PS.begins_ok (by decide) (by decide) HA4.out.two.ok)) (hM5.cons m))
      have HX5 := Lib.hid (hM5.chg.blk HX4.out (fun e => HXn.out (by simp [e])))
      have HG5 := Lib.hid (mv_new (l := [u, r, b, m]) hM5 HSz4.out HGe.out)
      have HXn5 := Lib.hid (mv_not (l := [u, r, b, m]) hM5 HX4.out.lt HXn.out)
      have HC5 := Lib.hid (HC4.out.trans' hM5.chg (fun y hy hl => absurd (HGe.out y (by simp [hy])) (by have := HB.out.size; omega)))
      clear hp5 HA4 HX4 HGe HXn d0 d1 d2 d3
      go_wp2_with fail
      refine (finish2_any w5 p m F5 202 (s.begins k oa ov 200, h) (by decide) HA5.out.two).mono ?_
      rintro e w6 ⟨rfl, F6, c6, hc6, hT6, hM6⟩
      have hcame := came_any HAl.out HWr.out (by rw [HLv.out]; exact HLi.out) (a := oa) (v := ov) (by have := HK.out; omega) HKk.out
      generalize hx6 : finM 3000 (s.begins k oa ov 200, h) = x6 at *
      obtain ⟨s6, h6⟩ := x6
      simp only at hc6 hT6 hcame ⊢
      obtain rfl : c6 = 202 := by omega
      rw [busy_no hcame.1]
      have HF6 := Lib.hid hx6
      have HA6 := Lib.hid (HA5.out.step hT6 hM6)
      have HX6 := Lib.hid (hM6.chg.blk HX5.out (fun e => HXn5.out (by simp only [List.mem_append, List.mem_cons] at e ⊢; rcases e with e | e <;> simp [e])))
      have HG6 := Lib.hid (mv_new (l := [u, r, b]) hM6 (Nat.le_trans HSz4.out hM5.chg.size) HG5.out)
      have HXn6 := Lib.hid (mv_not (l := [u, r, b]) hM6 HX5.out.lt HXn5.out)
      have HC6 := Lib.hid (HC5.out.trans' hM6.chg (fun y hy hl => absurd (HG5.out y (by simp only [List.mem_append, List.mem_cons] at hy ⊢; rcases hy with e | e <;> simp [e])) (by have := HB.out.size; omega)))
      have HSz6 := Lib.hid (Nat.le_trans (Nat.le_trans HSz4.out hM5.chg.size) hM6.chg.size)
      clear HA5 HX5 HG5 HXn5 HC5 hc6 hT6 hcame hM6 hM5 HSz4 hx6
      have HPa := Lib.hid (placeA_aok (a := oa) (n := 200) (by decide) (by decide))
      have d0 : w6.cell? ⟨x0, 0, none⟩ = some (.int .i64 k) := HX6.out.cell 0
      have hlk := HA6.out.wrm.look_ok HPa.out.2
      have hlr := HA6.out.rdm.look HPa.out.2
      have hlw := HA6.out.wrm.len
      have hln := HA6.out.rdm.len
      generalize hown : inH wt (placeA oa 200) = own at hlk
      have HOwn := Lib.hid hown
      clear hown
      go_upto_region 19 with fail
      go_cut [20] from 89 to 123 (fun fl wx => fl = .bool (fullB lv own (getH rd (placeA oa 200)) cr cb k) ∧ wx = w6)
      case first =>
        cases lv with
        | false =>
          go_wp2_with fail
          go_meet
          exact ⟨rfl, rfl⟩
        | true =>
          by_cases hk1 : k = 1
          · subst hk1
            cases own with
            | true =>
              go_wp2_with fail
              go_meet
              exact ⟨rfl, rfl⟩
            | false =>
              by_cases hz : getH rd (placeA oa 200) = 0
              · rw [hz] at hlr
                have HZz := Lib.hid hz
                clear hz
                by_cases hc : cr = 128
                · subst hc
                  go_wp2_with fail
                  go_meet
                  exact ⟨by simp [fullB, HZz.out], rfl⟩
                · have hc' : ((cr : Int) == 128) = false := by simp; omega
                  have hc2 : (cr == 128) = false := by simpa using hc
                  have HCc := Lib.hid hc2
                  clear hc hc2
                  go_wp2_with fail
                  go_meet
                  exact ⟨by simp [fullB, HCc.out], rfl⟩
              · have hz' : (getH rd (placeA oa 200) == 0) = false := by simpa using hz
                have HZz := Lib.hid hz'
                clear hz
                go_wp2_with fail
                go_meet
                exact ⟨by simp [fullB, HZz.out], rfl⟩
          · have hk1' : (k == 1) = false := by simpa using hk1
            have HK1 := Lib.hid hk1'
            clear hk1
            by_cases hk2 : k = 2
            · subst hk2
              cases own with
              | true =>
                go_wp2_with fail
                go_meet
                exact ⟨rfl, rfl⟩
              | false =>
                by_cases hc : cb = 128
                · subst hc
                  go_wp2_with fail
                  go_meet
                  exact ⟨rfl, rfl⟩
                · have hc' : ((cb : Int) == 128) = false := by simp; omega
                  have hc2 : (cb == 128) = false := by simpa using hc
                  have HCc := Lib.hid hc2
                  clear hc hc2
                  go_wp2_with fail
                  go_meet
                  exact ⟨by simp [fullB, HCc.out], rfl⟩
            · have hk2' : (k == 2) = false := by simpa using hk2
              have HK2 := Lib.hid hk2'
              clear hk2
              go_wp2_with fail
              go_meet
              exact ⟨by simp [fullB, HK1.out, HK2.out], rfl⟩
      case rest =>
        obtain ⟨rfl, rfl⟩ := hcut
        generalize hfb : fullB lv own (getH rd (placeA oa 200)) cr cb k = fb
        have HFb := Lib.hid hfb
        clear hfb
        have H1 := Lib.hid (show inH g 1 = true by rw [HAl.out.gk]; rfl)
        clear hlr hlw hln
        go_upto_block 2 with fail
        go_cut [12, 13, 14] from 124 to 200 (fun lw rdv wrv wx => CutRel w w0 p m u j h s6 h6 fb lw rdv wrv wx)
        case first =>
          cases lv with
          | false =>
            obtain rfl : fb = false := HFb.out.symm
            by_cases hk0 : k = 0
            · subst hk0
              obtain ⟨s', e, hl', hcm⟩ := came_begin HAl.out HWr.out (by rw [HLv.out]; exact HLi.out) (a := oa) (v := ov) HLv.out
              rw [HF6.out] at e
              obtain ⟨rfl, rfl⟩ := Prod.mk.inj e
              have HCm := Lib.hid hcm
              have HL' := Lib.hid hl'
              clear e hcm hl'
              go_wp2_with fail
              go_meet
              refine ⟨F6, g, [], [], _, 0, _, 0, by rw [HL'.out]; rfl, rfl, rfl, HA6.out.anew, HCm.out, H1.out, fun e => (by cases e), HC6.out.trans (((Chg.refl [] _).alloc _).trans ((Chg.refl [] _).alloc _)), ?_⟩
              intro x hx
              simp only [List.mem_cons] at hx
              have hz := HSz6.out
              rcases hx with rfl | rfl | rfl | rfl | hx
              · exact HG6.out x (by simp)
              · exact hz
              · exact Nat.le_trans hz (by simp)
              · exact HG6.out x (by simp)
              · exact HG6.out x (by simp [hx])
            · obtain ⟨e, hcm⟩ := came_none HAl.out HWr.out (by rw [HLv.out]; exact HLi.out) (a := oa) (v := ov) (.inl ⟨HLv.out, hk0⟩)
              rw [HF6.out] at e
              obtain ⟨rfl, rfl⟩ := Prod.mk.inj e
              have HCm := Lib.hid hcm
              have hk0' : (k == 0) = false := by simpa using hk0
              clear e hcm hk0
              go_wp2_with fail
              go_meet
              exact ⟨F6, g, rd, wt, r, cr, b, cb, by rw [HLv.out]; rfl, rfl, rfl, HA6.out, HCm.out, H1.out, fun e => (by cases e), HC6.out, HG6.out⟩
          | true =>
            obtain rfl | rfl | rfl | rfl | rfl : k = 0 ∨ k = 1 ∨ k = 2 ∨ k = 3 ∨ k = 4 := by have := HKk.out; omega
            · obtain rfl : fb = false := HFb.out.symm
              obtain ⟨e, hcm⟩ := came_none HAl.out HWr.out (by rw [HLv.out]; exact HLi.out) (k := 0) (a := oa) (v := ov) (.inr ⟨HLv.out, rfl⟩)
              rw [HF6.out] at e
              obtain ⟨rfl, rfl⟩ := Prod.mk.inj e
              have HCm := Lib.hid hcm
              clear e hcm
              go_wp2_with fail
              go_meet
              exact ⟨F6, g, rd, wt, r, cr, b, cb, by rw [HLv.out]; rfl, rfl, rfl, HA6.out, HCm.out, H1.out, fun e => (by cases e), HC6.out, HG6.out⟩
            · cases own with
              | true =>
                obtain rfl : fb = false := HFb.out.symm
                obtain ⟨s', e, hl', hv', hcm⟩ := came_own HAl.out HWr.out (by rw [HLv.out]; exact HLi.out) HLv.out (v := ov) HOwn.out
                rw [HF6.out] at e
                obtain ⟨rfl, rfl⟩ := Prod.mk.inj e
                have HCm := Lib.hid hcm
                have HL' := Lib.hid hl'
                have HV' := Lib.hid hv'
                clear e hcm hl' hv'
                have hsh := HA6.out.sh.look HPa.out.2
                have hwl := HA6.out.wrm.look HPa.out.2
                go_wp2_with fail
                refine (SValue_any wc p F6 s6 HA6.out.two.path).mono ?_
                rintro e w7 ⟨rfl, rfl⟩
                rw [HV'.out]
                go_wp2_with fail
                go_meet
                exact ⟨F6, g, rd, wt, r, cr, b, cb, by rw [HL'.out]; rfl, rfl, rfl, HA6.out, HCm.out, H1.out, fun e => (by cases e), HC6.out, HG6.out⟩
              | false =>
                have hsh := HA6.out.sh.look HPa.out.2
                by_cases hr : inH rd (placeA oa 200) = true ∨ cr ≠ 128
                · obtain rfl : fb = false := by
                    rw [← HFb.out]
                    unfold fullB
                    rcases hr with hr | hr
                    · have := (HLi.out rfl).1.rdv (placeA oa 200)
                      rw [if_pos hr] at this
                      simp [this]
                    · simp [hr]
                  obtain ⟨s', e, hl', hv', hcm⟩ := came_load HAl.out HWr.out (by rw [HLv.out]; exact HLi.out) HLv.out (v := ov) HOwn.out hr
                  rw [HF6.out] at e
                  obtain ⟨rfl, rfl⟩ := Prod.mk.inj e
                  have HCm := Lib.hid hcm
                  have HL' := Lib.hid hl'
                  have HV' := Lib.hid hv'
                  have hcr : cr < maxLen := by have := (HLi.out rfl).2.1; have := (HLi.out rfl).1.lr; unfold maxLen; omega
                  have HCr := Lib.hid hcr
                  clear e hcm hl' hv' hr hcr
                  go_wp2_with (first
                    | (at_mapUpdate; refine wpList_intsPut _ rfl _ _ _ (.inl rfl) r cr rd rfl HA6.out.rdm HCr.out (placeA oa 200) 1 rfl rfl HPa.out.2 (by decide) ?_; intro w7 hk7 hC7; have HA7 := Lib.hid (HA6.out.red hk7 hC7); have HC7 := Lib.hid hC7; clear hk7 hC7))
                  refine (SValue_any w7 p F6 s6 HA7.out.two.path).mono ?_
                  rintro e w8 ⟨rfl, rfl⟩
                  rw [HV'.out]
                  go_wp2_with fail
                  go_meet
                  exact ⟨F6, g, _, wt, r, _, b, cb, by rw [HL'.out]; rfl, rfl, rfl, HA7.out, HCm.out, H1.out, fun e => (by cases e), HC6.out.trans' HC7.out (fun y hy hl => absurd (HG6.out r (by simp)) (by simp only [List.mem_singleton] at hy; subst hy; have := HB.out.size; omega)), HG6.out⟩
                · have hr1 : inH rd (placeA oa 200) = false := by cases e : inH rd (placeA oa 200) with | false => rfl | true => exact absurd (.inl e) hr
                  have hr2 : cr = 128 := by omega
                  obtain rfl : fb = true := by
                    rw [← HFb.out]
                    unfold fullB
                    have := (HLi.out rfl).1.rdv (placeA oa 200)
                    rw [hr1] at this
                    simp [this, hr2]
                  obtain ⟨s', h', e, hl', hv', hcm⟩ := came_load_full HAl.out HWr.out (by rw [HLv.out]; exact HLi.out) HLv.out (v := ov) HOwn.out hr1 hr2
                  rw [HF6.out] at e
                  obtain ⟨rfl, rfl⟩ := Prod.mk.inj e
                  have HCm := Lib.hid hcm
                  have HL' := Lib.hid hl'
                  have HV' := Lib.hid hv'
                  clear e hcm hl' hv' hr hr1 hr2
                  go_wp2_with fail
                  go_meet
                  exact ⟨F6, g, rd, wt, r, cr, b, cb, by rw [HL'.out]; rfl, rfl, rfl, HA6.out, HCm.out, H1.out, fun _ => ⟨HL'.out, HV'.out⟩, HC6.out, HG6.out⟩
            · by_cases hr : own = true ∨ cb ≠ 128
              · obtain rfl : fb = false := by
                  rw [← HFb.out]
                  unfold fullB
                  rcases hr with hr | hr
                  · simp [hr]
                  · simp [hr]
                obtain ⟨s', e, hl', hcm⟩ := came_store HAl.out HWr.out (by rw [HLv.out]; exact HLi.out) HLv.out (a := oa) (v := ov) (by rw [HOwn.out]; exact hr)
                rw [HF6.out] at e
                obtain ⟨rfl, rfl⟩ := Prod.mk.inj e
                have HCm := Lib.hid hcm
                have HL' := Lib.hid hl'
                have hcb : cb < maxLen := by have := (HLi.out rfl).2.2; have := (HLi.out rfl).1.lw; unfold maxLen; omega
                have HCb := Lib.hid hcb
                have d2 : wc.cell? ⟨x0, 2, none⟩ = some (.int .u64 ov) := HX6.out.cell 2
                clear e hcm hl' hr hcb
                go_wp2_with (first
                  | (at_mapUpdate; refine wpList_memPut _ rfl _ _ _ (.inl rfl) b cb wt rfl HA6.out.wrm HCb.out (placeA oa 200) ov rfl rfl HPa.out.2 (w64_of_wf HQ.out.2) ?_; intro w7 hk7 hC7; have HA7 := Lib.hid (HA6.out.wrote hk7 hC7); have HC7 := Lib.hid hC7; clear hk7 hC7))
                go_meet
                exact ⟨F6, g, rd, _, r, cr, b, _, by rw [HL'.out]; rfl, rfl, rfl, HA7.out, HCm.out, H1.out, fun e => (by cases e), HC6.out.trans' HC7.out (fun y hy hl => absurd (HG6.out b (by simp)) (by simp only [List.mem_singleton] at hy; subst hy; have := HB.out.size; omega)), HG6.out⟩
              · have hr1 : own = false := by cases own with | false => rfl | true => exact absurd (.inl rfl) hr
                subst hr1
                have hr2 : cb = 128 := by omega
                obtain rfl : fb = true := by
                  rw [← HFb.out]
                  unfold fullB
                  simp [hr2]
                obtain ⟨s', h', e, hl', hv', hcm⟩ := came_store_full HAl.out HWr.out (by rw [HLv.out]; exact HLi.out) HLv.out (v := ov) HOwn.out hr2
                rw [HF6.out] at e
                obtain ⟨rfl, rfl⟩ := Prod.mk.inj e
                have HCm := Lib.hid hcm
                have HL' := Lib.hid hl'
                have HV' := Lib.hid hv'
                clear e hcm hl' hv' hr hr2
                go_wp2_with fail
                go_meet
                exact ⟨F6, g, rd, wt, r, cr, b, cb, by rw [HL'.out]; rfl, rfl, rfl, HA6.out, HCm.out, H1.out, fun _ => ⟨HL'.out, HV'.out⟩, HC6.out, HG6.out⟩
            · obtain rfl : fb = false := by
                rw [← HFb.out]; unfold fullB; simp
              obtain ⟨D, hown, hsz, hhas, hat⟩ := HA6.out.wrm.map
              have HHas := Lib.hid hhas
              have HAt := Lib.hid hat
              clear hhas hat
              have hbn : cb < maxLen := by have := (HLi.out rfl).2.2; have := (HLi.out rfl).1.lw; unfold maxLen; omega
              have HCb := Lib.hid hbn
              have HSz := Lib.hid hsz
              clear hbn hsz
              have HAlt := Lib.hid HA6.out.lt
              have HKey := Lib.hid (show ∀ a, inH wt a = true → inH g a = true from fun a ha => by
                have := (HLi.out rfl).1.keys a (by rw [(HLi.out rfl).1.inW]; exact ha)
                rw [HAl.out.gk]; simp [this])
              go_wp2_with (first
                | (at_range; refine wpList_range_own _ rfl _ 29 rfl 3 23 lawInt Try.underlying29 _ b cb D rfl hown ?_; intro w7 hrg7 hg7 hs7)
                | go_in)
              try go_frame
              clear hown
              have HC7 := Lib.hid (show Chg [] wc w7 from Chg.of_grown0 hg7)
              have HR7 := Lib.hid hrg7
              clear hg7 hs7 hrg7
              go_loopw [22] (fun _ wr => PutLoop wc p F6 s6 m h6 u g r cr rd b cb wt D wr) (fun _ wr => wr.rangeLeft b wc.heap.size)
              case atStart =>
                exact ⟨_, _, g, HR7.out, PutRel.start (fun a => HHas.out a), HA6.out.look HC7.out, HC7.out.mono (by simp)⟩
              case round =>
                obtain ⟨left, cnt, gv, hrg, hput, hA, hC⟩ := hrel
                have HA8 := Lib.hid hA
                have HP8 := Lib.hid hput
                have HC8 := Lib.hid hC
                have HR8 := Lib.hid hrg
                clear hA hput hC
                have hxn : wc.heap.size ∉ u :: r :: b :: m :: F6 := fun e => Nat.lt_irrefl _ (HAlt.out _ e)
                have HXn8 := Lib.hid hxn
                clear hxn
                go_wp2_with (first
                  | (at_next; refine wpList_next_ranges_ii _ rfl _ rfl 3 23 .i64 .u64 lawInt Try.underlying3 Try.underlying23 b wc.heap.size cb _ _ _ rfl hrg ?_ ?_)
                  | fail)
                · intro hc0 hl0
                  clear hrg
                  have HPE := Lib.hid (show PutEnd wt g gv from ⟨HP8.out.ends hl0, HP8.out.2.1⟩)
                  clear hc0 hl0
                  have hlw8 := HA8.out.wrm.len
                  have HC9 := Lib.hid (HC6.out.trans' HC8.out (fun y hy hl => absurd (HG6.out u (by simp)) (by simp only [List.mem_singleton] at hy; subst hy; have := HB.out.size; omega)))
                  by_cases hcb0 : cb = 0
                  · obtain ⟨s', h', e, hl', hv', hcm⟩ := came_commit0 HAl.out HWr.out (by rw [HLv.out]; exact fun _ => HLi.out trivial) HLv.out (a := oa) (v := ov) hcb0
                    rw [HF6.out] at e
                    obtain ⟨rfl, rfl⟩ := Prod.mk.inj e
                    have HCm := Lib.hid hcm
                    have HL' := Lib.hid hl'
                    have HV' := Lib.hid hv'
                    subst hcb0
                    clear e hcm hl' hv'
                    go_wp2_with fail
                    refine (Ended_any wr p F6 s6 HA8.out.two.path).mono ?_
                    rintro e w9 ⟨rfl, rfl⟩
                    rw [HV'.out]
                    go_wp2_with fail
                    go_meet
                    exact ⟨F6, gv, rd, wt, r, cr, b, 0, by rw [HL'.out]; rfl, rfl, rfl, HA8.out, HCm.out gv HPE.out, by rw [HPE.out.2]; exact H1.out, fun e => (by cases e), HC9.out, HG6.out⟩
                  · obtain ⟨s', h', e, hl', hv', hcm⟩ := came_commit HAl.out HWr.out (by rw [HLv.out]; exact fun _ => HLi.out trivial) HLv.out (a := oa) (v := ov) (by have := HK.out; omega) hcb0
                    rw [HF6.out] at e
                    obtain ⟨rfl, rfl⟩ := Prod.mk.inj e
                    have HCm := Lib.hid (hcm gv HPE.out)
                    have HL' := Lib.hid hl'
                    have HV' := Lib.hid hv'
                    have hpos : (0 : Int) < (cb : Int) := by omega
                    have hl0 := HA8.out.sh.look (a := 0) (by decide)
                    have HX := Lib.hid (wrap_fit (x := getH gv 0 + 2) (by have := HCm.out.2.1; omega) (by have := HCm.out.2.2; omega))
                    have HU := Lib.hid (show upC 202 gv 0 = 202 by unfold upC; rw [if_pos (by rw [HPE.out.2, HAl.out.gk]; rfl)])
                    clear e hcm hl' hv' hcb0
                    go_wp2_with (first
                      | (at_mapUpdate; refine wpList_memPut _ rfl _ _ _ (.inl rfl) u 202 gv rfl HA8.out.sh (by decide) 0 (IntKind.u64.wrap (getH gv 0 + 2)) rfl rfl (by decide) (u64_wrap _) ?_; intro w10 hk10 hC10; rw [HX.out, HU.out] at hk10; have HA10 := Lib.hid (HA8.out.should hk10 hC10); have HC10 := Lib.hid hC10; clear hk10 hC10)
                      | fail)
                    refine (Ended_any w10 p F6 s6 HA10.out.two.path).mono ?_
                    rintro e w9 ⟨rfl, rfl⟩
                    rw [HV'.out]
                    go_wp2_with fail
                    go_meet
                    exact ⟨F6, _, rd, wt, r, cr, b, cb, by rw [HL'.out]; rfl, rfl, rfl, HA10.out, HCm.out.1, by rw [inH_cons, HPE.out.2, H1.out]; simp, fun e => (by cases e), HC9.out.trans' HC10.out (fun y hy hl => absurd (HG6.out u (by simp)) (by simp only [List.mem_singleton] at hy; subst hy; have := HB.out.size; omega)), HG6.out⟩
                · intro x c w9 cnt9 hwx hwc hlx hat9 hrg9 hlt9 hg9 hs9 hen
                  have HW9 := Lib.hid (And.intro hwx hwc)
                  have HA9 := Lib.hid (HA8.out.beside (Chg.of_grown hg9) HXn8.out)
                  have HR9 := Lib.hid hrg9
                  have hin := come_in (fun a => HHas.out a) (fun a => HAt.out a) hat9
                  have HIn := Lib.hid hin
                  have HLt9 := Lib.hid hlt9
                  have HC9 := Lib.hid (HC8.out.trans' (show Chg [wc.heap.size] wr w9 from Chg.of_grown hg9) (fun y hy hl => by simp at hy; omega))
                  clear hwx hwc hlx hat9 hrg9 hlt9 hg9 hs9 hin hrg
                  go_wp2_with (first
                    | (at_mapUpdate; refine wpList_memPut _ rfl _ _ _ (.inl rfl) u 202 gv rfl HA9.out.sh (by decide) x c rfl rfl HW9.out.1 (w64_of_wf HW9.out.2) ?_; intro w10 hk10 hC10; have HK10 := Lib.hid hk10; have HC10 := Lib.hid hC10; clear hk10 hC10)
                    | fail)
                  simp only [Act.put]
                  go_roundw
                  case rel =>
                    have hu : upC 202 gv x = 202 := by unfold upC; rw [if_pos (by rw [HP8.out.2.1]; exact HKey.out x HIn.out.1)]
                    have hk := HK10.out
                    rw [hu] at hk
                    exact ⟨_, _, _, HR9.out.kept HC10.out.to_grown (by simp only [ne_eq, Option.some.injEq]; exact fun e => HA9.out.ne.2.1 e.symm) (by simp only [ne_eq, Option.some.injEq]; exact fun e => HXn8.out (by rw [e]; simp)), HP8.out.step HIn.out.1 (HKey.out x HIn.out.1) HIn.out.2, HA9.out.should hk HC10.out, HC9.out.trans HC10.out⟩
                  case measure =>
                    have h1 := (HR9.out.kept HC10.out.to_grown (by simp only [ne_eq, Option.some.injEq]; exact fun e => HA9.out.ne.2.1 e.symm) (by simp only [ne_eq, Option.some.injEq]; exact fun e => HXn8.out (by rw [e]; simp))).left_eq
                    have h2 := HR8.out.left_eq
                    have h3 := HLt9.out
                    rw [h1, h2]; exact h3
            · obtain rfl : fb = false := by
                rw [← HFb.out]; unfold fullB; simp
              obtain ⟨s', h', e, hl', hv', hcm⟩ := came_quit HAl.out HWr.out (by rw [HLv.out]; exact HLi.out) HLv.out (a := oa) (v := ov)
              rw [HF6.out] at e
              obtain ⟨rfl, rfl⟩ := Prod.mk.inj e
              have HCm := Lib.hid hcm
              have HL' := Lib.hid hl'
              have HV' := Lib.hid hv'
              clear e hcm hl' hv'
              go_wp2_with fail
              refine (Ended_any wc p F6 s6 HA6.out.two.path).mono ?_
              rintro e w7 ⟨rfl, rfl⟩
              rw [HV'.out]
              go_wp2_with fail
              go_meet
              exact ⟨F6, g, rd, wt, r, cr, b, cb, by rw [HL'.out]; rfl, rfl, rfl, HA6.out, HCm.out, H1.out, fun e => (by cases e), HC6.out, HG6.out⟩
        case rest =>
          obtain ⟨F7, g7, rd7, wt7, r7, cr7, b7, cb7, rfl, rfl, rfl, hA7, hcm7, h17, hfu7, hC7, hG7⟩ := hcut
          have HA7 := Lib.hid hA7
          have HCm7 := Lib.hid hcm7
          have H17 := Lib.hid h17
          have HFu7 := Lib.hid hfu7
          have HC7 := Lib.hid hC7
          have HG7 := Lib.hid hG7
          clear hA7 hcm7 h17 hfu7 hC7 hG7 HA6 HX6 HG6 HXn6 HC6 HSz6 H1 d0
          generalize hl6 : s6.live = l6
          have HL6 := Lib.hid hl6
          clear hl6
          have HU1 := Lib.hid (show upC 202 g7 1 = 202 by unfold upC; rw [if_pos H17.out])
          go_upto_if 197 with fail
          go_cut [12] from 198 to 200 (fun lw wx => lw = .bool l6 ∧ wx = wc)
          case first =>
            cases fb with
            | false =>
              go_wp2_with fail
              go_meet
              exact ⟨by simp, rfl⟩
            | true =>
              have HFu8 := Lib.hid (HFu7.out rfl)
              clear HFu7
              go_wp2_with fail
              refine (Ended_any wc p F7 s6 HA7.out.two.path).mono ?_
              rintro e w9 ⟨rfl, rfl⟩
              rw [HFu8.out.2]
              go_wp2_with fail
              go_meet
              exact ⟨by rw [← HL6.out, HFu8.out.1], rfl⟩
          case rest =>
            obtain ⟨rfl, rfl⟩ := hcut
            go_upto_if 202 with (first
              | (at_mapUpdate; refine wpList_memPut _ rfl _ _ _ (.inl rfl) u 202 g7 rfl HA7.out.sh (by decide) 1 0 rfl rfl (by decide) ⟨by decide, by decide⟩ ?_; intro w9 hk9 hC9; rw [HU1.out] at hk9; have HA9 := Lib.hid (HA7.out.should hk9 hC9); have HC9 := Lib.hid (HC7.out.trans' hC9 (fun y hy hl => absurd (HG7.out u (by simp)) (by simp only [List.mem_singleton] at hy; subst hy; have := HB.out.size; omega))); clear hk9 hC9)
              | fail)
            go_cut [] from 203 to 203 (fun wx => AloneAt wx p F7 s6 m 202 h6 u 202 (glH l6 g7) r7 cr7 rd7 b7 cb7 wt7 ∧ Chg [] w wx)
            case first =>
              cases l6 with
              | true =>
                go_wp2_with (first
                  | (at_mapUpdate; refine wpList_memPut _ rfl _ _ _ (.inl rfl) u 202 ((1, 0) :: g7) rfl HA9.out.sh (by decide) 1 1 rfl rfl (by decide) ⟨by decide, by decide⟩ ?_; intro w10 hk10 hC10; rw [show upC 202 ((1, 0) :: g7) 1 = 202 by unfold upC; rw [if_pos (by simp [inH_cons])]] at hk10; have HA10 := Lib.hid (HA9.out.should hk10 hC10); have HC10 := Lib.hid (HC9.out.trans' hC10 (fun y hy hl => absurd (HG7.out u (by simp)) (by simp only [List.mem_singleton] at hy; subst hy; have := HB.out.size; omega))); clear hk10 hC10)
                  | fail)
                try simp only [Act.put]
                go_meet
                exact ⟨HA10.out, HC10.out⟩
              | false =>
                go_wp2_with fail
                go_meet
                exact ⟨HA9.out, HC9.out⟩
            case rest =>
              obtain ⟨hA10, hC10⟩ := hcut
              have HA10 := Lib.hid hA10
              have HC10 := Lib.hid hC10
              clear hA10 hC10
              obtain ⟨D, hown, hsz, hhas, hat⟩ := HA10.out.sh.map
              have HHas := Lib.hid hhas
              have HAt := Lib.hid hat
              have HAlt := Lib.hid HA10.out.lt
              have hlm := HA10.out.two.mem.len
              have hlu := HA10.out.sh.len
              clear hhas hat hsz
              go_wp2_with fail
              refine (Live_any wc p F7 s6 HA10.out.two.path).mono ?_
              rintro e w9 ⟨rfl, rfl⟩
              rw [HL6.out]
              go_wp2_with (first
                | (at_range; refine wpList_range_own _ rfl _ 29 rfl 3 23 lawInt Try.underlying29 _ u 202 D rfl hown ?_; intro w11 hrg11 hg11 hs11)
                | go_in)
              try go_frame
              clear hown hlm hlu
              have HC11 := Lib.hid (show Chg [] wc w11 from Chg.of_grown0 hg11)
              have HR11 := Lib.hid hrg11
              clear hg11 hs11 hrg11
              go_loopw [24] (fun _ wr => SeeLoop wc p F7 s6 m h6 u (glH l6 g7) r7 cr7 rd7 b7 cb7 wt7 D wr) (fun _ wr => wr.rangeLeft u wc.heap.size)
              case atStart => exact ⟨_, _, HR11.out, HA10.out.look HC11.out, HC11.out⟩
              case round =>
                obtain ⟨left, cnt, hrg, hA, hC⟩ := hrel
                have HA12 := Lib.hid hA
                have HC12 := Lib.hid hC
                have HR12 := Lib.hid hrg
                clear hA hC
                have HXn12 := Lib.hid (show wc.heap.size ∉ u :: r7 :: b7 :: m :: F7 from fun e => Nat.lt_irrefl _ (HAlt.out _ e))
                go_wp2_with (first
                  | (at_next; refine wpList_next_ranges_ii _ rfl _ rfl 3 23 .i64 .u64 lawInt Try.underlying3 Try.underlying23 u wc.heap.size 202 _ _ _ rfl hrg ?_ ?_)
                  | fail)
                · intro hc0 hl0
                  clear hrg hc0 hl0
                  go_wp2_with fail
                  go_roundw
                  case rel =>
                    refine ⟨j + 1, F7, s6, h6, glH l6 g7, rd7, wt7, r7, cr7, b7, cb7, by have := HK.out; omega, by go_num, by rw [HL6.out], rfl, rfl, HA12.out, ?_, HCm7.out.li, HCm7.out.wr, HC10.out.trans HC12.out, HG7.out⟩
                    have := HCm7.out.al
                    rw [HL6.out] at this
                    exact this
                  case measure => have := HK.out; simp [intOf]; omega
                · intro x c w13 cnt13 hwx hwc hlx hat13 hrg13 hlt13 hg13 hs13 hen
                  have HA13 := Lib.hid (HA12.out.beside (Chg.of_grown hg13) HXn12.out)
                  have HR13 := Lib.hid hrg13
                  have hin := come_in (fun a => HHas.out a) (fun a => HAt.out a) hat13
                  have hlk := HA13.out.two.mem.look hwx
                  have heq := HCm7.out.al.eq x
                  rw [HL6.out, hin.2] at heq
                  rw [heq] at hlk
                  have HLt13 := Lib.hid hlt13
                  have HC13 := Lib.hid (HC12.out.trans' (show Chg [wc.heap.size] wr w13 from Chg.of_grown hg13) (fun y hy hl => by simp at hy; omega))
                  clear hwx hwc hlx hat13 hrg13 hlt13 hg13 hs13 hin hrg heq
                  go_wp2_with fail
                  try simp only [Act.put]
                  go_roundw
                  case rel => exact ⟨_, _, HR13.out, HA13.out, HC13.out⟩
                  case measure =>
                    have h1 := HR13.out.left_eq
                    have h2 := HR12.out.left_eq
                    have h3 := HLt13.out
                    rw [h1, h2]; exact h3
    · have hkl : ¬ ((j : Int) < xs.length) := by omega
      clear hlt
      go_wp2_with fail
      go_ret
      exact ⟨rfl, HC.out.nil_below⟩

end Go.Proofs.Ytilffolppnnkaaa
