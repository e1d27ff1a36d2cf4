/- do: Broken. -/
import Derived.Test.YtobpknbnfkjnhaaLogR11
import Derived.Test.YtobpknbnfkjnhaaLogOpen
namespace Go.Proofs.Ytobpknbnfkjnhaa
open Go.RowKit

theorem Rd.front {α : Type} {w : World} {B : Nat} {A : Option Addr} {size : Nat} {enc : α → List Value} {l m : List α} (h : Rd w B A size enc (l ++ m)) : Rd w B A size enc l := fun hn => by
  obtain ⟨b, off, e, hb, hc⟩ := h (by simp; omega)
  refine ⟨b, off, e, hb, fun k hk j hj => ?_⟩
  have hk2 : k < (l ++ m).length := by simp; omega
  have he : (l ++ m)[k] = l[k] := List.getElem_append_left hk
  have := hc k hk2 j hj
  rw [this, he]
theorem SameP_n (W : World) (A B : Option Addr) (cap cap' n₀ n₁ n : Nat) (l : PL) (hn : n = l.length) (hm : l.length ≤ 1000) (hA : RdP W n₀ A l) (hB : RdP W n₁ B l) :
    Calls Try.prog 21 #[.slice A n cap, .slice B n cap'] W fun e w' => e = .returned (.bool true) ∧ ∃ q, w' = W.drewN q := by
  subst hn; exact SameP_q W A B cap cap' n₀ n₁ l hm hA hB

theorem row_snoc {w : World} {B n : Nat} {v : Value} {l : PL} {p : Int × Int} (h : w.ownsRow B 39 2 v n (l.flatMap encP ++ [.int .i64 p.1, .int .u64 p.2])) :
    w.ownsRow B 39 2 v n ((l ++ [p]).flatMap encP) := by
  rw [flat_snoc]; exact h

/-- A guarded append that is wanted. -/
theorem wpList_append_g {P : Program} {w : World} {ops : Array Oper} {rest : List Oper} {o : Oper} {a : Act} {Q : Exit → Act → World → Prop} (hw : Region.wanted o (yielded ops a.tmps) = true) (s x : Operand) (t : TypeId)
    (ho : o.op = .call { callee := .builtin .append, args := #[s, x], argTypes := #[t, t] }) (base : Nat) (e : TypeId) (i : TypeInfo) (z : Value) (size bytes : Nat) (ht : P.underlying t = some (.slice e)) (hi : P.info? e = some i) (hz : i.zero = some z)
    (h1 : i.size = size) (h2 : i.bytes = bytes) (h3 : z.cells.size = size) (h4 : 0 < size) (v : Value) (n : Nat) (xs : List Value) (hs : a.eval s = v) (hown : w.ownsRow base e size v n xs)
    (ad : Addr) (m c : Nat) (news : List Value) (hx : a.eval x = .slice (some ad) m c) (hl : news.length = m * size) (hnews : ∀ j u, news[j]? = some u → w.cell? (ad.add j) = some u) (h5 : ∀ u ∈ news, u.oneCell' = true)
    (h6 : n + m ≤ maxLen) (h7 : (n + m) * bytes ≤ 140737488355328) (h8 : base ≤ w.heap.size)
    (h : ∀ v' w', w'.ownsRow base e size v' (n + m) (xs ++ news) → w.grownBy w' v.ownBlock → wpList P ops Q rest (a.put o.dst v') w') : wpList P ops Q (o :: rest) a w := by
  refine wpList_step fun K hK => ?_
  rw [if_pos hw]
  obtain ⟨v', w', hr, g1, g2, _, _⟩ := run_append_own_at (P := P) w base t o.type e i z size bytes ht hi hz h1 h2 h3 h4 v n xs hown ad m c news hl hnews h5 h6 h7 h8
  unfold Oper.wp execOp
  simp only [ho, resolve, invoke, builtin, Sem.run_bind, Sem.run_pure, Result.andThen_ok, List.map_toArray, List.map_cons, List.map_nil, hs, hx, hr]
  exact hK _ _ (h v' w' g1 g2)

set_option maxRecDepth 100000 in
set_option maxHeartbeats 4000000 in
theorem do_7 (w : World) (g : Nat) (F : List Nat) (d kb : Nat) (K : List Nat) (s : RW) (n : Nat) (a v : Int) (nA : Option Addr) (ncap : Nat) (now : PL) (hnow : now.length ≤ 300) (hcap : now.length ≤ ncap) (hA0 : nA = none → ncap = 0) (hN : RdP w w.heap.size nA now) (h : PlAt w g F d kb K s s n) :
    Calls Try.prog 20 #[.pointer (some ⟨g, 0, none⟩), .pointer (some ⟨d, 0, none⟩), .agg #[.int .i64 7, .int .i64 a, .int .u64 v, .slice nA now.length ncap], .pointer (some ⟨kb, 0, none⟩)] w (DoPost w g F d kb K s n) := by
  obtain ⟨i0, hi, hz0, hz1, hz2⟩ := info_parts infoPair
  have hb0 := Blk.new w [.int .i64 7, .int .i64 a, .int .u64 v, .slice nA now.length ncap] 26
  have hC0 : Chg [] w (w.alloc (.cells #[.int .i64 7, .int .i64 a, .int .u64 v, .slice nA now.length ncap] 26)) := (Chg.refl _ _).alloc _
  have H0 := Lib.hid (h.look hC0)
  have HN0 := Lib.hid (hN.chg0 hC0)
  have HB0 := Lib.hid hb0
  have HC0 := Lib.hid hC0
  obtain ⟨ml, _⟩ := h.log.most
  have HA0 := Lib.hid hA0
  have hW0 : ∃ w0, w0 = w.alloc (.cells #[.int .i64 7, .int .i64 a, .int .u64 v, .slice nA now.length ncap] 26) := ⟨_, rfl⟩
  clear h hb0 hC0 hN hA0
  go_enter Try.func20, Try.ntmps20
  go_wp2_with fail
  refine (Twin_any _ nA ncap _ now (by omega) hcap HA0.out HN0.out).mono ?_
  obtain ⟨w0, hw0⟩ := hW0
  rw [← hw0] at H0 HB0 HC0 HN0 ⊢
  clear hw0
  rintro e w1 ⟨v1, rfl, hv1, hC1⟩
  have HV1 := Lib.hid hv1
  have HC1 := Lib.hid hC1
  have hs1 := hC1.size
  have hBx : Blk w1 w.heap.size [.int .i64 7, .int .i64 a, .int .u64 v, .slice nA now.length ncap] 26 := HC1.out.blk HB0.out (by simp)
  have HBx := Lib.hid hBx
  clear hv1 hC1 hBx
  go_wp2_with (first
    | (at_builtin; refine wpList_append_own_at _ rfl (.tmp 151) (.tmp 153) 24 rfl (w0.heap.size) 39 i0 (.agg #[.int .i64 0, .int .u64 0]) 2 16 Try.underlying24 hi hz0 hz1 hz2 rfl (by decide) _ _ _ rfl (HV1.out.alloc _) ⟨w1.heap.size, 0, none⟩ 1 1 [.int .i64 1, .int .u64 1] rfl rfl (cells_at (by simp) [.int .i64 1, .int .u64 1] _) (by simp [Value.oneCell']) (by unfold maxLen; omega) (by omega) (by first | omega | (simp; omega) | simp) ?_; intro va1 wa1 hown1 hgrow1 _ hblk1; have hsz1 := hgrow1.size; have HO1 := Lib.hid hown1; have HG1 := Lib.hid hgrow1; have HB1 := Lib.hid hblk1; clear hown1 hgrow1 hblk1; obtain ⟨g1, c1, hx1, hg1, hg2, hc1, hc2⟩ := ownsRow_posC HO1.out (by omega); subst hx1; have HC2 := Lib.hid ((HC1.out.alloc _).grew (HV1.out.alloc _) HG1.out (fun q h1 h2 => by omega)); have HBy := Lib.hid (((Chg.refl [] _).trans HC2.out).blk HB0.out (by simp)); have q3 : wa1.cell? ⟨w.heap.size, 3, none⟩ = some (.slice nA now.length ncap) := HBy.out.cell 3; have HRow := Lib.hid (row_snoc (p := (1, 1)) HO1.out)))
  have hR := Rd.lend encP_len HRow.out (show now.length + 1 = (now ++ [((1, 1) : Int × Int)]).length by simp)
  have HR := Lib.hid hR
  have hP2 := H0.out.look HC2.out
  have HP2 := Lib.hid hP2
  refine (Broken_any g F s.1 s.2 now (some ⟨g1, 0, none⟩) c1 wa1 (by unfold maxLen; omega) (NRd.of_rd hR.front) hP2.log).mono ?_
  clear hR hP2
  rintro e w2 ⟨rfl, hb2⟩
  have hC3 := Chg.of_below hb2 []
  have HC3 := Lib.hid hC3
  have HP3 := Lib.hid (HP2.out.look hC3)
  have HN3 := Lib.hid ((HN0.out.chg0 HC2.out).chg0 hC3)
  have q4 : w2.cell? ⟨w.heap.size, 3, none⟩ = some (.slice nA now.length ncap) := (hC3.blk HBy.out (by simp)).cell 3
  have HR3 := Lib.hid (HR.out.chg0 hC3)
  clear hb2 hC3
  have hB3 := BrokenR_any w2 (allN F d K) d s.1 s.2 now nA ncap _ ml (by omega) HN3.out HP3.out.doc
  have HBr := Lib.hid hB3
  clear hB3
  generalize brkI s.1 now = bi at *
  generalize (brk s.1 now).isSome = bs at *
  go_wp2_with fail
  refine HBr.out.mono ?_
  rintro e w3 ⟨rfl, rfl⟩
  go_wp2_with fail
  refine (Twin_any _ nA ncap _ now (by omega) hcap HA0.out HN3.out).mono ?_
  rintro e w3 ⟨v3, rfl, hv3, hC4⟩
  have HV3 := Lib.hid hv3
  have HC4 := Lib.hid hC4
  have hs3 := hC4.size
  clear hv3 hC4
  go_wp2_with (first
    | (at_builtin; refine wpList_append_g (by rfl) (.tmp 184) (.tmp 186) 24 rfl (w2.heap.size) 39 i0 (.agg #[.int .i64 0, .int .u64 0]) 2 16 Try.underlying24 hi hz0 hz1 hz2 rfl (by decide) _ _ _ rfl (HV3.out.alloc _) ⟨w3.heap.size, 0, none⟩ 1 1 [.int .i64 1, .int .u64 1] rfl rfl (cells_at (by simp) [.int .i64 1, .int .u64 1] _) (by simp [Value.oneCell']) (by unfold maxLen; omega) (by omega) (by first | omega | (simp; omega) | simp) ?_; intro va2 wa2 hown1 hgrow1; have hsz2 := hgrow1.size; have HO2 := Lib.hid hown1; have HG2 := Lib.hid hgrow1; clear hown1 hgrow1; obtain ⟨g3, c3, hx3, hg3, hg4, hc3, hc4⟩ := ownsRow_posC HO2.out (by omega); subst hx3; have HC5 := Lib.hid ((HC4.out.alloc _).grew (HV3.out.alloc _) HG2.out (fun q h1 h2 => by omega)); have HRow3 := Lib.hid (row_snoc (p := (1, 1)) HO2.out)))
  refine (SameP_n _ (some ⟨g1, 0, none⟩) (some ⟨g3, 0, none⟩) c1 c3 _ _ (now.length + 1) (now ++ [(1, 1)]) (by simp) (by simp; omega) (HR3.out.chg0 HC5.out) (Rd.lend encP_len HRow3.out (show now.length + 1 = (now ++ [((1, 1) : Int × Int)]).length by simp))).mono ?_
  rintro e w4 ⟨rfl, q, rfl⟩
  go_wp2_with fail
  go_ret
  exact ⟨rfl, F, K, n, (HP3.out.look HC5.out).look ((Chg.refl _ _).drewN _), Mv.of_same (((HC0.out.trans HC2.out).trans HC3.out).trans (HC5.out.trans ((Chg.refl _ _).drewN _))), by omega⟩

end Go.Proofs.Ytobpknbnfkjnhaa
