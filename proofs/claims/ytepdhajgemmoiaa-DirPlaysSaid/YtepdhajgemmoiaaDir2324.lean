/- Messages compared; hears. -/
import Derived.Test.YtepdhajgemmoiaaDir2122
import Derived.Test.YtepdhajgemmoiaaArr
/- Messages compared. -/
namespace Go.Proofs.Ytepdhajgemmoiaa
set_option linter.unusedSimpArgs false
set_option linter.unusedVariables false
set_option maxRecDepth 100000
open Go.RowKit

theorem Try.infoU64 : (Try.prog.info? 29).map (fun i => (i.zero, i.size, i.bytes)) = some (some (.int .u64 0), 1, 8) := by kernel_rfl
theorem Try.cellsU64 : Try.prog.cellsOf 29 = 1 := by kernel_rfl
theorem eq_line (w : World) (a0 a1 a2 a3 a4 a5 a6 a7 b0 b1 b2 b3 b4 b5 b6 b7 : Int) :
    (Op.equalIn 9999 31 (.agg #[.int .u64 a0, .int .u64 a1, .int .u64 a2, .int .u64 a3, .int .u64 a4, .int .u64 a5, .int .u64 a6, .int .u64 a7]) (.agg #[.int .u64 b0, .int .u64 b1, .int .u64 b2, .int .u64 b3, .int .u64 b4, .int .u64 b5, .int .u64 b6, .int .u64 b7])).run Try.prog w = .ok (eqInts [a0, a1, a2, a3, a4, a5, a6, a7] [b0, b1, b2, b3, b4, b5, b6, b7]) w := by
  obtain ⟨i0, hi, _⟩ := info_parts Try.infoU64
  exact run_eq_array w 9997 (k := .u64) Try.underlying31 hi Try.cellsU64 Try.underlying29 [a0, a1, a2, a3, a4, a5, a6, a7] [b0, b1, b2, b3, b4, b5, b6, b7] rfl rfl
theorem eq_msg (w : World) (a b : MsgV) :
    (Op.equalIn 10000 33 a.val b.val).run Try.prog w = .ok (decide (a.k = b.k) && (decide (a.c = b.c) && (decide (a.l = b.l) && eqInts [a.d.x0, a.d.x1, a.d.x2, a.d.x3, a.d.x4, a.d.x5, a.d.x6, a.d.x7] [b.d.x0, b.d.x1, b.d.x2, b.d.x3, b.d.x4, b.d.x5, b.d.x6, b.d.x7]))) w := by
  simp only [MsgV.val]
  rw [run_equalIn_struct w 9999 _ _ _ (by kernel_rfl) (by kernel_rfl)]
  simp only [Program.fieldsOf, Try.underlying33]
  simp [Op.eqFields, part, isAgg, run_underlying Try.underlying3, run_underlying Try.underlying31, run_equalIn_int _ _ _ _ _ _ _ Try.underlying3]
  rw [eq_line]
  simp only [Result.andThen_ok]
  by_cases h1 : a.k = b.k <;> by_cases h2 : a.c = b.c <;> by_cases h3 : a.l = b.l <;> simp only [h1, h2, h3, if_true, if_false, decide_true, decide_false, Bool.true_and, Bool.false_and]
  generalize eqInts _ _ = q
  cases q <;> simp
deriving instance DecidableEq for L8
deriving instance DecidableEq for MsgV
theorem eq_msg2 (w : World) (a b : MsgV) : (Op.equalIn 10000 33 a.val b.val).run Try.prog w = .ok (decide (a = b)) w := by
  rw [eq_msg]
  congr 1
  obtain ⟨k, c, l, d⟩ := a
  obtain ⟨k2, c2, l2, d2⟩ := b
  obtain ⟨x0, x1, x2, x3, x4, x5, x6, x7⟩ := d
  obtain ⟨y0, y1, y2, y3, y4, y5, y6, y7⟩ := d2
  rw [Bool.eq_iff_iff]
  simp [eqInts]
end Go.Proofs.Ytepdhajgemmoiaa

/- The law's hears. -/
namespace Go.Proofs.Ytepdhajgemmoiaa
set_option linter.unusedSimpArgs false
set_option linter.unusedVariables false
set_option maxRecDepth 100000
open Go.RowKit

def HsRel (W : World) (out want : List MsgV) (s : Value) (wr : World) : Prop := ∃ k : Nat, k ≤ out.length ∧ s = .int .i64 k ∧ Chg [] W wr ∧ ∀ (j : Nat) (h1 : j < out.length) (h2 : j < want.length), j < k → out[j] = want[j]

set_option maxHeartbeats 4000000 in
theorem hears_any (w : World) (d bm bw bl n : Nat) (cores : Int) (ws : List Int) (es ks : List EntV) (m : MsgV) (B : Option Addr) (capw : Nat) (want : List MsgV) (hwl : want.length ≤ 1000) (hR : Rd w w.heap.size B 11 encM want) (hRd : ∀ a, B = some a → a.block ∉ dirB bw bl es) (K : Knows w d bm bw bl n cores ws es ks) :
    Calls Try.prog 8 #[.pointer (some ⟨d, 0, none⟩), .agg #[.int .i64 m.k, .int .i64 m.c, .int .i64 m.l, .int .u64 m.d.x0, .int .u64 m.d.x1, .int .u64 m.d.x2, .int .u64 m.d.x3, .int .u64 m.d.x4, .int .u64 m.d.x5, .int .u64 m.d.x6, .int .u64 m.d.x7], .slice B want.length capw] w
      fun e w' => ∃ es', e = .returned (.bool (decide ((hearS n cores ws ks m).2.2.2 = 0 ∧ (hearS n cores ws ks m).2.2.1 = want))) ∧ DirPost w w' d bm bw bl n cores es (hearS n cores ws ks m).1 es' ∧ Knows w' d bm bw bl n cores (hearS n cores ws ks m).1 es' (hearS n cores ws ks m).2.1 := by
  have hk : Chg [] w (w.alloc (.cells #[.int .i64 m.k, .int .i64 m.c, .int .i64 m.l, .int .u64 m.d.x0, .int .u64 m.d.x1, .int .u64 m.d.x2, .int .u64 m.d.x3, .int .u64 m.d.x4, .int .u64 m.d.x5, .int .u64 m.d.x6, .int .u64 m.d.x7] 33)) := (Chg.refl [] w).alloc _
  have hH := Lib.hid (hear_any _ d bm bw bl n cores ws es ks m (K.look hk))
  have HP0 := Lib.hid (DirPost.look K.D hk)
  have HR := Lib.hid hR
  have HRd := Lib.hid hRd
  clear K hk hR hRd
  generalize hearS n cores ws ks m = r at *
  obtain ⟨ws', ks', out, err⟩ := r
  dsimp only at *
  go_enter Try.func8, Try.ntmps8
  go_wp2_with fail
  refine hH.out.mono ?_
  rintro e w1 ⟨es', ⟨v, rfl, hO, hs, hP⟩, hK⟩
  obtain ⟨A, cap, rfl, hcap, hmx, _⟩ := ownsRow_cell hO
  have HO := Lib.hid hO
  have HP := Lib.hid (HP0.out.trans hP); have HK := Lib.hid hK
  clear hO hs hP hK hH HP0
  by_cases he : err = 0
  · by_cases hl : out.length = want.length
    · have HRw := Lib.hid (HR.out.chg HP.out.chg HRd.out)
      obtain ⟨A', cap', hv', _, _, _, hRo, _⟩ := Rd.of_row encM_len HO.out
      obtain ⟨rfl, rfl⟩ : A = A' ∧ cap = cap' := by simpa using hv'
      have HRo := Lib.hid hRo
      clear hv' hRo HO
      go_wp2_with fail
      go_loopw [9] (fun s wr => HsRel w1 out want s wr) (fun s _ => want.length - (intOf s).toNat)
      case atStart => exact ⟨0, Nat.zero_le _, rfl, Chg.refl _ _, fun j _ _ h => by omega⟩
      case round =>
      obtain ⟨k, hk, rfl, hC, hq⟩ := hrel
      have HC := Lib.hid hC
      have HQ := Lib.hid hq
      clear hC hq
      by_cases hlt : k < out.length
      · have hlt2 : k < want.length := by omega
        obtain ⟨b1, o1, rfl, hb1, cp⟩ := (HRo.out.chg0 HC.out) (by omega)
        obtain ⟨b2, o2, rfl, hb2, cq⟩ := (HRw.out.chg0 HC.out) (by omega)
        have p0 : wr.cell? ⟨b1, o1 + k * 11, none⟩ = some (.int .i64 out[k].k) := cp k hlt 0 (by decide)
        have p1 : wr.cell? ⟨b1, o1 + k * 11 + 1, none⟩ = some (.int .i64 out[k].c) := cp k hlt 1 (by decide)
        have p2 : wr.cell? ⟨b1, o1 + k * 11 + 2, none⟩ = some (.int .i64 out[k].l) := cp k hlt 2 (by decide)
        have p3 : wr.cell? ⟨b1, o1 + k * 11 + 3, none⟩ = some (.int .u64 out[k].d.x0) := cp k hlt 3 (by decide)
        have p4 : wr.cell? ⟨b1, o1 + k * 11 + 4, none⟩ = some (.int .u64 out[k].d.x1) := cp k hlt 4 (by decide)
        have p5 : wr.cell? ⟨b1, o1 + k * 11 + 5, none⟩ = some (.int .u64 out[k].d.x2) := cp k hlt 5 (by decide)
        have p6 : wr.cell? ⟨b1, o1 + k * 11 + 6, none⟩ = some (.int .u64 out[k].d.x3) := cp k hlt 6 (by decide)
        have p7 : wr.cell? ⟨b1, o1 + k * 11 + 7, none⟩ = some (.int .u64 out[k].d.x4) := cp k hlt 7 (by decide)
        have p8 : wr.cell? ⟨b1, o1 + k * 11 + 8, none⟩ = some (.int .u64 out[k].d.x5) := cp k hlt 8 (by decide)
        have p9 : wr.cell? ⟨b1, o1 + k * 11 + 9, none⟩ = some (.int .u64 out[k].d.x6) := cp k hlt 9 (by decide)
        have p10 : wr.cell? ⟨b1, o1 + k * 11 + 10, none⟩ = some (.int .u64 out[k].d.x7) := cp k hlt 10 (by decide)
        have q0 : wr.cell? ⟨b2, o2 + k * 11, none⟩ = some (.int .i64 want[k].k) := cq k hlt2 0 (by decide)
        have q1 : wr.cell? ⟨b2, o2 + k * 11 + 1, none⟩ = some (.int .i64 want[k].c) := cq k hlt2 1 (by decide)
        have q2 : wr.cell? ⟨b2, o2 + k * 11 + 2, none⟩ = some (.int .i64 want[k].l) := cq k hlt2 2 (by decide)
        have q3 : wr.cell? ⟨b2, o2 + k * 11 + 3, none⟩ = some (.int .u64 want[k].d.x0) := cq k hlt2 3 (by decide)
        have q4 : wr.cell? ⟨b2, o2 + k * 11 + 4, none⟩ = some (.int .u64 want[k].d.x1) := cq k hlt2 4 (by decide)
        have q5 : wr.cell? ⟨b2, o2 + k * 11 + 5, none⟩ = some (.int .u64 want[k].d.x2) := cq k hlt2 5 (by decide)
        have q6 : wr.cell? ⟨b2, o2 + k * 11 + 6, none⟩ = some (.int .u64 want[k].d.x3) := cq k hlt2 6 (by decide)
        have q7 : wr.cell? ⟨b2, o2 + k * 11 + 7, none⟩ = some (.int .u64 want[k].d.x4) := cq k hlt2 7 (by decide)
        have q8 : wr.cell? ⟨b2, o2 + k * 11 + 8, none⟩ = some (.int .u64 want[k].d.x5) := cq k hlt2 8 (by decide)
        have q9 : wr.cell? ⟨b2, o2 + k * 11 + 9, none⟩ = some (.int .u64 want[k].d.x6) := cq k hlt2 9 (by decide)
        have q10 : wr.cell? ⟨b2, o2 + k * 11 + 10, none⟩ = some (.int .u64 want[k].d.x7) := cq k hlt2 10 (by decide)
        clear cp cq
        by_cases hkk : out[k] = want[k]
        · have hqe : ∀ W, (Op.equalIn 10000 33 (.agg #[.int .i64 out[k].k, .int .i64 out[k].c, .int .i64 out[k].l, .int .u64 out[k].d.x0, .int .u64 out[k].d.x1, .int .u64 out[k].d.x2, .int .u64 out[k].d.x3, .int .u64 out[k].d.x4, .int .u64 out[k].d.x5, .int .u64 out[k].d.x6, .int .u64 out[k].d.x7]) (.agg #[.int .i64 want[k].k, .int .i64 want[k].c, .int .i64 want[k].l, .int .u64 want[k].d.x0, .int .u64 want[k].d.x1, .int .u64 want[k].d.x2, .int .u64 want[k].d.x3, .int .u64 want[k].d.x4, .int .u64 want[k].d.x5, .int .u64 want[k].d.x6, .int .u64 want[k].d.x7])).run Try.prog W = .ok true W := fun W => (eq_msg2 W out[k] want[k]).trans (by rw [decide_eq_true hkk])
          have HKK := Lib.hid hkk
          clear hkk
          go_wp2_with fail
          go_quiet (fail)
          go_wp2_with fail
          go_roundw
          case rel => exact ⟨k + 1, by omega, by go_num, HC.out.drewN _, fun j h1 h2 h3 => if h : j = k then by subst h; exact HKK.out else HQ.out j h1 h2 (by omega)⟩
          case measure => simp [intOf]; omega
        · have hqe : ∀ W, (Op.equalIn 10000 33 (.agg #[.int .i64 out[k].k, .int .i64 out[k].c, .int .i64 out[k].l, .int .u64 out[k].d.x0, .int .u64 out[k].d.x1, .int .u64 out[k].d.x2, .int .u64 out[k].d.x3, .int .u64 out[k].d.x4, .int .u64 out[k].d.x5, .int .u64 out[k].d.x6, .int .u64 out[k].d.x7]) (.agg #[.int .i64 want[k].k, .int .i64 want[k].c, .int .i64 want[k].l, .int .u64 want[k].d.x0, .int .u64 want[k].d.x1, .int .u64 want[k].d.x2, .int .u64 want[k].d.x3, .int .u64 want[k].d.x4, .int .u64 want[k].d.x5, .int .u64 want[k].d.x6, .int .u64 want[k].d.x7])).run Try.prog W = .ok false W := fun W => (eq_msg2 W out[k] want[k]).trans (by rw [decide_eq_false hkk])
          have HKK := Lib.hid hkk
          clear hkk
          go_wp2_with fail
          go_quiet (fail)
          go_wp2_with fail
          go_ret
          refine ⟨es', ret_bool ?_, HP.out.trans (DirPost.look HK.out.D (HC.out.drewN _)), HK.out.look (HC.out.drewN _)⟩
          have hne : ¬ out = want := fun h => HKK.out (by simp only [h])
          simp [he, hne]
      · obtain rfl : k = out.length := by omega
        go_wp2_with fail
        go_ret
        refine ⟨es', ret_bool ?_, HP.out.trans (DirPost.look HK.out.D HC.out), HK.out.look HC.out⟩
        have := List.ext_getElem hl (fun j h1 h2 => HQ.out j h1 h2 h1)
        simp [he, this]
    · go_wp2_with fail
      go_ret
      exact ⟨es', ret_bool (by simp [he]; intro h; exact hl (by rw [h])), HP.out, HK.out⟩
  · go_wp2_with fail
    go_ret
    exact ⟨es', ret_bool (by simp [he]), HP.out, HK.out⟩
end Go.Proofs.Ytepdhajgemmoiaa

