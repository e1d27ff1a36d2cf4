/- The reference's directory hears: RecallAck, RecallNone, Unblock. -/
import Derived.Test.YtepdhajgemmoiaaRD9
/- The reference's directory hears: RecallAck. -/

namespace Go.Proofs.Ytepdhajgemmoiaa
set_option linter.unusedSimpArgs false
set_option linter.unusedVariables false
set_option maxRecDepth 100000
set_option linter.unusedSimpArgs false
set_option linter.unusedVariables false
open Go.RowKit
attribute [local go_sem ↓] load_E store_E
attribute [local go_sem] bigOk_E bigVal_E bigFree_E bigPut_E bigNew putAll_drew Value.oneCell'


set_option maxHeartbeats 8000000 in
theorem rHear_5 (w : World) (N : List Nat) (d bL bW n capL : Nat) (cores : Int) (ws : List Int) (rs : List RE) (i : Nat) (hi : i < rs.length) (hN : ∀ x ∈ N, x < w.heap.size) (hsl : rs[i].sh.length ≤ 1000) (hal : rs[i].ak.length ≤ 1000) (hwl : rs[i].wl.length ≤ 900) (m : MsgV) (hk : m.k = 5) (hm : m.l = (i : Int)) (hc : 0 ≤ m.c ∧ m.c < cores) (H : RDAt w N d bL bW n capL cores ws rs) :
    Calls Try.prog 21 #[.pointer (some ⟨d, 0, none⟩), m.val] w (RHPost w N d bL bW n capL cores rs i (hearV n ws rs[i].toV i m)) := by
  have hlt := H.lt
  have hne := H.ne
  have hln := H.len
  have h64 := H.small
  obtain ⟨x, hx⟩ : ∃ x, rs[i] = x := ⟨_, rfl⟩
  have HX := Lib.hid hx; have HN := Lib.hid hN
  have HG := Lib.hid (fun W N' ws' rs' (hi' : i < rs'.length) hN' hs' K' => rgrant_any W N' d bL bW n capL cores ws' rs' i hi' hN' hs' K')
  have HBg := Lib.hid (fun W N' rs' (hi' : i < rs'.length) hN' hs' m' hm' K' => rbegin_any W N' d bL bW n capL cores ws rs' i hi' hN' hs' m' hm' K')
  have hin : (i : Int) < n := by omega
  have hi0 : (0 : Int) ≤ i := Int.natCast_nonneg _
  rw [hx] at hsl hal hwl ⊢
  clear hN
  have HH := Lib.hid H
  obtain ⟨mk, mc, ml, ⟨m0, m1, m2, m3, m4, m5, m6, m7⟩⟩ := m
  simp only at hm hc hk
  subst hm; subst hk
  have hc0 := hc.1; have hc1 := hc.2
  clear hc
  unfold MsgV.val
  simp only
  have HAL := Lib.hid hal; have HWL := Lib.hid hwl; have HSL0 := Lib.hid hsl
  clear hal hwl hsl
  have hal : Chg [] w (w.alloc (.cells #[.int .i64 5, .int .i64 mc, .int .i64 (i : Int), .int .u64 m0, .int .u64 m1, .int .u64 m2, .int .u64 m3, .int .u64 m4, .int .u64 m5, .int .u64 m6, .int .u64 m7] 33)) := (Chg.refl [] w).alloc _
  have HB3 := Lib.hid (Blk.new w [.int .i64 5, .int .i64 mc, .int .i64 (i : Int), .int .u64 m0, .int .u64 m1, .int .u64 m2, .int .u64 m3, .int .u64 m4, .int .u64 m5, .int .u64 m6, .int .u64 m7] 33)
  have HL := Lib.hid (H.look hal)
  have HC := Lib.hid hal
  clear H hx hal
  go_enter Try.func21, Try.ntmps21
  go_upto_region 1 with fail
  generalize World.alloc _ _ = w1 at *
  obtain ⟨b3, hb3⟩ : ∃ q, w.heap.size = q := ⟨_, rfl⟩
  rw [hb3] at HB3 hlt ⊢
  have Hb3 := Lib.hid hb3
  clear hb3
  have n3 : b3 ≠ bL := by omega
  have d1 : w1.cell? ⟨d, 1, none⟩ = some (.int .i64 cores) := HL.out.blk.cell 1
  have d2 : w1.cell? ⟨d, 2, none⟩ = some (.slice (some ⟨bL, 0, none⟩) n capL) := HL.out.blk.cell 2
  have lts := HL.out.lt
  have b3lt : b3 < w1.heap.size := HB3.out.lt
  have y1 : w1.cell? ⟨b3, 1, none⟩ = some (.int .i64 mc) := HB3.out.cell 1
  have y2 : w1.cell? ⟨b3, 2, none⟩ = some (.int .i64 (i : Int)) := HB3.out.cell 2
  go_quiet (fail)
  go_upto_region 3 with fail
  have HL1 := Lib.hid (HL.out.look ((Chg.refl [] w1).drewN nq))
  have HC1 := Lib.hid (HC.out.drewN nq)
  replace HB3 := Lib.hid (HB3.out.drewN nq)
  clear HL HC lts d1 d2 b3lt y1 y2
  generalize World.drewN _ _ = w2 at *
  have d2 : w2.cell? ⟨d, 2, none⟩ = some (.slice (some ⟨bL, 0, none⟩) n capL) := HL1.out.blk.cell 2
  have lts := HL1.out.lt
  have b3lt : b3 < w2.heap.size := HB3.out.lt
  have y2 : w2.cell? ⟨b3, 2, none⟩ = some (.int .i64 (i : Int)) := HB3.out.cell 2
  have e0 : w2.cell? ⟨bL, i * 17, none⟩ = some (.int .i64 x.ow) := by have := HL1.out.cell hi (j := 0) (by decide); rw [HX.out] at this; exact this
  have e1 : w2.cell? ⟨bL, i * 17 + 1, none⟩ = some (.slice x.shA x.sh.length x.shc) := by have := HL1.out.cell hi (j := 1) (by decide); rw [HX.out] at this; exact this
  have e2 : w2.cell? ⟨bL, i * 17 + 2, none⟩ = some (.int .i64 x.un.k) := by have := HL1.out.cell hi (j := 2) (by decide); rw [HX.out] at this; exact this
  have e3 : w2.cell? ⟨bL, i * 17 + 3, none⟩ = some (.int .i64 x.un.c) := by have := HL1.out.cell hi (j := 3) (by decide); rw [HX.out] at this; exact this
  have e4 : w2.cell? ⟨bL, i * 17 + 4, none⟩ = some (.int .i64 x.un.l) := by have := HL1.out.cell hi (j := 4) (by decide); rw [HX.out] at this; exact this
  have e5 : w2.cell? ⟨bL, i * 17 + 5, none⟩ = some (.int .u64 x.un.d.x0) := by have := HL1.out.cell hi (j := 5) (by decide); rw [HX.out] at this; exact this
  have e6 : w2.cell? ⟨bL, i * 17 + 6, none⟩ = some (.int .u64 x.un.d.x1) := by have := HL1.out.cell hi (j := 6) (by decide); rw [HX.out] at this; exact this
  have e7 : w2.cell? ⟨bL, i * 17 + 7, none⟩ = some (.int .u64 x.un.d.x2) := by have := HL1.out.cell hi (j := 7) (by decide); rw [HX.out] at this; exact this
  have e8 : w2.cell? ⟨bL, i * 17 + 8, none⟩ = some (.int .u64 x.un.d.x3) := by have := HL1.out.cell hi (j := 8) (by decide); rw [HX.out] at this; exact this
  have e9 : w2.cell? ⟨bL, i * 17 + 9, none⟩ = some (.int .u64 x.un.d.x4) := by have := HL1.out.cell hi (j := 9) (by decide); rw [HX.out] at this; exact this
  have e10 : w2.cell? ⟨bL, i * 17 + 10, none⟩ = some (.int .u64 x.un.d.x5) := by have := HL1.out.cell hi (j := 10) (by decide); rw [HX.out] at this; exact this
  have e11 : w2.cell? ⟨bL, i * 17 + 11, none⟩ = some (.int .u64 x.un.d.x6) := by have := HL1.out.cell hi (j := 11) (by decide); rw [HX.out] at this; exact this
  have e12 : w2.cell? ⟨bL, i * 17 + 12, none⟩ = some (.int .u64 x.un.d.x7) := by have := HL1.out.cell hi (j := 12) (by decide); rw [HX.out] at this; exact this
  have e13 : w2.cell? ⟨bL, i * 17 + 13, none⟩ = some (.int .i64 x.ph) := by have := HL1.out.cell hi (j := 13) (by decide); rw [HX.out] at this; exact this
  have e14 : w2.cell? ⟨bL, i * 17 + 14, none⟩ = some (.slice x.akA x.ak.length x.akc) := by have := HL1.out.cell hi (j := 14) (by decide); rw [HX.out] at this; exact this
  have e15 : w2.cell? ⟨bL, i * 17 + 15, none⟩ = some (.int .i64 x.asked) := by have := HL1.out.cell hi (j := 15) (by decide); rw [HX.out] at this; exact this
  have e16 : w2.cell? ⟨bL, i * 17 + 16, none⟩ = some (.slice x.wtA x.wl.length x.wtc) := by have := HL1.out.cell hi (j := 16) (by decide); rw [HX.out] at this; exact this
  have HSk : Hid (∀ V, Chg [] w2 V → (V.cell? ⟨d, 2, none⟩ = some (.slice (some ⟨bL, 0, none⟩) n capL) ∧ V.cell? ⟨b3, 2, none⟩ = some (.int .i64 (i : Int)) ∧ V.cell? ⟨bL, i * 17, none⟩ = some (.int .i64 x.ow) ∧ V.cell? ⟨bL, i * 17 + 1, none⟩ = some (.slice x.shA x.sh.length x.shc) ∧ V.cell? ⟨bL, i * 17 + 2, none⟩ = some (.int .i64 x.un.k) ∧ V.cell? ⟨bL, i * 17 + 3, none⟩ = some (.int .i64 x.un.c) ∧ V.cell? ⟨bL, i * 17 + 4, none⟩ = some (.int .i64 x.un.l) ∧ V.cell? ⟨bL, i * 17 + 5, none⟩ = some (.int .u64 x.un.d.x0) ∧ V.cell? ⟨bL, i * 17 + 6, none⟩ = some (.int .u64 x.un.d.x1) ∧ V.cell? ⟨bL, i * 17 + 7, none⟩ = some (.int .u64 x.un.d.x2) ∧ V.cell? ⟨bL, i * 17 + 8, none⟩ = some (.int .u64 x.un.d.x3) ∧ V.cell? ⟨bL, i * 17 + 9, none⟩ = some (.int .u64 x.un.d.x4) ∧ V.cell? ⟨bL, i * 17 + 10, none⟩ = some (.int .u64 x.un.d.x5) ∧ V.cell? ⟨bL, i * 17 + 11, none⟩ = some (.int .u64 x.un.d.x6) ∧ V.cell? ⟨bL, i * 17 + 12, none⟩ = some (.int .u64 x.un.d.x7) ∧ V.cell? ⟨bL, i * 17 + 13, none⟩ = some (.int .i64 x.ph) ∧ V.cell? ⟨bL, i * 17 + 14, none⟩ = some (.slice x.akA x.ak.length x.akc) ∧ V.cell? ⟨bL, i * 17 + 15, none⟩ = some (.int .i64 x.asked) ∧ V.cell? ⟨bL, i * 17 + 16, none⟩ = some (.slice x.wtA x.wl.length x.wtc))) := Lib.hid (fun V k => ⟨(k.cell0 lts.1 _).trans d2, (k.cell0 b3lt _).trans y2, (k.cell0 lts.2.1 _).trans e0, (k.cell0 lts.2.1 _).trans e1, (k.cell0 lts.2.1 _).trans e2, (k.cell0 lts.2.1 _).trans e3, (k.cell0 lts.2.1 _).trans e4, (k.cell0 lts.2.1 _).trans e5, (k.cell0 lts.2.1 _).trans e6, (k.cell0 lts.2.1 _).trans e7, (k.cell0 lts.2.1 _).trans e8, (k.cell0 lts.2.1 _).trans e9, (k.cell0 lts.2.1 _).trans e10, (k.cell0 lts.2.1 _).trans e11, (k.cell0 lts.2.1 _).trans e12, (k.cell0 lts.2.1 _).trans e13, (k.cell0 lts.2.1 _).trans e14, (k.cell0 lts.2.1 _).trans e15, (k.cell0 lts.2.1 _).trans e16⟩)
  go_region_held3 (fun V => V.cell? ⟨d, 2, none⟩ = some (.slice (some ⟨bL, 0, none⟩) n capL) ∧ V.cell? ⟨b3, 2, none⟩ = some (.int .i64 (i : Int)) ∧ V.cell? ⟨bL, i * 17, none⟩ = some (.int .i64 x.ow) ∧ V.cell? ⟨bL, i * 17 + 1, none⟩ = some (.slice x.shA x.sh.length x.shc) ∧ V.cell? ⟨bL, i * 17 + 2, none⟩ = some (.int .i64 x.un.k) ∧ V.cell? ⟨bL, i * 17 + 3, none⟩ = some (.int .i64 x.un.c) ∧ V.cell? ⟨bL, i * 17 + 4, none⟩ = some (.int .i64 x.un.l) ∧ V.cell? ⟨bL, i * 17 + 5, none⟩ = some (.int .u64 x.un.d.x0) ∧ V.cell? ⟨bL, i * 17 + 6, none⟩ = some (.int .u64 x.un.d.x1) ∧ V.cell? ⟨bL, i * 17 + 7, none⟩ = some (.int .u64 x.un.d.x2) ∧ V.cell? ⟨bL, i * 17 + 8, none⟩ = some (.int .u64 x.un.d.x3) ∧ V.cell? ⟨bL, i * 17 + 9, none⟩ = some (.int .u64 x.un.d.x4) ∧ V.cell? ⟨bL, i * 17 + 10, none⟩ = some (.int .u64 x.un.d.x5) ∧ V.cell? ⟨bL, i * 17 + 11, none⟩ = some (.int .u64 x.un.d.x6) ∧ V.cell? ⟨bL, i * 17 + 12, none⟩ = some (.int .u64 x.un.d.x7) ∧ V.cell? ⟨bL, i * 17 + 13, none⟩ = some (.int .i64 x.ph) ∧ V.cell? ⟨bL, i * 17 + 14, none⟩ = some (.slice x.akA x.ak.length x.akc) ∧ V.cell? ⟨bL, i * 17 + 15, none⟩ = some (.int .i64 x.asked) ∧ V.cell? ⟨bL, i * 17 + 16, none⟩ = some (.slice x.wtA x.wl.length x.wtc)) (exact HSk.out _ (by repeat (first | with_reducible exact Chg.refl _ _ | with_reducible refine Chg.drew ?_ | with_reducible refine Chg.alloc ?_ _ | with_reducible refine Chg.setCell ?_ (fun h => absurd h (Nat.lt_irrefl _)) _))) (fail)
  have hal := ((Chg.refl [] w2).alloc (.cells #[.int .i64 x.ow, .slice x.shA x.sh.length x.shc, .int .i64 x.un.k, .int .i64 x.un.c, .int .i64 x.un.l, .int .u64 x.un.d.x0, .int .u64 x.un.d.x1, .int .u64 x.un.d.x2, .int .u64 x.un.d.x3, .int .u64 x.un.d.x4, .int .u64 x.un.d.x5, .int .u64 x.un.d.x6, .int .u64 x.un.d.x7, .int .i64 x.ph, .slice x.akA x.ak.length x.akc, .int .i64 x.asked, .slice x.wtA x.wl.length x.wtc] 99)).drew
  have HB6 := Lib.hid ((Blk.new w2 [.int .i64 x.ow, .slice x.shA x.sh.length x.shc, .int .i64 x.un.k, .int .i64 x.un.c, .int .i64 x.un.l, .int .u64 x.un.d.x0, .int .u64 x.un.d.x1, .int .u64 x.un.d.x2, .int .u64 x.un.d.x3, .int .u64 x.un.d.x4, .int .u64 x.un.d.x5, .int .u64 x.un.d.x6, .int .u64 x.un.d.x7, .int .i64 x.ph, .slice x.akA x.ak.length x.akc, .int .i64 x.asked, .slice x.wtA x.wl.length x.wtc] 99).drew)
  have HL3 := Lib.hid (HL1.out.look hal)
  have HC3 := Lib.hid ((HC1.out.mono (T := [bL, bW]) (by simp)).trans (hal.mono (by simp)))
  replace HB3 := Lib.hid (hal.blk HB3.out (by simp))
  have hs2 : w.heap.size ≤ w2.heap.size := HC1.out.size
  rename_i hHeld
  clear hal HL1 HC1 HSk hHeld d2 y2 e0 e1 e2 e3 e4 e5 e6 e7 e8 e9 e10 e11 e12 e13 e14 e15 e16
  generalize World.drew _ = w3 at *
  obtain ⟨b6, hb6⟩ : ∃ q, w2.heap.size = q := ⟨_, rfl⟩
  rw [hb6] at HB6 lts b3lt hs2 ⊢
  clear hb6
  rw [Hb3.out] at hs2
  have n6 : b6 ≠ bL := by omega
  have n3W : b3 ≠ bW := by omega
  have n6W : b6 ≠ bW := by omega
  have ndL : d ≠ bL := hne.1
  have ndW : d ≠ bW := hne.2.1
  have nLW : bL ≠ bW := hne.2.2
  have hF3 : FzR w3 N x := by have := HL3.out.fz i hi; rw [HX.out] at this; exact this
  have HF3 := Lib.hid hF3
  have HN3 : Hid (∀ y ∈ N, y < w3.heap.size) := Lib.hid (fun y hy => Nat.lt_of_lt_of_le (HN.out y hy) HC3.out.size)
  have l3 := HL3.out.lt
  have b3lt3 : b3 < w3.heap.size := HB3.out.lt
  have b6lt3 : b6 < w3.heap.size := HB6.out.lt
  clear lts b3lt hF3
  have d2 : w3.cell? ⟨d, 2, none⟩ = some (.slice (some ⟨bL, 0, none⟩) n capL) := HL3.out.blk.cell 2
  have y0 : w3.cell? ⟨b3, 0, none⟩ = some (.int .i64 5) := HB3.out.cell 0
  have y1 : w3.cell? ⟨b3, 1, none⟩ = some (.int .i64 mc) := HB3.out.cell 1
  have y2 : w3.cell? ⟨b3, 2, none⟩ = some (.int .i64 (i : Int)) := HB3.out.cell 2
  have k0 : w3.cell? ⟨b6, 0, none⟩ = some (.int .i64 x.ow) := HB6.out.cell 0
  have k13 : w3.cell? ⟨b6, 13, none⟩ = some (.int .i64 x.ph) := HB6.out.cell 13
  by_cases hp : x.ph = 2
  · rw [hp] at k13
    by_cases ha : x.ow = mc
    · rw [ha] at k0
      have HP := Lib.hid hp; have HA := Lib.hid ha
      have lk := HL3.out.lt
      have b3k : b3 < w3.heap.size := HB3.out.lt
      have HSet := Lib.hid (fun V (k : Chg [] w3 V) => rfSet_any V d bW n ws (i : Int) m0 m1 m2 m3 m4 m5 m6 m7 (HL3.out.look k).mem)
      have y3 : w3.cell? ⟨b3, 3, none⟩ = some (.int .u64 m0) := HB3.out.cell 3
      have y4 : w3.cell? ⟨b3, 4, none⟩ = some (.int .u64 m1) := HB3.out.cell 4
      have y5 : w3.cell? ⟨b3, 5, none⟩ = some (.int .u64 m2) := HB3.out.cell 5
      have y6 : w3.cell? ⟨b3, 6, none⟩ = some (.int .u64 m3) := HB3.out.cell 6
      have y7 : w3.cell? ⟨b3, 7, none⟩ = some (.int .u64 m4) := HB3.out.cell 7
      have y8 : w3.cell? ⟨b3, 8, none⟩ = some (.int .u64 m5) := HB3.out.cell 8
      have y9 : w3.cell? ⟨b3, 9, none⟩ = some (.int .u64 m6) := HB3.out.cell 9
      have y10 : w3.cell? ⟨b3, 10, none⟩ = some (.int .u64 m7) := HB3.out.cell 10
      have HSk : Hid (∀ V, Chg [bW] w3 V → (V.cell? ⟨b3, 2, none⟩ = some (.int .i64 (i : Int)) ∧ V.cell? ⟨b3, 3, none⟩ = some (.int .u64 m0) ∧ V.cell? ⟨b3, 4, none⟩ = some (.int .u64 m1) ∧ V.cell? ⟨b3, 5, none⟩ = some (.int .u64 m2) ∧ V.cell? ⟨b3, 6, none⟩ = some (.int .u64 m3) ∧ V.cell? ⟨b3, 7, none⟩ = some (.int .u64 m4) ∧ V.cell? ⟨b3, 8, none⟩ = some (.int .u64 m5) ∧ V.cell? ⟨b3, 9, none⟩ = some (.int .u64 m6) ∧ V.cell? ⟨b3, 10, none⟩ = some (.int .u64 m7))) := Lib.hid (fun V k => ⟨(k.cell b3k (by simpa using n3W) _).trans y2, (k.cell b3k (by simpa using n3W) _).trans y3, (k.cell b3k (by simpa using n3W) _).trans y4, (k.cell b3k (by simpa using n3W) _).trans y5, (k.cell b3k (by simpa using n3W) _).trans y6, (k.cell b3k (by simpa using n3W) _).trans y7, (k.cell b3k (by simpa using n3W) _).trans y8, (k.cell b3k (by simpa using n3W) _).trans y9, (k.cell b3k (by simpa using n3W) _).trans y10⟩)
      go_upto_region 26 with fail
      go_region_held3 (fun V => V.cell? ⟨b3, 2, none⟩ = some (.int .i64 (i : Int)) ∧ V.cell? ⟨b3, 3, none⟩ = some (.int .u64 m0) ∧ V.cell? ⟨b3, 4, none⟩ = some (.int .u64 m1) ∧ V.cell? ⟨b3, 5, none⟩ = some (.int .u64 m2) ∧ V.cell? ⟨b3, 6, none⟩ = some (.int .u64 m3) ∧ V.cell? ⟨b3, 7, none⟩ = some (.int .u64 m4) ∧ V.cell? ⟨b3, 8, none⟩ = some (.int .u64 m5) ∧ V.cell? ⟨b3, 9, none⟩ = some (.int .u64 m6) ∧ V.cell? ⟨b3, 10, none⟩ = some (.int .u64 m7)) (first | exact HSk.out _ (by repeat (first | with_reducible exact Chg.refl _ _ | with_reducible exact HKb.out | with_reducible refine Chg.drew ?_))) (first | (go_at_call 20; refine (HSet.out _ ((Chg.refl [] _).drew)).mono ?_; rintro e wk ⟨rfl, hmk, hkk⟩; have HKb : Hid (Chg [bW] w3 wk) := Lib.hid ((((Chg.refl [] w3).drew).mono (by simp)).trans hkk); have HMk := Lib.hid hmk; clear hkk hmk) | fail)
      have HLk := Lib.hid (RDAt.turn HL3.out HKb.out HMk.out)
      have HCk := Lib.hid (HC3.out.trans (HKb.out.mono (by simp)))
      replace HB3 := Lib.hid (HKb.out.blk HB3.out (by simpa using n3W))
      replace HB6 := Lib.hid (HKb.out.blk HB6.out (by simpa using n6W))
      have hws : memSet n ws (i : Int) m0 m1 m2 m3 m4 m5 m6 m7 = (wsOf n ws i ⟨m0, m1, m2, m3, m4, m5, m6, m7⟩) := rfl
      rw [hws] at HLk
      clear k0 k13 hp ha lk b3k y2 y3 y4 y5 y6 y7 y8 y9 y10 HSk HSet HKb HMk HL3 HC3 HF3 HN3 hws d2 y0 y1 l3 b3lt3 b6lt3
      have d2 : wk.cell? ⟨d, 2, none⟩ = some (.slice (some ⟨bL, 0, none⟩) n capL) := HLk.out.blk.cell 2
      have y0 : wk.cell? ⟨b3, 0, none⟩ = some (.int .i64 5) := HB3.out.cell 0
      have y1 : wk.cell? ⟨b3, 1, none⟩ = some (.int .i64 mc) := HB3.out.cell 1
      have y2 : wk.cell? ⟨b3, 2, none⟩ = some (.int .i64 (i : Int)) := HB3.out.cell 2
      have lk := HLk.out.lt
      have b3k : b3 < wk.heap.size := HB3.out.lt
      have ec0 : wk.cell? ⟨bL, i * 17, none⟩ = some (.int .i64 x.ow) := by have := HLk.out.cell hi (j := 0) (by decide); rw [HX.out] at this; exact this
      have fc0 : wk.frozen? ⟨bL, i * 17, none⟩ = false := HLk.out.free _
      go_upto_region 27 with fail
      go_still_tail 8, (by kernel_rfl)
      go_upto_region 28 with fail
      have hF := HLk.out.fz i hi
      rw [HX.out] at hF
      have hp := HLk.out.put hi (j := 0) (by decide) (v := .int .i64 (-1)) (x := { x with ow := -1 }) (by rw [HX.out]; rfl) ⟨hF.sh, hF.ak, hF.wt⟩
      rw [Nat.add_zero] at hp
      obtain ⟨x5, hx5⟩ : ∃ q : RE, ({ x with ow := -1 } : RE) = q := ⟨_, rfl⟩
      rw [hx5] at hp
      obtain ⟨rs5, hrs⟩ : ∃ q, rs.set i x5 = q := ⟨_, rfl⟩
      rw [hrs] at hp
      have hi5 : i < rs5.length := by rw [← hrs, List.length_set]; exact hi
      have HX5 : Hid (rs5[i] = x5) := Lib.hid (by subst hrs; exact List.getElem_set_self _)
      have HRS5 := Lib.hid hrs
      have HY5 := Lib.hid hx5
      have HL5 := Lib.hid (hp.1.look ((Chg.refl [] _).drew))
      have HC5 := Lib.hid ((HCk.out.trans (hp.2.mono (T := [bL, bW]) (by simp))).drew)
      replace HB3 := Lib.hid ((HB3.out.other (a := ⟨bL, i * 17, none⟩) (Ne.symm n3) (.int .i64 (-1))).drew)
      replace HB6 := Lib.hid ((HB6.out.other (a := ⟨bL, i * 17, none⟩) (Ne.symm n6) (.int .i64 (-1))).drew)
      clear hF hp hrs hx5 HLk HCk d2 y0 y1 y2 lk b3k ec0 fc0
      generalize World.drew _ = w5 at *
      have hS5 : rs5 = rs.set i x5 := HRS5.out.symm
      have hS : ∀ y, rs5.set i y = rs.set i y := fun y => by rw [← HRS5.out, List.set_set]
      have hx5 : x5.toV = { x.toV with ow := -1 } := by rw [← HY5.out]; rfl
      have hsh5 : x5.sh = x.sh := by rw [← HY5.out]
      have HS5 := Lib.hid hS; have HSS5 := Lib.hid hS5; have HV5 := Lib.hid hx5; have HSH5 := Lib.hid hsh5
      have HN5 : Hid (∀ y ∈ N, y < w5.heap.size) := Lib.hid (fun y hy => Nat.lt_of_lt_of_le (HN.out y hy) HC5.out.size)
      clear hS hS5 hx5 hsh5
      have k2 : w5.cell? ⟨b6, 2, none⟩ = some (.int .i64 x.un.k) := HB6.out.cell 2
      by_cases hk : x.un.k = 1
      · have HK := Lib.hid hk
        rw [hk] at k2
        have d2 : w5.cell? ⟨d, 2, none⟩ = some (.slice (some ⟨bL, 0, none⟩) n capL) := HL5.out.blk.cell 2
        have y1 : w5.cell? ⟨b3, 1, none⟩ = some (.int .i64 mc) := HB3.out.cell 1
        have y2 : w5.cell? ⟨b3, 2, none⟩ = some (.int .i64 (i : Int)) := HB3.out.cell 2
        have k1 : w5.cell? ⟨b6, 1, none⟩ = some (.slice x.shA x.sh.length x.shc) := HB6.out.cell 1
        have lk := HL5.out.lt
        have b3k : b3 < w5.heap.size := HB3.out.lt
        have b6k : b6 < w5.heap.size := HB6.out.lt
        have HF5 : Hid (FzR w5 N x5) := Lib.hid (by have := HL5.out.fz i hi5; rw [HX5.out] at this; exact this)
        have HRd5 : Hid (Rd w5 w5.heap.size x.shA 1 encN x.sh) := Lib.hid (by have := HF5.out.sh.rd; rw [← HY5.out] at this; exact this)
        clear hk
        have HWi := Lib.hid (fun V (k : Chg [] w5 V) => with_any V x.shA x.shc x.sh mc HSL0.out ((HRd5.out).chg0 k))
        have ec1 : w5.cell? ⟨bL, i * 17 + 1, none⟩ = some (.slice x5.shA x5.sh.length x5.shc) := by have := HL5.out.cell hi5 (j := 1) (by decide); rw [HX5.out] at this; exact this
        have HNk : Hid (∀ y ∈ N, y < w5.heap.size) := Lib.hid (fun y hy => Nat.lt_of_lt_of_le (HN.out y hy) HC5.out.size)
        have llk : bL < w5.heap.size := HL5.out.lt.2.1
        have HSk : Hid (∀ V, Chg [bL] w5 V → (V.cell? ⟨d, 2, none⟩ = some (.slice (some ⟨bL, 0, none⟩) n capL) ∧ V.cell? ⟨b3, 1, none⟩ = some (.int .i64 mc) ∧ V.cell? ⟨b3, 2, none⟩ = some (.int .i64 (i : Int)) ∧ V.cell? ⟨b6, 1, none⟩ = some (.slice x.shA x.sh.length x.shc))) := Lib.hid (fun V k => ⟨(k.cell lk.1 (by simpa using ndL) _).trans d2, (k.cell b3k (by simpa using n3) _).trans y1, (k.cell b3k (by simpa using n3) _).trans y2, (k.cell b6k (by simpa using n6) _).trans k1⟩)
        go_upto_region 29 with fail
        go_region_held3 (fun V => V.cell? ⟨d, 2, none⟩ = some (.slice (some ⟨bL, 0, none⟩) n capL) ∧ V.cell? ⟨b3, 1, none⟩ = some (.int .i64 mc) ∧ V.cell? ⟨b3, 2, none⟩ = some (.int .i64 (i : Int)) ∧ V.cell? ⟨b6, 1, none⟩ = some (.slice x.shA x.sh.length x.shc)) (first | exact HSk.out _ (by repeat (first | with_reducible exact Chg.refl _ _ | with_reducible exact HKb.out | with_reducible refine Chg.drew ?_ | with_reducible refine Chg.setCell ?_ (by simp) _))) (first | (go_at_call 43; refine (HWi.out _ ((Chg.refl [] _).drew)).mono ?_; rintro e wk ⟨vk, rfl, hok, hkk⟩; have hkb : Chg [] w5 wk := ((Chg.refl [] w5).drew).trans hkk; rw [← flat_encN] at hok; obtain ⟨Ak, ck, hvk, hzk⟩ := FzL.of_row (N := N) encN_len hok (fun y hy hm => absurd (show w5.heap.size ≤ y from (hok.lt y (by simpa using hy)).1) (Nat.not_le.2 (HNk.out y hm))); subst hvk; have HZk := Lib.hid hzk; have HKk := Lib.hid hkb; have HKb : Hid (Chg [bL] w5 wk) := Lib.hid (hkb.mono (by simp)); clear hok hkk hzk hkb; have qk : wk.cell? ⟨bL, i * 17 + 1, none⟩ = some (.slice x5.shA x5.sh.length x5.shc) := (HKk.out.cell0 llk _).trans ec1; have gk : wk.frozen? ⟨bL, i * 17 + 1, none⟩ = false := (HL5.out.look HKk.out).free _) | fail)
        have HLk := Lib.hid (HL5.out.look HKk.out)
        have HCk := Lib.hid (HC5.out.trans (HKk.out.mono (by simp)))
        replace HB3 := Lib.hid (HKk.out.blk HB3.out (by simp))
        replace HB6 := Lib.hid (HKk.out.blk HB6.out (by simp))
        clear d2 lk b3k b6k y1 y2 k1 HSk HWi HNk llk ec1 qk gk HL5 HC5 HRd5 HF5 k2 HN5
        have hF := HLk.out.fz i hi5
        rw [HX5.out] at hF
        have hp := HLk.out.put hi5 (j := 1) (by decide) (v := .slice Ak (withL x.sh mc 4).length ck) (x := { x5 with shA := Ak, shc := ck, sh := withL x.sh mc 4 }) (by rw [HX5.out]; rfl) ⟨HZk.out, hF.ak, hF.wt⟩
        obtain ⟨x8, hx8⟩ : ∃ q : RE, ({ x5 with shA := Ak, shc := ck, sh := withL x.sh mc 4 } : RE) = q := ⟨_, rfl⟩
        rw [hx8] at hp
        obtain ⟨rs8, hrs⟩ : ∃ q, rs5.set i x8 = q := ⟨_, rfl⟩
        rw [hrs] at hp
        have hi8 : i < rs8.length := by rw [← hrs, List.length_set]; exact hi5
        have HX8 : Hid (rs8[i] = x8) := Lib.hid (by subst hrs; exact List.getElem_set_self _)
        have HRS8 := Lib.hid hrs
        have HY8 := Lib.hid hx8
        have HL8 := Lib.hid (hp.1)
        have HC8 := Lib.hid ((HCk.out.trans (hp.2.mono (T := [bL, bW]) (by simp))))
        replace HB3 := Lib.hid ((HB3.out.other (a := ⟨bL, i * 17 + 1, none⟩) (Ne.symm n3) (.slice Ak (withL x.sh mc 4).length ck)))
        replace HB6 := Lib.hid ((HB6.out.other (a := ⟨bL, i * 17 + 1, none⟩) (Ne.symm n6) (.slice Ak (withL x.sh mc 4).length ck)))
        clear hF hp hrs hx8 HLk HCk HKk HKb HZk
        generalize World.setCell _ _ _ = w8 at *
        have hx8 : x8.toV = { x.toV with ow := -1, sh := withL x.sh mc 4 } := by rw [← HY8.out, ← HY5.out]; rfl
        have hS : ∀ y, rs8.set i y = rs.set i y := fun y => by rw [← HRS8.out, List.set_set, HS5.out]
        have hsh8 : x8.sh.length ≤ 1000 := by rw [← HY8.out]; exact Nat.le_trans (withL_le _ _ _) (by decide)
        have HV8 := Lib.hid hx8; have HS8 := Lib.hid hS; have HSH8 := Lib.hid hsh8
        clear hx8 hS hsh8
        have hR : hearV n ws x.toV i ⟨5, mc, (i : Int), ⟨m0, m1, m2, m3, m4, m5, m6, m7⟩⟩ = ((wsOf n ws i ⟨m0, m1, m2, m3, m4, m5, m6, m7⟩), grantV x8.toV, [grantVM x8.toV i (lineV n (wsOf n ws i ⟨m0, m1, m2, m3, m4, m5, m6, m7⟩) i)], 0) := by rw [HV8.out]; have h1 := HP.out; have h2 := HA.out; have h3 := HK.out; simp [hearV, RE.toV, h1, h2, h3]
        have HR := Lib.hid hR
        clear hR
        have HN8 : Hid (∀ y ∈ N, y < w8.heap.size) := Lib.hid (fun y hy => Nat.lt_of_lt_of_le (HN.out y hy) HC8.out.size)
        have d2 : w8.cell? ⟨d, 2, none⟩ = some (.slice (some ⟨bL, 0, none⟩) n capL) := HL8.out.blk.cell 2
        have y2 : w8.cell? ⟨b3, 2, none⟩ = some (.int .i64 (i : Int)) := HB3.out.cell 2
        go_wp2_with fail
        refine (HG.out w8 N (wsOf n ws i ⟨m0, m1, m2, m3, m4, m5, m6, m7⟩) rs8 hi8 HN8.out (by rw [HX8.out]; exact HSH8.out) HL8.out).mono ?_
        rintro e w5 ⟨A5, c5, rfl, hl5, hk5⟩
        rw [HX8.out] at hl5 ⊢
        have HL5 := Lib.hid hl5; have HC5 := Lib.hid (HC8.out.trans (hk5.mono (T := [bL, bW]) (by simp)))
        clear hl5 hk5 d2 y2
        unfold MsgV.val
        go_wp2_with fail
        go_ret2
        refine ⟨_, grantR x8 A5 c5, by rw [HR.out]; rfl, by rw [HR.out]; exact grantR_toV _ _ _, ?_, by rw [HR.out]; rw [← HS8.out]; exact HL5.out.look ((Chg.refl [] _).alloc _), HC5.out.alloc _⟩
        rw [HR.out]
        exact row_of_blk (Blk.new _ _ _) rfl HC5.out.size (by unfold maxLen; omega)
      · have hR : hearV n ws x.toV i ⟨5, mc, (i : Int), ⟨m0, m1, m2, m3, m4, m5, m6, m7⟩⟩ = ((wsOf n ws i ⟨m0, m1, m2, m3, m4, m5, m6, m7⟩), grantV x5.toV, [grantVM x5.toV i (lineV n (wsOf n ws i ⟨m0, m1, m2, m3, m4, m5, m6, m7⟩) i)], 0) := by rw [HV5.out]; have h1 := HP.out; have h2 := HA.out; simp [hearV, RE.toV, h1, h2, hk]
        have HR := Lib.hid hR
        clear hR
        have d2 : w5.cell? ⟨d, 2, none⟩ = some (.slice (some ⟨bL, 0, none⟩) n capL) := HL5.out.blk.cell 2
        have y2 : w5.cell? ⟨b3, 2, none⟩ = some (.int .i64 (i : Int)) := HB3.out.cell 2
        go_wp2_with fail
        refine (HG.out w5 N (wsOf n ws i ⟨m0, m1, m2, m3, m4, m5, m6, m7⟩) rs5 hi5 HN5.out (by rw [HX5.out]; exact by rw [HSH5.out]; exact HSL0.out) HL5.out).mono ?_
        rintro e w9 ⟨A5, c5, rfl, hl5, hk5⟩
        rw [HX5.out] at hl5 ⊢
        have HL5b := Lib.hid hl5; have HC5b := Lib.hid (HC5.out.trans (hk5.mono (T := [bL, bW]) (by simp)))
        clear hl5 hk5 d2 y2 k2
        unfold MsgV.val
        go_wp2_with fail
        go_ret2
        refine ⟨_, grantR x5 A5 c5, by rw [HR.out]; rfl, by rw [HR.out]; exact grantR_toV _ _ _, ?_, by rw [HR.out]; rw [← HS5.out]; exact HL5b.out.look ((Chg.refl [] _).alloc _), HC5b.out.alloc _⟩
        rw [HR.out]
        exact row_of_blk (Blk.new _ _ _) rfl HC5b.out.size (by unfold maxLen; omega)


    · have hR : hearV n ws x.toV i ⟨5, mc, (i : Int), ⟨m0, m1, m2, m3, m4, m5, m6, m7⟩⟩ = (ws, x.toV, [], 30) := by simp [hearV, RE.toV, hp, ha]
      have HR := Lib.hid hR
      clear hR
      go_wp2_with fail
      go_ret2
      exact ⟨_, x, by rw [HR.out]; rfl, by rw [HR.out], by rw [HR.out]; exact World.ownsRow_nil _ _ _ _, by rw [HR.out, ← HX.out, set_self]; exact HL3.out, HC3.out⟩

  · have hR : hearV n ws x.toV i ⟨5, mc, (i : Int), ⟨m0, m1, m2, m3, m4, m5, m6, m7⟩⟩ = (ws, x.toV, [], 30) := by simp [hearV, RE.toV, hp]
    have HR := Lib.hid hR
    clear hR
    go_wp2_with fail
    go_ret2
    exact ⟨_, x, by rw [HR.out]; rfl, by rw [HR.out], by rw [HR.out]; exact World.ownsRow_nil _ _ _ _, by rw [HR.out, ← HX.out, set_self]; exact HL3.out, HC3.out⟩

end Go.Proofs.Ytepdhajgemmoiaa

/- The reference's directory hears: RecallNone. -/

namespace Go.Proofs.Ytepdhajgemmoiaa
set_option linter.unusedSimpArgs false
set_option linter.unusedVariables false
set_option maxRecDepth 100000
set_option linter.unusedSimpArgs false
set_option linter.unusedVariables false
open Go.RowKit
attribute [local go_sem ↓] load_E store_E
attribute [local go_sem] bigOk_E bigVal_E bigFree_E bigPut_E bigNew putAll_drew Value.oneCell'


set_option maxHeartbeats 8000000 in
theorem rHear_6 (w : World) (N : List Nat) (d bL bW n capL : Nat) (cores : Int) (ws : List Int) (rs : List RE) (i : Nat) (hi : i < rs.length) (hN : ∀ x ∈ N, x < w.heap.size) (hsl : rs[i].sh.length ≤ 1000) (hal : rs[i].ak.length ≤ 1000) (hwl : rs[i].wl.length ≤ 900) (m : MsgV) (hk : m.k = 6) (hm : m.l = (i : Int)) (hc : 0 ≤ m.c ∧ m.c < cores) (H : RDAt w N d bL bW n capL cores ws rs) :
    Calls Try.prog 21 #[.pointer (some ⟨d, 0, none⟩), m.val] w (RHPost w N d bL bW n capL cores rs i (hearV n ws rs[i].toV i m)) := by
  have hlt := H.lt
  have hne := H.ne
  have hln := H.len
  have h64 := H.small
  obtain ⟨x, hx⟩ : ∃ x, rs[i] = x := ⟨_, rfl⟩
  have HX := Lib.hid hx; have HN := Lib.hid hN
  have HG := Lib.hid (fun W N' ws' rs' (hi' : i < rs'.length) hN' hs' K' => rgrant_any W N' d bL bW n capL cores ws' rs' i hi' hN' hs' K')
  have HBg := Lib.hid (fun W N' rs' (hi' : i < rs'.length) hN' hs' m' hm' K' => rbegin_any W N' d bL bW n capL cores ws rs' i hi' hN' hs' m' hm' K')
  have hin : (i : Int) < n := by omega
  have hi0 : (0 : Int) ≤ i := Int.natCast_nonneg _
  rw [hx] at hsl hal hwl ⊢
  clear hN
  have HH := Lib.hid H
  obtain ⟨mk, mc, ml, ⟨m0, m1, m2, m3, m4, m5, m6, m7⟩⟩ := m
  simp only at hm hc hk
  subst hm; subst hk
  have hc0 := hc.1; have hc1 := hc.2
  clear hc
  unfold MsgV.val
  simp only
  have HAL := Lib.hid hal; have HWL := Lib.hid hwl; have HSL0 := Lib.hid hsl
  clear hal hwl hsl
  have hal : Chg [] w (w.alloc (.cells #[.int .i64 6, .int .i64 mc, .int .i64 (i : Int), .int .u64 m0, .int .u64 m1, .int .u64 m2, .int .u64 m3, .int .u64 m4, .int .u64 m5, .int .u64 m6, .int .u64 m7] 33)) := (Chg.refl [] w).alloc _
  have HB3 := Lib.hid (Blk.new w [.int .i64 6, .int .i64 mc, .int .i64 (i : Int), .int .u64 m0, .int .u64 m1, .int .u64 m2, .int .u64 m3, .int .u64 m4, .int .u64 m5, .int .u64 m6, .int .u64 m7] 33)
  have HL := Lib.hid (H.look hal)
  have HC := Lib.hid hal
  clear H hx hal
  go_enter Try.func21, Try.ntmps21
  go_upto_region 1 with fail
  generalize World.alloc _ _ = w1 at *
  obtain ⟨b3, hb3⟩ : ∃ q, w.heap.size = q := ⟨_, rfl⟩
  rw [hb3] at HB3 hlt ⊢
  have Hb3 := Lib.hid hb3
  clear hb3
  have n3 : b3 ≠ bL := by omega
  have d1 : w1.cell? ⟨d, 1, none⟩ = some (.int .i64 cores) := HL.out.blk.cell 1
  have d2 : w1.cell? ⟨d, 2, none⟩ = some (.slice (some ⟨bL, 0, none⟩) n capL) := HL.out.blk.cell 2
  have lts := HL.out.lt
  have b3lt : b3 < w1.heap.size := HB3.out.lt
  have y1 : w1.cell? ⟨b3, 1, none⟩ = some (.int .i64 mc) := HB3.out.cell 1
  have y2 : w1.cell? ⟨b3, 2, none⟩ = some (.int .i64 (i : Int)) := HB3.out.cell 2
  go_quiet (fail)
  go_upto_region 3 with fail
  have HL1 := Lib.hid (HL.out.look ((Chg.refl [] w1).drewN nq))
  have HC1 := Lib.hid (HC.out.drewN nq)
  replace HB3 := Lib.hid (HB3.out.drewN nq)
  clear HL HC lts d1 d2 b3lt y1 y2
  generalize World.drewN _ _ = w2 at *
  have d2 : w2.cell? ⟨d, 2, none⟩ = some (.slice (some ⟨bL, 0, none⟩) n capL) := HL1.out.blk.cell 2
  have lts := HL1.out.lt
  have b3lt : b3 < w2.heap.size := HB3.out.lt
  have y2 : w2.cell? ⟨b3, 2, none⟩ = some (.int .i64 (i : Int)) := HB3.out.cell 2
  have e0 : w2.cell? ⟨bL, i * 17, none⟩ = some (.int .i64 x.ow) := by have := HL1.out.cell hi (j := 0) (by decide); rw [HX.out] at this; exact this
  have e1 : w2.cell? ⟨bL, i * 17 + 1, none⟩ = some (.slice x.shA x.sh.length x.shc) := by have := HL1.out.cell hi (j := 1) (by decide); rw [HX.out] at this; exact this
  have e2 : w2.cell? ⟨bL, i * 17 + 2, none⟩ = some (.int .i64 x.un.k) := by have := HL1.out.cell hi (j := 2) (by decide); rw [HX.out] at this; exact this
  have e3 : w2.cell? ⟨bL, i * 17 + 3, none⟩ = some (.int .i64 x.un.c) := by have := HL1.out.cell hi (j := 3) (by decide); rw [HX.out] at this; exact this
  have e4 : w2.cell? ⟨bL, i * 17 + 4, none⟩ = some (.int .i64 x.un.l) := by have := HL1.out.cell hi (j := 4) (by decide); rw [HX.out] at this; exact this
  have e5 : w2.cell? ⟨bL, i * 17 + 5, none⟩ = some (.int .u64 x.un.d.x0) := by have := HL1.out.cell hi (j := 5) (by decide); rw [HX.out] at this; exact this
  have e6 : w2.cell? ⟨bL, i * 17 + 6, none⟩ = some (.int .u64 x.un.d.x1) := by have := HL1.out.cell hi (j := 6) (by decide); rw [HX.out] at this; exact this
  have e7 : w2.cell? ⟨bL, i * 17 + 7, none⟩ = some (.int .u64 x.un.d.x2) := by have := HL1.out.cell hi (j := 7) (by decide); rw [HX.out] at this; exact this
  have e8 : w2.cell? ⟨bL, i * 17 + 8, none⟩ = some (.int .u64 x.un.d.x3) := by have := HL1.out.cell hi (j := 8) (by decide); rw [HX.out] at this; exact this
  have e9 : w2.cell? ⟨bL, i * 17 + 9, none⟩ = some (.int .u64 x.un.d.x4) := by have := HL1.out.cell hi (j := 9) (by decide); rw [HX.out] at this; exact this
  have e10 : w2.cell? ⟨bL, i * 17 + 10, none⟩ = some (.int .u64 x.un.d.x5) := by have := HL1.out.cell hi (j := 10) (by decide); rw [HX.out] at this; exact this
  have e11 : w2.cell? ⟨bL, i * 17 + 11, none⟩ = some (.int .u64 x.un.d.x6) := by have := HL1.out.cell hi (j := 11) (by decide); rw [HX.out] at this; exact this
  have e12 : w2.cell? ⟨bL, i * 17 + 12, none⟩ = some (.int .u64 x.un.d.x7) := by have := HL1.out.cell hi (j := 12) (by decide); rw [HX.out] at this; exact this
  have e13 : w2.cell? ⟨bL, i * 17 + 13, none⟩ = some (.int .i64 x.ph) := by have := HL1.out.cell hi (j := 13) (by decide); rw [HX.out] at this; exact this
  have e14 : w2.cell? ⟨bL, i * 17 + 14, none⟩ = some (.slice x.akA x.ak.length x.akc) := by have := HL1.out.cell hi (j := 14) (by decide); rw [HX.out] at this; exact this
  have e15 : w2.cell? ⟨bL, i * 17 + 15, none⟩ = some (.int .i64 x.asked) := by have := HL1.out.cell hi (j := 15) (by decide); rw [HX.out] at this; exact this
  have e16 : w2.cell? ⟨bL, i * 17 + 16, none⟩ = some (.slice x.wtA x.wl.length x.wtc) := by have := HL1.out.cell hi (j := 16) (by decide); rw [HX.out] at this; exact this
  have HSk : Hid (∀ V, Chg [] w2 V → (V.cell? ⟨d, 2, none⟩ = some (.slice (some ⟨bL, 0, none⟩) n capL) ∧ V.cell? ⟨b3, 2, none⟩ = some (.int .i64 (i : Int)) ∧ V.cell? ⟨bL, i * 17, none⟩ = some (.int .i64 x.ow) ∧ V.cell? ⟨bL, i * 17 + 1, none⟩ = some (.slice x.shA x.sh.length x.shc) ∧ V.cell? ⟨bL, i * 17 + 2, none⟩ = some (.int .i64 x.un.k) ∧ V.cell? ⟨bL, i * 17 + 3, none⟩ = some (.int .i64 x.un.c) ∧ V.cell? ⟨bL, i * 17 + 4, none⟩ = some (.int .i64 x.un.l) ∧ V.cell? ⟨bL, i * 17 + 5, none⟩ = some (.int .u64 x.un.d.x0) ∧ V.cell? ⟨bL, i * 17 + 6, none⟩ = some (.int .u64 x.un.d.x1) ∧ V.cell? ⟨bL, i * 17 + 7, none⟩ = some (.int .u64 x.un.d.x2) ∧ V.cell? ⟨bL, i * 17 + 8, none⟩ = some (.int .u64 x.un.d.x3) ∧ V.cell? ⟨bL, i * 17 + 9, none⟩ = some (.int .u64 x.un.d.x4) ∧ V.cell? ⟨bL, i * 17 + 10, none⟩ = some (.int .u64 x.un.d.x5) ∧ V.cell? ⟨bL, i * 17 + 11, none⟩ = some (.int .u64 x.un.d.x6) ∧ V.cell? ⟨bL, i * 17 + 12, none⟩ = some (.int .u64 x.un.d.x7) ∧ V.cell? ⟨bL, i * 17 + 13, none⟩ = some (.int .i64 x.ph) ∧ V.cell? ⟨bL, i * 17 + 14, none⟩ = some (.slice x.akA x.ak.length x.akc) ∧ V.cell? ⟨bL, i * 17 + 15, none⟩ = some (.int .i64 x.asked) ∧ V.cell? ⟨bL, i * 17 + 16, none⟩ = some (.slice x.wtA x.wl.length x.wtc))) := Lib.hid (fun V k => ⟨(k.cell0 lts.1 _).trans d2, (k.cell0 b3lt _).trans y2, (k.cell0 lts.2.1 _).trans e0, (k.cell0 lts.2.1 _).trans e1, (k.cell0 lts.2.1 _).trans e2, (k.cell0 lts.2.1 _).trans e3, (k.cell0 lts.2.1 _).trans e4, (k.cell0 lts.2.1 _).trans e5, (k.cell0 lts.2.1 _).trans e6, (k.cell0 lts.2.1 _).trans e7, (k.cell0 lts.2.1 _).trans e8, (k.cell0 lts.2.1 _).trans e9, (k.cell0 lts.2.1 _).trans e10, (k.cell0 lts.2.1 _).trans e11, (k.cell0 lts.2.1 _).trans e12, (k.cell0 lts.2.1 _).trans e13, (k.cell0 lts.2.1 _).trans e14, (k.cell0 lts.2.1 _).trans e15, (k.cell0 lts.2.1 _).trans e16⟩)
  go_region_held3 (fun V => V.cell? ⟨d, 2, none⟩ = some (.slice (some ⟨bL, 0, none⟩) n capL) ∧ V.cell? ⟨b3, 2, none⟩ = some (.int .i64 (i : Int)) ∧ V.cell? ⟨bL, i * 17, none⟩ = some (.int .i64 x.ow) ∧ V.cell? ⟨bL, i * 17 + 1, none⟩ = some (.slice x.shA x.sh.length x.shc) ∧ V.cell? ⟨bL, i * 17 + 2, none⟩ = some (.int .i64 x.un.k) ∧ V.cell? ⟨bL, i * 17 + 3, none⟩ = some (.int .i64 x.un.c) ∧ V.cell? ⟨bL, i * 17 + 4, none⟩ = some (.int .i64 x.un.l) ∧ V.cell? ⟨bL, i * 17 + 5, none⟩ = some (.int .u64 x.un.d.x0) ∧ V.cell? ⟨bL, i * 17 + 6, none⟩ = some (.int .u64 x.un.d.x1) ∧ V.cell? ⟨bL, i * 17 + 7, none⟩ = some (.int .u64 x.un.d.x2) ∧ V.cell? ⟨bL, i * 17 + 8, none⟩ = some (.int .u64 x.un.d.x3) ∧ V.cell? ⟨bL, i * 17 + 9, none⟩ = some (.int .u64 x.un.d.x4) ∧ V.cell? ⟨bL, i * 17 + 10, none⟩ = some (.int .u64 x.un.d.x5) ∧ V.cell? ⟨bL, i * 17 + 11, none⟩ = some (.int .u64 x.un.d.x6) ∧ V.cell? ⟨bL, i * 17 + 12, none⟩ = some (.int .u64 x.un.d.x7) ∧ V.cell? ⟨bL, i * 17 + 13, none⟩ = some (.int .i64 x.ph) ∧ V.cell? ⟨bL, i * 17 + 14, none⟩ = some (.slice x.akA x.ak.length x.akc) ∧ V.cell? ⟨bL, i * 17 + 15, none⟩ = some (.int .i64 x.asked) ∧ V.cell? ⟨bL, i * 17 + 16, none⟩ = some (.slice x.wtA x.wl.length x.wtc)) (exact HSk.out _ (by repeat (first | with_reducible exact Chg.refl _ _ | with_reducible refine Chg.drew ?_ | with_reducible refine Chg.alloc ?_ _ | with_reducible refine Chg.setCell ?_ (fun h => absurd h (Nat.lt_irrefl _)) _))) (fail)
  have hal := ((Chg.refl [] w2).alloc (.cells #[.int .i64 x.ow, .slice x.shA x.sh.length x.shc, .int .i64 x.un.k, .int .i64 x.un.c, .int .i64 x.un.l, .int .u64 x.un.d.x0, .int .u64 x.un.d.x1, .int .u64 x.un.d.x2, .int .u64 x.un.d.x3, .int .u64 x.un.d.x4, .int .u64 x.un.d.x5, .int .u64 x.un.d.x6, .int .u64 x.un.d.x7, .int .i64 x.ph, .slice x.akA x.ak.length x.akc, .int .i64 x.asked, .slice x.wtA x.wl.length x.wtc] 99)).drew
  have HB6 := Lib.hid ((Blk.new w2 [.int .i64 x.ow, .slice x.shA x.sh.length x.shc, .int .i64 x.un.k, .int .i64 x.un.c, .int .i64 x.un.l, .int .u64 x.un.d.x0, .int .u64 x.un.d.x1, .int .u64 x.un.d.x2, .int .u64 x.un.d.x3, .int .u64 x.un.d.x4, .int .u64 x.un.d.x5, .int .u64 x.un.d.x6, .int .u64 x.un.d.x7, .int .i64 x.ph, .slice x.akA x.ak.length x.akc, .int .i64 x.asked, .slice x.wtA x.wl.length x.wtc] 99).drew)
  have HL3 := Lib.hid (HL1.out.look hal)
  have HC3 := Lib.hid ((HC1.out.mono (T := [bL, bW]) (by simp)).trans (hal.mono (by simp)))
  replace HB3 := Lib.hid (hal.blk HB3.out (by simp))
  have hs2 : w.heap.size ≤ w2.heap.size := HC1.out.size
  rename_i hHeld
  clear hal HL1 HC1 HSk hHeld d2 y2 e0 e1 e2 e3 e4 e5 e6 e7 e8 e9 e10 e11 e12 e13 e14 e15 e16
  generalize World.drew _ = w3 at *
  obtain ⟨b6, hb6⟩ : ∃ q, w2.heap.size = q := ⟨_, rfl⟩
  rw [hb6] at HB6 lts b3lt hs2 ⊢
  clear hb6
  rw [Hb3.out] at hs2
  have n6 : b6 ≠ bL := by omega
  have n3W : b3 ≠ bW := by omega
  have n6W : b6 ≠ bW := by omega
  have ndL : d ≠ bL := hne.1
  have ndW : d ≠ bW := hne.2.1
  have nLW : bL ≠ bW := hne.2.2
  have hF3 : FzR w3 N x := by have := HL3.out.fz i hi; rw [HX.out] at this; exact this
  have HF3 := Lib.hid hF3
  have HN3 : Hid (∀ y ∈ N, y < w3.heap.size) := Lib.hid (fun y hy => Nat.lt_of_lt_of_le (HN.out y hy) HC3.out.size)
  have l3 := HL3.out.lt
  have b3lt3 : b3 < w3.heap.size := HB3.out.lt
  have b6lt3 : b6 < w3.heap.size := HB6.out.lt
  clear lts b3lt hF3
  have d2 : w3.cell? ⟨d, 2, none⟩ = some (.slice (some ⟨bL, 0, none⟩) n capL) := HL3.out.blk.cell 2
  have y0 : w3.cell? ⟨b3, 0, none⟩ = some (.int .i64 6) := HB3.out.cell 0
  have y1 : w3.cell? ⟨b3, 1, none⟩ = some (.int .i64 mc) := HB3.out.cell 1
  have y2 : w3.cell? ⟨b3, 2, none⟩ = some (.int .i64 (i : Int)) := HB3.out.cell 2
  have k0 : w3.cell? ⟨b6, 0, none⟩ = some (.int .i64 x.ow) := HB6.out.cell 0
  have k13 : w3.cell? ⟨b6, 13, none⟩ = some (.int .i64 x.ph) := HB6.out.cell 13
  have k15 : w3.cell? ⟨b6, 15, none⟩ = some (.int .i64 x.asked) := HB6.out.cell 15
  by_cases hp : x.ph = 2
  · rw [hp] at k13
    by_cases ha : x.asked = mc
    · rw [ha] at k15
      by_cases ho : x.ow < 0
      · have hR : hearV n ws x.toV i ⟨6, mc, (i : Int), ⟨m0, m1, m2, m3, m4, m5, m6, m7⟩⟩ = (ws, grantV x.toV, [grantVM x.toV i (lineV n ws i)], 0) := by have ho2 := ho; simp [hearV, RE.toV, hp, ha, ho]
        have HR := Lib.hid hR
        clear hR
        have HK := Lib.hid hp
        clear hp ha
        go_wp2_with fail
        refine (HG.out w3 N ws rs hi HN3.out (by rw [HX.out]; exact HSL0.out) HL3.out).mono ?_
        rintro e w5 ⟨A5, c5, rfl, hl5, hk5⟩
        rw [HX.out] at hl5 ⊢
        have HL5 := Lib.hid hl5; have HC5 := Lib.hid (HC3.out.trans (hk5.mono (T := [bL, bW]) (by simp)))
        clear hl5 hk5 
        unfold MsgV.val
        go_wp2_with fail
        go_ret2
        refine ⟨_, grantR x A5 c5, by rw [HR.out]; rfl, by rw [HR.out]; exact grantR_toV _ _ _, ?_, by rw [HR.out]; rw [show rs.set i _ = rs.set i _ from rfl]; exact HL5.out.look ((Chg.refl [] _).alloc _), HC5.out.alloc _⟩
        rw [HR.out]
        exact row_of_blk (Blk.new _ _ _) rfl HC5.out.size (by unfold maxLen; omega)

      · have hR : hearV n ws x.toV i ⟨6, mc, (i : Int), ⟨m0, m1, m2, m3, m4, m5, m6, m7⟩⟩ = (ws, { x.toV with ph := 3 }, [], 0) := by simp [hearV, RE.toV, hp, ha, ho]
        have HR := Lib.hid hR
        clear hR
        have e13 : w3.cell? ⟨bL, i * 17 + 13, none⟩ = some (.int .i64 x.ph) := by have := HL3.out.cell hi (j := 13) (by decide); rw [HX.out] at this; exact this
        have f13 : w3.frozen? ⟨bL, i * 17 + 13, none⟩ = false := HL3.out.free _
        rw [hp] at e13
        clear hp ha
        go_upto_region 36 with fail
        go_still_tail 8, (by kernel_rfl)
        go_upto_region 37 with fail
        have hF := HL3.out.fz i hi
        rw [HX.out] at hF
        have hp := HL3.out.put hi (j := 13) (by decide) (v := .int .i64 3) (x := { x with ph := 3 }) (by rw [HX.out]; rfl) ⟨hF.sh, hF.ak, hF.wt⟩
        obtain ⟨x4, hx4⟩ : ∃ q : RE, ({ x with ph := 3 } : RE) = q := ⟨_, rfl⟩
        rw [hx4] at hp
        obtain ⟨rs4, hrs⟩ : ∃ q, rs.set i x4 = q := ⟨_, rfl⟩
        rw [hrs] at hp
        have hi4 : i < rs4.length := by rw [← hrs, List.length_set]; exact hi
        have HX4 : Hid (rs4[i] = x4) := Lib.hid (by subst hrs; exact List.getElem_set_self _)
        have HRS4 := Lib.hid hrs
        have HY4 := Lib.hid hx4
        have HL4 := Lib.hid (hp.1.look ((Chg.refl [] _).drew))
        have HC4 := Lib.hid ((HC3.out.trans (hp.2.mono (T := [bL, bW]) (by simp))).drew)
        replace HB3 := Lib.hid ((HB3.out.other (a := ⟨bL, i * 17 + 13, none⟩) (Ne.symm n3) (.int .i64 3)).drew)
        replace HB6 := Lib.hid ((HB6.out.other (a := ⟨bL, i * 17 + 13, none⟩) (Ne.symm n6) (.int .i64 3)).drew)
        clear hF hp hrs hx4 HL3 HC3 d2 k0 k13 k15 y0 y1 y2 l3 b3lt3 b6lt3 e13 f13 ho HF3 HN3
        generalize World.drew _ = w4 at *
        go_wp2_with fail
        go_ret2
        exact ⟨_, x4, by rw [HR.out]; rfl, by rw [HR.out, ← HY4.out]; rfl, by rw [HR.out]; exact World.ownsRow_nil _ _ _ _, by rw [HR.out, HRS4.out]; exact HL4.out, HC4.out⟩

    · have hR : hearV n ws x.toV i ⟨6, mc, (i : Int), ⟨m0, m1, m2, m3, m4, m5, m6, m7⟩⟩ = (ws, x.toV, [], 30) := by simp [hearV, RE.toV, hp, ha]
      have HR := Lib.hid hR
      clear hR
      go_wp2_with fail
      go_ret2
      exact ⟨_, x, by rw [HR.out]; rfl, by rw [HR.out], by rw [HR.out]; exact World.ownsRow_nil _ _ _ _, by rw [HR.out, ← HX.out, set_self]; exact HL3.out, HC3.out⟩

  · have hR : hearV n ws x.toV i ⟨6, mc, (i : Int), ⟨m0, m1, m2, m3, m4, m5, m6, m7⟩⟩ = (ws, x.toV, [], 30) := by simp [hearV, RE.toV, hp]
    have HR := Lib.hid hR
    clear hR
    go_wp2_with fail
    go_ret2
    exact ⟨_, x, by rw [HR.out]; rfl, by rw [HR.out], by rw [HR.out]; exact World.ownsRow_nil _ _ _ _, by rw [HR.out, ← HX.out, set_self]; exact HL3.out, HC3.out⟩

end Go.Proofs.Ytepdhajgemmoiaa

/- The reference's directory hears: Unblock. -/

namespace Go.Proofs.Ytepdhajgemmoiaa
set_option linter.unusedSimpArgs false
set_option linter.unusedVariables false
set_option maxRecDepth 100000
set_option linter.unusedSimpArgs false
set_option linter.unusedVariables false
open Go.RowKit
attribute [local go_sem ↓] load_E store_E
attribute [local go_sem] bigOk_E bigVal_E bigFree_E bigPut_E bigNew putAll_drew Value.oneCell'


theorem fz_tail {w : World} {N : List Nat} {b off cap : Nat} {x : MsgV} {l : List MsgV} (h : FzL w N (some ⟨b, off, none⟩) (cap + 1) 11 encM (x :: l)) : FzL w N (if cap + 1 = 1 then some ⟨b, off, none⟩ else some ⟨b, off + 11, none⟩) cap 11 encM l := by
  have hle := h.le
  have hmx := h.mx
  simp only [List.length_cons] at hle
  by_cases hc : cap + 1 = 1
  · rw [if_pos hc]
    obtain rfl : l = [] := List.length_eq_zero_iff.1 (by omega)
    exact ⟨Rd.nil _ _ _ _ _, by simp, by omega, fun e => (by cases e), h.lt, h.out⟩
  · rw [if_neg hc]
    refine ⟨fun hn => ?_, by omega, by omega, fun e => (by cases e), fun a e => (by cases e; exact h.lt ⟨b, off, none⟩ rfl), fun a e => (by cases e; exact h.out ⟨b, off, none⟩ rfl)⟩
    obtain ⟨b', off', e, hb, hcc⟩ := h.rd (by simp)
    cases e
    refine ⟨b, off + 11, rfl, hb, fun k hk j hj => ?_⟩
    have := hcc (k + 1) (by simpa using hk) j hj
    rw [Nat.succ_mul] at this
    rw [show off + 11 + (k * 11 + j) = off + (k * 11 + 11 + j) by omega, this]
    rfl
set_option maxHeartbeats 8000000 in
theorem rHear_7 (w : World) (N : List Nat) (d bL bW n capL : Nat) (cores : Int) (ws : List Int) (rs : List RE) (i : Nat) (hi : i < rs.length) (hN : ∀ x ∈ N, x < w.heap.size) (hsl : rs[i].sh.length ≤ 1000) (hal : rs[i].ak.length ≤ 1000) (hwl : rs[i].wl.length ≤ 900) (hwi : ∀ y ∈ rs[i].wl, y.l = (i : Int)) (m : MsgV) (hk : m.k = 7) (hm : m.l = (i : Int)) (hc : 0 ≤ m.c ∧ m.c < cores) (H : RDAt w N d bL bW n capL cores ws rs) :
    Calls Try.prog 21 #[.pointer (some ⟨d, 0, none⟩), m.val] w (RHPost w N d bL bW n capL cores rs i (hearV n ws rs[i].toV i m)) := by
  have hlt := H.lt
  have hne := H.ne
  have hln := H.len
  have h64 := H.small
  obtain ⟨x, hx⟩ : ∃ x, rs[i] = x := ⟨_, rfl⟩
  have HX := Lib.hid hx; have HN := Lib.hid hN
  have HG := Lib.hid (fun W N' ws' rs' (hi' : i < rs'.length) hN' hs' K' => rgrant_any W N' d bL bW n capL cores ws' rs' i hi' hN' hs' K')
  have HBg := Lib.hid (fun W N' rs' (hi' : i < rs'.length) hN' hs' m' hm' K' => rbegin_any W N' d bL bW n capL cores ws rs' i hi' hN' hs' m' hm' K')
  have hin : (i : Int) < n := by omega
  have hi0 : (0 : Int) ≤ i := Int.natCast_nonneg _
  rw [hx] at hsl hal hwl hwi ⊢
  have HWI := Lib.hid hwi
  clear hwi
  clear hN
  have HH := Lib.hid H
  obtain ⟨mk, mc, ml, ⟨m0, m1, m2, m3, m4, m5, m6, m7⟩⟩ := m
  simp only at hm hc hk
  subst hm; subst hk
  have hc0 := hc.1; have hc1 := hc.2
  clear hc
  unfold MsgV.val
  simp only
  have HAL := Lib.hid hal; have HWL := Lib.hid hwl; have HSL0 := Lib.hid hsl
  clear hal hwl hsl
  have hal : Chg [] w (w.alloc (.cells #[.int .i64 7, .int .i64 mc, .int .i64 (i : Int), .int .u64 m0, .int .u64 m1, .int .u64 m2, .int .u64 m3, .int .u64 m4, .int .u64 m5, .int .u64 m6, .int .u64 m7] 33)) := (Chg.refl [] w).alloc _
  have HB3 := Lib.hid (Blk.new w [.int .i64 7, .int .i64 mc, .int .i64 (i : Int), .int .u64 m0, .int .u64 m1, .int .u64 m2, .int .u64 m3, .int .u64 m4, .int .u64 m5, .int .u64 m6, .int .u64 m7] 33)
  have HL := Lib.hid (H.look hal)
  have HC := Lib.hid hal
  clear H hx hal
  go_enter Try.func21, Try.ntmps21
  go_upto_region 1 with fail
  generalize World.alloc _ _ = w1 at *
  obtain ⟨b3, hb3⟩ : ∃ q, w.heap.size = q := ⟨_, rfl⟩
  rw [hb3] at HB3 hlt ⊢
  have Hb3 := Lib.hid hb3
  clear hb3
  have n3 : b3 ≠ bL := by omega
  have d1 : w1.cell? ⟨d, 1, none⟩ = some (.int .i64 cores) := HL.out.blk.cell 1
  have d2 : w1.cell? ⟨d, 2, none⟩ = some (.slice (some ⟨bL, 0, none⟩) n capL) := HL.out.blk.cell 2
  have lts := HL.out.lt
  have b3lt : b3 < w1.heap.size := HB3.out.lt
  have y1 : w1.cell? ⟨b3, 1, none⟩ = some (.int .i64 mc) := HB3.out.cell 1
  have y2 : w1.cell? ⟨b3, 2, none⟩ = some (.int .i64 (i : Int)) := HB3.out.cell 2
  go_quiet (fail)
  go_upto_region 3 with fail
  have HL1 := Lib.hid (HL.out.look ((Chg.refl [] w1).drewN nq))
  have HC1 := Lib.hid (HC.out.drewN nq)
  replace HB3 := Lib.hid (HB3.out.drewN nq)
  clear HL HC lts d1 d2 b3lt y1 y2
  generalize World.drewN _ _ = w2 at *
  have d2 : w2.cell? ⟨d, 2, none⟩ = some (.slice (some ⟨bL, 0, none⟩) n capL) := HL1.out.blk.cell 2
  have lts := HL1.out.lt
  have b3lt : b3 < w2.heap.size := HB3.out.lt
  have y2 : w2.cell? ⟨b3, 2, none⟩ = some (.int .i64 (i : Int)) := HB3.out.cell 2
  have e0 : w2.cell? ⟨bL, i * 17, none⟩ = some (.int .i64 x.ow) := by have := HL1.out.cell hi (j := 0) (by decide); rw [HX.out] at this; exact this
  have e1 : w2.cell? ⟨bL, i * 17 + 1, none⟩ = some (.slice x.shA x.sh.length x.shc) := by have := HL1.out.cell hi (j := 1) (by decide); rw [HX.out] at this; exact this
  have e2 : w2.cell? ⟨bL, i * 17 + 2, none⟩ = some (.int .i64 x.un.k) := by have := HL1.out.cell hi (j := 2) (by decide); rw [HX.out] at this; exact this
  have e3 : w2.cell? ⟨bL, i * 17 + 3, none⟩ = some (.int .i64 x.un.c) := by have := HL1.out.cell hi (j := 3) (by decide); rw [HX.out] at this; exact this
  have e4 : w2.cell? ⟨bL, i * 17 + 4, none⟩ = some (.int .i64 x.un.l) := by have := HL1.out.cell hi (j := 4) (by decide); rw [HX.out] at this; exact this
  have e5 : w2.cell? ⟨bL, i * 17 + 5, none⟩ = some (.int .u64 x.un.d.x0) := by have := HL1.out.cell hi (j := 5) (by decide); rw [HX.out] at this; exact this
  have e6 : w2.cell? ⟨bL, i * 17 + 6, none⟩ = some (.int .u64 x.un.d.x1) := by have := HL1.out.cell hi (j := 6) (by decide); rw [HX.out] at this; exact this
  have e7 : w2.cell? ⟨bL, i * 17 + 7, none⟩ = some (.int .u64 x.un.d.x2) := by have := HL1.out.cell hi (j := 7) (by decide); rw [HX.out] at this; exact this
  have e8 : w2.cell? ⟨bL, i * 17 + 8, none⟩ = some (.int .u64 x.un.d.x3) := by have := HL1.out.cell hi (j := 8) (by decide); rw [HX.out] at this; exact this
  have e9 : w2.cell? ⟨bL, i * 17 + 9, none⟩ = some (.int .u64 x.un.d.x4) := by have := HL1.out.cell hi (j := 9) (by decide); rw [HX.out] at this; exact this
  have e10 : w2.cell? ⟨bL, i * 17 + 10, none⟩ = some (.int .u64 x.un.d.x5) := by have := HL1.out.cell hi (j := 10) (by decide); rw [HX.out] at this; exact this
  have e11 : w2.cell? ⟨bL, i * 17 + 11, none⟩ = some (.int .u64 x.un.d.x6) := by have := HL1.out.cell hi (j := 11) (by decide); rw [HX.out] at this; exact this
  have e12 : w2.cell? ⟨bL, i * 17 + 12, none⟩ = some (.int .u64 x.un.d.x7) := by have := HL1.out.cell hi (j := 12) (by decide); rw [HX.out] at this; exact this
  have e13 : w2.cell? ⟨bL, i * 17 + 13, none⟩ = some (.int .i64 x.ph) := by have := HL1.out.cell hi (j := 13) (by decide); rw [HX.out] at this; exact this
  have e14 : w2.cell? ⟨bL, i * 17 + 14, none⟩ = some (.slice x.akA x.ak.length x.akc) := by have := HL1.out.cell hi (j := 14) (by decide); rw [HX.out] at this; exact this
  have e15 : w2.cell? ⟨bL, i * 17 + 15, none⟩ = some (.int .i64 x.asked) := by have := HL1.out.cell hi (j := 15) (by decide); rw [HX.out] at this; exact this
  have e16 : w2.cell? ⟨bL, i * 17 + 16, none⟩ = some (.slice x.wtA x.wl.length x.wtc) := by have := HL1.out.cell hi (j := 16) (by decide); rw [HX.out] at this; exact this
  have HSk : Hid (∀ V, Chg [] w2 V → (V.cell? ⟨d, 2, none⟩ = some (.slice (some ⟨bL, 0, none⟩) n capL) ∧ V.cell? ⟨b3, 2, none⟩ = some (.int .i64 (i : Int)) ∧ V.cell? ⟨bL, i * 17, none⟩ = some (.int .i64 x.ow) ∧ V.cell? ⟨bL, i * 17 + 1, none⟩ = some (.slice x.shA x.sh.length x.shc) ∧ V.cell? ⟨bL, i * 17 + 2, none⟩ = some (.int .i64 x.un.k) ∧ V.cell? ⟨bL, i * 17 + 3, none⟩ = some (.int .i64 x.un.c) ∧ V.cell? ⟨bL, i * 17 + 4, none⟩ = some (.int .i64 x.un.l) ∧ V.cell? ⟨bL, i * 17 + 5, none⟩ = some (.int .u64 x.un.d.x0) ∧ V.cell? ⟨bL, i * 17 + 6, none⟩ = some (.int .u64 x.un.d.x1) ∧ V.cell? ⟨bL, i * 17 + 7, none⟩ = some (.int .u64 x.un.d.x2) ∧ V.cell? ⟨bL, i * 17 + 8, none⟩ = some (.int .u64 x.un.d.x3) ∧ V.cell? ⟨bL, i * 17 + 9, none⟩ = some (.int .u64 x.un.d.x4) ∧ V.cell? ⟨bL, i * 17 + 10, none⟩ = some (.int .u64 x.un.d.x5) ∧ V.cell? ⟨bL, i * 17 + 11, none⟩ = some (.int .u64 x.un.d.x6) ∧ V.cell? ⟨bL, i * 17 + 12, none⟩ = some (.int .u64 x.un.d.x7) ∧ V.cell? ⟨bL, i * 17 + 13, none⟩ = some (.int .i64 x.ph) ∧ V.cell? ⟨bL, i * 17 + 14, none⟩ = some (.slice x.akA x.ak.length x.akc) ∧ V.cell? ⟨bL, i * 17 + 15, none⟩ = some (.int .i64 x.asked) ∧ V.cell? ⟨bL, i * 17 + 16, none⟩ = some (.slice x.wtA x.wl.length x.wtc))) := Lib.hid (fun V k => ⟨(k.cell0 lts.1 _).trans d2, (k.cell0 b3lt _).trans y2, (k.cell0 lts.2.1 _).trans e0, (k.cell0 lts.2.1 _).trans e1, (k.cell0 lts.2.1 _).trans e2, (k.cell0 lts.2.1 _).trans e3, (k.cell0 lts.2.1 _).trans e4, (k.cell0 lts.2.1 _).trans e5, (k.cell0 lts.2.1 _).trans e6, (k.cell0 lts.2.1 _).trans e7, (k.cell0 lts.2.1 _).trans e8, (k.cell0 lts.2.1 _).trans e9, (k.cell0 lts.2.1 _).trans e10, (k.cell0 lts.2.1 _).trans e11, (k.cell0 lts.2.1 _).trans e12, (k.cell0 lts.2.1 _).trans e13, (k.cell0 lts.2.1 _).trans e14, (k.cell0 lts.2.1 _).trans e15, (k.cell0 lts.2.1 _).trans e16⟩)
  go_region_held3 (fun V => V.cell? ⟨d, 2, none⟩ = some (.slice (some ⟨bL, 0, none⟩) n capL) ∧ V.cell? ⟨b3, 2, none⟩ = some (.int .i64 (i : Int)) ∧ V.cell? ⟨bL, i * 17, none⟩ = some (.int .i64 x.ow) ∧ V.cell? ⟨bL, i * 17 + 1, none⟩ = some (.slice x.shA x.sh.length x.shc) ∧ V.cell? ⟨bL, i * 17 + 2, none⟩ = some (.int .i64 x.un.k) ∧ V.cell? ⟨bL, i * 17 + 3, none⟩ = some (.int .i64 x.un.c) ∧ V.cell? ⟨bL, i * 17 + 4, none⟩ = some (.int .i64 x.un.l) ∧ V.cell? ⟨bL, i * 17 + 5, none⟩ = some (.int .u64 x.un.d.x0) ∧ V.cell? ⟨bL, i * 17 + 6, none⟩ = some (.int .u64 x.un.d.x1) ∧ V.cell? ⟨bL, i * 17 + 7, none⟩ = some (.int .u64 x.un.d.x2) ∧ V.cell? ⟨bL, i * 17 + 8, none⟩ = some (.int .u64 x.un.d.x3) ∧ V.cell? ⟨bL, i * 17 + 9, none⟩ = some (.int .u64 x.un.d.x4) ∧ V.cell? ⟨bL, i * 17 + 10, none⟩ = some (.int .u64 x.un.d.x5) ∧ V.cell? ⟨bL, i * 17 + 11, none⟩ = some (.int .u64 x.un.d.x6) ∧ V.cell? ⟨bL, i * 17 + 12, none⟩ = some (.int .u64 x.un.d.x7) ∧ V.cell? ⟨bL, i * 17 + 13, none⟩ = some (.int .i64 x.ph) ∧ V.cell? ⟨bL, i * 17 + 14, none⟩ = some (.slice x.akA x.ak.length x.akc) ∧ V.cell? ⟨bL, i * 17 + 15, none⟩ = some (.int .i64 x.asked) ∧ V.cell? ⟨bL, i * 17 + 16, none⟩ = some (.slice x.wtA x.wl.length x.wtc)) (exact HSk.out _ (by repeat (first | with_reducible exact Chg.refl _ _ | with_reducible refine Chg.drew ?_ | with_reducible refine Chg.alloc ?_ _ | with_reducible refine Chg.setCell ?_ (fun h => absurd h (Nat.lt_irrefl _)) _))) (fail)
  have hal := ((Chg.refl [] w2).alloc (.cells #[.int .i64 x.ow, .slice x.shA x.sh.length x.shc, .int .i64 x.un.k, .int .i64 x.un.c, .int .i64 x.un.l, .int .u64 x.un.d.x0, .int .u64 x.un.d.x1, .int .u64 x.un.d.x2, .int .u64 x.un.d.x3, .int .u64 x.un.d.x4, .int .u64 x.un.d.x5, .int .u64 x.un.d.x6, .int .u64 x.un.d.x7, .int .i64 x.ph, .slice x.akA x.ak.length x.akc, .int .i64 x.asked, .slice x.wtA x.wl.length x.wtc] 99)).drew
  have HB6 := Lib.hid ((Blk.new w2 [.int .i64 x.ow, .slice x.shA x.sh.length x.shc, .int .i64 x.un.k, .int .i64 x.un.c, .int .i64 x.un.l, .int .u64 x.un.d.x0, .int .u64 x.un.d.x1, .int .u64 x.un.d.x2, .int .u64 x.un.d.x3, .int .u64 x.un.d.x4, .int .u64 x.un.d.x5, .int .u64 x.un.d.x6, .int .u64 x.un.d.x7, .int .i64 x.ph, .slice x.akA x.ak.length x.akc, .int .i64 x.asked, .slice x.wtA x.wl.length x.wtc] 99).drew)
  have HL3 := Lib.hid (HL1.out.look hal)
  have HC3 := Lib.hid ((HC1.out.mono (T := [bL, bW]) (by simp)).trans (hal.mono (by simp)))
  replace HB3 := Lib.hid (hal.blk HB3.out (by simp))
  have hs2 : w.heap.size ≤ w2.heap.size := HC1.out.size
  rename_i hHeld
  clear hal HL1 HC1 HSk hHeld d2 y2 e0 e1 e2 e3 e4 e5 e6 e7 e8 e9 e10 e11 e12 e13 e14 e15 e16
  generalize World.drew _ = w3 at *
  obtain ⟨b6, hb6⟩ : ∃ q, w2.heap.size = q := ⟨_, rfl⟩
  rw [hb6] at HB6 lts b3lt hs2 ⊢
  clear hb6
  rw [Hb3.out] at hs2
  have n6 : b6 ≠ bL := by omega
  have n3W : b3 ≠ bW := by omega
  have n6W : b6 ≠ bW := by omega
  have ndL : d ≠ bL := hne.1
  have ndW : d ≠ bW := hne.2.1
  have nLW : bL ≠ bW := hne.2.2
  have hF3 : FzR w3 N x := by have := HL3.out.fz i hi; rw [HX.out] at this; exact this
  have HF3 := Lib.hid hF3
  have HN3 : Hid (∀ y ∈ N, y < w3.heap.size) := Lib.hid (fun y hy => Nat.lt_of_lt_of_le (HN.out y hy) HC3.out.size)
  have l3 := HL3.out.lt
  have b3lt3 : b3 < w3.heap.size := HB3.out.lt
  have b6lt3 : b6 < w3.heap.size := HB6.out.lt
  clear lts b3lt hF3
  have d2 : w3.cell? ⟨d, 2, none⟩ = some (.slice (some ⟨bL, 0, none⟩) n capL) := HL3.out.blk.cell 2
  have y0 : w3.cell? ⟨b3, 0, none⟩ = some (.int .i64 7) := HB3.out.cell 0
  have y1 : w3.cell? ⟨b3, 1, none⟩ = some (.int .i64 mc) := HB3.out.cell 1
  have y2 : w3.cell? ⟨b3, 2, none⟩ = some (.int .i64 (i : Int)) := HB3.out.cell 2
  have k3 : w3.cell? ⟨b6, 3, none⟩ = some (.int .i64 x.un.c) := HB6.out.cell 3
  have k13 : w3.cell? ⟨b6, 13, none⟩ = some (.int .i64 x.ph) := HB6.out.cell 13
  by_cases hp : x.ph = 4
  · rw [hp] at k13
    by_cases hu : x.un.c = mc
    · rw [hu] at k3
      have ec13 : w3.cell? ⟨bL, i * 17 + 13, none⟩ = some (.int .i64 x.ph) := by have := HL3.out.cell hi (j := 13) (by decide); rw [HX.out] at this; exact this
      have fc13 : w3.frozen? ⟨bL, i * 17 + 13, none⟩ = false := HL3.out.free _
      have HP := Lib.hid hp; have HU := Lib.hid hu
      clear hp hu
      go_upto_region 50 with fail
      go_still_tail 8, (by kernel_rfl)
      go_upto_region 51 with fail
      have hF := HL3.out.fz i hi
      rw [HX.out] at hF
      have hp := HL3.out.put hi (j := 13) (by decide) (v := .int .i64 0) (x := { x with ph := 0 }) (by rw [HX.out]; rfl) ⟨hF.sh, hF.ak, hF.wt⟩
      obtain ⟨x4, hx4⟩ : ∃ q : RE, ({ x with ph := 0 } : RE) = q := ⟨_, rfl⟩
      rw [hx4] at hp
      obtain ⟨rs4, hrs⟩ : ∃ q, rs.set i x4 = q := ⟨_, rfl⟩
      rw [hrs] at hp
      have hi4 : i < rs4.length := by rw [← hrs, List.length_set]; exact hi
      have HX4 : Hid (rs4[i] = x4) := Lib.hid (by subst hrs; exact List.getElem_set_self _)
      have HRS4 := Lib.hid hrs
      have HY4 := Lib.hid hx4
      have HL4 := Lib.hid (hp.1.look ((Chg.refl [] _).drew))
      have HC4 := Lib.hid ((HC3.out.trans (hp.2.mono (T := [bL, bW]) (by simp))).drew)
      replace HB3 := Lib.hid ((HB3.out.other (a := ⟨bL, i * 17 + 13, none⟩) (Ne.symm n3) (.int .i64 0)).drew)
      replace HB6 := Lib.hid ((HB6.out.other (a := ⟨bL, i * 17 + 13, none⟩) (Ne.symm n6) (.int .i64 0)).drew)
      clear hF hp hrs hx4 HL3 HC3 d2 k3 k13 y0 y1 y2 l3 b3lt3 b6lt3 ec13 fc13 HF3 HN3
      generalize World.drew _ = w4 at *
      have d2 : w4.cell? ⟨d, 2, none⟩ = some (.slice (some ⟨bL, 0, none⟩) n capL) := HL4.out.blk.cell 2
      have y2 : w4.cell? ⟨b3, 2, none⟩ = some (.int .i64 (i : Int)) := HB3.out.cell 2
      have lk := HL4.out.lt
      have b3k : b3 < w4.heap.size := HB3.out.lt
      have e2 : w4.cell? ⟨bL, i * 17 + 2, none⟩ = some (.int .i64 x4.un.k) := by have := HL4.out.cell hi4 (j := 2) (by decide); rw [HX4.out] at this; exact this
      have e3 : w4.cell? ⟨bL, i * 17 + 3, none⟩ = some (.int .i64 x4.un.c) := by have := HL4.out.cell hi4 (j := 3) (by decide); rw [HX4.out] at this; exact this
      have e4 : w4.cell? ⟨bL, i * 17 + 4, none⟩ = some (.int .i64 x4.un.l) := by have := HL4.out.cell hi4 (j := 4) (by decide); rw [HX4.out] at this; exact this
      have e5 : w4.cell? ⟨bL, i * 17 + 5, none⟩ = some (.int .u64 x4.un.d.x0) := by have := HL4.out.cell hi4 (j := 5) (by decide); rw [HX4.out] at this; exact this
      have e6 : w4.cell? ⟨bL, i * 17 + 6, none⟩ = some (.int .u64 x4.un.d.x1) := by have := HL4.out.cell hi4 (j := 6) (by decide); rw [HX4.out] at this; exact this
      have e7 : w4.cell? ⟨bL, i * 17 + 7, none⟩ = some (.int .u64 x4.un.d.x2) := by have := HL4.out.cell hi4 (j := 7) (by decide); rw [HX4.out] at this; exact this
      have e8 : w4.cell? ⟨bL, i * 17 + 8, none⟩ = some (.int .u64 x4.un.d.x3) := by have := HL4.out.cell hi4 (j := 8) (by decide); rw [HX4.out] at this; exact this
      have e9 : w4.cell? ⟨bL, i * 17 + 9, none⟩ = some (.int .u64 x4.un.d.x4) := by have := HL4.out.cell hi4 (j := 9) (by decide); rw [HX4.out] at this; exact this
      have e10 : w4.cell? ⟨bL, i * 17 + 10, none⟩ = some (.int .u64 x4.un.d.x5) := by have := HL4.out.cell hi4 (j := 10) (by decide); rw [HX4.out] at this; exact this
      have e11 : w4.cell? ⟨bL, i * 17 + 11, none⟩ = some (.int .u64 x4.un.d.x6) := by have := HL4.out.cell hi4 (j := 11) (by decide); rw [HX4.out] at this; exact this
      have e12 : w4.cell? ⟨bL, i * 17 + 12, none⟩ = some (.int .u64 x4.un.d.x7) := by have := HL4.out.cell hi4 (j := 12) (by decide); rw [HX4.out] at this; exact this
      have f2 : w4.frozen? ⟨bL, i * 17 + 2, none⟩ = false := HL4.out.free _
      have f3 : w4.frozen? ⟨bL, i * 17 + 3, none⟩ = false := HL4.out.free _
      have f4 : w4.frozen? ⟨bL, i * 17 + 4, none⟩ = false := HL4.out.free _
      have f5 : w4.frozen? ⟨bL, i * 17 + 5, none⟩ = false := HL4.out.free _
      have f6 : w4.frozen? ⟨bL, i * 17 + 6, none⟩ = false := HL4.out.free _
      have f7 : w4.frozen? ⟨bL, i * 17 + 7, none⟩ = false := HL4.out.free _
      have f8 : w4.frozen? ⟨bL, i * 17 + 8, none⟩ = false := HL4.out.free _
      have f9 : w4.frozen? ⟨bL, i * 17 + 9, none⟩ = false := HL4.out.free _
      have f10 : w4.frozen? ⟨bL, i * 17 + 10, none⟩ = false := HL4.out.free _
      have f11 : w4.frozen? ⟨bL, i * 17 + 11, none⟩ = false := HL4.out.free _
      have f12 : w4.frozen? ⟨bL, i * 17 + 12, none⟩ = false := HL4.out.free _
      go_still_tail 9, (by kernel_rfl)
      go_upto_region 52 with fail
      have hp := HL4.out.putM hi4 HX4.out ({} : MsgV)
      obtain ⟨x6, hx6⟩ : ∃ q : RE, ({ x4 with un := {} } : RE) = q := ⟨_, rfl⟩
      rw [hx6] at hp
      obtain ⟨rs6, hrs⟩ : ∃ q, rs4.set i x6 = q := ⟨_, rfl⟩
      rw [hrs] at hp
      have hi6 : i < rs6.length := by rw [← hrs, List.length_set]; exact hi4
      have HX6 : Hid (rs6[i] = x6) := Lib.hid (by subst hrs; exact List.getElem_set_self _)
      have HL6 := Lib.hid (hp.1.look ((Chg.refl [] _).drew))
      have HC6 := Lib.hid ((HC4.out.trans (hp.2.mono (T := [bL, bW]) (by simp))).drew)
      have HRS6 := Lib.hid hrs
      have HY6 := Lib.hid hx6
      clear hrs hx6
      replace HB3 := Lib.hid ((((((((((((((((((((((((HB3.out).other (a := ⟨bL, i * 17 + 2, none⟩) (Ne.symm n3) (.int .i64 0))).other (a := ⟨bL, i * 17 + 2 + 1, none⟩) (Ne.symm n3) (.int .i64 0))).other (a := ⟨bL, i * 17 + 2 + 2, none⟩) (Ne.symm n3) (.int .i64 0))).other (a := ⟨bL, i * 17 + 2 + 3, none⟩) (Ne.symm n3) (.int .u64 0))).other (a := ⟨bL, i * 17 + 2 + 4, none⟩) (Ne.symm n3) (.int .u64 0))).other (a := ⟨bL, i * 17 + 2 + 5, none⟩) (Ne.symm n3) (.int .u64 0))).other (a := ⟨bL, i * 17 + 2 + 6, none⟩) (Ne.symm n3) (.int .u64 0))).other (a := ⟨bL, i * 17 + 2 + 7, none⟩) (Ne.symm n3) (.int .u64 0))).other (a := ⟨bL, i * 17 + 2 + 8, none⟩) (Ne.symm n3) (.int .u64 0))).other (a := ⟨bL, i * 17 + 2 + 9, none⟩) (Ne.symm n3) (.int .u64 0))).other (a := ⟨bL, i * 17 + 2 + 10, none⟩) (Ne.symm n3) (.int .u64 0))).drew)
      replace HB6 := Lib.hid ((((((((((((((((((((((((HB6.out).other (a := ⟨bL, i * 17 + 2, none⟩) (Ne.symm n6) (.int .i64 0))).other (a := ⟨bL, i * 17 + 2 + 1, none⟩) (Ne.symm n6) (.int .i64 0))).other (a := ⟨bL, i * 17 + 2 + 2, none⟩) (Ne.symm n6) (.int .i64 0))).other (a := ⟨bL, i * 17 + 2 + 3, none⟩) (Ne.symm n6) (.int .u64 0))).other (a := ⟨bL, i * 17 + 2 + 4, none⟩) (Ne.symm n6) (.int .u64 0))).other (a := ⟨bL, i * 17 + 2 + 5, none⟩) (Ne.symm n6) (.int .u64 0))).other (a := ⟨bL, i * 17 + 2 + 6, none⟩) (Ne.symm n6) (.int .u64 0))).other (a := ⟨bL, i * 17 + 2 + 7, none⟩) (Ne.symm n6) (.int .u64 0))).other (a := ⟨bL, i * 17 + 2 + 8, none⟩) (Ne.symm n6) (.int .u64 0))).other (a := ⟨bL, i * 17 + 2 + 9, none⟩) (Ne.symm n6) (.int .u64 0))).other (a := ⟨bL, i * 17 + 2 + 10, none⟩) (Ne.symm n6) (.int .u64 0))).drew)
      clear hp HL4 HC4 lk d2 b3k y2 e2 e3 e4 e5 e6 e7 e8 e9 e10 e11 e12 f2 f3 f4 f5 f6 f7 f8 f9 f10 f11 f12
      generalize World.drew _ = w6 at *
      have HF6 : Hid (FzR w6 N x6) := Lib.hid (by have := HL6.out.fz i hi6; rw [HX6.out] at this; exact this)
      have hW : x6.wtA = x.wtA ∧ x6.wtc = x.wtc ∧ x6.wl = x.wl := by rw [← HY6.out, ← HY4.out]; exact ⟨rfl, rfl, rfl⟩
      have hwt := HF6.out.wt
      rw [hW.1, hW.2.1, hW.2.2] at hwt
      have HWT := Lib.hid hwt
      have hS : ∀ y, rs6.set i y = rs.set i y := fun y => by rw [← HRS6.out, ← HRS4.out, List.set_set, List.set_set]
      have hS6 : rs6 = rs.set i x6 := by rw [← HRS6.out, ← HRS4.out, List.set_set]
      have hx6 : x6.toV = { x.toV with ph := 0, un := {} } := by rw [← HY6.out, ← HY4.out]; rfl
      have hsh6 : x6.sh = x.sh := by rw [← HY6.out, ← HY4.out]
      have HS6 := Lib.hid hS; have HSS6 := Lib.hid hS6; have HV6 := Lib.hid hx6; have HSH6 := Lib.hid hsh6
      clear hS hS6 hx6 hsh6 hW hwt
      have k16 : w6.cell? ⟨b6, 16, none⟩ = some (.slice x.wtA x.wl.length x.wtc) := HB6.out.cell 16
      cases hwl : x.wl with
      | nil =>
        have hR : hearV n ws x.toV i ⟨7, mc, (i : Int), ⟨m0, m1, m2, m3, m4, m5, m6, m7⟩⟩ = (ws, x6.toV, [], 0) := by rw [HV6.out]; have h1 := HP.out; have h2 := HU.out; simp [hearV, RE.toV, h1, h2, hwl]
        have HR := Lib.hid hR
        clear hR
        rw [hwl] at k16
        have k16b : w6.cell? ⟨b6, 16, none⟩ = some (.slice x.wtA 0 x.wtc) := k16
        clear k16 hwl
        go_wp2_with fail
        go_ret2
        exact ⟨_, x6, by rw [HR.out]; rfl, by rw [HR.out], by rw [HR.out]; exact World.ownsRow_nil _ _ _ _, by rw [HR.out, ← HSS6.out]; exact HL6.out, HC6.out⟩

      | cons nx l =>
        have hR : hearV n ws x.toV i ⟨7, mc, (i : Int), ⟨m0, m1, m2, m3, m4, m5, m6, m7⟩⟩ = (ws, beginV { x.toV with ph := 0, un := {}, wl := l } nx, beginVM { x.toV with ph := 0, un := {}, wl := l } nx (lineV n ws i), 0) := by have h1 := HP.out; have h2 := HU.out; simp [hearV, RE.toV, h1, h2, hwl]
        have HR := Lib.hid hR
        clear hR
        rw [hwl] at k16
        have hwt := HWT.out
        rw [hwl] at hwt
        have hnxl : nx.l = (i : Int) := HWI.out nx (by rw [hwl]; exact List.mem_cons_self)
        have HNX := Lib.hid hnxl
        have hln9 : l.length ≤ 900 := by have := HWL.out; rw [hwl] at this; simp at this; omega
        obtain ⟨b, off, hA, hb, hcs⟩ := rd_msg hwt.rd (k := 0) (by simp)
        obtain ⟨cp, hcp⟩ : ∃ cp, x.wtc = cp + 1 := ⟨x.wtc - 1, by have := hwt.le; simp at this; omega⟩
        rw [hA, hcp] at hwt k16
        have hlec : l.length ≤ cp := by have := hwt.le; simp at this; omega
        have hmx : cp + 1 ≤ maxLen := hwt.mx
        have HTl := Lib.hid (fz_tail hwt)
        have HWTb := Lib.hid hwt
        have k16b : w6.cell? ⟨b6, 16, none⟩ = some (.slice (some ⟨b, off, none⟩) (l.length + 1) (cp + 1)) := k16
        have hcN : ∀ j, j < 11 → w6.cell? ⟨b, off + j, none⟩ = (encM nx)[j]? := fun j hj => by have := hcs j hj; rw [Nat.zero_mul, Nat.zero_add] at this; simpa [hwl] using this
        have HCN := Lib.hid hcN; have Hb := Lib.hid hb
        have HbL : Hid (b ≠ bL) := Lib.hid (fun e => hwt.out ⟨b, off, none⟩ rfl (by rw [e]; exact HL6.out.inN.2.1))
        have HKeq : Hid (x.wtA = some ⟨b, off, none⟩ ∧ x.wl.length = l.length + 1 ∧ x.wtc = cp + 1) := Lib.hid ⟨hA, by rw [hwl]; rfl, hcp⟩
        clear hwl k16 hwt hnxl hA hcp hcs hcN hb
        obtain ⟨q, hq⟩ : ∃ q, l.length + 1 = q := ⟨_, rfl⟩
        obtain ⟨cq, hcq⟩ : ∃ q, cp + 1 = q := ⟨_, rfl⟩
        have hTl := HTl.out
        rw [hcq] at hTl
        obtain ⟨A7, hA7⟩ : ∃ q, (if cq = 1 then some (⟨b, off, none⟩ : Addr) else some ⟨b, off + 11, none⟩) = q := ⟨_, rfl⟩
        rw [hA7] at hTl
        replace HTl := Lib.hid hTl
        have HA7 := Lib.hid hA7
        clear hTl hA7
        rw [hq, hcq] at k16b
        have hle1 : (1 : Int) ≤ (q : Int) := by omega
        have hle2 : (q : Int) ≤ (cq : Int) := by omega
        have hmx2 : (cq : Int) ≤ 9223372036854775807 := by unfold maxLen at hmx; omega
        have hq0 : ((q : Int) == 0) = false := by rw [beq_eq_false_iff_ne]; omega
        have HQ1 : Hid (q - 1 = l.length) := Lib.hid (by omega)
        have HQ2 : Hid (cq - 1 = cp) := Lib.hid (by omega)
        have HQq := Lib.hid hq; have HQc := Lib.hid hcq
        clear hq hcq hlec hmx hln9
        have d2 : w6.cell? ⟨d, 2, none⟩ = some (.slice (some ⟨bL, 0, none⟩) n capL) := HL6.out.blk.cell 2
        have y2 : w6.cell? ⟨b3, 2, none⟩ = some (.int .i64 (i : Int)) := HB3.out.cell 2
        have lk := HL6.out.lt
        have b3k : b3 < w6.heap.size := HB3.out.lt
        have b6k : b6 < w6.heap.size := HB6.out.lt
        have ec16 : w6.cell? ⟨bL, i * 17 + 16, none⟩ = some (.slice x6.wtA x6.wl.length x6.wtc) := by have := HL6.out.cell hi6 (j := 16) (by decide); rw [HX6.out] at this; exact this
        have fc16 : w6.frozen? ⟨bL, i * 17 + 16, none⟩ = false := HL6.out.free _
        go_upto_region 54 with fail
        go_still_tail 11, (by kernel_rfl)
        go_upto_region 55 with fail
        rw [HA7.out, HQ1.out, HQ2.out]
        have hF := HL6.out.fz i hi6
        rw [HX6.out] at hF
        have hp := HL6.out.put hi6 (j := 16) (by decide) (v := .slice A7 l.length cp) (x := { x6 with wtA := A7, wtc := cp, wl := l }) (by rw [HX6.out]; rfl) ⟨hF.sh, hF.ak, HTl.out⟩
        obtain ⟨x7, hx7⟩ : ∃ q : RE, ({ x6 with wtA := A7, wtc := cp, wl := l } : RE) = q := ⟨_, rfl⟩
        rw [hx7] at hp
        obtain ⟨rs7, hrs⟩ : ∃ q, rs6.set i x7 = q := ⟨_, rfl⟩
        rw [hrs] at hp
        have hi7 : i < rs7.length := by rw [← hrs, List.length_set]; exact hi6
        have HX7 : Hid (rs7[i] = x7) := Lib.hid (by subst hrs; exact List.getElem_set_self _)
        have HRS7 := Lib.hid hrs
        have HY7 := Lib.hid hx7
        have HL7 := Lib.hid (hp.1.look ((Chg.refl [] _).drew))
        have HC7 := Lib.hid ((HC6.out.trans (hp.2.mono (T := [bL, bW]) (by simp))).drew)
        replace HB3 := Lib.hid ((HB3.out.other (a := ⟨bL, i * 17 + 16, none⟩) (Ne.symm n3) (.slice A7 l.length cp)).drew)
        replace HB6 := Lib.hid ((HB6.out.other (a := ⟨bL, i * 17 + 16, none⟩) (Ne.symm n6) (.slice A7 l.length cp)).drew)
        have HKx := Lib.hid (hp.2.drew)
        clear hF hp hrs hx7 HL6 HC6 lk d2 b3k b6k y2 ec16 fc16 k16b HF6
        generalize World.drew _ = w7 at *
        have HCN7 : Hid (∀ j, j < 11 → w7.cell? ⟨b, off + j, none⟩ = (encM nx)[j]?) := Lib.hid (fun j hj => (HKx.out.cell Hb.out (by simpa using HbL.out) _).trans (HCN.out j hj))
        have k16 : w7.cell? ⟨b6, 16, none⟩ = some (.slice x.wtA x.wl.length x.wtc) := HB6.out.cell 16
        rw [HKeq.out.1, HKeq.out.2.1, HKeq.out.2.2] at k16
        have k16b : w7.cell? ⟨b6, 16, none⟩ = some (.slice (some ⟨b, off, none⟩) (l.length + 1) (cp + 1)) := k16
        have hV : ({ x.toV with ph := 0, un := {}, wl := l } : RV) = x7.toV := by rw [← HY7.out, ← HY6.out, ← HY4.out]; rfl
        have hsh7 : x7.sh.length ≤ 1000 := by rw [← HY7.out]; show x6.sh.length ≤ 1000; rw [HSH6.out]; exact HSL0.out
        have hS7 : ∀ y, rs7.set i y = rs.set i y := fun y => by rw [← HRS7.out, List.set_set, HS6.out]
        have HN7 : Hid (∀ y ∈ N, y < w7.heap.size) := Lib.hid (fun y hy => Nat.lt_of_lt_of_le (HN.out y hy) HC7.out.size)
        obtain ⟨nk, nc, nl, ⟨z0, z1, z2, z3, z4, z5, z6, z7⟩⟩ := nx
        have HBc := Lib.hid (HBg.out w7 N rs7 hi7 HN7.out (by rw [HX7.out]; exact hsh7) ⟨nk, nc, nl, ⟨z0, z1, z2, z3, z4, z5, z6, z7⟩⟩ HNX.out HL7.out)
        rw [HX7.out, ← hV] at HBc
        unfold MsgV.val at HBc
        have HS7 := Lib.hid hS7
        clear hV hsh7 hS7 k16
        have c0 : w7.cell? ⟨b, off, none⟩ = some (.int .i64 nk) := HCN7.out 0 (by decide)
        have c1 : w7.cell? ⟨b, off + 1, none⟩ = some (.int .i64 nc) := HCN7.out 1 (by decide)
        have c2 : w7.cell? ⟨b, off + 2, none⟩ = some (.int .i64 nl) := HCN7.out 2 (by decide)
        have c3 : w7.cell? ⟨b, off + 3, none⟩ = some (.int .u64 z0) := HCN7.out 3 (by decide)
        have c4 : w7.cell? ⟨b, off + 4, none⟩ = some (.int .u64 z1) := HCN7.out 4 (by decide)
        have c5 : w7.cell? ⟨b, off + 5, none⟩ = some (.int .u64 z2) := HCN7.out 5 (by decide)
        have c6 : w7.cell? ⟨b, off + 6, none⟩ = some (.int .u64 z3) := HCN7.out 6 (by decide)
        have c7 : w7.cell? ⟨b, off + 7, none⟩ = some (.int .u64 z4) := HCN7.out 7 (by decide)
        have c8 : w7.cell? ⟨b, off + 8, none⟩ = some (.int .u64 z5) := HCN7.out 8 (by decide)
        have c9 : w7.cell? ⟨b, off + 9, none⟩ = some (.int .u64 z6) := HCN7.out 9 (by decide)
        have c10 : w7.cell? ⟨b, off + 10, none⟩ = some (.int .u64 z7) := HCN7.out 10 (by decide)
        go_wp2_with fail
        refine HBc.out.mono ?_
        rintro e w9 ⟨v9, x9, rfl, hx9, ho9, hl9, hk9⟩
        have HX9 := Lib.hid hx9; have HO9 := Lib.hid ho9; have HL9 := Lib.hid hl9; have HC9 := Lib.hid (HC7.out.trans (hk9.mono (T := [bL, bW]) (by simp)))
        have Hs7 : Hid (w.heap.size ≤ w7.heap.size) := Lib.hid HC7.out.size
        clear hx9 ho9 hl9 hk9
        go_wp2_with fail
        go_ret2
        exact ⟨v9, x9, by rw [HR.out]; rfl, by rw [HR.out]; exact HX9.out, by rw [HR.out]; exact ownsRow_base HO9.out Hs7.out, by rw [HR.out, ← HS7.out]; exact HL9.out, HC9.out⟩


    · have hR : hearV n ws x.toV i ⟨7, mc, (i : Int), ⟨m0, m1, m2, m3, m4, m5, m6, m7⟩⟩ = (ws, x.toV, [], 30) := by simp [hearV, RE.toV, hp, hu]
      have HR := Lib.hid hR
      clear hR
      go_wp2_with fail
      go_ret2
      exact ⟨_, x, by rw [HR.out]; rfl, by rw [HR.out], by rw [HR.out]; exact World.ownsRow_nil _ _ _ _, by rw [HR.out, ← HX.out, set_self]; exact HL3.out, HC3.out⟩

  · have hR : hearV n ws x.toV i ⟨7, mc, (i : Int), ⟨m0, m1, m2, m3, m4, m5, m6, m7⟩⟩ = (ws, x.toV, [], 30) := by simp [hearV, RE.toV, hp]
    have HR := Lib.hid hR
    clear hR
    go_wp2_with fail
    go_ret2
    exact ⟨_, x, by rw [HR.out]; rfl, by rw [HR.out], by rw [HR.out]; exact World.ownsRow_nil _ _ _ _, by rw [HR.out, ← HX.out, set_self]; exact HL3.out, HC3.out⟩

end Go.Proofs.Ytepdhajgemmoiaa

