/- The reference's directory hears: PutM, InvAck. -/
import Derived.Test.YtepdhajgemmoiaaRD9
/- The reference's directory hears: PutM. -/

namespace Go.Proofs.Ytepdhajgemmoiaa
set_option linter.unusedSimpArgs false
set_option linter.unusedVariables false
set_option maxRecDepth 100000
set_option linter.unusedSimpArgs false
set_option linter.unusedVariables false
open Go.RowKit
attribute [local go_sem ↓] load_E store_E
attribute [local go_sem] bigOk_E bigVal_E bigFree_E bigPut_E bigNew putAll_drew Value.oneCell'


set_option maxHeartbeats 8000000 in
theorem rHear_3 (w : World) (N : List Nat) (d bL bW n capL : Nat) (cores : Int) (ws : List Int) (rs : List RE) (i : Nat) (hi : i < rs.length) (hN : ∀ x ∈ N, x < w.heap.size) (hsl : rs[i].sh.length ≤ 1000) (hal : rs[i].ak.length ≤ 1000) (hwl : rs[i].wl.length ≤ 900) (m : MsgV) (hk : m.k = 3) (hm : m.l = (i : Int)) (hc : 0 ≤ m.c ∧ m.c < cores) (H : RDAt w N d bL bW n capL cores ws rs) :
    Calls Try.prog 21 #[.pointer (some ⟨d, 0, none⟩), m.val] w (RHPost w N d bL bW n capL cores rs i (hearV n ws rs[i].toV i m)) := by
  have hlt := H.lt
  have hne := H.ne
  have hln := H.len
  have h64 := H.small
  obtain ⟨x, hx⟩ : ∃ x, rs[i] = x := ⟨_, rfl⟩
  have HX := Lib.hid hx; have HN := Lib.hid hN
  have HG := Lib.hid (fun W N' ws' rs' (hi' : i < rs'.length) hN' hs' K' => rgrant_any W N' d bL bW n capL cores ws' rs' i hi' hN' hs' K')
  have HBg := Lib.hid (fun W N' rs' (hi' : i < rs'.length) hN' hs' m' hm' K' => rbegin_any W N' d bL bW n capL cores ws rs' i hi' hN' hs' m' hm' K')
  have hin : (i : Int) < n := by omega
  have hi0 : (0 : Int) ≤ i := Int.natCast_nonneg _
  rw [hx] at hsl hal hwl ⊢
  clear hN
  have HH := Lib.hid H
  obtain ⟨mk, mc, ml, ⟨m0, m1, m2, m3, m4, m5, m6, m7⟩⟩ := m
  simp only at hm hc hk
  subst hm; subst hk
  have hc0 := hc.1; have hc1 := hc.2
  clear hc
  unfold MsgV.val
  simp only
  have HAL := Lib.hid hal; have HWL := Lib.hid hwl; have HSL0 := Lib.hid hsl
  clear hal hwl hsl
  have hal : Chg [] w (w.alloc (.cells #[.int .i64 3, .int .i64 mc, .int .i64 (i : Int), .int .u64 m0, .int .u64 m1, .int .u64 m2, .int .u64 m3, .int .u64 m4, .int .u64 m5, .int .u64 m6, .int .u64 m7] 33)) := (Chg.refl [] w).alloc _
  have HB3 := Lib.hid (Blk.new w [.int .i64 3, .int .i64 mc, .int .i64 (i : Int), .int .u64 m0, .int .u64 m1, .int .u64 m2, .int .u64 m3, .int .u64 m4, .int .u64 m5, .int .u64 m6, .int .u64 m7] 33)
  have HL := Lib.hid (H.look hal)
  have HC := Lib.hid hal
  clear H hx hal
  go_enter Try.func21, Try.ntmps21
  go_upto_region 1 with fail
  generalize World.alloc _ _ = w1 at *
  obtain ⟨b3, hb3⟩ : ∃ q, w.heap.size = q := ⟨_, rfl⟩
  rw [hb3] at HB3 hlt ⊢
  have Hb3 := Lib.hid hb3
  clear hb3
  have n3 : b3 ≠ bL := by omega
  have d1 : w1.cell? ⟨d, 1, none⟩ = some (.int .i64 cores) := HL.out.blk.cell 1
  have d2 : w1.cell? ⟨d, 2, none⟩ = some (.slice (some ⟨bL, 0, none⟩) n capL) := HL.out.blk.cell 2
  have lts := HL.out.lt
  have b3lt : b3 < w1.heap.size := HB3.out.lt
  have y1 : w1.cell? ⟨b3, 1, none⟩ = some (.int .i64 mc) := HB3.out.cell 1
  have y2 : w1.cell? ⟨b3, 2, none⟩ = some (.int .i64 (i : Int)) := HB3.out.cell 2
  go_quiet (fail)
  go_upto_region 3 with fail
  have HL1 := Lib.hid (HL.out.look ((Chg.refl [] w1).drewN nq))
  have HC1 := Lib.hid (HC.out.drewN nq)
  replace HB3 := Lib.hid (HB3.out.drewN nq)
  clear HL HC lts d1 d2 b3lt y1 y2
  generalize World.drewN _ _ = w2 at *
  have d2 : w2.cell? ⟨d, 2, none⟩ = some (.slice (some ⟨bL, 0, none⟩) n capL) := HL1.out.blk.cell 2
  have lts := HL1.out.lt
  have b3lt : b3 < w2.heap.size := HB3.out.lt
  have y2 : w2.cell? ⟨b3, 2, none⟩ = some (.int .i64 (i : Int)) := HB3.out.cell 2
  have e0 : w2.cell? ⟨bL, i * 17, none⟩ = some (.int .i64 x.ow) := by have := HL1.out.cell hi (j := 0) (by decide); rw [HX.out] at this; exact this
  have e1 : w2.cell? ⟨bL, i * 17 + 1, none⟩ = some (.slice x.shA x.sh.length x.shc) := by have := HL1.out.cell hi (j := 1) (by decide); rw [HX.out] at this; exact this
  have e2 : w2.cell? ⟨bL, i * 17 + 2, none⟩ = some (.int .i64 x.un.k) := by have := HL1.out.cell hi (j := 2) (by decide); rw [HX.out] at this; exact this
  have e3 : w2.cell? ⟨bL, i * 17 + 3, none⟩ = some (.int .i64 x.un.c) := by have := HL1.out.cell hi (j := 3) (by decide); rw [HX.out] at this; exact this
  have e4 : w2.cell? ⟨bL, i * 17 + 4, none⟩ = some (.int .i64 x.un.l) := by have := HL1.out.cell hi (j := 4) (by decide); rw [HX.out] at this; exact this
  have e5 : w2.cell? ⟨bL, i * 17 + 5, none⟩ = some (.int .u64 x.un.d.x0) := by have := HL1.out.cell hi (j := 5) (by decide); rw [HX.out] at this; exact this
  have e6 : w2.cell? ⟨bL, i * 17 + 6, none⟩ = some (.int .u64 x.un.d.x1) := by have := HL1.out.cell hi (j := 6) (by decide); rw [HX.out] at this; exact this
  have e7 : w2.cell? ⟨bL, i * 17 + 7, none⟩ = some (.int .u64 x.un.d.x2) := by have := HL1.out.cell hi (j := 7) (by decide); rw [HX.out] at this; exact this
  have e8 : w2.cell? ⟨bL, i * 17 + 8, none⟩ = some (.int .u64 x.un.d.x3) := by have := HL1.out.cell hi (j := 8) (by decide); rw [HX.out] at this; exact this
  have e9 : w2.cell? ⟨bL, i * 17 + 9, none⟩ = some (.int .u64 x.un.d.x4) := by have := HL1.out.cell hi (j := 9) (by decide); rw [HX.out] at this; exact this
  have e10 : w2.cell? ⟨bL, i * 17 + 10, none⟩ = some (.int .u64 x.un.d.x5) := by have := HL1.out.cell hi (j := 10) (by decide); rw [HX.out] at this; exact this
  have e11 : w2.cell? ⟨bL, i * 17 + 11, none⟩ = some (.int .u64 x.un.d.x6) := by have := HL1.out.cell hi (j := 11) (by decide); rw [HX.out] at this; exact this
  have e12 : w2.cell? ⟨bL, i * 17 + 12, none⟩ = some (.int .u64 x.un.d.x7) := by have := HL1.out.cell hi (j := 12) (by decide); rw [HX.out] at this; exact this
  have e13 : w2.cell? ⟨bL, i * 17 + 13, none⟩ = some (.int .i64 x.ph) := by have := HL1.out.cell hi (j := 13) (by decide); rw [HX.out] at this; exact this
  have e14 : w2.cell? ⟨bL, i * 17 + 14, none⟩ = some (.slice x.akA x.ak.length x.akc) := by have := HL1.out.cell hi (j := 14) (by decide); rw [HX.out] at this; exact this
  have e15 : w2.cell? ⟨bL, i * 17 + 15, none⟩ = some (.int .i64 x.asked) := by have := HL1.out.cell hi (j := 15) (by decide); rw [HX.out] at this; exact this
  have e16 : w2.cell? ⟨bL, i * 17 + 16, none⟩ = some (.slice x.wtA x.wl.length x.wtc) := by have := HL1.out.cell hi (j := 16) (by decide); rw [HX.out] at this; exact this
  have HSk : Hid (∀ V, Chg [] w2 V → (V.cell? ⟨d, 2, none⟩ = some (.slice (some ⟨bL, 0, none⟩) n capL) ∧ V.cell? ⟨b3, 2, none⟩ = some (.int .i64 (i : Int)) ∧ V.cell? ⟨bL, i * 17, none⟩ = some (.int .i64 x.ow) ∧ V.cell? ⟨bL, i * 17 + 1, none⟩ = some (.slice x.shA x.sh.length x.shc) ∧ V.cell? ⟨bL, i * 17 + 2, none⟩ = some (.int .i64 x.un.k) ∧ V.cell? ⟨bL, i * 17 + 3, none⟩ = some (.int .i64 x.un.c) ∧ V.cell? ⟨bL, i * 17 + 4, none⟩ = some (.int .i64 x.un.l) ∧ V.cell? ⟨bL, i * 17 + 5, none⟩ = some (.int .u64 x.un.d.x0) ∧ V.cell? ⟨bL, i * 17 + 6, none⟩ = some (.int .u64 x.un.d.x1) ∧ V.cell? ⟨bL, i * 17 + 7, none⟩ = some (.int .u64 x.un.d.x2) ∧ V.cell? ⟨bL, i * 17 + 8, none⟩ = some (.int .u64 x.un.d.x3) ∧ V.cell? ⟨bL, i * 17 + 9, none⟩ = some (.int .u64 x.un.d.x4) ∧ V.cell? ⟨bL, i * 17 + 10, none⟩ = some (.int .u64 x.un.d.x5) ∧ V.cell? ⟨bL, i * 17 + 11, none⟩ = some (.int .u64 x.un.d.x6) ∧ V.cell? ⟨bL, i * 17 + 12, none⟩ = some (.int .u64 x.un.d.x7) ∧ V.cell? ⟨bL, i * 17 + 13, none⟩ = some (.int .i64 x.ph) ∧ V.cell? ⟨bL, i * 17 + 14, none⟩ = some (.slice x.akA x.ak.length x.akc) ∧ V.cell? ⟨bL, i * 17 + 15, none⟩ = some (.int .i64 x.asked) ∧ V.cell? ⟨bL, i * 17 + 16, none⟩ = some (.slice x.wtA x.wl.length x.wtc))) := Lib.hid (fun V k => ⟨(k.cell0 lts.1 _).trans d2, (k.cell0 b3lt _).trans y2, (k.cell0 lts.2.1 _).trans e0, (k.cell0 lts.2.1 _).trans e1, (k.cell0 lts.2.1 _).trans e2, (k.cell0 lts.2.1 _).trans e3, (k.cell0 lts.2.1 _).trans e4, (k.cell0 lts.2.1 _).trans e5, (k.cell0 lts.2.1 _).trans e6, (k.cell0 lts.2.1 _).trans e7, (k.cell0 lts.2.1 _).trans e8, (k.cell0 lts.2.1 _).trans e9, (k.cell0 lts.2.1 _).trans e10, (k.cell0 lts.2.1 _).trans e11, (k.cell0 lts.2.1 _).trans e12, (k.cell0 lts.2.1 _).trans e13, (k.cell0 lts.2.1 _).trans e14, (k.cell0 lts.2.1 _).trans e15, (k.cell0 lts.2.1 _).trans e16⟩)
  go_region_held3 (fun V => V.cell? ⟨d, 2, none⟩ = some (.slice (some ⟨bL, 0, none⟩) n capL) ∧ V.cell? ⟨b3, 2, none⟩ = some (.int .i64 (i : Int)) ∧ V.cell? ⟨bL, i * 17, none⟩ = some (.int .i64 x.ow) ∧ V.cell? ⟨bL, i * 17 + 1, none⟩ = some (.slice x.shA x.sh.length x.shc) ∧ V.cell? ⟨bL, i * 17 + 2, none⟩ = some (.int .i64 x.un.k) ∧ V.cell? ⟨bL, i * 17 + 3, none⟩ = some (.int .i64 x.un.c) ∧ V.cell? ⟨bL, i * 17 + 4, none⟩ = some (.int .i64 x.un.l) ∧ V.cell? ⟨bL, i * 17 + 5, none⟩ = some (.int .u64 x.un.d.x0) ∧ V.cell? ⟨bL, i * 17 + 6, none⟩ = some (.int .u64 x.un.d.x1) ∧ V.cell? ⟨bL, i * 17 + 7, none⟩ = some (.int .u64 x.un.d.x2) ∧ V.cell? ⟨bL, i * 17 + 8, none⟩ = some (.int .u64 x.un.d.x3) ∧ V.cell? ⟨bL, i * 17 + 9, none⟩ = some (.int .u64 x.un.d.x4) ∧ V.cell? ⟨bL, i * 17 + 10, none⟩ = some (.int .u64 x.un.d.x5) ∧ V.cell? ⟨bL, i * 17 + 11, none⟩ = some (.int .u64 x.un.d.x6) ∧ V.cell? ⟨bL, i * 17 + 12, none⟩ = some (.int .u64 x.un.d.x7) ∧ V.cell? ⟨bL, i * 17 + 13, none⟩ = some (.int .i64 x.ph) ∧ V.cell? ⟨bL, i * 17 + 14, none⟩ = some (.slice x.akA x.ak.length x.akc) ∧ V.cell? ⟨bL, i * 17 + 15, none⟩ = some (.int .i64 x.asked) ∧ V.cell? ⟨bL, i * 17 + 16, none⟩ = some (.slice x.wtA x.wl.length x.wtc)) (exact HSk.out _ (by repeat (first | with_reducible exact Chg.refl _ _ | with_reducible refine Chg.drew ?_ | with_reducible refine Chg.alloc ?_ _ | with_reducible refine Chg.setCell ?_ (fun h => absurd h (Nat.lt_irrefl _)) _))) (fail)
  have hal := ((Chg.refl [] w2).alloc (.cells #[.int .i64 x.ow, .slice x.shA x.sh.length x.shc, .int .i64 x.un.k, .int .i64 x.un.c, .int .i64 x.un.l, .int .u64 x.un.d.x0, .int .u64 x.un.d.x1, .int .u64 x.un.d.x2, .int .u64 x.un.d.x3, .int .u64 x.un.d.x4, .int .u64 x.un.d.x5, .int .u64 x.un.d.x6, .int .u64 x.un.d.x7, .int .i64 x.ph, .slice x.akA x.ak.length x.akc, .int .i64 x.asked, .slice x.wtA x.wl.length x.wtc] 99)).drew
  have HB6 := Lib.hid ((Blk.new w2 [.int .i64 x.ow, .slice x.shA x.sh.length x.shc, .int .i64 x.un.k, .int .i64 x.un.c, .int .i64 x.un.l, .int .u64 x.un.d.x0, .int .u64 x.un.d.x1, .int .u64 x.un.d.x2, .int .u64 x.un.d.x3, .int .u64 x.un.d.x4, .int .u64 x.un.d.x5, .int .u64 x.un.d.x6, .int .u64 x.un.d.x7, .int .i64 x.ph, .slice x.akA x.ak.length x.akc, .int .i64 x.asked, .slice x.wtA x.wl.length x.wtc] 99).drew)
  have HL3 := Lib.hid (HL1.out.look hal)
  have HC3 := Lib.hid ((HC1.out.mono (T := [bL, bW]) (by simp)).trans (hal.mono (by simp)))
  replace HB3 := Lib.hid (hal.blk HB3.out (by simp))
  have hs2 : w.heap.size ≤ w2.heap.size := HC1.out.size
  rename_i hHeld
  clear hal HL1 HC1 HSk hHeld d2 y2 e0 e1 e2 e3 e4 e5 e6 e7 e8 e9 e10 e11 e12 e13 e14 e15 e16
  generalize World.drew _ = w3 at *
  obtain ⟨b6, hb6⟩ : ∃ q, w2.heap.size = q := ⟨_, rfl⟩
  rw [hb6] at HB6 lts b3lt hs2 ⊢
  clear hb6
  rw [Hb3.out] at hs2
  have n6 : b6 ≠ bL := by omega
  have n3W : b3 ≠ bW := by omega
  have n6W : b6 ≠ bW := by omega
  have ndL : d ≠ bL := hne.1
  have ndW : d ≠ bW := hne.2.1
  have nLW : bL ≠ bW := hne.2.2
  have hF3 : FzR w3 N x := by have := HL3.out.fz i hi; rw [HX.out] at this; exact this
  have HF3 := Lib.hid hF3
  have HN3 : Hid (∀ y ∈ N, y < w3.heap.size) := Lib.hid (fun y hy => Nat.lt_of_lt_of_le (HN.out y hy) HC3.out.size)
  have l3 := HL3.out.lt
  have b3lt3 : b3 < w3.heap.size := HB3.out.lt
  have b6lt3 : b6 < w3.heap.size := HB6.out.lt
  clear lts b3lt hF3
  have d2 : w3.cell? ⟨d, 2, none⟩ = some (.slice (some ⟨bL, 0, none⟩) n capL) := HL3.out.blk.cell 2
  have y0 : w3.cell? ⟨b3, 0, none⟩ = some (.int .i64 3) := HB3.out.cell 0
  have y1 : w3.cell? ⟨b3, 1, none⟩ = some (.int .i64 mc) := HB3.out.cell 1
  have y2 : w3.cell? ⟨b3, 2, none⟩ = some (.int .i64 (i : Int)) := HB3.out.cell 2
  have k0 : w3.cell? ⟨b6, 0, none⟩ = some (.int .i64 x.ow) := HB6.out.cell 0
  have k13 : w3.cell? ⟨b6, 13, none⟩ = some (.int .i64 x.ph) := HB6.out.cell 13
  by_cases ha : x.ow = mc
  · rw [ha] at k0
    have HA := Lib.hid ha
    have lk := HL3.out.lt
    have b3k : b3 < w3.heap.size := HB3.out.lt
    have HSet := Lib.hid (fun V (k : Chg [] w3 V) => rfSet_any V d bW n ws (i : Int) m0 m1 m2 m3 m4 m5 m6 m7 (HL3.out.look k).mem)
    have y3 : w3.cell? ⟨b3, 3, none⟩ = some (.int .u64 m0) := HB3.out.cell 3
    have y4 : w3.cell? ⟨b3, 4, none⟩ = some (.int .u64 m1) := HB3.out.cell 4
    have y5 : w3.cell? ⟨b3, 5, none⟩ = some (.int .u64 m2) := HB3.out.cell 5
    have y6 : w3.cell? ⟨b3, 6, none⟩ = some (.int .u64 m3) := HB3.out.cell 6
    have y7 : w3.cell? ⟨b3, 7, none⟩ = some (.int .u64 m4) := HB3.out.cell 7
    have y8 : w3.cell? ⟨b3, 8, none⟩ = some (.int .u64 m5) := HB3.out.cell 8
    have y9 : w3.cell? ⟨b3, 9, none⟩ = some (.int .u64 m6) := HB3.out.cell 9
    have y10 : w3.cell? ⟨b3, 10, none⟩ = some (.int .u64 m7) := HB3.out.cell 10
    have HSk : Hid (∀ V, Chg [bW] w3 V → (V.cell? ⟨b3, 2, none⟩ = some (.int .i64 (i : Int)) ∧ V.cell? ⟨b3, 3, none⟩ = some (.int .u64 m0) ∧ V.cell? ⟨b3, 4, none⟩ = some (.int .u64 m1) ∧ V.cell? ⟨b3, 5, none⟩ = some (.int .u64 m2) ∧ V.cell? ⟨b3, 6, none⟩ = some (.int .u64 m3) ∧ V.cell? ⟨b3, 7, none⟩ = some (.int .u64 m4) ∧ V.cell? ⟨b3, 8, none⟩ = some (.int .u64 m5) ∧ V.cell? ⟨b3, 9, none⟩ = some (.int .u64 m6) ∧ V.cell? ⟨b3, 10, none⟩ = some (.int .u64 m7))) := Lib.hid (fun V k => ⟨(k.cell b3k (by simpa using n3W) _).trans y2, (k.cell b3k (by simpa using n3W) _).trans y3, (k.cell b3k (by simpa using n3W) _).trans y4, (k.cell b3k (by simpa using n3W) _).trans y5, (k.cell b3k (by simpa using n3W) _).trans y6, (k.cell b3k (by simpa using n3W) _).trans y7, (k.cell b3k (by simpa using n3W) _).trans y8, (k.cell b3k (by simpa using n3W) _).trans y9, (k.cell b3k (by simpa using n3W) _).trans y10⟩)
    go_upto_region 41 with fail
    go_region_held3 (fun V => V.cell? ⟨b3, 2, none⟩ = some (.int .i64 (i : Int)) ∧ V.cell? ⟨b3, 3, none⟩ = some (.int .u64 m0) ∧ V.cell? ⟨b3, 4, none⟩ = some (.int .u64 m1) ∧ V.cell? ⟨b3, 5, none⟩ = some (.int .u64 m2) ∧ V.cell? ⟨b3, 6, none⟩ = some (.int .u64 m3) ∧ V.cell? ⟨b3, 7, none⟩ = some (.int .u64 m4) ∧ V.cell? ⟨b3, 8, none⟩ = some (.int .u64 m5) ∧ V.cell? ⟨b3, 9, none⟩ = some (.int .u64 m6) ∧ V.cell? ⟨b3, 10, none⟩ = some (.int .u64 m7)) (first | exact HSk.out _ (by repeat (first | with_reducible exact Chg.refl _ _ | with_reducible exact HKb.out | with_reducible refine Chg.drew ?_))) (first | (go_at_call 20; refine (HSet.out _ ((Chg.refl [] _).drew)).mono ?_; rintro e wk ⟨rfl, hmk, hkk⟩; have HKb : Hid (Chg [bW] w3 wk) := Lib.hid ((((Chg.refl [] w3).drew).mono (by simp)).trans hkk); have HMk := Lib.hid hmk; clear hkk hmk) | fail)
    have HLk := Lib.hid (RDAt.turn HL3.out HKb.out HMk.out)
    have HCk := Lib.hid (HC3.out.trans (HKb.out.mono (by simp)))
    replace HB3 := Lib.hid (HKb.out.blk HB3.out (by simpa using n3W))
    replace HB6 := Lib.hid (HKb.out.blk HB6.out (by simpa using n6W))
    have hws : memSet n ws (i : Int) m0 m1 m2 m3 m4 m5 m6 m7 = (wsOf n ws i ⟨m0, m1, m2, m3, m4, m5, m6, m7⟩) := rfl
    rw [hws] at HLk
    clear k0 k13 ha lk b3k y2 y3 y4 y5 y6 y7 y8 y9 y10 HSk HSet HKb HMk HL3 HC3 HF3 HN3 hws d2 y0 y1 l3 b3lt3 b6lt3
    have d2 : wk.cell? ⟨d, 2, none⟩ = some (.slice (some ⟨bL, 0, none⟩) n capL) := HLk.out.blk.cell 2
    have y0 : wk.cell? ⟨b3, 0, none⟩ = some (.int .i64 3) := HB3.out.cell 0
    have y1 : wk.cell? ⟨b3, 1, none⟩ = some (.int .i64 mc) := HB3.out.cell 1
    have y2 : wk.cell? ⟨b3, 2, none⟩ = some (.int .i64 (i : Int)) := HB3.out.cell 2
    have lk := HLk.out.lt
    have b3k : b3 < wk.heap.size := HB3.out.lt
    have ec0 : wk.cell? ⟨bL, i * 17, none⟩ = some (.int .i64 x.ow) := by have := HLk.out.cell hi (j := 0) (by decide); rw [HX.out] at this; exact this
    have fc0 : wk.frozen? ⟨bL, i * 17, none⟩ = false := HLk.out.free _
    go_upto_region 42 with fail
    go_still_tail 8, (by kernel_rfl)
    go_upto_region 43 with fail
    have hF := HLk.out.fz i hi
    rw [HX.out] at hF
    have hp := HLk.out.put hi (j := 0) (by decide) (v := .int .i64 (-1)) (x := { x with ow := -1 }) (by rw [HX.out]; rfl) ⟨hF.sh, hF.ak, hF.wt⟩
    rw [Nat.add_zero] at hp
    obtain ⟨x5, hx5⟩ : ∃ q : RE, ({ x with ow := -1 } : RE) = q := ⟨_, rfl⟩
    rw [hx5] at hp
    obtain ⟨rs5, hrs⟩ : ∃ q, rs.set i x5 = q := ⟨_, rfl⟩
    rw [hrs] at hp
    have hi5 : i < rs5.length := by rw [← hrs, List.length_set]; exact hi
    have HX5 : Hid (rs5[i] = x5) := Lib.hid (by subst hrs; exact List.getElem_set_self _)
    have HRS5 := Lib.hid hrs
    have HY5 := Lib.hid hx5
    have HL5 := Lib.hid (hp.1.look ((Chg.refl [] _).drew))
    have HC5 := Lib.hid ((HCk.out.trans (hp.2.mono (T := [bL, bW]) (by simp))).drew)
    replace HB3 := Lib.hid ((HB3.out.other (a := ⟨bL, i * 17, none⟩) (Ne.symm n3) (.int .i64 (-1))).drew)
    replace HB6 := Lib.hid ((HB6.out.other (a := ⟨bL, i * 17, none⟩) (Ne.symm n6) (.int .i64 (-1))).drew)
    clear hF hp hrs hx5 HLk HCk d2 y0 y1 y2 lk b3k ec0 fc0
    generalize World.drew _ = w5 at *
    have hS5 : rs5 = rs.set i x5 := HRS5.out.symm
    have hS : ∀ y, rs5.set i y = rs.set i y := fun y => by rw [← HRS5.out, List.set_set]
    have hx5 : x5.toV = { x.toV with ow := -1 } := by rw [← HY5.out]; rfl
    have hsh5 : x5.sh = x.sh := by rw [← HY5.out]
    have HS5 := Lib.hid hS; have HSS5 := Lib.hid hS5; have HV5 := Lib.hid hx5; have HSH5 := Lib.hid hsh5
    have HN5 : Hid (∀ y ∈ N, y < w5.heap.size) := Lib.hid (fun y hy => Nat.lt_of_lt_of_le (HN.out y hy) HC5.out.size)
    clear hS hS5 hx5 hsh5
    have d2 : w5.cell? ⟨d, 2, none⟩ = some (.slice (some ⟨bL, 0, none⟩) n capL) := HL5.out.blk.cell 2
    have y1 : w5.cell? ⟨b3, 1, none⟩ = some (.int .i64 mc) := HB3.out.cell 1
    have y2 : w5.cell? ⟨b3, 2, none⟩ = some (.int .i64 (i : Int)) := HB3.out.cell 2
    have b3k : b3 < w5.heap.size := HB3.out.lt
    go_upto_region 44 with fail
    have hal := (Chg.refl [] w5).alloc (.cells #[.int .i64 16, .int .i64 mc, .int .i64 (i : Int), .int .u64 0, .int .u64 0, .int .u64 0, .int .u64 0, .int .u64 0, .int .u64 0, .int .u64 0, .int .u64 0] 33)
    have HR0 := Lib.hid (row_of_blk (base := w5.heap.size) (n := 1) (size := 11) (Blk.new w5 [.int .i64 16, .int .i64 mc, .int .i64 (i : Int), .int .u64 0, .int .u64 0, .int .u64 0, .int .u64 0, .int .u64 0, .int .u64 0, .int .u64 0, .int .u64 0] 33) rfl (Nat.le_refl _) (by unfold maxLen; omega))
    have HL6 := Lib.hid (HL5.out.more (N' := w5.heap.size :: N) hal (fun y hy => List.mem_cons_of_mem _ hy) (fun y hy => (List.mem_cons.1 hy).elim (fun e => .inr (Nat.le_of_eq e.symm)) .inl))
    have HC6 := Lib.hid (HC5.out.trans (hal.mono (by simp)))
    have HN6 : Hid (∀ y ∈ w5.heap.size :: N, y < (w5.alloc (.cells #[.int .i64 16, .int .i64 mc, .int .i64 (i : Int), .int .u64 0, .int .u64 0, .int .u64 0, .int .u64 0, .int .u64 0, .int .u64 0, .int .u64 0, .int .u64 0] 33)).heap.size) := Lib.hid (fun y hy => (List.mem_cons.1 hy).elim (fun e => by rw [e, World.size_alloc]; omega) (fun h => Nat.lt_of_lt_of_le (HN5.out y h) hal.size))
    have Hs6 : Hid (w5.heap.size < (w5.alloc (.cells #[.int .i64 16, .int .i64 mc, .int .i64 (i : Int), .int .u64 0, .int .u64 0, .int .u64 0, .int .u64 0, .int .u64 0, .int .u64 0, .int .u64 0, .int .u64 0] 33)).heap.size) := Lib.hid (by rw [World.size_alloc]; omega)
    replace HB3 := Lib.hid (hal.blk HB3.out (by simp)); replace HB6 := Lib.hid (hal.blk HB6.out (by simp))
    have Hw5 : Hid (w.heap.size ≤ w5.heap.size) := Lib.hid HC5.out.size
    clear hal HL5 HC5 HN5 d2 y1 y2 b3k
    generalize World.alloc _ _ = w6 at *
    obtain ⟨bO, hbO⟩ : ∃ q, w5.heap.size = q := ⟨_, rfl⟩
    rw [hbO] at HR0 Hs6 Hw5 HN6 HL6 ⊢
    clear hbO
    have k13 : w6.cell? ⟨b6, 13, none⟩ = some (.int .i64 x.ph) := HB6.out.cell 13
    have bOlt : bO < w6.heap.size := Hs6.out
    by_cases hp : x.ph = 3
    · rw [hp] at k13
      have hR : hearV n ws x.toV i ⟨3, mc, (i : Int), ⟨m0, m1, m2, m3, m4, m5, m6, m7⟩⟩ = ((wsOf n ws i ⟨m0, m1, m2, m3, m4, m5, m6, m7⟩), grantV x5.toV, [⟨16, mc, (i : Int), {}⟩, grantVM x5.toV i (lineV n (wsOf n ws i ⟨m0, m1, m2, m3, m4, m5, m6, m7⟩) i)], 0) := by rw [HV5.out]; have h2 := HA.out; simp [hearV, RE.toV, h2, hp]
      have HR := Lib.hid hR
      clear hR
      have d2 : w6.cell? ⟨d, 2, none⟩ = some (.slice (some ⟨bL, 0, none⟩) n capL) := HL6.out.blk.cell 2
      have y2 : w6.cell? ⟨b3, 2, none⟩ = some (.int .i64 (i : Int)) := HB3.out.cell 2
      clear hp
      obtain ⟨j0, hj, hy0, hy1, hy2⟩ := info_parts infoMsg
      go_wp2_with fail
      refine (HG.out w6 (bO :: N) (wsOf n ws i ⟨m0, m1, m2, m3, m4, m5, m6, m7⟩) rs5 hi5 HN6.out (by rw [HX5.out]; exact by rw [HSH5.out]; exact HSL0.out) HL6.out).mono ?_
      rintro e w7 ⟨A5, c5, rfl, hl5, hk5⟩
      rw [HX5.out] at hl5 ⊢
      have HL5 := Lib.hid hl5; have HC5 := Lib.hid (HC6.out.trans (hk5.mono (T := [bL, bW]) (by simp)))
      have hbL6 : bL < bO := Nat.lt_of_lt_of_le (by have := HH.out.lt; exact this.2.1) Hw5.out
      have HR7 := Lib.hid (ownsRow_chg HR0.out hk5 (fun q hq hm => by have h1 := List.mem_singleton.1 (show q ∈ [bO] from hq); have h2 := List.mem_singleton.1 hm; omega))
      have Hs7 : Hid (bO < w7.heap.size) := Lib.hid (Nat.lt_of_lt_of_le Hs6.out hk5.size)
      clear hl5 hk5 d2 y2 k13
      have hGm : ∃ g : MsgV, grantRM x5 i (lineV n (wsOf n ws i ⟨m0, m1, m2, m3, m4, m5, m6, m7⟩) i) = g := ⟨_, rfl⟩
      obtain ⟨⟨gk, gc, gl, ⟨g0, g1, g2, g3, g4, g5, g6, g7⟩⟩, hGm⟩ := hGm
      rw [hGm]
      have HGm := Lib.hid hGm
      clear hGm hbL6
      unfold MsgV.val
      have hs7 : bO < w7.heap.size := Hs7.out
      go_wp2_with (first | (at_builtin; refine wpList_append_own_at _ rfl (.tmp 252) (.tmp 257) 26 rfl (bO) 33 j0 (.agg #[.int .i64 0, .int .i64 0, .int .i64 0, .int .u64 0, .int .u64 0, .int .u64 0, .int .u64 0, .int .u64 0, .int .u64 0, .int .u64 0, .int .u64 0]) 11 88 Try.underlying26 hj hy0 hy1 hy2 rfl (by decide) _ _ _ rfl ((HR7.out.alloc _)) ⟨w7.heap.size, 0, none⟩ 1 1 [.int .i64 gk, .int .i64 gc, .int .i64 gl, .int .u64 g0, .int .u64 g1, .int .u64 g2, .int .u64 g3, .int .u64 g4, .int .u64 g5, .int .u64 g6, .int .u64 g7] rfl rfl (cells_at (by simp) [.int .i64 gk, .int .i64 gc, .int .i64 gl, .int .u64 g0, .int .u64 g1, .int .u64 g2, .int .u64 g3, .int .u64 g4, .int .u64 g5, .int .u64 g6, .int .u64 g7] _) (by simp [Value.oneCell']) (by unfold maxLen; omega) (by omega) (by first | omega | (simp; omega) | simp) ?_; intro va1 wa1 hown1 hgrow1 _ hblk1; have hsz1 := hgrow1.size; have HO1 := Lib.hid hown1; have HG1 := Lib.hid hgrow1; have HB1 := Lib.hid hblk1; clear hown1 hgrow1 hblk1) | fail)
      have hk9 : Chg [bO] w7 wa1 := (((Chg.refl [bO] w7).alloc _).grown HG1.out (fun q hq _ => by rw [← Option.some.inj (show some bO = some q from hq)]; exact List.mem_singleton.2 rfl))
      have hlH := HH.out.lt
      have hwb := Hw5.out
      have hl9 := (HL5.out.aside hk9 (fun y hy => by rw [List.mem_singleton.1 hy]; exact ⟨List.mem_cons_self, by omega, by omega, by omega⟩)).less (N := N) (fun y hy => List.mem_cons_of_mem _ hy) HH.out.inN
      have HL9 := Lib.hid hl9
      have HC9 := Lib.hid (HC5.out.trans' hk9 (fun y hy hlt => by rw [List.mem_singleton.1 hy] at hlt; omega))
      clear hk9 hl9 hlH hwb
      go_ret2
      refine ⟨_, grantR x5 A5 c5, by rw [HR.out]; rfl, by rw [HR.out]; exact grantR_toV _ _ _, ?_, ?_, HC9.out⟩
      · rw [HR.out]
        show wa1.ownsRow w.heap.size _ 11 _ 2 ([(⟨16, mc, (i : Int), {}⟩ : MsgV), grantVM x5.toV i (lineV n (wsOf n ws i ⟨m0, m1, m2, m3, m4, m5, m6, m7⟩) i)].flatMap encM)
        rw [← grantRM_toV, HGm.out]
        exact ownsRow_base HO1.out Hw5.out
      · rw [HR.out, ← HS5.out]; exact HL9.out
    · have hR : hearV n ws x.toV i ⟨3, mc, (i : Int), ⟨m0, m1, m2, m3, m4, m5, m6, m7⟩⟩ = ((wsOf n ws i ⟨m0, m1, m2, m3, m4, m5, m6, m7⟩), x5.toV, [⟨16, mc, (i : Int), {}⟩], 0) := by rw [HV5.out]; have h2 := HA.out; simp [hearV, RE.toV, h2, hp]
      have HR := Lib.hid hR
      clear hR
      go_wp2_with fail
      go_ret2
      exact ⟨_, x5, by rw [HR.out]; rfl, by rw [HR.out], by rw [HR.out]; exact ownsRow_base HR0.out Hw5.out, by rw [HR.out, ← HSS5.out]; exact HL6.out.less (fun y hy => List.mem_cons_of_mem _ hy) HH.out.inN, HC6.out⟩


  · have hR : hearV n ws x.toV i ⟨3, mc, (i : Int), ⟨m0, m1, m2, m3, m4, m5, m6, m7⟩⟩ = (ws, x.toV, [], 30) := by simp [hearV, RE.toV, ha]
    have HR := Lib.hid hR
    clear hR
    go_wp2_with fail
    go_ret2
    exact ⟨_, x, by rw [HR.out]; rfl, by rw [HR.out], by rw [HR.out]; exact World.ownsRow_nil _ _ _ _, by rw [HR.out, ← HX.out, set_self]; exact HL3.out, HC3.out⟩

end Go.Proofs.Ytepdhajgemmoiaa

/- The reference's directory hears: InvAck. -/

namespace Go.Proofs.Ytepdhajgemmoiaa
set_option linter.unusedSimpArgs false
set_option linter.unusedVariables false
set_option maxRecDepth 100000
set_option linter.unusedSimpArgs false
set_option linter.unusedVariables false
open Go.RowKit
attribute [local go_sem ↓] load_E store_E
attribute [local go_sem] bigOk_E bigVal_E bigFree_E bigPut_E bigNew putAll_drew Value.oneCell'


set_option maxHeartbeats 8000000 in
theorem rHear_4 (w : World) (N : List Nat) (d bL bW n capL : Nat) (cores : Int) (ws : List Int) (rs : List RE) (i : Nat) (hi : i < rs.length) (hN : ∀ x ∈ N, x < w.heap.size) (hsl : rs[i].sh.length ≤ 1000) (hal : rs[i].ak.length ≤ 1000) (hwl : rs[i].wl.length ≤ 900) (m : MsgV) (hk : m.k = 4) (hm : m.l = (i : Int)) (hc : 0 ≤ m.c ∧ m.c < cores) (H : RDAt w N d bL bW n capL cores ws rs) :
    Calls Try.prog 21 #[.pointer (some ⟨d, 0, none⟩), m.val] w (RHPost w N d bL bW n capL cores rs i (hearV n ws rs[i].toV i m)) := by
  have hlt := H.lt
  have hne := H.ne
  have hln := H.len
  have h64 := H.small
  obtain ⟨x, hx⟩ : ∃ x, rs[i] = x := ⟨_, rfl⟩
  have HX := Lib.hid hx; have HN := Lib.hid hN
  have HG := Lib.hid (fun W N' ws' rs' (hi' : i < rs'.length) hN' hs' K' => rgrant_any W N' d bL bW n capL cores ws' rs' i hi' hN' hs' K')
  have HBg := Lib.hid (fun W N' rs' (hi' : i < rs'.length) hN' hs' m' hm' K' => rbegin_any W N' d bL bW n capL cores ws rs' i hi' hN' hs' m' hm' K')
  have hin : (i : Int) < n := by omega
  have hi0 : (0 : Int) ≤ i := Int.natCast_nonneg _
  rw [hx] at hsl hal hwl ⊢
  clear hN
  have HH := Lib.hid H
  obtain ⟨mk, mc, ml, ⟨m0, m1, m2, m3, m4, m5, m6, m7⟩⟩ := m
  simp only at hm hc hk
  subst hm; subst hk
  have hc0 := hc.1; have hc1 := hc.2
  clear hc
  unfold MsgV.val
  simp only
  have HAL := Lib.hid hal; have HWL := Lib.hid hwl; have HSL0 := Lib.hid hsl
  clear hal hwl hsl
  have hal : Chg [] w (w.alloc (.cells #[.int .i64 4, .int .i64 mc, .int .i64 (i : Int), .int .u64 m0, .int .u64 m1, .int .u64 m2, .int .u64 m3, .int .u64 m4, .int .u64 m5, .int .u64 m6, .int .u64 m7] 33)) := (Chg.refl [] w).alloc _
  have HB3 := Lib.hid (Blk.new w [.int .i64 4, .int .i64 mc, .int .i64 (i : Int), .int .u64 m0, .int .u64 m1, .int .u64 m2, .int .u64 m3, .int .u64 m4, .int .u64 m5, .int .u64 m6, .int .u64 m7] 33)
  have HL := Lib.hid (H.look hal)
  have HC := Lib.hid hal
  clear H hx hal
  go_enter Try.func21, Try.ntmps21
  go_upto_region 1 with fail
  generalize World.alloc _ _ = w1 at *
  obtain ⟨b3, hb3⟩ : ∃ q, w.heap.size = q := ⟨_, rfl⟩
  rw [hb3] at HB3 hlt ⊢
  have Hb3 := Lib.hid hb3
  clear hb3
  have n3 : b3 ≠ bL := by omega
  have d1 : w1.cell? ⟨d, 1, none⟩ = some (.int .i64 cores) := HL.out.blk.cell 1
  have d2 : w1.cell? ⟨d, 2, none⟩ = some (.slice (some ⟨bL, 0, none⟩) n capL) := HL.out.blk.cell 2
  have lts := HL.out.lt
  have b3lt : b3 < w1.heap.size := HB3.out.lt
  have y1 : w1.cell? ⟨b3, 1, none⟩ = some (.int .i64 mc) := HB3.out.cell 1
  have y2 : w1.cell? ⟨b3, 2, none⟩ = some (.int .i64 (i : Int)) := HB3.out.cell 2
  go_quiet (fail)
  go_upto_region 3 with fail
  have HL1 := Lib.hid (HL.out.look ((Chg.refl [] w1).drewN nq))
  have HC1 := Lib.hid (HC.out.drewN nq)
  replace HB3 := Lib.hid (HB3.out.drewN nq)
  clear HL HC lts d1 d2 b3lt y1 y2
  generalize World.drewN _ _ = w2 at *
  have d2 : w2.cell? ⟨d, 2, none⟩ = some (.slice (some ⟨bL, 0, none⟩) n capL) := HL1.out.blk.cell 2
  have lts := HL1.out.lt
  have b3lt : b3 < w2.heap.size := HB3.out.lt
  have y2 : w2.cell? ⟨b3, 2, none⟩ = some (.int .i64 (i : Int)) := HB3.out.cell 2
  have e0 : w2.cell? ⟨bL, i * 17, none⟩ = some (.int .i64 x.ow) := by have := HL1.out.cell hi (j := 0) (by decide); rw [HX.out] at this; exact this
  have e1 : w2.cell? ⟨bL, i * 17 + 1, none⟩ = some (.slice x.shA x.sh.length x.shc) := by have := HL1.out.cell hi (j := 1) (by decide); rw [HX.out] at this; exact this
  have e2 : w2.cell? ⟨bL, i * 17 + 2, none⟩ = some (.int .i64 x.un.k) := by have := HL1.out.cell hi (j := 2) (by decide); rw [HX.out] at this; exact this
  have e3 : w2.cell? ⟨bL, i * 17 + 3, none⟩ = some (.int .i64 x.un.c) := by have := HL1.out.cell hi (j := 3) (by decide); rw [HX.out] at this; exact this
  have e4 : w2.cell? ⟨bL, i * 17 + 4, none⟩ = some (.int .i64 x.un.l) := by have := HL1.out.cell hi (j := 4) (by decide); rw [HX.out] at this; exact this
  have e5 : w2.cell? ⟨bL, i * 17 + 5, none⟩ = some (.int .u64 x.un.d.x0) := by have := HL1.out.cell hi (j := 5) (by decide); rw [HX.out] at this; exact this
  have e6 : w2.cell? ⟨bL, i * 17 + 6, none⟩ = some (.int .u64 x.un.d.x1) := by have := HL1.out.cell hi (j := 6) (by decide); rw [HX.out] at this; exact this
  have e7 : w2.cell? ⟨bL, i * 17 + 7, none⟩ = some (.int .u64 x.un.d.x2) := by have := HL1.out.cell hi (j := 7) (by decide); rw [HX.out] at this; exact this
  have e8 : w2.cell? ⟨bL, i * 17 + 8, none⟩ = some (.int .u64 x.un.d.x3) := by have := HL1.out.cell hi (j := 8) (by decide); rw [HX.out] at this; exact this
  have e9 : w2.cell? ⟨bL, i * 17 + 9, none⟩ = some (.int .u64 x.un.d.x4) := by have := HL1.out.cell hi (j := 9) (by decide); rw [HX.out] at this; exact this
  have e10 : w2.cell? ⟨bL, i * 17 + 10, none⟩ = some (.int .u64 x.un.d.x5) := by have := HL1.out.cell hi (j := 10) (by decide); rw [HX.out] at this; exact this
  have e11 : w2.cell? ⟨bL, i * 17 + 11, none⟩ = some (.int .u64 x.un.d.x6) := by have := HL1.out.cell hi (j := 11) (by decide); rw [HX.out] at this; exact this
  have e12 : w2.cell? ⟨bL, i * 17 + 12, none⟩ = some (.int .u64 x.un.d.x7) := by have := HL1.out.cell hi (j := 12) (by decide); rw [HX.out] at this; exact this
  have e13 : w2.cell? ⟨bL, i * 17 + 13, none⟩ = some (.int .i64 x.ph) := by have := HL1.out.cell hi (j := 13) (by decide); rw [HX.out] at this; exact this
  have e14 : w2.cell? ⟨bL, i * 17 + 14, none⟩ = some (.slice x.akA x.ak.length x.akc) := by have := HL1.out.cell hi (j := 14) (by decide); rw [HX.out] at this; exact this
  have e15 : w2.cell? ⟨bL, i * 17 + 15, none⟩ = some (.int .i64 x.asked) := by have := HL1.out.cell hi (j := 15) (by decide); rw [HX.out] at this; exact this
  have e16 : w2.cell? ⟨bL, i * 17 + 16, none⟩ = some (.slice x.wtA x.wl.length x.wtc) := by have := HL1.out.cell hi (j := 16) (by decide); rw [HX.out] at this; exact this
  have HSk : Hid (∀ V, Chg [] w2 V → (V.cell? ⟨d, 2, none⟩ = some (.slice (some ⟨bL, 0, none⟩) n capL) ∧ V.cell? ⟨b3, 2, none⟩ = some (.int .i64 (i : Int)) ∧ V.cell? ⟨bL, i * 17, none⟩ = some (.int .i64 x.ow) ∧ V.cell? ⟨bL, i * 17 + 1, none⟩ = some (.slice x.shA x.sh.length x.shc) ∧ V.cell? ⟨bL, i * 17 + 2, none⟩ = some (.int .i64 x.un.k) ∧ V.cell? ⟨bL, i * 17 + 3, none⟩ = some (.int .i64 x.un.c) ∧ V.cell? ⟨bL, i * 17 + 4, none⟩ = some (.int .i64 x.un.l) ∧ V.cell? ⟨bL, i * 17 + 5, none⟩ = some (.int .u64 x.un.d.x0) ∧ V.cell? ⟨bL, i * 17 + 6, none⟩ = some (.int .u64 x.un.d.x1) ∧ V.cell? ⟨bL, i * 17 + 7, none⟩ = some (.int .u64 x.un.d.x2) ∧ V.cell? ⟨bL, i * 17 + 8, none⟩ = some (.int .u64 x.un.d.x3) ∧ V.cell? ⟨bL, i * 17 + 9, none⟩ = some (.int .u64 x.un.d.x4) ∧ V.cell? ⟨bL, i * 17 + 10, none⟩ = some (.int .u64 x.un.d.x5) ∧ V.cell? ⟨bL, i * 17 + 11, none⟩ = some (.int .u64 x.un.d.x6) ∧ V.cell? ⟨bL, i * 17 + 12, none⟩ = some (.int .u64 x.un.d.x7) ∧ V.cell? ⟨bL, i * 17 + 13, none⟩ = some (.int .i64 x.ph) ∧ V.cell? ⟨bL, i * 17 + 14, none⟩ = some (.slice x.akA x.ak.length x.akc) ∧ V.cell? ⟨bL, i * 17 + 15, none⟩ = some (.int .i64 x.asked) ∧ V.cell? ⟨bL, i * 17 + 16, none⟩ = some (.slice x.wtA x.wl.length x.wtc))) := Lib.hid (fun V k => ⟨(k.cell0 lts.1 _).trans d2, (k.cell0 b3lt _).trans y2, (k.cell0 lts.2.1 _).trans e0, (k.cell0 lts.2.1 _).trans e1, (k.cell0 lts.2.1 _).trans e2, (k.cell0 lts.2.1 _).trans e3, (k.cell0 lts.2.1 _).trans e4, (k.cell0 lts.2.1 _).trans e5, (k.cell0 lts.2.1 _).trans e6, (k.cell0 lts.2.1 _).trans e7, (k.cell0 lts.2.1 _).trans e8, (k.cell0 lts.2.1 _).trans e9, (k.cell0 lts.2.1 _).trans e10, (k.cell0 lts.2.1 _).trans e11, (k.cell0 lts.2.1 _).trans e12, (k.cell0 lts.2.1 _).trans e13, (k.cell0 lts.2.1 _).trans e14, (k.cell0 lts.2.1 _).trans e15, (k.cell0 lts.2.1 _).trans e16⟩)
  go_region_held3 (fun V => V.cell? ⟨d, 2, none⟩ = some (.slice (some ⟨bL, 0, none⟩) n capL) ∧ V.cell? ⟨b3, 2, none⟩ = some (.int .i64 (i : Int)) ∧ V.cell? ⟨bL, i * 17, none⟩ = some (.int .i64 x.ow) ∧ V.cell? ⟨bL, i * 17 + 1, none⟩ = some (.slice x.shA x.sh.length x.shc) ∧ V.cell? ⟨bL, i * 17 + 2, none⟩ = some (.int .i64 x.un.k) ∧ V.cell? ⟨bL, i * 17 + 3, none⟩ = some (.int .i64 x.un.c) ∧ V.cell? ⟨bL, i * 17 + 4, none⟩ = some (.int .i64 x.un.l) ∧ V.cell? ⟨bL, i * 17 + 5, none⟩ = some (.int .u64 x.un.d.x0) ∧ V.cell? ⟨bL, i * 17 + 6, none⟩ = some (.int .u64 x.un.d.x1) ∧ V.cell? ⟨bL, i * 17 + 7, none⟩ = some (.int .u64 x.un.d.x2) ∧ V.cell? ⟨bL, i * 17 + 8, none⟩ = some (.int .u64 x.un.d.x3) ∧ V.cell? ⟨bL, i * 17 + 9, none⟩ = some (.int .u64 x.un.d.x4) ∧ V.cell? ⟨bL, i * 17 + 10, none⟩ = some (.int .u64 x.un.d.x5) ∧ V.cell? ⟨bL, i * 17 + 11, none⟩ = some (.int .u64 x.un.d.x6) ∧ V.cell? ⟨bL, i * 17 + 12, none⟩ = some (.int .u64 x.un.d.x7) ∧ V.cell? ⟨bL, i * 17 + 13, none⟩ = some (.int .i64 x.ph) ∧ V.cell? ⟨bL, i * 17 + 14, none⟩ = some (.slice x.akA x.ak.length x.akc) ∧ V.cell? ⟨bL, i * 17 + 15, none⟩ = some (.int .i64 x.asked) ∧ V.cell? ⟨bL, i * 17 + 16, none⟩ = some (.slice x.wtA x.wl.length x.wtc)) (exact HSk.out _ (by repeat (first | with_reducible exact Chg.refl _ _ | with_reducible refine Chg.drew ?_ | with_reducible refine Chg.alloc ?_ _ | with_reducible refine Chg.setCell ?_ (fun h => absurd h (Nat.lt_irrefl _)) _))) (fail)
  have hal := ((Chg.refl [] w2).alloc (.cells #[.int .i64 x.ow, .slice x.shA x.sh.length x.shc, .int .i64 x.un.k, .int .i64 x.un.c, .int .i64 x.un.l, .int .u64 x.un.d.x0, .int .u64 x.un.d.x1, .int .u64 x.un.d.x2, .int .u64 x.un.d.x3, .int .u64 x.un.d.x4, .int .u64 x.un.d.x5, .int .u64 x.un.d.x6, .int .u64 x.un.d.x7, .int .i64 x.ph, .slice x.akA x.ak.length x.akc, .int .i64 x.asked, .slice x.wtA x.wl.length x.wtc] 99)).drew
  have HB6 := Lib.hid ((Blk.new w2 [.int .i64 x.ow, .slice x.shA x.sh.length x.shc, .int .i64 x.un.k, .int .i64 x.un.c, .int .i64 x.un.l, .int .u64 x.un.d.x0, .int .u64 x.un.d.x1, .int .u64 x.un.d.x2, .int .u64 x.un.d.x3, .int .u64 x.un.d.x4, .int .u64 x.un.d.x5, .int .u64 x.un.d.x6, .int .u64 x.un.d.x7, .int .i64 x.ph, .slice x.akA x.ak.length x.akc, .int .i64 x.asked, .slice x.wtA x.wl.length x.wtc] 99).drew)
  have HL3 := Lib.hid (HL1.out.look hal)
  have HC3 := Lib.hid ((HC1.out.mono (T := [bL, bW]) (by simp)).trans (hal.mono (by simp)))
  replace HB3 := Lib.hid (hal.blk HB3.out (by simp))
  have hs2 : w.heap.size ≤ w2.heap.size := HC1.out.size
  rename_i hHeld
  clear hal HL1 HC1 HSk hHeld d2 y2 e0 e1 e2 e3 e4 e5 e6 e7 e8 e9 e10 e11 e12 e13 e14 e15 e16
  generalize World.drew _ = w3 at *
  obtain ⟨b6, hb6⟩ : ∃ q, w2.heap.size = q := ⟨_, rfl⟩
  rw [hb6] at HB6 lts b3lt hs2 ⊢
  clear hb6
  rw [Hb3.out] at hs2
  have n6 : b6 ≠ bL := by omega
  have n3W : b3 ≠ bW := by omega
  have n6W : b6 ≠ bW := by omega
  have ndL : d ≠ bL := hne.1
  have ndW : d ≠ bW := hne.2.1
  have nLW : bL ≠ bW := hne.2.2
  have hF3 : FzR w3 N x := by have := HL3.out.fz i hi; rw [HX.out] at this; exact this
  have HF3 := Lib.hid hF3
  have HN3 : Hid (∀ y ∈ N, y < w3.heap.size) := Lib.hid (fun y hy => Nat.lt_of_lt_of_le (HN.out y hy) HC3.out.size)
  have l3 := HL3.out.lt
  have b3lt3 : b3 < w3.heap.size := HB3.out.lt
  have b6lt3 : b6 < w3.heap.size := HB6.out.lt
  clear lts b3lt hF3
  have d2 : w3.cell? ⟨d, 2, none⟩ = some (.slice (some ⟨bL, 0, none⟩) n capL) := HL3.out.blk.cell 2
  have y0 : w3.cell? ⟨b3, 0, none⟩ = some (.int .i64 4) := HB3.out.cell 0
  have y1 : w3.cell? ⟨b3, 1, none⟩ = some (.int .i64 mc) := HB3.out.cell 1
  have y2 : w3.cell? ⟨b3, 2, none⟩ = some (.int .i64 (i : Int)) := HB3.out.cell 2
  have k13 : w3.cell? ⟨b6, 13, none⟩ = some (.int .i64 x.ph) := HB6.out.cell 13
  have k14 : w3.cell? ⟨b6, 14, none⟩ = some (.slice x.akA x.ak.length x.akc) := HB6.out.cell 14
  by_cases hp : x.ph = 1
  · rw [hp] at k13
    have HHa := Lib.hid (Has_any w3 x.akA x.akc x.ak mc HAL.out HF3.out.ak.rd)
    by_cases hm : mc ∈ x.ak
    · rw [decide_eq_true hm] at HHa
      go_wp2_with fail
      refine HHa.out.mono ?_
      rintro e w4 ⟨rfl, rfl⟩
      have HP := Lib.hid hp; have HMm := Lib.hid hm
      clear HHa k13 k14 y0 y1 y2 d2 l3 b3lt3 b6lt3 hp hm
      have d2 : w3.cell? ⟨d, 2, none⟩ = some (.slice (some ⟨bL, 0, none⟩) n capL) := HL3.out.blk.cell 2
      have y1 : w3.cell? ⟨b3, 1, none⟩ = some (.int .i64 mc) := HB3.out.cell 1
      have y2 : w3.cell? ⟨b3, 2, none⟩ = some (.int .i64 (i : Int)) := HB3.out.cell 2
      have k1 : w3.cell? ⟨b6, 1, none⟩ = some (.slice x.shA x.sh.length x.shc) := HB6.out.cell 1
      have lk := HL3.out.lt
      have b3k : b3 < w3.heap.size := HB3.out.lt
      have b6k : b6 < w3.heap.size := HB6.out.lt
      have HWi := Lib.hid (fun V (k : Chg [] w3 V) => without_any V x.shA x.shc x.sh mc HSL0.out ((HF3.out.sh.rd).chg0 k))
      have ec1 : w3.cell? ⟨bL, i * 17 + 1, none⟩ = some (.slice x.shA x.sh.length x.shc) := by have := HL3.out.cell hi (j := 1) (by decide); rw [HX.out] at this; exact this
      have HNk : Hid (∀ y ∈ N, y < w3.heap.size) := Lib.hid (fun y hy => Nat.lt_of_lt_of_le (HN.out y hy) HC3.out.size)
      have llk : bL < w3.heap.size := HL3.out.lt.2.1
      have HSk : Hid (∀ V, Chg [bL] w3 V → (V.cell? ⟨d, 2, none⟩ = some (.slice (some ⟨bL, 0, none⟩) n capL) ∧ V.cell? ⟨b3, 1, none⟩ = some (.int .i64 mc) ∧ V.cell? ⟨b3, 2, none⟩ = some (.int .i64 (i : Int)) ∧ V.cell? ⟨b6, 1, none⟩ = some (.slice x.shA x.sh.length x.shc))) := Lib.hid (fun V k => ⟨(k.cell lk.1 (by simpa using ndL) _).trans d2, (k.cell b3k (by simpa using n3) _).trans y1, (k.cell b3k (by simpa using n3) _).trans y2, (k.cell b6k (by simpa using n6) _).trans k1⟩)
      go_upto_region 18 with fail
      go_region_held3 (fun V => V.cell? ⟨d, 2, none⟩ = some (.slice (some ⟨bL, 0, none⟩) n capL) ∧ V.cell? ⟨b3, 1, none⟩ = some (.int .i64 mc) ∧ V.cell? ⟨b3, 2, none⟩ = some (.int .i64 (i : Int)) ∧ V.cell? ⟨b6, 1, none⟩ = some (.slice x.shA x.sh.length x.shc)) (first | exact HSk.out _ (by repeat (first | with_reducible exact Chg.refl _ _ | with_reducible exact HKb.out | with_reducible refine Chg.drew ?_ | with_reducible refine Chg.setCell ?_ (by simp) _))) (first | (go_at_call 41; refine (HWi.out _ ((Chg.refl [] _).drew)).mono ?_; rintro e wk ⟨vk, rfl, hok, hkk⟩; have hkb : Chg [] w3 wk := ((Chg.refl [] w3).drew).trans hkk; rw [← flat_encN] at hok; obtain ⟨Ak, ck, hvk, hzk⟩ := FzL.of_row (N := N) encN_len hok (fun y hy hm => absurd (show w3.heap.size ≤ y from (hok.lt y (by simpa using hy)).1) (Nat.not_le.2 (HNk.out y hm))); subst hvk; have HZk := Lib.hid hzk; have HKk := Lib.hid hkb; have HKb : Hid (Chg [bL] w3 wk) := Lib.hid (hkb.mono (by simp)); clear hok hkk hzk hkb; have qk : wk.cell? ⟨bL, i * 17 + 1, none⟩ = some (.slice x.shA x.sh.length x.shc) := (HKk.out.cell0 llk _).trans ec1; have gk : wk.frozen? ⟨bL, i * 17 + 1, none⟩ = false := (HL3.out.look HKk.out).free _) | fail)
      have HLk := Lib.hid (HL3.out.look HKk.out)
      have HCk := Lib.hid (HC3.out.trans (HKk.out.mono (by simp)))
      replace HB3 := Lib.hid (HKk.out.blk HB3.out (by simp))
      replace HB6 := Lib.hid (HKk.out.blk HB6.out (by simp))
      clear d2 lk b3k b6k y1 y2 k1 HSk HWi HNk llk ec1 qk gk HL3 HC3 HN3
      have hF := HLk.out.fz i hi
      rw [HX.out] at hF
      have hp := HLk.out.put hi (j := 1) (by decide) (v := .slice Ak (withoutL x.sh mc).length ck) (x := { x with shA := Ak, shc := ck, sh := withoutL x.sh mc }) (by rw [HX.out]; rfl) ⟨HZk.out, hF.ak, hF.wt⟩
      obtain ⟨x7, hx7⟩ : ∃ q : RE, ({ x with shA := Ak, shc := ck, sh := withoutL x.sh mc } : RE) = q := ⟨_, rfl⟩
      rw [hx7] at hp
      obtain ⟨rs7, hrs⟩ : ∃ q, rs.set i x7 = q := ⟨_, rfl⟩
      rw [hrs] at hp
      have hi7 : i < rs7.length := by rw [← hrs, List.length_set]; exact hi
      have HX7 : Hid (rs7[i] = x7) := Lib.hid (by subst hrs; exact List.getElem_set_self _)
      have HRS7 := Lib.hid hrs
      have HY7 := Lib.hid hx7
      have HL7 := Lib.hid (hp.1)
      have HC7 := Lib.hid ((HCk.out.trans (hp.2.mono (T := [bL, bW]) (by simp))))
      replace HB3 := Lib.hid ((HB3.out.other (a := ⟨bL, i * 17 + 1, none⟩) (Ne.symm n3) (.slice Ak (withoutL x.sh mc).length ck)))
      replace HB6 := Lib.hid ((HB6.out.other (a := ⟨bL, i * 17 + 1, none⟩) (Ne.symm n6) (.slice Ak (withoutL x.sh mc).length ck)))
      clear hF hp hrs hx7 HLk HCk HKk HKb HZk
      generalize World.setCell _ _ _ = w7 at *
      have HF7 : Hid (FzR w7 N x7) := Lib.hid (by have := HL7.out.fz i hi7; rw [HX7.out] at this; exact this)
      have hak7 : x7.ak = x.ak := by rw [← HY7.out]
      have hakA7 : x7.akA = x.akA := by rw [← HY7.out]
      have hakc7 : x7.akc = x.akc := by rw [← HY7.out]
      have HAK7 := Lib.hid hak7; have HAKA7 := Lib.hid hakA7; have HAKc7 := Lib.hid hakc7
      clear hak7 hakA7 hakc7
      have HRd7 : Hid (Rd w7 w7.heap.size x.akA 1 encN x.ak) := Lib.hid (by have := HF7.out.ak.rd; rw [HAK7.out, HAKA7.out] at this; exact this)
      have d2 : w7.cell? ⟨d, 2, none⟩ = some (.slice (some ⟨bL, 0, none⟩) n capL) := HL7.out.blk.cell 2
      have y1 : w7.cell? ⟨b3, 1, none⟩ = some (.int .i64 mc) := HB3.out.cell 1
      have y2 : w7.cell? ⟨b3, 2, none⟩ = some (.int .i64 (i : Int)) := HB3.out.cell 2
      have k14 : w7.cell? ⟨b6, 14, none⟩ = some (.slice x.akA x.ak.length x.akc) := HB6.out.cell 14
      have lk := HL7.out.lt
      have b3k : b3 < w7.heap.size := HB3.out.lt
      have b6k : b6 < w7.heap.size := HB6.out.lt
      have HWi := Lib.hid (fun V (k : Chg [] w7 V) => without_any V x.akA x.akc x.ak mc HAL.out ((HRd7.out).chg0 k))
      have ec14 : w7.cell? ⟨bL, i * 17 + 14, none⟩ = some (.slice x7.akA x7.ak.length x7.akc) := by have := HL7.out.cell hi7 (j := 14) (by decide); rw [HX7.out] at this; exact this
      have HNk : Hid (∀ y ∈ N, y < w7.heap.size) := Lib.hid (fun y hy => Nat.lt_of_lt_of_le (HN.out y hy) HC7.out.size)
      have llk : bL < w7.heap.size := HL7.out.lt.2.1
      have HSk : Hid (∀ V, Chg [bL] w7 V → (V.cell? ⟨d, 2, none⟩ = some (.slice (some ⟨bL, 0, none⟩) n capL) ∧ V.cell? ⟨b3, 1, none⟩ = some (.int .i64 mc) ∧ V.cell? ⟨b3, 2, none⟩ = some (.int .i64 (i : Int)) ∧ V.cell? ⟨b6, 14, none⟩ = some (.slice x.akA x.ak.length x.akc))) := Lib.hid (fun V k => ⟨(k.cell lk.1 (by simpa using ndL) _).trans d2, (k.cell b3k (by simpa using n3) _).trans y1, (k.cell b3k (by simpa using n3) _).trans y2, (k.cell b6k (by simpa using n6) _).trans k14⟩)
      go_upto_region 19 with fail
      go_region_held3 (fun V => V.cell? ⟨d, 2, none⟩ = some (.slice (some ⟨bL, 0, none⟩) n capL) ∧ V.cell? ⟨b3, 1, none⟩ = some (.int .i64 mc) ∧ V.cell? ⟨b3, 2, none⟩ = some (.int .i64 (i : Int)) ∧ V.cell? ⟨b6, 14, none⟩ = some (.slice x.akA x.ak.length x.akc)) (first | exact HSk.out _ (by repeat (first | with_reducible exact Chg.refl _ _ | with_reducible exact HKb.out | with_reducible refine Chg.drew ?_ | with_reducible refine Chg.setCell ?_ (by simp) _))) (first | (go_at_call 41; refine (HWi.out _ ((Chg.refl [] _).drew)).mono ?_; rintro e wk ⟨vk, rfl, hok, hkk⟩; have hkb : Chg [] w7 wk := ((Chg.refl [] w7).drew).trans hkk; rw [← flat_encN] at hok; obtain ⟨Ak, ck, hvk, hzk⟩ := FzL.of_row (N := N) encN_len hok (fun y hy hm => absurd (show w7.heap.size ≤ y from (hok.lt y (by simpa using hy)).1) (Nat.not_le.2 (HNk.out y hm))); subst hvk; have HZk := Lib.hid hzk; have HKk := Lib.hid hkb; have HKb : Hid (Chg [bL] w7 wk) := Lib.hid (hkb.mono (by simp)); clear hok hkk hzk hkb; have qk : wk.cell? ⟨bL, i * 17 + 14, none⟩ = some (.slice x7.akA x7.ak.length x7.akc) := (HKk.out.cell0 llk _).trans ec14; have gk : wk.frozen? ⟨bL, i * 17 + 14, none⟩ = false := (HL7.out.look HKk.out).free _) | fail)
      have HLk := Lib.hid (HL7.out.look HKk.out)
      have HCk := Lib.hid (HC7.out.trans (HKk.out.mono (by simp)))
      replace HB3 := Lib.hid (HKk.out.blk HB3.out (by simp))
      replace HB6 := Lib.hid (HKk.out.blk HB6.out (by simp))
      clear d2 lk b3k b6k y1 y2 k14 HSk HWi HNk llk ec14 qk gk HL7 HC7 HRd7 HF7
      have hF := HLk.out.fz i hi7
      rw [HX7.out] at hF
      have hp := HLk.out.put hi7 (j := 14) (by decide) (v := .slice Ak (withoutL x.ak mc).length ck) (x := { x7 with akA := Ak, akc := ck, ak := withoutL x.ak mc }) (by rw [HX7.out]; rfl) ⟨hF.sh, HZk.out, hF.wt⟩
      obtain ⟨x8, hx8⟩ : ∃ q : RE, ({ x7 with akA := Ak, akc := ck, ak := withoutL x.ak mc } : RE) = q := ⟨_, rfl⟩
      rw [hx8] at hp
      obtain ⟨rs8, hrs⟩ : ∃ q, rs7.set i x8 = q := ⟨_, rfl⟩
      rw [hrs] at hp
      have hi8 : i < rs8.length := by rw [← hrs, List.length_set]; exact hi7
      have HX8 : Hid (rs8[i] = x8) := Lib.hid (by subst hrs; exact List.getElem_set_self _)
      have HRS8 := Lib.hid hrs
      have HY8 := Lib.hid hx8
      have HL8 := Lib.hid (hp.1)
      have HC8 := Lib.hid ((HCk.out.trans (hp.2.mono (T := [bL, bW]) (by simp))))
      replace HB3 := Lib.hid ((HB3.out.other (a := ⟨bL, i * 17 + 14, none⟩) (Ne.symm n3) (.slice Ak (withoutL x.ak mc).length ck)))
      replace HB6 := Lib.hid ((HB6.out.other (a := ⟨bL, i * 17 + 14, none⟩) (Ne.symm n6) (.slice Ak (withoutL x.ak mc).length ck)))
      clear hF hp hrs hx8 HLk HCk HKk HKb HZk
      generalize World.setCell _ _ _ = w8 at *
      have hx8 : x8.toV = { x.toV with sh := withoutL x.sh mc, ak := withoutL x.ak mc } := by rw [← HY8.out, ← HY7.out]; rfl
      have hS : ∀ y, rs8.set i y = rs.set i y := fun y => by rw [← HRS8.out, ← HRS7.out, List.set_set, List.set_set]
      have hS8 : rs8 = rs.set i x8 := by rw [← HRS8.out, ← HRS7.out, List.set_set]
      have hsh8 : x8.sh.length ≤ 1000 := by rw [← HY8.out, ← HY7.out]; exact Nat.le_trans (withoutL_le _ _) HSL0.out
      have hln8 : x8.ak = withoutL x.ak mc := by rw [← HY8.out]
      have HV8 := Lib.hid hx8; have HS8 := Lib.hid hS; have HSS8 := Lib.hid hS8; have HSH8 := Lib.hid hsh8; have HLN8 := Lib.hid hln8
      clear hx8 hS hS8 hsh8 hln8
      have ec14 : w8.cell? ⟨bL, i * 17 + 14, none⟩ = some (.slice x8.akA (withoutL x.ak mc).length x8.akc) := by have := HL8.out.cell hi8 (j := 14) (by decide); rw [HX8.out] at this; rw [← HLN8.out]; exact this
      have d2 : w8.cell? ⟨d, 2, none⟩ = some (.slice (some ⟨bL, 0, none⟩) n capL) := HL8.out.blk.cell 2
      have y2 : w8.cell? ⟨b3, 2, none⟩ = some (.int .i64 (i : Int)) := HB3.out.cell 2
      have l8 := HL8.out.lt
      have b3k : b3 < w8.heap.size := HB3.out.lt
      by_cases hz : withoutL x.ak mc = []
      · rw [hz] at ec14
        have ec14b : w8.cell? ⟨bL, i * 17 + 14, none⟩ = some (.slice x8.akA 0 x8.akc) := ec14
        clear ec14
        have hR : hearV n ws x.toV i ⟨4, mc, (i : Int), ⟨m0, m1, m2, m3, m4, m5, m6, m7⟩⟩ = (ws, grantV x8.toV, [grantVM x8.toV i (lineV n ws i)], 0) := by rw [HV8.out]; have h1 := HP.out; have h2 := HMm.out; simp [hearV, RE.toV, h1, h2, hz]
        have HR := Lib.hid hR
        clear hR
        have HZz := Lib.hid hz
        clear hz
        go_upto_region 20 with fail
        go_quiet (fail)
        have HL9 := Lib.hid (HL8.out.look ((Chg.refl [] w8).drewN nq))
        have HC9 := Lib.hid (HC8.out.drewN nq)
        replace HB3 := Lib.hid (HB3.out.drewN nq)
        clear HL8 HC8 d2 l8 b3k y2 ec14b HB6
        generalize World.drewN _ _ = w9 at *
        have HN9 : Hid (∀ y ∈ N, y < w9.heap.size) := Lib.hid (fun y hy => Nat.lt_of_lt_of_le (HN.out y hy) HC9.out.size)
        have y2 : w9.cell? ⟨b3, 2, none⟩ = some (.int .i64 (i : Int)) := HB3.out.cell 2
        go_wp2_with fail
        refine (HG.out w9 N ws rs8 hi8 HN9.out (by rw [HX8.out]; exact HSH8.out) HL9.out).mono ?_
        rintro e w5 ⟨A5, c5, rfl, hl5, hk5⟩
        rw [HX8.out] at hl5 ⊢
        have HL5 := Lib.hid hl5; have HC5 := Lib.hid (HC9.out.trans (hk5.mono (T := [bL, bW]) (by simp)))
        clear hl5 hk5 
        unfold MsgV.val
        go_wp2_with fail
        go_ret2
        refine ⟨_, grantR x8 A5 c5, by rw [HR.out]; rfl, by rw [HR.out]; exact grantR_toV _ _ _, ?_, by rw [HR.out]; rw [← HS8.out]; exact HL5.out.look ((Chg.refl [] _).alloc _), HC5.out.alloc _⟩
        rw [HR.out]
        exact row_of_blk (Blk.new _ _ _) rfl HC5.out.size (by unfold maxLen; omega)
      · have hzl : 0 < (withoutL x.ak mc).length := List.length_pos_iff.2 hz
        have hzi : (0 : Int) < ((withoutL x.ak mc).length : Int) := by omega
        have hzm : (withoutL x.ak mc).length ≤ 1000 := Nat.le_trans (withoutL_le _ _) HAL.out
        have hR : hearV n ws x.toV i ⟨4, mc, (i : Int), ⟨m0, m1, m2, m3, m4, m5, m6, m7⟩⟩ = (ws, x8.toV, [], 0) := by rw [HV8.out]; have h1 := HP.out; have h2 := HMm.out; simp [hearV, RE.toV, h1, h2, hz]
        have HR := Lib.hid hR
        clear hR
        have HZz := Lib.hid hz
        clear hz
        obtain ⟨la, hla⟩ : ∃ q, (withoutL x.ak mc).length = q := ⟨_, rfl⟩
        rw [hla] at ec14 hzl hzi hzm
        clear hla
        go_upto_region 20 with fail
        go_quiet (fail)
        have HL9 := Lib.hid (HL8.out.look ((Chg.refl [] w8).drewN nq))
        have HC9 := Lib.hid (HC8.out.drewN nq)
        replace HB3 := Lib.hid (HB3.out.drewN nq)
        clear HL8 HC8 d2 l8 b3k y2 ec14 hzl hzi hzm HB6
        generalize World.drewN _ _ = w9 at *
        go_wp2_with fail
        go_ret2
        exact ⟨_, x8, by rw [HR.out]; rfl, by rw [HR.out], by rw [HR.out]; exact World.ownsRow_nil _ _ _ _, by rw [HR.out, ← HSS8.out]; exact HL9.out, HC9.out⟩

    · rw [decide_eq_false hm] at HHa
      have hR : hearV n ws x.toV i ⟨4, mc, (i : Int), ⟨m0, m1, m2, m3, m4, m5, m6, m7⟩⟩ = (ws, x.toV, [], 30) := by simp [hearV, RE.toV, hp, hm]
      have HR := Lib.hid hR
      clear hR
      go_wp2_with fail
      refine HHa.out.mono ?_
      rintro e w4 ⟨rfl, rfl⟩
      go_wp2_with fail
      go_ret2
      exact ⟨_, x, by rw [HR.out]; rfl, by rw [HR.out], by rw [HR.out]; exact World.ownsRow_nil _ _ _ _, by rw [HR.out, ← HX.out, set_self]; exact HL3.out, HC3.out⟩

  · have hR : hearV n ws x.toV i ⟨4, mc, (i : Int), ⟨m0, m1, m2, m3, m4, m5, m6, m7⟩⟩ = (ws, x.toV, [], 30) := by simp [hearV, RE.toV, hp]
    have HR := Lib.hid hR
    clear hR
    go_wp2_with fail
    go_ret2
    exact ⟨_, x, by rw [HR.out]; rfl, by rw [HR.out], by rw [HR.out]; exact World.ownsRow_nil _ _ _ _, by rw [HR.out, ← HX.out, set_self]; exact HL3.out, HC3.out⟩

end Go.Proofs.Ytepdhajgemmoiaa

