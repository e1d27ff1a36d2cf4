/- The reference's directory hears: no kind, GetS, GetM. -/
import Derived.Test.YtepdhajgemmoiaaRD9
/- The reference's directory hears: no kind. -/

namespace Go.Proofs.Ytepdhajgemmoiaa
set_option linter.unusedSimpArgs false
set_option linter.unusedVariables false
set_option maxRecDepth 100000
set_option linter.unusedSimpArgs false
set_option linter.unusedVariables false
open Go.RowKit
attribute [local go_sem ↓] load_E store_E
attribute [local go_sem] bigOk_E bigVal_E bigFree_E bigPut_E bigNew putAll_drew Value.oneCell'


set_option maxHeartbeats 8000000 in
theorem rHear_none (w : World) (N : List Nat) (d bL bW n capL : Nat) (cores : Int) (ws : List Int) (rs : List RE) (i : Nat) (hi : i < rs.length) (hN : ∀ x ∈ N, x < w.heap.size) (hsl : rs[i].sh.length ≤ 1000) (hal : rs[i].ak.length ≤ 1000) (hwl : rs[i].wl.length ≤ 900) (m : MsgV) (hk1 : m.k ≠ 1) (hk2 : m.k ≠ 2) (hk3 : m.k ≠ 3) (hk4 : m.k ≠ 4) (hk5 : m.k ≠ 5) (hk6 : m.k ≠ 6) (hk7 : m.k ≠ 7) (hm : m.l = (i : Int)) (hc : 0 ≤ m.c ∧ m.c < cores) (H : RDAt w N d bL bW n capL cores ws rs) :
    Calls Try.prog 21 #[.pointer (some ⟨d, 0, none⟩), m.val] w (RHPost w N d bL bW n capL cores rs i (hearV n ws rs[i].toV i m)) := by
  have hlt := H.lt
  have hne := H.ne
  have hln := H.len
  have h64 := H.small
  obtain ⟨x, hx⟩ : ∃ x, rs[i] = x := ⟨_, rfl⟩
  have HX := Lib.hid hx; have HN := Lib.hid hN
  have HG := Lib.hid (fun W N' ws' rs' (hi' : i < rs'.length) hN' hs' K' => rgrant_any W N' d bL bW n capL cores ws' rs' i hi' hN' hs' K')
  have HBg := Lib.hid (fun W N' rs' (hi' : i < rs'.length) hN' hs' m' hm' K' => rbegin_any W N' d bL bW n capL cores ws rs' i hi' hN' hs' m' hm' K')
  have hin : (i : Int) < n := by omega
  have hi0 : (0 : Int) ≤ i := Int.natCast_nonneg _
  rw [hx] at hsl hal hwl ⊢
  clear hN
  have HH := Lib.hid H
  obtain ⟨mk, mc, ml, ⟨m0, m1, m2, m3, m4, m5, m6, m7⟩⟩ := m
  simp only at hm hc hk1 hk2 hk3 hk4 hk5 hk6 hk7
  subst hm
  have hc0 := hc.1; have hc1 := hc.2
  clear hc
  unfold MsgV.val
  simp only
  have HAL := Lib.hid hal; have HWL := Lib.hid hwl; have HSL0 := Lib.hid hsl
  clear hal hwl hsl
  have hal : Chg [] w (w.alloc (.cells #[.int .i64 mk, .int .i64 mc, .int .i64 (i : Int), .int .u64 m0, .int .u64 m1, .int .u64 m2, .int .u64 m3, .int .u64 m4, .int .u64 m5, .int .u64 m6, .int .u64 m7] 33)) := (Chg.refl [] w).alloc _
  have HB3 := Lib.hid (Blk.new w [.int .i64 mk, .int .i64 mc, .int .i64 (i : Int), .int .u64 m0, .int .u64 m1, .int .u64 m2, .int .u64 m3, .int .u64 m4, .int .u64 m5, .int .u64 m6, .int .u64 m7] 33)
  have HL := Lib.hid (H.look hal)
  have HC := Lib.hid hal
  clear H hx hal
  go_enter Try.func21, Try.ntmps21
  go_upto_region 1 with fail
  generalize World.alloc _ _ = w1 at *
  obtain ⟨b3, hb3⟩ : ∃ q, w.heap.size = q := ⟨_, rfl⟩
  rw [hb3] at HB3 hlt ⊢
  have Hb3 := Lib.hid hb3
  clear hb3
  have n3 : b3 ≠ bL := by omega
  have d1 : w1.cell? ⟨d, 1, none⟩ = some (.int .i64 cores) := HL.out.blk.cell 1
  have d2 : w1.cell? ⟨d, 2, none⟩ = some (.slice (some ⟨bL, 0, none⟩) n capL) := HL.out.blk.cell 2
  have lts := HL.out.lt
  have b3lt : b3 < w1.heap.size := HB3.out.lt
  have y1 : w1.cell? ⟨b3, 1, none⟩ = some (.int .i64 mc) := HB3.out.cell 1
  have y2 : w1.cell? ⟨b3, 2, none⟩ = some (.int .i64 (i : Int)) := HB3.out.cell 2
  go_quiet (fail)
  go_upto_region 3 with fail
  have HL1 := Lib.hid (HL.out.look ((Chg.refl [] w1).drewN nq))
  have HC1 := Lib.hid (HC.out.drewN nq)
  replace HB3 := Lib.hid (HB3.out.drewN nq)
  clear HL HC lts d1 d2 b3lt y1 y2
  generalize World.drewN _ _ = w2 at *
  have d2 : w2.cell? ⟨d, 2, none⟩ = some (.slice (some ⟨bL, 0, none⟩) n capL) := HL1.out.blk.cell 2
  have lts := HL1.out.lt
  have b3lt : b3 < w2.heap.size := HB3.out.lt
  have y2 : w2.cell? ⟨b3, 2, none⟩ = some (.int .i64 (i : Int)) := HB3.out.cell 2
  have e0 : w2.cell? ⟨bL, i * 17, none⟩ = some (.int .i64 x.ow) := by have := HL1.out.cell hi (j := 0) (by decide); rw [HX.out] at this; exact this
  have e1 : w2.cell? ⟨bL, i * 17 + 1, none⟩ = some (.slice x.shA x.sh.length x.shc) := by have := HL1.out.cell hi (j := 1) (by decide); rw [HX.out] at this; exact this
  have e2 : w2.cell? ⟨bL, i * 17 + 2, none⟩ = some (.int .i64 x.un.k) := by have := HL1.out.cell hi (j := 2) (by decide); rw [HX.out] at this; exact this
  have e3 : w2.cell? ⟨bL, i * 17 + 3, none⟩ = some (.int .i64 x.un.c) := by have := HL1.out.cell hi (j := 3) (by decide); rw [HX.out] at this; exact this
  have e4 : w2.cell? ⟨bL, i * 17 + 4, none⟩ = some (.int .i64 x.un.l) := by have := HL1.out.cell hi (j := 4) (by decide); rw [HX.out] at this; exact this
  have e5 : w2.cell? ⟨bL, i * 17 + 5, none⟩ = some (.int .u64 x.un.d.x0) := by have := HL1.out.cell hi (j := 5) (by decide); rw [HX.out] at this; exact this
  have e6 : w2.cell? ⟨bL, i * 17 + 6, none⟩ = some (.int .u64 x.un.d.x1) := by have := HL1.out.cell hi (j := 6) (by decide); rw [HX.out] at this; exact this
  have e7 : w2.cell? ⟨bL, i * 17 + 7, none⟩ = some (.int .u64 x.un.d.x2) := by have := HL1.out.cell hi (j := 7) (by decide); rw [HX.out] at this; exact this
  have e8 : w2.cell? ⟨bL, i * 17 + 8, none⟩ = some (.int .u64 x.un.d.x3) := by have := HL1.out.cell hi (j := 8) (by decide); rw [HX.out] at this; exact this
  have e9 : w2.cell? ⟨bL, i * 17 + 9, none⟩ = some (.int .u64 x.un.d.x4) := by have := HL1.out.cell hi (j := 9) (by decide); rw [HX.out] at this; exact this
  have e10 : w2.cell? ⟨bL, i * 17 + 10, none⟩ = some (.int .u64 x.un.d.x5) := by have := HL1.out.cell hi (j := 10) (by decide); rw [HX.out] at this; exact this
  have e11 : w2.cell? ⟨bL, i * 17 + 11, none⟩ = some (.int .u64 x.un.d.x6) := by have := HL1.out.cell hi (j := 11) (by decide); rw [HX.out] at this; exact this
  have e12 : w2.cell? ⟨bL, i * 17 + 12, none⟩ = some (.int .u64 x.un.d.x7) := by have := HL1.out.cell hi (j := 12) (by decide); rw [HX.out] at this; exact this
  have e13 : w2.cell? ⟨bL, i * 17 + 13, none⟩ = some (.int .i64 x.ph) := by have := HL1.out.cell hi (j := 13) (by decide); rw [HX.out] at this; exact this
  have e14 : w2.cell? ⟨bL, i * 17 + 14, none⟩ = some (.slice x.akA x.ak.length x.akc) := by have := HL1.out.cell hi (j := 14) (by decide); rw [HX.out] at this; exact this
  have e15 : w2.cell? ⟨bL, i * 17 + 15, none⟩ = some (.int .i64 x.asked) := by have := HL1.out.cell hi (j := 15) (by decide); rw [HX.out] at this; exact this
  have e16 : w2.cell? ⟨bL, i * 17 + 16, none⟩ = some (.slice x.wtA x.wl.length x.wtc) := by have := HL1.out.cell hi (j := 16) (by decide); rw [HX.out] at this; exact this
  have HSk : Hid (∀ V, Chg [] w2 V → (V.cell? ⟨d, 2, none⟩ = some (.slice (some ⟨bL, 0, none⟩) n capL) ∧ V.cell? ⟨b3, 2, none⟩ = some (.int .i64 (i : Int)) ∧ V.cell? ⟨bL, i * 17, none⟩ = some (.int .i64 x.ow) ∧ V.cell? ⟨bL, i * 17 + 1, none⟩ = some (.slice x.shA x.sh.length x.shc) ∧ V.cell? ⟨bL, i * 17 + 2, none⟩ = some (.int .i64 x.un.k) ∧ V.cell? ⟨bL, i * 17 + 3, none⟩ = some (.int .i64 x.un.c) ∧ V.cell? ⟨bL, i * 17 + 4, none⟩ = some (.int .i64 x.un.l) ∧ V.cell? ⟨bL, i * 17 + 5, none⟩ = some (.int .u64 x.un.d.x0) ∧ V.cell? ⟨bL, i * 17 + 6, none⟩ = some (.int .u64 x.un.d.x1) ∧ V.cell? ⟨bL, i * 17 + 7, none⟩ = some (.int .u64 x.un.d.x2) ∧ V.cell? ⟨bL, i * 17 + 8, none⟩ = some (.int .u64 x.un.d.x3) ∧ V.cell? ⟨bL, i * 17 + 9, none⟩ = some (.int .u64 x.un.d.x4) ∧ V.cell? ⟨bL, i * 17 + 10, none⟩ = some (.int .u64 x.un.d.x5) ∧ V.cell? ⟨bL, i * 17 + 11, none⟩ = some (.int .u64 x.un.d.x6) ∧ V.cell? ⟨bL, i * 17 + 12, none⟩ = some (.int .u64 x.un.d.x7) ∧ V.cell? ⟨bL, i * 17 + 13, none⟩ = some (.int .i64 x.ph) ∧ V.cell? ⟨bL, i * 17 + 14, none⟩ = some (.slice x.akA x.ak.length x.akc) ∧ V.cell? ⟨bL, i * 17 + 15, none⟩ = some (.int .i64 x.asked) ∧ V.cell? ⟨bL, i * 17 + 16, none⟩ = some (.slice x.wtA x.wl.length x.wtc))) := Lib.hid (fun V k => ⟨(k.cell0 lts.1 _).trans d2, (k.cell0 b3lt _).trans y2, (k.cell0 lts.2.1 _).trans e0, (k.cell0 lts.2.1 _).trans e1, (k.cell0 lts.2.1 _).trans e2, (k.cell0 lts.2.1 _).trans e3, (k.cell0 lts.2.1 _).trans e4, (k.cell0 lts.2.1 _).trans e5, (k.cell0 lts.2.1 _).trans e6, (k.cell0 lts.2.1 _).trans e7, (k.cell0 lts.2.1 _).trans e8, (k.cell0 lts.2.1 _).trans e9, (k.cell0 lts.2.1 _).trans e10, (k.cell0 lts.2.1 _).trans e11, (k.cell0 lts.2.1 _).trans e12, (k.cell0 lts.2.1 _).trans e13, (k.cell0 lts.2.1 _).trans e14, (k.cell0 lts.2.1 _).trans e15, (k.cell0 lts.2.1 _).trans e16⟩)
  go_region_held3 (fun V => V.cell? ⟨d, 2, none⟩ = some (.slice (some ⟨bL, 0, none⟩) n capL) ∧ V.cell? ⟨b3, 2, none⟩ = some (.int .i64 (i : Int)) ∧ V.cell? ⟨bL, i * 17, none⟩ = some (.int .i64 x.ow) ∧ V.cell? ⟨bL, i * 17 + 1, none⟩ = some (.slice x.shA x.sh.length x.shc) ∧ V.cell? ⟨bL, i * 17 + 2, none⟩ = some (.int .i64 x.un.k) ∧ V.cell? ⟨bL, i * 17 + 3, none⟩ = some (.int .i64 x.un.c) ∧ V.cell? ⟨bL, i * 17 + 4, none⟩ = some (.int .i64 x.un.l) ∧ V.cell? ⟨bL, i * 17 + 5, none⟩ = some (.int .u64 x.un.d.x0) ∧ V.cell? ⟨bL, i * 17 + 6, none⟩ = some (.int .u64 x.un.d.x1) ∧ V.cell? ⟨bL, i * 17 + 7, none⟩ = some (.int .u64 x.un.d.x2) ∧ V.cell? ⟨bL, i * 17 + 8, none⟩ = some (.int .u64 x.un.d.x3) ∧ V.cell? ⟨bL, i * 17 + 9, none⟩ = some (.int .u64 x.un.d.x4) ∧ V.cell? ⟨bL, i * 17 + 10, none⟩ = some (.int .u64 x.un.d.x5) ∧ V.cell? ⟨bL, i * 17 + 11, none⟩ = some (.int .u64 x.un.d.x6) ∧ V.cell? ⟨bL, i * 17 + 12, none⟩ = some (.int .u64 x.un.d.x7) ∧ V.cell? ⟨bL, i * 17 + 13, none⟩ = some (.int .i64 x.ph) ∧ V.cell? ⟨bL, i * 17 + 14, none⟩ = some (.slice x.akA x.ak.length x.akc) ∧ V.cell? ⟨bL, i * 17 + 15, none⟩ = some (.int .i64 x.asked) ∧ V.cell? ⟨bL, i * 17 + 16, none⟩ = some (.slice x.wtA x.wl.length x.wtc)) (exact HSk.out _ (by repeat (first | with_reducible exact Chg.refl _ _ | with_reducible refine Chg.drew ?_ | with_reducible refine Chg.alloc ?_ _ | with_reducible refine Chg.setCell ?_ (fun h => absurd h (Nat.lt_irrefl _)) _))) (fail)
  have hal := ((Chg.refl [] w2).alloc (.cells #[.int .i64 x.ow, .slice x.shA x.sh.length x.shc, .int .i64 x.un.k, .int .i64 x.un.c, .int .i64 x.un.l, .int .u64 x.un.d.x0, .int .u64 x.un.d.x1, .int .u64 x.un.d.x2, .int .u64 x.un.d.x3, .int .u64 x.un.d.x4, .int .u64 x.un.d.x5, .int .u64 x.un.d.x6, .int .u64 x.un.d.x7, .int .i64 x.ph, .slice x.akA x.ak.length x.akc, .int .i64 x.asked, .slice x.wtA x.wl.length x.wtc] 99)).drew
  have HB6 := Lib.hid ((Blk.new w2 [.int .i64 x.ow, .slice x.shA x.sh.length x.shc, .int .i64 x.un.k, .int .i64 x.un.c, .int .i64 x.un.l, .int .u64 x.un.d.x0, .int .u64 x.un.d.x1, .int .u64 x.un.d.x2, .int .u64 x.un.d.x3, .int .u64 x.un.d.x4, .int .u64 x.un.d.x5, .int .u64 x.un.d.x6, .int .u64 x.un.d.x7, .int .i64 x.ph, .slice x.akA x.ak.length x.akc, .int .i64 x.asked, .slice x.wtA x.wl.length x.wtc] 99).drew)
  have HL3 := Lib.hid (HL1.out.look hal)
  have HC3 := Lib.hid ((HC1.out.mono (T := [bL, bW]) (by simp)).trans (hal.mono (by simp)))
  replace HB3 := Lib.hid (hal.blk HB3.out (by simp))
  have hs2 : w.heap.size ≤ w2.heap.size := HC1.out.size
  rename_i hHeld
  clear hal HL1 HC1 HSk hHeld d2 y2 e0 e1 e2 e3 e4 e5 e6 e7 e8 e9 e10 e11 e12 e13 e14 e15 e16
  generalize World.drew _ = w3 at *
  obtain ⟨b6, hb6⟩ : ∃ q, w2.heap.size = q := ⟨_, rfl⟩
  rw [hb6] at HB6 lts b3lt hs2 ⊢
  clear hb6
  rw [Hb3.out] at hs2
  have n6 : b6 ≠ bL := by omega
  have n3W : b3 ≠ bW := by omega
  have n6W : b6 ≠ bW := by omega
  have ndL : d ≠ bL := hne.1
  have ndW : d ≠ bW := hne.2.1
  have nLW : bL ≠ bW := hne.2.2
  have hF3 : FzR w3 N x := by have := HL3.out.fz i hi; rw [HX.out] at this; exact this
  have HF3 := Lib.hid hF3
  have HN3 : Hid (∀ y ∈ N, y < w3.heap.size) := Lib.hid (fun y hy => Nat.lt_of_lt_of_le (HN.out y hy) HC3.out.size)
  have l3 := HL3.out.lt
  have b3lt3 : b3 < w3.heap.size := HB3.out.lt
  have b6lt3 : b6 < w3.heap.size := HB6.out.lt
  clear lts b3lt hF3
  have d2 : w3.cell? ⟨d, 2, none⟩ = some (.slice (some ⟨bL, 0, none⟩) n capL) := HL3.out.blk.cell 2
  have y0 : w3.cell? ⟨b3, 0, none⟩ = some (.int .i64 mk) := HB3.out.cell 0
  have hR : hearV n ws x.toV i ⟨mk, mc, (i : Int), ⟨m0, m1, m2, m3, m4, m5, m6, m7⟩⟩ = (ws, x.toV, [], 30) := by simp [hearV, hk1, hk2, hk3, hk4, hk5, hk6, hk7]
  have HR := Lib.hid hR
  clear hR
  go_wp2_with fail
  go_ret2
  exact ⟨_, x, by rw [HR.out]; rfl, by rw [HR.out], by rw [HR.out]; exact World.ownsRow_nil _ _ _ _, by rw [HR.out, ← HX.out, set_self]; exact HL3.out, HC3.out⟩
end Go.Proofs.Ytepdhajgemmoiaa

/- The reference's directory hears: GetS. -/

namespace Go.Proofs.Ytepdhajgemmoiaa
set_option linter.unusedSimpArgs false
set_option linter.unusedVariables false
set_option maxRecDepth 100000
set_option linter.unusedSimpArgs false
set_option linter.unusedVariables false
open Go.RowKit
attribute [local go_sem ↓] load_E store_E
attribute [local go_sem] bigOk_E bigVal_E bigFree_E bigPut_E bigNew putAll_drew Value.oneCell'


set_option maxHeartbeats 8000000 in
theorem rHear_1 (w : World) (N : List Nat) (d bL bW n capL : Nat) (cores : Int) (ws : List Int) (rs : List RE) (i : Nat) (hi : i < rs.length) (hN : ∀ x ∈ N, x < w.heap.size) (hsl : rs[i].sh.length ≤ 1000) (hal : rs[i].ak.length ≤ 1000) (hwl : rs[i].wl.length ≤ 900) (m : MsgV) (hk : m.k = 1) (hm : m.l = (i : Int)) (hc : 0 ≤ m.c ∧ m.c < cores) (H : RDAt w N d bL bW n capL cores ws rs) :
    Calls Try.prog 21 #[.pointer (some ⟨d, 0, none⟩), m.val] w (RHPost w N d bL bW n capL cores rs i (hearV n ws rs[i].toV i m)) := by
  have hlt := H.lt
  have hne := H.ne
  have hln := H.len
  have h64 := H.small
  obtain ⟨x, hx⟩ : ∃ x, rs[i] = x := ⟨_, rfl⟩
  have HX := Lib.hid hx; have HN := Lib.hid hN
  have HG := Lib.hid (fun W N' ws' rs' (hi' : i < rs'.length) hN' hs' K' => rgrant_any W N' d bL bW n capL cores ws' rs' i hi' hN' hs' K')
  have HBg := Lib.hid (fun W N' rs' (hi' : i < rs'.length) hN' hs' m' hm' K' => rbegin_any W N' d bL bW n capL cores ws rs' i hi' hN' hs' m' hm' K')
  have hin : (i : Int) < n := by omega
  have hi0 : (0 : Int) ≤ i := Int.natCast_nonneg _
  rw [hx] at hsl hal hwl ⊢
  clear hN
  have HH := Lib.hid H
  obtain ⟨mk, mc, ml, ⟨m0, m1, m2, m3, m4, m5, m6, m7⟩⟩ := m
  simp only at hm hc hk
  subst hm; subst hk
  have hc0 := hc.1; have hc1 := hc.2
  clear hc
  unfold MsgV.val
  simp only
  have HAL := Lib.hid hal; have HWL := Lib.hid hwl; have HSL0 := Lib.hid hsl
  clear hal hwl hsl
  have hal : Chg [] w (w.alloc (.cells #[.int .i64 1, .int .i64 mc, .int .i64 (i : Int), .int .u64 m0, .int .u64 m1, .int .u64 m2, .int .u64 m3, .int .u64 m4, .int .u64 m5, .int .u64 m6, .int .u64 m7] 33)) := (Chg.refl [] w).alloc _
  have HB3 := Lib.hid (Blk.new w [.int .i64 1, .int .i64 mc, .int .i64 (i : Int), .int .u64 m0, .int .u64 m1, .int .u64 m2, .int .u64 m3, .int .u64 m4, .int .u64 m5, .int .u64 m6, .int .u64 m7] 33)
  have HL := Lib.hid (H.look hal)
  have HC := Lib.hid hal
  clear H hx hal
  go_enter Try.func21, Try.ntmps21
  go_upto_region 1 with fail
  generalize World.alloc _ _ = w1 at *
  obtain ⟨b3, hb3⟩ : ∃ q, w.heap.size = q := ⟨_, rfl⟩
  rw [hb3] at HB3 hlt ⊢
  have Hb3 := Lib.hid hb3
  clear hb3
  have n3 : b3 ≠ bL := by omega
  have d1 : w1.cell? ⟨d, 1, none⟩ = some (.int .i64 cores) := HL.out.blk.cell 1
  have d2 : w1.cell? ⟨d, 2, none⟩ = some (.slice (some ⟨bL, 0, none⟩) n capL) := HL.out.blk.cell 2
  have lts := HL.out.lt
  have b3lt : b3 < w1.heap.size := HB3.out.lt
  have y1 : w1.cell? ⟨b3, 1, none⟩ = some (.int .i64 mc) := HB3.out.cell 1
  have y2 : w1.cell? ⟨b3, 2, none⟩ = some (.int .i64 (i : Int)) := HB3.out.cell 2
  go_quiet (fail)
  go_upto_region 3 with fail
  have HL1 := Lib.hid (HL.out.look ((Chg.refl [] w1).drewN nq))
  have HC1 := Lib.hid (HC.out.drewN nq)
  replace HB3 := Lib.hid (HB3.out.drewN nq)
  clear HL HC lts d1 d2 b3lt y1 y2
  generalize World.drewN _ _ = w2 at *
  have d2 : w2.cell? ⟨d, 2, none⟩ = some (.slice (some ⟨bL, 0, none⟩) n capL) := HL1.out.blk.cell 2
  have lts := HL1.out.lt
  have b3lt : b3 < w2.heap.size := HB3.out.lt
  have y2 : w2.cell? ⟨b3, 2, none⟩ = some (.int .i64 (i : Int)) := HB3.out.cell 2
  have e0 : w2.cell? ⟨bL, i * 17, none⟩ = some (.int .i64 x.ow) := by have := HL1.out.cell hi (j := 0) (by decide); rw [HX.out] at this; exact this
  have e1 : w2.cell? ⟨bL, i * 17 + 1, none⟩ = some (.slice x.shA x.sh.length x.shc) := by have := HL1.out.cell hi (j := 1) (by decide); rw [HX.out] at this; exact this
  have e2 : w2.cell? ⟨bL, i * 17 + 2, none⟩ = some (.int .i64 x.un.k) := by have := HL1.out.cell hi (j := 2) (by decide); rw [HX.out] at this; exact this
  have e3 : w2.cell? ⟨bL, i * 17 + 3, none⟩ = some (.int .i64 x.un.c) := by have := HL1.out.cell hi (j := 3) (by decide); rw [HX.out] at this; exact this
  have e4 : w2.cell? ⟨bL, i * 17 + 4, none⟩ = some (.int .i64 x.un.l) := by have := HL1.out.cell hi (j := 4) (by decide); rw [HX.out] at this; exact this
  have e5 : w2.cell? ⟨bL, i * 17 + 5, none⟩ = some (.int .u64 x.un.d.x0) := by have := HL1.out.cell hi (j := 5) (by decide); rw [HX.out] at this; exact this
  have e6 : w2.cell? ⟨bL, i * 17 + 6, none⟩ = some (.int .u64 x.un.d.x1) := by have := HL1.out.cell hi (j := 6) (by decide); rw [HX.out] at this; exact this
  have e7 : w2.cell? ⟨bL, i * 17 + 7, none⟩ = some (.int .u64 x.un.d.x2) := by have := HL1.out.cell hi (j := 7) (by decide); rw [HX.out] at this; exact this
  have e8 : w2.cell? ⟨bL, i * 17 + 8, none⟩ = some (.int .u64 x.un.d.x3) := by have := HL1.out.cell hi (j := 8) (by decide); rw [HX.out] at this; exact this
  have e9 : w2.cell? ⟨bL, i * 17 + 9, none⟩ = some (.int .u64 x.un.d.x4) := by have := HL1.out.cell hi (j := 9) (by decide); rw [HX.out] at this; exact this
  have e10 : w2.cell? ⟨bL, i * 17 + 10, none⟩ = some (.int .u64 x.un.d.x5) := by have := HL1.out.cell hi (j := 10) (by decide); rw [HX.out] at this; exact this
  have e11 : w2.cell? ⟨bL, i * 17 + 11, none⟩ = some (.int .u64 x.un.d.x6) := by have := HL1.out.cell hi (j := 11) (by decide); rw [HX.out] at this; exact this
  have e12 : w2.cell? ⟨bL, i * 17 + 12, none⟩ = some (.int .u64 x.un.d.x7) := by have := HL1.out.cell hi (j := 12) (by decide); rw [HX.out] at this; exact this
  have e13 : w2.cell? ⟨bL, i * 17 + 13, none⟩ = some (.int .i64 x.ph) := by have := HL1.out.cell hi (j := 13) (by decide); rw [HX.out] at this; exact this
  have e14 : w2.cell? ⟨bL, i * 17 + 14, none⟩ = some (.slice x.akA x.ak.length x.akc) := by have := HL1.out.cell hi (j := 14) (by decide); rw [HX.out] at this; exact this
  have e15 : w2.cell? ⟨bL, i * 17 + 15, none⟩ = some (.int .i64 x.asked) := by have := HL1.out.cell hi (j := 15) (by decide); rw [HX.out] at this; exact this
  have e16 : w2.cell? ⟨bL, i * 17 + 16, none⟩ = some (.slice x.wtA x.wl.length x.wtc) := by have := HL1.out.cell hi (j := 16) (by decide); rw [HX.out] at this; exact this
  have HSk : Hid (∀ V, Chg [] w2 V → (V.cell? ⟨d, 2, none⟩ = some (.slice (some ⟨bL, 0, none⟩) n capL) ∧ V.cell? ⟨b3, 2, none⟩ = some (.int .i64 (i : Int)) ∧ V.cell? ⟨bL, i * 17, none⟩ = some (.int .i64 x.ow) ∧ V.cell? ⟨bL, i * 17 + 1, none⟩ = some (.slice x.shA x.sh.length x.shc) ∧ V.cell? ⟨bL, i * 17 + 2, none⟩ = some (.int .i64 x.un.k) ∧ V.cell? ⟨bL, i * 17 + 3, none⟩ = some (.int .i64 x.un.c) ∧ V.cell? ⟨bL, i * 17 + 4, none⟩ = some (.int .i64 x.un.l) ∧ V.cell? ⟨bL, i * 17 + 5, none⟩ = some (.int .u64 x.un.d.x0) ∧ V.cell? ⟨bL, i * 17 + 6, none⟩ = some (.int .u64 x.un.d.x1) ∧ V.cell? ⟨bL, i * 17 + 7, none⟩ = some (.int .u64 x.un.d.x2) ∧ V.cell? ⟨bL, i * 17 + 8, none⟩ = some (.int .u64 x.un.d.x3) ∧ V.cell? ⟨bL, i * 17 + 9, none⟩ = some (.int .u64 x.un.d.x4) ∧ V.cell? ⟨bL, i * 17 + 10, none⟩ = some (.int .u64 x.un.d.x5) ∧ V.cell? ⟨bL, i * 17 + 11, none⟩ = some (.int .u64 x.un.d.x6) ∧ V.cell? ⟨bL, i * 17 + 12, none⟩ = some (.int .u64 x.un.d.x7) ∧ V.cell? ⟨bL, i * 17 + 13, none⟩ = some (.int .i64 x.ph) ∧ V.cell? ⟨bL, i * 17 + 14, none⟩ = some (.slice x.akA x.ak.length x.akc) ∧ V.cell? ⟨bL, i * 17 + 15, none⟩ = some (.int .i64 x.asked) ∧ V.cell? ⟨bL, i * 17 + 16, none⟩ = some (.slice x.wtA x.wl.length x.wtc))) := Lib.hid (fun V k => ⟨(k.cell0 lts.1 _).trans d2, (k.cell0 b3lt _).trans y2, (k.cell0 lts.2.1 _).trans e0, (k.cell0 lts.2.1 _).trans e1, (k.cell0 lts.2.1 _).trans e2, (k.cell0 lts.2.1 _).trans e3, (k.cell0 lts.2.1 _).trans e4, (k.cell0 lts.2.1 _).trans e5, (k.cell0 lts.2.1 _).trans e6, (k.cell0 lts.2.1 _).trans e7, (k.cell0 lts.2.1 _).trans e8, (k.cell0 lts.2.1 _).trans e9, (k.cell0 lts.2.1 _).trans e10, (k.cell0 lts.2.1 _).trans e11, (k.cell0 lts.2.1 _).trans e12, (k.cell0 lts.2.1 _).trans e13, (k.cell0 lts.2.1 _).trans e14, (k.cell0 lts.2.1 _).trans e15, (k.cell0 lts.2.1 _).trans e16⟩)
  go_region_held3 (fun V => V.cell? ⟨d, 2, none⟩ = some (.slice (some ⟨bL, 0, none⟩) n capL) ∧ V.cell? ⟨b3, 2, none⟩ = some (.int .i64 (i : Int)) ∧ V.cell? ⟨bL, i * 17, none⟩ = some (.int .i64 x.ow) ∧ V.cell? ⟨bL, i * 17 + 1, none⟩ = some (.slice x.shA x.sh.length x.shc) ∧ V.cell? ⟨bL, i * 17 + 2, none⟩ = some (.int .i64 x.un.k) ∧ V.cell? ⟨bL, i * 17 + 3, none⟩ = some (.int .i64 x.un.c) ∧ V.cell? ⟨bL, i * 17 + 4, none⟩ = some (.int .i64 x.un.l) ∧ V.cell? ⟨bL, i * 17 + 5, none⟩ = some (.int .u64 x.un.d.x0) ∧ V.cell? ⟨bL, i * 17 + 6, none⟩ = some (.int .u64 x.un.d.x1) ∧ V.cell? ⟨bL, i * 17 + 7, none⟩ = some (.int .u64 x.un.d.x2) ∧ V.cell? ⟨bL, i * 17 + 8, none⟩ = some (.int .u64 x.un.d.x3) ∧ V.cell? ⟨bL, i * 17 + 9, none⟩ = some (.int .u64 x.un.d.x4) ∧ V.cell? ⟨bL, i * 17 + 10, none⟩ = some (.int .u64 x.un.d.x5) ∧ V.cell? ⟨bL, i * 17 + 11, none⟩ = some (.int .u64 x.un.d.x6) ∧ V.cell? ⟨bL, i * 17 + 12, none⟩ = some (.int .u64 x.un.d.x7) ∧ V.cell? ⟨bL, i * 17 + 13, none⟩ = some (.int .i64 x.ph) ∧ V.cell? ⟨bL, i * 17 + 14, none⟩ = some (.slice x.akA x.ak.length x.akc) ∧ V.cell? ⟨bL, i * 17 + 15, none⟩ = some (.int .i64 x.asked) ∧ V.cell? ⟨bL, i * 17 + 16, none⟩ = some (.slice x.wtA x.wl.length x.wtc)) (exact HSk.out _ (by repeat (first | with_reducible exact Chg.refl _ _ | with_reducible refine Chg.drew ?_ | with_reducible refine Chg.alloc ?_ _ | with_reducible refine Chg.setCell ?_ (fun h => absurd h (Nat.lt_irrefl _)) _))) (fail)
  have hal := ((Chg.refl [] w2).alloc (.cells #[.int .i64 x.ow, .slice x.shA x.sh.length x.shc, .int .i64 x.un.k, .int .i64 x.un.c, .int .i64 x.un.l, .int .u64 x.un.d.x0, .int .u64 x.un.d.x1, .int .u64 x.un.d.x2, .int .u64 x.un.d.x3, .int .u64 x.un.d.x4, .int .u64 x.un.d.x5, .int .u64 x.un.d.x6, .int .u64 x.un.d.x7, .int .i64 x.ph, .slice x.akA x.ak.length x.akc, .int .i64 x.asked, .slice x.wtA x.wl.length x.wtc] 99)).drew
  have HB6 := Lib.hid ((Blk.new w2 [.int .i64 x.ow, .slice x.shA x.sh.length x.shc, .int .i64 x.un.k, .int .i64 x.un.c, .int .i64 x.un.l, .int .u64 x.un.d.x0, .int .u64 x.un.d.x1, .int .u64 x.un.d.x2, .int .u64 x.un.d.x3, .int .u64 x.un.d.x4, .int .u64 x.un.d.x5, .int .u64 x.un.d.x6, .int .u64 x.un.d.x7, .int .i64 x.ph, .slice x.akA x.ak.length x.akc, .int .i64 x.asked, .slice x.wtA x.wl.length x.wtc] 99).drew)
  have HL3 := Lib.hid (HL1.out.look hal)
  have HC3 := Lib.hid ((HC1.out.mono (T := [bL, bW]) (by simp)).trans (hal.mono (by simp)))
  replace HB3 := Lib.hid (hal.blk HB3.out (by simp))
  have hs2 : w.heap.size ≤ w2.heap.size := HC1.out.size
  rename_i hHeld
  clear hal HL1 HC1 HSk hHeld d2 y2 e0 e1 e2 e3 e4 e5 e6 e7 e8 e9 e10 e11 e12 e13 e14 e15 e16
  generalize World.drew _ = w3 at *
  obtain ⟨b6, hb6⟩ : ∃ q, w2.heap.size = q := ⟨_, rfl⟩
  rw [hb6] at HB6 lts b3lt hs2 ⊢
  clear hb6
  rw [Hb3.out] at hs2
  have n6 : b6 ≠ bL := by omega
  have n3W : b3 ≠ bW := by omega
  have n6W : b6 ≠ bW := by omega
  have ndL : d ≠ bL := hne.1
  have ndW : d ≠ bW := hne.2.1
  have nLW : bL ≠ bW := hne.2.2
  have hF3 : FzR w3 N x := by have := HL3.out.fz i hi; rw [HX.out] at this; exact this
  have HF3 := Lib.hid hF3
  have HN3 : Hid (∀ y ∈ N, y < w3.heap.size) := Lib.hid (fun y hy => Nat.lt_of_lt_of_le (HN.out y hy) HC3.out.size)
  have l3 := HL3.out.lt
  have b3lt3 : b3 < w3.heap.size := HB3.out.lt
  have b6lt3 : b6 < w3.heap.size := HB6.out.lt
  clear lts b3lt hF3
  have d2 : w3.cell? ⟨d, 2, none⟩ = some (.slice (some ⟨bL, 0, none⟩) n capL) := HL3.out.blk.cell 2
  have y0 : w3.cell? ⟨b3, 0, none⟩ = some (.int .i64 1) := HB3.out.cell 0
  have y1 : w3.cell? ⟨b3, 1, none⟩ = some (.int .i64 mc) := HB3.out.cell 1
  have y2 : w3.cell? ⟨b3, 2, none⟩ = some (.int .i64 (i : Int)) := HB3.out.cell 2
  have k0 : w3.cell? ⟨b6, 0, none⟩ = some (.int .i64 x.ow) := HB6.out.cell 0
  have k1 : w3.cell? ⟨b6, 1, none⟩ = some (.slice x.shA x.sh.length x.shc) := HB6.out.cell 1
  have k2 : w3.cell? ⟨b6, 2, none⟩ = some (.int .i64 x.un.k) := HB6.out.cell 2
  have k3 : w3.cell? ⟨b6, 3, none⟩ = some (.int .i64 x.un.c) := HB6.out.cell 3
  have k4 : w3.cell? ⟨b6, 4, none⟩ = some (.int .i64 x.un.l) := HB6.out.cell 4
  have k5 : w3.cell? ⟨b6, 5, none⟩ = some (.int .u64 x.un.d.x0) := HB6.out.cell 5
  have k6 : w3.cell? ⟨b6, 6, none⟩ = some (.int .u64 x.un.d.x1) := HB6.out.cell 6
  have k7 : w3.cell? ⟨b6, 7, none⟩ = some (.int .u64 x.un.d.x2) := HB6.out.cell 7
  have k8 : w3.cell? ⟨b6, 8, none⟩ = some (.int .u64 x.un.d.x3) := HB6.out.cell 8
  have k9 : w3.cell? ⟨b6, 9, none⟩ = some (.int .u64 x.un.d.x4) := HB6.out.cell 9
  have k10 : w3.cell? ⟨b6, 10, none⟩ = some (.int .u64 x.un.d.x5) := HB6.out.cell 10
  have k11 : w3.cell? ⟨b6, 11, none⟩ = some (.int .u64 x.un.d.x6) := HB6.out.cell 11
  have k12 : w3.cell? ⟨b6, 12, none⟩ = some (.int .u64 x.un.d.x7) := HB6.out.cell 12
  have k13 : w3.cell? ⟨b6, 13, none⟩ = some (.int .i64 x.ph) := HB6.out.cell 13
  have k14 : w3.cell? ⟨b6, 14, none⟩ = some (.slice x.akA x.ak.length x.akc) := HB6.out.cell 14
  have k15 : w3.cell? ⟨b6, 15, none⟩ = some (.int .i64 x.asked) := HB6.out.cell 15
  have k16 : w3.cell? ⟨b6, 16, none⟩ = some (.slice x.wtA x.wl.length x.wtc) := HB6.out.cell 16
  have HAs : Hid (Calls Try.prog 38 #[.agg #[.int .i64 x.ow, .slice x.shA x.sh.length x.shc, .int .i64 x.un.k, .int .i64 x.un.c, .int .i64 x.un.l, .int .u64 x.un.d.x0, .int .u64 x.un.d.x1, .int .u64 x.un.d.x2, .int .u64 x.un.d.x3, .int .u64 x.un.d.x4, .int .u64 x.un.d.x5, .int .u64 x.un.d.x6, .int .u64 x.un.d.x7, .int .i64 x.ph, .slice x.akA x.ak.length x.akc, .int .i64 x.asked, .slice x.wtA x.wl.length x.wtc], .int .i64 mc] w3 fun e w' => e = .returned (.bool (asksV x.toV mc)) ∧ Chg [] w3 w') := Lib.hid (asks_any w3 x mc (by have := HWL.out; omega) HF3.out.wt.rd)
  cases hq : asksV x.toV mc with
  | true =>
    have hR : hearV n ws x.toV i ⟨1, mc, (i : Int), ⟨m0, m1, m2, m3, m4, m5, m6, m7⟩⟩ = (ws, x.toV, [], 30) := by simp [hearV, hq]
    have HR := Lib.hid hR
    clear hR
    rw [hq] at HAs
    clear hq
    go_wp2_with fail
    refine HAs.out.mono ?_
    rintro e w4 ⟨rfl, hk4⟩
    have HL4 := Lib.hid (HL3.out.look hk4); have HC4 := Lib.hid (HC3.out.trans (hk4.mono (by simp)))
    replace HB3 := Lib.hid (hk4.blk HB3.out (by simp)); replace HB6 := Lib.hid (hk4.blk HB6.out (by simp))
    have HF4 := Lib.hid (HF3.out.step (N' := N) (hk4.mono (by simp)) (fun y hy => .inl hy))
    have HN4 : Hid (∀ y ∈ N, y < w4.heap.size) := Lib.hid (fun y hy => Nat.lt_of_lt_of_le (HN3.out y hy) hk4.size)
    clear hk4 HL3 HC3 HF3 HN3 HAs d2 l3 b3lt3 b6lt3 y0 y1 y2 k0 k1 k2 k3 k4 k5 k6 k7 k8 k9 k10 k11 k12 k13 k14 k15 k16
    go_wp2_with fail
    go_ret2
    exact ⟨_, x, by rw [HR.out]; rfl, by rw [HR.out], by rw [HR.out]; exact World.ownsRow_nil _ _ _ _, by rw [HR.out, ← HX.out, set_self]; exact HL4.out, HC4.out⟩

  | false =>
    rw [hq] at HAs
    have HQ := Lib.hid hq
    clear hq
    go_wp2_with fail
    refine HAs.out.mono ?_
    rintro e w4 ⟨rfl, hk4⟩
    have HL4 := Lib.hid (HL3.out.look hk4); have HC4 := Lib.hid (HC3.out.trans (hk4.mono (by simp)))
    replace HB3 := Lib.hid (hk4.blk HB3.out (by simp)); replace HB6 := Lib.hid (hk4.blk HB6.out (by simp))
    have HF4 := Lib.hid (HF3.out.step (N' := N) (hk4.mono (by simp)) (fun y hy => .inl hy))
    have HN4 : Hid (∀ y ∈ N, y < w4.heap.size) := Lib.hid (fun y hy => Nat.lt_of_lt_of_le (HN3.out y hy) hk4.size)
    clear hk4 HL3 HC3 HF3 HN3 HAs d2 l3 b3lt3 b6lt3 y0 y1 y2 k0 k1 k2 k3 k4 k5 k6 k7 k8 k9 k10 k11 k12 k13 k14 k15 k16
    have d2 : w4.cell? ⟨d, 2, none⟩ = some (.slice (some ⟨bL, 0, none⟩) n capL) := HL4.out.blk.cell 2
    have y0 : w4.cell? ⟨b3, 0, none⟩ = some (.int .i64 1) := HB3.out.cell 0
    have y1 : w4.cell? ⟨b3, 1, none⟩ = some (.int .i64 mc) := HB3.out.cell 1
    have y2 : w4.cell? ⟨b3, 2, none⟩ = some (.int .i64 (i : Int)) := HB3.out.cell 2
    have k13 : w4.cell? ⟨b6, 13, none⟩ = some (.int .i64 x.ph) := HB6.out.cell 13
    by_cases h0 : x.ph = 0
    · rw [h0] at k13
      have hR : hearV n ws x.toV i ⟨1, mc, (i : Int), ⟨m0, m1, m2, m3, m4, m5, m6, m7⟩⟩ = (ws, beginV x.toV ⟨1, mc, (i : Int), {}⟩, beginVM x.toV ⟨1, mc, (i : Int), {}⟩ (lineV n ws i), 0) := by have h1 := HQ.out; unfold hearV; rw [if_pos (show (1 : Int) = 1 ∨ (1 : Int) = 2 from by decide), if_neg (by rw [h1]; decide), if_pos (show x.toV.ph = 0 from h0)]
      have HR := Lib.hid hR
      clear hR
      have HBc := Lib.hid (HBg.out w4 N rs hi HN4.out (by rw [HX.out]; exact HSL0.out) ⟨1, mc, (i : Int), {}⟩ rfl HL4.out)
      rw [HX.out] at HBc
      unfold MsgV.val at HBc
      simp only at HBc
      clear h0
      go_wp2_with fail
      refine HBc.out.mono ?_
      rintro e w9 ⟨v9, x9, rfl, hx9, ho9, hl9, hk9⟩
      have HX9 := Lib.hid hx9; have HO9 := Lib.hid ho9; have HL9 := Lib.hid hl9; have HC9 := Lib.hid (HC4.out.trans (hk9.mono (T := [bL, bW]) (by simp)))
      have Hs7 : Hid (w.heap.size ≤ w4.heap.size) := Lib.hid HC4.out.size
      clear hx9 ho9 hl9 hk9
      go_wp2_with fail
      go_ret2
      exact ⟨v9, x9, by rw [HR.out]; rfl, by rw [HR.out]; exact HX9.out, by rw [HR.out]; exact ownsRow_base HO9.out Hs7.out, by rw [HR.out]; exact HL9.out, HC9.out⟩

    · have hR : hearV n ws x.toV i ⟨1, mc, (i : Int), ⟨m0, m1, m2, m3, m4, m5, m6, m7⟩⟩ = (ws, { x.toV with wl := x.wl ++ [⟨1, mc, (i : Int), {}⟩] }, [], 0) := by have h1 := HQ.out; unfold hearV; rw [if_pos (show (1 : Int) = 1 ∨ (1 : Int) = 2 from by decide), if_neg (by rw [h1]; decide), if_neg (show ¬ x.toV.ph = 0 from h0)]; rfl
      have HR := Lib.hid hR
      clear hR
      have k16 : w4.cell? ⟨b6, 16, none⟩ = some (.slice x.wtA x.wl.length x.wtc) := HB6.out.cell 16
      obtain ⟨j0, hj, hy0, hy1, hy2⟩ := info_parts infoMsg
      have HNil := Lib.hid HF4.out.wt.nil
      have HLe := Lib.hid HF4.out.wt.le
      have HNw := Lib.hid (Rd.news (by decide) encM_len HF4.out.wt.rd)
      have hw900 : x.wl.length ≤ 900 := HWL.out
      go_upto_region 13 with (first | (at_builtin; refine wpList_append_own_any _ rfl (.tmp 65) (.tmp 67) 26 rfl (w4.heap.size) 33 j0 (.agg #[.int .i64 0, .int .i64 0, .int .i64 0, .int .u64 0, .int .u64 0, .int .u64 0, .int .u64 0, .int .u64 0, .int .u64 0, .int .u64 0, .int .u64 0]) 11 88 Try.underlying26 hj hy0 hy1 hy2 rfl (by decide) _ _ _ rfl (World.ownsRow_nil _ _ _ _) x.wtA (x.wl.length) (x.wtc) (x.wl.flatMap encM) rfl HNil.out (flat_len encM_len x.wl) HLe.out HNw.out (encs_oneR x.wl) (by unfold maxLen; omega) (by omega) (by first | omega | (simp; omega) | simp) ?_; intro va1 wa1 hown1 hgrow1 hblk1 hnil1; have hsz1 := hgrow1.size; have HO1 := Lib.hid hown1; have HG1 := Lib.hid hgrow1; have HB1 := Lib.hid hblk1; have HZ1 := Lib.hid hnil1; clear hown1 hgrow1 hblk1 hnil1) | fail)
      have hka : Chg [] w4 wa1 := (Chg.refl [] w4).grown (show w4.grownBy wa1 none from HG1.out) (fun q hq => by cases hq)
      have hoa : wa1.ownsRow w4.heap.size 33 11 va1 x.wl.length (x.wl.flatMap encM) := by have := HO1.out; rw [Nat.zero_add, List.nil_append] at this; exact this
      have HKa := Lib.hid hka; have HOa := Lib.hid hoa
      have HKaL : Hid (Chg [bL] w4 wa1) := Lib.hid (hka.mono (by simp))
      obtain ⟨wl9, hwl9⟩ : ∃ q, x.wl ++ [(⟨1, mc, (i : Int), {}⟩ : MsgV)] = q := ⟨_, rfl⟩
      have HW9 := Lib.hid hwl9
      have HWn : Hid (x.wl.length + 1 = wl9.length) := Lib.hid (by rw [← hwl9, List.length_append]; rfl)
      have HWf : Hid (x.wl.flatMap encM ++ encM ⟨1, mc, (i : Int), {}⟩ = wl9.flatMap encM) := Lib.hid (by rw [← hwl9, List.flatMap_append]; rfl)
      have HWw : Hid (x.wl.length ≤ 100000) := Lib.hid (by omega)
      have HWs : Hid (w4.heap.size ≤ wa1.heap.size) := Lib.hid hka.size
      have lk := HL4.out.lt
      have b3k : b3 < w4.heap.size := HB3.out.lt
      have HE16 : Hid (w4.cell? ⟨bL, i * 17 + 16, none⟩ = some (.slice x.wtA x.wl.length x.wtc)) := Lib.hid (by have := HL4.out.cell hi (j := 16) (by decide); rw [HX.out] at this; exact this)
      have HSk : Hid (∀ V, Chg [bL] w4 V → (V.cell? ⟨d, 2, none⟩ = some (.slice (some ⟨bL, 0, none⟩) n capL) ∧ V.cell? ⟨b3, 0, none⟩ = some (.int .i64 1) ∧ V.cell? ⟨b3, 1, none⟩ = some (.int .i64 mc) ∧ V.cell? ⟨b3, 2, none⟩ = some (.int .i64 (i : Int)))) := Lib.hid (fun V k => ⟨(k.cell lk.1 (by simpa using ndL) _).trans d2, (k.cell b3k (by simpa using n3) _).trans y0, (k.cell b3k (by simpa using n3) _).trans y1, (k.cell b3k (by simpa using n3) _).trans y2⟩)
      clear HO1 HG1 HB1 HZ1 hka hoa hwl9 hw900 d2 y0 y1 y2 k13 k16 h0
      have hwa := HWs.out
      have hlkL := lk.2.1
      go_region_held3 (fun V => V.cell? ⟨d, 2, none⟩ = some (.slice (some ⟨bL, 0, none⟩) n capL) ∧ V.cell? ⟨b3, 0, none⟩ = some (.int .i64 1) ∧ V.cell? ⟨b3, 1, none⟩ = some (.int .i64 mc) ∧ V.cell? ⟨b3, 2, none⟩ = some (.int .i64 (i : Int))) (first | exact HSk.out _ (by repeat (first | with_reducible exact HKz.out | with_reducible exact HKaL.out | with_reducible refine Chg.drew ?_ | with_reducible refine Chg.alloc ?_ _ | with_reducible refine Chg.setCell ?_ (by simp) _))) (first | (refine step_append_row rfl (.tmp 75) (.tmp 83) rfl j0 hj hy0 hy1 hy2 rfl (ownsRow_drew (HOa.out.alloc _)) ⟨wa1.heap.size, 0, none⟩ 1 rfl ⟨1, mc, (i : Int), {}⟩ (fun j u h => new_cells _ _ _ j u h) HWw.out (Nat.le_trans HWs.out (size_alloc_drew _ _)) ?_; intro va wb ho9 hg9 hb9; rw [HWn.out, HWf.out] at ho9; have hkz : Chg [] w4 wb := ((HKa.out.alloc _).drew).grown hg9 (fun q hq hl2 => absurd hl2 (Nat.not_lt.2 (HOa.out.lt q hq).1)); obtain ⟨A9, c9, hv9, hz9⟩ := FzL.of_row (N := N) encM_len ho9 (fun y hy hm => absurd (show w4.heap.size ≤ y from (ho9.lt y (by simpa using hy)).1) (Nat.not_le.2 (HN4.out y hm))); subst hv9; have HZ9 := Lib.hid hz9; have HKz0 := Lib.hid hkz; have HKz : Hid (Chg [bL] w4 wb) := Lib.hid (hkz.mono (by simp)); have qk : wb.cell? ⟨bL, i * 17 + 16, none⟩ = some (.slice x.wtA x.wl.length x.wtc) := (hkz.cell0 hlkL _).trans HE16.out; have gk : wb.frozen? ⟨bL, i * 17 + 16, none⟩ = false := (HL4.out.look hkz).free _; clear ho9 hg9 hb9 hkz hz9) | fail)
      have HLk := Lib.hid (HL4.out.look HKz0.out)
      have HCk := Lib.hid (HC4.out.trans (HKz0.out.mono (by simp)))
      replace HB3 := Lib.hid (HKz0.out.blk HB3.out (by simp)); replace HB6 := Lib.hid (HKz0.out.blk HB6.out (by simp))
      have hF := HLk.out.fz i hi
      rw [HX.out] at hF
      have hp := HLk.out.put hi (j := 16) (by decide) (v := .slice A9 wl9.length c9) (x := { x with wtA := A9, wtc := c9, wl := wl9 }) (by rw [HX.out]; rfl) ⟨hF.sh, hF.ak, HZ9.out⟩
      obtain ⟨x7, hx7⟩ : ∃ q : RE, ({ x with wtA := A9, wtc := c9, wl := wl9 } : RE) = q := ⟨_, rfl⟩
      rw [hx7] at hp
      obtain ⟨rs7, hrs⟩ : ∃ q, rs.set i x7 = q := ⟨_, rfl⟩
      rw [hrs] at hp
      have hi7 : i < rs7.length := by rw [← hrs, List.length_set]; exact hi
      have HX7 : Hid (rs7[i] = x7) := Lib.hid (by subst hrs; exact List.getElem_set_self _)
      have HRS7 := Lib.hid hrs
      have HY7 := Lib.hid hx7
      have HL7 := Lib.hid (hp.1)
      have HC7 := Lib.hid ((HCk.out.trans (hp.2.mono (T := [bL, bW]) (by simp))))
      replace HB3 := Lib.hid ((HB3.out.other (a := ⟨bL, i * 17 + 16, none⟩) (Ne.symm n3) (.slice A9 wl9.length c9)))
      replace HB6 := Lib.hid ((HB6.out.other (a := ⟨bL, i * 17 + 16, none⟩) (Ne.symm n6) (.slice A9 wl9.length c9)))
      clear hF hp hrs hx7 HLk HCk HKz HKz0 HKa HKaL HSk HE16 HOa HL4 HC4 qk gk lk b3k hwa hlkL
      generalize World.setCell _ _ _ = w7 at *
      go_wp2_with fail
      go_ret2
      exact ⟨_, x7, by rw [HR.out]; rfl, by rw [HR.out, ← HY7.out]; show RE.toV _ = ({ x.toV with wl := x.wl ++ [(⟨1, mc, (i : Int), {}⟩ : MsgV)] } : RV); rw [HW9.out]; rfl, by rw [HR.out]; exact World.ownsRow_nil _ _ _ _, by rw [HR.out, HRS7.out]; exact HL7.out, HC7.out⟩


end Go.Proofs.Ytepdhajgemmoiaa

/- The reference's directory hears: GetM. -/

namespace Go.Proofs.Ytepdhajgemmoiaa
set_option linter.unusedSimpArgs false
set_option linter.unusedVariables false
set_option maxRecDepth 100000
set_option linter.unusedSimpArgs false
set_option linter.unusedVariables false
open Go.RowKit
attribute [local go_sem ↓] load_E store_E
attribute [local go_sem] bigOk_E bigVal_E bigFree_E bigPut_E bigNew putAll_drew Value.oneCell'


set_option maxHeartbeats 8000000 in
theorem rHear_2 (w : World) (N : List Nat) (d bL bW n capL : Nat) (cores : Int) (ws : List Int) (rs : List RE) (i : Nat) (hi : i < rs.length) (hN : ∀ x ∈ N, x < w.heap.size) (hsl : rs[i].sh.length ≤ 1000) (hal : rs[i].ak.length ≤ 1000) (hwl : rs[i].wl.length ≤ 900) (m : MsgV) (hk : m.k = 2) (hm : m.l = (i : Int)) (hc : 0 ≤ m.c ∧ m.c < cores) (H : RDAt w N d bL bW n capL cores ws rs) :
    Calls Try.prog 21 #[.pointer (some ⟨d, 0, none⟩), m.val] w (RHPost w N d bL bW n capL cores rs i (hearV n ws rs[i].toV i m)) := by
  have hlt := H.lt
  have hne := H.ne
  have hln := H.len
  have h64 := H.small
  obtain ⟨x, hx⟩ : ∃ x, rs[i] = x := ⟨_, rfl⟩
  have HX := Lib.hid hx; have HN := Lib.hid hN
  have HG := Lib.hid (fun W N' ws' rs' (hi' : i < rs'.length) hN' hs' K' => rgrant_any W N' d bL bW n capL cores ws' rs' i hi' hN' hs' K')
  have HBg := Lib.hid (fun W N' rs' (hi' : i < rs'.length) hN' hs' m' hm' K' => rbegin_any W N' d bL bW n capL cores ws rs' i hi' hN' hs' m' hm' K')
  have hin : (i : Int) < n := by omega
  have hi0 : (0 : Int) ≤ i := Int.natCast_nonneg _
  rw [hx] at hsl hal hwl ⊢
  clear hN
  have HH := Lib.hid H
  obtain ⟨mk, mc, ml, ⟨m0, m1, m2, m3, m4, m5, m6, m7⟩⟩ := m
  simp only at hm hc hk
  subst hm; subst hk
  have hc0 := hc.1; have hc1 := hc.2
  clear hc
  unfold MsgV.val
  simp only
  have HAL := Lib.hid hal; have HWL := Lib.hid hwl; have HSL0 := Lib.hid hsl
  clear hal hwl hsl
  have hal : Chg [] w (w.alloc (.cells #[.int .i64 2, .int .i64 mc, .int .i64 (i : Int), .int .u64 m0, .int .u64 m1, .int .u64 m2, .int .u64 m3, .int .u64 m4, .int .u64 m5, .int .u64 m6, .int .u64 m7] 33)) := (Chg.refl [] w).alloc _
  have HB3 := Lib.hid (Blk.new w [.int .i64 2, .int .i64 mc, .int .i64 (i : Int), .int .u64 m0, .int .u64 m1, .int .u64 m2, .int .u64 m3, .int .u64 m4, .int .u64 m5, .int .u64 m6, .int .u64 m7] 33)
  have HL := Lib.hid (H.look hal)
  have HC := Lib.hid hal
  clear H hx hal
  go_enter Try.func21, Try.ntmps21
  go_upto_region 1 with fail
  generalize World.alloc _ _ = w1 at *
  obtain ⟨b3, hb3⟩ : ∃ q, w.heap.size = q := ⟨_, rfl⟩
  rw [hb3] at HB3 hlt ⊢
  have Hb3 := Lib.hid hb3
  clear hb3
  have n3 : b3 ≠ bL := by omega
  have d1 : w1.cell? ⟨d, 1, none⟩ = some (.int .i64 cores) := HL.out.blk.cell 1
  have d2 : w1.cell? ⟨d, 2, none⟩ = some (.slice (some ⟨bL, 0, none⟩) n capL) := HL.out.blk.cell 2
  have lts := HL.out.lt
  have b3lt : b3 < w1.heap.size := HB3.out.lt
  have y1 : w1.cell? ⟨b3, 1, none⟩ = some (.int .i64 mc) := HB3.out.cell 1
  have y2 : w1.cell? ⟨b3, 2, none⟩ = some (.int .i64 (i : Int)) := HB3.out.cell 2
  go_quiet (fail)
  go_upto_region 3 with fail
  have HL1 := Lib.hid (HL.out.look ((Chg.refl [] w1).drewN nq))
  have HC1 := Lib.hid (HC.out.drewN nq)
  replace HB3 := Lib.hid (HB3.out.drewN nq)
  clear HL HC lts d1 d2 b3lt y1 y2
  generalize World.drewN _ _ = w2 at *
  have d2 : w2.cell? ⟨d, 2, none⟩ = some (.slice (some ⟨bL, 0, none⟩) n capL) := HL1.out.blk.cell 2
  have lts := HL1.out.lt
  have b3lt : b3 < w2.heap.size := HB3.out.lt
  have y2 : w2.cell? ⟨b3, 2, none⟩ = some (.int .i64 (i : Int)) := HB3.out.cell 2
  have e0 : w2.cell? ⟨bL, i * 17, none⟩ = some (.int .i64 x.ow) := by have := HL1.out.cell hi (j := 0) (by decide); rw [HX.out] at this; exact this
  have e1 : w2.cell? ⟨bL, i * 17 + 1, none⟩ = some (.slice x.shA x.sh.length x.shc) := by have := HL1.out.cell hi (j := 1) (by decide); rw [HX.out] at this; exact this
  have e2 : w2.cell? ⟨bL, i * 17 + 2, none⟩ = some (.int .i64 x.un.k) := by have := HL1.out.cell hi (j := 2) (by decide); rw [HX.out] at this; exact this
  have e3 : w2.cell? ⟨bL, i * 17 + 3, none⟩ = some (.int .i64 x.un.c) := by have := HL1.out.cell hi (j := 3) (by decide); rw [HX.out] at this; exact this
  have e4 : w2.cell? ⟨bL, i * 17 + 4, none⟩ = some (.int .i64 x.un.l) := by have := HL1.out.cell hi (j := 4) (by decide); rw [HX.out] at this; exact this
  have e5 : w2.cell? ⟨bL, i * 17 + 5, none⟩ = some (.int .u64 x.un.d.x0) := by have := HL1.out.cell hi (j := 5) (by decide); rw [HX.out] at this; exact this
  have e6 : w2.cell? ⟨bL, i * 17 + 6, none⟩ = some (.int .u64 x.un.d.x1) := by have := HL1.out.cell hi (j := 6) (by decide); rw [HX.out] at this; exact this
  have e7 : w2.cell? ⟨bL, i * 17 + 7, none⟩ = some (.int .u64 x.un.d.x2) := by have := HL1.out.cell hi (j := 7) (by decide); rw [HX.out] at this; exact this
  have e8 : w2.cell? ⟨bL, i * 17 + 8, none⟩ = some (.int .u64 x.un.d.x3) := by have := HL1.out.cell hi (j := 8) (by decide); rw [HX.out] at this; exact this
  have e9 : w2.cell? ⟨bL, i * 17 + 9, none⟩ = some (.int .u64 x.un.d.x4) := by have := HL1.out.cell hi (j := 9) (by decide); rw [HX.out] at this; exact this
  have e10 : w2.cell? ⟨bL, i * 17 + 10, none⟩ = some (.int .u64 x.un.d.x5) := by have := HL1.out.cell hi (j := 10) (by decide); rw [HX.out] at this; exact this
  have e11 : w2.cell? ⟨bL, i * 17 + 11, none⟩ = some (.int .u64 x.un.d.x6) := by have := HL1.out.cell hi (j := 11) (by decide); rw [HX.out] at this; exact this
  have e12 : w2.cell? ⟨bL, i * 17 + 12, none⟩ = some (.int .u64 x.un.d.x7) := by have := HL1.out.cell hi (j := 12) (by decide); rw [HX.out] at this; exact this
  have e13 : w2.cell? ⟨bL, i * 17 + 13, none⟩ = some (.int .i64 x.ph) := by have := HL1.out.cell hi (j := 13) (by decide); rw [HX.out] at this; exact this
  have e14 : w2.cell? ⟨bL, i * 17 + 14, none⟩ = some (.slice x.akA x.ak.length x.akc) := by have := HL1.out.cell hi (j := 14) (by decide); rw [HX.out] at this; exact this
  have e15 : w2.cell? ⟨bL, i * 17 + 15, none⟩ = some (.int .i64 x.asked) := by have := HL1.out.cell hi (j := 15) (by decide); rw [HX.out] at this; exact this
  have e16 : w2.cell? ⟨bL, i * 17 + 16, none⟩ = some (.slice x.wtA x.wl.length x.wtc) := by have := HL1.out.cell hi (j := 16) (by decide); rw [HX.out] at this; exact this
  have HSk : Hid (∀ V, Chg [] w2 V → (V.cell? ⟨d, 2, none⟩ = some (.slice (some ⟨bL, 0, none⟩) n capL) ∧ V.cell? ⟨b3, 2, none⟩ = some (.int .i64 (i : Int)) ∧ V.cell? ⟨bL, i * 17, none⟩ = some (.int .i64 x.ow) ∧ V.cell? ⟨bL, i * 17 + 1, none⟩ = some (.slice x.shA x.sh.length x.shc) ∧ V.cell? ⟨bL, i * 17 + 2, none⟩ = some (.int .i64 x.un.k) ∧ V.cell? ⟨bL, i * 17 + 3, none⟩ = some (.int .i64 x.un.c) ∧ V.cell? ⟨bL, i * 17 + 4, none⟩ = some (.int .i64 x.un.l) ∧ V.cell? ⟨bL, i * 17 + 5, none⟩ = some (.int .u64 x.un.d.x0) ∧ V.cell? ⟨bL, i * 17 + 6, none⟩ = some (.int .u64 x.un.d.x1) ∧ V.cell? ⟨bL, i * 17 + 7, none⟩ = some (.int .u64 x.un.d.x2) ∧ V.cell? ⟨bL, i * 17 + 8, none⟩ = some (.int .u64 x.un.d.x3) ∧ V.cell? ⟨bL, i * 17 + 9, none⟩ = some (.int .u64 x.un.d.x4) ∧ V.cell? ⟨bL, i * 17 + 10, none⟩ = some (.int .u64 x.un.d.x5) ∧ V.cell? ⟨bL, i * 17 + 11, none⟩ = some (.int .u64 x.un.d.x6) ∧ V.cell? ⟨bL, i * 17 + 12, none⟩ = some (.int .u64 x.un.d.x7) ∧ V.cell? ⟨bL, i * 17 + 13, none⟩ = some (.int .i64 x.ph) ∧ V.cell? ⟨bL, i * 17 + 14, none⟩ = some (.slice x.akA x.ak.length x.akc) ∧ V.cell? ⟨bL, i * 17 + 15, none⟩ = some (.int .i64 x.asked) ∧ V.cell? ⟨bL, i * 17 + 16, none⟩ = some (.slice x.wtA x.wl.length x.wtc))) := Lib.hid (fun V k => ⟨(k.cell0 lts.1 _).trans d2, (k.cell0 b3lt _).trans y2, (k.cell0 lts.2.1 _).trans e0, (k.cell0 lts.2.1 _).trans e1, (k.cell0 lts.2.1 _).trans e2, (k.cell0 lts.2.1 _).trans e3, (k.cell0 lts.2.1 _).trans e4, (k.cell0 lts.2.1 _).trans e5, (k.cell0 lts.2.1 _).trans e6, (k.cell0 lts.2.1 _).trans e7, (k.cell0 lts.2.1 _).trans e8, (k.cell0 lts.2.1 _).trans e9, (k.cell0 lts.2.1 _).trans e10, (k.cell0 lts.2.1 _).trans e11, (k.cell0 lts.2.1 _).trans e12, (k.cell0 lts.2.1 _).trans e13, (k.cell0 lts.2.1 _).trans e14, (k.cell0 lts.2.1 _).trans e15, (k.cell0 lts.2.1 _).trans e16⟩)
  go_region_held3 (fun V => V.cell? ⟨d, 2, none⟩ = some (.slice (some ⟨bL, 0, none⟩) n capL) ∧ V.cell? ⟨b3, 2, none⟩ = some (.int .i64 (i : Int)) ∧ V.cell? ⟨bL, i * 17, none⟩ = some (.int .i64 x.ow) ∧ V.cell? ⟨bL, i * 17 + 1, none⟩ = some (.slice x.shA x.sh.length x.shc) ∧ V.cell? ⟨bL, i * 17 + 2, none⟩ = some (.int .i64 x.un.k) ∧ V.cell? ⟨bL, i * 17 + 3, none⟩ = some (.int .i64 x.un.c) ∧ V.cell? ⟨bL, i * 17 + 4, none⟩ = some (.int .i64 x.un.l) ∧ V.cell? ⟨bL, i * 17 + 5, none⟩ = some (.int .u64 x.un.d.x0) ∧ V.cell? ⟨bL, i * 17 + 6, none⟩ = some (.int .u64 x.un.d.x1) ∧ V.cell? ⟨bL, i * 17 + 7, none⟩ = some (.int .u64 x.un.d.x2) ∧ V.cell? ⟨bL, i * 17 + 8, none⟩ = some (.int .u64 x.un.d.x3) ∧ V.cell? ⟨bL, i * 17 + 9, none⟩ = some (.int .u64 x.un.d.x4) ∧ V.cell? ⟨bL, i * 17 + 10, none⟩ = some (.int .u64 x.un.d.x5) ∧ V.cell? ⟨bL, i * 17 + 11, none⟩ = some (.int .u64 x.un.d.x6) ∧ V.cell? ⟨bL, i * 17 + 12, none⟩ = some (.int .u64 x.un.d.x7) ∧ V.cell? ⟨bL, i * 17 + 13, none⟩ = some (.int .i64 x.ph) ∧ V.cell? ⟨bL, i * 17 + 14, none⟩ = some (.slice x.akA x.ak.length x.akc) ∧ V.cell? ⟨bL, i * 17 + 15, none⟩ = some (.int .i64 x.asked) ∧ V.cell? ⟨bL, i * 17 + 16, none⟩ = some (.slice x.wtA x.wl.length x.wtc)) (exact HSk.out _ (by repeat (first | with_reducible exact Chg.refl _ _ | with_reducible refine Chg.drew ?_ | with_reducible refine Chg.alloc ?_ _ | with_reducible refine Chg.setCell ?_ (fun h => absurd h (Nat.lt_irrefl _)) _))) (fail)
  have hal := ((Chg.refl [] w2).alloc (.cells #[.int .i64 x.ow, .slice x.shA x.sh.length x.shc, .int .i64 x.un.k, .int .i64 x.un.c, .int .i64 x.un.l, .int .u64 x.un.d.x0, .int .u64 x.un.d.x1, .int .u64 x.un.d.x2, .int .u64 x.un.d.x3, .int .u64 x.un.d.x4, .int .u64 x.un.d.x5, .int .u64 x.un.d.x6, .int .u64 x.un.d.x7, .int .i64 x.ph, .slice x.akA x.ak.length x.akc, .int .i64 x.asked, .slice x.wtA x.wl.length x.wtc] 99)).drew
  have HB6 := Lib.hid ((Blk.new w2 [.int .i64 x.ow, .slice x.shA x.sh.length x.shc, .int .i64 x.un.k, .int .i64 x.un.c, .int .i64 x.un.l, .int .u64 x.un.d.x0, .int .u64 x.un.d.x1, .int .u64 x.un.d.x2, .int .u64 x.un.d.x3, .int .u64 x.un.d.x4, .int .u64 x.un.d.x5, .int .u64 x.un.d.x6, .int .u64 x.un.d.x7, .int .i64 x.ph, .slice x.akA x.ak.length x.akc, .int .i64 x.asked, .slice x.wtA x.wl.length x.wtc] 99).drew)
  have HL3 := Lib.hid (HL1.out.look hal)
  have HC3 := Lib.hid ((HC1.out.mono (T := [bL, bW]) (by simp)).trans (hal.mono (by simp)))
  replace HB3 := Lib.hid (hal.blk HB3.out (by simp))
  have hs2 : w.heap.size ≤ w2.heap.size := HC1.out.size
  rename_i hHeld
  clear hal HL1 HC1 HSk hHeld d2 y2 e0 e1 e2 e3 e4 e5 e6 e7 e8 e9 e10 e11 e12 e13 e14 e15 e16
  generalize World.drew _ = w3 at *
  obtain ⟨b6, hb6⟩ : ∃ q, w2.heap.size = q := ⟨_, rfl⟩
  rw [hb6] at HB6 lts b3lt hs2 ⊢
  clear hb6
  rw [Hb3.out] at hs2
  have n6 : b6 ≠ bL := by omega
  have n3W : b3 ≠ bW := by omega
  have n6W : b6 ≠ bW := by omega
  have ndL : d ≠ bL := hne.1
  have ndW : d ≠ bW := hne.2.1
  have nLW : bL ≠ bW := hne.2.2
  have hF3 : FzR w3 N x := by have := HL3.out.fz i hi; rw [HX.out] at this; exact this
  have HF3 := Lib.hid hF3
  have HN3 : Hid (∀ y ∈ N, y < w3.heap.size) := Lib.hid (fun y hy => Nat.lt_of_lt_of_le (HN.out y hy) HC3.out.size)
  have l3 := HL3.out.lt
  have b3lt3 : b3 < w3.heap.size := HB3.out.lt
  have b6lt3 : b6 < w3.heap.size := HB6.out.lt
  clear lts b3lt hF3
  have d2 : w3.cell? ⟨d, 2, none⟩ = some (.slice (some ⟨bL, 0, none⟩) n capL) := HL3.out.blk.cell 2
  have y0 : w3.cell? ⟨b3, 0, none⟩ = some (.int .i64 2) := HB3.out.cell 0
  have y1 : w3.cell? ⟨b3, 1, none⟩ = some (.int .i64 mc) := HB3.out.cell 1
  have y2 : w3.cell? ⟨b3, 2, none⟩ = some (.int .i64 (i : Int)) := HB3.out.cell 2
  have k0 : w3.cell? ⟨b6, 0, none⟩ = some (.int .i64 x.ow) := HB6.out.cell 0
  have k1 : w3.cell? ⟨b6, 1, none⟩ = some (.slice x.shA x.sh.length x.shc) := HB6.out.cell 1
  have k2 : w3.cell? ⟨b6, 2, none⟩ = some (.int .i64 x.un.k) := HB6.out.cell 2
  have k3 : w3.cell? ⟨b6, 3, none⟩ = some (.int .i64 x.un.c) := HB6.out.cell 3
  have k4 : w3.cell? ⟨b6, 4, none⟩ = some (.int .i64 x.un.l) := HB6.out.cell 4
  have k5 : w3.cell? ⟨b6, 5, none⟩ = some (.int .u64 x.un.d.x0) := HB6.out.cell 5
  have k6 : w3.cell? ⟨b6, 6, none⟩ = some (.int .u64 x.un.d.x1) := HB6.out.cell 6
  have k7 : w3.cell? ⟨b6, 7, none⟩ = some (.int .u64 x.un.d.x2) := HB6.out.cell 7
  have k8 : w3.cell? ⟨b6, 8, none⟩ = some (.int .u64 x.un.d.x3) := HB6.out.cell 8
  have k9 : w3.cell? ⟨b6, 9, none⟩ = some (.int .u64 x.un.d.x4) := HB6.out.cell 9
  have k10 : w3.cell? ⟨b6, 10, none⟩ = some (.int .u64 x.un.d.x5) := HB6.out.cell 10
  have k11 : w3.cell? ⟨b6, 11, none⟩ = some (.int .u64 x.un.d.x6) := HB6.out.cell 11
  have k12 : w3.cell? ⟨b6, 12, none⟩ = some (.int .u64 x.un.d.x7) := HB6.out.cell 12
  have k13 : w3.cell? ⟨b6, 13, none⟩ = some (.int .i64 x.ph) := HB6.out.cell 13
  have k14 : w3.cell? ⟨b6, 14, none⟩ = some (.slice x.akA x.ak.length x.akc) := HB6.out.cell 14
  have k15 : w3.cell? ⟨b6, 15, none⟩ = some (.int .i64 x.asked) := HB6.out.cell 15
  have k16 : w3.cell? ⟨b6, 16, none⟩ = some (.slice x.wtA x.wl.length x.wtc) := HB6.out.cell 16
  have HAs : Hid (Calls Try.prog 38 #[.agg #[.int .i64 x.ow, .slice x.shA x.sh.length x.shc, .int .i64 x.un.k, .int .i64 x.un.c, .int .i64 x.un.l, .int .u64 x.un.d.x0, .int .u64 x.un.d.x1, .int .u64 x.un.d.x2, .int .u64 x.un.d.x3, .int .u64 x.un.d.x4, .int .u64 x.un.d.x5, .int .u64 x.un.d.x6, .int .u64 x.un.d.x7, .int .i64 x.ph, .slice x.akA x.ak.length x.akc, .int .i64 x.asked, .slice x.wtA x.wl.length x.wtc], .int .i64 mc] w3 fun e w' => e = .returned (.bool (asksV x.toV mc)) ∧ Chg [] w3 w') := Lib.hid (asks_any w3 x mc (by have := HWL.out; omega) HF3.out.wt.rd)
  cases hq : asksV x.toV mc with
  | true =>
    have hR : hearV n ws x.toV i ⟨2, mc, (i : Int), ⟨m0, m1, m2, m3, m4, m5, m6, m7⟩⟩ = (ws, x.toV, [], 30) := by simp [hearV, hq]
    have HR := Lib.hid hR
    clear hR
    rw [hq] at HAs
    clear hq
    go_wp2_with fail
    refine HAs.out.mono ?_
    rintro e w4 ⟨rfl, hk4⟩
    have HL4 := Lib.hid (HL3.out.look hk4); have HC4 := Lib.hid (HC3.out.trans (hk4.mono (by simp)))
    replace HB3 := Lib.hid (hk4.blk HB3.out (by simp)); replace HB6 := Lib.hid (hk4.blk HB6.out (by simp))
    have HF4 := Lib.hid (HF3.out.step (N' := N) (hk4.mono (by simp)) (fun y hy => .inl hy))
    have HN4 : Hid (∀ y ∈ N, y < w4.heap.size) := Lib.hid (fun y hy => Nat.lt_of_lt_of_le (HN3.out y hy) hk4.size)
    clear hk4 HL3 HC3 HF3 HN3 HAs d2 l3 b3lt3 b6lt3 y0 y1 y2 k0 k1 k2 k3 k4 k5 k6 k7 k8 k9 k10 k11 k12 k13 k14 k15 k16
    go_wp2_with fail
    go_ret2
    exact ⟨_, x, by rw [HR.out]; rfl, by rw [HR.out], by rw [HR.out]; exact World.ownsRow_nil _ _ _ _, by rw [HR.out, ← HX.out, set_self]; exact HL4.out, HC4.out⟩

  | false =>
    rw [hq] at HAs
    have HQ := Lib.hid hq
    clear hq
    go_wp2_with fail
    refine HAs.out.mono ?_
    rintro e w4 ⟨rfl, hk4⟩
    have HL4 := Lib.hid (HL3.out.look hk4); have HC4 := Lib.hid (HC3.out.trans (hk4.mono (by simp)))
    replace HB3 := Lib.hid (hk4.blk HB3.out (by simp)); replace HB6 := Lib.hid (hk4.blk HB6.out (by simp))
    have HF4 := Lib.hid (HF3.out.step (N' := N) (hk4.mono (by simp)) (fun y hy => .inl hy))
    have HN4 : Hid (∀ y ∈ N, y < w4.heap.size) := Lib.hid (fun y hy => Nat.lt_of_lt_of_le (HN3.out y hy) hk4.size)
    clear hk4 HL3 HC3 HF3 HN3 HAs d2 l3 b3lt3 b6lt3 y0 y1 y2 k0 k1 k2 k3 k4 k5 k6 k7 k8 k9 k10 k11 k12 k13 k14 k15 k16
    have d2 : w4.cell? ⟨d, 2, none⟩ = some (.slice (some ⟨bL, 0, none⟩) n capL) := HL4.out.blk.cell 2
    have y0 : w4.cell? ⟨b3, 0, none⟩ = some (.int .i64 2) := HB3.out.cell 0
    have y1 : w4.cell? ⟨b3, 1, none⟩ = some (.int .i64 mc) := HB3.out.cell 1
    have y2 : w4.cell? ⟨b3, 2, none⟩ = some (.int .i64 (i : Int)) := HB3.out.cell 2
    have k13 : w4.cell? ⟨b6, 13, none⟩ = some (.int .i64 x.ph) := HB6.out.cell 13
    by_cases h0 : x.ph = 0
    · rw [h0] at k13
      have hR : hearV n ws x.toV i ⟨2, mc, (i : Int), ⟨m0, m1, m2, m3, m4, m5, m6, m7⟩⟩ = (ws, beginV x.toV ⟨2, mc, (i : Int), {}⟩, beginVM x.toV ⟨2, mc, (i : Int), {}⟩ (lineV n ws i), 0) := by have h1 := HQ.out; unfold hearV; rw [if_pos (show (2 : Int) = 1 ∨ (2 : Int) = 2 from by decide), if_neg (by rw [h1]; decide), if_pos (show x.toV.ph = 0 from h0)]
      have HR := Lib.hid hR
      clear hR
      have HBc := Lib.hid (HBg.out w4 N rs hi HN4.out (by rw [HX.out]; exact HSL0.out) ⟨2, mc, (i : Int), {}⟩ rfl HL4.out)
      rw [HX.out] at HBc
      unfold MsgV.val at HBc
      simp only at HBc
      clear h0
      go_wp2_with fail
      refine HBc.out.mono ?_
      rintro e w9 ⟨v9, x9, rfl, hx9, ho9, hl9, hk9⟩
      have HX9 := Lib.hid hx9; have HO9 := Lib.hid ho9; have HL9 := Lib.hid hl9; have HC9 := Lib.hid (HC4.out.trans (hk9.mono (T := [bL, bW]) (by simp)))
      have Hs7 : Hid (w.heap.size ≤ w4.heap.size) := Lib.hid HC4.out.size
      clear hx9 ho9 hl9 hk9
      go_wp2_with fail
      go_ret2
      exact ⟨v9, x9, by rw [HR.out]; rfl, by rw [HR.out]; exact HX9.out, by rw [HR.out]; exact ownsRow_base HO9.out Hs7.out, by rw [HR.out]; exact HL9.out, HC9.out⟩

    · have hR : hearV n ws x.toV i ⟨2, mc, (i : Int), ⟨m0, m1, m2, m3, m4, m5, m6, m7⟩⟩ = (ws, { x.toV with wl := x.wl ++ [⟨2, mc, (i : Int), {}⟩] }, [], 0) := by have h1 := HQ.out; unfold hearV; rw [if_pos (show (2 : Int) = 1 ∨ (2 : Int) = 2 from by decide), if_neg (by rw [h1]; decide), if_neg (show ¬ x.toV.ph = 0 from h0)]; rfl
      have HR := Lib.hid hR
      clear hR
      have k16 : w4.cell? ⟨b6, 16, none⟩ = some (.slice x.wtA x.wl.length x.wtc) := HB6.out.cell 16
      obtain ⟨j0, hj, hy0, hy1, hy2⟩ := info_parts infoMsg
      have HNil := Lib.hid HF4.out.wt.nil
      have HLe := Lib.hid HF4.out.wt.le
      have HNw := Lib.hid (Rd.news (by decide) encM_len HF4.out.wt.rd)
      have hw900 : x.wl.length ≤ 900 := HWL.out
      go_upto_region 13 with (first | (at_builtin; refine wpList_append_own_any _ rfl (.tmp 65) (.tmp 67) 26 rfl (w4.heap.size) 33 j0 (.agg #[.int .i64 0, .int .i64 0, .int .i64 0, .int .u64 0, .int .u64 0, .int .u64 0, .int .u64 0, .int .u64 0, .int .u64 0, .int .u64 0, .int .u64 0]) 11 88 Try.underlying26 hj hy0 hy1 hy2 rfl (by decide) _ _ _ rfl (World.ownsRow_nil _ _ _ _) x.wtA (x.wl.length) (x.wtc) (x.wl.flatMap encM) rfl HNil.out (flat_len encM_len x.wl) HLe.out HNw.out (encs_oneR x.wl) (by unfold maxLen; omega) (by omega) (by first | omega | (simp; omega) | simp) ?_; intro va1 wa1 hown1 hgrow1 hblk1 hnil1; have hsz1 := hgrow1.size; have HO1 := Lib.hid hown1; have HG1 := Lib.hid hgrow1; have HB1 := Lib.hid hblk1; have HZ1 := Lib.hid hnil1; clear hown1 hgrow1 hblk1 hnil1) | fail)
      have hka : Chg [] w4 wa1 := (Chg.refl [] w4).grown (show w4.grownBy wa1 none from HG1.out) (fun q hq => by cases hq)
      have hoa : wa1.ownsRow w4.heap.size 33 11 va1 x.wl.length (x.wl.flatMap encM) := by have := HO1.out; rw [Nat.zero_add, List.nil_append] at this; exact this
      have HKa := Lib.hid hka; have HOa := Lib.hid hoa
      have HKaL : Hid (Chg [bL] w4 wa1) := Lib.hid (hka.mono (by simp))
      obtain ⟨wl9, hwl9⟩ : ∃ q, x.wl ++ [(⟨2, mc, (i : Int), {}⟩ : MsgV)] = q := ⟨_, rfl⟩
      have HW9 := Lib.hid hwl9
      have HWn : Hid (x.wl.length + 1 = wl9.length) := Lib.hid (by rw [← hwl9, List.length_append]; rfl)
      have HWf : Hid (x.wl.flatMap encM ++ encM ⟨2, mc, (i : Int), {}⟩ = wl9.flatMap encM) := Lib.hid (by rw [← hwl9, List.flatMap_append]; rfl)
      have HWw : Hid (x.wl.length ≤ 100000) := Lib.hid (by omega)
      have HWs : Hid (w4.heap.size ≤ wa1.heap.size) := Lib.hid hka.size
      have lk := HL4.out.lt
      have b3k : b3 < w4.heap.size := HB3.out.lt
      have HE16 : Hid (w4.cell? ⟨bL, i * 17 + 16, none⟩ = some (.slice x.wtA x.wl.length x.wtc)) := Lib.hid (by have := HL4.out.cell hi (j := 16) (by decide); rw [HX.out] at this; exact this)
      have HSk : Hid (∀ V, Chg [bL] w4 V → (V.cell? ⟨d, 2, none⟩ = some (.slice (some ⟨bL, 0, none⟩) n capL) ∧ V.cell? ⟨b3, 0, none⟩ = some (.int .i64 2) ∧ V.cell? ⟨b3, 1, none⟩ = some (.int .i64 mc) ∧ V.cell? ⟨b3, 2, none⟩ = some (.int .i64 (i : Int)))) := Lib.hid (fun V k => ⟨(k.cell lk.1 (by simpa using ndL) _).trans d2, (k.cell b3k (by simpa using n3) _).trans y0, (k.cell b3k (by simpa using n3) _).trans y1, (k.cell b3k (by simpa using n3) _).trans y2⟩)
      clear HO1 HG1 HB1 HZ1 hka hoa hwl9 hw900 d2 y0 y1 y2 k13 k16 h0
      have hwa := HWs.out
      have hlkL := lk.2.1
      go_region_held3 (fun V => V.cell? ⟨d, 2, none⟩ = some (.slice (some ⟨bL, 0, none⟩) n capL) ∧ V.cell? ⟨b3, 0, none⟩ = some (.int .i64 2) ∧ V.cell? ⟨b3, 1, none⟩ = some (.int .i64 mc) ∧ V.cell? ⟨b3, 2, none⟩ = some (.int .i64 (i : Int))) (first | exact HSk.out _ (by repeat (first | with_reducible exact HKz.out | with_reducible exact HKaL.out | with_reducible refine Chg.drew ?_ | with_reducible refine Chg.alloc ?_ _ | with_reducible refine Chg.setCell ?_ (by simp) _))) (first | (refine step_append_row rfl (.tmp 75) (.tmp 83) rfl j0 hj hy0 hy1 hy2 rfl (ownsRow_drew (HOa.out.alloc _)) ⟨wa1.heap.size, 0, none⟩ 1 rfl ⟨2, mc, (i : Int), {}⟩ (fun j u h => new_cells _ _ _ j u h) HWw.out (Nat.le_trans HWs.out (size_alloc_drew _ _)) ?_; intro va wb ho9 hg9 hb9; rw [HWn.out, HWf.out] at ho9; have hkz : Chg [] w4 wb := ((HKa.out.alloc _).drew).grown hg9 (fun q hq hl2 => absurd hl2 (Nat.not_lt.2 (HOa.out.lt q hq).1)); obtain ⟨A9, c9, hv9, hz9⟩ := FzL.of_row (N := N) encM_len ho9 (fun y hy hm => absurd (show w4.heap.size ≤ y from (ho9.lt y (by simpa using hy)).1) (Nat.not_le.2 (HN4.out y hm))); subst hv9; have HZ9 := Lib.hid hz9; have HKz0 := Lib.hid hkz; have HKz : Hid (Chg [bL] w4 wb) := Lib.hid (hkz.mono (by simp)); have qk : wb.cell? ⟨bL, i * 17 + 16, none⟩ = some (.slice x.wtA x.wl.length x.wtc) := (hkz.cell0 hlkL _).trans HE16.out; have gk : wb.frozen? ⟨bL, i * 17 + 16, none⟩ = false := (HL4.out.look hkz).free _; clear ho9 hg9 hb9 hkz hz9) | fail)
      have HLk := Lib.hid (HL4.out.look HKz0.out)
      have HCk := Lib.hid (HC4.out.trans (HKz0.out.mono (by simp)))
      replace HB3 := Lib.hid (HKz0.out.blk HB3.out (by simp)); replace HB6 := Lib.hid (HKz0.out.blk HB6.out (by simp))
      have hF := HLk.out.fz i hi
      rw [HX.out] at hF
      have hp := HLk.out.put hi (j := 16) (by decide) (v := .slice A9 wl9.length c9) (x := { x with wtA := A9, wtc := c9, wl := wl9 }) (by rw [HX.out]; rfl) ⟨hF.sh, hF.ak, HZ9.out⟩
      obtain ⟨x7, hx7⟩ : ∃ q : RE, ({ x with wtA := A9, wtc := c9, wl := wl9 } : RE) = q := ⟨_, rfl⟩
      rw [hx7] at hp
      obtain ⟨rs7, hrs⟩ : ∃ q, rs.set i x7 = q := ⟨_, rfl⟩
      rw [hrs] at hp
      have hi7 : i < rs7.length := by rw [← hrs, List.length_set]; exact hi
      have HX7 : Hid (rs7[i] = x7) := Lib.hid (by subst hrs; exact List.getElem_set_self _)
      have HRS7 := Lib.hid hrs
      have HY7 := Lib.hid hx7
      have HL7 := Lib.hid (hp.1)
      have HC7 := Lib.hid ((HCk.out.trans (hp.2.mono (T := [bL, bW]) (by simp))))
      replace HB3 := Lib.hid ((HB3.out.other (a := ⟨bL, i * 17 + 16, none⟩) (Ne.symm n3) (.slice A9 wl9.length c9)))
      replace HB6 := Lib.hid ((HB6.out.other (a := ⟨bL, i * 17 + 16, none⟩) (Ne.symm n6) (.slice A9 wl9.length c9)))
      clear hF hp hrs hx7 HLk HCk HKz HKz0 HKa HKaL HSk HE16 HOa HL4 HC4 qk gk lk b3k hwa hlkL
      generalize World.setCell _ _ _ = w7 at *
      go_wp2_with fail
      go_ret2
      exact ⟨_, x7, by rw [HR.out]; rfl, by rw [HR.out, ← HY7.out]; show RE.toV _ = ({ x.toV with wl := x.wl ++ [(⟨2, mc, (i : Int), {}⟩ : MsgV)] } : RV); rw [HW9.out]; rfl, by rw [HR.out]; exact World.ownsRow_nil _ _ _ _, by rw [HR.out, HRS7.out]; exact HL7.out, HC7.out⟩


end Go.Proofs.Ytepdhajgemmoiaa

