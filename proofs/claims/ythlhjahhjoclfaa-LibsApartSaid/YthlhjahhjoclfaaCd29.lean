/- LibsSame. -/
import Derived.Test.YthlhjahhjoclfaaCd28
namespace Go.Proofs.Ythlhjahhjoclfaa
set_option maxRecDepth 100000
open Go.RowKit

set_option maxHeartbeats 16000000 in
theorem LibsSame_any (W : World) (x base bk cap c k v : Int) (hk0 : 0 ≤ k) (hk1 : k ≤ 18446744073709551615) (hv0 : 0 ≤ v) (hv1 : v ≤ 18446744073709551615) :
    Calls Try.prog 6 #[.agg #[.int .i64 x, .int .i64 base, .int .i64 bk, .int .i64 cap], .agg #[.int .i64 c, .int .u64 k, .int .u64 v]] W (StaysPost W) := by
  obtain ⟨i0, hi, hz0, hz1, hz2⟩ := info_parts infoIns
  obtain ⟨m, hm, m0, m1⟩ := and_kind x
  have HY := Lib.hid ((Blk.new W [.int .i64 x, .int .i64 base, .int .i64 bk, .int .i64 cap] 31).alloc (.cells #[.int .i64 c, .int .u64 k, .int .u64 v] 34))
  have H1 : Hid (Blk ((W.alloc (.cells #[.int .i64 x, .int .i64 base, .int .i64 bk, .int .i64 cap] 31)).alloc (.cells #[.int .i64 c, .int .u64 k, .int .u64 v] 34)) (W.heap.size + 1) [.int .i64 c, .int .u64 k, .int .u64 v] 34) := Lib.hid (by
    have := Blk.new (W.alloc (.cells #[.int .i64 x, .int .i64 base, .int .i64 bk, .int .i64 cap] 31)) [.int .i64 c, .int .u64 k, .int .u64 v] 34; simpa using this)
  have HC := Lib.hid (((Chg.refl [] W).alloc (.cells #[.int .i64 x, .int .i64 base, .int .i64 bk, .int .i64 cap] 31)).alloc (.cells #[.int .i64 c, .int .u64 k, .int .u64 v] 34))
  go_enter Try.func6, Try.ntmps6
  go_wp2_with fail
  refine (alive_any _).mono ?_
  rintro e w1 ⟨rfl, hx⟩
  replace HY := Lib.hid (hx.blk HY.out (by simp))
  replace H1 := Lib.hid (hx.blk H1.out (by simp))
  replace HC := Lib.hid (HC.out.trans hx)
  clear hx
  have y0 : w1.cell? ⟨W.heap.size, 0, none⟩ = some (.int .i64 x) := HY.out.cell 0
  have f0 : w1.frozen? ⟨W.heap.size, 0, none⟩ = false := HY.out.free 0
  go_upto_region 3 with fail
  have hk1' : 0 ≤ m % 3 := by omega
  have hk2' : m % 3 ≤ 2 := by omega
  generalize m % 3 = kd at *
  have hset : Chg [W.heap.size] w1 (w1.setCell ⟨W.heap.size, 0, none⟩ (.int .i64 kd)) := (Chg.refl _ _).setCell (p := ⟨_, 0, none⟩) (by simp) _
  replace HY := Lib.hid (HY.out.set 0 (.int .i64 kd))
  replace H1 := Lib.hid (hset.blk H1.out (by simp))
  replace HC := Lib.hid (HC.out.trans' hset (fun x hx hl => by simp at hx; omega))
  clear y0 f0 hset hm m0 m1
  generalize World.setCell _ _ _ = w2 at *
  have y0 : w2.cell? ⟨W.heap.size, 0, none⟩ = some (.int .i64 kd) := HY.out.cell 0
  have y1 : w2.cell? ⟨W.heap.size, 1, none⟩ = some (.int .i64 base) := HY.out.cell 1
  have y2 : w2.cell? ⟨W.heap.size, 2, none⟩ = some (.int .i64 bk) := HY.out.cell 2
  have y3 : w2.cell? ⟨W.heap.size, 3, none⟩ = some (.int .i64 cap) := HY.out.cell 3
  have e0 : w2.cell? ⟨W.heap.size + 1, 0, none⟩ = some (.int .i64 c) := H1.out.cell 0
  have e1 : w2.cell? ⟨W.heap.size + 1, 1, none⟩ = some (.int .u64 k) := H1.out.cell 1
  have e2 : w2.cell? ⟨W.heap.size + 1, 2, none⟩ = some (.int .u64 v) := H1.out.cell 2
  have HK3 := Lib.hid (show kd = 0 ∨ kd = 1 ∨ kd = 2 by omega)
  cases hu : usualB kd c
  · have HU := Lib.hid hu
    clear hu
    go_wp2_with fail
    refine (usual_any _ kd c base bk cap k v HK3.out).mono ?_
    rintro e w3 ⟨rfl, hx⟩
    rw [HU.out]
    replace HC := Lib.hid (HC.out.trans hx)
    clear hx
    go_wp2_with fail
    go_ret
    exact ⟨rfl, HC.out.nil_below⟩
  have HU := Lib.hid hu
  clear hu
  go_wp2_with fail
  refine (usual_any _ kd c base bk cap k v HK3.out).mono ?_
  rintro e w3 ⟨rfl, hx⟩
  rw [HU.out]
  replace HY := Lib.hid (hx.blk HY.out (by simp))
  replace H1 := Lib.hid (hx.blk H1.out (by simp))
  replace HC := Lib.hid (HC.out.trans hx)
  clear hx
  clear y0 y1 y2 y3 e0 e1 e2
  have y0 : w3.cell? ⟨W.heap.size, 0, none⟩ = some (.int .i64 kd) := HY.out.cell 0
  have y1 : w3.cell? ⟨W.heap.size, 1, none⟩ = some (.int .i64 base) := HY.out.cell 1
  have y2 : w3.cell? ⟨W.heap.size, 2, none⟩ = some (.int .i64 bk) := HY.out.cell 2
  have y3 : w3.cell? ⟨W.heap.size, 3, none⟩ = some (.int .i64 cap) := HY.out.cell 3
  have e0 : w3.cell? ⟨W.heap.size + 1, 0, none⟩ = some (.int .i64 c) := H1.out.cell 0
  have e1 : w3.cell? ⟨W.heap.size + 1, 1, none⟩ = some (.int .u64 k) := H1.out.cell 1
  have e2 : w3.cell? ⟨W.heap.size + 1, 2, none⟩ = some (.int .u64 v) := H1.out.cell 2
  have H3S := Lib.hid (H1.out.lt)
  cases hf : fitsB base (sizeK kd bk cap)
  · have HF := Lib.hid hf
    clear hf
    go_wp2_with fail
    refine (Code_no _ kd c base bk cap k v HU.out HF.out).mono ?_
    rintro e w4 ⟨rfl, hx⟩
    replace HY := Lib.hid (hx.blk HY.out (by simp))
    replace H1 := Lib.hid (hx.blk H1.out (by simp))
    replace HC := Lib.hid (HC.out.trans hx)
    clear hx
    clear y0 y1 y2 y3 e0 e1 e2
    have y0 : w4.cell? ⟨W.heap.size, 0, none⟩ = some (.int .i64 kd) := HY.out.cell 0
    have y1 : w4.cell? ⟨W.heap.size, 1, none⟩ = some (.int .i64 base) := HY.out.cell 1
    have y2 : w4.cell? ⟨W.heap.size, 2, none⟩ = some (.int .i64 bk) := HY.out.cell 2
    have y3 : w4.cell? ⟨W.heap.size, 3, none⟩ = some (.int .i64 cap) := HY.out.cell 3
    have e0 : w4.cell? ⟨W.heap.size + 1, 0, none⟩ = some (.int .i64 c) := H1.out.cell 0
    have e1 : w4.cell? ⟨W.heap.size + 1, 1, none⟩ = some (.int .u64 k) := H1.out.cell 1
    have e2 : w4.cell? ⟨W.heap.size + 1, 2, none⟩ = some (.int .u64 v) := H1.out.cell 2
    go_wp2_with fail
    refine (Code_no _ kd c base bk cap k v HU.out HF.out).mono ?_
    rintro e w5 ⟨rfl, hx⟩
    replace HY := Lib.hid (hx.blk HY.out (by simp))
    replace H1 := Lib.hid (hx.blk H1.out (by simp))
    replace HC := Lib.hid (HC.out.trans hx)
    clear hx
    clear y0 y1 y2 y3 e0 e1 e2
    have y0 : w5.cell? ⟨W.heap.size, 0, none⟩ = some (.int .i64 kd) := HY.out.cell 0
    have y1 : w5.cell? ⟨W.heap.size, 1, none⟩ = some (.int .i64 base) := HY.out.cell 1
    have y2 : w5.cell? ⟨W.heap.size, 2, none⟩ = some (.int .i64 bk) := HY.out.cell 2
    have y3 : w5.cell? ⟨W.heap.size, 3, none⟩ = some (.int .i64 cap) := HY.out.cell 3
    have e0 : w5.cell? ⟨W.heap.size + 1, 0, none⟩ = some (.int .i64 c) := H1.out.cell 0
    have e1 : w5.cell? ⟨W.heap.size + 1, 1, none⟩ = some (.int .u64 k) := H1.out.cell 1
    have e2 : w5.cell? ⟨W.heap.size + 1, 2, none⟩ = some (.int .u64 v) := H1.out.cell 2
    go_wp2_with fail
    refine wp_loop_rounds 1 ?_
    rw [rounds_succ]
    clear y0 y1 y2 y3 e0 e1 e2
    have hz5 : W.heap.size + 1 < w5.heap.size := H1.out.lt
    go_wp2_with (first
      | (at_builtin; refine wpList_append_own_at _ rfl (.tmp 78) (.tmp 80) 23 rfl (w5.heap.size) 25 i0 (.agg #[.int .i64 0, .int .i64 0, .int .i64 0, .int .i64 0, .int .i64 0]) 5 40 Try.underlying23 hi hz0 hz1 hz2 rfl (by decide) _ _ _ rfl (World.ownsRow_nil _ _ _ _) ⟨w5.heap.size, 0, none⟩ 1 1 [.int .i64 0, .int .i64 0, .int .i64 0, .int .i64 0, .int .i64 0] rfl rfl (cells_at (by simp) [.int .i64 0, .int .i64 0, .int .i64 0, .int .i64 0, .int .i64 0] _) (by simp [Value.oneCell']) (by unfold maxLen; omega) (by omega) (by first | omega | (simp; omega) | simp) ?_; intro va2 wa2 hown1 hgrow1 _ hblk1; have hsz2 := hgrow1.size; have HO2 := Lib.hid hown1; have HG2 := Lib.hid hgrow1; have HB2 := Lib.hid hblk1; clear hown1 hgrow1 hblk1; have hxx : Chg [] _ wa2 := Chg.of_grown HG2.out; replace HY := Lib.hid (hxx.blk (HY.out.alloc _) (by simp)); replace H1 := Lib.hid (hxx.blk (H1.out.alloc _) (by simp)); replace HC := Lib.hid ((HC.out.alloc _).trans hxx); clear hxx; have y0 : wa2.cell? ⟨W.heap.size, 0, none⟩ = some (.int .i64 kd) := HY.out.cell 0; have y1 : wa2.cell? ⟨W.heap.size, 1, none⟩ = some (.int .i64 base) := HY.out.cell 1; have y2 : wa2.cell? ⟨W.heap.size, 2, none⟩ = some (.int .i64 bk) := HY.out.cell 2; have y3 : wa2.cell? ⟨W.heap.size, 3, none⟩ = some (.int .i64 cap) := HY.out.cell 3; have e0 : wa2.cell? ⟨W.heap.size + 1, 0, none⟩ = some (.int .i64 c) := H1.out.cell 0; have e1 : wa2.cell? ⟨W.heap.size + 1, 1, none⟩ = some (.int .u64 k) := H1.out.cell 1; have e2 : wa2.cell? ⟨W.heap.size + 1, 2, none⟩ = some (.int .u64 v) := H1.out.cell 2)
      | fail)
    refine (Code_no _ kd c base bk cap k v HU.out HF.out).mono ?_
    rintro e w8 ⟨rfl, hx⟩
    replace HC := Lib.hid (HC.out.trans hx)
    obtain ⟨ga2, ca2, rfl, hga3, hga4, hca3, hca4⟩ := ownsRow_posC HO2.out (by omega)
    clear hx y0 y1 y2 y3 e0 e1 e2
    go_wp2_with fail
    refine wp_loop_rounds 1 ?_
    rw [rounds_succ]
    go_wp2_with fail
    go_ret
    exact ⟨rfl, HC.out.nil_below⟩
  · have HF := Lib.hid hf
    clear hf
    have HUs := Lib.hid (useL_of (codeL_use kd c base bk cap k v HU.out))
    go_wp2_with fail
    refine (Code_yes _ kd c base bk cap k v HU.out hk0 hk1 hv0 hv1 HF.out).mono ?_
    rintro e w4 ⟨va, rfl, hra, hx⟩
    obtain ⟨ga, ca, rfl, hga, hga2, hca, hcb⟩ := ownsRow_posC hra HUs.out.2.1
    have HA := Lib.hid hra
    clear hra
    replace HY := Lib.hid (hx.blk HY.out (by simp))
    replace H1 := Lib.hid (hx.blk H1.out (by simp))
    replace HC := Lib.hid (HC.out.trans hx)
    clear hx
    clear y0 y1 y2 y3 e0 e1 e2
    have y0 : w4.cell? ⟨W.heap.size, 0, none⟩ = some (.int .i64 kd) := HY.out.cell 0
    have y1 : w4.cell? ⟨W.heap.size, 1, none⟩ = some (.int .i64 base) := HY.out.cell 1
    have y2 : w4.cell? ⟨W.heap.size, 2, none⟩ = some (.int .i64 bk) := HY.out.cell 2
    have y3 : w4.cell? ⟨W.heap.size, 3, none⟩ = some (.int .i64 cap) := HY.out.cell 3
    have e0 : w4.cell? ⟨W.heap.size + 1, 0, none⟩ = some (.int .i64 c) := H1.out.cell 0
    have e1 : w4.cell? ⟨W.heap.size + 1, 1, none⟩ = some (.int .u64 k) := H1.out.cell 1
    have e2 : w4.cell? ⟨W.heap.size + 1, 2, none⟩ = some (.int .u64 v) := H1.out.cell 2
    go_wp2_with fail
    refine (Code_yes _ kd c base bk cap k v HU.out hk0 hk1 hv0 hv1 HF.out).mono ?_
    rintro e w5 ⟨vb, rfl, hrb, hx⟩
    obtain ⟨gb, cb, rfl, hgb, hgb2, hcb1, hcb2⟩ := ownsRow_posC hrb HUs.out.2.1
    have HB := Lib.hid hrb
    clear hrb
    replace HY := Lib.hid (hx.blk HY.out (by simp))
    replace H1 := Lib.hid (hx.blk H1.out (by simp))
    replace HC := Lib.hid (HC.out.trans hx)
    replace HA := Lib.hid (ownsRow_chg HA.out hx (by simp))
    clear hx
    clear y0 y1 y2 y3 e0 e1 e2
    have y0 : w5.cell? ⟨W.heap.size, 0, none⟩ = some (.int .i64 kd) := HY.out.cell 0
    have y1 : w5.cell? ⟨W.heap.size, 1, none⟩ = some (.int .i64 base) := HY.out.cell 1
    have y2 : w5.cell? ⟨W.heap.size, 2, none⟩ = some (.int .i64 bk) := HY.out.cell 2
    have y3 : w5.cell? ⟨W.heap.size, 3, none⟩ = some (.int .i64 cap) := HY.out.cell 3
    have e0 : w5.cell? ⟨W.heap.size + 1, 0, none⟩ = some (.int .i64 c) := H1.out.cell 0
    have e1 : w5.cell? ⟨W.heap.size + 1, 1, none⟩ = some (.int .u64 k) := H1.out.cell 1
    have e2 : w5.cell? ⟨W.heap.size + 1, 2, none⟩ = some (.int .u64 v) := H1.out.cell 2
    have hab : Hid (ga ≠ gb) := Lib.hid (by omega)
    have hs3 : W.heap.size + 1 < w3.heap.size := H3S.out
    have HCode := Lib.hid (fun w => Code_yes w kd c base bk cap k v HU.out hk0 hk1 hv0 hv1 HF.out)
    generalize codeL kd c base bk cap k v = L at *
    have hll : L.length ≤ 128 := HUs.out.1
    have hl0 : 0 < L.length := HUs.out.2.1
    have hn0 : (L.length == 0) = false := by rw [beq_eq_false_iff_ne]; omega
    have hn1 : ((L.length : Int) == 0) = false := by rw [beq_eq_false_iff_ne]; omega
    have hli : (L.length : Int) ≤ 128 := by omega
    go_wp2_with fail
    go_loopw [61] (fun s wr => SaRel W W.heap.size w3.heap.size w4.heap.size (.slice (some ⟨ga, 0, none⟩) L.length ca) (.slice (some ⟨gb, 0, none⟩) L.length cb) kd base bk cap c k v L s wr) (fun s _ => L.length - (intOf s).toNat)
    case atStart => exact ⟨0, L, Nat.zero_le _, rfl, rfl, fun _ _ => rfl, HA.out, HB.out, HY.out, H1.out, HC.out⟩
    case round =>
      clear HA HB HY H1 HC y0 y1 y2 y3 e0 e1 e2
      obtain ⟨j, La, hj, rfl, hLa, hpre, hA, hB, hY, h1, hC⟩ := hrel
      by_cases hlt : j < L.length
      · have HPre := Lib.hid hpre
        have hlj : La[j]? = some L[j] := (hpre j (Nat.le_refl _)).trans (List.getElem?_eq_getElem hlt)
        have hja : ∀ q, q < 5 → wr.cell? ⟨ga, j * 5 + q, none⟩ = (encI L[j])[q]? := fun q hq => by
          have hjl : j < La.length := by omega
          have he : La[j] = L[j] := by rw [List.getElem?_eq_getElem hjl] at hlj; simpa using hlj
          rw [hA.cellAt _ (by omega), flat_get encI_len La j hjl q hq, he]
        have hjb : ∀ q, q < 5 → wr.cell? ⟨gb, j * 5 + q, none⟩ = (encI L[j])[q]? := fun q hq => by
          rw [hB.cellAt _ (by omega), flat_get encI_len L j hlt q hq]
        have c0 : wr.cell? ⟨ga, j * 5, none⟩ = some (.int .i64 L[j].op) := hja 0 (by decide)
        have c1 : wr.cell? ⟨ga, j * 5 + 1, none⟩ = some (.int .i64 L[j].a) := hja 1 (by decide)
        have c2 : wr.cell? ⟨ga, j * 5 + 2, none⟩ = some (.int .i64 L[j].b) := hja 2 (by decide)
        have c3 : wr.cell? ⟨ga, j * 5 + 3, none⟩ = some (.int .i64 L[j].c) := hja 3 (by decide)
        have c4 : wr.cell? ⟨ga, j * 5 + 4, none⟩ = some (.int .i64 L[j].imm) := hja 4 (by decide)
        have d0 : wr.cell? ⟨gb, j * 5, none⟩ = some (.int .i64 L[j].op) := hjb 0 (by decide)
        have d1 : wr.cell? ⟨gb, j * 5 + 1, none⟩ = some (.int .i64 L[j].a) := hjb 1 (by decide)
        have d2 : wr.cell? ⟨gb, j * 5 + 2, none⟩ = some (.int .i64 L[j].b) := hjb 2 (by decide)
        have d3 : wr.cell? ⟨gb, j * 5 + 3, none⟩ = some (.int .i64 L[j].c) := hjb 3 (by decide)
        have d4 : wr.cell? ⟨gb, j * 5 + 4, none⟩ = some (.int .i64 L[j].imm) := hjb 4 (by decide)
        have f0 : wr.frozen? ⟨ga, j * 5, none⟩ = false := hA.frozenAt _
        have HA := Lib.hid hA
        have HB := Lib.hid hB
        have HY := Lib.hid hY
        have H1 := Lib.hid h1
        have HC := Lib.hid hC
        clear hja hjb hA hB hY h1 hC hpre hlj
        generalize L[j].op = x0 at *
        generalize L[j].a = x1 at *
        generalize L[j].b = x2 at *
        generalize L[j].c = x3 at *
        generalize L[j].imm = x4 at *
        go_wp2_with fail
        go_quiet (fail)
        go_wp2_with fail
        go_roundw
        case rel =>
          have hset : ∀ q, Chg [ga] wr ((wr.drewN q).setCell ⟨ga, j * 5, none⟩ (.int .i64 0)) := fun q => ((Chg.refl [ga] wr).drewN q).setCell (p := ⟨ga, _, none⟩) (by simp) _
          refine ⟨j + 1, setOp La j, by omega, by go_num, by rw [setOp_len]; exact hLa, fun i hi => by rw [setOp_get _ _ _ (by omega)]; exact HPre.out i (by omega), ?_, ownsRow_chg HB.out (hset _) (by simpa [Value.ownBlock] using Ne.symm hab.out), (hset _).blk HY.out (by simp; omega), (hset _).blk H1.out (by simp; omega), HC.out.trans' (hset _) (fun x hx hl => by simp at hx; omega)⟩
          have hq : ∀ q, ((wr.drewN q).setCell ⟨ga, j * 5, none⟩ (.int .i64 0)).ownsRow w3.heap.size 25 5 (.slice (some ⟨ga, 0, none⟩) L.length ca) L.length ((setOp La j).flatMap encI) := fun q => by
            have h := (ownsRow_chg HA.out ((Chg.refl [] wr).drewN q) (by simp)).stored (j * 5) (.int .i64 0)
            rw [setOp_cells] at h
            exact h.1
          exact hq _
        case measure => simp [intOf]; omega
      · obtain rfl : j = L.length := by omega
        have HA := Lib.hid hA
        have HB := Lib.hid hB
        have HY := Lib.hid hY
        have H1 := Lib.hid h1
        have HC := Lib.hid hC
        have hsz := hC.size
        have hgr := (hA.lt ga (by simp [Value.ownBlock])).2
        have hw3 : w3.heap.size ≤ wr.heap.size := by omega
        have hlt5 : W.heap.size + 1 < wr.heap.size := h1.lt
        clear hA hB hY h1 hC hpre
        generalize La.flatMap encI = cellsA at *
        go_upto_region 17 with (first
          | (at_builtin; refine wpList_append_own_at _ rfl (.tmp 78) (.tmp 80) 23 rfl (w3.heap.size) 25 i0 (.agg #[.int .i64 0, .int .i64 0, .int .i64 0, .int .i64 0, .int .i64 0]) 5 40 Try.underlying23 hi hz0 hz1 hz2 rfl (by decide) _ _ _ rfl (HA.out.alloc _) ⟨wr.heap.size, 0, none⟩ 1 1 [.int .i64 0, .int .i64 0, .int .i64 0, .int .i64 0, .int .i64 0] rfl rfl (cells_at (by simp) [.int .i64 0, .int .i64 0, .int .i64 0, .int .i64 0, .int .i64 0] _) (by simp [Value.oneCell']) (by unfold maxLen; omega) (by omega) (by first | omega | (simp; omega) | simp) ?_; intro va2 wa2 hown1 hgrow1 _ hblk1; have hsz2 := hgrow1.size; have HO2 := Lib.hid hown1; have HG2 := Lib.hid hgrow1; have HB2 := Lib.hid hblk1; clear hown1 hgrow1 hblk1)
          | fail)
        have hgr2 : World.grownBy _ wa2 (some ga) := HG2.out
        have hxx : Chg [ga] _ wa2 := Chg.of_grown hgr2
        clear hgr2
        replace HY := Lib.hid (hxx.blk (HY.out.alloc _) (fun hm => by simp at hm; omega))
        replace H1 := Lib.hid (hxx.blk (H1.out.alloc _) (fun hm => by simp at hm; omega))
        replace HB := Lib.hid (ownsRow_chg (HB.out.alloc _) hxx (by simpa [Value.ownBlock] using Ne.symm hab.out))
        replace HC := Lib.hid ((HC.out.alloc _).trans' hxx (fun x hx hl => by simp at hx; omega))
        clear hxx
        have y0 : wa2.cell? ⟨W.heap.size, 0, none⟩ = some (.int .i64 kd) := HY.out.cell 0
        have y1 : wa2.cell? ⟨W.heap.size, 1, none⟩ = some (.int .i64 base) := HY.out.cell 1
        have y2 : wa2.cell? ⟨W.heap.size, 2, none⟩ = some (.int .i64 bk) := HY.out.cell 2
        have y3 : wa2.cell? ⟨W.heap.size, 3, none⟩ = some (.int .i64 cap) := HY.out.cell 3
        have e0 : wa2.cell? ⟨W.heap.size + 1, 0, none⟩ = some (.int .i64 c) := H1.out.cell 0
        have e1 : wa2.cell? ⟨W.heap.size + 1, 1, none⟩ = some (.int .u64 k) := H1.out.cell 1
        have e2 : wa2.cell? ⟨W.heap.size + 1, 2, none⟩ = some (.int .u64 v) := H1.out.cell 2
        go_wp2_with fail
        refine (HCode.out _).mono ?_
        rintro e w8 ⟨vd, rfl, hrd, hx⟩
        obtain ⟨gd, cd, rfl, hgd, hgd2, hcd1, hcd2⟩ := ownsRow_posC hrd hl0
        obtain ⟨ga2, ca2, rfl, hga3, hga4, hca3, hca4⟩ := ownsRow_posC HO2.out (by omega)
        have HD := Lib.hid hrd
        replace HB := Lib.hid (ownsRow_chg HB.out hx (by simp))
        replace HC := Lib.hid (HC.out.trans hx)
        clear hrd hx y0 y1 y2 y3 e0 e1 e2
        have HUse := Lib.hid HUs.out.2.2
        go_wp2_with fail
        go_loopw [95] (fun s wz => SdRel w8 w4.heap.size wa2.heap.size (.slice (some ⟨gb, 0, none⟩) L.length cb) (.slice (some ⟨gd, 0, none⟩) L.length cd) L s wz) (fun s _ => L.length - (intOf s).toNat)
        case atStart => exact ⟨0, 0, Nat.zero_le _, rfl, rfl, HB.out, HD.out⟩
        case round =>
          clear HB HD
          obtain ⟨j, q, hj, rfl, rfl, hB, hD⟩ := hrel
          by_cases hlt : j < L.length
          · have hjb : ∀ r, r < 5 → (w8.drewN q).cell? ⟨gb, j * 5 + r, none⟩ = (encI L[j])[r]? := fun r hr => by
              rw [hB.cellAt _ (by omega), flat_get encI_len L j hlt r hr]
            have hjd : ∀ r, r < 5 → (w8.drewN q).cell? ⟨gd, j * 5 + r, none⟩ = (encI L[j])[r]? := fun r hr => by
              rw [hD.cellAt _ (by omega), flat_get encI_len L j hlt r hr]
            have c0 : w8.cell? ⟨gb, j * 5, none⟩ = some (.int .i64 L[j].op) := hjb 0 (by decide)
            have c1 : w8.cell? ⟨gb, j * 5 + 1, none⟩ = some (.int .i64 L[j].a) := hjb 1 (by decide)
            have c2 : w8.cell? ⟨gb, j * 5 + 2, none⟩ = some (.int .i64 L[j].b) := hjb 2 (by decide)
            have c3 : w8.cell? ⟨gb, j * 5 + 3, none⟩ = some (.int .i64 L[j].c) := hjb 3 (by decide)
            have c4 : w8.cell? ⟨gb, j * 5 + 4, none⟩ = some (.int .i64 L[j].imm) := hjb 4 (by decide)
            have d0 : w8.cell? ⟨gd, j * 5, none⟩ = some (.int .i64 L[j].op) := hjd 0 (by decide)
            have d1 : w8.cell? ⟨gd, j * 5 + 1, none⟩ = some (.int .i64 L[j].a) := hjd 1 (by decide)
            have d2 : w8.cell? ⟨gd, j * 5 + 2, none⟩ = some (.int .i64 L[j].b) := hjd 2 (by decide)
            have d3 : w8.cell? ⟨gd, j * 5 + 3, none⟩ = some (.int .i64 L[j].c) := hjd 3 (by decide)
            have d4 : w8.cell? ⟨gd, j * 5 + 4, none⟩ = some (.int .i64 L[j].imm) := hjd 4 (by decide)
            have ho2 := (HUse.out _ (List.getElem_mem hlt)).legal.o0
            have ho0 : (L[j].op == 0) = false := by rw [beq_eq_false_iff_ne]; omega
            have HB := Lib.hid hB
            have HD := Lib.hid hD
            clear hjb hjd hB hD ho2
            generalize L[j].op = x0 at *
            generalize L[j].a = x1 at *
            generalize L[j].b = x2 at *
            generalize L[j].c = x3 at *
            generalize L[j].imm = x4 at *
            go_wp2_with fail
            go_quiet (fail)
            go_wp2_with fail
            go_roundw
            case rel => exact ⟨j + 1, _, by omega, by go_num, rfl, row_drew HB.out, row_drew HD.out⟩
            case measure => simp [intOf]; omega
          · obtain rfl : j = L.length := by omega
            clear hB hD
            go_wp2_with fail
            go_ret
            exact ⟨rfl, (HC.out.drewN q).nil_below⟩

end Go.Proofs.Ythlhjahhjoclfaa
