/- The law MemPlays. -/
import Derived.Test.YtajgbhfhppendaaRef1b
namespace Go.Proofs.Ytajgbhfhppendaa
open Go.RowKit

theorem ownsRow_pos {W : World} {base : Nat} {e : TypeId} {size : Nat} {v : Value} {k : Nat} {xs : List Value} (h : W.ownsRow base e size v k xs) (hk : 0 < k) : ∃ g cap cur, v = .slice (some ⟨g, 0, none⟩) k cap ∧ base ≤ g ∧ Blk W g cur e ∧ cur.take (k * size) = xs := by
  rcases h.2 with ⟨_, h0⟩ | ⟨g, cap, cur, rfl, hb, hh, _, _, _, ht⟩
  · omega
  · exact ⟨g, cap, cur.toList, rfl, hb, hh, ht⟩

def stepKs : List (Option IntKind) := [some .i64, some .i64, some .u64, some .u64, some .u64, some .u64, some .u64, some .u64, some .u64, some .u64, some .u64]

/-- What the law knows between two steps. -/
structure PlayAt (w wr : World) (bm bl br bw n : Nat) (ws : List Int) : Prop where
  m : MemAt wr bm bl n ws
  r : RefAt wr br bw (8 * n) ws
  hbm : w.heap.size ≤ bm
  hbl : w.heap.size ≤ bl
  hbr : w.heap.size ≤ br
  hbw : w.heap.size ≤ bw
  below : Below w.heap.size w wr

theorem PlayAt.ne1 {w wr : World} {bm bl br bw n : Nat} {ws : List Int} (h : PlayAt w wr bm bl br bw n ws) : br ≠ bl := by
  obtain ⟨_, a⟩ := h.m.l; exact h.r.r.ne a (by decide)
theorem PlayAt.ne2 {w wr : World} {bm bl br bw n : Nat} {ws : List Int} (h : PlayAt w wr bm bl br bw n ws) : bw ≠ bl := by
  obtain ⟨_, a⟩ := h.m.l; exact h.r.l.ne a (by decide)
theorem PlayAt.ne3 {w wr : World} {bm bl br bw n : Nat} {ws : List Int} (h : PlayAt w wr bm bl br bw n ws) : bm ≠ bw := by
  obtain ⟨_, a⟩ := h.m.m; exact a.ne h.r.l (by decide)

set_option maxRecDepth 100000 in
set_option maxHeartbeats 2000000 in
theorem MemPlays_bad (w : World) (A : Option Addr) (cap len : Nat) (n : Int) (hlen : len ≤ 1000) (hn : n < 2 ∨ 64 < n) :
    Calls Try.prog 5 #[.int .i64 n, .slice A len cap] w (StaysPost w) := by
  have hl' : (len : Int) ≤ 1000 := by omega
  go_enter Try.func5, Try.ntmps5
  go_wp2_with fail
  refine (New_bad w n hn).mono ?_
  rintro e w0 ⟨rfl, rfl⟩
  go_wp2_with fail
  refine (rNew_bad w n hn).mono ?_
  rintro e w1 ⟨rfl, hC1⟩
  go_wp2_with fail
  go_ret
  exact ⟨rfl, (hC1.alloc _).nil_below⟩

set_option maxRecDepth 100000 in
set_option maxHeartbeats 2000000 in
theorem MemPlays_long (w : World) (A : Option Addr) (cap len : Nat) (n : Int) (hlen : 1000 < len) :
    Calls Try.prog 5 #[.int .i64 n, .slice A len cap] w (StaysPost w) := by
  have hl' : (1000 : Int) < len := by omega
  go_enter Try.func5, Try.ntmps5
  go_wp2_with fail
  go_ret
  exact ⟨rfl, Below.refl _ _⟩

set_option maxRecDepth 100000 in
set_option maxHeartbeats 4000000 in
theorem MemPlays_good (w : World) (A : Option Addr) (cap : Nat) (xs : List (List Int)) (n : Nat) (h2 : 2 ≤ n) (h64 : n ≤ 64) (hlen : xs.length ≤ 1000)
    (hfl : ∀ ns ∈ xs, ∃ cs, FlatRel stepKs cs ns) (hR : Rd w w.heap.size A 11 (fun ns => List.zipWith leafV stepKs ns) xs) :
    Calls Try.prog 5 #[.int .i64 n, .slice A xs.length cap] w (StaysPost w) := by
  have hl' : (xs.length : Int) ≤ 1000 := by omega
  go_enter Try.func5, Try.ntmps5
  go_wp2_with fail
  refine (New_ok w n h2 h64).mono ?_
  rintro e w1 ⟨rfl, hM1, hC1, hs1⟩
  go_wp2_with fail
  refine (rNew_ok w1 n h2 h64).mono ?_
  rintro e w2 ⟨bw, rfl, hbw, hC2, hsw⟩
  have hM2 := hM1.chg hC2 (by simp) (by simp)
  have hB2 := hC1.nil_below.trans (hC2.nil_below.mono hC1.size)
  have hbw1 := hbw.alloc (.cells #[.slice (some ⟨bw, 0, none⟩) (8 * n) (8 * n)] 44)
  have hP : PlayAt w (w2.alloc (.cells #[.slice (some ⟨bw, 0, none⟩) (8 * n) (8 * n)] 44)) (w.heap.size + 1) w.heap.size w2.heap.size bw n (List.replicate (8 * n) 0) :=
    ⟨hM2.alloc _, ⟨Blk.new w2 _ _, hbw1, by simp, by omega⟩, by omega, by omega, hB2.size, by have := hC1.size; omega, hB2.alloc hB2.size _⟩
  generalize List.replicate (8 * n) (0 : Int) = ws0 at hP
  clear hbw1 hM2 hbw hM1
  have hs2 := hB2.size
  obtain ⟨br, hbr⟩ : ∃ br, br = w2.heap.size := ⟨_, rfl⟩
  rw [← hbr] at hP
  clear hB2 hC1 hC2 hs1 hsw hs2
  go_wp2_with fail
  rw [← hbr]
  generalize w2.alloc (.cells #[.slice (some ⟨bw, 0, none⟩) (8 * n) (8 * n)] 44) = wS at hP ⊢
  clear hbr
  go_loopw [5, 9] (fun p i wr => ∃ k : Nat, k ≤ xs.length ∧ i = .int .i64 k ∧ ∃ bm bl ws, p = .pointer (some ⟨bm, 0, none⟩) ∧ PlayAt w wr bm bl br bw n ws) (fun _ i _ => xs.length - (intOf i).toNat)
  case atStart => exact ⟨0, Nat.zero_le _, rfl, _, _, _, rfl, hP⟩
  case round =>
    clear hP
    obtain ⟨k, hk, rfl, bm, bl, ws, rfl, hP⟩ := hrel
    have hszr := hP.below.size
    by_cases hlt : k < xs.length
    · obtain ⟨b, off, rfl, hb, hc⟩ := hR.below hP.below (by omega)
      obtain ⟨cs, hr⟩ := hfl _ (List.getElem_mem hlt)
      have hc := hc k hlt
      obtain ⟨ns, hns⟩ : ∃ ns, ns = xs[k] := ⟨_, rfl⟩
      rw [← hns] at hr hc
      clear hns
      obtain ⟨a0, ns, rfl, ha0, cs, hr⟩ := hr.cons_inv
      obtain ⟨a1, ns, rfl, ha1, cs, hr⟩ := hr.cons_inv
      obtain ⟨a2, ns, rfl, ha2, cs, hr⟩ := hr.cons_inv
      obtain ⟨a3, ns, rfl, ha3, cs, hr⟩ := hr.cons_inv
      obtain ⟨a4, ns, rfl, ha4, cs, hr⟩ := hr.cons_inv
      obtain ⟨a5, ns, rfl, ha5, cs, hr⟩ := hr.cons_inv
      obtain ⟨a6, ns, rfl, ha6, cs, hr⟩ := hr.cons_inv
      obtain ⟨a7, ns, rfl, ha7, cs, hr⟩ := hr.cons_inv
      obtain ⟨a8, ns, rfl, ha8, cs, hr⟩ := hr.cons_inv
      obtain ⟨a9, ns, rfl, ha9, cs, hr⟩ := hr.cons_inv
      obtain ⟨a10, ns, rfl, ha10, cs, hr⟩ := hr.cons_inv
      obtain rfl := hr.nil_inv
      have c0 : wr.cell? ⟨b, off + k * 11, none⟩ = some (.int .i64 a0) := hc 0 (by decide)
      have c1 : wr.cell? ⟨b, off + k * 11 + 1, none⟩ = some (.int .i64 a1) := hc 1 (by decide)
      have c2 : wr.cell? ⟨b, off + k * 11 + 2, none⟩ = some (.int .u64 a2) := hc 2 (by decide)
      have c3 : wr.cell? ⟨b, off + k * 11 + 3, none⟩ = some (.int .u64 a3) := hc 3 (by decide)
      have c4 : wr.cell? ⟨b, off + k * 11 + 4, none⟩ = some (.int .u64 a4) := hc 4 (by decide)
      have c5 : wr.cell? ⟨b, off + k * 11 + 5, none⟩ = some (.int .u64 a5) := hc 5 (by decide)
      have c6 : wr.cell? ⟨b, off + k * 11 + 6, none⟩ = some (.int .u64 a6) := hc 6 (by decide)
      have c7 : wr.cell? ⟨b, off + k * 11 + 7, none⟩ = some (.int .u64 a7) := hc 7 (by decide)
      have c8 : wr.cell? ⟨b, off + k * 11 + 8, none⟩ = some (.int .u64 a8) := hc 8 (by decide)
      have c9 : wr.cell? ⟨b, off + k * 11 + 9, none⟩ = some (.int .u64 a9) := hc 9 (by decide)
      have c10 : wr.cell? ⟨b, off + k * 11 + 10, none⟩ = some (.int .u64 a10) := hc 10 (by decide)
      clear hc hr
      obtain ⟨hn1, hn2⟩ := i64ok_of ha1
      have hbx := Blk.new wr [.int .i64 a0, .int .i64 a1, .int .u64 a2, .int .u64 a3, .int .u64 a4, .int .u64 a5, .int .u64 a6, .int .u64 a7, .int .u64 a8, .int .u64 a9, .int .u64 a10] 48
      have hBa := hP.below.alloc hP.below.size (.cells #[.int .i64 a0, .int .i64 a1, .int .u64 a2, .int .u64 a3, .int .u64 a4, .int .u64 a5, .int .u64 a6, .int .u64 a7, .int .u64 a8, .int .u64 a9, .int .u64 a10] 48)
      have hMa := hP.m.alloc (.cells #[.int .i64 a0, .int .i64 a1, .int .u64 a2, .int .u64 a3, .int .u64 a4, .int .u64 a5, .int .u64 a6, .int .u64 a7, .int .u64 a8, .int .u64 a9, .int .u64 a10] 48)
      have hRa := hP.r.alloc (.cells #[.int .i64 a0, .int .i64 a1, .int .u64 a2, .int .u64 a3, .int .u64 a4, .int .u64 a5, .int .u64 a6, .int .u64 a7, .int .u64 a8, .int .u64 a9, .int .u64 a10] 48)
      have hlm := hP.m.mlt
      have hll := hP.m.llt
      have hlr := hP.r.r.lt
      have hlw := hP.r.l.lt
      have hx1 := hP.ne1
      have hx2 := hP.ne2
      have hx3 := hP.ne3
      have hx0 := hP.m.ne
      have hx4 := hP.hbl
      have hx5 := hP.hbw
      by_cases k0 : a0 = 0
      · subst k0
        go_wp2_with fail
        refine (Set_any _ bm bl n ws a1 a3 a4 a5 a6 a7 a8 a9 a10 hMa).mono ?_
        rintro e w3 ⟨rfl, hM3, hC3⟩
        have hbx := hC3.blk hbx (by simp; omega)
        have hR3 := hRa.chg hC3 (by simpa using hx1) (by simpa using hx2)
        have hB3 := below_chg hBa hC3 (by simpa using hx4) (Nat.le_refl _)
        have hcx := hbx.cell
        clear c0 c1 c2 c3 c4 c5 c6 c7 c8 c9 c10 hBa hMa hRa
        have q0 := hcx 0
        have q1 := hcx 1
        have q2 := hcx 2
        have q3 := hcx 3
        have q4 := hcx 4
        have q5 := hcx 5
        have q6 := hcx 6
        have q7 := hcx 7
        have q8 := hcx 8
        have q9 := hcx 9
        have q10 := hcx 10
        simp only [List.getElem?_cons_succ, List.getElem?_cons_zero] at q0 q1 q2 q3 q4 q5 q6 q7 q8 q9 q10
        clear hcx
        go_wp2_with fail
        refine (rSet_any _ br bw n ws a1 a3 a4 a5 a6 a7 a8 a9 a10 hR3).mono ?_
        rintro e w4 ⟨rfl, hR4, hC4⟩
        have hM4 := hM3.chg hC4 (by simpa using hx3) (by simpa using fun e => hx2 e.symm)
        have hB4 := below_chg hB3 hC4 (by simpa using hx5) (Nat.le_refl _)
        clear q0 q1 q2 q3 q4 q5 q6 q7 q8 q9 q10
        go_wp2_with fail
        go_roundw
        case rel => exact ⟨k + 1, by omega, by go_num, bm, bl, _, rfl, ⟨hM4, hR4, hP.hbm, hP.hbl, hP.hbr, hP.hbw, hB4⟩⟩
        case measure => simp [intOf]; omega
      · have k0' : (a0 == 0) = false := by simpa using k0
        by_cases k1 : a0 = 1
        · subst k1
          clear k0 k0'
          go_wp2_with fail
          refine (Put_any _ bm bl n ws a1 a2 hn1 hn2 hMa).mono ?_
          rintro e w3 ⟨rfl, hM3, hC3⟩
          have hbx := hC3.blk hbx (by simp; omega)
          have hR3 := hRa.chg hC3 (by simpa using hx1) (by simpa using hx2)
          have hB3 := below_chg hBa hC3 (by simpa using hx4) (Nat.le_refl _)
          have hcx := hbx.cell
          clear c0 c1 c2 c3 c4 c5 c6 c7 c8 c9 c10
          have q0 := hcx 0
          have q1 := hcx 1
          have q2 := hcx 2
          have q3 := hcx 3
          have q4 := hcx 4
          have q5 := hcx 5
          have q6 := hcx 6
          have q7 := hcx 7
          have q8 := hcx 8
          have q9 := hcx 9
          have q10 := hcx 10
          simp only [List.getElem?_cons_succ, List.getElem?_cons_zero] at q0 q1 q2 q3 q4 q5 q6 q7 q8 q9 q10
          clear hcx
          go_wp2_with fail
          refine (rPut_any _ br bw (8 * n) ws a1 a2 hR3).mono ?_
          rintro e w4 ⟨rfl, hR4, hC4⟩
          have hM4 := hM3.chg hC4 (by simpa using hx3) (by simpa using fun e => hx2 e.symm)
          have hB4 := below_chg hB3 hC4 (by simpa using hx5) (Nat.le_refl _)
          clear q0 q1 q2 q3 q4 q5 q6 q7 q8 q9 q10
          go_wp2_with fail
          go_roundw
          case rel => exact ⟨k + 1, by omega, by go_num, bm, bl, _, rfl, ⟨hM4, hR4, hP.hbm, hP.hbl, hP.hbr, hP.hbw, hB4⟩⟩
          case measure => simp [intOf]; omega
        · have k1' : (a0 == 1) = false := by simpa using k1
          by_cases k2 : a0 = 2
          · subst k2
            clear k0 k0' k1 k1'
            go_wp2_with fail
            refine (Line_any _ bm bl n ws a1 hMa).mono ?_
            rintro e w3 ⟨rfl, hC3⟩
            have hbx := hC3.blk hbx (by simp)
            have hM3 := hMa.chg hC3 (by simp) (by simp)
            have hR3 := hRa.chg hC3 (by simp) (by simp)
            have hB3 := below_chg hBa hC3 (by simp) (Nat.le_refl _)
            obtain ⟨y0, y1, y2, y3, y4, y5, y6, y7, hy⟩ : ∃ y0 y1 y2 y3 y4 y5 y6 y7, memLine n ws a1 = [y0, y1, y2, y3, y4, y5, y6, y7] := by
              simp only [memLine]; split
              · exact ⟨_, _, _, _, _, _, _, _, rfl⟩
              · exact ⟨_, _, _, _, _, _, _, _, rfl⟩
            rw [hy]
            simp only [u64s, List.map_cons, List.map_nil]
            have HY := Lib.hid hy
            clear hy
            have hcx := hbx.cell
            have hl1 := hbx.lt
            clear c0 c1 c2 c3 c4 c5 c6 c7 c8 c9 c10
            have q0 := hcx 0
            have q1 := hcx 1
            have q2 := hcx 2
            have q3 := hcx 3
            have q4 := hcx 4
            have q5 := hcx 5
            have q6 := hcx 6
            have q7 := hcx 7
            have q8 := hcx 8
            have q9 := hcx 9
            have q10 := hcx 10
            simp only [List.getElem?_cons_succ, List.getElem?_cons_zero] at q0 q1 q2 q3 q4 q5 q6 q7 q8 q9 q10
            clear hcx
            go_wp2_with fail
            have hby := Blk.new w3 [.int .u64 y0, .int .u64 y1, .int .u64 y2, .int .u64 y3, .int .u64 y4, .int .u64 y5, .int .u64 y6, .int .u64 y7] 36
            refine (rLine_any _ br bw n ws a1 (hR3.alloc _)).mono ?_
            rintro e w4 ⟨rfl, hC4⟩
            have hby4 := hC4.blk hby (by simp)
            have hM4 := (hM3.alloc (.cells #[.int .u64 y0, .int .u64 y1, .int .u64 y2, .int .u64 y3, .int .u64 y4, .int .u64 y5, .int .u64 y6, .int .u64 y7] 36)).chg hC4 (by simp) (by simp)
            have hR4 := (hR3.alloc (.cells #[.int .u64 y0, .int .u64 y1, .int .u64 y2, .int .u64 y3, .int .u64 y4, .int .u64 y5, .int .u64 y6, .int .u64 y7] 36)).chg hC4 (by simp) (by simp)
            have hB4 := below_chg (hB3.alloc hB3.size (.cells #[.int .u64 y0, .int .u64 y1, .int .u64 y2, .int .u64 y3, .int .u64 y4, .int .u64 y5, .int .u64 y6, .int .u64 y7] 36)) hC4 (by simp) (Nat.le_refl _)
            rw [HY.out]
            simp only [u64s, List.map_cons, List.map_nil]
            have hcx := hby4.cell
            have hl4 := hby4.lt
            clear q0 q1 q2 q3 q4 q5 q6 q7 q8 q9 q10
            have q0 := hcx 0
            have q1 := hcx 1
            have q2 := hcx 2
            have q3 := hcx 3
            have q4 := hcx 4
            have q5 := hcx 5
            have q6 := hcx 6
            have q7 := hcx 7
            simp only [List.getElem?_cons_succ, List.getElem?_cons_zero] at q0 q1 q2 q3 q4 q5 q6 q7
            clear hcx
            have hq := eq_line
            have hs := eqInts_self [y0, y1, y2, y3, y4, y5, y6, y7]
            go_wp2_with fail
            go_roundw
            case rel => exact ⟨k + 1, by omega, by go_num, bm, bl, _, rfl, ⟨hM4.alloc _, hR4.alloc _, hP.hbm, hP.hbl, hP.hbr, hP.hbw, hB4.alloc hB4.size _⟩⟩
            case measure => simp [intOf]; omega
          · have k2' : (a0 == 2) = false := by simpa using k2
            by_cases k3 : a0 = 3
            · subst k3
              clear k0 k0' k1 k1' k2 k2'
              go_wp2_with fail
              refine (Word_any _ bm bl n ws a1 hn1 hn2 hMa).mono ?_
              rintro e w3 ⟨rfl, rfl⟩
              go_wp2_with fail
              refine (rWord_any _ br bw (8 * n) ws a1 hRa).mono ?_
              rintro e w3 ⟨rfl, rfl⟩
              go_wp2_with fail
              go_roundw
              case rel => exact ⟨k + 1, by omega, by go_num, bm, bl, _, rfl, ⟨hMa, hRa, hP.hbm, hP.hbl, hP.hbr, hP.hbw, hBa⟩⟩
              case measure => simp [intOf]; omega
            · have k3' : (a0 == 3) = false := by simpa using k3
              by_cases k4 : a0 = 4
              · subst k4
                clear k0 k0' k1 k1' k2 k2' k3 k3'
                go_wp2_with fail
                refine (Copy_any bm bl n ws _ hMa (by omega)).mono ?_
                rintro e w3 ⟨bm2, bl2, rfl, hMn, hC3, hge1, hge2⟩
                simp only [World.size_alloc] at hge1 hge2
                have hbx := hC3.blk hbx (by simp)
                have hM3 := hMa.chg hC3 (by simp) (by simp)
                have hR3 := hRa.chg hC3 (by simp) (by simp)
                have hB3 := below_chg hBa hC3 (by simp) (Nat.le_refl _)
                have hcx := hbx.cell
                clear c0 c1 c2 c3 c4 c5 c6 c7 c8 c9 c10
                have q0 := hcx 0
                have q1 := hcx 1
                have q2 := hcx 2
                have q3 := hcx 3
                have q4 := hcx 4
                have q5 := hcx 5
                have q6 := hcx 6
                have q7 := hcx 7
                have q8 := hcx 8
                have q9 := hcx 9
                have q10 := hcx 10
                simp only [List.getElem?_cons_succ, List.getElem?_cons_zero] at q0 q1 q2 q3 q4 q5 q6 q7 q8 q9 q10
                clear hcx
                go_wp2_with fail
                refine (Put_any _ bm bl n ws a1 _ hn1 hn2 hM3).mono ?_
                rintro e w4 ⟨rfl, hM4, hC4⟩
                have hbx := hC4.blk hbx (by simp; omega)
                have hMn4 := hMn.chg hC4 (by simp; omega) (by simp; omega)
                have hR4 := hR3.chg hC4 (by simpa using hx1) (by simpa using hx2)
                have hB4 := below_chg hB3 hC4 (by simpa using hx4) (Nat.le_refl _)
                have hcx := hbx.cell
                clear q0 q1 q2 q3 q4 q5 q6 q7 q8 q9 q10
                have q0 := hcx 0
                have q1 := hcx 1
                have q2 := hcx 2
                have q3 := hcx 3
                have q4 := hcx 4
                have q5 := hcx 5
                have q6 := hcx 6
                have q7 := hcx 7
                have q8 := hcx 8
                have q9 := hcx 9
                have q10 := hcx 10
                simp only [List.getElem?_cons_succ, List.getElem?_cons_zero] at q0 q1 q2 q3 q4 q5 q6 q7 q8 q9 q10
                clear hcx
                go_wp2_with fail
                refine (Set_any _ bm bl n _ 0 a3 a4 a5 a6 a7 a8 a9 a10 hM4).mono ?_
                rintro e w5 ⟨rfl, hM5, hC5⟩
                have hMn5 := hMn4.chg hC5 (by simp; omega) (by simp; omega)
                have hR5 := hR4.chg hC5 (by simpa using hx1) (by simpa using hx2)
                have hB5 := below_chg hB4 hC5 (by simpa using hx4) (Nat.le_refl _)
                clear q0 q1 q2 q3 q4 q5 q6 q7 q8 q9 q10
                go_wp2_with fail
                go_roundw
                case rel => exact ⟨k + 1, by omega, by go_num, bm2, bl2, _, rfl, ⟨hMn5, hR5, by omega, by omega, hP.hbr, hP.hbw, hB5⟩⟩
                case measure => simp [intOf]; omega
              · have k4' : (a0 == 4) = false := by simpa using k4
                go_wp2_with fail
                go_roundw
                case rel => exact ⟨k + 1, by omega, by go_num, bm, bl, _, rfl, ⟨hMa, hRa, hP.hbm, hP.hbl, hP.hbr, hP.hbw, hBa⟩⟩
                case measure => simp [intOf]; omega
    · obtain rfl : k = xs.length := by omega
      clear hR hfl
      go_wp2_with fail
      refine (All_any bm bl n ws wr hP.m).mono ?_
      rintro e w1 ⟨v, rfl, hown, hB1⟩
      obtain ⟨g, cap1, cur, rfl, hg, hbg, ht⟩ := ownsRow_pos hown (by omega)
      clear hown
      have hP1 : PlayAt w w1 bm bl br bw n ws := ⟨hP.m.below hB1 hP.m.mlt hP.m.llt, hP.r.below hB1 hP.r.r.lt hP.r.l.lt, hP.hbm, hP.hbl, hP.hbr, hP.hbw, hP.below.trans (hB1.mono hszr)⟩
      have hlm := hP.m.mlt
      have hll := hP.m.llt
      have hlr := hP.r.r.lt
      have hlw := hP.r.l.lt
      have hcell : ∀ j, j < 8 * n → w1.cell? ⟨g, j, none⟩ = some (.int .u64 (ws[j]?.getD 0)) := fun j hj => by
        rw [hbg.cell, ← List.getElem?_take_of_lt (show j < n * 8 by omega), ht]
        exact map_get (by rw [hP.m.len]; exact hj)
      go_wp2_with fail
      refine (rSame_true w1 br bw n g cap1 ws hP1.r hcell).mono ?_
      rintro e w2 ⟨rfl, d, rfl⟩
      have hcur : ∀ j, j < 8 * n → ∃ y, cur[j]? = some (.int .u64 y) := fun j hj => ⟨_, (hbg.cell j).symm.trans (hcell j hj)⟩
      clear hcell ht
      go_wp2_with fail
      refine (Lines_any _ bm bl n ws (hP1.m.drewN d)).mono ?_
      rintro e w2 ⟨rfl, rfl⟩
      have hP2 : PlayAt w (w1.drewN d) bm bl br bw n ws := ⟨hP1.m.drewN d, hP1.r.drewN d, hP.hbm, hP.hbl, hP.hbr, hP.hbw, below_drewN hP1.below d⟩
      have hbg2 := hbg.drewN d
      generalize w1.drewN d = w3 at hP2 hbg2
      go_wp2_with fail
      go_loopw [25] (fun i wr => ∃ t : Nat, t ≤ n ∧ i = .int .i64 t ∧ ∃ cur, Blk wr g cur 36 ∧ (∀ j, j < 8 * n → ∃ y, cur[j]? = some (.int .u64 y)) ∧ PlayAt w wr bm bl br bw n ws) (fun i _ => n - (intOf i).toNat)
      case atStart => exact ⟨0, Nat.zero_le _, rfl, _, hbg2, hcur, hP2⟩
      case round =>
        clear hP2 hbg2 hcur hP1 hbg
        obtain ⟨t, ht, rfl, cur, hbg, hcur, hPr⟩ := hrel
        by_cases htn : t < n
        · obtain ⟨y, hy⟩ := hcur (t * 8) (by omega)
          have hcy := (hbg.cell (t * 8)).trans hy
          have hfy := hbg.free (t * 8)
          have hC : ∀ v, Chg [g] wr (wr.drew.setCell ⟨g, t * 8, none⟩ v) := fun v => (Chg.refl _ _).drew.setCell (by simp) v
          have HC := Lib.hid hC
          clear hC
          go_wp2_with fail
          go_still_tail 10, (by kernel_rfl)
          go_wp2_with fail
          go_roundw
          case rel =>
            have hC := HC.out
            refine ⟨t + 1, by omega, by go_num, cur.set (t * 8) _, hbg.drew.set (t * 8) _, ?_, ⟨hPr.m.chg (hC _) (by simp; omega) (by simp; omega), hPr.r.chg (hC _) (by simp; omega) (by simp; omega), hPr.hbm, hPr.hbl, hPr.hbr, hPr.hbw, below_chg hPr.below (hC _) (by simp; omega) (Nat.le_refl _)⟩⟩
            intro j hj
            by_cases hjt : t * 8 = j
            · subst hjt
              obtain ⟨z, hz⟩ := hcur (t * 8) hj
              exact ⟨_, List.getElem?_set_self (List.getElem?_eq_some_iff.1 hz).1⟩
            · rw [List.getElem?_set_ne hjt]
              exact hcur j hj
          case measure => simp [intOf]; omega
        · obtain rfl : t = n := by omega
          go_wp2_with fail
          refine (All_any bm bl t ws _ hPr.m).mono ?_
          rintro e w4 ⟨v, rfl, hown, hB4⟩
          obtain ⟨g2, cap2, cur2, rfl, hg2, hbg3, ht2⟩ := ownsRow_pos hown (by omega)
          have hr4 := hPr.r.below hB4 hPr.r.r.lt hPr.r.l.lt
          have hb4 := hPr.below.trans (hB4.mono hPr.below.size)
          have hcell : ∀ j, j < 8 * t → w4.cell? ⟨g2, j, none⟩ = some (.int .u64 (ws[j]?.getD 0)) := fun j hj => by
            rw [hbg3.cell, ← List.getElem?_take_of_lt (show j < t * 8 by omega), ht2]
            exact map_get (by rw [hPr.m.len]; exact hj)
          go_wp2_with fail
          refine (rSame_true w4 br bw t g2 cap2 ws hr4 hcell).mono ?_
          rintro e w5 ⟨rfl, d, rfl⟩
          clear hcell
          go_wp2_with fail
          go_ret
          exact ⟨rfl, below_drewN hb4 d⟩

theorem MemPlays_any (w : World) (A : Option Addr) (cap : Nat) (xs : List (List Int)) (n : Int)
    (hfl : ∀ ns ∈ xs, ∃ cs, FlatRel stepKs cs ns) (hR : Rd w w.heap.size A 11 (fun ns => List.zipWith leafV stepKs ns) xs) :
    Calls Try.prog 5 #[.int .i64 n, .slice A xs.length cap] w (StaysPost w) := by
  by_cases hlen : 1000 < xs.length
  · exact MemPlays_long w A cap xs.length n hlen
  · by_cases hn : n < 2 ∨ 64 < n
    · exact MemPlays_bad w A cap xs.length n (by omega) hn
    · obtain ⟨k, rfl⟩ := Int.eq_ofNat_of_zero_le (show 0 ≤ n by omega)
      exact MemPlays_good w A cap xs k (by omega) (by omega) (by omega) hfl hR

end Go.Proofs.Ytajgbhfhppendaa
