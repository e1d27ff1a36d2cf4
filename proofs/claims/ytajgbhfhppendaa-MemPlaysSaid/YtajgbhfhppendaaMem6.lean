/- Copy; what stays of a line that was set; the law MemLines. -/
import Derived.Test.YtajgbhfhppendaaMem4
import Derived.Test.YtajgbhfhppendaaMem5
namespace Go.Proofs.Ytajgbhfhppendaa
open Go.RowKit

theorem MemAt.of_own {w : World} {base g m cap : Nat} {ws : List Int} (h : w.ownsRow base 36 8 (.slice (some ⟨g, 0, none⟩) m cap) m (ws.map (Value.int .u64))) : ∃ rest, Blk w g (ws.map (Value.int .u64) ++ rest) 36 := by
  rcases h.2 with ⟨h0, _⟩ | ⟨g', cap', cur, hv, _, hb, _, _, _, ht⟩
  · cases h0
  · cases hv
    refine ⟨cur.toList.drop (m * 8), ?_⟩
    rw [← ht, List.take_append_drop]
    exact hb

def CopyPost (w : World) (m : Nat) (ws : List Int) (e : Ending) (w' : World) : Prop :=
  ∃ bm bl, e = .returned (.pointer (some ⟨bm, 0, none⟩)) ∧ MemAt w' bm bl m ws ∧ Chg [] w w' ∧ w.heap.size ≤ bm ∧ w.heap.size ≤ bl

set_option maxHeartbeats 400000 in
theorem Copy_any (bm bl m : Nat) (ws : List Int) (w : World) (hM : MemAt w bm bl m ws) (hm : 0 < m) :
    Calls Try.prog 19 #[.pointer (some ⟨bm, 0, none⟩)] w (CopyPost w m ws) := by
  go_enter Try.func19, Try.ntmps19
  go_wp2_with fail
  refine (All_any bm bl m ws w hM).mono ?_
  rintro e w1 ⟨v, rfl, hown, hB⟩
  obtain ⟨j, rfl⟩ : ∃ j, m = j + 1 := ⟨m - 1, by omega⟩
  obtain ⟨g, cap, rfl⟩ := Go.ownsRow_succ hown
  have hg := hown.lt g rfl
  obtain ⟨rest, hr⟩ := MemAt.of_own hown
  go_wp2_with fail
  go_ret
  exact ⟨w1.heap.size, g, rfl, ⟨⟨cap, Blk.new w1 _ _⟩, ⟨rest, hr.alloc _⟩, hM.len, hM.small⟩, (Chg.of_below hB []).alloc _, hB.size, hg.1⟩

set_option maxHeartbeats 400000 in
theorem Copy_nil (w : World) :
    Calls Try.prog 19 #[.pointer none] w fun e w' => e = .returned (.pointer none) ∧ w = w' := by
  go_enter Try.func19, Try.ntmps19
  go_wp2_with fail
  go_ret
  exact ⟨rfl, rfl⟩

theorem setLine_length (ws : List Int) (i : Nat) (x0 x1 x2 x3 x4 x5 x6 x7 : Int) : (setLine ws i x0 x1 x2 x3 x4 x5 x6 x7).length = ws.length := by simp [setLine]
theorem setLine_get {ws : List Int} {i : Nat} (h : i * 8 + 8 ≤ ws.length) (x0 x1 x2 x3 x4 x5 x6 x7 : Int) {k : Nat} (hk : k < 8) : (setLine ws i x0 x1 x2 x3 x4 x5 x6 x7)[i * 8 + k]?.getD 0 = [x0, x1, x2, x3, x4, x5, x6, x7][k]?.getD 0 := by
  have h0 : i * 8 < ws.length := by omega
  have h1 : i * 8 + 1 < ws.length := by omega
  have h2 : i * 8 + 2 < ws.length := by omega
  have h3 : i * 8 + 3 < ws.length := by omega
  have h4 : i * 8 + 4 < ws.length := by omega
  have h5 : i * 8 + 5 < ws.length := by omega
  have h6 : i * 8 + 6 < ws.length := by omega
  have h7 : i * 8 + 7 < ws.length := by omega
  match k, hk with
  | 0, _ => simp [setLine, List.getElem?_set, *]
  | 1, _ => simp [setLine, List.getElem?_set, *]
  | 2, _ => simp [setLine, List.getElem?_set, *]
  | 3, _ => simp [setLine, List.getElem?_set, *]
  | 4, _ => simp [setLine, List.getElem?_set, *]
  | 5, _ => simp [setLine, List.getElem?_set, *]
  | 6, _ => simp [setLine, List.getElem?_set, *]
  | 7, _ => simp [setLine, List.getElem?_set, *]

set_option maxRecDepth 100000 in
set_option maxHeartbeats 2000000 in
theorem MemLines_any (w : World) (x0 x1 x2 x3 x4 x5 x6 x7 n : Int) (hn : i64ok n) :
    Calls Try.prog 4 #[.agg #[.int .u64 x0, .int .u64 x1, .int .u64 x2, .int .u64 x3, .int .u64 x4, .int .u64 x5, .int .u64 x6, .int .u64 x7], .int .i64 n] w (StaysPost w) := by
  obtain ⟨hn1, hn2⟩ := hn
  go_enter Try.func4, Try.ntmps4
  go_wp2_with fail
  obtain ⟨wb, hwb⟩ : ∃ wb, wb = w.alloc (.cells #[.int .u64 x0, .int .u64 x1, .int .u64 x2, .int .u64 x3, .int .u64 x4, .int .u64 x5, .int .u64 x6, .int .u64 x7] 36) := ⟨_, rfl⟩
  rw [← hwb]
  have hbx : Blk wb w.heap.size [.int .u64 x0, .int .u64 x1, .int .u64 x2, .int .u64 x3, .int .u64 x4, .int .u64 x5, .int .u64 x6, .int .u64 x7] 36 := by rw [hwb]; exact Blk.new w _ _
  have hBb : Below w.heap.size w wb := by rw [hwb]; exact (Below.refl _ _).alloc (Nat.le_refl _) _
  clear hwb
  refine (alive_any wb).mono ?_
  rintro e w1 ⟨rfl, hC1⟩
  have hbx1 := hC1.blk hbx (by simp)
  have hB1 := hBb.trans (hC1.nil_below.mono hBb.size)
  go_wp2_with fail
  refine (New_ok w1 64 (by decide) (by decide)).mono ?_
  rintro e w2 ⟨rfl, hM2, hC2, hs2⟩
  generalize List.replicate (8 * 64) (0 : Int) = zs at hM2
  have hzl := Lib.hid hM2.len
  have hbx2 := hC2.blk hbx1 (by simp)
  have hB2 := hB1.trans (hC2.nil_below.mono hB1.size)
  have c0 := hbx2.cell 0
  have c1 := hbx2.cell 1
  have c2 := hbx2.cell 2
  have c3 := hbx2.cell 3
  have c4 := hbx2.cell 4
  have c5 := hbx2.cell 5
  have c6 := hbx2.cell 6
  have c7 := hbx2.cell 7
  simp only [List.getElem?_cons_succ, List.getElem?_cons_zero] at c0 c1 c2 c3 c4 c5 c6 c7
  have hlt := hbx1.lt
  go_wp2_with fail
  refine (Set_any w2 _ _ 64 _ n x0 x1 x2 x3 x4 x5 x6 x7 hM2).mono ?_
  rintro e w3 ⟨rfl, hM3, hC3⟩
  clear c0 c1 c2 c3 c4 c5 c6 c7
  have hB3 : Below w.heap.size w w3 := below_chg hB2 hC3 (by simp; omega) (Nat.le_refl _)
  have hbx3 := hC3.blk hbx2 (by simp; omega)
  by_cases hr : 0 ≤ n ∧ n < 64
  · have e1 : memErr 64 n = 0 := memErr_in hr
    obtain ⟨k, rfl⟩ := Int.eq_ofNat_of_zero_le hr.1
    have hk64 : k < 64 := by omega
    have e2 : memSet 64 zs (k : Int) x0 x1 x2 x3 x4 x5 x6 x7 = setLine zs k x0 x1 x2 x3 x4 x5 x6 x7 := by
      simp only [memSet]; rw [if_pos (by omega), Int.toNat_natCast]
    rw [e2] at hM3
    clear e2 hr
    have hlen := setLine_length zs k x0 x1 x2 x3 x4 x5 x6 x7
    have hget : ∀ j, j < 8 → (setLine zs k x0 x1 x2 x3 x4 x5 x6 x7)[k * 8 + j]?.getD 0 = [x0, x1, x2, x3, x4, x5, x6, x7][j]?.getD 0 := fun j hj => setLine_get (by rw [hzl.out]; omega) _ _ _ _ _ _ _ _ hj
    generalize setLine zs k x0 x1 x2 x3 x4 x5 x6 x7 = ws at hM3 hlen hget
    have HG := Lib.hid hget
    clear hget hlen
    go_wp2_with fail
    refine (All_any _ _ 64 _ w3 hM3).mono ?_
    rintro e w4 ⟨v, rfl, hown, hB4⟩
    obtain ⟨g, cap, rfl⟩ := Go.ownsRow_succ hown
    have hM4 := hM3.below hB4 hM3.mlt hM3.llt
    have hbx4 := (Chg.of_below hB4 []).blk hbx3 (by simp)
    have hB5 := hB3.trans (hB4.mono hB3.size)
    go_wp2_with fail
    go_loop [10] (fun i => ∃ j : Nat, j ≤ 8 ∧ i = .int .i64 j) (fun i => 8 - (intOf i).toNat)
    case atStart => exact ⟨0, Nat.zero_le _, rfl⟩
    case round =>
      obtain ⟨j, hj, rfl⟩ := hrel
      by_cases hlt : j < 8
      · have cx : w4.cell? ⟨w.heap.size, j, none⟩ = some (.int .u64 ([x0, x1, x2, x3, x4, x5, x6, x7][j]?.getD 0)) := by
          rw [hbx4.cell]
          exact map_get (ws := [x0, x1, x2, x3, x4, x5, x6, x7]) hlt
        have ca : w4.cell? ⟨g, k * 8 + j, none⟩ = some (.int .u64 ([x0, x1, x2, x3, x4, x5, x6, x7][j]?.getD 0)) := by
          have h1 := hown.cellAt (k * 8 + j) (by omega)
          rw [h1, map_get (by rw [hM3.len]; omega), HG.out j hlt]
        have ew : memWord ws (8 * (k : Int) + j) = [x0, x1, x2, x3, x4, x5, x6, x7][j]?.getD 0 := by
          simp only [memWord]
          rw [if_pos (by have := hM3.len; omega), ← HG.out j hlt]
          congr 2
          omega
        generalize [x0, x1, x2, x3, x4, x5, x6, x7][j]?.getD 0 = y at cx ca ew
        have ee : memErr (8 * 64) (8 * (k : Int) + j) = 0 := memErr_in (by omega)
        go_wp2_with fail
        refine (Word_any _ _ _ 64 ws _ (by omega) (by omega) hM4).mono ?_
        rintro e w5 ⟨rfl, rfl⟩
        rw [ew, ee]
        clear ew ee
        go_wp2_with fail
        go_round
        case rel => exact ⟨j + 1, by omega, by go_num⟩
        case measure => simp [intOf]; omega
      · obtain rfl : j = 8 := by omega
        go_wp2_with fail
        go_ret
        exact ⟨rfl, hB5⟩
  · have e1 : memErr 64 n = 2 := memErr_out hr
    go_wp2_with fail
    go_ret
    exact ⟨rfl, hB3⟩

end Go.Proofs.Ytajgbhfhppendaa
