/- LibsSizes. -/
import Derived.Test.YthlhjahhjoclfaaCd16
import Derived.Deep.RegionHeld3
import Derived.Deep.DeepCutAuto
namespace Go.Proofs.Ythlhjahhjoclfaa
set_option maxRecDepth 100000
open Go.RowKit

def PlB (w : World) (g : Nat) (k base bk cap : Int) : Prop := Blk w g [.int .i64 k, .int .i64 base, .int .i64 bk, .int .i64 cap] 31
def ThreeP (W : World) (x base bk cap c k v : Int) (s5 s6 s7 : Value) (w : World) : Prop := ∃ g5 g6 g7 : Nat, s5 = .pointer (some ⟨g5, 0, none⟩) ∧ s6 = .pointer (some ⟨g6, 0, none⟩) ∧ s7 = .pointer (some ⟨g7, 0, none⟩) ∧ g5 ≠ g6 ∧ g5 ≠ g7 ∧ g6 ≠ g7 ∧ W.heap.size + 1 < g5 ∧ W.heap.size + 1 < g6 ∧ W.heap.size + 1 < g7 ∧
  PlB w g5 x base bk cap ∧ PlB w g6 x base bk cap ∧ PlB w g7 x base bk cap ∧ PlB w W.heap.size x base bk cap ∧ Blk w (W.heap.size + 1) [.int .i64 c, .int .u64 k, .int .u64 v] 34 ∧ Chg [] W w

theorem five (W : World) (x base bk cap c k v : Int) : ∀ w, w = (((((W.alloc (.cells #[.int .i64 x, .int .i64 base, .int .i64 bk, .int .i64 cap] 31)).alloc (.cells #[.int .i64 c, .int .u64 k, .int .u64 v] 34)).alloc (.cells #[.int .i64 x, .int .i64 base, .int .i64 bk, .int .i64 cap] 31)).alloc (.cells #[.int .i64 x, .int .i64 base, .int .i64 bk, .int .i64 cap] 31)).alloc (.cells #[.int .i64 x, .int .i64 base, .int .i64 bk, .int .i64 cap] 31)).drew →
    PlB w (W.heap.size + 1 + 1) x base bk cap ∧ PlB w (W.heap.size + 1 + 1 + 1) x base bk cap ∧ PlB w (W.heap.size + 1 + 1 + 1 + 1) x base bk cap ∧ PlB w W.heap.size x base bk cap ∧ Blk w (W.heap.size + 1) [.int .i64 c, .int .u64 k, .int .u64 v] 34 ∧ Chg [] W w := by
  rintro w rfl
  refine ⟨?_, ?_, ?_, ?_, ?_, (((((Chg.refl [] W).alloc _).alloc _).alloc _).alloc _).alloc _ |>.drew⟩
  · refine Blk.drew (Blk.alloc (Blk.alloc ?_ _) _)
    have := Blk.new ((W.alloc (.cells #[.int .i64 x, .int .i64 base, .int .i64 bk, .int .i64 cap] 31)).alloc (.cells #[.int .i64 c, .int .u64 k, .int .u64 v] 34)) [.int .i64 x, .int .i64 base, .int .i64 bk, .int .i64 cap] 31
    simpa using this
  · refine Blk.drew (Blk.alloc ?_ _)
    have := Blk.new (((W.alloc (.cells #[.int .i64 x, .int .i64 base, .int .i64 bk, .int .i64 cap] 31)).alloc (.cells #[.int .i64 c, .int .u64 k, .int .u64 v] 34)).alloc (.cells #[.int .i64 x, .int .i64 base, .int .i64 bk, .int .i64 cap] 31)) [.int .i64 x, .int .i64 base, .int .i64 bk, .int .i64 cap] 31
    simpa using this
  · refine Blk.drew ?_
    have := Blk.new ((((W.alloc (.cells #[.int .i64 x, .int .i64 base, .int .i64 bk, .int .i64 cap] 31)).alloc (.cells #[.int .i64 c, .int .u64 k, .int .u64 v] 34)).alloc (.cells #[.int .i64 x, .int .i64 base, .int .i64 bk, .int .i64 cap] 31)).alloc (.cells #[.int .i64 x, .int .i64 base, .int .i64 bk, .int .i64 cap] 31)) [.int .i64 x, .int .i64 base, .int .i64 bk, .int .i64 cap] 31
    simpa using this
  · exact Blk.drew ((((Blk.new W [.int .i64 x, .int .i64 base, .int .i64 bk, .int .i64 cap] 31).alloc _).alloc _).alloc _ |>.alloc _)
  · refine Blk.drew (Blk.alloc (Blk.alloc (Blk.alloc ?_ _) _) _)
    have := Blk.new (W.alloc (.cells #[.int .i64 x, .int .i64 base, .int .i64 bk, .int .i64 cap] 31)) [.int .i64 c, .int .u64 k, .int .u64 v] 34
    simpa using this

def PlB4 (w : World) (g : Nat) (k base bk cap : Int) : Prop := w.cell? ⟨g, 0, none⟩ = some (.int .i64 k) ∧ w.cell? ⟨g, 1, none⟩ = some (.int .i64 base) ∧ w.cell? ⟨g, 2, none⟩ = some (.int .i64 bk) ∧ w.cell? ⟨g, 3, none⟩ = some (.int .i64 cap)
def SzOut (W : World) (gs : Nat) (base bk cap k v : Int) (s : Value) (w : World) : Prop :=
  ∃ i : Nat, ∃ c' : Int, i ≤ 3 ∧ s = .int .i64 i ∧ Blk w gs [.int .i64 0, .int .i64 base, .int .i64 bk, .int .i64 cap, .int .i64 1, .int .i64 base, .int .i64 bk, .int .i64 cap, .int .i64 2, .int .i64 base, .int .i64 bk, .int .i64 cap] 31 ∧ Blk w (W.heap.size + 1) [.int .i64 c', .int .u64 k, .int .u64 v] 34 ∧ Chg [] W w
def SzIn (W : World) (gs gy : Nat) (x base bk cap k v : Int) (s : Value) (w : World) : Prop :=
  ∃ j : Nat, ∃ c' : Int, j ≤ 4 ∧ s = .int .i64 j ∧ PlB w gy x base bk cap ∧ Blk w gs [.int .i64 0, .int .i64 base, .int .i64 bk, .int .i64 cap, .int .i64 1, .int .i64 base, .int .i64 bk, .int .i64 cap, .int .i64 2, .int .i64 base, .int .i64 bk, .int .i64 cap] 31 ∧ Blk w (W.heap.size + 1) [.int .i64 c', .int .u64 k, .int .u64 v] 34 ∧ Chg [] W w

set_option maxHeartbeats 8000000 in
theorem LibsSizes_any (W : World) (x base bk cap c k v : Int) (hk0 : 0 ≤ k) (hk1 : k ≤ 18446744073709551615) (hv0 : 0 ≤ v) (hv1 : v ≤ 18446744073709551615) :
    Calls Try.prog 4 #[.agg #[.int .i64 x, .int .i64 base, .int .i64 bk, .int .i64 cap], .agg #[.int .i64 c, .int .u64 k, .int .u64 v]] W (StaysPost W) := by
  go_enter Try.func4, Try.ntmps4
  go_upto_region 1 with fail
  go_cut [5, 6, 7] (fun s5 s6 s7 wx => ThreeP W x base bk cap c k v s5 s6 s7 wx)
  case first =>
    go_region
    all_goals
      go_wp2_with fail
      go_meet
      obtain ⟨f2, f3, f4, f0, f1, fc⟩ := five W x base bk cap c k v _ rfl
      exact ⟨_, _, _, rfl, rfl, rfl, by omega, by omega, by omega, by omega, by omega, by omega, by first | exact f2 | exact f3 | exact f4, by first | exact f2 | exact f3 | exact f4, by first | exact f2 | exact f3 | exact f4, f0, f1, fc⟩
  case rest =>
    obtain ⟨g5, g6, g7, rfl, rfl, rfl, n1, n2, n3, l5, l6, l7, b5, b6, b7, b0, b1, hC⟩ := hcut
    have y5 : wc.cell? ⟨g5, 0, none⟩ = some (.int .i64 x) := b5.cell 0
    have y6 : wc.cell? ⟨g6, 0, none⟩ = some (.int .i64 x) := b6.cell 0
    have y7 : wc.cell? ⟨g7, 0, none⟩ = some (.int .i64 x) := b7.cell 0
    have z5 : wc.frozen? ⟨g5, 0, none⟩ = false := b5.free 0
    have z6 : wc.frozen? ⟨g6, 0, none⟩ = false := b6.free 0
    have z7 : wc.frozen? ⟨g7, 0, none⟩ = false := b7.free 0
    have B5 := Lib.hid (((b5.set 0 (.int .i64 0)).other (a := ⟨g6, 0, none⟩) n1.symm (.int .i64 1)).other (a := ⟨g7, 0, none⟩) n2.symm (.int .i64 2))
    have B6 := Lib.hid (((b6.other (a := ⟨g5, 0, none⟩) n1 (.int .i64 0)).set 0 (.int .i64 1)).other (a := ⟨g7, 0, none⟩) n3.symm (.int .i64 2))
    have B7 := Lib.hid (((b7.other (a := ⟨g5, 0, none⟩) n2 (.int .i64 0)).other (a := ⟨g6, 0, none⟩) n3 (.int .i64 1)).set 0 (.int .i64 2))
    have B0 := Lib.hid (((b0.other (a := ⟨g5, 0, none⟩) (by simp; omega) (.int .i64 0)).other (a := ⟨g6, 0, none⟩) (by simp; omega) (.int .i64 1)).other (a := ⟨g7, 0, none⟩) (by simp; omega) (.int .i64 2))
    have B1 := Lib.hid (((b1.other (a := ⟨g5, 0, none⟩) (by simp; omega) (.int .i64 0)).other (a := ⟨g6, 0, none⟩) (by simp; omega) (.int .i64 1)).other (a := ⟨g7, 0, none⟩) (by simp; omega) (.int .i64 2))
    have HC := Lib.hid (((hC.setCell (p := ⟨g5, 0, none⟩) (fun h => by simp at h; omega) (.int .i64 0)).setCell (p := ⟨g6, 0, none⟩) (fun h => by simp at h; omega) (.int .i64 1)).setCell (p := ⟨g7, 0, none⟩) (fun h => by simp at h; omega) (.int .i64 2))
    clear b5 b6 b7 b0 b1 hC
    go_upto_region 3 with fail
    clear y5 y6 y7 z5 z6 z7
    generalize World.setCell _ _ _ = w3 at *
    clear l5 l6 l7 n1 n2 n3
    go_cut [42] (fun s wx => s = .bool false ∧ Chg [] w3 wx)
    case first =>
      replace HC := Lib.hid ((Chg.refl [] w3).drew)
      go_region_held3 (fun w' => w'.cell? ⟨W.heap.size, 2, none⟩ = some (.int .i64 bk) ∧ w'.cell? ⟨W.heap.size, 3, none⟩ = some (.int .i64 cap) ∧ w'.cell? ⟨g5, 0, none⟩ = some (.int .i64 0) ∧ w'.cell? ⟨g5, 1, none⟩ = some (.int .i64 base) ∧ w'.cell? ⟨g5, 2, none⟩ = some (.int .i64 bk) ∧ w'.cell? ⟨g5, 3, none⟩ = some (.int .i64 cap) ∧ w'.cell? ⟨g6, 0, none⟩ = some (.int .i64 1) ∧ w'.cell? ⟨g6, 1, none⟩ = some (.int .i64 base) ∧ w'.cell? ⟨g6, 2, none⟩ = some (.int .i64 bk) ∧ w'.cell? ⟨g6, 3, none⟩ = some (.int .i64 cap) ∧ w'.cell? ⟨g7, 0, none⟩ = some (.int .i64 2) ∧ w'.cell? ⟨g7, 1, none⟩ = some (.int .i64 base) ∧ w'.cell? ⟨g7, 2, none⟩ = some (.int .i64 bk) ∧ w'.cell? ⟨g7, 3, none⟩ = some (.int .i64 cap))
        (exact ⟨(HC.out.blk B0.out (by simp)).cell 2, (HC.out.blk B0.out (by simp)).cell 3, (HC.out.blk B5.out (by simp)).cell 0, (HC.out.blk B5.out (by simp)).cell 1, (HC.out.blk B5.out (by simp)).cell 2, (HC.out.blk B5.out (by simp)).cell 3, (HC.out.blk B6.out (by simp)).cell 0, (HC.out.blk B6.out (by simp)).cell 1, (HC.out.blk B6.out (by simp)).cell 2, (HC.out.blk B6.out (by simp)).cell 3, (HC.out.blk B7.out (by simp)).cell 0, (HC.out.blk B7.out (by simp)).cell 1, (HC.out.blk B7.out (by simp)).cell 2, (HC.out.blk B7.out (by simp)).cell 3⟩)
        (first
          | (go_at_call 12; refine (QueueSize_any _ _).mono ?_; rintro e w' ⟨rfl, rfl⟩)
          | (go_at_call 14; refine (HashSize_any _ _ _).mono ?_; rintro e w' ⟨rfl, rfl⟩)
          | (go_at_call 15; refine (TreeSize_any _ _).mono ?_; rintro e w' ⟨rfl, rfl⟩)
          | (go_at_call 13; (first | with_reducible refine (Size_q _ base bk cap).mono ?_ | with_reducible refine (Size_h _ base bk cap).mono ?_ | with_reducible refine (Size_t _ base bk cap).mono ?_); rintro e w' ⟨rfl, hx⟩; replace HC := Lib.hid (HC.out.trans hx); clear hx)
          | fail)
      all_goals
        go_wp2_with fail
        go_meet
        exact ⟨rfl, HC.out⟩
    case rest =>
      obtain ⟨rfl, hx⟩ := hcut
      have P5 := Lib.hid (hx.blk B5.out (by simp))
      have P6 := Lib.hid (hx.blk B6.out (by simp))
      have P7 := Lib.hid (hx.blk B7.out (by simp))
      have P1 := Lib.hid (hx.blk B1.out (by simp))
      have PC := Lib.hid (HC.out.trans hx)
      clear hx HC B0 B1 B5 B6 B7
      have c50 := P5.out.cell 0
      have c51 := P5.out.cell 1
      have c52 := P5.out.cell 2
      have c53 := P5.out.cell 3
      have c60 := P6.out.cell 0
      have c61 := P6.out.cell 1
      have c62 := P6.out.cell 2
      have c63 := P6.out.cell 3
      have c70 := P7.out.cell 0
      have c71 := P7.out.cell 1
      have c72 := P7.out.cell 2
      have c73 := P7.out.cell 3
      simp only [List.set_cons_zero, List.getElem?_cons_zero, List.getElem?_cons_succ] at c50 c51 c52 c53 c60 c61 c62 c63 c70 c71 c72 c73
      have hlw := P1.out.lt
      go_wp2_with fail
      clear c50 c51 c52 c53 c60 c61 c62 c63 c70 c71 c72 c73
      have HG := Lib.hid (Blk.new wc [.int .i64 0, .int .i64 base, .int .i64 bk, .int .i64 cap, .int .i64 1, .int .i64 base, .int .i64 bk, .int .i64 cap, .int .i64 2, .int .i64 base, .int .i64 bk, .int .i64 cap] 31)
      replace P1 := Lib.hid (P1.out.alloc (.cells #[.int .i64 0, .int .i64 base, .int .i64 bk, .int .i64 cap, .int .i64 1, .int .i64 base, .int .i64 bk, .int .i64 cap, .int .i64 2, .int .i64 base, .int .i64 bk, .int .i64 cap] 31))
      replace PC := Lib.hid (PC.out.alloc (.cells #[.int .i64 0, .int .i64 base, .int .i64 bk, .int .i64 cap, .int .i64 1, .int .i64 base, .int .i64 bk, .int .i64 cap, .int .i64 2, .int .i64 base, .int .i64 bk, .int .i64 cap] 31))
      clear P5 P6 P7
      go_loopw [48] (fun s wr => SzOut W wc.heap.size base bk cap k v s wr) (fun s _ => 3 - (intOf s).toNat)
      case atStart => exact ⟨0, c, by omega, rfl, HG.out, P1.out, PC.out⟩
      case round =>
        clear HG P1 PC
        obtain ⟨i, c', hi, rfl, hG, h1, hC⟩ := hrel
        by_cases hlt : i < 3
        · have hx : (i : Int) = 0 ∨ (i : Int) = 1 ∨ (i : Int) = 2 := by omega
          have hdi : decide ((i : Int) < 3) = true := by simp; omega
          have gl := hG.lt
          have d0 : wr.cell? ⟨wc.heap.size, i * 4, none⟩ = some (.int .i64 i) := by
            rw [hG.cell]; rcases (by omega : i = 0 ∨ i = 1 ∨ i = 2) with rfl | rfl | rfl <;> rfl
          have d1 : wr.cell? ⟨wc.heap.size, i * 4 + 1, none⟩ = some (.int .i64 base) := by
            rw [hG.cell]; rcases (by omega : i = 0 ∨ i = 1 ∨ i = 2) with rfl | rfl | rfl <;> rfl
          have d2 : wr.cell? ⟨wc.heap.size, i * 4 + 2, none⟩ = some (.int .i64 bk) := by
            rw [hG.cell]; rcases (by omega : i = 0 ∨ i = 1 ∨ i = 2) with rfl | rfl | rfl <;> rfl
          have d3 : wr.cell? ⟨wc.heap.size, i * 4 + 3, none⟩ = some (.int .i64 cap) := by
            rw [hG.cell]; rcases (by omega : i = 0 ∨ i = 1 ∨ i = 2) with rfl | rfl | rfl <;> rfl
          have HX := Lib.hid hx
          obtain ⟨wo, rfl⟩ : ∃ wo : World, wo = wr := ⟨_, rfl⟩
          have HY := Lib.hid (Blk.new wo [.int .i64 i, .int .i64 base, .int .i64 bk, .int .i64 cap] 31)
          have HG := Lib.hid (hG.alloc (.cells #[.int .i64 i, .int .i64 base, .int .i64 bk, .int .i64 cap] 31))
          have H1 := Lib.hid (h1.alloc (.cells #[.int .i64 i, .int .i64 base, .int .i64 bk, .int .i64 cap] 31))
          have HC := Lib.hid (hC.alloc (.cells #[.int .i64 i, .int .i64 base, .int .i64 bk, .int .i64 cap] 31))
          clear hx hG h1 hC
          go_wp2_with fail
          clear d0 d1 d2 d3
          go_loopw [10] (fun s wr => SzIn W wc.heap.size wo.heap.size i base bk cap k v s wr) (fun s _ => 4 - (intOf s).toNat)
          case atStart => exact ⟨0, c', by omega, rfl, HY.out, HG.out, H1.out, HC.out⟩
          case round =>
            clear HY HG H1 HC
            obtain ⟨j, c', hj, rfl, hY, hG, h1, hC⟩ := hrel
            by_cases hlj : j < 4
            · have q0 : wr.cell? ⟨W.heap.size + 1, 0, none⟩ = some (.int .i64 c') := h1.cell 0
              have q1 : wr.frozen? ⟨W.heap.size + 1, 0, none⟩ = false := h1.free 0
              have ny : W.heap.size + 1 ≠ wo.heap.size := h1.ne hY (by decide)
              have ng : W.heap.size + 1 ≠ wc.heap.size := h1.ne hG (by decide)
              have hset : Chg [W.heap.size + 1] wr (wr.setCell ⟨W.heap.size + 1, 0, none⟩ (.int .i64 j)) := (Chg.refl _ _).setCell (p := ⟨_, 0, none⟩) (by simp) _
              have HY := Lib.hid (hset.blk hY (by simpa using ny.symm))
              have HG := Lib.hid (hset.blk hG (by simpa using ng.symm))
              have H1 := Lib.hid (h1.set 0 (.int .i64 j))
              have HC := Lib.hid (hC.setCell (p := ⟨W.heap.size + 1, 0, none⟩) (fun h => by simp at h; omega) (.int .i64 j))
              have e0 : (wr.setCell ⟨W.heap.size + 1, 0, none⟩ (.int .i64 j)).cell? ⟨W.heap.size + 1, 0, none⟩ = some (.int .i64 j) := H1.out.cell 0
              have e1 : (wr.setCell ⟨W.heap.size + 1, 0, none⟩ (.int .i64 j)).cell? ⟨W.heap.size + 1, 1, none⟩ = some (.int .u64 k) := H1.out.cell 1
              have e2 : (wr.setCell ⟨W.heap.size + 1, 0, none⟩ (.int .i64 j)).cell? ⟨W.heap.size + 1, 2, none⟩ = some (.int .u64 v) := H1.out.cell 2
              have y0 : (wr.setCell ⟨W.heap.size + 1, 0, none⟩ (.int .i64 j)).cell? ⟨wo.heap.size, 0, none⟩ = some (.int .i64 i) := HY.out.cell 0
              have y1 : (wr.setCell ⟨W.heap.size + 1, 0, none⟩ (.int .i64 j)).cell? ⟨wo.heap.size, 1, none⟩ = some (.int .i64 base) := HY.out.cell 1
              have y2 : (wr.setCell ⟨W.heap.size + 1, 0, none⟩ (.int .i64 j)).cell? ⟨wo.heap.size, 2, none⟩ = some (.int .i64 bk) := HY.out.cell 2
              have y3 : (wr.setCell ⟨W.heap.size + 1, 0, none⟩ (.int .i64 j)).cell? ⟨wo.heap.size, 3, none⟩ = some (.int .i64 cap) := HY.out.cell 3
              clear hY hG h1 hC hset ny ng
              go_upto_region 12 with fail
              clear q0 q1
              generalize World.setCell _ _ _ = w5 at *
              cases hu : usualB i j
              · have HU := Lib.hid hu
                clear hu
                go_wp2_with fail
                refine (usual_any _ i j base bk cap k v HX.out).mono ?_
                rintro e w6 ⟨rfl, hx⟩
                rw [HU.out]
                replace HY := Lib.hid (hx.blk HY.out (by simp))
                replace HG := Lib.hid (hx.blk HG.out (by simp))
                replace H1 := Lib.hid (hx.blk H1.out (by simp))
                replace HC := Lib.hid (HC.out.trans hx)
                clear hx e0 e1 e2 y0 y1 y2 y3
                go_wp2_with fail
                go_roundw
                case rel => exact ⟨j + 1, j, by omega, by go_num, HY.out, HG.out, H1.out, HC.out⟩
                case measure => simp [intOf]; omega
              · have HU := Lib.hid hu
                clear hu
                go_wp2_with fail
                refine (usual_any _ i j base bk cap k v HX.out).mono ?_
                rintro e w6 ⟨rfl, hx⟩
                rw [HU.out]
                replace HY := Lib.hid (hx.blk HY.out (by simp))
                replace HG := Lib.hid (hx.blk HG.out (by simp))
                replace H1 := Lib.hid (hx.blk H1.out (by simp))
                replace HC := Lib.hid (HC.out.trans hx)
                clear hx e0 e1 e2 y0 y1 y2 y3
                have e0 : w6.cell? ⟨W.heap.size + 1, 0, none⟩ = some (.int .i64 j) := H1.out.cell 0
                have e1 : w6.cell? ⟨W.heap.size + 1, 1, none⟩ = some (.int .u64 k) := H1.out.cell 1
                have e2 : w6.cell? ⟨W.heap.size + 1, 2, none⟩ = some (.int .u64 v) := H1.out.cell 2
                have y0 : w6.cell? ⟨wo.heap.size, 0, none⟩ = some (.int .i64 i) := HY.out.cell 0
                have y1 : w6.cell? ⟨wo.heap.size, 1, none⟩ = some (.int .i64 base) := HY.out.cell 1
                have y2 : w6.cell? ⟨wo.heap.size, 2, none⟩ = some (.int .i64 bk) := HY.out.cell 2
                have y3 : w6.cell? ⟨wo.heap.size, 3, none⟩ = some (.int .i64 cap) := HY.out.cell 3
                cases hf : fitsB base (sizeK i bk cap)
                · have HF := Lib.hid hf
                  clear hf
                  go_wp2_with fail
                  refine (Code_no _ i j base bk cap k v HU.out HF.out).mono ?_
                  rintro e w7 ⟨rfl, hx⟩
                  replace HY := Lib.hid (hx.blk HY.out (by simp))
                  replace HG := Lib.hid (hx.blk HG.out (by simp))
                  replace H1 := Lib.hid (hx.blk H1.out (by simp))
                  replace HC := Lib.hid (HC.out.trans hx)
                  clear hx e0 e1 e2 y0 y1 y2 y3
                  have e0 : w7.cell? ⟨W.heap.size + 1, 0, none⟩ = some (.int .i64 j) := H1.out.cell 0
                  have e1 : w7.cell? ⟨W.heap.size + 1, 1, none⟩ = some (.int .u64 k) := H1.out.cell 1
                  have e2 : w7.cell? ⟨W.heap.size + 1, 2, none⟩ = some (.int .u64 v) := H1.out.cell 2
                  have y0 : w7.cell? ⟨wo.heap.size, 0, none⟩ = some (.int .i64 i) := HY.out.cell 0
                  have y1 : w7.cell? ⟨wo.heap.size, 1, none⟩ = some (.int .i64 base) := HY.out.cell 1
                  have y2 : w7.cell? ⟨wo.heap.size, 2, none⟩ = some (.int .i64 bk) := HY.out.cell 2
                  have y3 : w7.cell? ⟨wo.heap.size, 3, none⟩ = some (.int .i64 cap) := HY.out.cell 3
                  go_wp2_with fail
                  refine (May_any _ i base bk cap HX.out).mono ?_
                  rintro e w8 ⟨rfl, hx⟩
                  rw [HF.out]
                  replace HY := Lib.hid (hx.blk HY.out (by simp))
                  replace HG := Lib.hid (hx.blk HG.out (by simp))
                  replace H1 := Lib.hid (hx.blk H1.out (by simp))
                  replace HC := Lib.hid (HC.out.trans hx)
                  clear hx e0 e1 e2 y0 y1 y2 y3
                  go_wp2_with fail
                  go_roundw
                  case rel => exact ⟨j + 1, j, by omega, by go_num, HY.out, HG.out, H1.out, HC.out⟩
                  case measure => simp [intOf]; omega
                · have HF := Lib.hid hf
                  clear hf
                  go_wp2_with fail
                  refine (Code_yes _ i j base bk cap k v HU.out hk0 hk1 hv0 hv1 HF.out).mono ?_
                  rintro e w7 ⟨vl, rfl, hr, hx⟩
                  have HFl := Lib.hid (fitsL_of (codeL_fits i j base bk cap k v HU.out))
                  obtain ⟨A, cp, rfl, _, _, _, hrd, _⟩ := Rd.of_row encI_len hr
                  have HR := Lib.hid hrd
                  clear hr hrd
                  generalize codeL i j base bk cap k v = L at *
                  have hll : L.length ≤ 128 := HFl.out.1
                  replace HY := Lib.hid (hx.blk HY.out (by simp))
                  replace HG := Lib.hid (hx.blk HG.out (by simp))
                  replace H1 := Lib.hid (hx.blk H1.out (by simp))
                  replace HC := Lib.hid (HC.out.trans hx)
                  clear hx e0 e1 e2 y0 y1 y2 y3
                  have e0 : w7.cell? ⟨W.heap.size + 1, 0, none⟩ = some (.int .i64 j) := H1.out.cell 0
                  have e1 : w7.cell? ⟨W.heap.size + 1, 1, none⟩ = some (.int .u64 k) := H1.out.cell 1
                  have e2 : w7.cell? ⟨W.heap.size + 1, 2, none⟩ = some (.int .u64 v) := H1.out.cell 2
                  have y0 : w7.cell? ⟨wo.heap.size, 0, none⟩ = some (.int .i64 i) := HY.out.cell 0
                  have y1 : w7.cell? ⟨wo.heap.size, 1, none⟩ = some (.int .i64 base) := HY.out.cell 1
                  have y2 : w7.cell? ⟨wo.heap.size, 2, none⟩ = some (.int .i64 bk) := HY.out.cell 2
                  have y3 : w7.cell? ⟨wo.heap.size, 3, none⟩ = some (.int .i64 cap) := HY.out.cell 3
                  go_wp2_with fail
                  refine (May_any _ i base bk cap HX.out).mono ?_
                  rintro e w8 ⟨rfl, hx⟩
                  rw [HF.out]
                  replace HR := Lib.hid (HR.out.chg0 hx)
                  replace HY := Lib.hid (hx.blk HY.out (by simp))
                  replace HG := Lib.hid (hx.blk HG.out (by simp))
                  replace H1 := Lib.hid (hx.blk H1.out (by simp))
                  replace HC := Lib.hid (HC.out.trans hx)
                  clear hx e0 e1 e2 y0 y1 y2 y3
                  go_wp2_with fail
                  refine (Fits_true _ A cp L hll HFl.out.2.2 HR.out).mono ?_
                  rintro e w9 ⟨rfl, hx⟩
                  replace HY := Lib.hid (hx.blk HY.out (by simp))
                  replace HG := Lib.hid (hx.blk HG.out (by simp))
                  replace H1 := Lib.hid (hx.blk H1.out (by simp))
                  replace HC := Lib.hid (HC.out.trans hx)
                  clear hx
                  go_wp2_with fail
                  go_roundw
                  case rel => exact ⟨j + 1, j, by omega, by go_num, HY.out, HG.out, H1.out, HC.out⟩
                  case measure => simp [intOf]; omega
            · obtain rfl : j = 4 := by omega
              have HG := Lib.hid hG
              have H1 := Lib.hid h1
              have HC := Lib.hid hC
              clear hY hG h1 hC
              go_wp2_with fail
              go_roundw
              case rel => exact ⟨i + 1, c', by omega, by go_num, HG.out, H1.out, HC.out⟩
              case measure => simp [intOf]; omega
        · obtain rfl : i = 3 := by omega
          have HC := Lib.hid hC
          clear hG h1 hC
          go_wp2_with fail
          go_ret
          exact ⟨rfl, HC.out.nil_below⟩
end Go.Proofs.Ythlhjahhjoclfaa
