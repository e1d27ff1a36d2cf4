/- DirServes: the script, the draining, the end. -/
import Derived.Test.YtepdhajgemmoiaaSrv7
import Derived.Test.YtepdhajgemmoiaaSrv6
import Derived.Test.YtepdhajgemmoiaaSrv9
import Derived.Test.YtepdhajgemmoiaaDir25
namespace Go.Proofs.Ytepdhajgemmoiaa
set_option maxRecDepth 100000
set_option linter.unusedSimpArgs false
set_option linter.unusedVariables false
open Go.RowKit

theorem infoHon : (Try.prog.info? 91).map (fun i => (i.zero, i.size, i.bytes)) = some (some (.agg #[.int .i64 0, .int .u64 0, .int .u64 0, .int .u64 0, .int .u64 0, .int .u64 0, .int .u64 0, .int .u64 0, .int .u64 0, .bool false, .bool false]), 11, 80) := by kernel_rfl
theorem made_hon (n : Nat) : (madeCells #[.int .i64 0, .int .u64 0, .int .u64 0, .int .u64 0, .int .u64 0, .int .u64 0, .int .u64 0, .int .u64 0, .int .u64 0, .bool false, .bool false] (n * 11)).toList = (List.replicate n ({} : HonV)).flatMap encH := by
  apply List.ext_getElem?
  intro k
  by_cases hk : k < n * 11
  · have hq : k / 11 < (List.replicate n ({} : HonV)).length := by rw [List.length_replicate]; omega
    have hj : k % 11 < 11 := Nat.mod_lt _ (by decide)
    have h := flat_get encH_len (List.replicate n ({} : HonV)) (k / 11) hq (k % 11) hj
    rw [show k / 11 * 11 + k % 11 = k from by omega, List.getElem_replicate] at h
    rw [h]
    simp only [madeCells, Array.toList_map, Array.toList_range, List.getElem?_map, List.getElem?_range hk, Option.map_some]
    show some _ = _
    generalize k % 11 = j at hj
    match j, hj with
    | 0, _ => rfl
    | 1, _ => rfl
    | 2, _ => rfl
    | 3, _ => rfl
    | 4, _ => rfl
    | 5, _ => rfl
    | 6, _ => rfl
    | 7, _ => rfl
    | 8, _ => rfl
    | 9, _ => rfl
    | 10, _ => rfl
  · rw [List.getElem?_eq_none (by simp [madeCells]; omega), List.getElem?_eq_none (by rw [flat_len encH_len, List.length_replicate]; omega)]
theorem rep_get {α : Type} (n : Nat) (a : α) : List.replicate (n + 2) a = a :: a :: List.replicate n a := rfl

/-- An act's numbers. -/
structure A3 where
  x : Int
  y : Int
  z : Int
def enc3 (a : A3) : List Value := [.int .i64 a.x, .int .i64 a.y, .int .i64 a.z]

/-- Somewhere in the law. -/
def Runs (N0 b d bm bw bl bc : Nat) (e0 : EntV) (n : Int) (w : World) (S : SvS) : Prop :=
  ∃ made got vi vo es, SvW N0 w b d bm bw bl bc vi vo es e0 S made got ∧ SvI S ∧ MG S made got ∧ S.n = n

theorem wrap0 : (0 : Int) = wrap64 ((0 : Nat) : Int) := by kernel_rfl
theorem start_asks (m : Nat) : asksN (svStart m).hs = 0 := by
  show (List.replicate m ({} : HonV)).countP (·.asks) = 0
  rw [List.countP_replicate]; rfl
theorem no_asks {S : SvS} (h : ∀ c, S.st.asks c = false) : asksN S.hs = 0 := by
  unfold asksN
  rw [List.countP_eq_zero]
  intro x hx
  obtain ⟨j, hj, rfl⟩ := List.getElem_of_mem hx
  have := h (j : Int)
  rw [show S.st.asks (j : Int) = S.hs[j].asks from hF_at hj] at this
  rw [this]; decide
theorem mu_zero {S : SvS} (h : S.mu = 0) : S.inn = [] ∧ S.out = [] := by
  rw [mu_eq] at h
  have h1 := P.wts_len (S.inn.map ms); have h2 := P.wts_len (S.out.map ms)
  rw [List.length_map] at h1 h2
  exact ⟨List.eq_nil_of_length_eq_zero (by omega), List.eq_nil_of_length_eq_zero (by omega)⟩

set_option maxHeartbeats 8000000 in
theorem DirServes_any (w : World) (n : Int) (A : Option Addr) (cap : Nat) (xs : List A3) (hq : xs.length ≤ maxLen) (hR : Rd w w.heap.size A 3 enc3 xs) :
    Calls Try.prog 4 #[.int .i64 n, .slice A xs.length cap] w (StaysPost w) := by
  have HAl := Lib.hid (fun w => alive_any w)
  have HR := Lib.hid hR
  clear hR
  by_cases hn : 1 ≤ n ∧ n ≤ 4
  · obtain ⟨m, rfl⟩ := Int.eq_ofNat_of_zero_le (show 0 ≤ n by omega)
    have hm : 1 ≤ m ∧ m ≤ 4 := by omega
    by_cases hlen : xs.length ≤ 400
    · have hN := Lib.hid (fun w => DNew_ok w 2 (m : Int) (by decide) (by decide) (by omega))
      have hmn : (m : Int) ≤ 4 := by omega
      have hm1 : (1 : Int) ≤ m := by omega
      have hle : (xs.length : Int) ≤ 400 := by omega
      have hdec : decide (400 < (xs.length : Int)) = false := by simp; omega
      clear hn hlen
      obtain ⟨i0, hi, hz0, hz1, hz2⟩ := info_parts infoHon
      go_enter Try.func4, Try.ntmps4
      go_wp2_with fail
      refine (HAl.out w).mono ?_
      rintro e w1 ⟨rfl, hC1⟩
      have HC1 := Lib.hid hC1
      clear hC1
      go_wp2_with fail
      refine (hN.out w1).mono ?_
      rintro e w2 ⟨d, bm, bw, bl, rfl, hC, hd, hg, D⟩
      have HC2 := Lib.hid (HC1.out.trans hC)
      have HD := Lib.hid D
      have HG := Lib.hid (show ∀ g ∈ [bm, bw, bl], w.heap.size ≤ g from fun g h => Nat.le_trans HC1.out.size (hg g h))
      clear hC hd hg D hN HAl HC1
      have hmk := run_make (P := Try.prog) w2 46 91 i0 _ Try.underlying46 hi hz0 .i64 .i64 m m (by omega) (Int.le_refl _) (by rw [hz2]; omega) (by omega)
      rw [hz1, Int.toNat_natCast] at hmk
      go_wp2_with fail
      have hW2 : w.heap.size ≤ w2.heap.size := HC2.out.size
      have hS0 : SvW w.heap.size ((w2.alloc (.cells (madeCells #[.int .i64 0, .int .u64 0, .int .u64 0, .int .u64 0, .int .u64 0, .int .u64 0, .int .u64 0, .int .u64 0, .int .u64 0, .bool false, .bool false] (m * 11)) 91)).alloc (.cells #[.pointer (some ⟨d, 0, none⟩), .slice (some ⟨w2.heap.size, 0, none⟩) m m, .slice none 0 0, .slice none 0 0, .int .i64 0, .int .i64 0, .int .u64 0, .bool true] 48)) (w2.heap.size + 1) d bm bw bl w2.heap.size (.slice none 0 0) (.slice none 0 0) (List.replicate 2 newE) newE (svStart m) 0 0 := by
        have hk : Chg [] w2 ((w2.alloc (.cells (madeCells #[.int .i64 0, .int .u64 0, .int .u64 0, .int .u64 0, .int .u64 0, .int .u64 0, .int .u64 0, .int .u64 0, .int .u64 0, .bool false, .bool false] (m * 11)) 91)).alloc (.cells #[.pointer (some ⟨d, 0, none⟩), .slice (some ⟨w2.heap.size, 0, none⟩) m m, .slice none 0 0, .slice none 0 0, .int .i64 0, .int .i64 0, .int .u64 0, .bool true] 48)) := ((Chg.refl [] w2).alloc _).alloc _
        have hb := Blk.new (w2.alloc (.cells (madeCells #[.int .i64 0, .int .u64 0, .int .u64 0, .int .u64 0, .int .u64 0, .int .u64 0, .int .u64 0, .int .u64 0, .int .u64 0, .bool false, .bool false] (m * 11)) 91)) [.pointer (some ⟨d, 0, none⟩), .slice (some ⟨w2.heap.size, 0, none⟩) m m, .slice none 0 0, .slice none 0 0, .int .i64 0, .int .i64 0, .int .u64 0, .bool true] 48
        rw [World.size_alloc] at hb
        have hh : Blk (w2.alloc (.cells (madeCells #[.int .i64 0, .int .u64 0, .int .u64 0, .int .u64 0, .int .u64 0, .int .u64 0, .int .u64 0, .int .u64 0, .int .u64 0, .bool false, .bool false] (m * 11)) 91)) w2.heap.size ((List.replicate m ({} : HonV)).flatMap encH) 91 := by
          have := Blk.new w2 (madeCells #[.int .i64 0, .int .u64 0, .int .u64 0, .int .u64 0, .int .u64 0, .int .u64 0, .int .u64 0, .int .u64 0, .int .u64 0, .bool false, .bool false] (m * 11)).toList 91
          rw [← made_hon]
          exact this
        have hlm : (svStart m).hs.length = m := by show (List.replicate m ({} : HonV)).length = m; simp
        refine ⟨by rw [hlm]; exact hb, hh.alloc _, (Knows.new HD.out ⟨hm1, hmn⟩).look hk, World.ownsRow_nil _ _ _ _, World.ownsRow_nil _ _ _ _, ⟨by omega, hW2, by simp; omega⟩, fun g hg => ?_, Apart.nil_left _, Apart.nil_left _, Apart.nil_left _⟩
        have hg2 : g ∈ [bw, bl] := hg
        exact HG.out g (by simp at hg2 ⊢; exact .inr hg2)
      have HS0 := Lib.hid hS0
      have HB0 := Lib.hid (((HC2.out.alloc (.cells (madeCells #[.int .i64 0, .int .u64 0, .int .u64 0, .int .u64 0, .int .u64 0, .int .u64 0, .int .u64 0, .int .u64 0, .int .u64 0, .bool false, .bool false] (m * 11)) 91)).alloc (.cells #[.pointer (some ⟨d, 0, none⟩), .slice (some ⟨w2.heap.size, 0, none⟩) m m, .slice none 0 0, .slice none 0 0, .int .i64 0, .int .i64 0, .int .u64 0, .bool true] 48)).nil_below)
      clear hS0 hmk HD HG hW2 HC2
      generalize World.alloc (World.alloc _ _) _ = W0 at *
      obtain ⟨b, hb⟩ : ∃ x, w2.heap.size + 1 = x := ⟨_, rfl⟩
      obtain ⟨bc, hbc⟩ : ∃ x, w2.heap.size = x := ⟨_, rfl⟩
      rw [hb, hbc] at HS0 ⊢
      clear hb hbc
      go_loopw [9] (fun i wr => ∃ (k : Nat) (S : SvS), k ≤ xs.length ∧ i = .int .i64 k ∧ Hid (Runs w.heap.size b d bm bw bl bc newE (m : Int) wr S) ∧ Hid (Below w.heap.size w wr))
        (fun i _ => xs.length - (intOf i).toNat)
      case atStart => exact ⟨0, svStart m, by omega, rfl, Lib.hid ⟨0, 0, _, _, _, HS0.out, start_inv m hm, ⟨0, wrap0, by rw [start_asks]; exact wrap0⟩, rfl⟩, HB0⟩
      case round =>
        obtain ⟨k, S, hk, rfl, hRn, hB⟩ := hrel
        obtain ⟨made, got, vi, vo, es, HS, I, M, hSn⟩ := hRn.out
        have HSv := Lib.hid HS; have HI := Lib.hid I; have HM := Lib.hid M; have HSn := Lib.hid hSn
        clear HS I M hSn HS0 HB0
        by_cases hlt : k < xs.length
        · have hpos : 0 < xs.length := by omega
          obtain ⟨ba, off, hA, hba, hce⟩ := HR.out hpos
          subst hA
          have c0 : wr.cell? ⟨ba, off + k * 3, none⟩ = some (.int .i64 xs[k].x) := (World.cell?_of_block (hB.out.block ba hba)).trans (hce k hlt 0 (by decide))
          have c1 : wr.cell? ⟨ba, off + k * 3 + 1, none⟩ = some (.int .i64 xs[k].y) := (World.cell?_of_block (hB.out.block ba hba)).trans (by rw [Nat.add_assoc]; exact hce k hlt 1 (by decide))
          have c2 : wr.cell? ⟨ba, off + k * 3 + 2, none⟩ = some (.int .i64 xs[k].z) := (World.cell?_of_block (hB.out.block ba hba)).trans (by rw [Nat.add_assoc]; exact hce k hlt 2 (by decide))
          have hki : (k : Int) < xs.length := by omega
          have balt : ba < wr.heap.size := Nat.lt_of_lt_of_le hba hB.out.size
          obtain ⟨q, hq3⟩ : ∃ q, xs[k] = q := ⟨_, rfl⟩
          rw [hq3] at c0 c1 c2
          obtain ⟨x, y, z⟩ := q
          simp only at c0 c1 c2
          clear hce hq3
          by_cases hy : y < 0
          · go_wp2_with fail
            go_roundw
            case rel => exact ⟨k + 1, S, by omega, by go_num, hRn, hB⟩
            case measure => simp [intOf]; omega
          by_cases hz : z < 0
          · go_wp2_with fail
            go_roundw
            case rel => exact ⟨k + 1, S, by omega, by go_num, hRn, hB⟩
            case measure => simp [intOf]; omega
          go_wp2_with fail
          refine (wact_any x y z (by omega) (by omega) HSv.out HI.out HM.out).mono ?_
          rintro e w5 ⟨rfl, S5, made5, got5, ⟨vi5, vo5, es5, H5⟩, hb5, I5, M5, hn5, _⟩
          have HS5 := Lib.hid H5; have HI5 := Lib.hid I5; have HM5 := Lib.hid M5; have HSn5 := Lib.hid (hn5.trans HSn.out); have HB5 := Lib.hid (hB.out.trans hb5)
          clear H5 hb5 I5 M5 hn5 c0 c1 c2 balt
          go_wp2_with fail
          refine (wone_any HS5.out HI5.out).mono ?_
          rintro e w6 ⟨rfl, H6, hb6⟩
          have HS6 := Lib.hid H6; have HB6 := Lib.hid (HB5.out.trans hb6)
          have b7 : w6.cell? ⟨b, 7, none⟩ = some (.bool true) := H6.blk.cell 7
          have blt : b < w6.heap.size := H6.blk.lt
          clear H6 hb6
          go_wp2_with fail
          go_roundw
          case rel => exact ⟨k + 1, S5, by omega, by go_num, Lib.hid ⟨made5, got5, _, _, _, HS6.out, HI5.out, HM5.out, HSn5.out⟩, HB6⟩
          case measure => simp [intOf]; omega
        · obtain rfl : k = xs.length := by omega
          go_wp2_with fail
          clear hk hlt
          go_loopw [11] (fun i wx => ∃ (k : Nat) (S : SvS), k ≤ 100 ∧ i = .int .i64 k ∧ S.mu + k ≤ 100 ∧ Hid (Runs w.heap.size b d bm bw bl bc newE (m : Int) wx S) ∧ Hid (Below w.heap.size w wx))
            (fun i _ => 100 - (intOf i).toNat)
          case atStart => exact ⟨0, S, by omega, rfl, by have := HI.out.small; omega, hRn, hB⟩
          case round =>
            clear hRn hB HSv HI HM HSn
            obtain ⟨k, S, hk, rfl, hmu, hRn, hB⟩ := hrel
            obtain ⟨made, got, vi, vo, es, HS, I, M, hSn⟩ := hRn.out
            obtain ⟨Ai, ci, hvi, _, _, _, _⟩ := ownsRow_cell HS.inn
            obtain ⟨Ao, co, hvo, _, _, _, _⟩ := ownsRow_cell HS.out
            subst hvi hvo
            have b2 : wr.cell? ⟨b, 2, none⟩ = some (.slice Ai S.inn.length ci) := HS.blk.cell 2
            have b3 : wr.cell? ⟨b, 3, none⟩ = some (.slice Ao S.out.length co) := HS.blk.cell 3
            have blt : b < wr.heap.size := HS.blk.lt
            have hl := I.lens
            have hz0' : S.mu = 0 → S.inn = [] ∧ S.out = [] := mu_zero
            have HSv := Lib.hid HS; have HI := Lib.hid I; have HM := Lib.hid M; have HSn := Lib.hid hSn
            clear HS I M hSn
            by_cases hend : S.inn = [] ∧ S.out = []
            · obtain ⟨hie, hoe⟩ := hend
              have hli : S.inn.length = 0 := by rw [hie]; rfl
              have hlo : S.out.length = 0 := by rw [hoe]; rfl
              rw [hli] at b2; rw [hlo] at b3
              clear hl hz0' hmu
              have hst := P.still HI.out.inv (by show S.inn.map ms = []; rw [hie]; rfl) (by show S.out.map ms = []; rw [hoe]; rfl)
              have hz := no_asks hst.2.2
              have hph : S.e.ph = 0 := hst.1
              have hwl : S.e.wl = [] := List.map_eq_nil_iff.1 hst.2.1
              obtain ⟨G, hg1, hg2⟩ := HM.out
              rw [hz, Nat.add_zero, ← hg1] at hg2
              subst hg2
              have HU := Lib.hid (fun W (k : Chg [] wr W) => Under_any (w := W) 1 (HSv.out.K.look k) (by decide) S.e rfl)
              have HWt := Lib.hid (fun W (k : Chg [] wr W) => Waiting_any (w := W) 1 (HSv.out.K.look k) (by decide) S.e rfl)
              have b4 : wr.cell? ⟨b, 4, none⟩ = some (.int .i64 made) := HSv.out.blk.cell 4
              have b5 : wr.cell? ⟨b, 5, none⟩ = some (.int .i64 made) := HSv.out.blk.cell 5
              clear hst hz hg1 HM
              by_cases hk100 : k < 100
              · have hki : (k : Int) < 100 := by omega
                go_wp2_with fail
                refine (HU.out wr (Chg.refl [] wr)).mono ?_
                rintro e w8 ⟨rfl, hk8⟩
                have HK8 := Lib.hid hk8
                have HW8 := Lib.hid (HWt.out)
                rw [hph]
                unfold mcells
                clear hk8 hph
                rw [show ((0 : Int) != 0) = false from rfl]
                go_wp2_with fail
                refine (HW8.out _ (HK8.out.alloc _)).mono ?_
                rintro e w9 ⟨v9, rfl, ho9, hk9⟩
                rw [hwl] at ho9
                obtain ⟨A9, c9, hv9, _, _, _, _⟩ := ownsRow_cell ho9
                subst hv9
                have hK9 := (HK8.out.alloc _).trans hk9
                have b2' : w9.cell? ⟨b, 2, none⟩ = some (.slice Ai 0 ci) := (hK9.cell0 blt 2).trans b2
                have b3' : w9.cell? ⟨b, 3, none⟩ = some (.slice Ao 0 co) := (hK9.cell0 blt 3).trans b3
                have b4' : w9.cell? ⟨b, 4, none⟩ = some (.int .i64 made) := (hK9.cell0 blt 4).trans b4
                have b5' : w9.cell? ⟨b, 5, none⟩ = some (.int .i64 made) := (hK9.cell0 blt 5).trans b5
                have blt' : b < w9.heap.size := Nat.lt_of_lt_of_le blt hK9.size
                have HBz := Lib.hid (hB.out.trans (hK9.to_below (B := w.heap.size) (fun x hx => absurd hx (by simp)) hB.out.size))
                clear ho9 hk9 hK9 b2 b3 b4 b5 blt HK8 HW8 HU HWt HSv
                go_wp2_with fail
                go_ret
                exact ⟨rfl, HBz.out⟩
              · obtain rfl : k = 100 := by omega
                go_wp2_with fail
                refine (HU.out wr (Chg.refl [] wr)).mono ?_
                rintro e w8 ⟨rfl, hk8⟩
                have HK8 := Lib.hid hk8
                have HW8 := Lib.hid (HWt.out)
                rw [hph]
                unfold mcells
                clear hk8 hph
                rw [show ((0 : Int) != 0) = false from rfl]
                go_wp2_with fail
                refine (HW8.out _ (HK8.out.alloc _)).mono ?_
                rintro e w9 ⟨v9, rfl, ho9, hk9⟩
                rw [hwl] at ho9
                obtain ⟨A9, c9, hv9, _, _, _, _⟩ := ownsRow_cell ho9
                subst hv9
                have hK9 := (HK8.out.alloc _).trans hk9
                have b2' : w9.cell? ⟨b, 2, none⟩ = some (.slice Ai 0 ci) := (hK9.cell0 blt 2).trans b2
                have b3' : w9.cell? ⟨b, 3, none⟩ = some (.slice Ao 0 co) := (hK9.cell0 blt 3).trans b3
                have b4' : w9.cell? ⟨b, 4, none⟩ = some (.int .i64 made) := (hK9.cell0 blt 4).trans b4
                have b5' : w9.cell? ⟨b, 5, none⟩ = some (.int .i64 made) := (hK9.cell0 blt 5).trans b5
                have blt' : b < w9.heap.size := Nat.lt_of_lt_of_le blt hK9.size
                have HBz := Lib.hid (hB.out.trans (hK9.to_below (B := w.heap.size) (fun x hx => absurd hx (by simp)) hB.out.size))
                clear ho9 hk9 hK9 b2 b3 b4 b5 blt HK8 HW8 HU HWt HSv
                go_wp2_with fail
                go_ret
                exact ⟨rfl, HBz.out⟩
            · have hk100 : k < 100 := Classical.byContradiction fun h => hend (hz0' (by omega))
              have hki : (k : Int) < 100 := by omega
              have hpos : 0 < S.inn.length + S.out.length := by
                by_cases h1 : S.inn = []
                · by_cases h2 : S.out = []
                  · exact absurd ⟨h1, h2⟩ hend
                  · have := List.length_pos_iff.2 h2; omega
                · have := List.length_pos_iff.2 h1; omega
              have hpi : (0 : Int) < (S.inn.length : Int) + (S.out.length : Int) := by omega
              have hli : (S.inn.length : Int) ≤ 90 := by omega
              have hlo : (S.out.length : Int) ≤ 90 := by omega
              have HE := Lib.hid hend; have HMu := Lib.hid hmu
              clear hend hpos hl hz0' hmu
              go_wp2_with fail
              clear b2 b3 blt
              refine (wact_any 2 0 (k : Int) (by decide) (by omega) HSv.out HI.out HM.out).mono ?_
              rintro e w5 ⟨rfl, S5, made5, got5, ⟨vi5, vo5, es5, H5⟩, hb5, I5, M5, hn5, hm2, _, hm23, hs2⟩
              have HS5 := Lib.hid H5; have HI5 := Lib.hid I5; have HM5 := Lib.hid M5; have HSn5 := Lib.hid (hn5.trans HSn.out); have HB5 := Lib.hid (hB.out.trans hb5)
              have HF5 := Lib.hid (And.intro (hm2 rfl) (And.intro (hm23 (.inl rfl)) (hs2 rfl)))
              clear H5 hb5 I5 M5 hn5 hm2 hm23 hs2
              go_wp2_with fail
              refine (wact_any 3 0 (k : Int) (by decide) (by omega) HS5.out HI5.out HM5.out).mono ?_
              rintro e w6 ⟨rfl, S6, made6, got6, ⟨vi6, vo6, es6, H6⟩, hb6, I6, M6, hn6, _, hm3, hm23, _⟩
              have HS6 := Lib.hid H6; have HI6 := Lib.hid I6; have HM6 := Lib.hid M6; have HSn6 := Lib.hid (hn6.trans HSn5.out); have HB6 := Lib.hid (HB5.out.trans hb6)
              have hlt : S6.mu < S.mu := by
                have a1 := HF5.out.1; have a2 := HF5.out.2.1; have a3 := HF5.out.2.2
                have a4 := hm23 (.inr rfl); have a5 := hm3 rfl
                by_cases h1 : S.inn = []
                · have h2 : S.out ≠ [] := fun h2 => HE.out ⟨h1, h2⟩
                  have e5 := a3 h1
                  subst e5
                  exact a5 h2
                · exact Nat.lt_of_le_of_lt a4 (a1 h1)
              have HLt := Lib.hid hlt
              clear H6 hb6 I6 M6 hn6 hm3 hm23 HF5 hlt HE
              go_wp2_with fail
              refine (wone_any HS6.out HI6.out).mono ?_
              rintro e w7 ⟨rfl, H7, hb7⟩
              have HS7 := Lib.hid H7; have HB7 := Lib.hid (HB6.out.trans hb7)
              have b7 : w7.cell? ⟨b, 7, none⟩ = some (.bool true) := H7.blk.cell 7
              have blt : b < w7.heap.size := H7.blk.lt
              clear H7 hb7
              go_wp2_with fail
              go_roundw
              case rel => exact ⟨k + 1, S6, by omega, by go_num, by have := HLt.out; have := HMu.out; omega, Lib.hid ⟨made6, got6, _, _, _, HS7.out, HI6.out, HM6.out, HSn6.out⟩, HB7⟩
              case measure => simp [intOf]; omega
    · have hgt : (400 : Int) < xs.length := by omega
      have hN := Lib.hid (fun w => DNew_ok w 2 (m : Int) (by decide) (by decide) (by omega))
      clear hlen hn
      go_enter Try.func4, Try.ntmps4
      go_wp2_with fail
      refine (HAl.out w).mono ?_
      rintro e w1 ⟨rfl, hC1⟩
      have HC1 := Lib.hid hC1
      clear hC1
      go_wp2_with fail
      refine (hN.out w1).mono ?_
      rintro e w2 ⟨d, bm, bw, bl, rfl, hC, hd, hg, D⟩
      have HC2 := Lib.hid (HC1.out.trans hC)
      clear hC hd hg D hN HAl HC1
      go_wp2_with fail
      go_ret
      exact ⟨rfl, HC2.out.nil_below⟩
  · have hN := Lib.hid (fun w => DNew_cores w 2 n (by decide) (by decide) (by omega))
    clear hn
    go_enter Try.func4, Try.ntmps4
    go_wp2_with fail
    refine (HAl.out w).mono ?_
    rintro e w1 ⟨rfl, hC1⟩
    have HC1 := Lib.hid hC1
    clear hC1
    go_wp2_with fail
    refine (hN.out w1).mono ?_
    rintro e w2 ⟨rfl, hC⟩
    have HC2 := Lib.hid (HC1.out.trans hC)
    clear hC hN HAl HC1
    go_wp2_with fail
    go_ret
    exact ⟨rfl, HC2.out.nil_below⟩
end Go.Proofs.Ytepdhajgemmoiaa
