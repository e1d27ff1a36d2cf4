/- What the law looks at behind each act. -/
import Derived.Test.YtepdhajgemmoiaaSrv1
import Derived.Test.YtepdhajgemmoiaaDir27
namespace Go.Proofs.Ytepdhajgemmoiaa
set_option maxRecDepth 100000
set_option linter.unusedSimpArgs false
set_option linter.unusedVariables false
open Go.RowKit

theorem take_count {p : HonV → Bool} {l : List HonV} {k : Nat} (h : k < l.length) : (l.take (k + 1)).countP p = (l.take k).countP p + if p l[k] then 1 else 0 := by
  rw [List.take_succ_eq_append_getElem h, List.countP_append, List.countP_singleton]
theorem take_le {p : HonV → Bool} {l : List HonV} {k : Nat} : (l.take k).countP p ≤ k := by
  refine Nat.le_trans List.countP_le_length ?_
  rw [List.length_take]; omega

set_option maxHeartbeats 4000000 in
theorem wone_any {N0 : Nat} {w : World} {b d bm bw bl bc : Nat} {vi vo : Value} {es : List EntV} {e0 : EntV} {S : SvS} {made got : Int} (H : SvW N0 w b d bm bw bl bc vi vo es e0 S made got) (I : SvI S) :
    Calls Try.prog 17 #[.pointer (some ⟨b, 0, none⟩)] w fun e w' => e = .returned (.bool true) ∧ SvW N0 w' b d bm bw bl bc vi vo es e0 S made got ∧ Below N0 w w' := by
  have hO := one_of I
  have hn4 : S.hs.length ≤ 4 := by have := I.hl; have := I.n; omega
  have hSh := Sharers_any w d bm bw bl 2 S.n S.ws es [e0, S.e] 1 H.K
  rw [show sharersK [e0, S.e] 1 = S.e.sh from rfl] at hSh
  have HSh := Lib.hid hSh
  have HOw : Hid (∀ W, Chg [] w W → Calls Try.prog 9 #[.pointer (some ⟨d, 0, none⟩), .int .i64 1] W fun e w' => e = .returned (.int .i64 S.e.ow) ∧ W = w') := Lib.hid (fun W hW => Owner_any W d bm bw bl 2 S.n S.ws es [e0, S.e] 1 (H.K.look hW))
  have HC : Hid (∀ (k : Nat) (hk : k < S.hs.length), w.cell? ⟨bc, k * 11, none⟩ = some (.int .i64 S.hs[k].st)) := Lib.hid (fun k hk => by have := H.hon.cell (k * 11 + 0); rw [flat_get encH_len S.hs k hk 0 (by decide)] at this; exact this)
  have b0 : w.cell? ⟨b, 0, none⟩ = some (.pointer (some ⟨d, 0, none⟩)) := H.blk.cell 0
  have b1 : w.cell? ⟨b, 1, none⟩ = some (.slice (some ⟨bc, 0, none⟩) S.hs.length S.hs.length) := H.blk.cell 1
  have blt : b < w.heap.size := H.blk.lt
  have clt : bc < w.heap.size := H.hon.lt
  have HH := Lib.hid H
  have HO := Lib.hid hO
  clear H I hSh hO
  go_enter Try.func17, Try.ntmps17
  go_wp2_with fail
  go_loopw [3, 4, 5] (fun h o i wr => ∃ k : Nat, k ≤ S.hs.length ∧ i = .int .i64 k ∧ h = .int .i64 ((S.hs.take k).countP (fun x => decide (0 < x.st)) : Nat) ∧ o = .int .i64 ((S.hs.take k).countP (fun x => decide (x.st = 2)) : Nat) ∧ Hid (wr = w))
    (fun _ _ i _ => S.hs.length - (intOf i).toNat)
  case atStart => exact ⟨0, by omega, rfl, rfl, rfl, Lib.hid rfl⟩
  case round =>
    obtain ⟨k, hk, rfl, rfl, rfl, hw⟩ := hrel
    obtain rfl := hw.out
    clear hw
    by_cases hlt : k < S.hs.length
    · have c0 := HC.out k hlt
      have hT0 := take_count (p := fun x => decide (0 < x.st)) hlt
      have hT2 := take_count (p := fun x => decide (x.st = 2)) hlt
      have hL0 := take_le (p := fun x => decide (0 < x.st)) (l := S.hs) (k := k)
      have hL2 := take_le (p := fun x => decide (x.st = 2)) (l := S.hs) (k := k)
      generalize (S.hs.take k).countP (fun x => decide (0 < x.st)) = n0 at *
      generalize (S.hs.take k).countP (fun x => decide (x.st = 2)) = n2 at *
      obtain ⟨y, hy⟩ : ∃ y, S.hs[k].st = y := ⟨_, rfl⟩
      rw [hy] at c0 hT0 hT2
      have HT0 := Lib.hid hT0; have HT2 := Lib.hid hT2
      have hb0 : (n0 : Int) ≤ 4 := by omega
      have hb2 : (n2 : Int) ≤ 4 := by omega
      have hki : (k : Int) < S.hs.length := by omega
      have hk4 : (k : Int) ≤ 4 := by omega
      clear hT0 hT2 hy hL0 hL2
      by_cases y0 : 0 < y
      · by_cases y2 : y = 2
        · subst y2
          go_wp2_with fail
          go_roundw
          case rel => exact ⟨k + 1, by omega, by go_num, by rw [HT0.out]; rfl, by rw [HT2.out]; rfl, (by first | exact Lib.hid rfl | exact Lib.hid trivial)⟩
          case measure => simp [intOf]; omega
        · have y2' : (y == 2) = false := by simpa using y2
          go_wp2_with fail
          go_roundw
          case rel => exact ⟨k + 1, by omega, by go_num, by rw [HT0.out]; simp [y0], by rw [HT2.out]; simp [y2], (by first | exact Lib.hid rfl | exact Lib.hid trivial)⟩
          case measure => simp [intOf]; omega
      · have y2 : ¬ y = 2 := by omega
        have y2' : (y == 2) = false := by simpa using y2
        go_wp2_with fail
        go_roundw
        case rel => exact ⟨k + 1, by omega, by go_num, by rw [HT0.out]; simp [y0], by rw [HT2.out]; simp [y2], (by first | exact Lib.hid rfl | exact Lib.hid trivial)⟩
        case measure => simp [intOf]; omega
    · obtain rfl : k = S.hs.length := by omega
      rw [List.take_length]
      have hL0 : S.hs.countP (fun x => decide (0 < x.st)) ≤ 4 := Nat.le_trans List.countP_le_length hn4
      have hL2 : S.hs.countP (fun x => decide (x.st = 2)) ≤ 4 := Nat.le_trans List.countP_le_length hn4
      generalize S.hs.countP (fun x => decide (0 < x.st)) = n0 at *
      generalize S.hs.countP (fun x => decide (x.st = 2)) = n2 at *
      clear HC
      go_wp2_with fail
      refine HSh.out.mono ?_
      rintro e w1 ⟨v, rfl, ho, hx⟩
      obtain ⟨A, cap, hv, hcap, hmx, _, _⟩ := ownsRow_cell ho
      subst hv
      have hOW := HOw.out w1 hx
      have HOW := Lib.hid hOW
      have HH1 := Lib.hid (HH.out.look hx)
      have HBl := Lib.hid (hx.to_below (B := N0) (fun x hx => absurd hx (by simp)) HH.out.lo.2.2)
      have b01 : w1.cell? ⟨b, 0, none⟩ = some (.pointer (some ⟨d, 0, none⟩)) := HH1.out.blk.cell 0
      have blt1 : b < w1.heap.size := HH1.out.blk.lt
      obtain ⟨h1, h2⟩ := HO.out
      clear ho hx hOW b0 b1 blt clt HSh HOw HO
      generalize (coresL S.e.sh 4) = cl at *
      by_cases z2 : n2 = 0
      · subst z2
        clear h1
        by_cases hw : S.e.ow < 0
        · go_wp2_with fail
          refine HOW.out.mono ?_
          rintro e w2 ⟨rfl, rfl⟩
          go_wp2_with fail
          go_ret
          exact ⟨rfl, HH1.out, HBl.out⟩
        · obtain rfl : cl = [] := h2.resolve_left hw
          go_wp2_with fail
          refine HOW.out.mono ?_
          rintro e w2 ⟨rfl, rfl⟩
          go_wp2_with fail
          go_ret
          exact ⟨rfl, HH1.out, HBl.out⟩
      · obtain rfl : n0 = 1 := h1.resolve_left z2
        have z2' : ((n2 : Int) == 0) = false := by simpa using z2
        by_cases hw : S.e.ow < 0
        · go_wp2_with fail
          refine HOW.out.mono ?_
          rintro e w2 ⟨rfl, rfl⟩
          go_wp2_with fail
          go_ret
          exact ⟨rfl, HH1.out, HBl.out⟩
        · obtain rfl : cl = [] := h2.resolve_left hw
          go_wp2_with fail
          refine HOW.out.mono ?_
          rintro e w2 ⟨rfl, rfl⟩
          go_wp2_with fail
          go_ret
          exact ⟨rfl, HH1.out, HBl.out⟩
end Go.Proofs.Ytepdhajgemmoiaa
