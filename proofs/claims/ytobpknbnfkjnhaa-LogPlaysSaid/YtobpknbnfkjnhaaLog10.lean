/- LogOrder. -/
import Derived.Test.YtobpknbnfkjnhaaLog9
namespace Go.Proofs.Ytobpknbnfkjnhaa
open Go.RowKit

theorem rdL_prefix (l : PL) (a v : Int) : l <+: rdL l a v := by
  unfold rdL putL
  split
  · exact List.prefix_refl _
  · split
    · exact List.prefix_refl _
    · split
      · exact List.prefix_refl _
      · exact List.prefix_append _ _
theorem wrL_fst (l : PL) (a v : Int) : l.map Prod.fst <+: (wrL l a v).map Prod.fst := by
  unfold wrL
  split
  · exact List.prefix_refl _
  · cases hp : place l a with
    | some i => rw [set_fst hp]; exact List.prefix_refl _
    | none =>
      unfold putL
      dsimp only
      split
      · exact List.prefix_refl _
      · rw [List.map_append]; exact List.prefix_append _ _
theorem play_prefix : ∀ (xs : List OpV) (s : RW), (∀ o ∈ xs, o.k ≠ 2) → s.1 <+: (opPlay s xs).1 ∧ s.2.map Prod.fst <+: (opPlay s xs).2.map Prod.fst
  | [], s, _ => ⟨List.prefix_refl _, List.prefix_refl _⟩
  | o :: xs, s, h => by
    have ih := play_prefix xs (opStep s o) (fun o' h' => h o' (by simp [h']))
    have h2 := h o (by simp)
    have hs : s.1 <+: (opStep s o).1 ∧ s.2.map Prod.fst <+: (opStep s o).2.map Prod.fst := by
      unfold opStep
      split
      · exact ⟨rdL_prefix _ _ _, List.prefix_refl _⟩
      · split
        · exact ⟨List.prefix_refl _, wrL_fst _ _ _⟩
        · first | exact ⟨List.prefix_refl _, List.prefix_refl _⟩ | (rw [if_neg h2]; exact ⟨List.prefix_refl _, List.prefix_refl _⟩)
    exact ⟨hs.1.trans ih.1, hs.2.trans ih.2⟩
theorem NN.from (xs : List OpV) (s : RW) (h : NN s.1 ∧ NN s.2) : NN (opPlay s xs).1 ∧ NN (opPlay s xs).2 := by
  induction xs generalizing s with
  | nil => exact h
  | cons o xs ih => exact ih _ (NN.step h o)
theorem once_ne {l : PL} (h : Once l) {j k : Nat} (hj : j < l.length) (hk : k < l.length) (hjk : j < k) : l[j].1 ≠ l[k].1 := fun e => by
  have h2 := List.pairwise_iff_getElem.1 h j k (by simpa using hj) (by simpa using hk) hjk
  exact h2 (by simpa using e)
theorem told_keep {w w' w'' : World} {v : Value} {l : PL} {F : List Nat} (h : w'.ownsRow w.heap.size 39 2 v l.length (cellsP l)) (hF : ∀ x ∈ F, x < w.heap.size) (c : Chg F w' w'') : w''.ownsRow w.heap.size 39 2 v l.length (cellsP l) :=
  ownsRow_chg h c (fun g hg hgF => by
    have h1 := (h.lt g (by simpa using hg)).1
    have h2 := hF g hgF
    omega)

set_option maxRecDepth 100000 in
set_option maxHeartbeats 8000000 in
theorem LogOrder_ok (w : World) (A A2 : Option Addr) (cap cap2 : Nat) (xs ys : List OpV) (hR : Rd w w.heap.size A 4 encOpV xs) (hR2 : Rd w w.heap.size A2 4 encOpV ys) (hl : xs.length ≤ 1000) (hl2 : ys.length ≤ 1000)
    (hok : ∀ o ∈ xs, (Lit.int .i64 o.a).wf = true ∧ (Lit.int .u64 o.v).wf = true) (hok2 : ∀ o ∈ ys, (Lit.int .i64 o.a).wf = true ∧ (Lit.int .u64 o.v).wf = true) :
    Calls Try.prog 5 #[.slice A xs.length cap, .slice A2 ys.length cap2] w (StaysPost w) := by
  have hl' : (xs.length : Int) ≤ 1000 := by omega
  have hl2' : (ys.length : Int) ≤ 1000 := by omega
  have HR := Lib.hid hR
  have HOK := Lib.hid hok
  have HR2 := Lib.hid hR2
  have HOK2 := Lib.hid hok2
  clear hR hok hR2 hok2
  go_enter Try.func5, Try.ntmps5
  go_wp2_with fail
  refine (alive_any _).mono ?_
  rintro e w1 ⟨rfl, h1⟩
  have HB := Lib.hid h1
  have hsz := h1.size
  clear h1
  go_wp2_with fail
  go_loopw [6] (fun i wr => ∃ k : Nat, k ≤ ys.length ∧ i = .int .i64 k ∧ (∀ j (hj : j < ys.length), j < k → ys[j].k ≠ 2) ∧ w1 = wr) (fun i _ => ys.length - (intOf i).toNat)
  case atStart => exact ⟨0, Nat.zero_le _, rfl, fun j _ h => absurd h (by omega), rfl⟩
  case round =>
    obtain ⟨k, hk, rfl, hno, rfl⟩ := hrel
    have HN := Lib.hid hno
    clear hno
    by_cases hlt : k < ys.length
    · obtain ⟨bi, off, rfl, hbb, hc⟩ := (HR2.out.below HB.out) (by omega)
      have c0 : w1.cell? ⟨bi, off + k * 4, none⟩ = some (.int .i64 ys[k].k) := hc k hlt 0 (by decide)
      clear hc
      by_cases h2 : ys[k].k = 2
      · rw [h2] at c0
        go_wp2_with fail
        go_ret
        exact ⟨rfl, HB.out⟩
      · have hb2 : (ys[k].k == 2) = false := by simpa using h2
        have hno' : ∀ j (hj : j < ys.length), j < k + 1 → ys[j].k ≠ 2 := fun j hj hjk => by
          by_cases e : j = k
          · subst e; exact h2
          · exact HN.out j hj (by omega)
        have HN2 := Lib.hid hno'
        clear hno' h2
        generalize ys[k].k = kk at *
        go_wp2_with fail
        go_roundw
        case rel => exact ⟨k + 1, by omega, by go_num, HN2.out, by first | rfl | trivial⟩
        case measure => simp [intOf]; omega
    · obtain rfl : k = ys.length := by omega
      have hno2 : ∀ o ∈ ys, o.k ≠ 2 := fun o ho => by
        obtain ⟨j, hj, rfl⟩ := List.getElem_of_mem ho
        exact HN.out j hj hj
      obtain ⟨R, W, hS⟩ : ∃ R W, opPlay ([], []) xs = (R, W) := ⟨_, _, rfl⟩
      obtain ⟨S, X, hT⟩ : ∃ S X, opPlay (R, W) ys = (S, X) := ⟨_, _, rfl⟩
      have hpre := play_prefix ys (R, W) hno2
      have hnn := NN.from ys (R, W) (by rw [← hS]; exact NN.play xs)
      rw [hT] at hpre hnn
      have HS := Lib.hid hS
      have HT := Lib.hid hT
      have HP := Lib.hid hpre
      have HNN := Lib.hid hnn
      clear hS hT hpre hnn hno2 hk hlt
      go_wp2_with fail
      refine (New_any _).mono ?_
      rintro e w2 ⟨g, F2, rfl, h1, h2⟩
      have H2 := Lib.hid (h1.own h2)
      clear h1 h2
      go_wp2_with fail
      refine (play_any w1.heap.size w1 _ g F2 ([], []) A cap xs ((HR.out.below (HB.out.trans (H2.out.bel.mono hsz))).mono hsz) hl HOK.out H2.out).mono ?_
      rintro e w4 ⟨rfl, F4, h1, h2⟩
      rw [HS.out] at h1
      have H4 := Lib.hid h1
      clear h1 h2
      go_wp2_with fail
      refine (Reads_any _ g F4 R W H4.out.l).mono ?_
      rintro e w5 ⟨v, rfl, h1, h2⟩
      obtain ⟨Ar, capr, rfl⟩ := told_len h1
      have R5 := Lib.hid h1
      have H5 := Lib.hid (H4.out.look h2)
      have z5 := h2.size
      clear h1 h2
      go_wp2_with fail
      refine (Writes_any _ g F4 R W H5.out.l).mono ?_
      rintro e w6 ⟨v, rfl, h1, h2⟩
      obtain ⟨Aw, capw, rfl⟩ := told_len h1
      have W6 := Lib.hid h1
      have R6 := Lib.hid (told_keep R5.out H4.out.l.lt (Chg.of_below h2 F4))
      have H6 := Lib.hid (H5.out.look h2)
      have z6 := h2.size
      clear h1 h2
      go_wp2_with fail
      refine (play_any w1.heap.size w1 _ g F4 (R, W) A2 cap2 ys ((HR2.out.below (HB.out.trans (H6.out.bel.mono hsz))).mono hsz) hl2 HOK2.out H6.out).mono ?_
      rintro e w7 ⟨rfl, F7, h1, h2⟩
      rw [HT.out] at h1
      have H7 := Lib.hid h1
      have W7 := Lib.hid (told_keep W6.out H5.out.l.lt h2.chg)
      have R7 := Lib.hid (told_keep R6.out H4.out.l.lt h2.chg)
      clear h1 h2
      go_wp2_with fail
      refine (Reads_any _ g F7 S X H7.out.l).mono ?_
      rintro e w8 ⟨v, rfl, h1, h2⟩
      obtain ⟨As, caps, rfl⟩ := told_len h1
      have S8 := Lib.hid h1
      have W8 := Lib.hid (told_keep (F := []) W7.out (by simp) (Chg.of_below h2 []))
      have R8 := Lib.hid (told_keep (F := []) R7.out (by simp) (Chg.of_below h2 []))
      have H8 := Lib.hid (H7.out.look h2)
      clear h1 h2
      go_wp2_with fail
      refine (Writes_any _ g F7 S X H8.out.l).mono ?_
      rintro e w9 ⟨v, rfl, h1, h2⟩
      obtain ⟨Ax, capx, rfl⟩ := told_len h1
      have PX := Lib.hid (PRd.of_row h1)
      have PS := Lib.hid (PRd.of_row (told_keep (F := []) S8.out (by simp) (Chg.of_below h2 [])))
      have PW := Lib.hid (PRd.of_row (told_keep (F := []) W8.out (by simp) (Chg.of_below h2 [])))
      have PR := Lib.hid (PRd.of_row (told_keep (F := []) R8.out (by simp) (Chg.of_below h2 [])))
      have H9 := Lib.hid (H8.out.look h2)
      clear h1 h2
      obtain ⟨⟨oS, _, mS⟩, oX, _, mX⟩ := H9.out.l.facts
      have OS := Lib.hid oS
      have OX := Lib.hid oX
      have lRS : R.length ≤ S.length := HP.out.1.length_le
      have lWX : W.length ≤ X.length := by simpa using HP.out.2.length_le
      clear oS oX z5 z6
      have mS2 : S.length ≤ 128 := mS
      have mX2 : X.length ≤ 128 := mX
      have mS' : (S.length : Int) ≤ 128 := by omega
      have mX' : (X.length : Int) ≤ 128 := by omega
      have lRS' : (R.length : Int) ≤ S.length := by omega
      have lWX' : (W.length : Int) ≤ X.length := by omega
      go_wp2_with fail
      go_loopw [12] (fun i wr => ∃ k : Nat, k ≤ S.length ∧ i = .int .i64 k ∧ ∃ n, wr = w9.drewN n) (fun i _ => S.length - (intOf i).toNat)
      case atStart => exact ⟨0, Nat.zero_le _, rfl, 0, rfl⟩
      case round =>
        obtain ⟨k, hk, rfl, n, rfl⟩ := hrel
        by_cases hlt : k < S.length
        · obtain ⟨b, hAb, _, c0, c1⟩ := PS.out k hlt
          subst hAb
          have eq : S[k]?.getD (0, 0) = S[k] := by simp [hlt]
          rw [eq] at c0 c1
          have hnn : 0 ≤ S[k].1 := HNN.out.1 _ (List.getElem_mem hlt)
          have hnb : decide (S[k].1 < 0) = false := by simp; omega
          have HNE : Hid (∀ j (hj : j < S.length), j < k → S[j].1 ≠ S[k].1) := Lib.hid fun j hj hjk => once_ne OS.out hj hlt hjk
          have HSK : Hid (∀ hr : k < R.length, R[k] = S[k]) := Lib.hid fun hr => HP.out.1.getElem hr
          clear eq
          by_cases hkr : k < R.length
          · obtain ⟨c, hAc, _, d0, d1⟩ := PR.out k hkr
            subst hAc
            have eq2 : R[k]?.getD (0, 0) = S[k] := by rw [← HSK.out hkr]; simp [hkr]
            rw [eq2] at d0 d1
            clear eq2 HSK
            generalize S[k].1 = sa at *
            generalize S[k].2 = sv at *
            go_wp2_with fail
            go_quiet (fail)
            go_wp2_with fail
            go_loopw [13] (fun i wr => ∃ j : Nat, j ≤ k ∧ i = .int .i64 j ∧ ∃ n, wr = w9.drewN n) (fun i _ => k - (intOf i).toNat)
            case atStart => exact ⟨0, Nat.zero_le _, rfl, _, World.drewN_drewN _ _ _⟩
            case round =>
              obtain ⟨j, hj, rfl, n2, rfl⟩ := hrel
              by_cases hjt : j < k
              · obtain ⟨b', hb', _, g0, _⟩ := PS.out j (by omega)
                obtain rfl : b = b' := by simpa using hb'
                have eq : S[j]?.getD (0, 0) = S[j]'(by omega) := by simp [show j < S.length from by omega]
                rw [eq] at g0
                have hne := HNE.out j (by omega) hjt
                have hneb : ((S[j]'(by omega)).1 == sa) = false := by simpa using hne
                clear eq hne hb'
                generalize (S[j]'(by omega)).1 = sj at *
                go_wp2_with fail
                go_quiet (fail)
                go_wp2_with fail
                go_roundw
                case rel => exact ⟨j + 1, by omega, by go_num, _, rfl⟩
                case measure => simp [intOf]; omega
              · obtain rfl : j = k := by omega
                go_wp2_with fail
                go_roundw
                case rel => exact ⟨j + 1, by omega, by go_num, _, rfl⟩
                case measure => simp [intOf]; omega
          · have hkb : decide (k < R.length) = false := by simpa using hkr
            clear HSK
            generalize S[k].1 = sa at *
            generalize S[k].2 = sv at *
            go_wp2_with fail
            go_quiet (fail)
            go_wp2_with fail
            go_loopw [13] (fun i wr => ∃ j : Nat, j ≤ k ∧ i = .int .i64 j ∧ ∃ n, wr = w9.drewN n) (fun i _ => k - (intOf i).toNat)
            case atStart => exact ⟨0, Nat.zero_le _, rfl, _, World.drewN_drewN _ _ _⟩
            case round =>
              obtain ⟨j, hj, rfl, n2, rfl⟩ := hrel
              by_cases hjt : j < k
              · obtain ⟨b', hb', _, g0, _⟩ := PS.out j (by omega)
                obtain rfl : b = b' := by simpa using hb'
                have eq : S[j]?.getD (0, 0) = S[j]'(by omega) := by simp [show j < S.length from by omega]
                rw [eq] at g0
                have hne := HNE.out j (by omega) hjt
                have hneb : ((S[j]'(by omega)).1 == sa) = false := by simpa using hne
                clear eq hne hb'
                generalize (S[j]'(by omega)).1 = sj at *
                go_wp2_with fail
                go_quiet (fail)
                go_wp2_with fail
                go_roundw
                case rel => exact ⟨j + 1, by omega, by go_num, _, rfl⟩
                case measure => simp [intOf]; omega
              · obtain rfl : j = k := by omega
                go_wp2_with fail
                go_roundw
                case rel => exact ⟨j + 1, by omega, by go_num, _, rfl⟩
                case measure => simp [intOf]; omega
        · obtain rfl : k = S.length := by omega
          go_wp2_with fail
          clear hlt hk
          go_loopw [14] (fun i wr => ∃ k : Nat, k ≤ X.length ∧ i = .int .i64 k ∧ ∃ n, wr = w9.drewN n) (fun i _ => X.length - (intOf i).toNat)
          case atStart => exact ⟨0, Nat.zero_le _, rfl, n, rfl⟩
          case round =>
            obtain ⟨k, hk, rfl, n, rfl⟩ := hrel
            by_cases hlt : k < X.length
            · obtain ⟨b, hAb, _, c0, c1⟩ := PX.out k hlt
              subst hAb
              have eq : X[k]?.getD (0, 0) = X[k] := by simp [hlt]
              rw [eq] at c0 c1
              have hnn : 0 ≤ X[k].1 := HNN.out.2 _ (List.getElem_mem hlt)
              have hnb : decide (X[k].1 < 0) = false := by simp; omega
              have HNE : Hid (∀ j (hj : j < X.length), j < k → X[j].1 ≠ X[k].1) := Lib.hid fun j hj hjk => once_ne OX.out hj hlt hjk
              have HSK : Hid (∀ hr : k < W.length, W[k].1 = X[k].1) := Lib.hid fun hr => by
                have := HP.out.2.getElem (i := k) (by simpa using hr)
                simpa using this
              clear eq
              by_cases hkr : k < W.length
              · obtain ⟨c, hAc, _, d0, d1⟩ := PW.out k hkr
                subst hAc
                have eq2 : (W[k]?.getD (0, 0)).1 = X[k].1 := by rw [← HSK.out hkr]; simp [hkr]
                rw [eq2] at d0
                clear d1
                clear eq2 HSK
                generalize X[k].1 = sa at *
                go_wp2_with fail
                go_quiet (fail)
                go_wp2_with fail
                go_loopw [15] (fun i wr => ∃ j : Nat, j ≤ k ∧ i = .int .i64 j ∧ ∃ n, wr = w9.drewN n) (fun i _ => k - (intOf i).toNat)
                case atStart => exact ⟨0, Nat.zero_le _, rfl, _, World.drewN_drewN _ _ _⟩
                case round =>
                  obtain ⟨j, hj, rfl, n2, rfl⟩ := hrel
                  by_cases hjt : j < k
                  · obtain ⟨b', hb', _, g0, _⟩ := PX.out j (by omega)
                    obtain rfl : b = b' := by simpa using hb'
                    have eq : X[j]?.getD (0, 0) = X[j]'(by omega) := by simp [show j < X.length from by omega]
                    rw [eq] at g0
                    have hne := HNE.out j (by omega) hjt
                    have hneb : ((X[j]'(by omega)).1 == sa) = false := by simpa using hne
                    clear eq hne hb'
                    generalize (X[j]'(by omega)).1 = sj at *
                    go_wp2_with fail
                    go_quiet (fail)
                    go_wp2_with fail
                    go_roundw
                    case rel => exact ⟨j + 1, by omega, by go_num, _, rfl⟩
                    case measure => simp [intOf]; omega
                  · obtain rfl : j = k := by omega
                    go_wp2_with fail
                    go_roundw
                    case rel => exact ⟨j + 1, by omega, by go_num, _, rfl⟩
                    case measure => simp [intOf]; omega
              · have hkb : decide (k < W.length) = false := by simpa using hkr
                clear HSK
                generalize X[k].1 = sa at *
                go_wp2_with fail
                go_quiet (fail)
                go_wp2_with fail
                go_loopw [15] (fun i wr => ∃ j : Nat, j ≤ k ∧ i = .int .i64 j ∧ ∃ n, wr = w9.drewN n) (fun i _ => k - (intOf i).toNat)
                case atStart => exact ⟨0, Nat.zero_le _, rfl, _, World.drewN_drewN _ _ _⟩
                case round =>
                  obtain ⟨j, hj, rfl, n2, rfl⟩ := hrel
                  by_cases hjt : j < k
                  · obtain ⟨b', hb', _, g0, _⟩ := PX.out j (by omega)
                    obtain rfl : b = b' := by simpa using hb'
                    have eq : X[j]?.getD (0, 0) = X[j]'(by omega) := by simp [show j < X.length from by omega]
                    rw [eq] at g0
                    have hne := HNE.out j (by omega) hjt
                    have hneb : ((X[j]'(by omega)).1 == sa) = false := by simpa using hne
                    clear eq hne hb'
                    generalize (X[j]'(by omega)).1 = sj at *
                    go_wp2_with fail
                    go_quiet (fail)
                    go_wp2_with fail
                    go_roundw
                    case rel => exact ⟨j + 1, by omega, by go_num, _, rfl⟩
                    case measure => simp [intOf]; omega
                  · obtain rfl : j = k := by omega
                    go_wp2_with fail
                    go_roundw
                    case rel => exact ⟨j + 1, by omega, by go_num, _, rfl⟩
                    case measure => simp [intOf]; omega
            · obtain rfl : k = X.length := by omega
              go_wp2_with fail
              go_ret
              exact ⟨rfl, HB.out.trans ((H9.out.bel.trans (((Chg.refl [] w9).drewN n).nil_below.mono H9.out.le')).mono hsz)⟩

set_option maxRecDepth 100000 in
set_option maxHeartbeats 2000000 in
theorem LogOrder_any (w : World) (A A2 : Option Addr) (cap cap2 : Nat) (xs ys : List OpV) (hR : Rd w w.heap.size A 4 encOpV xs) (hR2 : Rd w w.heap.size A2 4 encOpV ys)
    (hok : ∀ o ∈ xs, (Lit.int .i64 o.a).wf = true ∧ (Lit.int .u64 o.v).wf = true) (hok2 : ∀ o ∈ ys, (Lit.int .i64 o.a).wf = true ∧ (Lit.int .u64 o.v).wf = true) :
    Calls Try.prog 5 #[.slice A xs.length cap, .slice A2 ys.length cap2] w (StaysPost w) := by
  by_cases hlen : 1000 < xs.length
  · have hl' : (1000 : Int) < xs.length := by omega
    go_enter Try.func5, Try.ntmps5
    go_wp2_with fail
    refine (alive_any _).mono ?_
    rintro e w1 ⟨rfl, h1⟩
    go_wp2_with fail
    go_ret
    exact ⟨rfl, h1⟩
  by_cases hlen2 : 1000 < ys.length
  · have hl' : (xs.length : Int) ≤ 1000 := by omega
    have hl2' : (1000 : Int) < ys.length := by omega
    go_enter Try.func5, Try.ntmps5
    go_wp2_with fail
    refine (alive_any _).mono ?_
    rintro e w1 ⟨rfl, h1⟩
    go_wp2_with fail
    go_ret
    exact ⟨rfl, h1⟩
  exact LogOrder_ok w A A2 cap cap2 xs ys hR hR2 (by omega) (by omega) hok hok2

end Go.Proofs.Ytobpknbnfkjnhaa
