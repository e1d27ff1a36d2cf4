/- The document's Acts, Counts. -/
import Derived.Test.YtagfalnfjiodcaaSched28
import Derived.Test.YtagfalnfjiodcaaSched15
namespace Go.Proofs.Ytagfalnfjiodcaa
open Go.RowKit

def OuRel (W : World) (l : IL) (i : Value) (wr : World) : Prop := ∃ k q : Nat, k ≤ l.length ∧ i = .int .i64 k ∧ (l.take k).any outN = false ∧ wr = W.drewN q
def ActIn (W : World) (B : Nat) (a0 : List (Int × Int)) (per : Nat) (vo i : Value) (wr : World) : Prop := ∃ k : Nat, k ≤ per ∧ i = .int .i64 k ∧ wr.ownsRow B 58 3 vo (a0.length + k) ((a0 ++ List.replicate k (2, 0)).flatMap encA) ∧ Chg [] W wr

set_option maxRecDepth 100000 in
set_option maxHeartbeats 4000000 in
theorem ActsR_any (W : World) (A : Option Addr) (cap : Nat) (l : IL) (per : Int) (hl : l.length ≤ 300) (hA : NumsA W A W.heap.size l) :
    Calls Try.prog 24 #[.slice A l.length cap, .int .i64 per] W (APost W (actR l per) (actE l per)) := by
  obtain ⟨i0, hi, hz0, hz1, hz2⟩ := info_parts infoAct
  have hl' : (l.length : Int) ≤ 300 := by omega
  have HA := Lib.hid hA
  clear hA
  go_enter Try.func24, Try.ntmps24
  go_wp2_with fail
  go_loopw [6] (fun i wr => OuRel W l i wr) (fun i _ => l.length - (intOf i).toNat)
  case atStart => exact ⟨0, 0, Nat.zero_le _, rfl, rfl, rfl⟩
  case round =>
    obtain ⟨k, q, hk, rfl, hno, rfl⟩ := hrel
    by_cases hlt : k < l.length
    · obtain ⟨b, off, rfl, _, d0⟩ := HA.out k hlt
      have hs : (l.take (k + 1)).any outN = outN l[k] := by
        rw [List.take_add_one, List.any_append, hno]
        simp [hlt]
      have hbad : outN l[k] = true → l.any outN = true := fun h => List.any_eq_true.2 ⟨_, List.getElem_mem hlt, h⟩
      have HS := Lib.hid hs
      have HB := Lib.hid hbad
      clear hs hno hbad
      generalize l[k] = y at *
      by_cases h1 : y < 0 ∨ 4 ≤ y
      · have hb := HB.out (by simp [outN]; omega)
        have e : actE l per = 240 := by unfold actE; rw [if_pos hb]
        rw [actR, e, if_neg (by decide)]
        clear hb e
        rcases h1 with h1 | h1
        · go_wp2_with fail
          go_ret2
          exact APost.bad ((Chg.refl _ _).drewN _)
        · have h0 : 0 ≤ y := by omega
          go_wp2_with fail
          go_ret2
          exact APost.bad ((Chg.refl _ _).drewN _)
      · have h2 : 0 ≤ y := by omega
        have h3 : y < 4 := by omega
        have HE := Lib.hid (show outN y = false from by simp [outN]; omega)
        clear h1
        go_wp2_with fail
        go_roundw
        case rel => exact ⟨k + 1, q, by omega, by go_num, by rw [HS.out, HE.out], rfl⟩
        case measure => simp [intOf]; omega
    · obtain rfl : k = l.length := by omega
      rw [List.take_length] at hno
      have ec : actE l per = if per < 0 ∨ 100 < per then 2 else 0 := by unfold actE; rw [if_neg (by rw [hno]; decide)]
      by_cases hp : per < 0 ∨ 100 < per
      · have HE1 := Lib.hid (show actE l per = 2 from by rw [ec, if_pos hp])
        have HE2 := Lib.hid (show actR l per = [] from by rw [actR, HE1.out, if_neg (by decide)])
        clear hno ec
        rcases hp with hp | hp
        · go_wp2_with fail
          go_ret2
          rw [HE1.out, HE2.out]
          exact APost.bad ((Chg.refl _ _).drewN _)
        · have h0 : 0 ≤ per := by omega
          go_wp2_with fail
          go_ret2
          rw [HE1.out, HE2.out]
          exact APost.bad ((Chg.refl _ _).drewN _)
      · obtain ⟨p, rfl⟩ : ∃ p : Nat, per = p := ⟨per.toNat, by omega⟩
        have HE1 := Lib.hid (show actE l p = 0 from by rw [ec, if_neg hp])
        have HE2 := Lib.hid (show actR l p = actsL l p from by rw [actR, HE1.out, if_pos rfl, Int.toNat_natCast])
        have hp1 : p ≤ 100 := by omega
        have hp' : (p : Int) ≤ 100 := by omega
        have HA1 := Lib.hid (HA.out.chg ((Chg.refl [] W).drewN q))
        have HC1 := Lib.hid ((Chg.refl [] W).drewN q)
        clear hno ec hp HA
        generalize W.drewN q = w1 at *
        have hs01 := HC1.out.size
        go_wp2_with fail
        go_loopw [7, 8] (fun vo i wr => ActRel w1 l p vo i wr) (fun _ i _ => l.length - (intOf i).toNat)
        case atStart => exact ⟨0, Nat.zero_le _, rfl, World.ownsRow_nil _ _ _ _, Chg.refl _ _⟩
        case round =>
          obtain ⟨k, hk, rfl, hO, hC⟩ := hrel
          by_cases hlt : k < l.length
          · obtain ⟨wo, rfl⟩ : ∃ wo : World, wo = wr := ⟨_, rfl⟩
            obtain ⟨b, off, rfl, _, d0⟩ := (HA1.out.chg hC) k hlt
            have HT := Lib.hid (show actsL (l.take (k + 1)) p = actsL (l.take k) p ++ ((1, l[k]) :: List.replicate p (2, 0)) from by rw [List.take_add_one, List.getElem?_eq_getElem hlt]; exact actsL_snoc _ _ _)
            have hlen : (actsL (l.take k) p).length = k * (p + 1) := by rw [actsL_len, List.length_take, Nat.min_eq_left (Nat.le_of_lt hlt)]
            have hle : (actsL (l.take k) p).length ≤ 30300 := by
              rw [hlen]; exact Nat.le_trans (Nat.mul_le_mul (show k ≤ 300 by omega) (show p + 1 ≤ 101 by omega)) (by decide)
            have HO := Lib.hid hO
            have HC := Lib.hid hC
            have hsw := hC.size
            clear hO hC hlen
            generalize l[k] = c at *
            generalize actsL (l.take k) p = a0 at *
            go_wp2_with (first
              | (at_builtin; refine wpList_append_own_at _ rfl (.tmp 45) (.tmp 51) 39 rfl (w1.heap.size) 58 i0 (.agg #[.int .i64 0, .int .i64 0, .int .i64 0]) 3 24 Try.underlying39 hi hz0 hz1 hz2 rfl (by decide) _ _ _ rfl (HO.out.alloc _) ⟨wo.heap.size, 0, none⟩ 1 1 [.int .i64 1, .int .i64 c, .int .i64 0] rfl rfl (cells_at (by simp) [.int .i64 1, .int .i64 c, .int .i64 0] _) (by simp [Value.oneCell']) (by unfold maxLen; omega) (by omega) (by first | omega | (simp; omega) | simp) ?_; intro va1 wa1 hown1 hgrow1 _ hblk1; have hsz1 := hgrow1.size; have HO1 := Lib.hid hown1; have HG1 := Lib.hid hgrow1; have HB1 := Lib.hid hblk1; clear hown1 hgrow1 hblk1))
            have hO1 := HO1.out
            rw [show [Value.int .i64 1, .int .i64 c, .int .i64 0] = encA (1, c) from rfl, ← flat_snoc, show a0.length + 1 = (a0 ++ [(1, c)]).length from by simp] at hO1
            have HOB := Lib.hid hO1
            have HC2 := Lib.hid ((HC.out.alloc _).grew (HO.out.alloc _) HG1.out (fun q h1 h2 => by omega))
            have hle2 : (a0 ++ [(1, c)]).length ≤ 30301 := by simp; omega
            have HT2 := Lib.hid (show actsL (l.take (k + 1)) p = (a0 ++ [(1, c)]) ++ List.replicate p (2, 0) from by rw [HT.out]; simp)
            clear hO1 HO1 HT HC HO HG1
            generalize a0 ++ [(1, c)] = a1 at *
            go_loopw [7, 9] (fun vo i wr => ActIn w1 w1.heap.size a1 p vo i wr) (fun _ i _ => p - (intOf i).toNat)
            case atStart => exact ⟨0, Nat.zero_le _, rfl, by simpa using HOB.out, HC2.out⟩
            case round =>
              obtain ⟨j, hj, rfl, hO, hC⟩ := hrel
              by_cases hltj : j < p
              · have HO := Lib.hid hO
                have HC := Lib.hid hC
                have hsw3 := hC.size
                clear hO hC
                go_wp2_with (first
                  | (at_builtin; refine wpList_append_own_at _ rfl (.tmp 58) (.tmp 60) 39 rfl (w1.heap.size) 58 i0 (.agg #[.int .i64 0, .int .i64 0, .int .i64 0]) 3 24 Try.underlying39 hi hz0 hz1 hz2 rfl (by decide) _ _ _ rfl (HO.out.alloc _) ⟨wr.heap.size, 0, none⟩ 1 1 [.int .i64 2, .int .i64 0, .int .i64 0] rfl rfl (cells_at (by simp) [.int .i64 2, .int .i64 0, .int .i64 0] _) (by simp [Value.oneCell']) (by unfold maxLen; omega) (by omega) (by first | omega | (simp; omega) | simp) ?_; intro va3 wa3 hown1 hgrow1 _ hblk1; have hsz3 := hgrow1.size; have HO3 := Lib.hid hown1; have HG3 := Lib.hid hgrow1; have HB3 := Lib.hid hblk1; clear hown1 hgrow1 hblk1))
                go_roundw
                case rel =>
                  refine ⟨j + 1, by omega, by go_num, ?_, (HC.out.alloc _).grew (HO.out.alloc _) HG3.out (fun q h1 h2 => by omega)⟩
                  have h := HO3.out
                  rw [List.replicate_succ', ← List.append_assoc, flat_snoc]
                  exact h
                case measure => simp [intOf]; omega
              · obtain rfl : j = p := by omega
                have HO := Lib.hid hO
                have HC := Lib.hid hC
                clear hO hC
                go_wp2_with fail
                go_roundw
                case rel =>
                  refine ⟨k + 1, by omega, by go_num, ?_, HC.out⟩
                  have h := HO.out
                  rw [HT2.out]
                  rw [show a1.length + j = (a1 ++ List.replicate j (2, 0)).length from by simp] at h
                  exact h
                case measure => simp [intOf]; omega
          · obtain rfl : k = l.length := by omega
            rw [List.take_length] at hO
            have HO := Lib.hid hO
            have HC := Lib.hid (HC1.out.trans hC)
            clear hO hC
            go_wp2_with fail
            go_ret2
            rw [HE1.out, HE2.out]
            exact ⟨_, rfl, ownsRow_base HO.out hs01, HC.out⟩

end Go.Proofs.Ytagfalnfjiodcaa
