/- Acts. -/
import Derived.Test.YtagfalnfjiodcaaSched27
import Derived.Test.YtagfalnfjiodcaaEl
namespace Go.Proofs.Ytagfalnfjiodcaa
open Go.RowKit

def outN (x : Int) : Bool := decide (x < 0) || decide (4 ≤ x)

theorem acts1_any (w : World) (x : Int) :
    Calls Try.prog 46 #[.int .i64 x] w fun e w' => e = .returned (.bool (outN x)) ∧ w = w' := by
  go_enter Try.func46, Try.ntmps46
  go_wp2
  all_goals go_ret
  all_goals first | exact ⟨rfl, rfl⟩ | exact ⟨ret_bool (by simp [outN, *]), rfl⟩

def firstOut (l : IL) : Int := match l.findIdx? outN with | some i => (i : Int) | none => -1

set_option maxHeartbeats 1000000 in
theorem IndexActs_any (w : World) (A : Option Addr) (cap n₀ : Nat) (l : IL) (hm : l.length ≤ 1000) (hA : NumsA w A n₀ l) :
    Calls Try.prog 53 #[.slice A l.length cap, .func (.func 46) #[] #[]] w fun e w' => e = .returned (.int .i64 (firstOut l)) ∧ w = w' := by
  have H := Lib.hid hA
  clear hA
  go_enter Try.func53, Try.ntmps53
  go_wp2_with fail
  go_loopw [8] (fun j wr => ∃ k : Nat, k ≤ l.length ∧ j = .int .i64 k ∧ (∀ i (hi : i < l.length), i < k → outN l[i] = false) ∧ w = wr) (fun j _ => l.length - (intOf j).toNat)
  case atStart => exact ⟨0, Nat.zero_le _, rfl, fun i _ h => absurd h (by omega), rfl⟩
  case round =>
    obtain ⟨k, hk, rfl, hno, rfl⟩ := hrel
    have HN := Lib.hid hno
    clear hno
    by_cases hlt : k < l.length
    · obtain ⟨p, off, rfl, _, c1⟩ := H.out k hlt
      cases hb : outN l[k] with
      | true =>
        have hf : firstOut l = (k : Int) := by
          have : l.findIdx? (outN) = some k := by
            rw [List.findIdx?_eq_some_iff_getElem]
            exact ⟨hlt, hb, fun j hj => by simpa using HN.out j (by omega) hj⟩
          simp [firstOut, this]
        have HF := Lib.hid hf
        have HB := Lib.hid hb
        clear hb hf
        generalize l[k] = lk at *
        go_wp2_with fail
        refine (acts1_any _ lk).mono ?_
        rintro e w' ⟨rfl, rfl⟩
        rw [HB.out]
        go_wp2_with fail
        go_ret
        exact ⟨ret_int HF.out.symm, rfl⟩
      | false =>
        have hno' : ∀ i (hi : i < l.length), i < k + 1 → outN l[i] = false := fun i hi hik => by
          by_cases e : i = k
          · subst e; exact hb
          · exact HN.out i hi (by omega)
        have HN2 := Lib.hid hno'
        have HB := Lib.hid hb
        clear hb hno'
        generalize l[k] = lk at *
        go_wp2_with fail
        refine (acts1_any _ lk).mono ?_
        rintro e w' ⟨rfl, rfl⟩
        rw [HB.out]
        go_wp2_with fail
        go_roundw
        case rel => exact ⟨k + 1, by omega, by go_num, HN2.out, by first | rfl | trivial⟩
        case measure => simp [intOf]; omega
    · obtain rfl : k = l.length := by omega
      have hf : firstOut l = -1 := by
        have : l.findIdx? (outN) = none := by
          rw [List.findIdx?_eq_none_iff]
          intro x hx
          obtain ⟨i, hi, rfl⟩ := List.getElem_of_mem hx
          exact HN.out i hi hi
        simp [firstOut, this]
      have HF := Lib.hid hf
      clear hf
      go_wp2_with fail
      go_ret
      exact ⟨ret_int HF.out.symm, rfl⟩

theorem firstOut_ge (l : IL) : (decide (0 ≤ firstOut l)) = l.any (outN) := by
  unfold firstOut
  cases h : l.findIdx? (outN) with
  | some i =>
    obtain ⟨hi, hb, _⟩ := List.findIdx?_eq_some_iff_getElem.1 h
    have : l.any (outN) = true := List.any_eq_true.2 ⟨l[i], List.getElem_mem hi, hb⟩
    rw [this]; simp
  | none =>
    have : l.any (outN) = false := by
      rw [List.any_eq_false]
      intro x hx
      have := (List.findIdx?_eq_none_iff.1 h) x hx
      simp [this]
    rw [this]; simp

theorem ContainsActs_any (w : World) (A : Option Addr) (cap n₀ : Nat) (l : IL) (hm : l.length ≤ 1000) (hA : NumsA w A n₀ l) :
    Calls Try.prog 45 #[.slice A l.length cap, .func (.func 46) #[] #[]] w fun e w' => e = .returned (.bool (l.any (outN))) ∧ w = w' := by
  have H := Lib.hid hA
  have E := Lib.hid (firstOut_ge l)
  clear hA
  go_enter Try.func45, Try.ntmps45
  go_wp2_with fail
  refine (IndexActs_any _ A cap n₀ l hm H.out).mono ?_
  rintro e w' ⟨rfl, rfl⟩
  go_wp2_with fail
  go_ret
  exact ⟨ret_bool (by rw [← E.out]), rfl⟩


/-- An act: its kind, its core. -/
def encA (x : Int × Int) : List Value := [.int .i64 x.1, .int .i64 x.2, .int .i64 0]
theorem encA_len (x : Int × Int) : (encA x).length = 3 := rfl
theorem encA_one (l : List (Int × Int)) : ∀ u ∈ l.flatMap encA, u.oneCell' = true := by
  intro u hu
  obtain ⟨x, _, hx⟩ := List.mem_flatMap.1 hu
  simp [encA] at hx
  rcases hx with rfl | rfl | rfl <;> rfl
def actsOf (per : Nat) (c : Int) : List (Int × Int) := (1, c) :: List.replicate per (2, 0)
def actsL (l : IL) (per : Nat) : List (Int × Int) := l.flatMap (actsOf per)
theorem actsL_snoc (l : IL) (c : Int) (per : Nat) : actsL (l ++ [c]) per = actsL l per ++ ((1, c) :: List.replicate per (2, 0)) := by simp [actsL, actsOf]
theorem actsL_len (l : IL) (per : Nat) : (actsL l per).length = l.length * (per + 1) := by
  induction l with
  | nil => simp [actsL]
  | cons c l ih =>
    rw [actsL, List.flatMap_cons, List.length_append, ← actsL, ih]
    simp [actsOf, Nat.succ_mul]
    omega
theorem bus_flat (per : Nat) : (List.replicate per ((2, 0) : Int × Int)).flatMap encA = busK per per := by
  apply List.ext_getElem?
  intro i
  by_cases hi : i < per * 3
  · have h1 := flat_get encA_len (List.replicate per ((2, 0) : Int × Int)) (i / 3) (by simp; omega) (i % 3) (Nat.mod_lt _ (by decide))
    rw [show i / 3 * 3 + i % 3 = i from by omega] at h1
    rw [h1, busK_get _ _ _ hi]
    simp only [List.getElem_replicate]
    have : i % 3 = 0 ∨ i % 3 = 1 ∨ i % 3 = 2 := by omega
    rcases this with e | e | e <;> rw [e] <;> simp [encA, hi]
  · rw [List.getElem?_eq_none (by rw [flat_len encA_len]; simp; omega), List.getElem?_eq_none (by rw [busK_len]; omega)]

/-- What Acts answers. -/
def actE (l : IL) (per : Int) : Int := if l.any outN = true then 240 else if per < 0 ∨ 100 < per then 2 else 0
def actR (l : IL) (per : Int) : List (Int × Int) := if actE l per = 0 then actsL l per.toNat else []
def APost (W : World) (l : List (Int × Int)) (err : Int) (e : Ending) (w' : World) : Prop := ∃ v, e = .returned (.tuple #[v, .int .i64 err]) ∧ w'.ownsRow W.heap.size 58 3 v l.length (l.flatMap encA) ∧ Chg [] W w'
theorem APost.bad {w w' : World} {err : Int} (h : Chg [] w w') : APost w [] err (.returned (.tuple #[.slice none 0 0, .int .i64 err])) w' := ⟨_, rfl, World.ownsRow_nil _ _ _ _, h⟩

def ActRel (W : World) (l : IL) (per : Nat) (vo i : Value) (wr : World) : Prop := ∃ k : Nat, k ≤ l.length ∧ i = .int .i64 k ∧ wr.ownsRow W.heap.size 58 3 vo (actsL (l.take k) per).length ((actsL (l.take k) per).flatMap encA) ∧ Chg [] W wr

set_option maxRecDepth 100000 in
set_option maxHeartbeats 4000000 in
theorem Acts_ok (W : World) (A : Option Addr) (cap : Nat) (l : IL) (per : Nat) (hl : l.length ≤ 300) (hp : per ≤ 100) (ho : l.any outN = false) (hA : NumsA W A W.heap.size l) :
    Calls Try.prog 23 #[.slice A l.length cap, .int .i64 (per : Int)] W (APost W (actsL l per) 0) := by
  obtain ⟨i0, hi, hz0, hz1, hz2⟩ := info_parts infoAct
  have hl' : (l.length : Int) ≤ 300 := by omega
  have hp' : (per : Int) ≤ 100 := by omega
  have hCF := ContainsActs_any W A cap W.heap.size l (by omega) hA
  rw [ho] at hCF
  have HCF := Lib.hid hCF
  have HA := Lib.hid hA
  have hd1 : decide ((per : Int) < 0) = false := by simp
  have hd2 : decide ((100 : Int) < per) = false := by simp; omega
  clear hA hCF ho
  go_enter Try.func23, Try.ntmps23
  go_wp2_with fail
  refine HCF.out.mono ?_
  rintro e w' ⟨rfl, rfl⟩
  go_wp2_with fail
  go_loopw [6, 24] (fun vo i wr => ActRel W l per vo i wr) (fun _ i _ => l.length - (intOf i).toNat)
  case atStart => exact ⟨0, Nat.zero_le _, rfl, World.ownsRow_nil _ _ _ _, Chg.refl _ _⟩
  case round =>
    obtain ⟨k, hk, rfl, hO, hC⟩ := hrel
    by_cases hlt : k < l.length
    · obtain ⟨b, off, rfl, _, d0⟩ := (HA.out.chg hC) k hlt
      have HT := Lib.hid (show actsL (l.take (k + 1)) per = actsL (l.take k) per ++ ((1, l[k]) :: List.replicate per (2, 0)) from by rw [List.take_add_one, List.getElem?_eq_getElem hlt]; exact actsL_snoc _ _ _)
      have hlen : (actsL (l.take k) per).length = k * (per + 1) := by rw [actsL_len, List.length_take, Nat.min_eq_left (Nat.le_of_lt hlt)]
      have hle : (actsL (l.take k) per).length ≤ 30300 := by
        rw [hlen]; exact Nat.le_trans (Nat.mul_le_mul (show k ≤ 300 by omega) (show per + 1 ≤ 101 by omega)) (by decide)
      have HO := Lib.hid hO
      have HC := Lib.hid hC
      have hsw := hC.size
      clear hO hC hlen
      generalize l[k] = c at *
      generalize actsL (l.take k) per = a0 at *
      go_wp2_with (first
        | (at_builtin; refine wpList_append_own_at _ rfl (.tmp 28) (.tmp 31) 39 rfl (W.heap.size) 58 i0 (.agg #[.int .i64 0, .int .i64 0, .int .i64 0]) 3 24 Try.underlying39 hi hz0 hz1 hz2 rfl (by decide) _ _ _ rfl (HO.out.alloc _) ⟨wr.heap.size, 0, none⟩ 1 1 [.int .i64 1, .int .i64 c, .int .i64 0] rfl rfl (cells_at (by simp) [.int .i64 1, .int .i64 c, .int .i64 0] _) (by simp [Value.oneCell']) (by unfold maxLen; omega) (by omega) (by first | omega | (simp; omega) | simp) ?_; intro va1 wa1 hown1 hgrow1 _ hblk1; have hsz1 := hgrow1.size; have HO1 := Lib.hid hown1; have HG1 := Lib.hid hgrow1; have HB1 := Lib.hid hblk1; clear hown1 hgrow1 hblk1))
      have HC1 := Lib.hid ((HC.out.alloc _).grew (HO.out.alloc _) HG1.out (fun q h1 h2 => by omega))
      have HRp := Lib.hid (Repeat_any (wa1.alloc (.cells #[.int .i64 2, .int .i64 0, .int .i64 0] 58)) wa1.heap.size per hp (Blk.new wa1 [.int .i64 2, .int .i64 0, .int .i64 0] _))
      refine HRp.out.mono ?_
      rintro e w2 ⟨g, rfl, hB2, hg2, hC2⟩
      have HB2 := Lib.hid hB2.news
      have HC2 := Lib.hid ((HC1.out.alloc _).trans hC2)
      have HO2 := Lib.hid (ownsRow_chg (HO1.out.alloc _) hC2 (by simp))
      have hs2 := HC2.out.size
      have hs3 := hB2.lt
      clear hB2 hC2 HRp
      go_wp2_with (first
        | (at_builtin; refine wpList_append_own_any _ rfl (.tmp 33) (.tmp 37) 39 rfl (W.heap.size) 58 i0 (.agg #[.int .i64 0, .int .i64 0, .int .i64 0]) 3 24 Try.underlying39 hi hz0 hz1 hz2 rfl (by decide) _ _ _ rfl (HO2.out) (some ⟨g, 0, none⟩) (per) (per) (busK per per) rfl (fun h => nomatch h) (busK_len per per) (Nat.le_refl _) HB2.out (busK_one per per) (by unfold maxLen; omega) (by omega) (by first | omega | (simp; omega) | simp) ?_; intro va3 wa3 hown1 hgrow1 hblk1 hnil1; have hsz3 := hgrow1.size; have HO3 := Lib.hid hown1; have HG3 := Lib.hid hgrow1; have HB3 := Lib.hid hblk1; have HZ3 := Lib.hid hnil1; clear hown1 hgrow1 hblk1 hnil1))
      go_roundw
      case rel =>
        refine ⟨k + 1, by omega, by go_num, ?_, HC2.out.grew HO2.out HG3.out (fun q h1 h2 => by omega)⟩
        have h := HO3.out
        rw [HT.out, flat_app, List.flatMap_cons, bus_flat, ← List.append_assoc, List.length_append, List.length_cons, List.length_replicate, show a0.length + (per + 1) = a0.length + 1 + per from by omega]
        exact h
      case measure => simp [intOf]; omega
    · obtain rfl : k = l.length := by omega
      rw [List.take_length] at hO
      have HO := Lib.hid hO
      have HC := Lib.hid hC
      clear hO hC
      go_wp2_with fail
      go_ret2
      exact ⟨_, rfl, HO.out, HC.out⟩

theorem Acts_any (W : World) (A : Option Addr) (cap : Nat) (l : IL) (per : Int) (hl : l.length ≤ 300) (hA : NumsA W A W.heap.size l) :
    Calls Try.prog 23 #[.slice A l.length cap, .int .i64 per] W (APost W (actR l per) (actE l per)) := by
  have hCF := ContainsActs_any W A cap W.heap.size l (by omega) hA
  have hl' : (l.length : Int) ≤ 300 := by omega
  cases ho : l.any outN with
  | true =>
    have e : actE l per = 240 := by unfold actE; rw [if_pos ho]
    rw [actR, e, if_neg (by decide)]
    rw [ho] at hCF
    have HCF := Lib.hid hCF
    clear hA hCF e ho
    go_enter Try.func23, Try.ntmps23
    go_wp2_with fail
    refine HCF.out.mono ?_
    rintro e w' ⟨rfl, rfl⟩
    go_wp2_with fail
    go_ret2
    exact APost.bad (Chg.refl _ _)
  | false =>
    rw [ho] at hCF
    by_cases h1 : per < 0 ∨ 100 < per
    · have e : actE l per = 2 := by unfold actE; rw [if_neg (by rw [ho]; decide), if_pos h1]
      rw [actR, e, if_neg (by decide)]
      have HCF := Lib.hid hCF
      clear hA hCF e ho
      rcases h1 with h1 | h1
      · go_enter Try.func23, Try.ntmps23
        go_wp2_with fail
        refine HCF.out.mono ?_
        rintro e w' ⟨rfl, rfl⟩
        go_wp2_with fail
        go_ret2
        exact APost.bad (Chg.refl _ _)
      · have h0 : 0 ≤ per := by omega
        go_enter Try.func23, Try.ntmps23
        go_wp2_with fail
        refine HCF.out.mono ?_
        rintro e w' ⟨rfl, rfl⟩
        go_wp2_with fail
        go_ret2
        exact APost.bad (Chg.refl _ _)
    · have e : actE l per = 0 := by unfold actE; rw [if_neg (by rw [ho]; decide), if_neg h1]
      rw [actR, e, if_pos rfl]
      obtain ⟨p, rfl⟩ : ∃ p : Nat, per = p := ⟨per.toNat, by omega⟩
      exact Acts_ok W A cap l p hl (by omega) ho hA

end Go.Proofs.Ytagfalnfjiodcaa
