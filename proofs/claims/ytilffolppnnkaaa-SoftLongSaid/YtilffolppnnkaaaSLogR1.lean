/- The document's log: Place, Value, Twin, Same. -/
import Derived.Test.YtilffolppnnkaaaSLog6
import Derived.Test.YtilffolppnnkaaaEl
namespace Go.Proofs.Ytilffolppnnkaaa
set_option maxRecDepth 100000
open Go.RowKit

theorem encP_len (p : Int × Int) : (encP p).length = 2 := rfl
theorem encP_one (l : PL) : ∀ u ∈ l.flatMap encP, u.oneCell' = true := by
  intro u hu
  obtain ⟨x, _, hx⟩ := List.mem_flatMap.1 hu
  simp [encP] at hx
  rcases hx with rfl | rfl <;> rfl
theorem cellsP_flat (l : PL) : cellsP l = l.flatMap encP := by rw [cellsP, List.flatMap]
abbrev RdP (w : World) (B : Nat) (A : Option Addr) (l : PL) : Prop := Rd w B A 2 encP l

def placeI (l : PL) (a : Int) : Int := match place l a with | some i => (i : Int) | none => -1
def PlRel (W : World) (l : PL) (a : Int) (i : Value) (wr : World) : Prop := ∃ k : Nat, k ≤ l.length ∧ i = .int .i64 k ∧ (∀ j (hj : j < l.length), j < k → l[j].1 ≠ a) ∧ wr = W

set_option maxHeartbeats 1000000 in
theorem Place_any (W : World) (A : Option Addr) (cap B : Nat) (l : PL) (a : Int) (hm : l.length ≤ 1000) (hA : RdP W B A l) :
    Calls Try.prog 99 #[.slice A l.length cap, .int .i64 a] W fun e w' => e = .returned (.int .i64 (placeI l a)) ∧ W = w' := by
  have HA := Lib.hid hA
  have hm' : (l.length : Int) ≤ 1000 := by omega
  clear hA
  go_enter Try.func99, Try.ntmps99
  go_wp2_with fail
  go_loopw [5] (fun i wr => PlRel W l a i wr) (fun i _ => l.length - (intOf i).toNat)
  case atStart => exact ⟨0, Nat.zero_le _, rfl, fun _ _ h => absurd h (by omega), rfl⟩
  case round =>
    obtain ⟨k, hk, rfl, hno, rfl⟩ := hrel
    have HN := Lib.hid hno
    clear hno
    by_cases hlt : k < l.length
    · obtain ⟨b, off, rfl, _, c⟩ := HA.out (by omega)
      have c0 : wr.cell? ⟨b, off + k * 2, none⟩ = some (.int .i64 l[k].1) := c k hlt 0 (by decide)
      clear c
      by_cases he : l[k].1 = a
      · have hp : place l a = some k := by
          rw [place, List.findIdx?_eq_some_iff_getElem]
          exact ⟨hlt, by simpa using he, fun j hj => by simpa using HN.out j (by omega) hj⟩
        have HP := Lib.hid (show placeI l a = k from by rw [placeI, hp])
        rw [he] at c0
        clear he hp
        go_wp2_with fail
        go_ret
        exact ⟨ret_int HP.out.symm, rfl⟩
      · have HN2 := Lib.hid (show ∀ j (hj : j < l.length), j < k + 1 → l[j].1 ≠ a from fun j hj h => by
          by_cases e : j = k
          · subst e; exact he
          · exact HN.out j hj (by omega))
        have hb : (l[k].1 == a) = false := by simpa using he
        clear he
        generalize l[k].1 = y at *
        go_wp2_with fail
        go_roundw
        case rel => exact ⟨k + 1, by omega, by go_num, HN2.out, rfl⟩
        case measure => simp [intOf]; omega
    · obtain rfl : k = l.length := by omega
      have hp : place l a = none := place_none.2 (fun p hp => by
        obtain ⟨i, hi, rfl⟩ := List.getElem_of_mem hp
        exact HN.out i hi hi)
      have HP := Lib.hid (show placeI l a = -1 from by rw [placeI, hp])
      clear hp
      go_wp2_with fail
      go_ret
      exact ⟨ret_int HP.out.symm, rfl⟩

theorem Value_any (W : World) (A : Option Addr) (cap B : Nat) (l : PL) (a : Int) (hm : l.length ≤ 1000) (hA : RdP W B A l) :
    Calls Try.prog 80 #[.slice A l.length cap, .int .i64 a] W fun e w' => e = .returned (.tuple #[.int .u64 (valOf l a), .bool (isIn l a)]) ∧ W = w' := by
  have HP := Lib.hid (Place_any W A cap B l a hm hA)
  have HA := Lib.hid hA
  clear hA
  cases hp : place l a with
  | some i =>
    obtain ⟨hi, _⟩ := place_lt hp
    obtain ⟨b, off, rfl, _, c⟩ := HA.out (by omega)
    have c1 : W.cell? ⟨b, off + i * 2 + 1, none⟩ = some (.int .u64 l[i].2) := c i hi 1 (by decide)
    have HE := Lib.hid (show placeI l a = i from by rw [placeI, hp])
    have HV := Lib.hid (show valOf l a = l[i].2 ∧ isIn l a = true from by simp [valOf, isIn, hp, hi])
    have hi' : (i : Int) < l.length := by omega
    have hm' : (l.length : Int) ≤ 1000 := by omega
    clear c hp
    generalize l[i].2 = v at *
    go_enter Try.func80, Try.ntmps80
    go_wp2_with fail
    refine HP.out.mono ?_
    rintro e w' ⟨rfl, rfl⟩
    rw [HE.out]
    go_wp2_with fail
    go_ret2
    exact ⟨by rw [HV.out.1, HV.out.2]; rfl, rfl⟩
  | none =>
    have HE := Lib.hid (show placeI l a = -1 from by rw [placeI, hp])
    have HV := Lib.hid (show valOf l a = 0 ∧ isIn l a = false from by simp [valOf, isIn, hp])
    clear hp
    go_enter Try.func80, Try.ntmps80
    go_wp2_with fail
    refine HP.out.mono ?_
    rintro e w' ⟨rfl, rfl⟩
    rw [HE.out]
    go_wp2_with fail
    go_ret2
    exact ⟨by rw [HV.out.1, HV.out.2]; rfl, rfl⟩

/-- A list of pairs of a call's own. -/
def PairsPost (W : World) (l : PL) (e : Ending) (w' : World) : Prop := ∃ v, e = .returned v ∧ w'.ownsRow W.heap.size 85 2 v l.length (l.flatMap encP) ∧ Chg [] W w'

theorem Twin_any (W : World) (A : Option Addr) (cap B : Nat) (l : PL) (hm : l.length ≤ 1000) (hcap : l.length ≤ cap) (hA0 : A = none → cap = 0) (hA : RdP W B A l) :
    Calls Try.prog 100 #[.slice A l.length cap] W (PairsPost W l) := by
  obtain ⟨i0, hi, hz0, hz1, hz2⟩ := info_parts infoPair
  have H0 := Lib.hid hA0
  have HN := Lib.hid (hA.news (by decide) encP_len)
  clear hA0 hA
  go_enter Try.func100, Try.ntmps100
  go_wp2_with (first
    | (at_builtin; refine wpList_append_own_any _ rfl (.tmp 4) (.tmp 5) 56 rfl (W.heap.size) 85 i0 (.agg #[.int .i64 0, .int .u64 0]) 2 16 Try.underlying56 hi hz0 hz1 hz2 rfl (by decide) _ _ _ rfl (World.ownsRow_nil W W.heap.size _ 2) A (l.length) (cap) (List.flatMap encP l) rfl H0.out (flat_len encP_len _) hcap HN.out (encP_one _) (by unfold maxLen; omega) (by omega) (by first | omega | (simp; omega) | simp) ?_; intro va1 wa1 hown1 hgrow1 hblk1 hnil1; have hsz1 := hgrow1.size; have HO1 := Lib.hid hown1; have HG1 := Lib.hid hgrow1; have HB1 := Lib.hid hblk1; have HZ1 := Lib.hid hnil1; clear hown1 hgrow1 hblk1 hnil1))
  go_ret
  have h := HO1.out
  rw [Nat.zero_add, List.nil_append] at h
  exact ⟨_, rfl, h, (Chg.refl [] W).grew (World.ownsRow_nil W W.heap.size 85 2) HG1.out (fun q h1 h2 => by omega)⟩

def SpRel (W : World) (n : Nat) (i : Value) (wr : World) : Prop := ∃ k q : Nat, k ≤ n ∧ i = .int .i64 k ∧ wr = W.drewN q

set_option maxHeartbeats 1000000 in
theorem SameP_q (W : World) (A B : Option Addr) (cap cap' n₀ n₁ : Nat) (l : PL) (hm : l.length ≤ 1000) (hA : RdP W n₀ A l) (hB : RdP W n₁ B l) :
    Calls Try.prog 86 #[.slice A l.length cap, .slice B l.length cap'] W fun e w' => e = .returned (.bool true) ∧ ∃ q, w' = W.drewN q := by
  have HA := Lib.hid hA
  have HB := Lib.hid hB
  have hm' : (l.length : Int) ≤ 1000 := by omega
  clear hA hB
  go_enter Try.func86, Try.ntmps86
  go_wp2_with fail
  go_loopw [5] (fun i wr => SpRel W l.length i wr) (fun i _ => l.length - (intOf i).toNat)
  case atStart => exact ⟨0, 0, Nat.zero_le _, rfl, rfl⟩
  case round =>
    obtain ⟨k, q, hk, rfl, rfl⟩ := hrel
    by_cases hlt : k < l.length
    · obtain ⟨b, off, rfl, _, c⟩ := HA.out (by omega)
      obtain ⟨b2, off2, rfl, _, d⟩ := HB.out (by omega)
      have c0 : W.cell? ⟨b, off + k * 2, none⟩ = some (.int .i64 l[k].1) := c k hlt 0 (by decide)
      have c1 : W.cell? ⟨b, off + k * 2 + 1, none⟩ = some (.int .u64 l[k].2) := c k hlt 1 (by decide)
      have d0 : W.cell? ⟨b2, off2 + k * 2, none⟩ = some (.int .i64 l[k].1) := d k hlt 0 (by decide)
      have d1 : W.cell? ⟨b2, off2 + k * 2 + 1, none⟩ = some (.int .u64 l[k].2) := d k hlt 1 (by decide)
      clear c d
      generalize l[k].1 = x0 at *
      generalize l[k].2 = x1 at *
      go_wp2_with fail
      go_quiet (fail)
      go_wp2_with fail
      go_roundw
      case rel => exact ⟨k + 1, _, by omega, by go_num, rfl⟩
      case measure => simp [intOf]; omega
    · obtain rfl : k = l.length := by omega
      go_wp2_with fail
      go_ret
      exact ⟨rfl, q, rfl⟩

end Go.Proofs.Ytilffolppnnkaaa
