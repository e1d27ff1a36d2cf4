/- slices.Contains of integers. -/
import Derived.Test.YthlhjahhjoclfaaLibs2
namespace Go.Proofs.Ythlhjahhjoclfaa
open Go.RowKit

def encN (x : Int) : List Value := [.int .i64 x]
theorem encN_len (x : Int) : (encN x).length = 1 := rfl
theorem Rd.num {w : World} {B : Nat} {A : Option Addr} {l : List Int} (h : Rd w B A 1 encN l) {k : Nat} (hk : k < l.length) : ∃ b off, A = some ⟨b, off, none⟩ ∧ b < B ∧ w.cell? ⟨b, off + k, none⟩ = some (.int .i64 l[k]) := by
  obtain ⟨b, off, e, hb, hc⟩ := h (by omega)
  refine ⟨b, off, e, hb, ?_⟩
  have := hc k hk 0 (by decide)
  rwa [Nat.mul_one, Nat.add_zero] at this

def idxOf (x : Int) (l : List Int) : Int := match l.findIdx? (· == x) with | some i => (i : Int) | none => -1
theorem idxOf_ge (x : Int) (l : List Int) : decide (0 ≤ idxOf x l) = l.contains x := by
  unfold idxOf
  cases h : l.findIdx? (· == x) with
  | some i =>
    obtain ⟨hi, hb, _⟩ := List.findIdx?_eq_some_iff_getElem.1 h
    have : l.contains x = true := List.contains_iff_mem.2 (by simp at hb; rw [← hb]; exact List.getElem_mem hi)
    rw [this]; simp
  | none =>
    have : l.contains x = false := by
      rw [Bool.eq_false_iff]
      intro hc
      have hm := List.contains_iff_mem.1 hc
      have := (List.findIdx?_eq_none_iff.1 h) x hm
      simp at this
    rw [this]; simp

set_option maxHeartbeats 1000000 in
theorem Index_any (w : World) (A : Option Addr) (cap B : Nat) (l : List Int) (x : Int) (hm : l.length ≤ 100) (hA : Rd w B A 1 encN l) :
    Calls Try.prog 65 #[.slice A l.length cap, .int .i64 x] w fun e w' => e = .returned (.int .i64 (idxOf x l)) ∧ w = w' := by
  have H := Lib.hid hA
  clear hA
  go_enter Try.func65, Try.ntmps65
  go_wp2_with fail
  go_loopw [8] (fun j wr => ∃ k : Nat, k ≤ l.length ∧ j = .int .i64 k ∧ (∀ i (hi : i < l.length), i < k → l[i] ≠ x) ∧ w = wr) (fun j _ => l.length - (intOf j).toNat)
  case atStart => exact ⟨0, Nat.zero_le _, rfl, fun i _ h => absurd h (by omega), rfl⟩
  case round =>
    obtain ⟨k, hk, rfl, hno, rfl⟩ := hrel
    have HN := Lib.hid hno
    clear hno
    by_cases hlt : k < l.length
    · obtain ⟨p, off, rfl, _, c1⟩ := H.out.num hlt
      by_cases hb : l[k] = x
      · have hf : idxOf x l = (k : Int) := by
          have : l.findIdx? (· == x) = some k := by
            rw [List.findIdx?_eq_some_iff_getElem]
            exact ⟨hlt, by simpa using hb, fun j hj => by simpa using HN.out j (by omega) hj⟩
          simp [idxOf, this]
        have HF := Lib.hid hf
        rw [hb] at c1
        clear hb hf
        go_wp2_with fail
        go_ret
        exact ⟨ret_int HF.out.symm, rfl⟩
      · have hno' : ∀ i (hi : i < l.length), i < k + 1 → l[i] ≠ x := fun i hi hik => by
          by_cases e : i = k
          · subst e; exact hb
          · exact HN.out i hi (by omega)
        have HN2 := Lib.hid hno'
        have hb1 : (x == l[k]) = false := by simpa using fun e => hb e.symm
        clear hb hno'
        generalize l[k] = lk at *
        go_wp2_with fail
        go_roundw
        case rel => exact ⟨k + 1, by omega, by go_num, HN2.out, by first | rfl | trivial⟩
        case measure => simp [intOf]; omega
    · obtain rfl : k = l.length := by omega
      have hf : idxOf x l = -1 := by
        have : l.findIdx? (· == x) = none := by
          rw [List.findIdx?_eq_none_iff]
          intro y hy
          obtain ⟨i, hi, rfl⟩ := List.getElem_of_mem hy
          simpa using HN.out i hi hi
        simp [idxOf, this]
      have HF := Lib.hid hf
      clear hf
      go_wp2_with fail
      go_ret
      exact ⟨ret_int HF.out.symm, rfl⟩

theorem Contains_any (w : World) (A : Option Addr) (cap B : Nat) (l : List Int) (x : Int) (hm : l.length ≤ 100) (hA : Rd w B A 1 encN l) :
    Calls Try.prog 35 #[.slice A l.length cap, .int .i64 x] w fun e w' => e = .returned (.bool (l.contains x)) ∧ w = w' := by
  have H := Lib.hid hA
  have E := Lib.hid (idxOf_ge x l)
  clear hA
  go_enter Try.func35, Try.ntmps35
  go_wp2_with fail
  refine (Index_any _ A cap B l x hm H.out).mono ?_
  rintro e w' ⟨rfl, rfl⟩
  go_wp2_with fail
  go_ret
  exact ⟨ret_bool (by rw [← E.out]), rfl⟩

theorem jumps_any (w : World) (b : Nat) (x : Int) (h : Blk w b [.int .i64 13, .int .i64 14, .int .i64 15, .int .i64 16] 3) :
    Calls Try.prog 35 #[.slice (some ⟨b, 0, none⟩) 4 4, .int .i64 x] w fun e w' => e = .returned (.bool (decide (13 ≤ x ∧ x ≤ 16))) ∧ w = w' := by
  have := Contains_any w (some ⟨b, 0, none⟩) 4 w.heap.size [13, 14, 15, 16] x (by decide) (Rd.of_blk encN_len h)
  rwa [show ([13, 14, 15, 16] : List Int).contains x = decide (13 ≤ x ∧ x ≤ 16) from by
    rw [Bool.eq_iff_iff]; simp; omega] at this

end Go.Proofs.Ythlhjahhjoclfaa
