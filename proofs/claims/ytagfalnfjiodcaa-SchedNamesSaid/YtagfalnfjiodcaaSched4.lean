/- may; Rounds. -/
import Derived.Test.YtagfalnfjiodcaaSched3
namespace Go.Proofs.Ytagfalnfjiodcaa
open Go.RowKit

/-- Numbers that a slice's head leads to. -/
def NumsA (w : World) (A : Option Addr) (n₀ : Nat) (l : IL) : Prop := ∀ i (hi : i < l.length), ∃ b off, A = some ⟨b, off, none⟩ ∧ b < n₀ ∧ w.cell? ⟨b, off + i, none⟩ = some (.int .i64 l[i])
theorem NumsA.below {w w' : World} {A : Option Addr} {n₀ : Nat} {l : IL} (h : NumsA w A n₀ l) (k : Below n₀ w w') : NumsA w' A n₀ l := fun i hi => by
  obtain ⟨b, off, e, hb, hc⟩ := h i hi
  exact ⟨b, off, e, hb, (k.cell (p := ⟨b, _, none⟩) hb).trans hc⟩
theorem NumsA.of_blk {w : World} {b : Nat} {l : IL} {t : TypeId} (h : Blk w b (l.map (Value.int .i64)) t) : NumsA w (some ⟨b, 0, none⟩) w.heap.size l := fun i hi => ⟨b, 0, rfl, h.lt, by rw [Nat.zero_add, h.cell]; simp [hi]⟩
theorem NumsA.of_row {w : World} {base : Nat} {v : Value} {l : IL} {e : TypeId} (h : w.ownsRow base e 1 v l.length (l.map (Value.int .i64))) : ∃ A cap, v = .slice A l.length cap ∧ l.length ≤ cap ∧ NumsA w A w.heap.size l := by
  obtain ⟨A, cap, rfl, hc, _, _, hcell⟩ := ownsRow_cell h
  refine ⟨A, cap, rfl, hc, fun i hi => ?_⟩
  obtain ⟨b, e1, hm, h1, _⟩ := hcell i (by omega)
  exact ⟨b, 0, e1, ownsRow_lt h b hm, by rw [Nat.zero_add, h1]; simp [hi]⟩
theorem NumsA.mono {w : World} {A : Option Addr} {n₀ n₁ : Nat} {l : IL} (h : NumsA w A n₀ l) (k : n₀ ≤ n₁) : NumsA w A n₁ l := fun i hi => by
  obtain ⟨b, off, e, hb, hc⟩ := h i hi
  exact ⟨b, off, e, Nat.lt_of_lt_of_le hb k, hc⟩

def badN (least x : Int) : Bool := decide (x < least) || decide (100 < x)

theorem may1_any (w : World) (x least : Int) (b : Nat) (h : w.cell? ⟨b, 0, none⟩ = some (.int .i64 least)) :
    Calls Try.prog 49 #[.int .i64 x, .pointer (some ⟨b, 0, none⟩)] w fun e w' => e = .returned (.bool (badN least x)) ∧ w = w' := by
  go_enter Try.func49, Try.ntmps49
  go_wp2
  all_goals go_ret
  all_goals first | exact ⟨rfl, rfl⟩ | exact ⟨ret_bool (by simp [badN, *]), rfl⟩

def firstBad (least : Int) (l : IL) : Int := match l.findIdx? (badN least) with | some i => (i : Int) | none => -1

set_option maxHeartbeats 1000000 in
theorem IndexFunc_any (w : World) (A : Option Addr) (cap n₀ : Nat) (l : IL) (least : Int) (b : Nat) (hm : l.length ≤ 100) (h : w.cell? ⟨b, 0, none⟩ = some (.int .i64 least)) (hA : NumsA w A n₀ l) :
    Calls Try.prog 53 #[.slice A l.length cap, .func (.func 49) #[] #[.pointer (some ⟨b, 0, none⟩)]] w fun e w' => e = .returned (.int .i64 (firstBad least l)) ∧ w = w' := by
  have H := Lib.hid hA
  have HC := Lib.hid h
  clear hA h
  go_enter Try.func53, Try.ntmps53
  go_wp2_with fail
  go_loopw [8] (fun j wr => ∃ k : Nat, k ≤ l.length ∧ j = .int .i64 k ∧ (∀ i (hi : i < l.length), i < k → badN least l[i] = false) ∧ w = wr) (fun j _ => l.length - (intOf j).toNat)
  case atStart => exact ⟨0, Nat.zero_le _, rfl, fun i _ h => absurd h (by omega), rfl⟩
  case round =>
    obtain ⟨k, hk, rfl, hno, rfl⟩ := hrel
    have HN := Lib.hid hno
    clear hno
    by_cases hlt : k < l.length
    · obtain ⟨p, off, rfl, _, c1⟩ := H.out k hlt
      cases hb : badN least l[k] with
      | true =>
        have hf : firstBad least l = (k : Int) := by
          have : l.findIdx? (badN least) = some k := by
            rw [List.findIdx?_eq_some_iff_getElem]
            exact ⟨hlt, hb, fun j hj => by simpa using HN.out j (by omega) hj⟩
          simp [firstBad, this]
        have HF := Lib.hid hf
        have HB := Lib.hid hb
        clear hb hf
        generalize l[k] = lk at *
        go_wp2_with fail
        refine (may1_any _ lk least b HC.out).mono ?_
        rintro e w' ⟨rfl, rfl⟩
        rw [HB.out]
        go_wp2_with fail
        go_ret
        exact ⟨ret_int HF.out.symm, rfl⟩
      | false =>
        have hno' : ∀ i (hi : i < l.length), i < k + 1 → badN least l[i] = false := fun i hi hik => by
          by_cases e : i = k
          · subst e; exact hb
          · exact HN.out i hi (by omega)
        have HN2 := Lib.hid hno'
        have HB := Lib.hid hb
        clear hb hno'
        generalize l[k] = lk at *
        go_wp2_with fail
        refine (may1_any _ lk least b HC.out).mono ?_
        rintro e w' ⟨rfl, rfl⟩
        rw [HB.out]
        go_wp2_with fail
        go_roundw
        case rel => exact ⟨k + 1, by omega, by go_num, HN2.out, by first | rfl | trivial⟩
        case measure => simp [intOf]; omega
    · obtain rfl : k = l.length := by omega
      have hf : firstBad least l = -1 := by
        have : l.findIdx? (badN least) = none := by
          rw [List.findIdx?_eq_none_iff]
          intro x hx
          obtain ⟨i, hi, rfl⟩ := List.getElem_of_mem hx
          exact HN.out i hi hi
        simp [firstBad, this]
      have HF := Lib.hid hf
      clear hf
      go_wp2_with fail
      go_ret
      exact ⟨ret_int HF.out.symm, rfl⟩

theorem firstBad_ge (least : Int) (l : IL) : (decide (0 ≤ firstBad least l)) = l.any (badN least) := by
  unfold firstBad
  cases h : l.findIdx? (badN least) with
  | some i =>
    obtain ⟨hi, hb, _⟩ := List.findIdx?_eq_some_iff_getElem.1 h
    have : l.any (badN least) = true := List.any_eq_true.2 ⟨l[i], List.getElem_mem hi, hb⟩
    rw [this]; simp
  | none =>
    have : l.any (badN least) = false := by
      rw [List.any_eq_false]
      intro x hx
      have := (List.findIdx?_eq_none_iff.1 h) x hx
      simp [this]
    rw [this]; simp

theorem ContainsFunc_any (w : World) (A : Option Addr) (cap n₀ : Nat) (l : IL) (least : Int) (b : Nat) (hm : l.length ≤ 100) (h : w.cell? ⟨b, 0, none⟩ = some (.int .i64 least)) (hA : NumsA w A n₀ l) :
    Calls Try.prog 45 #[.slice A l.length cap, .func (.func 49) #[] #[.pointer (some ⟨b, 0, none⟩)]] w fun e w' => e = .returned (.bool (l.any (badN least))) ∧ w = w' := by
  have H := Lib.hid hA
  have HC := Lib.hid h
  have E := Lib.hid (firstBad_ge least l)
  clear hA h
  go_enter Try.func45, Try.ntmps45
  go_wp2_with fail
  refine (IndexFunc_any _ A cap n₀ l least b hm HC.out H.out).mono ?_
  rintro e w' ⟨rfl, rfl⟩
  go_wp2_with fail
  go_ret
  exact ⟨ret_bool (by rw [← E.out]), rfl⟩

def mayL (l : IL) (least turns : Int) : Int := if l.length < 1 ∨ 4 < l.length ∨ l.any (badN least) = true then 240 else if turns < 0 ∨ 10000 < turns then 2 else 0

set_option maxHeartbeats 1000000 in
theorem may_any (w : World) (A : Option Addr) (cap : Nat) (l : IL) (least turns : Int) (hm : l.length ≤ 100) (hA : NumsA w A w.heap.size l) :
    Calls Try.prog 32 #[.slice A l.length cap, .int .i64 least, .int .i64 turns] w fun e w' => e = .returned (.int .i64 (mayL l least turns)) ∧ TC [] w w' := by
  have H := Lib.hid hA
  have hb := Blk.new w [.int .i64 least] 3
  have HB := Lib.hid hb
  have hm' : (l.length : Int) ≤ 100 := by omega
  have HA2 : Hid (NumsA (w.alloc (.cells #[.int .i64 least] 3)) A w.heap.size l) := Lib.hid (hA.below ((Below.refl _ w).alloc (Nat.le_refl _) _))
  clear hA hb
  by_cases h1 : l.length < 1
  · have e : mayL l least turns = 240 := by simp [mayL, h1]
    rw [e]
    have h1' : l.length = 0 := by omega
    clear e h1
    go_enter Try.func32, Try.ntmps32
    go_wp2_with fail
    go_ret
    exact ⟨rfl, (TC.refl _ _).alloc _⟩
  have g1 : 1 ≤ l.length := by omega
  have g1' : (1 : Int) ≤ l.length := by omega
  by_cases h2 : 4 < l.length
  · have e : mayL l least turns = 240 := by simp [mayL, h2]
    rw [e]
    have h2' : (4 : Int) < l.length := by omega
    clear e h1 h2
    go_enter Try.func32, Try.ntmps32
    go_wp2_with fail
    go_ret
    exact ⟨rfl, (TC.refl _ _).alloc _⟩
  have g2' : (l.length : Int) ≤ 4 := by omega
  cases h3 : l.any (badN least) with
  | true =>
    have e : mayL l least turns = 240 := by unfold mayL; rw [if_pos (.inr (.inr h3))]
    rw [e]
    have H3 := Lib.hid h3
    clear e h1 h2 h3
    go_enter Try.func32, Try.ntmps32
    go_wp2_with fail
    refine (ContainsFunc_any _ A cap _ l least _ hm (HB.out.cell 0) HA2.out).mono ?_
    rintro e w' ⟨rfl, rfl⟩
    rw [H3.out]
    go_wp2_with fail
    go_ret
    exact ⟨rfl, (TC.refl _ _).alloc _⟩
  | false =>
    have h4 : ¬ (l.length < 1 ∨ 4 < l.length ∨ l.any (badN least) = true) := fun hx => by
      rcases hx with h | h | h
      · omega
      · omega
      · rw [h3] at h; cases h
    have e : mayL l least turns = if turns < 0 ∨ 10000 < turns then 2 else 0 := by unfold mayL; rw [if_neg h4]
    rw [e]
    have H3 := Lib.hid h3
    clear e h1 h2 h3 h4
    by_cases t1 : turns < 0
    · rw [if_pos (.inl t1)]
      go_enter Try.func32, Try.ntmps32
      go_wp2_with fail
      refine (ContainsFunc_any _ A cap _ l least _ hm (HB.out.cell 0) HA2.out).mono ?_
      rintro e w' ⟨rfl, rfl⟩
      rw [H3.out]
      go_wp2_with fail
      go_ret
      exact ⟨rfl, (TC.refl _ _).alloc _⟩
    have t1' : 0 ≤ turns := by omega
    by_cases t2 : 10000 < turns
    · rw [if_pos (.inr t2)]
      clear t1
      go_enter Try.func32, Try.ntmps32
      go_wp2_with fail
      refine (ContainsFunc_any _ A cap _ l least _ hm (HB.out.cell 0) HA2.out).mono ?_
      rintro e w' ⟨rfl, rfl⟩
      rw [H3.out]
      go_wp2_with fail
      go_ret
      exact ⟨rfl, (TC.refl _ _).alloc _⟩
    have t2' : turns ≤ 10000 := by omega
    rw [if_neg (by omega)]
    clear t1 t2
    go_enter Try.func32, Try.ntmps32
    go_wp2_with fail
    refine (ContainsFunc_any _ A cap _ l least _ hm (HB.out.cell 0) HA2.out).mono ?_
    rintro e w' ⟨rfl, rfl⟩
    rw [H3.out]
    go_wp2_with fail
    go_ret
    exact ⟨rfl, (TC.refl _ _).alloc _⟩

end Go.Proofs.Ytagfalnfjiodcaa
