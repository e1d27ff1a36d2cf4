/- Sizes; where a library may stand; pools; a code of a hash, of a tree, begun. -/
import Derived.Test.YthlhjahhjoclfaaCd8
import Derived.BigRegion
namespace Go.Proofs.Ythlhjahhjoclfaa
set_option maxRecDepth 100000
open Go.RowKit

def sizedV (head each cap : Int) : Int := if cap < 1 ∨ 504 < cap ∨ 504 < head + each * cap then 0 else head + each * cap
def isP2 (b : Int) : Bool := b == 1 || b == 2 || b == 4 || b == 8 || b == 16 || b == 32 || b == 64
def qSize (cap : Int) : Int := sizedV 2 1 cap
def hSize (b cap : Int) : Int := if isP2 b then sizedV (2 + b) 3 cap else 0
def tSize (cap : Int) : Int := sizedV 3 4 cap
def fitsB (base size : Int) : Bool := decide (0 < size ∧ 0 ≤ base ∧ base ≤ 504 - size)

theorem sized_any (w : World) (head each cap : Int) (h0 : 0 ≤ head) (h1 : head ≤ 100) (he : each = 1 ∨ each = 3 ∨ each = 4) :
    Calls Try.prog 36 #[.int .i64 head, .int .i64 each, .int .i64 cap] w fun e w' => e = .returned (.int .i64 (sizedV head each cap)) ∧ w = w' := by
  by_cases c1 : cap < 1
  · rw [show sizedV head each cap = 0 from if_pos (.inl c1)]
    go_enter Try.func36, Try.ntmps36
    go_wp2_with fail
    go_ret
    exact ⟨rfl, rfl⟩
  by_cases c2 : 504 < cap
  · rw [show sizedV head each cap = 0 from if_pos (.inr (.inl c2))]
    go_enter Try.func36, Try.ntmps36
    go_wp2_with fail
    go_ret
    exact ⟨rfl, rfl⟩
  have d1 : 1 ≤ cap := by omega
  have d2 : cap ≤ 504 := by omega
  clear c1 c2
  by_cases c3 : 504 < head + each * cap
  · have HE := Lib.hid (show sizedV head each cap = 0 from if_pos (.inr (.inr c3)))
    rcases he with rfl | rfl | rfl
    all_goals
      go_enter Try.func36, Try.ntmps36
      go_wp2_with fail
      go_ret
      exact ⟨ret_int HE.out.symm, rfl⟩
  · have HE := Lib.hid (show sizedV head each cap = head + each * cap from if_neg (by omega))
    have c4 : head + each * cap ≤ 504 := by omega
    clear c3
    rcases he with rfl | rfl | rfl
    all_goals
      go_enter Try.func36, Try.ntmps36
      go_wp2_with fail
      go_ret
      refine ⟨ret_int (Eq.trans ?_ HE.out.symm), rfl⟩
      omega

theorem QueueSize_any (w : World) (cap : Int) : Calls Try.prog 12 #[.int .i64 cap] w fun e w' => e = .returned (.int .i64 (qSize cap)) ∧ w = w' := by
  go_enter Try.func12, Try.ntmps12
  go_wp2_with fail
  refine (sized_any _ 2 1 cap (by decide) (by decide) (.inl rfl)).mono ?_
  rintro e w' ⟨rfl, rfl⟩
  go_wp2_with fail
  go_ret
  exact ⟨rfl, rfl⟩
theorem TreeSize_any (w : World) (cap : Int) : Calls Try.prog 15 #[.int .i64 cap] w fun e w' => e = .returned (.int .i64 (tSize cap)) ∧ w = w' := by
  go_enter Try.func15, Try.ntmps15
  go_wp2_with fail
  refine (sized_any _ 3 4 cap (by decide) (by decide) (.inr (.inr rfl))).mono ?_
  rintro e w' ⟨rfl, rfl⟩
  go_wp2_with fail
  go_ret
  exact ⟨rfl, rfl⟩

theorem p2_bits : ∀ k : Fin 65, 0 < k.val → (bits BinOp.and IntKind.i64 (k.val : Int) ((k.val : Int) - 1) == 0) = isP2 k.val := by decide +kernel
theorem p2_of {b : Int} (h1 : 1 ≤ b) (h2 : b ≤ 64) : (bits BinOp.and IntKind.i64 b (b - 1) == 0) = isP2 b := by
  have := p2_bits ⟨b.toNat, by omega⟩ (by simp; omega)
  simp only at this
  rwa [show ((b.toNat : Nat) : Int) = b from by omega] at this
theorem p2_range {b : Int} (h : isP2 b = true) : 1 ≤ b ∧ b ≤ 64 := by
  simp [isP2] at h; omega

theorem HashSize_any (w : World) (b cap : Int) : Calls Try.prog 14 #[.int .i64 b, .int .i64 cap] w fun e w' => e = .returned (.int .i64 (hSize b cap)) ∧ w = w' := by
  by_cases c1 : b < 1
  · rw [show hSize b cap = 0 from if_neg (fun h => by have := p2_range h; omega)]
    go_enter Try.func14, Try.ntmps14
    go_wp2_with fail
    go_ret
    exact ⟨rfl, rfl⟩
  by_cases c2 : 64 < b
  · rw [show hSize b cap = 0 from if_neg (fun h => by have := p2_range h; omega)]
    go_enter Try.func14, Try.ntmps14
    go_wp2_with fail
    go_ret
    exact ⟨rfl, rfl⟩
  have d1 : 1 ≤ b := by omega
  have d2 : b ≤ 64 := by omega
  have hp := p2_of d1 d2
  clear c1 c2
  cases hb : isP2 b
  · have HE := Lib.hid (show hSize b cap = 0 from if_neg (by simp [hb]))
    rw [hb] at hp
    clear hb
    have hne : (bits BinOp.and IntKind.i64 b (b - 1) != 0) = true := by simpa using hp
    go_enter Try.func14, Try.ntmps14
    go_wp2_with fail
    go_ret
    exact ⟨ret_int HE.out.symm, rfl⟩
  · have HE := Lib.hid (show hSize b cap = sizedV (2 + b) 3 cap from if_pos hb)
    rw [hb] at hp
    clear hb
    have hne : (bits BinOp.and IntKind.i64 b (b - 1) != 0) = false := by simpa using hp
    go_enter Try.func14, Try.ntmps14
    go_wp2_with fail
    refine (sized_any _ (2 + b) 3 cap (by omega) (by omega) (.inr (.inl rfl))).mono ?_
    rintro e w' ⟨rfl, rfl⟩
    go_wp2_with fail
    go_ret
    exact ⟨ret_int HE.out.symm, rfl⟩

theorem fits_any (w : World) (base size : Int) (h0 : 0 ≤ size) (h1 : size ≤ 504) : Calls Try.prog 38 #[.int .i64 base, .int .i64 size] w fun e w' => e = .returned (.bool (fitsB base size)) ∧ w = w' := by
  by_cases c1 : 0 < size
  · by_cases c2 : 0 ≤ base
    · by_cases c3 : base ≤ 504 - size
      · have HE := Lib.hid (show fitsB base size = true from by simp [fitsB]; omega)
        go_enter Try.func38, Try.ntmps38
        go_wp2_with fail
        go_ret
        exact ⟨ret_bool HE.out.symm, rfl⟩
      · have HE := Lib.hid (show fitsB base size = false from by simp [fitsB]; omega)
        have c3' : decide (base ≤ 504 - size) = false := by simp; omega
        clear c3
        go_enter Try.func38, Try.ntmps38
        go_wp2_with fail
        go_ret
        exact ⟨ret_bool HE.out.symm, rfl⟩
    · have HE := Lib.hid (show fitsB base size = false from by simp [fitsB]; omega)
      have c2' : base < 0 := by omega
      clear c2
      go_enter Try.func38, Try.ntmps38
      go_wp2_with fail
      go_ret
      exact ⟨ret_bool HE.out.symm, rfl⟩
  · obtain rfl : size = 0 := by omega
    have HE := Lib.hid (show fitsB base 0 = false from by simp [fitsB])
    clear c1
    go_enter Try.func38, Try.ntmps38
    go_wp2_with fail
    go_ret
    exact ⟨ret_bool HE.out.symm, rfl⟩

theorem sizedV_range (h e c : Int) (h0 : 0 ≤ h) (he : 0 ≤ e) : 0 ≤ sizedV h e c ∧ sizedV h e c ≤ 504 := by
  unfold sizedV
  split
  · omega
  · have := Int.mul_nonneg he (show 0 ≤ c by omega); omega
theorem qSize_range (c : Int) : 0 ≤ qSize c ∧ qSize c ≤ 504 := sizedV_range 2 1 c (by decide) (by decide)
theorem tSize_range (c : Int) : 0 ≤ tSize c ∧ tSize c ≤ 504 := sizedV_range 3 4 c (by decide) (by decide)
theorem hSize_range (b c : Int) : 0 ≤ hSize b c ∧ hSize b c ≤ 504 := by
  unfold hSize
  split
  · rename_i h; have := p2_range h; exact sizedV_range _ 3 c (by omega) (by decide)
  · decide

def hPool (base b cap : Int) : Po := ⟨base, base + 1, base + 2 + b, 3, 2, cap⟩
def tPool (base cap : Int) : Po := ⟨base + 1, base + 2, base + 3, 4, 2, cap⟩
theorem fitsB_iff {base size : Int} : fitsB base size = true ↔ 0 < size ∧ 0 ≤ base ∧ base ≤ 504 - size := by simp [fitsB]
theorem hPool_ok {base b cap : Int} (h : fitsB base (hSize b cap) = true) : PoOk (hPool base b cap) ∧ 1 ≤ b ∧ b ≤ 64 ∧ 0 ≤ base ∧ base ≤ 504 ∧ 1 ≤ cap ∧ cap ≤ 504 := by
  rw [fitsB_iff] at h
  have hb : isP2 b = true := by
    cases e : isP2 b
    · simp [hSize, e] at h
    · rfl
  have hr := p2_range hb
  have hs : hSize b cap = sizedV (2 + b) 3 cap := if_pos hb
  rw [hs] at h
  by_cases c : cap < 1 ∨ 504 < cap ∨ 504 < (2 + b) + 3 * cap
  · rw [show sizedV (2 + b) 3 cap = 0 from if_pos c] at h; omega
  · rw [show sizedV (2 + b) 3 cap = 2 + b + 3 * cap from if_neg c] at h
    refine ⟨⟨?_, ?_, ?_, ?_, ?_, ?_, ?_, ?_⟩, ?_⟩ <;> (try simp only [hPool]) <;> omega
theorem tPool_ok {base cap : Int} (h : fitsB base (tSize cap) = true) : PoOk (tPool base cap) ∧ 0 ≤ base ∧ base ≤ 504 ∧ 1 ≤ cap ∧ cap ≤ 504 := by
  rw [fitsB_iff, show tSize cap = sizedV 3 4 cap from rfl] at h
  by_cases c : cap < 1 ∨ 504 < cap ∨ 504 < 3 + 4 * cap
  · rw [show sizedV 3 4 cap = 0 from if_pos c] at h; omega
  · rw [show sizedV 3 4 cap = 3 + 4 * cap from if_neg c] at h
    refine ⟨⟨?_, ?_, ?_, ?_, ?_, ?_, ?_, ?_⟩, ?_⟩ <;> (try simp only [tPool]) <;> omega

theorem hashPool_any (w : World) (base b cap : Int) (h0 : 0 ≤ base) (h1 : base ≤ 504) (b0 : 1 ≤ b) (b1 : b ≤ 64) :
    Calls Try.prog 68 #[.int .i64 base, .int .i64 b, .int .i64 cap] w fun e w' => e = .returned (.agg #[.int .i64 base, .int .i64 (base + 1), .int .i64 (base + 2 + b), .int .i64 3, .int .i64 2, .int .i64 cap]) ∧ Chg [] w w' := by
  go_enter Try.func68, Try.ntmps68
  go_wp2_with fail
  refine bodyPost_ret (v := .agg #[.int .i64 base, .int .i64 (base + 1), .int .i64 (base + 2 + b), .int .i64 3, .int .i64 2, .int .i64 cap]) ?_ rfl ⟨rfl, (Chg.refl _ _).alloc _⟩
  simp [results, Try.results68, go_sem]
theorem treePool_any (w : World) (base cap : Int) (h0 : 0 ≤ base) (h1 : base ≤ 504) :
    Calls Try.prog 59 #[.int .i64 base, .int .i64 cap] w fun e w' => e = .returned (.agg #[.int .i64 (base + 1), .int .i64 (base + 2), .int .i64 (base + 3), .int .i64 4, .int .i64 2, .int .i64 cap]) ∧ Chg [] w w' := by
  go_enter Try.func59, Try.ntmps59
  go_wp2_with fail
  refine bodyPost_ret (v := .agg #[.int .i64 (base + 1), .int .i64 (base + 2), .int .i64 (base + 3), .int .i64 4, .int .i64 2, .int .i64 cap]) ?_ rfl ⟨rfl, (Chg.refl _ _).alloc _⟩
  simp [results, Try.results59, go_sem]

end Go.Proofs.Ythlhjahhjoclfaa
