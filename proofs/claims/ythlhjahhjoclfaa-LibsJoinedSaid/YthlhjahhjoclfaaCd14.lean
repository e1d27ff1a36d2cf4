/- The document's Fits, Size and May; usual and Code. -/
import Derived.Test.YthlhjahhjoclfaaCd13
namespace Go.Proofs.Ythlhjahhjoclfaa
set_option maxRecDepth 100000
open Go.RowKit

structure LegalI (i : Ins) : Prop where
  o0 : 2 ≤ i.op
  o1 : i.op ≤ 18
  a0 : 0 ≤ i.a
  a1 : i.a < 8
  b0 : 0 ≤ i.b
  b1 : i.b < 8
  c0 : 0 ≤ i.c
  c1 : i.c < 8
theorem Legal_any (w : World) (op a b c i : Int) (h : LegalI ⟨op, a, b, c, i⟩) : Calls Try.prog 37 #[.agg #[.int .i64 op, .int .i64 a, .int .i64 b, .int .i64 c, .int .i64 i]] w fun e w' => e = .returned (.bool true) ∧ Chg [] w w' := by
  obtain ⟨o0, o1, a0, a1, b0, b1, c0, c1⟩ := h
  simp only at o0 o1 a0 a1 b0 b1 c0 c1
  rcases (by omega : op = 2 ∨ op = 3 ∨ op = 4 ∨ op = 5 ∨ op = 6 ∨ op = 7 ∨ op = 8 ∨ op = 9 ∨ op = 10 ∨ op = 11 ∨ op = 12 ∨ op = 13 ∨ op = 14 ∨ op = 15 ∨ op = 16 ∨ op = 17 ∨ op = 18) with rfl | rfl | rfl | rfl | rfl | rfl | rfl | rfl | rfl | rfl | rfl | rfl | rfl | rfl | rfl | rfl | rfl
  · exact Legal_2 w a b c i a0 a1 b0 b1 c0 c1
  · exact Legal_3 w a b c i a0 a1 b0 b1 c0 c1
  · exact Legal_4 w a b c i a0 a1 b0 b1 c0 c1
  · exact Legal_5 w a b c i a0 a1 b0 b1 c0 c1
  · exact Legal_6 w a b c i a0 a1 b0 b1 c0 c1
  · exact Legal_7 w a b c i a0 a1 b0 b1 c0 c1
  · exact Legal_8 w a b c i a0 a1 b0 b1 c0 c1
  · exact Legal_9 w a b c i a0 a1 b0 b1 c0 c1
  · exact Legal_10 w a b c i a0 a1 b0 b1 c0 c1
  · exact Legal_11 w a b c i a0 a1 b0 b1 c0 c1
  · exact Legal_12 w a b c i a0 a1 b0 b1 c0 c1
  · exact Legal_13 w a b c i a0 a1 b0 b1 c0 c1
  · exact Legal_14 w a b c i a0 a1 b0 b1 c0 c1
  · exact Legal_15 w a b c i a0 a1 b0 b1 c0 c1
  · exact Legal_16 w a b c i a0 a1 b0 b1 c0 c1
  · exact Legal_17 w a b c i a0 a1 b0 b1 c0 c1
  · exact Legal_18 w a b c i a0 a1 b0 b1 c0 c1

structure FitI (n : Nat) (i : Ins) : Prop where
  legal : LegalI i
  imm : 13 ≤ i.op → i.op ≤ 16 → 0 ≤ i.imm ∧ i.imm ≤ n

def FtRel (W : World) (n : Nat) (i : Value) (wr : World) : Prop := ∃ k : Nat, k ≤ n ∧ i = .int .i64 k ∧ Chg [] W wr

set_option maxHeartbeats 4000000 in
theorem Fits_true (W : World) (A : Option Addr) (cap : Nat) (l : List Ins) (hm : l.length ≤ 128) (h : ∀ i ∈ l, FitI l.length i) (hA : RdI W W.heap.size A l) :
    Calls Try.prog 19 #[.slice A l.length cap] W fun e w' => e = .returned (.bool true) ∧ Chg [] W w' := by
  have HA := Lib.hid hA
  have HF := Lib.hid h
  have hm' : (l.length : Int) ≤ 128 := by omega
  clear hA h
  go_enter Try.func19, Try.ntmps19
  go_wp2_with fail
  go_loopw [3] (fun i wr => FtRel W l.length i wr) (fun i _ => l.length - (intOf i).toNat)
  case atStart => exact ⟨0, Nat.zero_le _, rfl, Chg.refl _ _⟩
  case round =>
    obtain ⟨k, hk, rfl, hC⟩ := hrel
    by_cases hlt : k < l.length
    · obtain ⟨b, off, rfl, hb, c⟩ := (HA.out.chg0 hC) (by omega)
      have c0 : wr.cell? ⟨b, off + k * 5, none⟩ = some (.int .i64 l[k].op) := c k hlt 0 (by decide)
      have c1 : wr.cell? ⟨b, off + k * 5 + 1, none⟩ = some (.int .i64 l[k].a) := c k hlt 1 (by decide)
      have c2 : wr.cell? ⟨b, off + k * 5 + 2, none⟩ = some (.int .i64 l[k].b) := c k hlt 2 (by decide)
      have c3 : wr.cell? ⟨b, off + k * 5 + 3, none⟩ = some (.int .i64 l[k].c) := c k hlt 3 (by decide)
      have c4 : wr.cell? ⟨b, off + k * 5 + 4, none⟩ = some (.int .i64 l[k].imm) := c k hlt 4 (by decide)
      have HL := Lib.hid (HF.out _ (List.getElem_mem hlt)).legal
      have him := (HF.out _ (List.getElem_mem hlt)).imm
      have HC := Lib.hid hC
      rw [show l[k] = ⟨l[k].op, l[k].a, l[k].b, l[k].c, l[k].imm⟩ from rfl] at HL
      have h2 : 2 ≤ l[k].op := HL.out.o0
      clear c hC
      generalize l[k].op = x0 at *
      generalize l[k].a = x1 at *
      generalize l[k].b = x2 at *
      generalize l[k].c = x3 at *
      generalize l[k].imm = x4 at *
      have hne : (x0 == 1) = false := by simp; omega
      have HB := Lib.hid (Blk.new wr [.int .i64 x0, .int .i64 x1, .int .i64 x2, .int .i64 x3, .int .i64 x4] 25)
      go_wp2_with fail
      refine (Legal_any _ x0 x1 x2 x3 x4 HL.out).mono ?_
      rintro e w1 ⟨rfl, hx⟩
      have q0 : w1.cell? ⟨wr.heap.size, 0, none⟩ = some (.int .i64 x0) := (hx.blk HB.out (by simp)).cell 0
      have q4 : w1.cell? ⟨wr.heap.size, 4, none⟩ = some (.int .i64 x4) := (hx.blk HB.out (by simp)).cell 4
      have ql : wr.heap.size < w1.heap.size := (hx.blk HB.out (by simp)).lt
      have HX := Lib.hid ((HC.out.alloc _).trans hx)
      clear hx
      by_cases h1 : 13 ≤ x0
      · by_cases h3 : x0 ≤ 16
        · obtain ⟨h4, h5⟩ := him h1 h3
          clear him
          go_wp2_with fail
          go_roundw
          case rel => exact ⟨k + 1, by omega, by go_num, HX.out⟩
          case measure => simp [intOf]; omega
        · have h3' : 16 < x0 := by omega
          clear him h3
          go_wp2_with fail
          go_roundw
          case rel => exact ⟨k + 1, by omega, by go_num, HX.out⟩
          case measure => simp [intOf]; omega
      · have h1' : x0 < 13 := by omega
        clear him h1
        go_wp2_with fail
        go_roundw
        case rel => exact ⟨k + 1, by omega, by go_num, HX.out⟩
        case measure => simp [intOf]; omega
    · obtain rfl : k = l.length := by omega
      have HC := Lib.hid hC
      clear hC
      go_wp2_with fail
      go_ret
      exact ⟨rfl, HC.out⟩

theorem Size_q (w : World) (base bk cap : Int) : Calls Try.prog 13 #[.agg #[.int .i64 0, .int .i64 base, .int .i64 bk, .int .i64 cap]] w fun e w' => e = .returned (.int .i64 (qSize cap)) ∧ Chg [] w w' := by
  by_cases c1 : cap < 1
  · rw [show qSize cap = 0 from if_pos (.inl c1)]
    go_enter Try.func13, Try.ntmps13
    go_wp2_with fail
    go_ret
    exact ⟨rfl, (Chg.refl _ _).alloc _⟩
  by_cases c2 : 504 < cap
  · rw [show qSize cap = 0 from if_pos (.inr (.inl c2))]
    go_enter Try.func13, Try.ntmps13
    go_wp2_with fail
    go_ret
    exact ⟨rfl, (Chg.refl _ _).alloc _⟩
  have d1 : 1 ≤ cap := by omega
  have d2 : cap ≤ 504 := by omega
  clear c1 c2
  by_cases c3 : 504 < 2 + cap
  · have HE := Lib.hid (show qSize cap = 0 from if_pos (.inr (.inr (by omega))))
    go_enter Try.func13, Try.ntmps13
    go_wp2_with fail
    go_ret
    exact ⟨ret_int HE.out.symm, (Chg.refl _ _).alloc _⟩
  · have HE := Lib.hid (show qSize cap = 2 + 1 * cap from if_neg (by omega))
    have c4 : 2 + cap ≤ 504 := by omega
    clear c3
    go_enter Try.func13, Try.ntmps13
    go_wp2_with fail
    go_ret
    refine ⟨ret_int (Eq.trans ?_ HE.out.symm), (Chg.refl _ _).alloc _⟩
    omega

theorem Size_t (w : World) (base bk cap : Int) : Calls Try.prog 13 #[.agg #[.int .i64 2, .int .i64 base, .int .i64 bk, .int .i64 cap]] w fun e w' => e = .returned (.int .i64 (tSize cap)) ∧ Chg [] w w' := by
  by_cases c1 : cap < 1
  · rw [show tSize cap = 0 from if_pos (.inl c1)]
    go_enter Try.func13, Try.ntmps13
    go_wp2_with fail
    go_ret
    exact ⟨rfl, (Chg.refl _ _).alloc _⟩
  by_cases c2 : 504 < cap
  · rw [show tSize cap = 0 from if_pos (.inr (.inl c2))]
    go_enter Try.func13, Try.ntmps13
    go_wp2_with fail
    go_ret
    exact ⟨rfl, (Chg.refl _ _).alloc _⟩
  have d1 : 1 ≤ cap := by omega
  have d2 : cap ≤ 504 := by omega
  clear c1 c2
  by_cases c3 : 504 < 3 + 4 * cap
  · have HE := Lib.hid (show tSize cap = 0 from if_pos (.inr (.inr (by omega))))
    go_enter Try.func13, Try.ntmps13
    go_wp2_with fail
    go_ret
    exact ⟨ret_int HE.out.symm, (Chg.refl _ _).alloc _⟩
  · have HE := Lib.hid (show tSize cap = 3 + 4 * cap from if_neg (by omega))
    have c4 : 3 + 4 * cap ≤ 504 := by omega
    clear c3
    go_enter Try.func13, Try.ntmps13
    go_wp2_with fail
    go_ret
    refine ⟨ret_int (Eq.trans ?_ HE.out.symm), (Chg.refl _ _).alloc _⟩
    omega

/-- A power of two on the way to so many buckets. -/
def Way (bk p : Int) : Prop := (p = 1 ∨ p = 2 ∨ p = 4 ∨ p = 8 ∨ p = 16 ∨ p = 32 ∨ p = 64) ∧ (p = 1 ∨ p < 2 * bk)
theorem Way.end {bk p : Int} (h : Way bk p) (he : bk ≤ p ∨ 64 ≤ p) : isP2 bk = (p == bk) := by
  rw [Bool.eq_iff_iff]
  simp only [isP2, Bool.or_eq_true, beq_iff_eq]
  obtain ⟨h1, h2⟩ := h
  constructor
  · intro h3; omega
  · intro h3; omega

set_option maxHeartbeats 4000000 in
theorem Size_h (w : World) (base bk cap : Int) : Calls Try.prog 13 #[.agg #[.int .i64 1, .int .i64 base, .int .i64 bk, .int .i64 cap]] w fun e w' => e = .returned (.int .i64 (hSize bk cap)) ∧ Chg [] w w' := by
  by_cases c1 : cap < 1
  · rw [show hSize bk cap = 0 from by unfold hSize; split; exact if_pos (.inl c1); rfl]
    go_enter Try.func13, Try.ntmps13
    go_wp2_with fail
    go_ret
    exact ⟨rfl, (Chg.refl _ _).alloc _⟩
  by_cases c2 : 504 < cap
  · rw [show hSize bk cap = 0 from by unfold hSize; split; exact if_pos (.inr (.inl c2)); rfl]
    go_enter Try.func13, Try.ntmps13
    go_wp2_with fail
    go_ret
    exact ⟨rfl, (Chg.refl _ _).alloc _⟩
  have d1 : 1 ≤ cap := by omega
  have d2 : cap ≤ 504 := by omega
  clear c1 c2
  go_enter Try.func13, Try.ntmps13
  go_wp2_with fail
  go_loop [4] (fun p => ∃ q : Int, Way bk q ∧ p = .int .i64 q) (fun p => (64 - intOf p).toNat)
  case atStart => exact ⟨1, ⟨.inl rfl, .inl rfl⟩, rfl⟩
  case round =>
    obtain ⟨q, hq, rfl⟩ := hrel
    have hr : 1 ≤ q ∧ q ≤ 64 := by obtain ⟨h1, _⟩ := hq; omega
    obtain ⟨r0, r1⟩ := hr
    have HQ := Lib.hid hq
    clear hq
    by_cases h1 : q < bk
    · by_cases h2 : q < 64
      · go_wp2_with fail
        go_round
        case rel => exact ⟨2 * q, by obtain ⟨e1, e2⟩ := HQ.out; exact ⟨by omega, by omega⟩, rfl⟩
        case measure => simp [intOf]; omega
      · have h2' : 64 ≤ q := by omega
        have he := HQ.out.end (.inr h2')
        have hne : (q != bk) = true := by simp; omega
        have HS := Lib.hid (show hSize bk cap = 0 from if_neg (by rw [he]; simpa using hne))
        clear h2 he
        go_wp2_with fail
        go_ret
        exact ⟨ret_int HS.out.symm, (Chg.refl _ _).alloc _⟩
    · have h1' : bk ≤ q := by omega
      have he := HQ.out.end (.inl h1')
      clear h1
      by_cases h3 : q = bk
      · subst h3
        have hne : (q != q) = false := by simp
        have HS := Lib.hid (show hSize q cap = sizedV (2 + q) 3 cap from if_pos (by rw [he]; simp))
        clear he
        by_cases c3 : 504 < 2 + q + 3 * cap
        · have HE := Lib.hid (show sizedV (2 + q) 3 cap = 0 from if_pos (.inr (.inr c3)))
          go_wp2_with fail
          go_ret
          exact ⟨ret_int (HS.out.trans HE.out).symm, (Chg.refl _ _).alloc _⟩
        · have HE := Lib.hid (show sizedV (2 + q) 3 cap = 2 + q + 3 * cap from if_neg (by omega))
          have c4 : 2 + q + 3 * cap ≤ 504 := by omega
          clear c3
          go_wp2_with fail
          go_ret
          exact ⟨ret_int (HS.out.trans HE.out).symm, (Chg.refl _ _).alloc _⟩
      · have hne : (q != bk) = true := by simp; exact h3
        have HS := Lib.hid (show hSize bk cap = 0 from if_neg (by rw [he]; simpa using h3))
        clear he h3
        go_wp2_with fail
        go_ret
        exact ⟨ret_int HS.out.symm, (Chg.refl _ _).alloc _⟩

def sizeK (k bk cap : Int) : Int := if k = 0 then qSize cap else if k = 1 then hSize bk cap else tSize cap
theorem sizeK_range (k bk cap : Int) : 0 ≤ sizeK k bk cap ∧ sizeK k bk cap ≤ 504 := by
  unfold sizeK
  split
  · exact qSize_range _
  · split
    · exact hSize_range _ _
    · exact tSize_range _
theorem Size_any (w : World) (k base bk cap : Int) (hk : k = 0 ∨ k = 1 ∨ k = 2) : Calls Try.prog 13 #[.agg #[.int .i64 k, .int .i64 base, .int .i64 bk, .int .i64 cap]] w fun e w' => e = .returned (.int .i64 (sizeK k bk cap)) ∧ Chg [] w w' := by
  rcases hk with rfl | rfl | rfl
  · exact Size_q w base bk cap
  · exact Size_h w base bk cap
  · exact Size_t w base bk cap

theorem May_any (w : World) (k base bk cap : Int) (hk : k = 0 ∨ k = 1 ∨ k = 2) : Calls Try.prog 18 #[.agg #[.int .i64 k, .int .i64 base, .int .i64 bk, .int .i64 cap]] w fun e w' => e = .returned (.bool (fitsB base (sizeK k bk cap))) ∧ Chg [] w w' := by
  have HK := Lib.hid hk
  have hr := sizeK_range k bk cap
  clear hk
  have HB := Lib.hid (Blk.new w [.int .i64 k, .int .i64 base, .int .i64 bk, .int .i64 cap] 31)
  have HC := Lib.hid ((Chg.refl [] w).alloc (.cells #[.int .i64 k, .int .i64 base, .int .i64 bk, .int .i64 cap] 31))
  have hs := Lib.hid (show w.heap.size < (w.alloc (.cells #[.int .i64 k, .int .i64 base, .int .i64 bk, .int .i64 cap] 31)).heap.size from by simp)
  have go : ∀ n : Int, sizeK k bk cap = n → 0 ≤ n → n ≤ 504 → Calls Try.prog 18 #[.agg #[.int .i64 k, .int .i64 base, .int .i64 bk, .int .i64 cap]] w fun e w' => e = .returned (.bool (fitsB base n)) ∧ Chg [] w w' := by
    intro n hn n0 n1
    have HN := Lib.hid hn
    clear hn hr
    by_cases c1 : 0 < n
    · by_cases c2 : 0 ≤ base
      · by_cases c3 : base ≤ 504 - n
        · have HE := Lib.hid (show fitsB base n = true from by simp [fitsB]; omega)
          go_enter Try.func18, Try.ntmps18
          go_wp2_with fail
          refine (Size_any _ k base bk cap HK.out).mono ?_
          rintro e w1 ⟨rfl, hx⟩
          rw [HN.out]
          have q1 : w1.cell? ⟨w.heap.size, 1, none⟩ = some (.int .i64 base) := (hx.blk HB.out (by simp)).cell 1
          have HX := Lib.hid (HC.out.trans hx)
          clear hx
          have c4 : base + n ≤ 504 := by omega
          go_wp2_with fail
          go_ret
          exact ⟨ret_bool HE.out.symm, HX.out⟩
        · have HE := Lib.hid (show fitsB base n = false from by simp [fitsB]; omega)
          have c4 : 504 < base + n := by omega
          clear c3
          by_cases c5 : base ≤ 504
          · go_enter Try.func18, Try.ntmps18
            go_wp2_with fail
            refine (Size_any _ k base bk cap HK.out).mono ?_
            rintro e w1 ⟨rfl, hx⟩
            rw [HN.out]
            have q1 : w1.cell? ⟨w.heap.size, 1, none⟩ = some (.int .i64 base) := (hx.blk HB.out (by simp)).cell 1
            have HX := Lib.hid (HC.out.trans hx)
            clear hx
            have c6 : decide (base + n ≤ 504) = false := by simp; omega
            go_wp2_with fail
            go_ret
            exact ⟨ret_bool HE.out.symm, HX.out⟩
          · have c7 : decide (base ≤ 504) = false := by simp; omega
            clear c5
            go_enter Try.func18, Try.ntmps18
            go_wp2_with fail
            refine (Size_any _ k base bk cap HK.out).mono ?_
            rintro e w1 ⟨rfl, hx⟩
            rw [HN.out]
            have q1 : w1.cell? ⟨w.heap.size, 1, none⟩ = some (.int .i64 base) := (hx.blk HB.out (by simp)).cell 1
            have HX := Lib.hid (HC.out.trans hx)
            clear hx
            go_wp2_with fail
            go_ret
            exact ⟨ret_bool HE.out.symm, HX.out⟩
      · have HE := Lib.hid (show fitsB base n = false from by simp [fitsB]; omega)
        have c2' : base < 0 := by omega
        clear c2
        go_enter Try.func18, Try.ntmps18
        go_wp2_with fail
        refine (Size_any _ k base bk cap HK.out).mono ?_
        rintro e w1 ⟨rfl, hx⟩
        rw [HN.out]
        have q1 : w1.cell? ⟨w.heap.size, 1, none⟩ = some (.int .i64 base) := (hx.blk HB.out (by simp)).cell 1
        have HX := Lib.hid (HC.out.trans hx)
        clear hx
        go_wp2_with fail
        go_ret
        exact ⟨ret_bool HE.out.symm, HX.out⟩
    · obtain rfl : n = 0 := by omega
      have HE := Lib.hid (show fitsB base 0 = false from by simp [fitsB])
      clear c1
      go_enter Try.func18, Try.ntmps18
      go_wp2_with fail
      refine (Size_any _ k base bk cap HK.out).mono ?_
      rintro e w1 ⟨rfl, hx⟩
      rw [HN.out]
      have HX := Lib.hid (HC.out.trans hx)
      clear hx
      go_wp2_with fail
      go_ret
      exact ⟨ret_bool HE.out.symm, HX.out⟩
  exact go _ rfl hr.1 hr.2

end Go.Proofs.Ythlhjahhjoclfaa
