/- The closures of Weights and Ranks. -/
import Derived.Test.YtagfalnfjiodcaaSched5
namespace Go.Proofs.Ytagfalnfjiodcaa
open Go.RowKit

theorem greatest_n (w : World) (b cap n : Nat) (l : IL) (hl : l.length = n) (hn : 0 < n) (hm : n ≤ 100) (h : Nums w b l) :
    Calls Try.prog 38 #[.slice (some ⟨b, 0, none⟩) n cap] w fun e w' => e = .returned (.int .i64 (gI l : Int)) ∧ w = w' := by
  subst hl
  exact greatest_any w b cap l hn hm h

/-- Numbers added to the first ones. -/
def addK (w cr : IL) (k : Nat) : IL := cr.mapIdx (fun i x => if i < k then x + w.getD i 0 else x)
theorem addK_len (w cr : IL) (k : Nat) : (addK w cr k).length = cr.length := by simp [addK]
theorem addK_zero (w cr : IL) : addK w cr 0 = cr := by
  apply List.ext_getElem
  · simp [addK]
  · intro i h1 h2; simp [addK]
theorem addK_succ {w cr : IL} {k : Nat} (hk : k < cr.length) : (addK w cr k).set k (cr[k] + w.getD k 0) = addK w cr (k + 1) := by
  apply List.ext_getElem
  · simp [addK]
  · intro i h1 h2
    simp only [List.getElem_set, addK, List.getElem_mapIdx]
    by_cases e : k = i
    · subst e; simp
    · by_cases e2 : i < k
      · simp [e, e2, show i < k + 1 from by omega]
      · simp [e, e2, show ¬ i < k + 1 from by omega]
theorem addK_get {w cr : IL} {k i : Nat} (hi : i < cr.length) : (addK w cr k)[i]'(by rw [addK_len]; exact hi) = if i < k then cr[i] + w.getD i 0 else cr[i] := by simp [addK]

def wAdd (w cr : IL) : IL := addK w cr w.length
def wC (w cr : IL) : Nat := gI ((wAdd w cr).take w.length)
def wNext (w cr : IL) : IL := (wAdd w cr).set (wC w cr) ((wAdd w cr).getD (wC w cr) 0 - w.sum)
def wSt (w : IL) : Nat → IL
  | 0 => [0, 0, 0, 0]
  | t + 1 => wNext w (wSt w t)
theorem wSt_len (w : IL) (t : Nat) : (wSt w t).length = 4 := by
  induction t with
  | zero => rfl
  | succ t ih => simp [wSt, wNext, wAdd, addK_len, ih]

/-- Weights, or ranks, that may be. -/
def Within (least : Int) (w : IL) : Prop := (1 ≤ w.length ∧ w.length ≤ 4) ∧ ∀ x ∈ w, least ≤ x ∧ x ≤ 100
theorem wC_lt {w cr : IL} {least : Int} (h : Within least w) (h4 : cr.length = 4) : wC w cr < w.length := by
  have hl : ((wAdd w cr).take w.length).length = w.length := by simp [wAdd, addK_len, h4, Nat.min_eq_left h.1.2]
  have := (gI_spec (l := (wAdd w cr).take w.length) (by rw [hl]; exact h.1.1)).1
  rw [hl] at this
  exact this
theorem sum_bound {w : IL} {least : Int} (hl : 0 ≤ least) (h : Within least w) (k : Nat) : 0 ≤ (w.take k).sum ∧ (w.take k).sum ≤ 100 * (w.take k).length := by
  have : ∀ l : IL, (∀ x ∈ l, 0 ≤ x ∧ x ≤ 100) → 0 ≤ l.sum ∧ l.sum ≤ 100 * l.length := by
    intro l
    induction l with
    | nil => intro _; simp
    | cons a l ih =>
      intro hx
      have h1 := ih (fun x hx' => hx x (by simp [hx']))
      have h2 := hx a (by simp)
      simp only [List.sum_cons, List.length_cons]
      omega
  exact this _ (fun x hx => by have := h.2 x (List.mem_of_mem_take hx); omega)
theorem wSt_bound {w : IL} (h : Within 1 w) (t : Nat) : ∀ x ∈ wSt w t, -(500 * (t : Int)) ≤ x ∧ x ≤ 500 * (t : Int) := by
  induction t with
  | zero => intro x hx; simp [wSt] at hx; subst hx; simp
  | succ t ih =>
    have hadd : ∀ x ∈ wAdd w (wSt w t), -(500 * (t : Int)) ≤ x ∧ x ≤ 500 * (t : Int) + 100 := by
      intro x hx
      obtain ⟨i, hi, rfl⟩ := List.getElem_of_mem hx
      have hi' : i < (wSt w t).length := by simpa [wAdd, addK_len] using hi
      have h1 := ih _ (List.getElem_mem hi')
      simp only [wAdd]
      rw [addK_get hi']
      split
      · rename_i hiw
        have h2 := h.2 _ (List.getElem_mem hiw)
        simp [hiw]
        omega
      · omega
    have hs := sum_bound (by decide) h w.length
    rw [List.take_length] at hs
    have hwl := h.1.2
    intro x hx
    rcases List.mem_or_eq_of_mem_set hx with hx | rfl
    · have := hadd x hx; omega
    · have hc := wC_lt h (wSt_len w t)
      have hcl : wC w (wSt w t) < (wAdd w (wSt w t)).length := by simp [wAdd, addK_len, wSt_len]; omega
      have h1 := hadd _ (List.getElem_mem hcl)
      simp [hcl]
      omega

def WRel (c1 : Nat) (w cr : IL) (W0 : World) (s i : Value) (wr : World) : Prop := ∃ k : Nat, k ≤ w.length ∧ i = .int .i64 k ∧ s = .int .i64 (w.take k).sum ∧ Blk wr c1 ((addK w cr k).map (Value.int .i64)) 66 ∧ TC [c1] W0 wr

set_option maxRecDepth 100000 in
set_option maxHeartbeats 2000000 in
theorem weights1_any (W : World) (c0 c1 n₀ : Nat) (A : Option Addr) (cap : Nat) (w cr : IL) (h : Within 1 w) (h4 : cr.length = 4) (hb : ∀ x ∈ cr, -10000000 ≤ x ∧ x ≤ 10000000) (hc0 : Blk W c0 [.slice A w.length cap] 23) (hA : NumsA W A n₀ w) (hn : n₀ ≤ c1) (hc1 : Blk W c1 (cr.map (Value.int .i64)) 66) :
    Calls Try.prog 42 #[.pointer (some ⟨c0, 0, none⟩), .pointer (some ⟨c1, 0, none⟩)] W fun e w' => e = .returned (.int .i64 (wC w cr : Int)) ∧ Blk w' c1 ((wNext w cr).map (Value.int .i64)) 66 ∧ TC [c1] W w' := by
  have hne : c0 ≠ c1 := hc0.ne hc1 (by decide)
  have k0 : W.cell? ⟨c0, 0, none⟩ = some (.slice A w.length cap) := hc0.cell 0
  have hw1 := h.1.1
  have hw4 := h.1.2
  have hw1' : (1 : Int) ≤ w.length := by omega
  have hw4' : (w.length : Int) ≤ 4 := by omega
  have HA := Lib.hid hA
  have HC0 := Lib.hid hc0
  have HC1 := Lib.hid hc1
  have H := Lib.hid h
  have HB := Lib.hid hb
  clear hA hc0 hc1 h hb
  go_enter Try.func42, Try.ntmps42
  go_wp2_with fail
  go_loopw [3, 9] (fun s i wr => WRel c1 w cr W s i wr) (fun _ i _ => w.length - (intOf i).toNat)
  case atStart => exact ⟨0, Nat.zero_le _, rfl, rfl, by rw [addK_zero]; exact HC1.out, TC.refl _ _⟩
  case round =>
    obtain ⟨k, hk, rfl, rfl, hB, hT⟩ := hrel
    by_cases hlt : k < w.length
    · have hkc : k < cr.length := by omega
      have hbe : Below n₀ W wr := hT.1.to_below (B := n₀) (by simp; omega) (by have := HC1.out.lt; omega)
      obtain ⟨p, off, hAp, hp, c2⟩ := HA.out.below hbe k hlt
      subst hAp
      have c3 : wr.cell? ⟨c1, k, none⟩ = some (.int .i64 cr[k]) := by
        rw [hB.cell, List.getElem?_map, List.getElem?_eq_getElem (by rw [addK_len]; exact hkc), addK_get hkc]
        simp
      have f3 : wr.frozen? ⟨c1, k, none⟩ = false := hB.free k
      obtain ⟨x0, x1⟩ := H.out.2 _ (List.getElem_mem hlt)
      obtain ⟨y0, y1⟩ := HB.out _ (List.getElem_mem hkc)
      obtain ⟨s0, s1⟩ := sum_bound (by decide) H.out k
      have s2 : (w.take k).length ≤ 4 := by simp; omega
      have hws : IntKind.i64.wrap ((w.take k).sum + w[k]) = (w.take k).sum + w[k] := IntWalk.i64_in _ (by omega)
      have hwc : IntKind.i64.wrap (cr[k] + w[k]) = cr[k] + w[k] := IntWalk.i64_in _ (by omega)
      have hlt4 : (k : Int) < 4 := by omega
      have hS := hB.set k (.int .i64 (cr[k] + w[k]))
      rw [← List.map_set, show w[k] = w.getD k 0 from by simp [hlt], addK_succ hkc, show w.getD k 0 = w[k] from by simp [hlt]] at hS
      have hsum : (w.take (k + 1)).sum = (w.take k).sum + w[k] := by rw [List.take_add_one, List.sum_append]; simp [hlt]
      have HS := Lib.hid hS
      have HT := Lib.hid hT
      have HSum := Lib.hid hsum
      clear hS hT hB hbe hsum s1 s2
      generalize (w.take k).sum = sk at *
      generalize w[k] = wk at *
      generalize cr[k] = ck at *
      go_wp2_with fail
      go_roundw
      case rel => exact ⟨k + 1, by omega, by go_num, by rw [HSum.out], HS.out, HT.out.setCell (by simp) _⟩
      case measure => simp [intOf]; omega
    · obtain rfl : k = w.length := by omega
      have k1 : wr.cell? ⟨c0, 0, none⟩ = some (.slice A w.length cap) := (hT.1.blk HC0.out (by simpa using hne)).cell 0
      have hl4 : (wAdd w cr).length = 4 := by rw [wAdd, addK_len, h4]
      have hg := greatest_n wr c1 4 w.length ((wAdd w cr).take w.length) (by simp [hl4]; omega) (by omega) (by omega) ((Nums.of_blk (l := wAdd w cr) hB).take _)
      have hcl := wC_lt H.out h4
      have hc4 : wC w cr < 4 := by omega
      have hgd : (wAdd w cr)[wC w cr]? = some ((wAdd w cr).getD (wC w cr) 0) := by simp [hl4, hc4]
      have c3 : wr.cell? ⟨c1, wC w cr, none⟩ = some (.int .i64 ((wAdd w cr).getD (wC w cr) 0)) := by
        rw [hB.cell, List.getElem?_map]
        show ((wAdd w cr)[wC w cr]?).map _ = _
        rw [hgd]; rfl
      have f3 : wr.frozen? ⟨c1, wC w cr, none⟩ = false := hB.free _
      have hbd : -10000100 ≤ (wAdd w cr).getD (wC w cr) 0 ∧ (wAdd w cr).getD (wC w cr) 0 ≤ 10000100 := by
        have hcc : wC w cr < cr.length := by omega
        have h1 : (wAdd w cr).getD (wC w cr) 0 = cr[wC w cr] + w[wC w cr] := by
          have : (wAdd w cr)[wC w cr]'(by omega) = _ := addK_get hcc
          rw [if_pos hcl] at this
          simp [hl4, hc4, this, hcl]
        have h2 := HB.out _ (List.getElem_mem hcc)
        have h3 := H.out.2 _ (List.getElem_mem hcl)
        rw [h1]; omega
      obtain ⟨s0, s1⟩ := sum_bound (by decide) H.out w.length
      rw [List.take_length] at s0 s1 ⊢
      have hwd : IntKind.i64.wrap ((wAdd w cr).getD (wC w cr) 0 - w.sum) = (wAdd w cr).getD (wC w cr) 0 - w.sum := IntWalk.i64_in _ (by omega)
      have hS := hB.set (wC w cr) (.int .i64 ((wAdd w cr).getD (wC w cr) 0 - w.sum))
      rw [← List.map_set] at hS
      have hS' : Blk (wr.setCell ⟨c1, wC w cr, none⟩ (.int .i64 ((wAdd w cr).getD (wC w cr) 0 - w.sum))) c1 ((wNext w cr).map (Value.int .i64)) 66 := hS
      have HS := Lib.hid hS'
      have HT := Lib.hid hT
      have hg' : Calls Try.prog 38 #[.slice (some ⟨c1, 0, none⟩) w.length 4] wr fun e w' => e = .returned (.int .i64 (wC w cr : Int)) ∧ wr = w' := hg
      have HG := Lib.hid hg'
      have hc4' : ((wC w cr : Nat) : Int) < 4 := by omega
      clear hS hS' hT hB hg hg' hgd hbd s0 s1 hl4 hcl hk hlt
      generalize (wAdd w cr).getD (wC w cr) 0 = ac at *
      generalize w.sum = sm at *
      generalize hcE : wC w cr = c at *
      go_wp2_with fail
      refine HG.out.mono ?_
      rintro e w' ⟨rfl, rfl⟩
      go_wp2_with fail
      go_ret
      exact ⟨by rw [hcE]; rfl, HS.out, HT.out.setCell (by simp) _⟩

end Go.Proofs.Ytagfalnfjiodcaa
