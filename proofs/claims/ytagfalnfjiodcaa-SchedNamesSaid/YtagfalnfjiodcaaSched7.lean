/- The closure of Ranks. -/
import Derived.Test.YtagfalnfjiodcaaSched6
namespace Go.Proofs.Ytagfalnfjiodcaa
open Go.RowKit

def nowK (p wa : IL) (k : Nat) : IL := (List.range 4).map (fun i => if i < k then p.getD i 0 + wa.getD i 0 else 0)
theorem nowK_len (p wa : IL) (k : Nat) : (nowK p wa k).length = 4 := by simp [nowK]
theorem nowK_zero (p wa : IL) : nowK p wa 0 = [0, 0, 0, 0] := rfl
theorem nowK_succ (p wa : IL) (k : Nat) : (nowK p wa k).set k (p.getD k 0 + wa.getD k 0) = nowK p wa (k + 1) := by
  apply List.ext_getElem
  · simp [nowK]
  · intro i h1 h2
    simp only [List.getElem_set, nowK, List.getElem_map, List.getElem_range]
    by_cases e : k = i
    · subst e; simp
    · by_cases e2 : i < k
      · simp [e, e2, show i < k + 1 from by omega]
      · simp [e, e2, show ¬ i < k + 1 from by omega]
def rN (p wa : IL) : IL := (List.range p.length).map (fun i => p.getD i 0 + wa.getD i 0)
theorem rN_len (p wa : IL) : (rN p wa).length = p.length := by simp [rN]
theorem nowK_take {p wa : IL} (h : p.length ≤ 4) : (nowK p wa p.length).take p.length = rN p wa := by
  apply List.ext_getElem
  · simp [nowK, rN, Nat.min_eq_left h]
  · intro i h1 h2
    rw [rN_len] at h2
    simp [nowK, rN, h2]
def rC (p wa : IL) : Nat := gI (rN p wa)
def rSt (p : IL) : Nat → IL
  | 0 => [0, 0, 0, 0]
  | t + 1 => onL (rSt p t) (rC p (rSt p t))
theorem rSt_len (p : IL) (t : Nat) : (rSt p t).length = 4 := by
  induction t with
  | zero => rfl
  | succ t ih => rw [rSt, onL_len, ih]
theorem onL_bound {l : IL} {c : Nat} {M : Int} (h : ∀ x ∈ l, 0 ≤ x ∧ x ≤ M) : ∀ x ∈ onL l c, 0 ≤ x ∧ x ≤ M + 1 := by
  intro x hx
  obtain ⟨i, hi, rfl⟩ := List.getElem_of_mem hx
  rw [onL_len] at hi
  have h0 := h _ (List.getElem_mem hi)
  rw [onL_get hi]
  split <;> omega
theorem rSt_bound (p : IL) (t : Nat) : ∀ x ∈ rSt p t, 0 ≤ x ∧ x ≤ t := by
  induction t with
  | zero => intro x hx; simp [rSt] at hx; subst hx; simp
  | succ t ih =>
    rw [rSt]
    have := onL_bound (c := rC p (rSt p t)) ih
    intro x hx
    have := this x hx
    omega
theorem rC_lt {p : IL} {least : Int} (h : Within least p) (wa : IL) : rC p wa < p.length := by
  have := (gI_spec (l := rN p wa) (by rw [rN_len]; exact h.1.1)).1
  rwa [rN_len] at this

def RRel (c1 : Nat) (p wa : IL) (W0 : World) (i : Value) (wr : World) : Prop := ∃ k : Nat, k ≤ p.length ∧ i = .int .i64 k ∧ Blk wr W0.heap.size ((nowK p wa k).map (Value.int .i64)) 66 ∧ TC [] W0 wr

set_option maxRecDepth 100000 in
set_option maxHeartbeats 2000000 in
theorem ranks1_any (W : World) (c0 c1 n₀ : Nat) (A : Option Addr) (cap : Nat) (p wa : IL) (h : Within 0 p) (h4 : wa.length = 4) (hb : ∀ x ∈ wa, 0 ≤ x ∧ x ≤ 1000000) (hc0 : Blk W c0 [.slice A p.length cap] 23) (hA : NumsA W A n₀ p) (hn : n₀ ≤ W.heap.size) (hc1 : Blk W c1 (wa.map (Value.int .i64)) 66) :
    Calls Try.prog 44 #[.pointer (some ⟨c0, 0, none⟩), .pointer (some ⟨c1, 0, none⟩)] W fun e w' => e = .returned (.int .i64 (rC p wa : Int)) ∧ Blk w' c1 ((onL wa (rC p wa)).map (Value.int .i64)) 66 ∧ TC [c1] W w' := by
  have k0 : W.cell? ⟨c0, 0, none⟩ = some (.slice A p.length cap) := hc0.cell 0
  have k0lt := hc0.lt
  have hw1 := h.1.1
  have hw4 := h.1.2
  have hw1' : (1 : Int) ≤ p.length := by omega
  have hw4' : (p.length : Int) ≤ 4 := by omega
  have HA := Lib.hid hA
  have HC0 := Lib.hid hc0
  have HC1 := Lib.hid hc1
  have H := Lib.hid h
  have HB := Lib.hid hb
  clear hA hc0 hc1 h hb
  go_enter Try.func44, Try.ntmps44
  go_wp2_with fail
  go_loopw [9] (fun i wr => RRel c1 p wa W i wr) (fun i _ => p.length - (intOf i).toNat)
  case atStart => exact ⟨0, Nat.zero_le _, rfl, Blk.new W [.int .i64 0, .int .i64 0, .int .i64 0, .int .i64 0] 66, (TC.refl _ _).alloc _⟩
  case round =>
    obtain ⟨k, hk, rfl, hB, hT⟩ := hrel
    by_cases hlt : k < p.length
    · have hbe : Below n₀ W wr := hT.1.to_below (B := n₀) (by simp) hn
      obtain ⟨q, off, hAp, hp, c2⟩ := HA.out.below hbe k hlt
      subst hAp
      have hB1 := hT.1.blk HC1.out (by simp)
      have hkc : k < wa.length := by omega
      have c3 : wr.cell? ⟨c1, k, none⟩ = some (.int .i64 wa[k]) := by
        rw [hB1.cell, List.getElem?_map, List.getElem?_eq_getElem hkc]
        rfl
      have f4 : wr.frozen? ⟨W.heap.size, k, none⟩ = false := hB.free k
      obtain ⟨x0, x1⟩ := H.out.2 _ (List.getElem_mem hlt)
      obtain ⟨y0, y1⟩ := HB.out _ (List.getElem_mem hkc)
      have hws : IntKind.i64.wrap (p[k] + wa[k]) = p[k] + wa[k] := IntWalk.i64_in _ (by omega)
      have hlt4 : (k : Int) < 4 := by omega
      have hS := hB.set k (.int .i64 (p[k] + wa[k]))
      rw [← List.map_set, show p[k] + wa[k] = p.getD k 0 + wa.getD k 0 from by simp [hlt, hkc], nowK_succ, show p.getD k 0 + wa.getD k 0 = p[k] + wa[k] from by simp [hlt, hkc]] at hS
      have c4 : wr.cell? ⟨W.heap.size, k, none⟩ = some (.int .i64 ((nowK p wa k).getD k 0)) := by
        rw [hB.cell, List.getElem?_map]
        simp [nowK_len, show k < 4 from by omega]
      have HS := Lib.hid hS
      have HT := Lib.hid hT
      clear hS hT hB hB1 hbe
      generalize p[k] = pk at *
      generalize wa[k] = wk at *
      go_wp2_with fail
      go_roundw
      case rel => exact ⟨k + 1, by omega, by go_num, HS.out, HT.out.setCell (by simp) _⟩
      case measure => simp [intOf]; omega
    · obtain rfl : k = p.length := by omega
      have k1 : wr.cell? ⟨c0, 0, none⟩ = some (.slice A p.length cap) := (hT.1.blk HC0.out (by simp)).cell 0
      have hg : Calls Try.prog 38 #[.slice (some ⟨W.heap.size, 0, none⟩) p.length 4] wr fun e w' => e = .returned (.int .i64 (rC p wa : Int)) ∧ wr = w' :=
        greatest_n wr W.heap.size 4 p.length (rN p wa) (rN_len _ _) (by omega) (by omega) (by rw [← nowK_take hw4]; exact (Nums.of_blk hB).take _)
      have hcl := rC_lt H.out wa
      have hc4 : rC p wa < 4 := by omega
      have hw := wait_any wr c1 wa (rC p wa) h4 hc4 HB.out (hT.1.blk HC1.out (by simp))
      have HT := Lib.hid hT
      have HG := Lib.hid hg
      have HW := Lib.hid hw
      clear hT hB hg hw hcl hk hlt
      generalize hcE : rC p wa = c at *
      go_wp2_with fail
      refine HG.out.mono ?_
      rintro e w' ⟨rfl, rfl⟩
      go_wp2_with fail
      refine HW.out.mono ?_
      rintro e w' ⟨rfl, hb, ht⟩
      have HX := Lib.hid hb
      have HY := Lib.hid ht
      clear hb ht
      go_wp2_with fail
      go_ret
      exact ⟨by rw [hcE]; rfl, by rw [hcE]; exact HX.out, (HT.out.mono (by simp)).trans HY.out⟩

end Go.Proofs.Ytagfalnfjiodcaa
