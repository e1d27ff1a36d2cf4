/- Who is greatest, who waits; the plain side, slices.Max, slices.Index, wait. -/
import Derived.Test.YtagfalnfjiodcaaRows
import Derived.Test.YtagfalnfjiodcaaRngT
import Derived.Test.YtagfalnfjiodcaaArr
import Derived.StillTailTactics
import Derived.IntWalk
namespace Go.Proofs.Ytagfalnfjiodcaa
open Go.RowKit

abbrev IL := List Int

theorem max_if (a b : Int) : (if a < b then b else a) = max a b := by split <;> omega
/-- The greatest of some. -/
def mx : IL → Int
  | [] => 0
  | a :: l => l.foldl max a
theorem mx_snoc {l : IL} (h : l ≠ []) (x : Int) : mx (l ++ [x]) = max (mx l) x := by
  cases l with
  | nil => exact absurd rfl h
  | cons a l => simp [mx, List.foldl_append]
theorem foldl_max_ge : ∀ (l : IL) (a : Int), a ≤ l.foldl max a ∧ ∀ x ∈ l, x ≤ l.foldl max a
  | [], a => ⟨Int.le_refl _, by simp⟩
  | b :: l, a => by
    obtain ⟨h1, h2⟩ := foldl_max_ge l (max a b)
    refine ⟨by simp only [List.foldl_cons]; omega, fun x hx => ?_⟩
    simp only [List.foldl_cons]
    rcases List.mem_cons.1 hx with rfl | hx
    · omega
    · exact h2 x hx
theorem foldl_max_mem : ∀ (l : IL) (a : Int), l.foldl max a = a ∨ l.foldl max a ∈ l
  | [], a => .inl rfl
  | b :: l, a => by
    simp only [List.foldl_cons]
    rcases foldl_max_mem l (max a b) with h | h
    · rw [h]
      by_cases hab : a ≤ b
      · exact .inr (by rw [Int.max_eq_right hab]; simp)
      · exact .inl (Int.max_eq_left (by omega))
    · exact .inr (by simp [h])
theorem mx_ge {l : IL} {x : Int} (h : x ∈ l) : x ≤ mx l := by
  cases l with
  | nil => cases h
  | cons a l =>
    obtain ⟨h1, h2⟩ := foldl_max_ge l a
    rcases List.mem_cons.1 h with rfl | h
    · exact h1
    · exact h2 x h
theorem mx_mem {l : IL} (h : l ≠ []) : mx l ∈ l := by
  cases l with
  | nil => exact absurd rfl h
  | cons a l =>
    rcases foldl_max_mem l a with e | e
    · simp [mx, e]
    · simp [mx, e]
/-- Where the greatest is, the first one of several. -/
def gI (l : IL) : Nat := l.findIdx (fun x => x == mx l)
theorem gI_lt {l : IL} (h : l ≠ []) : gI l < l.length := List.findIdx_lt_length_of_exists ⟨mx l, mx_mem h, by simp⟩
theorem gI_at {l : IL} (h : l ≠ []) : l[gI l]'(gI_lt h) = mx l := by
  have := List.findIdx_getElem (xs := l) (p := fun x => x == mx l) (w := gI_lt h)
  exact (beq_iff_eq (a := l[gI l]'(gI_lt h)) (b := mx l)).1 this
theorem gI_spec {l : IL} (h : 0 < l.length) : gI l < l.length ∧ ∀ hg : gI l < l.length, l[gI l] = mx l := by
  have hne : l ≠ [] := by intro e; simp [e] at h
  exact ⟨gI_lt hne, fun _ => gI_at hne⟩
theorem take_drop_get {l : IL} {k : Nat} (f : Int → Int) (h : k < l.length) : ((l.take k).map f ++ l.drop k)[k]? = some l[k] := by
  rw [List.getElem?_append_right (by simp; omega)]
  simp [show k - min k l.length = 0 from by omega, h]
theorem gI_first {l : IL} {i : Nat} (hi : i < gI l) (hl : i < l.length) : l[i] < mx l := by
  have h1 := List.not_of_lt_findIdx (xs := l) (p := fun x => x == mx l) hi
  have h2 := mx_ge (List.getElem_mem hl)
  have h3 : l[i] ≠ mx l := by simpa using h1
  omega
theorem gI_eq {l : IL} {c : Nat} (hc : c < l.length) (h1 : ∀ i (hi : i < l.length), l[i] ≤ l[c]) (h2 : ∀ i (hi : i < l.length), i < c → l[i] < l[c]) : gI l = c := by
  have hne : l ≠ [] := by intro e; simp [e] at hc
  have hm : mx l = l[c] := by
    have a := mx_ge (List.getElem_mem hc)
    obtain ⟨i, hi, e⟩ := List.getElem_of_mem (mx_mem hne)
    have := h1 i hi
    omega
  rw [gI, List.findIdx_eq hc]
  refine ⟨by simp [hm], fun j hj => ?_⟩
  have := h2 j (by omega) hj
  simp; omega

/-- Who waited, behind a turn. -/
def onL (l : IL) (c : Nat) : IL := l.mapIdx (fun i x => if i = c then 0 else x + 1)
theorem onL_len (l : IL) (c : Nat) : (onL l c).length = l.length := by simp [onL]
theorem onL_take (l : IL) (c n : Nat) : (onL l c).take n = onL (l.take n) c := by
  apply List.ext_getElem
  · simp [onL]
  · intro i h1 h2; simp [onL]
theorem onL_get {l : IL} {c i : Nat} (h : i < l.length) : (onL l c)[i]'(by rw [onL_len]; exact h) = if i = c then 0 else l[i] + 1 := by simp [onL]

/-- What a step may have changed; whatever is no cells lies as it lay. -/
def TC (C : List Nat) (X Y : World) : Prop := Chg C X Y ∧ KeepsOthers X Y
theorem TC.refl (C : List Nat) (w : World) : TC C w w := ⟨Chg.refl _ _, KeepsOthers.refl _⟩
theorem TC.trans {C : List Nat} {a b c : World} (h : TC C a b) (k : TC C b c) : TC C a c := ⟨h.1.trans k.1, h.2.trans k.2⟩
theorem TC.alloc {C : List Nat} {a w : World} (h : TC C a w) (o : Obj) : TC C a (w.alloc o) := ⟨h.1.alloc o, h.2.trans (KeepsOthers.alloc _ _)⟩
theorem TC.setCell {C : List Nat} {a w : World} (h : TC C a w) {p : Addr} (hp : p.block < a.heap.size → p.block ∈ C) (u : Value) : TC C a (w.setCell p u) := ⟨h.1.setCell hp u, h.2.trans (KeepsOthers.setCell _ _ _)⟩
theorem TC.drewN {C : List Nat} {a w : World} (h : TC C a w) (n : Nat) : TC C a (w.drewN n) := ⟨h.1.drewN n, h.2.trans ⟨Nat.le_refl _, fun _ _ h _ => h⟩⟩
theorem TC.mono {C D : List Nat} {a b : World} (h : TC C a b) (hT : ∀ x, x ∈ C → x ∈ D) : TC D a b := ⟨h.1.mono hT, h.2⟩
theorem TC.trans' {C D : List Nat} {a b c : World} (h : TC C a b) (k : TC D b c) (hT : ∀ x, x ∈ D → x < a.heap.size → x ∈ C) : TC C a c := ⟨h.1.trans' k.1 hT, h.2.trans k.2⟩

/-- Numbers in a row of cells. -/
def Nums (w : World) (b : Nat) (l : IL) : Prop := ∀ i (hi : i < l.length), w.cell? ⟨b, i, none⟩ = some (.int .i64 l[i])
theorem Nums.of_blk {w : World} {b : Nat} {l : IL} {t : TypeId} (h : Blk w b (l.map (Value.int .i64)) t) : Nums w b l := fun i hi => by rw [h.cell]; simp [hi]
theorem Nums.take {w : World} {b : Nat} {l : IL} (h : Nums w b l) (n : Nat) : Nums w b (l.take n) := fun i hi => by
  have := h i (by simp at hi; omega)
  simpa using this

set_option maxHeartbeats 1000000 in
theorem Max_any (w : World) (b cap : Nat) (l : IL) (hn : 0 < l.length) (hm : l.length ≤ 100) (h : Nums w b l) :
    Calls Try.prog 52 #[.slice (some ⟨b, 0, none⟩) l.length cap] w fun e w' => e = .returned (.int .i64 (mx l)) ∧ w = w' := by
  have c0 : w.cell? ⟨b, 0, none⟩ = some (.int .i64 l[0]) := h 0 hn
  have hne : (decide ((l.length : Int) < 1)) = false := by simp; omega
  have e0 : mx (l.take 1) = l[0] := by
    cases l with
    | nil => cases hn
    | cons a l => rfl
  have H := Lib.hid h
  have E0 := Lib.hid e0
  clear h e0
  go_enter Try.func52, Try.ntmps52
  go_wp2_with fail
  go_loop [3, 4] (fun m i => ∃ k : Nat, 1 ≤ k ∧ k ≤ l.length ∧ i = .int .i64 k ∧ m = .int .i64 (mx (l.take k))) (fun _ i => l.length - (intOf i).toNat)
  case atStart => exact ⟨1, Nat.le_refl _, hn, rfl, by rw [E0.out]⟩
  case round =>
    obtain ⟨k, hk1, hk, rfl, rfl⟩ := hrel
    by_cases hlt : k < l.length
    · have c1 : w.cell? ⟨b, k, none⟩ = some (.int .i64 l[k]) := H.out k hlt
      have hs : mx (l.take (k + 1)) = max (mx (l.take k)) l[k] := by
        have hne0 : l.take k ≠ [] := fun e => by
          have h0 : (l.take k).length = 0 := by rw [e]; rfl
          rw [List.length_take] at h0
          omega
        rw [List.take_succ_eq_append_getElem hlt, mx_snoc hne0]
      have HS := Lib.hid hs
      clear hs
      generalize mx (l.take k) = m0 at *
      generalize l[k] = lk at *
      go_wp2_with fail
      go_round
      case rel => exact ⟨k + 1, by omega, by omega, by go_num, by rw [HS.out, max_if]⟩
      case measure => simp [intOf]; omega
    · obtain rfl : k = l.length := by omega
      rw [List.take_length]
      go_wp2_with fail
      go_ret
      exact ⟨rfl, rfl⟩

set_option maxHeartbeats 1000000 in
theorem Index_any (w : World) (b cap : Nat) (l : IL) (v : Int) (i : Nat) (hi : i < l.length) (hm : l.length ≤ 100) (hv : l[i] = v) (hno : ∀ j (hj : j < l.length), j < i → l[j] ≠ v) (h : Nums w b l) :
    Calls Try.prog 51 #[.slice (some ⟨b, 0, none⟩) l.length cap, .int .i64 v] w fun e w' => e = .returned (.int .i64 (i : Int)) ∧ w = w' := by
  have H := Lib.hid h
  have HN := Lib.hid hno
  have HV := Lib.hid hv
  clear h hno hv
  go_enter Try.func51, Try.ntmps51
  go_wp2_with fail
  go_loop [8] (fun j => ∃ k : Nat, k ≤ i ∧ j = .int .i64 k) (fun j => l.length - (intOf j).toNat)
  case atStart => exact ⟨0, Nat.zero_le _, rfl⟩
  case round =>
    obtain ⟨k, hk, rfl⟩ := hrel
    have hkl : k < l.length := by omega
    have c1 : w.cell? ⟨b, k, none⟩ = some (.int .i64 l[k]) := H.out k hkl
    by_cases hlt : k < i
    · have hne := HN.out k hkl hlt
      have hneb : (v == l[k]) = false := by simpa using fun e => hne e.symm
      clear hne
      generalize l[k] = lk at *
      go_wp2_with fail
      go_round
      case rel => exact ⟨k + 1, by omega, by go_num⟩
      case measure => simp [intOf]; omega
    · obtain rfl : k = i := by omega
      rw [HV.out] at c1
      go_wp2_with fail
      go_ret
      exact ⟨rfl, rfl⟩

set_option maxHeartbeats 1000000 in
theorem greatest_any (w : World) (b cap : Nat) (l : IL) (hn : 0 < l.length) (hm : l.length ≤ 100) (h : Nums w b l) :
    Calls Try.prog 38 #[.slice (some ⟨b, 0, none⟩) l.length cap] w fun e w' => e = .returned (.int .i64 (gI l : Int)) ∧ w = w' := by
  have H := Lib.hid h
  obtain ⟨g1, g2⟩ := gI_spec hn
  have G := Lib.hid g1
  have GA := Lib.hid g2
  clear h g1 g2
  go_enter Try.func38, Try.ntmps38
  go_wp2_with fail
  refine (Max_any _ b cap l hn hm H.out).mono ?_
  rintro e w' ⟨rfl, rfl⟩
  go_wp2_with fail
  refine (Index_any _ b cap l (mx l) (gI l) G.out hm (GA.out _) (fun j hj hji => by have := gI_first hji hj; omega) H.out).mono ?_
  rintro e w' ⟨rfl, rfl⟩
  go_wp2_with fail
  go_ret
  exact ⟨rfl, rfl⟩

/-- Four numbers. -/
theorem four {l : IL} (h : l.length = 4) : ∃ a b c d, l = [a, b, c, d] := by
  match l, h with
  | [a, b, c, d], _ => exact ⟨a, b, c, d, rfl⟩

theorem list_set_take {l : IL} {k : Nat} (h : k < l.length) : ((l.take k).map (fun x => x + 1) ++ l.drop k).set k (l[k] + 1) = (l.take (k + 1)).map (fun x => x + 1) ++ l.drop (k + 1) := by
  apply List.ext_getElem
  · simp; omega
  · intro i h1 h2
    simp at h1
    by_cases e : i < k
    · rw [List.getElem_set_ne (by omega), List.getElem_append_left (by simp; omega), List.getElem_append_left (by simp; omega)]
      simp
    · by_cases e2 : i = k
      · subst e2
        rw [List.getElem_set_self, List.getElem_append_left (by simp; omega)]
        simp
      · rw [List.getElem_set_ne (by omega), List.getElem_append_right (by simp; omega), List.getElem_append_right (by simp; omega)]
        simp
        congr 1
        omega

def WaitRel (b : Nat) (l : IL) (w : World) (i : Value) (wr : World) : Prop := ∃ k : Nat, k ≤ 4 ∧ i = .int .i64 k ∧ Blk wr b (((l.take k).map (fun x => x + 1) ++ l.drop k).map (Value.int .i64)) 66 ∧ TC [b] w wr

set_option maxHeartbeats 1000000 in
theorem wait_any (w : World) (b : Nat) (l : IL) (c : Nat) (h4 : l.length = 4) (hc : c < 4) (hb : ∀ x ∈ l, 0 ≤ x ∧ x ≤ 1000000) (h : Blk w b (l.map (Value.int .i64)) 66) :
    Calls Try.prog 39 #[.pointer (some ⟨b, 0, none⟩), .int .i64 (c : Int)] w fun e w' => e = .returned (.tuple #[]) ∧ Blk w' b ((onL l c).map (Value.int .i64)) 66 ∧ TC [b] w w' := by
  have H := Lib.hid h
  have HB := Lib.hid hb
  clear h hb
  go_enter Try.func39, Try.ntmps39
  go_wp2_with fail
  go_loopw [5] (fun i wr => WaitRel b l w i wr) (fun i _ => 4 - (intOf i).toNat)
  case atStart => exact ⟨0, by decide, rfl, by simpa using H.out, TC.refl _ _⟩
  case round =>
    obtain ⟨k, hk, rfl, hB, hT⟩ := hrel
    by_cases hlt : k < 4
    · have hkl : k < l.length := by omega
      have c1 : wr.cell? ⟨b, k, none⟩ = some (.int .i64 l[k]) := by
        rw [hB.cell, List.getElem?_map, take_drop_get _ hkl]
        rfl
      have f1 : wr.frozen? ⟨b, k, none⟩ = false := hB.free k
      obtain ⟨x0, x1⟩ := HB.out _ (List.getElem_mem hkl)
      have hw : IntKind.i64.wrap (l[k] + 1) = l[k] + 1 := IntWalk.i64_in _ (by omega)
      have hlt' : (k : Int) < 4 := by omega
      have hS := hB.set k (.int .i64 (l[k] + 1))
      rw [← List.map_set, list_set_take hkl] at hS
      have HS := Lib.hid hS
      have HT := Lib.hid hT
      clear hS hT hB
      generalize l[k] = lk at *
      go_wp2_with fail
      go_still_tail 8, (by kernel_rfl)
      go_wp2_with fail
      go_roundw
      case rel => exact ⟨k + 1, by omega, by go_num, HS.out.drewN 1, (HT.out.drewN 1).setCell (by simp) _⟩
      case measure => simp [intOf]; omega
    · obtain rfl : k = 4 := by omega
      rw [List.take_of_length_le (by omega), List.drop_of_length_le (by omega), List.append_nil] at hB
      have c1 : wr.cell? ⟨b, c, none⟩ = some (.int .i64 ((l[c]?.getD 0) + 1)) := by
        rw [hB.cell]
        simp [show c < l.length from by omega]
      have f1 : wr.frozen? ⟨b, c, none⟩ = false := hB.free c
      have hlt' : (c : Int) < 4 := by omega
      have hS := hB.set c (.int .i64 0)
      have e : (l.map (fun x => x + 1)).set c 0 = onL l c := by
        apply List.ext_getElem
        · simp [onL]
        · intro i h1 h2
          simp only [List.getElem_set, List.getElem_map, onL, List.getElem_mapIdx]
          by_cases e : i = c
          · subst e; simp
          · rw [if_neg (fun h => e h.symm), if_neg e]
      rw [← List.map_set, e] at hS
      have HS := Lib.hid hS
      have HT := Lib.hid hT
      clear hS hT hB e
      generalize l[c]?.getD 0 = lc at *
      go_wp2_with fail
      go_end0
      exact ⟨rfl, HS.out, HT.out.setCell (by simp) _⟩

end Go.Proofs.Ytagfalnfjiodcaa
