/- A new directory; Owner. -/
import Derived.Test.YtepdhajgemmoiaaDir1920
/- A new directory. -/
namespace Go.Proofs.Ytepdhajgemmoiaa
set_option linter.unusedSimpArgs false
set_option linter.unusedVariables false
set_option maxRecDepth 100000
open Go.RowKit

theorem Try.infoEntry : (Try.prog.info? 79).map (fun i => (i.zero, i.size, i.bytes)) = some (some (.agg #[.int .i64 0, .int .u8 0, .int .i64 0, .int .i64 0, .int .i64 0, .int .u64 0, .int .u64 0, .int .u64 0, .int .u64 0, .int .u64 0, .int .u64 0, .int .u64 0, .int .u64 0, .int .i64 0, .int .u8 0, .slice none 0 0]), 16, 144) := by kernel_rfl

theorem DNew_bad (w : World) (n c : Int) (h : n < 2 ∨ 64 < n) :
    Calls Try.prog 6 #[.int .i64 n, .int .i64 c] w fun e w' => e = .returned (.tuple #[.pointer none, .int .i64 2]) ∧ w = w' := by
  have hN := Lib.hid (New_bad w n h)
  clear h
  go_enter Try.func6, Try.ntmps6
  go_wp2_with fail
  refine hN.out.mono ?_
  rintro e w1 ⟨rfl, rfl⟩
  go_wp2_with fail
  all_goals (go_ret2; exact ⟨rfl, rfl⟩)
theorem DNew_cores (w : World) (n : Nat) (c : Int) (h2 : 2 ≤ n) (h64 : n ≤ 64) (h : c < 1 ∨ 4 < c) :
    Calls Try.prog 6 #[.int .i64 n, .int .i64 c] w fun e w' => e = .returned (.tuple #[.pointer none, .int .i64 2]) ∧ Chg [] w w' := by
  have hN := Lib.hid (New_ok w n h2 h64)
  clear h2 h64
  by_cases h1 : c < 1
  · clear h
    go_enter Try.func6, Try.ntmps6
    go_wp2_with fail
    refine hN.out.mono ?_
    rintro e w1 ⟨rfl, hM, hx, hsz⟩
    have HX := Lib.hid hx
    clear hx hM hsz
    go_wp2_with fail
    all_goals (go_ret2; exact ⟨rfl, HX.out⟩)
  · have h4 : 4 < c := by omega
    clear h
    go_enter Try.func6, Try.ntmps6
    go_wp2_with fail
    refine hN.out.mono ?_
    rintro e w1 ⟨rfl, hM, hx, hsz⟩
    have HX := Lib.hid hx
    clear hx hM hsz
    go_wp2_with fail
    all_goals (go_ret2; exact ⟨rfl, HX.out⟩)

def zeroE : EntV := { ow := 0 }
def newE : EntV := { ow := -1 }
theorem made_entries (n : Nat) : (madeCells #[.int .i64 0, .int .u8 0, .int .i64 0, .int .i64 0, .int .i64 0, .int .u64 0, .int .u64 0, .int .u64 0, .int .u64 0, .int .u64 0, .int .u64 0, .int .u64 0, .int .u64 0, .int .i64 0, .int .u8 0, .slice none 0 0] (n * 16)).toList = (List.replicate n zeroE).flatMap encE := by
  apply List.ext_getElem?
  intro k
  by_cases hk : k < n * 16
  · have hq : k / 16 < (List.replicate n zeroE).length := by rw [List.length_replicate]; omega
    have hj : k % 16 < 16 := Nat.mod_lt _ (by decide)
    have h := flat_get encE_len (List.replicate n zeroE) (k / 16) hq (k % 16) hj
    rw [show k / 16 * 16 + k % 16 = k from by omega, List.getElem_replicate] at h
    rw [h]
    simp only [madeCells, Array.toList_map, Array.toList_range, List.getElem?_map, List.getElem?_range hk, Option.map_some]
    show some _ = _
    generalize k % 16 = j at hj
    match j, hj with
    | 0, _ => rfl
    | 1, _ => rfl
    | 2, _ => rfl
    | 3, _ => rfl
    | 4, _ => rfl
    | 5, _ => rfl
    | 6, _ => rfl
    | 7, _ => rfl
    | 8, _ => rfl
    | 9, _ => rfl
    | 10, _ => rfl
    | 11, _ => rfl
    | 12, _ => rfl
    | 13, _ => rfl
    | 14, _ => rfl
    | 15, _ => rfl
    | j + 16, h => exact absurd h (by omega)
  · rw [List.getElem?_eq_none (by simp [size_madeCells]; omega), List.getElem?_eq_none (by rw [flat_len encE_len, List.length_replicate]; omega)]
def newL (n k : Nat) : List EntV := List.replicate k newE ++ List.replicate (n - k) zeroE
theorem newL_len {n k : Nat} (h : k ≤ n) : (newL n k).length = n := by simp [newL]; omega
theorem newL_get {n k : Nat} (h : k < n) (h2 : k < (newL n k).length) : (newL n k)[k] = zeroE := by
  simp [newL]
theorem newL_set {n k : Nat} (h : k < n) : (newL n k).set k newE = newL n (k + 1) := by
  unfold newL
  rw [List.set_append_right _ _ (by simp), List.length_replicate, Nat.sub_self, show n - k = (n - (k + 1)) + 1 from by omega, List.replicate_succ, List.set_cons_zero, List.replicate_succ', List.append_assoc]
  rfl
def NRel (w1 : World) (bm n : Nat) (c : Int) (s : Value) (wr : World) : Prop :=
  ∃ k : Nat, k ≤ n ∧ s = .int .i64 k ∧ Chg [] w1 wr ∧ EntsAt wr w1.heap.size (newL n k) ∧ Blk wr (w1.heap.size + 1) [.pointer (some ⟨bm, 0, none⟩), .int .i64 c, .slice (some ⟨w1.heap.size, 0, none⟩) n n] 75

set_option maxHeartbeats 2000000 in
theorem DNew_ok (w : World) (n : Nat) (c : Int) (h2 : 2 ≤ n) (h64 : n ≤ 64) (hc : 1 ≤ c ∧ c ≤ 4) :
    Calls Try.prog 6 #[.int .i64 n, .int .i64 c] w fun e w' => ∃ d bm bw bl, e = .returned (.tuple #[.pointer (some ⟨d, 0, none⟩), .int .i64 0]) ∧ Chg [] w w' ∧ w.heap.size ≤ d ∧ (∀ g ∈ [bm, bw, bl], w.heap.size ≤ g) ∧ DirW w' d bm bw bl n c (List.replicate (8 * n) 0) (List.replicate n newE) := by
  obtain ⟨c1, c4⟩ := hc
  obtain ⟨i0, hi, hz0, hz1, hz2⟩ := info_parts Try.infoEntry
  have hN := Lib.hid (New_ok w n h2 h64)
  go_enter Try.func6, Try.ntmps6
  go_wp2_with fail
  refine hN.out.mono ?_
  rintro e w1 ⟨rfl, hM, hx, hsz⟩
  have HX := Lib.hid hx
  have HM := Lib.hid hM
  clear hx hM hsz
  have hmk := run_make (P := Try.prog) w1 73 79 i0 _ Try.underlying73 hi hz0 .i64 .i64 n n (by omega) (Int.le_refl _) (by rw [hz2]; omega) (by omega)
  rw [hz1, Int.toNat_natCast] at hmk
  go_wp2_with fail
  have hE0 : EntsAt (w1.alloc (.cells (madeCells #[.int .i64 0, .int .u8 0, .int .i64 0, .int .i64 0, .int .i64 0, .int .u64 0, .int .u64 0, .int .u64 0, .int .u64 0, .int .u64 0, .int .u64 0, .int .u64 0, .int .u64 0, .int .i64 0, .int .u8 0, .slice none 0 0] (n * 16)) 79)) w1.heap.size (newL n 0) := by
    have := Blk.new w1 (madeCells #[.int .i64 0, .int .u8 0, .int .i64 0, .int .i64 0, .int .i64 0, .int .u64 0, .int .u64 0, .int .u64 0, .int .u64 0, .int .u64 0, .int .u64 0, .int .u64 0, .int .u64 0, .int .i64 0, .int .u8 0, .slice none 0 0] (n * 16)).toList 79
    rw [made_entries] at this
    have e : (List.replicate n zeroE).flatMap encE = (newL n 0).flatMap encE := by simp [newL]
    rw [e, ← e, ← made_entries] at this
    unfold EntsAt
    rw [← e, ← made_entries]
    exact this
  have HE0 := Lib.hid hE0
  clear hE0 hmk
  go_loopw [36] (fun s wr => NRel w1 (w.heap.size + 1) n c s wr) (fun s _ => n - (intOf s).toNat)
  case atStart =>
    refine ⟨0, Nat.zero_le _, rfl, ((Chg.refl _ _).alloc _).alloc _, Blk.alloc HE0.out _, ?_⟩
    have := Blk.new (w1.alloc (.cells (madeCells #[.int .i64 0, .int .u8 0, .int .i64 0, .int .i64 0, .int .i64 0, .int .u64 0, .int .u64 0, .int .u64 0, .int .u64 0, .int .u64 0, .int .u64 0, .int .u64 0, .int .u64 0, .int .i64 0, .int .u8 0, .slice none 0 0] (n * 16)) 79)) [.pointer (some ⟨w.heap.size + 1, 0, none⟩), .int .i64 c, .slice (some ⟨w1.heap.size, 0, none⟩) n n] 75
    rwa [World.size_alloc] at this
  case round =>
    obtain ⟨k, hk, rfl, hC, hE, hB⟩ := hrel
    have HC := Lib.hid hC; have HE := Lib.hid hE; have HB := Lib.hid hB
    have d2 : wr.cell? ⟨w1.heap.size + 1, 2, none⟩ = some (.slice (some ⟨w1.heap.size, 0, none⟩) n n) := hB.cell 2
    clear hC hE hB HE0
    by_cases hlt : k < n
    · have hkl : k < (newL n k).length := by rw [newL_len hk]; exact hlt
      have e0 : wr.cell? ⟨w1.heap.size, k * 16, none⟩ = some (.int .i64 0) := by
        have := HE.out.cell hkl (j := 0) (by decide)
        rw [newL_get hlt] at this; exact this
      have f0 : wr.frozen? ⟨w1.heap.size, k * 16, none⟩ = false := HE.out.free _
      go_wp2_with fail
      go_roundw
      case rel =>
        refine ⟨k + 1, by omega, by go_num, HC.out.setCell (fun h => absurd h (Nat.lt_irrefl _)) _, ?_, HB.out.other (by simp) _⟩
        have := HE.out.set hkl (j := 0) (by decide) (v := .int .i64 (-1)) (e := newE) (by rw [newL_get hlt]; rfl)
        rw [newL_set hlt] at this; exact this
      case measure => simp [intOf]; omega
    · obtain rfl : k = n := by omega
      go_wp2_with fail
      go_ret2
      have hsz := HX.out.size
      have hL : newL k k = List.replicate k newE := by simp [newL]
      refine ⟨w1.heap.size + 1, w.heap.size + 1, w.heap.size, w1.heap.size, rfl, HX.out.trans HC.out, by omega, by simp; omega, ⟨HB.out, HM.out.chg HC.out (by simp) (by simp), by rw [← hL]; exact HE.out, by simp⟩, fun j hj => ?_, fun j q hj hq hne g hg => ?_⟩
      · rw [List.getElem_replicate]; exact .inl ⟨rfl, rfl⟩
      · rw [List.getElem_replicate] at hg; exact absurd (show g ∈ ([] : List Nat) from hg) (by simp)
end Go.Proofs.Ytepdhajgemmoiaa

/- What is asked of a directory: Owner; the law's refuses. -/
namespace Go.Proofs.Ytepdhajgemmoiaa
set_option linter.unusedSimpArgs false
set_option linter.unusedVariables false
set_option maxRecDepth 100000
open Go.RowKit

theorem Knows.new {w : World} {d bm bw bl n : Nat} {cores : Int} {ws : List Int} (D : DirW w d bm bw bl n cores ws (List.replicate n newE)) (hc : 1 ≤ cores ∧ cores ≤ 4) : Knows w d bm bw bl n cores ws (List.replicate n newE) (List.replicate n newE) :=
  ⟨D, by rw [List.map_replicate]; rfl, fun i h => by
    rw [List.getElem_replicate]
    exact ⟨⟨.inl rfl, fun hp => absurd rfl hp, fun m hm => absurd (show m ∈ ([] : List MsgV) from hm) (by simp)⟩, List.nodup_nil⟩, hc⟩
theorem Knows.look {w w' : World} {d bm bw bl n : Nat} {cores : Int} {ws : List Int} {es ks : List EntV} (K : Knows w d bm bw bl n cores ws es ks) (k : Chg [] w w') : Knows w' d bm bw bl n cores ws es ks := ⟨K.D.look k, K.ks, K.ok, K.co⟩
def ownerK (ks : List EntV) (i : Int) : Int := if i < 0 then -1 else match ks[i.toNat]? with | some e => e.ow | none => -1
theorem Owner_any (w : World) (d bm bw bl n : Nat) (cores : Int) (ws : List Int) (es ks : List EntV) (i : Int) (K : Knows w d bm bw bl n cores ws es ks) :
    Calls Try.prog 9 #[.pointer (some ⟨d, 0, none⟩), .int .i64 i] w fun e w' => e = .returned (.int .i64 (ownerK ks i)) ∧ w = w' := by
  have hln := K.D.D.len
  have d2 : w.cell? ⟨d, 2, none⟩ = some (.slice (some ⟨bl, 0, none⟩) n n) := K.D.D.blk.cell 2
  by_cases h : i < 0 ∨ (n : Int) ≤ i
  · have e : ownerK ks i = -1 := by
      unfold ownerK
      by_cases h0 : i < 0
      · rw [if_pos h0]
      · rw [if_neg h0, ← K.ks, List.getElem?_eq_none (by rw [List.length_map]; omega)]
    rw [e]
    exact Owner_bad w d bl n n i h d2
  · have hi : i.toNat < es.length := by omega
    have e : ownerK ks i = es[i.toNat].ow := by
      unfold ownerK
      rw [if_neg (by omega), ← K.ks, List.getElem?_map, List.getElem?_eq_getElem hi]
      rfl
    rw [e]
    exact Owner_ok w d bl n n i _ (by omega) (by omega) d2 (K.D.D.ents.cell hi (j := 0) (by decide))

set_option maxHeartbeats 1000000 in
theorem refuses_any (w : World) (d bm bw bl n : Nat) (cores : Int) (ws : List Int) (es ks : List EntV) (m : MsgV) (want : Int) (K : Knows w d bm bw bl n cores ws es ks) :
    Calls Try.prog 11 #[.pointer (some ⟨d, 0, none⟩), .agg #[.int .i64 m.k, .int .i64 m.c, .int .i64 m.l, .int .u64 m.d.x0, .int .u64 m.d.x1, .int .u64 m.d.x2, .int .u64 m.d.x3, .int .u64 m.d.x4, .int .u64 m.d.x5, .int .u64 m.d.x6, .int .u64 m.d.x7], .int .i64 want] w
      fun e w' => ∃ es', e = .returned (.bool (((hearS n cores ws ks m).2.2.2 == want) && ((hearS n cores ws ks m).2.2.1.length == 0))) ∧ DirPost w w' d bm bw bl n cores es (hearS n cores ws ks m).1 es' ∧ Knows w' d bm bw bl n cores (hearS n cores ws ks m).1 es' (hearS n cores ws ks m).2.1 := by
  have hk : Chg [] w (w.alloc (.cells #[.int .i64 m.k, .int .i64 m.c, .int .i64 m.l, .int .u64 m.d.x0, .int .u64 m.d.x1, .int .u64 m.d.x2, .int .u64 m.d.x3, .int .u64 m.d.x4, .int .u64 m.d.x5, .int .u64 m.d.x6, .int .u64 m.d.x7] 33)) := (Chg.refl [] w).alloc _
  have hH := Lib.hid (hear_any _ d bm bw bl n cores ws es ks m (K.look hk))
  have HP0 := Lib.hid (DirPost.look K.D hk)
  clear K hk
  generalize hearS n cores ws ks m = r at *
  obtain ⟨ws', ks', out, err⟩ := r
  dsimp only at *
  go_enter Try.func11, Try.ntmps11
  go_wp2_with fail
  refine hH.out.mono ?_
  rintro e w1 ⟨es', ⟨v, rfl, hO, hs, hP⟩, hK⟩
  obtain ⟨A, cap, rfl, _, _, _⟩ := ownsRow_cell hO
  have HP := Lib.hid (HP0.out.trans hP); have HK := Lib.hid hK
  clear hO hs hP hK hH HP0
  go_wp2_with fail
  all_goals (go_ret; refine ⟨es', ret_bool ?_, HP.out, HK.out⟩; clear HP HK; by_cases hw : err = want <;> by_cases ho : out = [] <;> simp_all <;> (rw [Bool.eq_iff_iff]; simp))
end Go.Proofs.Ytepdhajgemmoiaa

