/- The document's memory (shuntref01): Line and Same. -/
import Derived.Test.YtepdhajgemmoiaaDRef1
namespace Go.Proofs.Ytepdhajgemmoiaa
set_option maxRecDepth 100000
open Go.RowKit

theorem lineOf_ext {ws l : List Int} {k : Nat} (hl : l.length = 8) (h : ∀ t, t < 8 → l[t]? = some (ws[k * 8 + t]?.getD 0)) : l = lineOf ws k := by
  apply List.ext_getElem?
  intro i
  by_cases hi : i < 8
  · rw [h i hi]
    match i, hi with
    | 0, _ => rfl
    | 1, _ => rfl
    | 2, _ => rfl
    | 3, _ => rfl
    | 4, _ => rfl
    | 5, _ => rfl
    | 6, _ => rfl
    | 7, _ => rfl
  · rw [List.getElem?_eq_none (by omega), List.getElem?_eq_none (by simp [lineOf]; omega)]

set_option maxHeartbeats 1000000 in
theorem rLine_any (w : World) (br bw n : Nat) (ws : List Int) (i : Int) (hM : RefAt w br bw (8 * n) ws) :
    Calls Try.prog 44 #[.pointer (some ⟨br, 0, none⟩), .int .i64 i] w (LinePost w n ws i) := by
  have hm := hM.cell
  have hsm := hM.small
  have hlt := hM.r.lt
  have hlw := hM.l.lt
  by_cases h : 0 ≤ i ∧ i < n
  · obtain ⟨k, rfl⟩ := Int.eq_ofNat_of_zero_le h.1
    have hk : k < n := by omega
    have hnk : ¬ n ≤ k := by omega
    unfold LinePost
    rw [memErr_in h, show memLine n ws (k : Int) = lineOf ws k from by simp only [memLine]; rw [if_pos h, Int.toNat_natCast]]
    clear h
    go_enter Try.func44, Try.ntmps44
    go_wp2_with fail
    have hb0 := (Blk.new w [.int .u64 0, .int .u64 0, .int .u64 0, .int .u64 0, .int .u64 0, .int .u64 0, .int .u64 0, .int .u64 0] 31).alloc (.cells #[.int .u64 0, .int .u64 0, .int .u64 0, .int .u64 0, .int .u64 0, .int .u64 0, .int .u64 0, .int .u64 0] 31)
    have hb1 := Blk.new (w.alloc (.cells #[.int .u64 0, .int .u64 0, .int .u64 0, .int .u64 0, .int .u64 0, .int .u64 0, .int .u64 0, .int .u64 0] 31)) ([0, 0, 0, 0, 0, 0, 0, 0].map (Value.int .u64)) 31
    rw [World.size_alloc] at hb1
    go_loopw [7] (fun i wr => ∃ j : Nat, j ≤ 8 ∧ i = .int .i64 j ∧ ∃ l : List Int, l.length = 8 ∧ (∀ t, t < j → l[t]? = some (ws[k * 8 + t]?.getD 0)) ∧ Blk wr (w.heap.size + 1) (l.map (Value.int .u64)) 31 ∧ Blk wr w.heap.size [.int .u64 0, .int .u64 0, .int .u64 0, .int .u64 0, .int .u64 0, .int .u64 0, .int .u64 0, .int .u64 0] 31 ∧ Below w.heap.size w wr) (fun i _ => 8 - (intOf i).toNat)
    case atStart => exact ⟨0, Nat.zero_le _, rfl, [0, 0, 0, 0, 0, 0, 0, 0], rfl, fun t ht => absurd ht (by omega), hb1, hb0, ((Below.refl _ _).alloc (Nat.le_refl _) _).alloc (by simp) _⟩
    case round =>
      obtain ⟨j, hj, rfl, l, hl, hget, hB1, hB0, hB⟩ := hrel
      by_cases hj8 : j < 8
      · have hMr := hM.below hB hlt hlw
        have hc := hMr.word (i := 8 * k + j) (by omega)
        have hm' := hMr.cell
        have hcl : wr.cell? ⟨w.heap.size + 1, j, none⟩ = some (.int .u64 (l[j]?.getD 0)) := by rw [hB1.cell]; exact map_get (by omega)
        have hf := hB1.free j
        generalize hv : ws[8 * k + j]?.getD 0 = y at hc
        generalize l[j]?.getD 0 = old at hcl
        have HV := Lib.hid hv
        clear hv
        have HG := Lib.hid hget
        clear hget
        have HL := Lib.hid hl
        clear hl
        go_wp2_with fail
        go_roundw
        case rel =>
          refine ⟨j + 1, by omega, by go_num, l.set j y, by rw [List.length_set]; exact HL.out, ?_, ?_, hB0.other (by simp) _, hB.setCell (p := ⟨w.heap.size + 1, j, none⟩) (by simp) _⟩
          · intro t ht
            by_cases htj : t = j
            · subst htj
              rw [List.getElem?_set_self (by rw [HL.out]; omega), ← HV.out, Nat.mul_comm k 8]
            · rw [List.getElem?_set_ne (fun e => htj e.symm)]
              exact HG.out t (by omega)
          · have := hB1.set j (.int .u64 y)
            rwa [← List.map_set] at this
        case measure => simp [intOf]; omega
      · obtain rfl : j = 8 := by omega
        obtain rfl := lineOf_ext hl hget
        clear hl hget
        have c0 := hB1.cell 0
        have c1 := hB1.cell 1
        have c2 := hB1.cell 2
        have c3 := hB1.cell 3
        have c4 := hB1.cell 4
        have c5 := hB1.cell 5
        have c6 := hB1.cell 6
        have c7 := hB1.cell 7
        have d0 := hB0.cell 0
        have d1 := hB0.cell 1
        have d2 := hB0.cell 2
        have d3 := hB0.cell 3
        have d4 := hB0.cell 4
        have d5 := hB0.cell 5
        have d6 := hB0.cell 6
        have d7 := hB0.cell 7
        have hf0 := hB0.free
        simp only [lineOf, List.map_cons, List.map_nil, List.getElem?_cons_succ, List.getElem?_cons_zero] at c0 c1 c2 c3 c4 c5 c6 c7 d0 d1 d2 d3 d4 d5 d6 d7
        go_wp2_with fail
        refine bodyPost_ret (v := .tuple #[u64s (lineOf ws k), .int .i64 0]) ?_ rfl ⟨rfl, ?_⟩
        · simp [results, Try.results44, go_sem, lineOf, u64s, d0, d1, d2, d3, d4, d5, d6, d7]
        · exact Chg.of_below ((((((((hB.setCell (p := ⟨w.heap.size, 0, none⟩) (Nat.le_refl _) _).setCell (p := ⟨w.heap.size, 1, none⟩) (Nat.le_refl _) _).setCell (p := ⟨w.heap.size, 2, none⟩) (Nat.le_refl _) _).setCell (p := ⟨w.heap.size, 3, none⟩) (Nat.le_refl _) _).setCell (p := ⟨w.heap.size, 4, none⟩) (Nat.le_refl _) _).setCell (p := ⟨w.heap.size, 5, none⟩) (Nat.le_refl _) _).setCell (p := ⟨w.heap.size, 6, none⟩) (Nat.le_refl _) _).setCell (p := ⟨w.heap.size, 7, none⟩) (Nat.le_refl _) _) []
  · unfold LinePost
    rw [memErr_out h, show memLine n ws i = zeroLine from by simp only [memLine]; rw [if_neg h]]
    by_cases h0 : i < 0
    · clear h
      go_enter Try.func44, Try.ntmps44
      go_wp2_with fail
      refine bodyPost_ret (v := .tuple #[u64s zeroLine, .int .i64 2]) ?_ rfl ⟨rfl, ?_⟩
      · simp [results, Try.results44, go_sem, zeroLine, u64s]
      · exact ((Chg.refl _ _).alloc _).alloc _
    · have h1 : (n : Int) ≤ i := by omega
      clear h
      go_enter Try.func44, Try.ntmps44
      go_wp2_with fail
      refine bodyPost_ret (v := .tuple #[u64s zeroLine, .int .i64 2]) ?_ rfl ⟨rfl, ?_⟩
      · simp [results, Try.results44, go_sem, zeroLine, u64s]
      · exact ((Chg.refl _ _).alloc _).alloc _

end Go.Proofs.Ytepdhajgemmoiaa
