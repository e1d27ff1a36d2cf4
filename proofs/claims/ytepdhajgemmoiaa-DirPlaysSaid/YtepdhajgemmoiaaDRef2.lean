/- shuntref01's memory as a field of a greater struct. -/
import Derived.Test.YtepdhajgemmoiaaDRef1b
namespace Go.Proofs.Ytepdhajgemmoiaa
set_option maxRecDepth 100000
open Go.RowKit

/-- The document's memory of m words: its struct at block br, its words in block bw. -/
structure RfAt (w : World) (br bw m : Nat) (ws : List Int) : Prop where
  r : ∃ rest t, t ≠ 29 ∧ Blk w br (.slice (some ⟨bw, 0, none⟩) m m :: rest) t
  l : Blk w bw (ws.map (Value.int .u64)) 29
  len : ws.length = m
  small : m ≤ 512

section
variable {w w' : World} {br bw m : Nat} {ws : List Int}
theorem RfAt.alloc (h : RfAt w br bw m ws) (o : Obj) : RfAt (w.alloc o) br bw m ws := ⟨h.r.imp fun _ k => k.imp fun _ q => ⟨q.1, q.2.alloc o⟩, h.l.alloc o, h.len, h.small⟩
theorem RfAt.drew (h : RfAt w br bw m ws) : RfAt w.drew br bw m ws := ⟨h.r, h.l, h.len, h.small⟩
theorem RfAt.drewN (h : RfAt w br bw m ws) (k : Nat) : RfAt (w.drewN k) br bw m ws := ⟨h.r, h.l, h.len, h.small⟩
theorem RfAt.chg {S : List Nat} (h : RfAt w br bw m ws) (k : Chg S w w') (h1 : br ∉ S) (h2 : bw ∉ S) : RfAt w' br bw m ws := ⟨h.r.imp fun _ x => x.imp fun _ q => ⟨q.1, k.blk q.2 h1⟩, k.blk h.l h2, h.len, h.small⟩
theorem RfAt.below {B : Nat} (h : RfAt w br bw m ws) (hb : Below B w w') (h1 : br < B) (h2 : bw < B) : RfAt w' br bw m ws := ⟨h.r.imp fun _ x => x.imp fun _ q => ⟨q.1, (hb.block _ h1).trans q.2⟩, (hb.block _ h2).trans h.l, h.len, h.small⟩
theorem RfAt.cell (h : RfAt w br bw m ws) : w.cell? ⟨br, 0, none⟩ = some (.slice (some ⟨bw, 0, none⟩) m m) := by obtain ⟨_, _, _, q⟩ := h.r; exact q.cell 0
theorem RfAt.ne (h : RfAt w br bw m ws) : br ≠ bw := by obtain ⟨_, _, q0, q⟩ := h.r; exact q.ne h.l q0
theorem RfAt.lt (h : RfAt w br bw m ws) : br < w.heap.size := by obtain ⟨_, _, _, q⟩ := h.r; exact q.lt
theorem RfAt.word (h : RfAt w br bw m ws) {i : Nat} (hi : i < m) : w.cell? ⟨bw, i, none⟩ = some (.int .u64 (ws[i]?.getD 0)) := (h.l.cell _).trans (map_get (by rw [h.len]; exact hi))
theorem RfAt.store (h : RfAt w br bw m ws) (j : Nat) (v : Int) : RfAt (w.setCell ⟨bw, j, none⟩ (.int .u64 v)) br bw m (ws.set j v) :=
  ⟨h.r.imp fun _ x => x.imp fun _ q => ⟨q.1, q.2.other (fun e => h.ne e.symm) _⟩, by have := h.l.set j (.int .u64 v); rwa [← List.map_set] at this, by simpa using h.len, h.small⟩
end

def rfSetPost (w : World) (br bw m n : Nat) (ws : List Int) (i : Int) (x0 x1 x2 x3 x4 x5 x6 x7 : Int) (e : Ending) (w' : World) : Prop :=
  e = .returned (.int .i64 (memErr n i)) ∧ RfAt w' br bw m (memSet n ws i x0 x1 x2 x3 x4 x5 x6 x7) ∧ Chg [bw] w w'

set_option maxHeartbeats 1000000 in
theorem rfSet_any (w : World) (br bw n : Nat) (ws : List Int) (i : Int) (x0 x1 x2 x3 x4 x5 x6 x7 : Int) (hM : RfAt w br bw (8 * n) ws) :
    Calls Try.prog 20 #[.pointer (some ⟨br, 0, none⟩), .int .i64 i, .agg #[.int .u64 x0, .int .u64 x1, .int .u64 x2, .int .u64 x3, .int .u64 x4, .int .u64 x5, .int .u64 x6, .int .u64 x7]] w (rfSetPost w br bw (8 * n) n ws i x0 x1 x2 x3 x4 x5 x6 x7) := by
  have hm := hM.cell
  have hsm := hM.small
  have hlt := hM.lt
  have hlw := hM.l.lt
  by_cases h : 0 ≤ i ∧ i < n
  · obtain ⟨k, rfl⟩ := Int.eq_ofNat_of_zero_le h.1
    have hk : k < n := by omega
    have hnk : ¬ n ≤ k := by omega
    clear h
    go_enter Try.func20, Try.ntmps20
    go_wp2_with fail
    have hbx := Blk.new w [.int .u64 x0, .int .u64 x1, .int .u64 x2, .int .u64 x3, .int .u64 x4, .int .u64 x5, .int .u64 x6, .int .u64 x7] 31
    go_loopw [7] (fun i wr => ∃ j : Nat, j ≤ 8 ∧ i = .int .i64 j ∧ RfAt wr br bw (8 * n) (setUpto ws k [x0, x1, x2, x3, x4, x5, x6, x7] j) ∧ Blk wr w.heap.size [.int .u64 x0, .int .u64 x1, .int .u64 x2, .int .u64 x3, .int .u64 x4, .int .u64 x5, .int .u64 x6, .int .u64 x7] 31 ∧ Chg [bw] w wr) (fun i _ => 8 - (intOf i).toNat)
    case atStart => exact ⟨0, Nat.zero_le _, rfl, hM.alloc _, hbx, (Chg.refl _ _).alloc _⟩
    case round =>
      obtain ⟨j, hj, rfl, hMr, hb, hC⟩ := hrel
      by_cases hj8 : j < 8
      · have cx : wr.cell? ⟨w.heap.size, j, none⟩ = some (.int .u64 ([x0, x1, x2, x3, x4, x5, x6, x7][j]?.getD 0)) := by
          rw [hb.cell]
          exact map_get (ws := [x0, x1, x2, x3, x4, x5, x6, x7]) hj8
        have hc := hMr.word (i := 8 * k + j) (by omega)
        have hf := hMr.l.free (8 * k + j)
        have hm' := hMr.cell
        have hs1 := (hMr.drew).store (8 * k + j) ([x0, x1, x2, x3, x4, x5, x6, x7][j]?.getD 0)
        have hs2 := (hb.drew).other (a := ⟨bw, 8 * k + j, none⟩) (by simp; omega) (.int .u64 ([x0, x1, x2, x3, x4, x5, x6, x7][j]?.getD 0))
        have e8 : setUpto ws k [x0, x1, x2, x3, x4, x5, x6, x7] (j + 1) = (setUpto ws k [x0, x1, x2, x3, x4, x5, x6, x7] j).set (8 * k + j) ([x0, x1, x2, x3, x4, x5, x6, x7][j]?.getD 0) := by rw [setUpto_succ, Nat.mul_comm k 8]
        have E8 := Lib.hid e8
        clear e8
        generalize [x0, x1, x2, x3, x4, x5, x6, x7][j]?.getD 0 = y at cx hs1 hs2 E8
        generalize hv : (setUpto ws k [x0, x1, x2, x3, x4, x5, x6, x7] j)[8 * k + j]?.getD 0 = old at hc
        clear hv
        go_wp2_with fail
        have f1 : IntKind.i64.wrap (8 * (k : Int)) = 8 * (k : Int) := IntWalk.i64_in _ (by omega)
        have f2 : IntKind.i64.wrap (8 * (k : Int) + j) = 8 * (k : Int) + j := IntWalk.i64_in _ (by omega)
        have f3 : 0 ≤ 8 * (k : Int) + j := by omega
        have f4 : (8 * (k : Int) + j).toNat = 8 * k + j := by omega
        have f5 : 8 * k + j < 8 * n := by omega
        have f6 : 8 * (k : Int) + j < 8 * (n : Int) := by omega
        go_still_tail 12, (by kernel_rfl)
        clear f1 f2 f3 f4 f5 f6
        go_wp2_with fail
        go_roundw
        case rel => exact ⟨j + 1, by omega, by go_num, by rw [E8.out]; exact hs1, hs2, hC.drew.setCell (by simp) _⟩
        case measure => simp [intOf]; omega
      · obtain rfl : j = 8 := by omega
        go_wp2_with fail
        go_ret
        rw [setUpto_all] at hMr
        refine ⟨ret_int (memErr_in ⟨by omega, by omega⟩).symm, ?_, hC⟩
        simp only [memSet]
        rw [if_pos ⟨by omega, by omega⟩, Int.toNat_natCast]
        exact hMr
  · have e1 : memSet n ws i x0 x1 x2 x3 x4 x5 x6 x7 = ws := by simp only [memSet]; rw [if_neg h]
    have e2 : memErr n i = 2 := memErr_out h
    unfold rfSetPost
    rw [e1, e2]
    clear e1 e2
    by_cases h0 : i < 0
    · clear h
      go_enter Try.func20, Try.ntmps20
      go_wp2_with fail
      go_ret
      exact ⟨rfl, hM.alloc _, (Chg.refl _ _).alloc _⟩
    · have h1 : (n : Int) ≤ i := by omega
      clear h
      go_enter Try.func20, Try.ntmps20
      go_wp2_with fail
      go_ret
      exact ⟨rfl, hM.alloc _, (Chg.refl _ _).alloc _⟩

set_option maxHeartbeats 1000000 in
theorem rfLine_any (w : World) (br bw n : Nat) (ws : List Int) (i : Int) (hM : RfAt w br bw (8 * n) ws) :
    Calls Try.prog 44 #[.pointer (some ⟨br, 0, none⟩), .int .i64 i] w (LinePost w n ws i) := by
  have hm := hM.cell
  have hsm := hM.small
  have hlt := hM.lt
  have hlw := hM.l.lt
  by_cases h : 0 ≤ i ∧ i < n
  · obtain ⟨k, rfl⟩ := Int.eq_ofNat_of_zero_le h.1
    have hk : k < n := by omega
    have hnk : ¬ n ≤ k := by omega
    unfold LinePost
    rw [memErr_in h, show memLine n ws (k : Int) = lineOf ws k from by simp only [memLine]; rw [if_pos h, Int.toNat_natCast]]
    clear h
    go_enter Try.func44, Try.ntmps44
    go_wp2_with fail
    have hb0 := (Blk.new w [.int .u64 0, .int .u64 0, .int .u64 0, .int .u64 0, .int .u64 0, .int .u64 0, .int .u64 0, .int .u64 0] 31).alloc (.cells #[.int .u64 0, .int .u64 0, .int .u64 0, .int .u64 0, .int .u64 0, .int .u64 0, .int .u64 0, .int .u64 0] 31)
    have hb1 := Blk.new (w.alloc (.cells #[.int .u64 0, .int .u64 0, .int .u64 0, .int .u64 0, .int .u64 0, .int .u64 0, .int .u64 0, .int .u64 0] 31)) ([0, 0, 0, 0, 0, 0, 0, 0].map (Value.int .u64)) 31
    rw [World.size_alloc] at hb1
    go_loopw [7] (fun i wr => ∃ j : Nat, j ≤ 8 ∧ i = .int .i64 j ∧ ∃ l : List Int, l.length = 8 ∧ (∀ t, t < j → l[t]? = some (ws[k * 8 + t]?.getD 0)) ∧ Blk wr (w.heap.size + 1) (l.map (Value.int .u64)) 31 ∧ Blk wr w.heap.size [.int .u64 0, .int .u64 0, .int .u64 0, .int .u64 0, .int .u64 0, .int .u64 0, .int .u64 0, .int .u64 0] 31 ∧ Below w.heap.size w wr) (fun i _ => 8 - (intOf i).toNat)
    case atStart => exact ⟨0, Nat.zero_le _, rfl, [0, 0, 0, 0, 0, 0, 0, 0], rfl, fun t ht => absurd ht (by omega), hb1, hb0, ((Below.refl _ _).alloc (Nat.le_refl _) _).alloc (by simp) _⟩
    case round =>
      obtain ⟨j, hj, rfl, l, hl, hget, hB1, hB0, hB⟩ := hrel
      by_cases hj8 : j < 8
      · have hMr := hM.below hB hlt hlw
        have hc := hMr.word (i := 8 * k + j) (by omega)
        have hm' := hMr.cell
        have hcl : wr.cell? ⟨w.heap.size + 1, j, none⟩ = some (.int .u64 (l[j]?.getD 0)) := by rw [hB1.cell]; exact map_get (by omega)
        have hf := hB1.free j
        generalize hv : ws[8 * k + j]?.getD 0 = y at hc
        generalize l[j]?.getD 0 = old at hcl
        have HV := Lib.hid hv
        clear hv
        have HG := Lib.hid hget
        clear hget
        have HL := Lib.hid hl
        clear hl
        go_wp2_with fail
        go_roundw
        case rel =>
          refine ⟨j + 1, by omega, by go_num, l.set j y, by rw [List.length_set]; exact HL.out, ?_, ?_, hB0.other (by simp) _, hB.setCell (p := ⟨w.heap.size + 1, j, none⟩) (by simp) _⟩
          · intro t ht
            by_cases htj : t = j
            · subst htj
              rw [List.getElem?_set_self (by rw [HL.out]; omega), ← HV.out, Nat.mul_comm k 8]
            · rw [List.getElem?_set_ne (fun e => htj e.symm)]
              exact HG.out t (by omega)
          · have := hB1.set j (.int .u64 y)
            rwa [← List.map_set] at this
        case measure => simp [intOf]; omega
      · obtain rfl : j = 8 := by omega
        obtain rfl := lineOf_ext hl hget
        clear hl hget
        have c0 := hB1.cell 0
        have c1 := hB1.cell 1
        have c2 := hB1.cell 2
        have c3 := hB1.cell 3
        have c4 := hB1.cell 4
        have c5 := hB1.cell 5
        have c6 := hB1.cell 6
        have c7 := hB1.cell 7
        have d0 := hB0.cell 0
        have d1 := hB0.cell 1
        have d2 := hB0.cell 2
        have d3 := hB0.cell 3
        have d4 := hB0.cell 4
        have d5 := hB0.cell 5
        have d6 := hB0.cell 6
        have d7 := hB0.cell 7
        have hf0 := hB0.free
        simp only [lineOf, List.map_cons, List.map_nil, List.getElem?_cons_succ, List.getElem?_cons_zero] at c0 c1 c2 c3 c4 c5 c6 c7 d0 d1 d2 d3 d4 d5 d6 d7
        go_wp2_with fail
        refine bodyPost_ret (v := .tuple #[u64s (lineOf ws k), .int .i64 0]) ?_ rfl ⟨rfl, ?_⟩
        · simp [results, Try.results44, go_sem, lineOf, u64s, d0, d1, d2, d3, d4, d5, d6, d7]
        · exact Chg.of_below ((((((((hB.setCell (p := ⟨w.heap.size, 0, none⟩) (Nat.le_refl _) _).setCell (p := ⟨w.heap.size, 1, none⟩) (Nat.le_refl _) _).setCell (p := ⟨w.heap.size, 2, none⟩) (Nat.le_refl _) _).setCell (p := ⟨w.heap.size, 3, none⟩) (Nat.le_refl _) _).setCell (p := ⟨w.heap.size, 4, none⟩) (Nat.le_refl _) _).setCell (p := ⟨w.heap.size, 5, none⟩) (Nat.le_refl _) _).setCell (p := ⟨w.heap.size, 6, none⟩) (Nat.le_refl _) _).setCell (p := ⟨w.heap.size, 7, none⟩) (Nat.le_refl _) _) []
  · unfold LinePost
    rw [memErr_out h, show memLine n ws i = zeroLine from by simp only [memLine]; rw [if_neg h]]
    by_cases h0 : i < 0
    · clear h
      go_enter Try.func44, Try.ntmps44
      go_wp2_with fail
      refine bodyPost_ret (v := .tuple #[u64s zeroLine, .int .i64 2]) ?_ rfl ⟨rfl, ?_⟩
      · simp [results, Try.results44, go_sem, zeroLine, u64s]
      · exact ((Chg.refl _ _).alloc _).alloc _
    · have h1 : (n : Int) ≤ i := by omega
      clear h
      go_enter Try.func44, Try.ntmps44
      go_wp2_with fail
      refine bodyPost_ret (v := .tuple #[u64s zeroLine, .int .i64 2]) ?_ rfl ⟨rfl, ?_⟩
      · simp [results, Try.results44, go_sem, zeroLine, u64s]
      · exact ((Chg.refl _ _).alloc _).alloc _

end Go.Proofs.Ytepdhajgemmoiaa
