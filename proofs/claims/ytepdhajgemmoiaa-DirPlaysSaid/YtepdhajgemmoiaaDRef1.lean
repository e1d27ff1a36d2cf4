/- The document's memory (shuntref01): what its calls answer. -/
import Derived.Test.YtepdhajgemmoiaaDMem3
import Derived.IntWalk
import Derived.StillTailTactics
namespace Go.Proofs.Ytepdhajgemmoiaa
set_option maxRecDepth 100000
open Go.RowKit

/-- The document's memory of m words: its struct at block br, its words in block bw. -/
structure RefAt (w : World) (br bw m : Nat) (ws : List Int) : Prop where
  r : Blk w br [.slice (some ⟨bw, 0, none⟩) m m] 57
  l : Blk w bw (ws.map (Value.int .u64)) 29
  len : ws.length = m
  small : m ≤ 512

section
variable {w w' : World} {br bw m : Nat} {ws : List Int}
theorem RefAt.alloc (h : RefAt w br bw m ws) (o : Obj) : RefAt (w.alloc o) br bw m ws := ⟨h.r.alloc o, h.l.alloc o, h.len, h.small⟩
theorem RefAt.drew (h : RefAt w br bw m ws) : RefAt w.drew br bw m ws := ⟨h.r, h.l, h.len, h.small⟩
theorem RefAt.drewN (h : RefAt w br bw m ws) (k : Nat) : RefAt (w.drewN k) br bw m ws := ⟨h.r, h.l, h.len, h.small⟩
theorem RefAt.chg {S : List Nat} (h : RefAt w br bw m ws) (k : Chg S w w') (h1 : br ∉ S) (h2 : bw ∉ S) : RefAt w' br bw m ws := ⟨k.blk h.r h1, k.blk h.l h2, h.len, h.small⟩
theorem RefAt.below {B : Nat} (h : RefAt w br bw m ws) (hb : Below B w w') (h1 : br < B) (h2 : bw < B) : RefAt w' br bw m ws := ⟨(hb.block _ h1).trans h.r, (hb.block _ h2).trans h.l, h.len, h.small⟩
theorem RefAt.cell (h : RefAt w br bw m ws) : w.cell? ⟨br, 0, none⟩ = some (.slice (some ⟨bw, 0, none⟩) m m) := h.r.cell 0
theorem RefAt.ne (h : RefAt w br bw m ws) : br ≠ bw := h.r.ne h.l (by decide)
theorem RefAt.word (h : RefAt w br bw m ws) {i : Nat} (hi : i < m) : w.cell? ⟨bw, i, none⟩ = some (.int .u64 (ws[i]?.getD 0)) := (h.l.cell _).trans (map_get (by rw [h.len]; exact hi))
theorem RefAt.store (h : RefAt w br bw m ws) (j : Nat) (v : Int) : RefAt (w.setCell ⟨bw, j, none⟩ (.int .u64 v)) br bw m (ws.set j v) :=
  ⟨h.r.other (fun e => h.ne e.symm) _, by have := h.l.set j (.int .u64 v); rwa [← List.map_set] at this, by simpa using h.len, h.small⟩
end

theorem Try.infoU64' : (Try.prog.info? 29).map (fun i => (i.zero, i.size, i.bytes)) = some (some (.int .u64 0), 1, 8) := by kernel_rfl

def rNewPost (w : World) (m : Nat) (e : Ending) (w' : World) : Prop :=
  ∃ bw, e = .returned (.tuple #[.agg #[.slice (some ⟨bw, 0, none⟩) m m], .int .i64 0]) ∧ Blk w' bw ((List.replicate m (0 : Int)).map (Value.int .u64)) 29 ∧ Chg [] w w' ∧ w.heap.size ≤ bw

set_option maxHeartbeats 400000 in
theorem rNew_ok (w : World) (n : Nat) (h2 : 2 ≤ n) (h64 : n ≤ 64) :
    Calls Try.prog 37 #[.int .i64 n] w (rNewPost w (8 * n)) := by
  obtain ⟨i0, hi, hz0, hz1, hz2⟩ := info_parts Try.infoU64'
  obtain ⟨zs, hzs⟩ : ∃ zs, zs = List.replicate (8 * n) (0 : Int) := ⟨_, rfl⟩
  have hmk : ∀ w : World, (Instr.makeSlice 55 (.int .i64 (8 * (n : Int))) (.int .i64 (8 * (n : Int)))).run Try.prog w = .ok (.slice (some ⟨w.heap.size, 0, none⟩) (8 * n) (8 * n)) (w.alloc (.cells (zs.map (Value.int .u64)).toArray 29)) := by
    intro w
    rw [hzs]
    have h := run_make (P := Try.prog) w 55 29 i0 _ Try.underlying55 hi hz0 .i64 .i64 (8 * (n : Int)) (8 * (n : Int)) (by omega) (Int.le_refl _) (by rw [hz2]; omega) (by omega)
    rw [hz1, show (8 * (n : Int)).toNat = 8 * n from by omega, madeCells_replicate (.int .u64 0) 0 _ _ (by rfl)] at h
    rw [h]
    simp
  have HZ := Lib.hid hzs
  clear hzs
  go_enter Try.func37, Try.ntmps37
  go_wp2
  refine bodyPost_ret (v := .tuple #[.agg #[.slice (some ⟨w.heap.size + 1, 0, none⟩) (8 * n) (8 * n)], .int .i64 0]) ?_ rfl ⟨w.heap.size + 1, rfl, ?_, ((Chg.refl _ _).alloc _).alloc _, by omega⟩
  · simp [results, Try.results37, go_sem]
  · rw [← HZ.out]
    have h := Blk.new (w.alloc (.cells #[.slice (some ⟨w.heap.size + 1, 0, none⟩) (8 * n) (8 * n)] 57)) (zs.map (Value.int .u64)) 29
    rwa [World.size_alloc] at h

theorem rNew_bad (w : World) (n : Int) (h : n < 2 ∨ 64 < n) :
    Calls Try.prog 37 #[.int .i64 n] w fun e w' => e = .returned (.tuple #[.agg #[.slice none 0 0], .int .i64 2]) ∧ Chg [] w w' := by
  by_cases h2 : n < 2
  · clear h
    go_enter Try.func37, Try.ntmps37
    go_wp2
    refine bodyPost_ret (v := .tuple #[.agg #[.slice none 0 0], .int .i64 2]) ?_ rfl ⟨rfl, (Chg.refl _ _).alloc _⟩
    simp [results, Try.results37, go_sem]
  · have h3 : 64 < n := by omega
    clear h
    go_enter Try.func37, Try.ntmps37
    go_wp2
    refine bodyPost_ret (v := .tuple #[.agg #[.slice none 0 0], .int .i64 2]) ?_ rfl ⟨rfl, (Chg.refl _ _).alloc _⟩
    simp [results, Try.results37, go_sem]

/-- The first k words of a line set. -/
def setUpto (ws : List Int) (i : Nat) (xs : List Int) (k : Nat) : List Int := (List.range k).foldl (fun l j => l.set (i * 8 + j) (xs[j]?.getD 0)) ws
theorem setUpto_succ (ws : List Int) (i : Nat) (xs : List Int) (k : Nat) : setUpto ws i xs (k + 1) = (setUpto ws i xs k).set (i * 8 + k) (xs[k]?.getD 0) := by simp [setUpto, List.range_succ]
theorem setUpto_all (ws : List Int) (i : Nat) (x0 x1 x2 x3 x4 x5 x6 x7 : Int) : setUpto ws i [x0, x1, x2, x3, x4, x5, x6, x7] 8 = setLine ws i x0 x1 x2 x3 x4 x5 x6 x7 := by
  simp [setUpto_succ, setLine]
  simp [setUpto]

def rSetPost (w : World) (br bw m n : Nat) (ws : List Int) (i : Int) (x0 x1 x2 x3 x4 x5 x6 x7 : Int) (e : Ending) (w' : World) : Prop :=
  e = .returned (.int .i64 (memErr n i)) ∧ RefAt w' br bw m (memSet n ws i x0 x1 x2 x3 x4 x5 x6 x7) ∧ Chg [bw] w w'

set_option maxHeartbeats 1000000 in
theorem rSet_any (w : World) (br bw n : Nat) (ws : List Int) (i : Int) (x0 x1 x2 x3 x4 x5 x6 x7 : Int) (hM : RefAt w br bw (8 * n) ws) :
    Calls Try.prog 20 #[.pointer (some ⟨br, 0, none⟩), .int .i64 i, .agg #[.int .u64 x0, .int .u64 x1, .int .u64 x2, .int .u64 x3, .int .u64 x4, .int .u64 x5, .int .u64 x6, .int .u64 x7]] w (rSetPost w br bw (8 * n) n ws i x0 x1 x2 x3 x4 x5 x6 x7) := by
  have hm := hM.cell
  have hsm := hM.small
  have hlt := hM.r.lt
  have hlw := hM.l.lt
  by_cases h : 0 ≤ i ∧ i < n
  · obtain ⟨k, rfl⟩ := Int.eq_ofNat_of_zero_le h.1
    have hk : k < n := by omega
    have hnk : ¬ n ≤ k := by omega
    clear h
    go_enter Try.func20, Try.ntmps20
    go_wp2_with fail
    have hbx := Blk.new w [.int .u64 x0, .int .u64 x1, .int .u64 x2, .int .u64 x3, .int .u64 x4, .int .u64 x5, .int .u64 x6, .int .u64 x7] 31
    go_loopw [7] (fun i wr => ∃ j : Nat, j ≤ 8 ∧ i = .int .i64 j ∧ RefAt wr br bw (8 * n) (setUpto ws k [x0, x1, x2, x3, x4, x5, x6, x7] j) ∧ Blk wr w.heap.size [.int .u64 x0, .int .u64 x1, .int .u64 x2, .int .u64 x3, .int .u64 x4, .int .u64 x5, .int .u64 x6, .int .u64 x7] 31 ∧ Chg [bw] w wr) (fun i _ => 8 - (intOf i).toNat)
    case atStart => exact ⟨0, Nat.zero_le _, rfl, hM.alloc _, hbx, (Chg.refl _ _).alloc _⟩
    case round =>
      obtain ⟨j, hj, rfl, hMr, hb, hC⟩ := hrel
      by_cases hj8 : j < 8
      · have cx : wr.cell? ⟨w.heap.size, j, none⟩ = some (.int .u64 ([x0, x1, x2, x3, x4, x5, x6, x7][j]?.getD 0)) := by
          rw [hb.cell]
          exact map_get (ws := [x0, x1, x2, x3, x4, x5, x6, x7]) hj8
        have hc := hMr.word (i := 8 * k + j) (by omega)
        have hf := hMr.l.free (8 * k + j)
        have hm' := hMr.cell
        have hs1 := (hMr.drew).store (8 * k + j) ([x0, x1, x2, x3, x4, x5, x6, x7][j]?.getD 0)
        have hs2 := (hb.drew).other (a := ⟨bw, 8 * k + j, none⟩) (by simp; omega) (.int .u64 ([x0, x1, x2, x3, x4, x5, x6, x7][j]?.getD 0))
        have e8 : setUpto ws k [x0, x1, x2, x3, x4, x5, x6, x7] (j + 1) = (setUpto ws k [x0, x1, x2, x3, x4, x5, x6, x7] j).set (8 * k + j) ([x0, x1, x2, x3, x4, x5, x6, x7][j]?.getD 0) := by rw [setUpto_succ, Nat.mul_comm k 8]
        have E8 := Lib.hid e8
        clear e8
        generalize [x0, x1, x2, x3, x4, x5, x6, x7][j]?.getD 0 = y at cx hs1 hs2 E8
        generalize hv : (setUpto ws k [x0, x1, x2, x3, x4, x5, x6, x7] j)[8 * k + j]?.getD 0 = old at hc
        clear hv
        go_wp2_with fail
        have f1 : IntKind.i64.wrap (8 * (k : Int)) = 8 * (k : Int) := IntWalk.i64_in _ (by omega)
        have f2 : IntKind.i64.wrap (8 * (k : Int) + j) = 8 * (k : Int) + j := IntWalk.i64_in _ (by omega)
        have f3 : 0 ≤ 8 * (k : Int) + j := by omega
        have f4 : (8 * (k : Int) + j).toNat = 8 * k + j := by omega
        have f5 : 8 * k + j < 8 * n := by omega
        have f6 : 8 * (k : Int) + j < 8 * (n : Int) := by omega
        go_still_tail 12, (by kernel_rfl)
        clear f1 f2 f3 f4 f5 f6
        go_wp2_with fail
        go_roundw
        case rel => exact ⟨j + 1, by omega, by go_num, by rw [E8.out]; exact hs1, hs2, hC.drew.setCell (by simp) _⟩
        case measure => simp [intOf]; omega
      · obtain rfl : j = 8 := by omega
        go_wp2_with fail
        go_ret
        rw [setUpto_all] at hMr
        refine ⟨ret_int (memErr_in ⟨by omega, by omega⟩).symm, ?_, hC⟩
        simp only [memSet]
        rw [if_pos ⟨by omega, by omega⟩, Int.toNat_natCast]
        exact hMr
  · have e1 : memSet n ws i x0 x1 x2 x3 x4 x5 x6 x7 = ws := by simp only [memSet]; rw [if_neg h]
    have e2 : memErr n i = 2 := memErr_out h
    unfold rSetPost
    rw [e1, e2]
    clear e1 e2
    by_cases h0 : i < 0
    · clear h
      go_enter Try.func20, Try.ntmps20
      go_wp2_with fail
      go_ret
      exact ⟨rfl, hM.alloc _, (Chg.refl _ _).alloc _⟩
    · have h1 : (n : Int) ≤ i := by omega
      clear h
      go_enter Try.func20, Try.ntmps20
      go_wp2_with fail
      go_ret
      exact ⟨rfl, hM.alloc _, (Chg.refl _ _).alloc _⟩

end Go.Proofs.Ytepdhajgemmoiaa
