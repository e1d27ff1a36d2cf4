import Derived.Test.YtepdhajgemmoiaaDMem2
namespace Go.Proofs.Ytepdhajgemmoiaa
set_option maxRecDepth 100000
open Go.RowKit

def setLine (ws : List Int) (i : Nat) (x0 x1 x2 x3 x4 x5 x6 x7 : Int) : List Int :=
  (((((((ws.set (i * 8) x0).set (i * 8 + 1) x1).set (i * 8 + 2) x2).set (i * 8 + 3) x3).set (i * 8 + 4) x4).set (i * 8 + 5) x5).set (i * 8 + 6) x6).set (i * 8 + 7) x7
def memSet (n : Nat) (ws : List Int) (i : Int) (x0 x1 x2 x3 x4 x5 x6 x7 : Int) : List Int := if 0 ≤ i ∧ i < n then setLine ws i.toNat x0 x1 x2 x3 x4 x5 x6 x7 else ws

def SetPost (w : World) (bm bl n : Nat) (ws : List Int) (i : Int) (x0 x1 x2 x3 x4 x5 x6 x7 : Int) (e : Ending) (w' : World) : Prop :=
  e = .returned (.int .i64 (memErr n i)) ∧ MemAt w' bm bl n (memSet n ws i x0 x1 x2 x3 x4 x5 x6 x7) ∧ Chg [bl] w w'

set_option maxHeartbeats 400000 in
theorem Set_any (w : World) (bm bl n : Nat) (ws : List Int) (i : Int) (x0 x1 x2 x3 x4 x5 x6 x7 : Int) (hM : MemAt w bm bl n ws) :
    Calls Try.prog 28 #[.pointer (some ⟨bm, 0, none⟩), .int .i64 i, .agg #[.int .u64 x0, .int .u64 x1, .int .u64 x2, .int .u64 x3, .int .u64 x4, .int .u64 x5, .int .u64 x6, .int .u64 x7]] w (SetPost w bm bl n ws i x0 x1 x2 x3 x4 x5 x6 x7) := by
  obtain ⟨cap, hm0⟩ := hM.cell
  have hm : ∀ o, (w.alloc o).cell? ⟨bm, 0, none⟩ = some (.slice (some ⟨bl, 0, none⟩) n cap) := fun o => (World.cell?_alloc_lt w o _ hM.mlt).trans hm0
  have hlen := hM.len
  by_cases h : 0 ≤ i ∧ i < n
  · have hc (k : Nat) (hk : k < 8) : w.cell? ⟨bl, i.toNat * 8 + k, none⟩ = some (.int .u64 (ws[i.toNat * 8 + k]?.getD 0)) := hM.word (by omega)
    have c0 := hc 0 (by decide)
    have c1 := hc 1 (by decide)
    have c2 := hc 2 (by decide)
    have c3 := hc 3 (by decide)
    have c4 := hc 4 (by decide)
    have c5 := hc 5 (by decide)
    have c6 := hc 6 (by decide)
    have c7 := hc 7 (by decide)
    simp only [Nat.add_zero] at c0
    clear hc
    have hfr := hM.free
    obtain ⟨h0, h1⟩ := h
    have HL := Lib.hid hlen; clear hlen
    have hs := hM.small
    have hlt := hM.llt
    go_enter Try.func28, Try.ntmps28
    go_wp2_with (go_at_call 48; refine (at_ok _ _ bl n cap _ (by omega) (by omega) (hm _)).mono ?_; rintro e w' ⟨rfl, rfl⟩)
    go_ret
    refine ⟨ret_int ?_, ?_, ?_⟩
    · simp only [memErr]; rw [if_pos ⟨h0, h1⟩]
    · simp only [memSet]; rw [if_pos ⟨h0, h1⟩]
      exact ((((((((hM.store (by omega) x0).store (by omega) x1).store (by omega) x2).store (by omega) x3).store (by omega) x4).store (by omega) x5).store (by omega) x6).store (by omega) x7).alloc _
    · exact ((((((((((Chg.refl _ _).setCell (by simp) _).setCell (by simp) _).setCell (by simp) _).setCell (by simp) _).setCell (by simp) _).setCell (by simp) _).setCell (by simp) _).setCell (by simp) _).alloc _)
  · have h' : i < 0 ∨ (n : Int) ≤ i := by omega
    have HL := Lib.hid hlen; clear hlen
    go_enter Try.func28, Try.ntmps28
    go_wp2_with (go_at_call 48; refine (at_bad _ _ bl n cap _ h' (hm _)).mono ?_; rintro e w' ⟨rfl, rfl⟩)
    go_ret
    refine ⟨ret_int ?_, ?_, (Chg.refl _ _).alloc _⟩
    · simp only [memErr]; rw [if_neg h]
    · simp only [memSet]; rw [if_neg h]; exact hM.alloc _

set_option maxHeartbeats 400000 in
theorem Set_nil (w : World) (i : Int) (x0 x1 x2 x3 x4 x5 x6 x7 : Int) :
    Calls Try.prog 28 #[.pointer none, .int .i64 i, .agg #[.int .u64 x0, .int .u64 x1, .int .u64 x2, .int .u64 x3, .int .u64 x4, .int .u64 x5, .int .u64 x6, .int .u64 x7]] w fun e w' => e = .returned (.int .i64 1) ∧ Chg [] w w' := by
  go_enter Try.func28, Try.ntmps28
  go_wp2_with (go_at_call 48; refine (at_nil _ _).mono ?_; rintro e w' ⟨rfl, rfl⟩)
  go_ret
  exact ⟨rfl, (Chg.refl _ _).alloc _⟩

set_option maxHeartbeats 400000 in
theorem Line_nil (w : World) (i : Int) :
    Calls Try.prog 32 #[.pointer none, .int .i64 i] w fun e w' => e = .returned (.tuple #[.agg #[.int .u64 0, .int .u64 0, .int .u64 0, .int .u64 0, .int .u64 0, .int .u64 0, .int .u64 0, .int .u64 0], .int .i64 1]) ∧ Chg [] w w' := by
  go_enter Try.func32, Try.ntmps32
  go_wp2_with (go_at_call 48; refine (at_nil _ _).mono ?_; rintro e w' ⟨rfl, rfl⟩)
  refine bodyPost_ret (v := .tuple #[.agg #[.int .u64 0, .int .u64 0, .int .u64 0, .int .u64 0, .int .u64 0, .int .u64 0, .int .u64 0, .int .u64 0], .int .i64 1]) ?_ rfl ⟨rfl, (Chg.refl _ _).alloc _⟩
  simp [results, Try.results32, go_sem]

/-- How many lines. -/

theorem Try.infoLine : (Try.prog.info? 31).map (fun i => (i.zero, i.size, i.bytes)) = some (some (.agg #[.int .u64 0, .int .u64 0, .int .u64 0, .int .u64 0, .int .u64 0, .int .u64 0, .int .u64 0, .int .u64 0]), 8, 64) := by kernel_rfl

def NewPost (w : World) (n : Nat) (e : Ending) (w' : World) : Prop :=
  e = .returned (.tuple #[.pointer (some ⟨w.heap.size + 1, 0, none⟩), .int .i64 0]) ∧ MemAt w' (w.heap.size + 1) w.heap.size n (List.replicate (8 * n) 0) ∧ Chg [] w w' ∧ w'.heap.size = w.heap.size + 2

set_option maxHeartbeats 400000 in
theorem New_ok (w : World) (n : Nat) (h2 : 2 ≤ n) (h64 : n ≤ 64) :
    Calls Try.prog 24 #[.int .i64 n] w (NewPost w n) := by
  obtain ⟨i0, hi, hz0, hz1, hz2⟩ := info_parts Try.infoLine
  go_enter Try.func24, Try.ntmps24
  have hmk := run_make (P := Try.prog) w 54 31 i0 _ Try.underlying54 hi hz0 .i64 .i64 n n (by omega) (Int.le_refl _) (by rw [hz2]; omega) (by omega)
  rw [hz1, Int.toNat_natCast, madeCells_replicate (.int .u64 0) 7 _ _ (by rfl)] at hmk
  go_wp2
  go_ret2
  have e : Array.replicate (n * 8) (Value.int .u64 0) = ((List.replicate (8 * n) (0 : Int)).map (Value.int .u64)).toArray := by simp [Nat.mul_comm]
  rw [e]
  refine ⟨rfl, ⟨⟨n, ?_⟩, ⟨[], by rw [List.append_nil]; exact (Blk.new w _ _).alloc _⟩, by simp, h64⟩, ((Chg.refl _ _).alloc _).alloc _, by simp⟩
  have h := Blk.new (w.alloc (.cells ((List.replicate (8 * n) (0 : Int)).map (Value.int .u64)).toArray 31)) [.slice (some ⟨w.heap.size, 0, none⟩) n n] 110
  rwa [World.size_alloc] at h

set_option maxHeartbeats 400000 in
theorem New_bad (w : World) (n : Int) (h : n < 2 ∨ 64 < n) :
    Calls Try.prog 24 #[.int .i64 n] w fun e w' => e = .returned (.tuple #[.pointer none, .int .i64 2]) ∧ w = w' := by
  by_cases h2 : n < 2
  · clear h
    go_enter Try.func24, Try.ntmps24
    go_wp2
    go_ret2
    exact ⟨rfl, rfl⟩
  · have h3 : 64 < n := by omega
    clear h
    go_enter Try.func24, Try.ntmps24
    go_wp2
    go_ret2
    exact ⟨rfl, rfl⟩

end Go.Proofs.Ytepdhajgemmoiaa
