import Derived.Test.YtepdhajgemmoiaaRows
import Derived.Test.YtepdhajgemmoiaaLib
namespace Go.Proofs.Ytepdhajgemmoiaa
set_option maxRecDepth 100000
open Go.RowKit

/-- A memory of n lines at block bm, its lines in block bl. -/
structure MemAt (w : World) (bm bl n : Nat) (ws : List Int) : Prop where
  m : ∃ cap, Blk w bm [.slice (some ⟨bl, 0, none⟩) n cap] 110
  l : ∃ rest, Blk w bl (ws.map (Value.int .u64) ++ rest) 31
  len : ws.length = 8 * n
  small : n ≤ 64

section
variable {w w' : World} {bm bl n : Nat} {ws : List Int}
theorem MemAt.alloc (h : MemAt w bm bl n ws) (o : Obj) : MemAt (w.alloc o) bm bl n ws := ⟨h.m.imp fun _ k => k.alloc o, h.l.imp fun _ k => k.alloc o, h.len, h.small⟩
theorem MemAt.drewN (h : MemAt w bm bl n ws) (k : Nat) : MemAt (w.drewN k) bm bl n ws := ⟨h.m, h.l, h.len, h.small⟩
theorem MemAt.drew (h : MemAt w bm bl n ws) : MemAt w.drew bm bl n ws := ⟨h.m, h.l, h.len, h.small⟩
theorem MemAt.chg {S : List Nat} (h : MemAt w bm bl n ws) (k : Chg S w w') (h1 : bm ∉ S) (h2 : bl ∉ S) : MemAt w' bm bl n ws := ⟨h.m.imp fun _ x => k.blk x h1, h.l.imp fun _ x => k.blk x h2, h.len, h.small⟩
theorem MemAt.below {B : Nat} (h : MemAt w bm bl n ws) (hb : Below B w w') (h1 : bm < B) (h2 : bl < B) : MemAt w' bm bl n ws := ⟨h.m.imp fun _ x => (hb.block _ h1).trans x, h.l.imp fun _ x => (hb.block _ h2).trans x, h.len, h.small⟩
theorem MemAt.cell (h : MemAt w bm bl n ws) : ∃ cap, w.cell? ⟨bm, 0, none⟩ = some (.slice (some ⟨bl, 0, none⟩) n cap) := h.m.imp fun _ k => k.cell 0
theorem MemAt.ne (h : MemAt w bm bl n ws) : bm ≠ bl := by obtain ⟨_, a⟩ := h.m; obtain ⟨_, b⟩ := h.l; exact a.ne b (by decide)
theorem MemAt.mlt (h : MemAt w bm bl n ws) : bm < w.heap.size := by obtain ⟨_, a⟩ := h.m; exact a.lt
theorem MemAt.llt (h : MemAt w bm bl n ws) : bl < w.heap.size := by obtain ⟨_, a⟩ := h.l; exact a.lt
theorem MemAt.word (h : MemAt w bm bl n ws) {i : Nat} (hi : i < 8 * n) : w.cell? ⟨bl, i, none⟩ = some (.int .u64 (ws[i]?.getD 0)) := by
  obtain ⟨rest, a⟩ := h.l
  have hl := h.len
  rw [a.cell, List.getElem?_append_left (by simp; omega)]
  exact map_get (by omega)
theorem MemAt.free (h : MemAt w bm bl n ws) (i : Nat) : w.frozen? ⟨bl, i, none⟩ = false := by obtain ⟨_, a⟩ := h.l; exact a.free i
theorem MemAt.store (h : MemAt w bm bl n ws) {j : Nat} (hj : j < 8 * n) (v : Int) : MemAt (w.setCell ⟨bl, j, none⟩ (.int .u64 v)) bm bl n (ws.set j v) := by
  have hl := h.len
  refine ⟨h.m.imp fun _ x => x.other (fun e => h.ne e.symm) _, ?_, by simpa using hl, h.small⟩
  obtain ⟨rest, a⟩ := h.l
  have := a.set j (.int .u64 v)
  rw [List.set_append_left _ _ (by simp; omega), ← List.map_set] at this
  exact ⟨rest, this⟩
end

set_option maxHeartbeats 400000 in
theorem at_ok (w : World) (m : Addr) (bl n cap : Nat) (i : Int) (h0 : 0 ≤ i) (h1 : i < n) (hm : w.cell? m = some (.slice (some ⟨bl, 0, none⟩) n cap)) :
    Calls Try.prog 48 #[.pointer (some m), .int .i64 i] w fun e w' => e = .returned (.tuple #[.pointer (some ⟨bl, i.toNat * 8, none⟩), .int .i64 0]) ∧ w = w' := by
  go_enter Try.func48, Try.ntmps48
  go_wp2
  go_ret2
  exact ⟨rfl, rfl⟩

set_option maxHeartbeats 400000 in
theorem at_bad (w : World) (m : Addr) (bl n cap : Nat) (i : Int) (h1 : i < 0 ∨ (n : Int) ≤ i) (hm : w.cell? m = some (.slice (some ⟨bl, 0, none⟩) n cap)) :
    Calls Try.prog 48 #[.pointer (some m), .int .i64 i] w fun e w' => e = .returned (.tuple #[.pointer none, .int .i64 2]) ∧ w = w' := by
  by_cases h0 : i < 0
  · clear h1
    go_enter Try.func48, Try.ntmps48
    go_wp2
    go_ret2
    exact ⟨rfl, rfl⟩
  · have h2 : (n : Int) ≤ i := by omega
    clear h1
    go_enter Try.func48, Try.ntmps48
    go_wp2
    go_ret2
    exact ⟨rfl, rfl⟩

set_option maxHeartbeats 400000 in
theorem at_nil (w : World) (i : Int) :
    Calls Try.prog 48 #[.pointer none, .int .i64 i] w fun e w' => e = .returned (.tuple #[.pointer none, .int .i64 1]) ∧ w = w' := by
  go_enter Try.func48, Try.ntmps48
  go_wp2
  go_ret2
  exact ⟨rfl, rfl⟩

end Go.Proofs.Ytepdhajgemmoiaa
