import Derived.Test.YtajgbhfhppendaaRows
import Derived.Test.YtajgbhfhppendaaLib
namespace Go.Proofs.Ytajgbhfhppendaa
open Go.RowKit

/-- A memory of n lines at block bm, its lines in block bl. -/
structure MemAt (w : World) (bm bl n : Nat) (ws : List Int) : Prop where
  m : ∃ cap, Blk w bm [.slice (some ⟨bl, 0, none⟩) n cap] 62
  l : ∃ rest, Blk w bl (ws.map (Value.int .u64) ++ rest) 36
  len : ws.length = 8 * n
  small : n ≤ 64

theorem map_get {ws : List Int} {k : IntKind} {i : Nat} (h : i < ws.length) : (ws.map (Value.int k))[i]? = some (.int k (ws[i]?.getD 0)) := by
  simp [List.getElem?_map, List.getElem?_eq_getElem h]

section
variable {w w' : World} {bm bl n : Nat} {ws : List Int}
theorem MemAt.alloc (h : MemAt w bm bl n ws) (o : Obj) : MemAt (w.alloc o) bm bl n ws := ⟨h.m.imp fun _ k => k.alloc o, h.l.imp fun _ k => k.alloc o, h.len, h.small⟩
theorem MemAt.drewN (h : MemAt w bm bl n ws) (k : Nat) : MemAt (w.drewN k) bm bl n ws := ⟨h.m, h.l, h.len, h.small⟩
theorem MemAt.drew (h : MemAt w bm bl n ws) : MemAt w.drew bm bl n ws := ⟨h.m, h.l, h.len, h.small⟩
theorem MemAt.chg {S : List Nat} (h : MemAt w bm bl n ws) (k : Chg S w w') (h1 : bm ∉ S) (h2 : bl ∉ S) : MemAt w' bm bl n ws := ⟨h.m.imp fun _ x => k.blk x h1, h.l.imp fun _ x => k.blk x h2, h.len, h.small⟩
theorem MemAt.below {B : Nat} (h : MemAt w bm bl n ws) (hb : Below B w w') (h1 : bm < B) (h2 : bl < B) : MemAt w' bm bl n ws := ⟨h.m.imp fun _ x => (hb.block _ h1).trans x, h.l.imp fun _ x => (hb.block _ h2).trans x, h.len, h.small⟩
theorem MemAt.cell (h : MemAt w bm bl n ws) : ∃ cap, w.cell? ⟨bm, 0, none⟩ = some (.slice (some ⟨bl, 0, none⟩) n cap) := h.m.imp fun _ k => k.cell 0
theorem MemAt.ne (h : MemAt w bm bl n ws) : bm ≠ bl := by obtain ⟨_, a⟩ := h.m; obtain ⟨_, b⟩ := h.l; exact a.ne b (by decide)
theorem MemAt.mlt (h : MemAt w bm bl n ws) : bm < w.heap.size := by obtain ⟨_, a⟩ := h.m; exact a.lt
theorem MemAt.llt (h : MemAt w bm bl n ws) : bl < w.heap.size := by obtain ⟨_, a⟩ := h.l; exact a.lt
theorem MemAt.word (h : MemAt w bm bl n ws) {i : Nat} (hi : i < 8 * n) : w.cell? ⟨bl, i, none⟩ = some (.int .u64 (ws[i]?.getD 0)) := by
  obtain ⟨rest, a⟩ := h.l
  have hl := h.len
  rw [a.cell, List.getElem?_append_left (by simp; omega)]
  exact map_get (by omega)
theorem MemAt.free (h : MemAt w bm bl n ws) (i : Nat) : w.frozen? ⟨bl, i, none⟩ = false := by obtain ⟨_, a⟩ := h.l; exact a.free i
theorem MemAt.store (h : MemAt w bm bl n ws) {j : Nat} (hj : j < 8 * n) (v : Int) : MemAt (w.setCell ⟨bl, j, none⟩ (.int .u64 v)) bm bl n (ws.set j v) := by
  have hl := h.len
  refine ⟨h.m.imp fun _ x => x.other (fun e => h.ne e.symm) _, ?_, by simpa using hl, h.small⟩
  obtain ⟨rest, a⟩ := h.l
  have := a.set j (.int .u64 v)
  rw [List.set_append_left _ _ (by simp; omega), ← List.map_set] at this
  exact ⟨rest, this⟩
end

set_option maxHeartbeats 400000 in
theorem at_ok (w : World) (m : Addr) (bl n cap : Nat) (i : Int) (h0 : 0 ≤ i) (h1 : i < n) (hm : w.cell? m = some (.slice (some ⟨bl, 0, none⟩) n cap)) :
    Calls Try.prog 23 #[.pointer (some m), .int .i64 i] w fun e w' => e = .returned (.tuple #[.pointer (some ⟨bl, i.toNat * 8, none⟩), .int .i64 0]) ∧ w = w' := by
  go_enter Try.func23, Try.ntmps23
  go_wp2
  go_ret2
  exact ⟨rfl, rfl⟩

set_option maxHeartbeats 400000 in
theorem at_bad (w : World) (m : Addr) (bl n cap : Nat) (i : Int) (h1 : i < 0 ∨ (n : Int) ≤ i) (hm : w.cell? m = some (.slice (some ⟨bl, 0, none⟩) n cap)) :
    Calls Try.prog 23 #[.pointer (some m), .int .i64 i] w fun e w' => e = .returned (.tuple #[.pointer none, .int .i64 2]) ∧ w = w' := by
  by_cases h0 : i < 0
  · clear h1
    go_enter Try.func23, Try.ntmps23
    go_wp2
    go_ret2
    exact ⟨rfl, rfl⟩
  · have h2 : (n : Int) ≤ i := by omega
    clear h1
    go_enter Try.func23, Try.ntmps23
    go_wp2
    go_ret2
    exact ⟨rfl, rfl⟩

set_option maxHeartbeats 400000 in
theorem at_nil (w : World) (i : Int) :
    Calls Try.prog 23 #[.pointer none, .int .i64 i] w fun e w' => e = .returned (.tuple #[.pointer none, .int .i64 1]) ∧ w = w' := by
  go_enter Try.func23, Try.ntmps23
  go_wp2
  go_ret2
  exact ⟨rfl, rfl⟩

set_option maxHeartbeats 400000 in
theorem word_ok (w : World) (m : Addr) (bl n cap : Nat) (a : Int) (h0 : 0 ≤ a) (h1 : a < 8 * n) (_h3 : n ≤ 64) (hm : w.cell? m = some (.slice (some ⟨bl, 0, none⟩) n cap)) :
    Calls Try.prog 22 #[.pointer (some m), .int .i64 a] w fun e w' => e = .returned (.tuple #[.pointer (some ⟨bl, a.toNat, none⟩), .int .i64 0]) ∧ w = w' := by
  go_enter Try.func22, Try.ntmps22
  go_wp2_with (go_at_call 23; refine (at_ok _ _ bl n _ (a / 8) (by omega) (by omega) hm).mono ?_; rintro e w' ⟨rfl, rfl⟩)
  go_ret2
  have e1 : (a / 8).toNat * 8 + (a % 8).toNat = a.toNat := by omega
  exact ⟨by simp [e1], rfl⟩

set_option maxHeartbeats 400000 in
theorem word_bad (w : World) (m : Addr) (bl n cap : Nat) (a : Int) (ha : -9223372036854775808 ≤ a) (hb : a ≤ 9223372036854775807) (h1 : a < 0 ∨ 8 * (n : Int) ≤ a) (hm : w.cell? m = some (.slice (some ⟨bl, 0, none⟩) n cap)) :
    Calls Try.prog 22 #[.pointer (some m), .int .i64 a] w fun e w' => e = .returned (.tuple #[.pointer none, .int .i64 2]) ∧ w = w' := by
  by_cases h0 : a < 0
  · clear h1
    go_enter Try.func22, Try.ntmps22
    go_wp2_with fail
    go_ret2
    exact ⟨rfl, rfl⟩
  · have h2 : 8 * (n : Int) ≤ a := by omega
    have h3 : 0 ≤ a := by omega
    clear h1 h0
    go_enter Try.func22, Try.ntmps22
    go_wp2_with (go_at_call 23; refine (at_bad _ _ bl n _ _ (by omega) hm).mono ?_; rintro e w' ⟨rfl, rfl⟩)
    go_ret2
    exact ⟨rfl, rfl⟩

set_option maxHeartbeats 400000 in
theorem word_nil (w : World) (a : Int) :
    Calls Try.prog 22 #[.pointer none, .int .i64 a] w fun e w' => e = .returned (.tuple #[.pointer none, .int .i64 1]) ∧ w = w' := by
  go_enter Try.func22, Try.ntmps22
  go_wp2_with (go_at_call 23; refine (at_nil _ _).mono ?_; rintro e w' ⟨rfl, rfl⟩)
  go_ret2
  exact ⟨rfl, rfl⟩

/-- The error of an address, or of a line's number, out of so many. -/
def memErr (n : Nat) (a : Int) : Int := if 0 ≤ a ∧ a < n then 0 else 2
/-- What a Put makes of the words. -/
def memPut (ws : List Int) (a v : Int) : List Int := if 0 ≤ a ∧ a < ws.length then ws.set a.toNat v else ws
/-- The word at an address. -/
def memWord (ws : List Int) (a : Int) : Int := if 0 ≤ a ∧ a < ws.length then (ws[a.toNat]?.getD 0) else 0

def PutPost (w : World) (bm bl n : Nat) (ws : List Int) (a v : Int) (e : Ending) (w' : World) : Prop :=
  e = .returned (.int .i64 (memErr (8 * n) a)) ∧ MemAt w' bm bl n (memPut ws a v) ∧ Chg [bl] w w'

set_option maxHeartbeats 400000 in
theorem Put_any (w : World) (bm bl n : Nat) (ws : List Int) (a v : Int) (ha : -9223372036854775808 ≤ a) (hb : a ≤ 9223372036854775807) (hM : MemAt w bm bl n ws) :
    Calls Try.prog 9 #[.pointer (some ⟨bm, 0, none⟩), .int .i64 a, .int .u64 v] w (PutPost w bm bl n ws a v) := by
  obtain ⟨cap, hm⟩ := hM.cell
  have hlen := hM.len
  by_cases h : 0 ≤ a ∧ a < 8 * n
  · have hc : w.cell? ⟨bl, a.toNat, none⟩ = some (.int .u64 (ws[a.toNat]?.getD 0)) := hM.word (by omega)
    have hf : w.frozen? ⟨bl, a.toNat, none⟩ = false := hM.free _
    obtain ⟨h0, h1⟩ := h
    have HL := Lib.hid hlen; clear hlen
    go_enter Try.func9, Try.ntmps9
    go_wp2_with (go_at_call 22; refine (word_ok _ _ bl n _ _ (by omega) (by omega) hM.small hm).mono ?_; rintro e w' ⟨rfl, rfl⟩)
    go_ret
    have hlen := HL.out
    refine ⟨ret_int (by simp only [memErr]; rw [if_pos (by omega)]), ?_, (Chg.refl _ _).setCell (by simp) _⟩
    simp only [memPut]
    rw [if_pos ⟨h0, by omega⟩]
    exact hM.store (by omega) v
  · have h' : a < 0 ∨ 8 * (n : Int) ≤ a := by omega
    go_enter Try.func9, Try.ntmps9
    go_wp2_with (go_at_call 22; refine (word_bad _ _ bl n _ _ (by omega) (by omega) h' hm).mono ?_; rintro e w' ⟨rfl, rfl⟩)
    go_ret
    refine ⟨?_, ?_, Chg.refl _ _⟩
    · exact ret_int (by simp only [memErr]; rw [if_neg (by omega)])
    · simp only [memPut]; rw [if_neg (by omega)]; exact hM

def WordPost (w : World) (n : Nat) (ws : List Int) (a : Int) (e : Ending) (w' : World) : Prop :=
  e = .returned (.tuple #[.int .u64 (memWord ws a), .int .i64 (memErr (8 * n) a)]) ∧ w = w'

set_option maxHeartbeats 400000 in
theorem Word_any (w : World) (bm bl n : Nat) (ws : List Int) (a : Int) (ha : -9223372036854775808 ≤ a) (hb : a ≤ 9223372036854775807) (hM : MemAt w bm bl n ws) :
    Calls Try.prog 10 #[.pointer (some ⟨bm, 0, none⟩), .int .i64 a] w (WordPost w n ws a) := by
  obtain ⟨cap, hm⟩ := hM.cell
  have hlen := hM.len
  by_cases h : 0 ≤ a ∧ a < 8 * n
  · have hc : w.cell? ⟨bl, a.toNat, none⟩ = some (.int .u64 (ws[a.toNat]?.getD 0)) := hM.word (by omega)
    obtain ⟨h0, h1⟩ := h
    have HL := Lib.hid hlen; clear hlen
    go_enter Try.func10, Try.ntmps10
    go_wp2_with (go_at_call 22; refine (word_ok _ _ bl n _ _ (by omega) (by omega) hM.small hm).mono ?_; rintro e w' ⟨rfl, rfl⟩)
    go_ret2
    have hlen := HL.out
    exact ⟨ret_int2 (by simp only [memWord]; rw [if_pos (by omega)]) (by simp only [memErr]; rw [if_pos (by omega)]), rfl⟩
  · have h' : a < 0 ∨ 8 * (n : Int) ≤ a := by omega
    have HL := Lib.hid hlen; clear hlen
    go_enter Try.func10, Try.ntmps10
    go_wp2_with (go_at_call 22; refine (word_bad _ _ bl n _ _ (by omega) (by omega) h' hm).mono ?_; rintro e w' ⟨rfl, rfl⟩)
    go_ret2
    have hlen := HL.out
    exact ⟨ret_int2 (by simp only [memWord]; rw [if_neg (by omega)]) (by simp only [memErr]; rw [if_neg (by omega)]), rfl⟩

set_option maxHeartbeats 400000 in
theorem Word_nil (w : World) (a : Int) :
    Calls Try.prog 10 #[.pointer none, .int .i64 a] w fun e w' => e = .returned (.tuple #[.int .u64 0, .int .i64 1]) ∧ w = w' := by
  go_enter Try.func10, Try.ntmps10
  go_wp2_with (go_at_call 22; refine (word_nil _ _).mono ?_; rintro e w' ⟨rfl, rfl⟩)
  go_ret2
  exact ⟨rfl, rfl⟩

set_option maxHeartbeats 400000 in
theorem Put_nil (w : World) (a v : Int) :
    Calls Try.prog 9 #[.pointer none, .int .i64 a, .int .u64 v] w fun e w' => e = .returned (.int .i64 1) ∧ w = w' := by
  go_enter Try.func9, Try.ntmps9
  go_wp2_with (go_at_call 22; refine (word_nil _ _).mono ?_; rintro e w' ⟨rfl, rfl⟩)
  go_ret
  exact ⟨rfl, rfl⟩

end Go.Proofs.Ytajgbhfhppendaa
