import Derived.Test.YtepdhajgemmoiaaDMem1
namespace Go.Proofs.Ytepdhajgemmoiaa
set_option maxRecDepth 100000
open Go.RowKit

/-- The words of line i. -/
def lineOf (ws : List Int) (i : Nat) : List Int := [(ws[i * 8]?.getD 0), (ws[i * 8 + 1]?.getD 0), (ws[i * 8 + 2]?.getD 0), (ws[i * 8 + 3]?.getD 0), (ws[i * 8 + 4]?.getD 0), (ws[i * 8 + 5]?.getD 0), (ws[i * 8 + 6]?.getD 0), (ws[i * 8 + 7]?.getD 0)]
def zeroLine : List Int := [0, 0, 0, 0, 0, 0, 0, 0]
def memLine (n : Nat) (ws : List Int) (i : Int) : List Int := if 0 ≤ i ∧ i < n then lineOf ws i.toNat else zeroLine
def u64s (l : List Int) : Value := .agg (l.map (Value.int .u64)).toArray

def LinePost (w : World) (n : Nat) (ws : List Int) (i : Int) (e : Ending) (w' : World) : Prop :=
  e = .returned (.tuple #[u64s (memLine n ws i), .int .i64 (memErr n i)]) ∧ Chg [] w w'

set_option maxHeartbeats 400000 in
theorem Line_any (w : World) (bm bl n : Nat) (ws : List Int) (i : Int) (hM : MemAt w bm bl n ws) :
    Calls Try.prog 32 #[.pointer (some ⟨bm, 0, none⟩), .int .i64 i] w (LinePost w n ws i) := by
  obtain ⟨cap, hm0⟩ := hM.cell
  have hm : ∀ o, (w.alloc o).cell? ⟨bm, 0, none⟩ = some (.slice (some ⟨bl, 0, none⟩) n cap) := fun o => (World.cell?_alloc_lt w o _ hM.mlt).trans hm0
  have hlen := hM.len
  by_cases h : 0 ≤ i ∧ i < n
  · have hc (k : Nat) (hk : k < 8) : w.cell? ⟨bl, i.toNat * 8 + k, none⟩ = some (.int .u64 (ws[i.toNat * 8 + k]?.getD 0)) := hM.word (by omega)
    have c0 := hc 0 (by decide)
    have c1 := hc 1 (by decide)
    have c2 := hc 2 (by decide)
    have c3 := hc 3 (by decide)
    have c4 := hc 4 (by decide)
    have c5 := hc 5 (by decide)
    have c6 := hc 6 (by decide)
    have c7 := hc 7 (by decide)
    simp only [Nat.add_zero] at c0
    clear hc
    obtain ⟨h0, h1⟩ := h
    have HL := Lib.hid hlen; clear hlen
    have hs := hM.small
    have hlt := hM.llt
    go_enter Try.func32, Try.ntmps32
    go_wp2_with (go_at_call 48; refine (at_ok _ _ bl n cap _ (by omega) (by omega) (hm _)).mono ?_; rintro e w' ⟨rfl, rfl⟩)
    refine bodyPost_ret (v := .tuple #[u64s (lineOf ws i.toNat), .int .i64 0]) ?_ rfl ⟨?_, (Chg.refl _ _).alloc _⟩
    · simp [results, Try.results32, go_sem, lineOf, u64s]
    · exact ret_val2 (by simp only [memLine]; rw [if_pos ⟨h0, h1⟩]) (by simp only [memErr]; rw [if_pos ⟨h0, h1⟩])
  · have h' : i < 0 ∨ (n : Int) ≤ i := by omega
    have HL := Lib.hid hlen; clear hlen
    go_enter Try.func32, Try.ntmps32
    go_wp2_with (go_at_call 48; refine (at_bad _ _ bl n cap _ h' (hm _)).mono ?_; rintro e w' ⟨rfl, rfl⟩)
    refine bodyPost_ret (v := .tuple #[u64s zeroLine, .int .i64 2]) ?_ rfl ⟨?_, (Chg.refl _ _).alloc _⟩
    · simp [results, Try.results32, go_sem, zeroLine, u64s]
    · exact ret_val2 (by simp only [memLine]; rw [if_neg h]) (by simp only [memErr]; rw [if_neg h])

end Go.Proofs.Ytepdhajgemmoiaa
