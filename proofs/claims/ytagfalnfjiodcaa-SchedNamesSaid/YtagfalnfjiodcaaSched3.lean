/- Rounds. -/
import Derived.Test.YtagfalnfjiodcaaSched2
namespace Go.Proofs.Ytagfalnfjiodcaa
open Go.RowKit

def rX (n j : Nat) : Int := if j = 0 then -1 else ((j - 1) % n : Nat)
theorem rX_step {n : Nat} (hn : 1 ≤ n) (j : Nat) : -1 ≤ rX n j ∧ rX n j < n ∧ (rX n j + 1) % n = ((j % n : Nat) : Int) := by
  unfold rX
  split
  · rename_i h; subst h
    refine ⟨by omega, by omega, ?_⟩
    simp
  · have h1 := Nat.mod_lt (j - 1) (show 0 < n by omega)
    refine ⟨by omega, by omega, ?_⟩
    have e : (((j - 1) % n : Nat) : Int) + 1 = (((j - 1) % n + 1 : Nat) : Int) := by omega
    rw [e]
    have h2 : ((j - 1) % n + 1) % n = j % n := by rw [Nat.mod_add_mod]; congr 1; omega
    rw [← h2]
    rfl

set_option maxHeartbeats 1000000 in
theorem rounds1_any (w : World) (c0 c1 n j : Nat) (hn : 1 ≤ n) (hn4 : n ≤ 4) (h0 : Blk w c0 [.int .i64 (rX n j)] 3) (h1 : Blk w c1 [.int .i64 (n : Int)] 3) (hne : c1 ≠ c0) :
    Calls Try.prog 35 #[.pointer (some ⟨c0, 0, none⟩), .pointer (some ⟨c1, 0, none⟩)] w fun e w' => e = .returned (.int .i64 ((j % n : Nat) : Int)) ∧ (Blk w' c0 [.int .i64 (rX n (j + 1))] 3 ∧ Blk w' c1 [.int .i64 (n : Int)] 3) ∧ TC [c0] w w' := by
  obtain ⟨x1, x2, x3⟩ := rX_step hn j
  have hx : rX n (j + 1) = ((j % n : Nat) : Int) := by simp [rX]
  rw [hx]
  have k0 : w.cell? ⟨c0, 0, none⟩ = some (.int .i64 (rX n j)) := h0.cell 0
  have k1 : w.cell? ⟨c1, 0, none⟩ = some (.int .i64 (n : Int)) := h1.cell 0
  have f0 : w.frozen? ⟨c0, 0, none⟩ = false := h0.free 0
  have hw : IntKind.i64.wrap (rX n j + 1) = rX n j + 1 := IntWalk.i64_in _ (by omega)
  have H0 := Lib.hid h0
  have H1 := Lib.hid h1
  have hnz : ((n : Int) == 0) = false := by simp; omega
  have HNE := Lib.hid hne
  clear h0 h1 hx hne
  generalize rX n j = x at *
  have HX := Lib.hid x3
  clear x3
  go_enter Try.func35, Try.ntmps35
  go_wp2_with fail
  go_ret
  have hB := H0.out.set 0 (.int .i64 ((x + 1) % (n : Int)))
  rw [HX.out] at hB ⊢
  exact ⟨rfl, ⟨hB, H1.out.other (a := ⟨c0, 0, none⟩) HNE.out.symm _⟩, (TC.refl _ _).setCell (by simp) _⟩

/-- The error of so many cores, turns. -/
def mayErr (n turns : Int) : Int := if n < 1 ∨ 4 < n then 240 else if turns < 0 ∨ 10000 < turns then 2 else 0

end Go.Proofs.Ytagfalnfjiodcaa
