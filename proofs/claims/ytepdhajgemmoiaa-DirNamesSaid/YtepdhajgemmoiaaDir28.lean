/- Sharers of a directory that is known; the law's examples. -/
import Derived.Test.YtepdhajgemmoiaaDir27
import Derived.Test.YtepdhajgemmoiaaDir26
namespace Go.Proofs.Ytepdhajgemmoiaa
set_option maxRecDepth 100000
open Go.RowKit

/-- A line's set of sharers; where there is no such line, none. -/
def sharersK (ks : List EntV) (i : Int) : Int := if i < 0 then 0 else match ks[i.toNat]? with | some e => e.sh | none => 0
theorem cores_none : coresL 0 4 = [] := by kernel_rfl
theorem Sharers_any (w : World) (d bm bw bl n : Nat) (cores : Int) (ws : List Int) (es ks : List EntV) (i : Int) (K : Knows w d bm bw bl n cores ws es ks) :
    Calls Try.prog 10 #[.pointer (some ⟨d, 0, none⟩), .int .i64 i] w (CorePost w (sharersK ks i)) := by
  have hln := K.D.D.len
  have d2 : w.cell? ⟨d, 2, none⟩ = some (.slice (some ⟨bl, 0, none⟩) n n) := K.D.D.blk.cell 2
  by_cases h : i < 0 ∨ (n : Int) ≤ i
  · have e : sharersK ks i = 0 := by
      unfold sharersK
      by_cases h0 : i < 0
      · rw [if_pos h0]
      · rw [if_neg h0, ← K.ks, List.getElem?_eq_none (by rw [List.length_map]; omega)]
    rw [e]
    refine (Sharers_bad w d bl n n i h d2).mono ?_
    rintro e w' ⟨rfl, rfl⟩
    refine ⟨_, rfl, ?_, Chg.refl _ _⟩
    rw [cores_none]
    exact World.ownsRow_nil _ _ _ _
  · have hi : i.toNat < es.length := by omega
    have e : sharersK ks i = es[i.toNat].sh := by
      unfold sharersK
      rw [if_neg (by omega), ← K.ks, List.getElem?_map, List.getElem?_eq_getElem hi]
      rfl
    rw [e]
    exact Sharers_ok w d bl n n i _ (by omega) (by omega) d2 (K.D.D.ents.cell hi (j := 1) (by decide))

theorem shN : coresL (sharersK (stOf [n0, n1, n2, n3, n4]).2 1) 4 = [0, 1] := by kernel_rfl
theorem DirNames_any (w : World) : Calls Try.prog 3 #[] w (StaysPost w) :=
  Names_of w (fun w1 d bm bw bl lb vs S => by
    obtain ⟨es, K, _⟩ := S
    refine (Sharers_any w1 d bm bw bl 2 2 _ es _ 1 K).mono ?_
    rintro e w' ⟨v, rfl, h, k⟩
    refine ⟨v, rfl, ?_, k⟩
    rw [shN] at h
    exact h)
end Go.Proofs.Ytepdhajgemmoiaa
