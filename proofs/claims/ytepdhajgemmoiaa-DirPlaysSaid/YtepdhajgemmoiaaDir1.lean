/- A directory's at, Owner. -/
import Derived.Test.YtepdhajgemmoiaaDRef1b
namespace Go.Proofs.Ytepdhajgemmoiaa
set_option maxRecDepth 100000
open Go.RowKit

theorem dat_ok (w : World) (d bl n cap : Nat) (i : Int) (h0 : 0 ≤ i) (h1 : i < n) (hm : w.cell? ⟨d, 2, none⟩ = some (.slice (some ⟨bl, 0, none⟩) n cap)) :
    Calls Try.prog 25 #[.pointer (some ⟨d, 0, none⟩), .int .i64 i] w fun e w' => e = .returned (.pointer (some ⟨bl, i.toNat * 16, none⟩)) ∧ w = w' := by
  go_enter Try.func25, Try.ntmps25
  go_wp2
  go_ret
  exact ⟨rfl, rfl⟩

theorem dat_bad (w : World) (d bl n cap : Nat) (i : Int) (h1 : i < 0 ∨ (n : Int) ≤ i) (hm : w.cell? ⟨d, 2, none⟩ = some (.slice (some ⟨bl, 0, none⟩) n cap)) :
    Calls Try.prog 25 #[.pointer (some ⟨d, 0, none⟩), .int .i64 i] w fun e w' => e = .returned (.pointer none) ∧ w = w' := by
  by_cases h0 : i < 0
  · clear h1
    go_enter Try.func25, Try.ntmps25
    go_wp2
    go_ret
    exact ⟨rfl, rfl⟩
  · have h2 : (n : Int) ≤ i := by omega
    clear h1
    go_enter Try.func25, Try.ntmps25
    go_wp2
    go_ret
    exact ⟨rfl, rfl⟩

theorem dat_nil (w : World) (i : Int) :
    Calls Try.prog 25 #[.pointer none, .int .i64 i] w fun e w' => e = .returned (.pointer none) ∧ w = w' := by
  go_enter Try.func25, Try.ntmps25
  go_wp2
  go_ret
  exact ⟨rfl, rfl⟩

theorem Owner_nil (w : World) (i : Int) :
    Calls Try.prog 9 #[.pointer none, .int .i64 i] w fun e w' => e = .returned (.int .i64 (-1)) ∧ w = w' := by
  go_enter Try.func9, Try.ntmps9
  go_wp2_with fail
  refine (dat_nil _ _).mono ?_
  rintro e w' ⟨rfl, rfl⟩
  go_wp2_with fail
  go_ret
  exact ⟨rfl, rfl⟩

theorem Owner_bad (w : World) (d bl n cap : Nat) (i : Int) (h1 : i < 0 ∨ (n : Int) ≤ i) (hm : w.cell? ⟨d, 2, none⟩ = some (.slice (some ⟨bl, 0, none⟩) n cap)) :
    Calls Try.prog 9 #[.pointer (some ⟨d, 0, none⟩), .int .i64 i] w fun e w' => e = .returned (.int .i64 (-1)) ∧ w = w' := by
  have H := Lib.hid (dat_bad w d bl n cap i h1 hm)
  clear h1 hm
  go_enter Try.func9, Try.ntmps9
  go_wp2_with fail
  refine H.out.mono ?_
  rintro e w' ⟨rfl, rfl⟩
  go_wp2_with fail
  go_ret
  exact ⟨rfl, rfl⟩

theorem Owner_ok (w : World) (d bl n cap : Nat) (i o : Int) (h0 : 0 ≤ i) (h1 : i < n) (hm : w.cell? ⟨d, 2, none⟩ = some (.slice (some ⟨bl, 0, none⟩) n cap)) (ho : w.cell? ⟨bl, i.toNat * 16, none⟩ = some (.int .i64 o)) :
    Calls Try.prog 9 #[.pointer (some ⟨d, 0, none⟩), .int .i64 i] w fun e w' => e = .returned (.int .i64 o) ∧ w = w' := by
  have H := Lib.hid (dat_ok w d bl n cap i h0 h1 hm)
  clear h1 hm h0
  generalize i.toNat * 16 = p at *
  go_enter Try.func9, Try.ntmps9
  go_wp2_with fail
  refine H.out.mono ?_
  rintro e w' ⟨rfl, rfl⟩
  go_wp2_with fail
  go_ret
  exact ⟨rfl, rfl⟩

end Go.Proofs.Ytepdhajgemmoiaa
