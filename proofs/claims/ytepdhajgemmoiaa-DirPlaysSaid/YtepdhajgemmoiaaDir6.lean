/- A directory's may, of any message. -/
import Derived.Test.YtepdhajgemmoiaaDir5a
import Derived.Test.YtepdhajgemmoiaaDir5b
namespace Go.Proofs.Ytepdhajgemmoiaa
set_option maxRecDepth 100000
open Go.RowKit

theorem may_any (w : World) (bl : Nat) (es : List EntV) (i : Nat) (hi : i < es.length) (m : MsgV) (hc : 0 ≤ m.c ∧ m.c < 4) (HE : EntsAt w bl es) (hW : WaitAt w es[i].wt es[i].wl) :
    Calls Try.prog 26 #[.pointer (some ⟨bl, i * 16, none⟩), m.val] w fun e w' => e = .returned (.bool (mayB es[i] m)) ∧ Chg [] w w' := by
  obtain ⟨k, c, l, d⟩ := m
  by_cases h1 : k = 1
  · subst h1; exact may_1 w bl es i hi c l d hc HE hW
  by_cases h2 : k = 2
  · subst h2; exact may_2 w bl es i hi c l d hc HE hW
  by_cases h3 : k = 3
  · subst h3; exact may_3 w bl es i hi c l d hc HE hW
  by_cases h4 : k = 4
  · subst h4; exact may_4 w bl es i hi c l d hc HE hW
  by_cases h5 : k = 5
  · subst h5; exact may_5 w bl es i hi c l d hc HE hW
  by_cases h6 : k = 6
  · subst h6; exact may_6 w bl es i hi c l d hc HE hW
  by_cases h7 : k = 7
  · subst h7; exact may_7 w bl es i hi c l d hc HE hW
  exact may_x w bl es i hi k c l d hc ⟨h1, h2, h3, h4, h5, h6, h7⟩ HE hW
end Go.Proofs.Ytepdhajgemmoiaa
