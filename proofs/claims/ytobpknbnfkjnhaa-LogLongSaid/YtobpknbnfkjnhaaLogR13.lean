/- do: any call. -/
import Derived.Test.YtobpknbnfkjnhaaLogR12
namespace Go.Proofs.Ytobpknbnfkjnhaa
open Go.RowKit

theorem do_any (w : World) (g : Nat) (F : List Nat) (d kb : Nat) (K : List Nat) (s : RW) (n : Nat) (o : OpV) (wa : (Lit.int .i64 o.a).wf = true) (wv : (Lit.int .u64 o.v).wf = true) (hn : n ≤ 1000) (hnow : o.now.length ≤ 300) (hcap : o.now.length ≤ o.ncap) (hA0 : o.nA = none → o.ncap = 0) (hN : RdP w w.heap.size o.nA o.now) (h : PlAt w g F d kb K s s n) :
    Calls Try.prog 20 #[.pointer (some ⟨g, 0, none⟩), .pointer (some ⟨d, 0, none⟩), .agg #[.int .i64 o.k, .int .i64 o.a, .int .u64 o.v, .slice o.nA o.now.length o.ncap], .pointer (some ⟨kb, 0, none⟩)] w (DoPost w g F d kb K (opStep s o) n) := by
  obtain ⟨k, a, v, nA, ncap, now⟩ := o
  simp only [opStep] at *
  by_cases h0 : k = 0
  · subst h0; exact do_0 w g F d kb K s n a v nA _ ncap wa wv h
  by_cases h1 : k = 1
  · subst h1; exact do_1 w g F d kb K s n a v nA _ ncap wa wv h
  by_cases h2 : k = 2
  · subst h2; exact do_2 w g F d kb K s n a v nA _ ncap h
  rw [if_neg h0, if_neg h1, if_neg h2]
  by_cases h3 : k = 3
  · subst h3; exact do_3 w g F d kb K s n a v nA _ ncap wa h
  by_cases h4 : k = 4
  · subst h4; exact do_4 w g F d kb K s n a v nA _ ncap wa h
  by_cases h5 : k = 5
  · subst h5; exact do_5 w g F d kb K s n a v nA _ ncap hn h
  by_cases h6 : k = 6
  · subst h6; exact do_6 w g F d kb K s n a v nA _ ncap hn h
  by_cases h7 : k = 7
  · subst h7; exact do_7 w g F d kb K s n a v nA ncap now hnow hcap hA0 hN h
  exact do_none w g F d kb K s n k a v nA _ ncap (by omega) h

end Go.Proofs.Ytobpknbnfkjnhaa
