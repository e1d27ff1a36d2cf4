/- A control and the document's, side by side: the plain law. -/
import Derived.Test.YtdaehfilmhagiaaLanesR4
import Derived.Test.YtdaehfilmhagiaaLanes11
namespace Go.Proofs.Ytdaehfilmhagiaa
open Go.RowKit

theorem next_from {C : LC} {f s o : Int} (h : C.sameB f s o) {k : Nat} (hk : k < 4) : nextFrom f s o (k + 1) = ((C.next k : Nat) : Int) := by
  obtain ⟨rfl, rfl, rfl⟩ := h
  unfold nextFrom LC.next
  rcases (by omega : k = 0 ∨ k = 1 ∨ k = 2 ∨ k = 3) with rfl | rfl | rfl | rfl <;>
  by_cases h1 : C.f = 0 <;> by_cases h2 : C.s = 0 <;> by_cases h3 : C.o = 0 <;> simp [h1, h2, h3]

/-- What a control and the document's have in common. -/
structure Alike (C : LC) (f s o : Int) (ls : List Int) : Prop where
  b : C.sameB f s o
  n1 : C.c1 = cnt ls 1
  n2 : C.c2 = cnt ls 2
  n3 : C.c3 = cnt ls 3
  n4 : C.c4 = cnt ls 4
  len : C.tries = ls.length

theorem cnt_snoc (ls : List Int) (x k : Int) : cnt (ls ++ [x]) k = cnt ls k + (if x = k then 1 else 0) := by
  unfold cnt
  rw [List.countP_append]
  by_cases h : x = k <;> simp [h]

theorem Alike.nil {f s o lane : Int} : Alike ⟨f, s, o, lane, 0, 0, 0, 0, 0⟩ f s o [] := ⟨⟨rfl, rfl, rfl⟩, rfl, rfl, rfl, rfl, rfl⟩

theorem Alike.abort {C : LC} {f s o n : Int} {ls : List Int} (h : Alike C f s o ls) (hw : C.within) (hn : codeOk n) : Alike (C.abort n) f s o (ls ++ [C.lane]) := by
  have ht := abort_tries hw hn
  have hc : (C.abort n).c1 = C.inc.c1 ∧ (C.abort n).c2 = C.inc.c2 ∧ (C.abort n).c3 = C.inc.c3 ∧ (C.abort n).c4 = C.inc.c4 := by
    simp only [LC.abort, if_pos (And.intro hw hn)]
    split
    · exact ⟨rfl, rfl, rfl, rfl⟩
    · split <;> exact ⟨rfl, rfl, rfl, rfl⟩
  obtain ⟨h1, h2, h3, h4⟩ := hc
  refine ⟨sameB_abort h.b n, ?_, ?_, ?_, ?_, ?_⟩
  · rw [h1, cnt_snoc, ← h.n1]; rcases hw with e | e | e <;> simp [LC.inc, e]
  · rw [h2, cnt_snoc, ← h.n2]; rcases hw with e | e | e <;> simp [LC.inc, e]
  · rw [h3, cnt_snoc, ← h.n3]; rcases hw with e | e | e <;> simp [LC.inc, e]
  · rw [h4, cnt_snoc, ← h.n4]; rcases hw with e | e | e <;> simp [LC.inc, e]
  · rw [ht, h.len]; simp

end Go.Proofs.Ytdaehfilmhagiaa
