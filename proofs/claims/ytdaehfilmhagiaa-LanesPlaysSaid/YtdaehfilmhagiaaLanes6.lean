/- What holds of a control whatever is called; the small functions of the statements. -/
import Derived.Test.YtdaehfilmhagiaaLanes5
namespace Go.Proofs.Ytdaehfilmhagiaa
open Go.RowKit

structure LC.Ok (C : LC) : Prop where
  bud : may C.f C.s C.o
  l0 : 0 ≤ C.lane
  l4 : C.lane ≤ 4
  z0 : C.c0 = 0
  z4 : C.c4 = 0
  n1 : 0 ≤ C.c1 ∧ C.c1 ≤ C.f
  n2 : 0 ≤ C.c2 ∧ C.c2 ≤ C.s
  n3 : 0 ≤ C.c3 ∧ C.c3 ≤ C.o
  out : C.lane = 0 → C.c1 = 0 ∧ C.c2 = 0 ∧ C.c3 = 0
  open1 : C.lane = 1 → C.c1 < C.f ∧ C.c2 = 0 ∧ C.c3 = 0
  open2 : C.lane = 2 → C.c2 < C.s ∧ C.c3 = 0
  open3 : C.lane = 3 → C.c3 < C.o

theorem LC.Ok.small {C : LC} (h : C.Ok) : C.Small := by
  obtain ⟨⟨⟨_, _⟩, ⟨_, _⟩, ⟨_, _⟩⟩, _, _, z0, z4, n1, n2, n3, _, _, _, _⟩ := h
  exact ⟨⟨by omega, by omega⟩, ⟨by omega, by omega⟩, ⟨by omega, by omega⟩, ⟨by omega, by omega⟩, ⟨by omega, by omega⟩⟩
theorem LC.Ok.new {f s o : Int} (h : may f s o) : (LC.new f s o).Ok := by
  have ⟨⟨_, _⟩, ⟨_, _⟩, ⟨_, _⟩⟩ := h
  exact ⟨h, by simp [LC.new], by simp [LC.new], rfl, rfl, ⟨by simp [LC.new], by assumption⟩, ⟨by simp [LC.new], by assumption⟩, ⟨by simp [LC.new], by assumption⟩, fun _ => ⟨rfl, rfl, rfl⟩, fun e => by simp [LC.new] at e, fun e => by simp [LC.new] at e, fun e => by simp [LC.new] at e⟩
theorem LC.Ok.none {C : LC} (h : C.Ok) : C.none.Ok := LC.Ok.new h.bud
theorem LC.Ok.first {C : LC} (h : C.Ok) : C.first.Ok := by
  obtain ⟨f, s, o, lane, c0, c1, c2, c3, c4⟩ := C
  have hb := h.bud
  obtain ⟨⟨⟨a1, a2⟩, ⟨a3, a4⟩, ⟨a5, a6⟩⟩, _, _, _, _, _, _, _, _, _, _, _⟩ := h
  dsimp only at a1 a2 a3 a4 a5 a6
  simp only [LC.first, LC.next]
  refine ⟨hb, ?_, ?_, rfl, rfl, ⟨?_, ?_⟩, ⟨?_, ?_⟩, ⟨?_, ?_⟩, fun e => ?_, fun e => ?_, fun e => ?_, fun e => ?_⟩ <;> dsimp only at * <;> (repeat' split at *) <;> simp_all <;> omega
theorem LC.Ok.abort {C : LC} (h : C.Ok) (n : Int) : (C.abort n).Ok := by
  obtain ⟨f, s, o, lane, c0, c1, c2, c3, c4⟩ := C
  have hb := h.bud
  obtain ⟨⟨⟨a1, a2⟩, ⟨a3, a4⟩, ⟨a5, a6⟩⟩, l0, l4, rfl, rfl, ⟨m1, n1⟩, ⟨m2, n2⟩, ⟨m3, n3⟩, ou, o1, o2, o3⟩ := id h
  dsimp only at *
  by_cases hw : LC.within ⟨f, s, o, lane, 0, c1, c2, c3, 0⟩ ∧ codeOk n
  · rcases hw.1 with e | e | e <;> dsimp only at e <;> subst e
    all_goals
      simp only [LC.abort, if_pos hw]
      simp [LC.inc, LC.cnt, LC.have, LC.to, LC.next]
      (repeat' split) <;> (refine ⟨hb, ?_, ?_, rfl, rfl, ⟨?_, ?_⟩, ⟨?_, ?_⟩, ⟨?_, ?_⟩, fun e => ?_, fun e => ?_, fun e => ?_, fun e => ?_⟩ <;> dsimp only at * <;> simp_all <;> omega)
  · simp only [LC.abort, if_neg hw]
    exact h

end Go.Proofs.Ytdaehfilmhagiaa
