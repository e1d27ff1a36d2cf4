/- do: Reads, Writes. -/
import Derived.Test.YtobpknbnfkjnhaaLogR8
namespace Go.Proofs.Ytobpknbnfkjnhaa
open Go.RowKit

theorem PlAt.told {w w1 : World} {g : Nat} {F : List Nat} {d kb : Nat} {K : List Nat} {s t : RW} {n : Nat} {v : Value} {l : PL} (h : PlAt w g F d kb K s t n) (hv : w1.ownsRow w.heap.size 39 2 v l.length (cellsP l)) (hb : Below w.heap.size w w1) :
    ∃ A c, v = .slice A l.length c ∧ w1.ownsRow w.heap.size 39 2 (.slice A l.length c) l.length (l.flatMap encP) ∧ RdP w1 w1.heap.size A l ∧ PlAt w1 g F d kb K s t n ∧ Chg [] w w1 := by
  rw [cellsP_flat] at hv
  obtain ⟨A, c, rfl, _, _, _, hR, _⟩ := Rd.of_row encP_len hv
  exact ⟨A, c, rfl, hv, hR, h.look (Chg.of_below hb []), Chg.of_below hb []⟩

/-- keep, beside the rest. -/
theorem keep_pl (w0 w : World) (g : Nat) (F : List Nat) (d kb : Nat) (K : List Nat) (s t : RW) (n : Nat) (A : Option Addr) (c : Nat) (l : PL) (hn : n ≤ 1000) (hl : l.length ≤ 128) (h0 : PlAt w0 g F d kb K s t n) (hC : Chg [] w0 w)
    (hO : w.ownsRow w0.heap.size 39 2 (.slice A l.length c) l.length (l.flatMap encP)) :
    Calls Try.prog 32 #[.pointer (some ⟨kb, 0, none⟩), .slice A l.length c] w fun e w' => e = .returned (.tuple #[]) ∧ ∃ K', PlAt w' g F d kb K' s t (n + 1) ∧ Mv (allN F d K) (allN F d K') w0 w' := by
  have h := h0.look hC
  have hlt0 := h0.lt
  obtain ⟨vt, vu, ts, us, hk0, hn0⟩ := h0.kept
  have hge : ∀ x ∈ (Value.slice A l.length c).ownBlock.toList, w0.heap.size ≤ x := fun x hx => (hO.lt x (by simpa using hx)).1
  have hFd : ∀ x ∈ F ++ [d], x ∈ allN F d K := fun x hx => List.mem_append_left _ hx
  have hV : Apart (Value.slice A l.length c).ownBlock.toList (allN F d K) := fun x hx hm => by have := hge x hx; have := hlt0 x hm; omega
  have hKM : Apart K (F ++ [d]) := fun x hx hm => by
    rcases List.mem_append.1 hm with hm | hm
    · exact h0.fk x hm hx
    · simp at hm; subst hm; exact h0.kd hx
  have hk := hk0.step (M' := F ++ [d] ++ (Value.slice A l.length c).ownBlock.toList) (hC.mono (by simp)) (fun x hx => (List.mem_append.1 hx).imp id (hge x)) hKM
  refine (keep_any w (F ++ [d]) kb w0.heap.size K vt vu _ ts us l hl (by omega) (fun x hx => Nat.lt_of_lt_of_le (hlt0 x (hFd x hx)) hC.size) hO hC.size hV hKM hk).mono ?_
  rintro e w' ⟨rfl, K', vt', vu', ts', us', h1, h2, h3, h4⟩
  have hlo : ∀ {x : SlP}, FzP w (allN F d K) x → (∀ a, x.A = some a → a.block < w0.heap.size) → FzP w (Value.slice A l.length c).ownBlock.toList x := fun f hx => ⟨f.len, f.max, f.nil, f.rd, f.lt, fun a e hm => by have := hge _ hm; have := hx a e; omega⟩
  obtain ⟨r0, u0, e1, e2, hb, f1, f2⟩ := h0.doc
  have hbw := hC.blk hb (by simp)
  have hres := h.kept_did (K' := K') (V := (Value.slice A l.length c).ownBlock.toList) hV (fun r u er eu hb2 g1 g2 => by
    have c0 := (hb2.cell 0).symm.trans (hbw.cell 0)
    have c1 := (hb2.cell 1).symm.trans (hbw.cell 1)
    simp only [List.getElem?_cons_zero, List.getElem?_cons_succ, Option.some.injEq, SlP.val, Value.slice.injEq] at c0 c1
    exact ⟨hlo g1 (fun a e => f1.lt a (c0.1 ▸ e)), hlo g2 (fun a e => f2.lt a (c1.1 ▸ e))⟩) ⟨vt', vu', ts', us', h1, h2, h3, by omega⟩
  obtain ⟨p1, p2, p3⟩ := hres
  refine ⟨rfl, K', p1, ?_, fun x hx => (p3 x hx).imp id (Nat.le_trans hC.size)⟩
  exact (hC.mono (T := allN F d K) (by simp)).trans' p2 (fun x hx hl => (List.mem_append.1 hx).elim id (fun hv => by have := hge x hv; omega))

end Go.Proofs.Ytobpknbnfkjnhaa
