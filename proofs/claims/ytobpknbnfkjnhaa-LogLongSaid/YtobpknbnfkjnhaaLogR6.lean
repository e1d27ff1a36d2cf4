/- A log, the document's, and what was kept, side by side. -/
import Derived.Test.YtobpknbnfkjnhaaLogR5
import Derived.Test.YtobpknbnfkjnhaaLog7
namespace Go.Proofs.Ytobpknbnfkjnhaa
open Go.RowKit

/-- What may be turned. -/
abbrev allN (F : List Nat) (d : Nat) (K : List Nat) : List Nat := (F ++ [d]) ++ K
structure PlAt (w : World) (g : Nat) (F : List Nat) (d kb : Nat) (K : List Nat) (s t : RW) (n : Nat) : Prop where
  log : LogAt w g F s.1 s.2
  doc : DocAt w (allN F d K) d t.1 t.2
  kept : ∃ vt vu ts us, KeptAt w (F ++ [d]) kb K vt vu ts us ∧ ts.length = n
  fd : d ∉ F
  kd : d ∉ K
  fk : Apart F K

theorem PlAt.dlt {w : World} {g : Nat} {F : List Nat} {d kb : Nat} {K : List Nat} {s t : RW} {n : Nat} (h : PlAt w g F d kb K s t n) : d < w.heap.size := by
  obtain ⟨r, u, _, _, hb, _⟩ := h.doc
  exact hb.lt
theorem PlAt.lt {w : World} {g : Nat} {F : List Nat} {d kb : Nat} {K : List Nat} {s t : RW} {n : Nat} (h : PlAt w g F d kb K s t n) : ∀ x ∈ allN F d K, x < w.heap.size := by
  intro x hx
  obtain ⟨vt, vu, ts, us, hk, _⟩ := h.kept
  rcases List.mem_append.1 hx with hx | hx
  · rcases List.mem_append.1 hx with hx | hx
    · exact h.log.lt x hx
    · simp at hx; subst hx; exact h.dlt
  · exact hk.lt x hx
theorem PlAt.log_did {w w' : World} {g : Nat} {F F' : List Nat} {d kb : Nat} {K : List Nat} {s s' t : RW} {n : Nat} (h : PlAt w g F d kb K s t n) (h1 : LogAt w' g F' s'.1 s'.2) (m : Mv F F' w w') : PlAt w' g F' d kb K s' t n ∧ Mv (allN F d K) (allN F' d K) w w' := by
  obtain ⟨vt, vu, ts, us, hk, hn⟩ := h.kept
  have hd := h.dlt
  have hkl := hk.lt
  have hN : ∀ x ∈ allN F' d K, x ∈ allN F d K ∨ w.heap.size ≤ x := by
    intro x hx
    rcases List.mem_append.1 hx with hx | hx
    · rcases List.mem_append.1 hx with hx | hx
      · exact (m.new x hx).imp (fun h => List.mem_append_left _ (List.mem_append_left _ h)) id
      · exact .inl (List.mem_append_left _ (List.mem_append_right _ hx))
    · exact .inl (List.mem_append_right _ hx)
  have hC : Chg (allN F d K) w w' := m.chg.mono (fun x hx => List.mem_append_left _ (List.mem_append_left _ hx))
  refine ⟨⟨h1, ?_, ⟨vt, vu, ts, us, ?_, hn⟩, fun hm => (m.new d hm).elim h.fd (fun h => by omega), h.kd, h.fk.mv m hkl⟩, hC, hN⟩
  · obtain ⟨r, u, e1, e2, hb, f1, f2⟩ := h.doc
    exact ⟨r, u, e1, e2, m.chg.blk hb h.fd, f1.step hC hN, f2.step hC hN⟩
  · refine hk.step (m.chg.mono (fun x hx => List.mem_append_left _ hx)) (fun x hx => ?_) (fun x hx hm => ?_)
    · rcases List.mem_append.1 hx with hx | hx
      · exact (m.new x hx).imp (fun h => List.mem_append_left _ h) id
      · exact .inl (List.mem_append_right _ hx)
    · rcases List.mem_append.1 hm with hm | hm
      · exact h.fk x hm hx
      · simp at hm; subst hm; exact h.kd hx
theorem PlAt.look {w w' : World} {g : Nat} {F : List Nat} {d kb : Nat} {K : List Nat} {s t : RW} {n : Nat} (h : PlAt w g F d kb K s t n) (k : Chg [] w w') : PlAt w' g F d kb K s t n :=
  (h.log_did (h.log.look k) (Mv.of_same k)).1
theorem PlAt.doc_did {w w' : World} {g : Nat} {F : List Nat} {d kb : Nat} {K : List Nat} {s t t' : RW} {n : Nat} (h : PlAt w g F d kb K s t n) (h1 : DocAt w' (allN F d K) d t'.1 t'.2) (k : Chg [d] w w') : PlAt w' g F d kb K s t' n ∧ Mv (allN F d K) (allN F d K) w w' := by
  obtain ⟨vt, vu, ts, us, hk, hn⟩ := h.kept
  refine ⟨⟨h.log.chg k (fun x hx hm => by simp at hm; subst hm; exact h.fd hx), h1, ⟨vt, vu, ts, us, hk.step (k.mono (fun x hx => List.mem_append_right _ hx)) (fun x hx => .inl hx) (fun x hx hm => ?_), hn⟩, h.fd, h.kd, h.fk⟩,
    k.mono (fun x hx => List.mem_append_left _ (List.mem_append_right _ hx)), fun x hx => .inl hx⟩
  rcases List.mem_append.1 hm with hm | hm
  · exact h.fk x hm hx
  · simp at hm; subst hm; exact h.kd hx
theorem PlAt.kept_did {w w' : World} {g : Nat} {F : List Nat} {d kb : Nat} {K K' V : List Nat} {s t : RW} {n : Nat} (h : PlAt w g F d kb K s t n) (hV : Apart V (allN F d K)) (hVd : ∀ r u : SlP, r.l = t.1 → u.l = t.2 → Blk w d [r.val, u.val] 43 → FzP w (allN F d K) r → FzP w (allN F d K) u → FzP w V r ∧ FzP w V u)
    (hk : ∃ vt vu ts us, KeptAt w' (F ++ [d]) kb K' vt vu ts us ∧ Chg (K ++ V) w w' ∧ (∀ x ∈ K', x ∈ K ∨ w.heap.size ≤ x) ∧ ts.length = n + 1) :
    PlAt w' g F d kb K' s t (n + 1) ∧ Chg (allN F d K ++ V) w w' ∧ ∀ x ∈ allN F d K', x ∈ allN F d K ∨ w.heap.size ≤ x := by
  obtain ⟨vt, vu, ts, us, hk1, hC, hK', hn⟩ := hk
  have hNN : ∀ x ∈ allN F d K', x ∈ allN F d K ∨ w.heap.size ≤ x := by
    intro x hx
    rcases List.mem_append.1 hx with hx | hx
    · exact .inl (List.mem_append_left _ hx)
    · exact (hK' x hx).imp (fun h => List.mem_append_right _ h) id
  have hC2 : Chg (allN F d K ++ V) w w' := hC.mono (fun x hx => (List.mem_append.1 hx).elim (fun h => List.mem_append_left _ (List.mem_append_right _ h)) (fun h => List.mem_append_right _ h))
  have hlt := h.lt
  refine ⟨⟨h.log.chg hC (fun x hx hm => (List.mem_append.1 hm).elim (fun hm => h.fk x hx hm) (fun hm => hV x hm (List.mem_append_left _ (List.mem_append_left _ hx)))), ?_, ⟨vt, vu, ts, us, hk1, hn⟩, h.fd, ?_, ?_⟩, hC2, hNN⟩
  · obtain ⟨r, u, e1, e2, hb, f1, f2⟩ := h.doc
    obtain ⟨g1, g2⟩ := hVd r u e1 e2 hb f1 f2
    have hdn : d ∉ K ++ V := fun hm => (List.mem_append.1 hm).elim h.kd (fun hm => hV d hm (by simp))
    have both : ∀ {x : SlP}, FzP w (allN F d K) x → FzP w V x → FzP w (allN F d K ++ V) x := fun a b => ⟨a.len, a.max, a.nil, a.rd, a.lt, fun q e hm => (List.mem_append.1 hm).elim (a.out q e) (b.out q e)⟩
    exact ⟨r, u, e1, e2, hC.blk hb hdn, (both f1 g1).step hC2 (fun x hx => (hNN x hx).imp (fun h => List.mem_append_left _ h) id), (both f2 g2).step hC2 (fun x hx => (hNN x hx).imp (fun h => List.mem_append_left _ h) id)⟩
  · exact fun hm => (hK' d hm).elim h.kd (fun hx => by have := h.dlt; omega)
  · exact fun x hx hm => (hK' x hm).elim (h.fk x hx) (fun hy => by have := h.log.lt x hx; omega)

/-- What 'do' ends in. -/
def DoPost (w : World) (g : Nat) (F : List Nat) (d kb : Nat) (K : List Nat) (s : RW) (n : Nat) (e : Ending) (w' : World) : Prop :=
  e = .returned (.bool true) ∧ ∃ F' K' n', PlAt w' g F' d kb K' s s n' ∧ Mv (allN F d K) (allN F' d K') w w' ∧ n' ≤ n + 1
end Go.Proofs.Ytobpknbnfkjnhaa
