/- A message more that waits: append onto a slice with an offset. -/
import Derived.Test.YtepdhajgemmoiaaDir14
import Derived.ArgAppend
import Derived.RegionTactic
import Derived.Deep.RegionLaw
namespace Go.Proofs.Ytepdhajgemmoiaa
set_option linter.unusedSimpArgs false
set_option linter.unusedVariables false
set_option maxRecDepth 100000
open Go.RowKit

theorem Blk.setCells {g : Nat} {t : TypeId} : ∀ (vs : List Value) (o : Nat) {w : World} {l : List Value}, Blk w g l t → ∃ l', Blk (w.setCells g o vs) g l' t ∧ l'.length = l.length ∧ (∀ j, j < o → l'[j]? = l[j]?) ∧ (o + vs.length ≤ l.length → ∀ j u, vs[j]? = some u → l'[o + j]? = some u)
  | [], o, w, l, h => ⟨l, h, rfl, fun _ _ => rfl, fun _ j u hu => by simp at hu⟩
  | v :: vs, o, w, l, h => by
    obtain ⟨l', hb, hl, h1, h2⟩ := Blk.setCells vs (o + 1) (h.set o v)
    refine ⟨l', hb, by rw [hl, List.length_set], fun j hj => ?_, fun hle j u hu => ?_⟩
    · rw [h1 j (by omega), List.getElem?_set_ne (by omega)]
    · cases j with
      | zero =>
        have hv : v = u := by simpa using hu
        rw [Nat.add_zero, h1 o (by omega), List.getElem?_set_self (by simp at hle; omega), hv]
      | succ j =>
        have := h2 (by simp at hle ⊢; omega) j u (by simpa using hu)
        rw [show o + 1 + j = o + (j + 1) from by omega] at this
        exact this

theorem Chg.setCells {g : Nat} {a : World} : ∀ (vs : List Value) (o : Nat) {w : World}, Chg [g] a w → Chg [g] a (w.setCells g o vs)
  | [], _, _, h => h
  | v :: vs, o, _, h => Chg.setCells vs (o + 1) (h.setCell (p := ⟨g, o, none⟩) (fun _ => List.mem_singleton.2 rfl) v)

theorem encM_one (m : MsgV) : ∀ u ∈ encM m, u.oneCell' = true := by
  intro u hu
  simp only [encM, List.mem_cons, List.mem_append, List.not_mem_nil, or_false] at hu
  rcases hu with h | h | h | h | h | h | h | h | h | h | h <;> subst h <;> rfl

theorem flat_snoc_w (l : List MsgV) (m : MsgV) : (l ++ [m]).flatMap encM = l.flatMap encM ++ encM m := by simp

/-- The append itself. -/
theorem run_append_wait {w : World} {v : Value} {l : List MsgV} (ty : TypeId) (i : TypeInfo) (hi : Try.prog.info? 33 = some i) (hz : i.zero = some (.agg #[.int .i64 0, .int .i64 0, .int .i64 0, .int .u64 0, .int .u64 0, .int .u64 0, .int .u64 0, .int .u64 0, .int .u64 0, .int .u64 0, .int .u64 0])) (h4 : i.size = 11) (h5 : i.bytes = 88)
    (hW : WaitAt w v l) (ad : Addr) (c : Nat) (m : MsgV) (hm : ∀ j u, (encM m)[j]? = some u → w.cell? (ad.add j) = some u) (hl : l.length ≤ 100000) :
    ∃ v' w', (Builtin.append_ #[26, 26] ty #[v, .slice (some ad) 1 c]).run Try.prog w = .ok v' w' ∧ WaitAt w' v' (l ++ [m]) ∧ Chg (sliceB v) w w' ∧ ∀ g ∈ sliceB v', g ∈ sliceB v ∨ w.heap.size ≤ g := by
  have ht : Try.prog.underlying 26 = some (.slice 33) := Try.underlying26
  have hmx : l.length + 1 ≤ maxLen := by unfold maxLen; omega
  have fl : (l.flatMap encM).length = l.length * 11 := flat_len encM_len l
  -- the row is new
  have grown : ∀ v' w', w'.ownsRow w.heap.size 33 11 v' (l.length + 1) (l.flatMap encM ++ encM m) → w.grownBy w' none → WaitAt w' v' (l ++ [m]) ∧ Chg (sliceB v) w w' ∧ ∀ g ∈ sliceB v', g ∈ sliceB v ∨ w.heap.size ≤ g := by
    rintro v' w' hown hg
    rcases hown.2 with ⟨_, h0⟩ | ⟨g, cap, cur, rfl, hb, hc, h1, h2, h3, h6⟩
    · omega
    · refine ⟨.inr ⟨g, 0, cap, cur.toList, by simp, by simpa [Blk] using hc, by simpa using h1, h2, by simp; omega, fun j u hu => ?_⟩, (Chg.of_grown hg).mono (by simp), fun x hx => ?_⟩
      · rw [flat_snoc_w, ← h6, List.getElem?_take] at hu
        rw [Nat.zero_add]
        split at hu
        · exact hu
        · cases hu
      · simp [sliceB] at hx; subst hx; exact .inr hb
  rcases hW with ⟨rfl, rfl⟩ | ⟨g, off, cap, cur, rfl, hb, h1, h2, h3, h6⟩
  · obtain ⟨v', w', hr, ho, hg, _⟩ := run_append_own (P := Try.prog) w w.heap.size 26 ty 33 i _ 11 88 ht hi hz h4 h5 rfl (by decide) (.slice none 0 0) 0 [] (World.ownsRow_nil w _ _ 11) ad 1 c (encM m) (by rw [encM_len]) hm (encM_one m) (by unfold maxLen; omega) (by omega) (Nat.le_refl _)
    exact ⟨v', w', hr, grown v' w' ho hg⟩
  · have holds : ∀ j u, (l.flatMap encM)[j]? = some u → w.cell? ⟨g, off + j, none⟩ = some u := fun j u hu => by rw [hb.cell]; exact h6 j u hu
    by_cases hr : l.length + 1 ≤ cap
    · have hrun := run_append_room_cells (P := Try.prog) w 26 ty 33 i ht hi g off l.length cap ad 1 c (encM m) (by rw [encM_len, h4]) hm (encM_one m) hr
        (fun j hj => by rw [encM_len] at hj; rw [hb.cell, List.getElem?_eq_getElem (by rw [h4]; omega)]; rfl) (fun j _ => hb.free _)
      rw [h4] at hrun
      obtain ⟨l', hb', hl', k1, k2⟩ := Blk.setCells (encM m) (off + l.length * 11) hb
      refine ⟨_, _, hrun, .inr ⟨g, off, cap, l', by simp, hb', by simpa using hr, h2, by rw [hl']; exact h3, fun j u hu => ?_⟩, Chg.setCells _ _ (Chg.refl _ _), fun x hx => .inl (by simpa [sliceB] using hx)⟩
      rw [flat_snoc_w] at hu
      by_cases hj : j < l.length * 11
      · rw [List.getElem?_append_left (by rw [fl]; exact hj)] at hu
        rw [k1 _ (by omega)]
        exact h6 j u hu
      · rw [List.getElem?_append_right (by rw [fl]; omega), fl] at hu
        have := k2 (by rw [encM_len]; omega) _ u hu
        rw [show off + l.length * 11 + (j - l.length * 11) = off + j from by omega] at this
        exact this
    · obtain ⟨v', w', hrun, ho, hg⟩ := run_append_arg_grows (P := Try.prog) w 26 ty 33 i _ 11 88 ht hi hz h4 h5 rfl (by decide) ⟨g, off, none⟩ l.length cap (l.flatMap encM) fl (fun j u hu => by rw [Addr.add_lit]; exact holds j u hu) ad 1 c (encM m) (by rw [encM_len]) hm (by omega) hmx (by omega)
      exact ⟨v', w', hrun, grown v' w' ho hg⟩

/-- At a step of a region that draws. -/
theorem step_append_wait {w : World} {v : Value} {l : List MsgV} {ops : Array Oper} {o : Oper} {a : Act} {K : Act → World → Prop} {Q : Exit → Act → World → Prop} {E : Prop} (hgd : o.guard = none) (s x : Operand)
    (ho : o.op = .call { callee := .builtin .append, args := #[s, x], argTypes := #[26, 26] })
    (i : TypeInfo) (hi : Try.prog.info? 33 = some i) (hz : i.zero = some (.agg #[.int .i64 0, .int .i64 0, .int .i64 0, .int .u64 0, .int .u64 0, .int .u64 0, .int .u64 0, .int .u64 0, .int .u64 0, .int .u64 0, .int .u64 0])) (h4 : i.size = 11) (h5 : i.bytes = 88)
    (hs : a.eval s = v) (hW : WaitAt w v l) (ad : Addr) (c : Nat) (hx : a.eval x = .slice (some ad) 1 c) (m : MsgV) (hm : ∀ j u, (encM m)[j]? = some u → w.cell? (ad.add j) = some u) (hl : l.length ≤ 100000)
    (h : ∀ v' w', WaitAt w' v' (l ++ [m]) → Chg (sliceB v) w w' → (∀ g ∈ sliceB v', g ∈ sliceB v ∨ w.heap.size ≤ g) → K (a.put o.dst v') w') :
    if Region.wanted o (yielded ops a.tmps) = true then Oper.wp Try.prog o a w K Q else E := by
  have hw : Region.wanted o (yielded ops a.tmps) = true := by simp [Region.wanted, hgd]
  rw [if_pos hw]
  obtain ⟨v', w', hr, h1, h2, h3⟩ := run_append_wait o.type i hi hz h4 h5 hW ad c m hm hl
  unfold Oper.wp execOp
  simp only [ho, resolve, invoke, builtin, Sem.run_bind, Sem.run_pure, Result.andThen_ok, List.map_toArray, List.map_cons, List.map_nil, hs, hx, hr]
  exact h v' w' h1 h2 h3
end Go.Proofs.Ytepdhajgemmoiaa
