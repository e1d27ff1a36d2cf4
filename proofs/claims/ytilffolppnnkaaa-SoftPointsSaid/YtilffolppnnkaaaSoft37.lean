/- SoftAlone's maps: with the comma-ok, and of ints. -/
import Derived.Test.YtilffolppnnkaaaSoft36
namespace Go.Proofs.Ytilffolppnnkaaa
set_option maxRecDepth 100000
open Go.RowKit

structure IntsAt (w : World) (m c : Nat) (h : PL) : Prop where
  map : ∃ D : DataW Unit, w.ownsMap Try.prog 3 (plainElem Try.prog 3) m c D ∧ Maps.size D = c ∧ (∀ a : Int, Maps.has D (.int .i64 a) = inH h a) ∧ (∀ a : Int, D.atKey (.int .i64 a) (.lit (.int .i64 0)) = .lit (.int .i64 (getH h a)))
  ok : ∀ a, (Lit.int .i64 (getH h a)).wf = true

theorem IntsAt.lt {w : World} {m c : Nat} {h : PL} (k : IntsAt w m c h) : m < w.heap.size := by
  obtain ⟨D, h1, _⟩ := k.map; exact h1.lt
theorem IntsAt.chg {S : List Nat} {w w' : World} {m c : Nat} {h : PL} (k : IntsAt w m c h) (hC : Chg S w w') (hs : m ∉ S) : IntsAt w' m c h := by
  obtain ⟨D, h1, h2⟩ := k.map; exact ⟨⟨D, ownsMap_chg h1 hC hs, h2⟩, k.ok⟩
theorem IntsAt.new (w : World) : IntsAt (w.alloc (.map #[] 0)) w.heap.size 0 [] := ⟨⟨.map [], World.ownsMap_made w _ _ _, rfl, fun _ => rfl, fun _ => rfl⟩, fun a => by rw [getH_nil]; decide⟩
theorem IntsAt.look {w : World} {m c : Nat} {h : PL} (k : IntsAt w m c h) {a : Int} (ha : (Lit.int .i64 a).wf = true) :
    (Instr.lookup 42 (.map (some m)) (.int .i64 a) false).run Try.prog w = .ok (.int .i64 (getH h a)) w := by
  obtain ⟨D, h1, h2, h3, h4⟩ := k.map
  obtain ⟨x, hrun, hat, _⟩ := h1.lookup_int lawInt Try.underlying42 Try.underlying3 (zeroInt w) (Maps.keyOf_int_mk Try.underlying3 ha)
  rw [h4 a] at hat
  simp only [DataW.lit.injEq, Lit.int.injEq, true_and] at hat
  rw [hrun, hat]

theorem IntsAt.put {w : World} {m c : Nat} {h : PL} (k : IntsAt w m c h) (hc : c < maxLen) {a v : Int} (ha : (Lit.int .i64 a).wf = true) (hv : (Lit.int .i64 v).wf = true) :
    ∃ w', (Instr.mapUpdate 42 (.map (some m)) (.int .i64 a) (.int .i64 v)).run Try.prog w = .ok () w' ∧ IntsAt w' m (upC c h a) ((a, v) :: h) ∧ Chg [m] w w' := by
  obtain ⟨D, h1, h2, h3, h4⟩ := k.map
  obtain ⟨w', hrun, ho, hg⟩ := h1.update lawInt Try.underlying42 hc (Maps.keyOf_int_mk Try.underlying3 ha) (plainElem_int Try.underlying3 hv)
  have hs : Maps.size (D.put (.int .i64 a) (.lit (.int .i64 v))) = upC c h a := by
    rw [Maps.size_put (h1.tidy lawInt), h3 a, h2]; rfl
  refine ⟨w', hrun, ⟨⟨_, hs ▸ ownsMap_tight ho, hs, ?_, ?_⟩, ?_⟩, Chg.of_grown hg⟩
  · intro b
    rw [inH_cons]
    by_cases e : a = b
    · subst e; rw [Maps.has_put_same h1.isMap (by trivial)]; simp
    · rw [Maps.has_put_other (by simpa using fun x => e x.symm), h3]; simp [e]
  · intro b
    rw [getH_cons]
    by_cases e : a = b
    · subst e; rw [Maps.atKey_put_same h1.isMap (by trivial), if_pos rfl]
    · rw [Maps.atKey_put_other (by simpa using fun x => e x.symm), h4, if_neg e]
  · intro b
    rw [getH_cons]; split
    · exact hv
    · exact k.ok b

/-- 'm[a] = v' at the operation. -/
theorem wpList_intsPut (w : World) {ops : Array Oper} {rest : List Oper} {o : Oper} {a : Act} {Q : Exit → Act → World → Prop} (hg : o.guard = none) (mo x v : Operand)
    (hop : o.op = Op.mapUpdate 42 mo x v ∨ o.op = Op.insert 42 mo x v) (m c : Nat) (h : PL) (hm : a.eval mo = .map (some m)) (k : IntsAt w m c h) (hc : c < maxLen) (key val : Int)
    (hx : a.eval x = .int .i64 key) (hv : a.eval v = .int .i64 val) (hk : (Lit.int .i64 key).wf = true) (hval : (Lit.int .i64 val).wf = true)
    (hK : ∀ w', IntsAt w' m (upC c h key) ((key, val) :: h) → Chg [m] w w' → wpList Try.prog ops Q rest (a.put o.dst undef) w') :
    wpList Try.prog ops Q (o :: rest) a w := by
  refine wpList_plain hg fun K' hK' => ?_
  obtain ⟨w', hrun, r1, r2⟩ := k.put hc hk hval
  unfold Oper.wp
  rcases hop with hop | hop <;>
  · simp [execOp, hop, hm, hx, hv, hrun, Result.andThen]
    exact hK' _ _ (hK w' r1 r2)

/-- A request that may be. -/

theorem MemAt.look_ok {w : World} {m c : Nat} {h : PL} (k : MemAt w m c h) {a : Int} (ha : (Lit.int .i64 a).wf = true) :
    (Instr.lookup 29 (.map (some m)) (.int .i64 a) true).run Try.prog w = .ok (.tuple #[.int .u64 (getH h a), .bool (inH h a)]) w := by
  obtain ⟨D, h1, h2, h3, h4⟩ := k.map
  obtain ⟨es, clock, hb, F, hs, rfl⟩ := h1
  have e4 := h4 a
  have e3 := h3 a
  rcases Maps.fit_look true lawInt Try.underlying29 (zeroU64 w) hb F (Maps.keyOf_int_mk Try.underlying3 ha) with ⟨hrun, _, hat⟩ | ⟨e0, y, _, _, hrun, hRv, hat, _⟩
  · rw [hat] at e4
    rw [Maps.has_false_of_atKey hat] at e3
    simp only [DataW.lit.injEq, Lit.int.injEq, true_and] at e4
    rw [hrun, ← e3, ← e4]; rfl
  · rw [hat] at e4
    rw [Maps.has_true_of_atKey hat] at e3
    obtain ⟨x, hx, hd, _⟩ := plainElem_int_inv Try.underlying23 hRv
    subst hd
    simp only [DataW.lit.injEq, Lit.int.injEq, true_and] at e4
    rw [hrun, ← e3, hx, ← e4]; rfl
theorem MemAt.size {w : World} {m c : Nat} {h : PL} (k : MemAt w m c h) : ∃ D : DataW Unit, w.ownsMap Try.prog 3 (plainElem Try.prog 23) m c D ∧ Maps.size D = c := by
  obtain ⟨D, h1, h2, _⟩ := k.map; exact ⟨D, h1, h2⟩

end Go.Proofs.Ytilffolppnnkaaa
