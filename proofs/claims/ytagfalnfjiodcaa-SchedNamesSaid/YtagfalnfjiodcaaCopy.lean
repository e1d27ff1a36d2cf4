/- copy onto a row that is known whole, elements of several cells. No program in sight. -/
import Derived.Test.YtagfalnfjiodcaaOwn
import Derived.Laws.CopyOwn
namespace Go.Proofs.Ytagfalnfjiodcaa
open Go.RowKit

theorem run_copy_rowS (P : Program) (w : World) (dT sT ty elem : TypeId) (size g o dLen dCap : Nat) (a : Addr) (sLen sCap : Nat) (cur : List Value) (t : TypeId) (cs : List Value) (n : Nat)
    (hu : P.underlying dT = some (.slice elem)) (hs : (P.info? elem).map (·.size) = some size)
    (hg : Blk w g cur t) (hn : n = Nat.min sLen dLen) (hcl : cs.length = n * size)
    (hsrc : ∀ j v, cs[j]? = some v → w.cell? (a.add j) = some v) (hfit : o + cs.length ≤ cur.length) (h1 : ∀ v ∈ cs, v.oneCell' = true) :
    ∃ w', (Builtin.copy_ #[dT, sT] ty #[.slice (some ⟨g, o, none⟩) dLen dCap, .slice (some a) sLen sCap]).run P w = .ok (goInt n) w' ∧ Blk w' g (splice cur o cs) t ∧ Chg [g] w w' := by
  have hl := run_loadCells_list (P := P) w a cs hsrc
  have hst := run_storeCells_at P g o t cs 0 cur.toArray w hg (by simpa using hfit) h1
  refine ⟨w.setRow g (cur.take o ++ cs ++ cur.drop (o + cs.length)).toArray, ?_, ?_, ?_⟩
  · cases hq : P.info? elem with
    | none => simp [hq] at hs
    | some i =>
      have hi : i.size = size := by simpa [hq] using hs
      rw [hcl] at hl
      simp [Builtin.copy_, run_underlying hu, Builtin.lenOf, Builtin.firstCells, sizeOf, typeInfo, hq, hi, ← hn, hl]
      simp only [List.size_toArray, Nat.add_zero, List.toList_toArray] at hst
      simp [hst]
  · have := setRow_heap w g cur.toArray (cur.take o ++ cs ++ cur.drop (o + cs.length)).toArray t (0, 0) hg
    show _ = _
    rw [show splice cur o cs = cur.take o ++ cs ++ cur.drop (o + cs.length) from by simp [splice]]
    exact this
  · exact ⟨rfl, rfl, rfl, by simp [World.setRow], fun k hk hks => setRow_other w g k _ (by simpa using hks)⟩

theorem run_copy_noneS (P : Program) (w : World) (dT sT ty elem : TypeId) (size : Nat) (d a : Option Addr) (dLen dCap sLen sCap : Nat) (hu : P.underlying dT = some (.slice elem)) (hs : (P.info? elem).map (·.size) = some size) (hn : Nat.min sLen dLen = 0) :
    (Builtin.copy_ #[dT, sT] ty #[.slice d dLen dCap, .slice a sLen sCap]).run P w = .ok (goInt 0) w := by
  cases hq : P.info? elem with
  | none => simp [hq] at hs
  | some i =>
    have hl : ∀ (x : Addr), (loadCells x 0).run P w = .ok #[] w := fun x => by simpa using run_loadCells_list (P := P) w x [] (by simp)
    cases d <;> cases a <;> simp [Builtin.copy_, run_underlying hu, Builtin.lenOf, Builtin.firstCells, sizeOf, typeInfo, hq, hn, storeCells, hl]

/-- A copy: n elements go over; what lies where is the prover's to say. -/
structure CopyAt (w : World) (size : Nat) (d s : Value) (g o : Nat) (cur : List Value) (t : TypeId) (n : Nat) (cs : List Value) : Prop where
  sl : ∃ dp dLen dCap sp sLen sCap, d = .slice dp dLen dCap ∧ s = .slice sp sLen sCap ∧ n = Nat.min sLen dLen ∧ (0 < n → dp = some ⟨g, o, none⟩ ∧ ∃ ad, sp = some ad ∧ ∀ j v, cs[j]? = some v → w.cell? (ad.add j) = some v)
  blk : Blk w g cur t
  len : cs.length = n * size
  fit : o + cs.length ≤ cur.length
  one : ∀ v ∈ cs, v.oneCell' = true

theorem CopyAt.run {w : World} {size : Nat} {d s : Value} {g o : Nat} {cur : List Value} {t : TypeId} {n : Nat} {cs : List Value} (h : CopyAt w size d s g o cur t n cs) (P : Program) (dT sT ty elem : TypeId)
    (hu : P.underlying dT = some (.slice elem)) (hs : (P.info? elem).map (·.size) = some size) :
    ∃ w', (Builtin.copy_ #[dT, sT] ty #[d, s]).run P w = .ok (goInt n) w' ∧ Blk w' g (splice cur o cs) t ∧ Chg [g] w w' := by
  obtain ⟨dp, dLen, dCap, sp, sLen, sCap, rfl, rfl, hn, hp⟩ := h.sl
  by_cases h0 : n = 0
  · subst h0
    have hc : cs = [] := List.eq_nil_of_length_eq_zero (by rw [h.len]; simp)
    subst hc
    exact ⟨w, run_copy_noneS P w dT sT ty elem size dp sp dLen dCap sLen sCap hu hs hn.symm, by rw [show splice cur o [] = cur from by simp [splice]]; exact h.blk, Chg.refl _ _⟩
  · obtain ⟨rfl, ad, rfl, hsrc⟩ := hp (by omega)
    exact run_copy_rowS P w dT sT ty elem size g o dLen dCap ad sLen sCap cur t cs n hu hs h.blk hn h.len hsrc h.fit h.one

theorem wpList_copy_at {P : Program} (w : World) {ops : Array Oper} {rest : List Oper} {o : Oper} {a : Act} {Q : Exit → Act → World → Prop} (hgd : o.guard = none) (d s : Operand) (dT sT : TypeId)
    (ho : o.op = .call { callee := .builtin .copy, args := #[d, s], argTypes := #[dT, sT] }) (elem : TypeId) (size : Nat) (hu : P.underlying dT = some (.slice elem)) (hsz : (P.info? elem).map (·.size) = some size)
    (g off : Nat) (cur : List Value) (t : TypeId) (n : Nat) (cs : List Value) (hc : CopyAt w size (a.eval d) (a.eval s) g off cur t n cs)
    (h : ∀ w', Blk w' g (splice cur off cs) t → Chg [g] w w' → wpList P ops Q rest (a.put o.dst (goInt n)) w') : wpList P ops Q (o :: rest) a w := by
  refine wpList_plain hgd fun K hK => ?_
  obtain ⟨w', hr, h1, h2⟩ := hc.run P dT sT o.type elem hu hsz
  unfold Oper.wp execOp
  simp only [ho, resolve, invoke, builtin, Sem.run_bind, Sem.run_pure, Result.andThen_ok, List.map_toArray, List.map_cons, List.map_nil, hr]
  exact hK _ _ (h w' h1 h2)

theorem step_copy_at {P : Program} {ops : Array Oper} {o : Oper} {a : Act} {w : World} {K : Act → World → Prop} {Q : Exit → Act → World → Prop} {E : Prop} (hgd : o.guard = none) (d s : Operand) (dT sT : TypeId)
    (ho : o.op = .call { callee := .builtin .copy, args := #[d, s], argTypes := #[dT, sT] }) (elem : TypeId) (size : Nat) (hu : P.underlying dT = some (.slice elem)) (hsz : (P.info? elem).map (·.size) = some size)
    (g off : Nat) (cur : List Value) (t : TypeId) (n : Nat) (cs : List Value) (dv sv : Value) (hd : a.eval d = dv) (hs : a.eval s = sv) (hc : CopyAt w size dv sv g off cur t n cs)
    (h : ∀ w', Hid (Blk w' g (splice cur off cs) t) → Chg [g] w w' → K (a.put o.dst (goInt n)) w') :
    if Region.wanted o (yielded ops a.tmps) = true then Oper.wp P o a w K Q else E := by
  subst hd hs
  have hw : Region.wanted o (yielded ops a.tmps) = true := by simp [Region.wanted, hgd]
  rw [if_pos hw]
  obtain ⟨w', hr, h1, h2⟩ := hc.run P dT sT o.type elem hu hsz
  unfold Oper.wp execOp
  simp only [ho, resolve, invoke, builtin, Sem.run_bind, Sem.run_pure, Result.andThen_ok, List.map_toArray, List.map_cons, List.map_nil, hr]
  exact h w' (Lib.hid h1) h2

end Go.Proofs.Ytagfalnfjiodcaa
