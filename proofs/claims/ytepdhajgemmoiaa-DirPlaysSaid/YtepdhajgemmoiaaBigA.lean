/- Loads and stores of whole structs; append of one message. -/
import Derived.Test.YtepdhajgemmoiaaLib
import Derived.Deep.MidRow
import Derived.Deep.RegionHeld3
import Derived.Test.YtepdhajgemmoiaaDir15
import Derived.Laws.AppendOwnNone
/- Loads and stores of whole structs, as rules for the walk: one step each, whatever the number of cells. No program in sight. -/
namespace Go.Proofs.Ytepdhajgemmoiaa
set_option linter.unusedSimpArgs false
set_option linter.unusedVariables false
open Go.RowKit

def bigOk (w : World) (n : Nat) : Value → Bool
  | .pointer (some ⟨b, o, none⟩) => (List.range n).all fun k => (w.cell? ⟨b, o + k, none⟩).isSome
  | _ => false
def bigVal (w : World) (n : Nat) : Value → List Value
  | .pointer (some ⟨b, o, none⟩) => (List.range n).map fun k => (w.cell? ⟨b, o + k, none⟩).getD undef
  | _ => []
theorem exec_load_big {P : Program} (T : TypeId) (n : Nat) (hu : (P.underlying T).any (fun d => d.isRow) = true) (hi : (P.info? T).map (·.size) = some n) (ρ : Operand → Value) (o : Oper) (x : Operand) (ho : o.op = .load T x) (w : World) (h : bigOk w n (ρ x) = true) :
    (execOp ρ o).run P w = .ok (.value (.agg (bigVal w n (ρ x)).toArray)) w := by
  obtain ⟨d, hu, hd⟩ : ∃ d, P.underlying T = some d ∧ d.isRow = true := by
    cases hq : P.underlying T with
    | none => rw [hq] at hu; cases hu
    | some d => rw [hq] at hu; exact ⟨d, rfl, hu⟩
  unfold execOp
  rw [ho]
  cases hx : ρ x with
  | pointer p =>
    rw [hx] at h
    match p, h with
    | some ⟨b, o', none⟩, h =>
      have hr := run_loadVar_mid (P := P) w b o' T (bigVal w n (.pointer (some ⟨b, o', none⟩))) d (fun j v hv => by
        unfold bigVal at hv
        rw [List.getElem?_map] at hv
        by_cases hj : j < n
        · rw [List.getElem?_range hj] at hv
          have hk := List.all_eq_true.1 h j (List.mem_range.2 hj)
          obtain ⟨u, hu⟩ := Option.isSome_iff_exists.1 hk
          rw [hu]
          simp only [Option.map_some, hu, Option.getD_some, Option.some.injEq] at hv
          rw [hv]
        · rw [List.getElem?_eq_none (by simpa using hj)] at hv
          cases hv) hu hd (by rw [hi]; simp [bigVal])
      simp only [Instr.loadAt, Instr.sureAddr, Sem.run_bind, Sem.run_pure, Result.andThen_ok, hx, hr]
  | _ => rw [hx] at h; exact absurd h (by simp [bigOk])

def bigFree (w : World) (n : Nat) : Value → Value → Bool
  | .pointer (some ⟨b, o, none⟩), .agg cs => decide (cs.size = n) && ((List.range n).all fun k => (w.cell? ⟨b, o + k, none⟩).isSome && !(w.frozen? ⟨b, o + k, none⟩)) && cs.all (·.oneCell')
  | _, _ => false
def bigPut (w : World) : Value → Value → World
  | .pointer (some ⟨b, o, none⟩), .agg cs => w.setCells b o cs.toList
  | _, _ => w
theorem bigPut_at (w : World) (b o : Nat) (l : List Value) : bigPut w (.pointer (some ⟨b, o, none⟩)) (.agg l.toArray) = w.setCells b o l := rfl
theorem exec_store_big {P : Program} (T : TypeId) (n : Nat) (hi : (P.info? T).map (·.size) = some n) (ρ : Operand → Value) (o : Oper) (x y : Operand) (ho : o.op = .store T x y) (w : World) (h : bigFree w n (ρ x) (ρ y) = true) :
    (execOp ρ o).run P w = .ok .skip (bigPut w (ρ x) (ρ y)) := by
  unfold execOp
  rw [ho]
  obtain ⟨X, hX⟩ : ∃ X, ρ x = X := ⟨_, rfl⟩
  obtain ⟨Y, hY⟩ : ∃ Y, ρ y = Y := ⟨_, rfl⟩
  rw [hX, hY] at h ⊢
  unfold bigFree at h
  split at h
  · rename_i b o' cs
    simp only [Bool.and_eq_true, decide_eq_true_eq] at h
    obtain ⟨⟨hs, hc⟩, h1⟩ := h
    have hr := run_storeVar_mid (P := P) w b o' T cs (fun j hj => by
      have hk := List.all_eq_true.1 hc j (List.mem_range.2 (by omega))
      simp only [Bool.and_eq_true, Bool.not_eq_true'] at hk
      exact hk) (by rw [hi, hs]) h1
    simp only [Instr.storeAt, Instr.sureAddr, Sem.run_bind, Sem.run_pure, Result.andThen_ok, hX, hY, hr]
    rfl
  · cases h

theorem putAll_drew (b : Nat) : ∀ (vs : List Value) (o : Nat) (w : World), w.drew.setCells b o vs = (w.setCells b o vs).drew
  | [], _, _ => rfl
  | v :: vs, o, w => by
    show (w.drew.setCell ⟨b, o, none⟩ v).setCells b (o + 1) vs = ((w.setCell ⟨b, o, none⟩ v).setCells b (o + 1) vs).drew
    rw [← putAll_drew b vs (o + 1) (w.setCell ⟨b, o, none⟩ v)]
    congr 1
theorem putAll_cons (w : World) (b o : Nat) (v : Value) (vs : List Value) : w.setCells b o (v :: vs) = (w.setCell ⟨b, o, none⟩ v).setCells b (o + 1) vs := rfl

/-- A block's cells from o on, set. -/
def setFrom (l : List Value) (o : Nat) (vs : List Value) : List Value := l.take o ++ vs ++ l.drop (o + vs.length)
theorem setFrom_cons (l : List Value) (o : Nat) (v : Value) (vs : List Value) (h : o + (vs.length + 1) ≤ l.length) : setFrom (l.set o v) (o + 1) vs = setFrom l o (v :: vs) := by
  unfold setFrom
  have h1 : (l.set o v).take (o + 1) = l.take o ++ [v] := by
    rw [List.take_set, List.take_succ_eq_append_getElem (by omega), List.set_append_right _ _ (by rw [List.length_take]; exact Nat.min_le_left _ _)]
    simp [List.length_take, Nat.min_eq_left (show o ≤ l.length by omega)]
  have h2 : (l.set o v).drop (o + 1 + vs.length) = l.drop (o + (vs.length + 1)) := by
    rw [List.drop_set_of_lt (by omega)]; congr 1; omega
  rw [h1, h2, List.length_cons, List.append_assoc, List.append_assoc, List.append_assoc]; rfl
theorem Blk.putAll {w : World} {b : Nat} {t : TypeId} : ∀ (vs : List Value) (l : List Value) (o : Nat), Blk w b l t → o + vs.length ≤ l.length → Blk (w.setCells b o vs) b (setFrom l o vs) t := by
  intro vs
  induction vs generalizing w with
  | nil =>
    intro l o h _
    have : setFrom l o [] = l := by unfold setFrom; simp
    rw [this]; exact h
  | cons v vs ih =>
    intro l o h hl
    rw [putAll_cons, ← setFrom_cons l o v vs (by simpa using hl)]
    exact ih (l.set o v) (o + 1) (h.set o v) (by rw [List.length_set]; simp only [List.length_cons] at hl; omega)
theorem fresh_putAll (w : World) (t : TypeId) : ∀ (vs : List Value) (c : Array Value) (o : Nat), o + vs.length ≤ c.size → (w.alloc (.cells c t)).setCells w.heap.size o vs = w.alloc (.cells (setFrom c.toList o vs).toArray t) := by
  intro vs
  induction vs with
  | nil => intro c o _; have : setFrom c.toList o [] = c.toList := (by unfold setFrom; simp); rw [this]; rfl
  | cons v vs ih =>
    intro c o h
    simp only [List.length_cons] at h
    rw [putAll_cons, World.setCell_alloc_new, ih _ _ (by simp; omega), Array.toList_setIfInBounds, setFrom_cons _ _ _ _ (by simpa using h)]
theorem bigNew (w : World) (t : TypeId) (c : Array Value) (vs : List Value) (h : c.size = vs.length) : (w.alloc (.cells c t)).setCells w.heap.size 0 vs = w.alloc (.cells vs.toArray t) := by
  rw [fresh_putAll w t vs c 0 (by omega)]
  have : setFrom c.toList 0 vs = vs := by unfold setFrom; simp [← h]
  rw [this]
theorem Blk.putAllOther {w : World} {b : Nat} {l : List Value} {t : TypeId} (h : Blk w b l t) {g : Nat} (hne : g ≠ b) : ∀ (vs : List Value) (o : Nat), Blk (w.setCells g o vs) b l t := by
  intro vs
  induction vs generalizing w with
  | nil => intro o; exact h
  | cons v vs ih => intro o; rw [putAll_cons]; exact ih (h.other hne v) (o + 1)
theorem Chg.putAll {S : List Nat} {a w : World} (h : Chg S a w) {g : Nat} (hg : g < a.heap.size → g ∈ S) : ∀ (vs : List Value) (o : Nat), Chg S a (w.setCells g o vs) := by
  intro vs
  induction vs generalizing w with
  | nil => intro o; exact h
  | cons v vs ih => intro o; rw [putAll_cons]; exact ih (h.setCell (p := ⟨g, o, none⟩) hg v) (o + 1)
end Go.Proofs.Ytepdhajgemmoiaa

/- Append of one message onto a row of our own, in a region that draws. -/
namespace Go.Proofs.Ytepdhajgemmoiaa
set_option linter.unusedSimpArgs false
set_option linter.unusedVariables false
set_option maxRecDepth 100000
set_option linter.unusedSimpArgs false
set_option linter.unusedVariables false
open Go.RowKit


/-- Append of one message onto a row of our own. -/
theorem run_append_row {w : World} {base : Nat} {v : Value} {n : Nat} {xs : List Value} (ty : TypeId) (i : TypeInfo) (hi : Try.prog.info? 33 = some i) (hz : i.zero = some (.agg #[.int .i64 0, .int .i64 0, .int .i64 0, .int .u64 0, .int .u64 0, .int .u64 0, .int .u64 0, .int .u64 0, .int .u64 0, .int .u64 0, .int .u64 0])) (h4 : i.size = 11) (h5 : i.bytes = 88)
    (hown : w.ownsRow base 33 11 v n xs) (ad : Addr) (c : Nat) (m : MsgV) (hm : ∀ j u, (encM m)[j]? = some u → w.cell? (ad.add j) = some u) (hl : n ≤ 100000) (hb : base ≤ w.heap.size) :
    ∃ v' w', (Builtin.append_ #[26, 26] ty #[v, .slice (some ad) 1 c]).run Try.prog w = .ok v' w' ∧ w'.ownsRow base 33 11 v' (n + 1) (xs ++ encM m) ∧ w.grownBy w' v.ownBlock ∧ (v'.ownBlock = v.ownBlock ∨ v'.ownBlock = some w.heap.size) := by
  obtain ⟨v', w', hr, h1, h2, _, h3⟩ := run_append_own_at (P := Try.prog) w base 26 ty 33 i _ 11 88 Try.underlying26 hi hz h4 h5 rfl (by decide) v n xs hown ad 1 c (encM m) (by rw [encM_len]) hm (encM_one m) (by unfold maxLen; omega) (by omega) hb
  exact ⟨v', w', hr, h1, h2, h3⟩
/-- At a step of a region that draws. -/
theorem step_append_row {w : World} {base : Nat} {v : Value} {n : Nat} {xs : List Value} {ops : Array Oper} {o : Oper} {a : Act} {K : Act → World → Prop} {Q : Exit → Act → World → Prop} {E : Prop} (hgd : o.guard = none) (s x : Operand)
    (ho : o.op = .call { callee := .builtin .append, args := #[s, x], argTypes := #[26, 26] })
    (i : TypeInfo) (hi : Try.prog.info? 33 = some i) (hz : i.zero = some (.agg #[.int .i64 0, .int .i64 0, .int .i64 0, .int .u64 0, .int .u64 0, .int .u64 0, .int .u64 0, .int .u64 0, .int .u64 0, .int .u64 0, .int .u64 0])) (h4 : i.size = 11) (h5 : i.bytes = 88)
    (hs : a.eval s = v) (hown : w.ownsRow base 33 11 v n xs) (ad : Addr) (c : Nat) (hx : a.eval x = .slice (some ad) 1 c) (m : MsgV) (hm : ∀ j u, (encM m)[j]? = some u → w.cell? (ad.add j) = some u) (hl : n ≤ 100000) (hb : base ≤ w.heap.size)
    (h : ∀ v' w', w'.ownsRow base 33 11 v' (n + 1) (xs ++ encM m) → w.grownBy w' v.ownBlock → (v'.ownBlock = v.ownBlock ∨ v'.ownBlock = some w.heap.size) → K (a.put o.dst v') w') :
    if Region.wanted o (yielded ops a.tmps) = true then Oper.wp Try.prog o a w K Q else E := by
  have hw : Region.wanted o (yielded ops a.tmps) = true := by simp [Region.wanted, hgd]
  rw [if_pos hw]
  obtain ⟨v', w', hr, h1, h2, h3⟩ := run_append_row o.type i hi hz h4 h5 hown ad c m hm hl hb
  unfold Oper.wp execOp
  simp only [ho, resolve, invoke, builtin, Sem.run_bind, Sem.run_pure, Result.andThen_ok, List.map_toArray, List.map_cons, List.map_nil, hs, hx, hr]
  exact h v' w' h1 h2 h3
end Go.Proofs.Ytepdhajgemmoiaa

