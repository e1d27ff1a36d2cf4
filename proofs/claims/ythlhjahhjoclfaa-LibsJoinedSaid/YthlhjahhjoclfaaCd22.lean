/- A code run alone over a memory: the plain machine, and where it stands in memory. -/
import Derived.Test.YthlhjahhjoclfaaCd21
namespace Go.Proofs.Ythlhjahhjoclfaa
set_option maxRecDepth 100000
open Go.RowKit

structure Mach where
  mem : List Int
  regs : List Int
  pc : Nat
  inside : Bool
  begun : Nat
  steps : Nat
  bad : Bool

def actM (fr til : Int) (m : Mach) (e : Ef) : Mach :=
  if e.kind = 1 then { m with regs := m.regs.set e.reg.toNat e.value, pc := e.next.toNat, steps := m.steps + 1 } else
  if e.kind = 2 then { m with pc := e.next.toNat, steps := m.steps + 1 } else
  if e.kind = 3 ∨ e.kind = 4 then
    if m.inside = false ∨ e.addr < fr ∨ til ≤ e.addr ∨ (m.mem.length : Int) ≤ e.addr then { m with bad := true, steps := m.steps + 1 } else
    if e.kind = 3 then { m with regs := m.regs.set e.reg.toNat (m.mem.getD e.addr.toNat 0), pc := e.next.toNat, steps := m.steps + 1 } else
    { m with mem := m.mem.set e.addr.toNat e.value, pc := e.next.toNat, steps := m.steps + 1 }
  else
  if e.kind = 5 then (if m.inside = true then { m with bad := true, steps := m.steps + 1 } else { m with inside := true, begun := m.begun + 1, pc := e.next.toNat, steps := m.steps + 1 })
  else (if m.inside = false then { m with bad := true, steps := m.steps + 1 } else { m with inside := false, pc := e.next.toNat, steps := m.steps + 1 })
def stepM (l : List Ins) (fr til : Int) (m : Mach) : Mach := match l[m.pc]? with
  | none => m
  | some i => actM fr til m (doE i m.regs m.pc)
def runM (l : List Ins) (fr til : Int) (most : Nat) : Nat → Mach → Mach
  | 0, m => m
  | g + 1, m => if m.pc < l.length ∧ m.bad = false then (if most ≤ m.steps then { m with bad := true } else runM l fr til most g (stepM l fr til m)) else m
theorem runM_bad (l : List Ins) (fr til : Int) (most g : Nat) (m : Mach) (h : m.bad = true) : runM l fr til most g m = m := by
  cases g with
  | zero => rfl
  | succ g => simp [runM, h]
theorem runM_end (l : List Ins) (fr til : Int) (most g : Nat) (m : Mach) (h : l.length ≤ m.pc) : runM l fr til most g m = m := by
  cases g with
  | zero => rfl
  | succ g => unfold runM; rw [if_neg (by omega)]
theorem runM_most (l : List Ins) (fr til : Int) (most g : Nat) (m : Mach) (h : m.pc < l.length) (hb : m.bad = false) (hm : most ≤ m.steps) : runM l fr til most (g + 1) m = { m with bad := true } := by
  unfold runM; rw [if_pos ⟨h, hb⟩, if_pos hm]
theorem runM_step (l : List Ins) (fr til : Int) (most g : Nat) (m : Mach) (h : m.pc < l.length) (hb : m.bad = false) (hm : m.steps < most) : runM l fr til most (g + 1) m = runM l fr til most g (actM fr til m (doE (l[m.pc]'h) m.regs m.pc)) := by
  rw [runM, if_pos ⟨h, hb⟩, if_neg (by omega), stepM, List.getElem?_eq_getElem h]
def fineM (n blocks : Nat) (m : Mach) : Bool := !m.bad && (m.pc == n && !m.inside && m.begun == blocks)

structure MOk (n N most : Nat) (m : Mach) : Prop where
  regs : m.regs.length = 8
  rok : ∀ k : Nat, uok (rg m.regs k)
  mem : m.mem.length = N
  mok : ∀ x ∈ m.mem, uok x
  pc : m.pc ≤ n
  good : m.bad = false
  begun : m.begun ≤ m.steps
  steps : m.steps ≤ most

theorem rg_set {R : List Int} (h : ∀ k : Nat, uok (rg R k)) {v : Int} (hv : uok v) (j : Nat) : ∀ k : Nat, uok (rg (R.set j v) k) := by
  intro k
  by_cases e : j = k
  · subst e
    by_cases hl : j < R.length
    · simpa [rg, List.getD, hl] using hv
    · have := h j
      rwa [List.set_eq_of_length_le (by omega)]
  · have := h k
    simpa [rg, List.getD, List.getElem?_set_ne e] using this
theorem mem_set {M : List Int} (h : ∀ x ∈ M, uok x) {v : Int} (hv : uok v) (j : Nat) : ∀ x ∈ M.set j v, uok x := by
  intro x hx
  rcases List.mem_or_eq_of_mem_set hx with e | e
  · exact h x e
  · subst e; exact hv

def rL (R : List Int) (s : Int) : List Value := .bool false :: (R.map (Value.int .u64) ++ [.int .i64 s])
theorem rL_set {R : List Int} {s v : Int} {k : Nat} (hk : k < R.length) : (rL R s).set (k + 1) (.int .u64 v) = rL (R.set k v) s := by
  unfold rL
  rw [List.set_cons_succ, List.set_append_left _ _ (by simpa using hk), List.map_set]
theorem rL_steps {R : List Int} {s s' : Int} (h : R.length = 8) : (rL R s).set 9 (.int .i64 s') = rL R s' := by
  unfold rL
  rw [List.set_cons_succ, List.set_append_right _ _ (by simp [h]), List.length_map, h]
  rfl
theorem eight {R : List Int} (h : R.length = 8) : ∃ r0 r1 r2 r3 r4 r5 r6 r7, R = [r0, r1, r2, r3, r4, r5, r6, r7] := by
  match R, h with
  | [a, b, c, d, e, f, g, i], _ => exact ⟨a, b, c, d, e, f, g, i, rfl⟩

def PlRel (W : World) (bm g14 g15 : Nat) (l : List Ins) (fr til : Int) (most N : Nat) (m0 : Mach) (g : Nat) (s16 s17 s18 : Value) (wr : World) : Prop :=
  ∃ m : Mach, g + m.steps = most + 1 ∧ s16 = .int .i64 m.pc ∧ s17 = .bool m.inside ∧ s18 = .int .i64 m.begun ∧ MOk l.length N most m ∧ Blk wr g15 (rL m.regs m.steps) 65 ∧ Blk wr g14 (rL [0, 0, 0, 0, 0, 0, 0, 0] 0) 65 ∧ Blk wr bm (m.mem.map (Value.int .u64)) 32 ∧ Chg [bm] W wr ∧ runM l fr til most g m = runM l fr til most (most + 1) m0

def PlayPost (W : World) (bm n blocks : Nat) (mf : Mach) (e : Ending) (w' : World) : Prop :=
  ∃ r0 r1 r2 r3 r4 r5 r6 r7, mf.regs = [r0, r1, r2, r3, r4, r5, r6, r7] ∧ e = .returned (.agg #[.bool (fineM n blocks mf), .int .u64 r0, .int .u64 r1, .int .u64 r2, .int .u64 r3, .int .u64 r4, .int .u64 r5, .int .u64 r6, .int .u64 r7, .int .i64 mf.steps]) ∧ Blk w' bm (mf.mem.map (Value.int .u64)) 32 ∧ mf.mem.length = mf.mem.length ∧ Chg [bm] W w'

theorem play_results (a : Array Value) (w : World) (g : Nat) (v0 v1 v2 v3 v4 v5 v6 v7 v8 v9 : Value) (h : Blk w g [v0, v1, v2, v3, v4, v5, v6, v7, v8, v9] 65) (ha : a[14]?.getD undef = .pointer (some ⟨g, 0, none⟩)) :
    (results Try.f34 a).run Try.prog w = .ok (.agg #[v0, v1, v2, v3, v4, v5, v6, v7, v8, v9]) w := by
  have c0 : w.cell? ⟨g, 0, none⟩ = some v0 := h.cell 0
  have c1 : w.cell? ⟨g, 1, none⟩ = some v1 := h.cell 1
  have c2 : w.cell? ⟨g, 2, none⟩ = some v2 := h.cell 2
  have c3 : w.cell? ⟨g, 3, none⟩ = some v3 := h.cell 3
  have c4 : w.cell? ⟨g, 4, none⟩ = some v4 := h.cell 4
  have c5 : w.cell? ⟨g, 5, none⟩ = some v5 := h.cell 5
  have c6 : w.cell? ⟨g, 6, none⟩ = some v6 := h.cell 6
  have c7 : w.cell? ⟨g, 7, none⟩ = some v7 := h.cell 7
  have c8 : w.cell? ⟨g, 8, none⟩ = some v8 := h.cell 8
  have c9 : w.cell? ⟨g, 9, none⟩ = some v9 := h.cell 9
  simp [results, Try.results34, go_sem, ha, c0, c1, c2, c3, c4, c5, c6, c7, c8, c9]

end Go.Proofs.Ythlhjahhjoclfaa
