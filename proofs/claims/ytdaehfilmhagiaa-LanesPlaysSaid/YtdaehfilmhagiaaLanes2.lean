/- Budgets: which may be. -/
import Derived.Test.YtdaehfilmhagiaaLanes1
import Derived.StillTailTactics
import Derived.BigQuiet
import Derived.Deep.RegionHeld3
namespace Go.Proofs.Ytdaehfilmhagiaa
open Go.RowKit

def mayOne (n : Int) : Prop := 0 ≤ n ∧ n ≤ 16
instance (n : Int) : Decidable (mayOne n) := inferInstanceAs (Decidable (_ ∧ _))
/-- May a budget be? -/
def may (f s o : Int) : Prop := mayOne f ∧ mayOne s ∧ mayOne o
instance (f s o : Int) : Decidable (may f s o) := inferInstanceAs (Decidable (_ ∧ _ ∧ _))

def i64s (l : List Int) : Value := .agg (l.map (Value.int .i64)).toArray
def budL (f s o : Int) (k : Nat) : Int := if k = 1 then f else if k = 2 then s else if k = 3 then o else if k = 4 then -1 else 0

def budVal (f s o : Int) : Value := .agg #[.int .i64 0, .int .i64 f, .int .i64 s, .int .i64 o, .int .i64 (-1)]
def BudPost (w : World) (f s o : Int) (e : Ending) (w' : World) : Prop :=
  e = .returned (.tuple #[budVal f s o, .bool (decide (may f s o))]) ∧ Chg [] w w'

theorem may_not {f s o : Int} {k : Nat} (h1 : 1 ≤ k) (h3 : k ≤ 3) (h : ¬ mayOne (budL f s o k)) : decide (may f s o) = false := by
  rcases (by omega : k = 1 ∨ k = 2 ∨ k = 3) with rfl | rfl | rfl <;> simp [budL] at h <;> simp [may, h]
theorem may_all {f s o : Int} (h : ∀ j, 1 ≤ j → j ≤ 3 → mayOne (budL f s o j)) : decide (may f s o) = true := by
  have h1 := h 1 (by decide) (by decide)
  have h2 := h 2 (by decide) (by decide)
  have h3 := h 3 (by decide) (by decide)
  simp [budL] at h1 h2 h3
  simp [may, h1, h2, h3]

set_option maxRecDepth 100000 in
set_option maxHeartbeats 1000000 in
theorem budgets_any (w : World) (f s o : Int) :
    Calls Try.prog 25 #[.agg #[.int .i64 f, .int .i64 s, .int .i64 o]] w (BudPost w f s o) := by
  go_enter Try.func25, Try.ntmps25
  go_wp2_with fail
  have kr := (Blk.new (w.alloc (.cells #[.int .i64 f, .int .i64 s, .int .i64 o] 23)) [.int .i64 0, .int .i64 0, .int .i64 0, .int .i64 0, .int .i64 0] 35).alloc (.cells #[.int .i64 0, .int .i64 f, .int .i64 s, .int .i64 o, .int .i64 (-1)] 35)
  have kl := Blk.new ((w.alloc (.cells #[.int .i64 f, .int .i64 s, .int .i64 o] 23)).alloc (.cells #[.int .i64 0, .int .i64 0, .int .i64 0, .int .i64 0, .int .i64 0] 35)) [.int .i64 0, .int .i64 f, .int .i64 s, .int .i64 o, .int .i64 (-1)] 35
  have hC := (((Chg.refl [] w).alloc (.cells #[.int .i64 f, .int .i64 s, .int .i64 o] 23)).alloc (.cells #[.int .i64 0, .int .i64 0, .int .i64 0, .int .i64 0, .int .i64 0] 35)).alloc (.cells #[.int .i64 0, .int .i64 f, .int .i64 s, .int .i64 o, .int .i64 (-1)] 35)
  simp only [World.size_alloc] at kr kl
  have hr0 : w.heap.size + 1 < w.heap.size → w.heap.size + 1 ∈ ([] : List Nat) := fun h => by omega
  generalize ((w.alloc (.cells #[.int .i64 f, .int .i64 s, .int .i64 o] 23)).alloc (.cells #[.int .i64 0, .int .i64 0, .int .i64 0, .int .i64 0, .int .i64 0] 35)).alloc (.cells #[.int .i64 0, .int .i64 f, .int .i64 s, .int .i64 o, .int .i64 (-1)] 35) = W at *
  generalize w.heap.size + 1 + 1 = l at *
  generalize w.heap.size + 1 = r at *
  have HR0 := Lib.hid hr0
  have HC := Lib.hid hC
  clear hr0 hC
  have KR := Lib.hid kr
  have l0 : W.cell? ⟨l, 0, none⟩ = some (.int .i64 0) := kl.cell 0
  have l1 : W.cell? ⟨l, 1, none⟩ = some (.int .i64 f) := kl.cell 1
  have l2 : W.cell? ⟨l, 2, none⟩ = some (.int .i64 s) := kl.cell 2
  have l3 : W.cell? ⟨l, 3, none⟩ = some (.int .i64 o) := kl.cell 3
  have l4 : W.cell? ⟨l, 4, none⟩ = some (.int .i64 (-1)) := kl.cell 4
  have r0 : W.cell? ⟨r, 0, none⟩ = some (.int .i64 0) := kr.cell 0
  have r1 : W.cell? ⟨r, 1, none⟩ = some (.int .i64 0) := kr.cell 1
  have r2 : W.cell? ⟨r, 2, none⟩ = some (.int .i64 0) := kr.cell 2
  have r3 : W.cell? ⟨r, 3, none⟩ = some (.int .i64 0) := kr.cell 3
  have r4 : W.cell? ⟨r, 4, none⟩ = some (.int .i64 0) := kr.cell 4
  have hfr := kr.free
  have hlk : ∀ k : Nat, k < 3 → W.cell? ⟨l, 1 + k, none⟩ = some (.int .i64 (budL f s o (1 + k))) := fun k hk => by
    rw [kl.cell]
    rcases (by omega : k = 0 ∨ k = 1 ∨ k = 2) with rfl | rfl | rfl <;> rfl
  clear kr kl
  go_loopw [16] (fun i wr => ∃ k : Nat, k ≤ 3 ∧ i = .int .i64 k ∧ wr = W ∧ ∀ j, 1 ≤ j → j ≤ k → mayOne (budL f s o j)) (fun i _ => 3 - (intOf i).toNat)
  case atStart => exact ⟨0, by omega, rfl, rfl, fun j h1 h2 => by omega⟩
  case round =>
    obtain ⟨k, hk, rfl, rfl, hall⟩ := hrel
    by_cases hlt : k < 3
    · have hck := hlk k hlt
      have hmn := may_not (f := f) (s := s) (o := o) (k := 1 + k) (by omega) (by omega)
      by_cases hm : mayOne (budL f s o (1 + k))
      · have hnx : ∀ j, 1 ≤ j → j ≤ k + 1 → mayOne (budL f s o j) := fun j h1 h2 => by
          by_cases e : j = 1 + k
          · subst e; exact hm
          · exact hall j h1 (by omega)
        have HN := Lib.hid hnx
        clear hnx hall hmn hlk
        generalize budL f s o (1 + k) = v at *
        obtain ⟨v0, v1⟩ := hm
        go_wp2_with fail
        go_roundw
        case rel => exact ⟨k + 1, by omega, by go_num, by simp, HN.out⟩
        case measure => simp [intOf]; omega
      · have hd := hmn hm
        have HD := Lib.hid hd
        clear hall hmn hlk hd
        generalize budL f s o (1 + k) = v at *
        by_cases hv : v < 0
        · clear hm
          go_wp2_with fail
          have hr0 := HR0.out
          refine bodyPost_ret (v := .tuple #[budVal f s o, .bool false]) ?_ rfl ⟨?_, ((((HC.out.setCell hr0 _).setCell hr0 _).setCell hr0 _).setCell hr0 _).setCell hr0 _⟩
          · have kf := ((((KR.out.set 0 (.int .i64 0)).set 1 (.int .i64 f)).set 2 (.int .i64 s)).set 3 (.int .i64 o)).set 4 (.int .i64 (-1))
            simp only [List.set_cons_zero, List.set_cons_succ] at kf
            have d0 := kf.cell 0
            have d1 := kf.cell 1
            have d2 := kf.cell 2
            have d3 := kf.cell 3
            have d4 := kf.cell 4
            clear kf
            revert d0 d1 d2 d3 d4
            generalize World.setCell _ _ _ = Wf
            intro d0 d1 d2 d3 d4
            simp at d0 d1 d2 d3 d4
            simp [results, Try.results25, go_sem, budVal, d0, d1, d2, d3, d4]
          · rw [HD.out]
        · have hv2 : 16 < v := by simp only [mayOne] at hm; omega
          clear hm
          go_wp2_with fail
          have hr0 := HR0.out
          refine bodyPost_ret (v := .tuple #[budVal f s o, .bool false]) ?_ rfl ⟨?_, ((((HC.out.setCell hr0 _).setCell hr0 _).setCell hr0 _).setCell hr0 _).setCell hr0 _⟩
          · have kf := ((((KR.out.set 0 (.int .i64 0)).set 1 (.int .i64 f)).set 2 (.int .i64 s)).set 3 (.int .i64 o)).set 4 (.int .i64 (-1))
            simp only [List.set_cons_zero, List.set_cons_succ] at kf
            have d0 := kf.cell 0
            have d1 := kf.cell 1
            have d2 := kf.cell 2
            have d3 := kf.cell 3
            have d4 := kf.cell 4
            clear kf
            revert d0 d1 d2 d3 d4
            generalize World.setCell _ _ _ = Wf
            intro d0 d1 d2 d3 d4
            simp at d0 d1 d2 d3 d4
            simp [results, Try.results25, go_sem, budVal, d0, d1, d2, d3, d4]
          · rw [HD.out]
    · obtain rfl : k = 3 := by omega
      have hd := may_all hall
      have HD := Lib.hid hd
      clear hall hd hlk
      go_wp2_with fail
      have hr0 := HR0.out
      refine bodyPost_ret (v := .tuple #[budVal f s o, .bool true]) ?_ rfl ⟨?_, ((((HC.out.setCell hr0 _).setCell hr0 _).setCell hr0 _).setCell hr0 _).setCell hr0 _⟩
      · have kf := ((((KR.out.set 0 (.int .i64 0)).set 1 (.int .i64 f)).set 2 (.int .i64 s)).set 3 (.int .i64 o)).set 4 (.int .i64 (-1))
        simp only [List.set_cons_zero, List.set_cons_succ] at kf
        have d0 := kf.cell 0
        have d1 := kf.cell 1
        have d2 := kf.cell 2
        have d3 := kf.cell 3
        have d4 := kf.cell 4
        clear kf
        revert d0 d1 d2 d3 d4
        generalize World.setCell _ _ _ = Wf
        intro d0 d1 d2 d3 d4
        simp at d0 d1 d2 d3 d4
        simp [results, Try.results25, go_sem, budVal, d0, d1, d2, d3, d4]
      · rw [HD.out]

end Go.Proofs.Ytdaehfilmhagiaa
