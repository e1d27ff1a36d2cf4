/- SoftAlone: what each call comes to. -/
import Derived.Test.YtilffolppnnkaaaSoft40
import Derived.Test.YtilffolppnnkaaaSoft18
namespace Go.Proofs.Ytilffolppnnkaaa
set_option maxRecDepth 100000
open Go.RowKit

/-- What stands behind a call. -/
structure Came (j : Nat) (h : PL) (s' : PS) (h' g rd wt : PL) (cr cb : Nat) : Prop where
  cnt : cntH h' = cntH h
  wr : s'.writing = false
  al : Al (j + 1) s' h' (glH s'.live g)
  li : s'.live = true → AlL s' h' rd wt ∧ cr = s'.R.length ∧ cb = s'.W.length

/-- What was written has come into what should be. -/
def PutEnd (wt g gv : PL) : Prop := (∀ a, getH gv a = if inH wt a then getH wt a else getH g a) ∧ (∀ a, inH gv a = inH g a)

section
variable {j : Nat} {s : PS} {h g rd wt : PL} {cr cb : Nat} (A : Al j s h g) (hw : s.writing = false) (L : s.live = true → AlL s h rd wt ∧ cr = s.R.length ∧ cb = s.W.length)

theorem busy_no {s : PS} (hp : s.ph = .idle) : s.busy = false := by unfold PS.busy; rw [hp]; rfl
include A hw L
theorem came_none {k a v : Int} (hk : s.live = false ∧ k ≠ 0 ∨ s.live = true ∧ k = 0) : finM 3000 (s.begins k a v 200, h) = (s, h) ∧ Came j h s h g rd wt cr cb := by
  refine ⟨?_, rfl, hw, A.stay A.ph rfl, L⟩
  have e : s.begins k a v 200 = s := by
    unfold PS.begins
    rcases hk with ⟨hl, hk⟩ | ⟨hl, rfl⟩
    · have hr : s.ready = false := by rw [ready_of A.ph]; exact hl
      rw [if_neg hk]
      split
      · unfold PS.load; rw [hr]; rfl
      split
      · unfold PS.store; rw [hr]; rfl
      split
      · unfold PS.commit; rw [hr]; rfl
      split
      · unfold PS.quit; rw [hr]; rfl
      · rfl
    · rw [if_pos rfl]; unfold PS.begin; rw [hl]; simp
  rw [e]; exact al_idle A.ph _ _
theorem came_begin {a v : Int} (hl : s.live = false) : ∃ s', finM 3000 (s.begins 0 a v 200, h) = (s', (1, 1) :: h) ∧ s'.live = true ∧ Came j h s' ((1, 1) :: h) g [] [] 0 0 := by
  have _hL := L
  refine ⟨_, al_begin A hl, rfl, ?_, hw, A.cnt rfl rfl, fun _ => ⟨AlL.new A, rfl, rfl⟩⟩
  exact cntH_in (by rw [A.hk]; rfl)

section
variable (hl : s.live = true)
include hl
theorem came_out {how : Int} : Came j h { s with live := false, ended := how, ph := .idle } ((1, 0) :: h) g rd wt cr cb :=
  have _hL := L
  have _hl := hl
  ⟨cntH_in (by rw [A.hk]; rfl), hw, A.cnt (s' := { s with live := false, ended := how, ph := .idle }) rfl rfl, fun e => by cases e⟩
theorem came_own {a v : Int} (ho : inH wt (placeA a 200) = true) : ∃ s', finM 3000 (s.begins 1 a v 200, h) = (s', h) ∧ s'.live = true ∧ s'.value = getH wt (placeA a 200) ∧ Came j h s' h g rd wt cr cb :=
  ⟨_, al_load_own A (L hl).1 hl (placeA_ok (by decide) (by decide)).1 ho, hl, rfl, rfl, hw, A.stay (s' := { s with value := getH wt (placeA a 200) }) A.ph rfl, fun _ => ⟨(L hl).1.valued _, (L hl).2⟩⟩
theorem came_load {a v : Int} (ho : inH wt (placeA a 200) = false) (hr : inH rd (placeA a 200) = true ∨ cr ≠ 128) :
    ∃ s', finM 3000 (s.begins 1 a v 200, h) = (s', h) ∧ s'.live = true ∧ s'.value = getH g (placeA a 200) ∧ Came j h s' h g ((placeA a 200, 1) :: rd) wt (upC cr rd (placeA a 200)) cb := by
  obtain ⟨l1, l2, l3⟩ := L hl
  have ha := (placeA_ok (a := a) (n := 200) (by decide) (by decide)).1
  have hr' : inH rd (placeA a 200) = true ∨ s.R.length ≠ 128 := by rw [← l2]; exact hr
  obtain ⟨l4, l5⟩ := l1.loaded (n := wrap64 (s.points + 1)) ha hr'
  exact ⟨_, al_load A l1 hl ha ho hr', hl, A.eq _, rfl, hw, A.stay rfl rfl, fun _ => ⟨l4, by rw [l2]; exact l5.symm, l3⟩⟩
theorem came_load_full {a v : Int} (ho : inH wt (placeA a 200) = false) (hr : inH rd (placeA a 200) = false) (hf : cr = 128) :
    ∃ s' h', finM 3000 (s.begins 1 a v 200, h) = (s', h') ∧ s'.live = false ∧ s'.ended = 2 ∧ Came j h s' h' g rd wt cr cb := by
  obtain ⟨l1, l2, l3⟩ := L hl
  exact ⟨_, _, al_load_full A l1 hl (placeA_ok (by decide) (by decide)).1 ho hr (by omega), rfl, rfl, came_out A hw L hl⟩
theorem came_store {a v : Int} (hr : inH wt (placeA a 200) = true ∨ cb ≠ 128) :
    ∃ s', finM 3000 (s.begins 2 a v 200, h) = (s', h) ∧ s'.live = true ∧ Came j h s' h g rd ((placeA a 200, v) :: wt) cr (upC cb wt (placeA a 200)) := by
  obtain ⟨l1, l2, l3⟩ := L hl
  have ha := placeA_ok (a := a) (n := 200) (by decide) (by decide)
  have hr' : inH wt (placeA a 200) = true ∨ s.W.length ≠ 128 := by rw [← l3]; exact hr
  refine ⟨_, al_store A l1 hl ha.1 hr', hl, rfl, hw, A.stay (s' := { s with W := wrL s.W (placeA a 200) v }) A.ph rfl, fun _ => ⟨l1.stored ha.1 ha.2 hr', l2, ?_⟩⟩
  simp only
  rw [length_wrL (by omega) (by rw [l1.inW]; exact hr'), l1.inW, l3]; rfl
theorem came_store_full {a v : Int} (ho : inH wt (placeA a 200) = false) (hf : cb = 128) :
    ∃ s' h', finM 3000 (s.begins 2 a v 200, h) = (s', h') ∧ s'.live = false ∧ s'.ended = 2 ∧ Came j h s' h' g rd wt cr cb := by
  obtain ⟨l1, l2, l3⟩ := L hl
  exact ⟨_, _, al_store_full A l1 hl (placeA_ok (by decide) (by decide)).1 ho (by omega), rfl, rfl, came_out A hw L hl⟩
theorem came_quit {a v : Int} : ∃ s' h', finM 3000 (s.begins 4 a v 200, h) = (s', h') ∧ s'.live = false ∧ s'.ended = 3 ∧ Came j h s' h' g rd wt cr cb :=
  ⟨_, _, al_quit A hl, rfl, rfl, came_out A hw L hl⟩
theorem came_commit0 {a v : Int} (hW : cb = 0) : ∃ s' h', finM 3000 (s.begins 3 a v 200, h) = (s', h') ∧ s'.live = false ∧ s'.ended = 1 ∧ ∀ gv, PutEnd wt g gv → Came j h s' h' gv rd wt cr cb := by
  obtain ⟨l1, l2, l3⟩ := L hl
  have hW' : s.W = [] := List.eq_nil_iff_length_eq_zero.2 (by omega)
  refine ⟨_, _, al_commit_none A hl hW', rfl, rfl, fun gv hv => ?_⟩
  have hn : ∀ a, inH wt a = false := fun a => by rw [← l1.inW, hW']; rfl
  have h1 : Al j s h gv := ⟨A.ph, fun a => by rw [hv.1, hn, A.eq]; rfl, A.hk, fun a => by rw [hv.2, A.gk], A.even, A.zero, A.most, A.one⟩
  exact came_out h1 hw L hl
theorem came_commit {a v : Int} (hj : j ≤ 400) (hW : cb ≠ 0) : ∃ s' h', finM 3000 (s.begins 3 a v 200, h) = (s', h') ∧ s'.live = false ∧ s'.ended = 1 ∧
    ∀ gv, PutEnd wt g gv → Came j h s' h' ((0, getH gv 0 + 2) :: gv) rd wt cr cb ∧ 0 ≤ getH gv 0 ∧ getH gv 0 ≤ 3000 := by
  have _hw := hw
  obtain ⟨l1, l2, l3⟩ := L hl
  have hW' : s.W ≠ [] := fun e => by rw [e] at l3; exact hW l3
  refine ⟨_, _, al_commit A l1 hl (by omega) hW', rfl, rfl, fun gv hv => ⟨⟨A.commit_cnt l1 _ _, rfl, A.commit l1 rfl rfl hv.1 hv.2, fun e => by cases e⟩, ?_⟩⟩
  have h0 : inH wt 0 = false := by
    cases e : inH wt 0 with
    | false => rfl
    | true => have := (l1.keys 0 (by rw [l1.inW]; exact e)).1; omega
  have e0 : getH gv 0 = getH h 0 := by rw [hv.1, h0, A.eq]; rfl
  rw [e0]
  have := A.zero
  have := A.most
  omega
end
theorem came_any {k a v : Int} (hj : j ≤ 400) (hk : 0 ≤ k ∧ k ≤ 4) : (finM 3000 (s.begins k a v 200, h)).1.ph = .idle ∧ cntH (finM 3000 (s.begins k a v 200, h)).2 = cntH h := by
  have key : ∀ {x : PS × PL} {s' : PS} {h' g' rd' wt' : PL} {cr' cb' : Nat}, x = (s', h') → Came j h s' h' g' rd' wt' cr' cb' → x.1.ph = .idle ∧ cntH x.2 = cntH h := fun e c => by subst e; exact ⟨c.al.ph, c.cnt⟩
  by_cases hl : s.live = true
  · obtain rfl | rfl | rfl | rfl | rfl : k = 0 ∨ k = 1 ∨ k = 2 ∨ k = 3 ∨ k = 4 := by omega
    · obtain ⟨e, c⟩ := came_none A hw L (k := 0) (a := a) (v := v) (.inr ⟨hl, rfl⟩); exact key e c
    · cases ho : inH wt (placeA a 200) with
      | true => obtain ⟨_, e, _, _, c⟩ := came_own A hw L hl (v := v) ho; exact key e c
      | false =>
        by_cases hr : inH rd (placeA a 200) = true ∨ cr ≠ 128
        · obtain ⟨_, e, _, _, c⟩ := came_load A hw L hl (v := v) ho hr; exact key e c
        · obtain ⟨_, _, e, _, _, c⟩ := came_load_full A hw L hl (v := v) ho (by cases e : inH rd (placeA a 200) with | false => rfl | true => exact absurd (.inl e) hr) (by omega); exact key e c
    · by_cases hr : inH wt (placeA a 200) = true ∨ cb ≠ 128
      · obtain ⟨_, e, _, c⟩ := came_store A hw L hl (v := v) hr; exact key e c
      · obtain ⟨_, _, e, _, _, c⟩ := came_store_full A hw L hl (v := v) (by cases e : inH wt (placeA a 200) with | false => rfl | true => exact absurd (.inl e) hr) (by omega); exact key e c
    · by_cases hW : cb = 0
      · obtain ⟨_, _, e, _, _, c⟩ := came_commit0 A hw L hl (a := a) (v := v) hW
        obtain ⟨l1, l2, l3⟩ := L hl
        have hW' : s.W = [] := List.eq_nil_iff_length_eq_zero.2 (by omega)
        exact key e (c g ⟨fun b => by rw [← l1.inW, hW']; rfl, fun _ => rfl⟩)
      · obtain ⟨_, _, e, _, _, c⟩ := came_commit A hw L hl (a := a) (v := v) hj hW
        obtain ⟨l1, l2, l3⟩ := L hl
        have hput : ∃ gv, PutEnd wt g gv := by
          refine ⟨backH s.W g, fun b => ?_, fun b => ?_⟩
          · rw [getH_back _ _ _ l1.onceW, l1.inW]
            by_cases hb : inH wt b = true
            · rw [if_pos hb, if_pos hb]; exact l1.val b (by rw [l1.inW]; exact hb)
            · rw [if_neg hb, if_neg hb]
          · refine (cntH_back s.W g fun q hq => ?_).2 b
            have := l1.keys q.1 (isIn_mem hq)
            rw [A.gk]; simp [this]
        obtain ⟨gv, hv⟩ := hput
        exact key e (c gv hv).1
    · obtain ⟨_, _, e, _, _, c⟩ := came_quit A hw L hl (a := a) (v := v); exact key e c
  · have hl' : s.live = false := by simpa using hl
    by_cases h0 : k = 0
    · subst h0
      obtain ⟨_, e, _, c⟩ := came_begin A hw L (a := a) (v := v) hl'; exact key e c
    · obtain ⟨e, c⟩ := came_none A hw L (a := a) (v := v) (.inl ⟨hl', h0⟩); exact key e c
end

end Go.Proofs.Ytilffolppnnkaaa
