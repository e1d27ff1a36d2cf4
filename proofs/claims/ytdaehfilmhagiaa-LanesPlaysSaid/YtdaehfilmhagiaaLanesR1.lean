/- The document's control: its small functions. -/
import Derived.Test.YtdaehfilmhagiaaLanes10
import Derived.OwnWalk
import Derived.Laws.AppendOwnNone
import Derived.Laws.OwnMore
namespace Go.Proofs.Ytdaehfilmhagiaa
open Go.RowKit

/-- The budget that the document's function tells. -/
def refBud (f s o k : Int) : Int := if k = 1 then f else if k = 2 then s else if k = 3 then o else 1099511627776
theorem refBudget_any (w : World) (f s o k : Int) (hk : k = 1 ∨ k = 2 ∨ k = 3 ∨ k = 4) :
    Calls Try.prog 35 #[.agg #[.int .i64 f, .int .i64 s, .int .i64 o], .int .i64 k] w fun e w' => e = .returned (.int .i64 (refBud f s o k)) ∧ Chg [] w w' := by
  rcases hk with rfl | rfl | rfl | rfl
  all_goals
    go_enter Try.func35, Try.ntmps35
    go_wp2_with fail
    go_ret
    exact ⟨rfl, (Chg.refl _ _).alloc _⟩

/-- The first open lane from one on. -/
def nextFrom (f s o m : Int) : Int := if m ≤ 1 ∧ f ≠ 0 then 1 else if m ≤ 2 ∧ s ≠ 0 then 2 else if m ≤ 3 ∧ o ≠ 0 then 3 else 4

set_option maxHeartbeats 1000000 in
theorem first_any (w : World) (f s o m : Int) (hm : 1 ≤ m ∧ m ≤ 4) :
    Calls Try.prog 33 #[.agg #[.int .i64 f, .int .i64 s, .int .i64 o], .int .i64 m] w fun e w' => e = .returned (.int .i64 (nextFrom f s o m)) ∧ Chg [] w w' := by
  obtain ⟨hm1, hm4⟩ := hm
  go_enter Try.func33, Try.ntmps33
  go_wp2_with fail
  have kb := Blk.new w [.int .i64 f, .int .i64 s, .int .i64 o] 23
  have hC := (Chg.refl [] w).alloc (.cells #[.int .i64 f, .int .i64 s, .int .i64 o] 23)
  generalize w.alloc (.cells #[.int .i64 f, .int .i64 s, .int .i64 o] 23) = w0 at *
  have hbb : w.heap.size ≤ w.heap.size := Nat.le_refl _
  obtain ⟨bb, hbe⟩ : ∃ bb, bb = w.heap.size := ⟨_, rfl⟩
  rw [← hbe] at kb ⊢
  clear hbb hbe
  go_loopw [1] (fun v wr => ∃ k : Int, (1 ≤ k ∧ k ≤ 4) ∧ v = .int .i64 k ∧ nextFrom f s o k = nextFrom f s o m ∧ Chg [] w wr ∧ Blk wr bb [.int .i64 f, .int .i64 s, .int .i64 o] 23) (fun v _ => 4 - (intOf v).toNat)
  case atStart => exact ⟨m, ⟨hm1, hm4⟩, rfl, rfl, hC, kb⟩
  case round =>
    clear hC kb
    obtain ⟨k, ⟨hk1, hk4⟩, rfl, hn, hC, kb⟩ := hrel
    have x0 := kb.cell 0
    have x1 := kb.cell 1
    have x2 := kb.cell 2
    simp only [List.getElem?_cons_zero, List.getElem?_cons_succ] at x0 x1 x2
    have HN := Lib.hid hn
    clear hn
    rcases (by omega : k = 1 ∨ k = 2 ∨ k = 3 ∨ k = 4) with rfl | rfl | rfl | rfl
    · go_wp2_with fail
      refine (refBudget_any _ f s o 1 (by decide)).mono ?_
      rintro e w1 ⟨rfl, hx⟩
      rw [show refBud f s o 1 = f from rfl]
      by_cases hz : f = 0
      · subst hz
        go_wp2_with fail
        go_roundw
        case rel => exact ⟨2, by decide, rfl, by rw [← HN.out]; simp [nextFrom], hC.trans hx, hx.blk kb (by simp)⟩
        case measure => simp [intOf]
      · have hn : nextFrom f s o 1 = 1 := by simp [nextFrom, hz]
        rw [HN.out] at hn
        have hzb : (f == 0) = false := by simpa using hz
        have HR := Lib.hid hn
        clear hz hn
        go_wp2_with fail
        go_ret
        exact ⟨ret_int HR.out.symm, hC.trans hx⟩
    · go_wp2_with fail
      refine (refBudget_any _ f s o 2 (by decide)).mono ?_
      rintro e w1 ⟨rfl, hx⟩
      rw [show refBud f s o 2 = s from rfl]
      by_cases hz : s = 0
      · subst hz
        go_wp2_with fail
        go_roundw
        case rel => exact ⟨3, by decide, rfl, by rw [← HN.out]; simp [nextFrom], hC.trans hx, hx.blk kb (by simp)⟩
        case measure => simp [intOf]
      · have hn : nextFrom f s o 2 = 2 := by simp [nextFrom, hz]
        rw [HN.out] at hn
        have hzb : (s == 0) = false := by simpa using hz
        have HR := Lib.hid hn
        clear hz hn
        go_wp2_with fail
        go_ret
        exact ⟨ret_int HR.out.symm, hC.trans hx⟩
    · go_wp2_with fail
      refine (refBudget_any _ f s o 3 (by decide)).mono ?_
      rintro e w1 ⟨rfl, hx⟩
      rw [show refBud f s o 3 = o from rfl]
      by_cases hz : o = 0
      · subst hz
        go_wp2_with fail
        go_roundw
        case rel => exact ⟨4, by decide, rfl, by rw [← HN.out]; simp [nextFrom], hC.trans hx, hx.blk kb (by simp)⟩
        case measure => simp [intOf]
      · have hn : nextFrom f s o 3 = 3 := by simp [nextFrom, hz]
        rw [HN.out] at hn
        have hzb : (o == 0) = false := by simpa using hz
        have HR := Lib.hid hn
        clear hz hn
        go_wp2_with fail
        go_ret
        exact ⟨ret_int HR.out.symm, hC.trans hx⟩
    · have hn : nextFrom f s o 4 = 4 := by simp [nextFrom]
      rw [HN.out] at hn
      have HR := Lib.hid hn
      clear hn
      go_wp2_with fail
      go_ret
      exact ⟨ret_int HR.out.symm, hC⟩

theorem May_any (w : World) (f s o : Int) :
    Calls Try.prog 21 #[.agg #[.int .i64 f, .int .i64 s, .int .i64 o]] w fun e w' => e = .returned (.bool (decide (may f s o))) ∧ Chg [] w w' := by
  by_cases h0 : f < 0
  · have hd : decide (may f s o) = false := decide_eq_false (fun h => by obtain ⟨⟨_, _⟩, ⟨_, _⟩, ⟨_, _⟩⟩ := h; omega)
    have HD := Lib.hid hd
    clear hd
    go_enter Try.func21, Try.ntmps21
    go_wp2_with fail
    go_ret
    exact ⟨ret_bool HD.out.symm, (Chg.refl _ _).alloc _⟩
  have g0 : 0 ≤ f := by omega
  clear h0
  by_cases h1 : 16 < f
  · have hd : decide (may f s o) = false := decide_eq_false (fun h => by obtain ⟨⟨_, _⟩, ⟨_, _⟩, ⟨_, _⟩⟩ := h; omega)
    have HD := Lib.hid hd
    clear hd
    go_enter Try.func21, Try.ntmps21
    go_wp2_with fail
    go_ret
    exact ⟨ret_bool HD.out.symm, (Chg.refl _ _).alloc _⟩
  have g1 : f ≤ 16 := by omega
  clear h1
  by_cases h2 : s < 0
  · have hd : decide (may f s o) = false := decide_eq_false (fun h => by obtain ⟨⟨_, _⟩, ⟨_, _⟩, ⟨_, _⟩⟩ := h; omega)
    have HD := Lib.hid hd
    clear hd
    go_enter Try.func21, Try.ntmps21
    go_wp2_with fail
    go_ret
    exact ⟨ret_bool HD.out.symm, (Chg.refl _ _).alloc _⟩
  have g2 : 0 ≤ s := by omega
  clear h2
  by_cases h3 : 16 < s
  · have hd : decide (may f s o) = false := decide_eq_false (fun h => by obtain ⟨⟨_, _⟩, ⟨_, _⟩, ⟨_, _⟩⟩ := h; omega)
    have HD := Lib.hid hd
    clear hd
    go_enter Try.func21, Try.ntmps21
    go_wp2_with fail
    go_ret
    exact ⟨ret_bool HD.out.symm, (Chg.refl _ _).alloc _⟩
  have g3 : s ≤ 16 := by omega
  clear h3
  by_cases h4 : o < 0
  · have hd : decide (may f s o) = false := decide_eq_false (fun h => by obtain ⟨⟨_, _⟩, ⟨_, _⟩, ⟨_, _⟩⟩ := h; omega)
    have HD := Lib.hid hd
    clear hd
    go_enter Try.func21, Try.ntmps21
    go_wp2_with fail
    go_ret
    exact ⟨ret_bool HD.out.symm, (Chg.refl _ _).alloc _⟩
  have g4 : 0 ≤ o := by omega
  clear h4
  by_cases h5 : 16 < o
  · have hd : decide (may f s o) = false := decide_eq_false (fun h => by obtain ⟨⟨_, _⟩, ⟨_, _⟩, ⟨_, _⟩⟩ := h; omega)
    have HD := Lib.hid hd
    clear hd
    go_enter Try.func21, Try.ntmps21
    go_wp2_with fail
    go_ret
    exact ⟨ret_bool (by rw [HD.out]; exact decide_eq_false (by omega)), (Chg.refl _ _).alloc _⟩
  have g5 : o ≤ 16 := by omega
  clear h5
  have hd : decide (may f s o) = true := decide_eq_true ⟨⟨g0, g1⟩, ⟨g2, g3⟩, ⟨g4, g5⟩⟩
  have HD := Lib.hid hd
  clear hd
  go_enter Try.func21, Try.ntmps21
  go_wp2_with fail
  go_ret
  exact ⟨ret_bool HD.out.symm, (Chg.refl _ _).alloc _⟩

/-- The lanes of the attempts that were aborted, as the slice that holds them. -/
inductive RowAt (w : World) (v : Value) (ls : List Int) : Prop where
  | nil (h : ls = []) (e : v = .slice none 0 0)
  | row (g cap : Nat) (cur : List Value) (h : 0 < ls.length) (e : v = .slice (some ⟨g, 0, none⟩) ls.length cap) (b : Blk w g cur 3) (t : cur.take ls.length = ls.map (Value.int .i64))

/-- The document's control at block b. -/
structure RefAt (w : World) (b : Nat) (f s o lane : Int) (ls : List Int) : Prop where
  blk : ∃ v, Blk w b [.int .i64 f, .int .i64 s, .int .i64 o, .int .i64 lane, v] 46 ∧ RowAt w v ls
  many : ls.length ≤ 100

theorem RowAt.chg {S : List Nat} {w w' : World} {v : Value} {ls : List Int} (h : RowAt w v ls) (k : Chg S w w') (hs : ∀ c ∈ S, ∀ cs, ¬ Blk w c cs 3) : RowAt w' v ls := by
  cases h with
  | nil h e => exact .nil h e
  | row g cap cur h e b t => exact .row g cap cur h e (k.blk b (fun hc => hs _ hc _ b)) t
theorem RefAt.chg {S : List Nat} {w w' : World} {b : Nat} {f s o lane : Int} {ls : List Int} (h : RefAt w b f s o lane ls) (k : Chg S w w') (hb : b ∉ S) (hs : ∀ c ∈ S, ∀ cs, ¬ Blk w c cs 3) : RefAt w' b f s o lane ls := by
  obtain ⟨⟨v, x, y⟩, m⟩ := h
  exact ⟨⟨v, k.blk x hb, y.chg k hs⟩, m⟩
theorem RowAt.len {w : World} {v : Value} {ls : List Int} (h : RowAt w v ls) : ∃ A cap, v = .slice A ls.length cap ∧ ∀ i (hi : i < ls.length), ∃ g, A = some ⟨g, 0, none⟩ ∧ w.cell? ⟨g, i, none⟩ = some (.int .i64 ls[i]) := by
  cases h with
  | nil h e => subst h; exact ⟨none, 0, e, fun i hi => absurd hi (by simp)⟩
  | row g cap cur h e b t =>
    refine ⟨_, cap, e, fun i hi => ⟨g, rfl, ?_⟩⟩
    rw [b.cell]
    have : (cur.take ls.length)[i]? = (ls.map (Value.int .i64))[i]? := by rw [t]
    rw [List.getElem?_take_of_lt hi] at this
    rw [this]
    simp [hi]

def cnt (ls : List Int) (k : Int) : Int := (ls.countP (· == k) : Nat)
theorem cnt_succ (ls : List Int) (k : Int) {i : Nat} (hi : i < ls.length) : cnt (ls.take (i + 1)) k = cnt (ls.take i) k + (if ls[i] = k then 1 else 0) := by
  unfold cnt
  rw [List.take_succ_eq_append_getElem hi, List.countP_append]
  by_cases h : ls[i] = k <;> simp [h]
theorem cnt_le (ls : List Int) (k : Int) (i : Nat) : 0 ≤ cnt (ls.take i) k ∧ cnt (ls.take i) k ≤ ls.length := by
  unfold cnt
  have h1 := List.countP_le_length (p := (· == k)) (l := ls.take i)
  have h2 := List.length_take_le i ls
  have h3 : (ls.take i).length ≤ ls.length := by rw [List.length_take]; omega
  omega

set_option maxHeartbeats 1000000 in
theorem Count_any (w : World) (b : Nat) (f s o lane k : Int) (ls : List Int) (h : RefAt w b f s o lane ls) :
    Calls Try.prog 34 #[.pointer (some ⟨b, 0, none⟩), .int .i64 k] w fun e w' => e = .returned (.int .i64 (cnt ls k)) ∧ w = w' := by
  obtain ⟨⟨v, x, y⟩, hm⟩ := h
  obtain ⟨A, cap, rfl, hcells⟩ := y.len
  have c4 : w.cell? ⟨b, 4, none⟩ = some (.slice A ls.length cap) := x.cell 4
  clear x y
  go_enter Try.func34, Try.ntmps34
  go_wp2_with fail
  go_loopw [5, 6] (fun n i wr => ∃ j : Nat, j ≤ ls.length ∧ i = .int .i64 j ∧ n = .int .i64 (cnt (ls.take j) k) ∧ wr = w) (fun _ i _ => ls.length - (intOf i).toNat)
  case atStart => exact ⟨0, Nat.zero_le _, rfl, rfl, rfl⟩
  case round =>
    obtain ⟨j, hj, rfl, rfl, rfl⟩ := hrel
    by_cases hlt : j < ls.length
    · obtain ⟨g, rfl, hc⟩ := hcells j hlt
      have hs := cnt_succ ls k hlt
      have hl := cnt_le ls k j
      clear hcells
      generalize cnt (ls.take j) k = n at *
      by_cases he : ls[j] = k
      · rw [if_pos he] at hs
        rw [he] at hc
        have hw : IntKind.i64.wrap (n + 1) = n + 1 := IntWalk.i64_in _ (by omega)
        have HS := Lib.hid hs
        clear he hs
        go_wp2_with fail
        go_roundw
        case rel => exact ⟨j + 1, by omega, by go_num, by rw [HS.out], by simp⟩
        case measure => simp [intOf]; omega
      · rw [if_neg he, Int.add_zero] at hs
        have heb : (ls[j] == k) = false := by simpa using he
        have HS := Lib.hid hs
        generalize ls[j] = lj at *
        clear hs
        go_wp2_with fail
        go_roundw
        case rel => exact ⟨j + 1, by omega, by go_num, by rw [HS.out], by simp⟩
        case measure => simp [intOf]; omega
    · obtain rfl : j = ls.length := by omega
      rw [List.take_length]
      clear hcells
      go_wp2_with fail
      go_ret
      exact ⟨rfl, rfl⟩

end Go.Proofs.Ytdaehfilmhagiaa
