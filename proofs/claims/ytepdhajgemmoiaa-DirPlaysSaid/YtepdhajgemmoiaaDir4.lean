/- A directory's entries with those that wait; may. -/
import Derived.Test.YtepdhajgemmoiaaDir3
import Derived.Test.YtepdhajgemmoiaaSep
namespace Go.Proofs.Ytepdhajgemmoiaa
set_option maxRecDepth 100000
open Go.RowKit

/-- A slice that nobody else has, of messages. -/
def WaitAt (w : World) (v : Value) (l : List MsgV) : Prop :=
  v = .slice none 0 0 ∧ l = [] ∨ ∃ (g off cap : Nat) (cur : List Value), v = .slice (some ⟨g, off, none⟩) l.length cap ∧ Blk w g cur 33 ∧ l.length ≤ cap ∧ cap ≤ maxLen ∧ off + cap * 11 ≤ cur.length ∧ ∀ j u, (l.flatMap encM)[j]? = some u → cur[off + j]? = some u
def sliceB : Value → List Nat
  | .slice (some a) _ _ => [a.block]
  | _ => []
theorem WaitAt.chg {S : List Nat} {w w' : World} {v : Value} {l : List MsgV} (h : WaitAt w v l) (k : Chg S w w') (hs : ∀ g ∈ sliceB v, g ∉ S) : WaitAt w' v l := by
  rcases h with h | ⟨g, off, cap, cur, rfl, hb, h⟩
  · exact .inl h
  · exact .inr ⟨g, off, cap, cur, rfl, k.blk hb (hs g (by simp [sliceB])), h⟩
theorem WaitAt.lt {w : World} {v : Value} {l : List MsgV} (h : WaitAt w v l) : ∀ g ∈ sliceB v, g < w.heap.size := by
  rcases h with ⟨rfl, _⟩ | ⟨g, off, cap, cur, rfl, hb, h⟩
  · simp [sliceB]
  · simp [sliceB]; exact hb.lt
theorem WaitAt.ne {w : World} {v : Value} {l : List MsgV} (h : WaitAt w v l) {b : Nat} {t : TypeId} {c : List Value} (hb : Blk w b c t) (ht : t ≠ 33) : ∀ g ∈ sliceB v, g ≠ b := by
  rcases h with ⟨rfl, _⟩ | ⟨g, off, cap, cur, rfl, hg, h⟩
  · simp [sliceB]
  · simp [sliceB]; exact hg.ne hb (Ne.symm ht)
/-- What it holds, as a slice that is read. -/
theorem WaitAt.rd {w : World} {v : Value} {l : List MsgV} (h : WaitAt w v l) : ∃ A cap, v = .slice A l.length cap ∧ l.length ≤ cap ∧ cap ≤ maxLen ∧ Rd w w.heap.size A 11 encM l := by
  rcases h with ⟨rfl, rfl⟩ | ⟨g, off, cap, cur, rfl, hb, h1, h2, h3, h4⟩
  · exact ⟨none, 0, rfl, Nat.le_refl _, Nat.zero_le _, Rd.nil _ _ _ _ _⟩
  · refine ⟨some ⟨g, off, none⟩, cap, rfl, h1, h2, fun hn => ⟨g, off, rfl, hb.lt, fun i hi j hj => ?_⟩⟩
    rw [hb.cell]
    have := flat_get encM_len l i hi j hj
    have hj2 : j < (encM l[i]).length := by rw [encM_len]; exact hj
    rw [List.getElem?_eq_getElem hj2] at this ⊢
    exact h4 _ _ this

structure DirW (w : World) (d bm bw bl n : Nat) (cores : Int) (ws : List Int) (es : List EntV) : Prop where
  D : DirAt w d bm bw bl n cores ws es
  wait : ∀ (i : Nat) (h : i < es.length), WaitAt w es[i].wt es[i].wl
  sep : ∀ (i j : Nat) (hi : i < es.length) (hj : j < es.length), i ≠ j → ∀ g ∈ sliceB es[i].wt, g ∉ sliceB es[j].wt
/-- The blocks that a directory may turn. -/
def dirB (bw bl : Nat) (es : List EntV) : List Nat := bw :: bl :: es.flatMap (fun e => sliceB e.wt)

theorem may1_any (w : World) (b : Nat) (m : MsgV) (x : MsgV) (h : w.cell? ⟨b, 1, none⟩ = some (.int .i64 m.c)) (hb : b < w.heap.size) :
    Calls Try.prog 46 #[.agg #[.int .i64 x.k, .int .i64 x.c, .int .i64 x.l, .int .u64 x.d.x0, .int .u64 x.d.x1, .int .u64 x.d.x2, .int .u64 x.d.x3, .int .u64 x.d.x4, .int .u64 x.d.x5, .int .u64 x.d.x6, .int .u64 x.d.x7], .pointer (some ⟨b, 0, none⟩)] w fun e w' => e = .returned (.bool (x.c == m.c)) ∧ Chg [] w w' := by
  go_enter Try.func46, Try.ntmps46
  go_wp2
  go_ret
  exact ⟨rfl, (Chg.refl _ _).alloc _⟩

def firstOf (c : Int) (l : List MsgV) : Int := match l.findIdx? (fun x => x.c == c) with | some i => (i : Int) | none => -1

set_option maxHeartbeats 2000000 in
theorem IndexFunc_any (w : World) (A : Option Addr) (cap : Nat) (l : List MsgV) (m : MsgV) (b : Nat) (hm : l.length ≤ maxLen) (h : w.cell? ⟨b, 1, none⟩ = some (.int .i64 m.c)) (hb : b < w.heap.size) (hA : Rd w w.heap.size A 11 encM l) :
    Calls Try.prog 51 #[.slice A l.length cap, .func (.func 46) #[] #[.pointer (some ⟨b, 0, none⟩)]] w fun e w' => e = .returned (.int .i64 (firstOf m.c l)) ∧ Chg [] w w' := by
  unfold maxLen at hm
  have hm' : (l.length : Int) ≤ 9223372036854775807 := by omega
  clear hm
  have H := Lib.hid hA
  have HB := Lib.hid h
  clear hA h
  go_enter Try.func51, Try.ntmps51
  go_wp2_with fail
  go_loopw [8] (fun j wr => ∃ k : Nat, k ≤ l.length ∧ j = .int .i64 k ∧ (∀ i (hi : i < l.length), i < k → (l[i].c == m.c) = false) ∧ Chg [] w wr) (fun j _ => l.length - (intOf j).toNat)
  case atStart => exact ⟨0, Nat.zero_le _, rfl, fun i _ h => absurd h (by omega), Chg.refl _ _⟩
  case round =>
    obtain ⟨k, hk, rfl, hno, hC⟩ := hrel
    have HN := Lib.hid hno
    have HC := Lib.hid hC
    clear hno hC
    by_cases hlt : k < l.length
    · obtain ⟨p, off, rfl, hp, c⟩ := (H.out.chg0 HC.out) (by omega)
      have c0 : wr.cell? ⟨p, off + k * 11, none⟩ = some (.int .i64 l[k].k) := c k hlt 0 (by decide)
      have c1 : wr.cell? ⟨p, off + k * 11 + 1, none⟩ = some (.int .i64 l[k].c) := c k hlt 1 (by decide)
      have c2 : wr.cell? ⟨p, off + k * 11 + 2, none⟩ = some (.int .i64 l[k].l) := c k hlt 2 (by decide)
      have c3 : wr.cell? ⟨p, off + k * 11 + 3, none⟩ = some (.int .u64 l[k].d.x0) := c k hlt 3 (by decide)
      have c4 : wr.cell? ⟨p, off + k * 11 + 4, none⟩ = some (.int .u64 l[k].d.x1) := c k hlt 4 (by decide)
      have c5 : wr.cell? ⟨p, off + k * 11 + 5, none⟩ = some (.int .u64 l[k].d.x2) := c k hlt 5 (by decide)
      have c6 : wr.cell? ⟨p, off + k * 11 + 6, none⟩ = some (.int .u64 l[k].d.x3) := c k hlt 6 (by decide)
      have c7 : wr.cell? ⟨p, off + k * 11 + 7, none⟩ = some (.int .u64 l[k].d.x4) := c k hlt 7 (by decide)
      have c8 : wr.cell? ⟨p, off + k * 11 + 8, none⟩ = some (.int .u64 l[k].d.x5) := c k hlt 8 (by decide)
      have c9 : wr.cell? ⟨p, off + k * 11 + 9, none⟩ = some (.int .u64 l[k].d.x6) := c k hlt 9 (by decide)
      have c10 : wr.cell? ⟨p, off + k * 11 + 10, none⟩ = some (.int .u64 l[k].d.x7) := c k hlt 10 (by decide)
      have hcb : wr.cell? ⟨b, 1, none⟩ = some (.int .i64 m.c) := (HC.out.cell0 hb _).trans HB.out
      have hbr : b < wr.heap.size := Nat.lt_of_lt_of_le hb HC.out.size
      have HCB := Lib.hid hcb
      clear c hcb
      cases hbb : (l[k].c == m.c) with
      | true =>
        have hf : firstOf m.c l = (k : Int) := by
          have : l.findIdx? (fun x => x.c == m.c) = some k := by
            rw [List.findIdx?_eq_some_iff_getElem]
            exact ⟨hlt, hbb, fun j hj => by simpa using HN.out j (by omega) hj⟩
          simp [firstOf, this]
        have HF := Lib.hid hf
        have HBB := Lib.hid hbb
        clear hbb hf
        obtain ⟨lk, hlk⟩ : ∃ x, x = l[k] := ⟨_, rfl⟩
        rw [← hlk] at c0 c1 c2 c3 c4 c5 c6 c7 c8 c9 c10 HBB
        clear hlk
        go_wp2_with fail
        refine (may1_any _ b m lk HCB.out hbr).mono ?_
        rintro e w' ⟨rfl, hx⟩
        rw [HBB.out]
        have HX := Lib.hid (HC.out.trans hx)
        clear hx
        go_wp2_with fail
        go_ret
        exact ⟨ret_int HF.out.symm, HX.out⟩
      | false =>
        have hno' : ∀ i (hi : i < l.length), i < k + 1 → (l[i].c == m.c) = false := fun i hi hik => by
          by_cases e : i = k
          · subst e; exact hbb
          · exact HN.out i hi (by omega)
        have HN2 := Lib.hid hno'
        have HBB := Lib.hid hbb
        clear hbb hno'
        obtain ⟨lk, hlk⟩ : ∃ x, x = l[k] := ⟨_, rfl⟩
        have HLK := Lib.hid hlk
        rw [← hlk] at c0 c1 c2 c3 c4 c5 c6 c7 c8 c9 c10
        clear hlk
        go_wp2_with fail
        refine (may1_any _ b m lk HCB.out hbr).mono ?_
        rintro e w' ⟨rfl, hx⟩
        rw [show (lk.c == m.c) = false by rw [HLK.out]; exact HBB.out]
        have HX := Lib.hid (HC.out.trans hx)
        clear hx
        go_wp2_with fail
        go_roundw
        case rel => exact ⟨k + 1, by omega, by go_num, HN2.out, HX.out⟩
        case measure => simp [intOf]; omega
    · obtain rfl : k = l.length := by omega
      have hf : firstOf m.c l = -1 := by
        have : l.findIdx? (fun x => x.c == m.c) = none := by
          rw [List.findIdx?_eq_none_iff]
          intro x hx
          obtain ⟨i, hi, rfl⟩ := List.getElem_of_mem hx
          exact HN.out i hi hi
        simp [firstOf, this]
      have HF := Lib.hid hf
      clear hf
      go_wp2_with fail
      go_ret
      exact ⟨ret_int HF.out.symm, HC.out⟩

theorem firstOf_ge (c : Int) (l : List MsgV) : (decide (0 ≤ firstOf c l)) = l.any (fun x => x.c == c) := by
  unfold firstOf
  cases h : l.findIdx? (fun x => x.c == c) with
  | some i =>
    obtain ⟨hi, hb, _⟩ := List.findIdx?_eq_some_iff_getElem.1 h
    have : l.any (fun x => x.c == c) = true := List.any_eq_true.2 ⟨l[i], List.getElem_mem hi, hb⟩
    rw [this]; simp
  | none =>
    have : l.any (fun x => x.c == c) = false := by
      rw [List.any_eq_false]
      intro x hx
      have := (List.findIdx?_eq_none_iff.1 h) x hx
      simpa using this
    rw [this]; simp

theorem ContainsFunc_any (w : World) (v : Value) (l : List MsgV) (m : MsgV) (b : Nat) (h : w.cell? ⟨b, 1, none⟩ = some (.int .i64 m.c)) (hb : b < w.heap.size) (hA : WaitAt w v l) :
    Calls Try.prog 47 #[v, .func (.func 46) #[] #[.pointer (some ⟨b, 0, none⟩)]] w fun e w' => e = .returned (.bool (l.any (fun x => x.c == m.c))) ∧ Chg [] w w' := by
  obtain ⟨A, cap, rfl, h1, h2, hR⟩ := hA.rd
  have H := Lib.hid (IndexFunc_any w A cap l m b (Nat.le_trans h1 h2) h hb hR)
  have E := Lib.hid (firstOf_ge m.c l)
  clear hA h hR h1 h2
  go_enter Try.func47, Try.ntmps47
  go_wp2_with fail
  refine H.out.mono ?_
  rintro e w' ⟨rfl, hx⟩
  have HX := Lib.hid hx
  clear hx
  go_wp2_with fail
  go_ret
  exact ⟨ret_bool (by rw [← E.out]), HX.out⟩

end Go.Proofs.Ytepdhajgemmoiaa
