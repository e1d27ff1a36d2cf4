/- A path of layer 8: what was read is looked at once more. -/
import Derived.Test.YtilffolppnnkaaaSoft3
namespace Go.Proofs.Ytilffolppnnkaaa
set_option maxRecDepth 100000
open Go.RowKit

/-- Pairs that lie in a block of their own, as a slice. -/
inductive RowB (w : World) (v : Value) (R : PL) : List Nat → Prop where
  | nil (h : R = []) (hv : ∃ A cap, v = .slice A 0 cap) : RowB w v R []
  | row (rb cap : Nat) (cur : List Value) (hv : v = .slice (some ⟨rb, 0, none⟩) R.length cap) (hb : Blk w rb cur 85) (hm : R.length ≤ cap ∧ cap ≤ maxLen) (ht : cur.take (R.length * 2) = cellsP R) : RowB w v R [rb]

theorem RowB.of_told {w : World} {n₀ : Nat} {v : Value} {R : PL} (h : w.ownsRow n₀ 85 2 v R.length (cellsP R)) : ∃ rbs, RowB w v R rbs ∧ ∀ x ∈ rbs, n₀ ≤ x := by
  obtain ⟨A, cap, rfl, h1, h2, _⟩ := ownsRow_cell h
  by_cases h0 : R = []
  · subst h0; exact ⟨[], .nil rfl ⟨_, _, rfl⟩, by simp⟩
  · have hp : 0 < R.length := List.length_pos_iff.2 h0
    obtain ⟨g, cap', cur, e, hb, hB, ht⟩ := ownsRow_pos h hp
    exact ⟨[g], .row g cap cur (by simp only [Value.slice.injEq] at e ⊢; simp [e.1]) hB ⟨h1, h2⟩ ht, by simpa using hb⟩
theorem RowB.chg {S : List Nat} {w w' : World} {v : Value} {R : PL} {rbs : List Nat} (h : RowB w v R rbs) (k : Chg S w w') (hs : ∀ x ∈ rbs, x ∉ S) : RowB w' v R rbs := by
  cases h with
  | nil h hv => exact .nil h hv
  | row rb cap cur hv hb hm ht => exact .row rb cap cur hv (k.blk hb (hs rb (by simp))) hm ht
theorem RowB.lt {w : World} {v : Value} {R : PL} {rbs : List Nat} (h : RowB w v R rbs) : ∀ x ∈ rbs, x < w.heap.size := by
  cases h with
  | nil h hv => simp
  | row rb cap cur hv hb hm ht => simpa using hb.lt
theorem RowB.ne {w : World} {v : Value} {R : PL} {rbs : List Nat} (h : RowB w v R rbs) {b : Nat} {l : List Value} {t : TypeId} (hb : Blk w b l t) (ht : t ≠ 85) : b ∉ rbs := by
  cases h with
  | nil h hv => simp
  | row rb cap cur hv hb' hm ht' => simpa using hb.ne hb' ht

theorem row_cell {w : World} {rb : Nat} {cur : List Value} {R : PL} (hb : Blk w rb cur 85) (ht : cur.take (R.length * 2) = cellsP R) {i : Nat} (hi : i < R.length) :
    w.cell? ⟨rb, i * 2, none⟩ = some (.int .i64 R[i].1) ∧ w.cell? ⟨rb, i * 2 + 1, none⟩ = some (.int .u64 R[i].2) := by
  have h0 := cellsP_get R i 0 hi (by decide)
  have h1 := cellsP_get R i 1 hi (by decide)
  rw [← ht, List.getElem?_take_of_lt (by omega)] at h0 h1
  exact ⟨(hb.cell (i * 2)).trans (by rw [Nat.add_zero] at h0; rw [h0]; rfl), (hb.cell (i * 2 + 1)).trans (by rw [h1]; rfl)⟩

theorem step_end (w : World) (p g : Nat) (r : Rq) (nx : Value) (i cap : Nat) (A : Option Addr) (bi br bp bl ba bg bt : Nat) (bz lv wr : Bool) (sn vl en pt : Int) (h : Blk w p (pcells g r nx bz lv wr sn vl en pt) 69)
    (h1 : Blk w bi [.int .i64 (i : Int)] 3) (h2 : Blk w br [.slice A i cap] 56) (h3 : Blk w bp [.pointer (some ⟨p, 0, none⟩)] 31) (h5 : Blk w ba [(.func (.func 93) #[] #[.pointer (some ⟨bg, 0, none⟩), .pointer (some ⟨bp, 0, none⟩), .pointer (some ⟨bt, 0, none⟩)])] 94) :
    Calls Try.prog 94 #[.pointer (some ⟨bi, 0, none⟩), .pointer (some ⟨br, 0, none⟩), .pointer (some ⟨bp, 0, none⟩), .pointer (some ⟨bl, 0, none⟩), .pointer (some ⟨ba, 0, none⟩)] w (LoadPost w p g 0 (.func (.func 93) #[] #[.pointer (some ⟨bg, 0, none⟩), .pointer (some ⟨bp, 0, none⟩), .pointer (some ⟨bt, 0, none⟩)]) bz lv wr sn vl en pt) := by
  have k1 : w.cell? ⟨bi, 0, none⟩ = some (.int .i64 (i : Int)) := h1.cell 0
  have k2 : w.cell? ⟨br, 0, none⟩ = some (.slice A i cap) := h2.cell 0
  have k3 : w.cell? ⟨bp, 0, none⟩ = some (.pointer (some ⟨p, 0, none⟩)) := h3.cell 0
  have k5 : w.cell? ⟨ba, 0, none⟩ = some (.func (.func 93) #[] #[.pointer (some ⟨bg, 0, none⟩), .pointer (some ⟨bp, 0, none⟩), .pointer (some ⟨bt, 0, none⟩)]) := h5.cell 0
  have HB := Lib.hid h
  clear h h1 h2 h3 h5
  go_enter Try.func94, Try.ntmps94
  go_wp2_with fail
  refine (load_any _ p g r nx 0 _ _ _ bz lv wr sn vl en pt HB.out).mono ?_
  rintro e w' ⟨rfl, h1⟩
  have H1 := Lib.hid h1
  clear h1
  go_wp2_with fail
  go_end0
  exact ⟨rfl, H1.out⟩

set_option maxHeartbeats 1000000 in
theorem step_more (w : World) (p g : Nat) (r : Rq) (nx : Value) (i n cap rb : Nat) (a : Int) (bi br bp bl ba bs : Nat) (bz lv wr : Bool) (sn vl en pt : Int) (h : Blk w p (pcells g r nx bz lv wr sn vl en pt) 69)
    (hi : i < n) (hn : n ≤ 128) (h1 : Blk w bi [.int .i64 (i : Int)] 3) (h2 : Blk w br [.slice (some ⟨rb, 0, none⟩) n cap] 56) (h3 : Blk w bp [.pointer (some ⟨p, 0, none⟩)] 31) (h5 : Blk w bl [(.func (.func 92) #[] #[.pointer (some ⟨br, 0, none⟩), .pointer (some ⟨bi, 0, none⟩), .pointer (some ⟨bp, 0, none⟩), .pointer (some ⟨bs, 0, none⟩)])] 94)
    (cur : List Value) (hb : Blk w rb cur 85) (hr : cur[i * 2]? = some (.int .i64 a)) :
    Calls Try.prog 94 #[.pointer (some ⟨bi, 0, none⟩), .pointer (some ⟨br, 0, none⟩), .pointer (some ⟨bp, 0, none⟩), .pointer (some ⟨bl, 0, none⟩), .pointer (some ⟨ba, 0, none⟩)] w (LoadPost w p g a (.func (.func 92) #[] #[.pointer (some ⟨br, 0, none⟩), .pointer (some ⟨bi, 0, none⟩), .pointer (some ⟨bp, 0, none⟩), .pointer (some ⟨bs, 0, none⟩)]) bz lv wr sn vl en pt) := by
  have k1 : w.cell? ⟨bi, 0, none⟩ = some (.int .i64 (i : Int)) := h1.cell 0
  have k2 : w.cell? ⟨br, 0, none⟩ = some (.slice (some ⟨rb, 0, none⟩) n cap) := h2.cell 0
  have k3 : w.cell? ⟨bp, 0, none⟩ = some (.pointer (some ⟨p, 0, none⟩)) := h3.cell 0
  have k5 : w.cell? ⟨bl, 0, none⟩ = some (.func (.func 92) #[] #[.pointer (some ⟨br, 0, none⟩), .pointer (some ⟨bi, 0, none⟩), .pointer (some ⟨bp, 0, none⟩), .pointer (some ⟨bs, 0, none⟩)]) := h5.cell 0
  have k6 : w.cell? ⟨rb, i * 2, none⟩ = some (.int .i64 a) := (hb.cell (i * 2)).trans hr
  have HB := Lib.hid h
  have H1 := Lib.hid h1
  have H2 := Lib.hid h2
  have H3 := Lib.hid h3
  have H5 := Lib.hid h5
  have HR := Lib.hid hb
  have HRR := Lib.hid hr
  have HN := Lib.hid (And.intro (h.ne h1 (by decide)) (And.intro (h.ne h2 (by decide)) (And.intro (h.ne h3 (by decide)) (And.intro (h.ne h5 (by decide)) (h.ne hb (by decide))))))
  have hlt : (i : Int) < (n : Int) := by omega
  have h0 : (0 : Int) ≤ (i : Int) := by omega
  clear h h1 h2 h3 h5 hb hr
  go_enter Try.func94, Try.ntmps94
  go_wp2_with fail
  go_region_held3 (fun w' => w'.cell? ⟨bi, 0, none⟩ = some (.int .i64 (i : Int)) ∧ w'.cell? ⟨br, 0, none⟩ = some (.slice (some ⟨rb, 0, none⟩) n cap) ∧ w'.cell? ⟨bp, 0, none⟩ = some (.pointer (some ⟨p, 0, none⟩)) ∧ w'.cell? ⟨bl, 0, none⟩ = some (.func (.func 92) #[] #[.pointer (some ⟨br, 0, none⟩), .pointer (some ⟨bi, 0, none⟩), .pointer (some ⟨bp, 0, none⟩), .pointer (some ⟨bs, 0, none⟩)]) ∧ w'.cell? ⟨rb, i * 2, none⟩ = some (.int .i64 a))
    (first | exact ⟨k1, k2, k3, k5, k6⟩ | exact ⟨(X1.out.blk H1.out (by simpa using HN.out.1.symm)).cell 0, (X1.out.blk H2.out (by simpa using HN.out.2.1.symm)).cell 0, (X1.out.blk H3.out (by simpa using HN.out.2.2.1.symm)).cell 0, (X1.out.blk H5.out (by simpa using HN.out.2.2.2.1.symm)).cell 0, ((X1.out.blk HR.out (by simpa using HN.out.2.2.2.2.symm)).cell _).trans HRR.out⟩)
    (first | (go_at_call 59; refine (load_any _ p g r nx a _ _ _ bz lv wr sn vl en pt HB.out.drew).mono ?_; rintro e w' ⟨rfl, x1, x2, x3⟩; have X := Lib.hid (And.intro x1 x2); have X1 := Lib.hid ((Chg.refl [p] w).drew.trans x3); clear x1 x2 x3) | fail)
  go_wp2_with fail
  refine bodyPost_ret (results_none rfl _ _ _) rfl ?_
  exact ⟨rfl, X.out.1, X.out.2, X1.out⟩

end Go.Proofs.Ytilffolppnnkaaa
