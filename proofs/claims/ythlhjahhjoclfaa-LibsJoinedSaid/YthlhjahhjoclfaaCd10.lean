/- A code of a hash, of a tree, begun. -/
import Derived.Test.YthlhjahhjoclfaaCd9
namespace Go.Proofs.Ythlhjahhjoclfaa
set_option maxRecDepth 100000
open Go.RowKit

abbrev St.opened (s : St) : St := ((((s.set 0 0).set 1 0).set 2 0).set 7 0).three 17 0 0 0
def hashS (base bk cap k v : Int) : St := (((St.none.number 3 k).number 4 v).opened).chain (hPool base bk cap) bk
def treeS (base cap k v : Int) : St := (((St.none.number 3 k).number 4 v).opened).descend (tPool base cap) base

theorem CodeIn.chgT {base n : Nat} {S : List Nat} {w w' : World} {b : Nat} {s : St} {vl : Value} {mb : Nat} {vg : Value} (h : CodeIn base n w b s vl mb vg) (k : Chg S w w') (hS : ∀ x ∈ S, ∃ l t, Blk w x l t ∧ ownT t = false) : CodeIn base n w' b s vl mb vg := by
  have hc : ∀ x ∈ S, ∀ cur t d, w.heap[x]? = some (.cells cur t d) → ownT t = true → False := by
    intro x hx cur t d e ht
    obtain ⟨l, t', hb, ht'⟩ := hS x hx
    have hb' : w.heap[x]? = some (.cells l.toArray t' (0, 0)) := hb
    rw [hb'] at e; cases e; rw [ht] at ht'; cases ht'
  have hm : mb ∉ S := fun hx => by
    obtain ⟨l, t', hb, _⟩ := hS mb hx
    obtain ⟨es, clock, hmm, _⟩ := h.map
    have hb' : w.heap[mb]? = some (.cells l.toArray t' (0, 0)) := hb
    rw [hmm] at hb'; cases hb'
  have hrow : ∀ {v : Value} {e : TypeId} {size m : Nat} {xs : List Value}, w.ownsRow base e size v m xs → ownT e = true → ∀ g ∈ v.ownBlock.toList, g ∉ S := by
    intro v e size m xs ho he g hg hx
    rcases ho.2 with ⟨rfl, _⟩ | ⟨g', cap, cur, rfl, _, hh, _⟩
    · cases hg
    · simp [Value.ownBlock] at hg; subst hg
      exact hc g hx _ _ _ hh he
  exact ⟨k.blk h.blk (fun hx => hc b hx _ _ _ h.blk rfl), ownsRow_chg h.row k (hrow h.row rfl), ownsMap_chg h.map k hm, ownsRow_chg h.gos k (hrow h.gos rfl), h.bb, h.bm, h.ln, h.ok⟩
theorem CodeAt.chgT {base n : Nat} {S : List Nat} {w w' : World} {b : Nat} {s : St} (h : CodeAt base n w b s) (k : Chg S w w') (hS : ∀ x ∈ S, ∃ l t, Blk w x l t ∧ ownT t = false) : CodeAt base n w' b s := by
  obtain ⟨vl, mb, vg, h⟩ := h; exact ⟨vl, mb, vg, h.chgT k hS⟩

def NoPost (W : World) (e : Ending) (w' : World) : Prop := e = .returned (.tuple #[.pointer none, .agg #[.int .i64 0, .int .i64 0, .int .i64 0, .int .i64 0, .int .i64 0, .int .i64 0], .int .i64 130]) ∧ Chg [] W w'
def BegPost (W : World) (p : Po) (S : St) (e : Ending) (w' : World) : Prop :=
  ∃ b, e = .returned (.tuple #[.pointer (some ⟨b, 0, none⟩), .agg #[.int .i64 p.fresh, .int .i64 p.free, .int .i64 p.nodes, .int .i64 p.each, .int .i64 p.next, .int .i64 p.cap], .int .i64 0]) ∧ CodeAt W.heap.size 50 w' b S ∧ Chg [] W w'

theorem hashed_no (w : World) (base bk cap k v : Int) (h : fitsB base (hSize bk cap) = false) :
    Calls Try.prog 50 #[.int .i64 base, .int .i64 bk, .int .i64 cap, .int .u64 k, .int .u64 v] w (NoPost w) := by
  have HF := Lib.hid h
  have HR := Lib.hid (hSize_range bk cap)
  clear h
  go_enter Try.func50, Try.ntmps50
  go_wp2_with fail
  refine (HashSize_any _ bk cap).mono ?_
  rintro e w1 ⟨rfl, rfl⟩
  go_wp2_with fail
  refine (fits_any _ base _ HR.out.1 HR.out.2).mono ?_
  rintro e w1 ⟨rfl, rfl⟩
  rw [HF.out]
  go_wp2_with fail
  refine bodyPost_ret (v := .tuple #[.pointer none, .agg #[.int .i64 0, .int .i64 0, .int .i64 0, .int .i64 0, .int .i64 0, .int .i64 0], .int .i64 130]) ?_ rfl ⟨rfl, (Chg.refl _ _).alloc _⟩
  simp [results, Try.results50, go_sem]

theorem treed_no (w : World) (base cap k v : Int) (h : fitsB base (tSize cap) = false) :
    Calls Try.prog 57 #[.int .i64 base, .int .i64 cap, .int .u64 k, .int .u64 v] w (NoPost w) := by
  have HF := Lib.hid h
  have HR := Lib.hid (tSize_range cap)
  clear h
  go_enter Try.func57, Try.ntmps57
  go_wp2_with fail
  refine (TreeSize_any _ cap).mono ?_
  rintro e w1 ⟨rfl, rfl⟩
  go_wp2_with fail
  refine (fits_any _ base _ HR.out.1 HR.out.2).mono ?_
  rintro e w1 ⟨rfl, rfl⟩
  rw [HF.out]
  go_wp2_with fail
  refine bodyPost_ret (v := .tuple #[.pointer none, .agg #[.int .i64 0, .int .i64 0, .int .i64 0, .int .i64 0, .int .i64 0, .int .i64 0], .int .i64 130]) ?_ rfl ⟨rfl, (Chg.refl _ _).alloc _⟩
  simp [results, Try.results57, go_sem]

theorem ownsRow_base {w : World} {base base' : Nat} {e : TypeId} {size : Nat} {v : Value} {n : Nat} {xs : List Value} (h : w.ownsRow base' e size v n xs) (hb : base ≤ base') : w.ownsRow base e size v n xs := by
  refine ⟨h.1, ?_⟩
  rcases h.2 with x | ⟨g, cap, cur, rfl, hg, r⟩
  · exact .inl x
  · exact .inr ⟨g, cap, cur, rfl, Nat.le_trans hb hg, r⟩
theorem CodeAt.base {base base' n : Nat} {w : World} {b : Nat} {s : St} (h : CodeAt base' n w b s) (hb : base ≤ base') : CodeAt base n w b s := by
  obtain ⟨vl, mb, vg, h⟩ := h
  exact ⟨vl, mb, vg, h.blk, ownsRow_base h.row hb, h.map, ownsRow_base h.gos hb, Nat.le_trans hb h.bb, Nat.le_trans hb h.bm, h.ln, h.ok⟩

theorem Kp.chg {base : Nat} {w w' : World} (h : Kp base w w') (hb : w.heap.size ≤ base) : Chg [] w w' :=
  ⟨h.os, h.tape, h.output, h.size, fun k hk _ => h.block k hk (.inl (by omega))⟩
theorem beg_done {n : Nat} {W w6 w7 : World} {b : Nat} {S : St} {p : Po} {l : List Value} (h : CodeAt W.heap.size n w6 b S) (hn : n ≤ 50) (k : Kp W.heap.size W w6) (hz : Blk w6 W.heap.size l 82) (c : Chg [W.heap.size] w6 w7) :
    BegPost W p S (.returned (.tuple #[.pointer (some ⟨b, 0, none⟩), .agg #[.int .i64 p.fresh, .int .i64 p.free, .int .i64 p.nodes, .int .i64 p.each, .int .i64 p.next, .int .i64 p.cap], .int .i64 0])) w7 :=
  ⟨b, rfl, (h.mono hn).chgT c (fun x hx => by simp at hx; subst hx; exact ⟨_, _, hz, rfl⟩), (k.chg (Nat.le_refl _)).trans' c (fun x hx hl => by simp at hx; omega)⟩

set_option maxHeartbeats 4000000 in
theorem hashed_yes (w : World) (base bk cap k v : Int) (hk0 : 0 ≤ k) (hk1 : k ≤ 18446744073709551615) (hv0 : 0 ≤ v) (hv1 : v ≤ 18446744073709551615) (h : fitsB base (hSize bk cap) = true) :
    Calls Try.prog 50 #[.int .i64 base, .int .i64 bk, .int .i64 cap, .int .u64 k, .int .u64 v] w (BegPost w (hPool base bk cap) (hashS base bk cap k v)) := by
  have HF := Lib.hid h
  have HR := Lib.hid (hSize_range bk cap)
  have HPo := Lib.hid (hPool_ok h)
  obtain ⟨_, e1, e2, e3, e4, e5, e6⟩ := hPool_ok h
  clear h
  go_enter Try.func50, Try.ntmps50
  go_wp2_with fail
  refine (HashSize_any _ bk cap).mono ?_
  rintro e w1 ⟨rfl, rfl⟩
  go_wp2_with fail
  refine (fits_any _ base _ HR.out.1 HR.out.2).mono ?_
  rintro e w1 ⟨rfl, rfl⟩
  rw [HF.out]
  go_wp2_with fail
  have HZ := Lib.hid (Blk.new w [.int .i64 0, .int .i64 0, .int .i64 0, .int .i64 0, .int .i64 0, .int .i64 0] 82)
  have HCh := Lib.hid ((Chg.refl [] w).alloc (.cells #[.int .i64 0, .int .i64 0, .int .i64 0, .int .i64 0, .int .i64 0, .int .i64 0] 82))
  have HB0 : Hid (w.heap.size ≤ (w.alloc (.cells #[.int .i64 0, .int .i64 0, .int .i64 0, .int .i64 0, .int .i64 0, .int .i64 0] 82)).heap.size) := Lib.hid (by simp)
  generalize w.alloc (.cells #[.int .i64 0, .int .i64 0, .int .i64 0, .int .i64 0, .int .i64 0, .int .i64 0] 82) = w0 at *
  refine (begin_any _).mono ?_
  rintro e w1 ⟨b, rfl, hC, hx⟩
  have HC := Lib.hid (hC.base HB0.out)
  have HW := Lib.hid (Kp.of_nil (base := w.heap.size) (HCh.out.trans hx))
  replace HZ := Lib.hid (hx.blk HZ.out (by simp))
  clear hC hx HCh HB0
  go_wp2_with fail
  refine (hashPool_any _ base bk cap e3 e4 e1 e2).mono ?_
  rintro e w2 ⟨rfl, hx⟩
  replace HC := Lib.hid ((HC.out.chg hx).chg ((Chg.refl [] w2).alloc (.cells #[.int .i64 (base), .int .i64 (base + 1), .int .i64 (base + 2 + bk), .int .i64 (3), .int .i64 (2), .int .i64 (cap)] 82)))
  replace HZ := Lib.hid ((hx.blk HZ.out (by simp)).alloc (.cells #[.int .i64 (base), .int .i64 (base + 1), .int .i64 (base + 2 + bk), .int .i64 (3), .int .i64 (2), .int .i64 (cap)] 82))
  have HB := Lib.hid (Blk.new w2 [.int .i64 (base), .int .i64 (base + 1), .int .i64 (base + 2 + bk), .int .i64 (3), .int .i64 (2), .int .i64 (cap)] 82)
  have HK := Lib.hid ((HW.out.trans (Kp.of_nil hx)).alloc (.cells #[.int .i64 (base), .int .i64 (base + 1), .int .i64 (base + 2 + bk), .int .i64 (3), .int .i64 (2), .int .i64 (cap)] 82))
  clear hx HW
  have q0 : (w2.alloc (.cells #[.int .i64 (base), .int .i64 (base + 1), .int .i64 (base + 2 + bk), .int .i64 (3), .int .i64 (2), .int .i64 (cap)] 82)).cell? ⟨w2.heap.size, 0, none⟩ = some (.int .i64 (base)) := HB.out.cell 0
  have q1 : (w2.alloc (.cells #[.int .i64 (base), .int .i64 (base + 1), .int .i64 (base + 2 + bk), .int .i64 (3), .int .i64 (2), .int .i64 (cap)] 82)).cell? ⟨w2.heap.size, 1, none⟩ = some (.int .i64 (base + 1)) := HB.out.cell 1
  have q2 : (w2.alloc (.cells #[.int .i64 (base), .int .i64 (base + 1), .int .i64 (base + 2 + bk), .int .i64 (3), .int .i64 (2), .int .i64 (cap)] 82)).cell? ⟨w2.heap.size, 2, none⟩ = some (.int .i64 (base + 2 + bk)) := HB.out.cell 2
  have q3 : (w2.alloc (.cells #[.int .i64 (base), .int .i64 (base + 1), .int .i64 (base + 2 + bk), .int .i64 (3), .int .i64 (2), .int .i64 (cap)] 82)).cell? ⟨w2.heap.size, 3, none⟩ = some (.int .i64 (3)) := HB.out.cell 3
  have q4 : (w2.alloc (.cells #[.int .i64 (base), .int .i64 (base + 1), .int .i64 (base + 2 + bk), .int .i64 (3), .int .i64 (2), .int .i64 (cap)] 82)).cell? ⟨w2.heap.size, 4, none⟩ = some (.int .i64 (2)) := HB.out.cell 4
  have q5 : (w2.alloc (.cells #[.int .i64 (base), .int .i64 (base + 1), .int .i64 (base + 2 + bk), .int .i64 (3), .int .i64 (2), .int .i64 (cap)] 82)).cell? ⟨w2.heap.size, 5, none⟩ = some (.int .i64 (cap)) := HB.out.cell 5
  go_wp2_with fail
  refine (number_any _ _ _ b _ 3 k (by omega) hk0 hk1 HC.out).mono ?_
  rintro e w3 ⟨rfl, hC, hK⟩
  replace HC := Lib.hid hC
  replace HK := Lib.hid (HK.out.trans hK)
  replace HB := Lib.hid (hK.blk HB.out rfl)
  replace HZ := Lib.hid (hK.blk HZ.out rfl)
  clear hC hK q0 q1 q2 q3 q4 q5
  have q0 : w3.cell? ⟨w2.heap.size, 0, none⟩ = some (.int .i64 (base)) := HB.out.cell 0
  have q1 : w3.cell? ⟨w2.heap.size, 1, none⟩ = some (.int .i64 (base + 1)) := HB.out.cell 1
  have q2 : w3.cell? ⟨w2.heap.size, 2, none⟩ = some (.int .i64 (base + 2 + bk)) := HB.out.cell 2
  have q3 : w3.cell? ⟨w2.heap.size, 3, none⟩ = some (.int .i64 (3)) := HB.out.cell 3
  have q4 : w3.cell? ⟨w2.heap.size, 4, none⟩ = some (.int .i64 (2)) := HB.out.cell 4
  have q5 : w3.cell? ⟨w2.heap.size, 5, none⟩ = some (.int .i64 (cap)) := HB.out.cell 5
  go_wp2_with fail
  refine (number_any _ _ _ b _ 4 v (by omega) hv0 hv1 HC.out).mono ?_
  rintro e w4 ⟨rfl, hC, hK⟩
  replace HC := Lib.hid hC
  replace HK := Lib.hid (HK.out.trans hK)
  replace HB := Lib.hid (hK.blk HB.out rfl)
  replace HZ := Lib.hid (hK.blk HZ.out rfl)
  clear hC hK q0 q1 q2 q3 q4 q5
  have q0 : w4.cell? ⟨w2.heap.size, 0, none⟩ = some (.int .i64 (base)) := HB.out.cell 0
  have q1 : w4.cell? ⟨w2.heap.size, 1, none⟩ = some (.int .i64 (base + 1)) := HB.out.cell 1
  have q2 : w4.cell? ⟨w2.heap.size, 2, none⟩ = some (.int .i64 (base + 2 + bk)) := HB.out.cell 2
  have q3 : w4.cell? ⟨w2.heap.size, 3, none⟩ = some (.int .i64 (3)) := HB.out.cell 3
  have q4 : w4.cell? ⟨w2.heap.size, 4, none⟩ = some (.int .i64 (2)) := HB.out.cell 4
  have q5 : w4.cell? ⟨w2.heap.size, 5, none⟩ = some (.int .i64 (cap)) := HB.out.cell 5
  go_wp2_with fail
  refine (open_any _ _ _ b _ (by omega) HC.out).mono ?_
  rintro e w5 ⟨rfl, hC, hK⟩
  replace HC := Lib.hid hC
  replace HK := Lib.hid (HK.out.trans hK)
  replace HB := Lib.hid (hK.blk HB.out rfl)
  replace HZ := Lib.hid (hK.blk HZ.out rfl)
  clear hC hK q0 q1 q2 q3 q4 q5
  have q0 : w5.cell? ⟨w2.heap.size, 0, none⟩ = some (.int .i64 (base)) := HB.out.cell 0
  have q1 : w5.cell? ⟨w2.heap.size, 1, none⟩ = some (.int .i64 (base + 1)) := HB.out.cell 1
  have q2 : w5.cell? ⟨w2.heap.size, 2, none⟩ = some (.int .i64 (base + 2 + bk)) := HB.out.cell 2
  have q3 : w5.cell? ⟨w2.heap.size, 3, none⟩ = some (.int .i64 (3)) := HB.out.cell 3
  have q4 : w5.cell? ⟨w2.heap.size, 4, none⟩ = some (.int .i64 (2)) := HB.out.cell 4
  have q5 : w5.cell? ⟨w2.heap.size, 5, none⟩ = some (.int .i64 (cap)) := HB.out.cell 5
  go_wp2_with fail
  refine (chain_any _ _ _ b _ (hPool base bk cap) bk HPo.out.1 (by omega) e1 e2 HC.out).mono ?_
  rintro e w6 ⟨rfl, hC, hK⟩
  replace HC := Lib.hid hC
  replace HK := Lib.hid (HK.out.trans hK)
  replace HB := Lib.hid (hK.blk HB.out rfl)
  replace HZ := Lib.hid (hK.blk HZ.out rfl)
  clear hC hK q0 q1 q2 q3 q4 q5
  have q0 : w6.cell? ⟨w2.heap.size, 0, none⟩ = some (.int .i64 (base)) := HB.out.cell 0
  have q1 : w6.cell? ⟨w2.heap.size, 1, none⟩ = some (.int .i64 (base + 1)) := HB.out.cell 1
  have q2 : w6.cell? ⟨w2.heap.size, 2, none⟩ = some (.int .i64 (base + 2 + bk)) := HB.out.cell 2
  have q3 : w6.cell? ⟨w2.heap.size, 3, none⟩ = some (.int .i64 (3)) := HB.out.cell 3
  have q4 : w6.cell? ⟨w2.heap.size, 4, none⟩ = some (.int .i64 (2)) := HB.out.cell 4
  have q5 : w6.cell? ⟨w2.heap.size, 5, none⟩ = some (.int .i64 (cap)) := HB.out.cell 5
  have z0 : w6.cell? ⟨w.heap.size, 0, none⟩ = some (.int .i64 0) := HZ.out.cell 0
  have z1 : w6.cell? ⟨w.heap.size, 1, none⟩ = some (.int .i64 0) := HZ.out.cell 1
  have z2 : w6.cell? ⟨w.heap.size, 2, none⟩ = some (.int .i64 0) := HZ.out.cell 2
  have z3 : w6.cell? ⟨w.heap.size, 3, none⟩ = some (.int .i64 0) := HZ.out.cell 3
  have z4 : w6.cell? ⟨w.heap.size, 4, none⟩ = some (.int .i64 0) := HZ.out.cell 4
  have z5 : w6.cell? ⟨w.heap.size, 5, none⟩ = some (.int .i64 0) := HZ.out.cell 5
  have y0 : w6.frozen? ⟨w.heap.size, 0, none⟩ = false := HZ.out.free 0
  have y1 : w6.frozen? ⟨w.heap.size, 1, none⟩ = false := HZ.out.free 1
  have y2 : w6.frozen? ⟨w.heap.size, 2, none⟩ = false := HZ.out.free 2
  have y3 : w6.frozen? ⟨w.heap.size, 3, none⟩ = false := HZ.out.free 3
  have y4 : w6.frozen? ⟨w.heap.size, 4, none⟩ = false := HZ.out.free 4
  have y5 : w6.frozen? ⟨w.heap.size, 5, none⟩ = false := HZ.out.free 5
  have s0 := HZ.out.set 0 (.int .i64 (base))
  have c0 : (w6.setCell ⟨w.heap.size, 0, none⟩ (.int .i64 (base))).cell? ⟨w.heap.size, 0, none⟩ = some (.int .i64 (base)) := s0.cell 0
  have s1 := s0.set 1 (.int .i64 (base + 1))
  have c1 : ((w6.setCell ⟨w.heap.size, 0, none⟩ (.int .i64 (base))).setCell ⟨w.heap.size, 1, none⟩ (.int .i64 (base + 1))).cell? ⟨w.heap.size, 1, none⟩ = some (.int .i64 (base + 1)) := s1.cell 1
  have s2 := s1.set 2 (.int .i64 (base + 2 + bk))
  have c2 : (((w6.setCell ⟨w.heap.size, 0, none⟩ (.int .i64 (base))).setCell ⟨w.heap.size, 1, none⟩ (.int .i64 (base + 1))).setCell ⟨w.heap.size, 2, none⟩ (.int .i64 (base + 2 + bk))).cell? ⟨w.heap.size, 2, none⟩ = some (.int .i64 (base + 2 + bk)) := s2.cell 2
  have s3 := s2.set 3 (.int .i64 (3))
  have c3 : ((((w6.setCell ⟨w.heap.size, 0, none⟩ (.int .i64 (base))).setCell ⟨w.heap.size, 1, none⟩ (.int .i64 (base + 1))).setCell ⟨w.heap.size, 2, none⟩ (.int .i64 (base + 2 + bk))).setCell ⟨w.heap.size, 3, none⟩ (.int .i64 (3))).cell? ⟨w.heap.size, 3, none⟩ = some (.int .i64 (3)) := s3.cell 3
  have s4 := s3.set 4 (.int .i64 (2))
  have c4 : (((((w6.setCell ⟨w.heap.size, 0, none⟩ (.int .i64 (base))).setCell ⟨w.heap.size, 1, none⟩ (.int .i64 (base + 1))).setCell ⟨w.heap.size, 2, none⟩ (.int .i64 (base + 2 + bk))).setCell ⟨w.heap.size, 3, none⟩ (.int .i64 (3))).setCell ⟨w.heap.size, 4, none⟩ (.int .i64 (2))).cell? ⟨w.heap.size, 4, none⟩ = some (.int .i64 (2)) := s4.cell 4
  have s5 := s4.set 5 (.int .i64 (cap))
  have c5 : ((((((w6.setCell ⟨w.heap.size, 0, none⟩ (.int .i64 (base))).setCell ⟨w.heap.size, 1, none⟩ (.int .i64 (base + 1))).setCell ⟨w.heap.size, 2, none⟩ (.int .i64 (base + 2 + bk))).setCell ⟨w.heap.size, 3, none⟩ (.int .i64 (3))).setCell ⟨w.heap.size, 4, none⟩ (.int .i64 (2))).setCell ⟨w.heap.size, 5, none⟩ (.int .i64 (cap))).cell? ⟨w.heap.size, 5, none⟩ = some (.int .i64 (cap)) := s5.cell 5
  have HS := And.intro (Lib.hid c0) (And.intro (Lib.hid c1) (And.intro (Lib.hid c2) (And.intro (Lib.hid c3) (And.intro (Lib.hid c4) (Lib.hid c5)))))
  clear s0 s1 s2 s3 s4 s5 c0 c1 c2 c3 c4 c5
  go_wp2_with fail
  go_region
  all_goals
    go_wp2_with fail
    refine bodyPost_ret (v := .tuple #[.pointer (some ⟨b, 0, none⟩), .agg #[.int .i64 (base), .int .i64 (base + 1), .int .i64 (base + 2 + bk), .int .i64 (3), .int .i64 (2), .int .i64 (cap)], .int .i64 0]) ?_ rfl (beg_done HC.out (by omega) HK.out HZ.out ?_)
    · simp [results, Try.results50, go_sem, HS.1.out, HS.2.1.out, HS.2.2.1.out, HS.2.2.2.1.out, HS.2.2.2.2.1.out, HS.2.2.2.2.2.out]
    · repeat (first | with_reducible exact Chg.refl _ _ | with_reducible refine Chg.setCell ?_ (by simp) _ | with_reducible refine Chg.drew ?_)
set_option maxHeartbeats 4000000 in
theorem treed_yes (w : World) (base cap k v : Int) (hk0 : 0 ≤ k) (hk1 : k ≤ 18446744073709551615) (hv0 : 0 ≤ v) (hv1 : v ≤ 18446744073709551615) (h : fitsB base (tSize cap) = true) :
    Calls Try.prog 57 #[.int .i64 base, .int .i64 cap, .int .u64 k, .int .u64 v] w (BegPost w (tPool base cap) (treeS base cap k v)) := by
  have HF := Lib.hid h
  have HR := Lib.hid (tSize_range cap)
  have HPo := Lib.hid (tPool_ok h)
  obtain ⟨_, e3, e4, e5, e6⟩ := tPool_ok h
  clear h
  go_enter Try.func57, Try.ntmps57
  go_wp2_with fail
  refine (TreeSize_any _ cap).mono ?_
  rintro e w1 ⟨rfl, rfl⟩
  go_wp2_with fail
  refine (fits_any _ base _ HR.out.1 HR.out.2).mono ?_
  rintro e w1 ⟨rfl, rfl⟩
  rw [HF.out]
  go_wp2_with fail
  have HZ := Lib.hid (Blk.new w [.int .i64 0, .int .i64 0, .int .i64 0, .int .i64 0, .int .i64 0, .int .i64 0] 82)
  have HCh := Lib.hid ((Chg.refl [] w).alloc (.cells #[.int .i64 0, .int .i64 0, .int .i64 0, .int .i64 0, .int .i64 0, .int .i64 0] 82))
  have HB0 : Hid (w.heap.size ≤ (w.alloc (.cells #[.int .i64 0, .int .i64 0, .int .i64 0, .int .i64 0, .int .i64 0, .int .i64 0] 82)).heap.size) := Lib.hid (by simp)
  generalize w.alloc (.cells #[.int .i64 0, .int .i64 0, .int .i64 0, .int .i64 0, .int .i64 0, .int .i64 0] 82) = w0 at *
  refine (begin_any _).mono ?_
  rintro e w1 ⟨b, rfl, hC, hx⟩
  have HC := Lib.hid (hC.base HB0.out)
  have HW := Lib.hid (Kp.of_nil (base := w.heap.size) (HCh.out.trans hx))
  replace HZ := Lib.hid (hx.blk HZ.out (by simp))
  clear hC hx HCh HB0
  go_wp2_with fail
  refine (treePool_any _ base cap e3 e4).mono ?_
  rintro e w2 ⟨rfl, hx⟩
  replace HC := Lib.hid ((HC.out.chg hx).chg ((Chg.refl [] w2).alloc (.cells #[.int .i64 (base + 1), .int .i64 (base + 2), .int .i64 (base + 3), .int .i64 (4), .int .i64 (2), .int .i64 (cap)] 82)))
  replace HZ := Lib.hid ((hx.blk HZ.out (by simp)).alloc (.cells #[.int .i64 (base + 1), .int .i64 (base + 2), .int .i64 (base + 3), .int .i64 (4), .int .i64 (2), .int .i64 (cap)] 82))
  have HB := Lib.hid (Blk.new w2 [.int .i64 (base + 1), .int .i64 (base + 2), .int .i64 (base + 3), .int .i64 (4), .int .i64 (2), .int .i64 (cap)] 82)
  have HK := Lib.hid ((HW.out.trans (Kp.of_nil hx)).alloc (.cells #[.int .i64 (base + 1), .int .i64 (base + 2), .int .i64 (base + 3), .int .i64 (4), .int .i64 (2), .int .i64 (cap)] 82))
  clear hx HW
  have q0 : (w2.alloc (.cells #[.int .i64 (base + 1), .int .i64 (base + 2), .int .i64 (base + 3), .int .i64 (4), .int .i64 (2), .int .i64 (cap)] 82)).cell? ⟨w2.heap.size, 0, none⟩ = some (.int .i64 (base + 1)) := HB.out.cell 0
  have q1 : (w2.alloc (.cells #[.int .i64 (base + 1), .int .i64 (base + 2), .int .i64 (base + 3), .int .i64 (4), .int .i64 (2), .int .i64 (cap)] 82)).cell? ⟨w2.heap.size, 1, none⟩ = some (.int .i64 (base + 2)) := HB.out.cell 1
  have q2 : (w2.alloc (.cells #[.int .i64 (base + 1), .int .i64 (base + 2), .int .i64 (base + 3), .int .i64 (4), .int .i64 (2), .int .i64 (cap)] 82)).cell? ⟨w2.heap.size, 2, none⟩ = some (.int .i64 (base + 3)) := HB.out.cell 2
  have q3 : (w2.alloc (.cells #[.int .i64 (base + 1), .int .i64 (base + 2), .int .i64 (base + 3), .int .i64 (4), .int .i64 (2), .int .i64 (cap)] 82)).cell? ⟨w2.heap.size, 3, none⟩ = some (.int .i64 (4)) := HB.out.cell 3
  have q4 : (w2.alloc (.cells #[.int .i64 (base + 1), .int .i64 (base + 2), .int .i64 (base + 3), .int .i64 (4), .int .i64 (2), .int .i64 (cap)] 82)).cell? ⟨w2.heap.size, 4, none⟩ = some (.int .i64 (2)) := HB.out.cell 4
  have q5 : (w2.alloc (.cells #[.int .i64 (base + 1), .int .i64 (base + 2), .int .i64 (base + 3), .int .i64 (4), .int .i64 (2), .int .i64 (cap)] 82)).cell? ⟨w2.heap.size, 5, none⟩ = some (.int .i64 (cap)) := HB.out.cell 5
  go_wp2_with fail
  refine (number_any _ _ _ b _ 3 k (by omega) hk0 hk1 HC.out).mono ?_
  rintro e w3 ⟨rfl, hC, hK⟩
  replace HC := Lib.hid hC
  replace HK := Lib.hid (HK.out.trans hK)
  replace HB := Lib.hid (hK.blk HB.out rfl)
  replace HZ := Lib.hid (hK.blk HZ.out rfl)
  clear hC hK q0 q1 q2 q3 q4 q5
  have q0 : w3.cell? ⟨w2.heap.size, 0, none⟩ = some (.int .i64 (base + 1)) := HB.out.cell 0
  have q1 : w3.cell? ⟨w2.heap.size, 1, none⟩ = some (.int .i64 (base + 2)) := HB.out.cell 1
  have q2 : w3.cell? ⟨w2.heap.size, 2, none⟩ = some (.int .i64 (base + 3)) := HB.out.cell 2
  have q3 : w3.cell? ⟨w2.heap.size, 3, none⟩ = some (.int .i64 (4)) := HB.out.cell 3
  have q4 : w3.cell? ⟨w2.heap.size, 4, none⟩ = some (.int .i64 (2)) := HB.out.cell 4
  have q5 : w3.cell? ⟨w2.heap.size, 5, none⟩ = some (.int .i64 (cap)) := HB.out.cell 5
  go_wp2_with fail
  refine (number_any _ _ _ b _ 4 v (by omega) hv0 hv1 HC.out).mono ?_
  rintro e w4 ⟨rfl, hC, hK⟩
  replace HC := Lib.hid hC
  replace HK := Lib.hid (HK.out.trans hK)
  replace HB := Lib.hid (hK.blk HB.out rfl)
  replace HZ := Lib.hid (hK.blk HZ.out rfl)
  clear hC hK q0 q1 q2 q3 q4 q5
  have q0 : w4.cell? ⟨w2.heap.size, 0, none⟩ = some (.int .i64 (base + 1)) := HB.out.cell 0
  have q1 : w4.cell? ⟨w2.heap.size, 1, none⟩ = some (.int .i64 (base + 2)) := HB.out.cell 1
  have q2 : w4.cell? ⟨w2.heap.size, 2, none⟩ = some (.int .i64 (base + 3)) := HB.out.cell 2
  have q3 : w4.cell? ⟨w2.heap.size, 3, none⟩ = some (.int .i64 (4)) := HB.out.cell 3
  have q4 : w4.cell? ⟨w2.heap.size, 4, none⟩ = some (.int .i64 (2)) := HB.out.cell 4
  have q5 : w4.cell? ⟨w2.heap.size, 5, none⟩ = some (.int .i64 (cap)) := HB.out.cell 5
  go_wp2_with fail
  refine (open_any _ _ _ b _ (by omega) HC.out).mono ?_
  rintro e w5 ⟨rfl, hC, hK⟩
  replace HC := Lib.hid hC
  replace HK := Lib.hid (HK.out.trans hK)
  replace HB := Lib.hid (hK.blk HB.out rfl)
  replace HZ := Lib.hid (hK.blk HZ.out rfl)
  clear hC hK q0 q1 q2 q3 q4 q5
  have q0 : w5.cell? ⟨w2.heap.size, 0, none⟩ = some (.int .i64 (base + 1)) := HB.out.cell 0
  have q1 : w5.cell? ⟨w2.heap.size, 1, none⟩ = some (.int .i64 (base + 2)) := HB.out.cell 1
  have q2 : w5.cell? ⟨w2.heap.size, 2, none⟩ = some (.int .i64 (base + 3)) := HB.out.cell 2
  have q3 : w5.cell? ⟨w2.heap.size, 3, none⟩ = some (.int .i64 (4)) := HB.out.cell 3
  have q4 : w5.cell? ⟨w2.heap.size, 4, none⟩ = some (.int .i64 (2)) := HB.out.cell 4
  have q5 : w5.cell? ⟨w2.heap.size, 5, none⟩ = some (.int .i64 (cap)) := HB.out.cell 5
  go_wp2_with fail
  refine (descend_any _ _ _ b _ (tPool base cap) base HPo.out.1 (by omega) HC.out).mono ?_
  rintro e w6 ⟨rfl, hC, hK⟩
  replace HC := Lib.hid hC
  replace HK := Lib.hid (HK.out.trans hK)
  replace HB := Lib.hid (hK.blk HB.out rfl)
  replace HZ := Lib.hid (hK.blk HZ.out rfl)
  clear hC hK q0 q1 q2 q3 q4 q5
  have q0 : w6.cell? ⟨w2.heap.size, 0, none⟩ = some (.int .i64 (base + 1)) := HB.out.cell 0
  have q1 : w6.cell? ⟨w2.heap.size, 1, none⟩ = some (.int .i64 (base + 2)) := HB.out.cell 1
  have q2 : w6.cell? ⟨w2.heap.size, 2, none⟩ = some (.int .i64 (base + 3)) := HB.out.cell 2
  have q3 : w6.cell? ⟨w2.heap.size, 3, none⟩ = some (.int .i64 (4)) := HB.out.cell 3
  have q4 : w6.cell? ⟨w2.heap.size, 4, none⟩ = some (.int .i64 (2)) := HB.out.cell 4
  have q5 : w6.cell? ⟨w2.heap.size, 5, none⟩ = some (.int .i64 (cap)) := HB.out.cell 5
  have z0 : w6.cell? ⟨w.heap.size, 0, none⟩ = some (.int .i64 0) := HZ.out.cell 0
  have z1 : w6.cell? ⟨w.heap.size, 1, none⟩ = some (.int .i64 0) := HZ.out.cell 1
  have z2 : w6.cell? ⟨w.heap.size, 2, none⟩ = some (.int .i64 0) := HZ.out.cell 2
  have z3 : w6.cell? ⟨w.heap.size, 3, none⟩ = some (.int .i64 0) := HZ.out.cell 3
  have z4 : w6.cell? ⟨w.heap.size, 4, none⟩ = some (.int .i64 0) := HZ.out.cell 4
  have z5 : w6.cell? ⟨w.heap.size, 5, none⟩ = some (.int .i64 0) := HZ.out.cell 5
  have y0 : w6.frozen? ⟨w.heap.size, 0, none⟩ = false := HZ.out.free 0
  have y1 : w6.frozen? ⟨w.heap.size, 1, none⟩ = false := HZ.out.free 1
  have y2 : w6.frozen? ⟨w.heap.size, 2, none⟩ = false := HZ.out.free 2
  have y3 : w6.frozen? ⟨w.heap.size, 3, none⟩ = false := HZ.out.free 3
  have y4 : w6.frozen? ⟨w.heap.size, 4, none⟩ = false := HZ.out.free 4
  have y5 : w6.frozen? ⟨w.heap.size, 5, none⟩ = false := HZ.out.free 5
  have s0 := HZ.out.set 0 (.int .i64 (base + 1))
  have c0 : (w6.setCell ⟨w.heap.size, 0, none⟩ (.int .i64 (base + 1))).cell? ⟨w.heap.size, 0, none⟩ = some (.int .i64 (base + 1)) := s0.cell 0
  have s1 := s0.set 1 (.int .i64 (base + 2))
  have c1 : ((w6.setCell ⟨w.heap.size, 0, none⟩ (.int .i64 (base + 1))).setCell ⟨w.heap.size, 1, none⟩ (.int .i64 (base + 2))).cell? ⟨w.heap.size, 1, none⟩ = some (.int .i64 (base + 2)) := s1.cell 1
  have s2 := s1.set 2 (.int .i64 (base + 3))
  have c2 : (((w6.setCell ⟨w.heap.size, 0, none⟩ (.int .i64 (base + 1))).setCell ⟨w.heap.size, 1, none⟩ (.int .i64 (base + 2))).setCell ⟨w.heap.size, 2, none⟩ (.int .i64 (base + 3))).cell? ⟨w.heap.size, 2, none⟩ = some (.int .i64 (base + 3)) := s2.cell 2
  have s3 := s2.set 3 (.int .i64 (4))
  have c3 : ((((w6.setCell ⟨w.heap.size, 0, none⟩ (.int .i64 (base + 1))).setCell ⟨w.heap.size, 1, none⟩ (.int .i64 (base + 2))).setCell ⟨w.heap.size, 2, none⟩ (.int .i64 (base + 3))).setCell ⟨w.heap.size, 3, none⟩ (.int .i64 (4))).cell? ⟨w.heap.size, 3, none⟩ = some (.int .i64 (4)) := s3.cell 3
  have s4 := s3.set 4 (.int .i64 (2))
  have c4 : (((((w6.setCell ⟨w.heap.size, 0, none⟩ (.int .i64 (base + 1))).setCell ⟨w.heap.size, 1, none⟩ (.int .i64 (base + 2))).setCell ⟨w.heap.size, 2, none⟩ (.int .i64 (base + 3))).setCell ⟨w.heap.size, 3, none⟩ (.int .i64 (4))).setCell ⟨w.heap.size, 4, none⟩ (.int .i64 (2))).cell? ⟨w.heap.size, 4, none⟩ = some (.int .i64 (2)) := s4.cell 4
  have s5 := s4.set 5 (.int .i64 (cap))
  have c5 : ((((((w6.setCell ⟨w.heap.size, 0, none⟩ (.int .i64 (base + 1))).setCell ⟨w.heap.size, 1, none⟩ (.int .i64 (base + 2))).setCell ⟨w.heap.size, 2, none⟩ (.int .i64 (base + 3))).setCell ⟨w.heap.size, 3, none⟩ (.int .i64 (4))).setCell ⟨w.heap.size, 4, none⟩ (.int .i64 (2))).setCell ⟨w.heap.size, 5, none⟩ (.int .i64 (cap))).cell? ⟨w.heap.size, 5, none⟩ = some (.int .i64 (cap)) := s5.cell 5
  have HS := And.intro (Lib.hid c0) (And.intro (Lib.hid c1) (And.intro (Lib.hid c2) (And.intro (Lib.hid c3) (And.intro (Lib.hid c4) (Lib.hid c5)))))
  clear s0 s1 s2 s3 s4 s5 c0 c1 c2 c3 c4 c5
  go_wp2_with fail
  go_region
  all_goals
    go_wp2_with fail
    refine bodyPost_ret (v := .tuple #[.pointer (some ⟨b, 0, none⟩), .agg #[.int .i64 (base + 1), .int .i64 (base + 2), .int .i64 (base + 3), .int .i64 (4), .int .i64 (2), .int .i64 (cap)], .int .i64 0]) ?_ rfl (beg_done HC.out (by omega) HK.out HZ.out ?_)
    · simp [results, Try.results57, go_sem, HS.1.out, HS.2.1.out, HS.2.2.1.out, HS.2.2.2.1.out, HS.2.2.2.2.1.out, HS.2.2.2.2.2.out]
    · repeat (first | with_reducible exact Chg.refl _ _ | with_reducible refine Chg.setCell ?_ (by simp) _ | with_reducible refine Chg.drew ?_)
end Go.Proofs.Ythlhjahhjoclfaa
