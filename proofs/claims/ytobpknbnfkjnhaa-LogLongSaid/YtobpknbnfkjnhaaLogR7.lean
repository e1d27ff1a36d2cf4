/- do: reads and writes. -/
import Derived.Test.YtobpknbnfkjnhaaLogR6
namespace Go.Proofs.Ytobpknbnfkjnhaa
open Go.RowKit

theorem LogAt.most {w : World} {g : Nat} {F : List Nat} {R W : PL} (h : LogAt w g F R W) : R.length ≤ 128 ∧ W.length ≤ 128 := by
  obtain ⟨b, c, v, m, u, n, h1, h2, h3, _⟩ := h.parts
  exact ⟨h2.most, h3.most⟩
theorem Mv.pre {F F' : List Nat} {w w0 w' : World} (h : Chg [] w w0) (k : Mv F F' w0 w') : Mv F F' w w' := (Mv.of_same h).trans k

set_option maxRecDepth 100000 in
set_option maxHeartbeats 4000000 in
theorem do_0 (w : World) (g : Nat) (F : List Nat) (d kb : Nat) (K : List Nat) (s : RW) (n : Nat) (a v : Int) (nA : Option Addr) (nl ncap : Nat) (wa : (Lit.int .i64 a).wf = true) (wv : (Lit.int .u64 v).wf = true) (h : PlAt w g F d kb K s s n) :
    Calls Try.prog 20 #[.pointer (some ⟨g, 0, none⟩), .pointer (some ⟨d, 0, none⟩), .agg #[.int .i64 0, .int .i64 a, .int .u64 v, .slice nA nl ncap], .pointer (some ⟨kb, 0, none⟩)] w (DoPost w g F d kb K (rdL s.1 a v, s.2) n) := by
  have hb0 := Blk.new w [.int .i64 0, .int .i64 a, .int .u64 v, .slice nA nl ncap] 26
  have hC0 : Chg [] w (w.alloc (.cells #[.int .i64 0, .int .i64 a, .int .u64 v, .slice nA nl ncap] 26)) := (Chg.refl _ _).alloc _
  have HN := Lib.hid (fun x hx (hm : x = w.heap.size) => by have := h.lt x hx; omega : ∀ x ∈ allN F d K, x = w.heap.size → False)
  have H0 := Lib.hid (h.look hC0)
  have HB0 := Lib.hid hb0
  have HC0 := Lib.hid hC0
  obtain ⟨ml, _⟩ := h.log.most
  have WA := Lib.hid wa
  have WV := Lib.hid wv
  have hW0 : ∃ w0, w0 = w.alloc (.cells #[.int .i64 0, .int .i64 a, .int .u64 v, .slice nA nl ncap] 26) := ⟨_, rfl⟩
  clear h hb0 hC0 wa wv
  go_enter Try.func20, Try.ntmps20
  go_wp2_with fail
  obtain ⟨w0, hw0⟩ := hW0
  rw [← hw0] at H0 HB0 HC0 ⊢
  clear hw0
  have hBx : Blk w0 w.heap.size [.int .i64 0, .int .i64 a, .int .u64 v, .slice nA nl ncap] 26 := HB0.out
  go_region_held3 (fun w' => w'.cell? ⟨w.heap.size, 1, none⟩ = some (.int .i64 a) ∧ w'.cell? ⟨w.heap.size, 2, none⟩ = some (.int .u64 v))
    (first | exact ⟨hBx.cell 1, hBx.cell 2⟩ | exact ⟨HB1.out.cell 1, HB1.out.cell 2⟩ | exact ⟨HB2.out.cell 1, HB2.out.cell 2⟩)
    (first
      | (go_at_call 17; refine (Read_any _ g F s.1 s.2 a v WA.out WV.out (H0.out.look ((Chg.refl [] _).drew)).log).mono ?_; rintro e w1 ⟨rfl, F', h1, m1⟩; have HD1 := Lib.hid ((H0.out.look ((Chg.refl [] _).drew)).log_did (s' := (rdL s.1 a v, s.2)) h1 m1); have HB1 := Lib.hid (HD1.out.2.chg.blk HB0.out.drew (fun hm => HN.out _ hm rfl)); clear h1 m1)
      | (go_at_call 23; refine (ReadR_any _ (allN F' d K) d s.1 s.2 a v (by simp) HD1.out.1.lt ml HD1.out.1.doc).mono ?_; rintro e w2 ⟨rfl, h2, c2⟩; have HD2 := Lib.hid (HD1.out.1.doc_did (t' := (rdL s.1 a v, s.2)) h2 c2); have HB2 := Lib.hid (c2.blk HB1.out (fun hm => HN.out _ (by simp at hm; simp [hm]) rfl)); clear h2 c2)
      | fail)
  all_goals
    go_wp2_with fail
    go_ret
    exact ⟨rfl, F', K, n, HD2.out.1, Mv.pre (HC0.out.trans ((Chg.refl [] _).drew)) (HD1.out.2.trans HD2.out.2), by omega⟩

set_option maxRecDepth 100000 in
set_option maxHeartbeats 4000000 in
theorem do_1 (w : World) (g : Nat) (F : List Nat) (d kb : Nat) (K : List Nat) (s : RW) (n : Nat) (a v : Int) (nA : Option Addr) (nl ncap : Nat) (wa : (Lit.int .i64 a).wf = true) (wv : (Lit.int .u64 v).wf = true) (h : PlAt w g F d kb K s s n) :
    Calls Try.prog 20 #[.pointer (some ⟨g, 0, none⟩), .pointer (some ⟨d, 0, none⟩), .agg #[.int .i64 1, .int .i64 a, .int .u64 v, .slice nA nl ncap], .pointer (some ⟨kb, 0, none⟩)] w (DoPost w g F d kb K (s.1, wrL s.2 a v) n) := by
  have hb0 := Blk.new w [.int .i64 1, .int .i64 a, .int .u64 v, .slice nA nl ncap] 26
  have hC0 : Chg [] w (w.alloc (.cells #[.int .i64 1, .int .i64 a, .int .u64 v, .slice nA nl ncap] 26)) := (Chg.refl _ _).alloc _
  have HN := Lib.hid (fun x hx (hm : x = w.heap.size) => by have := h.lt x hx; omega : ∀ x ∈ allN F d K, x = w.heap.size → False)
  have H0 := Lib.hid (h.look hC0)
  have HB0 := Lib.hid hb0
  have HC0 := Lib.hid hC0
  obtain ⟨_, ml⟩ := h.log.most
  have WA := Lib.hid wa
  have WV := Lib.hid wv
  have hW0 : ∃ w0, w0 = w.alloc (.cells #[.int .i64 1, .int .i64 a, .int .u64 v, .slice nA nl ncap] 26) := ⟨_, rfl⟩
  clear h hb0 hC0 wa wv
  go_enter Try.func20, Try.ntmps20
  go_wp2_with fail
  obtain ⟨w0, hw0⟩ := hW0
  rw [← hw0] at H0 HB0 HC0 ⊢
  clear hw0
  have hBx : Blk w0 w.heap.size [.int .i64 1, .int .i64 a, .int .u64 v, .slice nA nl ncap] 26 := HB0.out
  go_region_held3 (fun w' => w'.cell? ⟨w.heap.size, 1, none⟩ = some (.int .i64 a) ∧ w'.cell? ⟨w.heap.size, 2, none⟩ = some (.int .u64 v))
    (first | exact ⟨hBx.cell 1, hBx.cell 2⟩ | exact ⟨HB1.out.cell 1, HB1.out.cell 2⟩ | exact ⟨HB2.out.cell 1, HB2.out.cell 2⟩)
    (first
      | (go_at_call 18; refine (Write_any _ g F s.1 s.2 a v WA.out WV.out (H0.out.look ((Chg.refl [] _).drew)).log).mono ?_; rintro e w1 ⟨rfl, F', h1, m1⟩; have HD1 := Lib.hid ((H0.out.look ((Chg.refl [] _).drew)).log_did (s' := (s.1, wrL s.2 a v)) h1 m1); have HB1 := Lib.hid (HD1.out.2.chg.blk HB0.out.drew (fun hm => HN.out _ hm rfl)); clear h1 m1)
      | (go_at_call 24; refine (WriteR_any _ (allN F' d K) d s.1 s.2 a v (by simp) HD1.out.1.lt ml HD1.out.1.doc).mono ?_; rintro e w2 ⟨rfl, h2, c2⟩; have HD2 := Lib.hid (HD1.out.1.doc_did (t' := (s.1, wrL s.2 a v)) h2 c2); have HB2 := Lib.hid (c2.blk HB1.out (fun hm => HN.out _ (by simp at hm; simp [hm]) rfl)); clear h2 c2)
      | fail)
  all_goals
    go_wp2_with fail
    go_ret
    exact ⟨rfl, F', K, n, HD2.out.1, Mv.pre (HC0.out.trans ((Chg.refl [] _).drew)) (HD1.out.2.trans HD2.out.2), by omega⟩

end Go.Proofs.Ytobpknbnfkjnhaa
