/- LibsApart. -/
import Derived.Test.YthlhjahhjoclfaaCd43
import Derived.Test.YthlhjahhjoclfaaCd29
namespace Go.Proofs.Ythlhjahhjoclfaa
set_option maxRecDepth 100000
open Go.RowKit

structure Tu where
  who : Int
  c : Int
  k : Int
  v : Int
def encT (t : Tu) : List Value := [.int .u8 t.who, .int .i64 t.c, .int .u64 t.k, .int .u64 t.v]
theorem encT_len (t : Tu) : (encT t).length = 4 := rfl
structure TuOk (t : Tu) : Prop where
  who : 0 ≤ t.who ∧ t.who ≤ 255
  k : 0 ≤ t.k ∧ t.k ≤ 18446744073709551615
  v : 0 ≤ t.v ∧ t.v ≤ 18446744073709551615

def plCells (b0 b1 b2 bk c0 c1 c2 : Int) : List Value := [.int .i64 0, .int .i64 b0, .int .i64 bk, .int .i64 c0, .int .i64 1, .int .i64 b1, .int .i64 bk, .int .i64 c1, .int .i64 2, .int .i64 b2, .int .i64 bk, .int .i64 c2]
abbrev sl504 (b : Nat) : Value := .slice (some ⟨b, 0, none⟩) 504 504
/-- Where all stands. -/
structure ApAt (W wr : World) (bp bM bO n0 n1 n2 : Nat) (b0 b1 b2 bk c0 c1 c2 : Int) (M N0 N1 N2 : List Int) : Prop where
  p : Blk wr bp (plCells b0 b1 b2 bk c0 c1 c2) 48
  m : Blk wr bM (M.map (Value.int .u64)) 32
  o : Blk wr bO [sl504 n0, sl504 n1, sl504 n2] 51
  m0 : Blk wr n0 (N0.map (Value.int .u64)) 32
  m1 : Blk wr n1 (N1.map (Value.int .u64)) 32
  m2 : Blk wr n2 (N2.map (Value.int .u64)) 32
  chg : Chg [] W wr
  ne : bp < bM ∧ bM < bO ∧ bO < n0 ∧ n0 < n1 ∧ n1 < n2 ∧ W.heap.size ≤ bp
theorem ApAt.look {W wr wx : World} {bp bM bO n0 n1 n2 : Nat} {b0 b1 b2 bk c0 c1 c2 : Int} {M N0 N1 N2 : List Int} (h : ApAt W wr bp bM bO n0 n1 n2 b0 b1 b2 bk c0 c1 c2 M N0 N1 N2) (k : Chg [] wr wx) : ApAt W wx bp bM bO n0 n1 n2 b0 b1 b2 bk c0 c1 c2 M N0 N1 N2 :=
  ⟨k.blk h.p (by simp), k.blk h.m (by simp), k.blk h.o (by simp), k.blk h.m0 (by simp), k.blk h.m1 (by simp), k.blk h.m2 (by simp), h.chg.trans k, h.ne⟩
theorem ApAt.runM {W wr wx : World} {bp bM bO n0 n1 n2 : Nat} {b0 b1 b2 bk c0 c1 c2 : Int} {M N0 N1 N2 M' : List Int} (h : ApAt W wr bp bM bO n0 n1 n2 b0 b1 b2 bk c0 c1 c2 M N0 N1 N2) (k : Chg [bM] wr wx) (hb : Blk wx bM (M'.map (Value.int .u64)) 32) : ApAt W wx bp bM bO n0 n1 n2 b0 b1 b2 bk c0 c1 c2 M' N0 N1 N2 := by
  have := h.ne
  exact ⟨k.blk h.p (by simp; omega), hb, k.blk h.o (by simp; omega), k.blk h.m0 (by simp; omega), k.blk h.m1 (by simp; omega), k.blk h.m2 (by simp; omega), h.chg.trans' k (fun x hx hl => by simp at hx; omega), h.ne⟩
theorem ApAt.run0 {W wr wx : World} {bp bM bO n0 n1 n2 : Nat} {b0 b1 b2 bk c0 c1 c2 : Int} {M N0 N1 N2 N0' : List Int} (h : ApAt W wr bp bM bO n0 n1 n2 b0 b1 b2 bk c0 c1 c2 M N0 N1 N2) (k : Chg [n0] wr wx) (hb : Blk wx n0 (N0'.map (Value.int .u64)) 32) : ApAt W wx bp bM bO n0 n1 n2 b0 b1 b2 bk c0 c1 c2 M N0' N1 N2 := by
  have := h.ne
  exact ⟨k.blk h.p (by simp; omega), k.blk h.m (by simp; omega), k.blk h.o (by simp; omega), hb, k.blk h.m1 (by simp; omega), k.blk h.m2 (by simp; omega), h.chg.trans' k (fun x hx hl => by simp at hx; omega), h.ne⟩
theorem ApAt.run1 {W wr wx : World} {bp bM bO n0 n1 n2 : Nat} {b0 b1 b2 bk c0 c1 c2 : Int} {M N0 N1 N2 N1' : List Int} (h : ApAt W wr bp bM bO n0 n1 n2 b0 b1 b2 bk c0 c1 c2 M N0 N1 N2) (k : Chg [n1] wr wx) (hb : Blk wx n1 (N1'.map (Value.int .u64)) 32) : ApAt W wx bp bM bO n0 n1 n2 b0 b1 b2 bk c0 c1 c2 M N0 N1' N2 := by
  have := h.ne
  exact ⟨k.blk h.p (by simp; omega), k.blk h.m (by simp; omega), k.blk h.o (by simp; omega), k.blk h.m0 (by simp; omega), hb, k.blk h.m2 (by simp; omega), h.chg.trans' k (fun x hx hl => by simp at hx; omega), h.ne⟩
theorem ApAt.run2 {W wr wx : World} {bp bM bO n0 n1 n2 : Nat} {b0 b1 b2 bk c0 c1 c2 : Int} {M N0 N1 N2 N2' : List Int} (h : ApAt W wr bp bM bO n0 n1 n2 b0 b1 b2 bk c0 c1 c2 M N0 N1 N2) (k : Chg [n2] wr wx) (hb : Blk wx n2 (N2'.map (Value.int .u64)) 32) : ApAt W wx bp bM bO n0 n1 n2 b0 b1 b2 bk c0 c1 c2 M N0 N1 N2' := by
  have := h.ne
  exact ⟨k.blk h.p (by simp; omega), k.blk h.m (by simp; omega), k.blk h.o (by simp; omega), k.blk h.m0 (by simp; omega), k.blk h.m1 (by simp; omega), hb, h.chg.trans' k (fun x hx hl => by simp at hx; omega), h.ne⟩

def ApRel (W : World) (bp bM bO n0 n1 n2 : Nat) (b0 b1 b2 bk c0 c1 c2 : Int) (n : Nat) (s : Value) (wr : World) : Prop :=
  ∃ (i : Nat) (M N0 N1 N2 : List Int), i ≤ n ∧ s = .int .i64 i ∧ ApIn b0 b1 b2 bk c0 c1 c2 i M N0 N1 N2 ∧ ApAt W wr bp bM bO n0 n1 n2 b0 b1 b2 bk c0 c1 c2 M N0 N1 N2

/-- A call's code, made in a world that looks like another one. -/
theorem Code_at {w0 w : World} (h : Chg [] w0 w) (x c base bk cap k v : Int) (hu : usualB x c = true) (hk0 : 0 ≤ k) (hk1 : k ≤ 18446744073709551615) (hv0 : 0 ≤ v) (hv1 : v ≤ 18446744073709551615) (hf : fitsB base (sizeK x bk cap) = true) :
    Calls Try.prog 17 #[.agg #[.int .i64 x, .int .i64 base, .int .i64 bk, .int .i64 cap], .agg #[.int .i64 c, .int .u64 k, .int .u64 v]] w fun e w' => ∃ A cp, e = .returned (.tuple #[.slice A (codeL x c base bk cap k v).length cp, .int .i64 0]) ∧ RdI w' w'.heap.size A (codeL x c base bk cap k v) ∧ (∀ a, A = some a → w0.heap.size ≤ a.block) ∧ Chg [] w0 w' := by
  refine (Code_yes w x c base bk cap k v hu hk0 hk1 hv0 hv1 hf).mono ?_
  rintro e w' ⟨va, rfl, hr, hx⟩
  obtain ⟨A, cp, rfl, _, _, _, hR, hb⟩ := Rd.of_row encI_len hr
  refine ⟨A, cp, rfl, hR, fun a e => ?_, h.trans hx⟩
  have h1 := (hr.lt a.block (by rw [hb a e])).1
  have h2 := h.size
  omega
theorem answers_at {w0 w : World} (A : Option Addr) (cap : Nat) (l : List Ins) (bm : Nat) (M0 : List Int) (hl : l.length ≤ 1024) (hu : ∀ i ∈ l, UseI l.length i) (hM : MOk504 M0) (hA : RdI w0 w0.heap.size A l) (hAm : ∀ a, A = some a → a.block ∉ [bm]) (hB : Blk w0 bm (M0.map (Value.int .u64)) 32) (h : Chg [] w0 w) :
    Calls Try.prog 22 #[.slice A l.length cap, sl504 bm] w (AnsPost w bm l M0) :=
  answers_504 w A cap l bm M0 hM.1 hl hu (hA.chg0 h) hAm hM.2 (h.blk hB (by simp))
theorem fits_pl {x base bk cap : Int} (hp : PlOk x base bk cap) (hx : x = 0 ∨ x = 1 ∨ x = 2) : fitsB base (sizeK x bk cap) = true := by
  obtain ⟨p0, p1, p2, p3, p4, p5⟩ := hp
  have : 0 < sizeK x bk cap := by rw [p4]; split <;> (try split) <;> omega
  simp [fitsB]; omega
theorem mod3 (x : Int) (h : 0 ≤ x) : x % 3 = 0 ∨ x % 3 = 1 ∨ x % 3 = 2 := by omega

set_option maxHeartbeats 16000000 in
theorem LibsApart_any (W : World) (A : Option Addr) (cap : Nat) (x0 x1 x2 : Int) (l : List Tu) (g0 : 0 ≤ x0 ∧ x0 ≤ 255) (g1 : 0 ≤ x1 ∧ x1 ≤ 255) (g2 : 0 ≤ x2 ∧ x2 ≤ 255) (hm : l.length ≤ maxLen) (hl : ∀ t ∈ l, TuOk t) (hA : Rd W W.heap.size A 4 encT l) :
    Calls Try.prog 5 #[.agg #[.int .u8 x0, .int .u8 x1, .int .u8 x2], .slice A l.length cap] W (StaysPost W) := by
  have HA := Lib.hid hA
  have HL := Lib.hid hl
  have hlm : (l.length : Int) ≤ 9223372036854775807 := by unfold maxLen at hm; omega
  clear hA hl hm
  have hmk := make_zeros
  have hq := eq_three
  have HX := Lib.hid (Blk.new W [.int .u8 x0, .int .u8 x1, .int .u8 x2] 45)
  have HC := Lib.hid ((Chg.refl [] W).alloc (.cells #[.int .u8 x0, .int .u8 x1, .int .u8 x2] 45))
  go_enter Try.func5, Try.ntmps5
  go_wp2_with fail
  refine (alive_any _).mono ?_
  rintro e w1 ⟨rfl, hx⟩
  replace HX := Lib.hid (hx.blk HX.out (by simp))
  replace HC := Lib.hid (HC.out.trans hx)
  clear hx
  by_cases hmany : (300 : Int) < l.length
  · go_wp2_with fail
    go_ret
    exact ⟨rfl, HC.out.nil_below⟩
  have hl3 : (l.length : Int) ≤ 300 := by omega
  clear hmany
  have y0 : w1.cell? ⟨W.heap.size, 0, none⟩ = some (.int .u8 x0) := HX.out.cell 0
  have y1 : w1.cell? ⟨W.heap.size, 1, none⟩ = some (.int .u8 x1) := HX.out.cell 1
  have y2 : w1.cell? ⟨W.heap.size, 2, none⟩ = some (.int .u8 x2) := HX.out.cell 2
  have yl : W.heap.size < w1.heap.size := HX.out.lt
  go_wp2_with fail
  refine (trio_any _ x0 x1 x2 g0 g1 g2).mono ?_
  rintro e w2 ⟨b0, b1, b2, bk, c0, c1, c2, h3, rfl, hx⟩
  replace HC := Lib.hid (HC.out.trans hx)
  have H3 := Lib.hid h3
  clear hx y0 y1 y2 yl HX h3 g0 g1 g2
  go_wp2_with fail
  have hP := ((Blk.new w2 [.int .i64 0, .int .i64 b0, .int .i64 bk, .int .i64 c0, .int .i64 1, .int .i64 b1, .int .i64 bk, .int .i64 c1, .int .i64 2, .int .i64 b2, .int .i64 bk, .int .i64 c2] 48).alloc (.cells (zeros.map (Value.int .u64)).toArray 32)).alloc (.cells #[.slice none 0 0, .slice none 0 0, .slice none 0 0] 51)
  have hM := (Blk.new (w2.alloc (.cells #[.int .i64 0, .int .i64 b0, .int .i64 bk, .int .i64 c0, .int .i64 1, .int .i64 b1, .int .i64 bk, .int .i64 c1, .int .i64 2, .int .i64 b2, .int .i64 bk, .int .i64 c2] 48)) (zeros.map (Value.int .u64)) 32).alloc (.cells #[.slice none 0 0, .slice none 0 0, .slice none 0 0] 51)
  have hO := Blk.new ((w2.alloc (.cells #[.int .i64 0, .int .i64 b0, .int .i64 bk, .int .i64 c0, .int .i64 1, .int .i64 b1, .int .i64 bk, .int .i64 c1, .int .i64 2, .int .i64 b2, .int .i64 bk, .int .i64 c2] 48)).alloc (.cells (zeros.map (Value.int .u64)).toArray 32)) [.slice none 0 0, .slice none 0 0, .slice none 0 0] 51
  simp only [World.size_alloc] at hM hO
  have hC := ((HC.out.alloc (.cells #[.int .i64 0, .int .i64 b0, .int .i64 bk, .int .i64 c0, .int .i64 1, .int .i64 b1, .int .i64 bk, .int .i64 c1, .int .i64 2, .int .i64 b2, .int .i64 bk, .int .i64 c2] 48)).alloc (.cells (zeros.map (Value.int .u64)).toArray 32)).alloc (.cells #[.slice none 0 0, .slice none 0 0, .slice none 0 0] 51)
  have hsz := HC.out.size
  have HP := Lib.hid hP; have HM := Lib.hid hM; have HO := Lib.hid hO; replace HC := Lib.hid hC
  clear hP hM hO hC
  generalize World.alloc (World.alloc (World.alloc _ _) _) _ = wa at *
  obtain ⟨bp, hbp⟩ : ∃ b, w2.heap.size = b := ⟨_, rfl⟩
  rw [hbp] at HP HM HO hsz ⊢
  obtain ⟨bM, hbM⟩ : ∃ b, bp + 1 = b := ⟨_, rfl⟩
  rw [hbM] at HM HO ⊢
  obtain ⟨bO, hbO⟩ : ∃ b, bM + 1 = b := ⟨_, rfl⟩
  rw [hbO] at HO ⊢
  have hpm : bp < bM := by omega
  have hmo : bM < bO := by omega
  clear hbp hbM hbO
  refine wp_loop_rounds 4 ?_
  rw [rounds_succ]
  have o0 : wa.cell? ⟨bO, 0, none⟩ = some (.slice none 0 0) := HO.out.cell 0
  have f0 : wa.frozen? ⟨bO, 0, none⟩ = false := HO.out.free 0
  have ol : bO < wa.heap.size := HO.out.lt
  go_wp2_with fail
  have hN := Blk.new (wa.setCell ⟨bO, 0, none⟩ (.slice (some ⟨wa.heap.size, 0, none⟩) 504 504)) (zeros.map (Value.int .u64)) 32
  have hO2 := (HO.out.set 0 (.slice (some ⟨wa.heap.size, 0, none⟩) 504 504)).alloc (.cells (zeros.map (Value.int .u64)).toArray 32)
  have hP2 := (HP.out.other (a := ⟨bO, 0, none⟩) (show bO ≠ bp by omega) (.slice (some ⟨wa.heap.size, 0, none⟩) 504 504)).alloc (.cells (zeros.map (Value.int .u64)).toArray 32)
  have hM2 := (HM.out.other (a := ⟨bO, 0, none⟩) (show bO ≠ bM by omega) (.slice (some ⟨wa.heap.size, 0, none⟩) 504 504)).alloc (.cells (zeros.map (Value.int .u64)).toArray 32)
  have hC2 := (HC.out.setCell (p := ⟨bO, 0, none⟩) (fun h => absurd h (show ¬ bO < W.heap.size by omega)) (.slice (some ⟨wa.heap.size, 0, none⟩) 504 504)).alloc (.cells (zeros.map (Value.int .u64)).toArray 32)
  rw [show (wa.setCell ⟨bO, 0, none⟩ (.slice (some ⟨wa.heap.size, 0, none⟩) 504 504)).heap.size = wa.heap.size from by simp] at hN
  simp only [List.set_cons_zero, List.set_cons_succ] at hO2
  replace HO := Lib.hid hO2; replace HP := Lib.hid hP2; replace HM := Lib.hid hM2; replace HC := Lib.hid hC2; have HN0 := Lib.hid hN
  clear hN hO2 hP2 hM2 hC2 o0 f0 
  generalize World.alloc (World.setCell _ _ _) _ = wo0 at *
  obtain ⟨n0, hn0⟩ : ∃ b, wa.heap.size = b := ⟨_, rfl⟩
  rw [hn0] at HN0 HO ol ⊢
  have ho0 := ol
  clear hn0 ol
  rw [rounds_succ]
  have o0 : wo0.cell? ⟨bO, 1, none⟩ = some (.slice none 0 0) := HO.out.cell 1
  have f0 : wo0.frozen? ⟨bO, 1, none⟩ = false := HO.out.free 1
  have ol : bO < wo0.heap.size := HO.out.lt
  have nl := HN0.out.lt
  go_wp2_with fail
  have hN := Blk.new (wo0.setCell ⟨bO, 1, none⟩ (.slice (some ⟨wo0.heap.size, 0, none⟩) 504 504)) (zeros.map (Value.int .u64)) 32
  have hO2 := (HO.out.set 1 (.slice (some ⟨wo0.heap.size, 0, none⟩) 504 504)).alloc (.cells (zeros.map (Value.int .u64)).toArray 32)
  have hP2 := (HP.out.other (a := ⟨bO, 1, none⟩) (show bO ≠ bp by omega) (.slice (some ⟨wo0.heap.size, 0, none⟩) 504 504)).alloc (.cells (zeros.map (Value.int .u64)).toArray 32)
  have hM2 := (HM.out.other (a := ⟨bO, 1, none⟩) (show bO ≠ bM by omega) (.slice (some ⟨wo0.heap.size, 0, none⟩) 504 504)).alloc (.cells (zeros.map (Value.int .u64)).toArray 32)
  have hC2 := (HC.out.setCell (p := ⟨bO, 1, none⟩) (fun h => absurd h (show ¬ bO < W.heap.size by omega)) (.slice (some ⟨wo0.heap.size, 0, none⟩) 504 504)).alloc (.cells (zeros.map (Value.int .u64)).toArray 32)
  have hN0 := (HN0.out.other (a := ⟨bO, 1, none⟩) (show bO ≠ n0 by omega) (.slice (some ⟨wo0.heap.size, 0, none⟩) 504 504)).alloc (.cells (zeros.map (Value.int .u64)).toArray 32)
  rw [show (wo0.setCell ⟨bO, 1, none⟩ (.slice (some ⟨wo0.heap.size, 0, none⟩) 504 504)).heap.size = wo0.heap.size from by simp] at hN
  simp only [List.set_cons_zero, List.set_cons_succ] at hO2
  replace HO := Lib.hid hO2; replace HP := Lib.hid hP2; replace HM := Lib.hid hM2; replace HC := Lib.hid hC2; have HN1 := Lib.hid hN
  replace HN0 := Lib.hid hN0
  clear hN hO2 hP2 hM2 hC2 o0 f0 hN0
  generalize World.alloc (World.setCell _ _ _) _ = wo1 at *
  obtain ⟨n1, hn1⟩ : ∃ b, wo0.heap.size = b := ⟨_, rfl⟩
  rw [hn1] at HN1 HO ol nl ⊢
  have ho1 := nl
  clear hn1 ol nl
  rw [rounds_succ]
  have o0 : wo1.cell? ⟨bO, 2, none⟩ = some (.slice none 0 0) := HO.out.cell 2
  have f0 : wo1.frozen? ⟨bO, 2, none⟩ = false := HO.out.free 2
  have ol : bO < wo1.heap.size := HO.out.lt
  have nl := HN1.out.lt
  go_wp2_with fail
  have hN := Blk.new (wo1.setCell ⟨bO, 2, none⟩ (.slice (some ⟨wo1.heap.size, 0, none⟩) 504 504)) (zeros.map (Value.int .u64)) 32
  have hO2 := (HO.out.set 2 (.slice (some ⟨wo1.heap.size, 0, none⟩) 504 504)).alloc (.cells (zeros.map (Value.int .u64)).toArray 32)
  have hP2 := (HP.out.other (a := ⟨bO, 2, none⟩) (show bO ≠ bp by omega) (.slice (some ⟨wo1.heap.size, 0, none⟩) 504 504)).alloc (.cells (zeros.map (Value.int .u64)).toArray 32)
  have hM2 := (HM.out.other (a := ⟨bO, 2, none⟩) (show bO ≠ bM by omega) (.slice (some ⟨wo1.heap.size, 0, none⟩) 504 504)).alloc (.cells (zeros.map (Value.int .u64)).toArray 32)
  have hC2 := (HC.out.setCell (p := ⟨bO, 2, none⟩) (fun h => absurd h (show ¬ bO < W.heap.size by omega)) (.slice (some ⟨wo1.heap.size, 0, none⟩) 504 504)).alloc (.cells (zeros.map (Value.int .u64)).toArray 32)
  have hN0 := (HN0.out.other (a := ⟨bO, 2, none⟩) (show bO ≠ n0 by omega) (.slice (some ⟨wo1.heap.size, 0, none⟩) 504 504)).alloc (.cells (zeros.map (Value.int .u64)).toArray 32)
  have hN1 := (HN1.out.other (a := ⟨bO, 2, none⟩) (show bO ≠ n1 by omega) (.slice (some ⟨wo1.heap.size, 0, none⟩) 504 504)).alloc (.cells (zeros.map (Value.int .u64)).toArray 32)
  rw [show (wo1.setCell ⟨bO, 2, none⟩ (.slice (some ⟨wo1.heap.size, 0, none⟩) 504 504)).heap.size = wo1.heap.size from by simp] at hN
  simp only [List.set_cons_zero, List.set_cons_succ] at hO2
  replace HO := Lib.hid hO2; replace HP := Lib.hid hP2; replace HM := Lib.hid hM2; replace HC := Lib.hid hC2; have HN2 := Lib.hid hN
  replace HN0 := Lib.hid hN0
  replace HN1 := Lib.hid hN1
  clear hN hO2 hP2 hM2 hC2 o0 f0 hN0 hN1
  generalize World.alloc (World.setCell _ _ _) _ = wo2 at *
  obtain ⟨n2, hn2⟩ : ∃ b, wo1.heap.size = b := ⟨_, rfl⟩
  rw [hn2] at HN2 HO ol nl ⊢
  have ho2 := nl
  clear hn2 ol nl
  rw [rounds_succ]
  have HS := Lib.hid (show ApAt W wo2 bp bM bO n0 n1 n2 b0 b1 b2 bk c0 c1 c2 zeros zeros zeros zeros from ⟨HP.out, HM.out, HO.out, HN0.out, HN1.out, HN2.out, HC.out, ⟨hpm, hmo, ho0, ho1, ho2, hsz⟩⟩)
  have hne := HS.out.ne
  clear HP HM HO HN0 HN1 HN2 HC hpm hmo ho0 ho1 ho2 hsz
  go_wp2_with fail
  go_loopw [10] (fun s wr => ApRel W bp bM bO n0 n1 n2 b0 b1 b2 bk c0 c1 c2 l.length s wr) (fun s _ => l.length - (intOf s).toNat)
  case atStart => exact ⟨0, zeros, zeros, zeros, zeros, Nat.zero_le _, rfl, ApIn.start H3.out, HS.out⟩
  case round =>
    clear HS hmk
    obtain ⟨i, M, N0, N1, N2, hi, rfl, hIn, hAt⟩ := hrel
    by_cases hlt : i < l.length
    · obtain ⟨b, off, rfl, hb, c⟩ := (HA.out.chg0 hAt.chg) (by omega)
      have d0 : wr.cell? ⟨b, off + i * 4, none⟩ = some (.int .u8 l[i].who) := c i hlt 0 (by decide)
      have d1 : wr.cell? ⟨b, off + i * 4 + 1, none⟩ = some (.int .i64 l[i].c) := c i hlt 1 (by decide)
      have d2 : wr.cell? ⟨b, off + i * 4 + 2, none⟩ = some (.int .u64 l[i].k) := c i hlt 2 (by decide)
      have d3 : wr.cell? ⟨b, off + i * 4 + 3, none⟩ = some (.int .u64 l[i].v) := c i hlt 3 (by decide)
      obtain ⟨⟨u0, u1⟩, ⟨k0, k1⟩, ⟨v0, v1⟩⟩ := HL.out _ (List.getElem_mem hlt)
      have HIn := Lib.hid hIn
      have HAt := Lib.hid hAt
      clear c hIn hAt
      generalize l[i].who = tw at *
      generalize l[i].c = tc at *
      generalize l[i].k = tk at *
      generalize l[i].v = tv at *
      have hmod := mod3 tw u0
      rcases hmod with hmod | hmod | hmod
      · skip
        have p0 : wr.cell? ⟨bp, 0, none⟩ = some (.int .i64 0) := HAt.out.p.cell 0
        have p1 : wr.cell? ⟨bp, 1, none⟩ = some (.int .i64 b0) := HAt.out.p.cell 1
        have p2 : wr.cell? ⟨bp, 2, none⟩ = some (.int .i64 bk) := HAt.out.p.cell 2
        have p3 : wr.cell? ⟨bp, 3, none⟩ = some (.int .i64 c0) := HAt.out.p.cell 3
        have pl : bp < wr.heap.size := HAt.out.p.lt
        go_wp2_with fail
        have HX := Lib.hid ((Chg.refl [] wr).drew)
        go_region_held3 (fun w' => w'.cell? ⟨bp, 0, none⟩ = some (.int .i64 0) ∧ w'.cell? ⟨bp, 1, none⟩ = some (.int .i64 b0) ∧ w'.cell? ⟨bp, 2, none⟩ = some (.int .i64 bk) ∧ w'.cell? ⟨bp, 3, none⟩ = some (.int .i64 c0) ∧ w'.cell? ⟨b, off + i * 4 + 1, none⟩ = some (.int .i64 tc) ∧ w'.cell? ⟨b, off + i * 4 + 2, none⟩ = some (.int .u64 tk) ∧ w'.cell? ⟨b, off + i * 4 + 3, none⟩ = some (.int .u64 tv)) (exact ⟨(HX.out.blk HAt.out.p (by simp)).cell 0, (HX.out.blk HAt.out.p (by simp)).cell 1, (HX.out.blk HAt.out.p (by simp)).cell 2, (HX.out.blk HAt.out.p (by simp)).cell 3, (HX.out.cell0 hb _).trans d1, (HX.out.cell0 hb _).trans d2, (HX.out.cell0 hb _).trans d3⟩) (first | (go_at_call 16; refine (usual_any _ 0 tc b0 bk c0 tk tv (by decide)).mono ?_; rintro e w3 ⟨rfl, hx⟩; replace HX := Lib.hid (HX.out.trans hx); clear hx) | fail)
        have hx2 := HX.out
        replace HAt := Lib.hid (HAt.out.look hx2)
        replace d0 := (hx2.cell0 hb _).trans d0
        replace d1 := (hx2.cell0 hb _).trans d1
        replace d2 := (hx2.cell0 hb _).trans d2
        replace d3 := (hx2.cell0 hb _).trans d3
        clear p0 p1 p2 p3 pl HX
        replace hb := Nat.lt_of_lt_of_le hb hx2.size
        clear hx2
        cases hu : usualB 0 tc
        · go_wp2_with fail
          go_roundw
          case rel => exact ⟨i + 1, M, N0, N1, N2, by omega, by go_num, HIn.out.skip, HAt.out⟩
          case measure => simp [intOf]; omega
        · have HU := Lib.hid hu
          clear hu
          have p0 : w3.cell? ⟨bp, 0, none⟩ = some (.int .i64 0) := HAt.out.p.cell 0
          have p1 : w3.cell? ⟨bp, 1, none⟩ = some (.int .i64 b0) := HAt.out.p.cell 1
          have p2 : w3.cell? ⟨bp, 2, none⟩ = some (.int .i64 bk) := HAt.out.p.cell 2
          have p3 : w3.cell? ⟨bp, 3, none⟩ = some (.int .i64 c0) := HAt.out.p.cell 3
          have pl : bp < w3.heap.size := HAt.out.p.lt
          go_wp2_with fail
          have HX := Lib.hid ((Chg.refl [] w3).drew)
          go_region_held3 (fun w' => w'.cell? ⟨bp, 0, none⟩ = some (.int .i64 0) ∧ w'.cell? ⟨bp, 1, none⟩ = some (.int .i64 b0) ∧ w'.cell? ⟨bp, 2, none⟩ = some (.int .i64 bk) ∧ w'.cell? ⟨bp, 3, none⟩ = some (.int .i64 c0) ∧ w'.cell? ⟨b, off + i * 4 + 1, none⟩ = some (.int .i64 tc) ∧ w'.cell? ⟨b, off + i * 4 + 2, none⟩ = some (.int .u64 tk) ∧ w'.cell? ⟨b, off + i * 4 + 3, none⟩ = some (.int .u64 tv)) (exact ⟨(HX.out.blk HAt.out.p (by simp)).cell 0, (HX.out.blk HAt.out.p (by simp)).cell 1, (HX.out.blk HAt.out.p (by simp)).cell 2, (HX.out.blk HAt.out.p (by simp)).cell 3, (HX.out.cell0 hb _).trans d1, (HX.out.cell0 hb _).trans d2, (HX.out.cell0 hb _).trans d3⟩) (first | (go_at_call 17; refine (Code_at HX.out 0 tc b0 bk c0 tk tv HU.out k0 k1 v0 v1 (fits_pl H3.out.pl.1 (by decide))).mono ?_; rintro e w4 ⟨A4, cp4, rfl, hR, hAb, hx⟩; replace HX := Lib.hid hx; have HR := Lib.hid hR; have HAb := Lib.hid hAb; clear hx hR hAb) | fail)
          have hx := HX.out; have hR := HR.out; have hAb := HAb.out
          clear HX HR HAb
          have hbm : bM < w3.heap.size := HAt.out.m.lt
          have hbn : n0 < w3.heap.size := HAt.out.m0.lt
          have HAm := Lib.hid (show ∀ a, A4 = some a → a.block ∉ [bM] from fun a e hm => by have := hAb a e; simp at hm; omega)
          have HAn := Lib.hid (show ∀ a, A4 = some a → a.block ∉ [n0] from fun a e hm => by have := hAb a e; simp at hm; omega)
          replace HAt := Lib.hid (HAt.out.look hx)
          obtain ⟨L, hL⟩ : ∃ L, codeL 0 tc b0 bk c0 tk tv = L := ⟨_, rfl⟩
          have hst := ApIn.step0 H3.out (by omega) HIn.out tk tv HU.out hL
          have hus := useL_of (codeL_use 0 tc b0 bk c0 tk tv HU.out)
          rw [hL] at hR hus ⊢
          have HR := Lib.hid hR; have HG1 := Lib.hid hst.1; have HG2 := Lib.hid hst.2; have HUs := Lib.hid hus
          clear hR hAb hx hst hus hL p0 p1 p2 p3 pl d0 d1 d2 d3 hb hbm hbn u0 u1 hmod
          have q0 : w4.cell? ⟨bO, 0, none⟩ = some (.slice (some ⟨n0, 0, none⟩) 504 504) := HAt.out.o.cell 0
          have ql : bO < w4.heap.size := HAt.out.o.lt
          go_wp2_with fail
          replace HAt := Lib.hid (HAt.out.look ((Chg.refl [] w4).drew))
          replace HR := Lib.hid (HR.out.chg0 ((Chg.refl [] w4).drew))
          go_region_held3 (fun w' => w'.cell? ⟨bO, 0, none⟩ = some (.slice (some ⟨n0, 0, none⟩) 504 504)) (exact HAt.out.o.cell 0) (first
        | (go_at_call 22; (with_reducible refine (answers_at A4 cp4 L bM M (Nat.le_trans HUs.out.1 (by decide)) HUs.out.2.2 HIn.out.m HR.out HAm.out HAt.out.m (Chg.refl _ _)).mono ?_); rintro e w5 ⟨a0, a1, a2, ha, rfl, hbk, hx⟩; replace HAt := Lib.hid (HAt.out.runM hx hbk); replace HR := Lib.hid (HR.out.chg hx HAm.out); have HQ := Lib.hid (HG1.out.symm.trans ha); clear ha hbk hx)
        | (go_at_call 22; (with_reducible refine (answers_at A4 cp4 L n0 N0 (Nat.le_trans HUs.out.1 (by decide)) HUs.out.2.2 HIn.out.m0 HR.out HAn.out HAt.out.m0 (Chg.refl _ _)).mono ?_); rintro e w6 ⟨e0, e1, e2, ha, rfl, hbk, hx⟩; replace HAt := Lib.hid (HAt.out.run0 hx hbk); obtain ⟨rfl, rfl, rfl⟩ : a0 = e0 ∧ a1 = e1 ∧ a2 = e2 := (by have := HQ.out.symm.trans ha; simpa using this); have hqr : eqInts [a0, a1, a2] [a0, a1, a2] = true := (by simp [eqInts]); clear ha hbk hx)
        | fail)
          go_wp2_with fail
          go_roundw
          case rel => exact ⟨i + 1, _, _, _, _, by omega, by go_num, HG2.out, HAt.out⟩
          case measure => simp [intOf]; omega
      · skip
        have p0 : wr.cell? ⟨bp, 4, none⟩ = some (.int .i64 1) := HAt.out.p.cell 4
        have p1 : wr.cell? ⟨bp, 5, none⟩ = some (.int .i64 b1) := HAt.out.p.cell 5
        have p2 : wr.cell? ⟨bp, 6, none⟩ = some (.int .i64 bk) := HAt.out.p.cell 6
        have p3 : wr.cell? ⟨bp, 7, none⟩ = some (.int .i64 c1) := HAt.out.p.cell 7
        have pl : bp < wr.heap.size := HAt.out.p.lt
        go_wp2_with fail
        have HX := Lib.hid ((Chg.refl [] wr).drew)
        go_region_held3 (fun w' => w'.cell? ⟨bp, 4, none⟩ = some (.int .i64 1) ∧ w'.cell? ⟨bp, 5, none⟩ = some (.int .i64 b1) ∧ w'.cell? ⟨bp, 6, none⟩ = some (.int .i64 bk) ∧ w'.cell? ⟨bp, 7, none⟩ = some (.int .i64 c1) ∧ w'.cell? ⟨b, off + i * 4 + 1, none⟩ = some (.int .i64 tc) ∧ w'.cell? ⟨b, off + i * 4 + 2, none⟩ = some (.int .u64 tk) ∧ w'.cell? ⟨b, off + i * 4 + 3, none⟩ = some (.int .u64 tv)) (exact ⟨(HX.out.blk HAt.out.p (by simp)).cell 4, (HX.out.blk HAt.out.p (by simp)).cell 5, (HX.out.blk HAt.out.p (by simp)).cell 6, (HX.out.blk HAt.out.p (by simp)).cell 7, (HX.out.cell0 hb _).trans d1, (HX.out.cell0 hb _).trans d2, (HX.out.cell0 hb _).trans d3⟩) (first | (go_at_call 16; refine (usual_any _ 1 tc b1 bk c1 tk tv (by decide)).mono ?_; rintro e w3 ⟨rfl, hx⟩; replace HX := Lib.hid (HX.out.trans hx); clear hx) | fail)
        have hx2 := HX.out
        replace HAt := Lib.hid (HAt.out.look hx2)
        replace d0 := (hx2.cell0 hb _).trans d0
        replace d1 := (hx2.cell0 hb _).trans d1
        replace d2 := (hx2.cell0 hb _).trans d2
        replace d3 := (hx2.cell0 hb _).trans d3
        clear p0 p1 p2 p3 pl HX
        replace hb := Nat.lt_of_lt_of_le hb hx2.size
        clear hx2
        cases hu : usualB 1 tc
        · go_wp2_with fail
          go_roundw
          case rel => exact ⟨i + 1, M, N0, N1, N2, by omega, by go_num, HIn.out.skip, HAt.out⟩
          case measure => simp [intOf]; omega
        · have HU := Lib.hid hu
          clear hu
          have p0 : w3.cell? ⟨bp, 4, none⟩ = some (.int .i64 1) := HAt.out.p.cell 4
          have p1 : w3.cell? ⟨bp, 5, none⟩ = some (.int .i64 b1) := HAt.out.p.cell 5
          have p2 : w3.cell? ⟨bp, 6, none⟩ = some (.int .i64 bk) := HAt.out.p.cell 6
          have p3 : w3.cell? ⟨bp, 7, none⟩ = some (.int .i64 c1) := HAt.out.p.cell 7
          have pl : bp < w3.heap.size := HAt.out.p.lt
          go_wp2_with fail
          have HX := Lib.hid ((Chg.refl [] w3).drew)
          go_region_held3 (fun w' => w'.cell? ⟨bp, 4, none⟩ = some (.int .i64 1) ∧ w'.cell? ⟨bp, 5, none⟩ = some (.int .i64 b1) ∧ w'.cell? ⟨bp, 6, none⟩ = some (.int .i64 bk) ∧ w'.cell? ⟨bp, 7, none⟩ = some (.int .i64 c1) ∧ w'.cell? ⟨b, off + i * 4 + 1, none⟩ = some (.int .i64 tc) ∧ w'.cell? ⟨b, off + i * 4 + 2, none⟩ = some (.int .u64 tk) ∧ w'.cell? ⟨b, off + i * 4 + 3, none⟩ = some (.int .u64 tv)) (exact ⟨(HX.out.blk HAt.out.p (by simp)).cell 4, (HX.out.blk HAt.out.p (by simp)).cell 5, (HX.out.blk HAt.out.p (by simp)).cell 6, (HX.out.blk HAt.out.p (by simp)).cell 7, (HX.out.cell0 hb _).trans d1, (HX.out.cell0 hb _).trans d2, (HX.out.cell0 hb _).trans d3⟩) (first | (go_at_call 17; refine (Code_at HX.out 1 tc b1 bk c1 tk tv HU.out k0 k1 v0 v1 (fits_pl H3.out.pl.2.1 (by decide))).mono ?_; rintro e w4 ⟨A4, cp4, rfl, hR, hAb, hx⟩; replace HX := Lib.hid hx; have HR := Lib.hid hR; have HAb := Lib.hid hAb; clear hx hR hAb) | fail)
          have hx := HX.out; have hR := HR.out; have hAb := HAb.out
          clear HX HR HAb
          have hbm : bM < w3.heap.size := HAt.out.m.lt
          have hbn : n1 < w3.heap.size := HAt.out.m1.lt
          have HAm := Lib.hid (show ∀ a, A4 = some a → a.block ∉ [bM] from fun a e hm => by have := hAb a e; simp at hm; omega)
          have HAn := Lib.hid (show ∀ a, A4 = some a → a.block ∉ [n1] from fun a e hm => by have := hAb a e; simp at hm; omega)
          replace HAt := Lib.hid (HAt.out.look hx)
          obtain ⟨L, hL⟩ : ∃ L, codeL 1 tc b1 bk c1 tk tv = L := ⟨_, rfl⟩
          have hst := ApIn.step1 H3.out (by omega) HIn.out tk tv HU.out hL
          have hus := useL_of (codeL_use 1 tc b1 bk c1 tk tv HU.out)
          rw [hL] at hR hus ⊢
          have HR := Lib.hid hR; have HG1 := Lib.hid hst.1; have HG2 := Lib.hid hst.2; have HUs := Lib.hid hus
          clear hR hAb hx hst hus hL p0 p1 p2 p3 pl d0 d1 d2 d3 hb hbm hbn u0 u1 hmod
          have q0 : w4.cell? ⟨bO, 1, none⟩ = some (.slice (some ⟨n1, 0, none⟩) 504 504) := HAt.out.o.cell 1
          have ql : bO < w4.heap.size := HAt.out.o.lt
          go_wp2_with fail
          replace HAt := Lib.hid (HAt.out.look ((Chg.refl [] w4).drew))
          replace HR := Lib.hid (HR.out.chg0 ((Chg.refl [] w4).drew))
          go_region_held3 (fun w' => w'.cell? ⟨bO, 1, none⟩ = some (.slice (some ⟨n1, 0, none⟩) 504 504)) (exact HAt.out.o.cell 1) (first
        | (go_at_call 22; (with_reducible refine (answers_at A4 cp4 L bM M (Nat.le_trans HUs.out.1 (by decide)) HUs.out.2.2 HIn.out.m HR.out HAm.out HAt.out.m (Chg.refl _ _)).mono ?_); rintro e w5 ⟨a0, a1, a2, ha, rfl, hbk, hx⟩; replace HAt := Lib.hid (HAt.out.runM hx hbk); replace HR := Lib.hid (HR.out.chg hx HAm.out); have HQ := Lib.hid (HG1.out.symm.trans ha); clear ha hbk hx)
        | (go_at_call 22; (with_reducible refine (answers_at A4 cp4 L n1 N1 (Nat.le_trans HUs.out.1 (by decide)) HUs.out.2.2 HIn.out.m1 HR.out HAn.out HAt.out.m1 (Chg.refl _ _)).mono ?_); rintro e w6 ⟨e0, e1, e2, ha, rfl, hbk, hx⟩; replace HAt := Lib.hid (HAt.out.run1 hx hbk); obtain ⟨rfl, rfl, rfl⟩ : a0 = e0 ∧ a1 = e1 ∧ a2 = e2 := (by have := HQ.out.symm.trans ha; simpa using this); have hqr : eqInts [a0, a1, a2] [a0, a1, a2] = true := (by simp [eqInts]); clear ha hbk hx)
        | fail)
          go_wp2_with fail
          go_roundw
          case rel => exact ⟨i + 1, _, _, _, _, by omega, by go_num, HG2.out, HAt.out⟩
          case measure => simp [intOf]; omega
      · skip
        have p0 : wr.cell? ⟨bp, 8, none⟩ = some (.int .i64 2) := HAt.out.p.cell 8
        have p1 : wr.cell? ⟨bp, 9, none⟩ = some (.int .i64 b2) := HAt.out.p.cell 9
        have p2 : wr.cell? ⟨bp, 10, none⟩ = some (.int .i64 bk) := HAt.out.p.cell 10
        have p3 : wr.cell? ⟨bp, 11, none⟩ = some (.int .i64 c2) := HAt.out.p.cell 11
        have pl : bp < wr.heap.size := HAt.out.p.lt
        go_wp2_with fail
        have HX := Lib.hid ((Chg.refl [] wr).drew)
        go_region_held3 (fun w' => w'.cell? ⟨bp, 8, none⟩ = some (.int .i64 2) ∧ w'.cell? ⟨bp, 9, none⟩ = some (.int .i64 b2) ∧ w'.cell? ⟨bp, 10, none⟩ = some (.int .i64 bk) ∧ w'.cell? ⟨bp, 11, none⟩ = some (.int .i64 c2) ∧ w'.cell? ⟨b, off + i * 4 + 1, none⟩ = some (.int .i64 tc) ∧ w'.cell? ⟨b, off + i * 4 + 2, none⟩ = some (.int .u64 tk) ∧ w'.cell? ⟨b, off + i * 4 + 3, none⟩ = some (.int .u64 tv)) (exact ⟨(HX.out.blk HAt.out.p (by simp)).cell 8, (HX.out.blk HAt.out.p (by simp)).cell 9, (HX.out.blk HAt.out.p (by simp)).cell 10, (HX.out.blk HAt.out.p (by simp)).cell 11, (HX.out.cell0 hb _).trans d1, (HX.out.cell0 hb _).trans d2, (HX.out.cell0 hb _).trans d3⟩) (first | (go_at_call 16; refine (usual_any _ 2 tc b2 bk c2 tk tv (by decide)).mono ?_; rintro e w3 ⟨rfl, hx⟩; replace HX := Lib.hid (HX.out.trans hx); clear hx) | fail)
        have hx2 := HX.out
        replace HAt := Lib.hid (HAt.out.look hx2)
        replace d0 := (hx2.cell0 hb _).trans d0
        replace d1 := (hx2.cell0 hb _).trans d1
        replace d2 := (hx2.cell0 hb _).trans d2
        replace d3 := (hx2.cell0 hb _).trans d3
        clear p0 p1 p2 p3 pl HX
        replace hb := Nat.lt_of_lt_of_le hb hx2.size
        clear hx2
        cases hu : usualB 2 tc
        · go_wp2_with fail
          go_roundw
          case rel => exact ⟨i + 1, M, N0, N1, N2, by omega, by go_num, HIn.out.skip, HAt.out⟩
          case measure => simp [intOf]; omega
        · have HU := Lib.hid hu
          clear hu
          have p0 : w3.cell? ⟨bp, 8, none⟩ = some (.int .i64 2) := HAt.out.p.cell 8
          have p1 : w3.cell? ⟨bp, 9, none⟩ = some (.int .i64 b2) := HAt.out.p.cell 9
          have p2 : w3.cell? ⟨bp, 10, none⟩ = some (.int .i64 bk) := HAt.out.p.cell 10
          have p3 : w3.cell? ⟨bp, 11, none⟩ = some (.int .i64 c2) := HAt.out.p.cell 11
          have pl : bp < w3.heap.size := HAt.out.p.lt
          go_wp2_with fail
          have HX := Lib.hid ((Chg.refl [] w3).drew)
          go_region_held3 (fun w' => w'.cell? ⟨bp, 8, none⟩ = some (.int .i64 2) ∧ w'.cell? ⟨bp, 9, none⟩ = some (.int .i64 b2) ∧ w'.cell? ⟨bp, 10, none⟩ = some (.int .i64 bk) ∧ w'.cell? ⟨bp, 11, none⟩ = some (.int .i64 c2) ∧ w'.cell? ⟨b, off + i * 4 + 1, none⟩ = some (.int .i64 tc) ∧ w'.cell? ⟨b, off + i * 4 + 2, none⟩ = some (.int .u64 tk) ∧ w'.cell? ⟨b, off + i * 4 + 3, none⟩ = some (.int .u64 tv)) (exact ⟨(HX.out.blk HAt.out.p (by simp)).cell 8, (HX.out.blk HAt.out.p (by simp)).cell 9, (HX.out.blk HAt.out.p (by simp)).cell 10, (HX.out.blk HAt.out.p (by simp)).cell 11, (HX.out.cell0 hb _).trans d1, (HX.out.cell0 hb _).trans d2, (HX.out.cell0 hb _).trans d3⟩) (first | (go_at_call 17; refine (Code_at HX.out 2 tc b2 bk c2 tk tv HU.out k0 k1 v0 v1 (fits_pl H3.out.pl.2.2.1 (by decide))).mono ?_; rintro e w4 ⟨A4, cp4, rfl, hR, hAb, hx⟩; replace HX := Lib.hid hx; have HR := Lib.hid hR; have HAb := Lib.hid hAb; clear hx hR hAb) | fail)
          have hx := HX.out; have hR := HR.out; have hAb := HAb.out
          clear HX HR HAb
          have hbm : bM < w3.heap.size := HAt.out.m.lt
          have hbn : n2 < w3.heap.size := HAt.out.m2.lt
          have HAm := Lib.hid (show ∀ a, A4 = some a → a.block ∉ [bM] from fun a e hm => by have := hAb a e; simp at hm; omega)
          have HAn := Lib.hid (show ∀ a, A4 = some a → a.block ∉ [n2] from fun a e hm => by have := hAb a e; simp at hm; omega)
          replace HAt := Lib.hid (HAt.out.look hx)
          obtain ⟨L, hL⟩ : ∃ L, codeL 2 tc b2 bk c2 tk tv = L := ⟨_, rfl⟩
          have hst := ApIn.step2 H3.out (by omega) HIn.out tk tv HU.out hL
          have hus := useL_of (codeL_use 2 tc b2 bk c2 tk tv HU.out)
          rw [hL] at hR hus ⊢
          have HR := Lib.hid hR; have HG1 := Lib.hid hst.1; have HG2 := Lib.hid hst.2; have HUs := Lib.hid hus
          clear hR hAb hx hst hus hL p0 p1 p2 p3 pl d0 d1 d2 d3 hb hbm hbn u0 u1 hmod
          have q0 : w4.cell? ⟨bO, 2, none⟩ = some (.slice (some ⟨n2, 0, none⟩) 504 504) := HAt.out.o.cell 2
          have ql : bO < w4.heap.size := HAt.out.o.lt
          go_wp2_with fail
          replace HAt := Lib.hid (HAt.out.look ((Chg.refl [] w4).drew))
          replace HR := Lib.hid (HR.out.chg0 ((Chg.refl [] w4).drew))
          go_region_held3 (fun w' => w'.cell? ⟨bO, 2, none⟩ = some (.slice (some ⟨n2, 0, none⟩) 504 504)) (exact HAt.out.o.cell 2) (first
        | (go_at_call 22; (with_reducible refine (answers_at A4 cp4 L bM M (Nat.le_trans HUs.out.1 (by decide)) HUs.out.2.2 HIn.out.m HR.out HAm.out HAt.out.m (Chg.refl _ _)).mono ?_); rintro e w5 ⟨a0, a1, a2, ha, rfl, hbk, hx⟩; replace HAt := Lib.hid (HAt.out.runM hx hbk); replace HR := Lib.hid (HR.out.chg hx HAm.out); have HQ := Lib.hid (HG1.out.symm.trans ha); clear ha hbk hx)
        | (go_at_call 22; (with_reducible refine (answers_at A4 cp4 L n2 N2 (Nat.le_trans HUs.out.1 (by decide)) HUs.out.2.2 HIn.out.m2 HR.out HAn.out HAt.out.m2 (Chg.refl _ _)).mono ?_); rintro e w6 ⟨e0, e1, e2, ha, rfl, hbk, hx⟩; replace HAt := Lib.hid (HAt.out.run2 hx hbk); obtain ⟨rfl, rfl, rfl⟩ : a0 = e0 ∧ a1 = e1 ∧ a2 = e2 := (by have := HQ.out.symm.trans ha; simpa using this); have hqr : eqInts [a0, a1, a2] [a0, a1, a2] = true := (by simp [eqInts]); clear ha hbk hx)
        | fail)
          go_wp2_with fail
          go_roundw
          case rel => exact ⟨i + 1, _, _, _, _, by omega, by go_num, HG2.out, HAt.out⟩
          case measure => simp [intOf]; omega
    · obtain rfl : i = l.length := by omega
      have hAA := hAt
      clear HA HL hq hlm hl3 hi hlt
      obtain ⟨pl0, pl1, pl2, -, -, -⟩ := H3.out.pl
      have HIn := Lib.hid hIn
      have HAt := Lib.hid hAt
      have HPl := Lib.hid (And.intro pl0 (And.intro pl1 pl2))
      clear hIn hAt hAA pl0 pl1 pl2
      go_wp2_with fail
      refine wp_loop_rounds 4 ?_
      rw [rounds_succ]
      have p0 : wr.cell? ⟨bp, 0, none⟩ = some (.int .i64 0) := HAt.out.p.cell 0
      have p1 : wr.cell? ⟨bp, 1, none⟩ = some (.int .i64 b0) := HAt.out.p.cell 1
      have p2 : wr.cell? ⟨bp, 2, none⟩ = some (.int .i64 bk) := HAt.out.p.cell 2
      have p3 : wr.cell? ⟨bp, 3, none⟩ = some (.int .i64 c0) := HAt.out.p.cell 3
      have pl : bp < wr.heap.size := HAt.out.p.lt
      go_wp2_with fail
      refine (Size_any _ 0 b0 bk c0 (by decide)).mono ?_
      rintro e ws0 ⟨rfl, hx⟩
      replace HAt := Lib.hid (HAt.out.look hx)
      clear hx p0 p1 p2 p3 pl
      have hp := HPl.out.1
      have hb0 := hp.b0; have htop := hp.top
      have hag := Lib.hid HIn.out.a0
      have hnn : 0 ≤ sizeK 0 bk c0 := (sizeK_range _ _ _).1
      obtain ⟨nn, hnk⟩ : ∃ n, sizeK 0 bk c0 = n := ⟨_, rfl⟩
      rw [hnk] at htop hag hnn ⊢
      clear hp hnk
      have p0 : ws0.cell? ⟨bp, 0, none⟩ = some (.int .i64 0) := HAt.out.p.cell 0
      have p1 : ws0.cell? ⟨bp, 1, none⟩ = some (.int .i64 b0) := HAt.out.p.cell 1
      have p2 : ws0.cell? ⟨bp, 2, none⟩ = some (.int .i64 bk) := HAt.out.p.cell 2
      have p3 : ws0.cell? ⟨bp, 3, none⟩ = some (.int .i64 c0) := HAt.out.p.cell 3
      have pl : bp < ws0.heap.size := HAt.out.p.lt
      go_wp2_with fail
      go_loopw [16] (fun s wx => ∃ j : Int, b0 ≤ j ∧ j ≤ b0 + nn ∧ s = .int .i64 j ∧ Chg [] ws0 wx) (fun s _ => (b0 + nn - intOf s).toNat)
      case atStart => exact ⟨b0, by omega, by omega, rfl, Chg.refl _ _⟩
      case round =>
        obtain ⟨j, j0, j1, rfl, hC⟩ := hrel
        clear p0 p1 p2 p3 pl
        replace HAt := Lib.hid (HAt.out.look hC)
        rename World => wy
        have p0 : wy.cell? ⟨bp, 0, none⟩ = some (.int .i64 0) := HAt.out.p.cell 0
        have p1 : wy.cell? ⟨bp, 1, none⟩ = some (.int .i64 b0) := HAt.out.p.cell 1
        have p2 : wy.cell? ⟨bp, 2, none⟩ = some (.int .i64 bk) := HAt.out.p.cell 2
        have p3 : wy.cell? ⟨bp, 3, none⟩ = some (.int .i64 c0) := HAt.out.p.cell 3
        have pl : bp < wy.heap.size := HAt.out.p.lt
        by_cases hlt : j < b0 + nn
        · have hml : M.length = 504 := HIn.out.m.1
          have hnl : N0.length = 504 := HIn.out.m0.1
          have q1 : wy.cell? ⟨bM, j.toNat, none⟩ = some (.int .u64 (mm M j)) := (HAt.out.m.cell _).trans (map_get (by omega))
          have q2 : wy.cell? ⟨n0, j.toNat, none⟩ = some (.int .u64 (mm M j)) := ((HAt.out.m0.cell _).trans (map_get (by omega))).trans (by rw [hag.out j j0 hlt]; rfl)
          have q3 : wy.cell? ⟨bO, 0, none⟩ = some (.slice (some ⟨n0, 0, none⟩) 504 504) := HAt.out.o.cell 0
          have l1 : bM < wy.heap.size := HAt.out.m.lt
          have l2 : n0 < wy.heap.size := HAt.out.m0.lt
          have l3 : bO < wy.heap.size := HAt.out.o.lt
          have HC := Lib.hid hC
          have j2 : j ≤ 503 := by omega
          have j3 : 0 ≤ j := by omega
          clear hC hml hnl
          generalize mm M j = vv at *
          go_wp2_with fail
          go_quiet (fail)
          go_wp2_with fail
          go_roundw
          case rel => exact ⟨j + 1, by omega, by omega, by go_num, HC.out.drewN _⟩
          case measure => simp [intOf]; omega
        · obtain rfl : j = b0 + nn := by omega
          clear hC hag
          go_wp2_with fail
          clear p0 p1 p2 p3 pl
          have hE0 := hnn
          clear hlt j0 j1 hE0 hnn htop hb0
          obtain ⟨wz0, hwz⟩ : ∃ x, x = wy := ⟨_, rfl⟩
          rw [← hwz] at HAt ⊢
          clear hwz
          rw [rounds_succ]
          have p0 : wz0.cell? ⟨bp, 4, none⟩ = some (.int .i64 1) := HAt.out.p.cell 4
          have p1 : wz0.cell? ⟨bp, 5, none⟩ = some (.int .i64 b1) := HAt.out.p.cell 5
          have p2 : wz0.cell? ⟨bp, 6, none⟩ = some (.int .i64 bk) := HAt.out.p.cell 6
          have p3 : wz0.cell? ⟨bp, 7, none⟩ = some (.int .i64 c1) := HAt.out.p.cell 7
          have pl : bp < wz0.heap.size := HAt.out.p.lt
          go_wp2_with fail
          refine (Size_any _ 1 b1 bk c1 (by decide)).mono ?_
          rintro e ws1 ⟨rfl, hx⟩
          replace HAt := Lib.hid (HAt.out.look hx)
          clear hx p0 p1 p2 p3 pl
          have hp := HPl.out.2.1
          have hb0 := hp.b0; have htop := hp.top
          have hag := Lib.hid HIn.out.a1
          have hnn : 0 ≤ sizeK 1 bk c1 := (sizeK_range _ _ _).1
          obtain ⟨nn, hnk⟩ : ∃ n, sizeK 1 bk c1 = n := ⟨_, rfl⟩
          rw [hnk] at htop hag hnn ⊢
          clear hp hnk
          have p0 : ws1.cell? ⟨bp, 4, none⟩ = some (.int .i64 1) := HAt.out.p.cell 4
          have p1 : ws1.cell? ⟨bp, 5, none⟩ = some (.int .i64 b1) := HAt.out.p.cell 5
          have p2 : ws1.cell? ⟨bp, 6, none⟩ = some (.int .i64 bk) := HAt.out.p.cell 6
          have p3 : ws1.cell? ⟨bp, 7, none⟩ = some (.int .i64 c1) := HAt.out.p.cell 7
          have pl : bp < ws1.heap.size := HAt.out.p.lt
          go_wp2_with fail
          go_loopw [16] (fun s wx => ∃ j : Int, b1 ≤ j ∧ j ≤ b1 + nn ∧ s = .int .i64 j ∧ Chg [] ws1 wx) (fun s _ => (b1 + nn - intOf s).toNat)
          case atStart => exact ⟨b1, by omega, by omega, rfl, Chg.refl _ _⟩
          case round =>
            obtain ⟨j, j0, j1, rfl, hC⟩ := hrel
            clear p0 p1 p2 p3 pl
            replace HAt := Lib.hid (HAt.out.look hC)
            rename World => wy
            have p0 : wy.cell? ⟨bp, 4, none⟩ = some (.int .i64 1) := HAt.out.p.cell 4
            have p1 : wy.cell? ⟨bp, 5, none⟩ = some (.int .i64 b1) := HAt.out.p.cell 5
            have p2 : wy.cell? ⟨bp, 6, none⟩ = some (.int .i64 bk) := HAt.out.p.cell 6
            have p3 : wy.cell? ⟨bp, 7, none⟩ = some (.int .i64 c1) := HAt.out.p.cell 7
            have pl : bp < wy.heap.size := HAt.out.p.lt
            by_cases hlt : j < b1 + nn
            · have hml : M.length = 504 := HIn.out.m.1
              have hnl : N1.length = 504 := HIn.out.m1.1
              have q1 : wy.cell? ⟨bM, j.toNat, none⟩ = some (.int .u64 (mm M j)) := (HAt.out.m.cell _).trans (map_get (by omega))
              have q2 : wy.cell? ⟨n1, j.toNat, none⟩ = some (.int .u64 (mm M j)) := ((HAt.out.m1.cell _).trans (map_get (by omega))).trans (by rw [hag.out j j0 hlt]; rfl)
              have q3 : wy.cell? ⟨bO, 1, none⟩ = some (.slice (some ⟨n1, 0, none⟩) 504 504) := HAt.out.o.cell 1
              have l1 : bM < wy.heap.size := HAt.out.m.lt
              have l2 : n1 < wy.heap.size := HAt.out.m1.lt
              have l3 : bO < wy.heap.size := HAt.out.o.lt
              have HC := Lib.hid hC
              have j2 : j ≤ 503 := by omega
              have j3 : 0 ≤ j := by omega
              clear hC hml hnl
              generalize mm M j = vv at *
              go_wp2_with fail
              go_quiet (fail)
              go_wp2_with fail
              go_roundw
              case rel => exact ⟨j + 1, by omega, by omega, by go_num, HC.out.drewN _⟩
              case measure => simp [intOf]; omega
            · obtain rfl : j = b1 + nn := by omega
              clear hC hag
              go_wp2_with fail
              clear p0 p1 p2 p3 pl
              have hE1 := hnn
              clear hlt j0 j1 hE1 hnn htop hb0
              obtain ⟨wz1, hwz⟩ : ∃ x, x = wy := ⟨_, rfl⟩
              rw [← hwz] at HAt ⊢
              clear hwz
              rw [rounds_succ]
              have p0 : wz1.cell? ⟨bp, 8, none⟩ = some (.int .i64 2) := HAt.out.p.cell 8
              have p1 : wz1.cell? ⟨bp, 9, none⟩ = some (.int .i64 b2) := HAt.out.p.cell 9
              have p2 : wz1.cell? ⟨bp, 10, none⟩ = some (.int .i64 bk) := HAt.out.p.cell 10
              have p3 : wz1.cell? ⟨bp, 11, none⟩ = some (.int .i64 c2) := HAt.out.p.cell 11
              have pl : bp < wz1.heap.size := HAt.out.p.lt
              go_wp2_with fail
              refine (Size_any _ 2 b2 bk c2 (by decide)).mono ?_
              rintro e ws2 ⟨rfl, hx⟩
              replace HAt := Lib.hid (HAt.out.look hx)
              clear hx p0 p1 p2 p3 pl
              have hp := HPl.out.2.2
              have hb0 := hp.b0; have htop := hp.top
              have hag := Lib.hid HIn.out.a2
              have hnn : 0 ≤ sizeK 2 bk c2 := (sizeK_range _ _ _).1
              obtain ⟨nn, hnk⟩ : ∃ n, sizeK 2 bk c2 = n := ⟨_, rfl⟩
              rw [hnk] at htop hag hnn ⊢
              clear hp hnk
              have p0 : ws2.cell? ⟨bp, 8, none⟩ = some (.int .i64 2) := HAt.out.p.cell 8
              have p1 : ws2.cell? ⟨bp, 9, none⟩ = some (.int .i64 b2) := HAt.out.p.cell 9
              have p2 : ws2.cell? ⟨bp, 10, none⟩ = some (.int .i64 bk) := HAt.out.p.cell 10
              have p3 : ws2.cell? ⟨bp, 11, none⟩ = some (.int .i64 c2) := HAt.out.p.cell 11
              have pl : bp < ws2.heap.size := HAt.out.p.lt
              go_wp2_with fail
              go_loopw [16] (fun s wx => ∃ j : Int, b2 ≤ j ∧ j ≤ b2 + nn ∧ s = .int .i64 j ∧ Chg [] ws2 wx) (fun s _ => (b2 + nn - intOf s).toNat)
              case atStart => exact ⟨b2, by omega, by omega, rfl, Chg.refl _ _⟩
              case round =>
                obtain ⟨j, j0, j1, rfl, hC⟩ := hrel
                clear p0 p1 p2 p3 pl
                replace HAt := Lib.hid (HAt.out.look hC)
                rename World => wy
                have p0 : wy.cell? ⟨bp, 8, none⟩ = some (.int .i64 2) := HAt.out.p.cell 8
                have p1 : wy.cell? ⟨bp, 9, none⟩ = some (.int .i64 b2) := HAt.out.p.cell 9
                have p2 : wy.cell? ⟨bp, 10, none⟩ = some (.int .i64 bk) := HAt.out.p.cell 10
                have p3 : wy.cell? ⟨bp, 11, none⟩ = some (.int .i64 c2) := HAt.out.p.cell 11
                have pl : bp < wy.heap.size := HAt.out.p.lt
                by_cases hlt : j < b2 + nn
                · have hml : M.length = 504 := HIn.out.m.1
                  have hnl : N2.length = 504 := HIn.out.m2.1
                  have q1 : wy.cell? ⟨bM, j.toNat, none⟩ = some (.int .u64 (mm M j)) := (HAt.out.m.cell _).trans (map_get (by omega))
                  have q2 : wy.cell? ⟨n2, j.toNat, none⟩ = some (.int .u64 (mm M j)) := ((HAt.out.m2.cell _).trans (map_get (by omega))).trans (by rw [hag.out j j0 hlt]; rfl)
                  have q3 : wy.cell? ⟨bO, 2, none⟩ = some (.slice (some ⟨n2, 0, none⟩) 504 504) := HAt.out.o.cell 2
                  have l1 : bM < wy.heap.size := HAt.out.m.lt
                  have l2 : n2 < wy.heap.size := HAt.out.m2.lt
                  have l3 : bO < wy.heap.size := HAt.out.o.lt
                  have HC := Lib.hid hC
                  have j2 : j ≤ 503 := by omega
                  have j3 : 0 ≤ j := by omega
                  clear hC hml hnl
                  generalize mm M j = vv at *
                  go_wp2_with fail
                  go_quiet (fail)
                  go_wp2_with fail
                  go_roundw
                  case rel => exact ⟨j + 1, by omega, by omega, by go_num, HC.out.drewN _⟩
                  case measure => simp [intOf]; omega
                · obtain rfl : j = b2 + nn := by omega
                  clear hC hag
                  go_wp2_with fail
                  clear p0 p1 p2 p3 pl
                  have hE2 := hnn
                  clear hlt j0 j1 hE2 hnn htop hb0
                  obtain ⟨wz2, hwz⟩ : ∃ x, x = wy := ⟨_, rfl⟩
                  rw [← hwz] at HAt ⊢
                  clear hwz
                  rw [rounds_succ]
                  go_wp2_with fail
                  go_ret
                  exact ⟨rfl, HAt.out.chg.nil_below⟩

end Go.Proofs.Ythlhjahhjoclfaa
