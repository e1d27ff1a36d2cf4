/- A code that comes about: what puts instructions over put; places and what goes to them. -/
import Derived.Test.YthlhjahhjoclfaaCd1
namespace Go.Proofs.Ythlhjahhjoclfaa
set_option maxRecDepth 100000
open Go.RowKit

abbrev St.three (s : St) (op a b d : Int) : St := s.put ⟨op, a, b, d, 0⟩
abbrev St.set (s : St) (a n : Int) : St := s.put ⟨2, a, 0, 0, n⟩
abbrev St.load (s : St) (a b i : Int) : St := s.put ⟨11, a, b, 0, i⟩
abbrev St.store (s : St) (a b i : Int) : St := s.put ⟨12, a, b, 0, i⟩
abbrev St.when (s : St) (op a b : Int) (n : ByteArray) : St := (s.go n).put ⟨op, a, b, 0, 0⟩
abbrev St.jump (s : St) (n : ByteArray) : St := s.when 13 0 0 n
abbrev St.more (s : St) (a b n k : Int) : St := (s.set k n).three 4 a b k

theorem three_any (base n : Nat) (w : World) (b : Nat) (s : St) (op x y d : Int) (hn : n ≤ 5000) (h : CodeAt base n w b s) :
    Calls Try.prog 45 #[.pointer (some ⟨b, 0, none⟩), .int .i64 op, .int .i64 x, .int .i64 y, .int .i64 d] w (CPost base (n + 1) w b (s.three op x y d)) := by
  have H := Lib.hid h
  clear h
  go_enter Try.func45, Try.ntmps45
  go_wp2_with fail
  refine (put_any base n _ b s ⟨op, x, y, d, 0⟩ hn H.out).mono ?_
  rintro e w1 ⟨rfl, hC, hK⟩
  go_wp2_with fail
  go_end0
  exact ⟨rfl, hC, hK⟩

theorem set_any (base n : Nat) (w : World) (b : Nat) (s : St) (x k : Int) (hn : n ≤ 5000) (h : CodeAt base n w b s) :
    Calls Try.prog 43 #[.pointer (some ⟨b, 0, none⟩), .int .i64 x, .int .i64 k] w (CPost base (n + 1) w b (s.set x k)) := by
  have H := Lib.hid h
  clear h
  go_enter Try.func43, Try.ntmps43
  go_wp2_with fail
  refine (put_any base n _ b s ⟨2, x, 0, 0, k⟩ hn H.out).mono ?_
  rintro e w1 ⟨rfl, hC, hK⟩
  go_wp2_with fail
  go_end0
  exact ⟨rfl, hC, hK⟩

theorem load_any (base n : Nat) (w : World) (b : Nat) (s : St) (x y k : Int) (hn : n ≤ 5000) (h : CodeAt base n w b s) :
    Calls Try.prog 42 #[.pointer (some ⟨b, 0, none⟩), .int .i64 x, .int .i64 y, .int .i64 k] w (CPost base (n + 1) w b (s.load x y k)) := by
  have H := Lib.hid h
  clear h
  go_enter Try.func42, Try.ntmps42
  go_wp2_with fail
  refine (put_any base n _ b s ⟨11, x, y, 0, k⟩ hn H.out).mono ?_
  rintro e w1 ⟨rfl, hC, hK⟩
  go_wp2_with fail
  go_end0
  exact ⟨rfl, hC, hK⟩

theorem store_any (base n : Nat) (w : World) (b : Nat) (s : St) (x y k : Int) (hn : n ≤ 5000) (h : CodeAt base n w b s) :
    Calls Try.prog 47 #[.pointer (some ⟨b, 0, none⟩), .int .i64 x, .int .i64 y, .int .i64 k] w (CPost base (n + 1) w b (s.store x y k)) := by
  have H := Lib.hid h
  clear h
  go_enter Try.func47, Try.ntmps47
  go_wp2_with fail
  refine (put_any base n _ b s ⟨12, x, y, 0, k⟩ hn H.out).mono ?_
  rintro e w1 ⟨rfl, hC, hK⟩
  go_wp2_with fail
  go_end0
  exact ⟨rfl, hC, hK⟩

/-- Behind an append onto what goes. -/
theorem go_done {base n : Nat} {w w1 w6 : World} {b mb : Nat} {s : St} {nm : ByteArray} {vl vg : Value} {g c : Nat} (hnm : nm.size ≤ 100) (h : CodeIn base n w b s vl mb vg) (hc : Chg [] w w1)
    (hown : w6.ownsRow base 107 2 (.slice (some ⟨g, 0, none⟩) (s.goes.length + 1) c) (s.goes.length + 1) (s.goes.flatMap encG ++ encG ((s.list.length : Int), nm))) (hgr : w1.grownBy w6 vg.ownBlock) (hat : vg.ownBlock = some g ∨ g = w1.heap.size) :
    CodeAt base (n + 1) (w6.setCell ⟨b, 2, none⟩ (.slice (some ⟨g, 0, none⟩) (s.goes.length + 1) c)) b (s.go nm) ∧ Kp base w (w6.setCell ⟨b, 2, none⟩ (.slice (some ⟨g, 0, none⟩) (s.goes.length + 1) c)) := by
  have h1 := h.chg hc
  obtain ⟨n1, n2, n3, n4, n5, n6⟩ := h1.ne
  have hG := Chg.of_grown hgr
  have hB6 := hG.blk h1.blk n3
  have hgb : g ≠ b := by
    rintro rfl
    rcases hat with e | e
    · exact n3 (by rw [e]; simp)
    · have := h1.blk.lt; omega
  have hset : Chg [b] w6 (w6.setCell ⟨b, 2, none⟩ (.slice (some ⟨g, 0, none⟩) (s.goes.length + 1) c)) := (Chg.refl _ _).setCell (p := ⟨b, 2, none⟩) (by simp) _
  refine ⟨⟨_, mb, _, hB6.set 2 _, ?_, ?_, ?_, h.bb, h.bm, ?_, ?_⟩, ?_⟩
  · exact ownsRow_chg (ownsRow_chg h1.row hG (fun x hx hx' => n6 x hx hx')) hset (fun x hx => by simp; rintro rfl; exact n2 hx)
  · exact ownsMap_chg (ownsMap_chg h1.map hG n5) hset (by simpa using n1.symm)
  · have := ownsRow_chg hown hset (by simpa [Value.ownBlock] using hgb)
    simpa [St.go] using this
  · have := h.ln; simp [St.go]; omega
  · intro q hq
    simp [St.go] at hq ⊢
    rcases hq with hq | rfl
    · exact h.ok q hq
    · exact ⟨hnm, by simp, by simp⟩
  · exact (Kp.of_nil hc).trans ((Kp.grown h1.gos rfl hgr).trans (Kp.set hB6 rfl h.bb 2 _))

set_option maxHeartbeats 1000000 in
theorem when_any (base n : Nat) (w : World) (b : Nat) (s : St) (op x y : Int) (nm : ByteArray) (hnm : nm.size ≤ 100) (hn : n ≤ 4900) (h : CodeAt base n w b s) :
    Calls Try.prog 44 #[.pointer (some ⟨b, 0, none⟩), .int .i64 op, .int .i64 x, .int .i64 y, .string nm] w (CPost base (n + 2) w b (s.when op x y nm)) := by
  obtain ⟨vl, mb, vg, h⟩ := h
  obtain ⟨A, cap, rfl, hcap, hmax, _⟩ := ownsRow_cell h.row
  obtain ⟨A2, cap2, rfl, hcap2, hmax2, _⟩ := ownsRow_cell h.gos
  have k0 : w.cell? ⟨b, 0, none⟩ = some (.slice A s.list.length cap) := h.blk.cell 0
  have k2 : w.cell? ⟨b, 2, none⟩ = some (.slice A2 s.goes.length cap2) := h.blk.cell 2
  have hbl := h.blk.lt
  have hll : s.list.length ≤ 4900 := Nat.le_trans h.ln.1 hn
  have hlg : s.goes.length ≤ 4900 := Nat.le_trans h.ln.2.2 hn
  have H := Lib.hid h
  have HN := Lib.hid hnm
  have hbs : base ≤ w.heap.size := Nat.le_trans h.bb (Nat.le_of_lt h.blk.lt)
  clear h hnm
  obtain ⟨i0, hi, hz0, hz1, hz2⟩ := info_parts infoGone
  go_enter Try.func44, Try.ntmps44
  go_wp2_with fail
  go_region_law (refine step_append_lies _ (by rfl) (.tmp 14) (.tmp 22) 100 (by rfl) base 107 i0 (.agg #[.int .i64 0, .string ⟨#[]⟩]) 2 24 Try.underlying100 hi hz0 hz1 hz2 rfl (by omega) (.slice A2 s.goes.length cap2) s.goes.length (s.goes.flatMap encG) (by rfl) (ownsRow_chg H.out.gos ((((Chg.refl [] w).drew)).alloc _) (by simp)) ⟨w.heap.size, 0, none⟩ 1 1 [.int .i64 s.list.length, .string nm] (by rfl) (by rfl) (cells_at (by simp) [.int .i64 s.list.length, .string nm] _) (by simp [Value.oneCell']) (by omega) (by unfold maxLen; omega) (by omega) (by simp; omega) (w.heap.size + 1) (by simp) ?_; intro g3 c3 w6 hown6 hgrow6 hat6 hlt6; have HB6 := Lib.hid ((Chg.of_grown hgrow6).blk ((((Chg.refl [] w).drew).alloc _).blk H.out.blk (by simp)) H.out.ne.2.2.1); have HO6 := Lib.hid hown6; have HG6 := Lib.hid hgrow6; have HA6 := Lib.hid hat6; clear hown6 hgrow6 hat6; have k6 : w6.cell? ⟨b, 2, none⟩ = some (.slice A2 s.goes.length cap2) := HB6.out.cell 2; have f6 : w6.frozen? ⟨b, 2, none⟩ = false := HB6.out.free 2)
  all_goals
    have HQ := Lib.hid (go_done HN.out H.out ((((Chg.refl [] w).drew)).alloc _) HO6.out HG6.out (HA6.out.imp id (fun e => by rw [e]; simp)))
    clear HO6 HG6 HA6 HB6 k6 f6
    go_wp2_with fail
    refine (put_any base (n + 1) _ b (s.go nm) ⟨op, x, y, 0, 0⟩ (by omega) HQ.out.1).mono ?_
    rintro e w1 ⟨rfl, hC, hK⟩
    go_wp2_with fail
    go_end0
    exact ⟨rfl, hC, HQ.out.2.trans hK⟩

set_option maxHeartbeats 1000000 in
theorem here_any (base n : Nat) (w : World) (b : Nat) (s : St) (nm : ByteArray) (hnm : nm.size ≤ 100) (hn : n ≤ 5000) (h : CodeAt base n w b s) :
    Calls Try.prog 46 #[.pointer (some ⟨b, 0, none⟩), .string nm] w (CPost base (n + 1) w b (s.here nm)) := by
  obtain ⟨vl, mb, vg, h⟩ := h
  obtain ⟨A, cap, rfl, hcap, hmax, _⟩ := ownsRow_cell h.row
  have k0 : w.cell? ⟨b, 0, none⟩ = some (.slice A s.list.length cap) := h.blk.cell 0
  have k1 : w.cell? ⟨b, 1, none⟩ = some (.map (some mb)) := h.blk.cell 1
  have hbl := h.blk.lt
  have hll : s.list.length ≤ 5000 := Nat.le_trans h.ln.1 hn
  have hlp : s.places.length ≤ 5000 := Nat.le_trans h.ln.2.1 hn
  have H := Lib.hid h
  have hkey := Go.WideMaps.keyOf_string_mk Try.underlying9 (s := nm) (by unfold maxLen; omega)
  have hlen : (Lit.int .i64 (s.list.length : Int)).wf = true := by simp [Lit.wf, IntKind.min, IntKind.max, IntKind.signed, IntKind.bits]; omega
  have hown := h.map
  clear h hnm
  go_enter Try.func46, Try.ntmps46
  go_wp2_with fail
  go_still_tail 10, (by kernel_rfl)
  go_wp2_with (first
    | (at_mapUpdate; refine wpList_mapUpdate_own _ rfl _ _ _ 99 rfl 9 3 lawStr Try.underlying99 _ mb s.places.length (placesD s.places) rfl hown (by unfold maxLen; omega) _ _ _ rfl rfl hkey _ [] (plainElem_int Try.underlying3 hlen) ?_; intro w1 hown1 hgrow1; have HG1 := Lib.hid hgrow1; have HO1 := Lib.hid hown1; clear hgrow1 hown1 hown))
  go_end0
  have h := H.out
  obtain ⟨n1, n2, n3, n4, n5, n6⟩ := h.ne
  have hG := ((Chg.refl [mb] w).drewN 1).trans (Chg.of_grown HG1.out)
  refine ⟨rfl, ⟨_, mb, vg, hG.blk h.blk (by simpa using n1), ownsRow_chg h.row hG (fun x hx => by simp; rintro rfl; exact n4 hx), ?_, ownsRow_chg h.gos hG (fun x hx => by simp; rintro rfl; exact n5 hx), h.bb, h.bm, ?_, ?_⟩, ?_⟩
  · have := HO1.out
    rw [show (s.here nm).places = s.places ++ [(nm, (s.list.length : Int))] from rfl, placesD_snoc, List.length_append]
    exact this
  · have := h.ln; simp [St.here]; omega
  · intro q hq; exact h.ok q hq
  · exact ((Kp.refl base w).drewN 1).trans (Kp.mapped (ownsMap_chg h.map ((Chg.refl [] w).drewN 1) (by simp)) h.bm HG1.out)

theorem jump_any (base n : Nat) (w : World) (b : Nat) (s : St) (nm : ByteArray) (hnm : nm.size ≤ 100) (hn : n ≤ 4900) (h : CodeAt base n w b s) :
    Calls Try.prog 61 #[.pointer (some ⟨b, 0, none⟩), .string nm] w (CPost base (n + 2) w b (s.jump nm)) := by
  have H := Lib.hid h
  clear h
  go_enter Try.func61, Try.ntmps61
  go_wp2_with fail
  refine (when_any base n _ b s 13 0 0 nm hnm hn H.out).mono ?_
  rintro e w1 ⟨rfl, hC, hK⟩
  go_wp2_with fail
  go_end0
  exact ⟨rfl, hC, hK⟩

theorem more_any (base n : Nat) (w : World) (b : Nat) (s : St) (x y k r : Int) (hn : n ≤ 4900) (h : CodeAt base n w b s) :
    Calls Try.prog 48 #[.pointer (some ⟨b, 0, none⟩), .int .i64 x, .int .i64 y, .int .i64 k, .int .i64 r] w (CPost base (n + 2) w b (s.more x y k r)) := by
  have H := Lib.hid h
  clear h
  go_enter Try.func48, Try.ntmps48
  go_wp2_with fail
  refine (set_any base n _ b s r k (by omega) H.out).mono ?_
  rintro e w1 ⟨rfl, hC, hK⟩
  have HC := Lib.hid hC
  have HK := Lib.hid hK
  clear hC hK
  go_wp2_with fail
  refine (three_any base (n + 1) _ b _ 4 x y r (by omega) HC.out).mono ?_
  rintro e w2 ⟨rfl, hC, hK⟩
  go_wp2_with fail
  go_end0
  exact ⟨rfl, hC, HK.out.trans hK⟩

end Go.Proofs.Ythlhjahhjoclfaa
