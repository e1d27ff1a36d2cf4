/- The document's control: Abort. -/
import Derived.Test.YtdaehfilmhagiaaLanesR2
import Derived.Maps.AppendAt
namespace Go.Proofs.Ytdaehfilmhagiaa
open Go.RowKit

set_option maxHeartbeats 1000000 in
theorem refAbort_out0 (w : World) (b : Nat) (f s o n : Int) (ls : List Int) (h : RefAt w b f s o 0 ls) :
    Calls Try.prog 29 #[.pointer (some ⟨b, 0, none⟩), .int .i64 n] w (rPost w b f s o 0 ls (.tuple #[.int .i64 0, .int .i64 90])) := by
  obtain ⟨⟨v, x, y⟩, hm⟩ := id h
  have x3 : w.cell? ⟨b, 3, none⟩ = some (.int .i64 0) := x.cell 3
  clear x y
  go_enter Try.func29, Try.ntmps29
  go_wp2_with fail
  go_ret2
  exact ⟨rfl, h, Chg.refl _ _⟩

set_option maxHeartbeats 1000000 in
theorem refAbort_out4 (w : World) (b : Nat) (f s o n : Int) (ls : List Int) (h : RefAt w b f s o 4 ls) :
    Calls Try.prog 29 #[.pointer (some ⟨b, 0, none⟩), .int .i64 n] w (rPost w b f s o 4 ls (.tuple #[.int .i64 0, .int .i64 90])) := by
  obtain ⟨⟨v, x, y⟩, hm⟩ := id h
  have x3 : w.cell? ⟨b, 3, none⟩ = some (.int .i64 4) := x.cell 3
  clear x y
  go_enter Try.func29, Try.ntmps29
  go_wp2_with fail
  go_ret2
  exact ⟨rfl, h, Chg.refl _ _⟩

set_option maxHeartbeats 1000000 in
theorem refAbort_bad (w : World) (b : Nat) (f s o lane n : Int) (ls : List Int) (hl : lane = 1 ∨ lane = 2 ∨ lane = 3) (hn : ¬ codeOk n) (h : RefAt w b f s o lane ls) :
    Calls Try.prog 29 #[.pointer (some ⟨b, 0, none⟩), .int .i64 n] w (rPost w b f s o lane ls (.tuple #[.int .i64 0, .int .i64 2])) := by
  obtain ⟨⟨v, x, y⟩, hm⟩ := id h
  have x3 : w.cell? ⟨b, 3, none⟩ = some (.int .i64 lane) := x.cell 3
  have hc : n < 1 ∨ 8 < n ∨ n = 7 := by unfold codeOk at hn; omega
  clear x y hn
  rcases hl with rfl | rfl | rfl <;> rcases hc with hc | hc | rfl
  all_goals
    go_enter Try.func29, Try.ntmps29
    go_wp2_with fail
    go_ret2
    exact ⟨rfl, h, Chg.refl _ _⟩

theorem nil_own {g : Nat} (h : Value.ownBlock (.slice none 0 0) = some g) : False := by cases h
theorem own_ge {w : World} {base n size : Nat} {e : TypeId} {v : Value} {xs : List Value} (h : w.ownsRow base e size v n xs) (hn : 0 < n) {g : Nat} (hg : v.ownBlock = some g) : base ≤ g := by
  obtain ⟨g', cap, cur, rfl, hb, _⟩ := ownsRow_pos h hn
  simp [Value.ownBlock] at hg
  omega

set_option maxRecDepth 100000 in
set_option maxHeartbeats 2000000 in
theorem refAbort_cap1 (w : World) (b : Nat) (f s o : Int) (ls : List Int) (hlen : ls.length < 100) (h : RefAt w b f s o 1 ls) :
    Calls Try.prog 29 #[.pointer (some ⟨b, 0, none⟩), .int .i64 3] w (rPost w b f s o (nextFrom f s o 3) (ls ++ [1]) (.tuple #[.int .i64 (nextFrom f s o 3), .int .i64 0])) := by
  obtain ⟨⟨v, x, y⟩, hm⟩ := h
  obtain ⟨i0, hi, hz0, hz1, hz2⟩ := info_parts Try.infoI64
  have x3 : w.cell? ⟨b, 3, none⟩ = some (.int .i64 1) := x.cell 3
  have x4 : w.cell? ⟨b, 4, none⟩ = some v := x.cell 4
  have hf := x.free
  have X := Lib.hid x
  have HB := Lib.hid (show True from trivial)
  clear x
  cases y with
  | nil hnil e =>
    subst hnil e
    go_enter Try.func29, Try.ntmps29
    go_wp2_with (first
      | (at_builtin; refine wpList_append_own_none rfl (.tmp 29) (.tmp 33) 24 rfl w.heap.size 3 i0 1 Try.underlying24 hi _ 0 [] rfl (World.ownsRow_nil _ _ _ _) rfl ?_)
      | (at_builtin; refine wpList_append_own _ rfl (.tmp 36) (.tmp 41) 24 rfl w.heap.size 3 i0 (.int .i64 0) 1 8 Try.underlying24 hi hz0 hz1 hz2 rfl (by decide) _ _ _ rfl (World.ownsRow_nil _ _ _ _) ⟨w.heap.size, 0, none⟩ 1 1 [.int .i64 1] rfl rfl (cell_one_new _ _ _) (ints_oneCell .i64 [1]) (by unfold maxLen; omega) (by omega) (by simp) ?_; intro v2 w2 hown2 hgrow2 _; obtain ⟨g2, cap2, cur2, rfl, hgb2, hgB2, hgt2⟩ := ownsRow_pos hown2 (by omega); have hC2 : Chg [b] w w2 := ((Chg.refl [b] w).alloc _).grown hgrow2 (fun g hg => (nil_own hg).elim); have x2b : Blk w2 b [.int .i64 f, .int .i64 s, .int .i64 o, .int .i64 1, .slice none 0 0] 46 := (hgrow2.block b (by simp; have := X.out.lt; omega) (fun e => nil_own e.symm)).trans (X.out.alloc _); have hfw := x2b.free; have x20 := x2b.cell 0; have x21 := x2b.cell 1; have x22 := x2b.cell 2; have x23 := x2b.cell 3; have x24 := x2b.cell 4; simp only [List.getElem?_cons_zero, List.getElem?_cons_succ] at x20 x21 x22 x23 x24)
      | fail)
    have hgb : b ≠ g2 := x2b.ne hgB2 (by decide)
    have k3 := x2b.set 4 (.slice (some ⟨g2, 0, none⟩) (1) cap2)
    have hRow : RowAt (w2.setCell ⟨b, 4, none⟩ (.slice (some ⟨g2, 0, none⟩) (1) cap2)) (.slice (some ⟨g2, 0, none⟩) (1) cap2) ([] ++ [1]) :=
      .row g2 cap2 cur2 (by simp) (by simp) (hgB2.other (a := ⟨b, 4, none⟩) hgb _) (by simpa using hgt2)
    have hC3 := hC2.setCell (p := ⟨b, 4, none⟩) (by simp) (.slice (some ⟨g2, 0, none⟩) (1) cap2)
    simp only [List.set_cons_zero, List.set_cons_succ] at k3
    have hRA : RefAt _ b f s o 1 ([] ++ [1]) := ⟨⟨_, k3, hRow⟩, by simp; try omega⟩
    generalize w2.setCell _ _ = w3 at *
    refine (first_any _ f s o 3 (by decide)).mono ?_
    rintro e w4 ⟨rfl, hx⟩
    have k4 := hx.blk k3 (by simp)
    have hRow4 := hRow.chg hx (by simp)
    have hC4 := hC3.trans' hx (by simp)
    have y3 : w4.cell? ⟨b, 3, none⟩ = some (.int .i64 1) := k4.cell 3
    have hf4 := k4.free
    generalize nextFrom f s o 3 = nx at *
    clear x20 x21 x22 x23 x24 hfw
    go_wp2_with fail
    go_ret2
    exact ⟨rfl, ⟨⟨_, k4.set 3 (.int .i64 nx), hRow4.chg ((Chg.refl [b] w4).setCell (p := ⟨b, 3, none⟩) (by simp) (.int .i64 nx)) (by intro c hc cs hcs; simp at hc; subst hc; exact absurd (hcs.inj k4).2 (by decide))⟩, by simp; try omega⟩, hC4.setCell (by simp) _⟩
  | row g cap cur hpos e hB ht =>
    subst e
    have hcells : ∀ j u, (ls.map (Value.int .i64))[j]? = some u → w.cell? ((⟨g, 0, none⟩ : Addr).add j) = some u := fun j u hj => by
      have e1 : ((⟨g, 0, none⟩ : Addr).add j) = ⟨g, j, none⟩ := by unfold Addr.add; split <;> simp_all
      have hjl : j < ls.length := by have := (List.getElem?_eq_some_iff.1 hj).1; simpa using this
      rw [e1, hB.cell, ← hj, ← ht, List.getElem?_take_of_lt hjl]
    have HCE := Lib.hid hcells
    clear hcells
    go_enter Try.func29, Try.ntmps29
    go_wp2_with (first
      | (at_builtin; refine wpList_append_own _ rfl (.tmp 29) (.tmp 33) 24 rfl w.heap.size 3 i0 (.int .i64 0) 1 8 Try.underlying24 hi hz0 hz1 hz2 rfl (by decide) _ 0 [] rfl (World.ownsRow_nil _ _ _ _) ⟨g, 0, none⟩ ls.length _ (ls.map (Value.int .i64)) rfl (by simp) HCE.out (ints_oneCell .i64 ls) (by unfold maxLen; omega) (by omega) (Nat.le_refl _) ?_; intro v1 w1 hown1 hgrow1 _; have hC1 : Chg [b] w w1 := (Chg.refl [b] w).grown hgrow1 (fun g hg => (nil_own hg).elim); have x1b := (hgrow1.block b X.out.lt (fun e => nil_own e.symm)).trans X.out; have x1c : Blk w1 b [.int .i64 f, .int .i64 s, .int .i64 o, .int .i64 1, .slice (some ⟨g, 0, none⟩) ls.length cap] 46 := x1b; have y13 := x1c.cell 3; simp only [List.getElem?_cons_zero, List.getElem?_cons_succ] at y13)
      | (at_builtin; refine wpList_append_own _ rfl (.tmp 36) (.tmp 41) 24 rfl w.heap.size 3 i0 (.int .i64 0) 1 8 Try.underlying24 hi hz0 hz1 hz2 rfl (by decide) _ _ _ rfl (hown1.alloc _) ⟨w1.heap.size, 0, none⟩ 1 1 [.int .i64 1] rfl rfl (cell_one_new _ _ _) (ints_oneCell .i64 [1]) (by unfold maxLen; omega) (by omega) (by have := hC1.size; simp; omega) ?_; intro v2 w2 hown2 hgrow2 _; obtain ⟨g2, cap2, cur2, rfl, hgb2, hgB2, hgt2⟩ := ownsRow_pos hown2 (by omega); have hC2 : Chg [b] w w2 := (hC1.alloc _).grown hgrow2 (by intro q hq; exact own_ge hown1 (by omega) hq); have x2b : Blk w2 b [.int .i64 f, .int .i64 s, .int .i64 o, .int .i64 1, .slice (some ⟨g, 0, none⟩) ls.length cap] 46 := (hgrow2.block b (by simp; have := x1c.lt; omega) (by intro e; have := own_ge hown1 (by omega) e.symm; have := X.out.lt; omega)).trans (x1c.alloc _); have hfw := x2b.free; have x20 := x2b.cell 0; have x21 := x2b.cell 1; have x22 := x2b.cell 2; have x23 := x2b.cell 3; have x24 := x2b.cell 4; simp only [List.getElem?_cons_zero, List.getElem?_cons_succ] at x20 x21 x22 x23 x24)
      | fail)
    have hgb : b ≠ g2 := x2b.ne hgB2 (by decide)
    have k3 := x2b.set 4 (.slice (some ⟨g2, 0, none⟩) (ls.length + 1) cap2)
    have hRow : RowAt (w2.setCell ⟨b, 4, none⟩ (.slice (some ⟨g2, 0, none⟩) (ls.length + 1) cap2)) (.slice (some ⟨g2, 0, none⟩) (ls.length + 1) cap2) (ls ++ [1]) :=
      .row g2 cap2 cur2 (by simp) (by simp) (hgB2.other (a := ⟨b, 4, none⟩) hgb _) (by simpa using hgt2)
    have hC3 := hC2.setCell (p := ⟨b, 4, none⟩) (by simp) (.slice (some ⟨g2, 0, none⟩) (ls.length + 1) cap2)
    simp only [List.set_cons_zero, List.set_cons_succ] at k3
    have hRA : RefAt _ b f s o 1 (ls ++ [1]) := ⟨⟨_, k3, hRow⟩, by simp; try omega⟩
    generalize w2.setCell _ _ = w3 at *
    refine (first_any _ f s o 3 (by decide)).mono ?_
    rintro e w4 ⟨rfl, hx⟩
    have k4 := hx.blk k3 (by simp)
    have hRow4 := hRow.chg hx (by simp)
    have hC4 := hC3.trans' hx (by simp)
    have y3 : w4.cell? ⟨b, 3, none⟩ = some (.int .i64 1) := k4.cell 3
    have hf4 := k4.free
    generalize nextFrom f s o 3 = nx at *
    clear x20 x21 x22 x23 x24 hfw
    go_wp2_with fail
    go_ret2
    exact ⟨rfl, ⟨⟨_, k4.set 3 (.int .i64 nx), hRow4.chg ((Chg.refl [b] w4).setCell (p := ⟨b, 3, none⟩) (by simp) (.int .i64 nx)) (by intro c hc cs hcs; simp at hc; subst hc; exact absurd (hcs.inj k4).2 (by decide))⟩, by simp; try omega⟩, hC4.setCell (by simp) _⟩

set_option maxRecDepth 100000 in
set_option maxHeartbeats 2000000 in
theorem refAbort_full1 (w : World) (b : Nat) (f s o n : Int) (ls : List Int) (h1 : 1 ≤ n) (h8 : n ≤ 8) (h7 : (n == 7) = false) (hne : (n == 3) = false) (hb : f ≤ cnt (ls ++ [1]) 1) (hlen : ls.length < 100) (h : RefAt w b f s o 1 ls) :
    Calls Try.prog 29 #[.pointer (some ⟨b, 0, none⟩), .int .i64 n] w (rPost w b f s o (nextFrom f s o 2) (ls ++ [1]) (.tuple #[.int .i64 (nextFrom f s o 2), .int .i64 0])) := by
  obtain ⟨⟨v, x, y⟩, hm⟩ := h
  obtain ⟨i0, hi, hz0, hz1, hz2⟩ := info_parts Try.infoI64
  have x3 : w.cell? ⟨b, 3, none⟩ = some (.int .i64 1) := x.cell 3
  have x4 : w.cell? ⟨b, 4, none⟩ = some v := x.cell 4
  have hf := x.free
  have X := Lib.hid x
  have HB := Lib.hid (show True from trivial)
  clear x
  have HB2 := Lib.hid hb
  clear hb
  cases y with
  | nil hnil e =>
    subst hnil e
    go_enter Try.func29, Try.ntmps29
    go_wp2_with (first
      | (at_builtin; refine wpList_append_own_none rfl (.tmp 29) (.tmp 33) 24 rfl w.heap.size 3 i0 1 Try.underlying24 hi _ 0 [] rfl (World.ownsRow_nil _ _ _ _) rfl ?_)
      | (at_builtin; refine wpList_append_own _ rfl (.tmp 36) (.tmp 41) 24 rfl w.heap.size 3 i0 (.int .i64 0) 1 8 Try.underlying24 hi hz0 hz1 hz2 rfl (by decide) _ _ _ rfl (World.ownsRow_nil _ _ _ _) ⟨w.heap.size, 0, none⟩ 1 1 [.int .i64 1] rfl rfl (cell_one_new _ _ _) (ints_oneCell .i64 [1]) (by unfold maxLen; omega) (by omega) (by simp) ?_; intro v2 w2 hown2 hgrow2 _; obtain ⟨g2, cap2, cur2, rfl, hgb2, hgB2, hgt2⟩ := ownsRow_pos hown2 (by omega); have hC2 : Chg [b] w w2 := ((Chg.refl [b] w).alloc _).grown hgrow2 (fun g hg => (nil_own hg).elim); have x2b : Blk w2 b [.int .i64 f, .int .i64 s, .int .i64 o, .int .i64 1, .slice none 0 0] 46 := (hgrow2.block b (by simp; have := X.out.lt; omega) (fun e => nil_own e.symm)).trans (X.out.alloc _); have hfw := x2b.free; have x20 := x2b.cell 0; have x21 := x2b.cell 1; have x22 := x2b.cell 2; have x23 := x2b.cell 3; have x24 := x2b.cell 4; simp only [List.getElem?_cons_zero, List.getElem?_cons_succ] at x20 x21 x22 x23 x24)
      | fail)
    have hgb : b ≠ g2 := x2b.ne hgB2 (by decide)
    have k3 := x2b.set 4 (.slice (some ⟨g2, 0, none⟩) (1) cap2)
    have hRow : RowAt (w2.setCell ⟨b, 4, none⟩ (.slice (some ⟨g2, 0, none⟩) (1) cap2)) (.slice (some ⟨g2, 0, none⟩) (1) cap2) ([] ++ [1]) :=
      .row g2 cap2 cur2 (by simp) (by simp) (hgB2.other (a := ⟨b, 4, none⟩) hgb _) (by simpa using hgt2)
    have hC3 := hC2.setCell (p := ⟨b, 4, none⟩) (by simp) (.slice (some ⟨g2, 0, none⟩) (1) cap2)
    simp only [List.set_cons_zero, List.set_cons_succ] at k3
    have hRA : RefAt _ b f s o 1 ([] ++ [1]) := ⟨⟨_, k3, hRow⟩, by simp; try omega⟩
    generalize w2.setCell _ _ = w3 at *
    have hb := HB2.out
    try simp only [List.nil_append] at hb hRA hRow
    clear x20 x21 x22 x23 x24 hfw HB2
    go_region_held3 (fun w' => w'.cell? ⟨b, 0, none⟩ = some (.int .i64 f) ∧ w'.cell? ⟨b, 1, none⟩ = some (.int .i64 s) ∧ w'.cell? ⟨b, 2, none⟩ = some (.int .i64 o) ∧ w'.cell? ⟨b, 3, none⟩ = some (.int .i64 1)) (first | exact ⟨k3.cell 0, k3.cell 1, k3.cell 2, k3.cell 3⟩ | exact ⟨(hx6.blk k3.drew (by simp)).cell 0, (hx6.blk k3.drew (by simp)).cell 1, (hx6.blk k3.drew (by simp)).cell 2, (hx6.blk k3.drew (by simp)).cell 3⟩)
      (first
        | (go_at_call 34; refine (Count_any _ b f s o 1 1 _ (by first | exact hRA.chg ((Chg.refl [] _).drew) (by simp) (by simp) | exact hRA.chg ((Chg.refl [] _).drew.trans hx6) (by simp) (by simp))).mono ?_; rintro e w5 ⟨rfl, rfl⟩)
        | (go_at_call 35; refine (refBudget_any _ f s o 1 (by decide)).mono ?_; rintro e w6 ⟨rfl, hx6⟩; rw [show refBud f s o 1 = f from rfl]))
    all_goals
      have k6 := hx6.blk k3.drew (by simp)
      have hRow6 := hRow.chg ((Chg.refl [] _).drew.trans hx6) (by simp)
      have hC6 := hC3.drew.trans' hx6 (by simp)
      have z0 : w6.cell? ⟨b, 0, none⟩ = some (.int .i64 f) := k6.cell 0
      have z1 : w6.cell? ⟨b, 1, none⟩ = some (.int .i64 s) := k6.cell 1
      have z2 : w6.cell? ⟨b, 2, none⟩ = some (.int .i64 o) := k6.cell 2
      have z3 : w6.cell? ⟨b, 3, none⟩ = some (.int .i64 1) := k6.cell 3
      have hf6 := k6.free
      go_wp2_with fail
      generalize hnx : nextFrom f s o 2 = nx at *
      go_region_with (first
          | (go_at_call 33; refine (first_any _ f s o 2 (by decide)).mono ?_; rintro e w7 ⟨rfl, hx7⟩; rw [hnx]; have z3' : w7.cell? ⟨b, 3, none⟩ = some (.int .i64 1) := (hx7.blk k6.drew (by simp)).cell 3; have hf7 := (hx7.blk k6.drew (by simp)).free))
      all_goals
        have k7 := hx7.blk k6.drew (by simp)
        have hRow7 := hRow6.chg ((Chg.refl [] _).drew.trans hx7) (by simp)
        have hC7 := hC6.drew.trans' hx7 (by simp)
        go_wp2_with fail
        go_ret2
        exact ⟨rfl, ⟨⟨_, k7.set 3 (.int .i64 nx), hRow7.chg ((Chg.refl [b] w7).setCell (p := ⟨b, 3, none⟩) (by simp) (.int .i64 nx)) (by intro c hc cs hcs; simp at hc; subst hc; exact absurd (hcs.inj k7).2 (by decide))⟩, by simp; try omega⟩, hC7.setCell (by simp) _⟩
  | row g cap cur hpos e hB ht =>
    subst e
    have hcells : ∀ j u, (ls.map (Value.int .i64))[j]? = some u → w.cell? ((⟨g, 0, none⟩ : Addr).add j) = some u := fun j u hj => by
      have e1 : ((⟨g, 0, none⟩ : Addr).add j) = ⟨g, j, none⟩ := by unfold Addr.add; split <;> simp_all
      have hjl : j < ls.length := by have := (List.getElem?_eq_some_iff.1 hj).1; simpa using this
      rw [e1, hB.cell, ← hj, ← ht, List.getElem?_take_of_lt hjl]
    have HCE := Lib.hid hcells
    clear hcells
    go_enter Try.func29, Try.ntmps29
    go_wp2_with (first
      | (at_builtin; refine wpList_append_own _ rfl (.tmp 29) (.tmp 33) 24 rfl w.heap.size 3 i0 (.int .i64 0) 1 8 Try.underlying24 hi hz0 hz1 hz2 rfl (by decide) _ 0 [] rfl (World.ownsRow_nil _ _ _ _) ⟨g, 0, none⟩ ls.length _ (ls.map (Value.int .i64)) rfl (by simp) HCE.out (ints_oneCell .i64 ls) (by unfold maxLen; omega) (by omega) (Nat.le_refl _) ?_; intro v1 w1 hown1 hgrow1 _; have hC1 : Chg [b] w w1 := (Chg.refl [b] w).grown hgrow1 (fun g hg => (nil_own hg).elim); have x1b := (hgrow1.block b X.out.lt (fun e => nil_own e.symm)).trans X.out; have x1c : Blk w1 b [.int .i64 f, .int .i64 s, .int .i64 o, .int .i64 1, .slice (some ⟨g, 0, none⟩) ls.length cap] 46 := x1b; have y13 := x1c.cell 3; simp only [List.getElem?_cons_zero, List.getElem?_cons_succ] at y13)
      | (at_builtin; refine wpList_append_own _ rfl (.tmp 36) (.tmp 41) 24 rfl w.heap.size 3 i0 (.int .i64 0) 1 8 Try.underlying24 hi hz0 hz1 hz2 rfl (by decide) _ _ _ rfl (hown1.alloc _) ⟨w1.heap.size, 0, none⟩ 1 1 [.int .i64 1] rfl rfl (cell_one_new _ _ _) (ints_oneCell .i64 [1]) (by unfold maxLen; omega) (by omega) (by have := hC1.size; simp; omega) ?_; intro v2 w2 hown2 hgrow2 _; obtain ⟨g2, cap2, cur2, rfl, hgb2, hgB2, hgt2⟩ := ownsRow_pos hown2 (by omega); have hC2 : Chg [b] w w2 := (hC1.alloc _).grown hgrow2 (by intro q hq; exact own_ge hown1 (by omega) hq); have x2b : Blk w2 b [.int .i64 f, .int .i64 s, .int .i64 o, .int .i64 1, .slice (some ⟨g, 0, none⟩) ls.length cap] 46 := (hgrow2.block b (by simp; have := x1c.lt; omega) (by intro e; have := own_ge hown1 (by omega) e.symm; have := X.out.lt; omega)).trans (x1c.alloc _); have hfw := x2b.free; have x20 := x2b.cell 0; have x21 := x2b.cell 1; have x22 := x2b.cell 2; have x23 := x2b.cell 3; have x24 := x2b.cell 4; simp only [List.getElem?_cons_zero, List.getElem?_cons_succ] at x20 x21 x22 x23 x24)
      | fail)
    have hgb : b ≠ g2 := x2b.ne hgB2 (by decide)
    have k3 := x2b.set 4 (.slice (some ⟨g2, 0, none⟩) (ls.length + 1) cap2)
    have hRow : RowAt (w2.setCell ⟨b, 4, none⟩ (.slice (some ⟨g2, 0, none⟩) (ls.length + 1) cap2)) (.slice (some ⟨g2, 0, none⟩) (ls.length + 1) cap2) (ls ++ [1]) :=
      .row g2 cap2 cur2 (by simp) (by simp) (hgB2.other (a := ⟨b, 4, none⟩) hgb _) (by simpa using hgt2)
    have hC3 := hC2.setCell (p := ⟨b, 4, none⟩) (by simp) (.slice (some ⟨g2, 0, none⟩) (ls.length + 1) cap2)
    simp only [List.set_cons_zero, List.set_cons_succ] at k3
    have hRA : RefAt _ b f s o 1 (ls ++ [1]) := ⟨⟨_, k3, hRow⟩, by simp; try omega⟩
    generalize w2.setCell _ _ = w3 at *
    have hb := HB2.out
    try simp only [List.nil_append] at hb hRA hRow
    clear x20 x21 x22 x23 x24 hfw HB2
    go_region_held3 (fun w' => w'.cell? ⟨b, 0, none⟩ = some (.int .i64 f) ∧ w'.cell? ⟨b, 1, none⟩ = some (.int .i64 s) ∧ w'.cell? ⟨b, 2, none⟩ = some (.int .i64 o) ∧ w'.cell? ⟨b, 3, none⟩ = some (.int .i64 1)) (first | exact ⟨k3.cell 0, k3.cell 1, k3.cell 2, k3.cell 3⟩ | exact ⟨(hx6.blk k3.drew (by simp)).cell 0, (hx6.blk k3.drew (by simp)).cell 1, (hx6.blk k3.drew (by simp)).cell 2, (hx6.blk k3.drew (by simp)).cell 3⟩)
      (first
        | (go_at_call 34; refine (Count_any _ b f s o 1 1 _ (by first | exact hRA.chg ((Chg.refl [] _).drew) (by simp) (by simp) | exact hRA.chg ((Chg.refl [] _).drew.trans hx6) (by simp) (by simp))).mono ?_; rintro e w5 ⟨rfl, rfl⟩)
        | (go_at_call 35; refine (refBudget_any _ f s o 1 (by decide)).mono ?_; rintro e w6 ⟨rfl, hx6⟩; rw [show refBud f s o 1 = f from rfl]))
    all_goals
      have k6 := hx6.blk k3.drew (by simp)
      have hRow6 := hRow.chg ((Chg.refl [] _).drew.trans hx6) (by simp)
      have hC6 := hC3.drew.trans' hx6 (by simp)
      have z0 : w6.cell? ⟨b, 0, none⟩ = some (.int .i64 f) := k6.cell 0
      have z1 : w6.cell? ⟨b, 1, none⟩ = some (.int .i64 s) := k6.cell 1
      have z2 : w6.cell? ⟨b, 2, none⟩ = some (.int .i64 o) := k6.cell 2
      have z3 : w6.cell? ⟨b, 3, none⟩ = some (.int .i64 1) := k6.cell 3
      have hf6 := k6.free
      go_wp2_with fail
      generalize hnx : nextFrom f s o 2 = nx at *
      go_region_with (first
          | (go_at_call 33; refine (first_any _ f s o 2 (by decide)).mono ?_; rintro e w7 ⟨rfl, hx7⟩; rw [hnx]; have z3' : w7.cell? ⟨b, 3, none⟩ = some (.int .i64 1) := (hx7.blk k6.drew (by simp)).cell 3; have hf7 := (hx7.blk k6.drew (by simp)).free))
      all_goals
        have k7 := hx7.blk k6.drew (by simp)
        have hRow7 := hRow6.chg ((Chg.refl [] _).drew.trans hx7) (by simp)
        have hC7 := hC6.drew.trans' hx7 (by simp)
        go_wp2_with fail
        go_ret2
        exact ⟨rfl, ⟨⟨_, k7.set 3 (.int .i64 nx), hRow7.chg ((Chg.refl [b] w7).setCell (p := ⟨b, 3, none⟩) (by simp) (.int .i64 nx)) (by intro c hc cs hcs; simp at hc; subst hc; exact absurd (hcs.inj k7).2 (by decide))⟩, by simp; try omega⟩, hC7.setCell (by simp) _⟩

set_option maxRecDepth 100000 in
set_option maxHeartbeats 2000000 in
theorem refAbort_not1 (w : World) (b : Nat) (f s o n : Int) (ls : List Int) (h1 : 1 ≤ n) (h8 : n ≤ 8) (h7 : (n == 7) = false) (hne : (n == 3) = false) (hb : cnt (ls ++ [1]) 1 < f) (hlen : ls.length < 100) (h : RefAt w b f s o 1 ls) :
    Calls Try.prog 29 #[.pointer (some ⟨b, 0, none⟩), .int .i64 n] w (rPost w b f s o 1 (ls ++ [1]) (.tuple #[.int .i64 1, .int .i64 0])) := by
  obtain ⟨⟨v, x, y⟩, hm⟩ := h
  obtain ⟨i0, hi, hz0, hz1, hz2⟩ := info_parts Try.infoI64
  have x3 : w.cell? ⟨b, 3, none⟩ = some (.int .i64 1) := x.cell 3
  have x4 : w.cell? ⟨b, 4, none⟩ = some v := x.cell 4
  have hf := x.free
  have X := Lib.hid x
  have HB := Lib.hid (show True from trivial)
  clear x
  have HB2 := Lib.hid hb
  clear hb
  cases y with
  | nil hnil e =>
    subst hnil e
    go_enter Try.func29, Try.ntmps29
    go_wp2_with (first
      | (at_builtin; refine wpList_append_own_none rfl (.tmp 29) (.tmp 33) 24 rfl w.heap.size 3 i0 1 Try.underlying24 hi _ 0 [] rfl (World.ownsRow_nil _ _ _ _) rfl ?_)
      | (at_builtin; refine wpList_append_own _ rfl (.tmp 36) (.tmp 41) 24 rfl w.heap.size 3 i0 (.int .i64 0) 1 8 Try.underlying24 hi hz0 hz1 hz2 rfl (by decide) _ _ _ rfl (World.ownsRow_nil _ _ _ _) ⟨w.heap.size, 0, none⟩ 1 1 [.int .i64 1] rfl rfl (cell_one_new _ _ _) (ints_oneCell .i64 [1]) (by unfold maxLen; omega) (by omega) (by simp) ?_; intro v2 w2 hown2 hgrow2 _; obtain ⟨g2, cap2, cur2, rfl, hgb2, hgB2, hgt2⟩ := ownsRow_pos hown2 (by omega); have hC2 : Chg [b] w w2 := ((Chg.refl [b] w).alloc _).grown hgrow2 (fun g hg => (nil_own hg).elim); have x2b : Blk w2 b [.int .i64 f, .int .i64 s, .int .i64 o, .int .i64 1, .slice none 0 0] 46 := (hgrow2.block b (by simp; have := X.out.lt; omega) (fun e => nil_own e.symm)).trans (X.out.alloc _); have hfw := x2b.free; have x20 := x2b.cell 0; have x21 := x2b.cell 1; have x22 := x2b.cell 2; have x23 := x2b.cell 3; have x24 := x2b.cell 4; simp only [List.getElem?_cons_zero, List.getElem?_cons_succ] at x20 x21 x22 x23 x24)
      | fail)
    have hgb : b ≠ g2 := x2b.ne hgB2 (by decide)
    have k3 := x2b.set 4 (.slice (some ⟨g2, 0, none⟩) (1) cap2)
    have hRow : RowAt (w2.setCell ⟨b, 4, none⟩ (.slice (some ⟨g2, 0, none⟩) (1) cap2)) (.slice (some ⟨g2, 0, none⟩) (1) cap2) ([] ++ [1]) :=
      .row g2 cap2 cur2 (by simp) (by simp) (hgB2.other (a := ⟨b, 4, none⟩) hgb _) (by simpa using hgt2)
    have hC3 := hC2.setCell (p := ⟨b, 4, none⟩) (by simp) (.slice (some ⟨g2, 0, none⟩) (1) cap2)
    simp only [List.set_cons_zero, List.set_cons_succ] at k3
    have hRA : RefAt _ b f s o 1 ([] ++ [1]) := ⟨⟨_, k3, hRow⟩, by simp; try omega⟩
    generalize w2.setCell _ _ = w3 at *
    have hb := HB2.out
    try simp only [List.nil_append] at hb hRA hRow
    clear x20 x21 x22 x23 x24 hfw HB2
    go_region_held3 (fun w' => w'.cell? ⟨b, 0, none⟩ = some (.int .i64 f) ∧ w'.cell? ⟨b, 1, none⟩ = some (.int .i64 s) ∧ w'.cell? ⟨b, 2, none⟩ = some (.int .i64 o) ∧ w'.cell? ⟨b, 3, none⟩ = some (.int .i64 1)) (first | exact ⟨k3.cell 0, k3.cell 1, k3.cell 2, k3.cell 3⟩ | exact ⟨(hx6.blk k3.drew (by simp)).cell 0, (hx6.blk k3.drew (by simp)).cell 1, (hx6.blk k3.drew (by simp)).cell 2, (hx6.blk k3.drew (by simp)).cell 3⟩)
      (first
        | (go_at_call 34; refine (Count_any _ b f s o 1 1 _ (by first | exact hRA.chg ((Chg.refl [] _).drew) (by simp) (by simp) | exact hRA.chg ((Chg.refl [] _).drew.trans hx6) (by simp) (by simp))).mono ?_; rintro e w5 ⟨rfl, rfl⟩)
        | (go_at_call 35; refine (refBudget_any _ f s o 1 (by decide)).mono ?_; rintro e w6 ⟨rfl, hx6⟩; rw [show refBud f s o 1 = f from rfl]))
    all_goals
      have k6 := hx6.blk k3.drew (by simp)
      have hRow6 := hRow.chg ((Chg.refl [] _).drew.trans hx6) (by simp)
      have hC6 := hC3.drew.trans' hx6 (by simp)
      have z0 : w6.cell? ⟨b, 0, none⟩ = some (.int .i64 f) := k6.cell 0
      have z1 : w6.cell? ⟨b, 1, none⟩ = some (.int .i64 s) := k6.cell 1
      have z2 : w6.cell? ⟨b, 2, none⟩ = some (.int .i64 o) := k6.cell 2
      have z3 : w6.cell? ⟨b, 3, none⟩ = some (.int .i64 1) := k6.cell 3
      have hf6 := k6.free
      go_wp2_with fail
      go_ret2
      exact ⟨rfl, ⟨⟨_, k6, hRow6⟩, by simp; try omega⟩, hC6⟩
  | row g cap cur hpos e hB ht =>
    subst e
    have hcells : ∀ j u, (ls.map (Value.int .i64))[j]? = some u → w.cell? ((⟨g, 0, none⟩ : Addr).add j) = some u := fun j u hj => by
      have e1 : ((⟨g, 0, none⟩ : Addr).add j) = ⟨g, j, none⟩ := by unfold Addr.add; split <;> simp_all
      have hjl : j < ls.length := by have := (List.getElem?_eq_some_iff.1 hj).1; simpa using this
      rw [e1, hB.cell, ← hj, ← ht, List.getElem?_take_of_lt hjl]
    have HCE := Lib.hid hcells
    clear hcells
    go_enter Try.func29, Try.ntmps29
    go_wp2_with (first
      | (at_builtin; refine wpList_append_own _ rfl (.tmp 29) (.tmp 33) 24 rfl w.heap.size 3 i0 (.int .i64 0) 1 8 Try.underlying24 hi hz0 hz1 hz2 rfl (by decide) _ 0 [] rfl (World.ownsRow_nil _ _ _ _) ⟨g, 0, none⟩ ls.length _ (ls.map (Value.int .i64)) rfl (by simp) HCE.out (ints_oneCell .i64 ls) (by unfold maxLen; omega) (by omega) (Nat.le_refl _) ?_; intro v1 w1 hown1 hgrow1 _; have hC1 : Chg [b] w w1 := (Chg.refl [b] w).grown hgrow1 (fun g hg => (nil_own hg).elim); have x1b := (hgrow1.block b X.out.lt (fun e => nil_own e.symm)).trans X.out; have x1c : Blk w1 b [.int .i64 f, .int .i64 s, .int .i64 o, .int .i64 1, .slice (some ⟨g, 0, none⟩) ls.length cap] 46 := x1b; have y13 := x1c.cell 3; simp only [List.getElem?_cons_zero, List.getElem?_cons_succ] at y13)
      | (at_builtin; refine wpList_append_own _ rfl (.tmp 36) (.tmp 41) 24 rfl w.heap.size 3 i0 (.int .i64 0) 1 8 Try.underlying24 hi hz0 hz1 hz2 rfl (by decide) _ _ _ rfl (hown1.alloc _) ⟨w1.heap.size, 0, none⟩ 1 1 [.int .i64 1] rfl rfl (cell_one_new _ _ _) (ints_oneCell .i64 [1]) (by unfold maxLen; omega) (by omega) (by have := hC1.size; simp; omega) ?_; intro v2 w2 hown2 hgrow2 _; obtain ⟨g2, cap2, cur2, rfl, hgb2, hgB2, hgt2⟩ := ownsRow_pos hown2 (by omega); have hC2 : Chg [b] w w2 := (hC1.alloc _).grown hgrow2 (by intro q hq; exact own_ge hown1 (by omega) hq); have x2b : Blk w2 b [.int .i64 f, .int .i64 s, .int .i64 o, .int .i64 1, .slice (some ⟨g, 0, none⟩) ls.length cap] 46 := (hgrow2.block b (by simp; have := x1c.lt; omega) (by intro e; have := own_ge hown1 (by omega) e.symm; have := X.out.lt; omega)).trans (x1c.alloc _); have hfw := x2b.free; have x20 := x2b.cell 0; have x21 := x2b.cell 1; have x22 := x2b.cell 2; have x23 := x2b.cell 3; have x24 := x2b.cell 4; simp only [List.getElem?_cons_zero, List.getElem?_cons_succ] at x20 x21 x22 x23 x24)
      | fail)
    have hgb : b ≠ g2 := x2b.ne hgB2 (by decide)
    have k3 := x2b.set 4 (.slice (some ⟨g2, 0, none⟩) (ls.length + 1) cap2)
    have hRow : RowAt (w2.setCell ⟨b, 4, none⟩ (.slice (some ⟨g2, 0, none⟩) (ls.length + 1) cap2)) (.slice (some ⟨g2, 0, none⟩) (ls.length + 1) cap2) (ls ++ [1]) :=
      .row g2 cap2 cur2 (by simp) (by simp) (hgB2.other (a := ⟨b, 4, none⟩) hgb _) (by simpa using hgt2)
    have hC3 := hC2.setCell (p := ⟨b, 4, none⟩) (by simp) (.slice (some ⟨g2, 0, none⟩) (ls.length + 1) cap2)
    simp only [List.set_cons_zero, List.set_cons_succ] at k3
    have hRA : RefAt _ b f s o 1 (ls ++ [1]) := ⟨⟨_, k3, hRow⟩, by simp; try omega⟩
    generalize w2.setCell _ _ = w3 at *
    have hb := HB2.out
    try simp only [List.nil_append] at hb hRA hRow
    clear x20 x21 x22 x23 x24 hfw HB2
    go_region_held3 (fun w' => w'.cell? ⟨b, 0, none⟩ = some (.int .i64 f) ∧ w'.cell? ⟨b, 1, none⟩ = some (.int .i64 s) ∧ w'.cell? ⟨b, 2, none⟩ = some (.int .i64 o) ∧ w'.cell? ⟨b, 3, none⟩ = some (.int .i64 1)) (first | exact ⟨k3.cell 0, k3.cell 1, k3.cell 2, k3.cell 3⟩ | exact ⟨(hx6.blk k3.drew (by simp)).cell 0, (hx6.blk k3.drew (by simp)).cell 1, (hx6.blk k3.drew (by simp)).cell 2, (hx6.blk k3.drew (by simp)).cell 3⟩)
      (first
        | (go_at_call 34; refine (Count_any _ b f s o 1 1 _ (by first | exact hRA.chg ((Chg.refl [] _).drew) (by simp) (by simp) | exact hRA.chg ((Chg.refl [] _).drew.trans hx6) (by simp) (by simp))).mono ?_; rintro e w5 ⟨rfl, rfl⟩)
        | (go_at_call 35; refine (refBudget_any _ f s o 1 (by decide)).mono ?_; rintro e w6 ⟨rfl, hx6⟩; rw [show refBud f s o 1 = f from rfl]))
    all_goals
      have k6 := hx6.blk k3.drew (by simp)
      have hRow6 := hRow.chg ((Chg.refl [] _).drew.trans hx6) (by simp)
      have hC6 := hC3.drew.trans' hx6 (by simp)
      have z0 : w6.cell? ⟨b, 0, none⟩ = some (.int .i64 f) := k6.cell 0
      have z1 : w6.cell? ⟨b, 1, none⟩ = some (.int .i64 s) := k6.cell 1
      have z2 : w6.cell? ⟨b, 2, none⟩ = some (.int .i64 o) := k6.cell 2
      have z3 : w6.cell? ⟨b, 3, none⟩ = some (.int .i64 1) := k6.cell 3
      have hf6 := k6.free
      go_wp2_with fail
      go_ret2
      exact ⟨rfl, ⟨⟨_, k6, hRow6⟩, by simp; try omega⟩, hC6⟩

set_option maxRecDepth 100000 in
set_option maxHeartbeats 2000000 in
theorem refAbort_cap2 (w : World) (b : Nat) (f s o : Int) (ls : List Int) (hlen : ls.length < 100) (h : RefAt w b f s o 2 ls) :
    Calls Try.prog 29 #[.pointer (some ⟨b, 0, none⟩), .int .i64 3] w (rPost w b f s o (nextFrom f s o 3) (ls ++ [2]) (.tuple #[.int .i64 (nextFrom f s o 3), .int .i64 0])) := by
  obtain ⟨⟨v, x, y⟩, hm⟩ := h
  obtain ⟨i0, hi, hz0, hz1, hz2⟩ := info_parts Try.infoI64
  have x3 : w.cell? ⟨b, 3, none⟩ = some (.int .i64 2) := x.cell 3
  have x4 : w.cell? ⟨b, 4, none⟩ = some v := x.cell 4
  have hf := x.free
  have X := Lib.hid x
  have HB := Lib.hid (show True from trivial)
  clear x
  cases y with
  | nil hnil e =>
    subst hnil e
    go_enter Try.func29, Try.ntmps29
    go_wp2_with (first
      | (at_builtin; refine wpList_append_own_none rfl (.tmp 29) (.tmp 33) 24 rfl w.heap.size 3 i0 1 Try.underlying24 hi _ 0 [] rfl (World.ownsRow_nil _ _ _ _) rfl ?_)
      | (at_builtin; refine wpList_append_own _ rfl (.tmp 36) (.tmp 41) 24 rfl w.heap.size 3 i0 (.int .i64 0) 1 8 Try.underlying24 hi hz0 hz1 hz2 rfl (by decide) _ _ _ rfl (World.ownsRow_nil _ _ _ _) ⟨w.heap.size, 0, none⟩ 1 1 [.int .i64 2] rfl rfl (cell_one_new _ _ _) (ints_oneCell .i64 [2]) (by unfold maxLen; omega) (by omega) (by simp) ?_; intro v2 w2 hown2 hgrow2 _; obtain ⟨g2, cap2, cur2, rfl, hgb2, hgB2, hgt2⟩ := ownsRow_pos hown2 (by omega); have hC2 : Chg [b] w w2 := ((Chg.refl [b] w).alloc _).grown hgrow2 (fun g hg => (nil_own hg).elim); have x2b : Blk w2 b [.int .i64 f, .int .i64 s, .int .i64 o, .int .i64 2, .slice none 0 0] 46 := (hgrow2.block b (by simp; have := X.out.lt; omega) (fun e => nil_own e.symm)).trans (X.out.alloc _); have hfw := x2b.free; have x20 := x2b.cell 0; have x21 := x2b.cell 1; have x22 := x2b.cell 2; have x23 := x2b.cell 3; have x24 := x2b.cell 4; simp only [List.getElem?_cons_zero, List.getElem?_cons_succ] at x20 x21 x22 x23 x24)
      | fail)
    have hgb : b ≠ g2 := x2b.ne hgB2 (by decide)
    have k3 := x2b.set 4 (.slice (some ⟨g2, 0, none⟩) (1) cap2)
    have hRow : RowAt (w2.setCell ⟨b, 4, none⟩ (.slice (some ⟨g2, 0, none⟩) (1) cap2)) (.slice (some ⟨g2, 0, none⟩) (1) cap2) ([] ++ [2]) :=
      .row g2 cap2 cur2 (by simp) (by simp) (hgB2.other (a := ⟨b, 4, none⟩) hgb _) (by simpa using hgt2)
    have hC3 := hC2.setCell (p := ⟨b, 4, none⟩) (by simp) (.slice (some ⟨g2, 0, none⟩) (1) cap2)
    simp only [List.set_cons_zero, List.set_cons_succ] at k3
    have hRA : RefAt _ b f s o 2 ([] ++ [2]) := ⟨⟨_, k3, hRow⟩, by simp; try omega⟩
    generalize w2.setCell _ _ = w3 at *
    refine (first_any _ f s o 3 (by decide)).mono ?_
    rintro e w4 ⟨rfl, hx⟩
    have k4 := hx.blk k3 (by simp)
    have hRow4 := hRow.chg hx (by simp)
    have hC4 := hC3.trans' hx (by simp)
    have y3 : w4.cell? ⟨b, 3, none⟩ = some (.int .i64 2) := k4.cell 3
    have hf4 := k4.free
    generalize nextFrom f s o 3 = nx at *
    clear x20 x21 x22 x23 x24 hfw
    go_wp2_with fail
    go_ret2
    exact ⟨rfl, ⟨⟨_, k4.set 3 (.int .i64 nx), hRow4.chg ((Chg.refl [b] w4).setCell (p := ⟨b, 3, none⟩) (by simp) (.int .i64 nx)) (by intro c hc cs hcs; simp at hc; subst hc; exact absurd (hcs.inj k4).2 (by decide))⟩, by simp; try omega⟩, hC4.setCell (by simp) _⟩
  | row g cap cur hpos e hB ht =>
    subst e
    have hcells : ∀ j u, (ls.map (Value.int .i64))[j]? = some u → w.cell? ((⟨g, 0, none⟩ : Addr).add j) = some u := fun j u hj => by
      have e1 : ((⟨g, 0, none⟩ : Addr).add j) = ⟨g, j, none⟩ := by unfold Addr.add; split <;> simp_all
      have hjl : j < ls.length := by have := (List.getElem?_eq_some_iff.1 hj).1; simpa using this
      rw [e1, hB.cell, ← hj, ← ht, List.getElem?_take_of_lt hjl]
    have HCE := Lib.hid hcells
    clear hcells
    go_enter Try.func29, Try.ntmps29
    go_wp2_with (first
      | (at_builtin; refine wpList_append_own _ rfl (.tmp 29) (.tmp 33) 24 rfl w.heap.size 3 i0 (.int .i64 0) 1 8 Try.underlying24 hi hz0 hz1 hz2 rfl (by decide) _ 0 [] rfl (World.ownsRow_nil _ _ _ _) ⟨g, 0, none⟩ ls.length _ (ls.map (Value.int .i64)) rfl (by simp) HCE.out (ints_oneCell .i64 ls) (by unfold maxLen; omega) (by omega) (Nat.le_refl _) ?_; intro v1 w1 hown1 hgrow1 _; have hC1 : Chg [b] w w1 := (Chg.refl [b] w).grown hgrow1 (fun g hg => (nil_own hg).elim); have x1b := (hgrow1.block b X.out.lt (fun e => nil_own e.symm)).trans X.out; have x1c : Blk w1 b [.int .i64 f, .int .i64 s, .int .i64 o, .int .i64 2, .slice (some ⟨g, 0, none⟩) ls.length cap] 46 := x1b; have y13 := x1c.cell 3; simp only [List.getElem?_cons_zero, List.getElem?_cons_succ] at y13)
      | (at_builtin; refine wpList_append_own _ rfl (.tmp 36) (.tmp 41) 24 rfl w.heap.size 3 i0 (.int .i64 0) 1 8 Try.underlying24 hi hz0 hz1 hz2 rfl (by decide) _ _ _ rfl (hown1.alloc _) ⟨w1.heap.size, 0, none⟩ 1 1 [.int .i64 2] rfl rfl (cell_one_new _ _ _) (ints_oneCell .i64 [2]) (by unfold maxLen; omega) (by omega) (by have := hC1.size; simp; omega) ?_; intro v2 w2 hown2 hgrow2 _; obtain ⟨g2, cap2, cur2, rfl, hgb2, hgB2, hgt2⟩ := ownsRow_pos hown2 (by omega); have hC2 : Chg [b] w w2 := (hC1.alloc _).grown hgrow2 (by intro q hq; exact own_ge hown1 (by omega) hq); have x2b : Blk w2 b [.int .i64 f, .int .i64 s, .int .i64 o, .int .i64 2, .slice (some ⟨g, 0, none⟩) ls.length cap] 46 := (hgrow2.block b (by simp; have := x1c.lt; omega) (by intro e; have := own_ge hown1 (by omega) e.symm; have := X.out.lt; omega)).trans (x1c.alloc _); have hfw := x2b.free; have x20 := x2b.cell 0; have x21 := x2b.cell 1; have x22 := x2b.cell 2; have x23 := x2b.cell 3; have x24 := x2b.cell 4; simp only [List.getElem?_cons_zero, List.getElem?_cons_succ] at x20 x21 x22 x23 x24)
      | fail)
    have hgb : b ≠ g2 := x2b.ne hgB2 (by decide)
    have k3 := x2b.set 4 (.slice (some ⟨g2, 0, none⟩) (ls.length + 1) cap2)
    have hRow : RowAt (w2.setCell ⟨b, 4, none⟩ (.slice (some ⟨g2, 0, none⟩) (ls.length + 1) cap2)) (.slice (some ⟨g2, 0, none⟩) (ls.length + 1) cap2) (ls ++ [2]) :=
      .row g2 cap2 cur2 (by simp) (by simp) (hgB2.other (a := ⟨b, 4, none⟩) hgb _) (by simpa using hgt2)
    have hC3 := hC2.setCell (p := ⟨b, 4, none⟩) (by simp) (.slice (some ⟨g2, 0, none⟩) (ls.length + 1) cap2)
    simp only [List.set_cons_zero, List.set_cons_succ] at k3
    have hRA : RefAt _ b f s o 2 (ls ++ [2]) := ⟨⟨_, k3, hRow⟩, by simp; try omega⟩
    generalize w2.setCell _ _ = w3 at *
    refine (first_any _ f s o 3 (by decide)).mono ?_
    rintro e w4 ⟨rfl, hx⟩
    have k4 := hx.blk k3 (by simp)
    have hRow4 := hRow.chg hx (by simp)
    have hC4 := hC3.trans' hx (by simp)
    have y3 : w4.cell? ⟨b, 3, none⟩ = some (.int .i64 2) := k4.cell 3
    have hf4 := k4.free
    generalize nextFrom f s o 3 = nx at *
    clear x20 x21 x22 x23 x24 hfw
    go_wp2_with fail
    go_ret2
    exact ⟨rfl, ⟨⟨_, k4.set 3 (.int .i64 nx), hRow4.chg ((Chg.refl [b] w4).setCell (p := ⟨b, 3, none⟩) (by simp) (.int .i64 nx)) (by intro c hc cs hcs; simp at hc; subst hc; exact absurd (hcs.inj k4).2 (by decide))⟩, by simp; try omega⟩, hC4.setCell (by simp) _⟩

set_option maxRecDepth 100000 in
set_option maxHeartbeats 2000000 in
theorem refAbort_full2 (w : World) (b : Nat) (f s o n : Int) (ls : List Int) (h1 : 1 ≤ n) (h8 : n ≤ 8) (h7 : (n == 7) = false) (hne : (n == 3) = false) (hb : s ≤ cnt (ls ++ [2]) 2) (hlen : ls.length < 100) (h : RefAt w b f s o 2 ls) :
    Calls Try.prog 29 #[.pointer (some ⟨b, 0, none⟩), .int .i64 n] w (rPost w b f s o (nextFrom f s o 3) (ls ++ [2]) (.tuple #[.int .i64 (nextFrom f s o 3), .int .i64 0])) := by
  obtain ⟨⟨v, x, y⟩, hm⟩ := h
  obtain ⟨i0, hi, hz0, hz1, hz2⟩ := info_parts Try.infoI64
  have x3 : w.cell? ⟨b, 3, none⟩ = some (.int .i64 2) := x.cell 3
  have x4 : w.cell? ⟨b, 4, none⟩ = some v := x.cell 4
  have hf := x.free
  have X := Lib.hid x
  have HB := Lib.hid (show True from trivial)
  clear x
  have HB2 := Lib.hid hb
  clear hb
  cases y with
  | nil hnil e =>
    subst hnil e
    go_enter Try.func29, Try.ntmps29
    go_wp2_with (first
      | (at_builtin; refine wpList_append_own_none rfl (.tmp 29) (.tmp 33) 24 rfl w.heap.size 3 i0 1 Try.underlying24 hi _ 0 [] rfl (World.ownsRow_nil _ _ _ _) rfl ?_)
      | (at_builtin; refine wpList_append_own _ rfl (.tmp 36) (.tmp 41) 24 rfl w.heap.size 3 i0 (.int .i64 0) 1 8 Try.underlying24 hi hz0 hz1 hz2 rfl (by decide) _ _ _ rfl (World.ownsRow_nil _ _ _ _) ⟨w.heap.size, 0, none⟩ 1 1 [.int .i64 2] rfl rfl (cell_one_new _ _ _) (ints_oneCell .i64 [2]) (by unfold maxLen; omega) (by omega) (by simp) ?_; intro v2 w2 hown2 hgrow2 _; obtain ⟨g2, cap2, cur2, rfl, hgb2, hgB2, hgt2⟩ := ownsRow_pos hown2 (by omega); have hC2 : Chg [b] w w2 := ((Chg.refl [b] w).alloc _).grown hgrow2 (fun g hg => (nil_own hg).elim); have x2b : Blk w2 b [.int .i64 f, .int .i64 s, .int .i64 o, .int .i64 2, .slice none 0 0] 46 := (hgrow2.block b (by simp; have := X.out.lt; omega) (fun e => nil_own e.symm)).trans (X.out.alloc _); have hfw := x2b.free; have x20 := x2b.cell 0; have x21 := x2b.cell 1; have x22 := x2b.cell 2; have x23 := x2b.cell 3; have x24 := x2b.cell 4; simp only [List.getElem?_cons_zero, List.getElem?_cons_succ] at x20 x21 x22 x23 x24)
      | fail)
    have hgb : b ≠ g2 := x2b.ne hgB2 (by decide)
    have k3 := x2b.set 4 (.slice (some ⟨g2, 0, none⟩) (1) cap2)
    have hRow : RowAt (w2.setCell ⟨b, 4, none⟩ (.slice (some ⟨g2, 0, none⟩) (1) cap2)) (.slice (some ⟨g2, 0, none⟩) (1) cap2) ([] ++ [2]) :=
      .row g2 cap2 cur2 (by simp) (by simp) (hgB2.other (a := ⟨b, 4, none⟩) hgb _) (by simpa using hgt2)
    have hC3 := hC2.setCell (p := ⟨b, 4, none⟩) (by simp) (.slice (some ⟨g2, 0, none⟩) (1) cap2)
    simp only [List.set_cons_zero, List.set_cons_succ] at k3
    have hRA : RefAt _ b f s o 2 ([] ++ [2]) := ⟨⟨_, k3, hRow⟩, by simp; try omega⟩
    generalize w2.setCell _ _ = w3 at *
    have hb := HB2.out
    try simp only [List.nil_append] at hb hRA hRow
    clear x20 x21 x22 x23 x24 hfw HB2
    go_region_held3 (fun w' => w'.cell? ⟨b, 0, none⟩ = some (.int .i64 f) ∧ w'.cell? ⟨b, 1, none⟩ = some (.int .i64 s) ∧ w'.cell? ⟨b, 2, none⟩ = some (.int .i64 o) ∧ w'.cell? ⟨b, 3, none⟩ = some (.int .i64 2)) (first | exact ⟨k3.cell 0, k3.cell 1, k3.cell 2, k3.cell 3⟩ | exact ⟨(hx6.blk k3.drew (by simp)).cell 0, (hx6.blk k3.drew (by simp)).cell 1, (hx6.blk k3.drew (by simp)).cell 2, (hx6.blk k3.drew (by simp)).cell 3⟩)
      (first
        | (go_at_call 34; refine (Count_any _ b f s o 2 2 _ (by first | exact hRA.chg ((Chg.refl [] _).drew) (by simp) (by simp) | exact hRA.chg ((Chg.refl [] _).drew.trans hx6) (by simp) (by simp))).mono ?_; rintro e w5 ⟨rfl, rfl⟩)
        | (go_at_call 35; refine (refBudget_any _ f s o 2 (by decide)).mono ?_; rintro e w6 ⟨rfl, hx6⟩; rw [show refBud f s o 2 = s from rfl]))
    all_goals
      have k6 := hx6.blk k3.drew (by simp)
      have hRow6 := hRow.chg ((Chg.refl [] _).drew.trans hx6) (by simp)
      have hC6 := hC3.drew.trans' hx6 (by simp)
      have z0 : w6.cell? ⟨b, 0, none⟩ = some (.int .i64 f) := k6.cell 0
      have z1 : w6.cell? ⟨b, 1, none⟩ = some (.int .i64 s) := k6.cell 1
      have z2 : w6.cell? ⟨b, 2, none⟩ = some (.int .i64 o) := k6.cell 2
      have z3 : w6.cell? ⟨b, 3, none⟩ = some (.int .i64 2) := k6.cell 3
      have hf6 := k6.free
      go_wp2_with fail
      generalize hnx : nextFrom f s o 3 = nx at *
      go_region_with (first
          | (go_at_call 33; refine (first_any _ f s o 3 (by decide)).mono ?_; rintro e w7 ⟨rfl, hx7⟩; rw [hnx]; have z3' : w7.cell? ⟨b, 3, none⟩ = some (.int .i64 2) := (hx7.blk k6.drew (by simp)).cell 3; have hf7 := (hx7.blk k6.drew (by simp)).free))
      all_goals
        have k7 := hx7.blk k6.drew (by simp)
        have hRow7 := hRow6.chg ((Chg.refl [] _).drew.trans hx7) (by simp)
        have hC7 := hC6.drew.trans' hx7 (by simp)
        go_wp2_with fail
        go_ret2
        exact ⟨rfl, ⟨⟨_, k7.set 3 (.int .i64 nx), hRow7.chg ((Chg.refl [b] w7).setCell (p := ⟨b, 3, none⟩) (by simp) (.int .i64 nx)) (by intro c hc cs hcs; simp at hc; subst hc; exact absurd (hcs.inj k7).2 (by decide))⟩, by simp; try omega⟩, hC7.setCell (by simp) _⟩
  | row g cap cur hpos e hB ht =>
    subst e
    have hcells : ∀ j u, (ls.map (Value.int .i64))[j]? = some u → w.cell? ((⟨g, 0, none⟩ : Addr).add j) = some u := fun j u hj => by
      have e1 : ((⟨g, 0, none⟩ : Addr).add j) = ⟨g, j, none⟩ := by unfold Addr.add; split <;> simp_all
      have hjl : j < ls.length := by have := (List.getElem?_eq_some_iff.1 hj).1; simpa using this
      rw [e1, hB.cell, ← hj, ← ht, List.getElem?_take_of_lt hjl]
    have HCE := Lib.hid hcells
    clear hcells
    go_enter Try.func29, Try.ntmps29
    go_wp2_with (first
      | (at_builtin; refine wpList_append_own _ rfl (.tmp 29) (.tmp 33) 24 rfl w.heap.size 3 i0 (.int .i64 0) 1 8 Try.underlying24 hi hz0 hz1 hz2 rfl (by decide) _ 0 [] rfl (World.ownsRow_nil _ _ _ _) ⟨g, 0, none⟩ ls.length _ (ls.map (Value.int .i64)) rfl (by simp) HCE.out (ints_oneCell .i64 ls) (by unfold maxLen; omega) (by omega) (Nat.le_refl _) ?_; intro v1 w1 hown1 hgrow1 _; have hC1 : Chg [b] w w1 := (Chg.refl [b] w).grown hgrow1 (fun g hg => (nil_own hg).elim); have x1b := (hgrow1.block b X.out.lt (fun e => nil_own e.symm)).trans X.out; have x1c : Blk w1 b [.int .i64 f, .int .i64 s, .int .i64 o, .int .i64 2, .slice (some ⟨g, 0, none⟩) ls.length cap] 46 := x1b; have y13 := x1c.cell 3; simp only [List.getElem?_cons_zero, List.getElem?_cons_succ] at y13)
      | (at_builtin; refine wpList_append_own _ rfl (.tmp 36) (.tmp 41) 24 rfl w.heap.size 3 i0 (.int .i64 0) 1 8 Try.underlying24 hi hz0 hz1 hz2 rfl (by decide) _ _ _ rfl (hown1.alloc _) ⟨w1.heap.size, 0, none⟩ 1 1 [.int .i64 2] rfl rfl (cell_one_new _ _ _) (ints_oneCell .i64 [2]) (by unfold maxLen; omega) (by omega) (by have := hC1.size; simp; omega) ?_; intro v2 w2 hown2 hgrow2 _; obtain ⟨g2, cap2, cur2, rfl, hgb2, hgB2, hgt2⟩ := ownsRow_pos hown2 (by omega); have hC2 : Chg [b] w w2 := (hC1.alloc _).grown hgrow2 (by intro q hq; exact own_ge hown1 (by omega) hq); have x2b : Blk w2 b [.int .i64 f, .int .i64 s, .int .i64 o, .int .i64 2, .slice (some ⟨g, 0, none⟩) ls.length cap] 46 := (hgrow2.block b (by simp; have := x1c.lt; omega) (by intro e; have := own_ge hown1 (by omega) e.symm; have := X.out.lt; omega)).trans (x1c.alloc _); have hfw := x2b.free; have x20 := x2b.cell 0; have x21 := x2b.cell 1; have x22 := x2b.cell 2; have x23 := x2b.cell 3; have x24 := x2b.cell 4; simp only [List.getElem?_cons_zero, List.getElem?_cons_succ] at x20 x21 x22 x23 x24)
      | fail)
    have hgb : b ≠ g2 := x2b.ne hgB2 (by decide)
    have k3 := x2b.set 4 (.slice (some ⟨g2, 0, none⟩) (ls.length + 1) cap2)
    have hRow : RowAt (w2.setCell ⟨b, 4, none⟩ (.slice (some ⟨g2, 0, none⟩) (ls.length + 1) cap2)) (.slice (some ⟨g2, 0, none⟩) (ls.length + 1) cap2) (ls ++ [2]) :=
      .row g2 cap2 cur2 (by simp) (by simp) (hgB2.other (a := ⟨b, 4, none⟩) hgb _) (by simpa using hgt2)
    have hC3 := hC2.setCell (p := ⟨b, 4, none⟩) (by simp) (.slice (some ⟨g2, 0, none⟩) (ls.length + 1) cap2)
    simp only [List.set_cons_zero, List.set_cons_succ] at k3
    have hRA : RefAt _ b f s o 2 (ls ++ [2]) := ⟨⟨_, k3, hRow⟩, by simp; try omega⟩
    generalize w2.setCell _ _ = w3 at *
    have hb := HB2.out
    try simp only [List.nil_append] at hb hRA hRow
    clear x20 x21 x22 x23 x24 hfw HB2
    go_region_held3 (fun w' => w'.cell? ⟨b, 0, none⟩ = some (.int .i64 f) ∧ w'.cell? ⟨b, 1, none⟩ = some (.int .i64 s) ∧ w'.cell? ⟨b, 2, none⟩ = some (.int .i64 o) ∧ w'.cell? ⟨b, 3, none⟩ = some (.int .i64 2)) (first | exact ⟨k3.cell 0, k3.cell 1, k3.cell 2, k3.cell 3⟩ | exact ⟨(hx6.blk k3.drew (by simp)).cell 0, (hx6.blk k3.drew (by simp)).cell 1, (hx6.blk k3.drew (by simp)).cell 2, (hx6.blk k3.drew (by simp)).cell 3⟩)
      (first
        | (go_at_call 34; refine (Count_any _ b f s o 2 2 _ (by first | exact hRA.chg ((Chg.refl [] _).drew) (by simp) (by simp) | exact hRA.chg ((Chg.refl [] _).drew.trans hx6) (by simp) (by simp))).mono ?_; rintro e w5 ⟨rfl, rfl⟩)
        | (go_at_call 35; refine (refBudget_any _ f s o 2 (by decide)).mono ?_; rintro e w6 ⟨rfl, hx6⟩; rw [show refBud f s o 2 = s from rfl]))
    all_goals
      have k6 := hx6.blk k3.drew (by simp)
      have hRow6 := hRow.chg ((Chg.refl [] _).drew.trans hx6) (by simp)
      have hC6 := hC3.drew.trans' hx6 (by simp)
      have z0 : w6.cell? ⟨b, 0, none⟩ = some (.int .i64 f) := k6.cell 0
      have z1 : w6.cell? ⟨b, 1, none⟩ = some (.int .i64 s) := k6.cell 1
      have z2 : w6.cell? ⟨b, 2, none⟩ = some (.int .i64 o) := k6.cell 2
      have z3 : w6.cell? ⟨b, 3, none⟩ = some (.int .i64 2) := k6.cell 3
      have hf6 := k6.free
      go_wp2_with fail
      generalize hnx : nextFrom f s o 3 = nx at *
      go_region_with (first
          | (go_at_call 33; refine (first_any _ f s o 3 (by decide)).mono ?_; rintro e w7 ⟨rfl, hx7⟩; rw [hnx]; have z3' : w7.cell? ⟨b, 3, none⟩ = some (.int .i64 2) := (hx7.blk k6.drew (by simp)).cell 3; have hf7 := (hx7.blk k6.drew (by simp)).free))
      all_goals
        have k7 := hx7.blk k6.drew (by simp)
        have hRow7 := hRow6.chg ((Chg.refl [] _).drew.trans hx7) (by simp)
        have hC7 := hC6.drew.trans' hx7 (by simp)
        go_wp2_with fail
        go_ret2
        exact ⟨rfl, ⟨⟨_, k7.set 3 (.int .i64 nx), hRow7.chg ((Chg.refl [b] w7).setCell (p := ⟨b, 3, none⟩) (by simp) (.int .i64 nx)) (by intro c hc cs hcs; simp at hc; subst hc; exact absurd (hcs.inj k7).2 (by decide))⟩, by simp; try omega⟩, hC7.setCell (by simp) _⟩

set_option maxRecDepth 100000 in
set_option maxHeartbeats 2000000 in
theorem refAbort_not2 (w : World) (b : Nat) (f s o n : Int) (ls : List Int) (h1 : 1 ≤ n) (h8 : n ≤ 8) (h7 : (n == 7) = false) (hne : (n == 3) = false) (hb : cnt (ls ++ [2]) 2 < s) (hlen : ls.length < 100) (h : RefAt w b f s o 2 ls) :
    Calls Try.prog 29 #[.pointer (some ⟨b, 0, none⟩), .int .i64 n] w (rPost w b f s o 2 (ls ++ [2]) (.tuple #[.int .i64 2, .int .i64 0])) := by
  obtain ⟨⟨v, x, y⟩, hm⟩ := h
  obtain ⟨i0, hi, hz0, hz1, hz2⟩ := info_parts Try.infoI64
  have x3 : w.cell? ⟨b, 3, none⟩ = some (.int .i64 2) := x.cell 3
  have x4 : w.cell? ⟨b, 4, none⟩ = some v := x.cell 4
  have hf := x.free
  have X := Lib.hid x
  have HB := Lib.hid (show True from trivial)
  clear x
  have HB2 := Lib.hid hb
  clear hb
  cases y with
  | nil hnil e =>
    subst hnil e
    go_enter Try.func29, Try.ntmps29
    go_wp2_with (first
      | (at_builtin; refine wpList_append_own_none rfl (.tmp 29) (.tmp 33) 24 rfl w.heap.size 3 i0 1 Try.underlying24 hi _ 0 [] rfl (World.ownsRow_nil _ _ _ _) rfl ?_)
      | (at_builtin; refine wpList_append_own _ rfl (.tmp 36) (.tmp 41) 24 rfl w.heap.size 3 i0 (.int .i64 0) 1 8 Try.underlying24 hi hz0 hz1 hz2 rfl (by decide) _ _ _ rfl (World.ownsRow_nil _ _ _ _) ⟨w.heap.size, 0, none⟩ 1 1 [.int .i64 2] rfl rfl (cell_one_new _ _ _) (ints_oneCell .i64 [2]) (by unfold maxLen; omega) (by omega) (by simp) ?_; intro v2 w2 hown2 hgrow2 _; obtain ⟨g2, cap2, cur2, rfl, hgb2, hgB2, hgt2⟩ := ownsRow_pos hown2 (by omega); have hC2 : Chg [b] w w2 := ((Chg.refl [b] w).alloc _).grown hgrow2 (fun g hg => (nil_own hg).elim); have x2b : Blk w2 b [.int .i64 f, .int .i64 s, .int .i64 o, .int .i64 2, .slice none 0 0] 46 := (hgrow2.block b (by simp; have := X.out.lt; omega) (fun e => nil_own e.symm)).trans (X.out.alloc _); have hfw := x2b.free; have x20 := x2b.cell 0; have x21 := x2b.cell 1; have x22 := x2b.cell 2; have x23 := x2b.cell 3; have x24 := x2b.cell 4; simp only [List.getElem?_cons_zero, List.getElem?_cons_succ] at x20 x21 x22 x23 x24)
      | fail)
    have hgb : b ≠ g2 := x2b.ne hgB2 (by decide)
    have k3 := x2b.set 4 (.slice (some ⟨g2, 0, none⟩) (1) cap2)
    have hRow : RowAt (w2.setCell ⟨b, 4, none⟩ (.slice (some ⟨g2, 0, none⟩) (1) cap2)) (.slice (some ⟨g2, 0, none⟩) (1) cap2) ([] ++ [2]) :=
      .row g2 cap2 cur2 (by simp) (by simp) (hgB2.other (a := ⟨b, 4, none⟩) hgb _) (by simpa using hgt2)
    have hC3 := hC2.setCell (p := ⟨b, 4, none⟩) (by simp) (.slice (some ⟨g2, 0, none⟩) (1) cap2)
    simp only [List.set_cons_zero, List.set_cons_succ] at k3
    have hRA : RefAt _ b f s o 2 ([] ++ [2]) := ⟨⟨_, k3, hRow⟩, by simp; try omega⟩
    generalize w2.setCell _ _ = w3 at *
    have hb := HB2.out
    try simp only [List.nil_append] at hb hRA hRow
    clear x20 x21 x22 x23 x24 hfw HB2
    go_region_held3 (fun w' => w'.cell? ⟨b, 0, none⟩ = some (.int .i64 f) ∧ w'.cell? ⟨b, 1, none⟩ = some (.int .i64 s) ∧ w'.cell? ⟨b, 2, none⟩ = some (.int .i64 o) ∧ w'.cell? ⟨b, 3, none⟩ = some (.int .i64 2)) (first | exact ⟨k3.cell 0, k3.cell 1, k3.cell 2, k3.cell 3⟩ | exact ⟨(hx6.blk k3.drew (by simp)).cell 0, (hx6.blk k3.drew (by simp)).cell 1, (hx6.blk k3.drew (by simp)).cell 2, (hx6.blk k3.drew (by simp)).cell 3⟩)
      (first
        | (go_at_call 34; refine (Count_any _ b f s o 2 2 _ (by first | exact hRA.chg ((Chg.refl [] _).drew) (by simp) (by simp) | exact hRA.chg ((Chg.refl [] _).drew.trans hx6) (by simp) (by simp))).mono ?_; rintro e w5 ⟨rfl, rfl⟩)
        | (go_at_call 35; refine (refBudget_any _ f s o 2 (by decide)).mono ?_; rintro e w6 ⟨rfl, hx6⟩; rw [show refBud f s o 2 = s from rfl]))
    all_goals
      have k6 := hx6.blk k3.drew (by simp)
      have hRow6 := hRow.chg ((Chg.refl [] _).drew.trans hx6) (by simp)
      have hC6 := hC3.drew.trans' hx6 (by simp)
      have z0 : w6.cell? ⟨b, 0, none⟩ = some (.int .i64 f) := k6.cell 0
      have z1 : w6.cell? ⟨b, 1, none⟩ = some (.int .i64 s) := k6.cell 1
      have z2 : w6.cell? ⟨b, 2, none⟩ = some (.int .i64 o) := k6.cell 2
      have z3 : w6.cell? ⟨b, 3, none⟩ = some (.int .i64 2) := k6.cell 3
      have hf6 := k6.free
      go_wp2_with fail
      go_ret2
      exact ⟨rfl, ⟨⟨_, k6, hRow6⟩, by simp; try omega⟩, hC6⟩
  | row g cap cur hpos e hB ht =>
    subst e
    have hcells : ∀ j u, (ls.map (Value.int .i64))[j]? = some u → w.cell? ((⟨g, 0, none⟩ : Addr).add j) = some u := fun j u hj => by
      have e1 : ((⟨g, 0, none⟩ : Addr).add j) = ⟨g, j, none⟩ := by unfold Addr.add; split <;> simp_all
      have hjl : j < ls.length := by have := (List.getElem?_eq_some_iff.1 hj).1; simpa using this
      rw [e1, hB.cell, ← hj, ← ht, List.getElem?_take_of_lt hjl]
    have HCE := Lib.hid hcells
    clear hcells
    go_enter Try.func29, Try.ntmps29
    go_wp2_with (first
      | (at_builtin; refine wpList_append_own _ rfl (.tmp 29) (.tmp 33) 24 rfl w.heap.size 3 i0 (.int .i64 0) 1 8 Try.underlying24 hi hz0 hz1 hz2 rfl (by decide) _ 0 [] rfl (World.ownsRow_nil _ _ _ _) ⟨g, 0, none⟩ ls.length _ (ls.map (Value.int .i64)) rfl (by simp) HCE.out (ints_oneCell .i64 ls) (by unfold maxLen; omega) (by omega) (Nat.le_refl _) ?_; intro v1 w1 hown1 hgrow1 _; have hC1 : Chg [b] w w1 := (Chg.refl [b] w).grown hgrow1 (fun g hg => (nil_own hg).elim); have x1b := (hgrow1.block b X.out.lt (fun e => nil_own e.symm)).trans X.out; have x1c : Blk w1 b [.int .i64 f, .int .i64 s, .int .i64 o, .int .i64 2, .slice (some ⟨g, 0, none⟩) ls.length cap] 46 := x1b; have y13 := x1c.cell 3; simp only [List.getElem?_cons_zero, List.getElem?_cons_succ] at y13)
      | (at_builtin; refine wpList_append_own _ rfl (.tmp 36) (.tmp 41) 24 rfl w.heap.size 3 i0 (.int .i64 0) 1 8 Try.underlying24 hi hz0 hz1 hz2 rfl (by decide) _ _ _ rfl (hown1.alloc _) ⟨w1.heap.size, 0, none⟩ 1 1 [.int .i64 2] rfl rfl (cell_one_new _ _ _) (ints_oneCell .i64 [2]) (by unfold maxLen; omega) (by omega) (by have := hC1.size; simp; omega) ?_; intro v2 w2 hown2 hgrow2 _; obtain ⟨g2, cap2, cur2, rfl, hgb2, hgB2, hgt2⟩ := ownsRow_pos hown2 (by omega); have hC2 : Chg [b] w w2 := (hC1.alloc _).grown hgrow2 (by intro q hq; exact own_ge hown1 (by omega) hq); have x2b : Blk w2 b [.int .i64 f, .int .i64 s, .int .i64 o, .int .i64 2, .slice (some ⟨g, 0, none⟩) ls.length cap] 46 := (hgrow2.block b (by simp; have := x1c.lt; omega) (by intro e; have := own_ge hown1 (by omega) e.symm; have := X.out.lt; omega)).trans (x1c.alloc _); have hfw := x2b.free; have x20 := x2b.cell 0; have x21 := x2b.cell 1; have x22 := x2b.cell 2; have x23 := x2b.cell 3; have x24 := x2b.cell 4; simp only [List.getElem?_cons_zero, List.getElem?_cons_succ] at x20 x21 x22 x23 x24)
      | fail)
    have hgb : b ≠ g2 := x2b.ne hgB2 (by decide)
    have k3 := x2b.set 4 (.slice (some ⟨g2, 0, none⟩) (ls.length + 1) cap2)
    have hRow : RowAt (w2.setCell ⟨b, 4, none⟩ (.slice (some ⟨g2, 0, none⟩) (ls.length + 1) cap2)) (.slice (some ⟨g2, 0, none⟩) (ls.length + 1) cap2) (ls ++ [2]) :=
      .row g2 cap2 cur2 (by simp) (by simp) (hgB2.other (a := ⟨b, 4, none⟩) hgb _) (by simpa using hgt2)
    have hC3 := hC2.setCell (p := ⟨b, 4, none⟩) (by simp) (.slice (some ⟨g2, 0, none⟩) (ls.length + 1) cap2)
    simp only [List.set_cons_zero, List.set_cons_succ] at k3
    have hRA : RefAt _ b f s o 2 (ls ++ [2]) := ⟨⟨_, k3, hRow⟩, by simp; try omega⟩
    generalize w2.setCell _ _ = w3 at *
    have hb := HB2.out
    try simp only [List.nil_append] at hb hRA hRow
    clear x20 x21 x22 x23 x24 hfw HB2
    go_region_held3 (fun w' => w'.cell? ⟨b, 0, none⟩ = some (.int .i64 f) ∧ w'.cell? ⟨b, 1, none⟩ = some (.int .i64 s) ∧ w'.cell? ⟨b, 2, none⟩ = some (.int .i64 o) ∧ w'.cell? ⟨b, 3, none⟩ = some (.int .i64 2)) (first | exact ⟨k3.cell 0, k3.cell 1, k3.cell 2, k3.cell 3⟩ | exact ⟨(hx6.blk k3.drew (by simp)).cell 0, (hx6.blk k3.drew (by simp)).cell 1, (hx6.blk k3.drew (by simp)).cell 2, (hx6.blk k3.drew (by simp)).cell 3⟩)
      (first
        | (go_at_call 34; refine (Count_any _ b f s o 2 2 _ (by first | exact hRA.chg ((Chg.refl [] _).drew) (by simp) (by simp) | exact hRA.chg ((Chg.refl [] _).drew.trans hx6) (by simp) (by simp))).mono ?_; rintro e w5 ⟨rfl, rfl⟩)
        | (go_at_call 35; refine (refBudget_any _ f s o 2 (by decide)).mono ?_; rintro e w6 ⟨rfl, hx6⟩; rw [show refBud f s o 2 = s from rfl]))
    all_goals
      have k6 := hx6.blk k3.drew (by simp)
      have hRow6 := hRow.chg ((Chg.refl [] _).drew.trans hx6) (by simp)
      have hC6 := hC3.drew.trans' hx6 (by simp)
      have z0 : w6.cell? ⟨b, 0, none⟩ = some (.int .i64 f) := k6.cell 0
      have z1 : w6.cell? ⟨b, 1, none⟩ = some (.int .i64 s) := k6.cell 1
      have z2 : w6.cell? ⟨b, 2, none⟩ = some (.int .i64 o) := k6.cell 2
      have z3 : w6.cell? ⟨b, 3, none⟩ = some (.int .i64 2) := k6.cell 3
      have hf6 := k6.free
      go_wp2_with fail
      go_ret2
      exact ⟨rfl, ⟨⟨_, k6, hRow6⟩, by simp; try omega⟩, hC6⟩

set_option maxRecDepth 100000 in
set_option maxHeartbeats 2000000 in
theorem refAbort_full3 (w : World) (b : Nat) (f s o n : Int) (ls : List Int) (h1 : 1 ≤ n) (h8 : n ≤ 8) (h7 : (n == 7) = false) (hb : o ≤ cnt (ls ++ [3]) 3) (hlen : ls.length < 100) (h : RefAt w b f s o 3 ls) :
    Calls Try.prog 29 #[.pointer (some ⟨b, 0, none⟩), .int .i64 n] w (rPost w b f s o (nextFrom f s o 4) (ls ++ [3]) (.tuple #[.int .i64 (nextFrom f s o 4), .int .i64 0])) := by
  obtain ⟨⟨v, x, y⟩, hm⟩ := h
  obtain ⟨i0, hi, hz0, hz1, hz2⟩ := info_parts Try.infoI64
  have x3 : w.cell? ⟨b, 3, none⟩ = some (.int .i64 3) := x.cell 3
  have x4 : w.cell? ⟨b, 4, none⟩ = some v := x.cell 4
  have hf := x.free
  have X := Lib.hid x
  have HB := Lib.hid (show True from trivial)
  clear x
  have HB2 := Lib.hid hb
  clear hb
  cases y with
  | nil hnil e =>
    subst hnil e
    go_enter Try.func29, Try.ntmps29
    go_wp2_with (first
      | (at_builtin; refine wpList_append_own_none rfl (.tmp 29) (.tmp 33) 24 rfl w.heap.size 3 i0 1 Try.underlying24 hi _ 0 [] rfl (World.ownsRow_nil _ _ _ _) rfl ?_)
      | (at_builtin; refine wpList_append_own _ rfl (.tmp 36) (.tmp 41) 24 rfl w.heap.size 3 i0 (.int .i64 0) 1 8 Try.underlying24 hi hz0 hz1 hz2 rfl (by decide) _ _ _ rfl (World.ownsRow_nil _ _ _ _) ⟨w.heap.size, 0, none⟩ 1 1 [.int .i64 3] rfl rfl (cell_one_new _ _ _) (ints_oneCell .i64 [3]) (by unfold maxLen; omega) (by omega) (by simp) ?_; intro v2 w2 hown2 hgrow2 _; obtain ⟨g2, cap2, cur2, rfl, hgb2, hgB2, hgt2⟩ := ownsRow_pos hown2 (by omega); have hC2 : Chg [b] w w2 := ((Chg.refl [b] w).alloc _).grown hgrow2 (fun g hg => (nil_own hg).elim); have x2b : Blk w2 b [.int .i64 f, .int .i64 s, .int .i64 o, .int .i64 3, .slice none 0 0] 46 := (hgrow2.block b (by simp; have := X.out.lt; omega) (fun e => nil_own e.symm)).trans (X.out.alloc _); have hfw := x2b.free; have x20 := x2b.cell 0; have x21 := x2b.cell 1; have x22 := x2b.cell 2; have x23 := x2b.cell 3; have x24 := x2b.cell 4; simp only [List.getElem?_cons_zero, List.getElem?_cons_succ] at x20 x21 x22 x23 x24)
      | fail)
    have hgb : b ≠ g2 := x2b.ne hgB2 (by decide)
    have k3 := x2b.set 4 (.slice (some ⟨g2, 0, none⟩) (1) cap2)
    have hRow : RowAt (w2.setCell ⟨b, 4, none⟩ (.slice (some ⟨g2, 0, none⟩) (1) cap2)) (.slice (some ⟨g2, 0, none⟩) (1) cap2) ([] ++ [3]) :=
      .row g2 cap2 cur2 (by simp) (by simp) (hgB2.other (a := ⟨b, 4, none⟩) hgb _) (by simpa using hgt2)
    have hC3 := hC2.setCell (p := ⟨b, 4, none⟩) (by simp) (.slice (some ⟨g2, 0, none⟩) (1) cap2)
    simp only [List.set_cons_zero, List.set_cons_succ] at k3
    have hRA : RefAt _ b f s o 3 ([] ++ [3]) := ⟨⟨_, k3, hRow⟩, by simp; try omega⟩
    generalize w2.setCell _ _ = w3 at *
    have hb := HB2.out
    try simp only [List.nil_append] at hb hRA hRow
    clear x20 x21 x22 x23 x24 hfw HB2
    go_region_held3 (fun w' => w'.cell? ⟨b, 0, none⟩ = some (.int .i64 f) ∧ w'.cell? ⟨b, 1, none⟩ = some (.int .i64 s) ∧ w'.cell? ⟨b, 2, none⟩ = some (.int .i64 o) ∧ w'.cell? ⟨b, 3, none⟩ = some (.int .i64 3)) (first | exact ⟨k3.cell 0, k3.cell 1, k3.cell 2, k3.cell 3⟩ | exact ⟨(hx6.blk k3.drew (by simp)).cell 0, (hx6.blk k3.drew (by simp)).cell 1, (hx6.blk k3.drew (by simp)).cell 2, (hx6.blk k3.drew (by simp)).cell 3⟩)
      (first
        | (go_at_call 34; refine (Count_any _ b f s o 3 3 _ (by first | exact hRA.chg ((Chg.refl [] _).drew) (by simp) (by simp) | exact hRA.chg ((Chg.refl [] _).drew.trans hx6) (by simp) (by simp))).mono ?_; rintro e w5 ⟨rfl, rfl⟩)
        | (go_at_call 35; refine (refBudget_any _ f s o 3 (by decide)).mono ?_; rintro e w6 ⟨rfl, hx6⟩; rw [show refBud f s o 3 = o from rfl]))
    all_goals
      have k6 := hx6.blk k3.drew (by simp)
      have hRow6 := hRow.chg ((Chg.refl [] _).drew.trans hx6) (by simp)
      have hC6 := hC3.drew.trans' hx6 (by simp)
      have z0 : w6.cell? ⟨b, 0, none⟩ = some (.int .i64 f) := k6.cell 0
      have z1 : w6.cell? ⟨b, 1, none⟩ = some (.int .i64 s) := k6.cell 1
      have z2 : w6.cell? ⟨b, 2, none⟩ = some (.int .i64 o) := k6.cell 2
      have z3 : w6.cell? ⟨b, 3, none⟩ = some (.int .i64 3) := k6.cell 3
      have hf6 := k6.free
      go_wp2_with fail
      generalize hnx : nextFrom f s o 4 = nx at *
      go_region_with (first
          | (go_at_call 33; refine (first_any _ f s o 4 (by decide)).mono ?_; rintro e w7 ⟨rfl, hx7⟩; rw [hnx]; have z3' : w7.cell? ⟨b, 3, none⟩ = some (.int .i64 3) := (hx7.blk k6.drew (by simp)).cell 3; have hf7 := (hx7.blk k6.drew (by simp)).free))
      all_goals
        have k7 := hx7.blk k6.drew (by simp)
        have hRow7 := hRow6.chg ((Chg.refl [] _).drew.trans hx7) (by simp)
        have hC7 := hC6.drew.trans' hx7 (by simp)
        go_wp2_with fail
        go_ret2
        exact ⟨rfl, ⟨⟨_, k7.set 3 (.int .i64 nx), hRow7.chg ((Chg.refl [b] w7).setCell (p := ⟨b, 3, none⟩) (by simp) (.int .i64 nx)) (by intro c hc cs hcs; simp at hc; subst hc; exact absurd (hcs.inj k7).2 (by decide))⟩, by simp; try omega⟩, hC7.setCell (by simp) _⟩
  | row g cap cur hpos e hB ht =>
    subst e
    have hcells : ∀ j u, (ls.map (Value.int .i64))[j]? = some u → w.cell? ((⟨g, 0, none⟩ : Addr).add j) = some u := fun j u hj => by
      have e1 : ((⟨g, 0, none⟩ : Addr).add j) = ⟨g, j, none⟩ := by unfold Addr.add; split <;> simp_all
      have hjl : j < ls.length := by have := (List.getElem?_eq_some_iff.1 hj).1; simpa using this
      rw [e1, hB.cell, ← hj, ← ht, List.getElem?_take_of_lt hjl]
    have HCE := Lib.hid hcells
    clear hcells
    go_enter Try.func29, Try.ntmps29
    go_wp2_with (first
      | (at_builtin; refine wpList_append_own _ rfl (.tmp 29) (.tmp 33) 24 rfl w.heap.size 3 i0 (.int .i64 0) 1 8 Try.underlying24 hi hz0 hz1 hz2 rfl (by decide) _ 0 [] rfl (World.ownsRow_nil _ _ _ _) ⟨g, 0, none⟩ ls.length _ (ls.map (Value.int .i64)) rfl (by simp) HCE.out (ints_oneCell .i64 ls) (by unfold maxLen; omega) (by omega) (Nat.le_refl _) ?_; intro v1 w1 hown1 hgrow1 _; have hC1 : Chg [b] w w1 := (Chg.refl [b] w).grown hgrow1 (fun g hg => (nil_own hg).elim); have x1b := (hgrow1.block b X.out.lt (fun e => nil_own e.symm)).trans X.out; have x1c : Blk w1 b [.int .i64 f, .int .i64 s, .int .i64 o, .int .i64 3, .slice (some ⟨g, 0, none⟩) ls.length cap] 46 := x1b; have y13 := x1c.cell 3; simp only [List.getElem?_cons_zero, List.getElem?_cons_succ] at y13)
      | (at_builtin; refine wpList_append_own _ rfl (.tmp 36) (.tmp 41) 24 rfl w.heap.size 3 i0 (.int .i64 0) 1 8 Try.underlying24 hi hz0 hz1 hz2 rfl (by decide) _ _ _ rfl (hown1.alloc _) ⟨w1.heap.size, 0, none⟩ 1 1 [.int .i64 3] rfl rfl (cell_one_new _ _ _) (ints_oneCell .i64 [3]) (by unfold maxLen; omega) (by omega) (by have := hC1.size; simp; omega) ?_; intro v2 w2 hown2 hgrow2 _; obtain ⟨g2, cap2, cur2, rfl, hgb2, hgB2, hgt2⟩ := ownsRow_pos hown2 (by omega); have hC2 : Chg [b] w w2 := (hC1.alloc _).grown hgrow2 (by intro q hq; exact own_ge hown1 (by omega) hq); have x2b : Blk w2 b [.int .i64 f, .int .i64 s, .int .i64 o, .int .i64 3, .slice (some ⟨g, 0, none⟩) ls.length cap] 46 := (hgrow2.block b (by simp; have := x1c.lt; omega) (by intro e; have := own_ge hown1 (by omega) e.symm; have := X.out.lt; omega)).trans (x1c.alloc _); have hfw := x2b.free; have x20 := x2b.cell 0; have x21 := x2b.cell 1; have x22 := x2b.cell 2; have x23 := x2b.cell 3; have x24 := x2b.cell 4; simp only [List.getElem?_cons_zero, List.getElem?_cons_succ] at x20 x21 x22 x23 x24)
      | fail)
    have hgb : b ≠ g2 := x2b.ne hgB2 (by decide)
    have k3 := x2b.set 4 (.slice (some ⟨g2, 0, none⟩) (ls.length + 1) cap2)
    have hRow : RowAt (w2.setCell ⟨b, 4, none⟩ (.slice (some ⟨g2, 0, none⟩) (ls.length + 1) cap2)) (.slice (some ⟨g2, 0, none⟩) (ls.length + 1) cap2) (ls ++ [3]) :=
      .row g2 cap2 cur2 (by simp) (by simp) (hgB2.other (a := ⟨b, 4, none⟩) hgb _) (by simpa using hgt2)
    have hC3 := hC2.setCell (p := ⟨b, 4, none⟩) (by simp) (.slice (some ⟨g2, 0, none⟩) (ls.length + 1) cap2)
    simp only [List.set_cons_zero, List.set_cons_succ] at k3
    have hRA : RefAt _ b f s o 3 (ls ++ [3]) := ⟨⟨_, k3, hRow⟩, by simp; try omega⟩
    generalize w2.setCell _ _ = w3 at *
    have hb := HB2.out
    try simp only [List.nil_append] at hb hRA hRow
    clear x20 x21 x22 x23 x24 hfw HB2
    go_region_held3 (fun w' => w'.cell? ⟨b, 0, none⟩ = some (.int .i64 f) ∧ w'.cell? ⟨b, 1, none⟩ = some (.int .i64 s) ∧ w'.cell? ⟨b, 2, none⟩ = some (.int .i64 o) ∧ w'.cell? ⟨b, 3, none⟩ = some (.int .i64 3)) (first | exact ⟨k3.cell 0, k3.cell 1, k3.cell 2, k3.cell 3⟩ | exact ⟨(hx6.blk k3.drew (by simp)).cell 0, (hx6.blk k3.drew (by simp)).cell 1, (hx6.blk k3.drew (by simp)).cell 2, (hx6.blk k3.drew (by simp)).cell 3⟩)
      (first
        | (go_at_call 34; refine (Count_any _ b f s o 3 3 _ (by first | exact hRA.chg ((Chg.refl [] _).drew) (by simp) (by simp) | exact hRA.chg ((Chg.refl [] _).drew.trans hx6) (by simp) (by simp))).mono ?_; rintro e w5 ⟨rfl, rfl⟩)
        | (go_at_call 35; refine (refBudget_any _ f s o 3 (by decide)).mono ?_; rintro e w6 ⟨rfl, hx6⟩; rw [show refBud f s o 3 = o from rfl]))
    all_goals
      have k6 := hx6.blk k3.drew (by simp)
      have hRow6 := hRow.chg ((Chg.refl [] _).drew.trans hx6) (by simp)
      have hC6 := hC3.drew.trans' hx6 (by simp)
      have z0 : w6.cell? ⟨b, 0, none⟩ = some (.int .i64 f) := k6.cell 0
      have z1 : w6.cell? ⟨b, 1, none⟩ = some (.int .i64 s) := k6.cell 1
      have z2 : w6.cell? ⟨b, 2, none⟩ = some (.int .i64 o) := k6.cell 2
      have z3 : w6.cell? ⟨b, 3, none⟩ = some (.int .i64 3) := k6.cell 3
      have hf6 := k6.free
      go_wp2_with fail
      generalize hnx : nextFrom f s o 4 = nx at *
      go_region_with (first
          | (go_at_call 33; refine (first_any _ f s o 4 (by decide)).mono ?_; rintro e w7 ⟨rfl, hx7⟩; rw [hnx]; have z3' : w7.cell? ⟨b, 3, none⟩ = some (.int .i64 3) := (hx7.blk k6.drew (by simp)).cell 3; have hf7 := (hx7.blk k6.drew (by simp)).free))
      all_goals
        have k7 := hx7.blk k6.drew (by simp)
        have hRow7 := hRow6.chg ((Chg.refl [] _).drew.trans hx7) (by simp)
        have hC7 := hC6.drew.trans' hx7 (by simp)
        go_wp2_with fail
        go_ret2
        exact ⟨rfl, ⟨⟨_, k7.set 3 (.int .i64 nx), hRow7.chg ((Chg.refl [b] w7).setCell (p := ⟨b, 3, none⟩) (by simp) (.int .i64 nx)) (by intro c hc cs hcs; simp at hc; subst hc; exact absurd (hcs.inj k7).2 (by decide))⟩, by simp; try omega⟩, hC7.setCell (by simp) _⟩

set_option maxRecDepth 100000 in
set_option maxHeartbeats 2000000 in
theorem refAbort_not3 (w : World) (b : Nat) (f s o n : Int) (ls : List Int) (h1 : 1 ≤ n) (h8 : n ≤ 8) (h7 : (n == 7) = false) (hb : cnt (ls ++ [3]) 3 < o) (hlen : ls.length < 100) (h : RefAt w b f s o 3 ls) :
    Calls Try.prog 29 #[.pointer (some ⟨b, 0, none⟩), .int .i64 n] w (rPost w b f s o 3 (ls ++ [3]) (.tuple #[.int .i64 3, .int .i64 0])) := by
  obtain ⟨⟨v, x, y⟩, hm⟩ := h
  obtain ⟨i0, hi, hz0, hz1, hz2⟩ := info_parts Try.infoI64
  have x3 : w.cell? ⟨b, 3, none⟩ = some (.int .i64 3) := x.cell 3
  have x4 : w.cell? ⟨b, 4, none⟩ = some v := x.cell 4
  have hf := x.free
  have X := Lib.hid x
  have HB := Lib.hid (show True from trivial)
  clear x
  have HB2 := Lib.hid hb
  clear hb
  cases y with
  | nil hnil e =>
    subst hnil e
    go_enter Try.func29, Try.ntmps29
    go_wp2_with (first
      | (at_builtin; refine wpList_append_own_none rfl (.tmp 29) (.tmp 33) 24 rfl w.heap.size 3 i0 1 Try.underlying24 hi _ 0 [] rfl (World.ownsRow_nil _ _ _ _) rfl ?_)
      | (at_builtin; refine wpList_append_own _ rfl (.tmp 36) (.tmp 41) 24 rfl w.heap.size 3 i0 (.int .i64 0) 1 8 Try.underlying24 hi hz0 hz1 hz2 rfl (by decide) _ _ _ rfl (World.ownsRow_nil _ _ _ _) ⟨w.heap.size, 0, none⟩ 1 1 [.int .i64 3] rfl rfl (cell_one_new _ _ _) (ints_oneCell .i64 [3]) (by unfold maxLen; omega) (by omega) (by simp) ?_; intro v2 w2 hown2 hgrow2 _; obtain ⟨g2, cap2, cur2, rfl, hgb2, hgB2, hgt2⟩ := ownsRow_pos hown2 (by omega); have hC2 : Chg [b] w w2 := ((Chg.refl [b] w).alloc _).grown hgrow2 (fun g hg => (nil_own hg).elim); have x2b : Blk w2 b [.int .i64 f, .int .i64 s, .int .i64 o, .int .i64 3, .slice none 0 0] 46 := (hgrow2.block b (by simp; have := X.out.lt; omega) (fun e => nil_own e.symm)).trans (X.out.alloc _); have hfw := x2b.free; have x20 := x2b.cell 0; have x21 := x2b.cell 1; have x22 := x2b.cell 2; have x23 := x2b.cell 3; have x24 := x2b.cell 4; simp only [List.getElem?_cons_zero, List.getElem?_cons_succ] at x20 x21 x22 x23 x24)
      | fail)
    have hgb : b ≠ g2 := x2b.ne hgB2 (by decide)
    have k3 := x2b.set 4 (.slice (some ⟨g2, 0, none⟩) (1) cap2)
    have hRow : RowAt (w2.setCell ⟨b, 4, none⟩ (.slice (some ⟨g2, 0, none⟩) (1) cap2)) (.slice (some ⟨g2, 0, none⟩) (1) cap2) ([] ++ [3]) :=
      .row g2 cap2 cur2 (by simp) (by simp) (hgB2.other (a := ⟨b, 4, none⟩) hgb _) (by simpa using hgt2)
    have hC3 := hC2.setCell (p := ⟨b, 4, none⟩) (by simp) (.slice (some ⟨g2, 0, none⟩) (1) cap2)
    simp only [List.set_cons_zero, List.set_cons_succ] at k3
    have hRA : RefAt _ b f s o 3 ([] ++ [3]) := ⟨⟨_, k3, hRow⟩, by simp; try omega⟩
    generalize w2.setCell _ _ = w3 at *
    have hb := HB2.out
    try simp only [List.nil_append] at hb hRA hRow
    clear x20 x21 x22 x23 x24 hfw HB2
    go_region_held3 (fun w' => w'.cell? ⟨b, 0, none⟩ = some (.int .i64 f) ∧ w'.cell? ⟨b, 1, none⟩ = some (.int .i64 s) ∧ w'.cell? ⟨b, 2, none⟩ = some (.int .i64 o) ∧ w'.cell? ⟨b, 3, none⟩ = some (.int .i64 3)) (first | exact ⟨k3.cell 0, k3.cell 1, k3.cell 2, k3.cell 3⟩ | exact ⟨(hx6.blk k3.drew (by simp)).cell 0, (hx6.blk k3.drew (by simp)).cell 1, (hx6.blk k3.drew (by simp)).cell 2, (hx6.blk k3.drew (by simp)).cell 3⟩)
      (first
        | (go_at_call 34; refine (Count_any _ b f s o 3 3 _ (by first | exact hRA.chg ((Chg.refl [] _).drew) (by simp) (by simp) | exact hRA.chg ((Chg.refl [] _).drew.trans hx6) (by simp) (by simp))).mono ?_; rintro e w5 ⟨rfl, rfl⟩)
        | (go_at_call 35; refine (refBudget_any _ f s o 3 (by decide)).mono ?_; rintro e w6 ⟨rfl, hx6⟩; rw [show refBud f s o 3 = o from rfl]))
    all_goals
      have k6 := hx6.blk k3.drew (by simp)
      have hRow6 := hRow.chg ((Chg.refl [] _).drew.trans hx6) (by simp)
      have hC6 := hC3.drew.trans' hx6 (by simp)
      have z0 : w6.cell? ⟨b, 0, none⟩ = some (.int .i64 f) := k6.cell 0
      have z1 : w6.cell? ⟨b, 1, none⟩ = some (.int .i64 s) := k6.cell 1
      have z2 : w6.cell? ⟨b, 2, none⟩ = some (.int .i64 o) := k6.cell 2
      have z3 : w6.cell? ⟨b, 3, none⟩ = some (.int .i64 3) := k6.cell 3
      have hf6 := k6.free
      go_wp2_with fail
      go_ret2
      exact ⟨rfl, ⟨⟨_, k6, hRow6⟩, by simp; try omega⟩, hC6⟩
  | row g cap cur hpos e hB ht =>
    subst e
    have hcells : ∀ j u, (ls.map (Value.int .i64))[j]? = some u → w.cell? ((⟨g, 0, none⟩ : Addr).add j) = some u := fun j u hj => by
      have e1 : ((⟨g, 0, none⟩ : Addr).add j) = ⟨g, j, none⟩ := by unfold Addr.add; split <;> simp_all
      have hjl : j < ls.length := by have := (List.getElem?_eq_some_iff.1 hj).1; simpa using this
      rw [e1, hB.cell, ← hj, ← ht, List.getElem?_take_of_lt hjl]
    have HCE := Lib.hid hcells
    clear hcells
    go_enter Try.func29, Try.ntmps29
    go_wp2_with (first
      | (at_builtin; refine wpList_append_own _ rfl (.tmp 29) (.tmp 33) 24 rfl w.heap.size 3 i0 (.int .i64 0) 1 8 Try.underlying24 hi hz0 hz1 hz2 rfl (by decide) _ 0 [] rfl (World.ownsRow_nil _ _ _ _) ⟨g, 0, none⟩ ls.length _ (ls.map (Value.int .i64)) rfl (by simp) HCE.out (ints_oneCell .i64 ls) (by unfold maxLen; omega) (by omega) (Nat.le_refl _) ?_; intro v1 w1 hown1 hgrow1 _; have hC1 : Chg [b] w w1 := (Chg.refl [b] w).grown hgrow1 (fun g hg => (nil_own hg).elim); have x1b := (hgrow1.block b X.out.lt (fun e => nil_own e.symm)).trans X.out; have x1c : Blk w1 b [.int .i64 f, .int .i64 s, .int .i64 o, .int .i64 3, .slice (some ⟨g, 0, none⟩) ls.length cap] 46 := x1b; have y13 := x1c.cell 3; simp only [List.getElem?_cons_zero, List.getElem?_cons_succ] at y13)
      | (at_builtin; refine wpList_append_own _ rfl (.tmp 36) (.tmp 41) 24 rfl w.heap.size 3 i0 (.int .i64 0) 1 8 Try.underlying24 hi hz0 hz1 hz2 rfl (by decide) _ _ _ rfl (hown1.alloc _) ⟨w1.heap.size, 0, none⟩ 1 1 [.int .i64 3] rfl rfl (cell_one_new _ _ _) (ints_oneCell .i64 [3]) (by unfold maxLen; omega) (by omega) (by have := hC1.size; simp; omega) ?_; intro v2 w2 hown2 hgrow2 _; obtain ⟨g2, cap2, cur2, rfl, hgb2, hgB2, hgt2⟩ := ownsRow_pos hown2 (by omega); have hC2 : Chg [b] w w2 := (hC1.alloc _).grown hgrow2 (by intro q hq; exact own_ge hown1 (by omega) hq); have x2b : Blk w2 b [.int .i64 f, .int .i64 s, .int .i64 o, .int .i64 3, .slice (some ⟨g, 0, none⟩) ls.length cap] 46 := (hgrow2.block b (by simp; have := x1c.lt; omega) (by intro e; have := own_ge hown1 (by omega) e.symm; have := X.out.lt; omega)).trans (x1c.alloc _); have hfw := x2b.free; have x20 := x2b.cell 0; have x21 := x2b.cell 1; have x22 := x2b.cell 2; have x23 := x2b.cell 3; have x24 := x2b.cell 4; simp only [List.getElem?_cons_zero, List.getElem?_cons_succ] at x20 x21 x22 x23 x24)
      | fail)
    have hgb : b ≠ g2 := x2b.ne hgB2 (by decide)
    have k3 := x2b.set 4 (.slice (some ⟨g2, 0, none⟩) (ls.length + 1) cap2)
    have hRow : RowAt (w2.setCell ⟨b, 4, none⟩ (.slice (some ⟨g2, 0, none⟩) (ls.length + 1) cap2)) (.slice (some ⟨g2, 0, none⟩) (ls.length + 1) cap2) (ls ++ [3]) :=
      .row g2 cap2 cur2 (by simp) (by simp) (hgB2.other (a := ⟨b, 4, none⟩) hgb _) (by simpa using hgt2)
    have hC3 := hC2.setCell (p := ⟨b, 4, none⟩) (by simp) (.slice (some ⟨g2, 0, none⟩) (ls.length + 1) cap2)
    simp only [List.set_cons_zero, List.set_cons_succ] at k3
    have hRA : RefAt _ b f s o 3 (ls ++ [3]) := ⟨⟨_, k3, hRow⟩, by simp; try omega⟩
    generalize w2.setCell _ _ = w3 at *
    have hb := HB2.out
    try simp only [List.nil_append] at hb hRA hRow
    clear x20 x21 x22 x23 x24 hfw HB2
    go_region_held3 (fun w' => w'.cell? ⟨b, 0, none⟩ = some (.int .i64 f) ∧ w'.cell? ⟨b, 1, none⟩ = some (.int .i64 s) ∧ w'.cell? ⟨b, 2, none⟩ = some (.int .i64 o) ∧ w'.cell? ⟨b, 3, none⟩ = some (.int .i64 3)) (first | exact ⟨k3.cell 0, k3.cell 1, k3.cell 2, k3.cell 3⟩ | exact ⟨(hx6.blk k3.drew (by simp)).cell 0, (hx6.blk k3.drew (by simp)).cell 1, (hx6.blk k3.drew (by simp)).cell 2, (hx6.blk k3.drew (by simp)).cell 3⟩)
      (first
        | (go_at_call 34; refine (Count_any _ b f s o 3 3 _ (by first | exact hRA.chg ((Chg.refl [] _).drew) (by simp) (by simp) | exact hRA.chg ((Chg.refl [] _).drew.trans hx6) (by simp) (by simp))).mono ?_; rintro e w5 ⟨rfl, rfl⟩)
        | (go_at_call 35; refine (refBudget_any _ f s o 3 (by decide)).mono ?_; rintro e w6 ⟨rfl, hx6⟩; rw [show refBud f s o 3 = o from rfl]))
    all_goals
      have k6 := hx6.blk k3.drew (by simp)
      have hRow6 := hRow.chg ((Chg.refl [] _).drew.trans hx6) (by simp)
      have hC6 := hC3.drew.trans' hx6 (by simp)
      have z0 : w6.cell? ⟨b, 0, none⟩ = some (.int .i64 f) := k6.cell 0
      have z1 : w6.cell? ⟨b, 1, none⟩ = some (.int .i64 s) := k6.cell 1
      have z2 : w6.cell? ⟨b, 2, none⟩ = some (.int .i64 o) := k6.cell 2
      have z3 : w6.cell? ⟨b, 3, none⟩ = some (.int .i64 3) := k6.cell 3
      have hf6 := k6.free
      go_wp2_with fail
      go_ret2
      exact ⟨rfl, ⟨⟨_, k6, hRow6⟩, by simp; try omega⟩, hC6⟩

end Go.Proofs.Ytdaehfilmhagiaa
