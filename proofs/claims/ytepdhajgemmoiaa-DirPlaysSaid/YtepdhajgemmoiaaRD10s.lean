/- Hear of any message, beside the directory's. -/
import Derived.Test.YtepdhajgemmoiaaRD9a
import Derived.Test.YtepdhajgemmoiaaRD9b
import Derived.Test.YtepdhajgemmoiaaRD9c
import Derived.Test.YtepdhajgemmoiaaRD4
import Derived.Deep.QuietTactic
import Derived.Test.YtepdhajgemmoiaaDir2122
/- The reference's directory hears any message. -/

namespace Go.Proofs.Ytepdhajgemmoiaa
set_option linter.unusedSimpArgs false
set_option linter.unusedVariables false
set_option maxRecDepth 100000
open Go.RowKit

theorem rHear_in (w : World) (N : List Nat) (d bL bW n capL : Nat) (cores : Int) (ws : List Int) (rs : List RE) (i : Nat) (hi : i < rs.length) (hN : ∀ x ∈ N, x < w.heap.size) (hsl : rs[i].sh.length ≤ 1000) (hal : rs[i].ak.length ≤ 1000) (hwl : rs[i].wl.length ≤ 900) (hwi : ∀ y ∈ rs[i].wl, y.l = (i : Int)) (m : MsgV) (hm : m.l = (i : Int)) (hc : 0 ≤ m.c ∧ m.c < cores) (H : RDAt w N d bL bW n capL cores ws rs) :
    Calls Try.prog 21 #[.pointer (some ⟨d, 0, none⟩), m.val] w (RHPost w N d bL bW n capL cores rs i (hearV n ws rs[i].toV i m)) := by
  by_cases h1 : m.k = 1
  · exact rHear_1 w N d bL bW n capL cores ws rs i hi hN hsl hal hwl m h1 hm hc H
  by_cases h2 : m.k = 2
  · exact rHear_2 w N d bL bW n capL cores ws rs i hi hN hsl hal hwl m h2 hm hc H
  by_cases h3 : m.k = 3
  · exact rHear_3 w N d bL bW n capL cores ws rs i hi hN hsl hal hwl m h3 hm hc H
  by_cases h4 : m.k = 4
  · exact rHear_4 w N d bL bW n capL cores ws rs i hi hN hsl hal hwl m h4 hm hc H
  by_cases h5 : m.k = 5
  · exact rHear_5 w N d bL bW n capL cores ws rs i hi hN hsl hal hwl m h5 hm hc H
  by_cases h6 : m.k = 6
  · exact rHear_6 w N d bL bW n capL cores ws rs i hi hN hsl hal hwl m h6 hm hc H
  by_cases h7 : m.k = 7
  · exact rHear_7 w N d bL bW n capL cores ws rs i hi hN hsl hal hwl hwi m h7 hm hc H
  exact rHear_none w N d bL bW n capL cores ws rs i hi hN hsl hal hwl m h1 h2 h3 h4 h5 h6 h7 hm hc H

/-- The lists stay short. -/
theorem withoutL_len4 {l : List Int} (c : Int) (h : l.length ≤ 4) : (withoutL l c).length ≤ 4 := Nat.le_trans (withoutL_le _ _) h
structure RShort (k : Nat) (x : RV) : Prop where
  sh : x.sh.length ≤ 4
  ak : x.ak.length ≤ 4
  wl : x.wl.length ≤ k
theorem RShort.mono {k q : Nat} {x : RV} (h : RShort k x) (hk : k ≤ q) : RShort q x := ⟨h.sh, h.ak, Nat.le_trans h.wl hk⟩
theorem grantV_short {k : Nat} {x : RV} (h : RShort k x) : RShort k (grantV x) := by
  unfold grantV
  split
  · exact ⟨withL_le _ _ _, h.ak, h.wl⟩
  · exact ⟨by simp, h.ak, h.wl⟩
theorem beginV_short {k : Nat} {x : RV} (m : MsgV) (h : RShort k x) : RShort k (beginV x m) := by
  unfold beginV
  split
  · exact ⟨h.sh, h.ak, h.wl⟩
  · split
    · exact grantV_short ⟨h.sh, h.ak, h.wl⟩
    · exact ⟨h.sh, withoutL_len4 _ h.sh, h.wl⟩
theorem hearV_short {k : Nat} {x : RV} (n : Nat) (ws : List Int) (i : Nat) (m : MsgV) (h : RShort k x) : RShort (k + 1) (hearV n ws x i m).2.1 := by
  have hk := h.mono (Nat.le_succ k)
  unfold hearV
  split
  · split
    · exact hk
    · split
      · exact beginV_short _ hk
      · exact ⟨h.sh, h.ak, by simp; exact h.wl⟩
  · split
    · split
      · exact hk
      · split
        · exact grantV_short ⟨withoutL_len4 _ h.sh, withoutL_len4 _ h.ak, hk.wl⟩
        · exact ⟨withoutL_len4 _ h.sh, withoutL_len4 _ h.ak, hk.wl⟩
    · split
      · split
        · exact hk
        · split
          · exact grantV_short ⟨withL_le _ _ _, h.ak, hk.wl⟩
          · exact grantV_short ⟨h.sh, h.ak, hk.wl⟩
      · split
        · split
          · exact hk
          · split
            · exact grantV_short hk
            · exact ⟨h.sh, h.ak, hk.wl⟩
        · split
          · split
            · exact hk
            · split
              · exact grantV_short ⟨h.sh, h.ak, hk.wl⟩
              · exact ⟨h.sh, h.ak, hk.wl⟩
          · split
            · split
              · exact hk
              · split
                · exact ⟨h.sh, h.ak, hk.wl⟩
                · rename_i hw
                  refine beginV_short _ ⟨h.sh, h.ak, ?_⟩
                  have h9 := h.wl; rw [hw] at h9; simp only [List.length_cons] at h9; exact Nat.le_succ_of_le (Nat.le_of_succ_le h9)
            · exact hk
end Go.Proofs.Ytepdhajgemmoiaa

/- Hear refuses. -/
namespace Go.Proofs.Ytepdhajgemmoiaa
set_option linter.unusedSimpArgs false
set_option linter.unusedVariables false
set_option maxRecDepth 100000
set_option linter.unusedSimpArgs false
set_option linter.unusedVariables false
open Go.RowKit
set_option maxHeartbeats 600000 in
theorem rHear_out_a (w : World) (N : List Nat) (d bL bW n capL : Nat) (cores : Int) (ws : List Int) (rs : List RE) (mk mc ml m0 m1 m2 m3 m4 m5 m6 m7 : Int) (h : mc < 0) (H : RDAt w N d bL bW n capL cores ws rs) :
    Calls Try.prog 21 #[.pointer (some ⟨d, 0, none⟩), .agg #[.int .i64 mk, .int .i64 mc, .int .i64 ml, .int .u64 m0, .int .u64 m1, .int .u64 m2, .int .u64 m3, .int .u64 m4, .int .u64 m5, .int .u64 m6, .int .u64 m7]] w fun e w' => e = .returned (.tuple #[.slice none 0 0, .int .i64 2]) ∧ Chg [] w w' := by
  have hal : Chg [] w (w.alloc (.cells #[.int .i64 mk, .int .i64 mc, .int .i64 ml, .int .u64 m0, .int .u64 m1, .int .u64 m2, .int .u64 m3, .int .u64 m4, .int .u64 m5, .int .u64 m6, .int .u64 m7] 33)) := (Chg.refl [] w).alloc _
  have HB3 := Lib.hid (Blk.new w [.int .i64 mk, .int .i64 mc, .int .i64 ml, .int .u64 m0, .int .u64 m1, .int .u64 m2, .int .u64 m3, .int .u64 m4, .int .u64 m5, .int .u64 m6, .int .u64 m7] 33)
  have HL := Lib.hid (H.look hal)
  have HC := Lib.hid hal
  clear H hal
  go_enter Try.func21, Try.ntmps21
  go_upto_region 1 with fail
  generalize World.alloc _ _ = w1 at *
  obtain ⟨b3, hb3⟩ : ∃ q, w.heap.size = q := ⟨_, rfl⟩
  rw [hb3] at HB3 ⊢
  clear hb3
  have lts := HL.out.lt
  have b3lt : b3 < w1.heap.size := HB3.out.lt
  have d1 : w1.cell? ⟨d, 1, none⟩ = some (.int .i64 cores) := HL.out.blk.cell 1
  have d2 : w1.cell? ⟨d, 2, none⟩ = some (.slice (some ⟨bL, 0, none⟩) n capL) := HL.out.blk.cell 2
  have y1 : w1.cell? ⟨b3, 1, none⟩ = some (.int .i64 mc) := HB3.out.cell 1
  have y2 : w1.cell? ⟨b3, 2, none⟩ = some (.int .i64 ml) := HB3.out.cell 2
  go_quiet (fail)
  go_wp2_with fail
  go_ret2
  exact ⟨rfl, HC.out.drewN _⟩

set_option maxHeartbeats 600000 in
theorem rHear_out_b (w : World) (N : List Nat) (d bL bW n capL : Nat) (cores : Int) (ws : List Int) (rs : List RE) (mk mc ml m0 m1 m2 m3 m4 m5 m6 m7 : Int) (h : decide (mc < 0) = false) (h2 : decide (cores ≤ mc) = true) (H : RDAt w N d bL bW n capL cores ws rs) :
    Calls Try.prog 21 #[.pointer (some ⟨d, 0, none⟩), .agg #[.int .i64 mk, .int .i64 mc, .int .i64 ml, .int .u64 m0, .int .u64 m1, .int .u64 m2, .int .u64 m3, .int .u64 m4, .int .u64 m5, .int .u64 m6, .int .u64 m7]] w fun e w' => e = .returned (.tuple #[.slice none 0 0, .int .i64 2]) ∧ Chg [] w w' := by
  have hal : Chg [] w (w.alloc (.cells #[.int .i64 mk, .int .i64 mc, .int .i64 ml, .int .u64 m0, .int .u64 m1, .int .u64 m2, .int .u64 m3, .int .u64 m4, .int .u64 m5, .int .u64 m6, .int .u64 m7] 33)) := (Chg.refl [] w).alloc _
  have HB3 := Lib.hid (Blk.new w [.int .i64 mk, .int .i64 mc, .int .i64 ml, .int .u64 m0, .int .u64 m1, .int .u64 m2, .int .u64 m3, .int .u64 m4, .int .u64 m5, .int .u64 m6, .int .u64 m7] 33)
  have HL := Lib.hid (H.look hal)
  have HC := Lib.hid hal
  clear H hal
  go_enter Try.func21, Try.ntmps21
  go_upto_region 1 with fail
  generalize World.alloc _ _ = w1 at *
  obtain ⟨b3, hb3⟩ : ∃ q, w.heap.size = q := ⟨_, rfl⟩
  rw [hb3] at HB3 ⊢
  clear hb3
  have lts := HL.out.lt
  have b3lt : b3 < w1.heap.size := HB3.out.lt
  have d1 : w1.cell? ⟨d, 1, none⟩ = some (.int .i64 cores) := HL.out.blk.cell 1
  have d2 : w1.cell? ⟨d, 2, none⟩ = some (.slice (some ⟨bL, 0, none⟩) n capL) := HL.out.blk.cell 2
  have y1 : w1.cell? ⟨b3, 1, none⟩ = some (.int .i64 mc) := HB3.out.cell 1
  have y2 : w1.cell? ⟨b3, 2, none⟩ = some (.int .i64 ml) := HB3.out.cell 2
  go_quiet (fail)
  go_wp2_with fail
  go_ret2
  exact ⟨rfl, HC.out.drewN _⟩

set_option maxHeartbeats 600000 in
theorem rHear_out_c (w : World) (N : List Nat) (d bL bW n capL : Nat) (cores : Int) (ws : List Int) (rs : List RE) (mk mc ml m0 m1 m2 m3 m4 m5 m6 m7 : Int) (h : decide (mc < 0) = false) (h2 : decide (cores ≤ mc) = false) (h3 : decide (ml < 0) = true) (H : RDAt w N d bL bW n capL cores ws rs) :
    Calls Try.prog 21 #[.pointer (some ⟨d, 0, none⟩), .agg #[.int .i64 mk, .int .i64 mc, .int .i64 ml, .int .u64 m0, .int .u64 m1, .int .u64 m2, .int .u64 m3, .int .u64 m4, .int .u64 m5, .int .u64 m6, .int .u64 m7]] w fun e w' => e = .returned (.tuple #[.slice none 0 0, .int .i64 2]) ∧ Chg [] w w' := by
  have hal : Chg [] w (w.alloc (.cells #[.int .i64 mk, .int .i64 mc, .int .i64 ml, .int .u64 m0, .int .u64 m1, .int .u64 m2, .int .u64 m3, .int .u64 m4, .int .u64 m5, .int .u64 m6, .int .u64 m7] 33)) := (Chg.refl [] w).alloc _
  have HB3 := Lib.hid (Blk.new w [.int .i64 mk, .int .i64 mc, .int .i64 ml, .int .u64 m0, .int .u64 m1, .int .u64 m2, .int .u64 m3, .int .u64 m4, .int .u64 m5, .int .u64 m6, .int .u64 m7] 33)
  have HL := Lib.hid (H.look hal)
  have HC := Lib.hid hal
  clear H hal
  go_enter Try.func21, Try.ntmps21
  go_upto_region 1 with fail
  generalize World.alloc _ _ = w1 at *
  obtain ⟨b3, hb3⟩ : ∃ q, w.heap.size = q := ⟨_, rfl⟩
  rw [hb3] at HB3 ⊢
  clear hb3
  have lts := HL.out.lt
  have b3lt : b3 < w1.heap.size := HB3.out.lt
  have d1 : w1.cell? ⟨d, 1, none⟩ = some (.int .i64 cores) := HL.out.blk.cell 1
  have d2 : w1.cell? ⟨d, 2, none⟩ = some (.slice (some ⟨bL, 0, none⟩) n capL) := HL.out.blk.cell 2
  have y1 : w1.cell? ⟨b3, 1, none⟩ = some (.int .i64 mc) := HB3.out.cell 1
  have y2 : w1.cell? ⟨b3, 2, none⟩ = some (.int .i64 ml) := HB3.out.cell 2
  go_quiet (fail)
  go_wp2_with fail
  go_ret2
  exact ⟨rfl, HC.out.drewN _⟩

set_option maxHeartbeats 600000 in
theorem rHear_out_d (w : World) (N : List Nat) (d bL bW n capL : Nat) (cores : Int) (ws : List Int) (rs : List RE) (mk mc ml m0 m1 m2 m3 m4 m5 m6 m7 : Int) (h : 0 ≤ mc ∧ mc < cores ∧ 0 ≤ ml ∧ (n : Int) ≤ ml) (H : RDAt w N d bL bW n capL cores ws rs) :
    Calls Try.prog 21 #[.pointer (some ⟨d, 0, none⟩), .agg #[.int .i64 mk, .int .i64 mc, .int .i64 ml, .int .u64 m0, .int .u64 m1, .int .u64 m2, .int .u64 m3, .int .u64 m4, .int .u64 m5, .int .u64 m6, .int .u64 m7]] w fun e w' => e = .returned (.tuple #[.slice none 0 0, .int .i64 2]) ∧ Chg [] w w' := by
  have hal : Chg [] w (w.alloc (.cells #[.int .i64 mk, .int .i64 mc, .int .i64 ml, .int .u64 m0, .int .u64 m1, .int .u64 m2, .int .u64 m3, .int .u64 m4, .int .u64 m5, .int .u64 m6, .int .u64 m7] 33)) := (Chg.refl [] w).alloc _
  have HB3 := Lib.hid (Blk.new w [.int .i64 mk, .int .i64 mc, .int .i64 ml, .int .u64 m0, .int .u64 m1, .int .u64 m2, .int .u64 m3, .int .u64 m4, .int .u64 m5, .int .u64 m6, .int .u64 m7] 33)
  have HL := Lib.hid (H.look hal)
  have HC := Lib.hid hal
  clear H hal
  go_enter Try.func21, Try.ntmps21
  go_upto_region 1 with fail
  generalize World.alloc _ _ = w1 at *
  obtain ⟨b3, hb3⟩ : ∃ q, w.heap.size = q := ⟨_, rfl⟩
  rw [hb3] at HB3 ⊢
  clear hb3
  have lts := HL.out.lt
  have b3lt : b3 < w1.heap.size := HB3.out.lt
  have d1 : w1.cell? ⟨d, 1, none⟩ = some (.int .i64 cores) := HL.out.blk.cell 1
  have d2 : w1.cell? ⟨d, 2, none⟩ = some (.slice (some ⟨bL, 0, none⟩) n capL) := HL.out.blk.cell 2
  have y1 : w1.cell? ⟨b3, 1, none⟩ = some (.int .i64 mc) := HB3.out.cell 1
  have y2 : w1.cell? ⟨b3, 2, none⟩ = some (.int .i64 ml) := HB3.out.cell 2
  go_quiet (fail)
  go_wp2_with fail
  go_ret2
  exact ⟨rfl, HC.out.drewN _⟩

end Go.Proofs.Ytepdhajgemmoiaa

/- Two directories side by side: Hear of the reference beside what the directory's Hear comes to. -/
namespace Go.Proofs.Ytepdhajgemmoiaa
set_option linter.unusedSimpArgs false
set_option linter.unusedVariables false
set_option maxRecDepth 100000
set_option linter.unusedSimpArgs false
set_option linter.unusedVariables false
open Go.RowKit

theorem grantV_ph (x : RV) : 0 ≤ (grantV x).ph := by unfold grantV; split <;> (show (0 : Int) ≤ 4; decide)
theorem beginV_ph (x : RV) (m : MsgV) : 0 ≤ (beginV x m).ph := by
  unfold beginV
  split
  · show (0 : Int) ≤ 2; decide
  · split
    · exact grantV_ph _
    · show (0 : Int) ≤ 1; decide
theorem hearV_ph (n : Nat) (ws : List Int) (x : RV) (i : Nat) (m : MsgV) (h : 0 ≤ x.ph) : 0 ≤ (hearV n ws x i m).2.1.ph := by
  unfold hearV
  repeat' split
  all_goals first
    | exact h
    | exact grantV_ph _
    | exact beginV_ph _ _
    | (show (0 : Int) ≤ 3; decide)
    | (show (0 : Int) ≤ 0; decide)

theorem beginVM_out (x : RV) (m : MsgV) (v : L8) (h : x.sh.length ≤ 4) : (beginVM x m v).length ≤ 4 := by
  unfold beginVM
  split
  · show 1 ≤ 4; decide
  · split
    · show 1 ≤ 4; decide
    · rw [List.length_map]; exact withoutL_len4 _ h
theorem hearV_out (n : Nat) (ws : List Int) (x : RV) (i : Nat) (m : MsgV) (h : x.sh.length ≤ 4) : (hearV n ws x i m).2.2.1.length ≤ 4 := by
  unfold hearV
  repeat' split
  all_goals first
    | (show 0 ≤ 4; decide)
    | (show 1 ≤ 4; decide)
    | (show 2 ≤ 4; decide)
    | exact beginVM_out _ _ _ h
theorem Knows.eok {w : World} {d bm bw bl n : Nat} {cores : Int} {ws : List Int} {es ks : List EntV} (K : Knows w d bm bw bl n cores ws es ks) (i : Nat) (h : i < ks.length) : EOk cores i ks[i] := by
  have hk := K.ks
  subst hk
  rw [List.getElem_map]
  have := (K.ok i (by simpa using h)).1
  exact ⟨this.ow, this.un, this.wl⟩

/-- All lines are known alike. -/
structure Alikes (cores : Int) (n k : Nat) (ks : List EntV) (vs : List RV) : Prop where
  lk : ks.length = n
  lv : vs.length = n
  rel : ∀ (i : Nat) (h1 : i < ks.length) (h2 : i < vs.length), Rel ks[i] vs[i] ∧ RShort k vs[i] ∧ 0 ≤ vs[i].ph
theorem Alikes.set {cores : Int} {n k : Nat} {ks : List EntV} {vs : List RV} (h : Alikes cores n k ks vs) {i : Nat} {e : EntV} {x : RV} (hr : Rel e x) (hs : RShort (k + 1) x) (hp : 0 ≤ x.ph) : Alikes cores n (k + 1) (ks.set i e) (vs.set i x) := by
  refine ⟨by rw [List.length_set]; exact h.lk, by rw [List.length_set]; exact h.lv, fun j h1 h2 => ?_⟩
  rw [get_set, get_set]
  split
  · exact ⟨hr, hs, hp⟩
  · have := h.rel j (by simpa using h1) (by simpa using h2)
    exact ⟨this.1, this.2.1.mono (Nat.le_succ k), this.2.2⟩
theorem Alikes.more {cores : Int} {n k : Nat} {ks : List EntV} {vs : List RV} (h : Alikes cores n k ks vs) : Alikes cores n (k + 1) ks vs := ⟨h.lk, h.lv, fun j h1 h2 => ⟨(h.rel j h1 h2).1, (h.rel j h1 h2).2.1.mono (Nat.le_succ k), (h.rel j h1 h2).2.2⟩⟩

/-- What Hear of the reference leaves, beside the directory's. -/
def RBeside (w : World) (N : List Nat) (d bL bW n capL : Nat) (cores : Int) (k : Nat) (r : List Int × List EntV × List MsgV × Int) (e : Ending) (w' : World) : Prop :=
  ∃ v rs', e = .returned (.tuple #[v, .int .i64 r.2.2.2]) ∧ Alikes cores n (k + 1) r.2.1 (rs'.map RE.toV) ∧ w'.ownsRow w.heap.size 33 11 v r.2.2.1.length (r.2.2.1.flatMap encM) ∧ RDAt w' N d bL bW n capL cores r.1 rs' ∧ Chg [bL, bW] w w' ∧ r.2.2.1.length ≤ 4
theorem rHear_any (w : World) (N : List Nat) (d bL bW n capL : Nat) (cores : Int) (k : Nat) (hk : k ≤ 400) (ws : List Int) (ks : List EntV) (rs : List RE) (hN : ∀ x ∈ N, x < w.heap.size) (hco : 1 ≤ cores ∧ cores ≤ 4) (A : Alikes cores n k ks (rs.map RE.toV)) (hok : ∀ (i : Nat) (h : i < ks.length), EOk cores i ks[i]) (m : MsgV) (H : RDAt w N d bL bW n capL cores ws rs) :
    Calls Try.prog 21 #[.pointer (some ⟨d, 0, none⟩), m.val] w (RBeside w N d bL bW n capL cores k (hearS n cores ws ks m)) := by
  have hlk := A.lk
  have hln := H.len
  have hout : (m.l < 0 ∨ (n : Int) ≤ m.l) ∨ (m.c < 0 ∨ cores ≤ m.c) → Calls Try.prog 21 #[.pointer (some ⟨d, 0, none⟩), m.val] w (RBeside w N d bL bW n capL cores k (ws, ks, [], 2)) := by
    intro ho
    have key : Calls Try.prog 21 #[.pointer (some ⟨d, 0, none⟩), m.val] w fun e w' => e = .returned (.tuple #[.slice none 0 0, .int .i64 2]) ∧ Chg [] w w' := by
      obtain ⟨mk, mc, ml, ⟨m0, m1, m2, m3, m4, m5, m6, m7⟩⟩ := m
      simp only at ho
      by_cases h1 : mc < 0
      · exact rHear_out_a w N d bL bW n capL cores ws rs mk mc ml m0 m1 m2 m3 m4 m5 m6 m7 h1 H
      by_cases h2 : cores ≤ mc
      · exact rHear_out_b w N d bL bW n capL cores ws rs mk mc ml m0 m1 m2 m3 m4 m5 m6 m7 (decide_eq_false h1) (decide_eq_true h2) H
      by_cases h3 : ml < 0
      · exact rHear_out_c w N d bL bW n capL cores ws rs mk mc ml m0 m1 m2 m3 m4 m5 m6 m7 (decide_eq_false h1) (decide_eq_false h2) (decide_eq_true h3) H
      exact rHear_out_d w N d bL bW n capL cores ws rs mk mc ml m0 m1 m2 m3 m4 m5 m6 m7 ⟨by omega, by omega, by omega, by omega⟩ H
    refine key.mono ?_
    rintro e w' ⟨rfl, hk'⟩
    exact ⟨_, rs, rfl, A.more, World.ownsRow_nil _ _ _ _, H.look hk', hk'.mono (by simp), Nat.zero_le _⟩
  unfold hearS
  by_cases hl : m.l < 0 ∨ (n : Int) ≤ m.l
  · rw [if_pos hl]; exact hout (.inl hl)
  rw [if_neg hl]
  by_cases hc : m.c < 0 ∨ cores ≤ m.c
  · rw [if_pos hc]; exact hout (.inr hc)
  rw [if_neg hc]
  obtain ⟨i, hi, hml⟩ : ∃ i : Nat, i < rs.length ∧ m.l = (i : Int) := ⟨m.l.toNat, by omega, by omega⟩
  have hti : m.l.toNat = i := by omega
  have hik : i < ks.length := by omega
  have hiv : i < (rs.map RE.toV).length := by rw [List.length_map]; exact hi
  obtain ⟨hr, hsh, hph⟩ := A.rel i hik hiv
  rw [List.getElem_map] at hr hsh hph
  rw [hti, List.getElem?_eq_getElem hik]
  dsimp only
  have hE := hok i hik
  have hal := hear_rel hr n ws i m hE ⟨by omega, by omega⟩ hco.2
  have hv := rHear_in w N d bL bW n capL cores ws rs i hi hN (Nat.le_trans hsh.sh (by decide)) (Nat.le_trans hsh.ak (by decide)) (Nat.le_trans hsh.wl (by omega)) (fun y hy => (hE.wl y (by rw [hr.wl]; exact hy)).2.2) m hml ⟨by omega, by omega⟩ H
  have hss := hearV_short n ws i m hsh
  have hoo := hearV_out n ws rs[i].toV i m hsh.sh
  have hpp := hearV_ph n ws rs[i].toV i m hph
  refine hv.mono ?_
  rintro e w' ⟨v, x', rfl, hx', ho, hR, hK⟩
  obtain ⟨a1, a2, a3, a4⟩ := hal
  have hB : hearB n ws ks[i] i m = if mayB ks[i] m = true then ((hearE n ws ks[i] i m).1, (hearE n ws ks[i] i m).2.1, (hearE n ws ks[i] i m).2.2, 0) else (ws, ks[i], [], 30) := rfl
  cases hmay : mayB ks[i] m with
  | true =>
    rw [hB, if_pos hmay] at a1 a2 a3 a4
    rw [if_pos rfl]
    refine ⟨v, rs.set i x', ?_, ?_, ?_, ?_, hK, by rw [← a3] at hoo; exact hoo⟩
    · rw [← a4]
    · rw [List.map_set, hx']
      exact A.set a2 hss hpp
    · rw [← a3] at ho; exact ho
    · rw [← a1] at hR; exact hR
  | false =>
    rw [hB, if_neg (by rw [hmay]; decide)] at a1 a2 a3 a4
    rw [if_neg (by decide)]
    refine ⟨v, rs.set i x', ?_, ?_, ?_, ?_, hK, by rw [← a3] at hoo; exact hoo⟩
    · rw [← a4]
    · rw [List.map_set, hx']
      have := A.set (i := i) a2 hss hpp
      rw [set_self] at this
      exact this
    · rw [← a3] at ho; exact ho
    · rw [← a1] at hR; exact hR
end Go.Proofs.Ytepdhajgemmoiaa

