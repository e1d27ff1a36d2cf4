/- DirPlays: whatever is heard, a directory answers, and knows, what the document says. -/
import Derived.Test.YtepdhajgemmoiaaRD4
import Derived.Test.YtepdhajgemmoiaaDir2122
import Derived.Test.YtepdhajgemmoiaaRD8
import Derived.Test.YtepdhajgemmoiaaRDSame
import Derived.Test.YtepdhajgemmoiaaRD10s
/- The reference's New. -/
namespace Go.Proofs.Ytepdhajgemmoiaa
set_option linter.unusedSimpArgs false
set_option linter.unusedVariables false
set_option maxRecDepth 100000
set_option linter.unusedSimpArgs false
set_option linter.unusedVariables false
open Go.RowKit
attribute [local go_sem ↓] load_E store_E
attribute [local go_sem] bigOk_E bigVal_E bigFree_E bigPut_E bigNew putAll_drew Value.oneCell'

theorem infoE : (Try.prog.info? 99).map (fun i => (i.zero, i.size, i.bytes)) = some (some (.agg #[.int .i64 0, .slice none 0 0, .int .i64 0, .int .i64 0, .int .i64 0, .int .u64 0, .int .u64 0, .int .u64 0, .int .u64 0, .int .u64 0, .int .u64 0, .int .u64 0, .int .u64 0, .int .i64 0, .slice none 0 0, .int .i64 0, .slice none 0 0]), 17, 184) := by kernel_rfl
def RNewPost (w : World) (n : Nat) (c : Int) (e : Ending) (w' : World) : Prop :=
  ∃ bW vL, e = .returned (.tuple #[.agg #[.slice (some ⟨bW, 0, none⟩) (8 * n) (8 * n), .int .i64 c, vL], .int .i64 0]) ∧ Blk w' bW ((List.replicate (8 * n) (0 : Int)).map (Value.int .u64)) 29 ∧ w'.ownsRow w.heap.size 99 17 vL n ((List.replicate n ({} : RE)).flatMap encR) ∧ w.heap.size ≤ bW ∧ Chg [] w w'
set_option maxHeartbeats 4000000 in
theorem RNew_ok (w : World) (n : Nat) (c : Int) (h2 : 2 ≤ n) (h64 : n ≤ 64) (hc : 1 ≤ c ∧ c ≤ 4) :
    Calls Try.prog 19 #[.int .i64 n, .int .i64 c] w (RNewPost w n c) := by
  obtain ⟨i0, hi, hz0, hz1, hz2⟩ := info_parts infoE
  have HNw := Lib.hid (fun W => rNew_ok W n h2 h64)
  have hc1 := hc.1; have hc4 := hc.2
  clear hc
  have HA := Lib.hid ((Chg.refl [] w).alloc (.cells #[.slice none 0 0, .int .i64 0, .slice none 0 0] 60))
  have HB4 := Lib.hid (Blk.new w [.slice none 0 0, .int .i64 0, .slice none 0 0] 60)
  go_enter Try.func19, Try.ntmps19
  go_upto_region 1 with fail
  generalize World.alloc _ _ = w1 at *
  go_wp2_with fail
  refine (HNw.out w1).mono ?_
  rintro e w2 ⟨bW, rfl, hbw, hk2, hlw⟩
  have HK2 := Lib.hid (HA.out.trans hk2); have HBW := Lib.hid hbw; have HLW : Hid (w.heap.size ≤ bW) := Lib.hid (Nat.le_trans HA.out.size hlw)
  replace HB4 := Lib.hid (hk2.blk HB4.out (by simp))
  have hw1 := HA.out.size
  clear hbw hk2 hlw HA HNw
  obtain ⟨b4, hb4⟩ : ∃ q, w.heap.size = q := ⟨_, rfl⟩
  rw [hb4] at HB4 ⊢
  have Hb4 := Lib.hid hb4
  clear hb4 hw1
  go_upto_region 6 with fail
  have hsz : b4 < w2.heap.size := HB4.out.lt
  have hB8 := Blk.new (w2.alloc (.cells #[.slice (some ⟨bW, 0, none⟩) (8 * n) (8 * n)] 57)) [.slice (some ⟨bW, 0, none⟩) (8 * n) (8 * n), .int .i64 c, .slice none 0 0] 60
  rw [World.size_alloc] at hB8
  have HB8 := Lib.hid hB8
  have hal := ((Chg.refl [] w2).alloc (.cells #[.slice (some ⟨bW, 0, none⟩) (8 * n) (8 * n)] 57)).alloc (.cells #[.slice (some ⟨bW, 0, none⟩) (8 * n) (8 * n), .int .i64 c, .slice none 0 0] 60)
  replace HB4 := Lib.hid (hal.blk HB4.out (by simp)); replace HBW := Lib.hid (hal.blk HBW.out (by simp)); replace HK2 := Lib.hid (HK2.out.trans hal)
  have HLb : Hid (w2.heap.size + 1 < ((w2.alloc (.cells #[.slice (some ⟨bW, 0, none⟩) (8 * n) (8 * n)] 57)).alloc (.cells #[.slice (some ⟨bW, 0, none⟩) (8 * n) (8 * n), .int .i64 c, .slice none 0 0] 60)).heap.size) := Lib.hid hB8.lt
  clear hal hB8
  generalize World.alloc (World.alloc _ _) _ = w3 at *
  obtain ⟨b8, hb8⟩ : ∃ q, w2.heap.size + 1 = q := ⟨_, rfl⟩
  have Hb8 := Lib.hid (show b4 < b8 ∧ w.heap.size ≤ b8 from ⟨by omega, by rw [Hb4.out]; omega⟩)
  rw [hb8] at HB8 HLb ⊢
  clear hb8 hsz
  have hws0 : w.heap.size ≤ w3.heap.size := HK2.out.size
  have HWS := Lib.hid hws0
  clear hws0
  have h64i : (n : Int) ≤ 64 := by omega
  go_loopw [9] (fun q wr => ∃ (k : Nat) (vL : Value), k ≤ n ∧ q = .int .i64 k ∧ Hid (Chg [b8] w3 wr) ∧ Hid (Blk wr b8 [.slice (some ⟨bW, 0, none⟩) (8 * n) (8 * n), .int .i64 c, vL] 60) ∧ Hid (wr.ownsRow w3.heap.size 99 17 vL k ((List.replicate k ({} : RE)).flatMap encR)))
    (fun q _ => n - (intOf q).toNat)
  case atStart => exact ⟨0, _, by omega, rfl, Lib.hid (Chg.refl _ _), HB8, Lib.hid (World.ownsRow_nil _ _ _ _)⟩
  case round =>
    obtain ⟨k, vL, hk, rfl, hC, hB, hO⟩ := hrel
    have hs3 : w3.heap.size ≤ wr.heap.size := hC.out.size
    have c2 : wr.cell? ⟨b8, 2, none⟩ = some vL := hB.out.cell 2
    have g2 : wr.frozen? ⟨b8, 2, none⟩ = false := hB.out.free 2
    have lb : b8 < wr.heap.size := hB.out.lt
    by_cases hlt : k < n
    · have hki : (k : Int) < n := by omega
      have hk64 : k ≤ 64 := by omega
      have hnb : b8 ∉ vL.ownBlock.toList := fun hm => by have h1 := (hO.out.lt b8 (by simpa using hm)).1; have h2 := HLb.out; omega
      have HNB := Lib.hid hnb
      clear hnb
      go_wp2_with (first | (at_builtin; refine wpList_append_own_at _ rfl (.tmp 35) (.tmp 37) 58 rfl (w3.heap.size) 99 i0 (.agg #[.int .i64 0, .slice none 0 0, .int .i64 0, .int .i64 0, .int .i64 0, .int .u64 0, .int .u64 0, .int .u64 0, .int .u64 0, .int .u64 0, .int .u64 0, .int .u64 0, .int .u64 0, .int .i64 0, .slice none 0 0, .int .i64 0, .slice none 0 0]) 17 184 Try.underlying58 hi hz0 hz1 hz2 rfl (by decide) _ _ _ rfl ((hO.out.alloc _)) ⟨wr.heap.size, 0, none⟩ 1 1 [.int .i64 (-1), .slice none 0 0, .int .i64 0, .int .i64 0, .int .i64 0, .int .u64 0, .int .u64 0, .int .u64 0, .int .u64 0, .int .u64 0, .int .u64 0, .int .u64 0, .int .u64 0, .int .i64 0, .slice none 0 0, .int .i64 0, .slice none 0 0] rfl rfl (cells_at (by simp) [.int .i64 (-1), .slice none 0 0, .int .i64 0, .int .i64 0, .int .i64 0, .int .u64 0, .int .u64 0, .int .u64 0, .int .u64 0, .int .u64 0, .int .u64 0, .int .u64 0, .int .u64 0, .int .i64 0, .slice none 0 0, .int .i64 0, .slice none 0 0] _) (by simp [Value.oneCell']) (by unfold maxLen; omega) (by omega) (by first | omega | (simp; omega) | simp) ?_; intro va1 wa1 hown1 hgrow1 _ hblk1; have hsz1 := hgrow1.size; have HO1 := Lib.hid hown1; have HG1 := Lib.hid hgrow1; have HB1 := Lib.hid hblk1; clear hown1 hgrow1 hblk1; have HKa : Hid (Chg vL.ownBlock.toList wr wa1) := Lib.hid (((Chg.refl vL.ownBlock.toList wr).alloc _).trans (Chg.of_grown HG1.out)); have q2 : wa1.cell? ⟨b8, 2, none⟩ = some vL := (HKa.out.cell lb HNB.out _).trans c2; have p2 : wa1.frozen? ⟨b8, 2, none⟩ = false := (HKa.out.blk hB.out HNB.out).free 2; have la : b8 < wa1.heap.size := Nat.lt_of_lt_of_le lb HKa.out.size; obtain ⟨gv, cv, hv1, hgv1, hgv2, hcv1, hcv2⟩ := ownsRow_posC HO1.out (Nat.succ_pos k); subst hv1; have HGV := Lib.hid hgv1; clear hgv1 hgv2 hcv1 hcv2) | fail)
      go_roundw
      case rel =>
        refine ⟨k + 1, .slice (some ⟨gv, 0, none⟩) (k + 1) cv, by omega, by go_num, Lib.hid ?_, Lib.hid ?_, Lib.hid ?_⟩
        · exact (hC.out.trans' HKa.out (fun x hx hlx => by have h1 := (hO.out.lt x (by simpa using hx)).1; omega)).setCell (fun _ => List.mem_singleton.2 rfl) _
        · exact (HKa.out.blk hB.out HNB.out).set 2 _
        · rw [List.replicate_succ', List.flatMap_append]
          exact ownsRow_chg HO1.out ((Chg.refl [b8] wa1).setCell (fun _ => List.mem_singleton.2 rfl) _) (fun x hx hm => by have h1 := List.mem_singleton.1 (show x ∈ [gv] from hx); have h2 := List.mem_singleton.1 hm; have h3 := HGV.out; have h4 := HLb.out; omega)
      case measure => simp [intOf]; omega
    · have hkn : k = n := by omega
      have HKN := Lib.hid hkn
      have t0 : wr.cell? ⟨b8, 0, none⟩ = some (.slice (some ⟨bW, 0, none⟩) (8 * n) (8 * n)) := hB.out.cell 0
      have t1 : wr.cell? ⟨b8, 1, none⟩ = some (.int .i64 c) := hB.out.cell 1
      have HB4r := Lib.hid (hC.out.blk HB4.out (by have := Hb8.out.1; simp; omega))
      have HBWr := Lib.hid (hC.out.blk HBW.out (by have := HBW.out.ne HB8.out (by decide); simpa using this))
      have r0 : wr.cell? ⟨b4, 0, none⟩ = some (.slice none 0 0) := HB4r.out.cell 0
      have r1 : wr.cell? ⟨b4, 1, none⟩ = some (.int .i64 0) := HB4r.out.cell 1
      have r2 : wr.cell? ⟨b4, 2, none⟩ = some (.slice none 0 0) := HB4r.out.cell 2
      have s0 : wr.frozen? ⟨b4, 0, none⟩ = false := HB4r.out.free 0
      have s1 : wr.frozen? ⟨b4, 1, none⟩ = false := HB4r.out.free 1
      have s2 : wr.frozen? ⟨b4, 2, none⟩ = false := HB4r.out.free 2
      have l4 : b4 < wr.heap.size := HB4r.out.lt
      have n48 : b4 ≠ b8 := Nat.ne_of_lt Hb8.out.1
      have hlt2 : ¬ ((k : Int) < n) := by omega
      obtain ⟨gv, cv, hv1, hgv1, hgv2, hcv1, hcv2⟩ := ownsRow_posC hO.out (by omega)
      subst hv1
      have HG := Lib.hid hgv1
      have HBWn := Lib.hid (HBW.out.ne HB4.out (by decide))
      clear hkn hlt hgv1 hgv2 hcv1 hcv2
      go_wp2_with fail
      refine bodyPost_ret (v := .tuple #[.agg #[.slice (some ⟨bW, 0, none⟩) (8 * n) (8 * n), .int .i64 c, .slice (some ⟨gv, 0, none⟩) k cv], .int .i64 0]) ?_ rfl ⟨bW, _, rfl, ?_, ?_, HLW.out, ?_⟩
      · have HBe := ((HB4r.out.set 0 (.slice (some ⟨bW, 0, none⟩) (8 * n) (8 * n))).set 1 (.int .i64 c)).set 2 (.slice (some ⟨gv, 0, none⟩) k cv)
        have q0 : World.cell? _ ⟨b4, 0, none⟩ = some (.slice (some ⟨bW, 0, none⟩) (8 * n) (8 * n)) := HBe.cell 0
        have q1 : World.cell? _ ⟨b4, 1, none⟩ = some (.int .i64 c) := HBe.cell 1
        have q2 : World.cell? _ ⟨b4, 2, none⟩ = some (.slice (some ⟨gv, 0, none⟩) k cv) := HBe.cell 2
        simp [results, Try.results19, go_sem, q0, q1, q2]
      · exact ((HBWr.out.other (fun e => HBWn.out e.symm) _).other (fun e => HBWn.out e.symm) _).other (fun e => HBWn.out e.symm) _
      · have h1 := ownsRow_chg hO.out ((((Chg.refl [b4] wr).setCell (p := ⟨b4, 0, none⟩) (fun _ => List.mem_singleton.2 rfl) (.slice (some ⟨bW, 0, none⟩) (8 * n) (8 * n))).setCell (p := ⟨b4, 1, none⟩) (fun _ => List.mem_singleton.2 rfl) (.int .i64 c)).setCell (p := ⟨b4, 2, none⟩) (fun _ => List.mem_singleton.2 rfl) (.slice (some ⟨gv, 0, none⟩) k cv)) (fun x hx hm => by have h1 := List.mem_singleton.1 (show x ∈ [gv] from hx); have h2 := List.mem_singleton.1 hm; have h3 := HG.out; have h4 := HLb.out; have h5 := Hb8.out.1; omega)
        have h2 := ownsRow_base h1 HWS.out
        rw [HKN.out] at h2 ⊢
        exact h2
      · exact (((HK2.out.trans' hC.out (fun x hx hlx => by have h1 := List.mem_singleton.1 hx; have h2 := Hb8.out.2; omega)).setCell (fun h => absurd h (by rw [Hb4.out]; exact Nat.lt_irrefl _)) _).setCell (fun h => absurd h (by rw [Hb4.out]; exact Nat.lt_irrefl _)) _).setCell (fun h => absurd h (by rw [Hb4.out]; exact Nat.lt_irrefl _)) _
theorem RNew_bad (w : World) (n c : Int) (h : n < 2 ∨ 64 < n) :
    Calls Try.prog 19 #[.int .i64 n, .int .i64 c] w fun e w' => e = .returned (.tuple #[.agg #[.slice none 0 0, .int .i64 0, .slice none 0 0], .int .i64 2]) ∧ Chg [] w w' := by
  have HNw := Lib.hid (fun W => rNew_bad W n h)
  have HA := Lib.hid ((Chg.refl [] w).alloc (.cells #[.slice none 0 0, .int .i64 0, .slice none 0 0] 60))
  have HB4 := Lib.hid (Blk.new w [.slice none 0 0, .int .i64 0, .slice none 0 0] 60)
  clear h
  go_enter Try.func19, Try.ntmps19
  go_upto_region 1 with fail
  generalize World.alloc _ _ = w1 at *
  go_wp2_with fail
  refine (HNw.out w1).mono ?_
  rintro e w2 ⟨rfl, hk2⟩
  have hk := HA.out.trans hk2
  replace HB4 := Lib.hid (hk2.blk HB4.out (by simp))
  have HK := Lib.hid hk
  clear hk hk2 HA HNw
  obtain ⟨b4, hb4⟩ : ∃ q, w.heap.size = q := ⟨_, rfl⟩
  rw [hb4] at HB4 ⊢
  have Hb4 := Lib.hid hb4
  have HbI : Hid (b4 < w.heap.size → b4 ∈ ([] : List Nat)) := Lib.hid (fun h => absurd h (by rw [hb4]; exact Nat.lt_irrefl _))
  clear hb4
  have s0 : w2.frozen? ⟨b4, 0, none⟩ = false := HB4.out.free 0
  have s1 : w2.frozen? ⟨b4, 1, none⟩ = false := HB4.out.free 1
  have s2 : w2.frozen? ⟨b4, 2, none⟩ = false := HB4.out.free 2
  have r0 : w2.cell? ⟨b4, 0, none⟩ = some (.slice none 0 0) := HB4.out.cell 0
  have r1 : w2.cell? ⟨b4, 1, none⟩ = some (.int .i64 0) := HB4.out.cell 1
  have r2 : w2.cell? ⟨b4, 2, none⟩ = some (.slice none 0 0) := HB4.out.cell 2
  have l4 : b4 < w2.heap.size := HB4.out.lt
  have HBe := Lib.hid ((((HB4.out.set 0 (.slice none 0 0)).set 1 (.int .i64 0)).set 2 (.slice none 0 0)).alloc (.cells #[.slice none 0 0] 57))
  go_wp2_with fail
  refine bodyPost_ret (v := .tuple #[.agg #[.slice none 0 0, .int .i64 0, .slice none 0 0], .int .i64 2]) ?_ rfl ⟨rfl, ?_⟩
  · have q0 : World.cell? _ ⟨b4, 0, none⟩ = some (.slice none 0 0) := HBe.out.cell 0; have q1 : World.cell? _ ⟨b4, 1, none⟩ = some (.int .i64 0) := HBe.out.cell 1; have q2 : World.cell? _ ⟨b4, 2, none⟩ = some (.slice none 0 0) := HBe.out.cell 2; clear r0 r1 r2 HBe; simp [results, Try.results19, go_sem, q0, q1, q2]
  · exact ((((HK.out.setCell (p := ⟨b4, 0, none⟩) HbI.out _).setCell (p := ⟨b4, 1, none⟩) HbI.out _).setCell (p := ⟨b4, 2, none⟩) HbI.out _).alloc _)
theorem RNew_cores (w : World) (n : Nat) (c : Int) (h2 : 2 ≤ n) (h64 : n ≤ 64) (h : c < 1 ∨ 4 < c) :
    Calls Try.prog 19 #[.int .i64 n, .int .i64 c] w fun e w' => e = .returned (.tuple #[.agg #[.slice none 0 0, .int .i64 0, .slice none 0 0], .int .i64 2]) ∧ Chg [] w w' := by
  have HNw := Lib.hid (fun W => rNew_ok W n h2 h64)
  have HA := Lib.hid ((Chg.refl [] w).alloc (.cells #[.slice none 0 0, .int .i64 0, .slice none 0 0] 60))
  have HB4 := Lib.hid (Blk.new w [.slice none 0 0, .int .i64 0, .slice none 0 0] 60)
  have hcc : c < 1 ∨ (1 ≤ c ∧ 4 < c) := by omega
  clear h
  rcases hcc with h | ⟨h, h9⟩
  all_goals (
    go_enter Try.func19, Try.ntmps19
    go_upto_region 1 with fail
    generalize World.alloc _ _ = w1 at *
    go_wp2_with fail
    refine (HNw.out w1).mono ?_
    rintro e w2 ⟨bW, rfl, hbw, hk2, hlw⟩
    have hk := HA.out.trans hk2
    replace HB4 := Lib.hid (hk2.blk HB4.out (by simp))
    have HK := Lib.hid hk
    clear hk hk2 HA HNw hbw hlw
    obtain ⟨b4, hb4⟩ : ∃ q, w.heap.size = q := ⟨_, rfl⟩
    rw [hb4] at HB4 ⊢
    have Hb4 := Lib.hid hb4
    have HbI : Hid (b4 < w.heap.size → b4 ∈ ([] : List Nat)) := Lib.hid (fun h => absurd h (by rw [hb4]; exact Nat.lt_irrefl _))
    clear hb4
    have s0 : w2.frozen? ⟨b4, 0, none⟩ = false := HB4.out.free 0
    have s1 : w2.frozen? ⟨b4, 1, none⟩ = false := HB4.out.free 1
    have s2 : w2.frozen? ⟨b4, 2, none⟩ = false := HB4.out.free 2
    have r0 : w2.cell? ⟨b4, 0, none⟩ = some (.slice none 0 0) := HB4.out.cell 0
    have r1 : w2.cell? ⟨b4, 1, none⟩ = some (.int .i64 0) := HB4.out.cell 1
    have r2 : w2.cell? ⟨b4, 2, none⟩ = some (.slice none 0 0) := HB4.out.cell 2
    have l4 : b4 < w2.heap.size := HB4.out.lt
    have HBe := Lib.hid ((((HB4.out.set 0 (.slice none 0 0)).set 1 (.int .i64 0)).set 2 (.slice none 0 0)).alloc (.cells #[.slice (some ⟨bW, 0, none⟩) (8 * n) (8 * n)] 57))
    go_wp2_with fail
    refine bodyPost_ret (v := .tuple #[.agg #[.slice none 0 0, .int .i64 0, .slice none 0 0], .int .i64 2]) ?_ rfl ⟨rfl, ?_⟩
    (have q0 : World.cell? _ ⟨b4, 0, none⟩ = some (.slice none 0 0) := HBe.out.cell 0; have q1 : World.cell? _ ⟨b4, 1, none⟩ = some (.int .i64 0) := HBe.out.cell 1; have q2 : World.cell? _ ⟨b4, 2, none⟩ = some (.slice none 0 0) := HBe.out.cell 2; clear r0 r1 r2 HBe; simp [results, Try.results19, go_sem, q0, q1, q2])
    (exact ((((HK.out.setCell (p := ⟨b4, 0, none⟩) HbI.out _).setCell (p := ⟨b4, 1, none⟩) HbI.out _).setCell (p := ⟨b4, 2, none⟩) HbI.out _).alloc _)))
end Go.Proofs.Ytepdhajgemmoiaa

/- Two directories side by side: what both answer of a line. -/
namespace Go.Proofs.Ytepdhajgemmoiaa
set_option linter.unusedSimpArgs false
set_option linter.unusedVariables false
set_option maxRecDepth 100000
set_option linter.unusedSimpArgs false
set_option linter.unusedVariables false
open Go.RowKit

section
variable {w w' : World} {N N' T : List Nat} {d bm bw bl rd bL bW n capL : Nat} {cores : Int} {ws : List Int} {es ks : List EntV} {rs : List RE}
theorem RDAt.beside (h : RDAt w N rd bL bW n capL cores ws rs) (k : Chg T w w') (hT : ∀ y ∈ T, y ∈ N ∧ y ≠ rd ∧ y ≠ bL ∧ y ≠ bW) (hN : ∀ y ∈ N', y ∈ N ∨ w.heap.size ≤ y) (hi : rd ∈ N' ∧ bL ∈ N' ∧ bW ∈ N') : RDAt w' N' rd bL bW n capL cores ws rs :=
  ⟨k.blk h.blk (fun hm => (hT _ hm).2.1 rfl), k.blk h.words (fun hm => (hT _ hm).2.2.2 rfl), h.wlen, h.small, h.ents.imp fun _ b => k.blk b (fun hm => (hT _ hm).2.2.1 rfl), h.len, fun i hi => (h.fz i hi).step (k.mono (fun y hy => (hT y hy).1)) hN, hi⟩
theorem Knows.chgS (K : Knows w d bm bw bl n cores ws es ks) (k : Chg T w w') (hd : d ∉ T) (hbm : bm ∉ T) (hS : ∀ x ∈ T, x ∉ dirB bw bl es) : Knows w' d bm bw bl n cores ws es ks :=
  ⟨K.D.chgS k hd hbm hS, K.ks, K.ok, K.co⟩
theorem line_post (n : Nat) (ws : List Int) (i : Int) (V : World) (e : Ending) (w' : World) (h : LinePost V n ws i e w') : e = .returned (.tuple #[.agg #[.int .u64 (lineV n ws i).x0, .int .u64 (lineV n ws i).x1, .int .u64 (lineV n ws i).x2, .int .u64 (lineV n ws i).x3, .int .u64 (lineV n ws i).x4, .int .u64 (lineV n ws i).x5, .int .u64 (lineV n ws i).x6, .int .u64 (lineV n ws i).x7], .int .i64 (memErr n i)]) ∧ Chg [] V w' := by
  obtain ⟨rfl, hk⟩ := h
  rw [u64s_line]
  exact ⟨rfl, hk⟩
theorem nums_core (V : World) (s : Int) (e : Ending) (w' : World) (h : CorePost V s e w') : NumsPost V (coresI s) e w' := by
  obtain ⟨v, h1, h2, h3⟩ := h
  refine ⟨v, h1, ?_, h3⟩
  unfold coresI
  rw [List.length_map, List.map_map]
  exact h2
theorem SL_of (k : Nat) (hk : k ≤ 401) (K : Knows w d bm bw bl n cores ws es ks) (R : RDAt w N rd bL bW n capL cores ws rs) (A : Alikes cores n k ks (rs.map RE.toV)) (i : Int) :
    ∃ x v err, SL w d rd i x v err ∧ ((0 ≤ i ∧ i < n) → ∃ h : i.toNat < rs.length, rs[i.toNat] = x) ∧ (¬ (0 ≤ i ∧ i < n) → x = {}) := by
  have hln := R.len
  have hlk := A.lk
  by_cases hr : 0 ≤ i ∧ i < n
  · obtain ⟨iN, rfl⟩ := Int.eq_ofNat_of_zero_le hr.1
    have hi : iN < rs.length := by omega
    have hik : iN < ks.length := by omega
    obtain ⟨hR, hS, hP⟩ := A.rel iN hik (by rw [List.length_map]; exact hi)
    rw [List.getElem_map] at hR hS hP
    have hF := R.fz iN hi
    have hge : ks[iN]? = some ks[iN] := List.getElem?_eq_getElem hik
    refine ⟨rs[iN], lineV n ws (iN : Int), memErr n (iN : Int), ⟨fun V kk => ?_, fun V kk => ?_, fun V kk => ?_, fun V kk => ?_, fun V kk => ?_, fun V kk => ?_, hF.sh.rd, hF.wt.rd, hS.sh, Nat.le_trans hS.wl (by omega)⟩, fun _ => ⟨by simpa using hi, by simp⟩, fun h => absurd hr h⟩
    · have := Sharers_any V d bm bw bl n cores ws es ks (iN : Int) (K.look kk)
      have e1 : sharersK ks (iN : Int) = ks[iN].sh := by unfold sharersK; rw [if_neg (by omega), Int.toNat_natCast, hge]
      rw [e1] at this
      refine this.mono (fun e w' h => ?_)
      have := nums_core _ _ _ _ h
      rw [hR.sh] at this
      exact this
    · refine (Under_any iN (K.look kk) (by omega) ks[iN] hge).mono ?_
      rintro e w' ⟨rfl, hk'⟩
      refine ⟨?_, hk'⟩
      have e1 : (ks[iN].ph != 0) = decide (0 < rs[iN].ph) := by
        have h1 := hR.ph
        rw [h1]
        show (rs[iN].ph != 0) = decide (0 < rs[iN].ph)
        have h2 : 0 ≤ rs[iN].ph := hP
        by_cases h0 : rs[iN].ph = 0
        · rw [h0]; rfl
        · rw [decide_eq_true (by omega)]; simpa using h0
      rw [e1, hR.un]
      rfl
    · have := Waiting_any iN (K.look kk) (by omega) ks[iN] hge
      rw [hR.wl] at this
      exact this
    · exact (DMemory_any V d bm bw bl n cores ws es ks (iN : Int) (K.look kk)).mono (fun e w' h => line_post n ws _ V e w' h)
    · exact (rfLine_any V rd bW n ws (iN : Int) (R.look kk).mem).mono (fun e w' h => line_post n ws _ V e w' h)
    · have := Owner_any V d bm bw bl n cores ws es ks (iN : Int) (K.look kk)
      have e1 : ownerK ks (iN : Int) = rs[iN].ow := by unfold ownerK; rw [if_neg (by omega), Int.toNat_natCast, hge]; exact hR.ow
      rw [e1] at this
      exact this
  · have hr2 : i < 0 ∨ (n : Int) ≤ i := by omega
    have hno : i < 0 ∨ ks[i.toNat]? = none := by
      by_cases h0 : i < 0
      · exact .inl h0
      · exact .inr (List.getElem?_eq_none (by omega))
    refine ⟨{}, lineV n ws i, memErr n i, ⟨fun V kk => ?_, fun V kk => ?_, fun V kk => ?_, fun V kk => ?_, fun V kk => ?_, fun V kk => ?_, Rd.nil _ _ _ _ _, Rd.nil _ _ _ _ _, by decide, by decide⟩, fun h => absurd h hr, fun _ => rfl⟩
    · have := Sharers_any V d bm bw bl n cores ws es ks i (K.look kk)
      have e1 : sharersK ks i = 0 := by
        unfold sharersK
        rcases hno with h0 | h0
        · rw [if_pos h0]
        · split
          · rfl
          · rw [h0]
      rw [e1] at this
      refine this.mono (fun e w' h => ?_)
      have := nums_core _ _ _ _ h
      rw [coresI_zero] at this
      exact this
    · exact Under_out V d bm bw bl n cores ws es ks i hr2 (K.look kk)
    · exact Waiting_out V d bm bw bl n cores ws es ks i hr2 (K.look kk)
    · exact (DMemory_any V d bm bw bl n cores ws es ks i (K.look kk)).mono (fun e w' h => line_post n ws _ V e w' h)
    · exact (rfLine_any V rd bW n ws i (R.look kk).mem).mono (fun e w' h => line_post n ws _ V e w' h)
    · have := Owner_any V d bm bw bl n cores ws es ks i (K.look kk)
      have e1 : ownerK ks i = -1 := by
        unfold ownerK
        rcases hno with h0 | h0
        · rw [if_pos h0]
        · split
          · rfl
          · rw [h0]
      rw [e1] at this
      exact this
end
end Go.Proofs.Ytepdhajgemmoiaa

/- DirPlays: whatever is heard, a directory answers, and knows, what the document says. -/
namespace Go.Proofs.Ytepdhajgemmoiaa
set_option linter.unusedSimpArgs false
set_option linter.unusedVariables false
set_option maxRecDepth 100000
set_option linter.unusedSimpArgs false
set_option linter.unusedVariables false
open Go.RowKit

attribute [local go_sem ↓] store_M
attribute [local go_sem] bigFree_M bigPut_M Value.oneCell'
def encL8 (v : L8) : List Value := [.int .u64 v.x0, .int .u64 v.x1, .int .u64 v.x2, .int .u64 v.x3, .int .u64 v.x4, .int .u64 v.x5, .int .u64 v.x6, .int .u64 v.x7]
theorem encL8_len (v : L8) : (encL8 v).length = 8 := rfl
theorem row_lt {w : World} {base : Nat} {e : TypeId} {size : Nat} {v : Value} {n : Nat} {xs : List Value} (h : w.ownsRow base e size v n xs) : ∀ g ∈ sliceB v, g < w.heap.size := by
  rcases h.2 with ⟨rfl, _⟩ | ⟨g, cap, cur, rfl, hb, hh, _⟩
  · simp [sliceB]
  · simp [sliceB]; exact lt_of_block hh
theorem own_slice {v : Value} {g : Nat} (h : g ∈ v.ownBlock.toList) : g ∈ sliceB v := by
  unfold Value.ownBlock at h
  split at h
  · simpa [sliceB, eq_comm] using h
  · simp at h
/-- The law's state: both directories, alike. -/
structure DD (W0 w : World) (d bm bw bl rd bL bW n capL : Nat) (cores : Int) (k : Nat) (ws : List Int) (es ks : List EntV) (rs : List RE) : Prop where
  K : Knows w d bm bw bl n cores ws es ks
  R : RDAt w (rd :: bL :: bW :: dirB bw bl es) rd bL bW n capL cores ws rs
  A : Alikes cores n k ks (rs.map RE.toV)
  sep : ∀ g ∈ [rd, bL, bW], g ≠ d ∧ g ≠ bm ∧ g ∉ dirB bw bl es
  lo : W0.heap.size ≤ rd ∧ W0.heap.size ≤ bL ∧ W0.heap.size ≤ bW ∧ ∀ g ∈ dirB bw bl es, W0.heap.size ≤ g
  chg : Chg [] W0 w
section
variable {W0 w w' : World} {d bm bw bl rd bL bW n capL : Nat} {cores : Int} {k : Nat} {ws : List Int} {es ks : List EntV} {rs : List RE}
theorem DD.look (D : DD W0 w d bm bw bl rd bL bW n capL cores k ws es ks rs) (h : Chg [] w w') : DD W0 w' d bm bw bl rd bL bW n capL cores k ws es ks rs :=
  ⟨D.K.look h, D.R.look h, D.A, D.sep, D.lo, D.chg.trans h⟩
theorem DD.start (hn : 2 ≤ n) (D : DirW w d bm bw bl n cores (List.replicate (8 * n) 0) (List.replicate n newE)) (hc : 1 ≤ cores ∧ cores ≤ 4) (h64 : n ≤ 64)
    (hB : Blk w rd [.slice (some ⟨bW, 0, none⟩) (8 * n) (8 * n), .int .i64 cores, .slice (some ⟨bL, 0, none⟩) n capL] 60)
    (hW : Blk w bW ((List.replicate (8 * n) (0 : Int)).map (Value.int .u64)) 29)
    (hL : ∃ rest, Blk w bL ((List.replicate n ({} : RE)).flatMap encR ++ rest) 99)
    (sep : ∀ g ∈ [rd, bL, bW], g ≠ d ∧ g ≠ bm ∧ g ∉ dirB bw bl (List.replicate n newE))
    (lo : W0.heap.size ≤ rd ∧ W0.heap.size ≤ bL ∧ W0.heap.size ≤ bW ∧ ∀ g ∈ dirB bw bl (List.replicate n newE), W0.heap.size ≤ g) (hk : Chg [] W0 w) :
    DD W0 w d bm bw bl rd bL bW n capL cores 0 (List.replicate (8 * n) 0) (List.replicate n newE) (List.replicate n newE) (List.replicate n {}) := by
  refine ⟨Knows.new D hc, ⟨hB, hW, by simp, h64, hL, by simp, fun i hi => ?_, ⟨by simp, by simp, by simp⟩⟩, ⟨by simp, by simp, fun i h1 h2 => ?_⟩, sep, lo, hk⟩
  · rw [List.getElem_replicate]
    exact ⟨FzL.none _ _ _ _, FzL.none _ _ _ _, FzL.none _ _ _ _⟩
  · rw [List.getElem_map, List.getElem_replicate, List.getElem_replicate]
    exact ⟨⟨rfl, coresI_zero, rfl, rfl, fun h => absurd (show (0 : Int) = 1 from h) (by decide), fun h => absurd (show (0 : Int) = 2 from h) (by decide), rfl, ⟨by decide, by decide⟩, ⟨by decide, by decide⟩⟩, ⟨by decide, by decide, by decide⟩, by decide⟩
theorem DD.memR (D : DD W0 w d bm bw bl rd bL bW n capL cores k ws es ks rs) (h1 : Chg [bw] w w') : RDAt w' (rd :: bL :: bW :: dirB bw bl es) rd bL bW n capL cores ws rs := by
  have s1 := D.sep rd (by simp)
  have s2 := D.sep bL (by simp)
  have s3 := D.sep bW (by simp)
  exact D.R.beside h1 (fun y hy => by
    rw [List.mem_singleton.1 hy]
    exact ⟨by simp [dirB_bw], fun e => s1.2.2 (by rw [← e]; exact dirB_bw), fun e => s2.2.2 (by rw [← e]; exact dirB_bw), fun e => s3.2.2 (by rw [← e]; exact dirB_bw)⟩) (fun y hy => .inl hy) D.R.inN
/-- The memory of both, set alike. -/
theorem DD.set1 {w2 : World} {ws' : List Int} (D : DD W0 w d bm bw bl rd bL bW n capL cores k ws es ks rs) (h1 : Chg [bw] w w') (K1 : Knows w' d bm bw bl n cores ws' es ks) (h2 : Chg [bW] w' w2) (M2 : RfAt w2 rd bW (8 * n) ws') :
    DD W0 w2 d bm bw bl rd bL bW n capL cores k ws' es ks rs := by
  have s1 := D.sep rd (by simp)
  have s2 := D.sep bL (by simp)
  have s3 := D.sep bW (by simp)
  have R1 : RDAt w' (rd :: bL :: bW :: dirB bw bl es) rd bL bW n capL cores ws rs := D.R.beside h1 (fun y hy => by
    rw [List.mem_singleton.1 hy]
    exact ⟨by simp [dirB_bw], fun e => s1.2.2 (by rw [← e]; exact dirB_bw), fun e => s2.2.2 (by rw [← e]; exact dirB_bw), fun e => s3.2.2 (by rw [← e]; exact dirB_bw)⟩) (fun y hy => .inl hy) D.R.inN
  refine ⟨K1.chgS h2 (fun hm => s3.1 (List.mem_singleton.1 hm).symm) (fun hm => s3.2.1 (List.mem_singleton.1 hm).symm) (fun x hx => by rw [List.mem_singleton.1 hx]; exact s3.2.2), R1.turn h2 M2, D.A, D.sep, D.lo, ?_⟩
  exact (D.chg.trans' h1 (fun x hx hl => by rw [List.mem_singleton.1 hx] at hl; have := D.lo.2.2.2 bw dirB_bw; omega)).trans' h2 (fun x hx hl => by rw [List.mem_singleton.1 hx] at hl; have := D.lo.2.2.1; omega)
end

set_option maxHeartbeats 8000000 in
theorem DirPlays_any (W : World) (a b : Int) (A1 : Option Addr) (cap1 : Nat) (fs : List L8) (A2 : Option Addr) (cap2 : Nat) (l : List MsgV) (hf : fs.length ≤ maxLen) (hl : l.length ≤ maxLen) (R1 : Rd W W.heap.size A1 8 encL8 fs) (R2 : Rd W W.heap.size A2 11 encM l) :
    Calls Try.prog 5 #[.agg #[.int .i64 a, .int .i64 b], .slice A1 fs.length cap1, .slice A2 l.length cap2] W (StaysPost W) := by
  have HR1 := Lib.hid R1; have HR2 := Lib.hid R2
  have hfi : (fs.length : Int) ≤ 9223372036854775807 := by unfold maxLen at hf; omega
  have hli : (l.length : Int) ≤ 9223372036854775807 := by unfold maxLen at hl; omega
  clear R1 R2 hf hl
  have HB3 := Lib.hid (Blk.new W [.int .i64 a, .int .i64 b] 53)
  have HC0 := Lib.hid ((Chg.refl [] W).alloc (.cells #[.int .i64 a, .int .i64 b] 53))
  by_cases hbig : 400 < l.length ∨ 100 < fs.length
  · have hb2 : 400 < l.length ∨ (l.length ≤ 400 ∧ 100 < fs.length) := by omega
    clear hbig
    rcases hb2 with h | ⟨h, h2⟩
    · have hI : (400 : Int) < l.length := by omega
      go_enter Try.func5, Try.ntmps5
      go_wp2_with fail
      go_ret
      exact ⟨rfl, HC0.out.nil_below⟩
    · have hI : ¬ ((400 : Int) < l.length) := by omega
      have hI2 : (100 : Int) < fs.length := by omega
      go_enter Try.func5, Try.ntmps5
      go_wp2_with fail
      go_ret
      exact ⟨rfl, HC0.out.nil_below⟩
  · have h4 : l.length ≤ 400 := by omega
    have h1 : fs.length ≤ 100 := by omega
    have h4i : ¬ ((400 : Int) < l.length) := by omega
    have h1i : ¬ ((100 : Int) < fs.length) := by omega
    clear hbig
    have hcases : (a < 2 ∨ 64 < a) ∨ (2 ≤ a ∧ a ≤ 64 ∧ (b < 1 ∨ 4 < b)) ∨ (2 ≤ a ∧ a ≤ 64 ∧ 1 ≤ b ∧ b ≤ 4) := by omega
    rcases hcases with h | ⟨ha, ha2, h⟩ | ⟨ha, ha2, hb, hb2⟩
    · have HN1 := Lib.hid (fun V => DNew_bad V a b h)
      have HN2 := Lib.hid (fun V => RNew_bad V a b h)
      clear h
      go_enter Try.func5, Try.ntmps5
      go_wp2_with fail
      refine (HN1.out _).mono ?_
      rintro e w1 ⟨rfl, rfl⟩
      go_wp2_with fail
      refine (HN2.out _).mono ?_
      rintro e w2 ⟨rfl, hk2⟩
      have HC2 := Lib.hid (HC0.out.trans hk2)
      clear hk2
      go_wp2_with fail
      go_ret
      exact ⟨rfl, (HC2.out.alloc _).nil_below⟩
    · obtain ⟨n, rfl⟩ := Int.eq_ofNat_of_zero_le (show 0 ≤ a by omega)
      have HN1 := Lib.hid (fun V => DNew_cores V n b (by omega) (by omega) h)
      have HN2 := Lib.hid (fun V => RNew_cores V n b (by omega) (by omega) h)
      clear h ha ha2
      go_enter Try.func5, Try.ntmps5
      go_wp2_with fail
      refine (HN1.out _).mono ?_
      rintro e w1 ⟨rfl, hk1⟩
      have c0 : w1.cell? ⟨W.heap.size, 0, none⟩ = some (.int .i64 (n : Int)) := (hk1.blk HB3.out (by simp)).cell 0
      have c1 : w1.cell? ⟨W.heap.size, 1, none⟩ = some (.int .i64 b) := (hk1.blk HB3.out (by simp)).cell 1
      have HC1 := Lib.hid (HC0.out.trans hk1)
      clear hk1
      go_wp2_with fail
      refine (HN2.out _).mono ?_
      rintro e w2 ⟨rfl, hk2⟩
      have HC2 := Lib.hid (HC1.out.trans hk2)
      clear hk2
      go_wp2_with fail
      go_ret
      exact ⟨rfl, (HC2.out.alloc _).nil_below⟩
    · obtain ⟨n, rfl⟩ := Int.eq_ofNat_of_zero_le (show 0 ≤ a by omega)
      have HN1 := Lib.hid (fun V => DNew_ok V n b (by omega) (by omega) ⟨hb, hb2⟩)
      have HN2 := Lib.hid (fun V => RNew_ok V n b (by omega) (by omega) ⟨hb, hb2⟩)
      have h2n : 2 ≤ n := by omega
      have h64 : n ≤ 64 := by omega
      have Hbb := Lib.hid (show 1 ≤ b ∧ b ≤ 4 from ⟨hb, hb2⟩)
      clear ha ha2 hb hb2
      go_enter Try.func5, Try.ntmps5
      go_wp2_with fail
      refine (HN1.out _).mono ?_
      rintro e w1 ⟨d, bm, bw, bl, rfl, hk1, hd, hbs, hD⟩
      have c0 : w1.cell? ⟨W.heap.size, 0, none⟩ = some (.int .i64 (n : Int)) := (hk1.blk HB3.out (by simp)).cell 0
      have c1 : w1.cell? ⟨W.heap.size, 1, none⟩ = some (.int .i64 b) := (hk1.blk HB3.out (by simp)).cell 1
      have HC1 := Lib.hid (HC0.out.trans hk1)
      have HD := Lib.hid hD
      have hsW : W.heap.size ≤ (W.alloc (.cells #[.int .i64 (n : Int), .int .i64 b] 53)).heap.size := HC0.out.size
      have Hlo := Lib.hid (show W.heap.size ≤ bw ∧ W.heap.size ≤ bl from ⟨Nat.le_trans hsW (hbs bw (by simp)), Nat.le_trans hsW (hbs bl (by simp))⟩)
      clear hk1 hd hbs hD hsW
      go_wp2_with fail
      refine (HN2.out _).mono ?_
      rintro e w2 ⟨bW, vL, rfl, hbW, hvL, hloW, hk2⟩
      obtain ⟨bL, capL, cur, rfl, hbL, hBL, htk⟩ := ownsRow_pos hvL (by omega)
      have hWl := HC0.out.size
      have hdl := HD.out.lt
      have hbm : bm < w1.heap.size := by obtain ⟨_, hm⟩ := HD.out.D.mem.m; exact hm.lt
      have hdd : d < w1.heap.size := HD.out.D.blk.lt
      have hs12 := hk2.size
      have hW1 := HC1.out.size
      have hzero : ∀ g ∈ dirB bw bl (List.replicate n newE), g = bw ∨ g = bl := fun g hg => by
        unfold dirB at hg
        rcases List.mem_cons.1 hg with h | h
        · exact .inl h
        rcases List.mem_cons.1 h with h | h
        · exact .inr h
        obtain ⟨x, hx, hgx⟩ := List.mem_flatMap.1 h
        rw [(List.mem_replicate.1 hx).2] at hgx
        exact absurd hgx (by simp [sliceB, newE])
      have hDD := DD.start (W0 := W) (w := w2.alloc (.cells #[.slice (some ⟨bW, 0, none⟩) (8 * n) (8 * n), .int .i64 b, .slice (some ⟨bL, 0, none⟩) n capL] 60)) (rd := w2.heap.size) h2n (HD.out.look (hk2.alloc _)) Hbb.out h64 (Blk.new w2 _ _) (hbW.alloc _) ⟨cur.drop (n * 17), by rw [← htk, List.take_append_drop]; exact hBL.alloc _⟩
        (fun g hg => by
          have hge : w1.heap.size ≤ g := by
            simp only [List.mem_cons, List.not_mem_nil, or_false] at hg
            rcases hg with h | h | h <;> omega
          exact ⟨by omega, by omega, fun hm => by have := hdl g hm; omega⟩)
        ⟨by omega, by omega, by omega, fun g hg => by
          have := Hlo.out
          rcases hzero g hg with h | h <;> omega⟩ ((HC1.out.trans hk2).alloc _)
      have HDD := Lib.hid hDD
      clear hDD hzero hWl hdl hbm hdd hs12 hW1 hbW hvL hloW hk2 hbL hBL htk HD HN1 HN2 Hlo HC1 c0 c1 HB3 HC0
      go_upto_region 8 with fail
      generalize World.alloc _ _ = w3 at *
      obtain ⟨rd, hrd⟩ : ∃ q, w2.heap.size = q := ⟨_, rfl⟩
      rw [hrd] at HDD ⊢
      clear hrd
      go_loopw [11] (fun q V => ∃ (j : Nat) (ws : List Int), j ≤ fs.length ∧ q = .int .i64 j ∧ Hid (DD W V d bm bw bl rd bL bW n capL b 0 ws (List.replicate n newE) (List.replicate n newE) (List.replicate n {})))
        (fun q _ => fs.length - (intOf q).toNat)
      case atStart => exact ⟨0, _, by omega, rfl, HDD⟩
      case round =>
        obtain ⟨j, ws, hj, rfl, hS⟩ := hrel
        by_cases hlt : j < fs.length
        · obtain ⟨bf, off, hA, hbf, hcc⟩ := (show Rd wr wr.heap.size A1 8 encL8 fs from HR1.out.chg0 hS.out.chg) (by omega)
          replace hcc := hcc j hlt
          subst hA
          have hji : (j : Int) < fs.length := by omega
          obtain ⟨v, hv⟩ : ∃ v, fs[j] = v := ⟨_, rfl⟩
          rw [hv] at hcc
          have q0 : wr.cell? ⟨bf, off + j * 8, none⟩ = some (.int .u64 v.x0) := by have := hcc 0 (by decide); rw [Nat.add_zero] at this; exact this
          have q1 : wr.cell? ⟨bf, off + j * 8 + 1, none⟩ = some (.int .u64 v.x1) := by have := hcc 1 (by decide); rw [← Nat.add_assoc] at this; exact this
          have q2 : wr.cell? ⟨bf, off + j * 8 + 2, none⟩ = some (.int .u64 v.x2) := by have := hcc 2 (by decide); rw [← Nat.add_assoc] at this; exact this
          have q3 : wr.cell? ⟨bf, off + j * 8 + 3, none⟩ = some (.int .u64 v.x3) := by have := hcc 3 (by decide); rw [← Nat.add_assoc] at this; exact this
          have q4 : wr.cell? ⟨bf, off + j * 8 + 4, none⟩ = some (.int .u64 v.x4) := by have := hcc 4 (by decide); rw [← Nat.add_assoc] at this; exact this
          have q5 : wr.cell? ⟨bf, off + j * 8 + 5, none⟩ = some (.int .u64 v.x5) := by have := hcc 5 (by decide); rw [← Nat.add_assoc] at this; exact this
          have q6 : wr.cell? ⟨bf, off + j * 8 + 6, none⟩ = some (.int .u64 v.x6) := by have := hcc 6 (by decide); rw [← Nat.add_assoc] at this; exact this
          have q7 : wr.cell? ⟨bf, off + j * 8 + 7, none⟩ = some (.int .u64 v.x7) := by have := hcc 7 (by decide); rw [← Nat.add_assoc] at this; exact this
          have HW0 := Lib.hid (⟨bf, off, rfl, hbf, hcc⟩ : ∃ b1 o1, (⟨bf, off, none⟩ : Addr) = ⟨b1, o1, none⟩ ∧ b1 < wr.heap.size ∧ ∀ t, t < 8 → wr.cell? ⟨b1, o1 + (j * 8 + t), none⟩ = (encL8 v)[t]?)
          have HS1 := Lib.hid (DSet_any wr d bm bw bl n b ws _ _ (j : Int) v.x0 v.x1 v.x2 v.x3 v.x4 v.x5 v.x6 v.x7 hS.out.K)
          have HV := Lib.hid hv
          have Hbf := Lib.hid hbf
          clear hcc hbf hv
          go_wp2_with fail
          refine HS1.out.mono ?_
          rintro e w4 ⟨rfl, hk4, hK4⟩
          have HMR := Lib.hid (hS.out.memR hk4)
          have hc4 : Chg [] W w4 := hS.out.chg.trans' hk4 (fun x hx hl => by rw [List.mem_singleton.1 hx] at hl; have := hS.out.lo.2.2.2 bw dirB_bw; omega)
          have HK4 := Lib.hid hK4; have Hk4 := Lib.hid hk4
          clear hk4 hK4 q0 q1 q2 q3 q4 q5 q6 q7 HS1 HW0
          obtain ⟨bf2, off2, hA, hbf, hcc⟩ := (show Rd w4 w4.heap.size (some ⟨bf, off, none⟩) 8 encL8 fs from HR1.out.chg0 hc4) (by omega)
          replace hcc := hcc j hlt
          cases hA
          rw [HV.out] at hcc
          have q0 : w4.cell? ⟨bf, off + j * 8, none⟩ = some (.int .u64 v.x0) := by have := hcc 0 (by decide); rw [Nat.add_zero] at this; exact this
          have q1 : w4.cell? ⟨bf, off + j * 8 + 1, none⟩ = some (.int .u64 v.x1) := by have := hcc 1 (by decide); rw [← Nat.add_assoc] at this; exact this
          have q2 : w4.cell? ⟨bf, off + j * 8 + 2, none⟩ = some (.int .u64 v.x2) := by have := hcc 2 (by decide); rw [← Nat.add_assoc] at this; exact this
          have q3 : w4.cell? ⟨bf, off + j * 8 + 3, none⟩ = some (.int .u64 v.x3) := by have := hcc 3 (by decide); rw [← Nat.add_assoc] at this; exact this
          have q4 : w4.cell? ⟨bf, off + j * 8 + 4, none⟩ = some (.int .u64 v.x4) := by have := hcc 4 (by decide); rw [← Nat.add_assoc] at this; exact this
          have q5 : w4.cell? ⟨bf, off + j * 8 + 5, none⟩ = some (.int .u64 v.x5) := by have := hcc 5 (by decide); rw [← Nat.add_assoc] at this; exact this
          have q6 : w4.cell? ⟨bf, off + j * 8 + 6, none⟩ = some (.int .u64 v.x6) := by have := hcc 6 (by decide); rw [← Nat.add_assoc] at this; exact this
          have q7 : w4.cell? ⟨bf, off + j * 8 + 7, none⟩ = some (.int .u64 v.x7) := by have := hcc 7 (by decide); rw [← Nat.add_assoc] at this; exact this
          have HS2 := Lib.hid (rfSet_any w4 rd bW n ws (j : Int) v.x0 v.x1 v.x2 v.x3 v.x4 v.x5 v.x6 v.x7 HMR.out.mem)
          have hrl : rd < w4.heap.size := HMR.out.lt.1
          clear hcc hc4
          go_wp2_with fail
          refine HS2.out.mono ?_
          rintro e w5 ⟨rfl, hM5, hk5⟩
          have HD5 := Lib.hid (hS.out.set1 Hk4.out HK4.out hk5 hM5)
          clear hM5 hk5 HS2 HMR hrl q0 q1 q2 q3 q4 q5 q6 q7
          go_wp2_with fail
          go_roundw
          case rel => exact ⟨j + 1, _, by omega, by go_num, HD5⟩
          case measure => simp [intOf]; omega
        · have hjn : ¬ ((j : Int) < fs.length) := by omega
          clear hlt
          go_wp2_with fail
          go_loopw [14] (fun q V => ∃ (j : Nat) (ws : List Int) (es ks : List EntV) (rs : List RE), j ≤ l.length ∧ q = .int .i64 j ∧ Hid (DD W V d bm bw bl rd bL bW n capL b j ws es ks rs))
            (fun q _ => l.length - (intOf q).toNat)
          case atStart => exact ⟨0, _, _, _, _, by omega, rfl, hS⟩
          case round =>
            obtain ⟨jq, ws, es, ks, rs, hjq, rfl, hS2⟩ := hrel
            have hjq4 : jq ≤ 400 := by omega
            by_cases hlq : jq < l.length
            · obtain ⟨bf, off, hA, hbf, hcc⟩ := (show Rd wr wr.heap.size A2 11 encM l from HR2.out.chg0 hS2.out.chg) (by omega)
              replace hcc := hcc jq hlq
              subst hA
              have hji : (jq : Int) < l.length := by omega
              obtain ⟨m, hm⟩ : ∃ v, l[jq] = v := ⟨_, rfl⟩
              rw [hm] at hcc
              have q0 : wr.cell? ⟨bf, off + jq * 11, none⟩ = some (.int .i64 m.k) := by have := hcc 0 (by decide); rw [Nat.add_zero] at this; exact this
              have q1 : wr.cell? ⟨bf, off + jq * 11 + 1, none⟩ = some (.int .i64 m.c) := by have := hcc 1 (by decide); rw [← Nat.add_assoc] at this; exact this
              have q2 : wr.cell? ⟨bf, off + jq * 11 + 2, none⟩ = some (.int .i64 m.l) := by have := hcc 2 (by decide); rw [← Nat.add_assoc] at this; exact this
              have q3 : wr.cell? ⟨bf, off + jq * 11 + 3, none⟩ = some (.int .u64 m.d.x0) := by have := hcc 3 (by decide); rw [← Nat.add_assoc] at this; exact this
              have q4 : wr.cell? ⟨bf, off + jq * 11 + 4, none⟩ = some (.int .u64 m.d.x1) := by have := hcc 4 (by decide); rw [← Nat.add_assoc] at this; exact this
              have q5 : wr.cell? ⟨bf, off + jq * 11 + 5, none⟩ = some (.int .u64 m.d.x2) := by have := hcc 5 (by decide); rw [← Nat.add_assoc] at this; exact this
              have q6 : wr.cell? ⟨bf, off + jq * 11 + 6, none⟩ = some (.int .u64 m.d.x3) := by have := hcc 6 (by decide); rw [← Nat.add_assoc] at this; exact this
              have q7 : wr.cell? ⟨bf, off + jq * 11 + 7, none⟩ = some (.int .u64 m.d.x4) := by have := hcc 7 (by decide); rw [← Nat.add_assoc] at this; exact this
              have q8 : wr.cell? ⟨bf, off + jq * 11 + 8, none⟩ = some (.int .u64 m.d.x5) := by have := hcc 8 (by decide); rw [← Nat.add_assoc] at this; exact this
              have q9 : wr.cell? ⟨bf, off + jq * 11 + 9, none⟩ = some (.int .u64 m.d.x6) := by have := hcc 9 (by decide); rw [← Nat.add_assoc] at this; exact this
              have q10 : wr.cell? ⟨bf, off + jq * 11 + 10, none⟩ = some (.int .u64 m.d.x7) := by have := hcc 10 (by decide); rw [← Nat.add_assoc] at this; exact this
              have HV := Lib.hid hm
              have hH := hear_any wr d bm bw bl n b ws es ks m hS2.out.K
              have hRf := fun V N' hN' R' => rHear_any V N' rd bL bW n capL b jq hjq4 ws ks rs hN' Hbb.out hS2.out.A hS2.out.K.eok m R'
              obtain ⟨⟨ws', ks', out, err⟩, hr⟩ : ∃ r, hearS n b ws ks m = r := ⟨_, rfl⟩
              rw [hr] at hH hRf
              unfold MsgV.val at hRf
              have HS1 := Lib.hid hH; have HRf := Lib.hid hRf
              have Hbf := Lib.hid hbf
              clear hcc hbf hm hH hRf hr
              go_wp2_with fail
              refine HS1.out.mono ?_
              rintro e w4 ⟨es', ⟨v, rfl, ho, hsp, hP⟩, hK4⟩
              try dsimp only at ho
              try dsimp only at hK4
              try dsimp only at hP
              have hge := ownsRow_ge ho
              have hlt4 := row_lt ho
              have D2 := hS2.out
              have hRlt := D2.R.lt
              have hsz := hP.chg.size
              have hR4 := D2.R.beside (N' := sliceB v ++ (rd :: bL :: bW :: dirB bw bl es')) hP.chg
                (fun y hy => ⟨by simp [hy], fun e => (D2.sep rd (by simp)).2.2 (e ▸ hy), fun e => (D2.sep bL (by simp)).2.2 (e ▸ hy), fun e => (D2.sep bW (by simp)).2.2 (e ▸ hy)⟩)
                (fun y hy => by
                  rcases List.mem_append.1 hy with h | h
                  · exact .inr (hge y h)
                  · rcases List.mem_cons.1 h with h | h
                    · subst h; exact .inl (by simp)
                    rcases List.mem_cons.1 h with h | h
                    · subst h; exact .inl (by simp)
                    rcases List.mem_cons.1 h with h | h
                    · subst h; exact .inl (by simp)
                    · exact (hP.own y h).imp (fun h => by simp [h]) id)
                ⟨by simp, by simp, by simp⟩
              have hN4 : ∀ x ∈ sliceB v ++ (rd :: bL :: bW :: dirB bw bl es'), x < w4.heap.size := fun y hy => by
                rcases List.mem_append.1 hy with h | h
                · exact hlt4 y h
                · rcases List.mem_cons.1 h with h | h
                  · omega
                  rcases List.mem_cons.1 h with h | h
                  · omega
                  rcases List.mem_cons.1 h with h | h
                  · omega
                  · exact hK4.D.lt y h
              have hsep : ∀ g ∈ [rd, bL, bW], g ≠ d ∧ g ≠ bm ∧ g ∉ dirB bw bl es' := fun g hg => ⟨(D2.sep g hg).1, (D2.sep g hg).2.1, fun hm => (hP.own g hm).elim (D2.sep g hg).2.2 (fun h => by
                simp only [List.mem_cons, List.not_mem_nil, or_false] at hg
                rcases hg with h | h | h <;> omega)⟩
              have hlo : W.heap.size ≤ rd ∧ W.heap.size ≤ bL ∧ W.heap.size ≤ bW ∧ ∀ g ∈ dirB bw bl es', W.heap.size ≤ g := ⟨D2.lo.1, D2.lo.2.1, D2.lo.2.2.1, fun g hg => (hP.own g hg).elim (D2.lo.2.2.2 g) (fun h => Nat.le_trans D2.chg.size h)⟩
              have hc4 : Chg [] W w4 := D2.chg.trans' hP.chg (fun x hx hl => by have := D2.lo.2.2.2 x hx; omega)
              have hWr := D2.chg.size
              have hdm : d < w4.heap.size ∧ bm < w4.heap.size ∧ d < wr.heap.size ∧ bm < wr.heap.size := ⟨hK4.D.D.blk.lt, by obtain ⟨_, h⟩ := hK4.D.D.mem.m; exact h.lt, D2.K.D.D.blk.lt, by obtain ⟨_, h⟩ := D2.K.D.D.mem.m; exact h.lt⟩
              have hgne : ∀ g ∈ sliceB v, g ≠ d ∧ g ≠ bm ∧ g ≠ rd ∧ g ≠ bL ∧ g ≠ bW := fun g hg => by have := hge g hg; omega
              have HR4 := Lib.hid hR4; have HN4 := Lib.hid hN4; have HSEP := Lib.hid hsep; have HLO := Lib.hid hlo; have HC4 := Lib.hid hc4; have HGN := Lib.hid hgne; have HSP := Lib.hid hsp; have HO4 := Lib.hid ho; have HK4 := Lib.hid hK4; have HGE := Lib.hid hge; have HWr := Lib.hid hWr
              have HT := Lib.hid (show d ∉ [bL, bW] ∧ bm ∉ [bL, bW] from ⟨by simp; exact ⟨Ne.symm (hsep bL (by simp)).1, Ne.symm (hsep bW (by simp)).1⟩, by simp; exact ⟨Ne.symm (hsep bL (by simp)).2.1, Ne.symm (hsep bW (by simp)).2.1⟩⟩)
              clear hR4 hN4 hsep hlo hgne hsp ho hK4 hge hWr hlt4 D2 hRlt hsz hP hdm HS1 hS2 q0 q1 q2 q3 q4 q5 q6 q7 q8 q9 q10
              obtain ⟨bf2, off2, hA, hbf, hcc⟩ := (show Rd w4 w4.heap.size (some ⟨bf, off, none⟩) 11 encM l from HR2.out.chg0 hc4) (by omega)
              replace hcc := hcc jq hlq
              cases hA
              rw [HV.out] at hcc
              have q0 : w4.cell? ⟨bf, off + jq * 11, none⟩ = some (.int .i64 m.k) := by have := hcc 0 (by decide); rw [Nat.add_zero] at this; exact this
              have q1 : w4.cell? ⟨bf, off + jq * 11 + 1, none⟩ = some (.int .i64 m.c) := by have := hcc 1 (by decide); rw [← Nat.add_assoc] at this; exact this
              have q2 : w4.cell? ⟨bf, off + jq * 11 + 2, none⟩ = some (.int .i64 m.l) := by have := hcc 2 (by decide); rw [← Nat.add_assoc] at this; exact this
              have q3 : w4.cell? ⟨bf, off + jq * 11 + 3, none⟩ = some (.int .u64 m.d.x0) := by have := hcc 3 (by decide); rw [← Nat.add_assoc] at this; exact this
              have q4 : w4.cell? ⟨bf, off + jq * 11 + 4, none⟩ = some (.int .u64 m.d.x1) := by have := hcc 4 (by decide); rw [← Nat.add_assoc] at this; exact this
              have q5 : w4.cell? ⟨bf, off + jq * 11 + 5, none⟩ = some (.int .u64 m.d.x2) := by have := hcc 5 (by decide); rw [← Nat.add_assoc] at this; exact this
              have q6 : w4.cell? ⟨bf, off + jq * 11 + 6, none⟩ = some (.int .u64 m.d.x3) := by have := hcc 6 (by decide); rw [← Nat.add_assoc] at this; exact this
              have q7 : w4.cell? ⟨bf, off + jq * 11 + 7, none⟩ = some (.int .u64 m.d.x4) := by have := hcc 7 (by decide); rw [← Nat.add_assoc] at this; exact this
              have q8 : w4.cell? ⟨bf, off + jq * 11 + 8, none⟩ = some (.int .u64 m.d.x5) := by have := hcc 8 (by decide); rw [← Nat.add_assoc] at this; exact this
              have q9 : w4.cell? ⟨bf, off + jq * 11 + 9, none⟩ = some (.int .u64 m.d.x6) := by have := hcc 9 (by decide); rw [← Nat.add_assoc] at this; exact this
              have q10 : w4.cell? ⟨bf, off + jq * 11 + 10, none⟩ = some (.int .u64 m.d.x7) := by have := hcc 10 (by decide); rw [← Nat.add_assoc] at this; exact this
              clear hcc hc4
              go_wp2_with fail
              refine (HRf.out w4 _ HN4.out HR4.out).mono ?_
              rintro e w5 ⟨v5, rs', rfl, hA5, ho5, hR5, hk5, hol⟩
              try dsimp only at hA5
              try dsimp only at ho5
              try dsimp only at hR5
              try dsimp only at hol
              have hK5 := HK4.out.chgS hk5 HT.out.1 HT.out.2 (fun x hx => (HSEP.out x (by simp at hx; simp [hx])).2.2)
              have ho4 := ownsRow_chg HO4.out hk5 (fun g hg hm => by
                have hgs : g ∈ sliceB v := own_slice hg
                have := HGN.out g hgs
                simp at hm
                rcases hm with h | h <;> omega)
              have HSm := Lib.hid (same_any w5 _ d rd bL bW n capL b ws' rs' hR5 (SL_of (jq + 1) (by omega) hK5 hR5 hA5))
              have hc5 := HC4.out.trans' hk5 (fun x hx hl => by have h1 := HLO.out; simp at hx; rcases hx with h | h <;> omega)
              have HK5 := Lib.hid hK5; have HR5 := Lib.hid hR5; have HA5 := Lib.hid hA5; have HO5 := Lib.hid ho5; have HO45 := Lib.hid ho4; have HC5 := Lib.hid hc5; have HOL := Lib.hid hol
              clear hK5 hR5 hA5 ho5 ho4 hc5 hk5 hol HRf HK4 HR4 HO4 HC4 HN4 q0 q1 q2 q3 q4 q5 q6 q7 q8 q9 q10
              go_wp2_with fail
              refine HSm.out.mono ?_
              rintro e w6 ⟨rfl, hk6⟩
              have HK6 := Lib.hid hk6
              have h4r := ownsRow_chg HO45.out hk6 (by simp)
              have h5r := ownsRow_chg HO5.out hk6 (by simp)
              obtain ⟨Av, cv, rfl, hv1, hv2, hv3, hRv, hv4⟩ := Rd.of_row encM_len h4r
              obtain ⟨A5, c5, rfl, hu1, hu2, hu3, hRu, hu4⟩ := Rd.of_row encM_len h5r
              have hol := HOL.out
              have hsm := Same_any w6 Av A5 cv c5 out out (by omega) hRv hRu
              rw [decide_eq_true rfl] at hsm
              have HSa := Lib.hid hsm
              have HWw := Lib.hid (WrRow.of_row (W := W) h4r HWr.out)
              have HCV := Lib.hid (show out.length ≤ cv ∧ cv ≤ maxLen from ⟨hv1, hv2⟩)
              clear hk6 h4r h5r hv1 hv2 hv3 hRv hv4 hu1 hu2 hu3 hRu hu4 hsm hol HSm
              go_wp2_with fail
              refine HSa.out.mono ?_
              rintro e w7 ⟨rfl, hk7⟩
              have hk57 := HK6.out.trans hk7
              have HKa := Lib.hid (HK5.out.look hk57); have HRa := Lib.hid (HR5.out.look hk57); have HCa := Lib.hid (HC5.out.trans hk57); have HWa := Lib.hid (HWw.out.chg hk7)
              have hcv1 : (out.length : Int) ≤ (cv : Int) := by have := HCV.out; omega
              have hcv2 : (cv : Int) ≤ 9223372036854775807 := by have := HCV.out; unfold maxLen at this; omega
              clear hk7 hk57 HSa HK6 HK5 HR5 HC5 HWw HO5 HO45
              go_wp2_with fail
              go_loopw [20] (fun q V => ∃ jz : Nat, jz ≤ out.length ∧ q = .int .i64 jz ∧ Hid (Knows V d bm bw bl n b ws' es' ks') ∧ Hid (RDAt V (sliceB (.slice Av out.length cv) ++ (rd :: bL :: bW :: dirB bw bl es')) rd bL bW n capL b ws' rs') ∧ Hid (Chg [] W V) ∧ Hid (WrRow W V Av 33 11 out.length))
                (fun q _ => out.length - (intOf q).toNat)
              case atStart => exact ⟨0, by omega, rfl, HKa, HRa, HCa, HWa⟩
              case round =>
                obtain ⟨jz, hjz, rfl, hK, hR, hC, hWz⟩ := hrel
                by_cases hlz : jz < out.length
                · obtain ⟨g, cl, rfl, hB, hlen, hg⟩ := hWz.out (by omega)
                  have hji : (jz : Int) < out.length := by omega
                  have hgl : g < wr.heap.size := hB.lt
                  have hgs : g ∈ sliceB (.slice (some ⟨g, 0, none⟩) out.length cv) := by simp [sliceB]
                  have hln11 : jz * 11 + 11 ≤ cl.length := by omega
                  have hus : ∀ t, t < 11 → ∃ u, wr.cell? ⟨g, jz * 11 + t, none⟩ = some u := fun t ht => ⟨cl[jz * 11 + t]'(by omega), by rw [hB.cell, List.getElem?_eq_getElem]⟩
                  obtain ⟨u0, c0⟩ := hus 0 (by decide); have f0 : wr.frozen? ⟨g, jz * 11, none⟩ = false := hB.free _
                  obtain ⟨u1, c1⟩ := hus 1 (by decide); have f1 : wr.frozen? ⟨g, jz * 11 + 1, none⟩ = false := hB.free _
                  obtain ⟨u2, c2⟩ := hus 2 (by decide); have f2 : wr.frozen? ⟨g, jz * 11 + 2, none⟩ = false := hB.free _
                  obtain ⟨u3, c3⟩ := hus 3 (by decide); have f3 : wr.frozen? ⟨g, jz * 11 + 3, none⟩ = false := hB.free _
                  obtain ⟨u4, c4⟩ := hus 4 (by decide); have f4 : wr.frozen? ⟨g, jz * 11 + 4, none⟩ = false := hB.free _
                  obtain ⟨u5, c5⟩ := hus 5 (by decide); have f5 : wr.frozen? ⟨g, jz * 11 + 5, none⟩ = false := hB.free _
                  obtain ⟨u6, c6⟩ := hus 6 (by decide); have f6 : wr.frozen? ⟨g, jz * 11 + 6, none⟩ = false := hB.free _
                  obtain ⟨u7, c7⟩ := hus 7 (by decide); have f7 : wr.frozen? ⟨g, jz * 11 + 7, none⟩ = false := hB.free _
                  obtain ⟨u8, c8⟩ := hus 8 (by decide); have f8 : wr.frozen? ⟨g, jz * 11 + 8, none⟩ = false := hB.free _
                  obtain ⟨u9, c9⟩ := hus 9 (by decide); have f9 : wr.frozen? ⟨g, jz * 11 + 9, none⟩ = false := hB.free _
                  obtain ⟨u10, c10⟩ := hus 10 (by decide); have f10 : wr.frozen? ⟨g, jz * 11 + 10, none⟩ = false := hB.free _
                  rw [Nat.add_zero] at c0
                  have hk9 : Chg [g] wr (wr.setCells g (jz * 11) [.int .i64 0, .int .i64 77, .int .i64 0, .int .u64 0, .int .u64 0, .int .u64 0, .int .u64 0, .int .u64 0, .int .u64 0, .int .u64 0, .int .u64 0]) := (Chg.refl [g] wr).putAll (fun _ => List.mem_singleton.2 rfl) [.int .i64 0, .int .i64 77, .int .i64 0, .int .u64 0, .int .u64 0, .int .u64 0, .int .u64 0, .int .u64 0, .int .u64 0, .int .u64 0, .int .u64 0] _
                  have hB9 : Blk (wr.setCells g (jz * 11) [.int .i64 0, .int .i64 77, .int .i64 0, .int .u64 0, .int .u64 0, .int .u64 0, .int .u64 0, .int .u64 0, .int .u64 0, .int .u64 0, .int .u64 0]) g (setFrom cl (jz * 11) [.int .i64 0, .int .i64 77, .int .i64 0, .int .u64 0, .int .u64 0, .int .u64 0, .int .u64 0, .int .u64 0, .int .u64 0, .int .u64 0, .int .u64 0]) 33 := hB.putAll [.int .i64 0, .int .i64 77, .int .i64 0, .int .u64 0, .int .u64 0, .int .u64 0, .int .u64 0, .int .u64 0, .int .u64 0, .int .u64 0, .int .u64 0] cl (jz * 11) hln11
                  have hgn := HGN.out g hgs
                  have HK9 := Lib.hid (hK.out.chgS hk9 (fun hm => hgn.1 (List.mem_singleton.1 hm).symm) (fun hm => hgn.2.1 (List.mem_singleton.1 hm).symm) (fun x hx => by rw [List.mem_singleton.1 hx]; exact HSP.out g hgs))
                  have HR9 := Lib.hid (hR.out.beside hk9 (fun y hy => by rw [List.mem_singleton.1 hy]; exact ⟨List.mem_append_left _ hgs, hgn.2.2.1, hgn.2.2.2.1, hgn.2.2.2.2⟩) (fun y hy => .inl hy) hR.out.inN)
                  have HC9 := Lib.hid (hC.out.trans' hk9 (fun x hx hl => by rw [List.mem_singleton.1 hx] at hl; omega))
                  have HW9 : Hid (WrRow W (wr.setCells g (jz * 11) [.int .i64 0, .int .i64 77, .int .i64 0, .int .u64 0, .int .u64 0, .int .u64 0, .int .u64 0, .int .u64 0, .int .u64 0, .int .u64 0, .int .u64 0]) (some ⟨g, 0, none⟩) 33 11 out.length) := Lib.hid (fun _ => ⟨g, _, rfl, hB9, by unfold setFrom; simp; omega, hg⟩)
                  clear hk9 hB9 hgn hus hB hlen hg hgs hln11
                  go_wp2_with fail
                  go_roundw
                  case rel => exact ⟨jz + 1, by omega, by go_num, HK9, HR9, HC9, HW9⟩
                  case measure => simp [intOf]; omega
                · have hjn2 : ¬ ((jz : Int) < out.length) := by omega
                  clear hlz
                  go_wp2_with fail
                  go_roundw
                  case rel => exact ⟨jq + 1, _, _, _, _, by omega, by go_num, Lib.hid ⟨hK.out, hR.out.less (fun y hy => List.mem_append_right _ hy) ⟨by simp, by simp, by simp⟩, HA5.out, HSEP.out, HLO.out, hC.out⟩⟩
                  case measure => simp [intOf]; omega
            · have hjn2 : ¬ ((jq : Int) < l.length) := by omega
              have HSm := Lib.hid (same_any wr _ d rd bL bW n capL b ws rs hS2.out.R (SL_of jq (by omega) hS2.out.K hS2.out.R hS2.out.A))
              clear hlq
              go_wp2_with fail
              refine HSm.out.mono ?_
              rintro e w6 ⟨rfl, hk6⟩
              have HCz := Lib.hid (hS2.out.chg.trans hk6)
              clear hk6
              go_wp2_with fail
              go_ret
              exact ⟨rfl, HCz.out.nil_below⟩
end Go.Proofs.Ytepdhajgemmoiaa

