/- The closures of the chapter's examples: a Put, and what it answers. -/
import Derived.Test.YthlhjahhjoclfaaCd27
import Derived.Test.YthlhjahhjoclfaaCd30
namespace Go.Proofs.Ythlhjahhjoclfaa
set_option maxRecDepth 100000
open Go.RowKit

theorem put1_enters : ∀ (args : Array Value) (w : World), (callFunc 25 args).run Try.prog w = .ok (.enter 25 args) w := fun _ _ => by kernel_rfl
set_option maxHeartbeats 4000000 in
theorem put1_any (W : World) (hb bm : Nat) (M : List Int) (k v : Int) (hk0 : 0 ≤ k) (hk1 : k ≤ 18446744073709551615) (hv0 : 0 ≤ v) (hv1 : v ≤ 18446744073709551615) (h504 : M.length = 504) (hMok : ∀ x ∈ M, uok x) (hB : Blk W bm (M.map (Value.int .u64)) 32) (hh : Blk W hb [.slice (some ⟨bm, 0, none⟩) 504 504] 50) :
    Calls Try.prog 25 #[.int .u64 k, .int .u64 v, .pointer (some ⟨hb, 0, none⟩)] W (AnsPost W bm (hashPutL 0 1 1 k v) M) := by
  have hal : Chg [] W (W.alloc (.cells #[.int .u64 0, .int .u64 0, .int .u64 0] 54)) := (Chg.refl [] W).alloc _
  have HB := Lib.hid (hal.blk hB (by simp))
  have HH := Lib.hid (hal.blk hh (by simp))
  have HZ := Lib.hid (Blk.new W [.int .u64 0, .int .u64 0, .int .u64 0] 54)
  have HC := Lib.hid hal
  have HM5 := Lib.hid h504
  have HMk := Lib.hid hMok
  have hbl : bm < W.heap.size := hB.lt
  have hne : bm ≠ hb := hB.ne hh (by decide)
  have HNe := Lib.hid hne
  have HU := Lib.hid (useL_of (use_10 0 1 1 k v))
  clear hal hB hh h504 hMok hne
  go_enter Try.func25, Try.ntmps25
  go_wp2_with fail
  refine (HashPut_yes _ 0 1 1 k v hk0 hk1 hv0 hv1 (by decide)).mono ?_
  rintro e w1 ⟨v1, rfl, hr, hx⟩
  have hbl1 : bm < (W.alloc (.cells #[.int .u64 0, .int .u64 0, .int .u64 0] 54)).heap.size := by simp; omega
  obtain ⟨A1, c1, rfl, hA1, hAm1⟩ := row_slice (bm := bm) hr hbl1
  have HA1 := Lib.hid hA1
  have HAm1 := Lib.hid hAm1
  replace HB := Lib.hid (hx.blk HB.out (by simp))
  replace HH := Lib.hid (hx.blk HH.out (by simp))
  replace HZ := Lib.hid (hx.blk HZ.out (by simp))
  replace HC := Lib.hid (HC.out.trans hx)
  clear hr hA1 hAm1 hx hbl1
  generalize hashPutL 0 1 1 k v = L at *
  have k0 : w1.cell? ⟨hb, 0, none⟩ = some (.slice (some ⟨bm, 0, none⟩) 504 504) := HH.out.cell 0
  go_wp2_with fail
  refine (answers_504 _ A1 c1 L bm M HM5.out (Nat.le_trans HU.out.1 (by decide)) HU.out.2.2 HA1.out HAm1.out HMk.out HB.out).mono ?_
  rintro e w2 ⟨a0, a1, a2, ha, rfl, hb2, hx⟩
  have HAns := Lib.hid ha
  have HB2 := Lib.hid hb2
  have HC2 := Lib.hid ((HC.out.mono (T := [bm]) (by simp)).trans hx)
  replace HZ := Lib.hid (hx.blk HZ.out (by simp; omega))
  clear ha hb2 hx k0
  have hlz : W.heap.size < w2.heap.size := HZ.out.lt
  have z0 : w2.cell? ⟨W.heap.size, 0, none⟩ = some (.int .u64 0) := HZ.out.cell 0
  have z1 : w2.cell? ⟨W.heap.size, 1, none⟩ = some (.int .u64 0) := HZ.out.cell 1
  have z2 : w2.cell? ⟨W.heap.size, 2, none⟩ = some (.int .u64 0) := HZ.out.cell 2
  have y0 : w2.frozen? ⟨W.heap.size, 0, none⟩ = false := HZ.out.free 0
  have y1 : w2.frozen? ⟨W.heap.size, 1, none⟩ = false := HZ.out.free 1
  have y2 : w2.frozen? ⟨W.heap.size, 2, none⟩ = false := HZ.out.free 2
  have s0 := HZ.out.set 0 (.int .u64 a0)
  have s1 := s0.set 1 (.int .u64 a1)
  have s2 := s1.set 2 (.int .u64 a2)
  have c0 : (w2.setCell ⟨W.heap.size, 0, none⟩ (.int .u64 a0)).cell? ⟨W.heap.size, 0, none⟩ = some (.int .u64 a0) := s0.cell 0
  have c1 : ((w2.setCell ⟨W.heap.size, 0, none⟩ (.int .u64 a0)).setCell ⟨W.heap.size, 1, none⟩ (.int .u64 a1)).cell? ⟨W.heap.size, 1, none⟩ = some (.int .u64 a1) := s1.cell 1
  have c2 : (((w2.setCell ⟨W.heap.size, 0, none⟩ (.int .u64 a0)).setCell ⟨W.heap.size, 1, none⟩ (.int .u64 a1)).setCell ⟨W.heap.size, 2, none⟩ (.int .u64 a2)).cell? ⟨W.heap.size, 2, none⟩ = some (.int .u64 a2) := s2.cell 2
  have HS := And.intro (Lib.hid c0) (And.intro (Lib.hid c1) (Lib.hid c2))
  clear s0 s1 s2 c0 c1 c2
  go_wp2_with fail
  refine bodyPost_ret (v := .agg #[.int .u64 a0, .int .u64 a1, .int .u64 a2]) ?_ rfl ⟨a0, a1, a2, HAns.out, rfl, ?_, ?_⟩
  · simp [results, Try.results25, go_sem, HS.1.out, HS.2.1.out, HS.2.2.out, hlz]
  · have hy : W.heap.size ≠ bm := by omega
    exact ((HB2.out.other (a := ⟨W.heap.size, 0, none⟩) hy _).other (a := ⟨W.heap.size, 1, none⟩) hy _).other (a := ⟨W.heap.size, 2, none⟩) hy _
  · have h2 := HC2.out
    have hb2 : ¬ W.heap.size < W.heap.size := by omega
    repeat (first | with_reducible exact h2 | with_reducible refine Chg.setCell ?_ (fun h => absurd h hb2) _ | with_reducible refine Chg.alloc ?_ _)

theorem tie1_enters : ∀ (args : Array Value) (w : World), (callFunc 29 args).run Try.prog w = .ok (.enter 29 args) w := fun _ _ => by kernel_rfl
set_option maxHeartbeats 4000000 in
theorem tie1_any (W : World) (hb bm : Nat) (M : List Int) (k v : Int) (hk0 : 0 ≤ k) (hk1 : k ≤ 18446744073709551615) (hv0 : 0 ≤ v) (hv1 : v ≤ 18446744073709551615) (h504 : M.length = 504) (hMok : ∀ x ∈ M, uok x) (hB : Blk W bm (M.map (Value.int .u64)) 32) (hh : Blk W hb [.slice (some ⟨bm, 0, none⟩) 504 504] 50) :
    Calls Try.prog 29 #[.int .u64 k, .int .u64 v, .pointer (some ⟨hb, 0, none⟩)] W (AnsPost W bm (treePutL 0 3 k v) M) := by
  have hal : Chg [] W (W.alloc (.cells #[.int .u64 0, .int .u64 0, .int .u64 0] 54)) := (Chg.refl [] W).alloc _
  have HB := Lib.hid (hal.blk hB (by simp))
  have HH := Lib.hid (hal.blk hh (by simp))
  have HZ := Lib.hid (Blk.new W [.int .u64 0, .int .u64 0, .int .u64 0] 54)
  have HC := Lib.hid hal
  have HM5 := Lib.hid h504
  have HMk := Lib.hid hMok
  have hbl : bm < W.heap.size := hB.lt
  have hne : bm ≠ hb := hB.ne hh (by decide)
  have HNe := Lib.hid hne
  have HU := Lib.hid (useL_of (use_20 0 0 3 k v))
  clear hal hB hh h504 hMok hne
  go_enter Try.func29, Try.ntmps29
  go_wp2_with fail
  refine (TreePut_yes _ 0 3 k v hk0 hk1 hv0 hv1 (by decide)).mono ?_
  rintro e w1 ⟨v1, rfl, hr, hx⟩
  have hbl1 : bm < (W.alloc (.cells #[.int .u64 0, .int .u64 0, .int .u64 0] 54)).heap.size := by simp; omega
  obtain ⟨A1, c1, rfl, hA1, hAm1⟩ := row_slice (bm := bm) hr hbl1
  have HA1 := Lib.hid hA1
  have HAm1 := Lib.hid hAm1
  replace HB := Lib.hid (hx.blk HB.out (by simp))
  replace HH := Lib.hid (hx.blk HH.out (by simp))
  replace HZ := Lib.hid (hx.blk HZ.out (by simp))
  replace HC := Lib.hid (HC.out.trans hx)
  clear hr hA1 hAm1 hx hbl1
  generalize treePutL 0 3 k v = L at *
  have k0 : w1.cell? ⟨hb, 0, none⟩ = some (.slice (some ⟨bm, 0, none⟩) 504 504) := HH.out.cell 0
  go_wp2_with fail
  refine (answers_504 _ A1 c1 L bm M HM5.out (Nat.le_trans HU.out.1 (by decide)) HU.out.2.2 HA1.out HAm1.out HMk.out HB.out).mono ?_
  rintro e w2 ⟨a0, a1, a2, ha, rfl, hb2, hx⟩
  have HAns := Lib.hid ha
  have HB2 := Lib.hid hb2
  have HC2 := Lib.hid ((HC.out.mono (T := [bm]) (by simp)).trans hx)
  replace HZ := Lib.hid (hx.blk HZ.out (by simp; omega))
  clear ha hb2 hx k0
  have hlz : W.heap.size < w2.heap.size := HZ.out.lt
  have z0 : w2.cell? ⟨W.heap.size, 0, none⟩ = some (.int .u64 0) := HZ.out.cell 0
  have z1 : w2.cell? ⟨W.heap.size, 1, none⟩ = some (.int .u64 0) := HZ.out.cell 1
  have z2 : w2.cell? ⟨W.heap.size, 2, none⟩ = some (.int .u64 0) := HZ.out.cell 2
  have y0 : w2.frozen? ⟨W.heap.size, 0, none⟩ = false := HZ.out.free 0
  have y1 : w2.frozen? ⟨W.heap.size, 1, none⟩ = false := HZ.out.free 1
  have y2 : w2.frozen? ⟨W.heap.size, 2, none⟩ = false := HZ.out.free 2
  have s0 := HZ.out.set 0 (.int .u64 a0)
  have s1 := s0.set 1 (.int .u64 a1)
  have s2 := s1.set 2 (.int .u64 a2)
  have c0 : (w2.setCell ⟨W.heap.size, 0, none⟩ (.int .u64 a0)).cell? ⟨W.heap.size, 0, none⟩ = some (.int .u64 a0) := s0.cell 0
  have c1 : ((w2.setCell ⟨W.heap.size, 0, none⟩ (.int .u64 a0)).setCell ⟨W.heap.size, 1, none⟩ (.int .u64 a1)).cell? ⟨W.heap.size, 1, none⟩ = some (.int .u64 a1) := s1.cell 1
  have c2 : (((w2.setCell ⟨W.heap.size, 0, none⟩ (.int .u64 a0)).setCell ⟨W.heap.size, 1, none⟩ (.int .u64 a1)).setCell ⟨W.heap.size, 2, none⟩ (.int .u64 a2)).cell? ⟨W.heap.size, 2, none⟩ = some (.int .u64 a2) := s2.cell 2
  have HS := And.intro (Lib.hid c0) (And.intro (Lib.hid c1) (Lib.hid c2))
  clear s0 s1 s2 c0 c1 c2
  go_wp2_with fail
  refine bodyPost_ret (v := .agg #[.int .u64 a0, .int .u64 a1, .int .u64 a2]) ?_ rfl ⟨a0, a1, a2, HAns.out, rfl, ?_, ?_⟩
  · simp [results, Try.results29, go_sem, HS.1.out, HS.2.1.out, HS.2.2.out, hlz]
  · have hy : W.heap.size ≠ bm := by omega
    exact ((HB2.out.other (a := ⟨W.heap.size, 0, none⟩) hy _).other (a := ⟨W.heap.size, 1, none⟩) hy _).other (a := ⟨W.heap.size, 2, none⟩) hy _
  · have h2 := HC2.out
    have hb2 : ¬ W.heap.size < W.heap.size := by omega
    repeat (first | with_reducible exact h2 | with_reducible refine Chg.setCell ?_ (fun h => absurd h hb2) _ | with_reducible refine Chg.alloc ?_ _)

end Go.Proofs.Ythlhjahhjoclfaa
