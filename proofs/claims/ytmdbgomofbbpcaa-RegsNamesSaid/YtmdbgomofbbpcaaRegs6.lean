/- A call on a file and on the document's: they answer alike, and stand alike. -/
import Derived.Test.YtmdbgomofbbpcaaRegs5
namespace Go.Proofs.Ytmdbgomofbbpcaa
open Go.RowKit

def fDo (F : RF) (k n v : Int) : RF := if k = 0 then fSet F n v else if k = 1 then fJump F n else if k = 2 then fSave F else if k = 3 then fRestore F else if k = 4 then fDrop F else F

def DoPost (w : World) (a b : Nat) (F : RF) (k n v : Int) (e : Ending) (w' : World) : Prop :=
  e = .returned (.bool true) ∧ FileAt w' a (fDo F k n v) ∧ RefAt w' b (fDo F k n v) ∧ Chg [a, b] w w'

theorem DoPost.mk' {w w' : World} {a b : Nat} {F G : RF} {k n v : Int} (hg : fDo F k n v = G) (h1 : FileAt w' a G) (h2 : RefAt w' b G) (h3 : Chg [a, b] w w') : DoPost w a b F k n v (.returned (.bool true)) w' := by
  subst hg
  exact ⟨rfl, h1, h2, h3⟩

set_option maxRecDepth 100000 in
set_option maxHeartbeats 4000000 in
theorem do_0 (w : World) (a b : Nat) (F : RF) (n v : Int) (hn : n ≤ 9223372036854775807) (hF : FileAt w a F) (hR : RefAt w b F) (hab : a ≠ b) :
    Calls Try.prog 10 #[.pointer (some ⟨a, 0, none⟩), .pointer (some ⟨b, 0, none⟩), .agg #[.int .i64 0, .int .i64 n, .int .u64 v]] w (DoPost w a b F 0 n v) := by
  have e0 : fDo F 0 n v = fSet F n v := rfl
  have E0 := Lib.hid e0
  clear e0
  have hba := hab.symm
  have hla := hF.lt
  have hlb := hR.lt
  have kb := Blk.new w [.int .i64 0, .int .i64 n, .int .u64 v] 32
  have hC := (Chg.refl [] w).alloc (.cells #[.int .i64 0, .int .i64 n, .int .u64 v] 32)
  have hF := hF.alloc (.cells #[.int .i64 0, .int .i64 n, .int .u64 v] 32)
  have hR := hR.alloc (.cells #[.int .i64 0, .int .i64 n, .int .u64 v] 32)
  have na : w.heap.size ∉ [a] := by simp; omega
  have nb : w.heap.size ∉ [b] := by simp; omega
  clear hla hlb
  go_enter Try.func10, Try.ntmps10
  go_wp2_with fail
  generalize w.alloc (.cells #[.int .i64 0, .int .i64 n, .int .u64 v] 32) = W at *
  generalize w.heap.size = box at *
  have k0 : W.cell? ⟨box, 0, none⟩ = some (.int .i64 0) := kb.cell 0
  have k1 : W.cell? ⟨box, 1, none⟩ = some (.int .i64 n) := kb.cell 1
  have k2 : W.cell? ⟨box, 2, none⟩ = some (.int .u64 v) := kb.cell 2

  go_region_held3 (fun w' => w'.cell? ⟨box, 1, none⟩ = some (.int .i64 n) ∧ w'.cell? ⟨box, 2, none⟩ = some (.int .u64 v)) (first | exact ⟨kb.cell 1, kb.cell 2⟩ | exact ⟨(hC2.blk (hC1.blk kb.drew na) nb).cell 1, (hC2.blk (hC1.blk kb.drew na) nb).cell 2⟩ | exact ⟨(hC1.blk (hC2.blk kb.drew nb) na).cell 1, (hC1.blk (hC2.blk kb.drew nb) na).cell 2⟩ | exact ⟨(hC1.blk kb.drew na).cell 1, (hC1.blk kb.drew na).cell 2⟩ | exact ⟨(hC2.blk kb.drew nb).cell 1, (hC2.blk kb.drew nb).cell 2⟩)
    (first
      | (go_at_call 15; refine (Set_any _ a F n v (by first | exact hF.drew | exact hF.drew.chg1 hC2 hR.drew.blk hab (by decide))).mono ?_; rintro e w1 ⟨rfl, hF1, hC1⟩)
      | (go_at_call 23; refine (rSet_any _ b F n v (by first | exact hR.drew | exact hR.drew.chg hC1 (by simpa using hba))).mono ?_; rintro e w2 ⟨rfl, hR2, hC2⟩))
  all_goals
    go_wp2_with fail
    go_ret
    first
      | exact DoPost.mk' E0.out hF1 (hR2.chg hC1 (by simpa using hba)) (((hC.drew.mono (by simp)).trans' hC2 (by simp)).trans' hC1 (by simp))
      | exact DoPost.mk' E0.out (hF1.chg1 hC2 (hC1.blk hR.drew.blk (by simpa using hba)) hab (by decide)) hR2 (((hC.drew.mono (by simp)).trans' hC1 (by simp)).trans' hC2 (by simp))

set_option maxRecDepth 100000 in
set_option maxHeartbeats 4000000 in
theorem do_1 (w : World) (a b : Nat) (F : RF) (n v : Int) (hn : n ≤ 9223372036854775807) (hF : FileAt w a F) (hR : RefAt w b F) (hab : a ≠ b) :
    Calls Try.prog 10 #[.pointer (some ⟨a, 0, none⟩), .pointer (some ⟨b, 0, none⟩), .agg #[.int .i64 1, .int .i64 n, .int .u64 v]] w (DoPost w a b F 1 n v) := by
  have e0 : fDo F 1 n v = fJump F n := rfl
  have E0 := Lib.hid e0
  clear e0
  have hba := hab.symm
  have hla := hF.lt
  have hlb := hR.lt
  have kb := Blk.new w [.int .i64 1, .int .i64 n, .int .u64 v] 32
  have hC := (Chg.refl [] w).alloc (.cells #[.int .i64 1, .int .i64 n, .int .u64 v] 32)
  have hF := hF.alloc (.cells #[.int .i64 1, .int .i64 n, .int .u64 v] 32)
  have hR := hR.alloc (.cells #[.int .i64 1, .int .i64 n, .int .u64 v] 32)
  have na : w.heap.size ∉ [a] := by simp; omega
  have nb : w.heap.size ∉ [b] := by simp; omega
  clear hla hlb
  go_enter Try.func10, Try.ntmps10
  go_wp2_with fail
  generalize w.alloc (.cells #[.int .i64 1, .int .i64 n, .int .u64 v] 32) = W at *
  generalize w.heap.size = box at *
  have k0 : W.cell? ⟨box, 0, none⟩ = some (.int .i64 1) := kb.cell 0
  have k1 : W.cell? ⟨box, 1, none⟩ = some (.int .i64 n) := kb.cell 1
  have k2 : W.cell? ⟨box, 2, none⟩ = some (.int .u64 v) := kb.cell 2

  go_region_held3 (fun w' => w'.cell? ⟨box, 1, none⟩ = some (.int .i64 n)) (first | exact kb.cell 1 | exact (hC2.blk (hC1.blk kb.drew na) nb).cell 1 | exact (hC1.blk (hC2.blk kb.drew nb) na).cell 1 | exact (hC1.blk kb.drew na).cell 1 | exact (hC2.blk kb.drew nb).cell 1)
    (first
      | (go_at_call 17; refine (Jump_any _ a F n hn (by first | exact hF.drew | exact hF.drew.chg1 hC2 hR.drew.blk hab (by decide))).mono ?_; rintro e w1 ⟨rfl, hF1, hC1⟩)
      | (go_at_call 24; refine (rJump_any _ b F n hn (by first | exact hR.drew | exact hR.drew.chg hC1 (by simpa using hba))).mono ?_; rintro e w2 ⟨rfl, hR2, hC2⟩))
  all_goals
    go_wp2_with fail
    go_ret
    first
      | exact DoPost.mk' E0.out hF1 (hR2.chg hC1 (by simpa using hba)) (((hC.drew.mono (by simp)).trans' hC2 (by simp)).trans' hC1 (by simp))
      | exact DoPost.mk' E0.out (hF1.chg1 hC2 (hC1.blk hR.drew.blk (by simpa using hba)) hab (by decide)) hR2 (((hC.drew.mono (by simp)).trans' hC1 (by simp)).trans' hC2 (by simp))

set_option maxRecDepth 100000 in
set_option maxHeartbeats 4000000 in
theorem do_2 (w : World) (a b : Nat) (F : RF) (n v : Int) (hn : n ≤ 9223372036854775807) (hF : FileAt w a F) (hR : RefAt w b F) (hab : a ≠ b) :
    Calls Try.prog 10 #[.pointer (some ⟨a, 0, none⟩), .pointer (some ⟨b, 0, none⟩), .agg #[.int .i64 2, .int .i64 n, .int .u64 v]] w (DoPost w a b F 2 n v) := by
  have e0 : fDo F 2 n v = fSave F := rfl
  have E0 := Lib.hid e0
  clear e0
  have hba := hab.symm
  have hla := hF.lt
  have hlb := hR.lt
  have kb := Blk.new w [.int .i64 2, .int .i64 n, .int .u64 v] 32
  have hC := (Chg.refl [] w).alloc (.cells #[.int .i64 2, .int .i64 n, .int .u64 v] 32)
  have hF := hF.alloc (.cells #[.int .i64 2, .int .i64 n, .int .u64 v] 32)
  have hR := hR.alloc (.cells #[.int .i64 2, .int .i64 n, .int .u64 v] 32)
  have na : w.heap.size ∉ [a] := by simp; omega
  have nb : w.heap.size ∉ [b] := by simp; omega
  clear hla hlb
  go_enter Try.func10, Try.ntmps10
  go_wp2_with fail
  generalize w.alloc (.cells #[.int .i64 2, .int .i64 n, .int .u64 v] 32) = W at *
  generalize w.heap.size = box at *
  have k0 : W.cell? ⟨box, 0, none⟩ = some (.int .i64 2) := kb.cell 0
  have k1 : W.cell? ⟨box, 1, none⟩ = some (.int .i64 n) := kb.cell 1
  have k2 : W.cell? ⟨box, 2, none⟩ = some (.int .u64 v) := kb.cell 2
  clear k0 k1 k2

  refine (Save_any _ a F hF).mono ?_
  rintro e w1 ⟨rfl, hF1, hC1⟩
  have hR1 := hR.chg hC1 (by simpa using hba)
  go_wp2_with fail
  refine (rSave_any _ b F hR1).mono ?_
  rintro e w2 ⟨rfl, hR2, hC2⟩
  have hF2 := hF1.chg1 hC2 hR1.blk hab (by decide)
  go_wp2_with fail
  go_ret
  exact DoPost.mk' E0.out hF2 hR2 (((hC.mono (by simp)).trans' hC1 (by simp)).trans' hC2 (by simp))

set_option maxRecDepth 100000 in
set_option maxHeartbeats 4000000 in
theorem do_3 (w : World) (a b : Nat) (F : RF) (n v : Int) (hn : n ≤ 9223372036854775807) (hF : FileAt w a F) (hR : RefAt w b F) (hab : a ≠ b) :
    Calls Try.prog 10 #[.pointer (some ⟨a, 0, none⟩), .pointer (some ⟨b, 0, none⟩), .agg #[.int .i64 3, .int .i64 n, .int .u64 v]] w (DoPost w a b F 3 n v) := by
  have e0 : fDo F 3 n v = fRestore F := rfl
  have E0 := Lib.hid e0
  clear e0
  have hba := hab.symm
  have hla := hF.lt
  have hlb := hR.lt
  have kb := Blk.new w [.int .i64 3, .int .i64 n, .int .u64 v] 32
  have hC := (Chg.refl [] w).alloc (.cells #[.int .i64 3, .int .i64 n, .int .u64 v] 32)
  have hF := hF.alloc (.cells #[.int .i64 3, .int .i64 n, .int .u64 v] 32)
  have hR := hR.alloc (.cells #[.int .i64 3, .int .i64 n, .int .u64 v] 32)
  have na : w.heap.size ∉ [a] := by simp; omega
  have nb : w.heap.size ∉ [b] := by simp; omega
  clear hla hlb
  go_enter Try.func10, Try.ntmps10
  go_wp2_with fail
  generalize w.alloc (.cells #[.int .i64 3, .int .i64 n, .int .u64 v] 32) = W at *
  generalize w.heap.size = box at *
  have k0 : W.cell? ⟨box, 0, none⟩ = some (.int .i64 3) := kb.cell 0
  have k1 : W.cell? ⟨box, 1, none⟩ = some (.int .i64 n) := kb.cell 1
  have k2 : W.cell? ⟨box, 2, none⟩ = some (.int .u64 v) := kb.cell 2
  clear k0 k1 k2

  refine (Restore_any _ a F hF).mono ?_
  rintro e w1 ⟨rfl, hF1, hC1⟩
  have hR1 := hR.chg hC1 (by simpa using hba)
  go_wp2_with fail
  refine (rRestore_any _ b F hR1).mono ?_
  rintro e w2 ⟨rfl, hR2, hC2⟩
  have hF2 := hF1.chg1 hC2 hR1.blk hab (by decide)
  go_wp2_with fail
  go_ret
  exact DoPost.mk' E0.out hF2 hR2 (((hC.mono (by simp)).trans' hC1 (by simp)).trans' hC2 (by simp))

set_option maxRecDepth 100000 in
set_option maxHeartbeats 4000000 in
theorem do_4 (w : World) (a b : Nat) (F : RF) (n v : Int) (hn : n ≤ 9223372036854775807) (hF : FileAt w a F) (hR : RefAt w b F) (hab : a ≠ b) :
    Calls Try.prog 10 #[.pointer (some ⟨a, 0, none⟩), .pointer (some ⟨b, 0, none⟩), .agg #[.int .i64 4, .int .i64 n, .int .u64 v]] w (DoPost w a b F 4 n v) := by
  have e0 : fDo F 4 n v = fDrop F := rfl
  have E0 := Lib.hid e0
  clear e0
  have hba := hab.symm
  have hla := hF.lt
  have hlb := hR.lt
  have kb := Blk.new w [.int .i64 4, .int .i64 n, .int .u64 v] 32
  have hC := (Chg.refl [] w).alloc (.cells #[.int .i64 4, .int .i64 n, .int .u64 v] 32)
  have hF := hF.alloc (.cells #[.int .i64 4, .int .i64 n, .int .u64 v] 32)
  have hR := hR.alloc (.cells #[.int .i64 4, .int .i64 n, .int .u64 v] 32)
  have na : w.heap.size ∉ [a] := by simp; omega
  have nb : w.heap.size ∉ [b] := by simp; omega
  clear hla hlb
  go_enter Try.func10, Try.ntmps10
  go_wp2_with fail
  generalize w.alloc (.cells #[.int .i64 4, .int .i64 n, .int .u64 v] 32) = W at *
  generalize w.heap.size = box at *
  have k0 : W.cell? ⟨box, 0, none⟩ = some (.int .i64 4) := kb.cell 0
  have k1 : W.cell? ⟨box, 1, none⟩ = some (.int .i64 n) := kb.cell 1
  have k2 : W.cell? ⟨box, 2, none⟩ = some (.int .u64 v) := kb.cell 2
  clear k0 k1 k2

  refine (Drop_any _ a F hF).mono ?_
  rintro e w1 ⟨rfl, hF1, hC1⟩
  have hR1 := hR.chg hC1 (by simpa using hba)
  go_wp2_with fail
  refine (rDrop_any _ b F hR1).mono ?_
  rintro e w2 ⟨rfl, hR2, hC2⟩
  have hF2 := hF1.chg1 hC2 hR1.blk hab (by decide)
  go_wp2_with fail
  go_ret
  exact DoPost.mk' E0.out hF2 hR2 (((hC.mono (by simp)).trans' hC1 (by simp)).trans' hC2 (by simp))

set_option maxRecDepth 100000 in
set_option maxHeartbeats 4000000 in
theorem do_5 (w : World) (a b : Nat) (F : RF) (n v : Int) (hn : n ≤ 9223372036854775807) (hF : FileAt w a F) (hR : RefAt w b F) (hab : a ≠ b) :
    Calls Try.prog 10 #[.pointer (some ⟨a, 0, none⟩), .pointer (some ⟨b, 0, none⟩), .agg #[.int .i64 5, .int .i64 n, .int .u64 v]] w (DoPost w a b F 5 n v) := by
  have e0 : fDo F 5 n v = F := rfl
  have E0 := Lib.hid e0
  clear e0
  have hba := hab.symm
  have hla := hF.lt
  have hlb := hR.lt
  have kb := Blk.new w [.int .i64 5, .int .i64 n, .int .u64 v] 32
  have hC := (Chg.refl [] w).alloc (.cells #[.int .i64 5, .int .i64 n, .int .u64 v] 32)
  have hF := hF.alloc (.cells #[.int .i64 5, .int .i64 n, .int .u64 v] 32)
  have hR := hR.alloc (.cells #[.int .i64 5, .int .i64 n, .int .u64 v] 32)
  have na : w.heap.size ∉ [a] := by simp; omega
  have nb : w.heap.size ∉ [b] := by simp; omega
  clear hla hlb
  go_enter Try.func10, Try.ntmps10
  go_wp2_with fail
  generalize w.alloc (.cells #[.int .i64 5, .int .i64 n, .int .u64 v] 32) = W at *
  generalize w.heap.size = box at *
  have k0 : W.cell? ⟨box, 0, none⟩ = some (.int .i64 5) := kb.cell 0
  have k1 : W.cell? ⟨box, 1, none⟩ = some (.int .i64 n) := kb.cell 1
  have k2 : W.cell? ⟨box, 2, none⟩ = some (.int .u64 v) := kb.cell 2

  refine (Get_any _ a F n hF).mono ?_
  rintro e w1 ⟨rfl, rfl⟩
  go_wp2_with fail
  refine (rGet_any _ b F n hR).mono ?_
  rintro e w2 ⟨rfl, rfl⟩
  go_wp2_with fail
  go_ret
  exact DoPost.mk' E0.out hF hR (hC.mono (by simp))

set_option maxRecDepth 100000 in
set_option maxHeartbeats 4000000 in
theorem do_6 (w : World) (a b : Nat) (F : RF) (n v : Int) (hn : n ≤ 9223372036854775807) (hF : FileAt w a F) (hR : RefAt w b F) (hab : a ≠ b) :
    Calls Try.prog 10 #[.pointer (some ⟨a, 0, none⟩), .pointer (some ⟨b, 0, none⟩), .agg #[.int .i64 6, .int .i64 n, .int .u64 v]] w (DoPost w a b F 6 n v) := by
  have e0 : fDo F 6 n v = F := rfl
  have E0 := Lib.hid e0
  clear e0
  have hba := hab.symm
  have hla := hF.lt
  have hlb := hR.lt
  have kb := Blk.new w [.int .i64 6, .int .i64 n, .int .u64 v] 32
  have hC := (Chg.refl [] w).alloc (.cells #[.int .i64 6, .int .i64 n, .int .u64 v] 32)
  have hF := hF.alloc (.cells #[.int .i64 6, .int .i64 n, .int .u64 v] 32)
  have hR := hR.alloc (.cells #[.int .i64 6, .int .i64 n, .int .u64 v] 32)
  have na : w.heap.size ∉ [a] := by simp; omega
  have nb : w.heap.size ∉ [b] := by simp; omega
  clear hla hlb
  go_enter Try.func10, Try.ntmps10
  go_wp2_with fail
  generalize w.alloc (.cells #[.int .i64 6, .int .i64 n, .int .u64 v] 32) = W at *
  generalize w.heap.size = box at *
  have k0 : W.cell? ⟨box, 0, none⟩ = some (.int .i64 6) := kb.cell 0
  have k1 : W.cell? ⟨box, 1, none⟩ = some (.int .i64 n) := kb.cell 1
  have k2 : W.cell? ⟨box, 2, none⟩ = some (.int .u64 v) := kb.cell 2

  obtain ⟨rs, pc, is, ps, to⟩ := F
  obtain ⟨r0, r1, r2, r3, r4, r5, r6, r7, rfl⟩ := eight hF.ok.len
  obtain ⟨p0, p1, p2, p3, p4, p5, p6, p7, rfl⟩ := eight hF.ok.plen
  have kr := hR.blk
  have hq := eq_regs
  have q := eqInts_self [r0, r1, r2, r3, r4, r5, r6, r7]
  go_region_held3 (fun w' => w'.cell? ⟨b, 0, none⟩ = some (.int .u64 r0) ∧ w'.cell? ⟨b, 1, none⟩ = some (.int .u64 r1) ∧ w'.cell? ⟨b, 2, none⟩ = some (.int .u64 r2) ∧ w'.cell? ⟨b, 3, none⟩ = some (.int .u64 r3) ∧ w'.cell? ⟨b, 4, none⟩ = some (.int .u64 r4) ∧ w'.cell? ⟨b, 5, none⟩ = some (.int .u64 r5) ∧ w'.cell? ⟨b, 6, none⟩ = some (.int .u64 r6) ∧ w'.cell? ⟨b, 7, none⟩ = some (.int .u64 r7)) (first | exact ⟨kr.cell 0, kr.cell 1, kr.cell 2, kr.cell 3, kr.cell 4, kr.cell 5, kr.cell 6, kr.cell 7⟩ | exact ⟨(hC1.blk kr.drew (by simp)).cell 0, (hC1.blk kr.drew (by simp)).cell 1, (hC1.blk kr.drew (by simp)).cell 2, (hC1.blk kr.drew (by simp)).cell 3, (hC1.blk kr.drew (by simp)).cell 4, (hC1.blk kr.drew (by simp)).cell 5, (hC1.blk kr.drew (by simp)).cell 6, (hC1.blk kr.drew (by simp)).cell 7⟩)
    (first
      | (go_at_call 19; refine (All_any _ a _ hF.drew).mono ?_; rintro e w1 ⟨rfl, hC1⟩; simp only [u64s, List.map_cons, List.map_nil]))
  go_wp2_with fail
  go_ret
  exact DoPost.mk' E0.out (hF.drew.chg hC1 (by simp) (by simp)) (hR.drew.chg hC1 (by simp)) ((hC.drew.mono (by simp)).trans' hC1 (by simp))

set_option maxRecDepth 100000 in
set_option maxHeartbeats 4000000 in
theorem do_7 (w : World) (a b : Nat) (F : RF) (n v : Int) (hn : n ≤ 9223372036854775807) (hF : FileAt w a F) (hR : RefAt w b F) (hab : a ≠ b) :
    Calls Try.prog 10 #[.pointer (some ⟨a, 0, none⟩), .pointer (some ⟨b, 0, none⟩), .agg #[.int .i64 7, .int .i64 n, .int .u64 v]] w (DoPost w a b F 7 n v) := by
  have e0 : fDo F 7 n v = F := rfl
  have E0 := Lib.hid e0
  clear e0
  have hba := hab.symm
  have hla := hF.lt
  have hlb := hR.lt
  have kb := Blk.new w [.int .i64 7, .int .i64 n, .int .u64 v] 32
  have hC := (Chg.refl [] w).alloc (.cells #[.int .i64 7, .int .i64 n, .int .u64 v] 32)
  have hF := hF.alloc (.cells #[.int .i64 7, .int .i64 n, .int .u64 v] 32)
  have hR := hR.alloc (.cells #[.int .i64 7, .int .i64 n, .int .u64 v] 32)
  have na : w.heap.size ∉ [a] := by simp; omega
  have nb : w.heap.size ∉ [b] := by simp; omega
  clear hla hlb
  go_enter Try.func10, Try.ntmps10
  go_wp2_with fail
  generalize w.alloc (.cells #[.int .i64 7, .int .i64 n, .int .u64 v] 32) = W at *
  generalize w.heap.size = box at *
  have k0 : W.cell? ⟨box, 0, none⟩ = some (.int .i64 7) := kb.cell 0
  have k1 : W.cell? ⟨box, 1, none⟩ = some (.int .i64 n) := kb.cell 1
  have k2 : W.cell? ⟨box, 2, none⟩ = some (.int .u64 v) := kb.cell 2

  have kr := hR.blk
  have hl := hR.ok.len
  have c8 : ∀ W' : World, W'.heap = W.heap → W'.cell? ⟨b, 8, none⟩ = some (.int .i64 F.pc) := fun W' e => by
    have kr' : Blk W' b _ _ := (congrArg (·[b]?) e).trans kr
    rw [kr'.cell, List.getElem?_append_right (by simp [hl])]; simp [hl]
  clear kr hl
  go_region_held3 (fun w' => w'.cell? ⟨b, 8, none⟩ = some (.int .i64 F.pc)) (exact c8 _ rfl)
    (first
      | (go_at_call 20; refine (PC_any _ a _ hF.drew).mono ?_; rintro e w1 ⟨rfl, rfl⟩))
  go_wp2_with fail
  go_ret
  exact DoPost.mk' E0.out hF.drew hR.drew (hC.drew.mono (by simp))

set_option maxRecDepth 100000 in
set_option maxHeartbeats 4000000 in
theorem do_8 (w : World) (a b : Nat) (F : RF) (n v : Int) (hn : n ≤ 9223372036854775807) (hF : FileAt w a F) (hR : RefAt w b F) (hab : a ≠ b) :
    Calls Try.prog 10 #[.pointer (some ⟨a, 0, none⟩), .pointer (some ⟨b, 0, none⟩), .agg #[.int .i64 8, .int .i64 n, .int .u64 v]] w (DoPost w a b F 8 n v) := by
  have e0 : fDo F 8 n v = F := rfl
  have E0 := Lib.hid e0
  clear e0
  have hba := hab.symm
  have hla := hF.lt
  have hlb := hR.lt
  have kb := Blk.new w [.int .i64 8, .int .i64 n, .int .u64 v] 32
  have hC := (Chg.refl [] w).alloc (.cells #[.int .i64 8, .int .i64 n, .int .u64 v] 32)
  have hF := hF.alloc (.cells #[.int .i64 8, .int .i64 n, .int .u64 v] 32)
  have hR := hR.alloc (.cells #[.int .i64 8, .int .i64 n, .int .u64 v] 32)
  have na : w.heap.size ∉ [a] := by simp; omega
  have nb : w.heap.size ∉ [b] := by simp; omega
  clear hla hlb
  go_enter Try.func10, Try.ntmps10
  go_wp2_with fail
  generalize w.alloc (.cells #[.int .i64 8, .int .i64 n, .int .u64 v] 32) = W at *
  generalize w.heap.size = box at *
  have k0 : W.cell? ⟨box, 0, none⟩ = some (.int .i64 8) := kb.cell 0
  have k1 : W.cell? ⟨box, 1, none⟩ = some (.int .i64 n) := kb.cell 1
  have k2 : W.cell? ⟨box, 2, none⟩ = some (.int .u64 v) := kb.cell 2

  obtain ⟨rs, pc, is, ps, to⟩ := F
  obtain ⟨r0, r1, r2, r3, r4, r5, r6, r7, rfl⟩ := eight hF.ok.len
  obtain ⟨p0, p1, p2, p3, p4, p5, p6, p7, rfl⟩ := eight hF.ok.plen
  have kr := hR.blk
  refine (Point_any _ a _ hF).mono ?_
  rintro e w1 ⟨rfl, hC1⟩
  simp only [u64s, List.map_cons, List.map_nil]
  have hF := hF.chg hC1 (by simp) (by simp)
  have hR := hR.chg hC1 (by simp)
  have hC := hC.trans hC1
  have hq := fun W => eq_regs W p0 p1 p2 p3 p4 p5 p6 p7 p0 p1 p2 p3 p4 p5 p6 p7
  have q := eqInts_self [p0, p1, p2, p3, p4, p5, p6, p7]
  have kr := hR.blk
  have hlb := hR.lt
  have c9 : w1.cell? ⟨b, 9, none⟩ = some (.bool is) := kr.cell 9
  have c10 : w1.cell? ⟨b, 10, none⟩ = some (.int .u64 p0) := kr.cell 10
  have c11 : w1.cell? ⟨b, 11, none⟩ = some (.int .u64 p1) := kr.cell 11
  have c12 : w1.cell? ⟨b, 12, none⟩ = some (.int .u64 p2) := kr.cell 12
  have c13 : w1.cell? ⟨b, 13, none⟩ = some (.int .u64 p3) := kr.cell 13
  have c14 : w1.cell? ⟨b, 14, none⟩ = some (.int .u64 p4) := kr.cell 14
  have c15 : w1.cell? ⟨b, 15, none⟩ = some (.int .u64 p5) := kr.cell 15
  have c16 : w1.cell? ⟨b, 16, none⟩ = some (.int .u64 p6) := kr.cell 16
  have c17 : w1.cell? ⟨b, 17, none⟩ = some (.int .u64 p7) := kr.cell 17
  have c18 : w1.cell? ⟨b, 18, none⟩ = some (.int .i64 to) := kr.cell 18
  have HC := Lib.hid hC
  have HF := Lib.hid hF
  have HR := Lib.hid hR
  clear hF hR kr hC hC1 k0 k1 k2 kb na nb
  go_wp2_with fail
  go_quiet (fail)
  go_wp2_with fail
  go_ret
  exact DoPost.mk' E0.out ((HF.out.alloc _).drewN _) ((HR.out.alloc _).drewN _) (((HC.out.mono (by simp)).alloc _).drewN _)

set_option maxRecDepth 100000 in
set_option maxHeartbeats 4000000 in
theorem do_rest (w : World) (a b : Nat) (F : RF) (k n v : Int) (hn : n ≤ 9223372036854775807) (hF : FileAt w a F) (hR : RefAt w b F) (hab : a ≠ b) (q0 : (k == 0) = false) (q1 : (k == 1) = false) (q2 : (k == 2) = false) (q3 : (k == 3) = false) (q4 : (k == 4) = false) (q5 : (k == 5) = false) (q6 : (k == 6) = false) (q7 : (k == 7) = false) (q8 : (k == 8) = false) :
    Calls Try.prog 10 #[.pointer (some ⟨a, 0, none⟩), .pointer (some ⟨b, 0, none⟩), .agg #[.int .i64 k, .int .i64 n, .int .u64 v]] w (DoPost w a b F k n v) := by
  have e0 : fDo F k n v = F := by simp only [fDo]; rw [if_neg (by simpa using q0), if_neg (by simpa using q1), if_neg (by simpa using q2), if_neg (by simpa using q3), if_neg (by simpa using q4)]
  have E0 := Lib.hid e0
  clear e0
  have hba := hab.symm
  have hla := hF.lt
  have hlb := hR.lt
  have kb := Blk.new w [.int .i64 k, .int .i64 n, .int .u64 v] 32
  have hC := (Chg.refl [] w).alloc (.cells #[.int .i64 k, .int .i64 n, .int .u64 v] 32)
  have hF := hF.alloc (.cells #[.int .i64 k, .int .i64 n, .int .u64 v] 32)
  have hR := hR.alloc (.cells #[.int .i64 k, .int .i64 n, .int .u64 v] 32)
  have na : w.heap.size ∉ [a] := by simp; omega
  have nb : w.heap.size ∉ [b] := by simp; omega
  clear hla hlb
  go_enter Try.func10, Try.ntmps10
  go_wp2_with fail
  generalize w.alloc (.cells #[.int .i64 k, .int .i64 n, .int .u64 v] 32) = W at *
  generalize w.heap.size = box at *
  have k0 : W.cell? ⟨box, 0, none⟩ = some (.int .i64 k) := kb.cell 0
  have k1 : W.cell? ⟨box, 1, none⟩ = some (.int .i64 n) := kb.cell 1
  have k2 : W.cell? ⟨box, 2, none⟩ = some (.int .u64 v) := kb.cell 2

  go_ret
  exact DoPost.mk' E0.out hF hR (hC.mono (by simp))

theorem do_any (w : World) (a b : Nat) (F : RF) (k n v : Int) (hn : n ≤ 9223372036854775807) (hF : FileAt w a F) (hR : RefAt w b F) (hab : a ≠ b) :
    Calls Try.prog 10 #[.pointer (some ⟨a, 0, none⟩), .pointer (some ⟨b, 0, none⟩), .agg #[.int .i64 k, .int .i64 n, .int .u64 v]] w (DoPost w a b F k n v) := by
  by_cases h0 : k = 0
  · subst h0; exact do_0 w a b F n v hn hF hR hab
  by_cases h1 : k = 1
  · subst h1; exact do_1 w a b F n v hn hF hR hab
  by_cases h2 : k = 2
  · subst h2; exact do_2 w a b F n v hn hF hR hab
  by_cases h3 : k = 3
  · subst h3; exact do_3 w a b F n v hn hF hR hab
  by_cases h4 : k = 4
  · subst h4; exact do_4 w a b F n v hn hF hR hab
  by_cases h5 : k = 5
  · subst h5; exact do_5 w a b F n v hn hF hR hab
  by_cases h6 : k = 6
  · subst h6; exact do_6 w a b F n v hn hF hR hab
  by_cases h7 : k = 7
  · subst h7; exact do_7 w a b F n v hn hF hR hab
  by_cases h8 : k = 8
  · subst h8; exact do_8 w a b F n v hn hF hR hab
  exact do_rest w a b F k n v hn hF hR hab (by simpa using h0) (by simpa using h1) (by simpa using h2) (by simpa using h3) (by simpa using h4) (by simpa using h5) (by simpa using h6) (by simpa using h7) (by simpa using h8)

end Go.Proofs.Ytmdbgomofbbpcaa
