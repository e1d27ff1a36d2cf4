/- The chapter's example, calls in a row, and whether a file stands as the document's does. -/
import Derived.Test.YtmdbgomofbbpcaaRegs6
import Derived.Test.YtmdbgomofbbpcaaOpen
namespace Go.Proofs.Ytmdbgomofbbpcaa
open Go.RowKit

def SamePost (w : World) (e : Ending) (w' : World) : Prop := e = .returned (.bool true) ∧ Chg [] w w'

set_option maxRecDepth 100000 in
set_option maxHeartbeats 4000000 in
theorem same_any (w : World) (a b : Nat) (F : RF) (hF : FileAt w a F) (hR : RefAt w b F) :
    Calls Try.prog 11 #[.pointer (some ⟨a, 0, none⟩), .pointer (some ⟨b, 0, none⟩)] w (SamePost w) := by
  obtain ⟨rs, pc, is, ps, to⟩ := F
  obtain ⟨r0, r1, r2, r3, r4, r5, r6, r7, rfl⟩ := eight hF.ok.len
  obtain ⟨p0, p1, p2, p3, p4, p5, p6, p7, rfl⟩ := eight hF.ok.plen
  go_enter Try.func11, Try.ntmps11
  go_wp2_with fail
  refine (Point_any _ a _ hF).mono ?_
  rintro e w1 ⟨rfl, hC1⟩
  simp only [u64s, List.map_cons, List.map_nil]
  have hF := hF.chg hC1 (by simp) (by simp)
  have hR := hR.chg hC1 (by simp)
  have hq := eq_regs
  have q1 := eqInts_self [r0, r1, r2, r3, r4, r5, r6, r7]
  have q2 := eqInts_self [p0, p1, p2, p3, p4, p5, p6, p7]
  go_wp2_with fail
  have kt := Blk.new w1 [.int .u64 p0, .int .u64 p1, .int .u64 p2, .int .u64 p3, .int .u64 p4, .int .u64 p5, .int .u64 p6, .int .u64 p7] 27
  have hF := hF.alloc (.cells #[.int .u64 p0, .int .u64 p1, .int .u64 p2, .int .u64 p3, .int .u64 p4, .int .u64 p5, .int .u64 p6, .int .u64 p7] 27)
  have hR := hR.alloc (.cells #[.int .u64 p0, .int .u64 p1, .int .u64 p2, .int .u64 p3, .int .u64 p4, .int .u64 p5, .int .u64 p6, .int .u64 p7] 27)
  have hC := hC1.alloc (.cells #[.int .u64 p0, .int .u64 p1, .int .u64 p2, .int .u64 p3, .int .u64 p4, .int .u64 p5, .int .u64 p6, .int .u64 p7] 27)
  generalize w1.alloc (.cells #[.int .u64 p0, .int .u64 p1, .int .u64 p2, .int .u64 p3, .int .u64 p4, .int .u64 p5, .int .u64 p6, .int .u64 p7] 27) = W at *
  generalize w1.heap.size = t at *
  clear hC1
  have kr := hR.blk
  go_region_held3 (fun w' => w'.cell? ⟨b, 0, none⟩ = some (.int .u64 r0) ∧ w'.cell? ⟨b, 1, none⟩ = some (.int .u64 r1) ∧ w'.cell? ⟨b, 2, none⟩ = some (.int .u64 r2) ∧ w'.cell? ⟨b, 3, none⟩ = some (.int .u64 r3) ∧ w'.cell? ⟨b, 4, none⟩ = some (.int .u64 r4) ∧ w'.cell? ⟨b, 5, none⟩ = some (.int .u64 r5) ∧ w'.cell? ⟨b, 6, none⟩ = some (.int .u64 r6) ∧ w'.cell? ⟨b, 7, none⟩ = some (.int .u64 r7) ∧ w'.cell? ⟨b, 8, none⟩ = some (.int .i64 pc) ∧ w'.cell? ⟨b, 9, none⟩ = some (.bool is) ∧ w'.cell? ⟨b, 10, none⟩ = some (.int .u64 p0) ∧ w'.cell? ⟨b, 11, none⟩ = some (.int .u64 p1) ∧ w'.cell? ⟨b, 12, none⟩ = some (.int .u64 p2) ∧ w'.cell? ⟨b, 13, none⟩ = some (.int .u64 p3) ∧ w'.cell? ⟨b, 14, none⟩ = some (.int .u64 p4) ∧ w'.cell? ⟨b, 15, none⟩ = some (.int .u64 p5) ∧ w'.cell? ⟨b, 16, none⟩ = some (.int .u64 p6) ∧ w'.cell? ⟨b, 17, none⟩ = some (.int .u64 p7) ∧ w'.cell? ⟨b, 18, none⟩ = some (.int .i64 to) ∧ w'.cell? ⟨t, 0, none⟩ = some (.int .u64 p0) ∧ w'.cell? ⟨t, 1, none⟩ = some (.int .u64 p1) ∧ w'.cell? ⟨t, 2, none⟩ = some (.int .u64 p2) ∧ w'.cell? ⟨t, 3, none⟩ = some (.int .u64 p3) ∧ w'.cell? ⟨t, 4, none⟩ = some (.int .u64 p4) ∧ w'.cell? ⟨t, 5, none⟩ = some (.int .u64 p5) ∧ w'.cell? ⟨t, 6, none⟩ = some (.int .u64 p6) ∧ w'.cell? ⟨t, 7, none⟩ = some (.int .u64 p7)) (first | exact ⟨kr.cell 0, kr.cell 1, kr.cell 2, kr.cell 3, kr.cell 4, kr.cell 5, kr.cell 6, kr.cell 7, kr.cell 8, kr.cell 9, kr.cell 10, kr.cell 11, kr.cell 12, kr.cell 13, kr.cell 14, kr.cell 15, kr.cell 16, kr.cell 17, kr.cell 18, kt.cell 0, kt.cell 1, kt.cell 2, kt.cell 3, kt.cell 4, kt.cell 5, kt.cell 6, kt.cell 7⟩ | exact ⟨(hC2.blk kr.drew (by simp)).cell 0, (hC2.blk kr.drew (by simp)).cell 1, (hC2.blk kr.drew (by simp)).cell 2, (hC2.blk kr.drew (by simp)).cell 3, (hC2.blk kr.drew (by simp)).cell 4, (hC2.blk kr.drew (by simp)).cell 5, (hC2.blk kr.drew (by simp)).cell 6, (hC2.blk kr.drew (by simp)).cell 7, (hC2.blk kr.drew (by simp)).cell 8, (hC2.blk kr.drew (by simp)).cell 9, (hC2.blk kr.drew (by simp)).cell 10, (hC2.blk kr.drew (by simp)).cell 11, (hC2.blk kr.drew (by simp)).cell 12, (hC2.blk kr.drew (by simp)).cell 13, (hC2.blk kr.drew (by simp)).cell 14, (hC2.blk kr.drew (by simp)).cell 15, (hC2.blk kr.drew (by simp)).cell 16, (hC2.blk kr.drew (by simp)).cell 17, (hC2.blk kr.drew (by simp)).cell 18, (hC2.blk kt.drew (by simp)).cell 0, (hC2.blk kt.drew (by simp)).cell 1, (hC2.blk kt.drew (by simp)).cell 2, (hC2.blk kt.drew (by simp)).cell 3, (hC2.blk kt.drew (by simp)).cell 4, (hC2.blk kt.drew (by simp)).cell 5, (hC2.blk kt.drew (by simp)).cell 6, (hC2.blk kt.drew (by simp)).cell 7⟩)
    (first
      | (go_at_call 19; refine (All_any _ a _ hF.drew).mono ?_; rintro e w2 ⟨rfl, hC2⟩; simp only [u64s, List.map_cons, List.map_nil])
      | (go_at_call 20; refine (PC_any _ a _ (hF.drew.chg hC2 (by simp) (by simp))).mono ?_; rintro e w3 ⟨rfl, rfl⟩))
  go_wp2_with fail
  go_ret
  exact ⟨rfl, hC.drew.trans hC2⟩

/-- A step of a play. -/
def fStep (marks : Bool) (F : RF) (p : Int × Int × Int) : RF :=
  if p.1 = 0 then fSet F p.2.1 p.2.2 else if p.1 = 1 then fJump F p.2.1 else if p.1 = 2 then (if marks then fSave F else F) else if p.1 = 3 then fRestore F else if p.1 = 4 then (if marks then fDrop F else F) else F
def fPlay (marks : Bool) (F : RF) (xs : List (Int × Int × Int)) : RF := xs.foldl (fStep marks) F
theorem fPlay_succ (marks : Bool) (F : RF) (xs : List (Int × Int × Int)) {k : Nat} (h : k < xs.length) : fPlay marks F (xs.take (k + 1)) = fStep marks (fPlay marks F (xs.take k)) xs[k] := by
  simp only [fPlay]
  rw [List.take_succ_eq_append_getElem h, List.foldl_append]
  rfl
def encOp (p : Int × Int × Int) : List Value := [.int .i64 p.1, .int .i64 p.2.1, .int .u64 p.2.2]

def PlayPost (w : World) (a : Nat) (G : RF) (e : Ending) (w' : World) : Prop := e = .returned (.tuple #[]) ∧ FileAt w' a G ∧ Chg [a] w w'

def PlayRel (w : World) (a : Nat) (marks : Bool) (F : RF) (xs : List (Int × Int × Int)) (i : Value) (wr : World) : Prop :=
  ∃ k : Nat, k ≤ xs.length ∧ i = .int .i64 k ∧ FileAt wr a (fPlay marks F (xs.take k)) ∧ Chg [a] w wr

theorem PlayRel.next {w w1 : World} {a : Nat} {marks : Bool} {F G : RF} {xs : List (Int × Int × Int)} {k : Nat} (hlt : k < xs.length) (h1 : FileAt w1 a G) (h2 : fStep marks (fPlay marks F (xs.take k)) xs[k] = G) (h3 : Chg [a] w w1) {i : Value} (hi : i = .int .i64 ((k + 1 : Nat) : Int)) : PlayRel w a marks F xs i w1 :=
  ⟨k + 1, by omega, hi, by rw [fPlay_succ _ _ _ hlt, h2]; exact h1, h3⟩

set_option maxRecDepth 100000 in
set_option maxHeartbeats 4000000 in
theorem play_any (w : World) (a : Nat) (A : Option Addr) (cap : Nat) (marks : Bool) (F : RF) (xs : List (Int × Int × Int)) (hlen : xs.length ≤ 1000) (B : Nat) (hR : Rd w B A 3 encOp xs) (hB : B ≤ a) (hxs : ∀ p ∈ xs, i64ok p.2.1) (hF : FileAt w a F) :
    Calls Try.prog 22 #[.pointer (some ⟨a, 0, none⟩), .slice A xs.length cap, .bool marks] w (PlayPost w a (fPlay marks F xs)) := by
  have HX := Lib.hid hxs
  clear hxs
  go_enter Try.func22, Try.ntmps22
  go_wp2_with fail
  go_loopw [6] (fun i wr => PlayRel w a marks F xs i wr) (fun i _ => xs.length - (intOf i).toNat)
  case atStart => exact ⟨0, Nat.zero_le _, rfl, hF, Chg.refl _ _⟩
  case round =>
    obtain ⟨k, hk, rfl, hFk, hC⟩ := hrel
    by_cases hlt : k < xs.length
    · have hRr : Rd wr B A 3 encOp xs := hR.below (hC.to_below (by simpa using hB) (by have := hF.lt; omega))
      obtain ⟨bb, off, rfl, hbb, hc⟩ := hRr (by omega)
      have hp := HX.out _ (List.getElem_mem hlt)
      obtain ⟨_, hn⟩ := hp
      have c0 : wr.cell? ⟨bb, off + k * 3, none⟩ = some (.int .i64 xs[k].1) := hc k hlt 0 (by decide)
      have c1 : wr.cell? ⟨bb, off + k * 3 + 1, none⟩ = some (.int .i64 xs[k].2.1) := hc k hlt 1 (by decide)
      have c2 : wr.cell? ⟨bb, off + k * 3 + 2, none⟩ = some (.int .u64 xs[k].2.2) := hc k hlt 2 (by decide)
      clear hc hRr hR
      have hst : ∀ G, fStep marks (fPlay marks F (xs.take k)) xs[k] = G → fStep marks (fPlay marks F (xs.take k)) (xs[k].1, xs[k].2.1, xs[k].2.2) = G := fun _ h => h
      have NX : ∀ (w1 : World) (G : RF), FileAt w1 a G → fStep marks (fPlay marks F (xs.take k)) (xs[k].1, xs[k].2.1, xs[k].2.2) = G → Chg [a] w w1 → PlayRel w a marks F xs (.int .i64 ((k + 1 : Nat) : Int)) w1 := fun w1 G h1 h2 h3 => PlayRel.next hlt h1 h2 h3 rfl
      generalize fPlay marks F (xs.take k) = Fk at *
      generalize xs[k].1 = kk at *
      generalize xs[k].2.1 = n at *
      generalize xs[k].2.2 = v at *
      have NX' := Lib.hid NX
      clear hst NX hF
      have hFa := hFk.alloc (.cells #[.int .i64 kk, .int .i64 n, .int .u64 v] 32)
      have hCa := hC.alloc (.cells #[.int .i64 kk, .int .i64 n, .int .u64 v] 32)
      by_cases h0 : kk = 0
      · subst h0
        go_wp2_with fail
        refine (Set_any _ a Fk n v hFa).mono ?_
        rintro e w1 ⟨rfl, hF1, hC1⟩
        go_wp2_with fail
        go_roundw
        case rel => exact NX'.out _ _ hF1 (by simp [fStep]) (hCa.trans hC1)
        case measure => simp [intOf]; omega
      by_cases h1 : kk = 1
      · subst h1
        go_wp2_with fail
        refine (Jump_any _ a Fk n hn hFa).mono ?_
        rintro e w1 ⟨rfl, hF1, hC1⟩
        go_wp2_with fail
        go_roundw
        case rel => exact NX'.out _ _ hF1 (by simp [fStep]) (hCa.trans hC1)
        case measure => simp [intOf]; omega
      by_cases h2 : kk = 2
      · subst h2
        cases marks with
        | false =>
          go_wp2_with fail
          go_roundw
          case rel => exact NX'.out _ _ hFa (by simp [fStep]) hCa
          case measure => simp [intOf]; omega
        | true =>
          go_wp2_with fail
          refine (Save_any _ a Fk hFa).mono ?_
          rintro e w1 ⟨rfl, hF1, hC1⟩
          go_wp2_with fail
          go_roundw
          case rel => exact NX'.out _ _ hF1 (by simp [fStep]) (hCa.trans hC1)
          case measure => simp [intOf]; omega
      by_cases h3 : kk = 3
      · subst h3
        go_wp2_with fail
        refine (Restore_any _ a Fk hFa).mono ?_
        rintro e w1 ⟨rfl, hF1, hC1⟩
        go_wp2_with fail
        go_roundw
        case rel => exact NX'.out _ _ hF1 (by simp [fStep]) (hCa.trans hC1)
        case measure => simp [intOf]; omega
      by_cases h4 : kk = 4
      · subst h4
        cases marks with
        | false =>
          go_wp2_with fail
          go_roundw
          case rel => exact NX'.out _ _ hFa (by simp [fStep]) hCa
          case measure => simp [intOf]; omega
        | true =>
          go_wp2_with fail
          refine (Drop_any _ a Fk hFa).mono ?_
          rintro e w1 ⟨rfl, hF1, hC1⟩
          go_wp2_with fail
          go_roundw
          case rel => exact NX'.out _ _ hF1 (by simp [fStep]) (hCa.trans hC1)
          case measure => simp [intOf]; omega
      by_cases h5 : kk = 5
      · subst h5
        go_wp2_with fail
        refine (Get_any _ a Fk n hFa).mono ?_
        rintro e w1 ⟨rfl, rfl⟩
        go_wp2_with fail
        go_roundw
        case rel => exact NX'.out _ _ hFa (by simp [fStep]) hCa
        case measure => simp [intOf]; omega
      have q0 : (kk == 0) = false := by simpa using h0
      have q1 : (kk == 1) = false := by simpa using h1
      have q2 : (kk == 2) = false := by simpa using h2
      have q3 : (kk == 3) = false := by simpa using h3
      have q4 : (kk == 4) = false := by simpa using h4
      have q5 : (kk == 5) = false := by simpa using h5
      have hs : fStep marks Fk (kk, n, v) = Fk := by simp only [fStep]; rw [if_neg h0, if_neg h1, if_neg h2, if_neg h3, if_neg h4]
      clear h0 h1 h2 h3 h4 h5
      go_wp2_with fail
      go_roundw
      case rel => exact NX'.out _ _ hFa hs hCa
      case measure => simp [intOf]; omega
    · obtain rfl : k = xs.length := by omega
      rw [List.take_length] at hFk
      go_wp2_with fail
      refine bodyPost_ret (results_none rfl _ _ _) rfl ?_
      exact ⟨rfl, hFk, hC⟩

set_option maxRecDepth 100000 in
set_option maxHeartbeats 4000000 in
theorem alive_any (w : World) : Calls Try.prog 21 #[] w (SamePost w) := by
  go_enter Try.func21, Try.ntmps21
  go_wp2_with fail
  refine (New_any w).mono ?_
  rintro e w1 ⟨rfl, hF1, hC1, hs1⟩
  have hlo : w.heap.size ≤ w.heap.size := Nat.le_refl _
  have hbe : ∃ a, w.heap.size = a ∧ w.heap.size ≤ a := ⟨_, rfl, Nat.le_refl _⟩
  obtain ⟨a, ha, hle⟩ := hbe
  rw [ha] at hF1 ⊢
  clear hs1 hlo ha
  go_wp2_with fail
  refine (Set_any _ a _ 0 5 hF1).mono ?_
  rintro e w2 ⟨rfl, hF2, hC2⟩
  replace hF2 : FileAt w2 a ⟨[5, 0, 0, 0, 0, 0, 0, 0], 0, false, zeros8, 0⟩ := hF2
  have m1 : memErr 8 0 = 0 := by decide
  have m2 : memErr 8 7 = 0 := by decide
  have m3 : jumpErr 3 = 0 := by decide
  have m4 : jumpErr 8 = 0 := by decide
  go_wp2_with fail
  refine (Jump_any _ a _ 3 (by decide) hF2).mono ?_
  rintro e w3 ⟨rfl, hF3, hC3⟩
  replace hF3 : FileAt w3 a ⟨[5, 0, 0, 0, 0, 0, 0, 0], 3, false, zeros8, 0⟩ := hF3
  go_wp2_with fail
  refine (Save_any _ a _ hF3).mono ?_
  rintro e w4 ⟨rfl, hF4, hC4⟩
  replace hF4 : FileAt w4 a ⟨[5, 0, 0, 0, 0, 0, 0, 0], 3, true, [5, 0, 0, 0, 0, 0, 0, 0], 3⟩ := hF4
  go_wp2_with fail
  refine (Set_any _ a _ 7 9 hF4).mono ?_
  rintro e w5 ⟨rfl, hF5, hC5⟩
  replace hF5 : FileAt w5 a ⟨[5, 0, 0, 0, 0, 0, 0, 9], 3, true, [5, 0, 0, 0, 0, 0, 0, 0], 3⟩ := hF5
  go_wp2_with fail
  refine (Jump_any _ a _ 8 (by decide) hF5).mono ?_
  rintro e w6 ⟨rfl, hF6, hC6⟩
  replace hF6 : FileAt w6 a ⟨[5, 0, 0, 0, 0, 0, 0, 9], 8, true, [5, 0, 0, 0, 0, 0, 0, 0], 3⟩ := hF6
  go_wp2_with fail
  refine (Get_any _ a _ 7 hF6).mono ?_
  rintro e w7 ⟨rfl, rfl⟩
  have m5 : memWord [5, 0, 0, 0, 0, 0, 0, 9] 7 = 9 := by decide
  go_wp2_with fail
  refine (Restore_any _ a _ hF6).mono ?_
  rintro e w8 ⟨rfl, hF8, hC8⟩
  replace hF8 : FileAt w8 a ⟨[5, 0, 0, 0, 0, 0, 0, 0], 3, true, [5, 0, 0, 0, 0, 0, 0, 0], 3⟩ := hF8
  have m6 : markErr ⟨[5, 0, 0, 0, 0, 0, 0, 9], 8, true, [5, 0, 0, 0, 0, 0, 0, 0], 3⟩ = 0 := by decide
  have hC := ((((((hC1.mono (T := [a]) (by simp)).trans' (S := [a]) hC2 (by simp)).trans hC3).trans hC4).trans hC5).trans hC6).trans hC8
  clear hF1 hF2 hF3 hF4 hF5 hF6 hC1 hC2 hC3 hC4 hC5 hC6 hC8
  rw [m6]
  go_wp2_with fail
  refine (PC_any _ a _ hF8).mono ?_
  rintro e w9 ⟨rfl, rfl⟩
  go_wp2_with fail
  refine (All_any _ a _ hF8).mono ?_
  rintro e w9 ⟨rfl, hC9⟩
  simp only [u64s, List.map_cons, List.map_nil]
  have hq := eq_regs
  have q : eqInts [5, 0, 0, 0, 0, 0, 0, 0] [5, 0, 0, 0, 0, 0, 0, 0] = true := by decide
  have HC : Chg [] w w9 := by
    have hx := hC.trans' hC9 (by simp)
    exact ⟨hx.os, hx.tape, hx.output, hx.size, fun k hk _ => hx.block k hk (by simp; omega)⟩
  clear hC hC9
  go_wp2_with fail
  go_ret
  exact ⟨rfl, HC⟩

end Go.Proofs.Ytmdbgomofbbpcaa
