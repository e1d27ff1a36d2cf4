/- LogNames. -/
import Derived.Test.YtobpknbnfkjnhaaLog7
namespace Go.Proofs.Ytobpknbnfkjnhaa
open Go.RowKit

/-- No log: none, or one that was not made. -/
def NoLog (w : World) (v : Value) : Prop := v = .pointer none ∨ ∃ b, v = .pointer (some ⟨b, 0, none⟩) ∧ w.cell? ⟨b, 0, none⟩ = some (.pointer none)
theorem none_no (w : World) (v : Value) (h : NoLog w v) :
    Calls Try.prog 26 #[v] w fun e w' => e = .returned (.bool true) ∧ w = w' := by
  rcases h with rfl | ⟨b, rfl, hm⟩
  · go_enter Try.func26, Try.ntmps26
    go_wp2
    go_ret
    exact ⟨rfl, rfl⟩
  · go_enter Try.func26, Try.ntmps26
    go_wp2
    go_ret
    exact ⟨rfl, rfl⟩

theorem Read_no (w : World) (v : Value) (a x : Int) (h : NoLog w v) :
    Calls Try.prog 17 #[v, .int .i64 a, .int .u64 x] w fun e w' => e = .returned (.int .i64 1) ∧ w = w' := by
  go_enter Try.func17, Try.ntmps17
  go_wp2_with fail
  refine (none_no _ _ h).mono ?_
  rintro e w' ⟨rfl, rfl⟩
  go_wp2_with fail
  go_ret
  exact ⟨rfl, rfl⟩

theorem Write_no (w : World) (v : Value) (a x : Int) (h : NoLog w v) :
    Calls Try.prog 18 #[v, .int .i64 a, .int .u64 x] w fun e w' => e = .returned (.int .i64 1) ∧ w = w' := by
  go_enter Try.func18, Try.ntmps18
  go_wp2_with fail
  refine (none_no _ _ h).mono ?_
  rintro e w' ⟨rfl, rfl⟩
  go_wp2_with fail
  go_ret
  exact ⟨rfl, rfl⟩

theorem Clear_no (w : World) (v : Value) (h : NoLog w v) :
    Calls Try.prog 19 #[v] w fun e w' => e = .returned (.int .i64 1) ∧ w = w' := by
  go_enter Try.func19, Try.ntmps19
  go_wp2_with fail
  refine (none_no _ _ h).mono ?_
  rintro e w' ⟨rfl, rfl⟩
  go_wp2_with fail
  go_ret
  exact ⟨rfl, rfl⟩

theorem Reads_no (w : World) (v : Value) (h : NoLog w v) :
    Calls Try.prog 15 #[v] w fun e w' => e = .returned (.slice none 0 0) ∧ w = w' := by
  go_enter Try.func15, Try.ntmps15
  go_wp2_with fail
  refine (none_no _ _ h).mono ?_
  rintro e w' ⟨rfl, rfl⟩
  go_wp2_with fail
  go_ret
  exact ⟨rfl, rfl⟩

theorem Writes_no (w : World) (v : Value) (h : NoLog w v) :
    Calls Try.prog 16 #[v] w fun e w' => e = .returned (.slice none 0 0) ∧ w = w' := by
  go_enter Try.func16, Try.ntmps16
  go_wp2_with fail
  refine (none_no _ _ h).mono ?_
  rintro e w' ⟨rfl, rfl⟩
  go_wp2_with fail
  go_ret
  exact ⟨rfl, rfl⟩

theorem Was_no (w : World) (v : Value) (a : Int) (h : NoLog w v) :
    Calls Try.prog 13 #[v, .int .i64 a] w fun e w' => e = .returned (.tuple #[.int .u64 0, .bool false]) ∧ w = w' := by
  go_enter Try.func13, Try.ntmps13
  go_wp2_with fail
  refine (none_no _ _ h).mono ?_
  rintro e w' ⟨rfl, rfl⟩
  go_wp2_with fail
  go_ret2
  exact ⟨rfl, rfl⟩

theorem Look_no (w : World) (v : Value) (a : Int) (h : NoLog w v) :
    Calls Try.prog 14 #[v, .int .i64 a] w fun e w' => e = .returned (.tuple #[.int .u64 0, .bool false]) ∧ w = w' := by
  go_enter Try.func14, Try.ntmps14
  go_wp2_with fail
  refine (none_no _ _ h).mono ?_
  rintro e w' ⟨rfl, rfl⟩
  go_wp2_with fail
  go_ret2
  exact ⟨rfl, rfl⟩


theorem Broken_no (w : World) (b : Nat) (hm : w.cell? ⟨b, 0, none⟩ = some (.pointer none)) :
    Calls Try.prog 25 #[.pointer (some ⟨b, 0, none⟩), .slice none 0 0] w fun e w' => e = .returned (.tuple #[.int .i64 0, .bool false]) ∧ Below w.heap.size w w' := by
  have hb := World.block_lt_of_cell? w ⟨b, 0, none⟩ hm
  have hW1 : Below w.heap.size w (((w.alloc (.cells #[.slice none 0 0] 24)).alloc (.cells #[.int .i64 0] 3)).alloc (.cells #[.bool false] 4)) := (((Below.refl _ w).alloc (Nat.le_refl _) _).alloc (by simp) _).alloc (by simp; omega) _
  have h : NoLog (((w.alloc (.cells #[.slice none 0 0] 24)).alloc (.cells #[.int .i64 0] 3)).alloc (.cells #[.bool false] 4)) (.pointer (some ⟨b, 0, none⟩)) := .inr ⟨b, rfl, (hW1.cell (p := ⟨b, 0, none⟩) hb).trans hm⟩
  have H := Lib.hid hW1
  clear hW1
  go_enter Try.func25, Try.ntmps25
  go_wp2_with fail
  refine wp_scope_straight ?_
  go_wp2_with fail
  refine (none_no _ _ h).mono ?_
  rintro e w' ⟨rfl, rfl⟩
  go_wp2_with fail
  simp only [Exit.noGoto]
  refine bodyPost_ret (v := .tuple #[.int .i64 0, .bool false]) ?_ rfl ⟨rfl, ?_⟩
  · simp [results, Try.results25, go_sem]
  · exact H.out

def fullL (k : Nat) : PL := (List.range k).map (fun j : Nat => ((j : Int), (1 : Int)))
theorem fullL_len (k : Nat) : (fullL k).length = k := by simp [fullL]
theorem fullL_succ (k : Nat) : fullL (k + 1) = fullL k ++ [((k : Int), 1)] := by simp [fullL, List.range_succ]
theorem fullL_none {k : Nat} {a : Int} (h : (k : Int) ≤ a) : place (fullL k) a = none := place_none.2 (fun p hp => by
  simp only [fullL, List.mem_map, List.mem_range] at hp
  obtain ⟨j, hj, rfl⟩ := hp
  dsimp only; omega)
theorem fullL_some {k j : Nat} (h : j < k) : ∃ i, place (fullL k) (j : Int) = some i := by
  cases hp : place (fullL k) (j : Int) with
  | some i => exact ⟨i, rfl⟩
  | none => exact absurd rfl (place_none.1 hp ((j : Int), 1) (by simp only [fullL, List.mem_map, List.mem_range]; exact ⟨j, h, rfl⟩))
theorem fullL_rd {k : Nat} (h : k < 128) : rdL (fullL k) k 1 = fullL (k + 1) ∧ wrL (fullL k) k 1 = fullL (k + 1) := by
  have h1 := fullL_none (k := k) (a := (k : Int)) (Int.le_refl _)
  have h2 : ¬ (k : Int) < 0 := by omega
  have h3 : ¬ (fullL k).length = 128 := by rw [fullL_len]; omega
  exact ⟨by simp only [rdL, if_neg h2, h1, putL, if_neg h3, fullL_succ]; simp, by simp only [wrL, if_neg h2, h1, putL, if_neg h3, fullL_succ]⟩

def NamesRel (w0 : World) (B g : Nat) (i : Value) (wr : World) : Prop := ∃ k : Nat, k ≤ 128 ∧ i = .int .i64 k ∧ ∃ F, OwnLog B w0 wr g F (fullL k, fullL k)

theorem full_err1 : rdErr (fullL 128) 128 = 70 := by
  have h1 := fullL_none (k := 128) (a := 128) (Int.le_refl _)
  simp [rdErr, h1, putErr, fullL_len]
theorem full_l1 : rdL (fullL 128) 128 1 = fullL 128 ∧ wrL (fullL 128) 128 1 = fullL 128 := by
  have h1 := fullL_none (k := 128) (a := 128) (Int.le_refl _)
  exact ⟨by simp [rdL, h1, putL, fullL_len], by simp [wrL, h1, putL, fullL_len]⟩
theorem full_err2 : rdErr (fullL 128) 0 = 0 ∧ rdL (fullL 128) 0 2 = fullL 128 := by
  obtain ⟨i, h1⟩ := fullL_some (k := 128) (j := 0) (by decide)
  rw [show ((0 : Nat) : Int) = 0 from rfl] at h1
  exact ⟨by simp [rdErr, h1], by simp [rdL, h1]⟩
theorem full_err3 : wrErr (fullL 128) 5 = 0 ∧ (wrL (fullL 128) 5 2).length = 128 := by
  obtain ⟨i, h1⟩ := fullL_some (k := 128) (j := 5) (by decide)
  rw [show ((5 : Nat) : Int) = 5 from rfl] at h1
  exact ⟨by simp [wrErr, rdErr, h1], by simp [wrL, h1, fullL_len]⟩

theorem NRd.lit (w : World) (l : PL) : NRd (w.alloc (.cells (cellsP l).toArray 39)) (some ⟨w.heap.size, 0, none⟩) (w.heap.size + 1) l := NRd.of_prd fun k hk => by
  have hb := Blk.new w (cellsP l) 39
  refine ⟨w.heap.size, rfl, by omega, ?_, ?_⟩
  · have h1 := hb.cell (k * 2)
    have h2 := cellsP_get l k 0 hk (by decide)
    rw [Nat.add_zero] at h2
    rw [h1, h2]; simp [encP, hk]
  · have h1 := hb.cell (k * 2 + 1)
    have h2 := cellsP_get l k 1 hk (by decide)
    rw [h1, h2]; simp [encP, hk]

set_option maxRecDepth 100000 in
set_option maxHeartbeats 8000000 in
theorem LogNames_any (w : World) : Calls Try.prog 8 #[] w (StaysPost w) := by
  go_enter Try.func8, Try.ntmps8
  go_wp2_with fail
  refine (New_any w).mono ?_
  rintro e w1 ⟨g, F, rfl, h1, h2⟩
  have H := Lib.hid (h1.own h2)
  clear h1 h2
  go_wp2_with fail
  refine (Read_any _ g F [] [] 9 5 rfl rfl H.out.l).mono ?_
  rintro e w2 ⟨rfl, F2, h1, h2⟩
  have H2 := Lib.hid (H.out.did (t := ([(9, 5)], [])) h1 h2)
  clear h1 h2
  go_wp2_with fail
  refine (Read_any _ g F2 [(9, 5)] [] 8 6 rfl rfl H2.out.l).mono ?_
  rintro e w3 ⟨rfl, F3, h1, h2⟩
  have H3 := Lib.hid (H2.out.did (t := ([(9, 5), (8, 6)], [])) h1 h2)
  clear h1 h2
  go_wp2_with fail
  have hL := (H3.out.look (((Chg.refl [] w3).alloc (.cells (cellsP [(8, 6), (9, 6), (9, 5)]).toArray 39)).nil_below))
  have H4 := Lib.hid hL
  have hN := NRd.lit w3 [(8, 6), (9, 6), (9, 5)]
  clear hL
  have hBr := Broken_any g F3 [(9, 5), (8, 6)] [] [(8, 6), (9, 6), (9, 5)] (some ⟨w3.heap.size, 0, none⟩) 3 _ (by unfold maxLen; simp) (by rw [World.size_alloc]; exact hN) H4.out.l
  refine hBr.mono ?_
  clear hBr hN
  rintro e w5 ⟨rfl, h2⟩
  rw [show brkI [(9, 5), (8, 6)] [(8, 6), (9, 6), (9, 5)] = 0 from rfl, show (brk [(9, 5), (8, 6)] [(8, 6), (9, 6), (9, 5)]).isSome = true from rfl]
  have H5 := Lib.hid (H4.out.look h2)
  clear h2
  go_wp2_with fail
  have hL := (H5.out.look (((Chg.refl [] w5).alloc (.cells (cellsP [(4, 9)]).toArray 39)).nil_below))
  have H6 := Lib.hid hL
  have hN := NRd.lit w5 [(4, 9)]
  clear hL
  have hBr := Broken_any g F3 [(9, 5), (8, 6)] [] [(4, 9)] (some ⟨w5.heap.size, 0, none⟩) 1 _ (by unfold maxLen; simp) (by rw [World.size_alloc]; exact hN) H6.out.l
  refine hBr.mono ?_
  clear hBr hN
  rintro e w7 ⟨rfl, h2⟩
  rw [show brkI [(9, 5), (8, 6)] [(4, 9)] = 0 from rfl, show (brk [(9, 5), (8, 6)] [(4, 9)]).isSome = false from rfl]
  have H7 := Lib.hid (H6.out.look h2)
  clear h2
  go_wp2_with fail
  refine (Read_any _ g F3 [(9, 5), (8, 6)] [] (-1) 0 rfl rfl H7.out.l).mono ?_
  rintro e w8 ⟨rfl, F8, h1, h2⟩
  rw [show rdErr [(9, 5), (8, 6)] (-1) = 2 from rfl]
  have H8 := Lib.hid (H7.out.did (t := ([(9, 5), (8, 6)], [])) h1 h2)
  clear h1 h2
  go_wp2_with fail
  refine (Write_any _ g F8 [(9, 5), (8, 6)] [] (-1) 0 rfl rfl H8.out.l).mono ?_
  rintro e w9 ⟨rfl, F9, h1, h2⟩
  rw [show wrErr [] (-1) = 2 from rfl]
  have H9 := Lib.hid (H8.out.did (t := ([(9, 5), (8, 6)], [])) h1 h2)
  clear h1 h2
  go_wp2_with fail
  refine (Clear_any _ g F9 [(9, 5), (8, 6)] [] H9.out.l).mono ?_
  rintro e w10 ⟨rfl, F10, h1, h2⟩
  have H10 := Lib.hid (H9.out.did (t := ([], [])) h1 h2)
  clear h1 h2
  go_wp2_with fail
  go_loopw [9] (fun i wr => NamesRel w w.heap.size g i wr) (fun i _ => 128 - (intOf i).toNat)
  case atStart => exact ⟨0, by decide, rfl, F10, H10.out⟩
  case round =>
    obtain ⟨k, hk, rfl, FF, hO⟩ := hrel
    have HO := Lib.hid hO
    clear hO
    by_cases hlt : k < 128
    · have hlt' : (k : Int) < 128 := by omega
      have hwk : (Lit.int .i64 (k : Int)).wf = true := by simp [Lit.wf, IntKind.min, IntKind.max, IntKind.signed, IntKind.bits]; omega
      have WK := Lib.hid hwk
      have HF := Lib.hid (fullL_rd hlt)
      clear hwk
      go_wp2_with fail
      refine (Read_any _ g FF (fullL k) (fullL k) k 1 WK.out rfl HO.out.l).mono ?_
      rintro e v1 ⟨rfl, G1, h1, h2⟩
      rw [HF.out.1] at h1
      have K1 := Lib.hid (HO.out.did (t := (fullL (k + 1), fullL k)) h1 h2)
      clear h1 h2
      generalize rdErr (fullL k) k = re
      go_wp2_with fail
      refine (Write_any _ g G1 (fullL (k + 1)) (fullL k) k 1 WK.out rfl K1.out.l).mono ?_
      rintro e v2 ⟨rfl, G2, h1, h2⟩
      rw [HF.out.2] at h1
      have K2 := Lib.hid (K1.out.did (t := (fullL (k + 1), fullL (k + 1))) h1 h2)
      clear h1 h2
      generalize wrErr (fullL k) k = re2
      go_wp2_with fail
      go_roundw
      case rel => exact ⟨k + 1, by omega, by go_num, G2, K2.out⟩
      case measure => simp [intOf]; omega
    · obtain rfl : k = 128 := by omega
      go_wp2_with fail
      refine (Read_any _ g FF (fullL 128) (fullL 128) 128 1 rfl rfl HO.out.l).mono ?_
      rintro e v1 ⟨rfl, G1, h1, h2⟩
      rw [full_err1]
      rw [full_l1.1] at h1
      have K1 := Lib.hid (HO.out.did (t := (fullL 128, fullL 128)) h1 h2)
      clear h1 h2
      go_wp2_with fail
      refine (Read_any _ g G1 (fullL 128) (fullL 128) 0 2 rfl rfl K1.out.l).mono ?_
      rintro e v2 ⟨rfl, G2, h1, h2⟩
      rw [full_err2.1]
      rw [full_err2.2] at h1
      have K2 := Lib.hid (K1.out.did (t := (fullL 128, fullL 128)) h1 h2)
      clear h1 h2
      go_wp2_with fail
      refine (Write_any _ g G2 (fullL 128) (fullL 128) 128 1 rfl rfl K2.out.l).mono ?_
      rintro e v3 ⟨rfl, G3, h1, h2⟩
      rw [show wrErr (fullL 128) 128 = 70 from full_err1]
      rw [full_l1.2] at h1
      have K3 := Lib.hid (K2.out.did (t := (fullL 128, fullL 128)) h1 h2)
      clear h1 h2
      go_wp2_with fail
      refine (Write_any _ g G3 (fullL 128) (fullL 128) 5 2 rfl rfl K3.out.l).mono ?_
      rintro e v4 ⟨rfl, G4, h1, h2⟩
      rw [full_err3.1]
      have K4 := Lib.hid (K3.out.did (t := (fullL 128, wrL (fullL 128) 5 2)) h1 h2)
      clear h1 h2
      go_wp2_with fail
      have kz := Blk.new v4 [.pointer none, .pointer none] 57
      have K5 := Lib.hid (K4.out.look (((Chg.refl [] v4).alloc (.cells #[.pointer none, .pointer none] 57)).nil_below))
      have hz0 : NoLog (v4.alloc (.cells #[.pointer none, .pointer none] 57)) (.pointer (some ⟨v4.heap.size, 0, none⟩)) := .inr ⟨_, rfl, kz.cell 0⟩
      have hzc : (v4.alloc (.cells #[.pointer none, .pointer none] 57)).cell? ⟨v4.heap.size, 0, none⟩ = some (.pointer none) := kz.cell 0
      have KZ := Lib.hid kz
      have HZ := Lib.hid hz0
      have HC := Lib.hid hzc
      clear kz hz0 hzc
      generalize v4.alloc (.cells #[.pointer none, .pointer none] 57) = v5 at *
      generalize v4.heap.size = zb at *
      refine (Was_no _ _ 0 (.inl rfl)).mono ?_
      rintro e w' ⟨rfl, rfl⟩
      go_wp2_with fail
      refine (Look_no _ _ 0 HZ.out).mono ?_
      rintro e w' ⟨rfl, rfl⟩
      go_wp2_with fail
      refine (Broken_no _ _ HC.out).mono ?_
      rintro e v6 ⟨rfl, h2⟩
      have K6 := Lib.hid (K5.out.look h2)
      have HZ6 : Hid (NoLog v6 (.pointer (some ⟨zb, 0, none⟩))) := Lib.hid (.inr ⟨_, rfl, (h2.cell (p := ⟨zb, 0, none⟩) KZ.out.lt).trans HC.out⟩)
      clear h2
      go_wp2_with fail
      refine (Read_no _ _ 0 0 (.inl rfl)).mono ?_
      rintro e w' ⟨rfl, rfl⟩
      go_wp2_with fail
      refine (Write_no _ _ (-1) 0 HZ6.out).mono ?_
      rintro e w' ⟨rfl, rfl⟩
      go_wp2_with fail
      refine (Clear_no _ _ (.inl rfl)).mono ?_
      rintro e w' ⟨rfl, rfl⟩
      go_wp2_with fail
      refine (Reads_no _ _ (.inl rfl)).mono ?_
      rintro e w' ⟨rfl, rfl⟩
      go_wp2_with fail
      refine (Writes_no _ _ HZ6.out).mono ?_
      rintro e w' ⟨rfl, rfl⟩
      go_wp2_with fail
      refine (alive_any _).mono ?_
      rintro e v7 ⟨rfl, h2⟩
      have K7 := Lib.hid (K6.out.look h2)
      clear h2
      go_wp2_with fail
      refine (Reads_any _ g G4 (fullL 128) (wrL (fullL 128) 5 2) K7.out.l).mono ?_
      rintro e v8 ⟨v, rfl, h1, h2⟩
      obtain ⟨A8, cap8, _, hv, _⟩ := ownsRow_cell h1
      rw [fullL_len] at h1
      obtain ⟨A8, cap8, rfl, _⟩ := ownsRow_cell h1
      have K8 := Lib.hid (K7.out.look h2)
      clear h1 h2 hv
      go_wp2_with fail
      refine (Writes_any _ g G4 (fullL 128) (wrL (fullL 128) 5 2) K8.out.l).mono ?_
      rintro e v9 ⟨v, rfl, h1, h2⟩
      rw [full_err3.2] at h1
      obtain ⟨A9, cap9, rfl, _⟩ := ownsRow_cell h1
      have K9 := Lib.hid (K8.out.look h2)
      clear h1 h2
      go_wp2_with fail
      go_ret
      exact ⟨rfl, K9.out.bel⟩

end Go.Proofs.Ytobpknbnfkjnhaa
