/- The reference's entry as data; asks. -/
import Derived.Test.YtepdhajgemmoiaaRD12s
import Derived.Test.YtepdhajgemmoiaaDRef2
namespace Go.Proofs.Ytepdhajgemmoiaa
set_option linter.unusedSimpArgs false
set_option linter.unusedVariables false
set_option maxRecDepth 100000
set_option linter.unusedSimpArgs false
set_option linter.unusedVariables false
open Go.RowKit

/-- An entry of the reference: its lists, and where they lie. -/
structure RE where
  ow : Int := -1
  shA : Option Addr := none
  shc : Nat := 0
  sh : List Int := []
  un : MsgV := {}
  ph : Int := 0
  akA : Option Addr := none
  akc : Nat := 0
  ak : List Int := []
  asked : Int := 0
  wtA : Option Addr := none
  wtc : Nat := 0
  wl : List MsgV := []
def encR (x : RE) : List Value := [.int .i64 x.ow, .slice x.shA x.sh.length x.shc, .int .i64 x.un.k, .int .i64 x.un.c, .int .i64 x.un.l, .int .u64 x.un.d.x0, .int .u64 x.un.d.x1, .int .u64 x.un.d.x2, .int .u64 x.un.d.x3, .int .u64 x.un.d.x4, .int .u64 x.un.d.x5, .int .u64 x.un.d.x6, .int .u64 x.un.d.x7, .int .i64 x.ph, .slice x.akA x.ak.length x.akc, .int .i64 x.asked, .slice x.wtA x.wl.length x.wtc]
theorem encR_len (x : RE) : (encR x).length = 17 := rfl

set_option maxHeartbeats 4000000 in
theorem asks_any (w : World) (x : RE) (c : Int) (hl : x.wl.length ≤ 1000) (hW : Rd w w.heap.size x.wtA 11 encM x.wl) :
    Calls Try.prog 38 #[.agg #[.int .i64 x.ow, .slice x.shA x.sh.length x.shc, .int .i64 x.un.k, .int .i64 x.un.c, .int .i64 x.un.l, .int .u64 x.un.d.x0, .int .u64 x.un.d.x1, .int .u64 x.un.d.x2, .int .u64 x.un.d.x3, .int .u64 x.un.d.x4, .int .u64 x.un.d.x5, .int .u64 x.un.d.x6, .int .u64 x.un.d.x7, .int .i64 x.ph, .slice x.akA x.ak.length x.akc, .int .i64 x.asked, .slice x.wtA x.wl.length x.wtc], .int .i64 c] w fun e w' => e = .returned (.bool (decide (x.ph ≠ 0 ∧ x.ph ≠ 4 ∧ x.un.c = c) || decide (x.ow = c ∧ x.ph ≠ 2) || x.wl.any (fun m => m.c == c))) ∧ Chg [] w w' := by
  obtain ⟨ow, shA, shc, sh, ⟨uk, uc, ul, ⟨u0, u1, u2, u3, u4, u5, u6, u7⟩⟩, ph, akA, akc, ak, asked, wtA, wtc, wl⟩ := x
  simp only at hl hW ⊢
  have HW := Lib.hid hW
  clear hW
  obtain ⟨R, hR⟩ : ∃ R, (decide (ph ≠ 0 ∧ ph ≠ 4 ∧ uc = c) || decide (ow = c ∧ ph ≠ 2) || wl.any (fun m => m.c == c)) = R := ⟨_, rfl⟩
  rw [hR]
  by_cases hu : ph ≠ 0 ∧ ph ≠ 4 ∧ uc = c
  · obtain ⟨h0, h4, h1⟩ := hu
    subst h1
    have b0 : (ph == 0) = false := by simpa using h0
    have b4 : (ph == 4) = false := by simpa using h4
    have HR : Hid (R = true) := Lib.hid (by rw [← hR]; simp [h0, h4])
    clear hR
    go_enter Try.func38, Try.ntmps38
    go_wp2_with fail
    go_ret
    exact ⟨ret_bool HR.out.symm, (Chg.refl _ _).alloc _⟩
  · have hu' : (ph = 0 ∨ (ph ≠ 0 ∧ ph = 4) ∨ (ph ≠ 0 ∧ ph ≠ 4 ∧ uc ≠ c)) := by
      by_cases a : ph = 0
      · exact .inl a
      · by_cases b : ph = 4
        · exact .inr (.inl ⟨a, b⟩)
        · exact .inr (.inr ⟨a, b, fun h => hu ⟨a, b, h⟩⟩)
    by_cases ho : ow = c ∧ ph ≠ 2
    · obtain ⟨h1, h2⟩ := ho
      subst h1
      have b2 : (ph == 2) = false := by simpa using h2
      have HR : Hid (R = true) := Lib.hid (by rw [← hR]; simp [h2])
      clear hu hR
      rcases hu' with h | ⟨ha, h⟩ | ⟨ha, hb, h⟩
      · subst h
        go_enter Try.func38, Try.ntmps38
        go_wp2_with fail
        go_ret
        exact ⟨ret_bool HR.out.symm, (Chg.refl _ _).alloc _⟩
      · subst h
        clear ha
        go_enter Try.func38, Try.ntmps38
        go_wp2_with fail
        go_ret
        exact ⟨ret_bool HR.out.symm, (Chg.refl _ _).alloc _⟩
      · have b0 : (ph == 0) = false := by simpa using ha
        have b4 : (ph == 4) = false := by simpa using hb
        have b1 : (uc == ow) = false := by simpa using h
        go_enter Try.func38, Try.ntmps38
        go_wp2_with fail
        go_ret
        exact ⟨ret_bool HR.out.symm, (Chg.refl _ _).alloc _⟩
    · have ho' : ow ≠ c ∨ (ow = c ∧ ph = 2) := by
        by_cases a : ow = c
        · exact .inr ⟨a, Classical.byContradiction fun h => ho ⟨a, h⟩⟩
        · exact .inl a
      have HRw : Hid (R = wl.any (fun m => m.c == c)) := Lib.hid (by rw [← hR, decide_eq_false hu, decide_eq_false ho]; rfl)
      have HB := Lib.hid (Blk.new w [.int .i64 ow, .slice shA sh.length shc, .int .i64 uk, .int .i64 uc, .int .i64 ul, .int .u64 u0, .int .u64 u1, .int .u64 u2, .int .u64 u3, .int .u64 u4, .int .u64 u5, .int .u64 u6, .int .u64 u7, .int .i64 ph, .slice akA ak.length akc, .int .i64 asked, .slice wtA wl.length wtc] 99)
      have HC := Lib.hid ((Chg.refl [] w).alloc (.cells #[.int .i64 ow, .slice shA sh.length shc, .int .i64 uk, .int .i64 uc, .int .i64 ul, .int .u64 u0, .int .u64 u1, .int .u64 u2, .int .u64 u3, .int .u64 u4, .int .u64 u5, .int .u64 u6, .int .u64 u7, .int .i64 ph, .slice akA ak.length akc, .int .i64 asked, .slice wtA wl.length wtc] 99))
      clear hu ho hR
      rcases hu' with h | ⟨ha, h⟩ | ⟨ha, hb, h⟩ <;> rcases ho' with h9 | ⟨h9, h8⟩
      · subst h
        have b9 : (ow == c) = false := by simpa using h9
        go_enter Try.func38, Try.ntmps38
        go_wp2_with fail
        go_loopw [5] (fun i wr => ∃ k : Nat, k ≤ wl.length ∧ i = .int .i64 k ∧ Hid (Chg [] w wr) ∧ Hid (Blk wr w.heap.size [.int .i64 ow, .slice shA sh.length shc, .int .i64 uk, .int .i64 uc, .int .i64 ul, .int .u64 u0, .int .u64 u1, .int .u64 u2, .int .u64 u3, .int .u64 u4, .int .u64 u5, .int .u64 u6, .int .u64 u7, .int .i64 0, .slice akA ak.length akc, .int .i64 asked, .slice wtA wl.length wtc] 99) ∧ Hid (∀ (j : Nat) (h1 : j < wl.length), j < k → wl[j].c ≠ c))
          (fun i _ => wl.length - (intOf i).toNat)
        case atStart => exact ⟨0, by omega, rfl, HC, HB, Lib.hid (fun j h h2 => by omega)⟩
        case round =>
          obtain ⟨k, hk, rfl, hC, hB, HN⟩ := hrel
          have x6 : wr.cell? ⟨w.heap.size, 16, none⟩ = some (.slice wtA wl.length wtc) := hB.out.cell 16
          have xlt : w.heap.size < wr.heap.size := hB.out.lt
          by_cases hlt : k < wl.length
          · obtain ⟨b, off, hA, hb9, hc9⟩ := rd_msg (HW.out.chg0 hC.out) hlt
            subst hA
            have cc : wr.cell? ⟨b, off + k * 11 + 1, none⟩ = some (.int .i64 wl[k].c) := by have := hc9 1 (by decide); rw [← Nat.add_assoc] at this; exact this
            have hki : (k : Int) < wl.length := by omega
            have HE : Hid (∀ (j : Nat) (h1 : j < wl.length), j = k → wl[j].c = wl[k].c) := Lib.hid (fun j h1 e => by subst e; rfl)
            have HM : Hid (wl[k].c = c → wl.any (fun m => m.c == c) = true) := Lib.hid (fun e => List.any_eq_true.2 ⟨wl[k], List.getElem_mem hlt, by rw [e]; simp⟩)
            obtain ⟨y, hy⟩ : ∃ y, wl[k].c = y := ⟨_, rfl⟩
            rw [hy] at HE HM cc
            clear hy hc9
            by_cases hyc : y = c
            · have hyb : (y == c) = true := by simpa using hyc
              replace HM := Lib.hid (HM.out hyc)
              clear hyc HE
              go_wp2_with fail
              go_ret
              exact ⟨ret_bool (by rw [HRw.out, HM.out]), hC.out⟩
            · have hyb : (y == c) = false := by simpa using hyc
              have HYc := Lib.hid hyc
              clear hyc HM
              go_wp2_with fail
              go_roundw
              case rel => exact ⟨k + 1, by omega, by go_num, hC, hB, Lib.hid (fun j h1 h3 => if h : j = k then by rw [HE.out j h1 h]; exact HYc.out else HN.out j h1 (by omega))⟩
              case measure => simp [intOf]; omega
          · obtain rfl : k = wl.length := by omega
            have HM : Hid (wl.any (fun m => m.c == c) = false) := Lib.hid (by
              rw [List.any_eq_false]
              intro m hm
              obtain ⟨j, hj, rfl⟩ := List.getElem_of_mem hm
              have := HN.out j hj hj
              simpa using this)
            go_wp2_with fail
            go_ret
            exact ⟨ret_bool (by rw [HRw.out, HM.out]), hC.out⟩
      · subst h
        exact absurd h8 (by decide)
      · subst h
        clear ha
        have b9 : (ow == c) = false := by simpa using h9
        go_enter Try.func38, Try.ntmps38
        go_wp2_with fail
        go_loopw [5] (fun i wr => ∃ k : Nat, k ≤ wl.length ∧ i = .int .i64 k ∧ Hid (Chg [] w wr) ∧ Hid (Blk wr w.heap.size [.int .i64 ow, .slice shA sh.length shc, .int .i64 uk, .int .i64 uc, .int .i64 ul, .int .u64 u0, .int .u64 u1, .int .u64 u2, .int .u64 u3, .int .u64 u4, .int .u64 u5, .int .u64 u6, .int .u64 u7, .int .i64 4, .slice akA ak.length akc, .int .i64 asked, .slice wtA wl.length wtc] 99) ∧ Hid (∀ (j : Nat) (h1 : j < wl.length), j < k → wl[j].c ≠ c))
          (fun i _ => wl.length - (intOf i).toNat)
        case atStart => exact ⟨0, by omega, rfl, HC, HB, Lib.hid (fun j h h2 => by omega)⟩
        case round =>
          obtain ⟨k, hk, rfl, hC, hB, HN⟩ := hrel
          have x6 : wr.cell? ⟨w.heap.size, 16, none⟩ = some (.slice wtA wl.length wtc) := hB.out.cell 16
          have xlt : w.heap.size < wr.heap.size := hB.out.lt
          by_cases hlt : k < wl.length
          · obtain ⟨b, off, hA, hb9, hc9⟩ := rd_msg (HW.out.chg0 hC.out) hlt
            subst hA
            have cc : wr.cell? ⟨b, off + k * 11 + 1, none⟩ = some (.int .i64 wl[k].c) := by have := hc9 1 (by decide); rw [← Nat.add_assoc] at this; exact this
            have hki : (k : Int) < wl.length := by omega
            have HE : Hid (∀ (j : Nat) (h1 : j < wl.length), j = k → wl[j].c = wl[k].c) := Lib.hid (fun j h1 e => by subst e; rfl)
            have HM : Hid (wl[k].c = c → wl.any (fun m => m.c == c) = true) := Lib.hid (fun e => List.any_eq_true.2 ⟨wl[k], List.getElem_mem hlt, by rw [e]; simp⟩)
            obtain ⟨y, hy⟩ : ∃ y, wl[k].c = y := ⟨_, rfl⟩
            rw [hy] at HE HM cc
            clear hy hc9
            by_cases hyc : y = c
            · have hyb : (y == c) = true := by simpa using hyc
              replace HM := Lib.hid (HM.out hyc)
              clear hyc HE
              go_wp2_with fail
              go_ret
              exact ⟨ret_bool (by rw [HRw.out, HM.out]), hC.out⟩
            · have hyb : (y == c) = false := by simpa using hyc
              have HYc := Lib.hid hyc
              clear hyc HM
              go_wp2_with fail
              go_roundw
              case rel => exact ⟨k + 1, by omega, by go_num, hC, hB, Lib.hid (fun j h1 h3 => if h : j = k then by rw [HE.out j h1 h]; exact HYc.out else HN.out j h1 (by omega))⟩
              case measure => simp [intOf]; omega
          · obtain rfl : k = wl.length := by omega
            have HM : Hid (wl.any (fun m => m.c == c) = false) := Lib.hid (by
              rw [List.any_eq_false]
              intro m hm
              obtain ⟨j, hj, rfl⟩ := List.getElem_of_mem hm
              have := HN.out j hj hj
              simpa using this)
            go_wp2_with fail
            go_ret
            exact ⟨ret_bool (by rw [HRw.out, HM.out]), hC.out⟩
      · subst h
        exact absurd h8 (by decide)
      · have b0 : (ph == 0) = false := by simpa using ha
        have b4 : (ph == 4) = false := by simpa using hb
        have b1 : (uc == c) = false := by simpa using h
        have b9 : (ow == c) = false := by simpa using h9
        go_enter Try.func38, Try.ntmps38
        go_wp2_with fail
        go_loopw [5] (fun i wr => ∃ k : Nat, k ≤ wl.length ∧ i = .int .i64 k ∧ Hid (Chg [] w wr) ∧ Hid (Blk wr w.heap.size [.int .i64 ow, .slice shA sh.length shc, .int .i64 uk, .int .i64 uc, .int .i64 ul, .int .u64 u0, .int .u64 u1, .int .u64 u2, .int .u64 u3, .int .u64 u4, .int .u64 u5, .int .u64 u6, .int .u64 u7, .int .i64 ph, .slice akA ak.length akc, .int .i64 asked, .slice wtA wl.length wtc] 99) ∧ Hid (∀ (j : Nat) (h1 : j < wl.length), j < k → wl[j].c ≠ c))
          (fun i _ => wl.length - (intOf i).toNat)
        case atStart => exact ⟨0, by omega, rfl, HC, HB, Lib.hid (fun j h h2 => by omega)⟩
        case round =>
          obtain ⟨k, hk, rfl, hC, hB, HN⟩ := hrel
          have x6 : wr.cell? ⟨w.heap.size, 16, none⟩ = some (.slice wtA wl.length wtc) := hB.out.cell 16
          have xlt : w.heap.size < wr.heap.size := hB.out.lt
          by_cases hlt : k < wl.length
          · obtain ⟨b, off, hA, hb9, hc9⟩ := rd_msg (HW.out.chg0 hC.out) hlt
            subst hA
            have cc : wr.cell? ⟨b, off + k * 11 + 1, none⟩ = some (.int .i64 wl[k].c) := by have := hc9 1 (by decide); rw [← Nat.add_assoc] at this; exact this
            have hki : (k : Int) < wl.length := by omega
            have HE : Hid (∀ (j : Nat) (h1 : j < wl.length), j = k → wl[j].c = wl[k].c) := Lib.hid (fun j h1 e => by subst e; rfl)
            have HM : Hid (wl[k].c = c → wl.any (fun m => m.c == c) = true) := Lib.hid (fun e => List.any_eq_true.2 ⟨wl[k], List.getElem_mem hlt, by rw [e]; simp⟩)
            obtain ⟨y, hy⟩ : ∃ y, wl[k].c = y := ⟨_, rfl⟩
            rw [hy] at HE HM cc
            clear hy hc9
            by_cases hyc : y = c
            · have hyb : (y == c) = true := by simpa using hyc
              replace HM := Lib.hid (HM.out hyc)
              clear hyc HE
              go_wp2_with fail
              go_ret
              exact ⟨ret_bool (by rw [HRw.out, HM.out]), hC.out⟩
            · have hyb : (y == c) = false := by simpa using hyc
              have HYc := Lib.hid hyc
              clear hyc HM
              go_wp2_with fail
              go_roundw
              case rel => exact ⟨k + 1, by omega, by go_num, hC, hB, Lib.hid (fun j h1 h3 => if h : j = k then by rw [HE.out j h1 h]; exact HYc.out else HN.out j h1 (by omega))⟩
              case measure => simp [intOf]; omega
          · obtain rfl : k = wl.length := by omega
            have HM : Hid (wl.any (fun m => m.c == c) = false) := Lib.hid (by
              rw [List.any_eq_false]
              intro m hm
              obtain ⟨j, hj, rfl⟩ := List.getElem_of_mem hm
              have := HN.out j hj hj
              simpa using this)
            go_wp2_with fail
            go_ret
            exact ⟨ret_bool (by rw [HRw.out, HM.out]), hC.out⟩
      · have b1 : (uc == c) = false := by simpa using h
        clear ha hb
        subst h8
        subst h9
        go_enter Try.func38, Try.ntmps38
        go_wp2_with fail
        go_loopw [5] (fun i wr => ∃ k : Nat, k ≤ wl.length ∧ i = .int .i64 k ∧ Hid (Chg [] w wr) ∧ Hid (Blk wr w.heap.size [.int .i64 ow, .slice shA sh.length shc, .int .i64 uk, .int .i64 uc, .int .i64 ul, .int .u64 u0, .int .u64 u1, .int .u64 u2, .int .u64 u3, .int .u64 u4, .int .u64 u5, .int .u64 u6, .int .u64 u7, .int .i64 2, .slice akA ak.length akc, .int .i64 asked, .slice wtA wl.length wtc] 99) ∧ Hid (∀ (j : Nat) (h1 : j < wl.length), j < k → wl[j].c ≠ ow))
          (fun i _ => wl.length - (intOf i).toNat)
        case atStart => exact ⟨0, by omega, rfl, HC, HB, Lib.hid (fun j h h2 => by omega)⟩
        case round =>
          obtain ⟨k, hk, rfl, hC, hB, HN⟩ := hrel
          have x6 : wr.cell? ⟨w.heap.size, 16, none⟩ = some (.slice wtA wl.length wtc) := hB.out.cell 16
          have xlt : w.heap.size < wr.heap.size := hB.out.lt
          by_cases hlt : k < wl.length
          · obtain ⟨b, off, hA, hb9, hc9⟩ := rd_msg (HW.out.chg0 hC.out) hlt
            subst hA
            have cc : wr.cell? ⟨b, off + k * 11 + 1, none⟩ = some (.int .i64 wl[k].c) := by have := hc9 1 (by decide); rw [← Nat.add_assoc] at this; exact this
            have hki : (k : Int) < wl.length := by omega
            have HE : Hid (∀ (j : Nat) (h1 : j < wl.length), j = k → wl[j].c = wl[k].c) := Lib.hid (fun j h1 e => by subst e; rfl)
            have HM : Hid (wl[k].c = ow → wl.any (fun m => m.c == ow) = true) := Lib.hid (fun e => List.any_eq_true.2 ⟨wl[k], List.getElem_mem hlt, by rw [e]; simp⟩)
            obtain ⟨y, hy⟩ : ∃ y, wl[k].c = y := ⟨_, rfl⟩
            rw [hy] at HE HM cc
            clear hy hc9
            by_cases hyc : y = ow
            · have hyb : (y == ow) = true := by simpa using hyc
              replace HM := Lib.hid (HM.out hyc)
              clear hyc HE
              go_wp2_with fail
              go_ret
              exact ⟨ret_bool (by rw [HRw.out, HM.out]), hC.out⟩
            · have hyb : (y == ow) = false := by simpa using hyc
              have HYc := Lib.hid hyc
              clear hyc HM
              go_wp2_with fail
              go_roundw
              case rel => exact ⟨k + 1, by omega, by go_num, hC, hB, Lib.hid (fun j h1 h3 => if h : j = k then by rw [HE.out j h1 h]; exact HYc.out else HN.out j h1 (by omega))⟩
              case measure => simp [intOf]; omega
          · obtain rfl : k = wl.length := by omega
            have HM : Hid (wl.any (fun m => m.c == ow) = false) := Lib.hid (by
              rw [List.any_eq_false]
              intro m hm
              obtain ⟨j, hj, rfl⟩ := List.getElem_of_mem hm
              have := HN.out j hj hj
              simpa using this)
            go_wp2_with fail
            go_ret
            exact ⟨ret_bool (by rw [HRw.out, HM.out]), hC.out⟩
end Go.Proofs.Ytepdhajgemmoiaa
