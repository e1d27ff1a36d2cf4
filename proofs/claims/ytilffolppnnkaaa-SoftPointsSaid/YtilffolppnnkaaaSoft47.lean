/- SoftPoints: paths over one memory, whoever's turn it is. -/
import Derived.Test.YtilffolppnnkaaaSoft46
import Derived.Test.YtilffolppnnkaaaSoft19
namespace Go.Proofs.Ytilffolppnnkaaa
set_option maxRecDepth 100000
open Go.RowKit

theorem SlOk.chg0 {w w' : World} {s : SlO} (h : SlOk w s) (hC : Chg [] w w') : SlOk w' s := ⟨h.1, h.2.chg0 hC⟩

set_option maxHeartbeats 4000000 in
theorem SoftPoints_any (w : World) (A : Option Addr) (cap : Nat) (ws : List Int) (seq : Int) (AP : Option Addr) (capP : Nat) (ps : List SlO) (AK : Option Addr) (capK : Nat) (ks : List Int) (hws : ∀ y ∈ ws, w64ok y) (hR : Rd w w.heap.size A 1 encU ws) (hsq : w64ok seq)
    (hps : ∀ s ∈ ps, SlOk w s) (hRP : Rd w w.heap.size AP 1 encSl ps) (hks : ∀ y ∈ ks, (Lit.int .u8 y).wf = true) (hRK : Rd w w.heap.size AK 1 encK ks) (hpm : ps.length ≤ maxLen) :
    Calls Try.prog 9 #[.slice A ws.length cap, .agg #[.int .u64 seq, .slice AP ps.length capP, .slice AK ks.length capK]] w (StaysPost w) := by
  have HW := Lib.hid hws
  have HR := Lib.hid hR
  have HS := Lib.hid hsq
  have HPs := Lib.hid hps
  have HRP := Lib.hid hRP
  have HKs := Lib.hid hks
  have HRK := Lib.hid hRK
  have HPm := Lib.hid hpm
  clear hws hR hsq hps hRP hks hRK hpm
  go_enter Try.func9, Try.ntmps9
  go_wp2_with fail
  have hX := Blk.new w [.int .u64 seq, .slice AP ps.length capP, .slice AK ks.length capK] 74
  have hC1 := (Chg.refl [] w).alloc (.cells #[.int .u64 seq, .slice AP ps.length capP, .slice AK ks.length capK] 74)
  have HX := Lib.hid hX
  have HC1 := Lib.hid hC1
  clear hX hC1
  generalize w.alloc _ = w1 at *
  obtain ⟨bx, hbx⟩ : ∃ bx, w.heap.size = bx := ⟨_, rfl⟩
  have HBx := Lib.hid hbx
  rw [hbx] at HX ⊢
  clear hbx
  refine (alive_any w1).mono ?_
  rintro e w2 ⟨rfl, hB⟩
  have HC2 := Lib.hid (HC1.out.trans (Chg.of_below hB []))
  have HX2 := Lib.hid ((Chg.of_below hB []).blk HX.out (by simp))
  clear hB
  have x0 : w2.cell? ⟨bx, 0, none⟩ = some (.int .u64 seq) := HX2.out.cell 0
  have x1 : w2.cell? ⟨bx, 1, none⟩ = some (.slice AP ps.length capP) := HX2.out.cell 1
  have x2 : w2.cell? ⟨bx, 2, none⟩ = some (.slice AK ks.length capK) := HX2.out.cell 2
  by_cases hl1 : ws.length ≤ 100
  · have hl1' : ¬ (100 : Int) < (ws.length : Int) := by omega
    by_cases hl2 : ks.length ≤ 3000
    · have hl2' : ¬ (3000 : Int) < (ks.length : Int) := by omega
      have HL := Lib.hid (And.intro hl1 hl2)
      clear hl1 hl2
      go_wp2_with fail
      go_loopw [6] (fun i wx => ∃ j : Nat, j ≤ ps.length ∧ i = .int .i64 j ∧ (∀ i (hi : i < ps.length), i < j → ps[i].xs.length ≤ 100) ∧ wx = w2) (fun i _ => ps.length - (intOf i).toNat)
      case atStart => exact ⟨0, Nat.zero_le _, rfl, fun i hi h => absurd h (by omega), rfl⟩
      case round =>
        obtain ⟨j, hj, rfl, hall, rfl⟩ := hrel
        rename World => w2
        have HAll := Lib.hid hall
        clear hall
        by_cases hlt : j < ps.length
        · have hji : (j : Int) < (ps.length : Int) := by omega
          have hjm : (j : Int) < 9223372036854775807 := by have := HPm.out; unfold maxLen at this; omega
          obtain ⟨bp, op, rfl, hbp, hcp⟩ := HRP.out.keep (Nat.le_refl _) HC2.out (by simp) (by omega)
          have c0 : w2.cell? ⟨bp, op + j, none⟩ = some (.slice (ps[j]'hlt).A (ps[j]'hlt).xs.length (ps[j]'hlt).cap) := by simpa [encSl] using hcp j hlt 0 (by decide)
          have HJ := Lib.hid hlt
          have hbd := hlt
          generalize hsj : ps[j]'hlt = sj at c0
          have HSj := Lib.hid (show ∀ hi : j < ps.length, ps[j]'hi = sj from fun _ => hsj)
          clear hcp hbp hlt hsj hbd
          by_cases h100 : sj.xs.length ≤ 100
          · have h100' : ¬ (100 : Int) < (sj.xs.length : Int) := by omega
            have H100 := Lib.hid h100
            clear h100
            go_wp2_with fail
            go_roundw
            case rel =>
              refine ⟨j + 1, HJ.out, by go_num, fun i hi h => ?_, by first | rfl | trivial⟩
              by_cases e : i = j
              · subst e; rw [HSj.out hi]; exact H100.out
              · exact HAll.out i hi (by omega)
            case measure => have := HJ.out; simp [intOf]; omega
          · have h100' : (100 : Int) < (sj.xs.length : Int) := by omega
            clear h100
            go_wp2_with fail
            go_ret
            exact ⟨rfl, HC2.out.nil_below⟩
        · have hji : ¬ (j : Int) < (ps.length : Int) := by omega
          have HA2 := Lib.hid (show ∀ s ∈ ps, SlOk w2 s ∧ s.xs.length ≤ 100 from fun s hs => ⟨(HPs.out s hs).chg0 HC2.out, by
            obtain ⟨i, hi, rfl⟩ := List.getElem_of_mem hs
            exact HAll.out i hi (by omega)⟩)
          clear hlt
          go_wp2_with fail
          refine (shared_any w2 A cap ws seq AP capP ps AK capK ks HW.out HL.out.1 (HR.out.chg0 HC2.out) HS.out HA2.out (HRP.out.chg0 HC2.out) HKs.out HL.out.2 (HRK.out.chg0 HC2.out)).mono ?_
          rintro e w3 ⟨rfl, hb3⟩
          have HC3 := Lib.hid (HC2.out.trans (Chg.of_below hb3 []))
          clear hb3
          go_wp2_with fail
          go_ret
          exact ⟨rfl, HC3.out.nil_below⟩
    · have hl2' : (3000 : Int) < (ks.length : Int) := by omega
      clear hl1 hl2
      go_wp2_with fail
      go_ret
      exact ⟨rfl, HC2.out.nil_below⟩
  · have hl1' : (100 : Int) < (ws.length : Int) := by omega
    clear hl1
    go_wp2_with fail
    go_ret
    exact ⟨rfl, HC2.out.nil_below⟩

end Go.Proofs.Ytilffolppnnkaaa
