/- still. -/
import Derived.Test.YtobpknbnfkjnhaaLogR4
namespace Go.Proofs.Ytobpknbnfkjnhaa
open Go.RowKit

theorem quiet_add {P : Program} {f : FuncId} {args : Array Value} {w : World} {a n : Nat} {v : Value}
    (h : Calls P f args (w.drewN (a + n)) fun e w' => e = .returned v ∧ ∃ m, w' = (w.drewN (a + n)).drewN m) :
    Calls P f args (w.drewN (a + n)) fun e w'' => e = .returned v ∧ ∃ m, w'' = w.drewN (a + m) :=
  h.mono fun _ _ ⟨he, m, hm⟩ => ⟨he, n + m, by rw [hm, World.drewN_drewN, Nat.add_assoc]⟩

set_option maxRecDepth 100000 in
set_option maxHeartbeats 2000000 in
theorem still_any (w : World) (M : List Nat) (kb : Nat) (K : List Nat) (vt vu : Value) (ts us : List SlP) (hts : ts.length ≤ 3000) (h : KeptAt w M kb K vt vu ts us) :
    Calls Try.prog 22 #[.pointer (some ⟨kb, 0, none⟩)] w fun e w' => e = .returned (.bool true) ∧ ∃ q, w' = w.drewN q := by
  obtain ⟨At, ct, rfl, _, _, _, hRt, _⟩ := Rd.of_row encV_len h.told
  obtain ⟨Au, cu, rfl, _, _, _, hRu, _⟩ := Rd.of_row encV_len h.was
  have hlen := h.len
  have k0 : w.cell? ⟨kb, 0, none⟩ = some (.slice At ts.length ct) := h.blk.cell 0
  have k1 : w.cell? ⟨kb, 1, none⟩ = some (.slice Au us.length cu) := h.blk.cell 1
  have hsame := h.same
  have HSm := Lib.hid hsame
  have HF := Lib.hid h.few
  have HFt := Lib.hid h.ft
  have HFu := Lib.hid h.fu
  have HRt := Lib.hid hRt
  have HRu := Lib.hid hRu
  have hts' : (ts.length : Int) ≤ 3000 := by omega
  rw [hlen] at k1
  have HLn := Lib.hid hlen
  clear h hlen hsame hRt hRu
  go_enter Try.func22, Try.ntmps22
  go_wp2_with fail
  go_loopw [3] (fun i wr => SpRel w ts.length i wr) (fun i _ => ts.length - (intOf i).toNat)
  case atStart => exact ⟨0, 0, Nat.zero_le _, rfl, rfl⟩
  case round =>
    obtain ⟨k, q, hk, rfl, rfl⟩ := hrel
    by_cases hlt : k < ts.length
    · have hltu : k < us.length := by rw [HLn.out]; exact hlt
      have hl : us[k].l = ts[k].l := by
        have h1 : (ts.map SlP.l)[k]? = (us.map SlP.l)[k]? := by rw [HSm.out]
        rw [List.getElem?_map, List.getElem?_map, List.getElem?_eq_getElem hlt, List.getElem?_eq_getElem hltu] at h1
        simpa using h1.symm
      obtain ⟨b, off, rfl, _, c⟩ := HRt.out (by omega)
      obtain ⟨b2, off2, rfl, _, c2⟩ := HRu.out (by omega)
      have d0 : w.cell? ⟨b, off + k, none⟩ = some (.slice ts[k].A ts[k].l.length ts[k].cap) := by
        have := c k hlt 0 (by decide)
        rw [Nat.mul_one, Nat.add_zero] at this
        rw [this]; rfl
      have d1 : w.cell? ⟨b2, off2 + k, none⟩ = some (.slice us[k].A us[k].l.length us[k].cap) := by
        have := c2 k hltu 0 (by decide)
        rw [Nat.mul_one, Nat.add_zero] at this
        rw [this]; rfl
      have HA := Lib.hid (HFt.out _ (List.getElem_mem hlt)).rd
      have HB := Lib.hid (HFu.out _ (List.getElem_mem hltu)).rd
      have hfew := HF.out _ (List.getElem_mem hlt)
      rw [hl] at d1 HB
      have h1000 : ts[k].l.length ≤ 1000 := by omega
      clear c c2 hl
      generalize ts[k].l = l at *
      generalize ts[k].A = A at *
      generalize ts[k].cap = ca at *
      generalize us[k].A = A2 at *
      generalize us[k].cap = cb at *
      go_wp2_with fail
      go_quiet ((go_at_call 21; exact quiet_add (SameP_q _ _ _ _ _ _ _ l h1000 (HA.out.chg0 ((Chg.refl _ _).drewN _)) (HB.out.chg0 ((Chg.refl _ _).drewN _)))))
      go_wp2_with fail
      go_roundw
      case rel => exact ⟨k + 1, _, by omega, by go_num, rfl⟩
      case measure => simp [intOf]; omega
    · obtain rfl : k = ts.length := by omega
      go_wp2_with fail
      go_ret
      exact ⟨rfl, q, rfl⟩

end Go.Proofs.Ytobpknbnfkjnhaa
