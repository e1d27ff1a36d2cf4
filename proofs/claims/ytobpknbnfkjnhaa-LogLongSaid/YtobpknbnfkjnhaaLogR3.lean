/- The document's Broken. -/
import Derived.Test.YtobpknbnfkjnhaaLogR2
namespace Go.Proofs.Ytobpknbnfkjnhaa
open Go.RowKit

def BrRel (W : World) (R now : PL) (i : Value) (wr : World) : Prop := ∃ k : Nat, k ≤ R.length ∧ i = .int .i64 k ∧ (∀ j (hj : j < R.length), j < k → bad now R[j] = false) ∧ wr = W

set_option maxRecDepth 100000 in
set_option maxHeartbeats 2000000 in
theorem BrokenR_any (w : World) (N : List Nat) (d : Nat) (R W now : PL) (A : Option Addr) (cap B : Nat) (hR : R.length ≤ 128) (hn : now.length ≤ 1000) (hA : RdP w B A now) (h : DocAt w N d R W) :
    Calls Try.prog 34 #[.pointer (some ⟨d, 0, none⟩), .slice A now.length cap] w fun e w' => e = .returned (.tuple #[.int .i64 (brkI R now), .bool (brk R now).isSome]) ∧ w = w' := by
  obtain ⟨r, u, rfl, rfl, hb, h1, h2⟩ := h
  have k0 : w.cell? ⟨d, 0, none⟩ = some (.slice r.A r.l.length r.cap) := hb.cell 0
  have hRl : (r.l.length : Int) ≤ 128 := by omega
  have HA := Lib.hid hA
  have H1 := Lib.hid h1.rd
  clear hb h1 h2 hA
  go_enter Try.func34, Try.ntmps34
  go_wp2_with fail
  go_loopw [6] (fun i wr => BrRel w r.l now i wr) (fun i _ => r.l.length - (intOf i).toNat)
  case atStart => exact ⟨0, Nat.zero_le _, rfl, fun _ _ h => absurd h (by omega), rfl⟩
  case round =>
    obtain ⟨k, hk, rfl, hno, rfl⟩ := hrel
    have HN := Lib.hid hno
    clear hno
    by_cases hlt : k < r.l.length
    · obtain ⟨g, off, he, _, c⟩ := H1.out (by omega)
      rw [he] at k0
      have c0 : wr.cell? ⟨g, off + k * 2, none⟩ = some (.int .i64 r.l[k].1) := c k hlt 0 (by decide)
      have c1 : wr.cell? ⟨g, off + k * 2 + 1, none⟩ = some (.int .u64 r.l[k].2) := c k hlt 1 (by decide)
      have HV := Lib.hid (Value_any wr A cap B now r.l[k].1 hn HA.out)
      have hbad : bad now r.l[k] = (isIn now r.l[k].1 && (valOf now r.l[k].1 != r.l[k].2)) := rfl
      by_cases hbb : bad now r.l[k] = true
      · have hbr : brk r.l now = some k := by
          rw [brk, List.findIdx?_eq_some_iff_getElem]
          exact ⟨hlt, hbb, fun j hj => by simpa using HN.out j (by omega) hj⟩
        have HBr := Lib.hid hbr
        rw [hbad, Bool.and_eq_true] at hbb
        obtain ⟨hi1, hv1⟩ := hbb
        rw [hi1] at HV
        clear c hbad hbr hi1
        generalize valOf now r.l[k].1 = v at *
        generalize r.l[k].1 = x1 at *
        generalize r.l[k].2 = x2 at *
        go_wp2_with fail
        refine HV.out.mono ?_
        rintro e w' ⟨rfl, rfl⟩
        go_wp2_with fail
        go_ret2
        exact ⟨by rw [brkI, HBr.out]; rfl, rfl⟩
      · have hbf : bad now r.l[k] = false := by simpa using hbb
        have HN2 := Lib.hid (show ∀ j (hj : j < r.l.length), j < k + 1 → bad now r.l[j] = false from fun j hj h => by
          by_cases e : j = k
          · subst e; exact hbf
          · exact HN.out j hj (by omega))
        rw [hbad] at hbf
        cases hi1 : isIn now r.l[k].1 with
        | false =>
          rw [hi1] at HV
          clear c hbad hbb hbf hi1
          generalize valOf now r.l[k].1 = v at *
          generalize r.l[k].1 = x1 at *
          generalize r.l[k].2 = x2 at *
          go_wp2_with fail
          refine HV.out.mono ?_
          rintro e w' ⟨rfl, rfl⟩
          go_wp2_with fail
          go_roundw
          case rel => exact ⟨k + 1, by omega, by go_num, HN2.out, rfl⟩
          case measure => simp [intOf]; omega
        | true =>
          rw [hi1, Bool.true_and] at hbf
          rw [hi1] at HV
          clear c hbad hbb hi1
          generalize valOf now r.l[k].1 = v at *
          generalize r.l[k].1 = x1 at *
          generalize r.l[k].2 = x2 at *
          go_wp2_with fail
          refine HV.out.mono ?_
          rintro e w' ⟨rfl, rfl⟩
          go_wp2_with fail
          go_roundw
          case rel => exact ⟨k + 1, by omega, by go_num, HN2.out, rfl⟩
          case measure => simp [intOf]; omega
    · obtain rfl : k = r.l.length := by omega
      have hbr : brk r.l now = none := by
        rw [brk, List.findIdx?_eq_none_iff]
        intro p hp
        obtain ⟨i, hi, rfl⟩ := List.getElem_of_mem hp
        simpa using HN.out i hi hi
      have HBr := Lib.hid hbr
      clear hbr
      go_wp2_with fail
      go_ret2
      exact ⟨by rw [brkI, HBr.out]; rfl, rfl⟩

end Go.Proofs.Ytobpknbnfkjnhaa
