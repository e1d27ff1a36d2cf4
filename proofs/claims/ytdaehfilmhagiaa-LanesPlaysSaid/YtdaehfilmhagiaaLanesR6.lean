/- The document's Abort beside the control's. -/
import Derived.Test.YtdaehfilmhagiaaLanesR5
namespace Go.Proofs.Ytdaehfilmhagiaa
open Go.RowKit

def absList (C : LC) (n : Int) (ls : List Int) : List Int := if C.within ∧ codeOk n then ls ++ [C.lane] else ls
def refAbortPost (w : World) (b : Nat) (C : LC) (f s o n : Int) (ls : List Int) (e : Ending) (w' : World) : Prop :=
  e = .returned (.tuple #[.int .i64 (abortLane C n), .int .i64 (abortErr C n)]) ∧ RefAt w' b f s o (C.abort n).lane (absList C n ls) ∧ Chg [b] w w'

theorem refAbort_any (w : World) (b : Nat) (C : LC) (f s o n : Int) (ls : List Int) (hok : C.Ok) (ha : Alike C f s o ls) (h : RefAt w b f s o C.lane ls) :
    Calls Try.prog 29 #[.pointer (some ⟨b, 0, none⟩), .int .i64 n] w (refAbortPost w b C f s o n ls) := by
  have htm := tries_most hok
  rw [ha.len] at htm
  have hbd := hok.bud
  obtain ⟨⟨p1, p2⟩, ⟨p3, p4⟩, ⟨p5, p6⟩⟩ := hbd
  have hlen : ls.length < 100 := by omega
  clear htm p1 p2 p3 p4 p5 p6
  by_cases hw : C.within
  · by_cases hn : codeOk n
    · have eL := abortLane_in hw hn
      have eE := abortErr_in hw hn
      have eA : absList C n ls = ls ++ [C.lane] := by unfold absList; rw [if_pos ⟨hw, hn⟩]
      unfold refAbortPost
      rw [eL, eE, eA]
      obtain ⟨n1, n8, n7⟩ := id hn
      have n7' : (n == 7) = false := by simpa using n7
      obtain ⟨f1, s1, o1, lane, c0, c1, c2, c3, c4⟩ := C
      obtain ⟨⟨rfl, rfl, rfl⟩, k1, k2, k3, k4, _⟩ := ha
      have ob1 := hok.open1
      have ob2 := hok.open2
      have ob3 := hok.open3
      dsimp only at *
      rcases hw with e | e | e <;> dsimp only at e <;> subst e
      · by_cases hn3 : n = 3
        · subst hn3
          refine (refAbort_cap1 w b f1 s1 o1 ls hlen h).mono fun e w' hh => ?_
          obtain ⟨rfl, r2, r3⟩ := hh
          have eq : (LC.abort ⟨f1, s1, o1, 1, c0, c1, c2, c3, c4⟩ 3).lane = nextFrom f1 s1 o1 3 := by
            have hx := next_from (C := ⟨f1, s1, o1, 1, c0, c1, c2, c3, c4⟩) (f := f1) (s := s1) (o := o1) ⟨rfl, rfl, rfl⟩ (k := 2) (by decide)
            rw [show ((2 : Nat) : Int) + 1 = 3 from rfl] at hx
            rw [hx]
            simp [LC.abort, LC.within, codeOk, LC.to, LC.next]
          rw [eq]
          exact ⟨rfl, r2, r3⟩
        · have hne : (n == 3) = false := by simpa using hn3
          by_cases hf : c1 + 1 = f1
          · have hb : f1 ≤ cnt (ls ++ [1]) 1 := by rw [cnt_snoc, if_pos rfl, ← k1]; omega
            refine (refAbort_full1 w b f1 s1 o1 n ls n1 n8 n7' hne hb hlen h).mono fun e w' hh => ?_
            obtain ⟨rfl, r2, r3⟩ := hh
            have eq : (LC.abort ⟨f1, s1, o1, 1, c0, c1, c2, c3, c4⟩ n).lane = nextFrom f1 s1 o1 2 := by
              have hx := next_from (C := ⟨f1, s1, o1, 1, c0, c1 + 1, c2, c3, c4⟩) (f := f1) (s := s1) (o := o1) ⟨rfl, rfl, rfl⟩ (k := 1) (by decide)
              rw [show ((1 : Nat) : Int) + 1 = 2 from rfl] at hx
              rw [hx]
              simp [LC.abort, LC.within, hn, LC.inc, LC.cnt, LC.have, LC.to, hf, hn3]
              rfl
            rw [eq]
            exact ⟨rfl, r2, r3⟩
          · have hlt : c1 + 1 < f1 := by have := ob1 rfl; omega
            have hb : cnt (ls ++ [1]) 1 < f1 := by rw [cnt_snoc, if_pos rfl, ← k1]; omega
            refine (refAbort_not1 w b f1 s1 o1 n ls n1 n8 n7' hne hb hlen h).mono fun e w' hh => ?_
            obtain ⟨rfl, r2, r3⟩ := hh
            have eq : (LC.abort ⟨f1, s1, o1, 1, c0, c1, c2, c3, c4⟩ n).lane = 1 := by simp [LC.abort, LC.within, hn, LC.inc, LC.cnt, LC.have, LC.to, hf, hn3]
            rw [eq]
            exact ⟨rfl, r2, r3⟩
      · by_cases hn3 : n = 3
        · subst hn3
          refine (refAbort_cap2 w b f1 s1 o1 ls hlen h).mono fun e w' hh => ?_
          obtain ⟨rfl, r2, r3⟩ := hh
          have eq : (LC.abort ⟨f1, s1, o1, 2, c0, c1, c2, c3, c4⟩ 3).lane = nextFrom f1 s1 o1 3 := by
            have hx := next_from (C := ⟨f1, s1, o1, 2, c0, c1, c2, c3, c4⟩) (f := f1) (s := s1) (o := o1) ⟨rfl, rfl, rfl⟩ (k := 2) (by decide)
            rw [show ((2 : Nat) : Int) + 1 = 3 from rfl] at hx
            rw [hx]
            simp [LC.abort, LC.within, codeOk, LC.to, LC.next]
          rw [eq]
          exact ⟨rfl, r2, r3⟩
        · have hne : (n == 3) = false := by simpa using hn3
          by_cases hf : c2 + 1 = s1
          · have hb : s1 ≤ cnt (ls ++ [2]) 2 := by rw [cnt_snoc, if_pos rfl, ← k2]; omega
            refine (refAbort_full2 w b f1 s1 o1 n ls n1 n8 n7' hne hb hlen h).mono fun e w' hh => ?_
            obtain ⟨rfl, r2, r3⟩ := hh
            have eq : (LC.abort ⟨f1, s1, o1, 2, c0, c1, c2, c3, c4⟩ n).lane = nextFrom f1 s1 o1 3 := by
              have hx := next_from (C := ⟨f1, s1, o1, 2, c0, c1, c2 + 1, c3, c4⟩) (f := f1) (s := s1) (o := o1) ⟨rfl, rfl, rfl⟩ (k := 2) (by decide)
              rw [show ((2 : Nat) : Int) + 1 = 3 from rfl] at hx
              rw [hx]
              simp [LC.abort, LC.within, hn, LC.inc, LC.cnt, LC.have, LC.to, hf, hn3]
              rfl
            rw [eq]
            exact ⟨rfl, r2, r3⟩
          · have hlt : c2 + 1 < s1 := by have := ob2 rfl; omega
            have hb : cnt (ls ++ [2]) 2 < s1 := by rw [cnt_snoc, if_pos rfl, ← k2]; omega
            refine (refAbort_not2 w b f1 s1 o1 n ls n1 n8 n7' hne hb hlen h).mono fun e w' hh => ?_
            obtain ⟨rfl, r2, r3⟩ := hh
            have eq : (LC.abort ⟨f1, s1, o1, 2, c0, c1, c2, c3, c4⟩ n).lane = 2 := by simp [LC.abort, LC.within, hn, LC.inc, LC.cnt, LC.have, LC.to, hf, hn3]
            rw [eq]
            exact ⟨rfl, r2, r3⟩
      · by_cases hf : c3 + 1 = o1
        · have hb : o1 ≤ cnt (ls ++ [3]) 3 := by rw [cnt_snoc, if_pos rfl, ← k3]; omega
          refine (refAbort_full3 w b f1 s1 o1 n ls n1 n8 n7' hb hlen h).mono fun e w' hh => ?_
          obtain ⟨rfl, r2, r3⟩ := hh
          have eq : (LC.abort ⟨f1, s1, o1, 3, c0, c1, c2, c3, c4⟩ n).lane = nextFrom f1 s1 o1 4 := by
            have hx := next_from (C := ⟨f1, s1, o1, 3, c0, c1, c2, c3 + 1, c4⟩) (f := f1) (s := s1) (o := o1) ⟨rfl, rfl, rfl⟩ (k := 3) (by decide)
            rw [show ((3 : Nat) : Int) + 1 = 4 from rfl] at hx
            rw [hx]
            simp [LC.abort, LC.within, hn, LC.inc, LC.cnt, LC.have, LC.to, hf]
            rfl
          rw [eq]
          exact ⟨rfl, r2, r3⟩
        · have hlt : c3 + 1 < o1 := by have := ob3 rfl; omega
          have hb : cnt (ls ++ [3]) 3 < o1 := by rw [cnt_snoc, if_pos rfl, ← k3]; omega
          refine (refAbort_not3 w b f1 s1 o1 n ls n1 n8 n7' hb hlen h).mono fun e w' hh => ?_
          obtain ⟨rfl, r2, r3⟩ := hh
          have eq : (LC.abort ⟨f1, s1, o1, 3, c0, c1, c2, c3, c4⟩ n).lane = 3 := by simp [LC.abort, LC.within, hn, LC.inc, LC.cnt, LC.have, LC.to, hf]
          rw [eq]
          exact ⟨rfl, r2, r3⟩
    · have e1 : C.abort n = C := by unfold LC.abort; rw [if_neg (fun x => hn x.2)]
      have e2 : abortLane C n = 0 := by unfold abortLane; rw [if_neg (fun x => hn x.2)]
      have e3 : abortErr C n = 2 := by unfold abortErr; rw [if_neg (by simpa using hw), if_neg hn]
      have e4 : absList C n ls = ls := by unfold absList; rw [if_neg (fun x => hn x.2)]
      unfold refAbortPost
      rw [e1, e2, e3, e4]
      exact (refAbort_bad w b f s o C.lane n ls hw hn h).mono fun e w' hh => ⟨hh.1, hh.2.1, hh.2.2⟩
  · have e1 : C.abort n = C := by unfold LC.abort; rw [if_neg (fun x => hw x.1)]
    have e2 : abortLane C n = 0 := by unfold abortLane; rw [if_neg (fun x => hw x.1)]
    have e3 : abortErr C n = 90 := by unfold abortErr; rw [if_pos hw]
    have e4 : absList C n ls = ls := by unfold absList; rw [if_neg (fun x => hw x.1)]
    have h0 := hok.l0
    have h4 := hok.l4
    have hl : C.lane = 0 ∨ C.lane = 4 := by unfold LC.within at hw; omega
    unfold refAbortPost
    rw [e1, e2, e3, e4]
    rcases hl with e | e <;> rw [e] at h ⊢
    · exact (refAbort_out0 w b f s o n ls h).mono fun e w' hh => ⟨hh.1, hh.2.1, hh.2.2⟩
    · exact (refAbort_out4 w b f s o n ls h).mono fun e w' hh => ⟨hh.1, hh.2.1, hh.2.2⟩

end Go.Proofs.Ytdaehfilmhagiaa
