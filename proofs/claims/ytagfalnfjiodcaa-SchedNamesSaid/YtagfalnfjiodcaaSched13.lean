/- The schedulers for whatever comes; one. -/
import Derived.Test.YtagfalnfjiodcaaSched11
namespace Go.Proofs.Ytagfalnfjiodcaa
open Go.RowKit

theorem mayL_zero {l : IL} {least m : Int} : mayL l least m = 0 ↔ Within least l ∧ 0 ≤ m ∧ m ≤ 10000 := by
  unfold mayL
  constructor
  · intro h
    split at h
    · cases h
    · rename_i h1
      split at h
      · cases h
      · rename_i h2
        refine ⟨⟨by omega, fun x hx => ?_⟩, by omega⟩
        have h3 : ¬ l.any (badN least) = true := fun h => h1 (.inr (.inr h))
        have h4 : badN least x ≠ true := fun hb => h3 (List.any_eq_true.2 ⟨x, hx, hb⟩)
        simp [badN] at h4
        omega
  · rintro ⟨⟨h1, h2⟩, h3⟩
    rw [if_neg (fun h => by
      rcases h with h | h | h
      · omega
      · omega
      · obtain ⟨x, hx, hb⟩ := List.any_eq_true.1 h
        have := h2 x hx
        simp [badN] at hb
        omega), if_neg (by omega)]
theorem mayL_or (l : IL) (least m : Int) : mayL l least m = 0 ∨ mayL l least m = 240 ∨ mayL l least m = 2 := by
  unfold mayL
  split
  · exact .inr (.inl rfl)
  · split
    · exact .inr (.inr rfl)
    · exact .inl rfl
theorem mayL_any (l : IL) (least : Int) {m : Int} (h : 0 ≤ m ∧ m ≤ 10000) : mayL l least m = mayL l least 0 := by
  unfold mayL
  rw [if_neg (show ¬(m < 0 ∨ 10000 < m) from by omega), if_neg (show ¬((0 : Int) < 0 ∨ 10000 < (0 : Int)) from by omega)]
theorem mayL_240 (l : IL) (least : Int) : mayL l least 0 = 0 ∨ mayL l least 0 = 240 := by
  unfold mayL
  split
  · exact .inr rfl
  · exact .inl rfl
theorem mayN_any (c : Int) {m : Int} (h : 0 ≤ m ∧ m ≤ 10000) : mayN c m = mayN c 0 := by
  unfold mayN
  rw [if_neg (show ¬(m < 0 ∨ 10000 < m) from by omega), if_neg (show ¬((0 : Int) < 0 ∨ 10000 < (0 : Int)) from by omega)]
theorem mayN_240 (c : Int) : (mayN c 0 = 0 ∧ 1 ≤ c ∧ c ≤ 4) ∨ (mayN c 0 = 240 ∧ (c < 1 ∨ 4 < c)) := by
  unfold mayN
  split
  · exact .inr ⟨rfl, by omega⟩
  · exact .inl ⟨rfl, by omega⟩

def weightsL (l : IL) (m : Int) : IL := if mayL l 1 m = 0 then outs (fun t => ((wC l (wSt l t) : Nat) : Int)) m.toNat else []
def ranksL (l : IL) (m : Int) : IL := if mayL l 0 m = 0 then outs (fun t => ((rC l (rSt l t) : Nat) : Int)) m.toNat else []
def roundsL (c m : Int) : IL := if mayN c m = 0 then outs (fun t => ((t % c.toNat : Nat) : Int)) m.toNat else []
def seedsL (c x m : Int) : IL := if mayN c m = 0 then outs (fun t => ((sC c.toNat (sX (max x 1) (t + 1)) (sSt c.toNat (max x 1) t) : Nat) : Int)) m.toNat else []

theorem Weights_any (w : World) (A : Option Addr) (cap : Nat) (l : IL) (m : Int) (hl : l.length ≤ 100) (hA : NumsA w A w.heap.size l) :
    Calls Try.prog 18 #[.slice A l.length cap, .int .i64 m] w (SPost w (weightsL l m) (mayL l 1 m)) := by
  by_cases h : mayL l 1 m = 0
  · obtain ⟨hw, hm⟩ := mayL_zero.1 h
    rw [weightsL, if_pos h, h]
    obtain ⟨M, rfl⟩ : ∃ M : Nat, m = M := ⟨m.toNat, by omega⟩
    exact Weights_ok w A cap M l hw hA (by omega)
  · rw [weightsL, if_neg h]
    exact Weights_bad w A cap l m _ hl hA rfl ((mayL_or l 1 m).resolve_left h)
theorem Ranks_any (w : World) (A : Option Addr) (cap : Nat) (l : IL) (m : Int) (hl : l.length ≤ 100) (hA : NumsA w A w.heap.size l) :
    Calls Try.prog 20 #[.slice A l.length cap, .int .i64 m] w (SPost w (ranksL l m) (mayL l 0 m)) := by
  by_cases h : mayL l 0 m = 0
  · obtain ⟨hw, hm⟩ := mayL_zero.1 h
    rw [ranksL, if_pos h, h]
    obtain ⟨M, rfl⟩ : ∃ M : Nat, m = M := ⟨m.toNat, by omega⟩
    exact Ranks_ok w A cap M l hw hA (by omega)
  · rw [ranksL, if_neg h]
    exact Ranks_bad w A cap l m _ hl hA rfl ((mayL_or l 0 m).resolve_left h)
theorem mayN_cases (c m : Int) : (mayN c m = 240 ∧ (c < 0 ∨ c = 0 ∨ c = 5 ∨ 5 < c)) ∨ (1 ≤ c ∧ c ≤ 4 ∧ mayN c m = 2 ∧ (m < 0 ∨ 10000 < m)) ∨ (1 ≤ c ∧ c ≤ 4 ∧ mayN c m = 0 ∧ 0 ≤ m ∧ m ≤ 10000) := by
  unfold mayN
  split
  · exact .inl ⟨rfl, by omega⟩
  · split
    · exact .inr (.inl ⟨by omega, by omega, rfl, by omega⟩)
    · exact .inr (.inr ⟨by omega, by omega, rfl, by omega⟩)
theorem Rounds_any (w : World) (c m : Int) :
    Calls Try.prog 12 #[.int .i64 c, .int .i64 m] w (SPost w (roundsL c m) (mayN c m)) := by
  rcases mayN_cases c m with ⟨e, h⟩ | ⟨h1, h4, e, h⟩ | ⟨h1, h4, e, h⟩
  · rw [roundsL, e, if_neg (by decide)]
    exact Rounds_out w c m h
  · rw [roundsL, e, if_neg (by decide)]
    obtain ⟨n, rfl⟩ : ∃ n : Nat, c = n := ⟨c.toNat, by omega⟩
    exact Rounds_bad w n m (by omega) (by omega) h
  · rw [roundsL, e, if_pos rfl]
    obtain ⟨n, rfl⟩ : ∃ n : Nat, c = n := ⟨c.toNat, by omega⟩
    obtain ⟨M, rfl⟩ : ∃ M : Nat, m = M := ⟨m.toNat, by omega⟩
    exact Rounds_ok w n M (by omega) (by omega) (by omega)
theorem Seeds_any (w : World) (c x m : Int) (hx0 : 0 ≤ x) (hx : x < 18446744073709551616) :
    Calls Try.prog 15 #[.int .i64 c, .int .u64 x, .int .i64 m] w (SPost w (seedsL c x m) (mayN c m)) := by
  rcases mayN_cases c m with ⟨e, h⟩ | ⟨h1, h4, e, h⟩ | ⟨h1, h4, e, h⟩
  · rw [seedsL, e, if_neg (by decide)]
    exact Seeds_out w c x m h
  · rw [seedsL, e, if_neg (by decide)]
    obtain ⟨n, rfl⟩ : ∃ n : Nat, c = n := ⟨c.toNat, by omega⟩
    exact Seeds_bad w n x m (by omega) (by omega) h
  · rw [seedsL, e, if_pos rfl]
    obtain ⟨n, rfl⟩ : ∃ n : Nat, c = n := ⟨c.toNat, by omega⟩
    obtain ⟨M, rfl⟩ : ∃ M : Nat, m = M := ⟨m.toNat, by omega⟩
    exact Seeds_ok w n M x (by omega) (by omega) (by omega) hx0 hx

/-- The turns of a scheduler of a kind, and its error. -/
def oneF (k : Nat) (p : IL) (x : Int) (t : Nat) : Int :=
  if k = 0 then ((t % p.length : Nat) : Int) else if k = 1 then ((wC p (wSt p t) : Nat) : Int) else if k = 2 then ((rC p (rSt p t) : Nat) : Int) else ((sC p.length (sX (max x 1) (t + 1)) (sSt p.length (max x 1) t) : Nat) : Int)
def oneE (k : Nat) (p : IL) : Int := if k = 1 then mayL p 1 0 else if k = 2 then mayL p 0 0 else mayN p.length 0
def oneL (k : Nat) (p : IL) (x : Int) (M : Nat) : IL := if oneE k p = 0 then outs (oneF k p x) M else []
theorem oneE_or (k : Nat) (p : IL) : oneE k p = 0 ∨ oneE k p = 240 := by
  unfold oneE
  split
  · exact mayL_240 _ _
  · split
    · exact mayL_240 _ _
    · exact (mayN_240 _).elim (fun h => .inl h.1) (fun h => .inr h.1)
theorem oneF_lt {k : Nat} {p : IL} (x : Int) (h : oneE k p = 0) (t : Nat) : 0 ≤ oneF k p x t ∧ oneF k p x t < p.length := by
  unfold oneE at h
  unfold oneF
  by_cases h0 : k = 0
  · subst h0
    rw [if_neg (by decide), if_neg (by decide)] at h
    have := (mayN_240 (p.length : Int)).resolve_right (fun h' => by rw [h] at h'; exact absurd h'.1 (by decide))
    have hm := Nat.mod_lt t (show p.length > 0 by omega)
    rw [if_pos rfl]
    omega
  · by_cases h1 : k = 1
    · rw [if_pos h1] at h
      obtain ⟨hw, _⟩ := mayL_zero.1 h
      have := wC_lt hw (wSt_len p t)
      rw [if_neg h0, if_pos h1]
      omega
    · by_cases h2 : k = 2
      · rw [if_neg h1, if_pos h2] at h
        obtain ⟨hw, _⟩ := mayL_zero.1 h
        have := rC_lt hw (rSt p t)
        rw [if_neg h0, if_neg h1, if_pos h2]
        omega
      · rw [if_neg h1, if_neg h2] at h
        have hc := (mayN_240 (p.length : Int)).resolve_right (fun h' => by rw [h] at h'; exact absurd h'.1 (by decide))
        have := sC_lt (n := p.length) (by omega) (by omega) (sX (max x 1) (t + 1)) (sSt_len p.length (max x 1) t)
        rw [if_neg h0, if_neg h1, if_neg h2]
        omega

theorem one_eqs (p : IL) (x : Int) (M : Nat) (hM : M ≤ 10000) :
    (roundsL p.length M = oneL 0 p x M ∧ mayN p.length M = oneE 0 p) ∧ (weightsL p M = oneL 1 p x M ∧ mayL p 1 M = oneE 1 p) ∧ (ranksL p M = oneL 2 p x M ∧ mayL p 0 M = oneE 2 p) ∧ (seedsL p.length x M = oneL 3 p x M ∧ mayN p.length M = oneE 3 p) := by
  have e1 : mayN (p.length : Int) M = mayN p.length 0 := mayN_any _ (by omega)
  have e2 := mayL_any p 1 (m := (M : Int)) (by omega)
  have e3 := mayL_any p 0 (m := (M : Int)) (by omega)
  refine ⟨⟨?_, e1⟩, ⟨?_, e2⟩, ⟨?_, e3⟩, ⟨?_, e1⟩⟩
  · rw [roundsL, e1]; rfl
  · rw [weightsL, e2]; rfl
  · rw [ranksL, e3]; rfl
  · rw [seedsL, e1]; rfl

set_option maxHeartbeats 1000000 in
theorem one_any (w : World) (A : Option Addr) (cap k : Nat) (p : IL) (x : Int) (M : Nat) (hk : k < 4) (hl : p.length ≤ 100) (hA : NumsA w A w.heap.size p) (hx0 : 0 ≤ x) (hx : x < 18446744073709551616) (hM : M ≤ 10000) :
    Calls Try.prog 31 #[.int .i64 (k : Int), .slice A p.length cap, .int .u64 x, .int .i64 (M : Int)] w (SPost w (oneL k p x M) (oneE k p)) := by
  obtain ⟨⟨e0, f0⟩, ⟨e1, f1⟩, ⟨e2, f2⟩, ⟨e3, f3⟩⟩ := one_eqs p x M hM
  have c0 := Rounds_any w p.length M
  have c1 := Weights_any w A cap p M hl hA
  have c2 := Ranks_any w A cap p M hl hA
  have c3 := Seeds_any w p.length x M hx0 hx
  rw [e0, f0] at c0
  rw [e1, f1] at c1
  rw [e2, f2] at c2
  rw [e3, f3] at c3
  have H0 := Lib.hid c0
  have H1 := Lib.hid c1
  have H2 := Lib.hid c2
  have H3 := Lib.hid c3
  clear c0 c1 c2 c3 e0 f0 e1 f1 e2 f2 e3 f3 hA
  have hl' : (p.length : Int) ≤ 100 := by omega
  obtain rfl | rfl | rfl | rfl : k = 0 ∨ k = 1 ∨ k = 2 ∨ k = 3 := by omega
  · go_enter Try.func31, Try.ntmps31
    go_wp2_with fail
    refine H0.out.mono ?_
    rintro e w' ⟨v, rfl, hv, hc⟩
    have HV := Lib.hid hv
    have HC := Lib.hid hc
    clear hv hc
    go_wp2_with fail
    go_ret2
    exact ⟨v, rfl, HV.out, HC.out⟩
  · go_enter Try.func31, Try.ntmps31
    go_wp2_with fail
    refine H1.out.mono ?_
    rintro e w' ⟨v, rfl, hv, hc⟩
    have HV := Lib.hid hv
    have HC := Lib.hid hc
    clear hv hc
    go_wp2_with fail
    go_ret2
    exact ⟨v, rfl, HV.out, HC.out⟩
  · go_enter Try.func31, Try.ntmps31
    go_wp2_with fail
    refine H2.out.mono ?_
    rintro e w' ⟨v, rfl, hv, hc⟩
    have HV := Lib.hid hv
    have HC := Lib.hid hc
    clear hv hc
    go_wp2_with fail
    go_ret2
    exact ⟨v, rfl, HV.out, HC.out⟩
  · go_enter Try.func31, Try.ntmps31
    go_wp2_with fail
    refine H3.out.mono ?_
    rintro e w' ⟨v, rfl, hv, hc⟩
    have HV := Lib.hid hv
    have HC := Lib.hid hc
    clear hv hc
    go_wp2_with fail
    go_ret2
    exact ⟨v, rfl, HV.out, HC.out⟩

end Go.Proofs.Ytagfalnfjiodcaa
