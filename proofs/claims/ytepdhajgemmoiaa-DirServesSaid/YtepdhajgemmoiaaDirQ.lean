/- A directory's line beside the cores' invariant: each step. -/
import Derived.Test.YtepdhajgemmoiaaDir18
import Derived.Test.YtepdhajgemmoiaaDirP
import Derived.Test.YtepdhajgemmoiaaDir19
import Derived.Test.YtepdhajgemmoiaaDir21
namespace Go.Proofs.Ytepdhajgemmoiaa
set_option maxRecDepth 100000
set_option linter.unusedSimpArgs false
set_option linter.unusedVariables false
open Go.RowKit


/-- Is a core in a set? -/
def inB (s d : Int) : Bool := decide (0 ≤ d ∧ d < 4) && hasB s d
theorem bits_tab : ((List.range 16).all fun (s : Nat) => (List.range 4).all fun (c : Nat) => decide (0 ≤ orB (s : Int) (c : Int)) && decide (orB (s : Int) (c : Int) < 16) && decide (0 ≤ notB (s : Int) (c : Int)) && decide (notB (s : Int) (c : Int) < 16) && decide (0 ≤ shl1 (c : Int)) && decide (shl1 (c : Int) < 16) &&
    (notB (s : Int) (c : Int) == 0) == ((List.range 4).all fun (d : Nat) => !hasB (s : Int) (d : Int) || d == c) &&
    (List.range 4).all fun (d : Nat) => (hasB (orB (s : Int) (c : Int)) (d : Int) == (hasB (s : Int) (d : Int) || d == c)) && (hasB (notB (s : Int) (c : Int)) (d : Int) == (hasB (s : Int) (d : Int) && d != c)) && (hasB (shl1 (c : Int)) (d : Int) == (d == c)) && (hasB 0 (d : Int) == false)) = true := by kernel_rfl
theorem bits_at {s c : Int} (hs : 0 ≤ s ∧ s < 16) (hc : 0 ≤ c ∧ c < 4) : (0 ≤ orB s c ∧ orB s c < 16) ∧ (0 ≤ notB s c ∧ notB s c < 16) ∧ (0 ≤ shl1 c ∧ shl1 c < 16) ∧ (notB s c = 0 ↔ ∀ d, inB s d = true → d = c) ∧
    ∀ d, inB (orB s c) d = (inB s d || decide (d = c)) ∧ inB (notB s c) d = (inB s d && decide (d ≠ c)) ∧ inB (shl1 c) d = decide (d = c) ∧ inB 0 d = false := by
  obtain ⟨s, rfl⟩ := Int.eq_ofNat_of_zero_le hs.1
  obtain ⟨c, rfl⟩ := Int.eq_ofNat_of_zero_le hc.1
  have h := List.all_eq_true.1 (List.all_eq_true.1 bits_tab s (List.mem_range.2 (by omega))) c (List.mem_range.2 (by omega))
  simp only [Bool.and_eq_true, decide_eq_true_eq, beq_iff_eq] at h
  obtain ⟨⟨⟨⟨⟨⟨⟨h1, h2⟩, h3⟩, h4⟩, h5⟩, h6⟩, h7⟩, h8⟩ := h
  have h9 : ∀ d : Nat, d < 4 → _ := fun d hd => List.all_eq_true.1 h8 d (List.mem_range.2 hd)
  refine ⟨⟨h1, h2⟩, ⟨h3, h4⟩, ⟨h5, h6⟩, ?_, fun d => ?_⟩
  · constructor
    · intro hz d hd
      unfold inB at hd
      simp only [Bool.and_eq_true, decide_eq_true_eq] at hd
      obtain ⟨d, rfl⟩ := Int.eq_ofNat_of_zero_le hd.1.1
      have h7' : ((List.range 4).all fun (d : Nat) => !hasB (s : Int) (d : Int) || d == c) = true := by rw [← h7]; simpa using hz
      have := List.all_eq_true.1 h7' d (List.mem_range.2 (by omega))
      simp only [Bool.or_eq_true, Bool.not_eq_true', beq_iff_eq] at this
      rcases this with h | h
      · rw [h] at hd; exact absurd hd.2 (by decide)
      · omega
    · intro hd
      have h7' : ((List.range 4).all fun (d : Nat) => !hasB (s : Int) (d : Int) || d == c) = true := by
        refine List.all_eq_true.2 fun d hd' => ?_
        have hd4 := List.mem_range.1 hd'
        cases hb : hasB (s : Int) (d : Int) with
        | false => rfl
        | true =>
          have := hd d (by unfold inB; rw [hb]; simp; omega)
          simp; omega
      rw [h7'] at h7
      simpa using h7
  · by_cases hd : 0 ≤ d ∧ d < 4
    · obtain ⟨d, rfl⟩ := Int.eq_ofNat_of_zero_le hd.1
      have h := h9 d (by omega)
      simp only [Bool.and_eq_true, beq_iff_eq] at h
      obtain ⟨⟨⟨a1, a2⟩, a3⟩, a4⟩ := h
      have e1 : (d == c) = decide ((d : Int) = (c : Int)) := by rw [Bool.eq_iff_iff]; simp; omega
      have e2 : (d != c) = decide ((d : Int) ≠ (c : Int)) := by rw [Bool.eq_iff_iff]; simp; omega
      unfold inB
      rw [a1, a2, a3, a4, decide_eq_true hd, e1, e2]
      simp
    · unfold inB
      rw [decide_eq_false hd]
      have : ¬ d = (c : Int) := fun e => hd (by omega)
      simp [this]
theorem inB_zero (d : Int) : inB 0 d = false := ((bits_at (s := 0) (c := 0) (by omega) (by omega)).2.2.2.2 d).2.2.2
theorem inB_out {s d : Int} (h : inB s d = true) : 0 ≤ d ∧ d < 4 := by
  unfold inB at h; simp only [Bool.and_eq_true, decide_eq_true_eq] at h; exact h.1
theorem hasB_inB {s d : Int} (hd : 0 ≤ d ∧ d < 4) : hasB s d = inB s d := by unfold inB; rw [decide_eq_true hd]; rfl

def ms (m : MsgV) : P.Ms := ⟨m.k, m.c, m.d.x0⟩
/-- A core: what it holds, its words, whether it asks, whether it gave the line back. -/
structure HonV where
  st : Int := 0
  d : L8 := {}
  asks : Bool := false
  back : Bool := false
def hF {α : Type} (hs : List HonV) (f : HonV → α) (z : α) (c : Int) : α := if 0 ≤ c then (match hs[c.toNat]? with | some h => f h | none => z) else z
theorem hF_at {α : Type} {hs : List HonV} {f : HonV → α} {z : α} {c : Nat} (h : c < hs.length) : hF hs f z (c : Int) = f hs[c] := by
  unfold hF
  rw [if_pos (Int.natCast_nonneg c), Int.toNat_natCast, List.getElem?_eq_getElem h]
theorem hF_set {α : Type} {hs : List HonV} {f : HonV → α} {z : α} {c : Nat} (h : c < hs.length) (x : HonV) : hF (hs.set c x) f z = fun d => if d = (c : Int) then f x else hF hs f z d := by
  funext d
  unfold hF
  by_cases hd : 0 ≤ d
  · rw [if_pos hd, if_pos hd]
    by_cases e : d = (c : Int)
    · subst e
      rw [if_pos rfl, Int.toNat_natCast, List.getElem?_set_self h]
    · rw [if_neg e, List.getElem?_set_ne (by omega)]
  · rw [if_neg hd, if_neg hd, if_neg (by omega)]
theorem hF_keep {α : Type} {hs : List HonV} {f : HonV → α} {z : α} {c : Nat} (h : c < hs.length) (x : HonV) (hx : f x = f hs[c]) : hF (hs.set c x) f z = hF hs f z := by
  rw [hF_set h]
  funext d
  split
  · rename_i e; subst e; rw [hF_at h, hx]
  · rfl

/-- A directory's line, cores and what is in flight. -/
structure SvS where
  n : Int
  ws : List Int
  e : EntV
  hs : List HonV
  inn : List MsgV
  out : List MsgV
  val : Int
def SvS.st (S : SvS) : P.St := { n := S.n, ow := S.e.ow, sh := inB S.e.sh, ak := inB S.e.ak, uk := S.e.un.k, uc := S.e.un.c, ph := S.e.ph, wl := S.e.wl.map ms, inn := S.inn.map ms, out := S.out.map ms, st := hF S.hs (·.st) 0, asks := hF S.hs (·.asks) false, back := hF S.hs (·.back) false, dv := hF S.hs (·.d.x0) 0, M := (lineV 2 S.ws 1).x0, val := S.val }
def Bits (e : EntV) : Prop := (0 ≤ e.sh ∧ e.sh < 16) ∧ (0 ≤ e.ak ∧ e.ak < 16)
structure SvI (S : SvS) : Prop where
  inv : P.Inv S.st
  n : 1 ≤ S.n ∧ S.n ≤ 4
  hl : (S.hs.length : Int) = S.n
  wl : S.ws.length = 16
  bits : Bits S.e
  ok : EOk S.n 1 S.e
  inl : ∀ m ∈ S.inn, m.l = 1
  outl : ∀ m ∈ S.out, m.l = 1

namespace P
theorem get_may {s : St} (h : Base s) (m : Ms) (hm : m ∈ s.inn) (hk : m.k = 1 ∨ m.k = 2) : (s.ph = 1 ∨ s.ph = 2 ∨ s.ph = 3 → s.uc ≠ m.c) ∧ (s.ow = m.c → s.ph = 2) ∧ s.wl.countP (isC m.c) = 0 := by
  have a := ct_pos (p := isGet m.c) hm (by simp [isGet, hk])
  have ha := h.N1 m hm hk
  have i1 := h.I1 m.c
  simp only [ha, if_true] at i1
  have hc := (h.inK m hm).2
  refine ⟨fun hp e => ?_, fun e => ?_, by omega⟩
  · rw [if_pos ⟨hp, e⟩] at i1; omega
  · have i6 := h.I6 m.c
    have e2 : (if s.ow = m.c ∧ 0 ≤ m.c then 1 else 0) = (1 : Nat) := if_pos ⟨e, hc.1⟩
    rw [e2] at i6
    have hgr : s.out.countP (isK 15 m.c) ≤ s.out.countP (isGr m.c) := List.countP_mono_left (fun x _ hx => by simp [isK, isGr] at hx ⊢; exact ⟨.inr hx.1, hx.2⟩)
    have l1 := h.L1 m.c; have l2 := h.L2 m.c; have i2 := h.I2 m.c; have i4 := h.I4 m.c
    by_cases hp : s.ph = 2
    · exact hp
    · exfalso
      rw [if_neg (fun q => hp q.1)] at i4
      by_cases h2 : s.st m.c = 2
      · have := l1 h2; rw [ha] at this; exact absurd this.1 (by decide)
      · rw [if_neg h2] at i6
        have h3 : 0 < s.inn.countP (isK 3 m.c) := by omega
        have hb : s.back m.c = true := by
          cases hb : s.back m.c with
          | true => rfl
          | false => rw [hb, if_neg (by decide)] at i2; omega
        have := l2 hb; rw [ha] at this; exact absurd this.1 (by decide)
theorem Base.st0 {s : St} (h : Base s) (ho : s.ow = -1) (hs : ∀ c, s.sh c = true → c = s.uc) : ∀ c, c ≠ s.uc → s.st c = 0 := by
  intro c hc
  rcases h.stK c with k | k | k
  · exact k
  · exact absurd (hs c (h.I8' (by omega) c k)) hc
  · have := h.S2 c k; omega
end P

theorem any_wl {l : List MsgV} {c : Int} (h : (l.map ms).countP (P.isC c) = 0) : l.any (fun x => x.c == c) = false := by
  rw [List.any_eq_false]
  intro x hx hc
  have := P.ct_pos (p := P.isC c) (List.mem_map_of_mem (f := ms) hx) (by have := beq_iff_eq.1 hc; exact decide_eq_true this)
  omega

/-- A message in flight may be. -/
theorem may_of {S : SvS} (I : SvI S) {m : MsgV} (hm : m ∈ S.inn) : mayB S.e m = true ∧ (0 ≤ m.c ∧ m.c < S.n) := by
  have hb := I.inv.b
  have hmm : ms m ∈ S.st.inn := List.mem_map_of_mem hm
  obtain ⟨hk, hc⟩ := hb.inK _ hmm
  have hn := I.n
  have hc4 : 0 ≤ m.c ∧ m.c < 4 := ⟨hc.1, by have : m.c < S.n := hc.2; omega⟩
  refine ⟨?_, hc⟩
  have hk' : m.k = 1 ∨ m.k = 2 ∨ m.k = 3 ∨ m.k = 4 ∨ m.k = 5 ∨ m.k = 6 ∨ m.k = 7 := hk
  unfold mayB
  by_cases h12 : m.k = 1 ∨ m.k = 2
  · rw [if_pos h12]
    obtain ⟨g1, g2, g3⟩ := P.get_may hb _ hmm h12
    have hp := hb.phK
    rw [any_wl (l := S.e.wl) (c := m.c) g3]
    have g1' : S.e.ph = 1 ∨ S.e.ph = 2 ∨ S.e.ph = 3 → S.e.un.c ≠ m.c := g1
    have g2' : S.e.ow = m.c → S.e.ph = 2 := g2
    have hp' : S.e.ph = 0 ∨ S.e.ph = 1 ∨ S.e.ph = 2 ∨ S.e.ph = 3 ∨ S.e.ph = 4 := hp
    clear g1 g2 hp
    simp only [Bool.not_false, Bool.and_true, Bool.and_eq_true, Bool.not_eq_true', Bool.and_eq_false_imp, bne_iff_ne, ne_eq, Bool.or_eq_true, beq_eq_false_iff_ne, beq_iff_eq]
    refine ⟨fun h0 => ?_, ?_⟩
    · exact g1' (by omega)
    · by_cases e : S.e.ow = m.c
      · exact .inr (g2' e)
      · exact .inl e
  rw [if_neg h12]
  by_cases h4 : m.k = 4
  · have := hb.N4 _ hmm h4
    rw [if_pos h4, hasB_inB hc4]
    have a : S.e.ph = 1 := this.1
    have b : inB S.e.ak m.c = true := this.2
    rw [a, b]; rfl
  rw [if_neg h4]
  by_cases h5 : m.k = 5
  · have := hb.N5 _ hmm h5
    rw [if_pos h5]
    have a : S.e.ph = 2 := this.1
    have b : S.e.ow = m.c := this.2.2
    rw [a, b]; simp
  rw [if_neg h5]
  by_cases h6 : m.k = 6
  · have := hb.N6 _ hmm h6
    rw [if_pos h6, hasB_inB hc4]
    have a : S.e.ph = 2 := this.1
    have b : inB S.e.ak m.c = true := this.2
    rw [a, b]; rfl
  rw [if_neg h6]
  by_cases h3 : m.k = 3
  · have := hb.N3 _ hmm h3
    rw [if_pos h3]
    have b : S.e.ow = m.c := this.1
    rw [b]; simp
  rw [if_neg h3]
  have h7 : m.k = 7 := by omega
  have := hb.N7 _ hmm h7
  rw [if_pos h7]
  have a : S.e.ph = 4 := this.1
  have b : S.e.un.c = m.c := this.2
  rw [a, b]; simp


theorem st_ext {a b : P.St} (h1 : a.n = b.n) (h2 : a.ow = b.ow) (h3 : ∀ d, a.sh d = b.sh d) (h4 : ∀ d, a.ak d = b.ak d) (h5 : a.uk = b.uk) (h6 : a.uc = b.uc) (h7 : a.ph = b.ph) (h8 : a.wl = b.wl) (h9 : a.inn = b.inn) (h10 : a.out = b.out) (h11 : a.st = b.st) (h12 : a.asks = b.asks) (h13 : a.back = b.back) (h14 : a.dv = b.dv) (h15 : a.M = b.M) (h16 : a.val = b.val) : a = b := by
  obtain ⟨a1, a2, a3, a4, a5, a6, a7, a8, a9, a10, a11, a12, a13, a14, a15, a16⟩ := a
  obtain ⟨b1, b2, b3, b4, b5, b6, b7, b8, b9, b10, b11, b12, b13, b14, b15, b16⟩ := b
  simp only at h1 h2 h3 h4 h5 h6 h7 h8 h9 h10 h11 h12 h13 h14 h15 h16
  obtain rfl := funext h3
  obtain rfl := funext h4
  subst h1 h2 h5 h6 h7 h8 h9 h10 h11 h12 h13 h14 h15 h16
  rfl
theorem inv_of {a b : P.St} (h : P.Inv a) (e : a = b) : P.Inv b := e ▸ h
theorem base_of {a b : P.St} (h : P.Base a) (e : a = b) : P.Base b := e ▸ h
def SvS.mu (S : SvS) : Nat := P.mu S.st
theorem mu_eq (S : SvS) : S.mu = P.wts (S.inn.map ms) + P.wts (S.out.map ms) + 8 * S.e.wl.length + (if S.e.ph = 1 ∨ S.e.ph = 2 ∨ S.e.ph = 3 then 2 else 0) := by
  show P.wts (S.inn.map ms) + P.wts (S.out.map ms) + 8 * (S.e.wl.map ms).length + _ = _
  rw [List.length_map]; rfl

/-- A grant. -/
theorem grant_link {S : SvS} (hb : Bits S.e) (hu : 0 ≤ S.e.un.c ∧ S.e.un.c < 4) (hk : S.e.un.k = 1 ∨ S.e.un.k = 2) (B : P.Base { S.st with ph := 1, ak := fun _ => false }) (ho : S.e.ow = -1)
    (hm : S.e.un.k = 2 → ∀ c, c ≠ S.e.un.c → hF S.hs (·.st) 0 c = 0) (x : L8) (hx : x.x0 = (lineV 2 S.ws 1).x0) :
    P.Inv { S with e := grantE S.e, out := S.out ++ [grantM S.e x] }.st ∧ Bits (grantE S.e) := by
  have hg := P.grant_inv B rfl (fun _ => rfl) ho hm
  have ht := bits_at hb.1 hu
  rcases hk with hk | hk
  · have e1 : grantE S.e = { S.e with ph := 4, ak := 0, sh := orB S.e.sh S.e.un.c } := by unfold grantE; rw [if_pos hk]
    rw [e1]
    refine ⟨?_, ht.1, show (0 : Int) ≤ 0 by decide, show (0 : Int) < 16 by decide⟩
    have e2 : (P.St.grant { S.st with ph := 1, ak := fun _ => false }) = { S.st with ph := 4, ak := fun _ => false, sh := fun c => if c = S.e.un.c then true else inB S.e.sh c, out := S.out.map ms ++ [⟨14, S.e.un.c, (lineV 2 S.ws 1).x0⟩] } := by
      unfold P.St.grant; exact if_pos hk
    rw [e2] at hg
    refine inv_of hg ?_
    refine st_ext rfl rfl (fun d => ?_) (fun d => (inB_zero d).symm) rfl rfl rfl rfl rfl ?_ rfl rfl rfl rfl rfl rfl
    · show (if d = S.e.un.c then true else inB S.e.sh d) = inB (orB S.e.sh S.e.un.c) d
      rw [(ht.2.2.2.2 d).1]
      by_cases h : d = S.e.un.c
      · rw [if_pos h]; simp [h]
      · rw [if_neg h]; simp [h]
    · show _ = (S.out ++ [grantM S.e x]).map ms
      simp [grantM, ms, hk, hx]
  · have hk1 : ¬ S.e.un.k = 1 := by omega
    have e1 : grantE S.e = { S.e with ph := 4, ak := 0, ow := S.e.un.c, sh := 0 } := by unfold grantE; rw [if_neg hk1]
    rw [e1]
    refine ⟨?_, ⟨show (0 : Int) ≤ 0 by decide, show (0 : Int) < 16 by decide⟩, show (0 : Int) ≤ 0 by decide, show (0 : Int) < 16 by decide⟩
    have e2 : (P.St.grant { S.st with ph := 1, ak := fun _ => false }) = { S.st with ph := 4, ak := fun _ => false, ow := S.e.un.c, sh := fun _ => false, out := S.out.map ms ++ [⟨15, S.e.un.c, (lineV 2 S.ws 1).x0⟩] } := by
      unfold P.St.grant; exact if_neg hk1
    rw [e2] at hg
    refine inv_of hg ?_
    refine st_ext rfl rfl (fun d => (inB_zero d).symm) (fun d => (inB_zero d).symm) rfl rfl rfl rfl rfl ?_ rfl rfl rfl rfl rfl rfl
    show _ = (S.out ++ [grantM S.e x]).map ms
    simp [grantM, ms, hk, hk1, hx]

theorem range4 : List.range 4 = [0, 1, 2, 3] := rfl
/-- Whom begin asks. -/
theorem iv_facts (s : Int) (d : Int) : let iv := ((coresL s 4).map fun (j : Nat) => (⟨11, (j : Int), 0⟩ : P.Ms)); (iv.countP (P.isK 11 d) = if inB s d then 1 else 0) ∧ (iv.countP (P.isK 15 d) = 0 ∧ iv.countP (P.isK 16 d) = 0 ∧ iv.countP (P.isRc d) = 0 ∧ iv.countP (P.isGr d) = 0) := by
  intro iv
  have e : iv = ((List.range 4).filter fun (j : Nat) => hasB s (j : Int)).map fun (j : Nat) => (⟨11, (j : Int), 0⟩ : P.Ms) := rfl
  rw [e, range4]
  by_cases hd : 0 ≤ d ∧ d < 4
  · have hd4 : d = 0 ∨ d = 1 ∨ d = 2 ∨ d = 3 := by omega
    cases h0 : hasB s 0 <;> cases h1 : hasB s 1 <;> cases h2 : hasB s 2 <;> cases h3 : hasB s 3 <;> rcases hd4 with rfl | rfl | rfl | rfl <;> simp [h0, h1, h2, h3, P.isK, P.isRc, P.isGr, inB]
  · have hf : inB s d = false := by unfold inB; rw [decide_eq_false hd]; rfl
    rw [hf]
    have n0 : ¬ 0 = d := by omega
    have n1 : ¬ 1 = d := by omega
    have n2 : ¬ 2 = d := by omega
    have n3 : ¬ 3 = d := by omega
    cases h0 : hasB s 0 <;> cases h1 : hasB s 1 <;> cases h2 : hasB s 2 <;> cases h3 : hasB s 3 <;> simp [h0, h1, h2, h3, P.isK, P.isRc, P.isGr, n0, n1, n2, n3]
theorem coresL_mem {s : Int} {j : Nat} (h : j ∈ coresL s 4) : j < 4 ∧ inB s (j : Int) = true := by
  unfold coresL at h
  obtain ⟨h1, h2⟩ := List.mem_filter.1 h
  have := List.mem_range.1 h1
  exact ⟨this, by unfold inB; rw [h2]; simp; omega⟩
theorem wts_iv (s : Int) (l : Int) : P.wts (((coresL s 4).map fun (j : Nat) => (⟨11, (j : Int), l, {}⟩ : MsgV)).map ms) = 2 * (coresL s 4).length := by
  generalize coresL s 4 = k
  induction k with
  | nil => rfl
  | cons a k ih => rw [List.map_cons, List.map_cons, P.wts_cons, ih, List.length_cons]; simp [P.wt, ms]; omega
theorem coresL_3 {s c : Int} (hc : 0 ≤ c ∧ c < 4) (h : inB s c = false) : (coresL s 4).length ≤ 3 := by
  have e : coresL s 4 = (List.range 4).filter fun (j : Nat) => hasB s (j : Int) := rfl
  rw [← hasB_inB hc] at h
  rw [e, range4]
  have hc4 : c = 0 ∨ c = 1 ∨ c = 2 ∨ c = 3 := by omega
  rcases hc4 with rfl | rfl | rfl | rfl <;> cases h0 : hasB s 0 <;> cases h1 : hasB s 1 <;> cases h2 : hasB s 2 <;> cases h3 : hasB s 3 <;> simp_all

/-- A request begins. -/
theorem begin_link {S : SvS} (hb : Bits S.e) (hn : S.n ≤ 4) {m m' : MsgV} {rest : List MsgV} (hk' : m'.k = m.k) (hc' : m'.c = m.c) (hi : S.inn = m :: rest) (B : P.Base S.st) (hp : S.e.ph = 0) (hk : m.k = 1 ∨ m.k = 2) (x : L8) (hx : x.x0 = (lineV 2 S.ws 1).x0) :
    P.Inv { S with e := beginE S.e m', inn := rest, out := S.out ++ beginM S.e m' x }.st ∧ Bits (beginE S.e m') ∧ P.wts ((beginM S.e m' x).map ms) + (if (beginE S.e m').ph = 1 ∨ (beginE S.e m').ph = 2 ∨ (beginE S.e m').ph = 3 then 2 else 0) ≤ 8 := by
  have hm : ms m ∈ S.st.inn := by show ms m ∈ S.inn.map ms; rw [hi]; exact List.mem_cons_self
  have hc : 0 ≤ m.c ∧ m.c < 4 := ⟨(B.inK _ hm).2.1, by have := (B.inK _ hm).2.2; have h2 : m.c < S.n := this; omega⟩
  have ho : S.st.inn = ⟨m.k, m.c, m.d.x0⟩ :: rest.map ms := by show S.inn.map ms = _; rw [hi]; rfl
  have how : S.e.ow = -1 ∨ 0 ≤ S.e.ow ∧ S.e.ow < S.n := B.owK
  have ht := bits_at hb.1 hc
  unfold beginE beginM
  by_cases h0 : 0 ≤ S.e.ow
  · rw [if_pos h0, if_pos h0]
    have hw4 : 0 ≤ S.e.ow ∧ S.e.ow < 4 := by omega
    have hs := bits_at (s := 0) (c := S.e.ow) (by decide) hw4
    refine ⟨?_, ⟨hb.1, hs.2.2.1⟩, ?_⟩
    · rcases hk with hk | hk
      · rw [hk] at ho
        have h := P.bRec1 B m.c m.d.x0 (rest.map ms) ho hp h0
        refine inv_of h ?_
        refine st_ext rfl rfl (fun _ => rfl) (fun d => ((hs.2.2.2.2 d).2.2.1).symm) (by show (1 : Int) = m'.k; rw [hk', hk]) hc'.symm rfl rfl rfl ?_ rfl rfl rfl rfl rfl rfl
        show _ = (S.out ++ [recM S.e m']).map ms
        simp [recM, ms, hk', hk]; exact ⟨rfl, rfl⟩
      · rw [hk] at ho
        have h := P.bRec2 B m.c m.d.x0 (rest.map ms) ho hp h0
        refine inv_of h ?_
        refine st_ext rfl rfl (fun _ => rfl) (fun d => ((hs.2.2.2.2 d).2.2.1).symm) (by show (2 : Int) = m'.k; rw [hk', hk]) hc'.symm rfl rfl rfl ?_ rfl rfl rfl rfl rfl rfl
        show _ = (S.out ++ [recM S.e m']).map ms
        simp [recM, ms, hk', hk]; exact ⟨rfl, rfl⟩
    · rw [if_pos (show (recE S.e m').ph = 1 ∨ (recE S.e m').ph = 2 ∨ (recE S.e m').ph = 3 from .inr (.inl rfl))]
      show P.wts [ms (recM S.e m')] + 2 ≤ 8
      rw [P.wts_cons, P.wts_nil]
      rcases hk with hk | hk <;> simp [P.wt, ms, recM, hk', hk]
  · rw [if_neg h0, if_neg h0]
    have how1 : S.e.ow = -1 := by omega
    have hcs : ∀ d, inB (notB S.e.sh m'.c) d = (inB S.e.sh d && decide (d ≠ m.c)) := fun d => by rw [hc']; exact (ht.2.2.2.2 d).2.1
    by_cases h1 : m'.k = 1 ∨ notB S.e.sh m'.c = 0
    · rw [if_pos h1, if_pos h1]
      have hbA : Bits (askE S.e m') := ⟨hb.1, by show 0 ≤ notB S.e.sh m'.c ∧ notB S.e.sh m'.c < 16; rw [hc']; exact ht.2.1⟩
      have hB2 : P.Base { ({ S with e := askE S.e m', inn := rest } : SvS).st with ph := 1, ak := fun _ => false } := by
        rcases hk with hk | hk
        · rw [hk] at ho
          refine base_of (P.bGr1 B m.c m.d.x0 (rest.map ms) ho hp how1) ?_
          exact st_ext rfl rfl (fun _ => rfl) (fun _ => rfl) (by show (1 : Int) = m'.k; rw [hk', hk]) hc'.symm rfl rfl rfl rfl rfl rfl rfl rfl rfl rfl
        · rw [hk] at ho
          refine base_of (P.bGr2 B m.c m.d.x0 (rest.map ms) ho hp how1) ?_
          exact st_ext rfl rfl (fun _ => rfl) (fun _ => rfl) (by show (2 : Int) = m'.k; rw [hk', hk]) hc'.symm rfl rfl rfl rfl rfl rfl rfl rfl rfl rfl
      have hg := grant_link (S := { S with e := askE S.e m', inn := rest }) hbA (by show 0 ≤ m'.c ∧ m'.c < 4; rw [hc']; exact hc) (by show m'.k = 1 ∨ m'.k = 2; rw [hk']; exact hk) hB2 how1
        (fun hk2 c hne => hB2.st0 how1 (fun c' hc2 => by
          have hk2' : m'.k = 2 := hk2
          have hz : notB S.e.sh m.c = 0 := by rcases h1 with h1 | h1; omega; rw [← hc']; exact h1
          have := (ht.2.2.2.1.1 hz) c' hc2
          show c' = m'.c; rw [hc']; exact this) c hne) x hx
      refine ⟨hg.1, hg.2, ?_⟩
      have e4 : (grantE (askE S.e m')).ph = 4 := by unfold grantE; split <;> rfl
      rw [e4, if_neg (by decide)]
      show P.wts [ms (grantM (askE S.e m') x)] + 0 ≤ 8
      rw [P.wts_cons, P.wts_nil]
      rcases hk with hk | hk <;> simp [P.wt, ms, grantM, askE, hk', hk]
    · rw [if_neg h1, if_neg h1]
      have hk2 : m.k = 2 := by rcases hk with hk | hk; exact absurd (.inl (by rw [hk', hk])) h1; exact hk
      have hnz : notB S.e.sh m.c ≠ 0 := fun e => h1 (.inr (by rw [hc']; exact e))
      have hbA : Bits (ackE S.e m') := ⟨hb.1, by show 0 ≤ notB S.e.sh m'.c ∧ notB S.e.sh m'.c < 16; rw [hc']; exact ht.2.1⟩
      rw [hk2] at ho
      have hex : ∃ d, S.st.sh d = true ∧ d ≠ m.c := by
        refine Classical.byContradiction fun hno => hnz (ht.2.2.2.1.2 fun d hd => ?_)
        exact Classical.byContradiction fun hne => hno ⟨d, hd, hne⟩
      have h := P.bAcks B m.c m.d.x0 (rest.map ms) ho ((coresL (notB S.e.sh m.c) 4).map fun (j : Nat) => (⟨11, (j : Int), 0⟩ : P.Ms)) hp how1 hex
        (fun d => by
          rw [(iv_facts _ d).1, (ht.2.2.2.2 d).2.1]
          show (if (inB S.e.sh d && decide (d ≠ m.c)) = true then 1 else 0) = (if inB S.e.sh d = true ∧ d ≠ m.c then 1 else 0)
          simp)
        (fun q hq => by
          obtain ⟨j, hj, rfl⟩ := List.mem_map.1 hq
          have hj2 := (coresL_mem hj).2
          rw [(ht.2.2.2.2 (j : Int)).2.1] at hj2
          simp only [Bool.and_eq_true] at hj2
          exact ⟨rfl, B.shK (j : Int) hj2.1⟩)
        (fun d => (iv_facts _ d).2)
      refine ⟨?_, hbA, ?_⟩
      · refine inv_of h ?_
        refine st_ext rfl rfl (fun _ => rfl) (fun d => (hcs d).symm) (by show (2 : Int) = m'.k; rw [hk', hk2]) hc'.symm rfl rfl rfl ?_ rfl rfl rfl rfl rfl rfl
        show _ = (S.out ++ ackM S.e m').map ms
        unfold ackM
        rw [List.map_append, List.map_map, hc']
        rfl
      · rw [if_pos (show (ackE S.e m').ph = 1 ∨ _ from .inl rfl)]
        unfold ackM
        rw [wts_iv, hc']
        have := coresL_3 hc (s := notB S.e.sh m.c) (by rw [(ht.2.2.2.2 m.c).2.1]; simp)
        omega


theorem wsOf_len (ws : List Int) (v : L8) : (wsOf 2 ws 1 v).length = ws.length := by
  unfold wsOf memSet setLine
  split
  · simp only [List.length_set]
  · rfl
theorem lineV_set (ws : List Int) (v : L8) (h : ws.length = 16) : (lineV 2 (wsOf 2 ws 1 v) 1).x0 = v.x0 := by
  match ws, h with
  | [a0, a1, a2, a3, a4, a5, a6, a7, a8, a9, a10, a11, a12, a13, a14, a15], _ => rfl
def un2 (e : EntV) : Nat := if e.ph = 1 ∨ e.ph = 2 ∨ e.ph = 3 then 2 else 0
theorem grantE_ph (e : EntV) : (grantE e).ph = 4 := by unfold grantE; split <;> rfl
theorem un2_grant (e : EntV) : un2 (grantE e) = 0 := by unfold un2; rw [grantE_ph]; rfl
theorem un2_of {e : EntV} (h : e.ph = 1 ∨ e.ph = 2 ∨ e.ph = 3) : un2 e = 2 := if_pos h
theorem un2_le (e : EntV) : un2 e ≤ 2 := by unfold un2; split <;> omega
theorem wt_ms (m : MsgV) : P.wt (ms m) = if m.k = 1 ∨ m.k = 2 then 9 else if m.k = 3 ∨ m.k = 11 ∨ m.k = 12 ∨ m.k = 13 ∨ m.k = 14 ∨ m.k = 15 then 2 else 1 := rfl
theorem wts_one (m : MsgV) : P.wts ([m].map ms) = P.wt (ms m) := by show P.wts [ms m] = _; rw [P.wts_cons, P.wts_nil]; rfl
theorem wt_grant (e : EntV) (x : L8) : P.wt (ms (grantM e x)) = 2 := by
  rw [wt_ms]
  have hk : (grantM e x).k = if e.un.k = 1 then 14 else 15 := rfl
  rw [hk]
  split <;> simp
theorem beginM_line (e : EntV) (m : MsgV) (x : L8) (hm : m.l = 1) : ∀ q ∈ beginM e m x, q.l = 1 := by
  unfold beginM
  split
  · intro q hq; rw [List.mem_singleton.1 hq]; exact hm
  · split
    · intro q hq; rw [List.mem_singleton.1 hq]; exact hm
    · intro q hq
      obtain ⟨j, _, rfl⟩ := List.mem_map.1 hq
      exact hm

theorem hear_step {S : SvS} (I : SvI S) {m : MsgV} {rest : List MsgV} (hp : S.inn.Perm (m :: rest)) :
    SvI { S with ws := (hearE 2 S.ws S.e 1 m).1, e := (hearE 2 S.ws S.e 1 m).2.1, inn := rest, out := S.out ++ (hearE 2 S.ws S.e 1 m).2.2 } ∧
    SvS.mu { S with ws := (hearE 2 S.ws S.e 1 m).1, e := (hearE 2 S.ws S.e 1 m).2.1, inn := rest, out := S.out ++ (hearE 2 S.ws S.e 1 m).2.2 } < S.mu := by
  have hmS : m ∈ S.inn := hp.mem_iff.2 List.mem_cons_self
  obtain ⟨hmay, hc⟩ := may_of I hmS
  have hn := I.n
  have hc4 : 0 ≤ m.c ∧ m.c < 4 := ⟨hc.1, by omega⟩
  have hE := hearE_ok (n := 2) (ws := S.ws) I.ok hc hmay
  have H : P.Inv ({ S with inn := m :: rest } : SvS).st := inv_of (I.inv.perm (hp.map ms) (List.Perm.refl _)) (st_ext rfl rfl (fun _ => rfl) (fun _ => rfl) rfl rfl rfl rfl rfl rfl rfl rfl rfl rfl rfl rfl)
  have hB := H.b
  have hmm : ms m ∈ ({ S with inn := m :: rest } : SvS).st.inn := List.mem_cons_self
  have ho : ({ S with inn := m :: rest } : SvS).st.inn = ⟨m.k, m.c, m.d.x0⟩ :: rest.map ms := rfl
  have hkk : m.k = 1 ∨ m.k = 2 ∨ m.k = 3 ∨ m.k = 4 ∨ m.k = 5 ∨ m.k = 6 ∨ m.k = 7 := (hB.inK _ hmm).1
  have hmu : S.mu = P.wt (ms m) + P.wts (rest.map ms) + P.wts (S.out.map ms) + 8 * S.e.wl.length + un2 S.e := by
    rw [mu_eq, P.wts_perm (hp.map ms), List.map_cons, P.wts_cons]; rfl
  have ta := bits_at I.bits.2 hc4
  have tsh := bits_at I.bits.1 hc4
  have how : S.e.ow = -1 ∨ 0 ≤ S.e.ow ∧ S.e.ow < S.n := hB.owK
  have hwlen := I.wl
  have fin : ∀ ws' e' o', hearE 2 S.ws S.e 1 m = (ws', e', o') → ws'.length = 16 → P.Inv ({ S with ws := ws', e := e', inn := rest, out := S.out ++ o' } : SvS).st → Bits e' → (∀ x ∈ o', x.l = 1) → P.wts (o'.map ms) + 8 * e'.wl.length + un2 e' < P.wt (ms m) + 8 * S.e.wl.length + un2 S.e →
      SvI { S with ws := (hearE 2 S.ws S.e 1 m).1, e := (hearE 2 S.ws S.e 1 m).2.1, inn := rest, out := S.out ++ (hearE 2 S.ws S.e 1 m).2.2 } ∧
      SvS.mu { S with ws := (hearE 2 S.ws S.e 1 m).1, e := (hearE 2 S.ws S.e 1 m).2.1, inn := rest, out := S.out ++ (hearE 2 S.ws S.e 1 m).2.2 } < S.mu := by
    intro ws' e' o' he hw hi hb hl hlt
    rw [he] at hE ⊢
    refine ⟨⟨hi, hn, I.hl, hw, hb, hE, fun x hx => I.inl x (hp.mem_iff.2 (List.mem_cons_of_mem _ hx)), fun x hx => (List.mem_append.1 hx).elim (I.outl x) (hl x)⟩, ?_⟩
    rw [hmu, mu_eq]
    simp only [List.map_append, P.wts_app]
    have : (if e'.ph = 1 ∨ e'.ph = 2 ∨ e'.ph = 3 then 2 else 0) = un2 e' := rfl
    omega
  have hnil : ∀ x ∈ ([] : List MsgV), x.l = 1 := fun x hx => absurd hx (by simp)
  have e0 : ∀ {a b : P.St}, P.Inv a → a = b → P.Inv b := inv_of
  clear hE
  by_cases h12 : m.k = 1 ∨ m.k = 2
  · have hwt : P.wt (ms m) = 9 := by rw [wt_ms, if_pos h12]
    by_cases hph : S.e.ph = 0
    · have hb := begin_link (S := { S with inn := m :: rest }) (m := m) (m' := ⟨m.k, m.c, ((1 : Nat) : Int), {}⟩) I.bits hn.2 rfl rfl rfl hB hph h12 (lineV 2 S.ws ((1 : Nat) : Int)) rfl
      refine fin S.ws (beginE S.e ⟨m.k, m.c, ((1 : Nat) : Int), {}⟩) (beginM S.e ⟨m.k, m.c, ((1 : Nat) : Int), {}⟩ (lineV 2 S.ws ((1 : Nat) : Int))) ?_ hwlen hb.1 hb.2.1 (beginM_line _ _ _ rfl) ?_
      · unfold hearE; rw [if_pos h12, if_pos hph]
      · have h8 := hb.2.2
        rw [begin_wl, hwt]
        have : un2 (beginE S.e ⟨m.k, m.c, ((1 : Nat) : Int), {}⟩) = (if (beginE S.e ⟨m.k, m.c, ((1 : Nat) : Int), {}⟩).ph = 1 ∨ (beginE S.e ⟨m.k, m.c, ((1 : Nat) : Int), {}⟩).ph = 2 ∨ (beginE S.e ⟨m.k, m.c, ((1 : Nat) : Int), {}⟩).ph = 3 then 2 else 0) := rfl
        rw [this]
        have h8' : P.wts ((beginM S.e ⟨m.k, m.c, ((1 : Nat) : Int), {}⟩ (lineV 2 S.ws ((1 : Nat) : Int))).map ms) + (if (beginE S.e ⟨m.k, m.c, ((1 : Nat) : Int), {}⟩).ph = 1 ∨ (beginE S.e ⟨m.k, m.c, ((1 : Nat) : Int), {}⟩).ph = 2 ∨ (beginE S.e ⟨m.k, m.c, ((1 : Nat) : Int), {}⟩).ph = 3 then 2 else 0) ≤ 8 := h8
        omega
    · refine fin S.ws { S.e with wl := S.e.wl ++ [⟨m.k, m.c, ((1 : Nat) : Int), {}⟩] } [] ?_ hwlen ?_ I.bits hnil ?_
      · unfold hearE; rw [if_pos h12, if_neg hph]
      · rcases h12 with hk | hk
        · rw [hk] at ho
          refine inv_of (P.gWait1 H m.c m.d.x0 (rest.map ms) ho hph) ?_
          exact st_ext rfl rfl (fun _ => rfl) (fun _ => rfl) rfl rfl rfl (by show S.e.wl.map ms ++ _ = (S.e.wl ++ [_]).map ms; simp [ms, hk]) rfl (by show S.out.map ms = (S.out ++ []).map ms; simp) rfl rfl rfl rfl rfl rfl
        · rw [hk] at ho
          refine inv_of (P.gWait2 H m.c m.d.x0 (rest.map ms) ho hph) ?_
          exact st_ext rfl rfl (fun _ => rfl) (fun _ => rfl) rfl rfl rfl (by show S.e.wl.map ms ++ _ = (S.e.wl ++ [_]).map ms; simp [ms, hk]) rfl (by show S.out.map ms = (S.out ++ []).map ms; simp) rfl rfl rfl rfl rfl rfl
      · rw [hwt]
        show 0 + 8 * (S.e.wl ++ [_]).length + un2 S.e < _
        rw [List.length_append, List.length_singleton]; omega
  have hnw : m.k = 3 ∨ m.k = 4 ∨ m.k = 5 ∨ m.k = 6 ∨ m.k = 7 := by omega
  by_cases h4 : m.k = 4
  · have hwt : P.wt (ms m) = 1 := by rw [wt_ms, h4]; rfl
    obtain ⟨p1, pa⟩ := hB.N4 _ hmm h4
    have p1 : S.e.ph = 1 := p1
    have pu := I.ok.un (by omega)
    have pA := H.p.acks p1
    have hu2 : un2 S.e = 2 := un2_of (.inl p1)
    have hbA : Bits (ackS S.e m.c) := ⟨tsh.2.1, ta.2.1⟩
    have hl := ho
    rw [h4] at hl
    by_cases hz : notB S.e.ak m.c = 0
    · have hall := ta.2.2.2.1.1 hz
      have hB2 : P.Base { ({ S with e := ackS S.e m.c, inn := rest } : SvS).st with ph := 1, ak := fun _ => false } := by
        refine base_of (P.ackLast H m.c m.d.x0 (rest.map ms) hl hall) ?_
        exact st_ext rfl rfl (fun d => ((tsh.2.2.2.2 d).2.1).symm) (fun _ => rfl) rfl rfl rfl rfl rfl rfl rfl rfl rfl rfl rfl rfl
      have hg := grant_link (S := { S with e := ackS S.e m.c, inn := rest }) hbA ⟨pu.2.1.1, by have := pu.2.1.2; show S.e.un.c < 4; omega⟩ pu.1 hB2 pA.1
        (fun _ c hne => hB2.st0 pA.1 (fun c' hc2 => by
          have hc3 : inB (notB S.e.sh m.c) c' = true := hc2
          rw [(tsh.2.2.2.2 c').2.1] at hc3
          simp only [Bool.and_eq_true, decide_eq_true_eq] at hc3
          rcases pA.2.2.2.2 c' hc3.1 with h | h
          · exact absurd (hall c' h) hc3.2
          · exact h) c hne) (lineV 2 S.ws ((1 : Nat) : Int)) rfl
      refine fin S.ws (grantE (ackS S.e m.c)) [grantM (ackS S.e m.c) (lineV 2 S.ws ((1 : Nat) : Int))] ?_ hwlen hg.1 hg.2 (fun x hx => by rw [List.mem_singleton.1 hx]; exact pu.2.2) ?_
      · unfold hearE; rw [if_neg h12, if_pos h4, if_pos hz]
      · rw [wts_one, wt_grant, un2_grant, grantE_wl, hwt, hu2]
        show 2 + 8 * S.e.wl.length + 0 < _; omega
    · have hex : ∃ d, ({ S with inn := m :: rest } : SvS).st.ak d = true ∧ d ≠ m.c :=
        Classical.byContradiction fun hno => hz (ta.2.2.2.1.2 fun d hd => Classical.byContradiction fun hne => hno ⟨d, hd, hne⟩)
      refine fin S.ws (ackS S.e m.c) [] ?_ hwlen ?_ hbA hnil ?_
      · unfold hearE; rw [if_neg h12, if_pos h4, if_neg hz]
      · refine inv_of (P.ackMore H m.c m.d.x0 (rest.map ms) hl hex) ?_
        exact st_ext rfl rfl (fun d => ((tsh.2.2.2.2 d).2.1).symm) (fun d => ((ta.2.2.2.2 d).2.1).symm) rfl rfl rfl rfl rfl (by show S.out.map ms = (S.out ++ []).map ms; simp) rfl rfl rfl rfl rfl rfl
      · rw [hwt]; show 0 + 8 * S.e.wl.length + un2 S.e < _; omega
  by_cases h5 : m.k = 5
  · have hwt : P.wt (ms m) = 1 := by rw [wt_ms, h5]; rfl
    obtain ⟨p1, pa, po⟩ := hB.N5 _ hmm h5
    have p1 : S.e.ph = 2 := p1
    have po : S.e.ow = m.c := po
    have pu := I.ok.un (by omega)
    have hu2 : un2 S.e = 2 := un2_of (.inr (.inl p1))
    have hl := ho
    rw [h5] at hl
    have hlw : (wsOf 2 S.ws 1 m.d).length = 16 := by rw [wsOf_len]; exact hwlen
    have hlv := lineV_set S.ws m.d hwlen
    rcases pu.1 with hk | hk
    · have hbG : Bits (gaveS S.e m.c) := ⟨tsh.1, I.bits.2⟩
      have hB2 : P.Base { ({ S with ws := wsOf 2 S.ws 1 m.d, e := gaveS S.e m.c, inn := rest } : SvS).st with ph := 1, ak := fun _ => false } := by
        refine base_of (P.recAck1 H m.c m.d.x0 (rest.map ms) hl hk) ?_
        exact st_ext rfl rfl (fun d => ((tsh.2.2.2.2 d).1).symm) (fun _ => rfl) rfl rfl rfl rfl rfl rfl rfl rfl rfl rfl hlv.symm rfl
      have hg := grant_link (S := { S with ws := wsOf 2 S.ws 1 m.d, e := gaveS S.e m.c, inn := rest }) hbG ⟨pu.2.1.1, by have := pu.2.1.2; show S.e.un.c < 4; omega⟩ pu.1 hB2 rfl
        (fun h2 => by have h2 : S.e.un.k = 2 := h2; omega) (lineV 2 (wsOf 2 S.ws 1 m.d) ((1 : Nat) : Int)) rfl
      refine fin (wsOf 2 S.ws 1 m.d) (grantE (gaveS S.e m.c)) [grantM (gaveS S.e m.c) (lineV 2 (wsOf 2 S.ws 1 m.d) ((1 : Nat) : Int))] ?_ hlw hg.1 hg.2 (fun x hx => by rw [List.mem_singleton.1 hx]; exact pu.2.2) ?_
      · unfold hearE; rw [if_neg h12, if_neg h4, if_pos h5, if_pos hk]
      · rw [wts_one, wt_grant, un2_grant, grantE_wl, hwt, hu2]
        show 2 + 8 * S.e.wl.length + 0 < _; omega
    · have hk1 : ¬ S.e.un.k = 1 := by omega
      have hB2 : P.Base { ({ S with ws := wsOf 2 S.ws 1 m.d, e := noOw S.e, inn := rest } : SvS).st with ph := 1, ak := fun _ => false } := by
        refine base_of (P.recAck2 H m.c m.d.x0 (rest.map ms) hl hk) ?_
        exact st_ext rfl rfl (fun _ => rfl) (fun _ => rfl) rfl rfl rfl rfl rfl rfl rfl rfl rfl rfl hlv.symm rfl
      have hg := grant_link (S := { S with ws := wsOf 2 S.ws 1 m.d, e := noOw S.e, inn := rest }) I.bits ⟨pu.2.1.1, by have := pu.2.1.2; show S.e.un.c < 4; omega⟩ pu.1 hB2 rfl
        (fun _ c hne => hB2.st0 rfl (fun c' hc2 => by
          have h8 := (hB.I8 (show 0 ≤ S.e.ow by omega) c').1
          have hc3 : inB S.e.sh c' = true := hc2
          rw [show inB S.e.sh c' = false from h8] at hc3; cases hc3) c hne) (lineV 2 (wsOf 2 S.ws 1 m.d) ((1 : Nat) : Int)) rfl
      refine fin (wsOf 2 S.ws 1 m.d) (grantE (noOw S.e)) [grantM (noOw S.e) (lineV 2 (wsOf 2 S.ws 1 m.d) ((1 : Nat) : Int))] ?_ hlw hg.1 hg.2 (fun x hx => by rw [List.mem_singleton.1 hx]; exact pu.2.2) ?_
      · unfold hearE; rw [if_neg h12, if_neg h4, if_pos h5, if_neg hk1]
      · rw [wts_one, wt_grant, un2_grant, grantE_wl, hwt, hu2]
        show 2 + 8 * S.e.wl.length + 0 < _; omega
  by_cases h6 : m.k = 6
  · have hwt : P.wt (ms m) = 1 := by rw [wt_ms, h6]; rfl
    obtain ⟨p1, pa⟩ := hB.N6 _ hmm h6
    have p1 : S.e.ph = 2 := p1
    have pu := I.ok.un (by omega)
    have hu2 : un2 S.e = 2 := un2_of (.inr (.inl p1))
    have hl := ho
    rw [h6] at hl
    by_cases hw : 0 ≤ S.e.ow
    · refine fin S.ws (toPut S.e) [] ?_ hwlen ?_ I.bits hnil ?_
      · unfold hearE; rw [if_neg h12, if_neg h4, if_neg h5, if_pos h6, if_pos hw]
      · refine inv_of (P.recPut H m.c m.d.x0 (rest.map ms) hl hw) ?_
        exact st_ext rfl rfl (fun _ => rfl) (fun _ => rfl) rfl rfl rfl rfl rfl (by show S.out.map ms = (S.out ++ []).map ms; simp) rfl rfl rfl rfl rfl rfl
      · rw [hwt, hu2, un2_of (.inr (.inr rfl))]; show 0 + 8 * S.e.wl.length + 2 < _; omega
    · have how1 : S.e.ow = -1 := by omega
      obtain ⟨o, _, _, hsf⟩ := H.p.recall p1
      have hB2 : P.Base { ({ S with e := toPut S.e, inn := rest } : SvS).st with ph := 1, ak := fun _ => false } := by
        refine base_of (P.recNone H m.c m.d.x0 (rest.map ms) hl (by show S.e.ow < 0; omega)) ?_
        exact st_ext rfl rfl (fun _ => rfl) (fun _ => rfl) rfl rfl rfl rfl rfl rfl rfl rfl rfl rfl rfl rfl
      have hg := grant_link (S := { S with e := toPut S.e, inn := rest }) I.bits ⟨pu.2.1.1, by have := pu.2.1.2; show S.e.un.c < 4; omega⟩ pu.1 hB2 how1
        (fun _ c hne => hB2.st0 how1 (fun c' hc2 => by
          have hc3 : inB S.e.sh c' = true := hc2
          rw [show inB S.e.sh c' = false from hsf c'] at hc3; cases hc3) c hne) (lineV 2 S.ws ((1 : Nat) : Int)) rfl
      refine fin S.ws (grantE (toPut S.e)) [grantM (toPut S.e) (lineV 2 S.ws ((1 : Nat) : Int))] ?_ hwlen hg.1 hg.2 (fun x hx => by rw [List.mem_singleton.1 hx]; exact pu.2.2) ?_
      · unfold hearE; rw [if_neg h12, if_neg h4, if_neg h5, if_pos h6, if_neg hw]
      · rw [wts_one, wt_grant, un2_grant, grantE_wl, hwt, hu2]
        show 2 + 8 * S.e.wl.length + 0 < _; omega
  by_cases h3 : m.k = 3
  · have hwt : P.wt (ms m) = 2 := by rw [wt_ms, h3]; rfl
    obtain ⟨po, pb⟩ := hB.N3 _ hmm h3
    have po : S.e.ow = m.c := po
    have hl := ho
    rw [h3] at hl
    have hlw : (wsOf 2 S.ws 1 m.d).length = 16 := by rw [wsOf_len]; exact hwlen
    have hlv := lineV_set S.ws m.d hwlen
    by_cases hph : S.e.ph = 3
    · have pu := I.ok.un (by omega)
      have hu2 : un2 S.e = 2 := un2_of (.inr (.inr hph))
      have hB2 : P.Base { ({ S with ws := wsOf 2 S.ws 1 m.d, e := noOw S.e, inn := rest, out := S.out ++ [⟨16, m.c, ((1 : Nat) : Int), {}⟩] } : SvS).st with ph := 1, ak := fun _ => false } := by
        refine base_of (P.putMG H m.c m.d.x0 (rest.map ms) hl hph) ?_
        exact st_ext rfl rfl (fun _ => rfl) (fun _ => rfl) rfl rfl rfl rfl rfl (by show S.out.map ms ++ _ = (S.out ++ _).map ms; simp [ms]) rfl rfl rfl rfl hlv.symm rfl
      have hg := grant_link (S := { S with ws := wsOf 2 S.ws 1 m.d, e := noOw S.e, inn := rest, out := S.out ++ [⟨16, m.c, ((1 : Nat) : Int), {}⟩] }) I.bits ⟨pu.2.1.1, by have := pu.2.1.2; show S.e.un.c < 4; omega⟩ pu.1 hB2 rfl
        (fun _ c hne => hB2.st0 rfl (fun c' hc2 => by
          have h8 := (hB.I8 (show 0 ≤ S.e.ow by omega) c').1
          have hc3 : inB S.e.sh c' = true := hc2
          rw [show inB S.e.sh c' = false from h8] at hc3; cases hc3) c hne) (lineV 2 (wsOf 2 S.ws 1 m.d) ((1 : Nat) : Int)) rfl
      refine fin (wsOf 2 S.ws 1 m.d) (grantE (noOw S.e)) [⟨16, m.c, ((1 : Nat) : Int), {}⟩, grantM (noOw S.e) (lineV 2 (wsOf 2 S.ws 1 m.d) ((1 : Nat) : Int))] ?_ hlw ?_ hg.2 (fun x hx => by
          rcases List.mem_cons.1 hx with rfl | hx
          · rfl
          · rw [List.mem_singleton.1 hx]; exact pu.2.2) ?_
      · unfold hearE; rw [if_neg h12, if_neg h4, if_neg h5, if_neg h6, if_pos h3, if_pos hph]
      · have h1 := hg.1
        dsimp only at h1
        rw [List.append_assoc] at h1
        exact h1
      · rw [un2_grant, grantE_wl, hwt, hu2]
        show P.wts (ms ⟨16, m.c, ((1 : Nat) : Int), {}⟩ :: [grantM (noOw S.e) _].map ms) + 8 * S.e.wl.length + 0 < _
        rw [P.wts_cons, wts_one, wt_grant]
        have : P.wt (ms ⟨16, m.c, ((1 : Nat) : Int), {}⟩) = 1 := by simp [wt_ms]
        omega
    · refine fin (wsOf 2 S.ws 1 m.d) (noOw S.e) [⟨16, m.c, ((1 : Nat) : Int), {}⟩] ?_ hlw ?_ I.bits (fun x hx => by rw [List.mem_singleton.1 hx]; rfl) ?_
      · unfold hearE; rw [if_neg h12, if_neg h4, if_neg h5, if_neg h6, if_pos h3, if_neg hph]
      · refine inv_of (P.putM H m.c m.d.x0 (rest.map ms) hl hph) ?_
        exact st_ext rfl rfl (fun _ => rfl) (fun _ => rfl) rfl rfl rfl rfl rfl (by show S.out.map ms ++ _ = (S.out ++ _).map ms; simp [ms]) rfl rfl rfl rfl hlv.symm rfl
      · rw [wts_one, hwt]
        have : P.wt (ms ⟨16, m.c, ((1 : Nat) : Int), {}⟩) = 1 := by simp [wt_ms]
        show _ + 8 * S.e.wl.length + un2 S.e < _
        omega
  have h7 : m.k = 7 := by omega
  have hwt : P.wt (ms m) = 1 := by rw [wt_ms, h7]; rfl
  obtain ⟨p1, pu⟩ := hB.N7 _ hmm h7
  have p1 : S.e.ph = 4 := p1
  have hu0 : un2 S.e = 0 := by unfold un2; rw [p1]; rfl
  have hl := ho
  rw [h7] at hl
  cases hw : S.e.wl with
  | nil =>
    refine fin S.ws (idleE S.e) [] ?_ hwlen ?_ I.bits hnil ?_
    · unfold hearE; rw [if_neg h12, if_neg h4, if_neg h5, if_neg h6, if_neg h3, hw]
    · refine inv_of (P.unblock0 H m.c m.d.x0 (rest.map ms) hl (by show S.e.wl.map ms = []; rw [hw]; rfl)) ?_
      exact st_ext rfl rfl (fun _ => rfl) (fun _ => rfl) rfl rfl rfl rfl rfl (by show S.out.map ms = (S.out ++ []).map ms; simp) rfl rfl rfl rfl rfl rfl
    · rw [hwt, hu0]; show 0 + 8 * S.e.wl.length + 0 < _; omega
  | cons nx l =>
    have hnx := I.ok.wl nx (by rw [hw]; exact List.mem_cons_self)
    have hB2 : P.Base ({ S with e := nextE S.e S.e.wt l, inn := nx :: rest } : SvS).st := by
      refine base_of (P.unblock1 H m.c m.d.x0 (rest.map ms) hl (ms nx) (l.map ms) (by show S.e.wl.map ms = _; rw [hw]; rfl)) ?_
      exact st_ext rfl rfl (fun _ => rfl) (fun _ => rfl) rfl rfl rfl rfl rfl rfl rfl rfl rfl rfl rfl rfl
    have hb := begin_link (S := { S with e := nextE S.e S.e.wt l, inn := nx :: rest }) (m := nx) (m' := nx) I.bits hn.2 rfl rfl rfl hB2 rfl hnx.1 (lineV 2 S.ws ((1 : Nat) : Int)) rfl
    refine fin S.ws (beginE (nextE S.e S.e.wt l) nx) (beginM (nextE S.e S.e.wt l) nx (lineV 2 S.ws ((1 : Nat) : Int))) ?_ hwlen hb.1 hb.2.1 (beginM_line _ _ _ hnx.2.2) ?_
    · unfold hearE; rw [if_neg h12, if_neg h4, if_neg h5, if_neg h6, if_neg h3, hw]
    · have h8 : P.wts ((beginM (nextE S.e S.e.wt l) nx (lineV 2 S.ws ((1 : Nat) : Int))).map ms) + un2 (beginE (nextE S.e S.e.wt l) nx) ≤ 8 := hb.2.2
      rw [begin_wl, hwt, hu0, hw]
      show _ + 8 * l.length + _ < _
      rw [List.length_cons]; omega


def ansH (x : HonV) (m : MsgV) : HonV :=
  if m.k = 11 then { x with st := 0 } else if m.k = 12 ∨ m.k = 13 then (if x.st = 2 then { x with st := 13 - m.k } else x)
  else if m.k = 14 ∨ m.k = 15 then ⟨m.k - 13, m.d, false, x.back⟩ else { x with back := false }
def ansM (x : HonV) (m : MsgV) : List MsgV :=
  if m.k = 11 then [⟨4, m.c, m.l, {}⟩] else if m.k = 12 ∨ m.k = 13 then (if x.st = 2 then [⟨5, m.c, m.l, x.d⟩] else [⟨6, m.c, m.l, {}⟩])
  else if m.k = 14 ∨ m.k = 15 then [⟨7, m.c, m.l, {}⟩] else []
def asksN (hs : List HonV) : Nat := hs.countP (·.asks)
theorem asksN_set {hs : List HonV} {c : Nat} (h : c < hs.length) (x : HonV) : asksN (hs.set c x) + (if hs[c].asks then 1 else 0) = asksN hs + (if x.asks then 1 else 0) := by
  unfold asksN
  rw [List.countP_set (h := h)]
  have : (if hs[c].asks = true then 1 else 0) ≤ hs.countP (·.asks) := by
    split
    · rename_i k; exact List.countP_pos_iff.2 ⟨hs[c], List.getElem_mem h, k⟩
    · exact Nat.zero_le _
  omega

/-- What an answer needs. -/
theorem ans_may {S : SvS} (I : SvI S) {m : MsgV} (hm : m ∈ S.out) : (m.k = 11 ∨ m.k = 12 ∨ m.k = 13 ∨ m.k = 14 ∨ m.k = 15 ∨ m.k = 16) ∧ ∃ (c : Nat) (h : c < S.hs.length), m.c = (c : Int) ∧ m.l = 1 ∧
    (m.k = 11 → S.hs[c].st < 2) ∧ (m.k = 14 ∨ m.k = 15 → S.hs[c].asks = true ∧ m.d.x0 = S.val) ∧ (m.k = 16 → S.hs[c].back = true) := by
  have hb := I.inv.b
  have hmm : ms m ∈ S.st.out := List.mem_map_of_mem hm
  obtain ⟨hk, hc0, hc1⟩ := hb.outK _ hmm
  have hk : m.k = 11 ∨ m.k = 12 ∨ m.k = 13 ∨ m.k = 14 ∨ m.k = 15 ∨ m.k = 16 := hk
  have hc0 : 0 ≤ m.c := hc0
  have hc1 : m.c < S.n := hc1
  have hl := I.hl
  obtain ⟨c, hc⟩ := Int.eq_ofNat_of_zero_le hc0
  have h : c < S.hs.length := by omega
  have hst : S.st.st m.c = S.hs[c].st := by rw [hc]; exact hF_at h
  have has : S.st.asks m.c = S.hs[c].asks := by rw [hc]; exact hF_at h
  have hba : S.st.back m.c = S.hs[c].back := by rw [hc]; exact hF_at h
  refine ⟨hk, c, h, hc, I.outl m hm, fun h11 => ?_, fun h14 => ?_, fun h16 => ?_⟩
  · have n11 := hb.N11 _ hmm h11
    have p := I.inv.p.acks n11.1
    have k := hb.stK m.c
    have s2 := hb.S2 m.c
    rw [hst] at k s2
    rcases k with k | k | k
    · omega
    · omega
    · have h2 := s2 k
      have p1 := p.1
      omega
  · have n := hb.N14 _ hmm h14
    refine ⟨by rw [← has]; exact n.2.2, hb.D2 _ hmm h14⟩
  · have n := hb.N16 _ hmm h16
    rw [← hba]; exact n

theorem ans_step {S : SvS} (I : SvI S) {m : MsgV} {rest : List MsgV} (hp : S.out.Perm (m :: rest)) (c : Nat) (h : c < S.hs.length) (hc : m.c = (c : Int)) :
    SvI { S with hs := S.hs.set c (ansH S.hs[c] m), inn := S.inn ++ ansM S.hs[c] m, out := rest } ∧ SvS.mu { S with hs := S.hs.set c (ansH S.hs[c] m), inn := S.inn ++ ansM S.hs[c] m, out := rest } < S.mu ∧
    asksN (S.hs.set c (ansH S.hs[c] m)) + (if m.k = 14 ∨ m.k = 15 then 1 else 0) = asksN S.hs := by
  have hmS : m ∈ S.out := hp.mem_iff.2 List.mem_cons_self
  obtain ⟨hk, _, _, _, hml, _, hask, _⟩ := ans_may I hmS
  have H : P.Inv ({ S with out := m :: rest } : SvS).st := inv_of (I.inv.perm (List.Perm.refl _) (hp.map ms)) (st_ext rfl rfl (fun _ => rfl) (fun _ => rfl) rfl rfl rfl rfl rfl rfl rfl rfl rfl rfl rfl rfl)
  have ho : ({ S with out := m :: rest } : SvS).st.out = ⟨m.k, (c : Int), m.d.x0⟩ :: rest.map ms := by rw [← hc]; rfl
  have hmu : S.mu = P.wts (S.inn.map ms) + P.wt (ms m) + P.wts (rest.map ms) + 8 * S.e.wl.length + un2 S.e := by
    rw [mu_eq, P.wts_perm (hp.map ms), List.map_cons, P.wts_cons]
    show _ + (P.wt (ms m) + P.wts (rest.map ms)) + 8 * S.e.wl.length + un2 S.e = _
    omega
  have hst : ({ S with out := m :: rest } : SvS).st.st (c : Int) = S.hs[c].st := hF_at h
  have hdv : ({ S with out := m :: rest } : SvS).st.dv (c : Int) = S.hs[c].d.x0 := hF_at h
  have has0 : asksN (S.hs.set c (ansH S.hs[c] m)) + (if S.hs[c].asks then 1 else 0) = asksN S.hs + (if (ansH S.hs[c] m).asks then 1 else 0) := asksN_set h _
  have fin : ∀ x' o', ansH S.hs[c] m = x' → ansM S.hs[c] m = o' → P.Inv ({ S with hs := S.hs.set c x', inn := S.inn ++ o', out := rest } : SvS).st → (∀ q ∈ o', q.l = 1) → P.wts (o'.map ms) < P.wt (ms m) → (x'.asks = S.hs[c].asks ∧ ¬ (m.k = 14 ∨ m.k = 15) ∨ x'.asks = false ∧ S.hs[c].asks = true ∧ (m.k = 14 ∨ m.k = 15)) →
      SvI { S with hs := S.hs.set c (ansH S.hs[c] m), inn := S.inn ++ ansM S.hs[c] m, out := rest } ∧ SvS.mu { S with hs := S.hs.set c (ansH S.hs[c] m), inn := S.inn ++ ansM S.hs[c] m, out := rest } < S.mu ∧
      asksN (S.hs.set c (ansH S.hs[c] m)) + (if m.k = 14 ∨ m.k = 15 then 1 else 0) = asksN S.hs := by
    intro x' o' e1 e2 hi hl hw ha
    rw [e1] at has0 ⊢
    rw [e2]
    refine ⟨⟨hi, I.n, by rw [List.length_set]; exact I.hl, I.wl, I.bits, I.ok, fun q hq => (List.mem_append.1 hq).elim (I.inl q) (hl q), fun q hq => I.outl q (hp.mem_iff.2 (List.mem_cons_of_mem _ hq))⟩, ?_, ?_⟩
    · rw [hmu, mu_eq]
      simp only [List.map_append, P.wts_app]
      have : (if S.e.ph = 1 ∨ S.e.ph = 2 ∨ S.e.ph = 3 then 2 else 0) = un2 S.e := rfl
      omega
    · rcases ha with ⟨a1, a2⟩ | ⟨a1, a2, a3⟩
      · rw [if_neg a2]; rw [a1] at has0; omega
      · rw [if_pos a3]; rw [a1, a2] at has0; simpa using has0
  have hset : ∀ {α : Type} (f : HonV → α) (z : α) (x : HonV), f x = f S.hs[c] → hF (S.hs.set c x) f z = hF S.hs f z := fun f z x e => hF_keep h x e
  have hln : ∀ {q : MsgV}, q.l = m.l → ∀ y ∈ [q], y.l = 1 := fun e y hy => by rw [List.mem_singleton.1 hy, e]; exact hml
  by_cases h11 : m.k = 11
  · have hwt : P.wt (ms m) = 2 := by rw [wt_ms, h11]; rfl
    refine fin { S.hs[c] with st := 0 } [⟨4, m.c, m.l, {}⟩] (by unfold ansH; rw [if_pos h11]) (by unfold ansM; rw [if_pos h11]) ?_ (hln rfl) (by rw [hwt, wts_one]; simp [wt_ms]) (.inl ⟨rfl, by omega⟩)
    rw [h11] at ho
    refine inv_of (P.hInv H (c : Int) m.d.x0 (rest.map ms) ho) ?_
    exact st_ext rfl rfl (fun _ => rfl) (fun _ => rfl) rfl rfl rfl rfl (by show S.inn.map ms ++ _ = (S.inn ++ _).map ms; simp [ms, hc]) rfl (by show _ = hF (S.hs.set c _) (fun x => x.st) 0; rw [hF_set h]; rfl) (by show _ = hF (S.hs.set c _) (fun x => x.asks) false; refine Eq.symm (hF_keep h _ ?_); rfl) (by show _ = hF (S.hs.set c _) (fun x => x.back) false; refine Eq.symm (hF_keep h _ ?_); rfl) (by show _ = hF (S.hs.set c _) (fun x => x.d.x0) 0; refine Eq.symm (hF_keep h _ ?_); rfl) rfl rfl
  by_cases h12 : m.k = 12 ∨ m.k = 13
  · have hwt : P.wt (ms m) = 2 := by rw [wt_ms]; rcases h12 with e | e <;> rw [e] <;> rfl
    by_cases hs : S.hs[c].st = 2
    · refine fin { S.hs[c] with st := 13 - m.k } [⟨5, m.c, m.l, S.hs[c].d⟩] (by unfold ansH; rw [if_neg h11, if_pos h12, if_pos hs]) (by unfold ansM; rw [if_neg h11, if_pos h12, if_pos hs]) ?_ (hln rfl) (by rw [hwt, wts_one]; simp [wt_ms]) (.inl ⟨rfl, by omega⟩)
      rcases h12 with e | e
      · rw [e] at ho ⊢
        refine inv_of (P.hRec12 H (c : Int) m.d.x0 (rest.map ms) ho (by rw [hst]; exact hs)) ?_
        exact st_ext rfl rfl (fun _ => rfl) (fun _ => rfl) rfl rfl rfl rfl (by rw [hdv]; show S.inn.map ms ++ _ = (S.inn ++ _).map ms; simp [ms, hc]) rfl (by show _ = hF (S.hs.set c _) (fun x => x.st) 0; rw [hF_set h]; rfl) (by show _ = hF (S.hs.set c _) (fun x => x.asks) false; refine Eq.symm (hF_keep h _ ?_); rfl) (by show _ = hF (S.hs.set c _) (fun x => x.back) false; refine Eq.symm (hF_keep h _ ?_); rfl) (by show _ = hF (S.hs.set c _) (fun x => x.d.x0) 0; refine Eq.symm (hF_keep h _ ?_); rfl) rfl rfl
      · rw [e] at ho ⊢
        refine inv_of (P.hRec13 H (c : Int) m.d.x0 (rest.map ms) ho (by rw [hst]; exact hs)) ?_
        exact st_ext rfl rfl (fun _ => rfl) (fun _ => rfl) rfl rfl rfl rfl (by rw [hdv]; show S.inn.map ms ++ _ = (S.inn ++ _).map ms; simp [ms, hc]) rfl (by show _ = hF (S.hs.set c _) (fun x => x.st) 0; rw [hF_set h]; rfl) (by show _ = hF (S.hs.set c _) (fun x => x.asks) false; refine Eq.symm (hF_keep h _ ?_); rfl) (by show _ = hF (S.hs.set c _) (fun x => x.back) false; refine Eq.symm (hF_keep h _ ?_); rfl) (by show _ = hF (S.hs.set c _) (fun x => x.d.x0) 0; refine Eq.symm (hF_keep h _ ?_); rfl) rfl rfl
    · refine fin S.hs[c] [⟨6, m.c, m.l, {}⟩] (by unfold ansH; rw [if_neg h11, if_pos h12, if_neg hs]) (by unfold ansM; rw [if_neg h11, if_pos h12, if_neg hs]) ?_ (hln rfl) (by rw [hwt, wts_one]; simp [wt_ms]) (.inl ⟨rfl, by omega⟩)
      rw [List.set_getElem_self]
      rcases h12 with e | e
      · rw [e] at ho
        refine inv_of (P.hRecN12 H (c : Int) m.d.x0 (rest.map ms) ho (by rw [hst]; exact hs)) ?_
        exact st_ext rfl rfl (fun _ => rfl) (fun _ => rfl) rfl rfl rfl rfl (by show S.inn.map ms ++ _ = (S.inn ++ _).map ms; simp [ms, hc]) rfl rfl rfl rfl rfl rfl rfl
      · rw [e] at ho
        refine inv_of (P.hRecN13 H (c : Int) m.d.x0 (rest.map ms) ho (by rw [hst]; exact hs)) ?_
        exact st_ext rfl rfl (fun _ => rfl) (fun _ => rfl) rfl rfl rfl rfl (by show S.inn.map ms ++ _ = (S.inn ++ _).map ms; simp [ms, hc]) rfl rfl rfl rfl rfl rfl rfl
  by_cases h14 : m.k = 14 ∨ m.k = 15
  · have hwt : P.wt (ms m) = 2 := by rw [wt_ms]; rcases h14 with e | e <;> rw [e] <;> rfl
    have hak : S.hs[c].asks = true := by
      obtain ⟨_, c', h', e', _, _, ha, _⟩ := ans_may I hmS
      obtain rfl : c = c' := by omega
      exact (ha h14).1
    refine fin ⟨m.k - 13, m.d, false, S.hs[c].back⟩ [⟨7, m.c, m.l, {}⟩] (by unfold ansH; rw [if_neg h11, if_neg h12, if_pos h14]) (by unfold ansM; rw [if_neg h11, if_neg h12, if_pos h14]) ?_ (hln rfl) (by rw [hwt, wts_one]; simp [wt_ms]) (.inr ⟨rfl, hak, h14⟩)
    rcases h14 with e | e
    · rw [e] at ho ⊢
      refine inv_of (P.hGr14 H (c : Int) m.d.x0 (rest.map ms) ho) ?_
      exact st_ext rfl rfl (fun _ => rfl) (fun _ => rfl) rfl rfl rfl rfl (by show S.inn.map ms ++ _ = (S.inn ++ _).map ms; simp [ms, hc]) rfl (by show _ = hF (S.hs.set c _) (fun x => x.st) 0; rw [hF_set h]; rfl) (by show _ = hF (S.hs.set c _) (fun x => x.asks) false; rw [hF_set h]; rfl) (by show _ = hF (S.hs.set c _) (fun x => x.back) false; refine Eq.symm (hF_keep h _ ?_); rfl) (by show _ = hF (S.hs.set c _) (fun x => x.d.x0) 0; rw [hF_set h]; rfl) rfl rfl
    · rw [e] at ho ⊢
      refine inv_of (P.hGr15 H (c : Int) m.d.x0 (rest.map ms) ho) ?_
      exact st_ext rfl rfl (fun _ => rfl) (fun _ => rfl) rfl rfl rfl rfl (by show S.inn.map ms ++ _ = (S.inn ++ _).map ms; simp [ms, hc]) rfl (by show _ = hF (S.hs.set c _) (fun x => x.st) 0; rw [hF_set h]; rfl) (by show _ = hF (S.hs.set c _) (fun x => x.asks) false; rw [hF_set h]; rfl) (by show _ = hF (S.hs.set c _) (fun x => x.back) false; refine Eq.symm (hF_keep h _ ?_); rfl) (by show _ = hF (S.hs.set c _) (fun x => x.d.x0) 0; rw [hF_set h]; rfl) rfl rfl
  have h16 : m.k = 16 := by omega
  have hwt : P.wt (ms m) = 1 := by rw [wt_ms, h16]; rfl
  refine fin { S.hs[c] with back := false } [] (by unfold ansH; rw [if_neg h11, if_neg h12, if_neg h14]) (by unfold ansM; rw [if_neg h11, if_neg h12, if_neg h14]) ?_ (fun q hq => absurd hq (by simp)) (by rw [hwt]; decide) (.inl ⟨rfl, h14⟩)
  rw [h16] at ho
  refine inv_of (P.hPA H (c : Int) m.d.x0 (rest.map ms) ho) ?_
  exact st_ext rfl rfl (fun _ => rfl) (fun _ => rfl) rfl rfl rfl rfl (by show S.inn.map ms = (S.inn ++ []).map ms; simp) rfl (by show _ = hF (S.hs.set c _) (fun x => x.st) 0; refine Eq.symm (hF_keep h _ ?_); rfl) (by show _ = hF (S.hs.set c _) (fun x => x.asks) false; refine Eq.symm (hF_keep h _ ?_); rfl) (by show _ = hF (S.hs.set c _) (fun x => x.back) false; rw [hF_set h]; rfl) (by show _ = hF (S.hs.set c _) (fun x => x.d.x0) 0; refine Eq.symm (hF_keep h _ ?_); rfl) rfl rfl

/-- A core asks. -/
theorem ask_step {S : SvS} (I : SvI S) (c : Nat) (h : c < S.hs.length) (k : Int) (hk : k = 0 ∨ k = 1) (ha : S.hs[c].asks = false) (hb : S.hs[c].back = false) (hs : S.hs[c].st < k + 1) :
    SvI { S with hs := S.hs.set c { S.hs[c] with asks := true }, inn := S.inn ++ [⟨1 + k, (c : Int), 1, {}⟩] } ∧ asksN (S.hs.set c { S.hs[c] with asks := true }) = asksN S.hs + 1 := by
  have hcn : 0 ≤ (c : Int) ∧ (c : Int) < S.st.n := ⟨Int.natCast_nonneg _, by have := I.hl; show (c : Int) < S.n; omega⟩
  have has : S.st.asks (c : Int) = false := by rw [show S.st.asks (c : Int) = S.hs[c].asks from hF_at h]; exact ha
  have hba : S.st.back (c : Int) = false := by rw [show S.st.back (c : Int) = S.hs[c].back from hF_at h]; exact hb
  have hst : S.st.st (c : Int) = S.hs[c].st := hF_at h
  refine ⟨⟨?_, I.n, by rw [List.length_set]; exact I.hl, I.wl, I.bits, I.ok, fun q hq => (List.mem_append.1 hq).elim (I.inl q) (fun e => by rw [List.mem_singleton.1 e]), I.outl⟩, ?_⟩
  · rcases hk with rfl | rfl
    · refine inv_of (P.ask1 I.inv (c : Int) hcn has hba (by rw [hst]; omega)) ?_
      exact st_ext rfl rfl (fun _ => rfl) (fun _ => rfl) rfl rfl rfl rfl (by show S.inn.map ms ++ _ = (S.inn ++ _).map ms; simp [ms]) rfl (by show _ = hF (S.hs.set c _) (fun x => x.st) 0; refine Eq.symm (hF_keep h _ ?_); rfl) (by show _ = hF (S.hs.set c _) (fun x => x.asks) false; rw [hF_set h]; rfl) (by show _ = hF (S.hs.set c _) (fun x => x.back) false; refine Eq.symm (hF_keep h _ ?_); rfl) (by show _ = hF (S.hs.set c _) (fun x => x.d.x0) 0; refine Eq.symm (hF_keep h _ ?_); rfl) rfl rfl
    · refine inv_of (P.ask2 I.inv (c : Int) hcn has hba (by rw [hst]; omega)) ?_
      exact st_ext rfl rfl (fun _ => rfl) (fun _ => rfl) rfl rfl rfl rfl (by show S.inn.map ms ++ _ = (S.inn ++ _).map ms; simp [ms]) rfl (by show _ = hF (S.hs.set c _) (fun x => x.st) 0; refine Eq.symm (hF_keep h _ ?_); rfl) (by show _ = hF (S.hs.set c _) (fun x => x.asks) false; rw [hF_set h]; rfl) (by show _ = hF (S.hs.set c _) (fun x => x.back) false; refine Eq.symm (hF_keep h _ ?_); rfl) (by show _ = hF (S.hs.set c _) (fun x => x.d.x0) 0; refine Eq.symm (hF_keep h _ ?_); rfl) rfl rfl
  · have := asksN_set h { S.hs[c] with asks := true }
    rw [ha] at this
    simpa using this
/-- A core writes. -/
theorem write_step {S : SvS} (I : SvI S) (c : Nat) (h : c < S.hs.length) (v : Int) (hs : S.hs[c].st = 2) :
    SvI { S with hs := S.hs.set c { S.hs[c] with d := { S.hs[c].d with x0 := v } }, val := v } ∧ asksN (S.hs.set c { S.hs[c] with d := { S.hs[c].d with x0 := v } }) = asksN S.hs := by
  have hcn : 0 ≤ (c : Int) ∧ (c : Int) < S.st.n := ⟨Int.natCast_nonneg _, by have := I.hl; show (c : Int) < S.n; omega⟩
  have hst : S.st.st (c : Int) = S.hs[c].st := hF_at h
  refine ⟨⟨?_, I.n, by rw [List.length_set]; exact I.hl, I.wl, I.bits, I.ok, I.inl, I.outl⟩, ?_⟩
  · refine inv_of (P.write I.inv (c : Int) v hcn (by rw [hst]; exact hs)) ?_
    exact st_ext rfl rfl (fun _ => rfl) (fun _ => rfl) rfl rfl rfl rfl rfl rfl (by show _ = hF (S.hs.set c _) (fun x => x.st) 0; refine Eq.symm (hF_keep h _ ?_); rfl) (by show _ = hF (S.hs.set c _) (fun x => x.asks) false; refine Eq.symm (hF_keep h _ ?_); rfl) (by show _ = hF (S.hs.set c _) (fun x => x.back) false; refine Eq.symm (hF_keep h _ ?_); rfl) (by show _ = hF (S.hs.set c _) (fun x => x.d.x0) 0; rw [hF_set h]; rfl) rfl rfl
  · have := asksN_set h { S.hs[c] with d := { S.hs[c].d with x0 := v } }
    exact Nat.add_right_cancel this
/-- A core lets its line go. -/
theorem drop2_step {S : SvS} (I : SvI S) (c : Nat) (h : c < S.hs.length) (hs : S.hs[c].st = 2) :
    SvI { S with hs := S.hs.set c { S.hs[c] with st := 0, back := true }, inn := S.inn ++ [⟨3, (c : Int), 1, S.hs[c].d⟩] } ∧ asksN (S.hs.set c { S.hs[c] with st := 0, back := true }) = asksN S.hs := by
  have hcn : 0 ≤ (c : Int) ∧ (c : Int) < S.st.n := ⟨Int.natCast_nonneg _, by have := I.hl; show (c : Int) < S.n; omega⟩
  have hst : S.st.st (c : Int) = S.hs[c].st := hF_at h
  have hdv : S.st.dv (c : Int) = S.hs[c].d.x0 := hF_at h
  refine ⟨⟨?_, I.n, by rw [List.length_set]; exact I.hl, I.wl, I.bits, I.ok, fun q hq => (List.mem_append.1 hq).elim (I.inl q) (fun e => by rw [List.mem_singleton.1 e]), I.outl⟩, ?_⟩
  · refine inv_of (P.drop2 I.inv (c : Int) hcn (by rw [hst]; exact hs)) ?_
    exact st_ext rfl rfl (fun _ => rfl) (fun _ => rfl) rfl rfl rfl rfl (by rw [hdv]; show S.inn.map ms ++ _ = (S.inn ++ _).map ms; simp [ms]) rfl (by show _ = hF (S.hs.set c _) (fun x => x.st) 0; rw [hF_set h]; rfl) (by show _ = hF (S.hs.set c _) (fun x => x.asks) false; refine Eq.symm (hF_keep h _ ?_); rfl) (by show _ = hF (S.hs.set c _) (fun x => x.back) false; rw [hF_set h]; rfl) (by show _ = hF (S.hs.set c _) (fun x => x.d.x0) 0; refine Eq.symm (hF_keep h _ ?_); rfl) rfl rfl
  · have := asksN_set h { S.hs[c] with st := 0, back := true }
    exact Nat.add_right_cancel this
theorem drop_step {S : SvS} (I : SvI S) (c : Nat) (h : c < S.hs.length) (hs : S.hs[c].st ≠ 2) :
    SvI { S with hs := S.hs.set c { S.hs[c] with st := 0 } } ∧ asksN (S.hs.set c { S.hs[c] with st := 0 }) = asksN S.hs := by
  have hcn : 0 ≤ (c : Int) ∧ (c : Int) < S.st.n := ⟨Int.natCast_nonneg _, by have := I.hl; show (c : Int) < S.n; omega⟩
  have hst : S.st.st (c : Int) = S.hs[c].st := hF_at h
  refine ⟨⟨?_, I.n, by rw [List.length_set]; exact I.hl, I.wl, I.bits, I.ok, I.inl, I.outl⟩, ?_⟩
  · refine inv_of (P.drop I.inv (c : Int) hcn (by rw [hst]; exact hs)) ?_
    exact st_ext rfl rfl (fun _ => rfl) (fun _ => rfl) rfl rfl rfl rfl rfl rfl (by show _ = hF (S.hs.set c _) (fun x => x.st) 0; rw [hF_set h]; rfl) (by show _ = hF (S.hs.set c _) (fun x => x.asks) false; refine Eq.symm (hF_keep h _ ?_); rfl) (by show _ = hF (S.hs.set c _) (fun x => x.back) false; refine Eq.symm (hF_keep h _ ?_); rfl) (by show _ = hF (S.hs.set c _) (fun x => x.d.x0) 0; refine Eq.symm (hF_keep h _ ?_); rfl) rfl rfl
  · have := asksN_set h { S.hs[c] with st := 0 }
    exact Nat.add_right_cancel this

theorem countP_one {α : Type} {p : α → Bool} : ∀ (l : List α) (c : Nat) (h : c < l.length), p l[c] = true → (∀ (j : Nat) (hj : j < l.length), j ≠ c → p l[j] = false) → l.countP p = 1
  | a :: l, 0, _, hp, ho => by
    have hp : p a = true := hp
    rw [List.countP_cons_of_pos hp, List.countP_eq_zero.2]
    intro x hx
    obtain ⟨j, hj, rfl⟩ := List.getElem_of_mem hx
    have := ho (j + 1) (by simpa using hj) (by omega)
    simpa using this
  | a :: l, c + 1, h, hp, ho => by
    have h0 : p a = false := ho 0 (by simp) (by omega)
    rw [List.countP_cons_of_neg (by rw [h0]; decide)]
    exact countP_one l c (by simpa using h) (by simpa using hp) (fun j hj hne => by have := ho (j + 1) (by simpa using hj) (by omega); simpa using this)

/-- What the law looks at behind each act. -/
theorem one_of {S : SvS} (I : SvI S) : (S.hs.countP (fun x => decide (x.st = 2)) = 0 ∨ S.hs.countP (fun x => decide (0 < x.st)) = 1) ∧ (S.e.ow < 0 ∨ coresL S.e.sh 4 = []) := by
  have hb := I.inv.b
  have hst : ∀ (j : Nat) (h : j < S.hs.length), S.st.st (j : Int) = S.hs[j].st := fun j h => hF_at h
  refine ⟨?_, ?_⟩
  · by_cases h0 : S.hs.countP (fun x => decide (x.st = 2)) = 0
    · exact .inl h0
    · right
      obtain ⟨x, hx, h2⟩ := List.countP_pos_iff.1 (Nat.pos_of_ne_zero h0)
      obtain ⟨c, hc, rfl⟩ := List.getElem_of_mem hx
      have h2 : S.hs[c].st = 2 := by simpa using h2
      have hs := hb.S2 (c : Int) (by rw [hst c hc]; exact h2)
      refine countP_one _ c hc (by simp [h2]) (fun j hj hne => ?_)
      have := (hb.I8 (by omega) (j : Int)).2 (by omega)
      rw [hst j hj] at this
      simp [this]
  · by_cases hw : S.e.ow < 0
    · exact .inl hw
    · right
      have hsf := fun d => (hb.I8 (show 0 ≤ S.st.ow from by show 0 ≤ S.e.ow; omega) d).1
      cases hcl : coresL S.e.sh 4 with
      | nil => rfl
      | cons j l =>
        have := coresL_mem (s := S.e.sh) (j := j) (by rw [hcl]; exact List.mem_cons_self)
        rw [show inB S.e.sh (j : Int) = false from hsf (j : Int)] at this
        cases this.2

/-- As it begins. -/
def svStart (n : Nat) : SvS := { n := n, ws := List.replicate 16 0, e := newE, hs := List.replicate n {}, inn := [], out := [], val := 0 }
theorem hF_rep {α : Type} (n : Nat) (f : HonV → α) (z : α) (hz : f {} = z) (c : Int) : hF (List.replicate n {}) f z c = z := by
  unfold hF
  split
  · cases h : (List.replicate n ({} : HonV))[c.toNat]? with
    | none => rfl
    | some x =>
      have := List.getElem?_eq_some_iff.1 h
      obtain ⟨h1, h2⟩ := this
      rw [List.getElem_replicate] at h2
      rw [← h2]; exact hz
  · rfl
theorem start_inv (n : Nat) (hn : 1 ≤ n ∧ n ≤ 4) : SvI (svStart n) := by
  have a1 : ∀ c, (svStart n).st.st c = 0 := hF_rep n _ _ rfl
  have a2 : ∀ c, (svStart n).st.asks c = false := hF_rep n _ _ rfl
  have a3 : ∀ c, (svStart n).st.back c = false := hF_rep n _ _ rfl
  have a4 : ∀ c, (svStart n).st.sh c = false := inB_zero
  have a5 : ∀ c, (svStart n).st.ak c = false := inB_zero
  have z1 : (svStart n).st.inn = [] := rfl
  have z2 : (svStart n).st.out = [] := rfl
  have z3 : (svStart n).st.wl = [] := rfl
  have z4 : (svStart n).st.ph = 0 := rfl
  have z5 : (svStart n).st.ow = -1 := rfl
  refine ⟨⟨?_, ?_, fun _ => rfl⟩, ⟨by show (1 : Int) ≤ (n : Int); omega, by show (n : Int) ≤ 4; omega⟩, by show ((List.replicate n ({} : HonV)).length : Int) = n; simp, rfl, ⟨⟨show (0 : Int) ≤ 0 by decide, show (0 : Int) < 16 by decide⟩, show (0 : Int) ≤ 0 by decide, show (0 : Int) < 16 by decide⟩, ⟨.inl rfl, fun h => absurd rfl h, fun m hm => absurd (show m ∈ ([] : List MsgV) from hm) (by simp)⟩, fun m hm => absurd (show m ∈ ([] : List MsgV) from hm) (by simp), fun m hm => absurd (show m ∈ ([] : List MsgV) from hm) (by simp)⟩
  · constructor <;> simp only [z1, z2, z3, z4, z5, a1, a2, a3, a4, a5, List.countP_nil, List.not_mem_nil] <;> first | (simp; done) | (intro c; simp; done) | (intro c; simp; omega) | omega | skip
    · intro _
      show (lineV 2 (List.replicate 16 0) 1).x0 = 0
      rfl
  · constructor <;> intro h <;> rw [z4] at h <;> exact absurd h (by decide)
end Go.Proofs.Ytepdhajgemmoiaa
