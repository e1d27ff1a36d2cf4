/- Cores that answer as layer 4's do, beside a directory's line: what is always so. No program in sight. -/
import Derived.Test.YtepdhajgemmoiaaLib
namespace Go.Proofs.Ytepdhajgemmoiaa.P
set_option linter.unusedSimpArgs false
set_option linter.unusedVariables false
/-- kinds: 1 GetS 2 GetM 3 PutM 4 InvAck 5 RecallAck 6 RecallNone 7 Unblock; 11 Inv 12 RecallS 13 RecallM 14 GrantS 15 GrantM 16 PutAck -/
structure Ms where
  k : Int
  c : Int
  v : Int
def isGet (c : Int) (m : Ms) : Bool := (m.k = 1 ∨ m.k = 2) ∧ m.c = c
def isK (k c : Int) (m : Ms) : Bool := m.k = k ∧ m.c = c
def isRc (c : Int) (m : Ms) : Bool := (m.k = 12 ∨ m.k = 13) ∧ m.c = c
def isGr (c : Int) (m : Ms) : Bool := (m.k = 14 ∨ m.k = 15) ∧ m.c = c
def isC (c : Int) (m : Ms) : Bool := m.c = c

structure St where
  n : Int
  ow : Int
  sh : Int → Bool
  ak : Int → Bool
  uk : Int
  uc : Int
  ph : Int
  wl : List Ms
  inn : List Ms
  out : List Ms
  st : Int → Int
  asks : Int → Bool
  back : Int → Bool
  dv : Int → Int
  M : Int
  val : Int

structure Base (s : St) : Prop where
  inK : ∀ m ∈ s.inn, (m.k = 1 ∨ m.k = 2 ∨ m.k = 3 ∨ m.k = 4 ∨ m.k = 5 ∨ m.k = 6 ∨ m.k = 7) ∧ 0 ≤ m.c ∧ m.c < s.n
  outK : ∀ m ∈ s.out, (m.k = 11 ∨ m.k = 12 ∨ m.k = 13 ∨ m.k = 14 ∨ m.k = 15 ∨ m.k = 16) ∧ 0 ≤ m.c ∧ m.c < s.n
  wlK : ∀ m ∈ s.wl, (m.k = 1 ∨ m.k = 2) ∧ 0 ≤ m.c ∧ m.c < s.n
  phK : s.ph = 0 ∨ s.ph = 1 ∨ s.ph = 2 ∨ s.ph = 3 ∨ s.ph = 4
  stK : ∀ c, s.st c = 0 ∨ s.st c = 1 ∨ s.st c = 2
  owK : s.ow = -1 ∨ 0 ≤ s.ow ∧ s.ow < s.n
  unK : s.ph ≠ 0 → (s.uk = 1 ∨ s.uk = 2) ∧ 0 ≤ s.uc ∧ s.uc < s.n
  L1 : ∀ c, s.st c = 2 → s.asks c = false ∧ s.back c = false
  L2 : ∀ c, s.back c = true → s.asks c = false ∧ s.st c = 0
  I1 : ∀ c, s.inn.countP (isGet c) + s.wl.countP (isC c) + (if (s.ph = 1 ∨ s.ph = 2 ∨ s.ph = 3) ∧ s.uc = c then 1 else 0) + s.out.countP (isGr c) = if s.asks c then 1 else 0
  I2 : ∀ c, s.inn.countP (isK 3 c) + s.out.countP (isK 16 c) = if s.back c then 1 else 0
  I3 : ∀ c, s.out.countP (isK 11 c) + s.inn.countP (isK 4 c) = if s.ph = 1 ∧ s.ak c then 1 else 0
  I4 : ∀ c, s.out.countP (isRc c) + s.inn.countP (isK 5 c) + s.inn.countP (isK 6 c) = if s.ph = 2 ∧ s.ak c then 1 else 0
  I5 : ∀ c, s.out.countP (isGr c) + s.inn.countP (isK 7 c) = if s.ph = 4 ∧ s.uc = c then 1 else 0
  I6 : ∀ c, s.out.countP (isK 15 c) + (if s.st c = 2 then 1 else 0) + s.inn.countP (isK 3 c) + s.inn.countP (isK 5 c) = if s.ow = c ∧ 0 ≤ c then 1 else 0
  akK : ∀ c, s.ak c = true → 0 ≤ c ∧ c < s.n
  shK : ∀ c, s.sh c = true → 0 ≤ c ∧ c < s.n
  I8 : 0 ≤ s.ow → ∀ c, s.sh c = false ∧ (c ≠ s.ow → s.st c = 0)
  I8' : s.ow < 0 → ∀ c, s.st c = 1 → s.sh c = true
  I9 : ∀ m ∈ s.out, (m.k = 12 → s.uk = 1) ∧ (m.k = 13 → s.uk = 2) ∧ (m.k = 14 → s.uk = 1) ∧ (m.k = 15 → s.uk = 2)
  I10 : ∀ m ∈ s.inn, m.k = 5 → s.st m.c = 0 ∨ s.uk = 1
  I11 : ∀ m ∈ s.inn, m.k = 4 → s.st m.c = 0
  I12 : ∀ m ∈ s.inn, m.k = 6 → s.st m.c ≠ 2
  D1 : ∀ m ∈ s.inn, (m.k = 3 ∨ m.k = 5) → m.v = s.val
  D2 : ∀ m ∈ s.out, (m.k = 14 ∨ m.k = 15) → m.v = s.val
  D3 : ∀ c, s.st c = 2 → s.dv c = s.val
  D4 : s.ow < 0 → s.M = s.val

structure Phase (s : St) : Prop where
  acks : s.ph = 1 → s.ow = -1 ∧ s.uk = 2 ∧ s.ak s.uc = false ∧ (∃ c, s.ak c = true) ∧ ∀ c, s.sh c = true → s.ak c = true ∨ c = s.uc
  recall : s.ph = 2 → ∃ o, (∀ c, s.ak c = true ↔ c = o) ∧ (s.ow = o ∨ s.ow = -1) ∧ ∀ c, s.sh c = false
  put : s.ph = 3 → 0 ≤ s.ow ∧ s.st s.ow ≠ 2
  gs : s.ph = 4 → s.uk = 1 → s.ow = -1 ∧ s.sh s.uc = true
  gm : s.ph = 4 → s.uk = 2 → s.ow = s.uc ∨ s.ow = -1

theorem Base.perm {s : St} (h : Base s) {i o : List Ms} (hi : s.inn.Perm i) (ho : s.out.Perm o) : Base { s with inn := i, out := o } := by
  have ci : ∀ p, s.inn.countP p = i.countP p := fun p => hi.countP_eq p
  have co : ∀ p, s.out.countP p = o.countP p := fun p => ho.countP_eq p
  have mi : ∀ m, m ∈ i → m ∈ s.inn := fun m k => hi.mem_iff.2 k
  have mo : ∀ m, m ∈ o → m ∈ s.out := fun m k => ho.mem_iff.2 k
  obtain ⟨h1, h2, h3, h4, h5, h6, h7, h8, h9, i1, i2, i3, i4, i5, i6, h16, h17, h18, h19, h20, h21, h22, h23, h24, h25, h26, h27⟩ := h
  simp only [ci, co] at i1 i2 i3 i4 i5 i6
  exact ⟨fun m k => h1 m (mi m k), fun m k => h2 m (mo m k), h3, h4, h5, h6, h7, h8, h9, i1, i2, i3, i4, i5, i6, h16, h17, h18, h19, fun m k => h20 m (mo m k), fun m k => h21 m (mi m k), fun m k => h22 m (mi m k), fun m k => h23 m (mi m k), fun m k => h24 m (mi m k), fun m k => h25 m (mo m k), h26, h27⟩

/-- A grant. -/
def St.grant (s : St) : St :=
  if s.uk = 1 then { s with ph := 4, ak := fun _ => false, sh := fun c => if c = s.uc then true else s.sh c, out := s.out ++ [⟨14, s.uc, s.M⟩] }
  else { s with ph := 4, ak := fun _ => false, ow := s.uc, sh := fun _ => false, out := s.out ++ [⟨15, s.uc, s.M⟩] }

theorem grant_base {s : St} (h : Base s) (hp : s.ph = 1) (ha : ∀ c, s.ak c = false) (ho : s.ow = -1) (hm : s.uk = 2 → ∀ c, c ≠ s.uc → s.st c = 0) : Base s.grant ∧ Phase s.grant := by
  obtain ⟨h1, h2, h3, h4, h5, h6, h7, h8, h9, i1, i2, i3, i4, i5, i6, h16, h17, h18, h19, h20, h21, h22, h23, h24, h25, h26, h27⟩ := h
  obtain ⟨n, ow, sh, ak, uk, uc, ph, wl, inn, out, st, asks, back, dv, M, val⟩ := s
  simp only at *
  subst hp ho
  unfold St.grant
  simp only
  by_cases hk : uk = 1
  · rw [if_pos hk]
    constructor
    · constructor <;> simp only [List.countP_append, List.countP_cons, List.countP_nil, List.mem_append, List.mem_singleton, isGet, isK, isRc, isGr, isC] at *
      all_goals grind
    · constructor <;> simp only <;> grind
  · rw [if_neg hk]
    constructor
    · constructor <;> simp only [List.countP_append, List.countP_cons, List.countP_nil, List.mem_append, List.mem_singleton, isGet, isK, isRc, isGr, isC] at *
      all_goals grind
    · constructor <;> simp only <;> grind

theorem ct_pos {l : List Ms} {p : Ms → Bool} {m : Ms} (h : m ∈ l) (hp : p m = true) : 0 < l.countP p := List.countP_pos_iff.2 ⟨m, h, hp⟩

section
variable {s : St} (h : Base s)
include h
theorem Base.N3 (m : Ms) (hm : m ∈ s.inn) (hk : m.k = 3) : s.ow = m.c ∧ s.back m.c = true := by
  have a := ct_pos (p := isK 3 m.c) hm (by simp [isK, hk])
  have := h.I6 m.c; have := h.I2 m.c
  grind
theorem Base.N4 (m : Ms) (hm : m ∈ s.inn) (hk : m.k = 4) : s.ph = 1 ∧ s.ak m.c = true := by
  have a := ct_pos (p := isK 4 m.c) hm (by simp [isK, hk])
  have := h.I3 m.c
  grind
theorem Base.N5 (m : Ms) (hm : m ∈ s.inn) (hk : m.k = 5) : s.ph = 2 ∧ s.ak m.c = true ∧ s.ow = m.c := by
  have a := ct_pos (p := isK 5 m.c) hm (by simp [isK, hk])
  have := h.I4 m.c; have := h.I6 m.c
  grind
theorem Base.N6 (m : Ms) (hm : m ∈ s.inn) (hk : m.k = 6) : s.ph = 2 ∧ s.ak m.c = true := by
  have a := ct_pos (p := isK 6 m.c) hm (by simp [isK, hk])
  have := h.I4 m.c
  grind
theorem Base.N7 (m : Ms) (hm : m ∈ s.inn) (hk : m.k = 7) : s.ph = 4 ∧ s.uc = m.c := by
  have a := ct_pos (p := isK 7 m.c) hm (by simp [isK, hk])
  have := h.I5 m.c
  grind
theorem Base.N1 (m : Ms) (hm : m ∈ s.inn) (hk : m.k = 1 ∨ m.k = 2) : s.asks m.c = true := by
  have a := ct_pos (p := isGet m.c) hm (by simp [isGet, hk])
  have := h.I1 m.c
  grind
theorem Base.N11 (m : Ms) (hm : m ∈ s.out) (hk : m.k = 11) : s.ph = 1 ∧ s.ak m.c = true := by
  have a := ct_pos (p := isK 11 m.c) hm (by simp [isK, hk])
  have := h.I3 m.c
  grind
theorem Base.N12 (m : Ms) (hm : m ∈ s.out) (hk : m.k = 12 ∨ m.k = 13) : s.ph = 2 ∧ s.ak m.c = true := by
  have a := ct_pos (p := isRc m.c) hm (by simp [isRc, hk])
  have := h.I4 m.c
  grind
theorem Base.N14 (m : Ms) (hm : m ∈ s.out) (hk : m.k = 14 ∨ m.k = 15) : s.ph = 4 ∧ s.uc = m.c ∧ s.asks m.c = true := by
  have a := ct_pos (p := isGr m.c) hm (by simp [isGr, hk])
  have := h.I5 m.c; have := h.I1 m.c
  grind
theorem Base.N16 (m : Ms) (hm : m ∈ s.out) (hk : m.k = 16) : s.back m.c = true := by
  have a := ct_pos (p := isK 16 m.c) hm (by simp [isK, hk])
  have := h.I2 m.c
  grind
theorem Base.N7' (m : Ms) (hm : m ∈ s.inn) (hk : m.k = 7) (x : Ms) (hx : x ∈ s.out) : x.k ≠ 14 ∧ x.k ≠ 15 := by
  have a := ct_pos (p := isK 7 m.c) hm (by simp [isK, hk])
  have b := h.I5 m.c
  have e := h.N7 m hm hk
  refine ⟨fun q => ?_, fun q => ?_⟩
  · have d := h.N14 x hx (.inl q)
    have := ct_pos (p := isGr m.c) hx (by simp [isGr, q]; omega)
    grind
  · have d := h.N14 x hx (.inr q)
    have := ct_pos (p := isGr m.c) hx (by simp [isGr, q]; omega)
    grind
theorem Base.S2 (c : Int) (hc : s.st c = 2) : s.ow = c ∧ 0 ≤ c := by
  have := h.I6 c
  grind
theorem Base.S3 (c : Int) (hc : s.st c = 2) (m : Ms) (hm : m ∈ s.inn) : m.k ≠ 3 ∧ m.k ≠ 5 := by
  have a := h.S2 c hc; have b := h.I6 c
  refine ⟨fun hk => ?_, fun hk => ?_⟩
  · have e := h.N3 m hm hk
    have := ct_pos (p := isK 3 c) hm (by simp [isK, hk]; omega)
    grind
  · have e := h.N5 m hm hk
    have := ct_pos (p := isK 5 c) hm (by simp [isK, hk]; omega)
    grind
theorem Base.S4 (hp : Phase s) (c : Int) (hc : s.st c = 2) (m : Ms) (hm : m ∈ s.out) : m.k ≠ 14 ∧ m.k ≠ 15 := by
  have a := h.S2 c hc; have b := h.I6 c
  refine ⟨fun hk => ?_, fun hk => ?_⟩
  · have e := h.N14 m hm (.inl hk)
    have := hp.gs e.1 ((h.I9 m hm).2.2.1 hk)
    omega
  · have e := h.N14 m hm (.inr hk)
    have := hp.gm e.1 ((h.I9 m hm).2.2.2 hk)
    have := ct_pos (p := isK 15 c) hm (by simp [isK, hk]; omega)
    grind
end

structure Inv (s : St) : Prop where
  b : Base s
  p : Phase s
  idle : s.ph = 0 → s.wl = []
theorem ask1 {s : St} (h : Inv s) (c : Int) (hc : 0 ≤ c ∧ c < s.n) (ha : s.asks c = false) (hb : s.back c = false) (hs : s.st c < 1) : Inv { s with asks := fun d => if d = c then true else s.asks d, inn := s.inn ++ [⟨1, c, 0⟩] } := by
  have N3 := h.b.N3
  have N4 := h.b.N4
  have N5 := h.b.N5
  have N6 := h.b.N6
  have N7 := h.b.N7
  have N7' := h.b.N7'
  have N1 := h.b.N1
  have N11 := h.b.N11
  have N12 := h.b.N12
  have N14 := h.b.N14
  have N16 := h.b.N16
  obtain ⟨h, ⟨p1, p2, p3, p4, p5⟩, hid⟩ := h
  have S2 := h.S2
  have S3 := h.S3
  have S4 := h.S4 ⟨p1, p2, p3, p4, p5⟩
  obtain ⟨h1, h2, h3, h4, h5, h6, h7, h8, h9, i1, i2, i3, i4, i5, i6, h16, h17, h18, h19, h20, h21, h22, h23, h24, h25, h26, h27⟩ := h
  obtain ⟨n, ow, sh, ak, uk, uc, ph, wl, inn, out, st, asks, back, dv, M, val⟩ := s
  simp only at *
  refine ⟨?_, ?_, ?_⟩
  · constructor <;> simp only [List.countP_append, List.countP_cons, List.countP_nil, List.mem_append, List.mem_cons, List.mem_singleton, isGet, isK, isRc, isGr, isC] at *
    all_goals (first | assumption | grind)
  · constructor <;> simp only [List.countP_append, List.countP_cons, List.countP_nil, List.mem_append, List.mem_cons, List.mem_singleton, isGet, isK, isRc, isGr, isC] at * <;> (first | assumption | grind)
  · grind
theorem ask2 {s : St} (h : Inv s) (c : Int) (hc : 0 ≤ c ∧ c < s.n) (ha : s.asks c = false) (hb : s.back c = false) (hs : s.st c < 2) : Inv { s with asks := fun d => if d = c then true else s.asks d, inn := s.inn ++ [⟨2, c, 0⟩] } := by
  have N3 := h.b.N3
  have N4 := h.b.N4
  have N5 := h.b.N5
  have N6 := h.b.N6
  have N7 := h.b.N7
  have N7' := h.b.N7'
  have N1 := h.b.N1
  have N11 := h.b.N11
  have N12 := h.b.N12
  have N14 := h.b.N14
  have N16 := h.b.N16
  obtain ⟨h, ⟨p1, p2, p3, p4, p5⟩, hid⟩ := h
  have S2 := h.S2
  have S3 := h.S3
  have S4 := h.S4 ⟨p1, p2, p3, p4, p5⟩
  obtain ⟨h1, h2, h3, h4, h5, h6, h7, h8, h9, i1, i2, i3, i4, i5, i6, h16, h17, h18, h19, h20, h21, h22, h23, h24, h25, h26, h27⟩ := h
  obtain ⟨n, ow, sh, ak, uk, uc, ph, wl, inn, out, st, asks, back, dv, M, val⟩ := s
  simp only at *
  refine ⟨?_, ?_, ?_⟩
  · constructor <;> simp only [List.countP_append, List.countP_cons, List.countP_nil, List.mem_append, List.mem_cons, List.mem_singleton, isGet, isK, isRc, isGr, isC] at *
    all_goals (first | assumption | grind)
  · constructor <;> simp only [List.countP_append, List.countP_cons, List.countP_nil, List.mem_append, List.mem_cons, List.mem_singleton, isGet, isK, isRc, isGr, isC] at * <;> (first | assumption | grind)
  · grind
theorem write {s : St} (h : Inv s) (c nv : Int) (hc : 0 ≤ c ∧ c < s.n) (hs : s.st c = 2) : Inv { s with val := nv, dv := fun d => if d = c then nv else s.dv d } := by
  have N3 := h.b.N3
  have N4 := h.b.N4
  have N5 := h.b.N5
  have N6 := h.b.N6
  have N7 := h.b.N7
  have N7' := h.b.N7'
  have N1 := h.b.N1
  have N11 := h.b.N11
  have N12 := h.b.N12
  have N14 := h.b.N14
  have N16 := h.b.N16
  obtain ⟨h, ⟨p1, p2, p3, p4, p5⟩, hid⟩ := h
  have S2 := h.S2
  have S3 := h.S3
  have S4 := h.S4 ⟨p1, p2, p3, p4, p5⟩
  obtain ⟨h1, h2, h3, h4, h5, h6, h7, h8, h9, i1, i2, i3, i4, i5, i6, h16, h17, h18, h19, h20, h21, h22, h23, h24, h25, h26, h27⟩ := h
  obtain ⟨n, ow, sh, ak, uk, uc, ph, wl, inn, out, st, asks, back, dv, M, val⟩ := s
  simp only at *
  refine ⟨?_, ?_, ?_⟩
  · constructor <;> simp only [List.countP_append, List.countP_cons, List.countP_nil, List.mem_append, List.mem_cons, List.mem_singleton, isGet, isK, isRc, isGr, isC] at *
    all_goals (first | assumption | grind)
  · constructor <;> simp only [List.countP_append, List.countP_cons, List.countP_nil, List.mem_append, List.mem_cons, List.mem_singleton, isGet, isK, isRc, isGr, isC] at * <;> (first | assumption | grind)
  · grind
theorem drop2 {s : St} (h : Inv s) (c : Int) (hc : 0 ≤ c ∧ c < s.n) (hs : s.st c = 2) : Inv { s with st := fun d => if d = c then 0 else s.st d, back := fun d => if d = c then true else s.back d, inn := s.inn ++ [⟨3, c, s.dv c⟩] } := by
  have N3 := h.b.N3
  have N4 := h.b.N4
  have N5 := h.b.N5
  have N6 := h.b.N6
  have N7 := h.b.N7
  have N7' := h.b.N7'
  have N1 := h.b.N1
  have N11 := h.b.N11
  have N12 := h.b.N12
  have N14 := h.b.N14
  have N16 := h.b.N16
  obtain ⟨h, ⟨p1, p2, p3, p4, p5⟩, hid⟩ := h
  have S2 := h.S2
  have S3 := h.S3
  have S4 := h.S4 ⟨p1, p2, p3, p4, p5⟩
  obtain ⟨h1, h2, h3, h4, h5, h6, h7, h8, h9, i1, i2, i3, i4, i5, i6, h16, h17, h18, h19, h20, h21, h22, h23, h24, h25, h26, h27⟩ := h
  obtain ⟨n, ow, sh, ak, uk, uc, ph, wl, inn, out, st, asks, back, dv, M, val⟩ := s
  simp only at *
  refine ⟨?_, ?_, ?_⟩
  · constructor <;> simp only [List.countP_append, List.countP_cons, List.countP_nil, List.mem_append, List.mem_cons, List.mem_singleton, isGet, isK, isRc, isGr, isC] at *
    all_goals (first | assumption | grind)
  · constructor <;> simp only [List.countP_append, List.countP_cons, List.countP_nil, List.mem_append, List.mem_cons, List.mem_singleton, isGet, isK, isRc, isGr, isC] at * <;> (first | assumption | grind)
  · grind
theorem drop {s : St} (h : Inv s) (c : Int) (hc : 0 ≤ c ∧ c < s.n) (hs : s.st c ≠ 2) : Inv { s with st := fun d => if d = c then 0 else s.st d } := by
  have N3 := h.b.N3
  have N4 := h.b.N4
  have N5 := h.b.N5
  have N6 := h.b.N6
  have N7 := h.b.N7
  have N7' := h.b.N7'
  have N1 := h.b.N1
  have N11 := h.b.N11
  have N12 := h.b.N12
  have N14 := h.b.N14
  have N16 := h.b.N16
  obtain ⟨h, ⟨p1, p2, p3, p4, p5⟩, hid⟩ := h
  have S2 := h.S2
  have S3 := h.S3
  have S4 := h.S4 ⟨p1, p2, p3, p4, p5⟩
  obtain ⟨h1, h2, h3, h4, h5, h6, h7, h8, h9, i1, i2, i3, i4, i5, i6, h16, h17, h18, h19, h20, h21, h22, h23, h24, h25, h26, h27⟩ := h
  obtain ⟨n, ow, sh, ak, uk, uc, ph, wl, inn, out, st, asks, back, dv, M, val⟩ := s
  simp only at *
  refine ⟨?_, ?_, ?_⟩
  · constructor <;> simp only [List.countP_append, List.countP_cons, List.countP_nil, List.mem_append, List.mem_cons, List.mem_singleton, isGet, isK, isRc, isGr, isC] at *
    all_goals (first | assumption | grind)
  · constructor <;> simp only [List.countP_append, List.countP_cons, List.countP_nil, List.mem_append, List.mem_cons, List.mem_singleton, isGet, isK, isRc, isGr, isC] at * <;> (first | assumption | grind)
  · grind
theorem hInv {s : St} (h : Inv s) (c v : Int) (rest : List Ms) (ho : s.out = ⟨11, c, v⟩ :: rest) : Inv { s with st := fun d => if d = c then 0 else s.st d, out := rest, inn := s.inn ++ [⟨4, c, 0⟩] } := by
  have N3 := h.b.N3
  have N4 := h.b.N4
  have N5 := h.b.N5
  have N6 := h.b.N6
  have N7 := h.b.N7
  have N7' := h.b.N7'
  have N1 := h.b.N1
  have N11 := h.b.N11
  have N12 := h.b.N12
  have N14 := h.b.N14
  have N16 := h.b.N16
  obtain ⟨h, ⟨p1, p2, p3, p4, p5⟩, hid⟩ := h
  have S2 := h.S2
  have S3 := h.S3
  have S4 := h.S4 ⟨p1, p2, p3, p4, p5⟩
  obtain ⟨h1, h2, h3, h4, h5, h6, h7, h8, h9, i1, i2, i3, i4, i5, i6, h16, h17, h18, h19, h20, h21, h22, h23, h24, h25, h26, h27⟩ := h
  obtain ⟨n, ow, sh, ak, uk, uc, ph, wl, inn, out, st, asks, back, dv, M, val⟩ := s
  simp only at *
  subst ho
  have qh2 := h2 _ (List.mem_cons_self ..)
  have qh20 := h20 _ (List.mem_cons_self ..)
  have qh25 := h25 _ (List.mem_cons_self ..)
  have qN11 := N11 _ (List.mem_cons_self ..)
  have qN12 := N12 _ (List.mem_cons_self ..)
  have qN14 := N14 _ (List.mem_cons_self ..)
  have qN16 := N16 _ (List.mem_cons_self ..)
  simp only at qh2 qh20 qh25 qN11 qN12 qN14 qN16
  refine ⟨?_, ?_, ?_⟩
  · constructor <;> simp only [List.countP_append, List.countP_cons, List.countP_nil, List.mem_append, List.mem_cons, List.mem_singleton, isGet, isK, isRc, isGr, isC] at *
    all_goals (first | assumption | grind)
  · constructor <;> simp only [List.countP_append, List.countP_cons, List.countP_nil, List.mem_append, List.mem_cons, List.mem_singleton, isGet, isK, isRc, isGr, isC] at * <;> (first | assumption | grind)
  · grind
theorem hRec12 {s : St} (h : Inv s) (c v : Int) (rest : List Ms) (ho : s.out = ⟨12, c, v⟩ :: rest) (hs : s.st c = 2) : Inv { s with st := fun d => if d = c then 1 else s.st d, out := rest, inn := s.inn ++ [⟨5, c, s.dv c⟩] } := by
  have N3 := h.b.N3
  have N4 := h.b.N4
  have N5 := h.b.N5
  have N6 := h.b.N6
  have N7 := h.b.N7
  have N7' := h.b.N7'
  have N1 := h.b.N1
  have N11 := h.b.N11
  have N12 := h.b.N12
  have N14 := h.b.N14
  have N16 := h.b.N16
  obtain ⟨h, ⟨p1, p2, p3, p4, p5⟩, hid⟩ := h
  have S2 := h.S2
  have S3 := h.S3
  have S4 := h.S4 ⟨p1, p2, p3, p4, p5⟩
  obtain ⟨h1, h2, h3, h4, h5, h6, h7, h8, h9, i1, i2, i3, i4, i5, i6, h16, h17, h18, h19, h20, h21, h22, h23, h24, h25, h26, h27⟩ := h
  obtain ⟨n, ow, sh, ak, uk, uc, ph, wl, inn, out, st, asks, back, dv, M, val⟩ := s
  simp only at *
  subst ho
  have qh2 := h2 _ (List.mem_cons_self ..)
  have qh20 := h20 _ (List.mem_cons_self ..)
  have qh25 := h25 _ (List.mem_cons_self ..)
  have qN11 := N11 _ (List.mem_cons_self ..)
  have qN12 := N12 _ (List.mem_cons_self ..)
  have qN14 := N14 _ (List.mem_cons_self ..)
  have qN16 := N16 _ (List.mem_cons_self ..)
  simp only at qh2 qh20 qh25 qN11 qN12 qN14 qN16
  refine ⟨?_, ?_, ?_⟩
  · constructor <;> simp only [List.countP_append, List.countP_cons, List.countP_nil, List.mem_append, List.mem_cons, List.mem_singleton, isGet, isK, isRc, isGr, isC] at *
    all_goals (first | assumption | grind)
  · constructor <;> simp only [List.countP_append, List.countP_cons, List.countP_nil, List.mem_append, List.mem_cons, List.mem_singleton, isGet, isK, isRc, isGr, isC] at * <;> (first | assumption | grind)
  · grind
theorem hRecN12 {s : St} (h : Inv s) (c v : Int) (rest : List Ms) (ho : s.out = ⟨12, c, v⟩ :: rest) (hs : s.st c ≠ 2) : Inv { s with out := rest, inn := s.inn ++ [⟨6, c, 0⟩] } := by
  have N3 := h.b.N3
  have N4 := h.b.N4
  have N5 := h.b.N5
  have N6 := h.b.N6
  have N7 := h.b.N7
  have N7' := h.b.N7'
  have N1 := h.b.N1
  have N11 := h.b.N11
  have N12 := h.b.N12
  have N14 := h.b.N14
  have N16 := h.b.N16
  obtain ⟨h, ⟨p1, p2, p3, p4, p5⟩, hid⟩ := h
  have S2 := h.S2
  have S3 := h.S3
  have S4 := h.S4 ⟨p1, p2, p3, p4, p5⟩
  obtain ⟨h1, h2, h3, h4, h5, h6, h7, h8, h9, i1, i2, i3, i4, i5, i6, h16, h17, h18, h19, h20, h21, h22, h23, h24, h25, h26, h27⟩ := h
  obtain ⟨n, ow, sh, ak, uk, uc, ph, wl, inn, out, st, asks, back, dv, M, val⟩ := s
  simp only at *
  subst ho
  have qh2 := h2 _ (List.mem_cons_self ..)
  have qh20 := h20 _ (List.mem_cons_self ..)
  have qh25 := h25 _ (List.mem_cons_self ..)
  have qN11 := N11 _ (List.mem_cons_self ..)
  have qN12 := N12 _ (List.mem_cons_self ..)
  have qN14 := N14 _ (List.mem_cons_self ..)
  have qN16 := N16 _ (List.mem_cons_self ..)
  simp only at qh2 qh20 qh25 qN11 qN12 qN14 qN16
  refine ⟨?_, ?_, ?_⟩
  · constructor <;> simp only [List.countP_append, List.countP_cons, List.countP_nil, List.mem_append, List.mem_cons, List.mem_singleton, isGet, isK, isRc, isGr, isC] at *
    all_goals (first | assumption | grind)
  · constructor <;> simp only [List.countP_append, List.countP_cons, List.countP_nil, List.mem_append, List.mem_cons, List.mem_singleton, isGet, isK, isRc, isGr, isC] at * <;> (first | assumption | grind)
  · grind
theorem hRec13 {s : St} (h : Inv s) (c v : Int) (rest : List Ms) (ho : s.out = ⟨13, c, v⟩ :: rest) (hs : s.st c = 2) : Inv { s with st := fun d => if d = c then 0 else s.st d, out := rest, inn := s.inn ++ [⟨5, c, s.dv c⟩] } := by
  have N3 := h.b.N3
  have N4 := h.b.N4
  have N5 := h.b.N5
  have N6 := h.b.N6
  have N7 := h.b.N7
  have N7' := h.b.N7'
  have N1 := h.b.N1
  have N11 := h.b.N11
  have N12 := h.b.N12
  have N14 := h.b.N14
  have N16 := h.b.N16
  obtain ⟨h, ⟨p1, p2, p3, p4, p5⟩, hid⟩ := h
  have S2 := h.S2
  have S3 := h.S3
  have S4 := h.S4 ⟨p1, p2, p3, p4, p5⟩
  obtain ⟨h1, h2, h3, h4, h5, h6, h7, h8, h9, i1, i2, i3, i4, i5, i6, h16, h17, h18, h19, h20, h21, h22, h23, h24, h25, h26, h27⟩ := h
  obtain ⟨n, ow, sh, ak, uk, uc, ph, wl, inn, out, st, asks, back, dv, M, val⟩ := s
  simp only at *
  subst ho
  have qh2 := h2 _ (List.mem_cons_self ..)
  have qh20 := h20 _ (List.mem_cons_self ..)
  have qh25 := h25 _ (List.mem_cons_self ..)
  have qN11 := N11 _ (List.mem_cons_self ..)
  have qN12 := N12 _ (List.mem_cons_self ..)
  have qN14 := N14 _ (List.mem_cons_self ..)
  have qN16 := N16 _ (List.mem_cons_self ..)
  simp only at qh2 qh20 qh25 qN11 qN12 qN14 qN16
  refine ⟨?_, ?_, ?_⟩
  · constructor <;> simp only [List.countP_append, List.countP_cons, List.countP_nil, List.mem_append, List.mem_cons, List.mem_singleton, isGet, isK, isRc, isGr, isC] at *
    all_goals (first | assumption | grind)
  · constructor <;> simp only [List.countP_append, List.countP_cons, List.countP_nil, List.mem_append, List.mem_cons, List.mem_singleton, isGet, isK, isRc, isGr, isC] at * <;> (first | assumption | grind)
  · grind
theorem hRecN13 {s : St} (h : Inv s) (c v : Int) (rest : List Ms) (ho : s.out = ⟨13, c, v⟩ :: rest) (hs : s.st c ≠ 2) : Inv { s with out := rest, inn := s.inn ++ [⟨6, c, 0⟩] } := by
  have N3 := h.b.N3
  have N4 := h.b.N4
  have N5 := h.b.N5
  have N6 := h.b.N6
  have N7 := h.b.N7
  have N7' := h.b.N7'
  have N1 := h.b.N1
  have N11 := h.b.N11
  have N12 := h.b.N12
  have N14 := h.b.N14
  have N16 := h.b.N16
  obtain ⟨h, ⟨p1, p2, p3, p4, p5⟩, hid⟩ := h
  have S2 := h.S2
  have S3 := h.S3
  have S4 := h.S4 ⟨p1, p2, p3, p4, p5⟩
  obtain ⟨h1, h2, h3, h4, h5, h6, h7, h8, h9, i1, i2, i3, i4, i5, i6, h16, h17, h18, h19, h20, h21, h22, h23, h24, h25, h26, h27⟩ := h
  obtain ⟨n, ow, sh, ak, uk, uc, ph, wl, inn, out, st, asks, back, dv, M, val⟩ := s
  simp only at *
  subst ho
  have qh2 := h2 _ (List.mem_cons_self ..)
  have qh20 := h20 _ (List.mem_cons_self ..)
  have qh25 := h25 _ (List.mem_cons_self ..)
  have qN11 := N11 _ (List.mem_cons_self ..)
  have qN12 := N12 _ (List.mem_cons_self ..)
  have qN14 := N14 _ (List.mem_cons_self ..)
  have qN16 := N16 _ (List.mem_cons_self ..)
  simp only at qh2 qh20 qh25 qN11 qN12 qN14 qN16
  refine ⟨?_, ?_, ?_⟩
  · constructor <;> simp only [List.countP_append, List.countP_cons, List.countP_nil, List.mem_append, List.mem_cons, List.mem_singleton, isGet, isK, isRc, isGr, isC] at *
    all_goals (first | assumption | grind)
  · constructor <;> simp only [List.countP_append, List.countP_cons, List.countP_nil, List.mem_append, List.mem_cons, List.mem_singleton, isGet, isK, isRc, isGr, isC] at * <;> (first | assumption | grind)
  · grind
theorem hGr14 {s : St} (h : Inv s) (c v : Int) (rest : List Ms) (ho : s.out = ⟨14, c, v⟩ :: rest) : Inv { s with asks := fun d => if d = c then false else s.asks d, dv := fun d => if d = c then v else s.dv d, st := fun d => if d = c then 1 else s.st d, out := rest, inn := s.inn ++ [⟨7, c, 0⟩] } := by
  have N3 := h.b.N3
  have N4 := h.b.N4
  have N5 := h.b.N5
  have N6 := h.b.N6
  have N7 := h.b.N7
  have N7' := h.b.N7'
  have N1 := h.b.N1
  have N11 := h.b.N11
  have N12 := h.b.N12
  have N14 := h.b.N14
  have N16 := h.b.N16
  obtain ⟨h, ⟨p1, p2, p3, p4, p5⟩, hid⟩ := h
  have S2 := h.S2
  have S3 := h.S3
  have S4 := h.S4 ⟨p1, p2, p3, p4, p5⟩
  obtain ⟨h1, h2, h3, h4, h5, h6, h7, h8, h9, i1, i2, i3, i4, i5, i6, h16, h17, h18, h19, h20, h21, h22, h23, h24, h25, h26, h27⟩ := h
  obtain ⟨n, ow, sh, ak, uk, uc, ph, wl, inn, out, st, asks, back, dv, M, val⟩ := s
  simp only at *
  subst ho
  have qh2 := h2 _ (List.mem_cons_self ..)
  have qh20 := h20 _ (List.mem_cons_self ..)
  have qh25 := h25 _ (List.mem_cons_self ..)
  have qN11 := N11 _ (List.mem_cons_self ..)
  have qN12 := N12 _ (List.mem_cons_self ..)
  have qN14 := N14 _ (List.mem_cons_self ..)
  have qN16 := N16 _ (List.mem_cons_self ..)
  simp only at qh2 qh20 qh25 qN11 qN12 qN14 qN16
  refine ⟨?_, ?_, ?_⟩
  · constructor <;> simp only [List.countP_append, List.countP_cons, List.countP_nil, List.mem_append, List.mem_cons, List.mem_singleton, isGet, isK, isRc, isGr, isC] at *
    all_goals (first | assumption | grind)
  · constructor <;> simp only [List.countP_append, List.countP_cons, List.countP_nil, List.mem_append, List.mem_cons, List.mem_singleton, isGet, isK, isRc, isGr, isC] at * <;> (first | assumption | grind)
  · grind
theorem hGr15 {s : St} (h : Inv s) (c v : Int) (rest : List Ms) (ho : s.out = ⟨15, c, v⟩ :: rest) : Inv { s with asks := fun d => if d = c then false else s.asks d, dv := fun d => if d = c then v else s.dv d, st := fun d => if d = c then 2 else s.st d, out := rest, inn := s.inn ++ [⟨7, c, 0⟩] } := by
  have N3 := h.b.N3
  have N4 := h.b.N4
  have N5 := h.b.N5
  have N6 := h.b.N6
  have N7 := h.b.N7
  have N7' := h.b.N7'
  have N1 := h.b.N1
  have N11 := h.b.N11
  have N12 := h.b.N12
  have N14 := h.b.N14
  have N16 := h.b.N16
  obtain ⟨h, ⟨p1, p2, p3, p4, p5⟩, hid⟩ := h
  have S2 := h.S2
  have S3 := h.S3
  have S4 := h.S4 ⟨p1, p2, p3, p4, p5⟩
  obtain ⟨h1, h2, h3, h4, h5, h6, h7, h8, h9, i1, i2, i3, i4, i5, i6, h16, h17, h18, h19, h20, h21, h22, h23, h24, h25, h26, h27⟩ := h
  obtain ⟨n, ow, sh, ak, uk, uc, ph, wl, inn, out, st, asks, back, dv, M, val⟩ := s
  simp only at *
  subst ho
  have qh2 := h2 _ (List.mem_cons_self ..)
  have qh20 := h20 _ (List.mem_cons_self ..)
  have qh25 := h25 _ (List.mem_cons_self ..)
  have qN11 := N11 _ (List.mem_cons_self ..)
  have qN12 := N12 _ (List.mem_cons_self ..)
  have qN14 := N14 _ (List.mem_cons_self ..)
  have qN16 := N16 _ (List.mem_cons_self ..)
  simp only at qh2 qh20 qh25 qN11 qN12 qN14 qN16
  refine ⟨?_, ?_, ?_⟩
  · constructor <;> simp only [List.countP_append, List.countP_cons, List.countP_nil, List.mem_append, List.mem_cons, List.mem_singleton, isGet, isK, isRc, isGr, isC] at *
    all_goals (first | assumption | grind)
  · constructor <;> simp only [List.countP_append, List.countP_cons, List.countP_nil, List.mem_append, List.mem_cons, List.mem_singleton, isGet, isK, isRc, isGr, isC] at * <;> (first | assumption | grind)
  · grind
theorem hPA {s : St} (h : Inv s) (c v : Int) (rest : List Ms) (ho : s.out = ⟨16, c, v⟩ :: rest) : Inv { s with back := fun d => if d = c then false else s.back d, out := rest } := by
  have N3 := h.b.N3
  have N4 := h.b.N4
  have N5 := h.b.N5
  have N6 := h.b.N6
  have N7 := h.b.N7
  have N7' := h.b.N7'
  have N1 := h.b.N1
  have N11 := h.b.N11
  have N12 := h.b.N12
  have N14 := h.b.N14
  have N16 := h.b.N16
  obtain ⟨h, ⟨p1, p2, p3, p4, p5⟩, hid⟩ := h
  have S2 := h.S2
  have S3 := h.S3
  have S4 := h.S4 ⟨p1, p2, p3, p4, p5⟩
  obtain ⟨h1, h2, h3, h4, h5, h6, h7, h8, h9, i1, i2, i3, i4, i5, i6, h16, h17, h18, h19, h20, h21, h22, h23, h24, h25, h26, h27⟩ := h
  obtain ⟨n, ow, sh, ak, uk, uc, ph, wl, inn, out, st, asks, back, dv, M, val⟩ := s
  simp only at *
  subst ho
  have qh2 := h2 _ (List.mem_cons_self ..)
  have qh20 := h20 _ (List.mem_cons_self ..)
  have qh25 := h25 _ (List.mem_cons_self ..)
  have qN11 := N11 _ (List.mem_cons_self ..)
  have qN12 := N12 _ (List.mem_cons_self ..)
  have qN14 := N14 _ (List.mem_cons_self ..)
  have qN16 := N16 _ (List.mem_cons_self ..)
  simp only at qh2 qh20 qh25 qN11 qN12 qN14 qN16
  refine ⟨?_, ?_, ?_⟩
  · constructor <;> simp only [List.countP_append, List.countP_cons, List.countP_nil, List.mem_append, List.mem_cons, List.mem_singleton, isGet, isK, isRc, isGr, isC] at *
    all_goals (first | assumption | grind)
  · constructor <;> simp only [List.countP_append, List.countP_cons, List.countP_nil, List.mem_append, List.mem_cons, List.mem_singleton, isGet, isK, isRc, isGr, isC] at * <;> (first | assumption | grind)
  · grind
theorem gWait1 {s : St} (h : Inv s) (c v : Int) (rest : List Ms) (ho : s.inn = ⟨1, c, v⟩ :: rest) (hp : s.ph ≠ 0) : Inv { s with inn := rest, wl := s.wl ++ [⟨1, c, 0⟩] } := by
  have N3 := h.b.N3
  have N4 := h.b.N4
  have N5 := h.b.N5
  have N6 := h.b.N6
  have N7 := h.b.N7
  have N7' := h.b.N7'
  have N1 := h.b.N1
  have N11 := h.b.N11
  have N12 := h.b.N12
  have N14 := h.b.N14
  have N16 := h.b.N16
  obtain ⟨h, ⟨p1, p2, p3, p4, p5⟩, hid⟩ := h
  have S2 := h.S2
  have S3 := h.S3
  have S4 := h.S4 ⟨p1, p2, p3, p4, p5⟩
  obtain ⟨h1, h2, h3, h4, h5, h6, h7, h8, h9, i1, i2, i3, i4, i5, i6, h16, h17, h18, h19, h20, h21, h22, h23, h24, h25, h26, h27⟩ := h
  obtain ⟨n, ow, sh, ak, uk, uc, ph, wl, inn, out, st, asks, back, dv, M, val⟩ := s
  simp only at *
  subst ho
  have qh1 := h1 _ (List.mem_cons_self ..)
  have qh21 := h21 _ (List.mem_cons_self ..)
  have qh22 := h22 _ (List.mem_cons_self ..)
  have qh23 := h23 _ (List.mem_cons_self ..)
  have qh24 := h24 _ (List.mem_cons_self ..)
  have qN1 := N1 _ (List.mem_cons_self ..)
  simp only at qh1 qh21 qh22 qh23 qh24 qN1
  refine ⟨?_, ?_, ?_⟩
  · constructor <;> simp only [List.countP_append, List.countP_cons, List.countP_nil, List.mem_append, List.mem_cons, List.mem_singleton, isGet, isK, isRc, isGr, isC] at *
    all_goals (first | assumption | grind)
  · constructor <;> simp only [List.countP_append, List.countP_cons, List.countP_nil, List.mem_append, List.mem_cons, List.mem_singleton, isGet, isK, isRc, isGr, isC] at * <;> (first | assumption | grind)
  · grind
theorem bRec1 {s : St} (h : Base s) (c v : Int) (rest : List Ms) (ho : s.inn = ⟨1, c, v⟩ :: rest) (hp : s.ph = 0) (hw : 0 ≤ s.ow) : Inv { s with inn := rest, uk := 1, uc := c, ph := 2, ak := fun d => decide (d = s.ow), out := s.out ++ [⟨12, s.ow, 0⟩] } := by
  have N3 := h.N3
  have N4 := h.N4
  have N5 := h.N5
  have N6 := h.N6
  have N7 := h.N7
  have N7' := h.N7'
  have N1 := h.N1
  have N11 := h.N11
  have N12 := h.N12
  have N14 := h.N14
  have N16 := h.N16
  have S2 := h.S2
  have S3 := h.S3
  obtain ⟨h1, h2, h3, h4, h5, h6, h7, h8, h9, i1, i2, i3, i4, i5, i6, h16, h17, h18, h19, h20, h21, h22, h23, h24, h25, h26, h27⟩ := h
  obtain ⟨n, ow, sh, ak, uk, uc, ph, wl, inn, out, st, asks, back, dv, M, val⟩ := s
  simp only at *
  subst ho
  have qh1 := h1 _ (List.mem_cons_self ..)
  have qh21 := h21 _ (List.mem_cons_self ..)
  have qh22 := h22 _ (List.mem_cons_self ..)
  have qh23 := h23 _ (List.mem_cons_self ..)
  have qh24 := h24 _ (List.mem_cons_self ..)
  have qN1 := N1 _ (List.mem_cons_self ..)
  simp only at qh1 qh21 qh22 qh23 qh24 qN1
  subst hp
  refine ⟨?_, ?_, ?_⟩
  · constructor <;> simp only [List.countP_append, List.countP_cons, List.countP_nil, List.mem_append, List.mem_cons, List.mem_singleton, isGet, isK, isRc, isGr, isC] at *
    all_goals (first | assumption | grind)
  · constructor <;> simp only [List.countP_append, List.countP_cons, List.countP_nil, List.mem_append, List.mem_cons, List.mem_singleton, isGet, isK, isRc, isGr, isC] at * <;> (first | assumption | grind | exact fun hq => ⟨ow, by grind, by grind, by grind⟩)
  · grind
theorem bGr1 {s : St} (h : Base s) (c v : Int) (rest : List Ms) (ho : s.inn = ⟨1, c, v⟩ :: rest) (hp : s.ph = 0) (hw : s.ow = -1) : Base { s with inn := rest, uk := 1, uc := c, ph := 1, ak := fun _ => false } := by
  have N3 := h.N3
  have N4 := h.N4
  have N5 := h.N5
  have N6 := h.N6
  have N7 := h.N7
  have N7' := h.N7'
  have N1 := h.N1
  have N11 := h.N11
  have N12 := h.N12
  have N14 := h.N14
  have N16 := h.N16
  have S2 := h.S2
  have S3 := h.S3
  obtain ⟨h1, h2, h3, h4, h5, h6, h7, h8, h9, i1, i2, i3, i4, i5, i6, h16, h17, h18, h19, h20, h21, h22, h23, h24, h25, h26, h27⟩ := h
  obtain ⟨n, ow, sh, ak, uk, uc, ph, wl, inn, out, st, asks, back, dv, M, val⟩ := s
  simp only at *
  subst ho
  have qh1 := h1 _ (List.mem_cons_self ..)
  have qh21 := h21 _ (List.mem_cons_self ..)
  have qh22 := h22 _ (List.mem_cons_self ..)
  have qh23 := h23 _ (List.mem_cons_self ..)
  have qh24 := h24 _ (List.mem_cons_self ..)
  have qN1 := N1 _ (List.mem_cons_self ..)
  simp only at qh1 qh21 qh22 qh23 qh24 qN1
  subst hp
  constructor <;> simp only [List.countP_append, List.countP_cons, List.countP_nil, List.mem_append, List.mem_cons, List.mem_singleton, isGet, isK, isRc, isGr, isC] at *
  all_goals (first | assumption | grind)
theorem gWait2 {s : St} (h : Inv s) (c v : Int) (rest : List Ms) (ho : s.inn = ⟨2, c, v⟩ :: rest) (hp : s.ph ≠ 0) : Inv { s with inn := rest, wl := s.wl ++ [⟨2, c, 0⟩] } := by
  have N3 := h.b.N3
  have N4 := h.b.N4
  have N5 := h.b.N5
  have N6 := h.b.N6
  have N7 := h.b.N7
  have N7' := h.b.N7'
  have N1 := h.b.N1
  have N11 := h.b.N11
  have N12 := h.b.N12
  have N14 := h.b.N14
  have N16 := h.b.N16
  obtain ⟨h, ⟨p1, p2, p3, p4, p5⟩, hid⟩ := h
  have S2 := h.S2
  have S3 := h.S3
  have S4 := h.S4 ⟨p1, p2, p3, p4, p5⟩
  obtain ⟨h1, h2, h3, h4, h5, h6, h7, h8, h9, i1, i2, i3, i4, i5, i6, h16, h17, h18, h19, h20, h21, h22, h23, h24, h25, h26, h27⟩ := h
  obtain ⟨n, ow, sh, ak, uk, uc, ph, wl, inn, out, st, asks, back, dv, M, val⟩ := s
  simp only at *
  subst ho
  have qh1 := h1 _ (List.mem_cons_self ..)
  have qh21 := h21 _ (List.mem_cons_self ..)
  have qh22 := h22 _ (List.mem_cons_self ..)
  have qh23 := h23 _ (List.mem_cons_self ..)
  have qh24 := h24 _ (List.mem_cons_self ..)
  have qN1 := N1 _ (List.mem_cons_self ..)
  simp only at qh1 qh21 qh22 qh23 qh24 qN1
  refine ⟨?_, ?_, ?_⟩
  · constructor <;> simp only [List.countP_append, List.countP_cons, List.countP_nil, List.mem_append, List.mem_cons, List.mem_singleton, isGet, isK, isRc, isGr, isC] at *
    all_goals (first | assumption | grind)
  · constructor <;> simp only [List.countP_append, List.countP_cons, List.countP_nil, List.mem_append, List.mem_cons, List.mem_singleton, isGet, isK, isRc, isGr, isC] at * <;> (first | assumption | grind)
  · grind
theorem bRec2 {s : St} (h : Base s) (c v : Int) (rest : List Ms) (ho : s.inn = ⟨2, c, v⟩ :: rest) (hp : s.ph = 0) (hw : 0 ≤ s.ow) : Inv { s with inn := rest, uk := 2, uc := c, ph := 2, ak := fun d => decide (d = s.ow), out := s.out ++ [⟨13, s.ow, 0⟩] } := by
  have N3 := h.N3
  have N4 := h.N4
  have N5 := h.N5
  have N6 := h.N6
  have N7 := h.N7
  have N7' := h.N7'
  have N1 := h.N1
  have N11 := h.N11
  have N12 := h.N12
  have N14 := h.N14
  have N16 := h.N16
  have S2 := h.S2
  have S3 := h.S3
  obtain ⟨h1, h2, h3, h4, h5, h6, h7, h8, h9, i1, i2, i3, i4, i5, i6, h16, h17, h18, h19, h20, h21, h22, h23, h24, h25, h26, h27⟩ := h
  obtain ⟨n, ow, sh, ak, uk, uc, ph, wl, inn, out, st, asks, back, dv, M, val⟩ := s
  simp only at *
  subst ho
  have qh1 := h1 _ (List.mem_cons_self ..)
  have qh21 := h21 _ (List.mem_cons_self ..)
  have qh22 := h22 _ (List.mem_cons_self ..)
  have qh23 := h23 _ (List.mem_cons_self ..)
  have qh24 := h24 _ (List.mem_cons_self ..)
  have qN1 := N1 _ (List.mem_cons_self ..)
  simp only at qh1 qh21 qh22 qh23 qh24 qN1
  subst hp
  refine ⟨?_, ?_, ?_⟩
  · constructor <;> simp only [List.countP_append, List.countP_cons, List.countP_nil, List.mem_append, List.mem_cons, List.mem_singleton, isGet, isK, isRc, isGr, isC] at *
    all_goals (first | assumption | grind)
  · constructor <;> simp only [List.countP_append, List.countP_cons, List.countP_nil, List.mem_append, List.mem_cons, List.mem_singleton, isGet, isK, isRc, isGr, isC] at * <;> (first | assumption | grind | exact fun hq => ⟨ow, by grind, by grind, by grind⟩)
  · grind
theorem bGr2 {s : St} (h : Base s) (c v : Int) (rest : List Ms) (ho : s.inn = ⟨2, c, v⟩ :: rest) (hp : s.ph = 0) (hw : s.ow = -1) : Base { s with inn := rest, uk := 2, uc := c, ph := 1, ak := fun _ => false } := by
  have N3 := h.N3
  have N4 := h.N4
  have N5 := h.N5
  have N6 := h.N6
  have N7 := h.N7
  have N7' := h.N7'
  have N1 := h.N1
  have N11 := h.N11
  have N12 := h.N12
  have N14 := h.N14
  have N16 := h.N16
  have S2 := h.S2
  have S3 := h.S3
  obtain ⟨h1, h2, h3, h4, h5, h6, h7, h8, h9, i1, i2, i3, i4, i5, i6, h16, h17, h18, h19, h20, h21, h22, h23, h24, h25, h26, h27⟩ := h
  obtain ⟨n, ow, sh, ak, uk, uc, ph, wl, inn, out, st, asks, back, dv, M, val⟩ := s
  simp only at *
  subst ho
  have qh1 := h1 _ (List.mem_cons_self ..)
  have qh21 := h21 _ (List.mem_cons_self ..)
  have qh22 := h22 _ (List.mem_cons_self ..)
  have qh23 := h23 _ (List.mem_cons_self ..)
  have qh24 := h24 _ (List.mem_cons_self ..)
  have qN1 := N1 _ (List.mem_cons_self ..)
  simp only at qh1 qh21 qh22 qh23 qh24 qN1
  subst hp
  constructor <;> simp only [List.countP_append, List.countP_cons, List.countP_nil, List.mem_append, List.mem_cons, List.mem_singleton, isGet, isK, isRc, isGr, isC] at *
  all_goals (first | assumption | grind)
theorem bAcks {s : St} (h : Base s) (c v : Int) (rest : List Ms) (ho : s.inn = ⟨2, c, v⟩ :: rest) (iv : List Ms) (hp : s.ph = 0) (hw : s.ow = -1) (hd : ∃ d, s.sh d = true ∧ d ≠ c) (hi1 : ∀ d, iv.countP (isK 11 d) = if s.sh d ∧ d ≠ c then 1 else 0) (hi2 : ∀ m ∈ iv, m.k = 11 ∧ 0 ≤ m.c ∧ m.c < s.n) (hi3 : ∀ d, iv.countP (isK 15 d) = 0 ∧ iv.countP (isK 16 d) = 0 ∧ iv.countP (isRc d) = 0 ∧ iv.countP (isGr d) = 0) : Inv { s with inn := rest, uk := 2, uc := c, ph := 1, ak := fun d => s.sh d && decide (d ≠ c), out := s.out ++ iv } := by
  have N3 := h.N3
  have N4 := h.N4
  have N5 := h.N5
  have N6 := h.N6
  have N7 := h.N7
  have N7' := h.N7'
  have N1 := h.N1
  have N11 := h.N11
  have N12 := h.N12
  have N14 := h.N14
  have N16 := h.N16
  have S2 := h.S2
  have S3 := h.S3
  obtain ⟨h1, h2, h3, h4, h5, h6, h7, h8, h9, i1, i2, i3, i4, i5, i6, h16, h17, h18, h19, h20, h21, h22, h23, h24, h25, h26, h27⟩ := h
  obtain ⟨n, ow, sh, ak, uk, uc, ph, wl, inn, out, st, asks, back, dv, M, val⟩ := s
  simp only at *
  subst ho
  have qh1 := h1 _ (List.mem_cons_self ..)
  have qh21 := h21 _ (List.mem_cons_self ..)
  have qh22 := h22 _ (List.mem_cons_self ..)
  have qh23 := h23 _ (List.mem_cons_self ..)
  have qh24 := h24 _ (List.mem_cons_self ..)
  have qN1 := N1 _ (List.mem_cons_self ..)
  simp only at qh1 qh21 qh22 qh23 qh24 qN1
  subst hp
  refine ⟨?_, ?_, ?_⟩
  · constructor <;> simp only [List.countP_append, List.countP_cons, List.countP_nil, List.mem_append, List.mem_cons, List.mem_singleton, isGet, isK, isRc, isGr, isC] at *
    all_goals (first | assumption | grind)
  · constructor <;> simp only [List.countP_append, List.countP_cons, List.countP_nil, List.mem_append, List.mem_cons, List.mem_singleton, isGet, isK, isRc, isGr, isC] at * <;> (first | assumption | grind)
  · grind
theorem ackMore {s : St} (h : Inv s) (c v : Int) (rest : List Ms) (ho : s.inn = ⟨4, c, v⟩ :: rest) (hd : ∃ d, s.ak d = true ∧ d ≠ c) : Inv { s with inn := rest, sh := fun d => s.sh d && decide (d ≠ c), ak := fun d => s.ak d && decide (d ≠ c) } := by
  have N3 := h.b.N3
  have N4 := h.b.N4
  have N5 := h.b.N5
  have N6 := h.b.N6
  have N7 := h.b.N7
  have N7' := h.b.N7'
  have N1 := h.b.N1
  have N11 := h.b.N11
  have N12 := h.b.N12
  have N14 := h.b.N14
  have N16 := h.b.N16
  obtain ⟨h, ⟨p1, p2, p3, p4, p5⟩, hid⟩ := h
  have S2 := h.S2
  have S3 := h.S3
  have S4 := h.S4 ⟨p1, p2, p3, p4, p5⟩
  obtain ⟨h1, h2, h3, h4, h5, h6, h7, h8, h9, i1, i2, i3, i4, i5, i6, h16, h17, h18, h19, h20, h21, h22, h23, h24, h25, h26, h27⟩ := h
  obtain ⟨n, ow, sh, ak, uk, uc, ph, wl, inn, out, st, asks, back, dv, M, val⟩ := s
  simp only at *
  subst ho
  have qh1 := h1 _ (List.mem_cons_self ..)
  have qh21 := h21 _ (List.mem_cons_self ..)
  have qh22 := h22 _ (List.mem_cons_self ..)
  have qh23 := h23 _ (List.mem_cons_self ..)
  have qh24 := h24 _ (List.mem_cons_self ..)
  have qN4 := N4 _ (List.mem_cons_self ..)
  simp only at qh1 qh21 qh22 qh23 qh24 qN4
  refine ⟨?_, ?_, ?_⟩
  · constructor <;> simp only [List.countP_append, List.countP_cons, List.countP_nil, List.mem_append, List.mem_cons, List.mem_singleton, isGet, isK, isRc, isGr, isC] at *
    all_goals (first | assumption | grind)
  · constructor <;> simp only [List.countP_append, List.countP_cons, List.countP_nil, List.mem_append, List.mem_cons, List.mem_singleton, isGet, isK, isRc, isGr, isC] at * <;> (first | assumption | grind)
  · grind
theorem ackLast {s : St} (h : Inv s) (c v : Int) (rest : List Ms) (ho : s.inn = ⟨4, c, v⟩ :: rest) (hd : ∀ d, s.ak d = true → d = c) : Base { s with inn := rest, sh := fun d => s.sh d && decide (d ≠ c), ak := fun d => false, ph := 1 } := by
  have N3 := h.b.N3
  have N4 := h.b.N4
  have N5 := h.b.N5
  have N6 := h.b.N6
  have N7 := h.b.N7
  have N7' := h.b.N7'
  have N1 := h.b.N1
  have N11 := h.b.N11
  have N12 := h.b.N12
  have N14 := h.b.N14
  have N16 := h.b.N16
  obtain ⟨h, ⟨p1, p2, p3, p4, p5⟩, hid⟩ := h
  have S2 := h.S2
  have S3 := h.S3
  have S4 := h.S4 ⟨p1, p2, p3, p4, p5⟩
  obtain ⟨h1, h2, h3, h4, h5, h6, h7, h8, h9, i1, i2, i3, i4, i5, i6, h16, h17, h18, h19, h20, h21, h22, h23, h24, h25, h26, h27⟩ := h
  obtain ⟨n, ow, sh, ak, uk, uc, ph, wl, inn, out, st, asks, back, dv, M, val⟩ := s
  simp only at *
  subst ho
  have qh1 := h1 _ (List.mem_cons_self ..)
  have qh21 := h21 _ (List.mem_cons_self ..)
  have qh22 := h22 _ (List.mem_cons_self ..)
  have qh23 := h23 _ (List.mem_cons_self ..)
  have qh24 := h24 _ (List.mem_cons_self ..)
  have qN4 := N4 _ (List.mem_cons_self ..)
  simp only at qh1 qh21 qh22 qh23 qh24 qN4
  constructor <;> simp only [List.countP_append, List.countP_cons, List.countP_nil, List.mem_append, List.mem_cons, List.mem_singleton, isGet, isK, isRc, isGr, isC] at *
  all_goals (first | assumption | grind)
theorem recAck1 {s : St} (h : Inv s) (c v : Int) (rest : List Ms) (ho : s.inn = ⟨5, c, v⟩ :: rest) (hk : s.uk = 1) : Base { s with inn := rest, ph := 1, ak := fun _ => false, M := v, ow := -1, sh := fun d => s.sh d || decide (d = c) } := by
  have N3 := h.b.N3
  have N4 := h.b.N4
  have N5 := h.b.N5
  have N6 := h.b.N6
  have N7 := h.b.N7
  have N7' := h.b.N7'
  have N1 := h.b.N1
  have N11 := h.b.N11
  have N12 := h.b.N12
  have N14 := h.b.N14
  have N16 := h.b.N16
  obtain ⟨h, ⟨p1, p2, p3, p4, p5⟩, hid⟩ := h
  have S2 := h.S2
  have S3 := h.S3
  have S4 := h.S4 ⟨p1, p2, p3, p4, p5⟩
  obtain ⟨h1, h2, h3, h4, h5, h6, h7, h8, h9, i1, i2, i3, i4, i5, i6, h16, h17, h18, h19, h20, h21, h22, h23, h24, h25, h26, h27⟩ := h
  obtain ⟨n, ow, sh, ak, uk, uc, ph, wl, inn, out, st, asks, back, dv, M, val⟩ := s
  simp only at *
  subst ho
  have qh1 := h1 _ (List.mem_cons_self ..)
  have qh21 := h21 _ (List.mem_cons_self ..)
  have qh22 := h22 _ (List.mem_cons_self ..)
  have qh23 := h23 _ (List.mem_cons_self ..)
  have qh24 := h24 _ (List.mem_cons_self ..)
  have qN5 := N5 _ (List.mem_cons_self ..)
  simp only at qh1 qh21 qh22 qh23 qh24 qN5
  constructor <;> simp only [List.countP_append, List.countP_cons, List.countP_nil, List.mem_append, List.mem_cons, List.mem_singleton, isGet, isK, isRc, isGr, isC] at *
  all_goals (first | assumption | grind)
theorem recAck2 {s : St} (h : Inv s) (c v : Int) (rest : List Ms) (ho : s.inn = ⟨5, c, v⟩ :: rest) (hk : s.uk = 2) : Base { s with inn := rest, ph := 1, ak := fun _ => false, M := v, ow := -1 } := by
  have N3 := h.b.N3
  have N4 := h.b.N4
  have N5 := h.b.N5
  have N6 := h.b.N6
  have N7 := h.b.N7
  have N7' := h.b.N7'
  have N1 := h.b.N1
  have N11 := h.b.N11
  have N12 := h.b.N12
  have N14 := h.b.N14
  have N16 := h.b.N16
  obtain ⟨h, ⟨p1, p2, p3, p4, p5⟩, hid⟩ := h
  have S2 := h.S2
  have S3 := h.S3
  have S4 := h.S4 ⟨p1, p2, p3, p4, p5⟩
  obtain ⟨h1, h2, h3, h4, h5, h6, h7, h8, h9, i1, i2, i3, i4, i5, i6, h16, h17, h18, h19, h20, h21, h22, h23, h24, h25, h26, h27⟩ := h
  obtain ⟨n, ow, sh, ak, uk, uc, ph, wl, inn, out, st, asks, back, dv, M, val⟩ := s
  simp only at *
  subst ho
  have qh1 := h1 _ (List.mem_cons_self ..)
  have qh21 := h21 _ (List.mem_cons_self ..)
  have qh22 := h22 _ (List.mem_cons_self ..)
  have qh23 := h23 _ (List.mem_cons_self ..)
  have qh24 := h24 _ (List.mem_cons_self ..)
  have qN5 := N5 _ (List.mem_cons_self ..)
  simp only at qh1 qh21 qh22 qh23 qh24 qN5
  constructor <;> simp only [List.countP_append, List.countP_cons, List.countP_nil, List.mem_append, List.mem_cons, List.mem_singleton, isGet, isK, isRc, isGr, isC] at *
  all_goals (first | assumption | grind)
theorem recNone {s : St} (h : Inv s) (c v : Int) (rest : List Ms) (ho : s.inn = ⟨6, c, v⟩ :: rest) (hw : s.ow < 0) : Base { s with inn := rest, ph := 1, ak := fun _ => false } := by
  have N3 := h.b.N3
  have N4 := h.b.N4
  have N5 := h.b.N5
  have N6 := h.b.N6
  have N7 := h.b.N7
  have N7' := h.b.N7'
  have N1 := h.b.N1
  have N11 := h.b.N11
  have N12 := h.b.N12
  have N14 := h.b.N14
  have N16 := h.b.N16
  obtain ⟨h, ⟨p1, p2, p3, p4, p5⟩, hid⟩ := h
  have S2 := h.S2
  have S3 := h.S3
  have S4 := h.S4 ⟨p1, p2, p3, p4, p5⟩
  obtain ⟨h1, h2, h3, h4, h5, h6, h7, h8, h9, i1, i2, i3, i4, i5, i6, h16, h17, h18, h19, h20, h21, h22, h23, h24, h25, h26, h27⟩ := h
  obtain ⟨n, ow, sh, ak, uk, uc, ph, wl, inn, out, st, asks, back, dv, M, val⟩ := s
  simp only at *
  subst ho
  have qh1 := h1 _ (List.mem_cons_self ..)
  have qh21 := h21 _ (List.mem_cons_self ..)
  have qh22 := h22 _ (List.mem_cons_self ..)
  have qh23 := h23 _ (List.mem_cons_self ..)
  have qh24 := h24 _ (List.mem_cons_self ..)
  have qN6 := N6 _ (List.mem_cons_self ..)
  simp only at qh1 qh21 qh22 qh23 qh24 qN6
  constructor <;> simp only [List.countP_append, List.countP_cons, List.countP_nil, List.mem_append, List.mem_cons, List.mem_singleton, isGet, isK, isRc, isGr, isC] at *
  all_goals (first | assumption | grind)
theorem recPut {s : St} (h : Inv s) (c v : Int) (rest : List Ms) (ho : s.inn = ⟨6, c, v⟩ :: rest) (hw : 0 ≤ s.ow) : Inv { s with inn := rest, ph := 3 } := by
  have N3 := h.b.N3
  have N4 := h.b.N4
  have N5 := h.b.N5
  have N6 := h.b.N6
  have N7 := h.b.N7
  have N7' := h.b.N7'
  have N1 := h.b.N1
  have N11 := h.b.N11
  have N12 := h.b.N12
  have N14 := h.b.N14
  have N16 := h.b.N16
  obtain ⟨h, ⟨p1, p2, p3, p4, p5⟩, hid⟩ := h
  have S2 := h.S2
  have S3 := h.S3
  have S4 := h.S4 ⟨p1, p2, p3, p4, p5⟩
  obtain ⟨h1, h2, h3, h4, h5, h6, h7, h8, h9, i1, i2, i3, i4, i5, i6, h16, h17, h18, h19, h20, h21, h22, h23, h24, h25, h26, h27⟩ := h
  obtain ⟨n, ow, sh, ak, uk, uc, ph, wl, inn, out, st, asks, back, dv, M, val⟩ := s
  simp only at *
  subst ho
  have qh1 := h1 _ (List.mem_cons_self ..)
  have qh21 := h21 _ (List.mem_cons_self ..)
  have qh22 := h22 _ (List.mem_cons_self ..)
  have qh23 := h23 _ (List.mem_cons_self ..)
  have qh24 := h24 _ (List.mem_cons_self ..)
  have qN6 := N6 _ (List.mem_cons_self ..)
  simp only at qh1 qh21 qh22 qh23 qh24 qN6
  refine ⟨?_, ?_, ?_⟩
  · constructor <;> simp only [List.countP_append, List.countP_cons, List.countP_nil, List.mem_append, List.mem_cons, List.mem_singleton, isGet, isK, isRc, isGr, isC] at *
    all_goals (first | assumption | grind)
  · constructor <;> simp only [List.countP_append, List.countP_cons, List.countP_nil, List.mem_append, List.mem_cons, List.mem_singleton, isGet, isK, isRc, isGr, isC] at * <;> (first | assumption | grind)
  · grind
theorem putM {s : St} (h : Inv s) (c v : Int) (rest : List Ms) (ho : s.inn = ⟨3, c, v⟩ :: rest) (hp : s.ph ≠ 3) : Inv { s with inn := rest, M := v, ow := -1, out := s.out ++ [⟨16, c, 0⟩] } := by
  have N3 := h.b.N3
  have N4 := h.b.N4
  have N5 := h.b.N5
  have N6 := h.b.N6
  have N7 := h.b.N7
  have N7' := h.b.N7'
  have N1 := h.b.N1
  have N11 := h.b.N11
  have N12 := h.b.N12
  have N14 := h.b.N14
  have N16 := h.b.N16
  obtain ⟨h, ⟨p1, p2, p3, p4, p5⟩, hid⟩ := h
  have S2 := h.S2
  have S3 := h.S3
  have S4 := h.S4 ⟨p1, p2, p3, p4, p5⟩
  obtain ⟨h1, h2, h3, h4, h5, h6, h7, h8, h9, i1, i2, i3, i4, i5, i6, h16, h17, h18, h19, h20, h21, h22, h23, h24, h25, h26, h27⟩ := h
  obtain ⟨n, ow, sh, ak, uk, uc, ph, wl, inn, out, st, asks, back, dv, M, val⟩ := s
  simp only at *
  subst ho
  have qh1 := h1 _ (List.mem_cons_self ..)
  have qh21 := h21 _ (List.mem_cons_self ..)
  have qh22 := h22 _ (List.mem_cons_self ..)
  have qh23 := h23 _ (List.mem_cons_self ..)
  have qh24 := h24 _ (List.mem_cons_self ..)
  have qN3 := N3 _ (List.mem_cons_self ..)
  simp only at qh1 qh21 qh22 qh23 qh24 qN3
  refine ⟨?_, ?_, ?_⟩
  · constructor <;> simp only [List.countP_append, List.countP_cons, List.countP_nil, List.mem_append, List.mem_cons, List.mem_singleton, isGet, isK, isRc, isGr, isC] at *
    all_goals (first | assumption | grind)
  · constructor <;> simp only [List.countP_append, List.countP_cons, List.countP_nil, List.mem_append, List.mem_cons, List.mem_singleton, isGet, isK, isRc, isGr, isC] at * <;> (first | assumption | grind | exact fun hq => ⟨c, by grind, by grind, by grind⟩)
  · grind
theorem putMG {s : St} (h : Inv s) (c v : Int) (rest : List Ms) (ho : s.inn = ⟨3, c, v⟩ :: rest) (hp : s.ph = 3) : Base { s with inn := rest, M := v, ow := -1, out := s.out ++ [⟨16, c, 0⟩], ph := 1, ak := fun _ => false } := by
  have N3 := h.b.N3
  have N4 := h.b.N4
  have N5 := h.b.N5
  have N6 := h.b.N6
  have N7 := h.b.N7
  have N7' := h.b.N7'
  have N1 := h.b.N1
  have N11 := h.b.N11
  have N12 := h.b.N12
  have N14 := h.b.N14
  have N16 := h.b.N16
  obtain ⟨h, ⟨p1, p2, p3, p4, p5⟩, hid⟩ := h
  have S2 := h.S2
  have S3 := h.S3
  have S4 := h.S4 ⟨p1, p2, p3, p4, p5⟩
  obtain ⟨h1, h2, h3, h4, h5, h6, h7, h8, h9, i1, i2, i3, i4, i5, i6, h16, h17, h18, h19, h20, h21, h22, h23, h24, h25, h26, h27⟩ := h
  obtain ⟨n, ow, sh, ak, uk, uc, ph, wl, inn, out, st, asks, back, dv, M, val⟩ := s
  simp only at *
  subst ho
  have qh1 := h1 _ (List.mem_cons_self ..)
  have qh21 := h21 _ (List.mem_cons_self ..)
  have qh22 := h22 _ (List.mem_cons_self ..)
  have qh23 := h23 _ (List.mem_cons_self ..)
  have qh24 := h24 _ (List.mem_cons_self ..)
  have qN3 := N3 _ (List.mem_cons_self ..)
  simp only at qh1 qh21 qh22 qh23 qh24 qN3
  constructor <;> simp only [List.countP_append, List.countP_cons, List.countP_nil, List.mem_append, List.mem_cons, List.mem_singleton, isGet, isK, isRc, isGr, isC] at *
  all_goals (first | assumption | grind)
theorem unblock0 {s : St} (h : Inv s) (c v : Int) (rest : List Ms) (ho : s.inn = ⟨7, c, v⟩ :: rest) (hw : s.wl = []) : Inv { s with inn := rest, ph := 0, uk := 0, uc := 0 } := by
  have N3 := h.b.N3
  have N4 := h.b.N4
  have N5 := h.b.N5
  have N6 := h.b.N6
  have N7 := h.b.N7
  have N7' := h.b.N7'
  have N1 := h.b.N1
  have N11 := h.b.N11
  have N12 := h.b.N12
  have N14 := h.b.N14
  have N16 := h.b.N16
  obtain ⟨h, ⟨p1, p2, p3, p4, p5⟩, hid⟩ := h
  have S2 := h.S2
  have S3 := h.S3
  have S4 := h.S4 ⟨p1, p2, p3, p4, p5⟩
  obtain ⟨h1, h2, h3, h4, h5, h6, h7, h8, h9, i1, i2, i3, i4, i5, i6, h16, h17, h18, h19, h20, h21, h22, h23, h24, h25, h26, h27⟩ := h
  obtain ⟨n, ow, sh, ak, uk, uc, ph, wl, inn, out, st, asks, back, dv, M, val⟩ := s
  simp only at *
  subst ho
  have qh1 := h1 _ (List.mem_cons_self ..)
  have qh21 := h21 _ (List.mem_cons_self ..)
  have qh22 := h22 _ (List.mem_cons_self ..)
  have qh23 := h23 _ (List.mem_cons_self ..)
  have qh24 := h24 _ (List.mem_cons_self ..)
  have qN7 := N7 _ (List.mem_cons_self ..)
  have qN7' := N7' _ (List.mem_cons_self ..)
  simp only at qh1 qh21 qh22 qh23 qh24 qN7 qN7'
  refine ⟨?_, ?_, ?_⟩
  · constructor <;> simp only [List.countP_append, List.countP_cons, List.countP_nil, List.mem_append, List.mem_cons, List.mem_singleton, isGet, isK, isRc, isGr, isC] at *
    all_goals (first | assumption | grind)
  · constructor <;> simp only [List.countP_append, List.countP_cons, List.countP_nil, List.mem_append, List.mem_cons, List.mem_singleton, isGet, isK, isRc, isGr, isC] at * <;> (first | assumption | grind)
  · grind
theorem unblock1 {s : St} (h : Inv s) (c v : Int) (rest : List Ms) (ho : s.inn = ⟨7, c, v⟩ :: rest) (m : Ms) (wl' : List Ms) (hw : s.wl = m :: wl') : Base { s with inn := m :: rest, wl := wl', ph := 0, uk := 0, uc := 0 } := by
  have N3 := h.b.N3
  have N4 := h.b.N4
  have N5 := h.b.N5
  have N6 := h.b.N6
  have N7 := h.b.N7
  have N7' := h.b.N7'
  have N1 := h.b.N1
  have N11 := h.b.N11
  have N12 := h.b.N12
  have N14 := h.b.N14
  have N16 := h.b.N16
  obtain ⟨h, ⟨p1, p2, p3, p4, p5⟩, hid⟩ := h
  have S2 := h.S2
  have S3 := h.S3
  have S4 := h.S4 ⟨p1, p2, p3, p4, p5⟩
  obtain ⟨h1, h2, h3, h4, h5, h6, h7, h8, h9, i1, i2, i3, i4, i5, i6, h16, h17, h18, h19, h20, h21, h22, h23, h24, h25, h26, h27⟩ := h
  obtain ⟨n, ow, sh, ak, uk, uc, ph, wl, inn, out, st, asks, back, dv, M, val⟩ := s
  simp only at *
  subst ho
  have qh1 := h1 _ (List.mem_cons_self ..)
  have qh21 := h21 _ (List.mem_cons_self ..)
  have qh22 := h22 _ (List.mem_cons_self ..)
  have qh23 := h23 _ (List.mem_cons_self ..)
  have qh24 := h24 _ (List.mem_cons_self ..)
  have qN7 := N7 _ (List.mem_cons_self ..)
  have qN7' := N7' _ (List.mem_cons_self ..)
  simp only at qh1 qh21 qh22 qh23 qh24 qN7 qN7'
  subst hw
  have qh3 := h3 _ (List.mem_cons_self ..)
  constructor <;> simp only [List.countP_append, List.countP_cons, List.countP_nil, List.mem_append, List.mem_cons, List.mem_singleton, isGet, isK, isRc, isGr, isC] at *
  all_goals (first | assumption | grind)

theorem grant_inv {s : St} (h : Base s) (hp : s.ph = 1) (ha : ∀ c, s.ak c = false) (ho : s.ow = -1) (hm : s.uk = 2 → ∀ c, c ≠ s.uc → s.st c = 0) : Inv s.grant := by
  have h1 := grant_base h hp ha ho hm
  exact ⟨h1.1, h1.2, fun h0 => by unfold St.grant at h0; split at h0 <;> simp at h0⟩
theorem Inv.perm {s : St} (h : Inv s) {i o : List Ms} (hi : s.inn.Perm i) (ho : s.out.Perm o) : Inv { s with inn := i, out := o } :=
  ⟨h.b.perm hi ho, ⟨h.p.acks, h.p.recall, h.p.put, h.p.gs, h.p.gm⟩, h.idle⟩

/-- How much is still to come. -/
def wt (m : Ms) : Nat := if m.k = 1 ∨ m.k = 2 then 9 else if m.k = 3 ∨ m.k = 11 ∨ m.k = 12 ∨ m.k = 13 ∨ m.k = 14 ∨ m.k = 15 then 2 else 1
theorem wt_pos (m : Ms) : 1 ≤ wt m := by unfold wt; split; omega; split <;> omega
def wts (l : List Ms) : Nat := (l.map wt).sum
theorem wts_nil : wts [] = 0 := rfl
theorem wts_cons (m : Ms) (l : List Ms) : wts (m :: l) = wt m + wts l := by simp [wts]
theorem wts_app (l k : List Ms) : wts (l ++ k) = wts l + wts k := by simp [wts]
theorem wts_perm {l k : List Ms} (h : l.Perm k) : wts l = wts k := (h.map wt).sum_nat
theorem wts_len (l : List Ms) : l.length ≤ wts l := by
  induction l with
  | nil => exact Nat.le_refl _
  | cons m l ih => rw [wts_cons, List.length_cons]; have := wt_pos m; omega
def mu (s : St) : Nat := wts s.inn + wts s.out + 8 * s.wl.length + if s.ph = 1 ∨ s.ph = 2 ∨ s.ph = 3 then 2 else 0

def inC (l : List Ms) (c : Int) : Nat := 9 * l.countP (isGet c) + 2 * l.countP (isK 3 c) + l.countP (isK 4 c) + l.countP (isK 5 c) + l.countP (isK 6 c) + l.countP (isK 7 c)
def outC (l : List Ms) (c : Int) : Nat := 2 * l.countP (isK 11 c) + 2 * l.countP (isRc c) + 2 * l.countP (isGr c) + l.countP (isK 16 c)
theorem wts_in (l : List Ms) (h : ∀ m ∈ l, (m.k = 1 ∨ m.k = 2 ∨ m.k = 3 ∨ m.k = 4 ∨ m.k = 5 ∨ m.k = 6 ∨ m.k = 7) ∧ 0 ≤ m.c ∧ m.c < 4) : wts l = inC l 0 + inC l 1 + inC l 2 + inC l 3 := by
  induction l with
  | nil => rfl
  | cons m l ih =>
    have hm := h m List.mem_cons_self
    have ih := ih (fun x hx => h x (List.mem_cons_of_mem _ hx))
    rw [wts_cons, ih]
    unfold inC
    simp only [List.countP_cons]
    obtain ⟨k, c, v⟩ := m
    simp only at hm
    have hc : c = 0 ∨ c = 1 ∨ c = 2 ∨ c = 3 := by omega
    rcases hm.1 with rfl | rfl | rfl | rfl | rfl | rfl | rfl <;> rcases hc with rfl | rfl | rfl | rfl <;> simp [wt, isGet, isK] <;> omega
theorem wts_out (l : List Ms) (h : ∀ m ∈ l, (m.k = 11 ∨ m.k = 12 ∨ m.k = 13 ∨ m.k = 14 ∨ m.k = 15 ∨ m.k = 16) ∧ 0 ≤ m.c ∧ m.c < 4) : wts l = outC l 0 + outC l 1 + outC l 2 + outC l 3 := by
  induction l with
  | nil => rfl
  | cons m l ih =>
    have hm := h m List.mem_cons_self
    have ih := ih (fun x hx => h x (List.mem_cons_of_mem _ hx))
    rw [wts_cons, ih]
    unfold outC
    simp only [List.countP_cons]
    obtain ⟨k, c, v⟩ := m
    simp only at hm
    have hc : c = 0 ∨ c = 1 ∨ c = 2 ∨ c = 3 := by omega
    rcases hm.1 with rfl | rfl | rfl | rfl | rfl | rfl <;> rcases hc with rfl | rfl | rfl | rfl <;> simp [wt, isRc, isGr, isK] <;> omega
theorem len_wl (l : List Ms) (h : ∀ m ∈ l, 0 ≤ m.c ∧ m.c < 4) : l.length = l.countP (isC 0) + l.countP (isC 1) + l.countP (isC 2) + l.countP (isC 3) := by
  induction l with
  | nil => rfl
  | cons m l ih =>
    have hm := h m List.mem_cons_self
    have ih := ih (fun x hx => h x (List.mem_cons_of_mem _ hx))
    rw [List.length_cons, ih]
    simp only [List.countP_cons]
    obtain ⟨k, c, v⟩ := m
    simp only at hm
    have hc : c = 0 ∨ c = 1 ∨ c = 2 ∨ c = 3 := by omega
    rcases hc with rfl | rfl | rfl | rfl <;> simp [isC] <;> omega
theorem iteLe (p : Prop) [Decidable p] : (if p then 1 else 0) ≤ (1 : Nat) := by split <;> omega
theorem mu_le {s : St} (h : Base s) (hn : s.n ≤ 4) : mu s ≤ 90 := by
  have hi := wts_in s.inn (fun m hm => ⟨(h.inK m hm).1, (h.inK m hm).2.1, by have := (h.inK m hm).2.2; omega⟩)
  have ho := wts_out s.out (fun m hm => ⟨(h.outK m hm).1, (h.outK m hm).2.1, by have := (h.outK m hm).2.2; omega⟩)
  have hw := len_wl s.wl (fun m hm => ⟨(h.wlK m hm).2.1, by have := (h.wlK m hm).2.2; omega⟩)
  have key : ∀ c, inC s.inn c + outC s.out c + 8 * s.wl.countP (isC c) ≤ 20 := by
    intro c
    have a1 := h.I1 c; have a2 := h.I2 c; have a3 := h.I3 c; have a4 := h.I4 c; have a5 := h.I5 c
    have b1 := iteLe (s.asks c = true); have b2 := iteLe (s.back c = true); have b3 := iteLe (s.ph = 1 ∧ s.ak c = true); have b4 := iteLe (s.ph = 2 ∧ s.ak c = true); have b5 := iteLe (s.ph = 4 ∧ s.uc = c)
    unfold inC outC
    omega
  have k0 := key 0; have k1 := key 1; have k2 := key 2; have k3 := key 3
  have hp : (if s.ph = 1 ∨ s.ph = 2 ∨ s.ph = 3 then 2 else 0) ≤ (2 : Nat) := by split <;> omega
  unfold mu
  omega

/-- Where nothing is in flight, nothing is under way. -/
theorem still {s : St} (h : Inv s) (hi : s.inn = []) (ho : s.out = []) : s.ph = 0 ∧ s.wl = [] ∧ ∀ c, s.asks c = false := by
  have hph : s.ph = 0 := by
    rcases h.b.phK with hp | hp | hp | hp | hp
    · exact hp
    · obtain ⟨_, _, _, ⟨c, hc⟩, _⟩ := h.p.acks hp
      have := h.b.I3 c
      rw [hi, ho, if_pos ⟨hp, hc⟩] at this
      simp at this
    · obtain ⟨o, h1, _⟩ := h.p.recall hp
      have := h.b.I4 o
      rw [hi, ho, if_pos ⟨hp, (h1 o).2 rfl⟩] at this
      simp at this
    · obtain ⟨h1, h2⟩ := h.p.put hp
      have := h.b.I6 s.ow
      rw [hi, ho, if_neg h2, if_pos ⟨rfl, h1⟩] at this
      simp at this
    · have := h.b.I5 s.uc
      rw [hi, ho, if_pos ⟨hp, rfl⟩] at this
      simp at this
  have hw := h.idle hph
  refine ⟨hph, hw, fun c => ?_⟩
  have := h.b.I1 c
  rw [hi, ho, hw, hph] at this
  cases hc : s.asks c with
  | false => rfl
  | true => rw [hc] at this; simp at this
end Go.Proofs.Ytepdhajgemmoiaa.P
