/- Pointer structures that lie in words: what putting in and taking out leaves; the plain side. -/
import Derived.Test.YthlhjahhjoclfaaCd26
namespace Go.Proofs.Ythlhjahhjoclfaa
set_option maxRecDepth 100000
open Go.RowKit

/-- Where pointers stand: roots, the free list's head, how many were taken; nodes, their pointers, the one that chains free nodes. -/
structure PS where
  root : Int → Prop
  free : Int
  fresh : Int
  node : Int → Prop
  lk : Int → Int → Prop
  nx : Int → Int
  each : Int
  top : Int
structure PS.Sep (p : PS) : Prop where
  pos : ∀ n, p.node n → 0 < n
  nxl : ∀ n, p.node n → p.lk n (p.nx n)
  one : ∀ n m a, p.node n → p.node m → p.lk n a → p.lk m a → n = m
  lkf : ∀ n a, p.node n → p.lk n a → a ≠ p.free ∧ a ≠ p.fresh ∧ ¬ p.root a
  rof : ∀ a, p.root a → a ≠ p.free ∧ a ≠ p.fresh
  ff : p.free ≠ p.fresh
def PS.ptr (p : PS) (b : Int) : Prop := p.root b ∨ b = p.free ∨ b = p.fresh ∨ ∃ m, p.node m ∧ p.lk m b
/-- The words that lead somewhere. -/
def PS.W (p : PS) (live fr : Int → Prop) (a : Int) : Prop := p.root a ∨ (∃ n, live n ∧ p.lk n a) ∨ a = p.free ∨ ∃ n, fr n ∧ a = p.nx n
structure PInv (p : PS) (M : Int → Int) (B : Nat) (live fr : Int → Prop) (rk : Int → Nat) : Prop where
  lnode : ∀ n, live n → p.node n ∧ n ≤ M p.fresh
  fnode : ∀ n, fr n → p.node n ∧ n ≤ M p.fresh
  disj : ∀ n, live n → ¬ fr n
  roots : ∀ a, p.root a → M a = 0 ∨ live (M a)
  links : ∀ n a, live n → p.lk n a → M a = 0 ∨ live (M a)
  freeh : M p.free = 0 ∨ fr (M p.free)
  freen : ∀ n, fr n → M (p.nx n) = 0 ∨ fr (M (p.nx n))
  inj : ∀ a b, p.W live fr a → p.W live fr b → M a = M b → M a ≠ 0 → a = b
  rank : ∀ n a, live n → p.lk n a → M a ≠ 0 → rk (M a) < rk n
  bound : ∀ n, live n → rk n ≤ B
theorem PInv.same {p : PS} (hS : p.Sep) {M M' : Int → Int} {B : Nat} {live fr : Int → Prop} {rk : Int → Nat} (h : PInv p M B live fr rk) (he : ∀ b, p.ptr b → M' b = M b) : PInv p M' B live fr rk := by
  have hr : ∀ a, p.root a → M' a = M a := fun a ha => he a (.inl ha)
  have hl : ∀ n a, p.node n → p.lk n a → M' a = M a := fun n a hn ha => he a (.inr (.inr (.inr ⟨n, hn, ha⟩)))
  have hf := he p.free (.inr (.inl rfl))
  have hg := he p.fresh (.inr (.inr (.inl rfl)))
  have hW : ∀ a, p.W live fr a → M' a = M a := by
    rintro a (ha | ⟨n, hn, ha⟩ | rfl | ⟨n, hn, rfl⟩)
    · exact hr a ha
    · exact hl n a (h.lnode n hn).1 ha
    · exact hf
    · exact hl n _ (h.fnode n hn).1 (hS.nxl n (h.fnode n hn).1)
  obtain ⟨h1, h2, h3, h4, h5, h6, h7, h8, h9, h10⟩ := h
  have hnx := hS.nxl
  constructor
  · grind
  · grind
  · grind
  · grind
  · intro n a hn ha; rw [hl n a (h1 n hn).1 ha]; exact h5 n a hn ha
  · grind
  · intro n hn; rw [hl n _ (h2 n hn).1 (hnx n (h2 n hn).1)]; exact h7 n hn
  · intro a b ha hb e hz; rw [hW a ha, hW b hb] at e; rw [hW a ha] at hz; exact h8 a b ha hb e hz
  · intro n a hn ha hz; rw [hl n a (h1 n hn).1 ha] at hz ⊢; exact h9 n a hn ha hz
  · grind


def LW (p : PS) (live : Int → Prop) (a : Int) : Prop := p.root a ∨ ∃ m, live m ∧ p.lk m a

theorem putFree {p : PS} (hS : p.Sep) {M M' : Int → Int} {B : Nat} {live fr : Int → Prop} {rk : Int → Nat} (h : PInv p M B live fr rk) (a n : Int) (hf : M p.free = n) (hn : n ≠ 0)
    (ha : LW p live a) (h0 : M a = 0)
    (e1 : M' p.free = M (p.nx n)) (e2 : M' a = n) (e3 : ∀ b, p.lk n b → M' b = 0) (e4 : ∀ b, p.ptr b → b ≠ p.free → b ≠ a → ¬ p.lk n b → M' b = M b) :
    PInv p M' (B + 1) (fun x => live x ∨ x = n) (fun x => fr x ∧ x ≠ n) (fun x => if x = n then 0 else rk x + 1) := by
  obtain ⟨h1, h2, h3, h4, h5, h6, h7, h8, h9, h10⟩ := h
  obtain ⟨s1, s2, s3, s4, s5, s6⟩ := hS
  have hfn : fr n := by grind
  have hnn := (h2 n hfn).1
  have hln : ¬ live n := fun hl => h3 n hl hfn
  have hxf : p.nx n ≠ p.free := by have := s4 n _ hnn (s2 n hnn); grind
  have hnf : ∀ x, fr x → x ≠ n → p.nx x ≠ p.nx n := fun x hx hne e => hne (s3 x n _ (h2 x hx).1 hnn (s2 x (h2 x hx).1) (e ▸ s2 n hnn))
  have haf : a ≠ p.free ∧ a ≠ p.fresh ∧ ¬ p.lk n a := by
    rcases ha with ha | ⟨m, hm, ha⟩
    · exact ⟨(s5 a ha).1, (s5 a ha).2, fun hl => (s4 n a hnn hl).2.2 ha⟩
    · have := s4 m a (h1 m hm).1 ha
      exact ⟨this.1, this.2.1, fun hl => hln (s3 m n a (h1 m hm).1 hnn ha hl ▸ hm)⟩
  have er : ∀ b, p.root b → b ≠ a → M' b = M b := fun b hb hne => e4 b (.inl hb) (s5 b hb).1 hne (fun hl => (s4 n b hnn hl).2.2 hb)
  have el : ∀ m b, live m → p.lk m b → b ≠ a → M' b = M b := fun m b hm hb hne => e4 b (.inr (.inr (.inr ⟨m, (h1 m hm).1, hb⟩))) (s4 m b (h1 m hm).1 hb).1 hne (fun hl => hln (s3 m n b (h1 m hm).1 hnn hb hl ▸ hm))
  have eg : M' p.fresh = M p.fresh := e4 _ (.inr (.inr (.inl rfl))) (Ne.symm s6) (fun e => haf.2.1 e.symm) (fun hl => (s4 n _ hnn hl).2.1 rfl)
  have hna : ∀ x, fr x → p.nx x ≠ a := by
    intro x hx e
    have hxl := s2 x (h2 x hx).1
    rw [e] at hxl
    rcases ha with ha | ⟨m, hm, ha⟩
    · exact (s4 x a (h2 x hx).1 hxl).2.2 ha
    · exact h3 m hm (s3 x m a (h2 x hx).1 (h1 m hm).1 hxl ha ▸ hx)
  have en : ∀ x, fr x → x ≠ n → M' (p.nx x) = M (p.nx x) := fun x hx hne => by
    have hxn := (h2 x hx).1
    exact e4 _ (.inr (.inr (.inr ⟨x, hxn, s2 x hxn⟩))) (s4 x _ hxn (s2 x hxn)).1 (hna x hx) (fun hl => hne (s3 x n _ hxn hnn (s2 x hxn) hl))
  have hWf : p.W live fr p.free := .inr (.inr (.inl rfl))
  have hnonext : ∀ x, fr x → M (p.nx x) ≠ n := fun x hx e => by
    have := h8 p.free (p.nx x) hWf (.inr (.inr (.inr ⟨x, hx, rfl⟩))) (hf.trans e.symm) (by rw [hf]; exact hn)
    exact (s4 x _ (h2 x hx).1 (s2 x (h2 x hx).1)).1 this.symm
  -- what a word of the new state held
  have hWold : ∀ b, p.W (fun x => live x ∨ x = n) (fun x => fr x ∧ x ≠ n) b → b = p.free ∨ b = a ∨ (p.lk n b ∧ M' b = 0) ∨ (p.W live fr b ∧ M' b = M b ∧ b ≠ p.free ∧ ¬ p.lk n b) := by
    rintro b (hb | ⟨m, hm | rfl, hb⟩ | rfl | ⟨x, ⟨hx, hne⟩, rfl⟩)
    · by_cases e : b = a
      · exact .inr (.inl e)
      · exact .inr (.inr (.inr ⟨.inl hb, er b hb e, (s5 b hb).1, fun hl => (s4 n b hnn hl).2.2 hb⟩))
    · by_cases e : b = a
      · exact .inr (.inl e)
      · exact .inr (.inr (.inr ⟨.inr (.inl ⟨m, hm, hb⟩), el m b hm hb e, (s4 m b (h1 m hm).1 hb).1, fun hl => hln (s3 m n b (h1 m hm).1 hnn hb hl ▸ hm)⟩))
    · exact .inr (.inr (.inl ⟨hb, e3 b hb⟩))
    · exact .inl rfl
    · exact .inr (.inr (.inr ⟨.inr (.inr (.inr ⟨x, hx, rfl⟩)), en x hx hne, (s4 x _ (h2 x hx).1 (s2 x (h2 x hx).1)).1, fun hl => hne (s3 x n _ (h2 x hx).1 hnn (s2 x (h2 x hx).1) hl)⟩))
  have hWn : ∀ b, p.W live fr b → M b = n → b = p.free := fun b hb e => h8 b p.free hb hWf (e.trans hf.symm) (by rw [e]; exact hn)
  have hWx : p.W live fr (p.nx n) := .inr (.inr (.inr ⟨n, hfn, rfl⟩))
  constructor
  · grind
  · grind
  · grind
  · intro b hb
    by_cases e : b = a
    · subst e; rw [e2]; exact .inr (.inr rfl)
    · rw [er b hb e]; rcases h4 b hb with q | q
      · exact .inl q
      · exact .inr (.inl q)
  · rintro m b (hm | rfl) hb
    · by_cases e : b = a
      · subst e; rw [e2]; exact .inr (.inr rfl)
      · rw [el m b hm hb e]; rcases h5 m b hm hb with q | q
        · exact .inl q
        · exact .inr (.inl q)
    · exact .inl (e3 b hb)
  · rw [e1]; have := h7 n hfn; have := hnonext n hfn; grind
  · rintro x ⟨hx, hne⟩
    rw [en x hx hne]; have := h7 x hx; have := hnonext x hx; grind
  · intro b c hb hc e hz
    have hb' := hWold b hb
    have hc' := hWold c hc
    have key : ∀ b, p.W live fr b → b ≠ p.free → ¬ p.lk n b → M b ≠ 0 → M b ≠ n ∧ M b ≠ M (p.nx n) := by
      intro b hb hbf hbl hz
      refine ⟨fun q => hbf (hWn b hb q), fun q => hbl ?_⟩
      have := h8 b _ hb hWx q hz
      rw [this]; exact s2 n hnn
    rcases hb' with rfl | rfl | ⟨_, q⟩ | ⟨wb, mb, nb, lb⟩
    · rcases hc' with rfl | rfl | ⟨_, q'⟩ | ⟨wc, mc, nc, lc⟩
      · rfl
      · exfalso; have := hnonext n hfn; grind
      · exfalso; grind
      · exfalso; have := key c wc nc lc (by rw [← mc, ← e]; exact hz); grind
    · rcases hc' with rfl | rfl | ⟨_, q'⟩ | ⟨wc, mc, nc, lc⟩
      · exfalso; have := hnonext n hfn; grind
      · rfl
      · exfalso; grind
      · exfalso; have := key c wc nc lc (by rw [← mc, ← e]; exact hz); grind
    · exact absurd q hz
    · rcases hc' with rfl | rfl | ⟨_, q'⟩ | ⟨wc, mc, nc, lc⟩
      · exfalso; have := key b wb nb lb (by rw [← mb]; exact hz); grind
      · exfalso; have := key b wb nb lb (by rw [← mb]; exact hz); grind
      · exfalso; grind
      · exact h8 b c wb wc (by rw [← mb, ← mc]; exact e) (by rw [← mb]; exact hz)
  · rintro m b (hm | rfl) hb hz
    · have hmn : m ≠ n := fun e => hln (e ▸ hm)
      by_cases e : b = a
      · subst e; rw [e2]; simp [hmn]
      · rw [el m b hm hb e] at hz ⊢
        have hl := (h5 m b hm hb).resolve_left hz
        have hne : M b ≠ n := fun q => hln (q ▸ hl)
        have := h9 m b hm hb hz
        simp only [if_neg hne, if_neg hmn]; omega
    · exact absurd (e3 b hb) hz
  · rintro m (hm | rfl)
    · have := h10 m hm; show (if m = n then 0 else rk m + 1) ≤ _; split <;> omega
    · show (if m = m then 0 else _) ≤ _
      rw [if_pos rfl]; omega

/-- A node that was never taken is put in. -/
theorem putFresh {p : PS} (hS : p.Sep) {M M' : Int → Int} {B : Nat} {live fr : Int → Prop} {rk : Int → Nat} (h : PInv p M B live fr rk) (a n : Int) (hf : n = M p.fresh + 1) (hnn : p.node n) (hE : 1 ≤ p.each)
    (ha : LW p live a) (h0 : M a = 0)
    (e1 : M' p.fresh = M p.fresh + p.each) (e2 : M' a = n) (e3 : ∀ b, p.lk n b → M' b = 0) (e4 : ∀ b, p.ptr b → b ≠ p.fresh → b ≠ a → ¬ p.lk n b → M' b = M b) :
    PInv p M' (B + 1) (fun x => live x ∨ x = n) fr (fun x => if x = n then 0 else rk x + 1) := by
  obtain ⟨h1, h2, h3, h4, h5, h6, h7, h8, h9, h10⟩ := h
  obtain ⟨s1, s2, s3, s4, s5, s6⟩ := hS
  have hn := s1 n hnn
  have hln : ¬ live n := fun hl => by have := (h1 n hl).2; omega
  have hfn : ¬ fr n := fun hl => by have := (h2 n hl).2; omega
  have haf : a ≠ p.free ∧ a ≠ p.fresh ∧ ¬ p.lk n a := by
    rcases ha with ha | ⟨m, hm, ha⟩
    · exact ⟨(s5 a ha).1, (s5 a ha).2, fun hl => (s4 n a hnn hl).2.2 ha⟩
    · have := s4 m a (h1 m hm).1 ha
      exact ⟨this.1, this.2.1, fun hl => hln (s3 m n a (h1 m hm).1 hnn ha hl ▸ hm)⟩
  have er : ∀ b, p.root b → b ≠ a → M' b = M b := fun b hb hne => e4 b (.inl hb) (s5 b hb).2 hne (fun hl => (s4 n b hnn hl).2.2 hb)
  have el : ∀ m b, live m → p.lk m b → b ≠ a → M' b = M b := fun m b hm hb hne => e4 b (.inr (.inr (.inr ⟨m, (h1 m hm).1, hb⟩))) (s4 m b (h1 m hm).1 hb).2.1 hne (fun hl => hln (s3 m n b (h1 m hm).1 hnn hb hl ▸ hm))
  have eg : M' p.free = M p.free := e4 _ (.inr (.inl rfl)) s6 (fun e => haf.1 e.symm) (fun hl => (s4 n _ hnn hl).1 rfl)
  have hna : ∀ x, fr x → p.nx x ≠ a := by
    intro x hx e
    have hxl := s2 x (h2 x hx).1
    rw [e] at hxl
    rcases ha with ha | ⟨m, hm, ha⟩
    · exact (s4 x a (h2 x hx).1 hxl).2.2 ha
    · exact h3 m hm (s3 x m a (h2 x hx).1 (h1 m hm).1 hxl ha ▸ hx)
  have hxn' : ∀ x, fr x → ¬ p.lk n (p.nx x) := fun x hx hl => hfn (s3 x n _ (h2 x hx).1 hnn (s2 x (h2 x hx).1) hl ▸ hx)
  have en : ∀ x, fr x → M' (p.nx x) = M (p.nx x) := fun x hx => by
    have hxn := (h2 x hx).1
    exact e4 _ (.inr (.inr (.inr ⟨x, hxn, s2 x hxn⟩))) (s4 x _ hxn (s2 x hxn)).2.1 (hna x hx) (hxn' x hx)
  have hWold : ∀ b, p.W (fun x => live x ∨ x = n) fr b → b = a ∨ (p.lk n b ∧ M' b = 0) ∨ (p.W live fr b ∧ M' b = M b) := by
    rintro b (hb | ⟨m, hm | rfl, hb⟩ | rfl | ⟨x, hx, rfl⟩)
    · by_cases e : b = a
      · exact .inl e
      · exact .inr (.inr ⟨.inl hb, er b hb e⟩)
    · by_cases e : b = a
      · exact .inl e
      · exact .inr (.inr ⟨.inr (.inl ⟨m, hm, hb⟩), el m b hm hb e⟩)
    · exact .inr (.inl ⟨hb, e3 b hb⟩)
    · exact .inr (.inr ⟨.inr (.inr (.inl rfl)), eg⟩)
    · exact .inr (.inr ⟨.inr (.inr (.inr ⟨x, hx, rfl⟩)), en x hx⟩)
  have hWn : ∀ b, p.W live fr b → M b ≠ n := by
    rintro b (hb | ⟨m, hm, hb⟩ | rfl | ⟨x, hx, rfl⟩) e
    · rcases h4 b hb with q | q
      · omega
      · exact hln (e ▸ q)
    · rcases h5 m b hm hb with q | q
      · omega
      · exact hln (e ▸ q)
    · rcases h6 with q | q
      · omega
      · exact hfn (e ▸ q)
    · rcases h7 x hx with q | q
      · omega
      · exact hfn (e ▸ q)
  constructor
  · rintro m (hm | rfl)
    · exact ⟨(h1 m hm).1, by have := (h1 m hm).2; omega⟩
    · exact ⟨hnn, by omega⟩
  · intro m hm; exact ⟨(h2 m hm).1, by have := (h2 m hm).2; omega⟩
  · rintro m (hm | rfl) hx
    · exact h3 m hm hx
    · exact hfn hx
  · intro b hb
    by_cases e : b = a
    · subst e; rw [e2]; exact .inr (.inr rfl)
    · rw [er b hb e]; rcases h4 b hb with q | q
      · exact .inl q
      · exact .inr (.inl q)
  · rintro m b (hm | rfl) hb
    · by_cases e : b = a
      · subst e; rw [e2]; exact .inr (.inr rfl)
      · rw [el m b hm hb e]; rcases h5 m b hm hb with q | q
        · exact .inl q
        · exact .inr (.inl q)
    · exact .inl (e3 b hb)
  · rw [eg]; exact h6
  · intro x hx; rw [en x hx]; exact h7 x hx
  · intro b c hb hc e hz
    rcases hWold b hb with rfl | ⟨_, q⟩ | ⟨wb, mb⟩
    · rcases hWold c hc with rfl | ⟨_, q'⟩ | ⟨wc, mc⟩
      · rfl
      · exfalso; grind
      · exact absurd (by rw [← mc, ← e, e2]) (hWn c wc)
    · exact absurd q hz
    · rcases hWold c hc with rfl | ⟨_, q'⟩ | ⟨wc, mc⟩
      · exact absurd (by rw [← mb, e, e2]) (hWn b wb)
      · exfalso; grind
      · exact h8 b c wb wc (by rw [← mb, ← mc]; exact e) (by rw [← mb]; exact hz)
  · rintro m b (hm | rfl) hb hz
    · have hmn : m ≠ n := fun e => hln (e ▸ hm)
      by_cases e : b = a
      · subst e; rw [e2]; simp [hmn]
      · rw [el m b hm hb e] at hz ⊢
        have hl := (h5 m b hm hb).resolve_left hz
        have hne : M b ≠ n := fun q => hln (q ▸ hl)
        have := h9 m b hm hb hz
        simp only [if_neg hne, if_neg hmn]; omega
    · exact absurd (e3 b hb) hz
  · rintro m (hm | rfl)
    · have := h10 m hm; show (if m = n then 0 else rk m + 1) ≤ _; split <;> omega
    · show (if m = m then 0 else _) ≤ _
      rw [if_pos rfl]; omega

/-- A node is taken out, and given back. -/
theorem cutGive {p : PS} (hS : p.Sep) {M M' : Int → Int} {B : Nat} {live fr : Int → Prop} {rk : Int → Nat} (h : PInv p M B live fr rk) (a n b₀ : Int) (hf : M a = n) (hn : n ≠ 0)
    (ha : LW p live a) (hb₀ : p.lk n b₀)
    (e1 : M' a = M b₀) (e2 : M' (p.nx n) = M p.free) (e3 : M' p.free = n) (e4 : ∀ b, p.ptr b → b ≠ p.free → b ≠ a → ¬ p.lk n b → M' b = M b) :
    PInv p M' B (fun x => live x ∧ x ≠ n) (fun x => fr x ∨ x = n) rk := by
  obtain ⟨h1, h2, h3, h4, h5, h6, h7, h8, h9, h10⟩ := h
  obtain ⟨s1, s2, s3, s4, s5, s6⟩ := hS
  have hln : live n := by
    rcases ha with ha | ⟨m, hm, ha⟩
    · have := h4 a ha; grind
    · have := h5 m a hm ha; grind
  have hnn := (h1 n hln).1
  have hfn : ¬ fr n := h3 n hln
  have haf : a ≠ p.free ∧ a ≠ p.fresh ∧ ¬ p.lk n a := by
    rcases ha with ha | ⟨m, hm, ha⟩
    · exact ⟨(s5 a ha).1, (s5 a ha).2, fun hl => (s4 n a hnn hl).2.2 ha⟩
    · have := s4 m a (h1 m hm).1 ha
      refine ⟨this.1, this.2.1, fun hl => ?_⟩
      have := h9 n a hln hl (by rw [hf]; exact hn)
      rw [hf] at this; omega
  have hWa : p.W live fr a := by
    rcases ha with ha | ⟨m, hm, ha⟩
    · exact .inl ha
    · exact .inr (.inl ⟨m, hm, ha⟩)
  have hWn : ∀ b, p.W live fr b → M b = n → b = a := fun b hb e => h8 b a hb hWa (e.trans hf.symm) (by rw [e]; exact hn)
  have er : ∀ b, p.root b → b ≠ a → M' b = M b := fun b hb hne => e4 b (.inl hb) (s5 b hb).1 hne (fun hl => (s4 n b hnn hl).2.2 hb)
  have el : ∀ m b, live m → m ≠ n → p.lk m b → b ≠ a → M' b = M b := fun m b hm hmn hb hne => e4 b (.inr (.inr (.inr ⟨m, (h1 m hm).1, hb⟩))) (s4 m b (h1 m hm).1 hb).1 hne (fun hl => hmn (s3 m n b (h1 m hm).1 hnn hb hl))
  have eg : M' p.fresh = M p.fresh := e4 _ (.inr (.inr (.inl rfl))) (Ne.symm s6) (fun e => haf.2.1 e.symm) (fun hl => (s4 n _ hnn hl).2.1 rfl)
  have hna : ∀ x, fr x → p.nx x ≠ a := by
    intro x hx e
    have hxl := s2 x (h2 x hx).1
    rw [e] at hxl
    rcases ha with ha | ⟨m, hm, ha⟩
    · exact (s4 x a (h2 x hx).1 hxl).2.2 ha
    · exact h3 m hm (s3 x m a (h2 x hx).1 (h1 m hm).1 hxl ha ▸ hx)
  have hxn' : ∀ x, fr x → ¬ p.lk n (p.nx x) := fun x hx hl => hfn (s3 x n _ (h2 x hx).1 hnn (s2 x (h2 x hx).1) hl ▸ hx)
  have en : ∀ x, fr x → M' (p.nx x) = M (p.nx x) := fun x hx => by
    have hxn := (h2 x hx).1
    exact e4 _ (.inr (.inr (.inr ⟨x, hxn, s2 x hxn⟩))) (s4 x _ hxn (s2 x hxn)).1 (hna x hx) (hxn' x hx)
  have hb₀W : p.W live fr b₀ := .inr (.inl ⟨n, hln, hb₀⟩)
  have hcn : M b₀ ≠ n := fun q => haf.2.2 (hWn b₀ hb₀W q ▸ hb₀)
  have hc : M b₀ = 0 ∨ live (M b₀) := h5 n b₀ hln hb₀
  have hWold : ∀ b, p.W (fun x => live x ∧ x ≠ n) (fun x => fr x ∨ x = n) b → b = a ∨ b = p.free ∨ b = p.nx n ∨ (p.W live fr b ∧ M' b = M b ∧ b ≠ a ∧ b ≠ p.free ∧ ¬ p.lk n b) := by
    rintro b (hb | ⟨m, ⟨hm, hmn⟩, hb⟩ | rfl | ⟨x, hx | rfl, rfl⟩)
    · by_cases e : b = a
      · exact .inl e
      · exact .inr (.inr (.inr ⟨.inl hb, er b hb e, e, (s5 b hb).1, fun hl => (s4 n b hnn hl).2.2 hb⟩))
    · by_cases e : b = a
      · exact .inl e
      · exact .inr (.inr (.inr ⟨.inr (.inl ⟨m, hm, hb⟩), el m b hm hmn hb e, e, (s4 m b (h1 m hm).1 hb).1, fun hl => hmn (s3 m n b (h1 m hm).1 hnn hb hl)⟩))
    · exact .inr (.inl rfl)
    · exact .inr (.inr (.inr ⟨.inr (.inr (.inr ⟨x, hx, rfl⟩)), en x hx, hna x hx, (s4 x _ (h2 x hx).1 (s2 x (h2 x hx).1)).1, hxn' x hx⟩))
    · exact .inr (.inr (.inl rfl))
  have hWf : p.W live fr p.free := .inr (.inr (.inl rfl))
  constructor
  · rintro m ⟨hm, hmn⟩; exact ⟨(h1 m hm).1, by rw [eg]; exact (h1 m hm).2⟩
  · rintro m (hm | rfl)
    · exact ⟨(h2 m hm).1, by rw [eg]; exact (h2 m hm).2⟩
    · exact ⟨hnn, by rw [eg]; exact (h1 _ hln).2⟩
  · rintro m ⟨hm, hmn⟩ (hx | rfl)
    · exact h3 m hm hx
    · exact hmn rfl
  · intro b hb
    by_cases e : b = a
    · subst e; rw [e1]; rcases hc with q | q
      · exact .inl q
      · exact .inr ⟨q, hcn⟩
    · rw [er b hb e]; rcases h4 b hb with q | q
      · exact .inl q
      · exact .inr ⟨q, fun q' => e (hWn b (.inl hb) q')⟩
  · rintro m b ⟨hm, hmn⟩ hb
    by_cases e : b = a
    · subst e; rw [e1]; rcases hc with q | q
      · exact .inl q
      · exact .inr ⟨q, hcn⟩
    · rw [el m b hm hmn hb e]; rcases h5 m b hm hb with q | q
      · exact .inl q
      · exact .inr ⟨q, fun q' => e (hWn b (.inr (.inl ⟨m, hm, hb⟩)) q')⟩
  · rw [e3]; exact .inr (.inr rfl)
  · rintro x (hx | rfl)
    · rw [en x hx]; rcases h7 x hx with q | q
      · exact .inl q
      · exact .inr (.inl q)
    · rw [e2]; rcases h6 with q | q
      · exact .inl q
      · exact .inr (.inl q)
  · intro b c hb hc' e hz
    have hfl : ∀ b, p.W live fr b → b ≠ p.free → M b ≠ 0 → M b ≠ M p.free := fun b hb hne hz q => hne (h8 b _ hb hWf q hz)
    have hcl : ∀ b, p.W live fr b → ¬ p.lk n b → M b ≠ 0 → M b ≠ M b₀ := fun b hb hne hz q => hne (h8 b _ hb hb₀W q hz ▸ hb₀)
    have hfb : M p.free ≠ 0 → M p.free ≠ M b₀ := fun hz q => by have := h8 _ _ hWf hb₀W q hz; exact (s4 n b₀ hnn hb₀).1 this.symm
    have hff : M p.free ≠ n := fun q => haf.1 (hWn _ hWf q).symm
    rcases hWold b hb with q | q | q | ⟨wb, mb, nb1, nb2, nb3⟩ <;> rcases hWold c hc' with r | r | r | ⟨wc, mc, nc1, nc2, nc3⟩
    · rw [q, r]
    · exfalso; rw [q, e1] at e hz; rw [r, e3] at e; exact hcn e
    · exfalso; rw [q, e1] at e hz; rw [r, e2] at e; exact hfb (by rw [← e]; exact hz) e.symm
    · exfalso; rw [q, e1] at e hz; rw [mc] at e; exact hcl c wc nc3 (by rw [← e]; exact hz) e.symm
    · exfalso; rw [q, e3] at e; rw [r, e1] at e; exact hcn e.symm
    · rw [q, r]
    · exfalso; rw [q, e3] at e; rw [r, e2] at e; exact hff e.symm
    · exfalso; rw [q, e3] at e; rw [mc] at e; exact nc1 (hWn c wc e.symm)
    · exfalso; rw [q, e2] at e hz; rw [r, e1] at e; exact hfb hz e
    · exfalso; rw [q, e2] at e; rw [r, e3] at e; exact hff e
    · rw [q, r]
    · exfalso; rw [q, e2] at e hz; rw [mc] at e; exact hfl c wc nc2 (by rw [← e]; exact hz) e.symm
    · exfalso; rw [mb] at e hz; rw [r, e1] at e; exact hcl b wb nb3 hz e
    · exfalso; rw [mb] at e hz; rw [r, e3] at e; exact nb1 (hWn b wb e)
    · exfalso; rw [mb] at e hz; rw [r, e2] at e; exact hfl b wb nb2 hz e
    · rw [mb] at e hz; rw [mc] at e; exact h8 b c wb wc e hz
  · rintro m b ⟨hm, hmn⟩ hb hz
    by_cases e : b = a
    · subst e; rw [e1] at hz ⊢
      have q1 := h9 m b hm hb (by rw [hf]; exact hn)
      have q2 := h9 n b₀ hln hb₀ hz
      rw [hf] at q1; omega
    · rw [el m b hm hmn hb e] at hz ⊢
      exact h9 m b hm hb hz
  · rintro m ⟨hm, hmn⟩; exact h10 m hm
end Go.Proofs.Ythlhjahhjoclfaa
