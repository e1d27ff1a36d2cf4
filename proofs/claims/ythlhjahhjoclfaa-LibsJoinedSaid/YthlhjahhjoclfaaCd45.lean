/- Joined codes: what they are made of; the plain side. -/
import Derived.Test.YthlhjahhjoclfaaCd43
import Derived.Test.YthlhjahhjoclfaaCd28
import Derived.Test.YthlhjahhjoclfaaLibs5
namespace Go.Proofs.Ythlhjahhjoclfaa
set_option maxRecDepth 100000
open Go.RowKit

structure Tu where
  who : Int
  c : Int
  k : Int
  v : Int
def encT (t : Tu) : List Value := [.int .u8 t.who, .int .i64 t.c, .int .u64 t.k, .int .u64 t.v]
theorem encT_len (t : Tu) : (encT t).length = 4 := rfl
structure TuOk (t : Tu) : Prop where
  who : 0 ≤ t.who ∧ t.who ≤ 255
  k : 0 ≤ t.k ∧ t.k ≤ 18446744073709551615
  v : 0 ≤ t.v ∧ t.v ≤ 18446744073709551615


theorem UseI.shift {n k N : Nat} {i : Ins} (h : UseI n i) (hn : n ≤ 128) (hk : k ≤ 100000) (hN : k + n ≤ N) : UseI N (shI k i) := by
  unfold shI
  split
  · rename_i hi
    have hm := h.imm hi.1 hi.2
    have hw : wrap64 (i.imm + k) = i.imm + k := IntWalk.wrap64_in _ (by omega)
    refine ⟨⟨h.legal.o0, h.legal.o1, h.legal.a0, h.legal.a1, h.legal.b0, h.legal.b1, h.legal.c0, h.legal.c1⟩, h.used, fun _ _ => ?_⟩
    show 0 ≤ wrap64 (i.imm + k) ∧ wrap64 (i.imm + k) ≤ N
    rw [hw]; omega
  · rename_i hi
    exact ⟨h.legal, h.used, fun a b => absurd ⟨a, b⟩ hi⟩
theorem UseI.up {n N : Nat} {i : Ins} (h : UseI n i) (hN : n ≤ N) : UseI N i := ⟨h.legal, h.used, fun a b => by have := h.imm a b; omega⟩
def PartU (p : List Ins) : Prop := p.length ≤ 128 ∧ ∀ i ∈ p, UseI p.length i
/-- Joined codes are codes. -/
structure JoinU (P : List (List Ins)) : Prop where
  len : (joinL P).length ≤ 128 * P.length
  use : ∀ i ∈ joinL P, UseI (joinL P).length i
theorem JoinU.nil : JoinU [] := ⟨by simp [joinL], fun i hi => by simp [joinL] at hi⟩
theorem JoinU.snoc {P : List (List Ins)} (h : JoinU P) (hP : P.length ≤ 100) {p : List Ins} (hp : PartU p) : JoinU (P ++ [p]) := by
  have hl := h.len
  refine ⟨?_, ?_⟩
  · rw [joinL_snoc, List.length_append, List.length_append, List.length_map]
    have := hp.1
    simp only [List.length_cons, List.length_nil]
    omega
  · rw [joinL_snoc]
    intro i hi
    rw [List.length_append, List.length_map]
    rcases List.mem_append.1 hi with hi | hi
    · exact (h.use i hi).up (by omega)
    · obtain ⟨j, hj, rfl⟩ := List.mem_map.1 hi
      exact (hp.2 j hj).shift hp.1 (by omega) (by omega)

/-- A part, as a slice that the call made. -/
def PtOk (w : World) (B : Nat) (s : Sl) : Prop := w.ownsRow B 25 5 (.slice s.A s.l.length s.cap) s.l.length (s.l.flatMap encI)
theorem PtOk.sl {w : World} {B : Nat} {s : Sl} (h : PtOk w B s) : SlOk w w.heap.size s := by
  obtain ⟨A, cap, hv, h1, h2, h3, h4, _⟩ := Rd.of_row encI_len h
  obtain ⟨e1, e2⟩ : s.A = A ∧ s.cap = cap := by simpa using hv
  rw [← e1] at h3 h4; rw [← e2] at h1 h2 h3
  exact ⟨h1, h2, h3, h4⟩
theorem ownB_sl (A : Option Addr) (n c : Nat) : ∀ g ∈ (Value.slice A n c).ownBlock.toList, ∃ a, A = some a ∧ a.block = g := by
  intro g hg
  cases A with
  | none => simp [Value.ownBlock] at hg
  | some a => exact ⟨a, rfl, by simp [Value.ownBlock] at hg; exact hg.symm⟩
theorem PtOk.blk {w : World} {B : Nat} {s : Sl} (h : PtOk w B s) : ∀ g ∈ (Value.slice s.A s.l.length s.cap).ownBlock.toList, B ≤ g ∧ ∃ cur, Blk w g cur 25 := by
  intro g hg
  rcases h.2 with ⟨e, _⟩ | ⟨k, cap, cur, e, hb, hh, _⟩
  · rw [e] at hg; simp [Value.ownBlock] at hg
  · rw [e] at hg; rw [own_mem hg]; exact ⟨hb, cur.toList, by simpa [Blk] using hh⟩
theorem row_blk {w : World} {base : Nat} {e : TypeId} {size : Nat} {v : Value} {n : Nat} {xs : List Value} (h : w.ownsRow base e size v n xs) : ∀ g ∈ v.ownBlock.toList, base ≤ g ∧ ∃ cur, Blk w g cur e := by
  intro g hg
  rcases h.2 with ⟨q, _⟩ | ⟨k, cap, cur, q, hb, hh, _⟩
  · rw [q] at hg; simp [Value.ownBlock] at hg
  · rw [q] at hg; rw [own_mem hg]; exact ⟨hb, cur.toList, by simpa [Blk] using hh⟩
theorem PtOk.chg {S : List Nat} {w w' : World} {B : Nat} {s : Sl} (h : PtOk w B s) (k : Chg S w w') (hS : ∀ x ∈ S, x < B ∨ ∃ cur t, Blk w x cur t ∧ t ≠ 25) : PtOk w' B s := by
  refine ownsRow_chg h k fun g hg hm => ?_
  obtain ⟨h1, cur, h2⟩ := h.blk g hg
  rcases hS g hm with h3 | ⟨c, t, h3, h4⟩
  · omega
  · exact h2.ne h3 (Ne.symm h4) rfl
theorem PtOk.low {w : World} {B B' : Nat} {s : Sl} (h : PtOk w B s) (k : B' ≤ B) : PtOk w B' s := ownsRow_base h k

def plCells (b0 b1 b2 bk c0 c1 c2 : Int) : List Value := [.int .i64 0, .int .i64 b0, .int .i64 bk, .int .i64 c0, .int .i64 1, .int .i64 b1, .int .i64 bk, .int .i64 c1, .int .i64 2, .int .i64 b2, .int .i64 bk, .int .i64 c2]
/-- Where all stands. -/
structure JoAt (W wr : World) (bp bM bO bL : Nat) (b0 b1 b2 bk c0 c1 c2 : Int) (M : List Int) (l0 l1 l2 : Int) : Prop where
  p : Blk wr bp (plCells b0 b1 b2 bk c0 c1 c2) 48
  m : Blk wr bM (M.map (Value.int .u64)) 32
  a : Blk wr bO (zeros.map (Value.int .u64)) 32
  last : Blk wr bL [.int .u64 l0, .int .u64 l1, .int .u64 l2] 54
  chg : Chg [] W wr
  ne : bp < bL ∧ bM < bL ∧ bO < bL ∧ bM ≠ bO ∧ bp < bM ∧ bp < bO ∧ W.heap.size ≤ bp
section
variable {W wr wx : World} {bp bM bO bL : Nat} {b0 b1 b2 bk c0 c1 c2 : Int} {M : List Int} {l0 l1 l2 : Int}
theorem JoAt.chgS {S : List Nat} (h : JoAt W wr bp bM bO bL b0 b1 b2 bk c0 c1 c2 M l0 l1 l2) (k : Chg S wr wx) (hS : ∀ x ∈ S, bL < x) : JoAt W wx bp bM bO bL b0 b1 b2 bk c0 c1 c2 M l0 l1 l2 := by
  have := h.ne
  have hn : ∀ y, y ≤ bL → y ∉ S := fun y hy hm => by have := hS y hm; omega
  exact ⟨k.blk h.p (hn _ (by omega)), k.blk h.m (hn _ (by omega)), k.blk h.a (hn _ (by omega)), k.blk h.last (hn _ (by omega)), h.chg.trans' k (fun x hx hl => by have := hS x hx; omega), h.ne⟩
theorem JoAt.look (h : JoAt W wr bp bM bO bL b0 b1 b2 bk c0 c1 c2 M l0 l1 l2) (k : Chg [] wr wx) : JoAt W wx bp bM bO bL b0 b1 b2 bk c0 c1 c2 M l0 l1 l2 := h.chgS k (by simp)
theorem JoAt.runM {M' : List Int} (h : JoAt W wr bp bM bO bL b0 b1 b2 bk c0 c1 c2 M l0 l1 l2) (k : Chg [bM] wr wx) (hb : Blk wx bM (M'.map (Value.int .u64)) 32) : JoAt W wx bp bM bO bL b0 b1 b2 bk c0 c1 c2 M' l0 l1 l2 := by
  have := h.ne
  exact ⟨k.blk h.p (by simp; omega), hb, k.blk h.a (by simp; omega), k.blk h.last (by simp; omega), h.chg.trans' k (fun x hx hl => by simp at hx; omega), h.ne⟩
theorem JoAt.setL {n0 n1 n2 : Int} (h : JoAt W wr bp bM bO bL b0 b1 b2 bk c0 c1 c2 M l0 l1 l2) (k : Chg [bL] wr wx) (hb : Blk wx bL [.int .u64 n0, .int .u64 n1, .int .u64 n2] 54) : JoAt W wx bp bM bO bL b0 b1 b2 bk c0 c1 c2 M n0 n1 n2 := by
  have := h.ne
  exact ⟨k.blk h.p (by simp; omega), k.blk h.m (by simp; omega), k.blk h.a (by simp; omega), hb, h.chg.trans' k (fun x hx hl => by simp at hx; omega), h.ne⟩
end

def JoRel (W : World) (bp bM bO bL : Nat) (b0 b1 b2 bk c0 c1 c2 : Int) (n : Nat) (vp s : Value) (wr : World) : Prop :=
  ∃ (i : Nat) (M : List Int) (ps : List Sl) (l0 l1 l2 : Int), i ≤ n ∧ s = .int .i64 i ∧ JoIn b0 b1 b2 bk c0 c1 c2 i M ∧ JoAt W wr bp bM bO bL b0 b1 b2 bk c0 c1 c2 M l0 l1 l2 ∧ ps.length ≤ i ∧
    JInv (ps.map Sl.l) M [l0, l1, l2] ∧ JoinU (ps.map Sl.l) ∧ (∀ s ∈ ps, s.l.length ≤ 128) ∧ (∀ s ∈ ps, PtOk wr (bL + 1) s) ∧ wr.ownsRow (bL + 1) 23 1 vp ps.length (ps.flatMap encS)

theorem Code_own {w0 w : World} (h : Chg [] w0 w) (x c base bk cap k v : Int) (hu : usualB x c = true) (hk0 : 0 ≤ k) (hk1 : k ≤ 18446744073709551615) (hv0 : 0 ≤ v) (hv1 : v ≤ 18446744073709551615) (hf : fitsB base (sizeK x bk cap) = true) :
    Calls Try.prog 17 #[.agg #[.int .i64 x, .int .i64 base, .int .i64 bk, .int .i64 cap], .agg #[.int .i64 c, .int .u64 k, .int .u64 v]] w fun e w' => ∃ s : Sl, s.l = codeL x c base bk cap k v ∧ e = .returned (.tuple #[.slice s.A s.l.length s.cap, .int .i64 0]) ∧ PtOk w' w0.heap.size s ∧ Chg [] w0 w' := by
  refine (Code_yes w x c base bk cap k v hu hk0 hk1 hv0 hv1 hf).mono ?_
  rintro e w' ⟨va, rfl, hr, hx⟩
  obtain ⟨A, cp, rfl, _, _, _, hR, hb⟩ := Rd.of_row encI_len hr
  exact ⟨⟨A, cp, codeL x c base bk cap k v⟩, rfl, rfl, ownsRow_base hr h.size, h.trans hx⟩
theorem Play_504 (W : World) (A : Option Addr) (cap : Nat) (l : List Ins) (bm : Nat) (blocks : Nat)
    (hl : l.length ≤ 1024) (hu : ∀ i ∈ l, UseI l.length i) (hA : RdI W W.heap.size A l) (hAm : ∀ a, A = some a → a.block ∉ [bm]) (hB : Blk W bm (zeros.map (Value.int .u64)) 32) (hb : blocks ≤ 1000) {m' : Mach} (hm : runM l 0 504 240000 240001 start5 = m') :
    Calls Try.prog 34 #[.slice A l.length cap, .slice (some ⟨bm, 0, none⟩) 504 504, .agg #[.int .u64 5, .int .u64 5, .int .u64 5, .int .u64 0, .int .u64 0, .int .u64 0, .int .u64 0, .int .u64 0], .int .i64 0, .int .i64 504, .int .i64 blocks, .int .i64 240000] W (PlayPost W bm l.length blocks m') := by
  have hok : ∀ k : Nat, uok (rg [5, 5, 5, 0, 0, 0, 0, 0] k) := by
    intro k
    by_cases h : k < 8
    · rcases (by omega : k = 0 ∨ k = 1 ∨ k = 2 ∨ k = 3 ∨ k = 4 ∨ k = 5 ∨ k = 6 ∨ k = 7) with rfl | rfl | rfl | rfl | rfl | rfl | rfl | rfl <;> exact ⟨by decide, by decide⟩
    · have : rg [5, 5, 5, 0, 0, 0, 0, 0] k = 0 := by simp [rg, List.getD, List.getElem?_eq_none (show [(5 : Int), 5, 5, 0, 0, 0, 0, 0].length ≤ k by simp; omega)]
      rw [this]; exact ⟨by decide, by decide⟩
  have h := Play_any W A cap l bm zeros 5 5 5 0 0 0 0 0 0 504 blocks 240000 hl hu hA hAm (by rw [zeros_len]; decide) zeros_ok hB hok (by decide) (by decide) hb (by decide)
  rw [zeros_len] at h
  rw [← hm]
  exact h
theorem fits_pl {x base bk cap : Int} (hp : PlOk x base bk cap) (hx : x = 0 ∨ x = 1 ∨ x = 2) : fitsB base (sizeK x bk cap) = true := by
  obtain ⟨p0, p1, p2, p3, p4, p5⟩ := hp
  have : 0 < sizeK x bk cap := by rw [p4]; split <;> (try split) <;> omega
  simp [fitsB]; omega
theorem mod3 (x : Int) (h : 0 ≤ x) : x % 3 = 0 ∨ x % 3 = 1 ∨ x % 3 = 2 := by omega
theorem ans_len (l : List Ins) (m : Mach) (h : m.regs.length = 8) : ∃ a0 a1 a2, ansOf l.length m = [a0, a1, a2] := by
  unfold ansOf
  split
  · obtain ⟨r0, r1, r2, r3, r4, r5, r6, r7, e⟩ := eight h
    exact ⟨r0, r1, r2, by rw [e]; rfl⟩
  · exact ⟨_, _, _, rfl⟩

end Go.Proofs.Ythlhjahhjoclfaa
