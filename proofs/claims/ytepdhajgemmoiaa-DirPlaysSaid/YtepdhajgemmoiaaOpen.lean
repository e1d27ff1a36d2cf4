/- Arguments opened to cells: structs and arrays of integers and bools, however deep, and slices of them. No program in sight. -/
import Derived.Test.YtepdhajgemmoiaaLib
import Derived.ProofKit
import Derived.OpenShut
import Derived.Deep.Slices
import Derived.Deep.Fields
namespace Go.Proofs.Ytepdhajgemmoiaa
open Go.RowKit Go.ChangeShapes Go.WideShapes Go.Deep

/-- A leaf: an integer of a kind, or a bool (0 and 1). -/
def leafV : Option IntKind → Int → Value
  | some k, n => .int k n
  | none, n => .bool (decide (n = 1))
def leafOk : Option IntKind → Int → Prop
  | some k, n => (Lit.int k n).wf = true
  | none, _ => True

def FlatRel : List (Option IntKind) → List Value → List Int → Prop
  | [], [], [] => True
  | k :: ks, v :: vs, n :: ns => v = leafV k n ∧ leafOk k n ∧ FlatRel ks vs ns
  | _, _, _ => False

theorem FlatRel.append : ∀ {ks ks' : List (Option IntKind)} {vs vs' : List Value} {ns ns' : List Int}, FlatRel ks vs ns → FlatRel ks' vs' ns' → FlatRel (ks ++ ks') (vs ++ vs') (ns ++ ns')
  | [], _, [], _, [], _, _, h' => h'
  | _ :: _, _, _ :: _, _, _ :: _, _, ⟨h1, h2, h3⟩, h' => ⟨h1, h2, FlatRel.append h3 h'⟩
  | [], _, _ :: _, _, _, _, h, _ => h.elim
  | [], _, [], _, _ :: _, _, h, _ => h.elim
  | _ :: _, _, [], _, _, _, h, _ => h.elim
  | _ :: _, _, _ :: _, _, [], _, h, _ => h.elim

theorem FlatRel.length : ∀ {ks : List (Option IntKind)} {vs : List Value} {ns : List Int}, FlatRel ks vs ns → vs.length = ks.length ∧ ns.length = ks.length
  | [], [], [], _ => ⟨rfl, rfl⟩
  | _ :: _, _ :: _, _ :: _, ⟨_, _, h3⟩ => by have := FlatRel.length h3; simp [this.1, this.2]
  | [], _ :: _, _, h => h.elim
  | [], [], _ :: _, h => h.elim
  | _ :: _, [], _, h => h.elim
  | _ :: _, _ :: _, [], h => h.elim

theorem FlatRel.cons_inv {k : Option IntKind} {ks : List (Option IntKind)} : ∀ {cs : List Value} {ns : List Int}, FlatRel (k :: ks) cs ns → ∃ n ns', ns = n :: ns' ∧ leafOk k n ∧ ∃ cs', FlatRel ks cs' ns'
  | _ :: cs, n :: ns, ⟨_, h2, h3⟩ => ⟨n, ns, rfl, h2, cs, h3⟩
  | [], _, h => h.elim
  | _ :: _, [], h => h.elim
theorem FlatRel.nil_inv : ∀ {cs : List Value} {ns : List Int}, FlatRel [] cs ns → ns = []
  | [], [], _ => rfl
  | [], _ :: _, h => h.elim
  | _ :: _, _, h => h.elim

/-- The numbers that a kind holds. -/
def i64ok (a : Int) : Prop := -9223372036854775808 ≤ a ∧ a ≤ 9223372036854775807
def u64ok (a : Int) : Prop := 0 ≤ a ∧ a ≤ 18446744073709551615
def u16ok (a : Int) : Prop := 0 ≤ a ∧ a ≤ 65535
def u8ok (a : Int) : Prop := 0 ≤ a ∧ a ≤ 255
theorem i64ok_of {n : Int} (h : (Lit.int .i64 n).wf = true) : i64ok n := by simpa [Lit.wf, i64ok, IntKind.min, IntKind.max, IntKind.signed, IntKind.bits] using h
theorem u64ok_of {n : Int} (h : (Lit.int .u64 n).wf = true) : u64ok n := by simpa [Lit.wf, u64ok, IntKind.min, IntKind.max, IntKind.signed, IntKind.bits] using h
theorem u16ok_of {n : Int} (h : (Lit.int .u16 n).wf = true) : u16ok n := by simpa [Lit.wf, u16ok, IntKind.min, IntKind.max, IntKind.signed, IntKind.bits] using h
theorem u8ok_of {n : Int} (h : (Lit.int .u8 n).wf = true) : u8ok n := by simpa [Lit.wf, u8ok, IntKind.min, IntKind.max, IntKind.signed, IntKind.bits] using h

/-- The leaves of a type that is flat: their kinds, in order. -/
def flat (P : Program) : Nat → TypeId → Option (List (Option IntKind))
  | 0, _ => none
  | d + 1, t => match P.underlying t with
    | some (.int k) => some [some k]
    | some .bool => some [none]
    | some (.array n e) => (flat P d e).bind fun l => if P.cellsOf e = l.length ∧ P.cellsOf t = n * l.length then some (List.replicate n l).flatten else none
    | some (.struct fs) => (fs.toList.foldl (fun acc f => acc.bind fun l => (flat P d f.type).bind fun m => if f.offset = l.length ∧ P.cellsOf f.type = m.length then some (l ++ m) else none) (some [])).bind fun l =>
        if P.cellsOf t = l.length then some l else none
    | _ => none

section
variable {H : Type} {enc : TypeId × Value → H} {P : Program} {w : World} {base : Nat} {spare : Nat → Bool} {held : Bool}

theorem foldl_none {α β : Type} (f : α → β → Option α) : ∀ (l : List β), l.foldl (fun acc b => acc.bind fun a => f a b) none = none
  | [] => rfl
  | _ :: l => by simp [foldl_none f l]

theorem take_chunk (cs : List Value) (a b : Nat) : cs.take (a + b) = cs.take a ++ (cs.drop a).take b := by rw [List.take_add]

theorem flat_fields {d n : Nat} {cs : List Value} (xs : List (DataW H × List MemPlace))
    (ih : ∀ t ks fuel cs x, flat P d t = some ks → DataW.trod enc P w base spare held fuel t cs = some x → ∃ ns, FlatRel ks cs ns) :
    ∀ (fs : List Field) (j : Nat) (l ks : List (Option IntKind)) (ns : List Int), FlatRel l (cs.take l.length) ns →
      (∀ (i : Nat) (f : Field), fs[i]? = some f → DataW.trod enc P w base spare held n f.type ((cs.drop f.offset).take (P.cellsOf f.type)) = xs[j + i]?) → j + fs.length ≤ xs.length →
      fs.foldl (fun acc f => acc.bind fun l => (flat P d f.type).bind fun m => if f.offset = l.length ∧ P.cellsOf f.type = m.length then some (l ++ m) else none) (some l) = some ks →
      ∃ ns', FlatRel ks (cs.take ks.length) ns'
  | [], _, l, ks, ns, h, _, _, hk => by
    simp at hk; subst hk; exact ⟨ns, h⟩
  | f :: fs, j, l, ks, ns, h, hx, hlen, hk => by
    simp only [List.foldl_cons, Option.bind_some] at hk
    cases hm : flat P d f.type with
    | none => rw [hm] at hk; simp only [Option.bind_none] at hk; rw [foldl_none] at hk; cases hk
    | some m =>
      rw [hm] at hk
      simp only [Option.bind_some] at hk
      by_cases ho : f.offset = l.length ∧ P.cellsOf f.type = m.length
      · rw [if_pos ho] at hk
        have h0 := hx 0 f rfl
        have hlx : j + 0 < xs.length := by simp at hlen; omega
        rw [List.getElem?_eq_getElem hlx] at h0
        obtain ⟨ms, hms⟩ := ih _ _ _ _ _ hm h0
        refine flat_fields xs ih fs (j + 1) (l ++ m) ks (ns ++ ms) ?_ (fun i g hg => by have := hx (i + 1) g (by simpa using hg); rwa [show j + (i + 1) = j + 1 + i from by omega] at this) (by simp at hlen; omega) hk
        rw [List.length_append, take_chunk]
        rw [ho.1, ho.2] at hms
        exact h.append hms
      · rw [if_neg ho] at hk; rw [foldl_none] at hk; cases hk

theorem trod_flat : ∀ (d : Nat) (t : TypeId) (ks : List (Option IntKind)) (fuel : Nat) (cs : List Value) (x : DataW H × List MemPlace), flat P d t = some ks → DataW.trod enc P w base spare held fuel t cs = some x → ∃ ns, FlatRel ks cs ns
  | 0, _, _, _, _, _, h, _ => by simp [flat] at h
  | d + 1, t, ks, fuel, cs, x, h, ht => by
    unfold flat at h
    split at h
    · rename_i k hu
      cases h
      obtain ⟨n, rfl, _, hw⟩ := DataW.trod_int hu ht
      exact ⟨[n], rfl, hw, trivial⟩
    · rename_i hu
      cases h
      obtain ⟨b, rfl, _⟩ := DataW.trod_bool hu ht
      exact ⟨[if b then 1 else 0], by cases b <;> simp [leafV], trivial, trivial⟩
    · rename_i n e hu
      obtain ⟨l, hl, h⟩ := Option.bind_eq_some_iff.1 h
      split at h
      · rename_i hc
        cases h
        obtain ⟨xs, m, _, _, hlen, hxl, hi⟩ := DataW.trod_array hu ht
        have key : ∀ i, i ≤ n → ∃ ns, FlatRel (List.replicate i l).flatten (cs.take (i * l.length)) ns := by
          intro i
          induction i with
          | zero => intro _; exact ⟨[], by simp [FlatRel]⟩
          | succ i ih =>
            intro hin
            obtain ⟨ns, hns⟩ := ih (by omega)
            have h0 := hi i (by omega)
            rw [List.getElem?_eq_getElem (by omega), hc.1] at h0
            obtain ⟨ms, hms⟩ := trod_flat d e l _ _ _ hl h0
            refine ⟨ns ++ ms, ?_⟩
            rw [List.replicate_succ', List.flatten_append, Nat.succ_mul, take_chunk]
            simpa using hns.append hms
        obtain ⟨ns, hns⟩ := key n (Nat.le_refl _)
        rw [List.take_of_length_le (by rw [hlen, hc.2]; exact Nat.le_refl _)] at hns
        exact ⟨ns, hns⟩
      · cases h
    · rename_i fs hu
      obtain ⟨l, hl, h⟩ := Option.bind_eq_some_iff.1 h
      split at h
      · rename_i hc
        cases h
        obtain ⟨xs, n, _, _, hlen, hxl, hi⟩ := DataW.trod_struct hu ht
        obtain ⟨ns, hns⟩ := flat_fields (n := n) (cs := cs) xs (fun t ks fuel cs x => trod_flat d t ks fuel cs x) fs.toList 0 [] _ [] (by simp [FlatRel]) (fun i f hf => by rw [Nat.zero_add]; exact hi i f (by simpa using hf)) (by simp [hxl]) hl
        rw [List.take_of_length_le (by rw [hlen, hc]; exact Nat.le_refl _)] at hns
        exact ⟨ns, hns⟩
      · cases h
    · cases h

/-- A slice that came in: n elements of so many cells each, as enc says. -/
def Rd {α : Type} (w : World) (B : Nat) (A : Option Addr) (size : Nat) (enc : α → List Value) (xs : List α) : Prop :=
  0 < xs.length → ∃ b off, A = some ⟨b, off, none⟩ ∧ b < B ∧ ∀ k (hk : k < xs.length) j, j < size → w.cell? ⟨b, off + (k * size + j), none⟩ = (enc xs[k])[j]?

theorem Rd.below {α : Type} {w w' : World} {B : Nat} {A : Option Addr} {size : Nat} {enc : α → List Value} {xs : List α} (h : Rd w B A size enc xs) (hb : Below B w w') : Rd w' B A size enc xs := fun hn => by
  obtain ⟨b, off, e, hB, hc⟩ := h hn
  exact ⟨b, off, e, hB, fun k hk j hj => (hb.cell (p := ⟨b, _, none⟩) hB).trans (hc k hk j hj)⟩

theorem Rd.map {α β : Type} {w : World} {B : Nat} {A : Option Addr} {size : Nat} {enc : α → List Value} {enc' : β → List Value} {xs : List α} (h : Rd w B A size enc xs) (f : α → β) (hf : ∀ x ∈ xs, enc x = enc' (f x)) : Rd w B A size enc' (xs.map f) := fun hn => by
  obtain ⟨b, off, e, hB, hc⟩ := h (by simpa using hn)
  refine ⟨b, off, e, hB, fun k hk j hj => ?_⟩
  have hk' : k < xs.length := by simpa using hk
  rw [hc k hk' j hj, hf _ (List.getElem_mem hk')]
  simp

theorem choose_list {α : Type} {Q : Nat → α → Prop} : ∀ (n : Nat), (∀ i, i < n → ∃ x, Q i x) → ∃ xs : List α, xs.length = n ∧ ∀ i (h : i < xs.length), Q i xs[i]
  | 0, _ => ⟨[], rfl, fun i h => absurd h (by simp)⟩
  | n + 1, h => by
    obtain ⟨xs, hl, hx⟩ := choose_list n (fun i hi => h i (by omega))
    obtain ⟨x, hq⟩ := h n (by omega)
    refine ⟨xs ++ [x], by simp [hl], fun i hi => ?_⟩
    by_cases hin : i < xs.length
    · rw [List.getElem_append_left hin]; exact hx i hin
    · have : i = n := by simp at hi; omega
      subst this
      rw [List.getElem_append_right (by omega)]
      simpa [hl] using hq

/-- A slice argument whose elements are flat: its elements, as lists of leaves, up to its length. -/
theorem open_flat_slice {d fuel : Nat} {t e : TypeId} {v : Value} {x : DataW H × List MemPlace} {ks : List (Option IntKind)} (hu : P.underlying t = some (.slice e)) (hk : flat P d e = some ks) (hc : P.cellsOf e = ks.length) (hpos : 0 < ks.length)
    (h : DataW.trod enc P w base spare held fuel t [v] = some x) :
    ∃ (A : Option Addr) (cap : Nat) (xs : List (List Int)), v = .slice A xs.length cap ∧ xs.length ≤ cap ∧ cap ≤ maxLen ∧ (A = none → cap = 0) ∧ (∀ ns ∈ xs, ∃ cs, FlatRel ks cs ns) ∧ Rd w w.heap.size A ks.length (fun ns => List.zipWith leafV ks ns) xs := by
  rcases open_slice hu h with ⟨hcs, _⟩ | ⟨a, len, cap, m, n, D, Pl, hcs, _, hl, hm, hmm, _, hi⟩
  · simp only [List.cons.injEq, and_true] at hcs
    subst hcs
    exact ⟨none, 0, [], rfl, Nat.le_refl _, Nat.zero_le _, fun _ => rfl, by simp, fun h => absurd h (by simp)⟩
  · simp only [List.cons.injEq, and_true] at hcs
    subst hcs
    have hml : len ≤ m := by rw [hmm]; split <;> omega
    have hall : ∀ i, i < len → ∃ ns : List Int, (∃ cs, FlatRel ks cs ns) ∧ ∀ j, j < ks.length → w.cell? (a.add (i * ks.length + j)) = (List.zipWith leafV ks ns)[j]? := by
      intro i him
      obtain ⟨cs', hc1, ht⟩ := hi i (by omega)
      obtain ⟨_, hcl, hat⟩ := World.cells?_some hc1
      obtain ⟨ns, hns⟩ := trod_flat d e ks _ _ _ hk ht
      refine ⟨ns, ⟨cs', hns⟩, fun j hj => ?_⟩
      rw [hc] at hat
      rw [← Go.Deep.add_add, hat j hj]
      have hz : ∀ {ks : List (Option IntKind)} {vs : List Value} {ns : List Int}, FlatRel ks vs ns → vs = List.zipWith leafV ks ns := by
        intro ks
        induction ks with
        | nil => intro vs ns h; cases vs <;> cases ns <;> simp_all [FlatRel]
        | cons k ks ih => intro vs ns h; cases vs <;> cases ns <;> simp_all [FlatRel]; exact ih h.2.2
      rw [← hz hns]
    obtain ⟨xs, hxl, hx⟩ := choose_list len hall
    subst hxl
    refine ⟨some a, cap, xs, rfl, hl, hm, (fun h => by cases h), fun ns hns => ?_, fun hn => ?_⟩
    · obtain ⟨i, hi', rfl⟩ := List.getElem_of_mem hns
      exact (hx i hi').1
    · obtain ⟨⟨cs, hfr⟩, hc0⟩ := hx 0 hn
      have h00 := hc0 0 hpos
      have hne : ∃ v, (List.zipWith leafV ks xs[0])[0]? = some v := by
        have := hfr.length
        exact ⟨_, List.getElem?_eq_getElem (by simp; omega)⟩
      obtain ⟨v0, hv0⟩ := hne
      rw [hv0] at h00
      simp only [Nat.zero_mul, Nat.zero_add] at h00
      have ha0 : a.add 0 = a := by simp [Addr.add]
      rw [ha0] at h00
      have hs := World.cell?_spot h00
      have hb := World.block_lt_of_cell? w a h00
      obtain ⟨b, off, spot⟩ := a
      subst hs
      refine ⟨b, off, rfl, hb, fun k hk j hj => ?_⟩
      have := (hx k hk).2 j hj
      rw [← this]
      unfold Addr.add
      split <;> simp_all
end

theorem FlatRel.eq : ∀ {ks : List (Option IntKind)} {vs : List Value} {ns : List Int}, FlatRel ks vs ns → vs = List.zipWith leafV ks ns
  | [], [], [], _ => rfl
  | _ :: _, _ :: _, _ :: _, ⟨h1, _, h3⟩ => by rw [List.zipWith_cons_cons, ← h1, ← FlatRel.eq h3]
  | [], _ :: _, _, h => h.elim
  | [], [], _ :: _, h => h.elim
  | _ :: _, [], _, h => h.elim
  | _ :: _, _ :: _, [], h => h.elim

/-- A struct or an array by value, flat. -/
theorem open_flat_agg {H : Type} {enc : TypeId × Value → H} {P : Program} {w : World} {base : Nat} {spare : Nat → Bool} {held : Bool} {dd : Nat} {t : TypeId} {v : Value} {d : DataW H} {p : List MemPlace} {ks : List (Option IntKind)}
    (hv : ∃ cs, v = .agg cs) (hk : flat P dd t = some ks) (h : DataW.Trod enc P w base spare held t v d p) : ∃ ns, v = .agg (List.zipWith leafV ks ns).toArray ∧ ∃ cs, FlatRel ks cs ns := by
  obtain ⟨cs, rfl⟩ := hv
  obtain ⟨fuel, hf⟩ := h
  obtain ⟨ns, hns⟩ := trod_flat dd t ks _ _ _ hk hf
  refine ⟨ns, ?_, _, hns⟩
  have e := hns.eq
  simp only [Value.cells] at e
  rw [← e]

theorem okWide_array {P : Program} {w : World} {r : Reach} {base : Nat} {t : TypeId} {v : Value} {n : Nat} {e : TypeId} (ht : P.underlying t = some (.array n e)) (h : Value.okWide P w r base t v) : ∃ cs, v = .agg cs := by
  simp only [Value.okWide, ht] at h
  obtain ⟨cs, h1, _⟩ := h
  exact ⟨cs, h1⟩
theorem okWide_struct' {P : Program} {w : World} {r : Reach} {base : Nat} {t : TypeId} {v : Value} {fs : Array Field} (ht : P.underlying t = some (.struct fs)) (h : Value.okWide P w r base t v) : ∃ cs, v = .agg cs := by
  obtain ⟨cs, h1, _⟩ := okWide_struct ht h
  exact ⟨cs, h1⟩

/-- Arguments that were there read behind the call as they did. -/
theorem trodAll_below {H : Type} {enc : TypeId × Value → H} {P : Program} (hl : laidOutB P = true) {W W' : World} (hb : Below W.heap.size W W') :
    ∀ {ts : List TypeId} {vs : List Value} {ds : List (DataW H)} {ps : List MemPlace}, (∀ t ∈ ts, P.readableRec t = true ∧ t < P.types.size) → DataW.TrodAll enc P W 0 (fun _ => true) true ts vs ds ps →
      DataW.TrodAll enc P W' 0 (fun b => decide (b < W.heap.size)) true ts vs ds ps
  | [], _, _, _, _, h => by obtain ⟨rfl, rfl, rfl⟩ := trodAll_nil h; exact trodAll_mk0
  | t :: ts, _, _, _, ht, h => by
    obtain ⟨v, vs, d, ds, p, q, rfl, rfl, rfl, h1, h2⟩ := trodAll_cons h
    obtain ⟨hr, hs⟩ := ht t (by simp)
    refine trodAll_cons_mk (Below.trod hl hr hs h1 hb ?_) (trodAll_below hl hb (fun t' ht' => ht t' (by simp [ht'])) h2)
    intro x hx
    obtain ⟨m, hm⟩ := h1
    exact DataW.trod_lt m _ _ _ hm x hx

end Go.Proofs.Ytepdhajgemmoiaa
