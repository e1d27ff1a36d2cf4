/- A list of pairs with the places of its addresses: the plain side, and what it is in memory; look, put, clear. -/
import Derived.Test.YtilffolppnnkaaaRows
import Derived.Test.YtilffolppnnkaaaSep
import Derived.Test.YtilffolppnnkaaaArr
import Derived.StillTailTactics
namespace Go.Proofs.Ytilffolppnnkaaa
set_option maxRecDepth 100000
open Go.RowKit

abbrev PL := List (Int × Int)
def encP (p : Int × Int) : List Value := [.int .i64 p.1, .int .u64 p.2]
def cellsP (l : PL) : List Value := (l.map encP).flatten
theorem cellsP_len (l : PL) : (cellsP l).length = l.length * 2 := by
  induction l with
  | nil => rfl
  | cons a l ih => simp only [cellsP, List.map_cons, List.flatten_cons, List.length_append, List.length_cons] at ih ⊢; rw [ih]; simp [encP]; omega
theorem cellsP_snoc (l : PL) (p : Int × Int) : cellsP (l ++ [p]) = cellsP l ++ encP p := by simp [cellsP]
theorem cellsP_get : ∀ (l : PL) (i j : Nat) (hi : i < l.length), j < 2 → (cellsP l)[i * 2 + j]? = (encP l[i])[j]?
  | a :: l, 0, j, hi, hj => by
    rcases (by omega : j = 0 ∨ j = 1) with rfl | rfl <;> simp [cellsP, encP]
  | a :: l, i + 1, j, hi, hj => by
    have ih := cellsP_get l i j (by simpa using hi) hj
    have e : cellsP (a :: l) = encP a ++ cellsP l := rfl
    rw [e, List.getElem?_append_right (by simp [encP]; omega), show (i + 1) * 2 + j - (encP a).length = i * 2 + j from by simp [encP]; omega, ih]
    rfl

/-- Where an address stands. -/
def place (l : PL) (a : Int) : Option Nat := l.findIdx? (fun p => p.1 == a)
theorem place_lt {l : PL} {a : Int} {i : Nat} (h : place l a = some i) : ∃ hi : i < l.length, l[i].1 = a := by
  obtain ⟨hi, h1, _⟩ := List.findIdx?_eq_some_iff_getElem.1 h
  exact ⟨hi, by simpa using h1⟩
theorem place_none {l : PL} {a : Int} : place l a = none ↔ ∀ p ∈ l, p.1 ≠ a := by
  simp [place, List.findIdx?_eq_none_iff]
/-- Each address stands once. -/
def Once (l : PL) : Prop := (l.map Prod.fst).Nodup
theorem once_snoc {l : PL} {p : Int × Int} : Once (l ++ [p]) ↔ Once l ∧ place l p.1 = none := by
  simp only [Once, List.map_append, List.map_cons, List.map_nil, List.nodup_append]
  rw [place_none]
  constructor
  · rintro ⟨h1, _, h3⟩
    exact ⟨h1, fun q hq e => h3 q.1 (List.mem_map_of_mem hq) p.1 (by simp) e⟩
  · rintro ⟨h1, h2⟩
    refine ⟨h1, by simp, fun x hx y hy e => ?_⟩
    obtain ⟨q, hq, rfl⟩ := List.mem_map.1 hx
    simp at hy
    exact h2 q hq (e.trans hy)

theorem place_snoc (l : PL) (p : Int × Int) (a : Int) : place (l ++ [p]) a = match place l a with | some i => some i | none => if p.1 = a then some l.length else none := by
  simp only [place, List.findIdx?_append]
  cases h : l.findIdx? (fun p => p.1 == a) with
  | some i => simp
  | none => by_cases e : p.1 = a <;> simp [List.findIdx?_cons, e]

/-- The datum that the map is. -/
def idxD (l : PL) : DataW Unit := l.zipIdx.foldl (fun D x => D.put (.int .i64 x.1.1) (.lit (.int .i64 (x.2 : Int)))) (.map [])
theorem idxD_snoc (l : PL) (p : Int × Int) : idxD (l ++ [p]) = (idxD l).put (.int .i64 p.1) (.lit (.int .i64 (l.length : Int))) := by
  simp [idxD, List.zipIdx_append, List.foldl_append]
theorem list_snoc_ind {α : Type} {P : List α → Prop} (h0 : P []) (h1 : ∀ l a, P l → P (l ++ [a])) : ∀ l, P l := by
  intro l
  have : ∀ n (l : List α), l.length = n → P l := by
    intro n
    induction n with
    | zero => intro l h; cases l with
      | nil => exact h0
      | cons a l => cases h
    | succ n ih => intro l h; rcases List.eq_nil_or_concat l with rfl | ⟨m, a, rfl⟩
                   · cases h
                   · rw [List.concat_eq_append]; exact h1 m a (ih m (by simpa using h))
  exact this _ l rfl
theorem isMap_idxD (l : PL) : Maps.IsMap (idxD l) := by
  refine list_snoc_ind (P := fun l => Maps.IsMap (idxD l)) Maps.isMap_empty ?_ l
  intro l a h
  rw [idxD_snoc]; exact h.put _ _
theorem has_idxD (l : PL) (a : Int) : Maps.has (idxD l) (.int .i64 a) = (place l a).isSome := by
  refine list_snoc_ind (P := fun l => Maps.has (idxD l) (.int .i64 a) = (place l a).isSome) ?_ ?_ l
  · rfl
  · intro l p h
    rw [idxD_snoc, place_snoc]
    by_cases e : p.1 = a
    · subst e
      rw [Maps.has_put_same (isMap_idxD l) (by trivial)]
      cases place l p.1 <;> simp
    · rw [Maps.has_put_other (by simpa using fun x => e x.symm), h]
      cases place l a <;> simp [e]
theorem at_idxD (l : PL) (a : Int) (i : Nat) (ho : Once l) (h : place l a = some i) (z : DataW Unit) : (idxD l).atKey (.int .i64 a) z = .lit (.int .i64 (i : Int)) := by
  revert ho h
  refine list_snoc_ind (P := fun l => Once l → place l a = some i → (idxD l).atKey (.int .i64 a) z = .lit (.int .i64 (i : Int))) ?_ ?_ l
  · intro _ h; cases h
  · intro l p ih ho h
    obtain ⟨h1, h2⟩ := once_snoc.1 ho
    rw [place_snoc] at h
    rw [idxD_snoc]
    by_cases e : p.1 = a
    · subst e
      rw [h2] at h
      simp at h
      rw [Maps.atKey_put_same (isMap_idxD l) (by trivial), h]
    · rw [Maps.atKey_put_other (by simpa using fun x => e x.symm)]
      refine ih h1 ?_
      cases hp : place l a with
      | some j => rw [hp] at h; simpa using h
      | none => rw [hp] at h; simp [e] at h

/-- The numbers of a list are numbers. -/
def PairsOk (l : PL) : Prop := ∀ p ∈ l, (Lit.int .i64 p.1).wf = true ∧ (Lit.int .u64 p.2).wf = true

theorem lawInt : Maps.Keyed Try.prog 3 := Maps.int_keyed Try.underlying3
theorem zeroInt (w : World) : (zeroValue 3).run Try.prog w = .ok (.int .i64 0) w := by kernel_rfl
theorem infoPair : (Try.prog.info? 85).map (fun i => (i.zero, i.size, i.bytes)) = some (some (.agg #[.int .i64 0, .int .u64 0]), 2, 16) := by kernel_rfl

/-- A list at block b: its pairs' slice v, its map m. -/
structure ListAt (w : World) (b : Nat) (v : Value) (m : Nat) (l : PL) : Prop where
  blk : Blk w b [v, .map (some m)] 88
  row : w.ownsRow 0 85 2 v l.length (cellsP l)
  map : w.ownsMap Try.prog 3 (plainElem Try.prog 3) m l.length (idxD l)
  once : Once l
  ok : PairsOk l
  most : l.length ≤ 128
  bm : b ≠ m
  bv : b ∉ v.ownBlock.toList
  mv : m ∉ v.ownBlock.toList

def listF (b : Nat) (v : Value) (m : Nat) : List Nat := b :: m :: v.ownBlock.toList

theorem ListAt.chg {S : List Nat} {w w' : World} {b m : Nat} {v : Value} {l : PL} (h : ListAt w b v m l) (k : Chg S w w') (hs : Apart (listF b v m) S) : ListAt w' b v m l :=
  ⟨k.blk h.blk (hs b (by simp [listF])), ownsRow_chg h.row k (fun g hg => hs g (by simp only [listF, List.mem_cons]; exact .inr (.inr hg))), ownsMap_chg h.map k (hs m (by simp [listF])), h.once, h.ok, h.most, h.bm, h.bv, h.mv⟩
theorem ListAt.lt {w : World} {b m : Nat} {v : Value} {l : PL} (h : ListAt w b v m l) : ∀ x ∈ listF b v m, x < w.heap.size := by
  intro x hx
  simp only [listF, List.mem_cons] at hx
  rcases hx with rfl | rfl | hx
  · exact h.blk.lt
  · exact h.map.lt
  · exact ownsRow_lt h.row x hx

/-- An address's value, and whether there is one. -/
def valOf (l : PL) (a : Int) : Int := match place l a with | some i => (l[i]?.getD (0, 0)).2 | none => 0
def isIn (l : PL) (a : Int) : Bool := (place l a).isSome

set_option maxHeartbeats 1000000 in
theorem look_any (w : World) (b m : Nat) (v : Value) (l : PL) (a : Int) (ha : (Lit.int .i64 a).wf = true) (h : ListAt w b v m l) :
    Calls Try.prog 65 #[.pointer (some ⟨b, 0, none⟩), .int .i64 a] w fun e w' => e = .returned (.tuple #[.int .u64 (valOf l a), .bool (isIn l a)]) ∧ w = w' := by
  have k0 : w.cell? ⟨b, 0, none⟩ = some v := h.blk.cell 0
  have k1 : w.cell? ⟨b, 1, none⟩ = some (.map (some m)) := h.blk.cell 1
  have hkey := Maps.keyOf_int_mk Try.underlying3 ha
  have hown := h.map
  have hh := has_idxD l a
  cases hp : place l a with
  | none =>
    rw [hp] at hh
    have e1 : valOf l a = 0 := by simp [valOf, hp]
    have e2 : isIn l a = false := by simp [isIn, hp]
    rw [e1, e2]
    have hh' : Maps.has (idxD l) (.int .i64 a) = false := hh
    clear hh hp e1 e2 h
    go_enter Try.func65, Try.ntmps65
    go_wp2_with (first
      | (at_lookup; refine wpList_lookup_own_ok_int _ rfl _ _ 42 rfl 3 3 .i64 lawInt Try.underlying42 Try.underlying3 (zeroInt _) m _ _ rfl hown _ _ rfl hkey ?_; intro c hat hwc; rw [hh']; clear hat hh'))
    go_ret2
    exact ⟨rfl, rfl⟩
  | some i =>
    rw [hp] at hh
    obtain ⟨hi, hia⟩ := place_lt hp
    have e1 : valOf l a = l[i].2 := by simp [valOf, hp, hi]
    have e2 : isIn l a = true := by simp [isIn, hp]
    rw [e1, e2]
    have hh' : Maps.has (idxD l) (.int .i64 a) = true := hh
    have hat0 := at_idxD l a i h.once hp (.lit (.int .i64 0))
    obtain ⟨A, cap, rfl, hcap, hmax, _, hcs⟩ := ownsRow_cell h.row
    obtain ⟨g, rfl, _, hc, _⟩ := hcs (i * 2 + 1) (by omega)
    rw [cellsP_get l i 1 hi (by decide)] at hc
    have hc' : w.cell? ⟨g, i * 2 + 1, none⟩ = some (.int .u64 l[i].2) := hc
    have hm := h.most
    generalize l[i].2 = lv at *
    clear hh hp e1 e2 h hc hcs hia
    go_enter Try.func65, Try.ntmps65
    go_wp2_with (first
      | (at_lookup; refine wpList_lookup_own_ok_int _ rfl _ _ 42 rfl 3 3 .i64 lawInt Try.underlying42 Try.underlying3 (zeroInt _) m _ _ rfl hown _ _ rfl hkey ?_; intro c hat hwc; rw [hh']; obtain rfl : (i : Int) = c := (by rw [hat0] at hat; simpa using hat); clear hat hat0 hh'))
    go_ret2
    exact ⟨rfl, rfl⟩

end Go.Proofs.Ytilffolppnnkaaa
