/- A code that comes about: what it is in memory; begin, put. -/
import Derived.Test.YthlhjahhjoclfaaLibs1

import Derived.Deep.AppendLies
import Derived.Deep.RegionLaw
namespace Go.Proofs.Ythlhjahhjoclfaa
set_option maxRecDepth 100000
open Go.RowKit

/-- A code that comes about: instructions, places by names, what goes to them. -/
structure St where
  list : List Ins
  places : List (ByteArray × Int)
  goes : List (Int × ByteArray)

def encG (g : Int × ByteArray) : List Value := [.int .i64 g.1, .string g.2]
theorem encG_len (g : Int × ByteArray) : (encG g).length = 2 := rfl
theorem encI_one (l : List Ins) : ∀ u ∈ l.flatMap encI, u.oneCell' = true := by
  intro u hu
  obtain ⟨i, _, hi⟩ := List.mem_flatMap.1 hu
  simp [encI] at hi
  rcases hi with rfl | rfl | rfl | rfl | rfl <;> rfl

/-- What a name leads to. -/
def lookN (l : List (ByteArray × Int)) (n : List UInt8) : Int := l.foldl (fun r p => if p.1.data.toList = n then p.2 else r) 0
def placesD (l : List (ByteArray × Int)) : DataW Unit := l.foldl (fun D p => D.put (.string p.1.data.toList) (.lit (.int .i64 p.2))) (.map [])
theorem placesD_snoc (l : List (ByteArray × Int)) (p : ByteArray × Int) : placesD (l ++ [p]) = (placesD l).put (.string p.1.data.toList) (.lit (.int .i64 p.2)) := by simp [placesD]
theorem lookN_snoc (l : List (ByteArray × Int)) (p : ByteArray × Int) (n : List UInt8) : lookN (l ++ [p]) n = if p.1.data.toList = n then p.2 else lookN l n := by simp [lookN]
theorem snoc_ind {α : Type} {P : List α → Prop} (h0 : P []) (h1 : ∀ l a, P l → P (l ++ [a])) : ∀ l, P l := by
  intro l
  have : ∀ n (l : List α), l.length = n → P l := by
    intro n
    induction n with
    | zero => intro l h; cases l with
      | nil => exact h0
      | cons a l => cases h
    | succ n ih => intro l h; rcases List.eq_nil_or_concat l with rfl | ⟨m, a, rfl⟩
                   · cases h
                   · rw [List.concat_eq_append]; exact h1 m a (ih m (by simpa using h))
  exact this _ l rfl
theorem isMap_placesD (l : List (ByteArray × Int)) : Maps.IsMap (placesD l) := by
  refine snoc_ind (P := fun l => Maps.IsMap (placesD l)) Maps.isMap_empty ?_ l
  intro l a h
  rw [placesD_snoc]; exact h.put _ _
theorem at_placesD (l : List (ByteArray × Int)) (n : List UInt8) : (placesD l).atKey (.string n) (.lit (.int .i64 0)) = .lit (.int .i64 (lookN l n)) := by
  refine snoc_ind (P := fun l => (placesD l).atKey (.string n) (.lit (.int .i64 0)) = .lit (.int .i64 (lookN l n))) rfl ?_ l
  intro l p h
  rw [placesD_snoc, lookN_snoc]
  by_cases e : p.1.data.toList = n
  · subst e
    rw [Maps.atKey_put_same (isMap_placesD l) (by trivial), if_pos rfl]
  · rw [Maps.atKey_put_other (by simpa using fun x => e x.symm), if_neg e, h]

theorem lawStr : Maps.Keyed Try.prog 9 := Maps.string_keyed Try.underlying9
theorem zeroInt (w : World) : (zeroValue 3).run Try.prog w = .ok (.int .i64 0) w := by kernel_rfl
theorem infoGone : (Try.prog.info? 107).map (fun i => (i.zero, i.size, i.bytes)) = some (some (.agg #[.int .i64 0, .string ⟨#[]⟩]), 2, 24) := by kernel_rfl

/-- The types that a code's own blocks have. -/
def ownT (t : TypeId) : Bool := t == 102 || t == 25 || t == 107
/-- What a step of a code leaves: all blocks below, and all blocks of cells of other types. -/
structure Kp (base : Nat) (w w' : World) : Prop where
  os : w'.os = w.os
  tape : w'.tape = w.tape
  output : w'.output = w.output
  size : w.heap.size ≤ w'.heap.size
  block : ∀ k, k < w.heap.size → (k < base ∨ ∃ cur t d, w.heap[k]? = some (.cells cur t d) ∧ ownT t = false) → w'.heap[k]? = w.heap[k]?

theorem Kp.refl (base : Nat) (w : World) : Kp base w w := ⟨rfl, rfl, rfl, Nat.le_refl _, fun _ _ _ => rfl⟩
theorem Kp.trans {base : Nat} {a b c : World} (h : Kp base a b) (k : Kp base b c) : Kp base a c :=
  ⟨k.os.trans h.os, k.tape.trans h.tape, k.output.trans h.output, Nat.le_trans h.size k.size, fun i hi hc => by
    have e := h.block i hi hc
    rw [← e]
    refine k.block i (Nat.lt_of_lt_of_le hi h.size) ?_
    rcases hc with hc | ⟨cur, t, d, h1, h2⟩
    · exact .inl hc
    · exact .inr ⟨cur, t, d, e.trans h1, h2⟩⟩
theorem Kp.of_chg {base : Nat} {S : List Nat} {w w' : World} (h : Chg S w w') (hS : ∀ k ∈ S, k < w.heap.size → base ≤ k ∧ ∀ cur t d, w.heap[k]? = some (.cells cur t d) → ownT t = true) : Kp base w w' :=
  ⟨h.os, h.tape, h.output, h.size, fun k hk hc => h.block k hk (fun hm => by
    obtain ⟨h1, h2⟩ := hS k hm hk
    rcases hc with hc | ⟨cur, t, d, h3, h4⟩
    · omega
    · rw [h2 _ _ _ h3] at h4; cases h4)⟩
theorem Kp.of_nil {base : Nat} {w w' : World} (h : Chg [] w w') : Kp base w w' := Kp.of_chg h (fun _ hk => by cases hk)
theorem Kp.alloc {base : Nat} {a w : World} (h : Kp base a w) (o : Obj) : Kp base a (w.alloc o) := h.trans (Kp.of_nil ((Chg.refl [] w).alloc o))
theorem Kp.drew {base : Nat} {a w : World} (h : Kp base a w) : Kp base a w.drew := h.trans (Kp.of_nil (Chg.refl [] w).drew)
theorem Kp.drewN {base : Nat} {a w : World} (h : Kp base a w) (n : Nat) : Kp base a (w.drewN n) := h.trans (Kp.of_nil ((Chg.refl [] w).drewN n))
theorem Kp.blk {base : Nat} {w w' : World} (h : Kp base w w') {b : Nat} {l : List Value} {t : TypeId} (hb : Blk w b l t) (ht : ownT t = false) : Blk w' b l t :=
  (h.block b hb.lt (.inr ⟨_, _, _, hb, ht⟩)).trans hb
theorem Kp.below {base : Nat} {w w' : World} (h : Kp base w w') (hb : base ≤ w.heap.size) : Below base w w' :=
  ⟨h.os, h.tape, h.output, h.size, fun k hk => h.block k (by omega) (.inl hk)⟩
theorem Kp.grown {base : Nat} {w w' : World} {e : TypeId} {size : Nat} {v : Value} {n : Nat} {xs : List Value} (ho : w.ownsRow base e size v n xs) (he : ownT e = true) (g : w.grownBy w' v.ownBlock) : Kp base w w' :=
  Kp.of_chg (Chg.of_grown g) (fun k hk hl => by
    rcases ho.2 with ⟨rfl, _⟩ | ⟨b, cap, cur, rfl, hb, hh, _⟩
    · cases hk
    · simp [Value.ownBlock] at hk
      subst hk
      refine ⟨hb, fun cur t d hq => ?_⟩
      rw [hh] at hq
      cases hq
      exact he)
theorem Kp.set {base : Nat} {w : World} {b : Nat} {l : List Value} {t : TypeId} (hb : Blk w b l t) (ht : ownT t = true) (hB : base ≤ b) (i : Nat) (v : Value) : Kp base w (w.setCell ⟨b, i, none⟩ v) :=
  Kp.of_chg (S := [b]) ((Chg.refl _ w).setCell (p := ⟨b, i, none⟩) (by simp) v) (fun k hk _ => by
    simp at hk; subst hk
    refine ⟨hB, fun cur t' d hq => ?_⟩
    have hb' : w.heap[k]? = some (.cells l.toArray t (0, 0)) := hb
    rw [hb'] at hq
    cases hq
    exact ht)
theorem Kp.mapped {base : Nat} {w w' : World} {mb n : Nat} {D : DataW Unit} {P : Program} {k : TypeId} {R : Value → Option (DataW Unit × List MemPlace)} (ho : w.ownsMap P k R mb n D) (hB : base ≤ mb) (g : w.grownBy w' (some mb)) : Kp base w w' :=
  Kp.of_chg (Chg.of_grown g) (fun k hk _ => by
    simp at hk; subst hk
    obtain ⟨es, clock, hb, _⟩ := ho
    refine ⟨hB, fun cur t d hq => ?_⟩
    rw [hb] at hq; cases hq)

/-- A code at block b; n: how long its lists are at most. -/
structure CodeIn (base n : Nat) (w : World) (b : Nat) (s : St) (vl : Value) (mb : Nat) (vg : Value) : Prop where
  blk : Blk w b [vl, .map (some mb), vg] 102
  row : w.ownsRow base 25 5 vl s.list.length (s.list.flatMap encI)
  map : w.ownsMap Try.prog 9 (plainElem Try.prog 3) mb s.places.length (placesD s.places)
  gos : w.ownsRow base 107 2 vg s.goes.length (s.goes.flatMap encG)
  bb : base ≤ b
  bm : base ≤ mb
  ln : s.list.length ≤ n ∧ s.places.length ≤ n ∧ s.goes.length ≤ n
  ok : ∀ g ∈ s.goes, g.2.size ≤ 100 ∧ 0 ≤ g.1 ∧ g.1 ≤ s.list.length
def CodeAt (base n : Nat) (w : World) (b : Nat) (s : St) : Prop := ∃ vl mb vg, CodeIn base n w b s vl mb vg

theorem CodeIn.ne {base n : Nat} {w : World} {b : Nat} {s : St} {vl : Value} {mb : Nat} {vg : Value} (h : CodeIn base n w b s vl mb vg) :
    b ≠ mb ∧ b ∉ vl.ownBlock.toList ∧ b ∉ vg.ownBlock.toList ∧ mb ∉ vl.ownBlock.toList ∧ mb ∉ vg.ownBlock.toList ∧ (∀ x ∈ vl.ownBlock.toList, x ∉ vg.ownBlock.toList) := by
  have hb : w.heap[b]? = some (.cells [vl, .map (some mb), vg].toArray 102 (0, 0)) := h.blk
  obtain ⟨es, clock, hm, _⟩ := h.map
  have hl : ∀ g ∈ vl.ownBlock.toList, ∃ cur, w.heap[g]? = some (.cells cur 25 (0, 0)) := by
    intro g hg
    rcases h.row.2 with ⟨rfl, _⟩ | ⟨x, cap, cur, rfl, _, hh, _⟩
    · cases hg
    · simp [Value.ownBlock] at hg; subst hg; exact ⟨cur, hh⟩
  have hg : ∀ g ∈ vg.ownBlock.toList, ∃ cur, w.heap[g]? = some (.cells cur 107 (0, 0)) := by
    intro g hg
    rcases h.gos.2 with ⟨rfl, _⟩ | ⟨x, cap, cur, rfl, _, hh, _⟩
    · cases hg
    · simp [Value.ownBlock] at hg; subst hg; exact ⟨cur, hh⟩
  refine ⟨fun e => ?_, fun e => ?_, fun e => ?_, fun e => ?_, fun e => ?_, fun x e f => ?_⟩
  · subst e; rw [hb] at hm; cases hm
  · obtain ⟨c, hc⟩ := hl _ e; rw [hb] at hc; simp at hc
  · obtain ⟨c, hc⟩ := hg _ e; rw [hb] at hc; simp at hc
  · obtain ⟨c, hc⟩ := hl _ e; rw [hm] at hc; simp at hc
  · obtain ⟨c, hc⟩ := hg _ e; rw [hm] at hc; simp at hc
  · obtain ⟨c, hc⟩ := hl _ e; obtain ⟨d, hd⟩ := hg _ f; rw [hc] at hd; simp at hd

theorem CodeIn.chg {base n : Nat} {w w' : World} {b : Nat} {s : St} {vl : Value} {mb : Nat} {vg : Value} (h : CodeIn base n w b s vl mb vg) (k : Chg [] w w') : CodeIn base n w' b s vl mb vg :=
  ⟨k.blk h.blk (by simp), ownsRow_chg h.row k (by simp), ownsMap_chg h.map k (by simp), ownsRow_chg h.gos k (by simp), h.bb, h.bm, h.ln, h.ok⟩
theorem CodeAt.chg {base n : Nat} {w w' : World} {b : Nat} {s : St} (h : CodeAt base n w b s) (k : Chg [] w w') : CodeAt base n w' b s := by
  obtain ⟨vl, mb, vg, h⟩ := h; exact ⟨vl, mb, vg, h.chg k⟩
theorem CodeAt.lt {base n : Nat} {w : World} {b : Nat} {s : St} (h : CodeAt base n w b s) : b < w.heap.size := by
  obtain ⟨vl, mb, vg, h⟩ := h; exact h.blk.lt
theorem CodeAt.ge {base n : Nat} {w : World} {b : Nat} {s : St} (h : CodeAt base n w b s) : base ≤ b := by
  obtain ⟨vl, mb, vg, h⟩ := h; exact h.bb

def CPost (base n : Nat) (w : World) (b : Nat) (s : St) (e : Ending) (w' : World) : Prop := e = .returned (.tuple #[]) ∧ CodeAt base n w' b s ∧ Kp base w w'

def St.none : St := ⟨[], [], []⟩
def St.put (s : St) (i : Ins) : St := { s with list := s.list ++ [i] }
def St.go (s : St) (n : ByteArray) : St := { s with goes := s.goes ++ [((s.list.length : Int), n)] }
def St.here (s : St) (n : ByteArray) : St := { s with places := s.places ++ [(n, (s.list.length : Int))] }

def BeginPost (w : World) (e : Ending) (w' : World) : Prop := ∃ b, e = .returned (.pointer (some ⟨b, 0, none⟩)) ∧ CodeAt w.heap.size 0 w' b .none ∧ Chg [] w w'
theorem begin_any (w : World) : Calls Try.prog 39 #[] w (BeginPost w) := by
  have hmm := @run_makeMap Try.prog
  go_enter Try.func39, Try.ntmps39
  go_wp2_with fail
  go_ret
  refine ⟨_, rfl, ⟨.slice none 0 0, w.heap.size, .slice none 0 0, ⟨?_, ?_, ?_, ?_, by simp, Nat.le_refl _, by simp [St.none], by simp [St.none]⟩⟩, ((Chg.refl _ _).alloc _).alloc _⟩
  · have := Blk.new (w.alloc (.map #[] 0)) [.slice none 0 0, .map (some w.heap.size), .slice none 0 0] 102
    simpa using this
  · exact World.ownsRow_nil _ _ _ _
  · exact ownsMap_chg (World.ownsMap_made _ _ _ _) ((Chg.refl [] _).alloc _) (by simp)
  · exact World.ownsRow_nil _ _ _ _


/-- Behind an append onto the list. -/
theorem put_done {base n : Nat} {w w1 w6 : World} {b mb : Nat} {s : St} {i : Ins} {vl vg : Value} {g c : Nat} (h : CodeIn base n w b s vl mb vg) (hc : Chg [] w w1)
    (hown : w6.ownsRow base 25 5 (.slice (some ⟨g, 0, none⟩) (s.list.length + 1) c) (s.list.length + 1) (s.list.flatMap encI ++ encI i)) (hgr : w1.grownBy w6 vl.ownBlock) (hat : vl.ownBlock = some g ∨ g = w1.heap.size) :
    CodeAt base (n + 1) (w6.setCell ⟨b, 0, none⟩ (.slice (some ⟨g, 0, none⟩) (s.list.length + 1) c)) b (s.put i) ∧ Kp base w (w6.setCell ⟨b, 0, none⟩ (.slice (some ⟨g, 0, none⟩) (s.list.length + 1) c)) := by
  have h1 := h.chg hc
  obtain ⟨n1, n2, n3, n4, n5, n6⟩ := h1.ne
  have hG := Chg.of_grown hgr
  have hB6 := hG.blk h1.blk n2
  have hgb : g ≠ b := by
    rintro rfl
    rcases hat with e | e
    · exact n2 (by rw [e]; simp)
    · have := h1.blk.lt; omega
  have hgm : g ≠ mb := by
    rintro rfl
    rcases hat with e | e
    · exact n4 (by rw [e]; simp)
    · have := h1.map.lt; omega
  have hgv : ∀ x ∈ vg.ownBlock.toList, x ∉ vl.ownBlock.toList := fun x h h' => n6 x h' h
  have hset : Chg [b] w6 (w6.setCell ⟨b, 0, none⟩ (.slice (some ⟨g, 0, none⟩) (s.list.length + 1) c)) := (Chg.refl _ _).setCell (p := ⟨b, 0, none⟩) (by simp) _
  refine ⟨⟨_, mb, vg, hB6.set 0 _, ?_, ?_, ?_, h.bb, h.bm, ?_, ?_⟩, ?_⟩
  · have := ownsRow_chg hown hset (by simpa [Value.ownBlock] using hgb)
    simpa [St.put] using this
  · exact ownsMap_chg (ownsMap_chg h1.map hG n4) hset (by simpa using n1.symm)
  · exact ownsRow_chg (ownsRow_chg h1.gos hG hgv) hset (fun x hx => by simp; rintro rfl; exact n3 hx)
  · have := h.ln; simp [St.put]; omega
  · intro q hq
    have := h.ok q hq
    simp [St.put]; omega
  · exact (Kp.of_nil hc).trans ((Kp.grown h1.row rfl hgr).trans (Kp.set hB6 rfl h.bb 0 _))

set_option maxHeartbeats 1000000 in
theorem put_any (base n : Nat) (w : World) (b : Nat) (s : St) (i : Ins) (hn : n ≤ 5000) (h : CodeAt base n w b s) :
    Calls Try.prog 60 #[.pointer (some ⟨b, 0, none⟩), .agg #[.int .i64 i.op, .int .i64 i.a, .int .i64 i.b, .int .i64 i.c, .int .i64 i.imm]] w (CPost base (n + 1) w b (s.put i)) := by
  obtain ⟨vl, mb, vg, h⟩ := h
  obtain ⟨A, cap, rfl, hcap, hmax, _⟩ := ownsRow_cell h.row
  have k0 : w.cell? ⟨b, 0, none⟩ = some (.slice A s.list.length cap) := h.blk.cell 0
  have hbl := h.blk.lt
  have hll : s.list.length ≤ 5000 := Nat.le_trans h.ln.1 hn
  have H := Lib.hid h
  have hbs : base ≤ w.heap.size := Nat.le_trans h.bb (Nat.le_of_lt h.blk.lt)
  clear h
  obtain ⟨i0, hi, hz0, hz1, hz2⟩ := info_parts infoIns
  go_enter Try.func60, Try.ntmps60
  go_wp2_with fail
  go_region_law (refine step_append_lies _ (by rfl) (.tmp 8) (.tmp 10) 23 (by rfl) base 25 i0 (.agg #[.int .i64 0, .int .i64 0, .int .i64 0, .int .i64 0, .int .i64 0]) 5 40 Try.underlying23 hi hz0 hz1 hz2 rfl (by omega) (.slice A s.list.length cap) s.list.length (s.list.flatMap encI) (by rfl) (ownsRow_chg H.out.row ((((Chg.refl [] w).alloc _).drew).alloc _) (by simp)) ⟨w.heap.size + 1, 0, none⟩ 1 1 [.int .i64 i.op, .int .i64 i.a, .int .i64 i.b, .int .i64 i.c, .int .i64 i.imm] (by rfl) (by rfl) (cells_at (by simp) [.int .i64 i.op, .int .i64 i.a, .int .i64 i.b, .int .i64 i.c, .int .i64 i.imm] _) (by simp [Value.oneCell']) (by omega) (by unfold maxLen; omega) (by omega) (by simp; omega) (w.heap.size + 2) (by simp) ?_; intro g3 c3 w6 hown6 hgrow6 hat6 hlt6; have HB6 := Lib.hid ((Chg.of_grown hgrow6).blk (((((Chg.refl [] w).alloc _).drew).alloc _).blk H.out.blk (by simp)) H.out.ne.2.1); have HO6 := Lib.hid hown6; have HG6 := Lib.hid hgrow6; have HA6 := Lib.hid hat6; clear hown6 hgrow6 hat6; have k6 : w6.cell? ⟨b, 0, none⟩ = some (.slice A s.list.length cap) := HB6.out.cell 0; have f6 : w6.frozen? ⟨b, 0, none⟩ = false := HB6.out.free 0)
  all_goals
    go_end0
    exact ⟨rfl, put_done H.out ((((Chg.refl [] w).alloc _).drew).alloc _) HO6.out HG6.out (HA6.out.imp id (fun e => by rw [e]; simp))⟩

end Go.Proofs.Ythlhjahhjoclfaa
