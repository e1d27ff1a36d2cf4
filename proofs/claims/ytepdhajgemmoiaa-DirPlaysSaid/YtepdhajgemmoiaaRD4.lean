/- The reference's directory in memory; grant. -/
import Derived.Test.YtepdhajgemmoiaaRD3
import Derived.Deep.RegionHeld3
import Derived.Deep.RegionWith

namespace Go.Proofs.Ytepdhajgemmoiaa
set_option linter.unusedSimpArgs false
set_option linter.unusedVariables false
set_option maxRecDepth 100000
set_option linter.unusedSimpArgs false
set_option linter.unusedVariables false
open Go.RowKit

/-- A list that nobody writes to. -/
structure FzL {α : Type} (w : World) (N : List Nat) (A : Option Addr) (cap size : Nat) (enc : α → List Value) (l : List α) : Prop where
  rd : Rd w w.heap.size A size enc l
  le : l.length ≤ cap
  mx : cap ≤ maxLen
  nil : A = none → cap = 0
  lt : ∀ a, A = some a → a.block < w.heap.size
  out : ∀ a, A = some a → a.block ∉ N
theorem FzL.step {α : Type} {w w' : World} {N N' : List Nat} {A : Option Addr} {cap size : Nat} {enc : α → List Value} {l : List α} (h : FzL w N A cap size enc l) (k : Chg N w w') (hN : ∀ x ∈ N', x ∈ N ∨ w.heap.size ≤ x) : FzL w' N' A cap size enc l :=
  ⟨h.rd.chg k h.out, h.le, h.mx, h.nil, fun a e => Nat.lt_of_lt_of_le (h.lt a e) k.size, fun a e hm => (hN _ hm).elim (h.out a e) (fun hx => by have := h.lt a e; omega)⟩
theorem FzL.none {α : Type} (w : World) (N : List Nat) (size : Nat) (enc : α → List Value) : FzL w N none 0 size enc ([] : List α) := ⟨Rd.nil _ _ _ _ _, Nat.le_refl _, Nat.zero_le _, fun _ => rfl, fun _ e => (by cases e), fun _ e => (by cases e)⟩
theorem FzL.of_row {α : Type} {size : Nat} {enc : α → List Value} (he : ∀ x, (enc x).length = size) {w : World} {N : List Nat} {base : Nat} {v : Value} {l : List α} {t : TypeId} (h : w.ownsRow base t size v l.length (l.flatMap enc)) (hN : ∀ x ∈ v.ownBlock.toList, x ∉ N) : ∃ A cap, v = .slice A l.length cap ∧ FzL w N A cap size enc l := by
  obtain ⟨A, cap, rfl, h1, h2, h3, hR, hg⟩ := Rd.of_row he h
  exact ⟨A, cap, rfl, hR, h1, h2, h3, fun a e => (h.lt _ (hg a e)).2, fun a e => hN _ (by simp [hg a e])⟩
structure FzR (w : World) (N : List Nat) (x : RE) : Prop where
  sh : FzL w N x.shA x.shc 1 encN x.sh
  ak : FzL w N x.akA x.akc 1 encN x.ak
  wt : FzL w N x.wtA x.wtc 11 encM x.wl
theorem FzR.step {w w' : World} {N N' : List Nat} {x : RE} (h : FzR w N x) (k : Chg N w w') (hN : ∀ y ∈ N', y ∈ N ∨ w.heap.size ≤ y) : FzR w' N' x := ⟨h.sh.step k hN, h.ak.step k hN, h.wt.step k hN⟩

/-- The reference's directory: what may be written lies in N. -/
structure RDAt (w : World) (N : List Nat) (d bL bW n capL : Nat) (cores : Int) (ws : List Int) (rs : List RE) : Prop where
  blk : Blk w d [.slice (some ⟨bW, 0, none⟩) (8 * n) (8 * n), .int .i64 cores, .slice (some ⟨bL, 0, none⟩) n capL] 60
  words : Blk w bW (ws.map (Value.int .u64)) 29
  wlen : ws.length = 8 * n
  small : n ≤ 64
  ents : ∃ rest, Blk w bL (rs.flatMap encR ++ rest) 99
  len : rs.length = n
  fz : ∀ (i : Nat) (h : i < rs.length), FzR w N rs[i]
  inN : d ∈ N ∧ bL ∈ N ∧ bW ∈ N

section
variable {w w' : World} {N N' : List Nat} {d bL bW n capL : Nat} {cores : Int} {ws : List Int} {rs : List RE}
theorem RDAt.cell (h : RDAt w N d bL bW n capL cores ws rs) {i : Nat} (hi : i < rs.length) {j : Nat} (hj : j < 17) : w.cell? ⟨bL, i * 17 + j, none⟩ = (encR rs[i])[j]? := by
  obtain ⟨rest, hb⟩ := h.ents
  rw [hb.cell, List.getElem?_append_left (by rw [flat_len encR_len]; have : (i + 1) * 17 ≤ rs.length * 17 := Nat.mul_le_mul_right _ hi; rw [Nat.succ_mul] at this; omega), flat_get encR_len rs i hi j hj]
theorem RDAt.free (h : RDAt w N d bL bW n capL cores ws rs) (o : Nat) : w.frozen? ⟨bL, o, none⟩ = false := by obtain ⟨_, hb⟩ := h.ents; exact hb.free o
theorem RDAt.lt (h : RDAt w N d bL bW n capL cores ws rs) : d < w.heap.size ∧ bL < w.heap.size ∧ bW < w.heap.size := ⟨h.blk.lt, by obtain ⟨_, hb⟩ := h.ents; exact hb.lt, h.words.lt⟩
theorem RDAt.ne (h : RDAt w N d bL bW n capL cores ws rs) : d ≠ bL ∧ d ≠ bW ∧ bL ≠ bW := by
  obtain ⟨_, hb⟩ := h.ents
  exact ⟨h.blk.ne hb (by decide), h.blk.ne h.words (by decide), hb.ne h.words (by decide)⟩
theorem RDAt.mem (h : RDAt w N d bL bW n capL cores ws rs) : RfAt w d bW (8 * n) ws := ⟨⟨_, _, by decide, h.blk⟩, h.words, h.wlen, by have := h.small; omega⟩
/-- Others stepped. -/
theorem RDAt.look (h : RDAt w N d bL bW n capL cores ws rs) (k : Chg [] w w') : RDAt w' N d bL bW n capL cores ws rs :=
  ⟨k.blk h.blk (by simp), k.blk h.words (by simp), h.wlen, h.small, h.ents.imp fun _ b => k.blk b (by simp), h.len, fun i hi => (h.fz i hi).step (k.mono (by simp)) (fun x hx => .inl hx), h.inN⟩
/-- An entry's cell turned. -/
theorem RDAt.put (h : RDAt w N d bL bW n capL cores ws rs) {i : Nat} (hi : i < rs.length) {j : Nat} (hj : j < 17) {v : Value} {x : RE} (hE : (encR rs[i]).set j v = encR x) (hx : FzR w N x) :
    RDAt (w.setCell ⟨bL, i * 17 + j, none⟩ v) N d bL bW n capL cores ws (rs.set i x) ∧ Chg [bL] w (w.setCell ⟨bL, i * 17 + j, none⟩ v) := by
  have hk : Chg [bL] w (w.setCell ⟨bL, i * 17 + j, none⟩ v) := (Chg.refl [bL] w).setCell (p := ⟨bL, i * 17 + j, none⟩) (fun _ => List.mem_singleton.2 rfl) v
  have hkN : Chg N w (w.setCell ⟨bL, i * 17 + j, none⟩ v) := hk.mono (fun y hy => by rw [List.mem_singleton.1 hy]; exact h.inN.2.1)
  have hne := h.ne
  refine ⟨⟨hk.blk h.blk (by simpa using hne.1), hk.blk h.words (by simpa using Ne.symm hne.2.2), h.wlen, h.small, ?_, by rw [List.length_set]; exact h.len, fun q hq => ?_, h.inN⟩, hk⟩
  · obtain ⟨rest, hb⟩ := h.ents
    have hlt : i * 17 + j < (rs.flatMap encR).length := by rw [flat_len encR_len]; have : (i + 1) * 17 ≤ rs.length * 17 := Nat.mul_le_mul_right _ hi; rw [Nat.succ_mul] at this; omega
    have := hb.set (i * 17 + j) v
    rw [List.set_append_left _ _ hlt, flat_set encR_len rs i hi j hj v x hE] at this
    exact ⟨rest, this⟩
  · have hq' : q < rs.length := by simpa using hq
    rw [get_set]
    split
    · exact hx.step hkN (fun y hy => .inl hy)
    · exact (h.fz q hq').step hkN (fun y hy => .inl hy)
end

section
variable {w w' : World} {N N' T : List Nat} {d bL bW n capL : Nat} {cores : Int} {ws : List Int} {rs : List RE}
theorem FzL.less {α : Type} {A : Option Addr} {cap size : Nat} {enc : α → List Value} {l : List α} (h : FzL w N' A cap size enc l) (hs : ∀ y ∈ N, y ∈ N') : FzL w N A cap size enc l := ⟨h.rd, h.le, h.mx, h.nil, h.lt, fun a e hm => h.out a e (hs _ hm)⟩
theorem FzR.less {x : RE} (h : FzR w N' x) (hs : ∀ y ∈ N, y ∈ N') : FzR w N x := ⟨h.sh.less hs, h.ak.less hs, h.wt.less hs⟩
theorem RDAt.more (h : RDAt w N d bL bW n capL cores ws rs) (k : Chg [] w w') (hs : ∀ y ∈ N, y ∈ N') (hN : ∀ y ∈ N', y ∈ N ∨ w.heap.size ≤ y) : RDAt w' N' d bL bW n capL cores ws rs :=
  ⟨k.blk h.blk (by simp), k.blk h.words (by simp), h.wlen, h.small, h.ents.imp fun _ b => k.blk b (by simp), h.len, fun i hi => (h.fz i hi).step (k.mono (by simp)) hN, ⟨hs _ h.inN.1, hs _ h.inN.2.1, hs _ h.inN.2.2⟩⟩
theorem RDAt.less (h : RDAt w N' d bL bW n capL cores ws rs) (hs : ∀ y ∈ N, y ∈ N') (hi : d ∈ N ∧ bL ∈ N ∧ bW ∈ N) : RDAt w N d bL bW n capL cores ws rs :=
  ⟨h.blk, h.words, h.wlen, h.small, h.ents, h.len, fun i hi => (h.fz i hi).less hs, hi⟩
theorem RDAt.aside (h : RDAt w N d bL bW n capL cores ws rs) (k : Chg T w w') (hT : ∀ y ∈ T, y ∈ N ∧ y ≠ d ∧ y ≠ bL ∧ y ≠ bW) : RDAt w' N d bL bW n capL cores ws rs :=
  ⟨k.blk h.blk (fun hm => (hT _ hm).2.1 rfl), k.blk h.words (fun hm => (hT _ hm).2.2.2 rfl), h.wlen, h.small, h.ents.imp fun _ b => k.blk b (fun hm => (hT _ hm).2.2.1 rfl), h.len, fun i hi => (h.fz i hi).step (k.mono (fun y hy => (hT y hy).1)) (fun x hx => .inl hx), h.inN⟩
end

def grantR (x : RE) (A : Option Addr) (cap : Nat) : RE := if x.un.k = 1 then { x with ph := 4, shA := A, shc := cap, sh := withL x.sh x.un.c 4 } else { x with ph := 4, ow := x.un.c, shA := none, shc := 0, sh := [] }
def grantRM (x : RE) (i : Nat) (v : L8) : MsgV := ⟨if x.un.k = 1 then 14 else 15, x.un.c, (i : Int), v⟩

set_option maxHeartbeats 4000000 in
theorem rgrant_any (w : World) (N : List Nat) (d bL bW n capL : Nat) (cores : Int) (ws : List Int) (rs : List RE) (i : Nat) (hi : i < rs.length) (hN : ∀ x ∈ N, x < w.heap.size) (hsl : rs[i].sh.length ≤ 1000) (H : RDAt w N d bL bW n capL cores ws rs) :
    Calls Try.prog 42 #[.pointer (some ⟨d, 0, none⟩), .int .i64 (i : Int)] w fun e w' => ∃ A cap, e = .returned ((grantRM rs[i] i (lineV n ws (i : Int))).val) ∧ RDAt w' N d bL bW n capL cores ws (rs.set i (grantR rs[i] A cap)) ∧ Chg [bL] w w' := by
  have hlt := H.lt
  have hne := H.ne
  have hln := H.len
  have h64 := H.small
  obtain ⟨x, hx⟩ : ∃ x, rs[i] = x := ⟨_, rfl⟩
  rw [hx]
  have d2 : w.cell? ⟨d, 2, none⟩ = some (.slice (some ⟨bL, 0, none⟩) n capL) := H.blk.cell 2
  have hin : (i : Int) < n := by omega
  have hi0 : (0 : Int) ≤ i := Int.natCast_nonneg _
  have HX := Lib.hid hx; have HN := Lib.hid hN; have HH := Lib.hid H
  have hx9 := hx
  rw [hx] at hsl
  clear hN
  have e0 : w.cell? ⟨bL, i * 17, none⟩ = some (.int .i64 x.ow) := by have := H.cell hi (j := 0) (by decide); rw [hx9] at this; exact this
  have e1 : w.cell? ⟨bL, i * 17 + 1, none⟩ = some (.slice x.shA x.sh.length x.shc) := by have := H.cell hi (j := 1) (by decide); rw [hx9] at this; exact this
  have e2 : w.cell? ⟨bL, i * 17 + 2, none⟩ = some (.int .i64 x.un.k) := by have := H.cell hi (j := 2) (by decide); rw [hx9] at this; exact this
  have e3 : w.cell? ⟨bL, i * 17 + 3, none⟩ = some (.int .i64 x.un.c) := by have := H.cell hi (j := 3) (by decide); rw [hx9] at this; exact this
  have e4 : w.cell? ⟨bL, i * 17 + 4, none⟩ = some (.int .i64 x.un.l) := by have := H.cell hi (j := 4) (by decide); rw [hx9] at this; exact this
  have e5 : w.cell? ⟨bL, i * 17 + 5, none⟩ = some (.int .u64 x.un.d.x0) := by have := H.cell hi (j := 5) (by decide); rw [hx9] at this; exact this
  have e6 : w.cell? ⟨bL, i * 17 + 6, none⟩ = some (.int .u64 x.un.d.x1) := by have := H.cell hi (j := 6) (by decide); rw [hx9] at this; exact this
  have e7 : w.cell? ⟨bL, i * 17 + 7, none⟩ = some (.int .u64 x.un.d.x2) := by have := H.cell hi (j := 7) (by decide); rw [hx9] at this; exact this
  have e8 : w.cell? ⟨bL, i * 17 + 8, none⟩ = some (.int .u64 x.un.d.x3) := by have := H.cell hi (j := 8) (by decide); rw [hx9] at this; exact this
  have e9 : w.cell? ⟨bL, i * 17 + 9, none⟩ = some (.int .u64 x.un.d.x4) := by have := H.cell hi (j := 9) (by decide); rw [hx9] at this; exact this
  have e10 : w.cell? ⟨bL, i * 17 + 10, none⟩ = some (.int .u64 x.un.d.x5) := by have := H.cell hi (j := 10) (by decide); rw [hx9] at this; exact this
  have e11 : w.cell? ⟨bL, i * 17 + 11, none⟩ = some (.int .u64 x.un.d.x6) := by have := H.cell hi (j := 11) (by decide); rw [hx9] at this; exact this
  have e12 : w.cell? ⟨bL, i * 17 + 12, none⟩ = some (.int .u64 x.un.d.x7) := by have := H.cell hi (j := 12) (by decide); rw [hx9] at this; exact this
  have e13 : w.cell? ⟨bL, i * 17 + 13, none⟩ = some (.int .i64 x.ph) := by have := H.cell hi (j := 13) (by decide); rw [hx9] at this; exact this
  have hal : Chg [] w (w.alloc (.cells #[.int .i64 0, .int .i64 0, .int .i64 0, .int .u64 0, .int .u64 0, .int .u64 0, .int .u64 0, .int .u64 0, .int .u64 0, .int .u64 0, .int .u64 0] 33)) := (Chg.refl [] w).alloc _
  have hnp : n ≤ capL ∨ True := .inr trivial
  clear H hnp hx hx9
  obtain ⟨v, hv⟩ : ∃ v, lineV n ws (i : Int) = v := ⟨_, rfl⟩
  rw [hv]
  have HV := Lib.hid hv
  clear hv
  obtain ⟨v0, v1, v2, v3, v4, v5, v6, v7⟩ := v
  go_enter Try.func42, Try.ntmps42
  go_upto_region 2 with fail
  have hal2 := hal.alloc (.cells #[.int .i64 x.un.k, .int .i64 x.un.c, .int .i64 x.un.l, .int .u64 x.un.d.x0, .int .u64 x.un.d.x1, .int .u64 x.un.d.x2, .int .u64 x.un.d.x3, .int .u64 x.un.d.x4, .int .u64 x.un.d.x5, .int .u64 x.un.d.x6, .int .u64 x.un.d.x7] 33)
  have HB4 := Lib.hid ((Blk.new w [.int .i64 0, .int .i64 0, .int .i64 0, .int .u64 0, .int .u64 0, .int .u64 0, .int .u64 0, .int .u64 0, .int .u64 0, .int .u64 0, .int .u64 0] 33).alloc (.cells #[.int .i64 x.un.k, .int .i64 x.un.c, .int .i64 x.un.l, .int .u64 x.un.d.x0, .int .u64 x.un.d.x1, .int .u64 x.un.d.x2, .int .u64 x.un.d.x3, .int .u64 x.un.d.x4, .int .u64 x.un.d.x5, .int .u64 x.un.d.x6, .int .u64 x.un.d.x7] 33))
  have hB5 := Blk.new (w.alloc (.cells #[.int .i64 0, .int .i64 0, .int .i64 0, .int .u64 0, .int .u64 0, .int .u64 0, .int .u64 0, .int .u64 0, .int .u64 0, .int .u64 0, .int .u64 0] 33)) [.int .i64 x.un.k, .int .i64 x.un.c, .int .i64 x.un.l, .int .u64 x.un.d.x0, .int .u64 x.un.d.x1, .int .u64 x.un.d.x2, .int .u64 x.un.d.x3, .int .u64 x.un.d.x4, .int .u64 x.un.d.x5, .int .u64 x.un.d.x6, .int .u64 x.un.d.x7] 33
  rw [World.size_alloc] at hB5
  have HB5 := Lib.hid hB5
  have HC2 := Lib.hid hal2
  have HL := Lib.hid (HH.out.more (N' := w.heap.size :: N) hal2 (fun y hy => List.mem_cons_of_mem _ hy) (fun y hy => (List.mem_cons.1 hy).elim (fun e => .inr (Nat.le_of_eq e.symm)) .inl))
  clear hal hal2 hB5 e0 e1 e2 e3 e4 e5 e6 e7 e8 e9 e10 e11 e12 e13 d2
  generalize World.alloc (World.alloc _ _) _ = w2 at *
  obtain ⟨b4, hb4⟩ : ∃ x, w.heap.size = x := ⟨_, rfl⟩
  rw [hb4] at HB4 HB5 hlt HL ⊢
  have HNb := Lib.hid hb4
  clear hb4
  obtain ⟨b5, hb5⟩ : ∃ x, b4 + 1 = x := ⟨_, rfl⟩
  have HNb5 := Lib.hid hb5
  rw [hb5] at HB5 ⊢
  clear hb5
  have HLn := Lib.hid (rfLine_any w2 d bW n ws (i : Int) HL.out.mem)
  go_wp2_with fail
  refine HLn.out.mono ?_
  rintro e w3 ⟨rfl, hk3⟩
  rw [u64s_line, HV.out]
  unfold L8.val
  have HL3 := Lib.hid (HL.out.look hk3)
  have HC3 := Lib.hid (HC2.out.trans hk3)
  replace HB4 := Lib.hid (hk3.blk HB4.out (by simp)); replace HB5 := Lib.hid (hk3.blk HB5.out (by simp))
  clear hk3 HL HC2 HLn
  go_upto_region 3 with fail
  have hal4 := (Chg.refl [] w3).alloc (.cells #[.int .u64 v0, .int .u64 v1, .int .u64 v2, .int .u64 v3, .int .u64 v4, .int .u64 v5, .int .u64 v6, .int .u64 v7] 31)
  have HB6 := Lib.hid (Blk.new w3 [.int .u64 v0, .int .u64 v1, .int .u64 v2, .int .u64 v3, .int .u64 v4, .int .u64 v5, .int .u64 v6, .int .u64 v7] 31)
  have HL4 := Lib.hid (HL3.out.look hal4)
  have HC4 := Lib.hid (HC3.out.trans hal4)
  have hs36 : b5 < w3.heap.size := HB5.out.lt
  have hs34 : b4 < w3.heap.size := HB4.out.lt
  replace HB4 := Lib.hid (hal4.blk HB4.out (by simp)); replace HB5 := Lib.hid (hal4.blk HB5.out (by simp))
  have hsw3 : w.heap.size ≤ w3.heap.size := HC3.out.size
  clear hal4 HL3 HC3
  generalize World.alloc _ _ = w4 at *
  obtain ⟨b6, hb6⟩ : ∃ q, w3.heap.size = q := ⟨_, rfl⟩
  rw [hb6] at HB6 hs36 hs34 hsw3 ⊢
  clear hb6
  have hb45 : b4 < b5 := by have := HNb5.out; omega
  have n4 : b4 ≠ bL := by omega
  have n5 : b5 ≠ bL := by omega
  have n6 : b6 ≠ bL := by have := HNb.out; omega
  have d2 : w4.cell? ⟨d, 2, none⟩ = some (.slice (some ⟨bL, 0, none⟩) n capL) := HL4.out.blk.cell 2
  have dlt : d < w4.heap.size := HL4.out.lt.1
  have llt : bL < w4.heap.size := HL4.out.lt.2.1
  have e13 : w4.cell? ⟨bL, i * 17 + 13, none⟩ = some (.int .i64 x.ph) := by have := HL4.out.cell hi (j := 13) (by decide); rw [HX.out] at this; exact this
  have f13 : w4.frozen? ⟨bL, i * 17 + 13, none⟩ = false := HL4.out.free _
  go_upto_region 4 with fail
  have hFx : FzR w4 (b4 :: N) x := by have := HL4.out.fz i hi; rw [HX.out] at this; exact this
  have hp := HL4.out.put hi (j := 13) (by decide) (v := .int .i64 4) (x := { x with ph := 4 }) (by rw [HX.out]; rfl) ⟨hFx.sh, hFx.ak, hFx.wt⟩
  have HL5 := Lib.hid hp.1
  have HC5 := Lib.hid ((HC4.out.mono (T := [bL]) (by simp)).trans hp.2)
  replace HB4 := Lib.hid (HB4.out.other (a := ⟨bL, i * 17 + 13, none⟩) (Ne.symm n4) (.int .i64 4)); replace HB5 := Lib.hid (HB5.out.other (a := ⟨bL, i * 17 + 13, none⟩) (Ne.symm n5) (.int .i64 4)); replace HB6 := Lib.hid (HB6.out.other (a := ⟨bL, i * 17 + 13, none⟩) (Ne.symm n6) (.int .i64 4))
  clear hp hFx d2 dlt llt e13 f13 HL4 HC4
  generalize World.setCell _ _ _ = w5 at *
  have hi5 : i < (rs.set i { x with ph := 4 }).length := by rw [List.length_set]; exact hi
  have hx5 : (rs.set i { x with ph := 4 })[i] = { x with ph := 4 } := List.getElem_set_self _
  have d2 : w5.cell? ⟨d, 2, none⟩ = some (.slice (some ⟨bL, 0, none⟩) n capL) := HL5.out.blk.cell 2
  have dlt : d < w5.heap.size := HL5.out.lt.1
  have llt : bL < w5.heap.size := HL5.out.lt.2.1
  have k0 : w5.cell? ⟨b5, 0, none⟩ = some (.int .i64 x.un.k) := HB5.out.cell 0
  have k1 : w5.cell? ⟨b5, 1, none⟩ = some (.int .i64 x.un.c) := HB5.out.cell 1
  have klt : b5 < w5.heap.size := HB5.out.lt
  by_cases hk : x.un.k = 1
  · have hkb : (x.un.k == 1) = true := by simpa using hk
    have HK := Lib.hid hk
    have hFx : FzR w5 (b4 :: N) { x with ph := 4 } := by have := HL5.out.fz i hi5; rw [hx5] at this; exact this
    have HWi := Lib.hid (fun W (k : Chg [] w5 W) => with_any W x.shA x.shc x.sh x.un.c hsl (hFx.sh.rd.chg0 k))
    have HFx := Lib.hid hFx
    clear hFx
    have e1 : w5.cell? ⟨bL, i * 17 + 1, none⟩ = some (.slice x.shA x.sh.length x.shc) := by have := HL5.out.cell hi5 (j := 1) (by decide); rw [hx5] at this; exact this
    have f1 : w5.frozen? ⟨bL, i * 17 + 1, none⟩ = false := HL5.out.free _
    have HN2 : Hid (∀ y ∈ (b4 :: N), y < w5.heap.size) := Lib.hid (fun y hy => (List.mem_cons.1 hy).elim (fun e => by rw [e]; exact HB4.out.lt) (fun h => Nat.lt_of_lt_of_le (HN.out y h) HC5.out.size))
    go_wp2_with fail
    clear hk hkb k0
    go_region_with (go_at_call 43; refine (HWi.out w5.drew ((Chg.refl [] w5).drew)).mono ?_; rintro e w6 ⟨v6, rfl, ho6, hk6⟩; have hk6b : Chg [] w5 w6 := ((Chg.refl [] w5).drew).trans hk6; rw [← flat_encN] at ho6; obtain ⟨A6, c6, hv6, hz6⟩ := FzL.of_row (N := b4 :: N) encN_len ho6 (fun y hy hm => absurd (show w5.heap.size ≤ y from (ho6.lt y (by simpa using hy)).1) (Nat.not_le.2 (HN2.out y hm))); subst hv6; have HZ6 := Lib.hid hz6; have HK6 := Lib.hid hk6b; clear ho6 hk6 hz6 hk6b; have q1 : w6.cell? ⟨bL, i * 17 + 1, none⟩ = some (.slice x.shA x.sh.length x.shc) := (HK6.out.cell0 llt _).trans e1; have g1 : w6.frozen? ⟨bL, i * 17 + 1, none⟩ = false := (HL5.out.look HK6.out).free _; have q2 : w6.cell? ⟨d, 2, none⟩ = some (.slice (some ⟨bL, 0, none⟩) n capL) := (HK6.out.cell0 dlt _).trans d2; have qlt : bL < w6.heap.size := Nat.lt_of_lt_of_le llt HK6.out.size; have qlt2 : d < w6.heap.size := Nat.lt_of_lt_of_le dlt HK6.out.size)
    all_goals (
      have HL6 := Lib.hid (HL5.out.look HK6.out)
      have hF6 : FzR w6 (b4 :: N) { x with ph := 4 } := HFx.out.step (HK6.out.mono (by simp)) (fun y hy => .inl hy)
      have hp := HL6.out.put hi5 (j := 1) (by decide) (v := .slice A6 (withL x.sh x.un.c 4).length c6) (x := { x with ph := 4, shA := A6, shc := c6, sh := withL x.sh x.un.c 4 }) (by rw [hx5]; rfl) ⟨HZ6.out, hF6.ak, hF6.wt⟩
      rw [List.set_set] at hp
      have HLz := Lib.hid hp.1; have HCz := Lib.hid ((HC5.out.trans (HK6.out.mono (by simp))).trans hp.2)
      replace HB4 := Lib.hid ((HK6.out.blk HB4.out (by simp)).other (a := ⟨bL, i * 17 + 1, none⟩) (Ne.symm n4) (.slice A6 (withL x.sh x.un.c 4).length c6)); replace HB5 := Lib.hid ((HK6.out.blk HB5.out (by simp)).other (a := ⟨bL, i * 17 + 1, none⟩) (Ne.symm n5) (.slice A6 (withL x.sh x.un.c 4).length c6)); replace HB6 := Lib.hid ((HK6.out.blk HB6.out (by simp)).other (a := ⟨bL, i * 17 + 1, none⟩) (Ne.symm n6) (.slice A6 (withL x.sh x.un.c 4).length c6))
      clear hp hF6 HFx HL6 HL5 HC5 HK6 HZ6 HWi HN2 q1 g1 q2 qlt qlt2 e1 f1 d2 dlt llt k1 klt hi5 hx5
      generalize World.setCell _ _ _ = w7 at *
      have y0 : w7.cell? ⟨b4, 0, none⟩ = some (.int .i64 0) := HB4.out.cell 0
      have z0 : w7.frozen? ⟨b4, 0, none⟩ = false := HB4.out.free 0
      have y1 : w7.cell? ⟨b4, 1, none⟩ = some (.int .i64 0) := HB4.out.cell 1
      have z1 : w7.frozen? ⟨b4, 1, none⟩ = false := HB4.out.free 1
      have y2 : w7.cell? ⟨b4, 2, none⟩ = some (.int .i64 0) := HB4.out.cell 2
      have z2 : w7.frozen? ⟨b4, 2, none⟩ = false := HB4.out.free 2
      have y3 : w7.cell? ⟨b4, 3, none⟩ = some (.int .u64 0) := HB4.out.cell 3
      have z3 : w7.frozen? ⟨b4, 3, none⟩ = false := HB4.out.free 3
      have y4 : w7.cell? ⟨b4, 4, none⟩ = some (.int .u64 0) := HB4.out.cell 4
      have z4 : w7.frozen? ⟨b4, 4, none⟩ = false := HB4.out.free 4
      have y5 : w7.cell? ⟨b4, 5, none⟩ = some (.int .u64 0) := HB4.out.cell 5
      have z5 : w7.frozen? ⟨b4, 5, none⟩ = false := HB4.out.free 5
      have y6 : w7.cell? ⟨b4, 6, none⟩ = some (.int .u64 0) := HB4.out.cell 6
      have z6 : w7.frozen? ⟨b4, 6, none⟩ = false := HB4.out.free 6
      have y7 : w7.cell? ⟨b4, 7, none⟩ = some (.int .u64 0) := HB4.out.cell 7
      have z7 : w7.frozen? ⟨b4, 7, none⟩ = false := HB4.out.free 7
      have y8 : w7.cell? ⟨b4, 8, none⟩ = some (.int .u64 0) := HB4.out.cell 8
      have z8 : w7.frozen? ⟨b4, 8, none⟩ = false := HB4.out.free 8
      have y9 : w7.cell? ⟨b4, 9, none⟩ = some (.int .u64 0) := HB4.out.cell 9
      have z9 : w7.frozen? ⟨b4, 9, none⟩ = false := HB4.out.free 9
      have y10 : w7.cell? ⟨b4, 10, none⟩ = some (.int .u64 0) := HB4.out.cell 10
      have z10 : w7.frozen? ⟨b4, 10, none⟩ = false := HB4.out.free 10
      have u0 : w7.cell? ⟨b6, 0, none⟩ = some (.int .u64 v0) := HB6.out.cell 0
      have u1 : w7.cell? ⟨b6, 1, none⟩ = some (.int .u64 v1) := HB6.out.cell 1
      have u2 : w7.cell? ⟨b6, 2, none⟩ = some (.int .u64 v2) := HB6.out.cell 2
      have u3 : w7.cell? ⟨b6, 3, none⟩ = some (.int .u64 v3) := HB6.out.cell 3
      have u4 : w7.cell? ⟨b6, 4, none⟩ = some (.int .u64 v4) := HB6.out.cell 4
      have u5 : w7.cell? ⟨b6, 5, none⟩ = some (.int .u64 v5) := HB6.out.cell 5
      have u6 : w7.cell? ⟨b6, 6, none⟩ = some (.int .u64 v6) := HB6.out.cell 6
      have u7 : w7.cell? ⟨b6, 7, none⟩ = some (.int .u64 v7) := HB6.out.cell 7
      have b4lt : b4 < w7.heap.size := HB4.out.lt; have b6lt : b6 < w7.heap.size := HB6.out.lt; have k1 : w7.cell? ⟨b5, 1, none⟩ = some (.int .i64 x.un.c) := HB5.out.cell 1; have klt : b5 < w7.heap.size := HB5.out.lt; have n45 : b4 ≠ b5 := (by omega); have n46 : b4 ≠ b6 := (by omega)
      go_wp2_with fail
      have hB9 := (((((((((((HB4.out.set 0 (.int .i64 14)).set 1 (.int .i64 x.un.c)).set 2 (.int .i64 (i : Int))).set 3 (.int .u64 v0)).set 4 (.int .u64 v1)).set 5 (.int .u64 v2)).set 6 (.int .u64 v3)).set 7 (.int .u64 v4)).set 8 (.int .u64 v5)).set 9 (.int .u64 v6)).set 10 (.int .u64 v7))
      have hK9 := ((((((((((((Chg.refl [b4] w7).setCell (p := ⟨b4, 0, none⟩) (fun _ => List.mem_singleton.2 rfl) (.int .i64 14)).setCell (p := ⟨b4, 1, none⟩) (fun _ => List.mem_singleton.2 rfl) (.int .i64 x.un.c)).setCell (p := ⟨b4, 2, none⟩) (fun _ => List.mem_singleton.2 rfl) (.int .i64 (i : Int))).setCell (p := ⟨b4, 3, none⟩) (fun _ => List.mem_singleton.2 rfl) (.int .u64 v0)).setCell (p := ⟨b4, 4, none⟩) (fun _ => List.mem_singleton.2 rfl) (.int .u64 v1)).setCell (p := ⟨b4, 5, none⟩) (fun _ => List.mem_singleton.2 rfl) (.int .u64 v2)).setCell (p := ⟨b4, 6, none⟩) (fun _ => List.mem_singleton.2 rfl) (.int .u64 v3)).setCell (p := ⟨b4, 7, none⟩) (fun _ => List.mem_singleton.2 rfl) (.int .u64 v4)).setCell (p := ⟨b4, 8, none⟩) (fun _ => List.mem_singleton.2 rfl) (.int .u64 v5)).setCell (p := ⟨b4, 9, none⟩) (fun _ => List.mem_singleton.2 rfl) (.int .u64 v6)).setCell (p := ⟨b4, 10, none⟩) (fun _ => List.mem_singleton.2 rfl) (.int .u64 v7))
      have hL9 := HLz.out.aside hK9 (fun y hy => by rw [List.mem_singleton.1 hy]; exact ⟨List.mem_cons_self, by omega, by omega, by omega⟩)
      have HL9 := Lib.hid (hL9.less (N := N) (fun y hy => List.mem_cons_of_mem _ hy) HH.out.inN)
      have HC9 := Lib.hid (HCz.out.trans' hK9 (fun y hy hlt => by rw [List.mem_singleton.1 hy] at hlt; have := HNb.out; omega))
      have HB9 := Lib.hid hB9
      clear hB9 hK9 hL9 HLz HCz HB4 HB5 HB6 b4lt b6lt k1 klt y0 z0 y1 z1 y2 z2 y3 z3 y4 z4 y5 z5 y6 z6 y7 z7 y8 z8 y9 z9 y10 z10 u0 u1 u2 u3 u4 u5 u6 u7
      generalize World.setCell _ _ _ = w9 at *
      have r0 : w9.cell? ⟨b4, 0, none⟩ = some (.int .i64 14) := HB9.out.cell 0; have r1 : w9.cell? ⟨b4, 1, none⟩ = some (.int .i64 x.un.c) := HB9.out.cell 1; have r2 : w9.cell? ⟨b4, 2, none⟩ = some (.int .i64 (i : Int)) := HB9.out.cell 2; have r3 : w9.cell? ⟨b4, 3, none⟩ = some (.int .u64 v0) := HB9.out.cell 3; have r4 : w9.cell? ⟨b4, 4, none⟩ = some (.int .u64 v1) := HB9.out.cell 4; have r5 : w9.cell? ⟨b4, 5, none⟩ = some (.int .u64 v2) := HB9.out.cell 5; have r6 : w9.cell? ⟨b4, 6, none⟩ = some (.int .u64 v3) := HB9.out.cell 6; have r7 : w9.cell? ⟨b4, 7, none⟩ = some (.int .u64 v4) := HB9.out.cell 7; have r8 : w9.cell? ⟨b4, 8, none⟩ = some (.int .u64 v5) := HB9.out.cell 8; have r9 : w9.cell? ⟨b4, 9, none⟩ = some (.int .u64 v6) := HB9.out.cell 9; have r10 : w9.cell? ⟨b4, 10, none⟩ = some (.int .u64 v7) := HB9.out.cell 10
      refine bodyPost_ret (v := .agg #[.int .i64 14, .int .i64 x.un.c, .int .i64 (i : Int), .int .u64 v0, .int .u64 v1, .int .u64 v2, .int .u64 v3, .int .u64 v4, .int .u64 v5, .int .u64 v6, .int .u64 v7]) ?_ rfl ⟨A6, c6, ?_, ?_, HC9.out⟩
      (simp [results, Try.results42, go_sem, r0, r1, r2, r3, r4, r5, r6, r7, r8, r9, r10])
      (unfold grantRM; rw [if_pos HK.out]; rfl)
      (unfold grantR; rw [if_pos HK.out]; exact HL9.out))
  · have hkb : (x.un.k == 1) = false := by simpa using hk
    have HK := Lib.hid hk
    have e0 : w5.cell? ⟨bL, i * 17, none⟩ = some (.int .i64 x.ow) := by have := HL5.out.cell hi5 (j := 0) (by decide); rw [hx5] at this; exact this
    have f0 : w5.frozen? ⟨bL, i * 17, none⟩ = false := HL5.out.free _
    have hFx : FzR w5 (b4 :: N) { x with ph := 4 } := by have := HL5.out.fz i hi5; rw [hx5] at this; exact this
    have hp := HL5.out.put hi5 (j := 0) (by decide) (v := .int .i64 x.un.c) (x := { x with ph := 4, ow := x.un.c }) (by rw [hx5]; rfl) ⟨hFx.sh, hFx.ak, hFx.wt⟩
    rw [List.set_set, Nat.add_zero] at hp
    have hTd := hp.2.drew
    have hq1 : d ∉ [bL] := by simpa using hne.1
    have hq2 : b5 ∉ [bL] := by simpa using n5
    go_wp2_with fail
    go_region_held3 (fun w' => w'.cell? ⟨d, 2, none⟩ = some (.slice (some ⟨bL, 0, none⟩) n capL) ∧ w'.cell? ⟨b5, 1, none⟩ = some (.int .i64 x.un.c)) (first | with_reducible exact ⟨d2, k1⟩ | with_reducible exact ⟨(hTd.cell dlt hq1 _).trans d2, (hTd.cell klt hq2 _).trans k1⟩ | go_keep) (fail)
    have HL6 := Lib.hid (hp.1.look ((Chg.refl [] _).drew))
    have HC6 := Lib.hid ((HC5.out.trans hp.2).drew)
    replace HB4 := Lib.hid ((HB4.out.other (a := ⟨bL, i * 17, none⟩) (Ne.symm n4) (.int .i64 x.un.c)).drew); replace HB5 := Lib.hid ((HB5.out.other (a := ⟨bL, i * 17, none⟩) (Ne.symm n5) (.int .i64 x.un.c)).drew); replace HB6 := Lib.hid ((HB6.out.other (a := ⟨bL, i * 17, none⟩) (Ne.symm n6) (.int .i64 x.un.c)).drew)
    clear hp hTd hFx e0 f0 d2 k0 k1 klt dlt llt hq1 hq2 HL5 HC5 hi5 hx5
    skip
    generalize World.drew _ = w6 at *
    have hi6 : i < (rs.set i { x with ph := 4, ow := x.un.c }).length := by rw [List.length_set]; exact hi
    have hx6 : (rs.set i { x with ph := 4, ow := x.un.c })[i] = { x with ph := 4, ow := x.un.c } := List.getElem_set_self _
    have d2 : w6.cell? ⟨d, 2, none⟩ = some (.slice (some ⟨bL, 0, none⟩) n capL) := HL6.out.blk.cell 2
    have dlt : d < w6.heap.size := HL6.out.lt.1; have llt : bL < w6.heap.size := HL6.out.lt.2.1
    have e1 : w6.cell? ⟨bL, i * 17 + 1, none⟩ = some (.slice x.shA x.sh.length x.shc) := by have := HL6.out.cell hi6 (j := 1) (by decide); rw [hx6] at this; exact this
    have f1 : w6.frozen? ⟨bL, i * 17 + 1, none⟩ = false := HL6.out.free _
    have hFx : FzR w6 (b4 :: N) { x with ph := 4, ow := x.un.c } := by have := HL6.out.fz i hi6; rw [hx6] at this; exact this
    go_upto_region 9 with fail
    have hp := HL6.out.put hi6 (j := 1) (by decide) (v := .slice none 0 0) (x := { x with ph := 4, ow := x.un.c, shA := none, shc := 0, sh := [] }) (by rw [hx6]; rfl) ⟨FzL.none _ _ _ _, hFx.ak, hFx.wt⟩
    rw [List.set_set] at hp
    have HLz := Lib.hid hp.1; have HCz := Lib.hid (HC6.out.trans hp.2)
    replace HB4 := Lib.hid (HB4.out.other (a := ⟨bL, i * 17 + 1, none⟩) (Ne.symm n4) (.slice none 0 0)); replace HB5 := Lib.hid (HB5.out.other (a := ⟨bL, i * 17 + 1, none⟩) (Ne.symm n5) (.slice none 0 0)); replace HB6 := Lib.hid (HB6.out.other (a := ⟨bL, i * 17 + 1, none⟩) (Ne.symm n6) (.slice none 0 0))
    clear hp hFx d2 dlt llt e1 f1 HL6 HC6 hi6 hx6
    generalize World.setCell _ _ _ = w7 at *
    have y0 : w7.cell? ⟨b4, 0, none⟩ = some (.int .i64 0) := HB4.out.cell 0
    have z0 : w7.frozen? ⟨b4, 0, none⟩ = false := HB4.out.free 0
    have y1 : w7.cell? ⟨b4, 1, none⟩ = some (.int .i64 0) := HB4.out.cell 1
    have z1 : w7.frozen? ⟨b4, 1, none⟩ = false := HB4.out.free 1
    have y2 : w7.cell? ⟨b4, 2, none⟩ = some (.int .i64 0) := HB4.out.cell 2
    have z2 : w7.frozen? ⟨b4, 2, none⟩ = false := HB4.out.free 2
    have y3 : w7.cell? ⟨b4, 3, none⟩ = some (.int .u64 0) := HB4.out.cell 3
    have z3 : w7.frozen? ⟨b4, 3, none⟩ = false := HB4.out.free 3
    have y4 : w7.cell? ⟨b4, 4, none⟩ = some (.int .u64 0) := HB4.out.cell 4
    have z4 : w7.frozen? ⟨b4, 4, none⟩ = false := HB4.out.free 4
    have y5 : w7.cell? ⟨b4, 5, none⟩ = some (.int .u64 0) := HB4.out.cell 5
    have z5 : w7.frozen? ⟨b4, 5, none⟩ = false := HB4.out.free 5
    have y6 : w7.cell? ⟨b4, 6, none⟩ = some (.int .u64 0) := HB4.out.cell 6
    have z6 : w7.frozen? ⟨b4, 6, none⟩ = false := HB4.out.free 6
    have y7 : w7.cell? ⟨b4, 7, none⟩ = some (.int .u64 0) := HB4.out.cell 7
    have z7 : w7.frozen? ⟨b4, 7, none⟩ = false := HB4.out.free 7
    have y8 : w7.cell? ⟨b4, 8, none⟩ = some (.int .u64 0) := HB4.out.cell 8
    have z8 : w7.frozen? ⟨b4, 8, none⟩ = false := HB4.out.free 8
    have y9 : w7.cell? ⟨b4, 9, none⟩ = some (.int .u64 0) := HB4.out.cell 9
    have z9 : w7.frozen? ⟨b4, 9, none⟩ = false := HB4.out.free 9
    have y10 : w7.cell? ⟨b4, 10, none⟩ = some (.int .u64 0) := HB4.out.cell 10
    have z10 : w7.frozen? ⟨b4, 10, none⟩ = false := HB4.out.free 10
    have u0 : w7.cell? ⟨b6, 0, none⟩ = some (.int .u64 v0) := HB6.out.cell 0
    have u1 : w7.cell? ⟨b6, 1, none⟩ = some (.int .u64 v1) := HB6.out.cell 1
    have u2 : w7.cell? ⟨b6, 2, none⟩ = some (.int .u64 v2) := HB6.out.cell 2
    have u3 : w7.cell? ⟨b6, 3, none⟩ = some (.int .u64 v3) := HB6.out.cell 3
    have u4 : w7.cell? ⟨b6, 4, none⟩ = some (.int .u64 v4) := HB6.out.cell 4
    have u5 : w7.cell? ⟨b6, 5, none⟩ = some (.int .u64 v5) := HB6.out.cell 5
    have u6 : w7.cell? ⟨b6, 6, none⟩ = some (.int .u64 v6) := HB6.out.cell 6
    have u7 : w7.cell? ⟨b6, 7, none⟩ = some (.int .u64 v7) := HB6.out.cell 7
    have b4lt : b4 < w7.heap.size := HB4.out.lt; have b6lt : b6 < w7.heap.size := HB6.out.lt; have k1 : w7.cell? ⟨b5, 1, none⟩ = some (.int .i64 x.un.c) := HB5.out.cell 1; have klt : b5 < w7.heap.size := HB5.out.lt; have n45 : b4 ≠ b5 := (by omega); have n46 : b4 ≠ b6 := (by omega)
    go_wp2_with fail
    have hB9 := (((((((((((HB4.out.set 0 (.int .i64 15)).set 1 (.int .i64 x.un.c)).set 2 (.int .i64 (i : Int))).set 3 (.int .u64 v0)).set 4 (.int .u64 v1)).set 5 (.int .u64 v2)).set 6 (.int .u64 v3)).set 7 (.int .u64 v4)).set 8 (.int .u64 v5)).set 9 (.int .u64 v6)).set 10 (.int .u64 v7))
    have hK9 := ((((((((((((Chg.refl [b4] w7).setCell (p := ⟨b4, 0, none⟩) (fun _ => List.mem_singleton.2 rfl) (.int .i64 15)).setCell (p := ⟨b4, 1, none⟩) (fun _ => List.mem_singleton.2 rfl) (.int .i64 x.un.c)).setCell (p := ⟨b4, 2, none⟩) (fun _ => List.mem_singleton.2 rfl) (.int .i64 (i : Int))).setCell (p := ⟨b4, 3, none⟩) (fun _ => List.mem_singleton.2 rfl) (.int .u64 v0)).setCell (p := ⟨b4, 4, none⟩) (fun _ => List.mem_singleton.2 rfl) (.int .u64 v1)).setCell (p := ⟨b4, 5, none⟩) (fun _ => List.mem_singleton.2 rfl) (.int .u64 v2)).setCell (p := ⟨b4, 6, none⟩) (fun _ => List.mem_singleton.2 rfl) (.int .u64 v3)).setCell (p := ⟨b4, 7, none⟩) (fun _ => List.mem_singleton.2 rfl) (.int .u64 v4)).setCell (p := ⟨b4, 8, none⟩) (fun _ => List.mem_singleton.2 rfl) (.int .u64 v5)).setCell (p := ⟨b4, 9, none⟩) (fun _ => List.mem_singleton.2 rfl) (.int .u64 v6)).setCell (p := ⟨b4, 10, none⟩) (fun _ => List.mem_singleton.2 rfl) (.int .u64 v7))
    have hL9 := HLz.out.aside hK9 (fun y hy => by rw [List.mem_singleton.1 hy]; exact ⟨List.mem_cons_self, by omega, by omega, by omega⟩)
    have HL9 := Lib.hid (hL9.less (N := N) (fun y hy => List.mem_cons_of_mem _ hy) HH.out.inN)
    have HC9 := Lib.hid (HCz.out.trans' hK9 (fun y hy hlt => by rw [List.mem_singleton.1 hy] at hlt; have := HNb.out; omega))
    have HB9 := Lib.hid hB9
    clear hB9 hK9 hL9 HLz HCz HB4 HB5 HB6 b4lt b6lt k1 klt y0 z0 y1 z1 y2 z2 y3 z3 y4 z4 y5 z5 y6 z6 y7 z7 y8 z8 y9 z9 y10 z10 u0 u1 u2 u3 u4 u5 u6 u7
    generalize World.setCell _ _ _ = w9 at *
    have r0 : w9.cell? ⟨b4, 0, none⟩ = some (.int .i64 15) := HB9.out.cell 0; have r1 : w9.cell? ⟨b4, 1, none⟩ = some (.int .i64 x.un.c) := HB9.out.cell 1; have r2 : w9.cell? ⟨b4, 2, none⟩ = some (.int .i64 (i : Int)) := HB9.out.cell 2; have r3 : w9.cell? ⟨b4, 3, none⟩ = some (.int .u64 v0) := HB9.out.cell 3; have r4 : w9.cell? ⟨b4, 4, none⟩ = some (.int .u64 v1) := HB9.out.cell 4; have r5 : w9.cell? ⟨b4, 5, none⟩ = some (.int .u64 v2) := HB9.out.cell 5; have r6 : w9.cell? ⟨b4, 6, none⟩ = some (.int .u64 v3) := HB9.out.cell 6; have r7 : w9.cell? ⟨b4, 7, none⟩ = some (.int .u64 v4) := HB9.out.cell 7; have r8 : w9.cell? ⟨b4, 8, none⟩ = some (.int .u64 v5) := HB9.out.cell 8; have r9 : w9.cell? ⟨b4, 9, none⟩ = some (.int .u64 v6) := HB9.out.cell 9; have r10 : w9.cell? ⟨b4, 10, none⟩ = some (.int .u64 v7) := HB9.out.cell 10
    refine bodyPost_ret (v := .agg #[.int .i64 15, .int .i64 x.un.c, .int .i64 (i : Int), .int .u64 v0, .int .u64 v1, .int .u64 v2, .int .u64 v3, .int .u64 v4, .int .u64 v5, .int .u64 v6, .int .u64 v7]) ?_ rfl ⟨none, 0, ?_, ?_, HC9.out⟩
    · simp [results, Try.results42, go_sem, r0, r1, r2, r3, r4, r5, r6, r7, r8, r9, r10]
    · unfold grantRM; rw [if_neg HK.out]; rfl
    · unfold grantR; rw [if_neg HK.out]; exact HL9.out
end Go.Proofs.Ytepdhajgemmoiaa
