/- The reference's directory: a request begins. -/
import Derived.Test.YtepdhajgemmoiaaRD4
import Derived.Test.YtepdhajgemmoiaaRD567
import Derived.Test.YtepdhajgemmoiaaBigA

namespace Go.Proofs.Ytepdhajgemmoiaa
set_option linter.unusedSimpArgs false
set_option linter.unusedVariables false
set_option maxRecDepth 100000
set_option linter.unusedSimpArgs false
set_option linter.unusedVariables false
open Go.RowKit

theorem load_E (ρ : Operand → Value) (dst : Option Tmp) (ty : TypeId) (pos : String) (af : Array Edge) (gd : Option (Tmp × Bool)) (x : Operand) (w : World) (h : bigOk w 17 (ρ x) = true) : (execOp ρ { dst := dst, op := .load 99 x, type := ty, pos := pos, after := af, guard := gd }).run Try.prog w = .ok (.value (.agg (bigVal w 17 (ρ x)).toArray)) w :=
  exec_load_big 99 17 (by kernel_rfl) (by kernel_rfl) ρ _ x rfl w h
theorem store_E (ρ : Operand → Value) (dst : Option Tmp) (ty : TypeId) (pos : String) (af : Array Edge) (gd : Option (Tmp × Bool)) (x y : Operand) (w : World) (h : bigFree w 17 (ρ x) (ρ y) = true) : (execOp ρ { dst := dst, op := .store 99 x y, type := ty, pos := pos, after := af, guard := gd }).run Try.prog w = .ok .skip (bigPut w (ρ x) (ρ y)) :=
  exec_store_big 99 17 (by kernel_rfl) ρ _ x y rfl w h
theorem bigOk_E (w : World) (b o : Nat) : bigOk w 17 (.pointer (some ⟨b, o, none⟩)) = ((w.cell? ⟨b, o, none⟩).isSome && (w.cell? ⟨b, o + 1, none⟩).isSome && (w.cell? ⟨b, o + 2, none⟩).isSome && (w.cell? ⟨b, o + 3, none⟩).isSome && (w.cell? ⟨b, o + 4, none⟩).isSome && (w.cell? ⟨b, o + 5, none⟩).isSome && (w.cell? ⟨b, o + 6, none⟩).isSome && (w.cell? ⟨b, o + 7, none⟩).isSome && (w.cell? ⟨b, o + 8, none⟩).isSome && (w.cell? ⟨b, o + 9, none⟩).isSome && (w.cell? ⟨b, o + 10, none⟩).isSome && (w.cell? ⟨b, o + 11, none⟩).isSome && (w.cell? ⟨b, o + 12, none⟩).isSome && (w.cell? ⟨b, o + 13, none⟩).isSome && (w.cell? ⟨b, o + 14, none⟩).isSome && (w.cell? ⟨b, o + 15, none⟩).isSome && (w.cell? ⟨b, o + 16, none⟩).isSome) := by simp [bigOk, List.range_succ, Bool.and_assoc]
theorem bigVal_E (w : World) (b o : Nat) : bigVal w 17 (.pointer (some ⟨b, o, none⟩)) = [(w.cell? ⟨b, o, none⟩).getD undef, (w.cell? ⟨b, o + 1, none⟩).getD undef, (w.cell? ⟨b, o + 2, none⟩).getD undef, (w.cell? ⟨b, o + 3, none⟩).getD undef, (w.cell? ⟨b, o + 4, none⟩).getD undef, (w.cell? ⟨b, o + 5, none⟩).getD undef, (w.cell? ⟨b, o + 6, none⟩).getD undef, (w.cell? ⟨b, o + 7, none⟩).getD undef, (w.cell? ⟨b, o + 8, none⟩).getD undef, (w.cell? ⟨b, o + 9, none⟩).getD undef, (w.cell? ⟨b, o + 10, none⟩).getD undef, (w.cell? ⟨b, o + 11, none⟩).getD undef, (w.cell? ⟨b, o + 12, none⟩).getD undef, (w.cell? ⟨b, o + 13, none⟩).getD undef, (w.cell? ⟨b, o + 14, none⟩).getD undef, (w.cell? ⟨b, o + 15, none⟩).getD undef, (w.cell? ⟨b, o + 16, none⟩).getD undef] := by simp [bigVal, List.range_succ]
theorem bigFree_E (w : World) (b o : Nat) (v0 v1 v2 v3 v4 v5 v6 v7 v8 v9 v10 v11 v12 v13 v14 v15 v16 : Value) : bigFree w 17 (.pointer (some ⟨b, o, none⟩)) (.agg #[v0, v1, v2, v3, v4, v5, v6, v7, v8, v9, v10, v11, v12, v13, v14, v15, v16]) = ((((w.cell? ⟨b, o, none⟩).isSome && !(w.frozen? ⟨b, o, none⟩)) && ((w.cell? ⟨b, o + 1, none⟩).isSome && !(w.frozen? ⟨b, o + 1, none⟩)) && ((w.cell? ⟨b, o + 2, none⟩).isSome && !(w.frozen? ⟨b, o + 2, none⟩)) && ((w.cell? ⟨b, o + 3, none⟩).isSome && !(w.frozen? ⟨b, o + 3, none⟩)) && ((w.cell? ⟨b, o + 4, none⟩).isSome && !(w.frozen? ⟨b, o + 4, none⟩)) && ((w.cell? ⟨b, o + 5, none⟩).isSome && !(w.frozen? ⟨b, o + 5, none⟩)) && ((w.cell? ⟨b, o + 6, none⟩).isSome && !(w.frozen? ⟨b, o + 6, none⟩)) && ((w.cell? ⟨b, o + 7, none⟩).isSome && !(w.frozen? ⟨b, o + 7, none⟩)) && ((w.cell? ⟨b, o + 8, none⟩).isSome && !(w.frozen? ⟨b, o + 8, none⟩)) && ((w.cell? ⟨b, o + 9, none⟩).isSome && !(w.frozen? ⟨b, o + 9, none⟩)) && ((w.cell? ⟨b, o + 10, none⟩).isSome && !(w.frozen? ⟨b, o + 10, none⟩)) && ((w.cell? ⟨b, o + 11, none⟩).isSome && !(w.frozen? ⟨b, o + 11, none⟩)) && ((w.cell? ⟨b, o + 12, none⟩).isSome && !(w.frozen? ⟨b, o + 12, none⟩)) && ((w.cell? ⟨b, o + 13, none⟩).isSome && !(w.frozen? ⟨b, o + 13, none⟩)) && ((w.cell? ⟨b, o + 14, none⟩).isSome && !(w.frozen? ⟨b, o + 14, none⟩)) && ((w.cell? ⟨b, o + 15, none⟩).isSome && !(w.frozen? ⟨b, o + 15, none⟩)) && ((w.cell? ⟨b, o + 16, none⟩).isSome && !(w.frozen? ⟨b, o + 16, none⟩))) && (v0.oneCell' && v1.oneCell' && v2.oneCell' && v3.oneCell' && v4.oneCell' && v5.oneCell' && v6.oneCell' && v7.oneCell' && v8.oneCell' && v9.oneCell' && v10.oneCell' && v11.oneCell' && v12.oneCell' && v13.oneCell' && v14.oneCell' && v15.oneCell' && v16.oneCell')) := by simp [bigFree, List.range_succ, Bool.and_assoc]
theorem bigPut_E (w : World) (b o : Nat) (v0 v1 v2 v3 v4 v5 v6 v7 v8 v9 v10 v11 v12 v13 v14 v15 v16 : Value) : bigPut w (.pointer (some ⟨b, o, none⟩)) (.agg #[v0, v1, v2, v3, v4, v5, v6, v7, v8, v9, v10, v11, v12, v13, v14, v15, v16]) = w.setCells b o [v0, v1, v2, v3, v4, v5, v6, v7, v8, v9, v10, v11, v12, v13, v14, v15, v16] := rfl
attribute [local go_sem ↓] load_E store_E
attribute [local go_sem] bigOk_E bigVal_E bigFree_E bigPut_E bigNew putAll_drew Value.oneCell'
theorem ownsRow_drew {w : World} {base : Nat} {t : TypeId} {size : Nat} {v : Value} {n : Nat} {xs : List Value} (h : w.ownsRow base t size v n xs) : w.drew.ownsRow base t size v n xs := h
theorem size_alloc_drew (w : World) (o : Obj) : w.heap.size ≤ (w.alloc o).drew.heap.size := (((Chg.refl [] w).alloc o).drew).size
theorem new_cells (w : World) (l : List Value) (t : TypeId) (j : Nat) (u : Value) (h : l[j]? = some u) : (w.alloc (.cells l.toArray t)).drew.cell? (Addr.add ⟨w.heap.size, 0, none⟩ j) = some u := by
  rw [Addr.add_mid, Nat.zero_add]
  exact ((Blk.new w l t).cell j).trans h
def RE.toV (x : RE) : RV := ⟨x.ow, x.sh, x.un, x.ph, x.ak, x.asked, x.wl⟩
theorem grantR_toV (x : RE) (A : Option Addr) (cap : Nat) : (grantR x A cap).toV = grantV x.toV := by
  unfold grantR grantV RE.toV; dsimp only; split <;> rfl
theorem grantRM_toV (x : RE) (i : Nat) (v : L8) : grantRM x i v = grantVM x.toV (i : Int) v := rfl
/-- What a method of the reference's directory leaves, when one entry turned. -/
def RPost (w : World) (N : List Nat) (d bL bW n capL : Nat) (cores : Int) (ws : List Int) (rs : List RE) (i : Nat) (x : RV) (out : List MsgV) (e : Ending) (w' : World) : Prop :=
  ∃ v x', e = .returned v ∧ x'.toV = x ∧ w'.ownsRow w.heap.size 33 11 v out.length (out.flatMap encM) ∧ RDAt w' N d bL bW n capL cores ws (rs.set i x') ∧ Chg [bL] w w'

section
variable {w w' : World} {N : List Nat} {d bL bW n capL : Nat} {cores : Int} {ws : List Int} {rs : List RE}
/-- The request under way, stored. -/
theorem RDAt.putM (h : RDAt w N d bL bW n capL cores ws rs) {i : Nat} (hi : i < rs.length) {x : RE} (hx : rs[i] = x) (m : MsgV) :
    RDAt (((((((((((w.setCell ⟨bL, i * 17 + 2, none⟩ (.int .i64 m.k)).setCell ⟨bL, i * 17 + 2 + 1, none⟩ (.int .i64 m.c)).setCell ⟨bL, i * 17 + 2 + 2, none⟩ (.int .i64 m.l)).setCell ⟨bL, i * 17 + 2 + 3, none⟩ (.int .u64 m.d.x0)).setCell ⟨bL, i * 17 + 2 + 4, none⟩ (.int .u64 m.d.x1)).setCell ⟨bL, i * 17 + 2 + 5, none⟩ (.int .u64 m.d.x2)).setCell ⟨bL, i * 17 + 2 + 6, none⟩ (.int .u64 m.d.x3)).setCell ⟨bL, i * 17 + 2 + 7, none⟩ (.int .u64 m.d.x4)).setCell ⟨bL, i * 17 + 2 + 8, none⟩ (.int .u64 m.d.x5)).setCell ⟨bL, i * 17 + 2 + 9, none⟩ (.int .u64 m.d.x6)).setCell ⟨bL, i * 17 + 2 + 10, none⟩ (.int .u64 m.d.x7)) N d bL bW n capL cores ws (rs.set i { x with un := m }) ∧ Chg [bL] w (((((((((((w.setCell ⟨bL, i * 17 + 2, none⟩ (.int .i64 m.k)).setCell ⟨bL, i * 17 + 2 + 1, none⟩ (.int .i64 m.c)).setCell ⟨bL, i * 17 + 2 + 2, none⟩ (.int .i64 m.l)).setCell ⟨bL, i * 17 + 2 + 3, none⟩ (.int .u64 m.d.x0)).setCell ⟨bL, i * 17 + 2 + 4, none⟩ (.int .u64 m.d.x1)).setCell ⟨bL, i * 17 + 2 + 5, none⟩ (.int .u64 m.d.x2)).setCell ⟨bL, i * 17 + 2 + 6, none⟩ (.int .u64 m.d.x3)).setCell ⟨bL, i * 17 + 2 + 7, none⟩ (.int .u64 m.d.x4)).setCell ⟨bL, i * 17 + 2 + 8, none⟩ (.int .u64 m.d.x5)).setCell ⟨bL, i * 17 + 2 + 9, none⟩ (.int .u64 m.d.x6)).setCell ⟨bL, i * 17 + 2 + 10, none⟩ (.int .u64 m.d.x7)) := by
  have hF := h.fz i hi
  rw [hx] at hF
  obtain ⟨ow, shA, shc, sh, ⟨k, c, l, ⟨x0, x1, x2, x3, x4, x5, x6, x7⟩⟩, ph, akA, akc, ak, asked, wtA, wtc, wl⟩ := x
  have p0 := h.put hi (j := 2) (by decide) (v := .int .i64 m.k) (x := ⟨ow, shA, shc, sh, ⟨m.k, c, l, ⟨x0, x1, x2, x3, x4, x5, x6, x7⟩⟩, ph, akA, akc, ak, asked, wtA, wtc, wl⟩) (by rw [hx]; rfl) ⟨hF.sh, hF.ak, hF.wt⟩
  have hi1 : i < (rs.set i ⟨ow, shA, shc, sh, ⟨m.k, c, l, ⟨x0, x1, x2, x3, x4, x5, x6, x7⟩⟩, ph, akA, akc, ak, asked, wtA, wtc, wl⟩).length := by rw [List.length_set]; exact hi
  have hx1 : (rs.set i ⟨ow, shA, shc, sh, ⟨m.k, c, l, ⟨x0, x1, x2, x3, x4, x5, x6, x7⟩⟩, ph, akA, akc, ak, asked, wtA, wtc, wl⟩)[i] = ⟨ow, shA, shc, sh, ⟨m.k, c, l, ⟨x0, x1, x2, x3, x4, x5, x6, x7⟩⟩, ph, akA, akc, ak, asked, wtA, wtc, wl⟩ := List.getElem_set_self _
  have hF1 := p0.1.fz i hi1
  rw [hx1] at hF1
  have p1 := p0.1.put hi1 (j := 3) (by decide) (v := .int .i64 m.c) (x := ⟨ow, shA, shc, sh, ⟨m.k, m.c, l, ⟨x0, x1, x2, x3, x4, x5, x6, x7⟩⟩, ph, akA, akc, ak, asked, wtA, wtc, wl⟩) (by rw [hx1]; rfl) ⟨hF1.sh, hF1.ak, hF1.wt⟩
  rw [List.set_set] at p1
  have hi2 : i < (rs.set i ⟨ow, shA, shc, sh, ⟨m.k, m.c, l, ⟨x0, x1, x2, x3, x4, x5, x6, x7⟩⟩, ph, akA, akc, ak, asked, wtA, wtc, wl⟩).length := by rw [List.length_set]; exact hi
  have hx2 : (rs.set i ⟨ow, shA, shc, sh, ⟨m.k, m.c, l, ⟨x0, x1, x2, x3, x4, x5, x6, x7⟩⟩, ph, akA, akc, ak, asked, wtA, wtc, wl⟩)[i] = ⟨ow, shA, shc, sh, ⟨m.k, m.c, l, ⟨x0, x1, x2, x3, x4, x5, x6, x7⟩⟩, ph, akA, akc, ak, asked, wtA, wtc, wl⟩ := List.getElem_set_self _
  have hF2 := p1.1.fz i hi2
  rw [hx2] at hF2
  have p2 := p1.1.put hi2 (j := 4) (by decide) (v := .int .i64 m.l) (x := ⟨ow, shA, shc, sh, ⟨m.k, m.c, m.l, ⟨x0, x1, x2, x3, x4, x5, x6, x7⟩⟩, ph, akA, akc, ak, asked, wtA, wtc, wl⟩) (by rw [hx2]; rfl) ⟨hF2.sh, hF2.ak, hF2.wt⟩
  rw [List.set_set] at p2
  have hi3 : i < (rs.set i ⟨ow, shA, shc, sh, ⟨m.k, m.c, m.l, ⟨x0, x1, x2, x3, x4, x5, x6, x7⟩⟩, ph, akA, akc, ak, asked, wtA, wtc, wl⟩).length := by rw [List.length_set]; exact hi
  have hx3 : (rs.set i ⟨ow, shA, shc, sh, ⟨m.k, m.c, m.l, ⟨x0, x1, x2, x3, x4, x5, x6, x7⟩⟩, ph, akA, akc, ak, asked, wtA, wtc, wl⟩)[i] = ⟨ow, shA, shc, sh, ⟨m.k, m.c, m.l, ⟨x0, x1, x2, x3, x4, x5, x6, x7⟩⟩, ph, akA, akc, ak, asked, wtA, wtc, wl⟩ := List.getElem_set_self _
  have hF3 := p2.1.fz i hi3
  rw [hx3] at hF3
  have p3 := p2.1.put hi3 (j := 5) (by decide) (v := .int .u64 m.d.x0) (x := ⟨ow, shA, shc, sh, ⟨m.k, m.c, m.l, ⟨m.d.x0, x1, x2, x3, x4, x5, x6, x7⟩⟩, ph, akA, akc, ak, asked, wtA, wtc, wl⟩) (by rw [hx3]; rfl) ⟨hF3.sh, hF3.ak, hF3.wt⟩
  rw [List.set_set] at p3
  have hi4 : i < (rs.set i ⟨ow, shA, shc, sh, ⟨m.k, m.c, m.l, ⟨m.d.x0, x1, x2, x3, x4, x5, x6, x7⟩⟩, ph, akA, akc, ak, asked, wtA, wtc, wl⟩).length := by rw [List.length_set]; exact hi
  have hx4 : (rs.set i ⟨ow, shA, shc, sh, ⟨m.k, m.c, m.l, ⟨m.d.x0, x1, x2, x3, x4, x5, x6, x7⟩⟩, ph, akA, akc, ak, asked, wtA, wtc, wl⟩)[i] = ⟨ow, shA, shc, sh, ⟨m.k, m.c, m.l, ⟨m.d.x0, x1, x2, x3, x4, x5, x6, x7⟩⟩, ph, akA, akc, ak, asked, wtA, wtc, wl⟩ := List.getElem_set_self _
  have hF4 := p3.1.fz i hi4
  rw [hx4] at hF4
  have p4 := p3.1.put hi4 (j := 6) (by decide) (v := .int .u64 m.d.x1) (x := ⟨ow, shA, shc, sh, ⟨m.k, m.c, m.l, ⟨m.d.x0, m.d.x1, x2, x3, x4, x5, x6, x7⟩⟩, ph, akA, akc, ak, asked, wtA, wtc, wl⟩) (by rw [hx4]; rfl) ⟨hF4.sh, hF4.ak, hF4.wt⟩
  rw [List.set_set] at p4
  have hi5 : i < (rs.set i ⟨ow, shA, shc, sh, ⟨m.k, m.c, m.l, ⟨m.d.x0, m.d.x1, x2, x3, x4, x5, x6, x7⟩⟩, ph, akA, akc, ak, asked, wtA, wtc, wl⟩).length := by rw [List.length_set]; exact hi
  have hx5 : (rs.set i ⟨ow, shA, shc, sh, ⟨m.k, m.c, m.l, ⟨m.d.x0, m.d.x1, x2, x3, x4, x5, x6, x7⟩⟩, ph, akA, akc, ak, asked, wtA, wtc, wl⟩)[i] = ⟨ow, shA, shc, sh, ⟨m.k, m.c, m.l, ⟨m.d.x0, m.d.x1, x2, x3, x4, x5, x6, x7⟩⟩, ph, akA, akc, ak, asked, wtA, wtc, wl⟩ := List.getElem_set_self _
  have hF5 := p4.1.fz i hi5
  rw [hx5] at hF5
  have p5 := p4.1.put hi5 (j := 7) (by decide) (v := .int .u64 m.d.x2) (x := ⟨ow, shA, shc, sh, ⟨m.k, m.c, m.l, ⟨m.d.x0, m.d.x1, m.d.x2, x3, x4, x5, x6, x7⟩⟩, ph, akA, akc, ak, asked, wtA, wtc, wl⟩) (by rw [hx5]; rfl) ⟨hF5.sh, hF5.ak, hF5.wt⟩
  rw [List.set_set] at p5
  have hi6 : i < (rs.set i ⟨ow, shA, shc, sh, ⟨m.k, m.c, m.l, ⟨m.d.x0, m.d.x1, m.d.x2, x3, x4, x5, x6, x7⟩⟩, ph, akA, akc, ak, asked, wtA, wtc, wl⟩).length := by rw [List.length_set]; exact hi
  have hx6 : (rs.set i ⟨ow, shA, shc, sh, ⟨m.k, m.c, m.l, ⟨m.d.x0, m.d.x1, m.d.x2, x3, x4, x5, x6, x7⟩⟩, ph, akA, akc, ak, asked, wtA, wtc, wl⟩)[i] = ⟨ow, shA, shc, sh, ⟨m.k, m.c, m.l, ⟨m.d.x0, m.d.x1, m.d.x2, x3, x4, x5, x6, x7⟩⟩, ph, akA, akc, ak, asked, wtA, wtc, wl⟩ := List.getElem_set_self _
  have hF6 := p5.1.fz i hi6
  rw [hx6] at hF6
  have p6 := p5.1.put hi6 (j := 8) (by decide) (v := .int .u64 m.d.x3) (x := ⟨ow, shA, shc, sh, ⟨m.k, m.c, m.l, ⟨m.d.x0, m.d.x1, m.d.x2, m.d.x3, x4, x5, x6, x7⟩⟩, ph, akA, akc, ak, asked, wtA, wtc, wl⟩) (by rw [hx6]; rfl) ⟨hF6.sh, hF6.ak, hF6.wt⟩
  rw [List.set_set] at p6
  have hi7 : i < (rs.set i ⟨ow, shA, shc, sh, ⟨m.k, m.c, m.l, ⟨m.d.x0, m.d.x1, m.d.x2, m.d.x3, x4, x5, x6, x7⟩⟩, ph, akA, akc, ak, asked, wtA, wtc, wl⟩).length := by rw [List.length_set]; exact hi
  have hx7 : (rs.set i ⟨ow, shA, shc, sh, ⟨m.k, m.c, m.l, ⟨m.d.x0, m.d.x1, m.d.x2, m.d.x3, x4, x5, x6, x7⟩⟩, ph, akA, akc, ak, asked, wtA, wtc, wl⟩)[i] = ⟨ow, shA, shc, sh, ⟨m.k, m.c, m.l, ⟨m.d.x0, m.d.x1, m.d.x2, m.d.x3, x4, x5, x6, x7⟩⟩, ph, akA, akc, ak, asked, wtA, wtc, wl⟩ := List.getElem_set_self _
  have hF7 := p6.1.fz i hi7
  rw [hx7] at hF7
  have p7 := p6.1.put hi7 (j := 9) (by decide) (v := .int .u64 m.d.x4) (x := ⟨ow, shA, shc, sh, ⟨m.k, m.c, m.l, ⟨m.d.x0, m.d.x1, m.d.x2, m.d.x3, m.d.x4, x5, x6, x7⟩⟩, ph, akA, akc, ak, asked, wtA, wtc, wl⟩) (by rw [hx7]; rfl) ⟨hF7.sh, hF7.ak, hF7.wt⟩
  rw [List.set_set] at p7
  have hi8 : i < (rs.set i ⟨ow, shA, shc, sh, ⟨m.k, m.c, m.l, ⟨m.d.x0, m.d.x1, m.d.x2, m.d.x3, m.d.x4, x5, x6, x7⟩⟩, ph, akA, akc, ak, asked, wtA, wtc, wl⟩).length := by rw [List.length_set]; exact hi
  have hx8 : (rs.set i ⟨ow, shA, shc, sh, ⟨m.k, m.c, m.l, ⟨m.d.x0, m.d.x1, m.d.x2, m.d.x3, m.d.x4, x5, x6, x7⟩⟩, ph, akA, akc, ak, asked, wtA, wtc, wl⟩)[i] = ⟨ow, shA, shc, sh, ⟨m.k, m.c, m.l, ⟨m.d.x0, m.d.x1, m.d.x2, m.d.x3, m.d.x4, x5, x6, x7⟩⟩, ph, akA, akc, ak, asked, wtA, wtc, wl⟩ := List.getElem_set_self _
  have hF8 := p7.1.fz i hi8
  rw [hx8] at hF8
  have p8 := p7.1.put hi8 (j := 10) (by decide) (v := .int .u64 m.d.x5) (x := ⟨ow, shA, shc, sh, ⟨m.k, m.c, m.l, ⟨m.d.x0, m.d.x1, m.d.x2, m.d.x3, m.d.x4, m.d.x5, x6, x7⟩⟩, ph, akA, akc, ak, asked, wtA, wtc, wl⟩) (by rw [hx8]; rfl) ⟨hF8.sh, hF8.ak, hF8.wt⟩
  rw [List.set_set] at p8
  have hi9 : i < (rs.set i ⟨ow, shA, shc, sh, ⟨m.k, m.c, m.l, ⟨m.d.x0, m.d.x1, m.d.x2, m.d.x3, m.d.x4, m.d.x5, x6, x7⟩⟩, ph, akA, akc, ak, asked, wtA, wtc, wl⟩).length := by rw [List.length_set]; exact hi
  have hx9 : (rs.set i ⟨ow, shA, shc, sh, ⟨m.k, m.c, m.l, ⟨m.d.x0, m.d.x1, m.d.x2, m.d.x3, m.d.x4, m.d.x5, x6, x7⟩⟩, ph, akA, akc, ak, asked, wtA, wtc, wl⟩)[i] = ⟨ow, shA, shc, sh, ⟨m.k, m.c, m.l, ⟨m.d.x0, m.d.x1, m.d.x2, m.d.x3, m.d.x4, m.d.x5, x6, x7⟩⟩, ph, akA, akc, ak, asked, wtA, wtc, wl⟩ := List.getElem_set_self _
  have hF9 := p8.1.fz i hi9
  rw [hx9] at hF9
  have p9 := p8.1.put hi9 (j := 11) (by decide) (v := .int .u64 m.d.x6) (x := ⟨ow, shA, shc, sh, ⟨m.k, m.c, m.l, ⟨m.d.x0, m.d.x1, m.d.x2, m.d.x3, m.d.x4, m.d.x5, m.d.x6, x7⟩⟩, ph, akA, akc, ak, asked, wtA, wtc, wl⟩) (by rw [hx9]; rfl) ⟨hF9.sh, hF9.ak, hF9.wt⟩
  rw [List.set_set] at p9
  have hi10 : i < (rs.set i ⟨ow, shA, shc, sh, ⟨m.k, m.c, m.l, ⟨m.d.x0, m.d.x1, m.d.x2, m.d.x3, m.d.x4, m.d.x5, m.d.x6, x7⟩⟩, ph, akA, akc, ak, asked, wtA, wtc, wl⟩).length := by rw [List.length_set]; exact hi
  have hx10 : (rs.set i ⟨ow, shA, shc, sh, ⟨m.k, m.c, m.l, ⟨m.d.x0, m.d.x1, m.d.x2, m.d.x3, m.d.x4, m.d.x5, m.d.x6, x7⟩⟩, ph, akA, akc, ak, asked, wtA, wtc, wl⟩)[i] = ⟨ow, shA, shc, sh, ⟨m.k, m.c, m.l, ⟨m.d.x0, m.d.x1, m.d.x2, m.d.x3, m.d.x4, m.d.x5, m.d.x6, x7⟩⟩, ph, akA, akc, ak, asked, wtA, wtc, wl⟩ := List.getElem_set_self _
  have hF10 := p9.1.fz i hi10
  rw [hx10] at hF10
  have p10 := p9.1.put hi10 (j := 12) (by decide) (v := .int .u64 m.d.x7) (x := ⟨ow, shA, shc, sh, ⟨m.k, m.c, m.l, ⟨m.d.x0, m.d.x1, m.d.x2, m.d.x3, m.d.x4, m.d.x5, m.d.x6, m.d.x7⟩⟩, ph, akA, akc, ak, asked, wtA, wtc, wl⟩) (by rw [hx10]; rfl) ⟨hF10.sh, hF10.ak, hF10.wt⟩
  rw [List.set_set] at p10
  exact ⟨p10.1, ((((((((((p0.2).trans p1.2).trans p2.2).trans p3.2).trans p4.2).trans p5.2).trans p6.2).trans p7.2).trans p8.2).trans p9.2).trans p10.2⟩
end


set_option maxHeartbeats 8000000 in
theorem rbegin_any (w : World) (N : List Nat) (d bL bW n capL : Nat) (cores : Int) (ws : List Int) (rs : List RE) (i : Nat) (hi : i < rs.length) (hN : ∀ x ∈ N, x < w.heap.size) (hsl : rs[i].sh.length ≤ 1000) (m : MsgV) (hm : m.l = (i : Int)) (H : RDAt w N d bL bW n capL cores ws rs) :
    Calls Try.prog 39 #[.pointer (some ⟨d, 0, none⟩), m.val] w (RPost w N d bL bW n capL cores ws rs i (beginV rs[i].toV m) (beginVM rs[i].toV m (lineV n ws (i : Int)))) := by
  have hlt := H.lt
  have hne := H.ne
  have hln := H.len
  have h64 := H.small
  obtain ⟨x, hx⟩ : ∃ x, rs[i] = x := ⟨_, rfl⟩
  have HX := Lib.hid hx; have HN := Lib.hid hN
  have HG := Lib.hid (fun W N' rs' (hi' : i < rs'.length) hN' hs' K' => rgrant_any W N' d bL bW n capL cores ws rs' i hi' hN' hs' K')
  have hin : (i : Int) < n := by omega
  have hi0 : (0 : Int) ≤ i := Int.natCast_nonneg _
  rw [hx] at hsl ⊢
  clear hN
  have HH := Lib.hid H
  have HM := Lib.hid (rfl : m = m)
  obtain ⟨mk, mc, ml, ⟨m0, m1, m2, m3, m4, m5, m6, m7⟩⟩ := m
  simp only at hm
  subst hm
  clear HM
  unfold MsgV.val
  simp only
  have hal : Chg [] w (w.alloc (.cells #[.int .i64 mk, .int .i64 mc, .int .i64 (i : Int), .int .u64 m0, .int .u64 m1, .int .u64 m2, .int .u64 m3, .int .u64 m4, .int .u64 m5, .int .u64 m6, .int .u64 m7] 33)) := (Chg.refl [] w).alloc _
  have HB3 := Lib.hid (Blk.new w [.int .i64 mk, .int .i64 mc, .int .i64 (i : Int), .int .u64 m0, .int .u64 m1, .int .u64 m2, .int .u64 m3, .int .u64 m4, .int .u64 m5, .int .u64 m6, .int .u64 m7] 33)
  have HL := Lib.hid (H.look hal)
  have HC := Lib.hid hal
  clear H hx hal
  go_enter Try.func39, Try.ntmps39
  go_upto_region 1 with fail
  generalize World.alloc _ _ = w1 at *
  obtain ⟨b3, hb3⟩ : ∃ q, w.heap.size = q := ⟨_, rfl⟩
  rw [hb3] at HB3 hlt ⊢
  have Hb3 := Lib.hid hb3
  clear hb3
  have n3 : b3 ≠ bL := by omega
  have d2 : w1.cell? ⟨d, 2, none⟩ = some (.slice (some ⟨bL, 0, none⟩) n capL) := HL.out.blk.cell 2
  have lts := HL.out.lt
  have b3lt : b3 < w1.heap.size := HB3.out.lt
  have y0 : w1.cell? ⟨b3, 0, none⟩ = some (.int .i64 mk) := HB3.out.cell 0
  have y1 : w1.cell? ⟨b3, 1, none⟩ = some (.int .i64 mc) := HB3.out.cell 1
  have y2 : w1.cell? ⟨b3, 2, none⟩ = some (.int .i64 (i : Int)) := HB3.out.cell 2
  have y3 : w1.cell? ⟨b3, 3, none⟩ = some (.int .u64 m0) := HB3.out.cell 3
  have y4 : w1.cell? ⟨b3, 4, none⟩ = some (.int .u64 m1) := HB3.out.cell 4
  have y5 : w1.cell? ⟨b3, 5, none⟩ = some (.int .u64 m2) := HB3.out.cell 5
  have y6 : w1.cell? ⟨b3, 6, none⟩ = some (.int .u64 m3) := HB3.out.cell 6
  have y7 : w1.cell? ⟨b3, 7, none⟩ = some (.int .u64 m4) := HB3.out.cell 7
  have y8 : w1.cell? ⟨b3, 8, none⟩ = some (.int .u64 m5) := HB3.out.cell 8
  have y9 : w1.cell? ⟨b3, 9, none⟩ = some (.int .u64 m6) := HB3.out.cell 9
  have y10 : w1.cell? ⟨b3, 10, none⟩ = some (.int .u64 m7) := HB3.out.cell 10
  have e2 : w1.cell? ⟨bL, i * 17 + 2, none⟩ = some (.int .i64 x.un.k) := by have := HL.out.cell hi (j := 2) (by decide); rw [HX.out] at this; exact this
  have e3 : w1.cell? ⟨bL, i * 17 + 3, none⟩ = some (.int .i64 x.un.c) := by have := HL.out.cell hi (j := 3) (by decide); rw [HX.out] at this; exact this
  have e4 : w1.cell? ⟨bL, i * 17 + 4, none⟩ = some (.int .i64 x.un.l) := by have := HL.out.cell hi (j := 4) (by decide); rw [HX.out] at this; exact this
  have e5 : w1.cell? ⟨bL, i * 17 + 5, none⟩ = some (.int .u64 x.un.d.x0) := by have := HL.out.cell hi (j := 5) (by decide); rw [HX.out] at this; exact this
  have e6 : w1.cell? ⟨bL, i * 17 + 6, none⟩ = some (.int .u64 x.un.d.x1) := by have := HL.out.cell hi (j := 6) (by decide); rw [HX.out] at this; exact this
  have e7 : w1.cell? ⟨bL, i * 17 + 7, none⟩ = some (.int .u64 x.un.d.x2) := by have := HL.out.cell hi (j := 7) (by decide); rw [HX.out] at this; exact this
  have e8 : w1.cell? ⟨bL, i * 17 + 8, none⟩ = some (.int .u64 x.un.d.x3) := by have := HL.out.cell hi (j := 8) (by decide); rw [HX.out] at this; exact this
  have e9 : w1.cell? ⟨bL, i * 17 + 9, none⟩ = some (.int .u64 x.un.d.x4) := by have := HL.out.cell hi (j := 9) (by decide); rw [HX.out] at this; exact this
  have e10 : w1.cell? ⟨bL, i * 17 + 10, none⟩ = some (.int .u64 x.un.d.x5) := by have := HL.out.cell hi (j := 10) (by decide); rw [HX.out] at this; exact this
  have e11 : w1.cell? ⟨bL, i * 17 + 11, none⟩ = some (.int .u64 x.un.d.x6) := by have := HL.out.cell hi (j := 11) (by decide); rw [HX.out] at this; exact this
  have e12 : w1.cell? ⟨bL, i * 17 + 12, none⟩ = some (.int .u64 x.un.d.x7) := by have := HL.out.cell hi (j := 12) (by decide); rw [HX.out] at this; exact this
  have f2 : w1.frozen? ⟨bL, i * 17 + 2, none⟩ = false := HL.out.free _
  have f3 : w1.frozen? ⟨bL, i * 17 + 3, none⟩ = false := HL.out.free _
  have f4 : w1.frozen? ⟨bL, i * 17 + 4, none⟩ = false := HL.out.free _
  have f5 : w1.frozen? ⟨bL, i * 17 + 5, none⟩ = false := HL.out.free _
  have f6 : w1.frozen? ⟨bL, i * 17 + 6, none⟩ = false := HL.out.free _
  have f7 : w1.frozen? ⟨bL, i * 17 + 7, none⟩ = false := HL.out.free _
  have f8 : w1.frozen? ⟨bL, i * 17 + 8, none⟩ = false := HL.out.free _
  have f9 : w1.frozen? ⟨bL, i * 17 + 9, none⟩ = false := HL.out.free _
  have f10 : w1.frozen? ⟨bL, i * 17 + 10, none⟩ = false := HL.out.free _
  have f11 : w1.frozen? ⟨bL, i * 17 + 11, none⟩ = false := HL.out.free _
  have f12 : w1.frozen? ⟨bL, i * 17 + 12, none⟩ = false := HL.out.free _
  go_still_tail 9, (by kernel_rfl)
  go_upto_region 2 with fail
  have hp := HL.out.putM hi HX.out ⟨mk, mc, (i : Int), ⟨m0, m1, m2, m3, m4, m5, m6, m7⟩⟩
  obtain ⟨x2, hx2⟩ : ∃ q : RE, ({ x with un := ⟨mk, mc, (i : Int), ⟨m0, m1, m2, m3, m4, m5, m6, m7⟩⟩ } : RE) = q := ⟨_, rfl⟩
  rw [hx2] at hp
  obtain ⟨rs2, hrs⟩ : ∃ q, rs.set i x2 = q := ⟨_, rfl⟩
  rw [hrs] at hp
  have hi2 : i < rs2.length := by rw [← hrs, List.length_set]; exact hi
  have HX2 : Hid (rs2[i] = x2) := Lib.hid (by subst hrs; exact List.getElem_set_self _)
  have HL1 := Lib.hid (hp.1.look ((Chg.refl [] _).drew))
  have HC1 := Lib.hid (((HC.out.mono (T := [bL]) (by simp)).trans hp.2).drew)
  have HRS := Lib.hid hrs
  have HX22 := Lib.hid hx2
  clear hrs hx2
  replace HB3 := Lib.hid ((((((((((((((((((((((((HB3.out).other (a := ⟨bL, i * 17 + 2, none⟩) (Ne.symm n3) (.int .i64 mk))).other (a := ⟨bL, i * 17 + 2 + 1, none⟩) (Ne.symm n3) (.int .i64 mc))).other (a := ⟨bL, i * 17 + 2 + 2, none⟩) (Ne.symm n3) (.int .i64 (i : Int)))).other (a := ⟨bL, i * 17 + 2 + 3, none⟩) (Ne.symm n3) (.int .u64 m0))).other (a := ⟨bL, i * 17 + 2 + 4, none⟩) (Ne.symm n3) (.int .u64 m1))).other (a := ⟨bL, i * 17 + 2 + 5, none⟩) (Ne.symm n3) (.int .u64 m2))).other (a := ⟨bL, i * 17 + 2 + 6, none⟩) (Ne.symm n3) (.int .u64 m3))).other (a := ⟨bL, i * 17 + 2 + 7, none⟩) (Ne.symm n3) (.int .u64 m4))).other (a := ⟨bL, i * 17 + 2 + 8, none⟩) (Ne.symm n3) (.int .u64 m5))).other (a := ⟨bL, i * 17 + 2 + 9, none⟩) (Ne.symm n3) (.int .u64 m6))).other (a := ⟨bL, i * 17 + 2 + 10, none⟩) (Ne.symm n3) (.int .u64 m7))).drew)
  clear hp HL HC lts d2 b3lt y0 y1 y2 y3 y4 y5 y6 y7 y8 y9 y10 e2 e3 e4 e5 e6 e7 e8 e9 e10 e11 e12 f2 f3 f4 f5 f6 f7 f8 f9 f10 f11 f12
  generalize World.drew _ = w2 at *
  have d2 : w2.cell? ⟨d, 2, none⟩ = some (.slice (some ⟨bL, 0, none⟩) n capL) := HL1.out.blk.cell 2
  have lts := HL1.out.lt
  have b3lt : b3 < w2.heap.size := HB3.out.lt
  have y2 : w2.cell? ⟨b3, 2, none⟩ = some (.int .i64 (i : Int)) := HB3.out.cell 2
  have e0 : w2.cell? ⟨bL, i * 17, none⟩ = some (.int .i64 x2.ow) := by have := HL1.out.cell hi2 (j := 0) (by decide); rw [HX2.out] at this; exact this
  have e1 : w2.cell? ⟨bL, i * 17 + 1, none⟩ = some (.slice x2.shA x2.sh.length x2.shc) := by have := HL1.out.cell hi2 (j := 1) (by decide); rw [HX2.out] at this; exact this
  have e2 : w2.cell? ⟨bL, i * 17 + 2, none⟩ = some (.int .i64 x2.un.k) := by have := HL1.out.cell hi2 (j := 2) (by decide); rw [HX2.out] at this; exact this
  have e3 : w2.cell? ⟨bL, i * 17 + 3, none⟩ = some (.int .i64 x2.un.c) := by have := HL1.out.cell hi2 (j := 3) (by decide); rw [HX2.out] at this; exact this
  have e4 : w2.cell? ⟨bL, i * 17 + 4, none⟩ = some (.int .i64 x2.un.l) := by have := HL1.out.cell hi2 (j := 4) (by decide); rw [HX2.out] at this; exact this
  have e5 : w2.cell? ⟨bL, i * 17 + 5, none⟩ = some (.int .u64 x2.un.d.x0) := by have := HL1.out.cell hi2 (j := 5) (by decide); rw [HX2.out] at this; exact this
  have e6 : w2.cell? ⟨bL, i * 17 + 6, none⟩ = some (.int .u64 x2.un.d.x1) := by have := HL1.out.cell hi2 (j := 6) (by decide); rw [HX2.out] at this; exact this
  have e7 : w2.cell? ⟨bL, i * 17 + 7, none⟩ = some (.int .u64 x2.un.d.x2) := by have := HL1.out.cell hi2 (j := 7) (by decide); rw [HX2.out] at this; exact this
  have e8 : w2.cell? ⟨bL, i * 17 + 8, none⟩ = some (.int .u64 x2.un.d.x3) := by have := HL1.out.cell hi2 (j := 8) (by decide); rw [HX2.out] at this; exact this
  have e9 : w2.cell? ⟨bL, i * 17 + 9, none⟩ = some (.int .u64 x2.un.d.x4) := by have := HL1.out.cell hi2 (j := 9) (by decide); rw [HX2.out] at this; exact this
  have e10 : w2.cell? ⟨bL, i * 17 + 10, none⟩ = some (.int .u64 x2.un.d.x5) := by have := HL1.out.cell hi2 (j := 10) (by decide); rw [HX2.out] at this; exact this
  have e11 : w2.cell? ⟨bL, i * 17 + 11, none⟩ = some (.int .u64 x2.un.d.x6) := by have := HL1.out.cell hi2 (j := 11) (by decide); rw [HX2.out] at this; exact this
  have e12 : w2.cell? ⟨bL, i * 17 + 12, none⟩ = some (.int .u64 x2.un.d.x7) := by have := HL1.out.cell hi2 (j := 12) (by decide); rw [HX2.out] at this; exact this
  have e13 : w2.cell? ⟨bL, i * 17 + 13, none⟩ = some (.int .i64 x2.ph) := by have := HL1.out.cell hi2 (j := 13) (by decide); rw [HX2.out] at this; exact this
  have e14 : w2.cell? ⟨bL, i * 17 + 14, none⟩ = some (.slice x2.akA x2.ak.length x2.akc) := by have := HL1.out.cell hi2 (j := 14) (by decide); rw [HX2.out] at this; exact this
  have e15 : w2.cell? ⟨bL, i * 17 + 15, none⟩ = some (.int .i64 x2.asked) := by have := HL1.out.cell hi2 (j := 15) (by decide); rw [HX2.out] at this; exact this
  have e16 : w2.cell? ⟨bL, i * 17 + 16, none⟩ = some (.slice x2.wtA x2.wl.length x2.wtc) := by have := HL1.out.cell hi2 (j := 16) (by decide); rw [HX2.out] at this; exact this
  have HSk : Hid (∀ V, Chg [] w2 V → (V.cell? ⟨d, 2, none⟩ = some (.slice (some ⟨bL, 0, none⟩) n capL) ∧ V.cell? ⟨b3, 2, none⟩ = some (.int .i64 (i : Int)) ∧ V.cell? ⟨bL, i * 17, none⟩ = some (.int .i64 x2.ow) ∧ V.cell? ⟨bL, i * 17 + 1, none⟩ = some (.slice x2.shA x2.sh.length x2.shc) ∧ V.cell? ⟨bL, i * 17 + 2, none⟩ = some (.int .i64 x2.un.k) ∧ V.cell? ⟨bL, i * 17 + 3, none⟩ = some (.int .i64 x2.un.c) ∧ V.cell? ⟨bL, i * 17 + 4, none⟩ = some (.int .i64 x2.un.l) ∧ V.cell? ⟨bL, i * 17 + 5, none⟩ = some (.int .u64 x2.un.d.x0) ∧ V.cell? ⟨bL, i * 17 + 6, none⟩ = some (.int .u64 x2.un.d.x1) ∧ V.cell? ⟨bL, i * 17 + 7, none⟩ = some (.int .u64 x2.un.d.x2) ∧ V.cell? ⟨bL, i * 17 + 8, none⟩ = some (.int .u64 x2.un.d.x3) ∧ V.cell? ⟨bL, i * 17 + 9, none⟩ = some (.int .u64 x2.un.d.x4) ∧ V.cell? ⟨bL, i * 17 + 10, none⟩ = some (.int .u64 x2.un.d.x5) ∧ V.cell? ⟨bL, i * 17 + 11, none⟩ = some (.int .u64 x2.un.d.x6) ∧ V.cell? ⟨bL, i * 17 + 12, none⟩ = some (.int .u64 x2.un.d.x7) ∧ V.cell? ⟨bL, i * 17 + 13, none⟩ = some (.int .i64 x2.ph) ∧ V.cell? ⟨bL, i * 17 + 14, none⟩ = some (.slice x2.akA x2.ak.length x2.akc) ∧ V.cell? ⟨bL, i * 17 + 15, none⟩ = some (.int .i64 x2.asked) ∧ V.cell? ⟨bL, i * 17 + 16, none⟩ = some (.slice x2.wtA x2.wl.length x2.wtc))) := Lib.hid (fun V k => ⟨(k.cell0 lts.1 _).trans d2, (k.cell0 b3lt _).trans y2, (k.cell0 lts.2.1 _).trans e0, (k.cell0 lts.2.1 _).trans e1, (k.cell0 lts.2.1 _).trans e2, (k.cell0 lts.2.1 _).trans e3, (k.cell0 lts.2.1 _).trans e4, (k.cell0 lts.2.1 _).trans e5, (k.cell0 lts.2.1 _).trans e6, (k.cell0 lts.2.1 _).trans e7, (k.cell0 lts.2.1 _).trans e8, (k.cell0 lts.2.1 _).trans e9, (k.cell0 lts.2.1 _).trans e10, (k.cell0 lts.2.1 _).trans e11, (k.cell0 lts.2.1 _).trans e12, (k.cell0 lts.2.1 _).trans e13, (k.cell0 lts.2.1 _).trans e14, (k.cell0 lts.2.1 _).trans e15, (k.cell0 lts.2.1 _).trans e16⟩)
  go_region_held3 (fun V => V.cell? ⟨d, 2, none⟩ = some (.slice (some ⟨bL, 0, none⟩) n capL) ∧ V.cell? ⟨b3, 2, none⟩ = some (.int .i64 (i : Int)) ∧ V.cell? ⟨bL, i * 17, none⟩ = some (.int .i64 x2.ow) ∧ V.cell? ⟨bL, i * 17 + 1, none⟩ = some (.slice x2.shA x2.sh.length x2.shc) ∧ V.cell? ⟨bL, i * 17 + 2, none⟩ = some (.int .i64 x2.un.k) ∧ V.cell? ⟨bL, i * 17 + 3, none⟩ = some (.int .i64 x2.un.c) ∧ V.cell? ⟨bL, i * 17 + 4, none⟩ = some (.int .i64 x2.un.l) ∧ V.cell? ⟨bL, i * 17 + 5, none⟩ = some (.int .u64 x2.un.d.x0) ∧ V.cell? ⟨bL, i * 17 + 6, none⟩ = some (.int .u64 x2.un.d.x1) ∧ V.cell? ⟨bL, i * 17 + 7, none⟩ = some (.int .u64 x2.un.d.x2) ∧ V.cell? ⟨bL, i * 17 + 8, none⟩ = some (.int .u64 x2.un.d.x3) ∧ V.cell? ⟨bL, i * 17 + 9, none⟩ = some (.int .u64 x2.un.d.x4) ∧ V.cell? ⟨bL, i * 17 + 10, none⟩ = some (.int .u64 x2.un.d.x5) ∧ V.cell? ⟨bL, i * 17 + 11, none⟩ = some (.int .u64 x2.un.d.x6) ∧ V.cell? ⟨bL, i * 17 + 12, none⟩ = some (.int .u64 x2.un.d.x7) ∧ V.cell? ⟨bL, i * 17 + 13, none⟩ = some (.int .i64 x2.ph) ∧ V.cell? ⟨bL, i * 17 + 14, none⟩ = some (.slice x2.akA x2.ak.length x2.akc) ∧ V.cell? ⟨bL, i * 17 + 15, none⟩ = some (.int .i64 x2.asked) ∧ V.cell? ⟨bL, i * 17 + 16, none⟩ = some (.slice x2.wtA x2.wl.length x2.wtc)) (exact HSk.out _ (by repeat (first | with_reducible exact Chg.refl _ _ | with_reducible refine Chg.drew ?_ | with_reducible refine Chg.alloc ?_ _ | with_reducible refine Chg.setCell ?_ (fun h => absurd h (Nat.lt_irrefl _)) _))) (fail)
  have hal := ((Chg.refl [] w2).alloc (.cells #[.int .i64 x2.ow, .slice x2.shA x2.sh.length x2.shc, .int .i64 x2.un.k, .int .i64 x2.un.c, .int .i64 x2.un.l, .int .u64 x2.un.d.x0, .int .u64 x2.un.d.x1, .int .u64 x2.un.d.x2, .int .u64 x2.un.d.x3, .int .u64 x2.un.d.x4, .int .u64 x2.un.d.x5, .int .u64 x2.un.d.x6, .int .u64 x2.un.d.x7, .int .i64 x2.ph, .slice x2.akA x2.ak.length x2.akc, .int .i64 x2.asked, .slice x2.wtA x2.wl.length x2.wtc] 99)).drew
  have HB5 := Lib.hid ((Blk.new w2 [.int .i64 x2.ow, .slice x2.shA x2.sh.length x2.shc, .int .i64 x2.un.k, .int .i64 x2.un.c, .int .i64 x2.un.l, .int .u64 x2.un.d.x0, .int .u64 x2.un.d.x1, .int .u64 x2.un.d.x2, .int .u64 x2.un.d.x3, .int .u64 x2.un.d.x4, .int .u64 x2.un.d.x5, .int .u64 x2.un.d.x6, .int .u64 x2.un.d.x7, .int .i64 x2.ph, .slice x2.akA x2.ak.length x2.akc, .int .i64 x2.asked, .slice x2.wtA x2.wl.length x2.wtc] 99).drew)
  have HL3 := Lib.hid (HL1.out.look hal)
  have HC3 := Lib.hid (HC1.out.trans (hal.mono (by simp)))
  replace HB3 := Lib.hid (hal.blk HB3.out (by simp))
  have hs2 : w.heap.size ≤ w2.heap.size := HC1.out.size
  rename_i hHeld
  clear hal HL1 HC1 HSk hHeld d2 y2 e0 e1 e2 e3 e4 e5 e6 e7 e8 e9 e10 e11 e12 e13 e14 e15 e16
  generalize World.drew _ = w3 at *
  obtain ⟨b5, hb5⟩ : ∃ q, w2.heap.size = q := ⟨_, rfl⟩
  rw [hb5] at HB5 lts b3lt hs2 ⊢
  clear hb5
  rw [Hb3.out] at hs2
  have n5 : b5 ≠ bL := by omega
  have hxo : x2.ow = x.ow := by rw [← HX22.out]
  have d2 : w3.cell? ⟨d, 2, none⟩ = some (.slice (some ⟨bL, 0, none⟩) n capL) := HL3.out.blk.cell 2
  have k0 : w3.cell? ⟨b5, 0, none⟩ = some (.int .i64 x2.ow) := HB5.out.cell 0
  have k1 : w3.cell? ⟨b5, 1, none⟩ = some (.slice x2.shA x2.sh.length x2.shc) := HB5.out.cell 1
  have y0 : w3.cell? ⟨b3, 0, none⟩ = some (.int .i64 mk) := HB3.out.cell 0
  have y1 : w3.cell? ⟨b3, 1, none⟩ = some (.int .i64 mc) := HB3.out.cell 1
  have y2 : w3.cell? ⟨b3, 2, none⟩ = some (.int .i64 (i : Int)) := HB3.out.cell 2
  have l3 := HL3.out.lt
  have b3lt3 : b3 < w3.heap.size := HB3.out.lt
  have b5lt3 : b5 < w3.heap.size := HB5.out.lt
  rw [hxo] at k0
  have HXO := Lib.hid hxo
  clear hxo lts b3lt
  by_cases h0 : 0 ≤ x.ow
  · have H0 := Lib.hid h0
    have e13 : w3.cell? ⟨bL, i * 17 + 13, none⟩ = some (.int .i64 x2.ph) := by have := HL3.out.cell hi2 (j := 13) (by decide); rw [HX2.out] at this; exact this
    have f13 : w3.frozen? ⟨bL, i * 17 + 13, none⟩ = false := HL3.out.free _
    go_upto_region 4 with fail
    go_still_tail 8, (by kernel_rfl)
    go_upto_region 5 with fail
    have hF := HL3.out.fz i hi2
    rw [HX2.out] at hF
    have hp := HL3.out.put hi2 (j := 13) (by decide) (v := .int .i64 2) (x := { x2 with ph := 2 }) (by rw [HX2.out]; rfl) ⟨hF.sh, hF.ak, hF.wt⟩
    obtain ⟨x4, hx4⟩ : ∃ q : RE, ({ x2 with ph := 2 } : RE) = q := ⟨_, rfl⟩
    rw [hx4] at hp
    obtain ⟨rs4, hrs⟩ : ∃ q, rs2.set i x4 = q := ⟨_, rfl⟩
    rw [hrs] at hp
    have hi4 : i < rs4.length := by rw [← hrs, List.length_set]; exact hi2
    have HX4 : Hid (rs4[i] = x4) := Lib.hid (by subst hrs; exact List.getElem_set_self _)
    have HRS4 := Lib.hid hrs
    have HY4 := Lib.hid hx4
    have HL4 := Lib.hid (hp.1.look ((Chg.refl [] _).drew))
    have HC4 := Lib.hid ((HC3.out.trans hp.2).drew)
    replace HB3 := Lib.hid ((HB3.out.other (a := ⟨bL, i * 17 + 13, none⟩) (Ne.symm n3) (.int .i64 2)).drew)
    replace HB5 := Lib.hid ((HB5.out.other (a := ⟨bL, i * 17 + 13, none⟩) (Ne.symm n5) (.int .i64 2)).drew)
    clear hF hp hrs hx4 HL3 HC3 d2 k0 k1 y0 y1 y2 l3 b3lt3 b5lt3 e13 f13 h0
    generalize World.drew _ = w4 at *
    have d2 : w4.cell? ⟨d, 2, none⟩ = some (.slice (some ⟨bL, 0, none⟩) n capL) := HL4.out.blk.cell 2
    have k0 : w4.cell? ⟨b5, 0, none⟩ = some (.int .i64 x.ow) := by rw [← HXO.out]; exact HB5.out.cell 0
    have y2 : w4.cell? ⟨b3, 2, none⟩ = some (.int .i64 (i : Int)) := HB3.out.cell 2
    have l4 := HL4.out.lt
    have b3lt4 : b3 < w4.heap.size := HB3.out.lt
    have b5lt4 : b5 < w4.heap.size := HB5.out.lt
    have e15 : w4.cell? ⟨bL, i * 17 + 15, none⟩ = some (.int .i64 x4.asked) := by have := HL4.out.cell hi4 (j := 15) (by decide); rw [HX4.out] at this; exact this
    have f15 : w4.frozen? ⟨bL, i * 17 + 15, none⟩ = false := HL4.out.free _
    go_still_tail 10, (by kernel_rfl)
    go_upto_region 6 with fail
    have hF := HL4.out.fz i hi4
    rw [HX4.out] at hF
    have hp := HL4.out.put hi4 (j := 15) (by decide) (v := .int .i64 x.ow) (x := { x4 with asked := x.ow }) (by rw [HX4.out]; rfl) ⟨hF.sh, hF.ak, hF.wt⟩
    obtain ⟨x6, hx6⟩ : ∃ q : RE, ({ x4 with asked := x.ow } : RE) = q := ⟨_, rfl⟩
    rw [hx6] at hp
    obtain ⟨rs6, hrs⟩ : ∃ q, rs4.set i x6 = q := ⟨_, rfl⟩
    rw [hrs] at hp
    have hi6 : i < rs6.length := by rw [← hrs, List.length_set]; exact hi4
    have HX6 : Hid (rs6[i] = x6) := Lib.hid (by subst hrs; exact List.getElem_set_self _)
    have HRS6 := Lib.hid hrs
    have HY6 := Lib.hid hx6
    have HL6 := Lib.hid (hp.1.look ((Chg.refl [] _).drew))
    have HC6 := Lib.hid ((HC4.out.trans hp.2).drew)
    replace HB3 := Lib.hid ((HB3.out.other (a := ⟨bL, i * 17 + 15, none⟩) (Ne.symm n3) (.int .i64 x.ow)).drew)
    replace HB5 := Lib.hid ((HB5.out.other (a := ⟨bL, i * 17 + 15, none⟩) (Ne.symm n5) (.int .i64 x.ow)).drew)
    clear hF hp hrs hx6 HL4 HC4 d2 k0 y2 l4 b3lt4 b5lt4 e15 f15
    generalize World.drew _ = w6 at *
    have k0 : w6.cell? ⟨b5, 0, none⟩ = some (.int .i64 x.ow) := by rw [← HXO.out]; exact HB5.out.cell 0
    have y0 : w6.cell? ⟨b3, 0, none⟩ = some (.int .i64 mk) := HB3.out.cell 0
    have y2 : w6.cell? ⟨b3, 2, none⟩ = some (.int .i64 (i : Int)) := HB3.out.cell 2
    have hV : x6.toV = beginV x.toV ⟨mk, mc, (i : Int), ⟨m0, m1, m2, m3, m4, m5, m6, m7⟩⟩ := by
      rw [← HY6.out, ← HY4.out, ← HX22.out]
      unfold beginV
      rw [if_pos (show 0 ≤ x.toV.ow from H0.out)]; rfl
    have hM : beginVM x.toV ⟨mk, mc, (i : Int), ⟨m0, m1, m2, m3, m4, m5, m6, m7⟩⟩ (lineV n ws (i : Int)) = [⟨if mk = 2 then 13 else 12, x.ow, (i : Int), {}⟩] := by
      unfold beginVM
      rw [if_pos (show 0 ≤ x.toV.ow from H0.out)]; rfl
    have hS : rs6 = rs.set i x6 := by rw [← HRS6.out, ← HRS4.out, ← HRS.out, List.set_set, List.set_set]
    have HV := Lib.hid hV; have HMs := Lib.hid hM; have HSs := Lib.hid hS
    clear hV hM hS
    by_cases hk : mk = 2
    · have hkb : (mk == 2) = true := by simpa using hk
      have HK := Lib.hid hk
      clear hk
      go_wp2_with fail
      go_ret
      refine ⟨_, x6, rfl, HV.out, ?_, ?_, HC6.out.alloc _⟩
      · rw [HMs.out, if_pos HK.out]
        exact row_of_blk (Blk.new _ _ _) rfl HC6.out.size (by unfold maxLen; omega)
      · rw [← HSs.out]; exact HL6.out.look ((Chg.refl [] _).alloc _)
    · have hkb : (mk == 2) = false := by simpa using hk
      have HK := Lib.hid hk
      clear hk
      go_wp2_with fail
      go_ret
      refine ⟨_, x6, rfl, HV.out, ?_, ?_, HC6.out.alloc _⟩
      · rw [HMs.out, if_neg HK.out]
        exact row_of_blk (Blk.new _ _ _) rfl HC6.out.size (by unfold maxLen; omega)
      · rw [← HSs.out]; exact HL6.out.look ((Chg.refl [] _).alloc _)

  · have H0 := Lib.hid h0
    have hF3 : FzR w3 N x2 := by have := HL3.out.fz i hi2; rw [HX2.out] at this; exact this
    have hshx : x2.sh = x.sh := by rw [← HX22.out]
    have hsl2 : x2.sh.length ≤ 1000 := by rw [hshx]; exact hsl
    have HW := Lib.hid (without_any w3 x2.shA x2.shc x2.sh mc hsl2 hF3.sh.rd)
    have HSH := Lib.hid hshx; have HSL := Lib.hid hsl2
    clear hshx hsl2 hF3 h0
    go_wp2_with fail
    refine HW.out.mono ?_
    rintro e w4 ⟨v4, rfl, ho4, hk4⟩
    rw [← flat_encN] at ho4
    have hN3 : ∀ y ∈ N, y < w3.heap.size := fun y hy => Nat.lt_of_lt_of_le (HN.out y hy) HC3.out.size
    obtain ⟨A4, c4, rfl, hz4⟩ := FzL.of_row (N := N) encN_len ho4 (fun y hy hm => absurd (show w3.heap.size ≤ y from (ho4.lt y (by simpa using hy)).1) (Nat.not_le.2 (hN3 y hm)))
    have HZ4 := Lib.hid hz4; have HK4 := Lib.hid hk4
    have HL4 := Lib.hid (HL3.out.look hk4); have HC4 := Lib.hid (HC3.out.trans (hk4.mono (by simp)))
    replace HB3 := Lib.hid (hk4.blk HB3.out (by simp)); replace HB5 := Lib.hid (hk4.blk HB5.out (by simp))
    have hn4 : ∀ y ∈ N, y < w4.heap.size := fun y hy => Nat.lt_of_lt_of_le (hN3 y hy) hk4.size
    have HN4 := Lib.hid hn4
    clear ho4 hk4 hN3 hn4 hz4 HW HL3 HC3 d2 k0 k1 y0 y1 y2 l3 b3lt3 b5lt3
    have hwl : (withoutL x2.sh mc).length ≤ 1000 := Nat.le_trans (withoutL_le _ _) HSL.out
    obtain ⟨oth, hoth⟩ : ∃ q, withoutL x2.sh mc = q := ⟨_, rfl⟩
    rw [hoth] at HZ4 hwl ⊢
    have HO := Lib.hid hoth
    clear hoth
    have y0 : w4.cell? ⟨b3, 0, none⟩ = some (.int .i64 mk) := HB3.out.cell 0
    have y2 : w4.cell? ⟨b3, 2, none⟩ = some (.int .i64 (i : Int)) := HB3.out.cell 2
    have hol : (mk = 1 ∨ oth = []) ∨ ¬ (mk = 1 ∨ oth = []) := Classical.em _
    rcases hol with hg | hg
    · have hV : ∀ A cap, (grantR x2 A cap).toV = beginV x.toV ⟨mk, mc, (i : Int), ⟨m0, m1, m2, m3, m4, m5, m6, m7⟩⟩ := fun A cap => by
        rw [grantR_toV, ← HX22.out]
        unfold beginV
        rw [if_neg (show ¬ 0 ≤ x.toV.ow from by have := H0.out; show ¬ 0 ≤ x.ow; omega), if_pos (show mk = 1 ∨ withoutL x.toV.sh mc = [] from by have := HO.out; rw [HSH.out] at this; show mk = 1 ∨ withoutL x.sh mc = []; rw [this]; exact hg)]; rfl
      have hM : beginVM x.toV ⟨mk, mc, (i : Int), ⟨m0, m1, m2, m3, m4, m5, m6, m7⟩⟩ (lineV n ws (i : Int)) = [grantRM x2 i (lineV n ws (i : Int))] := by
        unfold beginVM
        rw [if_neg (show ¬ 0 ≤ x.toV.ow from by have := H0.out; show ¬ 0 ≤ x.ow; omega), if_pos (show mk = 1 ∨ withoutL x.toV.sh mc = [] from by have := HO.out; rw [HSH.out] at this; show mk = 1 ∨ withoutL x.sh mc = []; rw [this]; exact hg), grantRM_toV, ← HX22.out]; rfl
      have hS : ∀ y, rs2.set i y = rs.set i y := fun y => by rw [← HRS.out, List.set_set]
      have HV := Lib.hid hV; have HMs := Lib.hid hM; have HSs := Lib.hid hS
      clear hV hM hS
      have HGr := Lib.hid (HG.out w4 N rs2 hi2 HN4.out (by rw [HX2.out]; exact HSL.out) HL4.out)
      by_cases hk : mk = 1
      · have hkb : (mk == 1) = true := by simpa using hk
        clear hk hg
        go_wp2_with fail
        refine HGr.out.mono ?_
        rintro e w5 ⟨A5, c5, rfl, hl5, hk5⟩
        rw [HX2.out] at hl5 ⊢
        have HL5 := Lib.hid hl5; have HC5 := Lib.hid (HC4.out.trans hk5)
        clear hl5 hk5 HGr HL4 HC4 HB3 HB5 y0 y2
        unfold MsgV.val
        go_wp2_with fail
        go_ret
        refine ⟨_, grantR x2 A5 c5, rfl, HV.out _ _, ?_, ?_, HC5.out.alloc _⟩
        · rw [HMs.out]
          exact row_of_blk (Blk.new _ _ _) rfl HC5.out.size (by unfold maxLen; omega)
        · rw [← HSs.out]; exact HL5.out.look ((Chg.refl [] _).alloc _)
      · have hkb : (mk == 1) = false := by simpa using hk
        have ho : oth = [] := hg.resolve_left hk
        subst ho
        clear hk hg
        go_wp2_with fail
        refine HGr.out.mono ?_
        rintro e w5 ⟨A5, c5, rfl, hl5, hk5⟩
        rw [HX2.out] at hl5 ⊢
        have HL5 := Lib.hid hl5; have HC5 := Lib.hid (HC4.out.trans hk5)
        clear hl5 hk5 HGr HL4 HC4 HB3 HB5 y0 y2
        unfold MsgV.val
        go_wp2_with fail
        go_ret
        refine ⟨_, grantR x2 A5 c5, rfl, HV.out _ _, ?_, ?_, HC5.out.alloc _⟩
        · rw [HMs.out]
          exact row_of_blk (Blk.new _ _ _) rfl HC5.out.size (by unfold maxLen; omega)
        · rw [← HSs.out]; exact HL5.out.look ((Chg.refl [] _).alloc _)
    · have hk : ¬ mk = 1 := fun h => hg (.inl h)
      have hon : oth ≠ [] := fun h => hg (.inr h)
      have hkb : (mk == 1) = false := by simpa using hk
      have hpos : 0 < oth.length := List.length_pos_iff.2 hon
      have hob : ((oth.length : Int) == 0) = false := by rw [beq_eq_false_iff_ne]; omega
      have HOth := Lib.hid hg
      clear hg hk hon
      have d2 : w4.cell? ⟨d, 2, none⟩ = some (.slice (some ⟨bL, 0, none⟩) n capL) := HL4.out.blk.cell 2
      have l4 := HL4.out.lt
      have b3lt4 : b3 < w4.heap.size := HB3.out.lt
      have e13 : w4.cell? ⟨bL, i * 17 + 13, none⟩ = some (.int .i64 x2.ph) := by have := HL4.out.cell hi2 (j := 13) (by decide); rw [HX2.out] at this; exact this
      have f13 : w4.frozen? ⟨bL, i * 17 + 13, none⟩ = false := HL4.out.free _
      go_upto_region 13 with fail
      go_still_tail 8, (by kernel_rfl)
      go_upto_region 14 with fail
      have hF := HL4.out.fz i hi2
      rw [HX2.out] at hF
      have hp := HL4.out.put hi2 (j := 13) (by decide) (v := .int .i64 1) (x := { x2 with ph := 1 }) (by rw [HX2.out]; rfl) ⟨hF.sh, hF.ak, hF.wt⟩
      obtain ⟨x6, hx6⟩ : ∃ q : RE, ({ x2 with ph := 1 } : RE) = q := ⟨_, rfl⟩
      rw [hx6] at hp
      obtain ⟨rs6, hrs⟩ : ∃ q, rs2.set i x6 = q := ⟨_, rfl⟩
      rw [hrs] at hp
      have hi6 : i < rs6.length := by rw [← hrs, List.length_set]; exact hi2
      have HX6 : Hid (rs6[i] = x6) := Lib.hid (by subst hrs; exact List.getElem_set_self _)
      have HRS6 := Lib.hid hrs
      have HY6 := Lib.hid hx6
      have HL6 := Lib.hid (hp.1.look ((Chg.refl [] _).drew))
      have HC6 := Lib.hid ((HC4.out.trans hp.2).drew)
      replace HB3 := Lib.hid ((HB3.out.other (a := ⟨bL, i * 17 + 13, none⟩) (Ne.symm n3) (.int .i64 1)).drew)
      replace HB5 := Lib.hid ((HB5.out.other (a := ⟨bL, i * 17 + 13, none⟩) (Ne.symm n5) (.int .i64 1)).drew)
      have HZ6 : Hid (FzL _ N A4 c4 1 encN oth) := Lib.hid ((HZ4.out.step (hp.2.mono (fun y hy => by rw [List.mem_singleton.1 hy]; exact HL4.out.inN.2.1)) (fun y hy => .inl hy)).step (N' := N) ((Chg.refl N _).drew) (fun y hy => .inl hy))
      clear HZ4
      clear hF hp hrs hx6 HL4 HC4 d2 y0 y2 l4 b3lt4 e13 f13
      generalize World.drew _ = w6 at *
      have d2 : w6.cell? ⟨d, 2, none⟩ = some (.slice (some ⟨bL, 0, none⟩) n capL) := HL6.out.blk.cell 2
      have y2 : w6.cell? ⟨b3, 2, none⟩ = some (.int .i64 (i : Int)) := HB3.out.cell 2
      have l6 := HL6.out.lt
      have b3lt6 : b3 < w6.heap.size := HB3.out.lt
      have e14 : w6.cell? ⟨bL, i * 17 + 14, none⟩ = some (.slice x6.akA x6.ak.length x6.akc) := by have := HL6.out.cell hi6 (j := 14) (by decide); rw [HX6.out] at this; exact this
      have f14 : w6.frozen? ⟨bL, i * 17 + 14, none⟩ = false := HL6.out.free _
      go_still_tail 9, (by kernel_rfl)
      go_upto_region 15 with fail
      have hF := HL6.out.fz i hi6
      rw [HX6.out] at hF
      have hp := HL6.out.put hi6 (j := 14) (by decide) (v := .slice A4 oth.length c4) (x := { x6 with akA := A4, akc := c4, ak := oth }) (by rw [HX6.out]; rfl) ⟨hF.sh, HZ6.out, hF.wt⟩
      obtain ⟨x7, hx7⟩ : ∃ q : RE, ({ x6 with akA := A4, akc := c4, ak := oth } : RE) = q := ⟨_, rfl⟩
      rw [hx7] at hp
      obtain ⟨rs7, hrs⟩ : ∃ q, rs6.set i x7 = q := ⟨_, rfl⟩
      rw [hrs] at hp
      have hi7 : i < rs7.length := by rw [← hrs, List.length_set]; exact hi6
      have HX7 : Hid (rs7[i] = x7) := Lib.hid (by subst hrs; exact List.getElem_set_self _)
      have HRS7 := Lib.hid hrs
      have HY7 := Lib.hid hx7
      have HL7 := Lib.hid (hp.1.look ((Chg.refl [] _).drew))
      have HC7 := Lib.hid ((HC6.out.trans hp.2).drew)
      replace HB3 := Lib.hid ((HB3.out.other (a := ⟨bL, i * 17 + 14, none⟩) (Ne.symm n3) (.slice A4 oth.length c4)).drew)
      replace HB5 := Lib.hid ((HB5.out.other (a := ⟨bL, i * 17 + 14, none⟩) (Ne.symm n5) (.slice A4 oth.length c4)).drew)
      have HZ7 : Hid (FzL _ N A4 c4 1 encN oth) := Lib.hid ((HZ6.out.step (hp.2.mono (fun y hy => by rw [List.mem_singleton.1 hy]; exact HL6.out.inN.2.1)) (fun y hy => .inl hy)).step (N' := N) ((Chg.refl N _).drew) (fun y hy => .inl hy))
      clear HZ6
      clear hF hp hrs hx7 HL6 HC6 d2 y2 l6 b3lt6 e14 f14
      generalize World.drew _ = w7 at *
      have hV : x7.toV = beginV x.toV ⟨mk, mc, (i : Int), ⟨m0, m1, m2, m3, m4, m5, m6, m7⟩⟩ := by
        rw [← HY7.out, ← HY6.out]
        unfold beginV
        rw [if_neg (show ¬ 0 ≤ x.toV.ow from by have := H0.out; show ¬ 0 ≤ x.ow; omega), if_neg (show ¬ (mk = 1 ∨ withoutL x.toV.sh mc = []) from by have := HO.out; rw [HSH.out] at this; show ¬ (mk = 1 ∨ withoutL x.sh mc = []); rw [this]; exact HOth.out), ← HO.out, ← HX22.out]; rfl
      have hM : beginVM x.toV ⟨mk, mc, (i : Int), ⟨m0, m1, m2, m3, m4, m5, m6, m7⟩⟩ (lineV n ws (i : Int)) = oth.map fun j => ⟨11, j, (i : Int), {}⟩ := by
        unfold beginVM
        rw [if_neg (show ¬ 0 ≤ x.toV.ow from by have := H0.out; show ¬ 0 ≤ x.ow; omega), if_neg (show ¬ (mk = 1 ∨ withoutL x.toV.sh mc = []) from by have := HO.out; rw [HSH.out] at this; show ¬ (mk = 1 ∨ withoutL x.sh mc = []); rw [this]; exact HOth.out), ← HO.out, ← HX22.out]; rfl
      have hS : rs7 = rs.set i x7 := by rw [← HRS7.out, ← HRS6.out, ← HRS.out, List.set_set, List.set_set]
      have HV := Lib.hid hV; have HMs := Lib.hid hM; have HSs := Lib.hid hS
      have Hsz : Hid (w.heap.size ≤ w7.heap.size) := Lib.hid HC7.out.size
      have Hb37 : Hid (b3 < w7.heap.size) := Lib.hid HB3.out.lt
      clear hV hM hS hpos hob
      obtain ⟨j0, hj, hy0, hy1, hy2⟩ := info_parts infoMsg
      go_wp2_with fail
      go_loopw [8, 9] (fun v q wr => ∃ k : Nat, k ≤ oth.length ∧ q = .int .i64 k ∧ Hid (Chg [] w7 wr) ∧ Hid (wr.ownsRow w7.heap.size 33 11 v (((oth.take k).map fun j => (⟨11, j, (i : Int), {}⟩ : MsgV))).length (((oth.take k).map fun j => (⟨11, j, (i : Int), {}⟩ : MsgV)).flatMap encM)))
        (fun _ q _ => oth.length - (intOf q).toNat)
      case atStart => exact ⟨0, by omega, rfl, Lib.hid (Chg.refl _ _), Lib.hid (World.ownsRow_nil _ _ _ _)⟩
      case round =>
        obtain ⟨k, hk, rfl, hC, hO⟩ := hrel
        by_cases hlt : k < oth.length
        · obtain ⟨b, off, hA, hb, hc⟩ := rd_cell HZ7.out.rd hlt
          subst hA
          have hwt := hC.out.size
          have hy : wr.cell? ⟨b, off + k, none⟩ = some (.int .i64 oth[k]) := (hC.out.cell0 hb _).trans hc
          have y2 : wr.cell? ⟨b3, 2, none⟩ = some (.int .i64 (i : Int)) := (hC.out.blk HB3.out (by simp)).cell 2
          have hnb : b ∉ u8.ownBlock.toList := fun hm => Nat.lt_irrefl _ (Nat.lt_of_lt_of_le hb (hO.out.lt b (by simpa using hm)).1)
          have hnb3 : b3 ∉ u8.ownBlock.toList := fun hm => Nat.lt_irrefl _ (Nat.lt_of_lt_of_le Hb37.out (hO.out.lt b3 (by simpa using hm)).1)
          have hTk : ∀ (l : List Int), ((l.take (k + 1)).map fun j => (⟨11, j, (i : Int), {}⟩ : MsgV)) = ((l.take (k + 1)).map fun j => (⟨11, j, (i : Int), {}⟩ : MsgV)) := fun _ => rfl
          have hTT : ((oth.take (k + 1)).map fun j => (⟨11, j, (i : Int), {}⟩ : MsgV)) = ((oth.take k).map fun j => (⟨11, j, (i : Int), {}⟩ : MsgV)) ++ [⟨11, oth[k], (i : Int), {}⟩] := by rw [List.take_succ_eq_append_getElem hlt, List.map_append]; rfl
          have hki : (k : Int) < oth.length := by omega
          have hll : (((oth.take k).map fun j => (⟨11, j, (i : Int), {}⟩ : MsgV))).length ≤ 1000 := by rw [List.length_map, List.length_take]; omega
          have HSk : Hid (∀ V, Chg u8.ownBlock.toList wr V → (V.cell? ⟨b, off + k, none⟩ = some (.int .i64 oth[k]) ∧ V.cell? ⟨b3, 2, none⟩ = some (.int .i64 (i : Int)))) := Lib.hid (fun V kk => ⟨(kk.cell (Nat.lt_of_lt_of_le hb hwt) hnb _).trans hy, (kk.cell (Nat.lt_of_lt_of_le Hb37.out hwt) hnb3 _).trans y2⟩)
          generalize oth[k] = yv at *
          have HTT := Lib.hid hTT; have HLL := Lib.hid hll; have Hwt := Lib.hid hwt
          obtain ⟨L, hL⟩ : ∃ L, ((oth.take k).map fun j => (⟨11, j, (i : Int), {}⟩ : MsgV)) = L := ⟨_, rfl⟩
          rw [hL] at hO HTT HLL
          clear hTk hTT hll hwt hc hnb hnb3 hL
          go_upto_region 19 with fail
          go_region_held3 (fun V => V.cell? ⟨b, off + k, none⟩ = some (.int .i64 yv) ∧ V.cell? ⟨b3, 2, none⟩ = some (.int .i64 (i : Int))) (first | exact HSk.out _ HKz.out | exact HSk.out _ (by repeat (first | with_reducible exact Chg.refl _ _ | with_reducible refine Chg.drew ?_ | with_reducible refine Chg.alloc ?_ _ | with_reducible refine Chg.setCell ?_ (fun h => absurd h (Nat.lt_irrefl _)) _))) (first | (refine step_append_row rfl (.tmp 99) (.tmp 107) rfl j0 hj hy0 hy1 hy2 rfl (ownsRow_drew (hO.out.alloc _)) ⟨wr.heap.size, 0, none⟩ 1 rfl ⟨11, yv, (i : Int), {}⟩ (fun j u h => new_cells _ _ _ j u h) (Nat.le_trans HLL.out (by decide)) (Nat.le_trans Hwt.out (size_alloc_drew _ _)) ?_; intro va wa ho9 hg9 hb9; have HO9 := Lib.hid ho9; have HKz : Hid (Chg u8.ownBlock.toList wr wa) := Lib.hid ((((Chg.refl u8.ownBlock.toList wr).alloc _).drew).trans (Chg.of_grown hg9)); have HG9 := Lib.hid (((hC.out.alloc _).drew).grown hg9 (fun q hq hl2 => absurd hl2 (Nat.not_lt.2 (hO.out.lt q hq).1))); clear ho9 hg9 hb9) | fail)
          go_wp2_with fail
          go_roundw
          case rel =>
            refine ⟨k + 1, by omega, by go_num, ?_, ?_⟩
            · exact HG9
            · exact Lib.hid (by rw [HTT.out, List.length_append, List.flatMap_append]; exact HO9.out)
          case measure => simp [intOf]; omega
        · obtain rfl : k = oth.length := by omega
          rw [List.take_length] at hO
          go_wp2_with fail
          go_ret
          refine ⟨_, x7, rfl, HV.out, ?_, ?_, HC7.out.trans (hC.out.mono (by simp))⟩
          · rw [HMs.out]; exact ownsRow_base hO.out Hsz.out
          · rw [← HSs.out]; exact HL7.out.look hC.out


end Go.Proofs.Ytepdhajgemmoiaa
