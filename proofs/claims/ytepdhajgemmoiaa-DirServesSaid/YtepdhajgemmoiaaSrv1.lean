/- The law's world in memory: take, hear, what steps turn. -/
import Derived.Test.YtepdhajgemmoiaaDir15
import Derived.Test.YtepdhajgemmoiaaDir22
import Derived.Test.YtepdhajgemmoiaaDirQ
import Derived.Laws.AppendOwnNone
import Derived.Deep.RegionHeld3
namespace Go.Proofs.Ytepdhajgemmoiaa
set_option maxRecDepth 100000
set_option linter.unusedSimpArgs false
set_option linter.unusedVariables false
open Go.RowKit


def encH (x : HonV) : List Value := [.int .i64 x.st, .int .u64 x.d.x0, .int .u64 x.d.x1, .int .u64 x.d.x2, .int .u64 x.d.x3, .int .u64 x.d.x4, .int .u64 x.d.x5, .int .u64 x.d.x6, .int .u64 x.d.x7, .bool x.asks, .bool x.back]
theorem encH_len (x : HonV) : (encH x).length = 11 := rfl
def mcells (m : MsgV) : Value := .agg #[.int .i64 m.k, .int .i64 m.c, .int .i64 m.l, .int .u64 m.d.x0, .int .u64 m.d.x1, .int .u64 m.d.x2, .int .u64 m.d.x3, .int .u64 m.d.x4, .int .u64 m.d.x5, .int .u64 m.d.x6, .int .u64 m.d.x7]

/-- Append of one message onto a row of our own. -/
theorem run_append_row {w : World} {base : Nat} {v : Value} {n : Nat} {xs : List Value} (ty : TypeId) (i : TypeInfo) (hi : Try.prog.info? 33 = some i) (hz : i.zero = some (.agg #[.int .i64 0, .int .i64 0, .int .i64 0, .int .u64 0, .int .u64 0, .int .u64 0, .int .u64 0, .int .u64 0, .int .u64 0, .int .u64 0, .int .u64 0])) (h4 : i.size = 11) (h5 : i.bytes = 88)
    (hown : w.ownsRow base 33 11 v n xs) (ad : Addr) (c : Nat) (m : MsgV) (hm : ∀ j u, (encM m)[j]? = some u → w.cell? (ad.add j) = some u) (hl : n ≤ 100000) (hb : base ≤ w.heap.size) :
    ∃ v' w', (Builtin.append_ #[26, 26] ty #[v, .slice (some ad) 1 c]).run Try.prog w = .ok v' w' ∧ w'.ownsRow base 33 11 v' (n + 1) (xs ++ encM m) ∧ w.grownBy w' v.ownBlock ∧ (v'.ownBlock = v.ownBlock ∨ v'.ownBlock = some w.heap.size) := by
  obtain ⟨v', w', hr, h1, h2, _, h3⟩ := run_append_own_at (P := Try.prog) w base 26 ty 33 i _ 11 88 Try.underlying26 hi hz h4 h5 rfl (by decide) v n xs hown ad 1 c (encM m) (by rw [encM_len]) hm (encM_one m) (by unfold maxLen; omega) (by omega) hb
  exact ⟨v', w', hr, h1, h2, h3⟩
/-- At a step of a region that draws. -/
theorem step_append_row {w : World} {base : Nat} {v : Value} {n : Nat} {xs : List Value} {ops : Array Oper} {o : Oper} {a : Act} {K : Act → World → Prop} {Q : Exit → Act → World → Prop} {E : Prop} (hgd : o.guard = none) (s x : Operand)
    (ho : o.op = .call { callee := .builtin .append, args := #[s, x], argTypes := #[26, 26] })
    (i : TypeInfo) (hi : Try.prog.info? 33 = some i) (hz : i.zero = some (.agg #[.int .i64 0, .int .i64 0, .int .i64 0, .int .u64 0, .int .u64 0, .int .u64 0, .int .u64 0, .int .u64 0, .int .u64 0, .int .u64 0, .int .u64 0])) (h4 : i.size = 11) (h5 : i.bytes = 88)
    (hs : a.eval s = v) (hown : w.ownsRow base 33 11 v n xs) (ad : Addr) (c : Nat) (hx : a.eval x = .slice (some ad) 1 c) (m : MsgV) (hm : ∀ j u, (encM m)[j]? = some u → w.cell? (ad.add j) = some u) (hl : n ≤ 100000) (hb : base ≤ w.heap.size)
    (h : ∀ v' w', w'.ownsRow base 33 11 v' (n + 1) (xs ++ encM m) → w.grownBy w' v.ownBlock → (v'.ownBlock = v.ownBlock ∨ v'.ownBlock = some w.heap.size) → K (a.put o.dst v') w') :
    if Region.wanted o (yielded ops a.tmps) = true then Oper.wp Try.prog o a w K Q else E := by
  have hw : Region.wanted o (yielded ops a.tmps) = true := by simp [Region.wanted, hgd]
  rw [if_pos hw]
  obtain ⟨v', w', hr, h1, h2, h3⟩ := run_append_row o.type i hi hz h4 h5 hown ad c m hm hl hb
  unfold Oper.wp execOp
  simp only [ho, resolve, invoke, builtin, Sem.run_bind, Sem.run_pure, Result.andThen_ok, List.map_toArray, List.map_cons, List.map_nil, hs, hx, hr]
  exact h v' w' h1 h2 h3

/-- Append of some messages. -/
theorem step_append_rows {w : World} {base : Nat} {v : Value} {n : Nat} {xs : List Value} {ops : Array Oper} {o : Oper} {a : Act} {K : Act → World → Prop} {Q : Exit → Act → World → Prop} {E : Prop} (hgd : o.guard = none) (s x : Operand)
    (ho : o.op = .call { callee := .builtin .append, args := #[s, x], argTypes := #[26, 26] })
    (i : TypeInfo) (hi : Try.prog.info? 33 = some i) (hz : i.zero = some (.agg #[.int .i64 0, .int .i64 0, .int .i64 0, .int .u64 0, .int .u64 0, .int .u64 0, .int .u64 0, .int .u64 0, .int .u64 0, .int .u64 0, .int .u64 0])) (h4 : i.size = 11) (h5 : i.bytes = 88)
    (hs : a.eval s = v) (hown : w.ownsRow base 33 11 v n xs) (ad : Addr) (mm c : Nat) (ms : List MsgV) (hml : ms.length = mm) (hx : a.eval x = .slice (some ad) mm c) (hm : ∀ j u, (ms.flatMap encM)[j]? = some u → w.cell? (ad.add j) = some u) (hl : n + ms.length ≤ 100000) (hb : base ≤ w.heap.size)
    (h : ∀ v' w', w'.ownsRow base 33 11 v' (n + ms.length) (xs ++ ms.flatMap encM) → w.grownBy w' v.ownBlock → (v'.ownBlock = v.ownBlock ∨ v'.ownBlock = some w.heap.size) → K (a.put o.dst v') w') :
    if Region.wanted o (yielded ops a.tmps) = true then Oper.wp Try.prog o a w K Q else E := by
  have hw : Region.wanted o (yielded ops a.tmps) = true := by simp [Region.wanted, hgd]
  rw [if_pos hw]
  subst hml
  have h1c : ∀ u ∈ ms.flatMap encM, u.oneCell' = true := by
    intro u hu
    obtain ⟨m, _, hu⟩ := List.mem_flatMap.1 hu
    exact encM_one m u hu
  obtain ⟨v', w', hr, h1, h2, _, h3⟩ := run_append_own_at (P := Try.prog) w base 26 o.type 33 i _ 11 88 Try.underlying26 hi hz h4 h5 rfl (by decide) v n xs hown ad ms.length c (ms.flatMap encM) (flat_len encM_len ms) hm h1c (by unfold maxLen; omega) (by omega) hb
  unfold Oper.wp execOp
  simp only [ho, resolve, invoke, builtin, Sem.run_bind, Sem.run_pure, Result.andThen_ok, List.map_toArray, List.map_cons, List.map_nil, hs, hx, hr]
  exact h v' w' h1 h2 h3

/-- The blocks of a slice that is a row. -/
def rowB (v : Value) : List Nat := v.ownBlock.toList
/-- The law's world. -/
structure SvW (N0 : Nat) (w : World) (b d bm bw bl bc : Nat) (vi vo : Value) (es : List EntV) (e0 : EntV) (S : SvS) (made got : Int) : Prop where
  blk : Blk w b [.pointer (some ⟨d, 0, none⟩), .slice (some ⟨bc, 0, none⟩) S.hs.length S.hs.length, vi, vo, .int .i64 made, .int .i64 got, .int .u64 S.val, .bool true] 48
  hon : Blk w bc (S.hs.flatMap encH) 91
  K : Knows w d bm bw bl 2 S.n S.ws es [e0, S.e]
  inn : w.ownsRow N0 33 11 vi S.inn.length (S.inn.flatMap encM)
  out : w.ownsRow N0 33 11 vo S.out.length (S.out.flatMap encM)
  lo : N0 ≤ b ∧ N0 ≤ bc ∧ N0 ≤ w.heap.size
  loD : ∀ g ∈ dirB bw bl es, N0 ≤ g
  sepI : Apart (rowB vi) (dirB bw bl es)
  sepO : Apart (rowB vo) (dirB bw bl es)
  sep : Apart (rowB vi) (rowB vo)

theorem row_ne {w : World} {base : Nat} {v : Value} {n : Nat} {xs : List Value} (h : w.ownsRow base 33 11 v n xs) {b : Nat} {l : List Value} {t : TypeId} (hb : Blk w b l t) (ht : t ≠ 33) : b ∉ rowB v := by
  intro hm
  rcases h.2 with ⟨rfl, _⟩ | ⟨g, cap, cur, rfl, _, hh, _⟩
  · simp [rowB, Value.ownBlock] at hm
  · simp [rowB, Value.ownBlock] at hm
    subst hm
    rw [show w.heap[b]? = _ from hb] at hh
    exact ht (by cases hh; rfl)
section
variable {N0 : Nat} {w w' : World} {b d bm bw bl bc : Nat} {vi vo : Value} {es : List EntV} {e0 : EntV} {S : SvS} {made got : Int}
theorem SvW.notDir (H : SvW N0 w b d bm bw bl bc vi vo es e0 S made got) : b ∉ dirB bw bl es ∧ bc ∉ dirB bw bl es := by
  have aux : ∀ {x : Nat} {l : List Value} {t : TypeId}, Blk w x l t → t ≠ 31 → t ≠ 79 → t ≠ 33 → x ∉ dirB bw bl es := by
    intro x l t hx h1 h2 h3 hm
    unfold dirB at hm
    rcases List.mem_cons.1 hm with h | h
    · subst h
      obtain ⟨_, hl⟩ := H.K.D.D.mem.l
      exact hx.ne hl h1 rfl
    rcases List.mem_cons.1 h with h | h
    · subst h; exact hx.ne H.K.D.D.ents h2 rfl
    obtain ⟨e, he, hg⟩ := List.mem_flatMap.1 h
    obtain ⟨j, hj, rfl⟩ := List.getElem_of_mem he
    exact (H.K.D.wait j hj).ne hx h3 x hg rfl
  exact ⟨aux H.blk (by decide) (by decide) (by decide), aux H.hon (by decide) (by decide) (by decide)⟩
theorem SvW.notRow (H : SvW N0 w b d bm bw bl bc vi vo es e0 S made got) : (b ∉ rowB vi ∧ bc ∉ rowB vi) ∧ (b ∉ rowB vo ∧ bc ∉ rowB vo) :=
  ⟨⟨row_ne H.inn H.blk (by decide), row_ne H.inn H.hon (by decide)⟩, row_ne H.out H.blk (by decide), row_ne H.out H.hon (by decide)⟩
theorem SvW.look (H : SvW N0 w b d bm bw bl bc vi vo es e0 S made got) (k : Chg [] w w') : SvW N0 w' b d bm bw bl bc vi vo es e0 S made got :=
  ⟨k.blk H.blk (by simp), k.blk H.hon (by simp), H.K.look k, ownsRow_chg H.inn k (by simp), ownsRow_chg H.out k (by simp), ⟨H.lo.1, H.lo.2.1, Nat.le_trans H.lo.2.2 k.size⟩, H.loD, H.sepI, H.sepO, H.sep⟩
theorem SvW.ne (H : SvW N0 w b d bm bw bl bc vi vo es e0 S made got) : b ≠ bc := H.blk.ne H.hon (by decide)
end


def TakePost (w : World) (l : List MsgV) (k : Nat) (m : MsgV) (e : Ending) (w' : World) : Prop :=
  ∃ v, e = .returned (.tuple #[mcells m, v]) ∧ w'.ownsRow w.heap.size 33 11 v (l.take k ++ l.drop (k + 1)).length ((l.take k ++ l.drop (k + 1)).flatMap encM) ∧ Chg [] w w'
theorem encs_one (l : List MsgV) : ∀ u ∈ l.flatMap encM, u.oneCell' = true := fun u hu => by
  obtain ⟨m, _, hu⟩ := List.mem_flatMap.1 hu
  exact encM_one m u hu
/-- Cells of a part of a list. -/
theorem part_cells {w : World} {g : Nat} {l : List MsgV} (hc : ∀ (i : Nat) (hi : i < l.length) (j : Nat), j < 11 → w.cell? ⟨g, i * 11 + j, none⟩ = (encM l[i])[j]?) {k : Nat} {p : List MsgV} (hp : ∀ (i : Nat) (hi : i < p.length), ∃ h : k + i < l.length, p[i] = l[k + i]) :
    ∀ ad, (some ⟨g, k * 11, none⟩ : Option Addr) = some ad → ∀ j u, (p.flatMap encM)[j]? = some u → w.cell? (ad.add j) = some u := by
  refine Rd.news (B := g + 1) (by decide) encM_len (fun _ => ⟨g, k * 11, rfl, by omega, fun i hi j hj => ?_⟩)
  obtain ⟨h, e⟩ := hp i hi
  rw [e, ← hc (k + i) h j hj]
  congr 2
  rw [Nat.add_mul]; omega

set_option maxHeartbeats 4000000 in
theorem take_any (w : World) (g cap : Nat) (l : List MsgV) (k : Nat) (hk : k < l.length) (hl : l.length ≤ 1000) (hcap : l.length ≤ cap) (hmx : cap ≤ maxLen) (hg : g < w.heap.size) (hc : ∀ (i : Nat) (hi : i < l.length) (j : Nat), j < 11 → w.cell? ⟨g, i * 11 + j, none⟩ = (encM l[i])[j]?) :
    Calls Try.prog 33 #[.slice (some ⟨g, 0, none⟩) l.length cap, .int .i64 (k : Int)] w (TakePost w l k l[k]) := by
  obtain ⟨j0, hj, hy0, hy1, hy2⟩ := info_parts infoMsg
  have hal : Chg [] w (w.alloc (.cells #[.int .i64 0, .int .i64 0, .int .i64 0, .int .u64 0, .int .u64 0, .int .u64 0, .int .u64 0, .int .u64 0, .int .u64 0, .int .u64 0, .int .u64 0] 33)) := (Chg.refl [] w).alloc _
  have HB := Lib.hid (Blk.new w [.int .i64 0, .int .i64 0, .int .i64 0, .int .u64 0, .int .u64 0, .int .u64 0, .int .u64 0, .int .u64 0, .int .u64 0, .int .u64 0, .int .u64 0] 33)
  have HC := Lib.hid hal
  have HK : Hid (∀ (i : Nat) (hi : i < l.length) (j : Nat), j < 11 → _) := Lib.hid (fun i hi j hj => (hal.cell0 hg (i * 11 + j)).trans (hc i hi j hj))
  clear hc hal
  go_enter Try.func33, Try.ntmps33
  go_upto_region 2 with fail
  generalize World.alloc _ _ = wa at *
  obtain ⟨b, hb⟩ : ∃ b, w.heap.size = b := ⟨_, rfl⟩
  have HNb := Lib.hid hb
  rw [hb] at HB ⊢
  rw [hb] at hg
  clear hb
  have hbs : b < wa.heap.size := HB.out.lt
  have h1 : ∀ ad, (some ⟨g, 0, none⟩ : Option Addr) = some ad → ∀ j u, ((l.take k).flatMap encM)[j]? = some u → wa.cell? (ad.add j) = some u := by
    have := part_cells HK.out (k := 0) (p := l.take k) (fun i hi => ⟨by simp at hi; omega, by simp⟩)
    simpa using this
  have H1 := Lib.hid h1; clear h1
  have HL := Lib.hid (flat_len encM_len (l.take k)); 
  rw [List.length_take, Nat.min_eq_left (by omega)] at HL
  go_wp2_with (first | (at_builtin; refine wpList_append_own_any _ rfl (.tmp 7) (.tmp 10) 26 rfl (wa.heap.size) 33 j0 (.agg #[.int .i64 0, .int .i64 0, .int .i64 0, .int .u64 0, .int .u64 0, .int .u64 0, .int .u64 0, .int .u64 0, .int .u64 0, .int .u64 0, .int .u64 0]) 11 88 Try.underlying26 hj hy0 hy1 hy2 rfl (by decide) _ _ _ rfl (World.ownsRow_nil _ _ _ _) (some ⟨g, 0, none⟩) (k) (cap) ((l.take k).flatMap encM) rfl (fun h => nomatch h) (HL.out) (by omega) H1.out (encs_one _) (by unfold maxLen; omega) (by omega) (by first | omega | (simp; omega) | simp) ?_; intro va1 wa1 hown1 hgrow1 hblk1 hnil1; have hsz1 := hgrow1.size; have HO1 := Lib.hid hown1; have HG1 := Lib.hid hgrow1; have HB1 := Lib.hid hblk1; have HZ1 := Lib.hid hnil1; clear hown1 hgrow1 hblk1 hnil1) | fail)
  have hC1 : Chg [] wa wa1 := Chg.of_grown (show wa.grownBy wa1 none from HG1.out)
  have HC1 := Lib.hid hC1
  have HB2 := Lib.hid (hC1.blk HB.out (by simp))
  have hga : g < wa.heap.size := by omega
  have HKK : Hid (∀ (i : Nat) (hi : i < l.length) (j : Nat), j < 11 → wa1.cell? ⟨g, i * 11 + j, none⟩ = (encM l[i])[j]?) := Lib.hid (fun i hi j hj => (hC1.cell0 hga (i * 11 + j)).trans (HK.out i hi j hj))
  clear hC1
  have p0 : wa1.cell? ⟨g, k * 11, none⟩ = some (.int .i64 l[k].k) := HKK.out k hk 0 (by decide)
  have p1 : wa1.cell? ⟨g, k * 11 + 1, none⟩ = some (.int .i64 l[k].c) := HKK.out k hk 1 (by decide)
  have p2 : wa1.cell? ⟨g, k * 11 + 2, none⟩ = some (.int .i64 l[k].l) := HKK.out k hk 2 (by decide)
  have p3 : wa1.cell? ⟨g, k * 11 + 3, none⟩ = some (.int .u64 l[k].d.x0) := HKK.out k hk 3 (by decide)
  have p4 : wa1.cell? ⟨g, k * 11 + 4, none⟩ = some (.int .u64 l[k].d.x1) := HKK.out k hk 4 (by decide)
  have p5 : wa1.cell? ⟨g, k * 11 + 5, none⟩ = some (.int .u64 l[k].d.x2) := HKK.out k hk 5 (by decide)
  have p6 : wa1.cell? ⟨g, k * 11 + 6, none⟩ = some (.int .u64 l[k].d.x3) := HKK.out k hk 6 (by decide)
  have p7 : wa1.cell? ⟨g, k * 11 + 7, none⟩ = some (.int .u64 l[k].d.x4) := HKK.out k hk 7 (by decide)
  have p8 : wa1.cell? ⟨g, k * 11 + 8, none⟩ = some (.int .u64 l[k].d.x5) := HKK.out k hk 8 (by decide)
  have p9 : wa1.cell? ⟨g, k * 11 + 9, none⟩ = some (.int .u64 l[k].d.x6) := HKK.out k hk 9 (by decide)
  have p10 : wa1.cell? ⟨g, k * 11 + 10, none⟩ = some (.int .u64 l[k].d.x7) := HKK.out k hk 10 (by decide)
  have hga1 : g < wa1.heap.size := by omega
  have hbs1 : b < wa1.heap.size := by omega
  have fin : ∀ {v2 : Value} {w3 : World}, w3.ownsRow wa.heap.size 33 11 v2 (0 + k + (l.drop (k + 1)).length) ([] ++ (l.take k).flatMap encM ++ (l.drop (k + 1)).flatMap encM) → w3.ownsRow w.heap.size 33 11 v2 (l.take k ++ l.drop (k + 1)).length ((l.take k ++ l.drop (k + 1)).flatMap encM) := by
    intro v2 w3 h
    rw [List.length_append, List.flatMap_append, List.length_take, Nat.min_eq_left (by omega)]
    rw [Nat.zero_add, List.nil_append] at h
    exact ownsRow_base h HC.out.size
  have hgb : g ≠ b := by omega
  have hwk : IntKind.i64.wrap ((k : Int) + 1) = (k : Int) + 1 := IntWalk.i64_in _ (by omega)
  have hk0 : 0 ≤ (k : Int) + 1 := by omega
  have hk1 : (k : Int) + 1 ≤ l.length := by omega
  have hk2 : (k : Int) + 1 ≤ cap := by omega
  have hk3 : k + 1 ≤ cap := by omega
  have hk4 : k + 1 ≤ l.length := by omega
  by_cases hce : cap = k + 1
  · have HM : Hid (∀ j u, ((l.drop (k + 1)).flatMap encM)[j]? = some u → wa1.drew.cell? ((⟨g, 0, none⟩ : Addr).add j) = some u) := Lib.hid (by rw [List.drop_eq_nil_of_le (by omega)]; intro j u h; simp at h)
    go_region_held3 (fun w' => w'.cell? ⟨g, k * 11, none⟩ = some (.int .i64 l[k].k) ∧ w'.cell? ⟨g, k * 11 + 1, none⟩ = some (.int .i64 l[k].c) ∧ w'.cell? ⟨g, k * 11 + 2, none⟩ = some (.int .i64 l[k].l) ∧ w'.cell? ⟨g, k * 11 + 3, none⟩ = some (.int .u64 l[k].d.x0) ∧ w'.cell? ⟨g, k * 11 + 4, none⟩ = some (.int .u64 l[k].d.x1) ∧ w'.cell? ⟨g, k * 11 + 5, none⟩ = some (.int .u64 l[k].d.x2) ∧ w'.cell? ⟨g, k * 11 + 6, none⟩ = some (.int .u64 l[k].d.x3) ∧ w'.cell? ⟨g, k * 11 + 7, none⟩ = some (.int .u64 l[k].d.x4) ∧ w'.cell? ⟨g, k * 11 + 8, none⟩ = some (.int .u64 l[k].d.x5) ∧ w'.cell? ⟨g, k * 11 + 9, none⟩ = some (.int .u64 l[k].d.x6) ∧ w'.cell? ⟨g, k * 11 + 10, none⟩ = some (.int .u64 l[k].d.x7)) (first | with_reducible exact ⟨q0, q1, q2, q3, q4, q5, q6, q7, q8, q9, q10⟩ | exact ⟨(Chg.cell ((((((((((((Chg.refl [b] w2).setCell (p := ⟨b, 0, none⟩) (fun _ => List.mem_singleton.2 rfl) (.int .i64 l[k].k)).setCell (p := ⟨b, 1, none⟩) (fun _ => List.mem_singleton.2 rfl) (.int .i64 l[k].c)).setCell (p := ⟨b, 2, none⟩) (fun _ => List.mem_singleton.2 rfl) (.int .i64 l[k].l)).setCell (p := ⟨b, 3, none⟩) (fun _ => List.mem_singleton.2 rfl) (.int .u64 l[k].d.x0)).setCell (p := ⟨b, 4, none⟩) (fun _ => List.mem_singleton.2 rfl) (.int .u64 l[k].d.x1)).setCell (p := ⟨b, 5, none⟩) (fun _ => List.mem_singleton.2 rfl) (.int .u64 l[k].d.x2)).setCell (p := ⟨b, 6, none⟩) (fun _ => List.mem_singleton.2 rfl) (.int .u64 l[k].d.x3)).setCell (p := ⟨b, 7, none⟩) (fun _ => List.mem_singleton.2 rfl) (.int .u64 l[k].d.x4)).setCell (p := ⟨b, 8, none⟩) (fun _ => List.mem_singleton.2 rfl) (.int .u64 l[k].d.x5)).setCell (p := ⟨b, 9, none⟩) (fun _ => List.mem_singleton.2 rfl) (.int .u64 l[k].d.x6)).setCell (p := ⟨b, 10, none⟩) (fun _ => List.mem_singleton.2 rfl) (.int .u64 l[k].d.x7)) hga2 (by simpa using hgb) _).trans q0, (Chg.cell ((((((((((((Chg.refl [b] w2).setCell (p := ⟨b, 0, none⟩) (fun _ => List.mem_singleton.2 rfl) (.int .i64 l[k].k)).setCell (p := ⟨b, 1, none⟩) (fun _ => List.mem_singleton.2 rfl) (.int .i64 l[k].c)).setCell (p := ⟨b, 2, none⟩) (fun _ => List.mem_singleton.2 rfl) (.int .i64 l[k].l)).setCell (p := ⟨b, 3, none⟩) (fun _ => List.mem_singleton.2 rfl) (.int .u64 l[k].d.x0)).setCell (p := ⟨b, 4, none⟩) (fun _ => List.mem_singleton.2 rfl) (.int .u64 l[k].d.x1)).setCell (p := ⟨b, 5, none⟩) (fun _ => List.mem_singleton.2 rfl) (.int .u64 l[k].d.x2)).setCell (p := ⟨b, 6, none⟩) (fun _ => List.mem_singleton.2 rfl) (.int .u64 l[k].d.x3)).setCell (p := ⟨b, 7, none⟩) (fun _ => List.mem_singleton.2 rfl) (.int .u64 l[k].d.x4)).setCell (p := ⟨b, 8, none⟩) (fun _ => List.mem_singleton.2 rfl) (.int .u64 l[k].d.x5)).setCell (p := ⟨b, 9, none⟩) (fun _ => List.mem_singleton.2 rfl) (.int .u64 l[k].d.x6)).setCell (p := ⟨b, 10, none⟩) (fun _ => List.mem_singleton.2 rfl) (.int .u64 l[k].d.x7)) hga2 (by simpa using hgb) _).trans q1, (Chg.cell ((((((((((((Chg.refl [b] w2).setCell (p := ⟨b, 0, none⟩) (fun _ => List.mem_singleton.2 rfl) (.int .i64 l[k].k)).setCell (p := ⟨b, 1, none⟩) (fun _ => List.mem_singleton.2 rfl) (.int .i64 l[k].c)).setCell (p := ⟨b, 2, none⟩) (fun _ => List.mem_singleton.2 rfl) (.int .i64 l[k].l)).setCell (p := ⟨b, 3, none⟩) (fun _ => List.mem_singleton.2 rfl) (.int .u64 l[k].d.x0)).setCell (p := ⟨b, 4, none⟩) (fun _ => List.mem_singleton.2 rfl) (.int .u64 l[k].d.x1)).setCell (p := ⟨b, 5, none⟩) (fun _ => List.mem_singleton.2 rfl) (.int .u64 l[k].d.x2)).setCell (p := ⟨b, 6, none⟩) (fun _ => List.mem_singleton.2 rfl) (.int .u64 l[k].d.x3)).setCell (p := ⟨b, 7, none⟩) (fun _ => List.mem_singleton.2 rfl) (.int .u64 l[k].d.x4)).setCell (p := ⟨b, 8, none⟩) (fun _ => List.mem_singleton.2 rfl) (.int .u64 l[k].d.x5)).setCell (p := ⟨b, 9, none⟩) (fun _ => List.mem_singleton.2 rfl) (.int .u64 l[k].d.x6)).setCell (p := ⟨b, 10, none⟩) (fun _ => List.mem_singleton.2 rfl) (.int .u64 l[k].d.x7)) hga2 (by simpa using hgb) _).trans q2, (Chg.cell ((((((((((((Chg.refl [b] w2).setCell (p := ⟨b, 0, none⟩) (fun _ => List.mem_singleton.2 rfl) (.int .i64 l[k].k)).setCell (p := ⟨b, 1, none⟩) (fun _ => List.mem_singleton.2 rfl) (.int .i64 l[k].c)).setCell (p := ⟨b, 2, none⟩) (fun _ => List.mem_singleton.2 rfl) (.int .i64 l[k].l)).setCell (p := ⟨b, 3, none⟩) (fun _ => List.mem_singleton.2 rfl) (.int .u64 l[k].d.x0)).setCell (p := ⟨b, 4, none⟩) (fun _ => List.mem_singleton.2 rfl) (.int .u64 l[k].d.x1)).setCell (p := ⟨b, 5, none⟩) (fun _ => List.mem_singleton.2 rfl) (.int .u64 l[k].d.x2)).setCell (p := ⟨b, 6, none⟩) (fun _ => List.mem_singleton.2 rfl) (.int .u64 l[k].d.x3)).setCell (p := ⟨b, 7, none⟩) (fun _ => List.mem_singleton.2 rfl) (.int .u64 l[k].d.x4)).setCell (p := ⟨b, 8, none⟩) (fun _ => List.mem_singleton.2 rfl) (.int .u64 l[k].d.x5)).setCell (p := ⟨b, 9, none⟩) (fun _ => List.mem_singleton.2 rfl) (.int .u64 l[k].d.x6)).setCell (p := ⟨b, 10, none⟩) (fun _ => List.mem_singleton.2 rfl) (.int .u64 l[k].d.x7)) hga2 (by simpa using hgb) _).trans q3, (Chg.cell ((((((((((((Chg.refl [b] w2).setCell (p := ⟨b, 0, none⟩) (fun _ => List.mem_singleton.2 rfl) (.int .i64 l[k].k)).setCell (p := ⟨b, 1, none⟩) (fun _ => List.mem_singleton.2 rfl) (.int .i64 l[k].c)).setCell (p := ⟨b, 2, none⟩) (fun _ => List.mem_singleton.2 rfl) (.int .i64 l[k].l)).setCell (p := ⟨b, 3, none⟩) (fun _ => List.mem_singleton.2 rfl) (.int .u64 l[k].d.x0)).setCell (p := ⟨b, 4, none⟩) (fun _ => List.mem_singleton.2 rfl) (.int .u64 l[k].d.x1)).setCell (p := ⟨b, 5, none⟩) (fun _ => List.mem_singleton.2 rfl) (.int .u64 l[k].d.x2)).setCell (p := ⟨b, 6, none⟩) (fun _ => List.mem_singleton.2 rfl) (.int .u64 l[k].d.x3)).setCell (p := ⟨b, 7, none⟩) (fun _ => List.mem_singleton.2 rfl) (.int .u64 l[k].d.x4)).setCell (p := ⟨b, 8, none⟩) (fun _ => List.mem_singleton.2 rfl) (.int .u64 l[k].d.x5)).setCell (p := ⟨b, 9, none⟩) (fun _ => List.mem_singleton.2 rfl) (.int .u64 l[k].d.x6)).setCell (p := ⟨b, 10, none⟩) (fun _ => List.mem_singleton.2 rfl) (.int .u64 l[k].d.x7)) hga2 (by simpa using hgb) _).trans q4, (Chg.cell ((((((((((((Chg.refl [b] w2).setCell (p := ⟨b, 0, none⟩) (fun _ => List.mem_singleton.2 rfl) (.int .i64 l[k].k)).setCell (p := ⟨b, 1, none⟩) (fun _ => List.mem_singleton.2 rfl) (.int .i64 l[k].c)).setCell (p := ⟨b, 2, none⟩) (fun _ => List.mem_singleton.2 rfl) (.int .i64 l[k].l)).setCell (p := ⟨b, 3, none⟩) (fun _ => List.mem_singleton.2 rfl) (.int .u64 l[k].d.x0)).setCell (p := ⟨b, 4, none⟩) (fun _ => List.mem_singleton.2 rfl) (.int .u64 l[k].d.x1)).setCell (p := ⟨b, 5, none⟩) (fun _ => List.mem_singleton.2 rfl) (.int .u64 l[k].d.x2)).setCell (p := ⟨b, 6, none⟩) (fun _ => List.mem_singleton.2 rfl) (.int .u64 l[k].d.x3)).setCell (p := ⟨b, 7, none⟩) (fun _ => List.mem_singleton.2 rfl) (.int .u64 l[k].d.x4)).setCell (p := ⟨b, 8, none⟩) (fun _ => List.mem_singleton.2 rfl) (.int .u64 l[k].d.x5)).setCell (p := ⟨b, 9, none⟩) (fun _ => List.mem_singleton.2 rfl) (.int .u64 l[k].d.x6)).setCell (p := ⟨b, 10, none⟩) (fun _ => List.mem_singleton.2 rfl) (.int .u64 l[k].d.x7)) hga2 (by simpa using hgb) _).trans q5, (Chg.cell ((((((((((((Chg.refl [b] w2).setCell (p := ⟨b, 0, none⟩) (fun _ => List.mem_singleton.2 rfl) (.int .i64 l[k].k)).setCell (p := ⟨b, 1, none⟩) (fun _ => List.mem_singleton.2 rfl) (.int .i64 l[k].c)).setCell (p := ⟨b, 2, none⟩) (fun _ => List.mem_singleton.2 rfl) (.int .i64 l[k].l)).setCell (p := ⟨b, 3, none⟩) (fun _ => List.mem_singleton.2 rfl) (.int .u64 l[k].d.x0)).setCell (p := ⟨b, 4, none⟩) (fun _ => List.mem_singleton.2 rfl) (.int .u64 l[k].d.x1)).setCell (p := ⟨b, 5, none⟩) (fun _ => List.mem_singleton.2 rfl) (.int .u64 l[k].d.x2)).setCell (p := ⟨b, 6, none⟩) (fun _ => List.mem_singleton.2 rfl) (.int .u64 l[k].d.x3)).setCell (p := ⟨b, 7, none⟩) (fun _ => List.mem_singleton.2 rfl) (.int .u64 l[k].d.x4)).setCell (p := ⟨b, 8, none⟩) (fun _ => List.mem_singleton.2 rfl) (.int .u64 l[k].d.x5)).setCell (p := ⟨b, 9, none⟩) (fun _ => List.mem_singleton.2 rfl) (.int .u64 l[k].d.x6)).setCell (p := ⟨b, 10, none⟩) (fun _ => List.mem_singleton.2 rfl) (.int .u64 l[k].d.x7)) hga2 (by simpa using hgb) _).trans q6, (Chg.cell ((((((((((((Chg.refl [b] w2).setCell (p := ⟨b, 0, none⟩) (fun _ => List.mem_singleton.2 rfl) (.int .i64 l[k].k)).setCell (p := ⟨b, 1, none⟩) (fun _ => List.mem_singleton.2 rfl) (.int .i64 l[k].c)).setCell (p := ⟨b, 2, none⟩) (fun _ => List.mem_singleton.2 rfl) (.int .i64 l[k].l)).setCell (p := ⟨b, 3, none⟩) (fun _ => List.mem_singleton.2 rfl) (.int .u64 l[k].d.x0)).setCell (p := ⟨b, 4, none⟩) (fun _ => List.mem_singleton.2 rfl) (.int .u64 l[k].d.x1)).setCell (p := ⟨b, 5, none⟩) (fun _ => List.mem_singleton.2 rfl) (.int .u64 l[k].d.x2)).setCell (p := ⟨b, 6, none⟩) (fun _ => List.mem_singleton.2 rfl) (.int .u64 l[k].d.x3)).setCell (p := ⟨b, 7, none⟩) (fun _ => List.mem_singleton.2 rfl) (.int .u64 l[k].d.x4)).setCell (p := ⟨b, 8, none⟩) (fun _ => List.mem_singleton.2 rfl) (.int .u64 l[k].d.x5)).setCell (p := ⟨b, 9, none⟩) (fun _ => List.mem_singleton.2 rfl) (.int .u64 l[k].d.x6)).setCell (p := ⟨b, 10, none⟩) (fun _ => List.mem_singleton.2 rfl) (.int .u64 l[k].d.x7)) hga2 (by simpa using hgb) _).trans q7, (Chg.cell ((((((((((((Chg.refl [b] w2).setCell (p := ⟨b, 0, none⟩) (fun _ => List.mem_singleton.2 rfl) (.int .i64 l[k].k)).setCell (p := ⟨b, 1, none⟩) (fun _ => List.mem_singleton.2 rfl) (.int .i64 l[k].c)).setCell (p := ⟨b, 2, none⟩) (fun _ => List.mem_singleton.2 rfl) (.int .i64 l[k].l)).setCell (p := ⟨b, 3, none⟩) (fun _ => List.mem_singleton.2 rfl) (.int .u64 l[k].d.x0)).setCell (p := ⟨b, 4, none⟩) (fun _ => List.mem_singleton.2 rfl) (.int .u64 l[k].d.x1)).setCell (p := ⟨b, 5, none⟩) (fun _ => List.mem_singleton.2 rfl) (.int .u64 l[k].d.x2)).setCell (p := ⟨b, 6, none⟩) (fun _ => List.mem_singleton.2 rfl) (.int .u64 l[k].d.x3)).setCell (p := ⟨b, 7, none⟩) (fun _ => List.mem_singleton.2 rfl) (.int .u64 l[k].d.x4)).setCell (p := ⟨b, 8, none⟩) (fun _ => List.mem_singleton.2 rfl) (.int .u64 l[k].d.x5)).setCell (p := ⟨b, 9, none⟩) (fun _ => List.mem_singleton.2 rfl) (.int .u64 l[k].d.x6)).setCell (p := ⟨b, 10, none⟩) (fun _ => List.mem_singleton.2 rfl) (.int .u64 l[k].d.x7)) hga2 (by simpa using hgb) _).trans q8, (Chg.cell ((((((((((((Chg.refl [b] w2).setCell (p := ⟨b, 0, none⟩) (fun _ => List.mem_singleton.2 rfl) (.int .i64 l[k].k)).setCell (p := ⟨b, 1, none⟩) (fun _ => List.mem_singleton.2 rfl) (.int .i64 l[k].c)).setCell (p := ⟨b, 2, none⟩) (fun _ => List.mem_singleton.2 rfl) (.int .i64 l[k].l)).setCell (p := ⟨b, 3, none⟩) (fun _ => List.mem_singleton.2 rfl) (.int .u64 l[k].d.x0)).setCell (p := ⟨b, 4, none⟩) (fun _ => List.mem_singleton.2 rfl) (.int .u64 l[k].d.x1)).setCell (p := ⟨b, 5, none⟩) (fun _ => List.mem_singleton.2 rfl) (.int .u64 l[k].d.x2)).setCell (p := ⟨b, 6, none⟩) (fun _ => List.mem_singleton.2 rfl) (.int .u64 l[k].d.x3)).setCell (p := ⟨b, 7, none⟩) (fun _ => List.mem_singleton.2 rfl) (.int .u64 l[k].d.x4)).setCell (p := ⟨b, 8, none⟩) (fun _ => List.mem_singleton.2 rfl) (.int .u64 l[k].d.x5)).setCell (p := ⟨b, 9, none⟩) (fun _ => List.mem_singleton.2 rfl) (.int .u64 l[k].d.x6)).setCell (p := ⟨b, 10, none⟩) (fun _ => List.mem_singleton.2 rfl) (.int .u64 l[k].d.x7)) hga2 (by simpa using hgb) _).trans q9, (Chg.cell ((((((((((((Chg.refl [b] w2).setCell (p := ⟨b, 0, none⟩) (fun _ => List.mem_singleton.2 rfl) (.int .i64 l[k].k)).setCell (p := ⟨b, 1, none⟩) (fun _ => List.mem_singleton.2 rfl) (.int .i64 l[k].c)).setCell (p := ⟨b, 2, none⟩) (fun _ => List.mem_singleton.2 rfl) (.int .i64 l[k].l)).setCell (p := ⟨b, 3, none⟩) (fun _ => List.mem_singleton.2 rfl) (.int .u64 l[k].d.x0)).setCell (p := ⟨b, 4, none⟩) (fun _ => List.mem_singleton.2 rfl) (.int .u64 l[k].d.x1)).setCell (p := ⟨b, 5, none⟩) (fun _ => List.mem_singleton.2 rfl) (.int .u64 l[k].d.x2)).setCell (p := ⟨b, 6, none⟩) (fun _ => List.mem_singleton.2 rfl) (.int .u64 l[k].d.x3)).setCell (p := ⟨b, 7, none⟩) (fun _ => List.mem_singleton.2 rfl) (.int .u64 l[k].d.x4)).setCell (p := ⟨b, 8, none⟩) (fun _ => List.mem_singleton.2 rfl) (.int .u64 l[k].d.x5)).setCell (p := ⟨b, 9, none⟩) (fun _ => List.mem_singleton.2 rfl) (.int .u64 l[k].d.x6)).setCell (p := ⟨b, 10, none⟩) (fun _ => List.mem_singleton.2 rfl) (.int .u64 l[k].d.x7)) hga2 (by simpa using hgb) _).trans q10⟩ | go_keep) ((refine step_append_rows (by rfl) (.tmp 16) (.tmp 20) (by rfl) j0 hj hy0 hy1 hy2 (by rfl) HO1.out ⟨g, 0, none⟩ (l.length - (k + 1)) 0 (l.drop (k + 1)) List.length_drop (by rfl) HM.out (by rw [List.length_drop]; omega) (by have := hsz1; exact this) ?_; intro v2 w2 ho2 hg2 hb2; have hC2 := ((Chg.refl (rowB va1) wa1).drew).trans (Chg.of_grown hg2); have HC2 := Lib.hid hC2; have HO2 := Lib.hid ho2; have HBx := Lib.hid (hC2.blk HB2.out (ownsRow_notMem HO1.out hbs)); clear hC2 ho2 hg2 hb2 p0 p1 p2 p3 p4 p5 p6 p7 p8 p9 p10; have q0 : w2.cell? ⟨g, k * 11, none⟩ = some (.int .i64 l[k].k) := (HC2.out.cell hga1 (ownsRow_notMem HO1.out hga) _).trans (HKK.out k hk 0 (by decide)); have q1 : w2.cell? ⟨g, k * 11 + 1, none⟩ = some (.int .i64 l[k].c) := (HC2.out.cell hga1 (ownsRow_notMem HO1.out hga) _).trans (HKK.out k hk 1 (by decide)); have q2 : w2.cell? ⟨g, k * 11 + 2, none⟩ = some (.int .i64 l[k].l) := (HC2.out.cell hga1 (ownsRow_notMem HO1.out hga) _).trans (HKK.out k hk 2 (by decide)); have q3 : w2.cell? ⟨g, k * 11 + 3, none⟩ = some (.int .u64 l[k].d.x0) := (HC2.out.cell hga1 (ownsRow_notMem HO1.out hga) _).trans (HKK.out k hk 3 (by decide)); have q4 : w2.cell? ⟨g, k * 11 + 4, none⟩ = some (.int .u64 l[k].d.x1) := (HC2.out.cell hga1 (ownsRow_notMem HO1.out hga) _).trans (HKK.out k hk 4 (by decide)); have q5 : w2.cell? ⟨g, k * 11 + 5, none⟩ = some (.int .u64 l[k].d.x2) := (HC2.out.cell hga1 (ownsRow_notMem HO1.out hga) _).trans (HKK.out k hk 5 (by decide)); have q6 : w2.cell? ⟨g, k * 11 + 6, none⟩ = some (.int .u64 l[k].d.x3) := (HC2.out.cell hga1 (ownsRow_notMem HO1.out hga) _).trans (HKK.out k hk 6 (by decide)); have q7 : w2.cell? ⟨g, k * 11 + 7, none⟩ = some (.int .u64 l[k].d.x4) := (HC2.out.cell hga1 (ownsRow_notMem HO1.out hga) _).trans (HKK.out k hk 7 (by decide)); have q8 : w2.cell? ⟨g, k * 11 + 8, none⟩ = some (.int .u64 l[k].d.x5) := (HC2.out.cell hga1 (ownsRow_notMem HO1.out hga) _).trans (HKK.out k hk 8 (by decide)); have q9 : w2.cell? ⟨g, k * 11 + 9, none⟩ = some (.int .u64 l[k].d.x6) := (HC2.out.cell hga1 (ownsRow_notMem HO1.out hga) _).trans (HKK.out k hk 9 (by decide)); have q10 : w2.cell? ⟨g, k * 11 + 10, none⟩ = some (.int .u64 l[k].d.x7) := (HC2.out.cell hga1 (ownsRow_notMem HO1.out hga) _).trans (HKK.out k hk 10 (by decide)); have b0 : w2.cell? ⟨b, 0, none⟩ = some (.int .i64 0) := (HBx.out).cell 0; have c0 : w2.frozen? ⟨b, 0, none⟩ = false := (HBx.out).free 0; have b1 : w2.cell? ⟨b, 1, none⟩ = some (.int .i64 0) := (HBx.out).cell 1; have c1 : w2.frozen? ⟨b, 1, none⟩ = false := (HBx.out).free 1; have b2 : w2.cell? ⟨b, 2, none⟩ = some (.int .i64 0) := (HBx.out).cell 2; have c2 : w2.frozen? ⟨b, 2, none⟩ = false := (HBx.out).free 2; have b3 : w2.cell? ⟨b, 3, none⟩ = some (.int .u64 0) := (HBx.out).cell 3; have c3 : w2.frozen? ⟨b, 3, none⟩ = false := (HBx.out).free 3; have b4 : w2.cell? ⟨b, 4, none⟩ = some (.int .u64 0) := (HBx.out).cell 4; have c4 : w2.frozen? ⟨b, 4, none⟩ = false := (HBx.out).free 4; have b5 : w2.cell? ⟨b, 5, none⟩ = some (.int .u64 0) := (HBx.out).cell 5; have c5 : w2.frozen? ⟨b, 5, none⟩ = false := (HBx.out).free 5; have b6 : w2.cell? ⟨b, 6, none⟩ = some (.int .u64 0) := (HBx.out).cell 6; have c6 : w2.frozen? ⟨b, 6, none⟩ = false := (HBx.out).free 6; have b7 : w2.cell? ⟨b, 7, none⟩ = some (.int .u64 0) := (HBx.out).cell 7; have c7 : w2.frozen? ⟨b, 7, none⟩ = false := (HBx.out).free 7; have b8 : w2.cell? ⟨b, 8, none⟩ = some (.int .u64 0) := (HBx.out).cell 8; have c8 : w2.frozen? ⟨b, 8, none⟩ = false := (HBx.out).free 8; have b9 : w2.cell? ⟨b, 9, none⟩ = some (.int .u64 0) := (HBx.out).cell 9; have c9 : w2.frozen? ⟨b, 9, none⟩ = false := (HBx.out).free 9; have b10 : w2.cell? ⟨b, 10, none⟩ = some (.int .u64 0) := (HBx.out).cell 10; have c10 : w2.frozen? ⟨b, 10, none⟩ = false := (HBx.out).free 10; have hbs2 : b < w2.heap.size := HBx.out.lt; have hga2 : g < w2.heap.size := Nat.lt_of_lt_of_le hga1 HC2.out.size))
    all_goals (go_wp2_with fail; have hB3 : Blk _ b [.int .i64 l[k].k, .int .i64 l[k].c, .int .i64 l[k].l, .int .u64 l[k].d.x0, .int .u64 l[k].d.x1, .int .u64 l[k].d.x2, .int .u64 l[k].d.x3, .int .u64 l[k].d.x4, .int .u64 l[k].d.x5, .int .u64 l[k].d.x6, .int .u64 l[k].d.x7] 33 := (((((((((((HBx.out.set 0 (.int .i64 l[k].k)).set 1 (.int .i64 l[k].c)).set 2 (.int .i64 l[k].l)).set 3 (.int .u64 l[k].d.x0)).set 4 (.int .u64 l[k].d.x1)).set 5 (.int .u64 l[k].d.x2)).set 6 (.int .u64 l[k].d.x3)).set 7 (.int .u64 l[k].d.x4)).set 8 (.int .u64 l[k].d.x5)).set 9 (.int .u64 l[k].d.x6)).set 10 (.int .u64 l[k].d.x7)); have HCx := Lib.hid ((HC.out.trans HC1.out).trans' HC2.out (fun x hx hlt => absurd hlt (by have := HO1.out.lt x (by simpa [rowB] using hx); have := HC.out.size; omega))); have hC3 := (((((((((((HCx.out.setCell (p := ⟨b, 0, none⟩) (fun h => absurd h (by rw [HNb.out]; exact Nat.lt_irrefl _)) (.int .i64 l[k].k)).setCell (p := ⟨b, 1, none⟩) (fun h => absurd h (by rw [HNb.out]; exact Nat.lt_irrefl _)) (.int .i64 l[k].c)).setCell (p := ⟨b, 2, none⟩) (fun h => absurd h (by rw [HNb.out]; exact Nat.lt_irrefl _)) (.int .i64 l[k].l)).setCell (p := ⟨b, 3, none⟩) (fun h => absurd h (by rw [HNb.out]; exact Nat.lt_irrefl _)) (.int .u64 l[k].d.x0)).setCell (p := ⟨b, 4, none⟩) (fun h => absurd h (by rw [HNb.out]; exact Nat.lt_irrefl _)) (.int .u64 l[k].d.x1)).setCell (p := ⟨b, 5, none⟩) (fun h => absurd h (by rw [HNb.out]; exact Nat.lt_irrefl _)) (.int .u64 l[k].d.x2)).setCell (p := ⟨b, 6, none⟩) (fun h => absurd h (by rw [HNb.out]; exact Nat.lt_irrefl _)) (.int .u64 l[k].d.x3)).setCell (p := ⟨b, 7, none⟩) (fun h => absurd h (by rw [HNb.out]; exact Nat.lt_irrefl _)) (.int .u64 l[k].d.x4)).setCell (p := ⟨b, 8, none⟩) (fun h => absurd h (by rw [HNb.out]; exact Nat.lt_irrefl _)) (.int .u64 l[k].d.x5)).setCell (p := ⟨b, 9, none⟩) (fun h => absurd h (by rw [HNb.out]; exact Nat.lt_irrefl _)) (.int .u64 l[k].d.x6)).setCell (p := ⟨b, 10, none⟩) (fun h => absurd h (by rw [HNb.out]; exact Nat.lt_irrefl _)) (.int .u64 l[k].d.x7)); have HB3 := Lib.hid hB3; have HC3 := Lib.hid hC3; have HO3 := Lib.hid (ownsRow_chg HO2.out ((((((((((((((Chg.refl [b] w2).setCell (p := ⟨b, 0, none⟩) (fun _ => List.mem_singleton.2 rfl) (.int .i64 l[k].k)).setCell (p := ⟨b, 1, none⟩) (fun _ => List.mem_singleton.2 rfl) (.int .i64 l[k].c)).setCell (p := ⟨b, 2, none⟩) (fun _ => List.mem_singleton.2 rfl) (.int .i64 l[k].l)).setCell (p := ⟨b, 3, none⟩) (fun _ => List.mem_singleton.2 rfl) (.int .u64 l[k].d.x0)).setCell (p := ⟨b, 4, none⟩) (fun _ => List.mem_singleton.2 rfl) (.int .u64 l[k].d.x1)).setCell (p := ⟨b, 5, none⟩) (fun _ => List.mem_singleton.2 rfl) (.int .u64 l[k].d.x2)).setCell (p := ⟨b, 6, none⟩) (fun _ => List.mem_singleton.2 rfl) (.int .u64 l[k].d.x3)).setCell (p := ⟨b, 7, none⟩) (fun _ => List.mem_singleton.2 rfl) (.int .u64 l[k].d.x4)).setCell (p := ⟨b, 8, none⟩) (fun _ => List.mem_singleton.2 rfl) (.int .u64 l[k].d.x5)).setCell (p := ⟨b, 9, none⟩) (fun _ => List.mem_singleton.2 rfl) (.int .u64 l[k].d.x6)).setCell (p := ⟨b, 10, none⟩) (fun _ => List.mem_singleton.2 rfl) (.int .u64 l[k].d.x7)))) (fun x hx hm => by rw [List.mem_singleton.1 hm] at hx; have := HO2.out.lt b (by simpa using hx); omega)); generalize World.setCell _ _ _ = w3 at *; have r0 : w3.cell? ⟨b, 0, none⟩ = some (.int .i64 l[k].k) := HB3.out.cell 0; have r1 : w3.cell? ⟨b, 1, none⟩ = some (.int .i64 l[k].c) := HB3.out.cell 1; have r2 : w3.cell? ⟨b, 2, none⟩ = some (.int .i64 l[k].l) := HB3.out.cell 2; have r3 : w3.cell? ⟨b, 3, none⟩ = some (.int .u64 l[k].d.x0) := HB3.out.cell 3; have r4 : w3.cell? ⟨b, 4, none⟩ = some (.int .u64 l[k].d.x1) := HB3.out.cell 4; have r5 : w3.cell? ⟨b, 5, none⟩ = some (.int .u64 l[k].d.x2) := HB3.out.cell 5; have r6 : w3.cell? ⟨b, 6, none⟩ = some (.int .u64 l[k].d.x3) := HB3.out.cell 6; have r7 : w3.cell? ⟨b, 7, none⟩ = some (.int .u64 l[k].d.x4) := HB3.out.cell 7; have r8 : w3.cell? ⟨b, 8, none⟩ = some (.int .u64 l[k].d.x5) := HB3.out.cell 8; have r9 : w3.cell? ⟨b, 9, none⟩ = some (.int .u64 l[k].d.x6) := HB3.out.cell 9; have r10 : w3.cell? ⟨b, 10, none⟩ = some (.int .u64 l[k].d.x7) := HB3.out.cell 10; refine bodyPost_ret (v := .tuple #[mcells l[k], v2]) ?_ rfl ⟨v2, rfl, ?_, HC3.out⟩; (focus (simp [results, Try.results33, go_sem, mcells, r0, r1, r2, r3, r4, r5, r6, r7, r8, r9, r10])); exact fin HO3.out)
  · have HM : Hid (∀ j u, ((l.drop (k + 1)).flatMap encM)[j]? = some u → wa1.drew.cell? ((⟨g, (k + 1) * 11, none⟩ : Addr).add j) = some u) := Lib.hid (part_cells (w := wa1.drew) HKK.out (k := k + 1) (p := l.drop (k + 1)) (fun i hi => ⟨by simp at hi; omega, by simp⟩) _ rfl)
    go_region_held3 (fun w' => w'.cell? ⟨g, k * 11, none⟩ = some (.int .i64 l[k].k) ∧ w'.cell? ⟨g, k * 11 + 1, none⟩ = some (.int .i64 l[k].c) ∧ w'.cell? ⟨g, k * 11 + 2, none⟩ = some (.int .i64 l[k].l) ∧ w'.cell? ⟨g, k * 11 + 3, none⟩ = some (.int .u64 l[k].d.x0) ∧ w'.cell? ⟨g, k * 11 + 4, none⟩ = some (.int .u64 l[k].d.x1) ∧ w'.cell? ⟨g, k * 11 + 5, none⟩ = some (.int .u64 l[k].d.x2) ∧ w'.cell? ⟨g, k * 11 + 6, none⟩ = some (.int .u64 l[k].d.x3) ∧ w'.cell? ⟨g, k * 11 + 7, none⟩ = some (.int .u64 l[k].d.x4) ∧ w'.cell? ⟨g, k * 11 + 8, none⟩ = some (.int .u64 l[k].d.x5) ∧ w'.cell? ⟨g, k * 11 + 9, none⟩ = some (.int .u64 l[k].d.x6) ∧ w'.cell? ⟨g, k * 11 + 10, none⟩ = some (.int .u64 l[k].d.x7)) (first | with_reducible exact ⟨q0, q1, q2, q3, q4, q5, q6, q7, q8, q9, q10⟩ | exact ⟨(Chg.cell ((((((((((((Chg.refl [b] w2).setCell (p := ⟨b, 0, none⟩) (fun _ => List.mem_singleton.2 rfl) (.int .i64 l[k].k)).setCell (p := ⟨b, 1, none⟩) (fun _ => List.mem_singleton.2 rfl) (.int .i64 l[k].c)).setCell (p := ⟨b, 2, none⟩) (fun _ => List.mem_singleton.2 rfl) (.int .i64 l[k].l)).setCell (p := ⟨b, 3, none⟩) (fun _ => List.mem_singleton.2 rfl) (.int .u64 l[k].d.x0)).setCell (p := ⟨b, 4, none⟩) (fun _ => List.mem_singleton.2 rfl) (.int .u64 l[k].d.x1)).setCell (p := ⟨b, 5, none⟩) (fun _ => List.mem_singleton.2 rfl) (.int .u64 l[k].d.x2)).setCell (p := ⟨b, 6, none⟩) (fun _ => List.mem_singleton.2 rfl) (.int .u64 l[k].d.x3)).setCell (p := ⟨b, 7, none⟩) (fun _ => List.mem_singleton.2 rfl) (.int .u64 l[k].d.x4)).setCell (p := ⟨b, 8, none⟩) (fun _ => List.mem_singleton.2 rfl) (.int .u64 l[k].d.x5)).setCell (p := ⟨b, 9, none⟩) (fun _ => List.mem_singleton.2 rfl) (.int .u64 l[k].d.x6)).setCell (p := ⟨b, 10, none⟩) (fun _ => List.mem_singleton.2 rfl) (.int .u64 l[k].d.x7)) hga2 (by simpa using hgb) _).trans q0, (Chg.cell ((((((((((((Chg.refl [b] w2).setCell (p := ⟨b, 0, none⟩) (fun _ => List.mem_singleton.2 rfl) (.int .i64 l[k].k)).setCell (p := ⟨b, 1, none⟩) (fun _ => List.mem_singleton.2 rfl) (.int .i64 l[k].c)).setCell (p := ⟨b, 2, none⟩) (fun _ => List.mem_singleton.2 rfl) (.int .i64 l[k].l)).setCell (p := ⟨b, 3, none⟩) (fun _ => List.mem_singleton.2 rfl) (.int .u64 l[k].d.x0)).setCell (p := ⟨b, 4, none⟩) (fun _ => List.mem_singleton.2 rfl) (.int .u64 l[k].d.x1)).setCell (p := ⟨b, 5, none⟩) (fun _ => List.mem_singleton.2 rfl) (.int .u64 l[k].d.x2)).setCell (p := ⟨b, 6, none⟩) (fun _ => List.mem_singleton.2 rfl) (.int .u64 l[k].d.x3)).setCell (p := ⟨b, 7, none⟩) (fun _ => List.mem_singleton.2 rfl) (.int .u64 l[k].d.x4)).setCell (p := ⟨b, 8, none⟩) (fun _ => List.mem_singleton.2 rfl) (.int .u64 l[k].d.x5)).setCell (p := ⟨b, 9, none⟩) (fun _ => List.mem_singleton.2 rfl) (.int .u64 l[k].d.x6)).setCell (p := ⟨b, 10, none⟩) (fun _ => List.mem_singleton.2 rfl) (.int .u64 l[k].d.x7)) hga2 (by simpa using hgb) _).trans q1, (Chg.cell ((((((((((((Chg.refl [b] w2).setCell (p := ⟨b, 0, none⟩) (fun _ => List.mem_singleton.2 rfl) (.int .i64 l[k].k)).setCell (p := ⟨b, 1, none⟩) (fun _ => List.mem_singleton.2 rfl) (.int .i64 l[k].c)).setCell (p := ⟨b, 2, none⟩) (fun _ => List.mem_singleton.2 rfl) (.int .i64 l[k].l)).setCell (p := ⟨b, 3, none⟩) (fun _ => List.mem_singleton.2 rfl) (.int .u64 l[k].d.x0)).setCell (p := ⟨b, 4, none⟩) (fun _ => List.mem_singleton.2 rfl) (.int .u64 l[k].d.x1)).setCell (p := ⟨b, 5, none⟩) (fun _ => List.mem_singleton.2 rfl) (.int .u64 l[k].d.x2)).setCell (p := ⟨b, 6, none⟩) (fun _ => List.mem_singleton.2 rfl) (.int .u64 l[k].d.x3)).setCell (p := ⟨b, 7, none⟩) (fun _ => List.mem_singleton.2 rfl) (.int .u64 l[k].d.x4)).setCell (p := ⟨b, 8, none⟩) (fun _ => List.mem_singleton.2 rfl) (.int .u64 l[k].d.x5)).setCell (p := ⟨b, 9, none⟩) (fun _ => List.mem_singleton.2 rfl) (.int .u64 l[k].d.x6)).setCell (p := ⟨b, 10, none⟩) (fun _ => List.mem_singleton.2 rfl) (.int .u64 l[k].d.x7)) hga2 (by simpa using hgb) _).trans q2, (Chg.cell ((((((((((((Chg.refl [b] w2).setCell (p := ⟨b, 0, none⟩) (fun _ => List.mem_singleton.2 rfl) (.int .i64 l[k].k)).setCell (p := ⟨b, 1, none⟩) (fun _ => List.mem_singleton.2 rfl) (.int .i64 l[k].c)).setCell (p := ⟨b, 2, none⟩) (fun _ => List.mem_singleton.2 rfl) (.int .i64 l[k].l)).setCell (p := ⟨b, 3, none⟩) (fun _ => List.mem_singleton.2 rfl) (.int .u64 l[k].d.x0)).setCell (p := ⟨b, 4, none⟩) (fun _ => List.mem_singleton.2 rfl) (.int .u64 l[k].d.x1)).setCell (p := ⟨b, 5, none⟩) (fun _ => List.mem_singleton.2 rfl) (.int .u64 l[k].d.x2)).setCell (p := ⟨b, 6, none⟩) (fun _ => List.mem_singleton.2 rfl) (.int .u64 l[k].d.x3)).setCell (p := ⟨b, 7, none⟩) (fun _ => List.mem_singleton.2 rfl) (.int .u64 l[k].d.x4)).setCell (p := ⟨b, 8, none⟩) (fun _ => List.mem_singleton.2 rfl) (.int .u64 l[k].d.x5)).setCell (p := ⟨b, 9, none⟩) (fun _ => List.mem_singleton.2 rfl) (.int .u64 l[k].d.x6)).setCell (p := ⟨b, 10, none⟩) (fun _ => List.mem_singleton.2 rfl) (.int .u64 l[k].d.x7)) hga2 (by simpa using hgb) _).trans q3, (Chg.cell ((((((((((((Chg.refl [b] w2).setCell (p := ⟨b, 0, none⟩) (fun _ => List.mem_singleton.2 rfl) (.int .i64 l[k].k)).setCell (p := ⟨b, 1, none⟩) (fun _ => List.mem_singleton.2 rfl) (.int .i64 l[k].c)).setCell (p := ⟨b, 2, none⟩) (fun _ => List.mem_singleton.2 rfl) (.int .i64 l[k].l)).setCell (p := ⟨b, 3, none⟩) (fun _ => List.mem_singleton.2 rfl) (.int .u64 l[k].d.x0)).setCell (p := ⟨b, 4, none⟩) (fun _ => List.mem_singleton.2 rfl) (.int .u64 l[k].d.x1)).setCell (p := ⟨b, 5, none⟩) (fun _ => List.mem_singleton.2 rfl) (.int .u64 l[k].d.x2)).setCell (p := ⟨b, 6, none⟩) (fun _ => List.mem_singleton.2 rfl) (.int .u64 l[k].d.x3)).setCell (p := ⟨b, 7, none⟩) (fun _ => List.mem_singleton.2 rfl) (.int .u64 l[k].d.x4)).setCell (p := ⟨b, 8, none⟩) (fun _ => List.mem_singleton.2 rfl) (.int .u64 l[k].d.x5)).setCell (p := ⟨b, 9, none⟩) (fun _ => List.mem_singleton.2 rfl) (.int .u64 l[k].d.x6)).setCell (p := ⟨b, 10, none⟩) (fun _ => List.mem_singleton.2 rfl) (.int .u64 l[k].d.x7)) hga2 (by simpa using hgb) _).trans q4, (Chg.cell ((((((((((((Chg.refl [b] w2).setCell (p := ⟨b, 0, none⟩) (fun _ => List.mem_singleton.2 rfl) (.int .i64 l[k].k)).setCell (p := ⟨b, 1, none⟩) (fun _ => List.mem_singleton.2 rfl) (.int .i64 l[k].c)).setCell (p := ⟨b, 2, none⟩) (fun _ => List.mem_singleton.2 rfl) (.int .i64 l[k].l)).setCell (p := ⟨b, 3, none⟩) (fun _ => List.mem_singleton.2 rfl) (.int .u64 l[k].d.x0)).setCell (p := ⟨b, 4, none⟩) (fun _ => List.mem_singleton.2 rfl) (.int .u64 l[k].d.x1)).setCell (p := ⟨b, 5, none⟩) (fun _ => List.mem_singleton.2 rfl) (.int .u64 l[k].d.x2)).setCell (p := ⟨b, 6, none⟩) (fun _ => List.mem_singleton.2 rfl) (.int .u64 l[k].d.x3)).setCell (p := ⟨b, 7, none⟩) (fun _ => List.mem_singleton.2 rfl) (.int .u64 l[k].d.x4)).setCell (p := ⟨b, 8, none⟩) (fun _ => List.mem_singleton.2 rfl) (.int .u64 l[k].d.x5)).setCell (p := ⟨b, 9, none⟩) (fun _ => List.mem_singleton.2 rfl) (.int .u64 l[k].d.x6)).setCell (p := ⟨b, 10, none⟩) (fun _ => List.mem_singleton.2 rfl) (.int .u64 l[k].d.x7)) hga2 (by simpa using hgb) _).trans q5, (Chg.cell ((((((((((((Chg.refl [b] w2).setCell (p := ⟨b, 0, none⟩) (fun _ => List.mem_singleton.2 rfl) (.int .i64 l[k].k)).setCell (p := ⟨b, 1, none⟩) (fun _ => List.mem_singleton.2 rfl) (.int .i64 l[k].c)).setCell (p := ⟨b, 2, none⟩) (fun _ => List.mem_singleton.2 rfl) (.int .i64 l[k].l)).setCell (p := ⟨b, 3, none⟩) (fun _ => List.mem_singleton.2 rfl) (.int .u64 l[k].d.x0)).setCell (p := ⟨b, 4, none⟩) (fun _ => List.mem_singleton.2 rfl) (.int .u64 l[k].d.x1)).setCell (p := ⟨b, 5, none⟩) (fun _ => List.mem_singleton.2 rfl) (.int .u64 l[k].d.x2)).setCell (p := ⟨b, 6, none⟩) (fun _ => List.mem_singleton.2 rfl) (.int .u64 l[k].d.x3)).setCell (p := ⟨b, 7, none⟩) (fun _ => List.mem_singleton.2 rfl) (.int .u64 l[k].d.x4)).setCell (p := ⟨b, 8, none⟩) (fun _ => List.mem_singleton.2 rfl) (.int .u64 l[k].d.x5)).setCell (p := ⟨b, 9, none⟩) (fun _ => List.mem_singleton.2 rfl) (.int .u64 l[k].d.x6)).setCell (p := ⟨b, 10, none⟩) (fun _ => List.mem_singleton.2 rfl) (.int .u64 l[k].d.x7)) hga2 (by simpa using hgb) _).trans q6, (Chg.cell ((((((((((((Chg.refl [b] w2).setCell (p := ⟨b, 0, none⟩) (fun _ => List.mem_singleton.2 rfl) (.int .i64 l[k].k)).setCell (p := ⟨b, 1, none⟩) (fun _ => List.mem_singleton.2 rfl) (.int .i64 l[k].c)).setCell (p := ⟨b, 2, none⟩) (fun _ => List.mem_singleton.2 rfl) (.int .i64 l[k].l)).setCell (p := ⟨b, 3, none⟩) (fun _ => List.mem_singleton.2 rfl) (.int .u64 l[k].d.x0)).setCell (p := ⟨b, 4, none⟩) (fun _ => List.mem_singleton.2 rfl) (.int .u64 l[k].d.x1)).setCell (p := ⟨b, 5, none⟩) (fun _ => List.mem_singleton.2 rfl) (.int .u64 l[k].d.x2)).setCell (p := ⟨b, 6, none⟩) (fun _ => List.mem_singleton.2 rfl) (.int .u64 l[k].d.x3)).setCell (p := ⟨b, 7, none⟩) (fun _ => List.mem_singleton.2 rfl) (.int .u64 l[k].d.x4)).setCell (p := ⟨b, 8, none⟩) (fun _ => List.mem_singleton.2 rfl) (.int .u64 l[k].d.x5)).setCell (p := ⟨b, 9, none⟩) (fun _ => List.mem_singleton.2 rfl) (.int .u64 l[k].d.x6)).setCell (p := ⟨b, 10, none⟩) (fun _ => List.mem_singleton.2 rfl) (.int .u64 l[k].d.x7)) hga2 (by simpa using hgb) _).trans q7, (Chg.cell ((((((((((((Chg.refl [b] w2).setCell (p := ⟨b, 0, none⟩) (fun _ => List.mem_singleton.2 rfl) (.int .i64 l[k].k)).setCell (p := ⟨b, 1, none⟩) (fun _ => List.mem_singleton.2 rfl) (.int .i64 l[k].c)).setCell (p := ⟨b, 2, none⟩) (fun _ => List.mem_singleton.2 rfl) (.int .i64 l[k].l)).setCell (p := ⟨b, 3, none⟩) (fun _ => List.mem_singleton.2 rfl) (.int .u64 l[k].d.x0)).setCell (p := ⟨b, 4, none⟩) (fun _ => List.mem_singleton.2 rfl) (.int .u64 l[k].d.x1)).setCell (p := ⟨b, 5, none⟩) (fun _ => List.mem_singleton.2 rfl) (.int .u64 l[k].d.x2)).setCell (p := ⟨b, 6, none⟩) (fun _ => List.mem_singleton.2 rfl) (.int .u64 l[k].d.x3)).setCell (p := ⟨b, 7, none⟩) (fun _ => List.mem_singleton.2 rfl) (.int .u64 l[k].d.x4)).setCell (p := ⟨b, 8, none⟩) (fun _ => List.mem_singleton.2 rfl) (.int .u64 l[k].d.x5)).setCell (p := ⟨b, 9, none⟩) (fun _ => List.mem_singleton.2 rfl) (.int .u64 l[k].d.x6)).setCell (p := ⟨b, 10, none⟩) (fun _ => List.mem_singleton.2 rfl) (.int .u64 l[k].d.x7)) hga2 (by simpa using hgb) _).trans q8, (Chg.cell ((((((((((((Chg.refl [b] w2).setCell (p := ⟨b, 0, none⟩) (fun _ => List.mem_singleton.2 rfl) (.int .i64 l[k].k)).setCell (p := ⟨b, 1, none⟩) (fun _ => List.mem_singleton.2 rfl) (.int .i64 l[k].c)).setCell (p := ⟨b, 2, none⟩) (fun _ => List.mem_singleton.2 rfl) (.int .i64 l[k].l)).setCell (p := ⟨b, 3, none⟩) (fun _ => List.mem_singleton.2 rfl) (.int .u64 l[k].d.x0)).setCell (p := ⟨b, 4, none⟩) (fun _ => List.mem_singleton.2 rfl) (.int .u64 l[k].d.x1)).setCell (p := ⟨b, 5, none⟩) (fun _ => List.mem_singleton.2 rfl) (.int .u64 l[k].d.x2)).setCell (p := ⟨b, 6, none⟩) (fun _ => List.mem_singleton.2 rfl) (.int .u64 l[k].d.x3)).setCell (p := ⟨b, 7, none⟩) (fun _ => List.mem_singleton.2 rfl) (.int .u64 l[k].d.x4)).setCell (p := ⟨b, 8, none⟩) (fun _ => List.mem_singleton.2 rfl) (.int .u64 l[k].d.x5)).setCell (p := ⟨b, 9, none⟩) (fun _ => List.mem_singleton.2 rfl) (.int .u64 l[k].d.x6)).setCell (p := ⟨b, 10, none⟩) (fun _ => List.mem_singleton.2 rfl) (.int .u64 l[k].d.x7)) hga2 (by simpa using hgb) _).trans q9, (Chg.cell ((((((((((((Chg.refl [b] w2).setCell (p := ⟨b, 0, none⟩) (fun _ => List.mem_singleton.2 rfl) (.int .i64 l[k].k)).setCell (p := ⟨b, 1, none⟩) (fun _ => List.mem_singleton.2 rfl) (.int .i64 l[k].c)).setCell (p := ⟨b, 2, none⟩) (fun _ => List.mem_singleton.2 rfl) (.int .i64 l[k].l)).setCell (p := ⟨b, 3, none⟩) (fun _ => List.mem_singleton.2 rfl) (.int .u64 l[k].d.x0)).setCell (p := ⟨b, 4, none⟩) (fun _ => List.mem_singleton.2 rfl) (.int .u64 l[k].d.x1)).setCell (p := ⟨b, 5, none⟩) (fun _ => List.mem_singleton.2 rfl) (.int .u64 l[k].d.x2)).setCell (p := ⟨b, 6, none⟩) (fun _ => List.mem_singleton.2 rfl) (.int .u64 l[k].d.x3)).setCell (p := ⟨b, 7, none⟩) (fun _ => List.mem_singleton.2 rfl) (.int .u64 l[k].d.x4)).setCell (p := ⟨b, 8, none⟩) (fun _ => List.mem_singleton.2 rfl) (.int .u64 l[k].d.x5)).setCell (p := ⟨b, 9, none⟩) (fun _ => List.mem_singleton.2 rfl) (.int .u64 l[k].d.x6)).setCell (p := ⟨b, 10, none⟩) (fun _ => List.mem_singleton.2 rfl) (.int .u64 l[k].d.x7)) hga2 (by simpa using hgb) _).trans q10⟩ | go_keep) ((refine step_append_rows (by rfl) (.tmp 16) (.tmp 20) (by rfl) j0 hj hy0 hy1 hy2 (by rfl) HO1.out ⟨g, (k + 1) * 11, none⟩ (l.length - (k + 1)) (cap - (k + 1)) (l.drop (k + 1)) List.length_drop (by rfl) HM.out (by rw [List.length_drop]; omega) (by have := hsz1; exact this) ?_; intro v2 w2 ho2 hg2 hb2; have hC2 := ((Chg.refl (rowB va1) wa1).drew).trans (Chg.of_grown hg2); have HC2 := Lib.hid hC2; have HO2 := Lib.hid ho2; have HBx := Lib.hid (hC2.blk HB2.out (ownsRow_notMem HO1.out hbs)); clear hC2 ho2 hg2 hb2 p0 p1 p2 p3 p4 p5 p6 p7 p8 p9 p10; have q0 : w2.cell? ⟨g, k * 11, none⟩ = some (.int .i64 l[k].k) := (HC2.out.cell hga1 (ownsRow_notMem HO1.out hga) _).trans (HKK.out k hk 0 (by decide)); have q1 : w2.cell? ⟨g, k * 11 + 1, none⟩ = some (.int .i64 l[k].c) := (HC2.out.cell hga1 (ownsRow_notMem HO1.out hga) _).trans (HKK.out k hk 1 (by decide)); have q2 : w2.cell? ⟨g, k * 11 + 2, none⟩ = some (.int .i64 l[k].l) := (HC2.out.cell hga1 (ownsRow_notMem HO1.out hga) _).trans (HKK.out k hk 2 (by decide)); have q3 : w2.cell? ⟨g, k * 11 + 3, none⟩ = some (.int .u64 l[k].d.x0) := (HC2.out.cell hga1 (ownsRow_notMem HO1.out hga) _).trans (HKK.out k hk 3 (by decide)); have q4 : w2.cell? ⟨g, k * 11 + 4, none⟩ = some (.int .u64 l[k].d.x1) := (HC2.out.cell hga1 (ownsRow_notMem HO1.out hga) _).trans (HKK.out k hk 4 (by decide)); have q5 : w2.cell? ⟨g, k * 11 + 5, none⟩ = some (.int .u64 l[k].d.x2) := (HC2.out.cell hga1 (ownsRow_notMem HO1.out hga) _).trans (HKK.out k hk 5 (by decide)); have q6 : w2.cell? ⟨g, k * 11 + 6, none⟩ = some (.int .u64 l[k].d.x3) := (HC2.out.cell hga1 (ownsRow_notMem HO1.out hga) _).trans (HKK.out k hk 6 (by decide)); have q7 : w2.cell? ⟨g, k * 11 + 7, none⟩ = some (.int .u64 l[k].d.x4) := (HC2.out.cell hga1 (ownsRow_notMem HO1.out hga) _).trans (HKK.out k hk 7 (by decide)); have q8 : w2.cell? ⟨g, k * 11 + 8, none⟩ = some (.int .u64 l[k].d.x5) := (HC2.out.cell hga1 (ownsRow_notMem HO1.out hga) _).trans (HKK.out k hk 8 (by decide)); have q9 : w2.cell? ⟨g, k * 11 + 9, none⟩ = some (.int .u64 l[k].d.x6) := (HC2.out.cell hga1 (ownsRow_notMem HO1.out hga) _).trans (HKK.out k hk 9 (by decide)); have q10 : w2.cell? ⟨g, k * 11 + 10, none⟩ = some (.int .u64 l[k].d.x7) := (HC2.out.cell hga1 (ownsRow_notMem HO1.out hga) _).trans (HKK.out k hk 10 (by decide)); have b0 : w2.cell? ⟨b, 0, none⟩ = some (.int .i64 0) := (HBx.out).cell 0; have c0 : w2.frozen? ⟨b, 0, none⟩ = false := (HBx.out).free 0; have b1 : w2.cell? ⟨b, 1, none⟩ = some (.int .i64 0) := (HBx.out).cell 1; have c1 : w2.frozen? ⟨b, 1, none⟩ = false := (HBx.out).free 1; have b2 : w2.cell? ⟨b, 2, none⟩ = some (.int .i64 0) := (HBx.out).cell 2; have c2 : w2.frozen? ⟨b, 2, none⟩ = false := (HBx.out).free 2; have b3 : w2.cell? ⟨b, 3, none⟩ = some (.int .u64 0) := (HBx.out).cell 3; have c3 : w2.frozen? ⟨b, 3, none⟩ = false := (HBx.out).free 3; have b4 : w2.cell? ⟨b, 4, none⟩ = some (.int .u64 0) := (HBx.out).cell 4; have c4 : w2.frozen? ⟨b, 4, none⟩ = false := (HBx.out).free 4; have b5 : w2.cell? ⟨b, 5, none⟩ = some (.int .u64 0) := (HBx.out).cell 5; have c5 : w2.frozen? ⟨b, 5, none⟩ = false := (HBx.out).free 5; have b6 : w2.cell? ⟨b, 6, none⟩ = some (.int .u64 0) := (HBx.out).cell 6; have c6 : w2.frozen? ⟨b, 6, none⟩ = false := (HBx.out).free 6; have b7 : w2.cell? ⟨b, 7, none⟩ = some (.int .u64 0) := (HBx.out).cell 7; have c7 : w2.frozen? ⟨b, 7, none⟩ = false := (HBx.out).free 7; have b8 : w2.cell? ⟨b, 8, none⟩ = some (.int .u64 0) := (HBx.out).cell 8; have c8 : w2.frozen? ⟨b, 8, none⟩ = false := (HBx.out).free 8; have b9 : w2.cell? ⟨b, 9, none⟩ = some (.int .u64 0) := (HBx.out).cell 9; have c9 : w2.frozen? ⟨b, 9, none⟩ = false := (HBx.out).free 9; have b10 : w2.cell? ⟨b, 10, none⟩ = some (.int .u64 0) := (HBx.out).cell 10; have c10 : w2.frozen? ⟨b, 10, none⟩ = false := (HBx.out).free 10; have hbs2 : b < w2.heap.size := HBx.out.lt; have hga2 : g < w2.heap.size := Nat.lt_of_lt_of_le hga1 HC2.out.size))
    all_goals (go_wp2_with fail; have hB3 : Blk _ b [.int .i64 l[k].k, .int .i64 l[k].c, .int .i64 l[k].l, .int .u64 l[k].d.x0, .int .u64 l[k].d.x1, .int .u64 l[k].d.x2, .int .u64 l[k].d.x3, .int .u64 l[k].d.x4, .int .u64 l[k].d.x5, .int .u64 l[k].d.x6, .int .u64 l[k].d.x7] 33 := (((((((((((HBx.out.set 0 (.int .i64 l[k].k)).set 1 (.int .i64 l[k].c)).set 2 (.int .i64 l[k].l)).set 3 (.int .u64 l[k].d.x0)).set 4 (.int .u64 l[k].d.x1)).set 5 (.int .u64 l[k].d.x2)).set 6 (.int .u64 l[k].d.x3)).set 7 (.int .u64 l[k].d.x4)).set 8 (.int .u64 l[k].d.x5)).set 9 (.int .u64 l[k].d.x6)).set 10 (.int .u64 l[k].d.x7)); have HCx := Lib.hid ((HC.out.trans HC1.out).trans' HC2.out (fun x hx hlt => absurd hlt (by have := HO1.out.lt x (by simpa [rowB] using hx); have := HC.out.size; omega))); have hC3 := (((((((((((HCx.out.setCell (p := ⟨b, 0, none⟩) (fun h => absurd h (by rw [HNb.out]; exact Nat.lt_irrefl _)) (.int .i64 l[k].k)).setCell (p := ⟨b, 1, none⟩) (fun h => absurd h (by rw [HNb.out]; exact Nat.lt_irrefl _)) (.int .i64 l[k].c)).setCell (p := ⟨b, 2, none⟩) (fun h => absurd h (by rw [HNb.out]; exact Nat.lt_irrefl _)) (.int .i64 l[k].l)).setCell (p := ⟨b, 3, none⟩) (fun h => absurd h (by rw [HNb.out]; exact Nat.lt_irrefl _)) (.int .u64 l[k].d.x0)).setCell (p := ⟨b, 4, none⟩) (fun h => absurd h (by rw [HNb.out]; exact Nat.lt_irrefl _)) (.int .u64 l[k].d.x1)).setCell (p := ⟨b, 5, none⟩) (fun h => absurd h (by rw [HNb.out]; exact Nat.lt_irrefl _)) (.int .u64 l[k].d.x2)).setCell (p := ⟨b, 6, none⟩) (fun h => absurd h (by rw [HNb.out]; exact Nat.lt_irrefl _)) (.int .u64 l[k].d.x3)).setCell (p := ⟨b, 7, none⟩) (fun h => absurd h (by rw [HNb.out]; exact Nat.lt_irrefl _)) (.int .u64 l[k].d.x4)).setCell (p := ⟨b, 8, none⟩) (fun h => absurd h (by rw [HNb.out]; exact Nat.lt_irrefl _)) (.int .u64 l[k].d.x5)).setCell (p := ⟨b, 9, none⟩) (fun h => absurd h (by rw [HNb.out]; exact Nat.lt_irrefl _)) (.int .u64 l[k].d.x6)).setCell (p := ⟨b, 10, none⟩) (fun h => absurd h (by rw [HNb.out]; exact Nat.lt_irrefl _)) (.int .u64 l[k].d.x7)); have HB3 := Lib.hid hB3; have HC3 := Lib.hid hC3; have HO3 := Lib.hid (ownsRow_chg HO2.out ((((((((((((((Chg.refl [b] w2).setCell (p := ⟨b, 0, none⟩) (fun _ => List.mem_singleton.2 rfl) (.int .i64 l[k].k)).setCell (p := ⟨b, 1, none⟩) (fun _ => List.mem_singleton.2 rfl) (.int .i64 l[k].c)).setCell (p := ⟨b, 2, none⟩) (fun _ => List.mem_singleton.2 rfl) (.int .i64 l[k].l)).setCell (p := ⟨b, 3, none⟩) (fun _ => List.mem_singleton.2 rfl) (.int .u64 l[k].d.x0)).setCell (p := ⟨b, 4, none⟩) (fun _ => List.mem_singleton.2 rfl) (.int .u64 l[k].d.x1)).setCell (p := ⟨b, 5, none⟩) (fun _ => List.mem_singleton.2 rfl) (.int .u64 l[k].d.x2)).setCell (p := ⟨b, 6, none⟩) (fun _ => List.mem_singleton.2 rfl) (.int .u64 l[k].d.x3)).setCell (p := ⟨b, 7, none⟩) (fun _ => List.mem_singleton.2 rfl) (.int .u64 l[k].d.x4)).setCell (p := ⟨b, 8, none⟩) (fun _ => List.mem_singleton.2 rfl) (.int .u64 l[k].d.x5)).setCell (p := ⟨b, 9, none⟩) (fun _ => List.mem_singleton.2 rfl) (.int .u64 l[k].d.x6)).setCell (p := ⟨b, 10, none⟩) (fun _ => List.mem_singleton.2 rfl) (.int .u64 l[k].d.x7)))) (fun x hx hm => by rw [List.mem_singleton.1 hm] at hx; have := HO2.out.lt b (by simpa using hx); omega)); generalize World.setCell _ _ _ = w3 at *; have r0 : w3.cell? ⟨b, 0, none⟩ = some (.int .i64 l[k].k) := HB3.out.cell 0; have r1 : w3.cell? ⟨b, 1, none⟩ = some (.int .i64 l[k].c) := HB3.out.cell 1; have r2 : w3.cell? ⟨b, 2, none⟩ = some (.int .i64 l[k].l) := HB3.out.cell 2; have r3 : w3.cell? ⟨b, 3, none⟩ = some (.int .u64 l[k].d.x0) := HB3.out.cell 3; have r4 : w3.cell? ⟨b, 4, none⟩ = some (.int .u64 l[k].d.x1) := HB3.out.cell 4; have r5 : w3.cell? ⟨b, 5, none⟩ = some (.int .u64 l[k].d.x2) := HB3.out.cell 5; have r6 : w3.cell? ⟨b, 6, none⟩ = some (.int .u64 l[k].d.x3) := HB3.out.cell 6; have r7 : w3.cell? ⟨b, 7, none⟩ = some (.int .u64 l[k].d.x4) := HB3.out.cell 7; have r8 : w3.cell? ⟨b, 8, none⟩ = some (.int .u64 l[k].d.x5) := HB3.out.cell 8; have r9 : w3.cell? ⟨b, 9, none⟩ = some (.int .u64 l[k].d.x6) := HB3.out.cell 9; have r10 : w3.cell? ⟨b, 10, none⟩ = some (.int .u64 l[k].d.x7) := HB3.out.cell 10; refine bodyPost_ret (v := .tuple #[mcells l[k], v2]) ?_ rfl ⟨v2, rfl, ?_, HC3.out⟩; (focus (simp [results, Try.results33, go_sem, mcells, r0, r1, r2, r3, r4, r5, r6, r7, r8, r9, r10])); exact fin HO3.out)


theorem hearS_one {ws : List Int} {e0 e : EntV} {m : MsgV} {cores : Int} (hl : m.l = 1) (hc : 0 ≤ m.c ∧ m.c < cores) (hm : mayB e m = true) :
    hearS 2 cores ws [e0, e] m = ((hearE 2 ws e 1 m).1, [e0, (hearE 2 ws e 1 m).2.1], (hearE 2 ws e 1 m).2.2, 0) := by
  unfold hearS
  rw [hl, if_neg (by decide), if_neg (by omega)]
  show (if mayB e m = true then _ else _) = _
  rw [if_pos hm]
  rfl
/-- What a step of the world leaves. -/
def SvPost (N0 : Nat) (w : World) (b d bm bw bl bc : Nat) (e0 : EntV) (S' : SvS) (made got : Int) (e : Ending) (w' : World) : Prop :=
  e = .returned (.tuple #[]) ∧ (∃ vi vo es, SvW N0 w' b d bm bw bl bc vi vo es e0 S' made got) ∧ Below N0 w w'
section
variable {N0 : Nat} {w w' w1 : World} {b d bm bw bl bc : Nat} {vi vo : Value} {es es' : List EntV} {e0 : EntV} {S : SvS} {made got : Int}
/-- The directory turned. -/
theorem SvW.dir (H : SvW N0 w b d bm bw bl bc vi vo es e0 S made got) {ws' : List Int} {e' : EntV} (P : DirPost w w' d bm bw bl 2 S.n es ws' es') (K : Knows w' d bm bw bl 2 S.n ws' es' [e0, e']) : SvW N0 w' b d bm bw bl bc vi vo es' e0 { S with ws := ws', e := e' } made got := by
  have hd := H.notDir
  have aux : ∀ {v : Value} {n : Nat} {xs : List Value}, w.ownsRow N0 33 11 v n xs → Apart (rowB v) (dirB bw bl es) → Apart (rowB v) (dirB bw bl es') := fun ho ha g hg hm =>
    (P.own g hm).elim (ha g hg) (fun h => by have := (ho.lt g (by simpa [rowB] using hg)).2; omega)
  exact ⟨P.chg.blk H.blk hd.1, P.chg.blk H.hon hd.2, K, ownsRow_chg H.inn P.chg H.sepI, ownsRow_chg H.out P.chg H.sepO, ⟨H.lo.1, H.lo.2.1, Nat.le_trans H.lo.2.2 P.chg.size⟩, fun g hg => (P.own g hg).elim (H.loD g) (fun h => Nat.le_trans H.lo.2.2 h), aux H.inn H.sepI, aux H.out H.sepO, H.sep⟩
theorem SvW.dirBelow (H : SvW N0 w b d bm bw bl bc vi vo es e0 S made got) {ws' : List Int} (P : DirPost w w' d bm bw bl 2 S.n es ws' es') : Below N0 w w' := P.chg.to_below H.loD H.lo.2.2
theorem SvW.bne (H : SvW N0 w b d bm bw bl bc vi vo es e0 S made got) : b ≠ d ∧ b ≠ bm ∧ bc ≠ d ∧ bc ≠ bm := by
  obtain ⟨_, hm⟩ := H.K.D.D.mem.m
  exact ⟨H.blk.ne H.K.D.D.blk (by decide), H.blk.ne hm (by decide), H.hon.ne H.K.D.D.blk (by decide), H.hon.ne hm (by decide)⟩
theorem Knows.chgS {S : List Nat} {n : Nat} {cores : Int} {ws : List Int} {ks : List EntV} (K : Knows w d bm bw bl n cores ws es ks) (k : Chg S w w') (hd : d ∉ S) (hbm : bm ∉ S) (hS : ∀ x ∈ S, x ∉ dirB bw bl es) : Knows w' d bm bw bl n cores ws es ks :=
  ⟨K.D.chgS k hd hbm hS, K.ks, K.ok, K.co⟩
/-- A field of the world turned. -/
theorem SvW.field (H : SvW N0 w b d bm bw bl bc vi vo es e0 S made got) (j : Nat) (v : Value) (val' made' got' : Int)
    (hc : [Value.pointer (some ⟨d, 0, none⟩), .slice (some ⟨bc, 0, none⟩) S.hs.length S.hs.length, vi, vo, .int .i64 made, .int .i64 got, .int .u64 S.val, .bool true].set j v = [Value.pointer (some ⟨d, 0, none⟩), .slice (some ⟨bc, 0, none⟩) S.hs.length S.hs.length, vi, vo, .int .i64 made', .int .i64 got', .int .u64 val', .bool true]) :
    SvW N0 (w.setCell ⟨b, j, none⟩ v) b d bm bw bl bc vi vo es e0 { S with val := val' } made' got' ∧ Below N0 w (w.setCell ⟨b, j, none⟩ v) := by
  have hk : Chg [b] w (w.setCell ⟨b, j, none⟩ v) := (Chg.refl [b] w).setCell (p := ⟨b, j, none⟩) (fun _ => List.mem_singleton.2 rfl) v
  have hr := H.notRow
  have hbe := H.bne
  have hb := H.blk.set j v
  rw [hc] at hb
  exact ⟨⟨hb, hk.blk H.hon (by simpa using Ne.symm H.ne), H.K.chgS hk (by simpa using Ne.symm hbe.1) (by simpa using Ne.symm hbe.2.1) (fun x hx => by rw [List.mem_singleton.1 hx]; exact H.notDir.1), ownsRow_chg H.inn hk (fun g hg hm => by rw [List.mem_singleton.1 hm] at hg; exact hr.1.1 hg), ownsRow_chg H.out hk (fun g hg hm => by rw [List.mem_singleton.1 hm] at hg; exact hr.2.1 hg), ⟨H.lo.1, H.lo.2.1, Nat.le_trans H.lo.2.2 hk.size⟩, H.loD, H.sepI, H.sepO, H.sep⟩, hk.to_below (fun x hx => by rw [List.mem_singleton.1 hx]; exact H.lo.1) H.lo.2.2⟩
/-- Rows grew: what is in flight to cores. -/
theorem SvW.outGrew (H : SvW N0 w b d bm bw bl bc vi vo es e0 S made got) {vo' : Value} {news : List MsgV} {n : Nat} (hn : n = S.out.length + news.length) (hO : w1.ownsRow N0 33 11 vo' n (S.out.flatMap encM ++ news.flatMap encM)) (hG : w.grownBy w1 vo.ownBlock) (hB : vo'.ownBlock = vo.ownBlock ∨ vo'.ownBlock = some w.heap.size ∨ ∃ g, vo'.ownBlock = some g ∧ w.heap.size ≤ g) :
    SvW N0 (w1.setCell ⟨b, 3, none⟩ vo') b d bm bw bl bc vi vo' es e0 { S with out := S.out ++ news } made got ∧ Below N0 w (w1.setCell ⟨b, 3, none⟩ vo') := by
  subst hn
  have hk : Chg (rowB vo) w w1 := Chg.of_grown hG
  have hr := H.notRow
  have hbe := H.bne
  have hrD : ∀ x ∈ rowB vo, x ∉ dirB bw bl es := fun x hx => H.sepO x hx
  have hnew : ∀ g ∈ rowB vo', g ∈ rowB vo ∨ w.heap.size ≤ g := fun g hg => by
    rcases hB with h | h | ⟨g2, h, h3⟩
    · left; unfold rowB at hg ⊢; rwa [h] at hg
    · right; unfold rowB at hg; rw [h] at hg; simp at hg; omega
    · right; unfold rowB at hg; rw [h] at hg; simp at hg; omega
  have hb1 := hk.blk H.blk hr.2.1
  have hk2 : Chg (b :: rowB vo) w (w1.setCell ⟨b, 3, none⟩ vo') := (hk.mono (fun x hx => List.mem_cons_of_mem _ hx)).setCell (p := ⟨b, 3, none⟩) (fun _ => List.mem_cons_self) vo'
  have hko : Chg [b] w1 (w1.setCell ⟨b, 3, none⟩ vo') := (Chg.refl [b] w1).setCell (p := ⟨b, 3, none⟩) (fun _ => List.mem_singleton.2 rfl) vo'
  have hdne : d ∉ rowB vo ∧ bm ∉ rowB vo := by
    obtain ⟨_, hm⟩ := H.K.D.D.mem.m
    exact ⟨row_ne H.out H.K.D.D.blk (by decide), row_ne H.out hm (by decide)⟩
  refine ⟨⟨(hb1.set 3 vo'), hk2.blk H.hon (by rw [List.mem_cons, not_or]; exact ⟨Ne.symm H.ne, hr.2.2⟩), H.K.chgS hk2 ?_ ?_ ?_, ownsRow_chg H.inn hk2 ?_, ?_, ⟨H.lo.1, H.lo.2.1, Nat.le_trans H.lo.2.2 hk2.size⟩, H.loD, H.sepI, ?_, ?_⟩, hk2.to_below ?_ H.lo.2.2⟩
  · rw [List.mem_cons, not_or]; exact ⟨Ne.symm hbe.1, hdne.1⟩
  · rw [List.mem_cons, not_or]; exact ⟨Ne.symm hbe.2.1, hdne.2⟩
  · intro x hx; rcases List.mem_cons.1 hx with rfl | hx
    · exact H.notDir.1
    · exact hrD x hx
  · intro g hg hm; rcases List.mem_cons.1 hm with rfl | hm
    · exact hr.1.1 hg
    · exact H.sep g hg hm
  · have hrow := ownsRow_chg hO hko (fun g hg hm => by
      have e := List.mem_singleton.1 hm
      subst e
      rcases hnew g hg with h | h
      · exact hr.2.1 h
      · have := H.blk.lt; omega)
    show World.ownsRow _ N0 _ 11 vo' (S.out ++ news).length ((S.out ++ news).flatMap encM)
    rw [List.length_append, List.flatMap_append]
    exact hrow
  · intro g hg hm
    rcases hnew g hg with h | h
    · exact H.sepO g h hm
    · have := H.K.D.lt g hm; omega
  · intro g hg hm
    rcases hnew g hm with h | h
    · exact H.sep g hg h
    · have := (H.inn.lt g (by simpa [rowB] using hg)).2; omega
  · intro x hx; rcases List.mem_cons.1 hx with rfl | hx
    · exact H.lo.1
    · exact (H.out.lt x (by simpa [rowB] using hx)).1
end

set_option maxHeartbeats 4000000 in
theorem whear_any {N0 : Nat} {w : World} {b d bm bw bl bc : Nat} {vi vo : Value} {es : List EntV} {e0 : EntV} {S : SvS} {made got : Int} (m : MsgV) (H : SvW N0 w b d bm bw bl bc vi vo es e0 S made got) (hl : m.l = 1) (hc : 0 ≤ m.c ∧ m.c < S.n) (hmay : mayB S.e m = true) (hlen : S.out.length ≤ 1000) (hout : (hearE 2 S.ws S.e 1 m).2.2.length ≤ 1000) :
    Calls Try.prog 34 #[.pointer (some ⟨b, 0, none⟩), .agg #[.int .i64 m.k, .int .i64 m.c, .int .i64 m.l, .int .u64 m.d.x0, .int .u64 m.d.x1, .int .u64 m.d.x2, .int .u64 m.d.x3, .int .u64 m.d.x4, .int .u64 m.d.x5, .int .u64 m.d.x6, .int .u64 m.d.x7]] w (SvPost N0 w b d bm bw bl bc e0 { S with ws := (hearE 2 S.ws S.e 1 m).1, e := (hearE 2 S.ws S.e 1 m).2.1, out := S.out ++ (hearE 2 S.ws S.e 1 m).2.2 } made got) := by
  obtain ⟨j0, hj, hy0, hy1, hy2⟩ := info_parts infoMsg
  have hal : Chg [] w (w.alloc (.cells #[.int .i64 m.k, .int .i64 m.c, .int .i64 m.l, .int .u64 m.d.x0, .int .u64 m.d.x1, .int .u64 m.d.x2, .int .u64 m.d.x3, .int .u64 m.d.x4, .int .u64 m.d.x5, .int .u64 m.d.x6, .int .u64 m.d.x7] 33)) := (Chg.refl [] w).alloc _
  have HSv := Lib.hid (H.look hal)
  have HB := Lib.hid (Blk.new w [.int .i64 m.k, .int .i64 m.c, .int .i64 m.l, .int .u64 m.d.x0, .int .u64 m.d.x1, .int .u64 m.d.x2, .int .u64 m.d.x3, .int .u64 m.d.x4, .int .u64 m.d.x5, .int .u64 m.d.x6, .int .u64 m.d.x7] 33)
  have HBl := Lib.hid (hal.to_below (B := N0) (fun x hx => absurd hx (by simp)) H.lo.2.2)
  have HBn := Lib.hid (show w.heap.size ∉ dirB bw bl es from fun h => Nat.lt_irrefl _ (H.K.D.lt _ h))
  have HS1 := Lib.hid (hearS_one (ws := S.ws) (e0 := e0) hl hc hmay)
  have HLn := Lib.hid (And.intro hlen hout)
  clear hlen hout hl hc hmay hal H
  go_enter Try.func34, Try.ntmps34
  go_upto_region 1 with fail
  generalize World.alloc _ _ = wa at *
  obtain ⟨bm0, hb⟩ : ∃ b, w.heap.size = b := ⟨_, rfl⟩
  rw [hb] at HB HBn ⊢
  clear hb
  have b0 : wa.cell? ⟨b, 0, none⟩ = some (.pointer (some ⟨d, 0, none⟩)) := HSv.out.blk.cell 0
  have m0 : wa.cell? ⟨bm0, 0, none⟩ = some (.int .i64 m.k) := HB.out.cell 0
  have m1 : wa.cell? ⟨bm0, 1, none⟩ = some (.int .i64 m.c) := HB.out.cell 1
  have m2 : wa.cell? ⟨bm0, 2, none⟩ = some (.int .i64 m.l) := HB.out.cell 2
  have m3 : wa.cell? ⟨bm0, 3, none⟩ = some (.int .u64 m.d.x0) := HB.out.cell 3
  have m4 : wa.cell? ⟨bm0, 4, none⟩ = some (.int .u64 m.d.x1) := HB.out.cell 4
  have m5 : wa.cell? ⟨bm0, 5, none⟩ = some (.int .u64 m.d.x2) := HB.out.cell 5
  have m6 : wa.cell? ⟨bm0, 6, none⟩ = some (.int .u64 m.d.x3) := HB.out.cell 6
  have m7 : wa.cell? ⟨bm0, 7, none⟩ = some (.int .u64 m.d.x4) := HB.out.cell 7
  have m8 : wa.cell? ⟨bm0, 8, none⟩ = some (.int .u64 m.d.x5) := HB.out.cell 8
  have m9 : wa.cell? ⟨bm0, 9, none⟩ = some (.int .u64 m.d.x6) := HB.out.cell 9
  have m10 : wa.cell? ⟨bm0, 10, none⟩ = some (.int .u64 m.d.x7) := HB.out.cell 10
  have blt : b < wa.heap.size := HSv.out.blk.lt
  have mlt : bm0 < wa.heap.size := HB.out.lt
  have hH := hear_any wa.drew d bm bw bl 2 S.n S.ws es [e0, S.e] m (HSv.out.K.look ((Chg.refl [] wa).drew))
  rw [HS1.out] at hH
  have HH := Lib.hid hH
  clear hH HS1
  generalize hearE 2 S.ws S.e 1 m = r at *
  obtain ⟨ws', e', out⟩ := r
  go_region_held3 (fun w' => w'.cell? ⟨b, 0, none⟩ = some (.pointer (some ⟨d, 0, none⟩)) ∧ w'.cell? ⟨bm0, 0, none⟩ = some (.int .i64 m.k) ∧ w'.cell? ⟨bm0, 1, none⟩ = some (.int .i64 m.c) ∧ w'.cell? ⟨bm0, 2, none⟩ = some (.int .i64 m.l) ∧ w'.cell? ⟨bm0, 3, none⟩ = some (.int .u64 m.d.x0) ∧ w'.cell? ⟨bm0, 4, none⟩ = some (.int .u64 m.d.x1) ∧ w'.cell? ⟨bm0, 5, none⟩ = some (.int .u64 m.d.x2) ∧ w'.cell? ⟨bm0, 6, none⟩ = some (.int .u64 m.d.x3) ∧ w'.cell? ⟨bm0, 7, none⟩ = some (.int .u64 m.d.x4) ∧ w'.cell? ⟨bm0, 8, none⟩ = some (.int .u64 m.d.x5) ∧ w'.cell? ⟨bm0, 9, none⟩ = some (.int .u64 m.d.x6) ∧ w'.cell? ⟨bm0, 10, none⟩ = some (.int .u64 m.d.x7)) (first | with_reducible exact ⟨b0, m0, m1, m2, m3, m4, m5, m6, m7, m8, m9, m10⟩ | exact ⟨HSv2.out.blk.cell 0, HB2.out.cell 0, HB2.out.cell 1, HB2.out.cell 2, HB2.out.cell 3, HB2.out.cell 4, HB2.out.cell 5, HB2.out.cell 6, HB2.out.cell 7, HB2.out.cell 8, HB2.out.cell 9, HB2.out.cell 10⟩ | go_keep)
    (first | (go_at_call 7; refine HH.out.mono ?_; rintro e w1 ⟨es', ⟨v, rfl, ho, hs, hP⟩, hK⟩; obtain ⟨Av, cv, hvv, hv1, hv2, hv3, hv4, _⟩ := Rd.of_row encM_len ho; subst hvv; have HSv2 := Lib.hid (SvW.dir HSv.out (DirPost.trans (DirPost.look HSv.out.K.D ((Chg.refl [] wa).drew)) hP) hK); have HBl2 := Lib.hid (HBl.out.trans (HSv.out.dirBelow (DirPost.trans (DirPost.look HSv.out.K.D ((Chg.refl [] wa).drew)) hP))); have HB2 := Lib.hid (hP.chg.blk HB.out HBn.out); have HRd := Lib.hid hv4; have HRb : Hid (∀ a, Av = some a → a.block ≠ b) := Lib.hid (fun a ha e => absurd (show wa.heap.size ≤ a.block from ownsRow_ge ho a.block (by subst ha; simp [sliceB])) (by omega)); have HA := Lib.hid hv3; have HCp := Lib.hid hv1; clear ho hs hP hK hv1 hv2 hv3 hv4 HH HB HBn HSv HBl) | fail)
  clear b0 m0 m1 m2 m3 m4 m5 m6 m7 m8 m9 m10 mlt blt HB2
  have b7 : w1.cell? ⟨b, 7, none⟩ = some (.bool true) := HSv2.out.blk.cell 7
  have f7 : w1.frozen? ⟨b, 7, none⟩ = false := HSv2.out.blk.free 7
  have blt : b < w1.heap.size := HSv2.out.blk.lt
  go_upto_region 3 with fail
  have hF := HSv2.out.field 7 (.bool true) _ _ _ rfl
  have HSv3 := Lib.hid hF.1; have HBl3 := Lib.hid (HBl2.out.trans hF.2)
  have hRd := HRd.out.chg ((Chg.refl [b] w1).setCell (p := ⟨b, 7, none⟩) (fun _ => List.mem_singleton.2 rfl) (.bool true)) (fun a ha hm => HRb.out a ha (List.mem_singleton.1 hm))
  replace HRd := Lib.hid hRd
  clear hF hRd HSv2 HBl2 b7 f7 blt
  generalize World.setCell _ _ _ = w2 at *
  have b3 : w2.cell? ⟨b, 3, none⟩ = some vo := HSv3.out.blk.cell 3
  have f3 : w2.frozen? ⟨b, 3, none⟩ = false := HSv3.out.blk.free 3
  have blt : b < w2.heap.size := HSv3.out.blk.lt
  have HN := Lib.hid (Rd.news (by decide) encM_len HRd.out)
  have HNr := Lib.hid HSv3.out.notRow.2.1
  have HOw : Hid (w2.ownsRow N0 33 11 vo S.out.length (S.out.flatMap encM)) := Lib.hid HSv3.out.out
  have hl1 := HLn.out.1
  have hl2 := HLn.out.2
  have hlo : N0 ≤ w2.heap.size := HSv3.out.lo.2.2
  go_wp2_with (first | (at_builtin; refine wpList_append_own_any _ rfl (.tmp 30) (.tmp 31) 26 rfl (N0) 33 j0 (.agg #[.int .i64 0, .int .i64 0, .int .i64 0, .int .u64 0, .int .u64 0, .int .u64 0, .int .u64 0, .int .u64 0, .int .u64 0, .int .u64 0, .int .u64 0]) 11 88 Try.underlying26 hj hy0 hy1 hy2 rfl (by decide) _ _ _ rfl (HOw.out) Av (out.length) (cv) (out.flatMap encM) rfl HA.out (flat_len encM_len out) HCp.out HN.out (encs_one out) (by unfold maxLen; omega) (by omega) (by first | omega | (simp; omega) | simp) ?_; intro va1 wa1 hown1 hgrow1 hblk1 hnil1; have hsz1 := hgrow1.size; have HO1 := Lib.hid hown1; have HG1 := Lib.hid hgrow1; have HB1 := Lib.hid hblk1; have HZ1 := Lib.hid hnil1; clear hown1 hgrow1 hblk1 hnil1; obtain ⟨A9, c9, hv9, _, _, _, _⟩ := ownsRow_cell HO1.out; subst hv9; have HK1 := Lib.hid (Chg.of_grown (show w2.grownBy wa1 vo.ownBlock from HG1.out)); have q3 : wa1.cell? ⟨b, 3, none⟩ = some vo := (HK1.out.cell blt HNr.out 3).trans b3; have g3 : wa1.frozen? ⟨b, 3, none⟩ = false := (HK1.out.blk HSv3.out.blk HNr.out).free 3) | fail)
  have hG := HSv3.out.outGrew (news := out) rfl HO1.out HG1.out (HB1.out.imp id .inl)
  have HZ := Lib.hid (And.intro hG.1 (HBl3.out.trans hG.2))
  clear hG
  refine bodyPost_ret (results_none rfl _ _ _) rfl ?_
  exact ⟨rfl, ⟨_, _, _, HZ.out.1⟩, HZ.out.2⟩


/-- A core's cells all turned. -/
theorem hon_set11 {w : World} {bc c : Nat} {hs : List HonV} {t : TypeId} (h : Blk w bc (hs.flatMap encH) t) (hc : c < hs.length) (x : HonV) :
    Blk (((((((((((w.setCell ⟨bc, c * 11, none⟩ (.int .i64 x.st)).setCell ⟨bc, c * 11 + 1, none⟩ (.int .u64 x.d.x0)).setCell ⟨bc, c * 11 + 2, none⟩ (.int .u64 x.d.x1)).setCell ⟨bc, c * 11 + 3, none⟩ (.int .u64 x.d.x2)).setCell ⟨bc, c * 11 + 4, none⟩ (.int .u64 x.d.x3)).setCell ⟨bc, c * 11 + 5, none⟩ (.int .u64 x.d.x4)).setCell ⟨bc, c * 11 + 6, none⟩ (.int .u64 x.d.x5)).setCell ⟨bc, c * 11 + 7, none⟩ (.int .u64 x.d.x6)).setCell ⟨bc, c * 11 + 8, none⟩ (.int .u64 x.d.x7)).setCell ⟨bc, c * 11 + 9, none⟩ (.bool x.asks)).setCell ⟨bc, c * 11 + 10, none⟩ (.bool x.back)) bc ((hs.set c x).flatMap encH) t ∧ Chg [bc] w (((((((((((w.setCell ⟨bc, c * 11, none⟩ (.int .i64 x.st)).setCell ⟨bc, c * 11 + 1, none⟩ (.int .u64 x.d.x0)).setCell ⟨bc, c * 11 + 2, none⟩ (.int .u64 x.d.x1)).setCell ⟨bc, c * 11 + 3, none⟩ (.int .u64 x.d.x2)).setCell ⟨bc, c * 11 + 4, none⟩ (.int .u64 x.d.x3)).setCell ⟨bc, c * 11 + 5, none⟩ (.int .u64 x.d.x4)).setCell ⟨bc, c * 11 + 6, none⟩ (.int .u64 x.d.x5)).setCell ⟨bc, c * 11 + 7, none⟩ (.int .u64 x.d.x6)).setCell ⟨bc, c * 11 + 8, none⟩ (.int .u64 x.d.x7)).setCell ⟨bc, c * 11 + 9, none⟩ (.bool x.asks)).setCell ⟨bc, c * 11 + 10, none⟩ (.bool x.back)) := by
  refine ⟨?_, ((((((((((((Chg.refl [bc] w).setCell (p := ⟨bc, c * 11, none⟩) (fun _ => List.mem_singleton.2 rfl) (.int .i64 x.st)).setCell (p := ⟨bc, c * 11 + 1, none⟩) (fun _ => List.mem_singleton.2 rfl) (.int .u64 x.d.x0)).setCell (p := ⟨bc, c * 11 + 2, none⟩) (fun _ => List.mem_singleton.2 rfl) (.int .u64 x.d.x1)).setCell (p := ⟨bc, c * 11 + 3, none⟩) (fun _ => List.mem_singleton.2 rfl) (.int .u64 x.d.x2)).setCell (p := ⟨bc, c * 11 + 4, none⟩) (fun _ => List.mem_singleton.2 rfl) (.int .u64 x.d.x3)).setCell (p := ⟨bc, c * 11 + 5, none⟩) (fun _ => List.mem_singleton.2 rfl) (.int .u64 x.d.x4)).setCell (p := ⟨bc, c * 11 + 6, none⟩) (fun _ => List.mem_singleton.2 rfl) (.int .u64 x.d.x5)).setCell (p := ⟨bc, c * 11 + 7, none⟩) (fun _ => List.mem_singleton.2 rfl) (.int .u64 x.d.x6)).setCell (p := ⟨bc, c * 11 + 8, none⟩) (fun _ => List.mem_singleton.2 rfl) (.int .u64 x.d.x7)).setCell (p := ⟨bc, c * 11 + 9, none⟩) (fun _ => List.mem_singleton.2 rfl) (.bool x.asks)).setCell (p := ⟨bc, c * 11 + 10, none⟩) (fun _ => List.mem_singleton.2 rfl) (.bool x.back))⟩
  have h0 := (flat_set encH_len hs c hc 0 (by decide) (.int .i64 x.st) ⟨x.st, ⟨hs[c].d.x0, hs[c].d.x1, hs[c].d.x2, hs[c].d.x3, hs[c].d.x4, hs[c].d.x5, hs[c].d.x6, hs[c].d.x7⟩, hs[c].asks, hs[c].back⟩ rfl)
  have h1 := (flat_set encH_len (hs.set c ⟨x.st, ⟨hs[c].d.x0, hs[c].d.x1, hs[c].d.x2, hs[c].d.x3, hs[c].d.x4, hs[c].d.x5, hs[c].d.x6, hs[c].d.x7⟩, hs[c].asks, hs[c].back⟩) c (by rw [List.length_set]; exact hc) 1 (by decide) (.int .u64 x.d.x0) ⟨x.st, ⟨x.d.x0, hs[c].d.x1, hs[c].d.x2, hs[c].d.x3, hs[c].d.x4, hs[c].d.x5, hs[c].d.x6, hs[c].d.x7⟩, hs[c].asks, hs[c].back⟩ (by rw [List.getElem_set_self]; rfl))
  rw [List.set_set] at h1
  have h2 := (flat_set encH_len (hs.set c ⟨x.st, ⟨x.d.x0, hs[c].d.x1, hs[c].d.x2, hs[c].d.x3, hs[c].d.x4, hs[c].d.x5, hs[c].d.x6, hs[c].d.x7⟩, hs[c].asks, hs[c].back⟩) c (by rw [List.length_set]; exact hc) 2 (by decide) (.int .u64 x.d.x1) ⟨x.st, ⟨x.d.x0, x.d.x1, hs[c].d.x2, hs[c].d.x3, hs[c].d.x4, hs[c].d.x5, hs[c].d.x6, hs[c].d.x7⟩, hs[c].asks, hs[c].back⟩ (by rw [List.getElem_set_self]; rfl))
  rw [List.set_set] at h2
  have h3 := (flat_set encH_len (hs.set c ⟨x.st, ⟨x.d.x0, x.d.x1, hs[c].d.x2, hs[c].d.x3, hs[c].d.x4, hs[c].d.x5, hs[c].d.x6, hs[c].d.x7⟩, hs[c].asks, hs[c].back⟩) c (by rw [List.length_set]; exact hc) 3 (by decide) (.int .u64 x.d.x2) ⟨x.st, ⟨x.d.x0, x.d.x1, x.d.x2, hs[c].d.x3, hs[c].d.x4, hs[c].d.x5, hs[c].d.x6, hs[c].d.x7⟩, hs[c].asks, hs[c].back⟩ (by rw [List.getElem_set_self]; rfl))
  rw [List.set_set] at h3
  have h4 := (flat_set encH_len (hs.set c ⟨x.st, ⟨x.d.x0, x.d.x1, x.d.x2, hs[c].d.x3, hs[c].d.x4, hs[c].d.x5, hs[c].d.x6, hs[c].d.x7⟩, hs[c].asks, hs[c].back⟩) c (by rw [List.length_set]; exact hc) 4 (by decide) (.int .u64 x.d.x3) ⟨x.st, ⟨x.d.x0, x.d.x1, x.d.x2, x.d.x3, hs[c].d.x4, hs[c].d.x5, hs[c].d.x6, hs[c].d.x7⟩, hs[c].asks, hs[c].back⟩ (by rw [List.getElem_set_self]; rfl))
  rw [List.set_set] at h4
  have h5 := (flat_set encH_len (hs.set c ⟨x.st, ⟨x.d.x0, x.d.x1, x.d.x2, x.d.x3, hs[c].d.x4, hs[c].d.x5, hs[c].d.x6, hs[c].d.x7⟩, hs[c].asks, hs[c].back⟩) c (by rw [List.length_set]; exact hc) 5 (by decide) (.int .u64 x.d.x4) ⟨x.st, ⟨x.d.x0, x.d.x1, x.d.x2, x.d.x3, x.d.x4, hs[c].d.x5, hs[c].d.x6, hs[c].d.x7⟩, hs[c].asks, hs[c].back⟩ (by rw [List.getElem_set_self]; rfl))
  rw [List.set_set] at h5
  have h6 := (flat_set encH_len (hs.set c ⟨x.st, ⟨x.d.x0, x.d.x1, x.d.x2, x.d.x3, x.d.x4, hs[c].d.x5, hs[c].d.x6, hs[c].d.x7⟩, hs[c].asks, hs[c].back⟩) c (by rw [List.length_set]; exact hc) 6 (by decide) (.int .u64 x.d.x5) ⟨x.st, ⟨x.d.x0, x.d.x1, x.d.x2, x.d.x3, x.d.x4, x.d.x5, hs[c].d.x6, hs[c].d.x7⟩, hs[c].asks, hs[c].back⟩ (by rw [List.getElem_set_self]; rfl))
  rw [List.set_set] at h6
  have h7 := (flat_set encH_len (hs.set c ⟨x.st, ⟨x.d.x0, x.d.x1, x.d.x2, x.d.x3, x.d.x4, x.d.x5, hs[c].d.x6, hs[c].d.x7⟩, hs[c].asks, hs[c].back⟩) c (by rw [List.length_set]; exact hc) 7 (by decide) (.int .u64 x.d.x6) ⟨x.st, ⟨x.d.x0, x.d.x1, x.d.x2, x.d.x3, x.d.x4, x.d.x5, x.d.x6, hs[c].d.x7⟩, hs[c].asks, hs[c].back⟩ (by rw [List.getElem_set_self]; rfl))
  rw [List.set_set] at h7
  have h8 := (flat_set encH_len (hs.set c ⟨x.st, ⟨x.d.x0, x.d.x1, x.d.x2, x.d.x3, x.d.x4, x.d.x5, x.d.x6, hs[c].d.x7⟩, hs[c].asks, hs[c].back⟩) c (by rw [List.length_set]; exact hc) 8 (by decide) (.int .u64 x.d.x7) ⟨x.st, ⟨x.d.x0, x.d.x1, x.d.x2, x.d.x3, x.d.x4, x.d.x5, x.d.x6, x.d.x7⟩, hs[c].asks, hs[c].back⟩ (by rw [List.getElem_set_self]; rfl))
  rw [List.set_set] at h8
  have h9 := (flat_set encH_len (hs.set c ⟨x.st, ⟨x.d.x0, x.d.x1, x.d.x2, x.d.x3, x.d.x4, x.d.x5, x.d.x6, x.d.x7⟩, hs[c].asks, hs[c].back⟩) c (by rw [List.length_set]; exact hc) 9 (by decide) (.bool x.asks) ⟨x.st, ⟨x.d.x0, x.d.x1, x.d.x2, x.d.x3, x.d.x4, x.d.x5, x.d.x6, x.d.x7⟩, x.asks, hs[c].back⟩ (by rw [List.getElem_set_self]; rfl))
  rw [List.set_set] at h9
  have h10 := (flat_set encH_len (hs.set c ⟨x.st, ⟨x.d.x0, x.d.x1, x.d.x2, x.d.x3, x.d.x4, x.d.x5, x.d.x6, x.d.x7⟩, x.asks, hs[c].back⟩) c (by rw [List.length_set]; exact hc) 10 (by decide) (.bool x.back) ⟨x.st, ⟨x.d.x0, x.d.x1, x.d.x2, x.d.x3, x.d.x4, x.d.x5, x.d.x6, x.d.x7⟩, x.asks, x.back⟩ (by rw [List.getElem_set_self]; rfl))
  rw [List.set_set] at h10
  have hb := (Blk.set (Blk.set (Blk.set (Blk.set (Blk.set (Blk.set (Blk.set (Blk.set (Blk.set (Blk.set (Blk.set h (c * 11) (.int .i64 x.st)) (c * 11 + 1) (.int .u64 x.d.x0)) (c * 11 + 2) (.int .u64 x.d.x1)) (c * 11 + 3) (.int .u64 x.d.x2)) (c * 11 + 4) (.int .u64 x.d.x3)) (c * 11 + 5) (.int .u64 x.d.x4)) (c * 11 + 6) (.int .u64 x.d.x5)) (c * 11 + 7) (.int .u64 x.d.x6)) (c * 11 + 8) (.int .u64 x.d.x7)) (c * 11 + 9) (.bool x.asks)) (c * 11 + 10) (.bool x.back))
  rw [Nat.add_zero] at h0
  rw [h0, h1, h2, h3, h4, h5, h6, h7, h8, h9, h10] at hb
  exact hb

/-- A block that has nothing to do with the world. -/
structure Aside (N0 b d bm bw bl bc : Nat) (vi vo : Value) (es : List EntV) (x : Nat) : Prop where
  lo : N0 ≤ x
  nb : x ≠ b
  nc : x ≠ bc
  nd : x ≠ d
  nm : x ≠ bm
  ni : x ∉ rowB vi
  no : x ∉ rowB vo
  nD : x ∉ dirB bw bl es
section
variable {N0 : Nat} {w w' w1 : World} {b d bm bw bl bc : Nat} {vi vo : Value} {es es' : List EntV} {e0 : EntV} {S : SvS} {made got : Int}
theorem SvW.fresh (H : SvW N0 w b d bm bw bl bc vi vo es e0 S made got) {x : Nat} (hx : w.heap.size ≤ x) : Aside N0 b d bm bw bl bc vi vo es x := by
  have h1 := H.blk.lt; have h2 := H.hon.lt; have h3 := H.K.D.D.blk.lt; have h4 := H.K.D.D.mem.mlt
  exact ⟨Nat.le_trans H.lo.2.2 hx, by omega, by omega, by omega, by omega, fun h => by have := (H.inn.lt x (by simpa [rowB] using h)).2; omega, fun h => by have := (H.out.lt x (by simpa [rowB] using h)).2; omega, fun h => by have := H.K.D.lt x h; omega⟩
theorem SvW.aside (H : SvW N0 w b d bm bw bl bc vi vo es e0 S made got) {T : List Nat} (k : Chg T w w') (hT : ∀ x ∈ T, Aside N0 b d bm bw bl bc vi vo es x) : SvW N0 w' b d bm bw bl bc vi vo es e0 S made got ∧ Below N0 w w' :=
  ⟨⟨k.blk H.blk (fun h => (hT b h).nb rfl), k.blk H.hon (fun h => (hT bc h).nc rfl), H.K.chgS k (fun h => (hT d h).nd rfl) (fun h => (hT bm h).nm rfl) (fun x hx => (hT x hx).nD), ownsRow_chg H.inn k (fun g hg hm => (hT g hm).ni hg), ownsRow_chg H.out k (fun g hg hm => (hT g hm).no hg), ⟨H.lo.1, H.lo.2.1, Nat.le_trans H.lo.2.2 k.size⟩, H.loD, H.sepI, H.sepO, H.sep⟩, k.to_below (fun x hx => (hT x hx).lo) H.lo.2.2⟩
/-- The cores turned. -/
theorem SvW.honTurn (H : SvW N0 w b d bm bw bl bc vi vo es e0 S made got) {hs' : List HonV} (hl : hs'.length = S.hs.length) (k : Chg [bc] w w') (hB : Blk w' bc (hs'.flatMap encH) 91) : SvW N0 w' b d bm bw bl bc vi vo es e0 { S with hs := hs' } made got ∧ Below N0 w w' := by
  have hr := H.notRow
  have hbe := H.bne
  exact ⟨⟨by show Blk w' b [.pointer (some ⟨d, 0, none⟩), .slice (some ⟨bc, 0, none⟩) hs'.length hs'.length, vi, vo, .int .i64 made, .int .i64 got, .int .u64 S.val, .bool true] _; rw [hl]; exact k.blk H.blk (by simpa using H.ne), hB, H.K.chgS k (by simpa using Ne.symm hbe.2.2.1) (by simpa using Ne.symm hbe.2.2.2) (fun x hx => by rw [List.mem_singleton.1 hx]; exact H.notDir.2), ownsRow_chg H.inn k (fun g hg hm => by rw [List.mem_singleton.1 hm] at hg; exact hr.1.2 hg), ownsRow_chg H.out k (fun g hg hm => by rw [List.mem_singleton.1 hm] at hg; exact hr.2.2 hg), ⟨H.lo.1, H.lo.2.1, Nat.le_trans H.lo.2.2 k.size⟩, H.loD, H.sepI, H.sepO, H.sep⟩, k.to_below (fun x hx => by rw [List.mem_singleton.1 hx]; exact H.lo.2.1) H.lo.2.2⟩
/-- What is in flight to the directory got another row, or grew. -/
theorem SvW.innNew (H : SvW N0 w b d bm bw bl bc vi vo es e0 S made got) {vi' : Value} {inn' : List MsgV} (hk : Chg (rowB vi) w w1) (hO : w1.ownsRow N0 33 11 vi' inn'.length (inn'.flatMap encM)) (hnew : ∀ g ∈ rowB vi', g ∈ rowB vi ∨ w.heap.size ≤ g) :
    SvW N0 (w1.setCell ⟨b, 2, none⟩ vi') b d bm bw bl bc vi' vo es e0 { S with inn := inn' } made got ∧ Below N0 w (w1.setCell ⟨b, 2, none⟩ vi') := by
  have hr := H.notRow
  have hbe := H.bne
  have hb1 := hk.blk H.blk hr.1.1
  have hk2 : Chg (b :: rowB vi) w (w1.setCell ⟨b, 2, none⟩ vi') := (hk.mono (fun x hx => List.mem_cons_of_mem _ hx)).setCell (p := ⟨b, 2, none⟩) (fun _ => List.mem_cons_self) vi'
  have hko : Chg [b] w1 (w1.setCell ⟨b, 2, none⟩ vi') := (Chg.refl [b] w1).setCell (p := ⟨b, 2, none⟩) (fun _ => List.mem_singleton.2 rfl) vi'
  have hdne : d ∉ rowB vi ∧ bm ∉ rowB vi := by
    obtain ⟨_, hm⟩ := H.K.D.D.mem.m
    exact ⟨row_ne H.inn H.K.D.D.blk (by decide), row_ne H.inn hm (by decide)⟩
  refine ⟨⟨(hb1.set 2 vi'), hk2.blk H.hon (by rw [List.mem_cons, not_or]; exact ⟨Ne.symm H.ne, hr.1.2⟩), H.K.chgS hk2 ?_ ?_ ?_, ?_, ownsRow_chg H.out hk2 ?_, ⟨H.lo.1, H.lo.2.1, Nat.le_trans H.lo.2.2 hk2.size⟩, H.loD, ?_, H.sepO, ?_⟩, hk2.to_below ?_ H.lo.2.2⟩
  · rw [List.mem_cons, not_or]; exact ⟨Ne.symm hbe.1, hdne.1⟩
  · rw [List.mem_cons, not_or]; exact ⟨Ne.symm hbe.2.1, hdne.2⟩
  · intro x hx; rcases List.mem_cons.1 hx with rfl | hx
    · exact H.notDir.1
    · exact H.sepI x hx
  · exact ownsRow_chg hO hko (fun g hg hm => by
      have e := List.mem_singleton.1 hm
      subst e
      rcases hnew g hg with h | h
      · exact hr.1.1 h
      · have := H.blk.lt; omega)
  · intro g hg hm; rcases List.mem_cons.1 hm with rfl | hm
    · exact hr.2.1 hg
    · exact H.sep g hm hg
  · intro g hg hm
    rcases hnew g hg with h | h
    · exact H.sepI g h hm
    · have := H.K.D.lt g hm; omega
  · intro g hg hm
    rcases hnew g hg with h | h
    · exact H.sep g h hm
    · have := (H.out.lt g (by simpa [rowB] using hm)).2; omega
  · intro x hx; rcases List.mem_cons.1 hx with rfl | hx
    · exact H.lo.1
    · exact (H.inn.lt x (by simpa [rowB] using hx)).1
/-- What is in flight to cores got another row. -/
theorem SvW.outNew (H : SvW N0 w b d bm bw bl bc vi vo es e0 S made got) {vo' : Value} {out' : List MsgV} (hk : Chg (rowB vo) w w1) (hO : w1.ownsRow N0 33 11 vo' out'.length (out'.flatMap encM)) (hnew : ∀ g ∈ rowB vo', g ∈ rowB vo ∨ w.heap.size ≤ g) :
    SvW N0 (w1.setCell ⟨b, 3, none⟩ vo') b d bm bw bl bc vi vo' es e0 { S with out := out' } made got ∧ Below N0 w (w1.setCell ⟨b, 3, none⟩ vo') := by
  have hr := H.notRow
  have hbe := H.bne
  have hb1 := hk.blk H.blk hr.2.1
  have hk2 : Chg (b :: rowB vo) w (w1.setCell ⟨b, 3, none⟩ vo') := (hk.mono (fun x hx => List.mem_cons_of_mem _ hx)).setCell (p := ⟨b, 3, none⟩) (fun _ => List.mem_cons_self) vo'
  have hko : Chg [b] w1 (w1.setCell ⟨b, 3, none⟩ vo') := (Chg.refl [b] w1).setCell (p := ⟨b, 3, none⟩) (fun _ => List.mem_singleton.2 rfl) vo'
  have hdne : d ∉ rowB vo ∧ bm ∉ rowB vo := by
    obtain ⟨_, hm⟩ := H.K.D.D.mem.m
    exact ⟨row_ne H.out H.K.D.D.blk (by decide), row_ne H.out hm (by decide)⟩
  refine ⟨⟨(hb1.set 3 vo'), hk2.blk H.hon (by rw [List.mem_cons, not_or]; exact ⟨Ne.symm H.ne, hr.2.2⟩), H.K.chgS hk2 ?_ ?_ ?_, ownsRow_chg H.inn hk2 ?_, ?_, ⟨H.lo.1, H.lo.2.1, Nat.le_trans H.lo.2.2 hk2.size⟩, H.loD, H.sepI, ?_, ?_⟩, hk2.to_below ?_ H.lo.2.2⟩
  · rw [List.mem_cons, not_or]; exact ⟨Ne.symm hbe.1, hdne.1⟩
  · rw [List.mem_cons, not_or]; exact ⟨Ne.symm hbe.2.1, hdne.2⟩
  · intro x hx; rcases List.mem_cons.1 hx with rfl | hx
    · exact H.notDir.1
    · exact H.sepO x hx
  · intro g hg hm; rcases List.mem_cons.1 hm with rfl | hm
    · exact hr.1.1 hg
    · exact H.sep g hg hm
  · exact ownsRow_chg hO hko (fun g hg hm => by
      have e := List.mem_singleton.1 hm
      subst e
      rcases hnew g hg with h | h
      · exact hr.2.1 h
      · have := H.blk.lt; omega)
  · intro g hg hm
    rcases hnew g hg with h | h
    · exact H.sepO g h hm
    · have := H.K.D.lt g hm; omega
  · intro g hg hm
    rcases hnew g hm with h | h
    · exact H.sep g hg h
    · have := (H.inn.lt g (by simpa [rowB] using hg)).2; omega
  · intro x hx; rcases List.mem_cons.1 hx with rfl | hx
    · exact H.lo.1
    · exact (H.out.lt x (by simpa [rowB] using hx)).1
theorem rowB_grew {v v' : Value} (hB : v'.ownBlock = v.ownBlock ∨ v'.ownBlock = some w.heap.size) {n : Nat} (hn : n ≤ w.heap.size) : ∀ g ∈ rowB v', g ∈ rowB v ∨ n ≤ g := fun g hg => by
  rcases hB with h | h
  · left; unfold rowB at hg ⊢; rwa [h] at hg
  · right; unfold rowB at hg; rw [h] at hg; simp at hg; omega
end
end Go.Proofs.Ytepdhajgemmoiaa
