/- Under and Waiting of a directory; the law's same. -/
import Derived.Test.YtepdhajgemmoiaaDir15
import Derived.Test.YtepdhajgemmoiaaDir2324
import Derived.Laws.AppendOwnNone
import Derived.Deep.RegionHeld3
import Derived.Test.YtepdhajgemmoiaaDir2122
import Derived.Lib.SliceRun
import Derived.Test.YtepdhajgemmoiaaRD8
import Derived.Test.YtepdhajgemmoiaaRD12s
/- Under and Waiting of a directory that is known (as in the other claim of this seat, without its world). -/
namespace Go.Proofs.Ytepdhajgemmoiaa
set_option linter.unusedSimpArgs false
set_option linter.unusedVariables false
set_option maxRecDepth 100000
set_option linter.unusedSimpArgs false
set_option linter.unusedVariables false
open Go.RowKit

theorem encs_one (l : List MsgV) : ∀ u ∈ l.flatMap encM, u.oneCell' = true := fun u hu => by
  obtain ⟨m, _, hm⟩ := List.mem_flatMap.1 hu
  exact encM_one m u hm
def mcells (m : MsgV) : Value := .agg #[.int .i64 m.k, .int .i64 m.c, .int .i64 m.l, .int .u64 m.d.x0, .int .u64 m.d.x1, .int .u64 m.d.x2, .int .u64 m.d.x3, .int .u64 m.d.x4, .int .u64 m.d.x5, .int .u64 m.d.x6, .int .u64 m.d.x7]

def ClonePost (w : World) (l : List MsgV) (e : Ending) (w' : World) : Prop := ∃ v, e = .returned v ∧ w'.ownsRow w.heap.size 33 11 v l.length (l.flatMap encM) ∧ Chg [] w w'

set_option maxHeartbeats 4000000 in
theorem MClone_any (w : World) (v : Value) (l : List MsgV) (hW : WaitAt w v l) (hl : l.length ≤ 100000) :
    Calls Try.prog 36 #[v] w (ClonePost w l) := by
  obtain ⟨j0, hj, hy0, hy1, hy2⟩ := info_parts infoMsg
  have hR := hW.rd
  rcases hW with ⟨rfl, rfl⟩ | ⟨g, off, cap, cur, rfl, hgb, hle, hmx, hcu, hce⟩
  · have q22 : ∀ (w : World) (a : Option Addr) (n c n' c' : Nat), (binOp .eql 26 (.slice a n c) (.slice none n' c')).run Try.prog w = .ok (.bool a.isNone) w := fun w a n c n' c' => Lib.run_eql_slice_nil w _ _ a n c n' c' Try.underlying26
    go_enter Try.func36, Try.ntmps36
    go_wp2_with fail
    go_ret
    exact ⟨_, rfl, World.ownsRow_nil _ _ _ _, Chg.refl _ _⟩
  · obtain ⟨A, cap', hv, hc1, hc2, hRd⟩ := hR
    obtain ⟨rfl, rfl⟩ : some ⟨g, off, none⟩ = A ∧ cap = cap' := by simpa using hv
    clear hv
    have hN := Lib.hid (fun o : Obj => Rd.news (by decide) encM_len (hRd.chg0 ((Chg.refl [] w).alloc o)))
    have hBo : Hid ((w.alloc (.cells #[] 33)).ownsRow w.heap.size 33 11 (.slice (some ⟨w.heap.size, 0, none⟩) 0 0) 0 []) := Lib.hid ⟨rfl, .inr ⟨w.heap.size, 0, #[], rfl, Nat.le_refl _, heap_alloc_new w _, Nat.le_refl _, Nat.zero_le _, rfl, rfl⟩⟩
    have q22 : ∀ (w : World) (a : Option Addr) (n c n' c' : Nat), (binOp .eql 26 (.slice a n c) (.slice none n' c')).run Try.prog w = .ok (.bool a.isNone) w := fun w a n c n' c' => Lib.run_eql_slice_nil w _ _ a n c n' c' Try.underlying26
    have glt := hgb.lt
    clear hgb hcu hce hRd
    go_enter Try.func36, Try.ntmps36
    go_wp2_with (first | (at_builtin; refine wpList_append_own_any _ rfl (.tmp 5) (.tmp 6) 26 rfl (w.heap.size) 33 j0 (.agg #[.int .i64 0, .int .i64 0, .int .i64 0, .int .u64 0, .int .u64 0, .int .u64 0, .int .u64 0, .int .u64 0, .int .u64 0, .int .u64 0, .int .u64 0]) 11 88 Try.underlying26 hj hy0 hy1 hy2 rfl (by decide) _ _ _ rfl (hBo.out) (some ⟨g, off, none⟩) (l.length) (cap) (l.flatMap encM) rfl (fun h => nomatch h) (flat_len encM_len l) hle (hN.out _) (encs_one l) (by unfold maxLen; omega) (by omega) (by first | omega | (simp; omega) | simp) ?_; intro va1 wa1 hown1 hgrow1 hblk1 hnil1; have hsz1 := hgrow1.size; have HO1 := Lib.hid hown1; have HG1 := Lib.hid hgrow1; have HB1 := Lib.hid hblk1; have HZ1 := Lib.hid hnil1; clear hown1 hgrow1 hblk1 hnil1) | fail)
    have hk : Chg [] w wa1 := ((Chg.refl [] w).alloc (.cells #[] 33)).grown HG1.out (fun k hk hlt => by have : some w.heap.size = some k := hk; cases this; exact absurd hlt (Nat.lt_irrefl _))
    have HK := Lib.hid hk
    have HO := Lib.hid HO1.out
    clear hk HG1 HB1 HZ1 HO1
    go_ret
    exact ⟨_, rfl, by have := HO.out; rw [Nat.zero_add, List.nil_append] at this; exact this, HK.out⟩

theorem Waiting_ok (w : World) (d bl n cap : Nat) (i : Int) (h0 : 0 ≤ i) (h1 : i < n) (v : Value) (l : List MsgV) (hl : l.length ≤ 100000) (hW : WaitAt w v l) (hm : w.cell? ⟨d, 2, none⟩ = some (.slice (some ⟨bl, 0, none⟩) n cap)) (ho : w.cell? ⟨bl, i.toNat * 16 + 15, none⟩ = some v) :
    Calls Try.prog 18 #[.pointer (some ⟨d, 0, none⟩), .int .i64 i] w (ClonePost w l) := by
  have H := Lib.hid (dat_ok w d bl n cap i h0 h1 hm)
  have HC := Lib.hid (MClone_any w v l hW hl)
  obtain ⟨A, c, hv, _, _, _⟩ := hW.rd
  subst hv
  clear h1 hm h0 hW hl
  generalize i.toNat * 16 = p at *
  go_enter Try.func18, Try.ntmps18
  go_wp2_with fail
  refine H.out.mono ?_
  rintro e w' ⟨rfl, rfl⟩
  go_wp2_with fail
  refine HC.out.mono ?_
  rintro e w1 ⟨v, rfl, ho, hk⟩
  have HO := Lib.hid ho; have HK := Lib.hid hk
  clear ho hk HC H
  go_wp2_with fail
  go_ret
  exact ⟨v, rfl, HO.out, HK.out⟩

set_option maxHeartbeats 4000000 in
theorem Under_ok (w : World) (d bl n cap : Nat) (i : Nat) (es : List EntV) (hi : i < es.length) (hn : es.length = n) (dlt : d < w.heap.size) (hE : EntsAt w bl es) (hm : w.cell? ⟨d, 2, none⟩ = some (.slice (some ⟨bl, 0, none⟩) n cap)) :
    Calls Try.prog 14 #[.pointer (some ⟨d, 0, none⟩), .int .i64 (i : Int)] w fun e w' => e = .returned (.tuple #[mcells es[i].un, .bool (es[i].ph != 0)]) ∧ Chg [] w w' := by
  obtain ⟨E, hEE⟩ : ∃ E, es[i] = E := ⟨_, rfl⟩
  rw [hEE]
  obtain ⟨ow, sh, ⟨uk, uc, ul, ⟨u0, u1, u2, u3, u4, u5, u6, u7⟩⟩, ph, ak, wt, wl⟩ := E
  have HEE := Lib.hid hEE
  clear hEE
  simp only
  have hal : Chg [] w (w.alloc (.cells #[.int .i64 0, .int .i64 0, .int .i64 0, .int .u64 0, .int .u64 0, .int .u64 0, .int .u64 0, .int .u64 0, .int .u64 0, .int .u64 0, .int .u64 0] 33)) := (Chg.refl [] w).alloc _
  have HA := Lib.hid (fun W (k : Chg [] w W) => dat_ok W d bl n cap (i : Int) (by omega) (by omega) ((k.cell0 dlt 2).trans hm))
  have HE := Lib.hid (show EntsAt _ bl es from hal.blk hE (by simp))
  have HB := Lib.hid (Blk.new w [.int .i64 0, .int .i64 0, .int .i64 0, .int .u64 0, .int .u64 0, .int .u64 0, .int .u64 0, .int .u64 0, .int .u64 0, .int .u64 0, .int .u64 0] 33)
  have HC := Lib.hid hal
  have hbl : bl < w.heap.size := Blk.lt hE
  clear hE hm
  go_enter Try.func14, Try.ntmps14
  go_upto_region 1 with fail
  generalize World.alloc _ _ = wa at *
  obtain ⟨b, hb⟩ : ∃ b, w.heap.size = b := ⟨_, rfl⟩
  have HNb := Lib.hid hb
  rw [hb] at HB hbl ⊢
  clear hb
  obtain ⟨p, hp⟩ : ∃ p, i * 16 = p := ⟨_, rfl⟩
  have HP := Lib.hid hp
  have e2 : wa.cell? ⟨bl, p + 2, none⟩ = some (.int .i64 uk) := by have := HE.out.cell hi (j := 2) (by decide); rw [HEE.out, hp] at this; exact this
  have e3 : wa.cell? ⟨bl, p + 3, none⟩ = some (.int .i64 uc) := by have := HE.out.cell hi (j := 3) (by decide); rw [HEE.out, hp] at this; exact this
  have e4 : wa.cell? ⟨bl, p + 4, none⟩ = some (.int .i64 ul) := by have := HE.out.cell hi (j := 4) (by decide); rw [HEE.out, hp] at this; exact this
  have e5 : wa.cell? ⟨bl, p + 5, none⟩ = some (.int .u64 u0) := by have := HE.out.cell hi (j := 5) (by decide); rw [HEE.out, hp] at this; exact this
  have e6 : wa.cell? ⟨bl, p + 6, none⟩ = some (.int .u64 u1) := by have := HE.out.cell hi (j := 6) (by decide); rw [HEE.out, hp] at this; exact this
  have e7 : wa.cell? ⟨bl, p + 7, none⟩ = some (.int .u64 u2) := by have := HE.out.cell hi (j := 7) (by decide); rw [HEE.out, hp] at this; exact this
  have e8 : wa.cell? ⟨bl, p + 8, none⟩ = some (.int .u64 u3) := by have := HE.out.cell hi (j := 8) (by decide); rw [HEE.out, hp] at this; exact this
  have e9 : wa.cell? ⟨bl, p + 9, none⟩ = some (.int .u64 u4) := by have := HE.out.cell hi (j := 9) (by decide); rw [HEE.out, hp] at this; exact this
  have e10 : wa.cell? ⟨bl, p + 10, none⟩ = some (.int .u64 u5) := by have := HE.out.cell hi (j := 10) (by decide); rw [HEE.out, hp] at this; exact this
  have e11 : wa.cell? ⟨bl, p + 11, none⟩ = some (.int .u64 u6) := by have := HE.out.cell hi (j := 11) (by decide); rw [HEE.out, hp] at this; exact this
  have e12 : wa.cell? ⟨bl, p + 12, none⟩ = some (.int .u64 u7) := by have := HE.out.cell hi (j := 12) (by decide); rw [HEE.out, hp] at this; exact this
  have e13 : wa.cell? ⟨bl, p + 13, none⟩ = some (.int .i64 ph) := by have := HE.out.cell hi (j := 13) (by decide); rw [HEE.out, hp] at this; exact this
  have blt : bl < wa.heap.size := Blk.lt HE.out
  have mlt : b < wa.heap.size := HB.out.lt
  have hdb : b ≠ bl := by omega
  have c0 : wa.cell? ⟨b, 0, none⟩ = some (.int .i64 0) := HB.out.cell 0
  have c1 : wa.cell? ⟨b, 1, none⟩ = some (.int .i64 0) := HB.out.cell 1
  have c2 : wa.cell? ⟨b, 2, none⟩ = some (.int .i64 0) := HB.out.cell 2
  have c3 : wa.cell? ⟨b, 3, none⟩ = some (.int .u64 0) := HB.out.cell 3
  have c4 : wa.cell? ⟨b, 4, none⟩ = some (.int .u64 0) := HB.out.cell 4
  have c5 : wa.cell? ⟨b, 5, none⟩ = some (.int .u64 0) := HB.out.cell 5
  have c6 : wa.cell? ⟨b, 6, none⟩ = some (.int .u64 0) := HB.out.cell 6
  have c7 : wa.cell? ⟨b, 7, none⟩ = some (.int .u64 0) := HB.out.cell 7
  have c8 : wa.cell? ⟨b, 8, none⟩ = some (.int .u64 0) := HB.out.cell 8
  have c9 : wa.cell? ⟨b, 9, none⟩ = some (.int .u64 0) := HB.out.cell 9
  have c10 : wa.cell? ⟨b, 10, none⟩ = some (.int .u64 0) := HB.out.cell 10
  have g0 : wa.frozen? ⟨b, 0, none⟩ = false := HB.out.free 0
  have g1 : wa.frozen? ⟨b, 1, none⟩ = false := HB.out.free 1
  have g2 : wa.frozen? ⟨b, 2, none⟩ = false := HB.out.free 2
  have g3 : wa.frozen? ⟨b, 3, none⟩ = false := HB.out.free 3
  have g4 : wa.frozen? ⟨b, 4, none⟩ = false := HB.out.free 4
  have g5 : wa.frozen? ⟨b, 5, none⟩ = false := HB.out.free 5
  have g6 : wa.frozen? ⟨b, 6, none⟩ = false := HB.out.free 6
  have g7 : wa.frozen? ⟨b, 7, none⟩ = false := HB.out.free 7
  have g8 : wa.frozen? ⟨b, 8, none⟩ = false := HB.out.free 8
  have g9 : wa.frozen? ⟨b, 9, none⟩ = false := HB.out.free 9
  have g10 : wa.frozen? ⟨b, 10, none⟩ = false := HB.out.free 10
  have hA := HA.out wa HC.out
  rw [Int.toNat_natCast, hp] at hA
  replace HA := Lib.hid hA
  clear hA hp
  go_wp2_with fail
  refine HA.out.mono ?_
  rintro e w' ⟨rfl, rfl⟩
  go_wp2_with fail
  have hTd := ((((((((((((Chg.refl [b] wa).setCell (p := ⟨b, 0, none⟩) (fun _ => List.mem_singleton.2 rfl) (.int .i64 uk)).setCell (p := ⟨b, 1, none⟩) (fun _ => List.mem_singleton.2 rfl) (.int .i64 uc)).setCell (p := ⟨b, 2, none⟩) (fun _ => List.mem_singleton.2 rfl) (.int .i64 ul)).setCell (p := ⟨b, 3, none⟩) (fun _ => List.mem_singleton.2 rfl) (.int .u64 u0)).setCell (p := ⟨b, 4, none⟩) (fun _ => List.mem_singleton.2 rfl) (.int .u64 u1)).setCell (p := ⟨b, 5, none⟩) (fun _ => List.mem_singleton.2 rfl) (.int .u64 u2)).setCell (p := ⟨b, 6, none⟩) (fun _ => List.mem_singleton.2 rfl) (.int .u64 u3)).setCell (p := ⟨b, 7, none⟩) (fun _ => List.mem_singleton.2 rfl) (.int .u64 u4)).setCell (p := ⟨b, 8, none⟩) (fun _ => List.mem_singleton.2 rfl) (.int .u64 u5)).setCell (p := ⟨b, 9, none⟩) (fun _ => List.mem_singleton.2 rfl) (.int .u64 u6)).setCell (p := ⟨b, 10, none⟩) (fun _ => List.mem_singleton.2 rfl) (.int .u64 u7)).drew
  have hq1 : bl ∉ [b] := by simpa using Ne.symm hdb
  go_region_held3 (fun w' => w'.cell? ⟨bl, p + 2, none⟩ = some (.int .i64 uk) ∧ w'.cell? ⟨bl, p + 3, none⟩ = some (.int .i64 uc) ∧ w'.cell? ⟨bl, p + 4, none⟩ = some (.int .i64 ul) ∧ w'.cell? ⟨bl, p + 5, none⟩ = some (.int .u64 u0) ∧ w'.cell? ⟨bl, p + 6, none⟩ = some (.int .u64 u1) ∧ w'.cell? ⟨bl, p + 7, none⟩ = some (.int .u64 u2) ∧ w'.cell? ⟨bl, p + 8, none⟩ = some (.int .u64 u3) ∧ w'.cell? ⟨bl, p + 9, none⟩ = some (.int .u64 u4) ∧ w'.cell? ⟨bl, p + 10, none⟩ = some (.int .u64 u5) ∧ w'.cell? ⟨bl, p + 11, none⟩ = some (.int .u64 u6) ∧ w'.cell? ⟨bl, p + 12, none⟩ = some (.int .u64 u7) ∧ w'.cell? ⟨bl, p + 13, none⟩ = some (.int .i64 ph))
    (first | with_reducible exact ⟨e2, e3, e4, e5, e6, e7, e8, e9, e10, e11, e12, e13⟩ | with_reducible exact ⟨(hTd.cell blt hq1 _).trans e2, (hTd.cell blt hq1 _).trans e3, (hTd.cell blt hq1 _).trans e4, (hTd.cell blt hq1 _).trans e5, (hTd.cell blt hq1 _).trans e6, (hTd.cell blt hq1 _).trans e7, (hTd.cell blt hq1 _).trans e8, (hTd.cell blt hq1 _).trans e9, (hTd.cell blt hq1 _).trans e10, (hTd.cell blt hq1 _).trans e11, (hTd.cell blt hq1 _).trans e12, (hTd.cell blt hq1 _).trans e13⟩ | go_keep) (fail)
  have HBz := Lib.hid (show Blk _ b [.int .i64 uk, .int .i64 uc, .int .i64 ul, .int .u64 u0, .int .u64 u1, .int .u64 u2, .int .u64 u3, .int .u64 u4, .int .u64 u5, .int .u64 u6, .int .u64 u7] 33 from Blk.drew (((((((((((HB.out.set 0 (.int .i64 uk)).set 1 (.int .i64 uc)).set 2 (.int .i64 ul)).set 3 (.int .u64 u0)).set 4 (.int .u64 u1)).set 5 (.int .u64 u2)).set 6 (.int .u64 u3)).set 7 (.int .u64 u4)).set 8 (.int .u64 u5)).set 9 (.int .u64 u6)).set 10 (.int .u64 u7)))
  have HCz := Lib.hid (HC.out.trans' hTd (fun x hx hlt => by rw [List.mem_singleton.1 hx] at hlt; have := HNb.out; omega))
  clear hTd hq1 HE HB HC HA e2 e3 e4 e5 e6 e7 e8 e9 e10 e11 e12 e13 c0 c1 c2 c3 c4 c5 c6 c7 c8 c9 c10 g0 g1 g2 g3 g4 g5 g6 g7 g8 g9 g10 mlt blt hdb
  generalize World.drew _ = w3 at *
  have r0 : w3.cell? ⟨b, 0, none⟩ = some (.int .i64 uk) := HBz.out.cell 0; have r1 : w3.cell? ⟨b, 1, none⟩ = some (.int .i64 uc) := HBz.out.cell 1; have r2 : w3.cell? ⟨b, 2, none⟩ = some (.int .i64 ul) := HBz.out.cell 2; have r3 : w3.cell? ⟨b, 3, none⟩ = some (.int .u64 u0) := HBz.out.cell 3; have r4 : w3.cell? ⟨b, 4, none⟩ = some (.int .u64 u1) := HBz.out.cell 4; have r5 : w3.cell? ⟨b, 5, none⟩ = some (.int .u64 u2) := HBz.out.cell 5; have r6 : w3.cell? ⟨b, 6, none⟩ = some (.int .u64 u3) := HBz.out.cell 6; have r7 : w3.cell? ⟨b, 7, none⟩ = some (.int .u64 u4) := HBz.out.cell 7; have r8 : w3.cell? ⟨b, 8, none⟩ = some (.int .u64 u5) := HBz.out.cell 8; have r9 : w3.cell? ⟨b, 9, none⟩ = some (.int .u64 u6) := HBz.out.cell 9; have r10 : w3.cell? ⟨b, 10, none⟩ = some (.int .u64 u7) := HBz.out.cell 10
  go_wp2_with fail
  refine bodyPost_ret (v := .tuple #[.agg #[.int .i64 uk, .int .i64 uc, .int .i64 ul, .int .u64 u0, .int .u64 u1, .int .u64 u2, .int .u64 u3, .int .u64 u4, .int .u64 u5, .int .u64 u6, .int .u64 u7], .bool (ph != 0)]) ?_ rfl ⟨rfl, HCz.out⟩
  simp [results, Try.results14, go_sem, r0, r1, r2, r3, r4, r5, r6, r7, r8, r9, r10]

section
variable {w : World} {d bm bw bl n : Nat} {cores : Int} {ws : List Int} {es ks : List EntV}
theorem Under_any (i : Nat) (K : Knows w d bm bw bl n cores ws es ks) (hi : i < n) (e : EntV) (he : ks[i]? = some e) :
    Calls Try.prog 14 #[.pointer (some ⟨d, 0, none⟩), .int .i64 (i : Int)] w fun r w' => r = .returned (.tuple #[mcells e.un, .bool (e.ph != 0)]) ∧ Chg [] w w' := by
  have hln := K.D.D.len
  have hie : i < es.length := by omega
  have he2 : e = unw es[i] := by rw [← K.ks, List.getElem?_map, List.getElem?_eq_getElem hie] at he; simpa using he.symm
  subst he2
  exact Under_ok w d bl n n i es hie hln K.D.D.blk.lt K.D.D.ents (K.D.D.blk.cell 2)
theorem Waiting_any (i : Nat) (K : Knows w d bm bw bl n cores ws es ks) (hi : i < n) (e : EntV) (he : ks[i]? = some e) :
    Calls Try.prog 18 #[.pointer (some ⟨d, 0, none⟩), .int .i64 (i : Int)] w (ClonePost w e.wl) := by
  have hln := K.D.D.len
  have hie : i < es.length := by omega
  have he2 : e = unw es[i] := by rw [← K.ks, List.getElem?_map, List.getElem?_eq_getElem hie] at he; simpa using he.symm
  subst he2
  obtain ⟨hE, hW⟩ := K.ok i hie
  exact Waiting_ok w d bl n n (i : Int) (by omega) (by omega) es[i].wt es[i].wl (hW.len hE K.co.2) (K.D.wait i hie) (K.D.D.blk.cell 2) (K.D.D.ents.cell hie (j := 15) (by decide))
end
set_option maxHeartbeats 1000000 in
theorem Under_out (w : World) (d bm bw bl n : Nat) (cores : Int) (ws : List Int) (es ks : List EntV) (i : Int) (hi : i < 0 ∨ (n : Int) ≤ i) (K : Knows w d bm bw bl n cores ws es ks) :
    Calls Try.prog 14 #[.pointer (some ⟨d, 0, none⟩), .int .i64 i] w fun r w' => r = .returned (.tuple #[mcells {}, .bool false]) ∧ Chg [] w w' := by
  have hA := Lib.hid (fun W (k : Chg [] w W) => dat_bad W d bl n n i hi ((k.cell0 K.D.D.blk.lt 2).trans (K.D.D.blk.cell 2)))
  clear hi
  go_enter Try.func14, Try.ntmps14
  go_wp2_with fail
  refine (hA.out _ ((Chg.refl [] w).alloc _)).mono ?_
  rintro e w1 ⟨rfl, rfl⟩
  go_wp2_with fail
  refine bodyPost_ret (v := .tuple #[.agg #[.int .i64 0, .int .i64 0, .int .i64 0, .int .u64 0, .int .u64 0, .int .u64 0, .int .u64 0, .int .u64 0, .int .u64 0, .int .u64 0, .int .u64 0], .bool false]) ?_ rfl ⟨rfl, (Chg.refl _ _).alloc _⟩
  simp [results, Try.results14, go_sem]
set_option maxHeartbeats 1000000 in
theorem Waiting_out (w : World) (d bm bw bl n : Nat) (cores : Int) (ws : List Int) (es ks : List EntV) (i : Int) (hi : i < 0 ∨ (n : Int) ≤ i) (K : Knows w d bm bw bl n cores ws es ks) :
    Calls Try.prog 18 #[.pointer (some ⟨d, 0, none⟩), .int .i64 i] w (ClonePost w []) := by
  have hA := Lib.hid (dat_bad w d bl n n i hi (K.D.D.blk.cell 2))
  clear hi
  go_enter Try.func18, Try.ntmps18
  go_wp2_with fail
  refine hA.out.mono ?_
  rintro e w1 ⟨rfl, rfl⟩
  go_wp2_with fail
  go_ret
  exact ⟨_, rfl, World.ownsRow_nil _ _ _ _, Chg.refl _ _⟩
end Go.Proofs.Ytepdhajgemmoiaa

/- The law's same: it says true of two directories that are alike. -/
namespace Go.Proofs.Ytepdhajgemmoiaa
set_option linter.unusedSimpArgs false
set_option linter.unusedVariables false
set_option maxRecDepth 100000
set_option linter.unusedSimpArgs false
set_option linter.unusedVariables false
open Go.RowKit
attribute [local go_sem ↓] load_E store_E
attribute [local go_sem] bigOk_E bigVal_E bigFree_E bigPut_E bigNew putAll_drew Value.oneCell'
theorem load_M (ρ : Operand → Value) (dst : Option Tmp) (ty : TypeId) (pos : String) (af : Array Edge) (gd : Option (Tmp × Bool)) (x : Operand) (w : World) (h : bigOk w 11 (ρ x) = true) : (execOp ρ { dst := dst, op := .load 33 x, type := ty, pos := pos, after := af, guard := gd }).run Try.prog w = .ok (.value (.agg (bigVal w 11 (ρ x)).toArray)) w :=
  exec_load_big 33 11 (by kernel_rfl) (by kernel_rfl) ρ _ x rfl w h
theorem store_M (ρ : Operand → Value) (dst : Option Tmp) (ty : TypeId) (pos : String) (af : Array Edge) (gd : Option (Tmp × Bool)) (x y : Operand) (w : World) (h : bigFree w 11 (ρ x) (ρ y) = true) : (execOp ρ { dst := dst, op := .store 33 x y, type := ty, pos := pos, after := af, guard := gd }).run Try.prog w = .ok .skip (bigPut w (ρ x) (ρ y)) :=
  exec_store_big 33 11 (by kernel_rfl) ρ _ x y rfl w h
theorem bigOk_M (w : World) (b o : Nat) : bigOk w 11 (.pointer (some ⟨b, o, none⟩)) = ((w.cell? ⟨b, o, none⟩).isSome && (w.cell? ⟨b, o + 1, none⟩).isSome && (w.cell? ⟨b, o + 2, none⟩).isSome && (w.cell? ⟨b, o + 3, none⟩).isSome && (w.cell? ⟨b, o + 4, none⟩).isSome && (w.cell? ⟨b, o + 5, none⟩).isSome && (w.cell? ⟨b, o + 6, none⟩).isSome && (w.cell? ⟨b, o + 7, none⟩).isSome && (w.cell? ⟨b, o + 8, none⟩).isSome && (w.cell? ⟨b, o + 9, none⟩).isSome && (w.cell? ⟨b, o + 10, none⟩).isSome) := by simp [bigOk, List.range_succ, Bool.and_assoc]
theorem bigVal_M (w : World) (b o : Nat) : bigVal w 11 (.pointer (some ⟨b, o, none⟩)) = [(w.cell? ⟨b, o, none⟩).getD undef, (w.cell? ⟨b, o + 1, none⟩).getD undef, (w.cell? ⟨b, o + 2, none⟩).getD undef, (w.cell? ⟨b, o + 3, none⟩).getD undef, (w.cell? ⟨b, o + 4, none⟩).getD undef, (w.cell? ⟨b, o + 5, none⟩).getD undef, (w.cell? ⟨b, o + 6, none⟩).getD undef, (w.cell? ⟨b, o + 7, none⟩).getD undef, (w.cell? ⟨b, o + 8, none⟩).getD undef, (w.cell? ⟨b, o + 9, none⟩).getD undef, (w.cell? ⟨b, o + 10, none⟩).getD undef] := by simp [bigVal, List.range_succ]
theorem bigFree_M (w : World) (b o : Nat) (v0 v1 v2 v3 v4 v5 v6 v7 v8 v9 v10 : Value) : bigFree w 11 (.pointer (some ⟨b, o, none⟩)) (.agg #[v0, v1, v2, v3, v4, v5, v6, v7, v8, v9, v10]) = ((((w.cell? ⟨b, o, none⟩).isSome && !(w.frozen? ⟨b, o, none⟩)) && ((w.cell? ⟨b, o + 1, none⟩).isSome && !(w.frozen? ⟨b, o + 1, none⟩)) && ((w.cell? ⟨b, o + 2, none⟩).isSome && !(w.frozen? ⟨b, o + 2, none⟩)) && ((w.cell? ⟨b, o + 3, none⟩).isSome && !(w.frozen? ⟨b, o + 3, none⟩)) && ((w.cell? ⟨b, o + 4, none⟩).isSome && !(w.frozen? ⟨b, o + 4, none⟩)) && ((w.cell? ⟨b, o + 5, none⟩).isSome && !(w.frozen? ⟨b, o + 5, none⟩)) && ((w.cell? ⟨b, o + 6, none⟩).isSome && !(w.frozen? ⟨b, o + 6, none⟩)) && ((w.cell? ⟨b, o + 7, none⟩).isSome && !(w.frozen? ⟨b, o + 7, none⟩)) && ((w.cell? ⟨b, o + 8, none⟩).isSome && !(w.frozen? ⟨b, o + 8, none⟩)) && ((w.cell? ⟨b, o + 9, none⟩).isSome && !(w.frozen? ⟨b, o + 9, none⟩)) && ((w.cell? ⟨b, o + 10, none⟩).isSome && !(w.frozen? ⟨b, o + 10, none⟩))) && (v0.oneCell' && v1.oneCell' && v2.oneCell' && v3.oneCell' && v4.oneCell' && v5.oneCell' && v6.oneCell' && v7.oneCell' && v8.oneCell' && v9.oneCell' && v10.oneCell')) := by simp [bigFree, List.range_succ, Bool.and_assoc]
theorem bigPut_M (w : World) (b o : Nat) (v0 v1 v2 v3 v4 v5 v6 v7 v8 v9 v10 : Value) : bigPut w (.pointer (some ⟨b, o, none⟩)) (.agg #[v0, v1, v2, v3, v4, v5, v6, v7, v8, v9, v10]) = w.setCells b o [v0, v1, v2, v3, v4, v5, v6, v7, v8, v9, v10] := rfl
attribute [local go_sem ↓] load_M store_M
attribute [local go_sem] bigOk_M bigVal_M bigFree_M bigPut_M bigNew putAll_drew Value.oneCell'

/-- What both sides answer of a line. -/
structure SL (W : World) (d rd : Nat) (i : Int) (x : RE) (v : L8) (err : Int) : Prop where
  sh : ∀ V, Chg [] W V → Calls Try.prog 10 #[.pointer (some ⟨d, 0, none⟩), .int .i64 i] V (NumsPost V x.sh)
  un : ∀ V, Chg [] W V → Calls Try.prog 14 #[.pointer (some ⟨d, 0, none⟩), .int .i64 i] V fun e w' => e = .returned (.tuple #[.agg #[.int .i64 x.un.k, .int .i64 x.un.c, .int .i64 x.un.l, .int .u64 x.un.d.x0, .int .u64 x.un.d.x1, .int .u64 x.un.d.x2, .int .u64 x.un.d.x3, .int .u64 x.un.d.x4, .int .u64 x.un.d.x5, .int .u64 x.un.d.x6, .int .u64 x.un.d.x7], .bool (decide (0 < x.ph))]) ∧ Chg [] V w'
  wt : ∀ V, Chg [] W V → Calls Try.prog 18 #[.pointer (some ⟨d, 0, none⟩), .int .i64 i] V (ClonePost V x.wl)
  me : ∀ V, Chg [] W V → Calls Try.prog 12 #[.pointer (some ⟨d, 0, none⟩), .int .i64 i] V fun e w' => e = .returned (.tuple #[.agg #[.int .u64 v.x0, .int .u64 v.x1, .int .u64 v.x2, .int .u64 v.x3, .int .u64 v.x4, .int .u64 v.x5, .int .u64 v.x6, .int .u64 v.x7], .int .i64 err]) ∧ Chg [] V w'
  li : ∀ V, Chg [] W V → Calls Try.prog 44 #[.pointer (some ⟨rd, 0, none⟩), .int .i64 i] V fun e w' => e = .returned (.tuple #[.agg #[.int .u64 v.x0, .int .u64 v.x1, .int .u64 v.x2, .int .u64 v.x3, .int .u64 v.x4, .int .u64 v.x5, .int .u64 v.x6, .int .u64 v.x7], .int .i64 err]) ∧ Chg [] V w'
  ow : ∀ V, Chg [] W V → Calls Try.prog 9 #[.pointer (some ⟨d, 0, none⟩), .int .i64 i] V fun e w' => e = .returned (.int .i64 x.ow) ∧ V = w'
  rsh : Rd W W.heap.size x.shA 1 encN x.sh
  rwt : Rd W W.heap.size x.wtA 11 encM x.wl
  ls : x.sh.length ≤ 4
  lw : x.wl.length ≤ 500

/-- A row of our own that may be written to. -/
def WrRow (W V : World) (A : Option Addr) (e : TypeId) (size len : Nat) : Prop := 0 < len → ∃ g cells, A = some ⟨g, 0, none⟩ ∧ Blk V g cells e ∧ len * size ≤ cells.length ∧ W.heap.size ≤ g
theorem WrRow.chg {W V V' : World} {A : Option Addr} {e : TypeId} {size len : Nat} (h : WrRow W V A e size len) (k : Chg [] V V') : WrRow W V' A e size len := fun hp => by
  obtain ⟨g, cl, ha, hb, r⟩ := h hp
  exact ⟨g, cl, ha, k.blk hb (by simp), r⟩
theorem WrRow.other {W V : World} {A : Option Addr} {e t : TypeId} {size len g o : Nat} {l : List Value} (h : WrRow W V A e size len) (hB : Blk V g l t) (hne : t ≠ e) (u : Value) : WrRow W (V.setCell ⟨g, o, none⟩ u) A e size len := fun hp => by
  obtain ⟨g', cl, ha, hb, r⟩ := h hp
  exact ⟨g', cl, ha, hb.other (hB.ne hb hne) u, r⟩
theorem WrRow.of_row {W V : World} {base : Nat} {A : Option Addr} {e : TypeId} {size len cap : Nat} {xs : List Value} (h : V.ownsRow base e size (.slice A len cap) len xs) (hb : W.heap.size ≤ base) : WrRow W V A e size len := fun hp => by
  rcases h.2 with ⟨_, h0⟩ | ⟨g, cap', cur, hv, hg, hh, h1, h2, r1, r2⟩
  · omega
  · cases hv
    refine ⟨g, cur.toList, rfl, ?_, ?_, Nat.le_trans hb hg⟩
    · unfold Blk; rw [Array.toArray_toList]; exact hh
    · rw [Array.length_toList, r1]; exact Nat.mul_le_mul_right _ h1
theorem line_eq (w : World) (v : L8) : (Op.equalIn 10000 31 (.agg #[.int .u64 v.x0, .int .u64 v.x1, .int .u64 v.x2, .int .u64 v.x3, .int .u64 v.x4, .int .u64 v.x5, .int .u64 v.x6, .int .u64 v.x7]) (.agg #[.int .u64 v.x0, .int .u64 v.x1, .int .u64 v.x2, .int .u64 v.x3, .int .u64 v.x4, .int .u64 v.x5, .int .u64 v.x6, .int .u64 v.x7])).run Try.prog w = .ok true w := by
  obtain ⟨i0, hi, _⟩ := info_parts Try.infoU64
  have h := run_eq_array w 9998 (k := .u64) Try.underlying31 hi Try.cellsU64 Try.underlying29 [v.x0, v.x1, v.x2, v.x3, v.x4, v.x5, v.x6, v.x7] [v.x0, v.x1, v.x2, v.x3, v.x4, v.x5, v.x6, v.x7] rfl rfl
  rw [show eqInts [v.x0, v.x1, v.x2, v.x3, v.x4, v.x5, v.x6, v.x7] [v.x0, v.x1, v.x2, v.x3, v.x4, v.x5, v.x6, v.x7] = true from by simp [eqInts]] at h
  exact h
set_option maxHeartbeats 8000000 in
theorem same_any (W : World) (N : List Nat) (d rd bL bW n capL : Nat) (cores : Int) (ws : List Int) (rs : List RE) (H : RDAt W N rd bL bW n capL cores ws rs)
    (HSL : ∀ i : Int, ∃ x v err, SL W d rd i x v err ∧ ((0 ≤ i ∧ i < n) → ∃ h : i.toNat < rs.length, rs[i.toNat] = x) ∧ (¬ (0 ≤ i ∧ i < n) → x = {})) :
    Calls Try.prog 22 #[.pointer (some ⟨d, 0, none⟩), .pointer (some ⟨rd, 0, none⟩)] W fun e w' => e = .returned (.bool true) ∧ Chg [] W w' := by
  have HH := Lib.hid H; have HS := Lib.hid HSL
  have h64 := H.small
  have hln := H.len
  clear H HSL
  go_enter Try.func22, Try.ntmps22
  go_wp2_with fail
  go_loopw [5] (fun q wr => ∃ k : Nat, k ≤ n + 2 ∧ q = .int .i64 ((k : Int) - 1) ∧ Hid (Chg [] W wr))
    (fun q _ => n + 2 - (intOf q + 1).toNat)
  case atStart => exact ⟨0, by omega, rfl, Lib.hid (Chg.refl _ _)⟩
  case round =>
    obtain ⟨k, hk, rfl, hC⟩ := hrel
    have d2 : wr.cell? ⟨rd, 2, none⟩ = some (.slice (some ⟨bL, 0, none⟩) n capL) := (HH.out.look hC.out).blk.cell 2
    have hs0 := hC.out.size
    by_cases hlt : k < n + 2
    · have hle : ((k : Int) - 1) ≤ n := by omega
      have hnext : IntKind.i64.wrap ((k : Int) - 1 + 1) = (k : Int) := by rw [Int.sub_add_cancel]; exact wrap_small _ (by omega) (by omega)
      have HNx := Lib.hid hnext
      obtain ⟨i, hi⟩ : ∃ i : Int, (k : Int) - 1 = i := ⟨_, rfl⟩
      have HI := Lib.hid hi
      rw [hi] at hle hnext ⊢
      obtain ⟨x, v, err, S, hin, hout⟩ := HS.out i
      have HSx := Lib.hid S; have HIn := Lib.hid hin; have HOut := Lib.hid hout
      clear S hin hout hi
      go_wp2_with fail
      refine (HSx.out.sh _ hC.out).mono ?_
      rintro e w1 ⟨v1, rfl, ho1, hk1⟩
      have HO1 := Lib.hid ho1; have HC1 := Lib.hid (hC.out.trans hk1)
      have HB1z : Hid (W.heap.size ≤ wr.heap.size) := Lib.hid hs0
      clear ho1 hk1 d2 hs0
      go_wp2_with fail
      refine (HSx.out.un _ HC1.out).mono ?_
      rintro e w2 ⟨rfl, hk2⟩
      have HC2 := Lib.hid (HC1.out.trans hk2)
      have HO2 := Lib.hid (ownsRow_chg HO1.out hk2 (by simp))
      clear hk2 HC1 HO1
      replace HC2 := HC2
      have HC := HC2
      clear HC2
      go_upto_region 6 with fail
      have hal := (Chg.refl [] w2).alloc (.cells #[.int .i64 x.un.k, .int .i64 x.un.c, .int .i64 x.un.l, .int .u64 x.un.d.x0, .int .u64 x.un.d.x1, .int .u64 x.un.d.x2, .int .u64 x.un.d.x3, .int .u64 x.un.d.x4, .int .u64 x.un.d.x5, .int .u64 x.un.d.x6, .int .u64 x.un.d.x7] 33)
      have HB7 := Lib.hid (Blk.new w2 [.int .i64 x.un.k, .int .i64 x.un.c, .int .i64 x.un.l, .int .u64 x.un.d.x0, .int .u64 x.un.d.x1, .int .u64 x.un.d.x2, .int .u64 x.un.d.x3, .int .u64 x.un.d.x4, .int .u64 x.un.d.x5, .int .u64 x.un.d.x6, .int .u64 x.un.d.x7] 33)
      replace HC := Lib.hid (HC.out.trans hal)
      replace HO2 := Lib.hid (ownsRow_chg HO2.out hal (by simp))
      clear hal
      generalize World.alloc _ _ = w3 at *
      obtain ⟨b7, hb7⟩ : ∃ q, w2.heap.size = q := ⟨_, rfl⟩
      rw [hb7] at HB7 ⊢
      clear hb7
      have HB3z : Hid (W.heap.size ≤ w3.heap.size) := Lib.hid HC.out.size
      go_wp2_with fail
      refine (HSx.out.wt _ HC.out).mono ?_
      rintro e w4 ⟨v4, rfl, ho4, hk4⟩
      have HO4 := Lib.hid ho4
      replace HC := Lib.hid (HC.out.trans hk4)
      replace HO2 := Lib.hid (ownsRow_chg HO2.out hk4 (by simp))
      replace HB7 := Lib.hid (hk4.blk HB7.out (by simp))
      clear ho4 hk4
      go_wp2_with fail
      refine (HSx.out.me _ HC.out).mono ?_
      rintro e w5 ⟨rfl, hk5⟩
      replace HC := Lib.hid (HC.out.trans hk5)
      replace HO2 := Lib.hid (ownsRow_chg HO2.out hk5 (by simp)); replace HO4 := Lib.hid (ownsRow_chg HO4.out hk5 (by simp))
      replace HB7 := Lib.hid (hk5.blk HB7.out (by simp))
      have hl7 : b7 < w5.heap.size := HB7.out.lt
      clear hk5
      go_upto_region 8 with fail
      have hal := (Chg.refl [] w5).alloc (.cells #[.int .u64 v.x0, .int .u64 v.x1, .int .u64 v.x2, .int .u64 v.x3, .int .u64 v.x4, .int .u64 v.x5, .int .u64 v.x6, .int .u64 v.x7] 31)
      have HB10 := Lib.hid (Blk.new w5 [.int .u64 v.x0, .int .u64 v.x1, .int .u64 v.x2, .int .u64 v.x3, .int .u64 v.x4, .int .u64 v.x5, .int .u64 v.x6, .int .u64 v.x7] 31)
      replace HC := Lib.hid (HC.out.trans hal)
      replace HO2 := Lib.hid (ownsRow_chg HO2.out hal (by simp))
      replace HO4 := Lib.hid (ownsRow_chg HO4.out hal (by simp))
      replace HB7 := Lib.hid (hal.blk HB7.out (by simp))
      clear hal
      generalize World.alloc _ _ = w6 at *
      obtain ⟨b10, hb10⟩ : ∃ q, w5.heap.size = q := ⟨_, rfl⟩
      rw [hb10] at HB10 ⊢
      have n7_10 : b7 < b10 := by omega
      clear hb10 hl7
      have hrl : rd < w6.heap.size := (HH.out.look HC.out).lt.1
      go_wp2_with fail
      refine (HSx.out.li _ HC.out).mono ?_
      rintro e w7 ⟨rfl, hk7⟩
      replace HC := Lib.hid (HC.out.trans hk7)
      replace HO2 := Lib.hid (ownsRow_chg HO2.out hk7 (by simp)); replace HO4 := Lib.hid (ownsRow_chg HO4.out hk7 (by simp))
      replace HB7 := Lib.hid (hk7.blk HB7.out (by simp)); replace HB10 := Lib.hid (hk7.blk HB10.out (by simp))
      have hl10 : b10 < w7.heap.size := HB10.out.lt
      clear hk7 hrl
      go_upto_region 9 with fail
      have hal := (Chg.refl [] w7).alloc (.cells #[.int .u64 v.x0, .int .u64 v.x1, .int .u64 v.x2, .int .u64 v.x3, .int .u64 v.x4, .int .u64 v.x5, .int .u64 v.x6, .int .u64 v.x7] 31)
      have HB12 := Lib.hid (Blk.new w7 [.int .u64 v.x0, .int .u64 v.x1, .int .u64 v.x2, .int .u64 v.x3, .int .u64 v.x4, .int .u64 v.x5, .int .u64 v.x6, .int .u64 v.x7] 31)
      replace HC := Lib.hid (HC.out.trans hal)
      replace HO2 := Lib.hid (ownsRow_chg HO2.out hal (by simp))
      replace HO4 := Lib.hid (ownsRow_chg HO4.out hal (by simp))
      replace HB7 := Lib.hid (hal.blk HB7.out (by simp))
      replace HB10 := Lib.hid (hal.blk HB10.out (by simp))
      clear hal
      generalize World.alloc _ _ = w8 at *
      obtain ⟨b12, hb12⟩ : ∃ q, w7.heap.size = q := ⟨_, rfl⟩
      rw [hb12] at HB12 ⊢
      have n10_12 : b10 < b12 := by omega
      clear hb12 hl10
      have hl12 : b12 < w8.heap.size := HB12.out.lt
      have HC8 := HC; have HO28 := HO2; have HO48 := HO4
      go_upto_region 10 with fail
      have hal := (Chg.refl [] w8).alloc (.cells #[.int .i64 (-1), .slice none 0 0, .int .i64 0, .int .i64 0, .int .i64 0, .int .u64 0, .int .u64 0, .int .u64 0, .int .u64 0, .int .u64 0, .int .u64 0, .int .u64 0, .int .u64 0, .int .i64 0, .slice none 0 0, .int .i64 0, .slice none 0 0] 99)
      have HB14 := Lib.hid (Blk.new w8 [.int .i64 (-1), .slice none 0 0, .int .i64 0, .int .i64 0, .int .i64 0, .int .u64 0, .int .u64 0, .int .u64 0, .int .u64 0, .int .u64 0, .int .u64 0, .int .u64 0, .int .u64 0, .int .i64 0, .slice none 0 0, .int .i64 0, .slice none 0 0] 99)
      replace HC := Lib.hid (HC.out.trans hal)
      replace HO2 := Lib.hid (ownsRow_chg HO2.out hal (by simp))
      replace HO4 := Lib.hid (ownsRow_chg HO4.out hal (by simp))
      replace HB7 := Lib.hid (hal.blk HB7.out (by simp))
      replace HB10 := Lib.hid (hal.blk HB10.out (by simp))
      replace HB12 := Lib.hid (hal.blk HB12.out (by simp))
      clear hal
      generalize World.alloc _ _ = w9 at *
      obtain ⟨b14, hb14⟩ : ∃ q, w8.heap.size = q := ⟨_, rfl⟩
      rw [hb14] at HB14 ⊢
      have n12_14 : b12 < b14 := by omega
      have hb14' := hb14
      clear hb14 hl12
      have l14 : b14 < w9.heap.size := HB14.out.lt
      have HW9 : Hid (W.heap.size ≤ b14) := Lib.hid (by rw [← hb14']; exact HC8.out.size)
      have HO2b : Hid (∀ y, v1.ownBlock = some y → y < b14) := Lib.hid (fun y hy => by rw [← hb14']; exact (HO28.out.lt y hy).2)
      have HO4b : Hid (∀ y, v4.ownBlock = some y → y < b14) := Lib.hid (fun y hy => by rw [← hb14']; exact (HO48.out.lt y hy).2)
      clear hb14'
      have hcase : (0 ≤ i ∧ i < n) ∨ ¬ (0 ≤ i ∧ i < n) := Classical.em _
      rcases hcase with hr | hr
      · obtain ⟨iN, rfl⟩ := Int.eq_ofNat_of_zero_le hr.1
        obtain ⟨hir, hix⟩ := HIn.out hr
        rw [Int.toNat_natCast] at hir
        simp only [Int.toNat_natCast] at hix
        have HIX := Lib.hid hix
        have hrn := hr.2
        have hr0 := hr.1
        have HR9 := Lib.hid (HH.out.look HC.out)
        have d2 : w9.cell? ⟨rd, 2, none⟩ = some (.slice (some ⟨bL, 0, none⟩) n capL) := HR9.out.blk.cell 2
        have l9 := HR9.out.lt
        have e0 : w9.cell? ⟨bL, iN * 17, none⟩ = some (.int .i64 x.ow) := by have := HR9.out.cell hir (j := 0) (by decide); rw [HIX.out] at this; exact this
        have e1 : w9.cell? ⟨bL, iN * 17 + 1, none⟩ = some (.slice x.shA x.sh.length x.shc) := by have := HR9.out.cell hir (j := 1) (by decide); rw [HIX.out] at this; exact this
        have e2 : w9.cell? ⟨bL, iN * 17 + 2, none⟩ = some (.int .i64 x.un.k) := by have := HR9.out.cell hir (j := 2) (by decide); rw [HIX.out] at this; exact this
        have e3 : w9.cell? ⟨bL, iN * 17 + 3, none⟩ = some (.int .i64 x.un.c) := by have := HR9.out.cell hir (j := 3) (by decide); rw [HIX.out] at this; exact this
        have e4 : w9.cell? ⟨bL, iN * 17 + 4, none⟩ = some (.int .i64 x.un.l) := by have := HR9.out.cell hir (j := 4) (by decide); rw [HIX.out] at this; exact this
        have e5 : w9.cell? ⟨bL, iN * 17 + 5, none⟩ = some (.int .u64 x.un.d.x0) := by have := HR9.out.cell hir (j := 5) (by decide); rw [HIX.out] at this; exact this
        have e6 : w9.cell? ⟨bL, iN * 17 + 6, none⟩ = some (.int .u64 x.un.d.x1) := by have := HR9.out.cell hir (j := 6) (by decide); rw [HIX.out] at this; exact this
        have e7 : w9.cell? ⟨bL, iN * 17 + 7, none⟩ = some (.int .u64 x.un.d.x2) := by have := HR9.out.cell hir (j := 7) (by decide); rw [HIX.out] at this; exact this
        have e8 : w9.cell? ⟨bL, iN * 17 + 8, none⟩ = some (.int .u64 x.un.d.x3) := by have := HR9.out.cell hir (j := 8) (by decide); rw [HIX.out] at this; exact this
        have e9 : w9.cell? ⟨bL, iN * 17 + 9, none⟩ = some (.int .u64 x.un.d.x4) := by have := HR9.out.cell hir (j := 9) (by decide); rw [HIX.out] at this; exact this
        have e10 : w9.cell? ⟨bL, iN * 17 + 10, none⟩ = some (.int .u64 x.un.d.x5) := by have := HR9.out.cell hir (j := 10) (by decide); rw [HIX.out] at this; exact this
        have e11 : w9.cell? ⟨bL, iN * 17 + 11, none⟩ = some (.int .u64 x.un.d.x6) := by have := HR9.out.cell hir (j := 11) (by decide); rw [HIX.out] at this; exact this
        have e12 : w9.cell? ⟨bL, iN * 17 + 12, none⟩ = some (.int .u64 x.un.d.x7) := by have := HR9.out.cell hir (j := 12) (by decide); rw [HIX.out] at this; exact this
        have e13 : w9.cell? ⟨bL, iN * 17 + 13, none⟩ = some (.int .i64 x.ph) := by have := HR9.out.cell hir (j := 13) (by decide); rw [HIX.out] at this; exact this
        have e14 : w9.cell? ⟨bL, iN * 17 + 14, none⟩ = some (.slice x.akA x.ak.length x.akc) := by have := HR9.out.cell hir (j := 14) (by decide); rw [HIX.out] at this; exact this
        have e15 : w9.cell? ⟨bL, iN * 17 + 15, none⟩ = some (.int .i64 x.asked) := by have := HR9.out.cell hir (j := 15) (by decide); rw [HIX.out] at this; exact this
        have e16 : w9.cell? ⟨bL, iN * 17 + 16, none⟩ = some (.slice x.wtA x.wl.length x.wtc) := by have := HR9.out.cell hir (j := 16) (by decide); rw [HIX.out] at this; exact this
        have z0 : w9.cell? ⟨b14, 0, none⟩ = some (.int .i64 (-1)) := HB14.out.cell 0; have y0 : w9.frozen? ⟨b14, 0, none⟩ = false := HB14.out.free 0
        have z1 : w9.cell? ⟨b14, 1, none⟩ = some (.slice none 0 0) := HB14.out.cell 1; have y1 : w9.frozen? ⟨b14, 1, none⟩ = false := HB14.out.free 1
        have z2 : w9.cell? ⟨b14, 2, none⟩ = some (.int .i64 0) := HB14.out.cell 2; have y2 : w9.frozen? ⟨b14, 2, none⟩ = false := HB14.out.free 2
        have z3 : w9.cell? ⟨b14, 3, none⟩ = some (.int .i64 0) := HB14.out.cell 3; have y3 : w9.frozen? ⟨b14, 3, none⟩ = false := HB14.out.free 3
        have z4 : w9.cell? ⟨b14, 4, none⟩ = some (.int .i64 0) := HB14.out.cell 4; have y4 : w9.frozen? ⟨b14, 4, none⟩ = false := HB14.out.free 4
        have z5 : w9.cell? ⟨b14, 5, none⟩ = some (.int .u64 0) := HB14.out.cell 5; have y5 : w9.frozen? ⟨b14, 5, none⟩ = false := HB14.out.free 5
        have z6 : w9.cell? ⟨b14, 6, none⟩ = some (.int .u64 0) := HB14.out.cell 6; have y6 : w9.frozen? ⟨b14, 6, none⟩ = false := HB14.out.free 6
        have z7 : w9.cell? ⟨b14, 7, none⟩ = some (.int .u64 0) := HB14.out.cell 7; have y7 : w9.frozen? ⟨b14, 7, none⟩ = false := HB14.out.free 7
        have z8 : w9.cell? ⟨b14, 8, none⟩ = some (.int .u64 0) := HB14.out.cell 8; have y8 : w9.frozen? ⟨b14, 8, none⟩ = false := HB14.out.free 8
        have z9 : w9.cell? ⟨b14, 9, none⟩ = some (.int .u64 0) := HB14.out.cell 9; have y9 : w9.frozen? ⟨b14, 9, none⟩ = false := HB14.out.free 9
        have z10 : w9.cell? ⟨b14, 10, none⟩ = some (.int .u64 0) := HB14.out.cell 10; have y10 : w9.frozen? ⟨b14, 10, none⟩ = false := HB14.out.free 10
        have z11 : w9.cell? ⟨b14, 11, none⟩ = some (.int .u64 0) := HB14.out.cell 11; have y11 : w9.frozen? ⟨b14, 11, none⟩ = false := HB14.out.free 11
        have z12 : w9.cell? ⟨b14, 12, none⟩ = some (.int .u64 0) := HB14.out.cell 12; have y12 : w9.frozen? ⟨b14, 12, none⟩ = false := HB14.out.free 12
        have z13 : w9.cell? ⟨b14, 13, none⟩ = some (.int .i64 0) := HB14.out.cell 13; have y13 : w9.frozen? ⟨b14, 13, none⟩ = false := HB14.out.free 13
        have z14 : w9.cell? ⟨b14, 14, none⟩ = some (.slice none 0 0) := HB14.out.cell 14; have y14 : w9.frozen? ⟨b14, 14, none⟩ = false := HB14.out.free 14
        have z15 : w9.cell? ⟨b14, 15, none⟩ = some (.int .i64 0) := HB14.out.cell 15; have y15 : w9.frozen? ⟨b14, 15, none⟩ = false := HB14.out.free 15
        have z16 : w9.cell? ⟨b14, 16, none⟩ = some (.slice none 0 0) := HB14.out.cell 16; have y16 : w9.frozen? ⟨b14, 16, none⟩ = false := HB14.out.free 16
        clear hix hr
        go_upto_region 12 with fail
        have hP : Blk (w9.setCells b14 0 [.int .i64 x.ow, .slice x.shA x.sh.length x.shc, .int .i64 x.un.k, .int .i64 x.un.c, .int .i64 x.un.l, .int .u64 x.un.d.x0, .int .u64 x.un.d.x1, .int .u64 x.un.d.x2, .int .u64 x.un.d.x3, .int .u64 x.un.d.x4, .int .u64 x.un.d.x5, .int .u64 x.un.d.x6, .int .u64 x.un.d.x7, .int .i64 x.ph, .slice x.akA x.ak.length x.akc, .int .i64 x.asked, .slice x.wtA x.wl.length x.wtc]) b14 [.int .i64 x.ow, .slice x.shA x.sh.length x.shc, .int .i64 x.un.k, .int .i64 x.un.c, .int .i64 x.un.l, .int .u64 x.un.d.x0, .int .u64 x.un.d.x1, .int .u64 x.un.d.x2, .int .u64 x.un.d.x3, .int .u64 x.un.d.x4, .int .u64 x.un.d.x5, .int .u64 x.un.d.x6, .int .u64 x.un.d.x7, .int .i64 x.ph, .slice x.akA x.ak.length x.akc, .int .i64 x.asked, .slice x.wtA x.wl.length x.wtc] 99 := HB14.out.putAll [.int .i64 x.ow, .slice x.shA x.sh.length x.shc, .int .i64 x.un.k, .int .i64 x.un.c, .int .i64 x.un.l, .int .u64 x.un.d.x0, .int .u64 x.un.d.x1, .int .u64 x.un.d.x2, .int .u64 x.un.d.x3, .int .u64 x.un.d.x4, .int .u64 x.un.d.x5, .int .u64 x.un.d.x6, .int .u64 x.un.d.x7, .int .i64 x.ph, .slice x.akA x.ak.length x.akc, .int .i64 x.asked, .slice x.wtA x.wl.length x.wtc] _ 0 (Nat.le_refl _)
        have hPk : Chg [b14] w9 (w9.setCells b14 0 [.int .i64 x.ow, .slice x.shA x.sh.length x.shc, .int .i64 x.un.k, .int .i64 x.un.c, .int .i64 x.un.l, .int .u64 x.un.d.x0, .int .u64 x.un.d.x1, .int .u64 x.un.d.x2, .int .u64 x.un.d.x3, .int .u64 x.un.d.x4, .int .u64 x.un.d.x5, .int .u64 x.un.d.x6, .int .u64 x.un.d.x7, .int .i64 x.ph, .slice x.akA x.ak.length x.akc, .int .i64 x.asked, .slice x.wtA x.wl.length x.wtc]) := (Chg.refl [b14] w9).putAll (fun _ => List.mem_singleton.2 rfl) [.int .i64 x.ow, .slice x.shA x.sh.length x.shc, .int .i64 x.un.k, .int .i64 x.un.c, .int .i64 x.un.l, .int .u64 x.un.d.x0, .int .u64 x.un.d.x1, .int .u64 x.un.d.x2, .int .u64 x.un.d.x3, .int .u64 x.un.d.x4, .int .u64 x.un.d.x5, .int .u64 x.un.d.x6, .int .u64 x.un.d.x7, .int .i64 x.ph, .slice x.akA x.ak.length x.akc, .int .i64 x.asked, .slice x.wtA x.wl.length x.wtc] 0
        replace HB14 := Lib.hid hP
        replace HC := Lib.hid (HC.out.trans' hPk (fun y hy hlt => by rw [List.mem_singleton.1 hy] at hlt; have := HW9.out; omega))
        replace HO2 := Lib.hid (ownsRow_chg HO2.out hPk (fun y hy hm => by have h1 := (HO2b.out y (by simpa using hy)); rw [List.mem_singleton.1 hm] at h1; omega)); replace HO4 := Lib.hid (ownsRow_chg HO4.out hPk (fun y hy hm => by have h1 := (HO4b.out y (by simpa using hy)); rw [List.mem_singleton.1 hm] at h1; omega))
        replace HB7 := Lib.hid (hPk.blk HB7.out (by simp; omega)); replace HB10 := Lib.hid (hPk.blk HB10.out (by simp; omega)); replace HB12 := Lib.hid (hPk.blk HB12.out (by simp; omega))
        have HB1s := HB1z; have HB3s := HB3z
        clear hP hPk HR9 d2 l9 e0 e1 e2 e3 e4 e5 e6 e7 e8 e9 e10 e11 e12 e13 e14 e15 e16 z0 y0 z1 y1 z2 y2 z3 y3 z4 y4 z5 y5 z6 y6 z7 y7 z8 y8 z9 y9 z10 y10 z11 y11 z12 y12 z13 y13 z14 y14 z15 y15 z16 y16 HIX hrn
        generalize World.setCells _ _ _ _ = w10 at *
        have ho2 := HO2.out
        rw [← flat_encN] at ho2
        obtain ⟨A1, c1, rfl, hA1, hA2, hA3, hR1, hA4⟩ := Rd.of_row encN_len ho2
        obtain ⟨A4, c4, rfl, hD1, hD2, hD3, hR4, hD4⟩ := Rd.of_row encM_len HO4.out
        have hls := HSx.out.ls
        have hlw := HSx.out.lw
        have HInts : Hid (∀ V, Chg [] w10 V → Calls Try.prog 45 #[.slice A1 x.sh.length c1, .slice x.shA x.sh.length x.shc] V fun e w' => e = .returned (.bool true) ∧ Chg [] V w') := Lib.hid (fun V k => by have := Ints_any V A1 x.shA c1 x.shc x.sh x.sh (by omega) (hR1.chg0 k) (HSx.out.rsh.chg0 (HC.out.trans k)); simpa using this)
        have HSame : Hid (∀ V, Chg [] w10 V → Calls Try.prog 23 #[.slice A4 x.wl.length c4, .slice x.wtA x.wl.length x.wtc] V fun e w' => e = .returned (.bool true) ∧ Chg [] V w') := Lib.hid (fun V k => by have := Same_any V A4 x.wtA c4 x.wtc x.wl x.wl (by omega) (hR4.chg0 k) (HSx.out.rwt.chg0 (HC.out.trans k)); simpa using this)
        have HOwn : Hid (∀ V, Chg [] w10 V → Calls Try.prog 9 #[.pointer (some ⟨d, 0, none⟩), .int .i64 (iN : Int)] V fun e w' => e = .returned (.int .i64 x.ow) ∧ V = w') := Lib.hid (fun V k => HSx.out.ow V (HC.out.trans k))
        have hqm : ∀ V, (Op.equalIn 10000 33 (.agg #[.int .i64 x.un.k, .int .i64 x.un.c, .int .i64 x.un.l, .int .u64 x.un.d.x0, .int .u64 x.un.d.x1, .int .u64 x.un.d.x2, .int .u64 x.un.d.x3, .int .u64 x.un.d.x4, .int .u64 x.un.d.x5, .int .u64 x.un.d.x6, .int .u64 x.un.d.x7]) (.agg #[.int .i64 x.un.k, .int .i64 x.un.c, .int .i64 x.un.l, .int .u64 x.un.d.x0, .int .u64 x.un.d.x1, .int .u64 x.un.d.x2, .int .u64 x.un.d.x3, .int .u64 x.un.d.x4, .int .u64 x.un.d.x5, .int .u64 x.un.d.x6, .int .u64 x.un.d.x7])).run Try.prog V = .ok true V := fun V => by have := eq_msg2 V x.un x.un; rw [decide_eq_true rfl] at this; exact this
        have hql : ∀ V, (Op.equalIn 10000 31 (.agg #[.int .u64 v.x0, .int .u64 v.x1, .int .u64 v.x2, .int .u64 v.x3, .int .u64 v.x4, .int .u64 v.x5, .int .u64 v.x6, .int .u64 v.x7]) (.agg #[.int .u64 v.x0, .int .u64 v.x1, .int .u64 v.x2, .int .u64 v.x3, .int .u64 v.x4, .int .u64 v.x5, .int .u64 v.x6, .int .u64 v.x7])).run Try.prog V = .ok true V := fun V => line_eq V v
        have HSk : Hid (∀ V, Chg [] w10 V → (V.cell? ⟨b7, 0, none⟩ = some (.int .i64 x.un.k) ∧ V.cell? ⟨b7, 1, none⟩ = some (.int .i64 x.un.c) ∧ V.cell? ⟨b7, 2, none⟩ = some (.int .i64 x.un.l) ∧ V.cell? ⟨b7, 3, none⟩ = some (.int .u64 x.un.d.x0) ∧ V.cell? ⟨b7, 4, none⟩ = some (.int .u64 x.un.d.x1) ∧ V.cell? ⟨b7, 5, none⟩ = some (.int .u64 x.un.d.x2) ∧ V.cell? ⟨b7, 6, none⟩ = some (.int .u64 x.un.d.x3) ∧ V.cell? ⟨b7, 7, none⟩ = some (.int .u64 x.un.d.x4) ∧ V.cell? ⟨b7, 8, none⟩ = some (.int .u64 x.un.d.x5) ∧ V.cell? ⟨b7, 9, none⟩ = some (.int .u64 x.un.d.x6) ∧ V.cell? ⟨b7, 10, none⟩ = some (.int .u64 x.un.d.x7) ∧ V.cell? ⟨b10, 0, none⟩ = some (.int .u64 v.x0) ∧ V.cell? ⟨b10, 1, none⟩ = some (.int .u64 v.x1) ∧ V.cell? ⟨b10, 2, none⟩ = some (.int .u64 v.x2) ∧ V.cell? ⟨b10, 3, none⟩ = some (.int .u64 v.x3) ∧ V.cell? ⟨b10, 4, none⟩ = some (.int .u64 v.x4) ∧ V.cell? ⟨b10, 5, none⟩ = some (.int .u64 v.x5) ∧ V.cell? ⟨b10, 6, none⟩ = some (.int .u64 v.x6) ∧ V.cell? ⟨b10, 7, none⟩ = some (.int .u64 v.x7) ∧ V.cell? ⟨b12, 0, none⟩ = some (.int .u64 v.x0) ∧ V.cell? ⟨b12, 1, none⟩ = some (.int .u64 v.x1) ∧ V.cell? ⟨b12, 2, none⟩ = some (.int .u64 v.x2) ∧ V.cell? ⟨b12, 3, none⟩ = some (.int .u64 v.x3) ∧ V.cell? ⟨b12, 4, none⟩ = some (.int .u64 v.x4) ∧ V.cell? ⟨b12, 5, none⟩ = some (.int .u64 v.x5) ∧ V.cell? ⟨b12, 6, none⟩ = some (.int .u64 v.x6) ∧ V.cell? ⟨b12, 7, none⟩ = some (.int .u64 v.x7) ∧ V.cell? ⟨b14, 0, none⟩ = some (.int .i64 x.ow) ∧ V.cell? ⟨b14, 1, none⟩ = some (.slice x.shA x.sh.length x.shc) ∧ V.cell? ⟨b14, 2, none⟩ = some (.int .i64 x.un.k) ∧ V.cell? ⟨b14, 3, none⟩ = some (.int .i64 x.un.c) ∧ V.cell? ⟨b14, 4, none⟩ = some (.int .i64 x.un.l) ∧ V.cell? ⟨b14, 5, none⟩ = some (.int .u64 x.un.d.x0) ∧ V.cell? ⟨b14, 6, none⟩ = some (.int .u64 x.un.d.x1) ∧ V.cell? ⟨b14, 7, none⟩ = some (.int .u64 x.un.d.x2) ∧ V.cell? ⟨b14, 8, none⟩ = some (.int .u64 x.un.d.x3) ∧ V.cell? ⟨b14, 9, none⟩ = some (.int .u64 x.un.d.x4) ∧ V.cell? ⟨b14, 10, none⟩ = some (.int .u64 x.un.d.x5) ∧ V.cell? ⟨b14, 11, none⟩ = some (.int .u64 x.un.d.x6) ∧ V.cell? ⟨b14, 12, none⟩ = some (.int .u64 x.un.d.x7) ∧ V.cell? ⟨b14, 13, none⟩ = some (.int .i64 x.ph) ∧ V.cell? ⟨b14, 16, none⟩ = some (.slice x.wtA x.wl.length x.wtc))) := Lib.hid (fun V k => ⟨(k.cell0 HB7.out.lt _).trans (HB7.out.cell 0), (k.cell0 HB7.out.lt _).trans (HB7.out.cell 1), (k.cell0 HB7.out.lt _).trans (HB7.out.cell 2), (k.cell0 HB7.out.lt _).trans (HB7.out.cell 3), (k.cell0 HB7.out.lt _).trans (HB7.out.cell 4), (k.cell0 HB7.out.lt _).trans (HB7.out.cell 5), (k.cell0 HB7.out.lt _).trans (HB7.out.cell 6), (k.cell0 HB7.out.lt _).trans (HB7.out.cell 7), (k.cell0 HB7.out.lt _).trans (HB7.out.cell 8), (k.cell0 HB7.out.lt _).trans (HB7.out.cell 9), (k.cell0 HB7.out.lt _).trans (HB7.out.cell 10), (k.cell0 HB10.out.lt _).trans (HB10.out.cell 0), (k.cell0 HB10.out.lt _).trans (HB10.out.cell 1), (k.cell0 HB10.out.lt _).trans (HB10.out.cell 2), (k.cell0 HB10.out.lt _).trans (HB10.out.cell 3), (k.cell0 HB10.out.lt _).trans (HB10.out.cell 4), (k.cell0 HB10.out.lt _).trans (HB10.out.cell 5), (k.cell0 HB10.out.lt _).trans (HB10.out.cell 6), (k.cell0 HB10.out.lt _).trans (HB10.out.cell 7), (k.cell0 HB12.out.lt _).trans (HB12.out.cell 0), (k.cell0 HB12.out.lt _).trans (HB12.out.cell 1), (k.cell0 HB12.out.lt _).trans (HB12.out.cell 2), (k.cell0 HB12.out.lt _).trans (HB12.out.cell 3), (k.cell0 HB12.out.lt _).trans (HB12.out.cell 4), (k.cell0 HB12.out.lt _).trans (HB12.out.cell 5), (k.cell0 HB12.out.lt _).trans (HB12.out.cell 6), (k.cell0 HB12.out.lt _).trans (HB12.out.cell 7), (k.cell0 HB14.out.lt _).trans (HB14.out.cell 0), (k.cell0 HB14.out.lt _).trans (HB14.out.cell 1), (k.cell0 HB14.out.lt _).trans (HB14.out.cell 2), (k.cell0 HB14.out.lt _).trans (HB14.out.cell 3), (k.cell0 HB14.out.lt _).trans (HB14.out.cell 4), (k.cell0 HB14.out.lt _).trans (HB14.out.cell 5), (k.cell0 HB14.out.lt _).trans (HB14.out.cell 6), (k.cell0 HB14.out.lt _).trans (HB14.out.cell 7), (k.cell0 HB14.out.lt _).trans (HB14.out.cell 8), (k.cell0 HB14.out.lt _).trans (HB14.out.cell 9), (k.cell0 HB14.out.lt _).trans (HB14.out.cell 10), (k.cell0 HB14.out.lt _).trans (HB14.out.cell 11), (k.cell0 HB14.out.lt _).trans (HB14.out.cell 12), (k.cell0 HB14.out.lt _).trans (HB14.out.cell 13), (k.cell0 HB14.out.lt _).trans (HB14.out.cell 16)⟩)
        have HLs := Lib.hid hls; have HLw := Lib.hid hlw
        have HDD := Lib.hid (show x.wl.length ≤ c4 ∧ c4 ≤ maxLen ∧ x.sh.length ≤ c1 ∧ c1 ≤ maxLen from ⟨hD1, hD2, hA1, hA2⟩)
        clear ho2 hA1 hA2 hA3 hR1 hA4 hD1 hD2 hD3 hR4 hD4 hls hlw
        go_region_held3 (fun V => V.cell? ⟨b7, 0, none⟩ = some (.int .i64 x.un.k) ∧ V.cell? ⟨b7, 1, none⟩ = some (.int .i64 x.un.c) ∧ V.cell? ⟨b7, 2, none⟩ = some (.int .i64 x.un.l) ∧ V.cell? ⟨b7, 3, none⟩ = some (.int .u64 x.un.d.x0) ∧ V.cell? ⟨b7, 4, none⟩ = some (.int .u64 x.un.d.x1) ∧ V.cell? ⟨b7, 5, none⟩ = some (.int .u64 x.un.d.x2) ∧ V.cell? ⟨b7, 6, none⟩ = some (.int .u64 x.un.d.x3) ∧ V.cell? ⟨b7, 7, none⟩ = some (.int .u64 x.un.d.x4) ∧ V.cell? ⟨b7, 8, none⟩ = some (.int .u64 x.un.d.x5) ∧ V.cell? ⟨b7, 9, none⟩ = some (.int .u64 x.un.d.x6) ∧ V.cell? ⟨b7, 10, none⟩ = some (.int .u64 x.un.d.x7) ∧ V.cell? ⟨b10, 0, none⟩ = some (.int .u64 v.x0) ∧ V.cell? ⟨b10, 1, none⟩ = some (.int .u64 v.x1) ∧ V.cell? ⟨b10, 2, none⟩ = some (.int .u64 v.x2) ∧ V.cell? ⟨b10, 3, none⟩ = some (.int .u64 v.x3) ∧ V.cell? ⟨b10, 4, none⟩ = some (.int .u64 v.x4) ∧ V.cell? ⟨b10, 5, none⟩ = some (.int .u64 v.x5) ∧ V.cell? ⟨b10, 6, none⟩ = some (.int .u64 v.x6) ∧ V.cell? ⟨b10, 7, none⟩ = some (.int .u64 v.x7) ∧ V.cell? ⟨b12, 0, none⟩ = some (.int .u64 v.x0) ∧ V.cell? ⟨b12, 1, none⟩ = some (.int .u64 v.x1) ∧ V.cell? ⟨b12, 2, none⟩ = some (.int .u64 v.x2) ∧ V.cell? ⟨b12, 3, none⟩ = some (.int .u64 v.x3) ∧ V.cell? ⟨b12, 4, none⟩ = some (.int .u64 v.x4) ∧ V.cell? ⟨b12, 5, none⟩ = some (.int .u64 v.x5) ∧ V.cell? ⟨b12, 6, none⟩ = some (.int .u64 v.x6) ∧ V.cell? ⟨b12, 7, none⟩ = some (.int .u64 v.x7) ∧ V.cell? ⟨b14, 0, none⟩ = some (.int .i64 x.ow) ∧ V.cell? ⟨b14, 1, none⟩ = some (.slice x.shA x.sh.length x.shc) ∧ V.cell? ⟨b14, 2, none⟩ = some (.int .i64 x.un.k) ∧ V.cell? ⟨b14, 3, none⟩ = some (.int .i64 x.un.c) ∧ V.cell? ⟨b14, 4, none⟩ = some (.int .i64 x.un.l) ∧ V.cell? ⟨b14, 5, none⟩ = some (.int .u64 x.un.d.x0) ∧ V.cell? ⟨b14, 6, none⟩ = some (.int .u64 x.un.d.x1) ∧ V.cell? ⟨b14, 7, none⟩ = some (.int .u64 x.un.d.x2) ∧ V.cell? ⟨b14, 8, none⟩ = some (.int .u64 x.un.d.x3) ∧ V.cell? ⟨b14, 9, none⟩ = some (.int .u64 x.un.d.x4) ∧ V.cell? ⟨b14, 10, none⟩ = some (.int .u64 x.un.d.x5) ∧ V.cell? ⟨b14, 11, none⟩ = some (.int .u64 x.un.d.x6) ∧ V.cell? ⟨b14, 12, none⟩ = some (.int .u64 x.un.d.x7) ∧ V.cell? ⟨b14, 13, none⟩ = some (.int .i64 x.ph) ∧ V.cell? ⟨b14, 16, none⟩ = some (.slice x.wtA x.wl.length x.wtc)) (exact HSk.out _ (by repeat (first | with_reducible exact Chg.refl _ _ | with_reducible exact HKs.out | with_reducible exact HKi.out | with_reducible refine Chg.drew ?_))) (first | (go_at_call 9; refine (HOwn.out _ ((Chg.refl [] _).drew)).mono ?_; rintro e wo ⟨rfl, rfl⟩) | (go_at_call 45; refine (HInts.out _ ((Chg.refl [] _).drew)).mono ?_; rintro e wi ⟨rfl, hki⟩; have HKi : Hid (Chg [] w10 wi) := Lib.hid (((Chg.refl [] w10).drew).trans hki); clear hki) | (go_at_call 23; refine (HSame.out _ HKi.out).mono ?_; rintro e wsm ⟨rfl, hks⟩; have HKs : Hid (Chg [] w10 wsm) := Lib.hid (HKi.out.trans hks); clear hks) | fail)
        have HKf := Lib.hid (HC.out.trans HKs.out)
        have HW4 : Hid (WrRow W wsm A4 33 11 x.wl.length) := Lib.hid (WrRow.chg (WrRow.of_row HO4.out (Nat.le_trans HB3s.out (Nat.le_refl _))) HKs.out)
        have HW1 : Hid (WrRow W wsm A1 3 1 x.sh.length) := Lib.hid (WrRow.chg (WrRow.of_row HO2.out HB1s.out) HKs.out)
        clear HSk HInts HSame HOwn hqm hql HKi HKs HB7 HB10 HB12 HB14 HO2 HO4 HC
        generalize wsm = wz at *
        have hDD := HDD.out
        have hl4 : x.wl.length ≤ 500 := HLw.out
        have hl1 : x.sh.length ≤ 4 := HLs.out
        have hc4 : (x.wl.length : Int) ≤ (c4 : Int) := by omega
        have hc1 : (x.sh.length : Int) ≤ (c1 : Int) := by omega
        obtain ⟨L4, hL4⟩ : ∃ q, x.wl.length = q := ⟨_, rfl⟩
        obtain ⟨L1, hL1⟩ : ∃ q, x.sh.length = q := ⟨_, rfl⟩
        rw [hL4] at hl4 hc4 HW4 ⊢
        rw [hL1] at hl1 hc1 HW1 ⊢
        clear hDD hL4 hL1
        go_wp2_with fail
        go_loopw [15] (fun q V => ∃ j : Nat, j ≤ L4 ∧ q = .int .i64 j ∧ Hid (Chg [] W V) ∧ Hid (WrRow W V A4 33 11 L4) ∧ Hid (WrRow W V A1 3 1 L1))
          (fun q _ => L4 - (intOf q).toNat)
        case atStart => exact ⟨0, by omega, rfl, HKf, HW4, HW1⟩
        case round =>
          obtain ⟨j, hj, rfl, hCj, hW4, hW1⟩ := hrel
          by_cases hjl : j < L4
          · obtain ⟨g, cl, rfl, hB, hlen, hg⟩ := hW4.out (by omega)
            have hji : (j : Int) < L4 := by omega
            have hgl : g < wr.heap.size := hB.lt
            obtain ⟨u, hu⟩ : ∃ u, wr.cell? ⟨g, j * 11 + 1, none⟩ = some u := ⟨cl[j * 11 + 1]'(by omega), by rw [hB.cell, List.getElem?_eq_getElem]⟩
            have hf : wr.frozen? ⟨g, j * 11 + 1, none⟩ = false := hB.free _
            have HBg := Lib.hid hB
            have Hln := Lib.hid hlen; have Hgg := Lib.hid hg
            clear hB hlen hg
            go_wp2_with fail
            go_roundw
            case rel =>
              refine ⟨j + 1, by omega, by go_num, Lib.hid (hCj.out.setCell (p := ⟨g, j * 11 + 1, none⟩) (fun h => absurd h (Nat.not_lt.2 Hgg.out)) _), Lib.hid (fun _ => ⟨g, _, rfl, HBg.out.set _ _, by rw [List.length_set]; exact Hln.out, Hgg.out⟩), Lib.hid (hW1.out.other HBg.out (by decide) _)⟩
            case measure => simp [intOf]; omega
          · have hje : j = L4 := by omega
            subst hje
            clear hjl
            go_wp2_with fail
            go_loopw [16] (fun q V => ∃ j1 : Nat, j1 ≤ L1 ∧ q = .int .i64 j1 ∧ Hid (Chg [] W V) ∧ Hid (WrRow W V A1 3 1 L1))
              (fun q _ => L1 - (intOf q).toNat)
            case atStart => exact ⟨0, by omega, rfl, hCj, hW1⟩
            case round =>
              obtain ⟨j1, hj1, rfl, hCq, hW1q⟩ := hrel
              by_cases hjl : j1 < L1
              · obtain ⟨g, cl, rfl, hB, hlen, hg⟩ := hW1q.out (by omega)
                have hji : (j1 : Int) < L1 := by omega
                have hgl : g < wr.heap.size := hB.lt
                obtain ⟨u, hu⟩ : ∃ u, wr.cell? ⟨g, j1, none⟩ = some u := ⟨cl[j1]'(by omega), by rw [hB.cell, List.getElem?_eq_getElem]⟩
                have hf : wr.frozen? ⟨g, j1, none⟩ = false := hB.free _
                have HBg := Lib.hid hB
                have Hln := Lib.hid hlen; have Hgg := Lib.hid hg
                clear hB hlen hg
                go_wp2_with fail
                go_roundw
                case rel =>
                  refine ⟨j1 + 1, by omega, by go_num, Lib.hid (hCq.out.setCell (p := ⟨g, j1, none⟩) (fun h => absurd h (Nat.not_lt.2 Hgg.out)) _), Lib.hid (fun _ => ⟨g, _, rfl, HBg.out.set _ _, by rw [List.length_set]; exact Hln.out, Hgg.out⟩)⟩
                case measure => simp [intOf]; omega
              · have hje : j1 = L1 := by omega
                subst hje
                clear hjl
                go_wp2_with fail
                go_roundw
                case rel => exact ⟨k + 1, by omega, by rw [show ((k + 1 : Nat) : Int) - 1 = (k : Int) by omega], hCq⟩
                case measure => simp only [intOf]; have := HI.out; omega
      · have hx0 := HOut.out hr
        have HX0 : Hid (([.int .i64 (-1), .slice none 0 0, .int .i64 0, .int .i64 0, .int .i64 0, .int .u64 0, .int .u64 0, .int .u64 0, .int .u64 0, .int .u64 0, .int .u64 0, .int .u64 0, .int .u64 0, .int .i64 0, .slice none 0 0, .int .i64 0, .slice none 0 0] : List Value) = [.int .i64 x.ow, .slice x.shA x.sh.length x.shc, .int .i64 x.un.k, .int .i64 x.un.c, .int .i64 x.un.l, .int .u64 x.un.d.x0, .int .u64 x.un.d.x1, .int .u64 x.un.d.x2, .int .u64 x.un.d.x3, .int .u64 x.un.d.x4, .int .u64 x.un.d.x5, .int .u64 x.un.d.x6, .int .u64 x.un.d.x7, .int .i64 x.ph, .slice x.akA x.ak.length x.akc, .int .i64 x.asked, .slice x.wtA x.wl.length x.wtc]) := Lib.hid (by rw [hx0]; rfl)
        rw [HX0.out] at HB14
        clear hx0
        have d2 : w9.cell? ⟨rd, 2, none⟩ = some (.slice (some ⟨bL, 0, none⟩) n capL) := (HH.out.look HC.out).blk.cell 2
        have hlr : rd < w9.heap.size := (HH.out.look HC.out).lt.1
        have hcase2 : i < 0 ∨ (0 ≤ i ∧ (n : Int) ≤ i) := by omega
        clear hr
        have HB1s := HB1z; have HB3s := HB3z
        rcases hcase2 with hr | ⟨hr, hr2⟩
        · go_upto_region 12 with fail
          have ho2 := HO2.out
          rw [← flat_encN] at ho2
          obtain ⟨A1, c1, rfl, hA1, hA2, hA3, hR1, hA4⟩ := Rd.of_row encN_len ho2
          obtain ⟨A4, c4, rfl, hD1, hD2, hD3, hR4, hD4⟩ := Rd.of_row encM_len HO4.out
          have hls := HSx.out.ls
          have hlw := HSx.out.lw
          have HInts : Hid (∀ V, Chg [] w9 V → Calls Try.prog 45 #[.slice A1 x.sh.length c1, .slice x.shA x.sh.length x.shc] V fun e w' => e = .returned (.bool true) ∧ Chg [] V w') := Lib.hid (fun V k => by have := Ints_any V A1 x.shA c1 x.shc x.sh x.sh (by omega) (hR1.chg0 k) (HSx.out.rsh.chg0 (HC.out.trans k)); simpa using this)
          have HSame : Hid (∀ V, Chg [] w9 V → Calls Try.prog 23 #[.slice A4 x.wl.length c4, .slice x.wtA x.wl.length x.wtc] V fun e w' => e = .returned (.bool true) ∧ Chg [] V w') := Lib.hid (fun V k => by have := Same_any V A4 x.wtA c4 x.wtc x.wl x.wl (by omega) (hR4.chg0 k) (HSx.out.rwt.chg0 (HC.out.trans k)); simpa using this)
          have HOwn : Hid (∀ V, Chg [] w9 V → Calls Try.prog 9 #[.pointer (some ⟨d, 0, none⟩), .int .i64 i] V fun e w' => e = .returned (.int .i64 x.ow) ∧ V = w') := Lib.hid (fun V k => HSx.out.ow V (HC.out.trans k))
          have hqm : ∀ V, (Op.equalIn 10000 33 (.agg #[.int .i64 x.un.k, .int .i64 x.un.c, .int .i64 x.un.l, .int .u64 x.un.d.x0, .int .u64 x.un.d.x1, .int .u64 x.un.d.x2, .int .u64 x.un.d.x3, .int .u64 x.un.d.x4, .int .u64 x.un.d.x5, .int .u64 x.un.d.x6, .int .u64 x.un.d.x7]) (.agg #[.int .i64 x.un.k, .int .i64 x.un.c, .int .i64 x.un.l, .int .u64 x.un.d.x0, .int .u64 x.un.d.x1, .int .u64 x.un.d.x2, .int .u64 x.un.d.x3, .int .u64 x.un.d.x4, .int .u64 x.un.d.x5, .int .u64 x.un.d.x6, .int .u64 x.un.d.x7])).run Try.prog V = .ok true V := fun V => by have := eq_msg2 V x.un x.un; rw [decide_eq_true rfl] at this; exact this
          have hql : ∀ V, (Op.equalIn 10000 31 (.agg #[.int .u64 v.x0, .int .u64 v.x1, .int .u64 v.x2, .int .u64 v.x3, .int .u64 v.x4, .int .u64 v.x5, .int .u64 v.x6, .int .u64 v.x7]) (.agg #[.int .u64 v.x0, .int .u64 v.x1, .int .u64 v.x2, .int .u64 v.x3, .int .u64 v.x4, .int .u64 v.x5, .int .u64 v.x6, .int .u64 v.x7])).run Try.prog V = .ok true V := fun V => line_eq V v
          have HSk : Hid (∀ V, Chg [] w9 V → (V.cell? ⟨b7, 0, none⟩ = some (.int .i64 x.un.k) ∧ V.cell? ⟨b7, 1, none⟩ = some (.int .i64 x.un.c) ∧ V.cell? ⟨b7, 2, none⟩ = some (.int .i64 x.un.l) ∧ V.cell? ⟨b7, 3, none⟩ = some (.int .u64 x.un.d.x0) ∧ V.cell? ⟨b7, 4, none⟩ = some (.int .u64 x.un.d.x1) ∧ V.cell? ⟨b7, 5, none⟩ = some (.int .u64 x.un.d.x2) ∧ V.cell? ⟨b7, 6, none⟩ = some (.int .u64 x.un.d.x3) ∧ V.cell? ⟨b7, 7, none⟩ = some (.int .u64 x.un.d.x4) ∧ V.cell? ⟨b7, 8, none⟩ = some (.int .u64 x.un.d.x5) ∧ V.cell? ⟨b7, 9, none⟩ = some (.int .u64 x.un.d.x6) ∧ V.cell? ⟨b7, 10, none⟩ = some (.int .u64 x.un.d.x7) ∧ V.cell? ⟨b10, 0, none⟩ = some (.int .u64 v.x0) ∧ V.cell? ⟨b10, 1, none⟩ = some (.int .u64 v.x1) ∧ V.cell? ⟨b10, 2, none⟩ = some (.int .u64 v.x2) ∧ V.cell? ⟨b10, 3, none⟩ = some (.int .u64 v.x3) ∧ V.cell? ⟨b10, 4, none⟩ = some (.int .u64 v.x4) ∧ V.cell? ⟨b10, 5, none⟩ = some (.int .u64 v.x5) ∧ V.cell? ⟨b10, 6, none⟩ = some (.int .u64 v.x6) ∧ V.cell? ⟨b10, 7, none⟩ = some (.int .u64 v.x7) ∧ V.cell? ⟨b12, 0, none⟩ = some (.int .u64 v.x0) ∧ V.cell? ⟨b12, 1, none⟩ = some (.int .u64 v.x1) ∧ V.cell? ⟨b12, 2, none⟩ = some (.int .u64 v.x2) ∧ V.cell? ⟨b12, 3, none⟩ = some (.int .u64 v.x3) ∧ V.cell? ⟨b12, 4, none⟩ = some (.int .u64 v.x4) ∧ V.cell? ⟨b12, 5, none⟩ = some (.int .u64 v.x5) ∧ V.cell? ⟨b12, 6, none⟩ = some (.int .u64 v.x6) ∧ V.cell? ⟨b12, 7, none⟩ = some (.int .u64 v.x7) ∧ V.cell? ⟨b14, 0, none⟩ = some (.int .i64 x.ow) ∧ V.cell? ⟨b14, 1, none⟩ = some (.slice x.shA x.sh.length x.shc) ∧ V.cell? ⟨b14, 2, none⟩ = some (.int .i64 x.un.k) ∧ V.cell? ⟨b14, 3, none⟩ = some (.int .i64 x.un.c) ∧ V.cell? ⟨b14, 4, none⟩ = some (.int .i64 x.un.l) ∧ V.cell? ⟨b14, 5, none⟩ = some (.int .u64 x.un.d.x0) ∧ V.cell? ⟨b14, 6, none⟩ = some (.int .u64 x.un.d.x1) ∧ V.cell? ⟨b14, 7, none⟩ = some (.int .u64 x.un.d.x2) ∧ V.cell? ⟨b14, 8, none⟩ = some (.int .u64 x.un.d.x3) ∧ V.cell? ⟨b14, 9, none⟩ = some (.int .u64 x.un.d.x4) ∧ V.cell? ⟨b14, 10, none⟩ = some (.int .u64 x.un.d.x5) ∧ V.cell? ⟨b14, 11, none⟩ = some (.int .u64 x.un.d.x6) ∧ V.cell? ⟨b14, 12, none⟩ = some (.int .u64 x.un.d.x7) ∧ V.cell? ⟨b14, 13, none⟩ = some (.int .i64 x.ph) ∧ V.cell? ⟨b14, 16, none⟩ = some (.slice x.wtA x.wl.length x.wtc))) := Lib.hid (fun V k => ⟨(k.cell0 HB7.out.lt _).trans (HB7.out.cell 0), (k.cell0 HB7.out.lt _).trans (HB7.out.cell 1), (k.cell0 HB7.out.lt _).trans (HB7.out.cell 2), (k.cell0 HB7.out.lt _).trans (HB7.out.cell 3), (k.cell0 HB7.out.lt _).trans (HB7.out.cell 4), (k.cell0 HB7.out.lt _).trans (HB7.out.cell 5), (k.cell0 HB7.out.lt _).trans (HB7.out.cell 6), (k.cell0 HB7.out.lt _).trans (HB7.out.cell 7), (k.cell0 HB7.out.lt _).trans (HB7.out.cell 8), (k.cell0 HB7.out.lt _).trans (HB7.out.cell 9), (k.cell0 HB7.out.lt _).trans (HB7.out.cell 10), (k.cell0 HB10.out.lt _).trans (HB10.out.cell 0), (k.cell0 HB10.out.lt _).trans (HB10.out.cell 1), (k.cell0 HB10.out.lt _).trans (HB10.out.cell 2), (k.cell0 HB10.out.lt _).trans (HB10.out.cell 3), (k.cell0 HB10.out.lt _).trans (HB10.out.cell 4), (k.cell0 HB10.out.lt _).trans (HB10.out.cell 5), (k.cell0 HB10.out.lt _).trans (HB10.out.cell 6), (k.cell0 HB10.out.lt _).trans (HB10.out.cell 7), (k.cell0 HB12.out.lt _).trans (HB12.out.cell 0), (k.cell0 HB12.out.lt _).trans (HB12.out.cell 1), (k.cell0 HB12.out.lt _).trans (HB12.out.cell 2), (k.cell0 HB12.out.lt _).trans (HB12.out.cell 3), (k.cell0 HB12.out.lt _).trans (HB12.out.cell 4), (k.cell0 HB12.out.lt _).trans (HB12.out.cell 5), (k.cell0 HB12.out.lt _).trans (HB12.out.cell 6), (k.cell0 HB12.out.lt _).trans (HB12.out.cell 7), (k.cell0 HB14.out.lt _).trans (HB14.out.cell 0), (k.cell0 HB14.out.lt _).trans (HB14.out.cell 1), (k.cell0 HB14.out.lt _).trans (HB14.out.cell 2), (k.cell0 HB14.out.lt _).trans (HB14.out.cell 3), (k.cell0 HB14.out.lt _).trans (HB14.out.cell 4), (k.cell0 HB14.out.lt _).trans (HB14.out.cell 5), (k.cell0 HB14.out.lt _).trans (HB14.out.cell 6), (k.cell0 HB14.out.lt _).trans (HB14.out.cell 7), (k.cell0 HB14.out.lt _).trans (HB14.out.cell 8), (k.cell0 HB14.out.lt _).trans (HB14.out.cell 9), (k.cell0 HB14.out.lt _).trans (HB14.out.cell 10), (k.cell0 HB14.out.lt _).trans (HB14.out.cell 11), (k.cell0 HB14.out.lt _).trans (HB14.out.cell 12), (k.cell0 HB14.out.lt _).trans (HB14.out.cell 13), (k.cell0 HB14.out.lt _).trans (HB14.out.cell 16)⟩)
          have HLs := Lib.hid hls; have HLw := Lib.hid hlw
          have HDD := Lib.hid (show x.wl.length ≤ c4 ∧ c4 ≤ maxLen ∧ x.sh.length ≤ c1 ∧ c1 ≤ maxLen from ⟨hD1, hD2, hA1, hA2⟩)
          clear ho2 hA1 hA2 hA3 hR1 hA4 hD1 hD2 hD3 hR4 hD4 hls hlw
          go_region_held3 (fun V => V.cell? ⟨b7, 0, none⟩ = some (.int .i64 x.un.k) ∧ V.cell? ⟨b7, 1, none⟩ = some (.int .i64 x.un.c) ∧ V.cell? ⟨b7, 2, none⟩ = some (.int .i64 x.un.l) ∧ V.cell? ⟨b7, 3, none⟩ = some (.int .u64 x.un.d.x0) ∧ V.cell? ⟨b7, 4, none⟩ = some (.int .u64 x.un.d.x1) ∧ V.cell? ⟨b7, 5, none⟩ = some (.int .u64 x.un.d.x2) ∧ V.cell? ⟨b7, 6, none⟩ = some (.int .u64 x.un.d.x3) ∧ V.cell? ⟨b7, 7, none⟩ = some (.int .u64 x.un.d.x4) ∧ V.cell? ⟨b7, 8, none⟩ = some (.int .u64 x.un.d.x5) ∧ V.cell? ⟨b7, 9, none⟩ = some (.int .u64 x.un.d.x6) ∧ V.cell? ⟨b7, 10, none⟩ = some (.int .u64 x.un.d.x7) ∧ V.cell? ⟨b10, 0, none⟩ = some (.int .u64 v.x0) ∧ V.cell? ⟨b10, 1, none⟩ = some (.int .u64 v.x1) ∧ V.cell? ⟨b10, 2, none⟩ = some (.int .u64 v.x2) ∧ V.cell? ⟨b10, 3, none⟩ = some (.int .u64 v.x3) ∧ V.cell? ⟨b10, 4, none⟩ = some (.int .u64 v.x4) ∧ V.cell? ⟨b10, 5, none⟩ = some (.int .u64 v.x5) ∧ V.cell? ⟨b10, 6, none⟩ = some (.int .u64 v.x6) ∧ V.cell? ⟨b10, 7, none⟩ = some (.int .u64 v.x7) ∧ V.cell? ⟨b12, 0, none⟩ = some (.int .u64 v.x0) ∧ V.cell? ⟨b12, 1, none⟩ = some (.int .u64 v.x1) ∧ V.cell? ⟨b12, 2, none⟩ = some (.int .u64 v.x2) ∧ V.cell? ⟨b12, 3, none⟩ = some (.int .u64 v.x3) ∧ V.cell? ⟨b12, 4, none⟩ = some (.int .u64 v.x4) ∧ V.cell? ⟨b12, 5, none⟩ = some (.int .u64 v.x5) ∧ V.cell? ⟨b12, 6, none⟩ = some (.int .u64 v.x6) ∧ V.cell? ⟨b12, 7, none⟩ = some (.int .u64 v.x7) ∧ V.cell? ⟨b14, 0, none⟩ = some (.int .i64 x.ow) ∧ V.cell? ⟨b14, 1, none⟩ = some (.slice x.shA x.sh.length x.shc) ∧ V.cell? ⟨b14, 2, none⟩ = some (.int .i64 x.un.k) ∧ V.cell? ⟨b14, 3, none⟩ = some (.int .i64 x.un.c) ∧ V.cell? ⟨b14, 4, none⟩ = some (.int .i64 x.un.l) ∧ V.cell? ⟨b14, 5, none⟩ = some (.int .u64 x.un.d.x0) ∧ V.cell? ⟨b14, 6, none⟩ = some (.int .u64 x.un.d.x1) ∧ V.cell? ⟨b14, 7, none⟩ = some (.int .u64 x.un.d.x2) ∧ V.cell? ⟨b14, 8, none⟩ = some (.int .u64 x.un.d.x3) ∧ V.cell? ⟨b14, 9, none⟩ = some (.int .u64 x.un.d.x4) ∧ V.cell? ⟨b14, 10, none⟩ = some (.int .u64 x.un.d.x5) ∧ V.cell? ⟨b14, 11, none⟩ = some (.int .u64 x.un.d.x6) ∧ V.cell? ⟨b14, 12, none⟩ = some (.int .u64 x.un.d.x7) ∧ V.cell? ⟨b14, 13, none⟩ = some (.int .i64 x.ph) ∧ V.cell? ⟨b14, 16, none⟩ = some (.slice x.wtA x.wl.length x.wtc)) (exact HSk.out _ (by repeat (first | with_reducible exact Chg.refl _ _ | with_reducible exact HKs.out | with_reducible exact HKi.out | with_reducible refine Chg.drew ?_))) (first | (go_at_call 9; refine (HOwn.out _ ((Chg.refl [] _).drew)).mono ?_; rintro e wo ⟨rfl, rfl⟩) | (go_at_call 45; refine (HInts.out _ ((Chg.refl [] _).drew)).mono ?_; rintro e wi ⟨rfl, hki⟩; have HKi : Hid (Chg [] w9 wi) := Lib.hid (((Chg.refl [] w9).drew).trans hki); clear hki) | (go_at_call 23; refine (HSame.out _ HKi.out).mono ?_; rintro e wsm ⟨rfl, hks⟩; have HKs : Hid (Chg [] w9 wsm) := Lib.hid (HKi.out.trans hks); clear hks) | fail)
          have HKf := Lib.hid (HC.out.trans HKs.out)
          have HW4 : Hid (WrRow W wsm A4 33 11 x.wl.length) := Lib.hid (WrRow.chg (WrRow.of_row HO4.out (Nat.le_trans HB3s.out (Nat.le_refl _))) HKs.out)
          have HW1 : Hid (WrRow W wsm A1 3 1 x.sh.length) := Lib.hid (WrRow.chg (WrRow.of_row HO2.out HB1s.out) HKs.out)
          clear HSk HInts HSame HOwn hqm hql HKi HKs HB7 HB10 HB12 HB14 HO2 HO4 HC
          generalize wsm = wz at *
          have hDD := HDD.out
          have hl4 : x.wl.length ≤ 500 := HLw.out
          have hl1 : x.sh.length ≤ 4 := HLs.out
          have hc4 : (x.wl.length : Int) ≤ (c4 : Int) := by omega
          have hc1 : (x.sh.length : Int) ≤ (c1 : Int) := by omega
          obtain ⟨L4, hL4⟩ : ∃ q, x.wl.length = q := ⟨_, rfl⟩
          obtain ⟨L1, hL1⟩ : ∃ q, x.sh.length = q := ⟨_, rfl⟩
          rw [hL4] at hl4 hc4 HW4 ⊢
          rw [hL1] at hl1 hc1 HW1 ⊢
          clear hDD hL4 hL1
          go_wp2_with fail
          go_loopw [15] (fun q V => ∃ j : Nat, j ≤ L4 ∧ q = .int .i64 j ∧ Hid (Chg [] W V) ∧ Hid (WrRow W V A4 33 11 L4) ∧ Hid (WrRow W V A1 3 1 L1))
            (fun q _ => L4 - (intOf q).toNat)
          case atStart => exact ⟨0, by omega, rfl, HKf, HW4, HW1⟩
          case round =>
            obtain ⟨j, hj, rfl, hCj, hW4, hW1⟩ := hrel
            by_cases hjl : j < L4
            · obtain ⟨g, cl, rfl, hB, hlen, hg⟩ := hW4.out (by omega)
              have hji : (j : Int) < L4 := by omega
              have hgl : g < wr.heap.size := hB.lt
              obtain ⟨u, hu⟩ : ∃ u, wr.cell? ⟨g, j * 11 + 1, none⟩ = some u := ⟨cl[j * 11 + 1]'(by omega), by rw [hB.cell, List.getElem?_eq_getElem]⟩
              have hf : wr.frozen? ⟨g, j * 11 + 1, none⟩ = false := hB.free _
              have HBg := Lib.hid hB
              have Hln := Lib.hid hlen; have Hgg := Lib.hid hg
              clear hB hlen hg
              go_wp2_with fail
              go_roundw
              case rel =>
                refine ⟨j + 1, by omega, by go_num, Lib.hid (hCj.out.setCell (p := ⟨g, j * 11 + 1, none⟩) (fun h => absurd h (Nat.not_lt.2 Hgg.out)) _), Lib.hid (fun _ => ⟨g, _, rfl, HBg.out.set _ _, by rw [List.length_set]; exact Hln.out, Hgg.out⟩), Lib.hid (hW1.out.other HBg.out (by decide) _)⟩
              case measure => simp [intOf]; omega
            · have hje : j = L4 := by omega
              subst hje
              clear hjl
              go_wp2_with fail
              go_loopw [16] (fun q V => ∃ j1 : Nat, j1 ≤ L1 ∧ q = .int .i64 j1 ∧ Hid (Chg [] W V) ∧ Hid (WrRow W V A1 3 1 L1))
                (fun q _ => L1 - (intOf q).toNat)
              case atStart => exact ⟨0, by omega, rfl, hCj, hW1⟩
              case round =>
                obtain ⟨j1, hj1, rfl, hCq, hW1q⟩ := hrel
                by_cases hjl : j1 < L1
                · obtain ⟨g, cl, rfl, hB, hlen, hg⟩ := hW1q.out (by omega)
                  have hji : (j1 : Int) < L1 := by omega
                  have hgl : g < wr.heap.size := hB.lt
                  obtain ⟨u, hu⟩ : ∃ u, wr.cell? ⟨g, j1, none⟩ = some u := ⟨cl[j1]'(by omega), by rw [hB.cell, List.getElem?_eq_getElem]⟩
                  have hf : wr.frozen? ⟨g, j1, none⟩ = false := hB.free _
                  have HBg := Lib.hid hB
                  have Hln := Lib.hid hlen; have Hgg := Lib.hid hg
                  clear hB hlen hg
                  go_wp2_with fail
                  go_roundw
                  case rel =>
                    refine ⟨j1 + 1, by omega, by go_num, Lib.hid (hCq.out.setCell (p := ⟨g, j1, none⟩) (fun h => absurd h (Nat.not_lt.2 Hgg.out)) _), Lib.hid (fun _ => ⟨g, _, rfl, HBg.out.set _ _, by rw [List.length_set]; exact Hln.out, Hgg.out⟩)⟩
                  case measure => simp [intOf]; omega
                · have hje : j1 = L1 := by omega
                  subst hje
                  clear hjl
                  go_wp2_with fail
                  go_roundw
                  case rel => exact ⟨k + 1, by omega, by rw [show ((k + 1 : Nat) : Int) - 1 = (k : Int) by omega], hCq⟩
                  case measure => simp only [intOf]; have := HI.out; omega
        · go_upto_region 12 with fail
          have ho2 := HO2.out
          rw [← flat_encN] at ho2
          obtain ⟨A1, c1, rfl, hA1, hA2, hA3, hR1, hA4⟩ := Rd.of_row encN_len ho2
          obtain ⟨A4, c4, rfl, hD1, hD2, hD3, hR4, hD4⟩ := Rd.of_row encM_len HO4.out
          have hls := HSx.out.ls
          have hlw := HSx.out.lw
          have HInts : Hid (∀ V, Chg [] w9 V → Calls Try.prog 45 #[.slice A1 x.sh.length c1, .slice x.shA x.sh.length x.shc] V fun e w' => e = .returned (.bool true) ∧ Chg [] V w') := Lib.hid (fun V k => by have := Ints_any V A1 x.shA c1 x.shc x.sh x.sh (by omega) (hR1.chg0 k) (HSx.out.rsh.chg0 (HC.out.trans k)); simpa using this)
          have HSame : Hid (∀ V, Chg [] w9 V → Calls Try.prog 23 #[.slice A4 x.wl.length c4, .slice x.wtA x.wl.length x.wtc] V fun e w' => e = .returned (.bool true) ∧ Chg [] V w') := Lib.hid (fun V k => by have := Same_any V A4 x.wtA c4 x.wtc x.wl x.wl (by omega) (hR4.chg0 k) (HSx.out.rwt.chg0 (HC.out.trans k)); simpa using this)
          have HOwn : Hid (∀ V, Chg [] w9 V → Calls Try.prog 9 #[.pointer (some ⟨d, 0, none⟩), .int .i64 i] V fun e w' => e = .returned (.int .i64 x.ow) ∧ V = w') := Lib.hid (fun V k => HSx.out.ow V (HC.out.trans k))
          have hqm : ∀ V, (Op.equalIn 10000 33 (.agg #[.int .i64 x.un.k, .int .i64 x.un.c, .int .i64 x.un.l, .int .u64 x.un.d.x0, .int .u64 x.un.d.x1, .int .u64 x.un.d.x2, .int .u64 x.un.d.x3, .int .u64 x.un.d.x4, .int .u64 x.un.d.x5, .int .u64 x.un.d.x6, .int .u64 x.un.d.x7]) (.agg #[.int .i64 x.un.k, .int .i64 x.un.c, .int .i64 x.un.l, .int .u64 x.un.d.x0, .int .u64 x.un.d.x1, .int .u64 x.un.d.x2, .int .u64 x.un.d.x3, .int .u64 x.un.d.x4, .int .u64 x.un.d.x5, .int .u64 x.un.d.x6, .int .u64 x.un.d.x7])).run Try.prog V = .ok true V := fun V => by have := eq_msg2 V x.un x.un; rw [decide_eq_true rfl] at this; exact this
          have hql : ∀ V, (Op.equalIn 10000 31 (.agg #[.int .u64 v.x0, .int .u64 v.x1, .int .u64 v.x2, .int .u64 v.x3, .int .u64 v.x4, .int .u64 v.x5, .int .u64 v.x6, .int .u64 v.x7]) (.agg #[.int .u64 v.x0, .int .u64 v.x1, .int .u64 v.x2, .int .u64 v.x3, .int .u64 v.x4, .int .u64 v.x5, .int .u64 v.x6, .int .u64 v.x7])).run Try.prog V = .ok true V := fun V => line_eq V v
          have HSk : Hid (∀ V, Chg [] w9 V → (V.cell? ⟨b7, 0, none⟩ = some (.int .i64 x.un.k) ∧ V.cell? ⟨b7, 1, none⟩ = some (.int .i64 x.un.c) ∧ V.cell? ⟨b7, 2, none⟩ = some (.int .i64 x.un.l) ∧ V.cell? ⟨b7, 3, none⟩ = some (.int .u64 x.un.d.x0) ∧ V.cell? ⟨b7, 4, none⟩ = some (.int .u64 x.un.d.x1) ∧ V.cell? ⟨b7, 5, none⟩ = some (.int .u64 x.un.d.x2) ∧ V.cell? ⟨b7, 6, none⟩ = some (.int .u64 x.un.d.x3) ∧ V.cell? ⟨b7, 7, none⟩ = some (.int .u64 x.un.d.x4) ∧ V.cell? ⟨b7, 8, none⟩ = some (.int .u64 x.un.d.x5) ∧ V.cell? ⟨b7, 9, none⟩ = some (.int .u64 x.un.d.x6) ∧ V.cell? ⟨b7, 10, none⟩ = some (.int .u64 x.un.d.x7) ∧ V.cell? ⟨b10, 0, none⟩ = some (.int .u64 v.x0) ∧ V.cell? ⟨b10, 1, none⟩ = some (.int .u64 v.x1) ∧ V.cell? ⟨b10, 2, none⟩ = some (.int .u64 v.x2) ∧ V.cell? ⟨b10, 3, none⟩ = some (.int .u64 v.x3) ∧ V.cell? ⟨b10, 4, none⟩ = some (.int .u64 v.x4) ∧ V.cell? ⟨b10, 5, none⟩ = some (.int .u64 v.x5) ∧ V.cell? ⟨b10, 6, none⟩ = some (.int .u64 v.x6) ∧ V.cell? ⟨b10, 7, none⟩ = some (.int .u64 v.x7) ∧ V.cell? ⟨b12, 0, none⟩ = some (.int .u64 v.x0) ∧ V.cell? ⟨b12, 1, none⟩ = some (.int .u64 v.x1) ∧ V.cell? ⟨b12, 2, none⟩ = some (.int .u64 v.x2) ∧ V.cell? ⟨b12, 3, none⟩ = some (.int .u64 v.x3) ∧ V.cell? ⟨b12, 4, none⟩ = some (.int .u64 v.x4) ∧ V.cell? ⟨b12, 5, none⟩ = some (.int .u64 v.x5) ∧ V.cell? ⟨b12, 6, none⟩ = some (.int .u64 v.x6) ∧ V.cell? ⟨b12, 7, none⟩ = some (.int .u64 v.x7) ∧ V.cell? ⟨b14, 0, none⟩ = some (.int .i64 x.ow) ∧ V.cell? ⟨b14, 1, none⟩ = some (.slice x.shA x.sh.length x.shc) ∧ V.cell? ⟨b14, 2, none⟩ = some (.int .i64 x.un.k) ∧ V.cell? ⟨b14, 3, none⟩ = some (.int .i64 x.un.c) ∧ V.cell? ⟨b14, 4, none⟩ = some (.int .i64 x.un.l) ∧ V.cell? ⟨b14, 5, none⟩ = some (.int .u64 x.un.d.x0) ∧ V.cell? ⟨b14, 6, none⟩ = some (.int .u64 x.un.d.x1) ∧ V.cell? ⟨b14, 7, none⟩ = some (.int .u64 x.un.d.x2) ∧ V.cell? ⟨b14, 8, none⟩ = some (.int .u64 x.un.d.x3) ∧ V.cell? ⟨b14, 9, none⟩ = some (.int .u64 x.un.d.x4) ∧ V.cell? ⟨b14, 10, none⟩ = some (.int .u64 x.un.d.x5) ∧ V.cell? ⟨b14, 11, none⟩ = some (.int .u64 x.un.d.x6) ∧ V.cell? ⟨b14, 12, none⟩ = some (.int .u64 x.un.d.x7) ∧ V.cell? ⟨b14, 13, none⟩ = some (.int .i64 x.ph) ∧ V.cell? ⟨b14, 16, none⟩ = some (.slice x.wtA x.wl.length x.wtc))) := Lib.hid (fun V k => ⟨(k.cell0 HB7.out.lt _).trans (HB7.out.cell 0), (k.cell0 HB7.out.lt _).trans (HB7.out.cell 1), (k.cell0 HB7.out.lt _).trans (HB7.out.cell 2), (k.cell0 HB7.out.lt _).trans (HB7.out.cell 3), (k.cell0 HB7.out.lt _).trans (HB7.out.cell 4), (k.cell0 HB7.out.lt _).trans (HB7.out.cell 5), (k.cell0 HB7.out.lt _).trans (HB7.out.cell 6), (k.cell0 HB7.out.lt _).trans (HB7.out.cell 7), (k.cell0 HB7.out.lt _).trans (HB7.out.cell 8), (k.cell0 HB7.out.lt _).trans (HB7.out.cell 9), (k.cell0 HB7.out.lt _).trans (HB7.out.cell 10), (k.cell0 HB10.out.lt _).trans (HB10.out.cell 0), (k.cell0 HB10.out.lt _).trans (HB10.out.cell 1), (k.cell0 HB10.out.lt _).trans (HB10.out.cell 2), (k.cell0 HB10.out.lt _).trans (HB10.out.cell 3), (k.cell0 HB10.out.lt _).trans (HB10.out.cell 4), (k.cell0 HB10.out.lt _).trans (HB10.out.cell 5), (k.cell0 HB10.out.lt _).trans (HB10.out.cell 6), (k.cell0 HB10.out.lt _).trans (HB10.out.cell 7), (k.cell0 HB12.out.lt _).trans (HB12.out.cell 0), (k.cell0 HB12.out.lt _).trans (HB12.out.cell 1), (k.cell0 HB12.out.lt _).trans (HB12.out.cell 2), (k.cell0 HB12.out.lt _).trans (HB12.out.cell 3), (k.cell0 HB12.out.lt _).trans (HB12.out.cell 4), (k.cell0 HB12.out.lt _).trans (HB12.out.cell 5), (k.cell0 HB12.out.lt _).trans (HB12.out.cell 6), (k.cell0 HB12.out.lt _).trans (HB12.out.cell 7), (k.cell0 HB14.out.lt _).trans (HB14.out.cell 0), (k.cell0 HB14.out.lt _).trans (HB14.out.cell 1), (k.cell0 HB14.out.lt _).trans (HB14.out.cell 2), (k.cell0 HB14.out.lt _).trans (HB14.out.cell 3), (k.cell0 HB14.out.lt _).trans (HB14.out.cell 4), (k.cell0 HB14.out.lt _).trans (HB14.out.cell 5), (k.cell0 HB14.out.lt _).trans (HB14.out.cell 6), (k.cell0 HB14.out.lt _).trans (HB14.out.cell 7), (k.cell0 HB14.out.lt _).trans (HB14.out.cell 8), (k.cell0 HB14.out.lt _).trans (HB14.out.cell 9), (k.cell0 HB14.out.lt _).trans (HB14.out.cell 10), (k.cell0 HB14.out.lt _).trans (HB14.out.cell 11), (k.cell0 HB14.out.lt _).trans (HB14.out.cell 12), (k.cell0 HB14.out.lt _).trans (HB14.out.cell 13), (k.cell0 HB14.out.lt _).trans (HB14.out.cell 16)⟩)
          have HLs := Lib.hid hls; have HLw := Lib.hid hlw
          have HDD := Lib.hid (show x.wl.length ≤ c4 ∧ c4 ≤ maxLen ∧ x.sh.length ≤ c1 ∧ c1 ≤ maxLen from ⟨hD1, hD2, hA1, hA2⟩)
          clear ho2 hA1 hA2 hA3 hR1 hA4 hD1 hD2 hD3 hR4 hD4 hls hlw
          go_region_held3 (fun V => V.cell? ⟨b7, 0, none⟩ = some (.int .i64 x.un.k) ∧ V.cell? ⟨b7, 1, none⟩ = some (.int .i64 x.un.c) ∧ V.cell? ⟨b7, 2, none⟩ = some (.int .i64 x.un.l) ∧ V.cell? ⟨b7, 3, none⟩ = some (.int .u64 x.un.d.x0) ∧ V.cell? ⟨b7, 4, none⟩ = some (.int .u64 x.un.d.x1) ∧ V.cell? ⟨b7, 5, none⟩ = some (.int .u64 x.un.d.x2) ∧ V.cell? ⟨b7, 6, none⟩ = some (.int .u64 x.un.d.x3) ∧ V.cell? ⟨b7, 7, none⟩ = some (.int .u64 x.un.d.x4) ∧ V.cell? ⟨b7, 8, none⟩ = some (.int .u64 x.un.d.x5) ∧ V.cell? ⟨b7, 9, none⟩ = some (.int .u64 x.un.d.x6) ∧ V.cell? ⟨b7, 10, none⟩ = some (.int .u64 x.un.d.x7) ∧ V.cell? ⟨b10, 0, none⟩ = some (.int .u64 v.x0) ∧ V.cell? ⟨b10, 1, none⟩ = some (.int .u64 v.x1) ∧ V.cell? ⟨b10, 2, none⟩ = some (.int .u64 v.x2) ∧ V.cell? ⟨b10, 3, none⟩ = some (.int .u64 v.x3) ∧ V.cell? ⟨b10, 4, none⟩ = some (.int .u64 v.x4) ∧ V.cell? ⟨b10, 5, none⟩ = some (.int .u64 v.x5) ∧ V.cell? ⟨b10, 6, none⟩ = some (.int .u64 v.x6) ∧ V.cell? ⟨b10, 7, none⟩ = some (.int .u64 v.x7) ∧ V.cell? ⟨b12, 0, none⟩ = some (.int .u64 v.x0) ∧ V.cell? ⟨b12, 1, none⟩ = some (.int .u64 v.x1) ∧ V.cell? ⟨b12, 2, none⟩ = some (.int .u64 v.x2) ∧ V.cell? ⟨b12, 3, none⟩ = some (.int .u64 v.x3) ∧ V.cell? ⟨b12, 4, none⟩ = some (.int .u64 v.x4) ∧ V.cell? ⟨b12, 5, none⟩ = some (.int .u64 v.x5) ∧ V.cell? ⟨b12, 6, none⟩ = some (.int .u64 v.x6) ∧ V.cell? ⟨b12, 7, none⟩ = some (.int .u64 v.x7) ∧ V.cell? ⟨b14, 0, none⟩ = some (.int .i64 x.ow) ∧ V.cell? ⟨b14, 1, none⟩ = some (.slice x.shA x.sh.length x.shc) ∧ V.cell? ⟨b14, 2, none⟩ = some (.int .i64 x.un.k) ∧ V.cell? ⟨b14, 3, none⟩ = some (.int .i64 x.un.c) ∧ V.cell? ⟨b14, 4, none⟩ = some (.int .i64 x.un.l) ∧ V.cell? ⟨b14, 5, none⟩ = some (.int .u64 x.un.d.x0) ∧ V.cell? ⟨b14, 6, none⟩ = some (.int .u64 x.un.d.x1) ∧ V.cell? ⟨b14, 7, none⟩ = some (.int .u64 x.un.d.x2) ∧ V.cell? ⟨b14, 8, none⟩ = some (.int .u64 x.un.d.x3) ∧ V.cell? ⟨b14, 9, none⟩ = some (.int .u64 x.un.d.x4) ∧ V.cell? ⟨b14, 10, none⟩ = some (.int .u64 x.un.d.x5) ∧ V.cell? ⟨b14, 11, none⟩ = some (.int .u64 x.un.d.x6) ∧ V.cell? ⟨b14, 12, none⟩ = some (.int .u64 x.un.d.x7) ∧ V.cell? ⟨b14, 13, none⟩ = some (.int .i64 x.ph) ∧ V.cell? ⟨b14, 16, none⟩ = some (.slice x.wtA x.wl.length x.wtc)) (exact HSk.out _ (by repeat (first | with_reducible exact Chg.refl _ _ | with_reducible exact HKs.out | with_reducible exact HKi.out | with_reducible refine Chg.drew ?_))) (first | (go_at_call 9; refine (HOwn.out _ ((Chg.refl [] _).drew)).mono ?_; rintro e wo ⟨rfl, rfl⟩) | (go_at_call 45; refine (HInts.out _ ((Chg.refl [] _).drew)).mono ?_; rintro e wi ⟨rfl, hki⟩; have HKi : Hid (Chg [] w9 wi) := Lib.hid (((Chg.refl [] w9).drew).trans hki); clear hki) | (go_at_call 23; refine (HSame.out _ HKi.out).mono ?_; rintro e wsm ⟨rfl, hks⟩; have HKs : Hid (Chg [] w9 wsm) := Lib.hid (HKi.out.trans hks); clear hks) | fail)
          have HKf := Lib.hid (HC.out.trans HKs.out)
          have HW4 : Hid (WrRow W wsm A4 33 11 x.wl.length) := Lib.hid (WrRow.chg (WrRow.of_row HO4.out (Nat.le_trans HB3s.out (Nat.le_refl _))) HKs.out)
          have HW1 : Hid (WrRow W wsm A1 3 1 x.sh.length) := Lib.hid (WrRow.chg (WrRow.of_row HO2.out HB1s.out) HKs.out)
          clear HSk HInts HSame HOwn hqm hql HKi HKs HB7 HB10 HB12 HB14 HO2 HO4 HC
          generalize wsm = wz at *
          have hDD := HDD.out
          have hl4 : x.wl.length ≤ 500 := HLw.out
          have hl1 : x.sh.length ≤ 4 := HLs.out
          have hc4 : (x.wl.length : Int) ≤ (c4 : Int) := by omega
          have hc1 : (x.sh.length : Int) ≤ (c1 : Int) := by omega
          obtain ⟨L4, hL4⟩ : ∃ q, x.wl.length = q := ⟨_, rfl⟩
          obtain ⟨L1, hL1⟩ : ∃ q, x.sh.length = q := ⟨_, rfl⟩
          rw [hL4] at hl4 hc4 HW4 ⊢
          rw [hL1] at hl1 hc1 HW1 ⊢
          clear hDD hL4 hL1
          go_wp2_with fail
          go_loopw [15] (fun q V => ∃ j : Nat, j ≤ L4 ∧ q = .int .i64 j ∧ Hid (Chg [] W V) ∧ Hid (WrRow W V A4 33 11 L4) ∧ Hid (WrRow W V A1 3 1 L1))
            (fun q _ => L4 - (intOf q).toNat)
          case atStart => exact ⟨0, by omega, rfl, HKf, HW4, HW1⟩
          case round =>
            obtain ⟨j, hj, rfl, hCj, hW4, hW1⟩ := hrel
            by_cases hjl : j < L4
            · obtain ⟨g, cl, rfl, hB, hlen, hg⟩ := hW4.out (by omega)
              have hji : (j : Int) < L4 := by omega
              have hgl : g < wr.heap.size := hB.lt
              obtain ⟨u, hu⟩ : ∃ u, wr.cell? ⟨g, j * 11 + 1, none⟩ = some u := ⟨cl[j * 11 + 1]'(by omega), by rw [hB.cell, List.getElem?_eq_getElem]⟩
              have hf : wr.frozen? ⟨g, j * 11 + 1, none⟩ = false := hB.free _
              have HBg := Lib.hid hB
              have Hln := Lib.hid hlen; have Hgg := Lib.hid hg
              clear hB hlen hg
              go_wp2_with fail
              go_roundw
              case rel =>
                refine ⟨j + 1, by omega, by go_num, Lib.hid (hCj.out.setCell (p := ⟨g, j * 11 + 1, none⟩) (fun h => absurd h (Nat.not_lt.2 Hgg.out)) _), Lib.hid (fun _ => ⟨g, _, rfl, HBg.out.set _ _, by rw [List.length_set]; exact Hln.out, Hgg.out⟩), Lib.hid (hW1.out.other HBg.out (by decide) _)⟩
              case measure => simp [intOf]; omega
            · have hje : j = L4 := by omega
              subst hje
              clear hjl
              go_wp2_with fail
              go_loopw [16] (fun q V => ∃ j1 : Nat, j1 ≤ L1 ∧ q = .int .i64 j1 ∧ Hid (Chg [] W V) ∧ Hid (WrRow W V A1 3 1 L1))
                (fun q _ => L1 - (intOf q).toNat)
              case atStart => exact ⟨0, by omega, rfl, hCj, hW1⟩
              case round =>
                obtain ⟨j1, hj1, rfl, hCq, hW1q⟩ := hrel
                by_cases hjl : j1 < L1
                · obtain ⟨g, cl, rfl, hB, hlen, hg⟩ := hW1q.out (by omega)
                  have hji : (j1 : Int) < L1 := by omega
                  have hgl : g < wr.heap.size := hB.lt
                  obtain ⟨u, hu⟩ : ∃ u, wr.cell? ⟨g, j1, none⟩ = some u := ⟨cl[j1]'(by omega), by rw [hB.cell, List.getElem?_eq_getElem]⟩
                  have hf : wr.frozen? ⟨g, j1, none⟩ = false := hB.free _
                  have HBg := Lib.hid hB
                  have Hln := Lib.hid hlen; have Hgg := Lib.hid hg
                  clear hB hlen hg
                  go_wp2_with fail
                  go_roundw
                  case rel =>
                    refine ⟨j1 + 1, by omega, by go_num, Lib.hid (hCq.out.setCell (p := ⟨g, j1, none⟩) (fun h => absurd h (Nat.not_lt.2 Hgg.out)) _), Lib.hid (fun _ => ⟨g, _, rfl, HBg.out.set _ _, by rw [List.length_set]; exact Hln.out, Hgg.out⟩)⟩
                  case measure => simp [intOf]; omega
                · have hje : j1 = L1 := by omega
                  subst hje
                  clear hjl
                  go_wp2_with fail
                  go_roundw
                  case rel => exact ⟨k + 1, by omega, by rw [show ((k + 1 : Nat) : Int) - 1 = (k : Int) by omega], hCq⟩
                  case measure => simp only [intOf]; have := HI.out; omega
    · have hkn : k = n + 2 := by omega
      have hgt : ¬ ((k : Int) - 1 ≤ n) := by omega
      have hgt2 : (n : Int) < (k : Int) - 1 := by omega
      obtain ⟨i, hi⟩ : ∃ i : Int, (k : Int) - 1 = i := ⟨_, rfl⟩
      rw [hi] at hgt hgt2 ⊢
      clear hkn hi hlt
      go_wp2_with fail
      go_ret
      exact ⟨rfl, hC.out⟩
end Go.Proofs.Ytepdhajgemmoiaa

