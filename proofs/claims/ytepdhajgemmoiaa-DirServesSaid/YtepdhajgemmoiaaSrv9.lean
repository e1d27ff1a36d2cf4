/- Under and Waiting of a directory that is known. -/
import Derived.Test.YtepdhajgemmoiaaSrv1
import Derived.Test.YtepdhajgemmoiaaDir22
import Derived.Lib.SliceRun
namespace Go.Proofs.Ytepdhajgemmoiaa
set_option maxRecDepth 100000
set_option linter.unusedSimpArgs false
set_option linter.unusedVariables false
open Go.RowKit

def ClonePost (w : World) (l : List MsgV) (e : Ending) (w' : World) : Prop := ∃ v, e = .returned v ∧ w'.ownsRow w.heap.size 33 11 v l.length (l.flatMap encM) ∧ Chg [] w w'

set_option maxHeartbeats 4000000 in
theorem MClone_any (w : World) (v : Value) (l : List MsgV) (hW : WaitAt w v l) (hl : l.length ≤ 100000) :
    Calls Try.prog 36 #[v] w (ClonePost w l) := by
  obtain ⟨j0, hj, hy0, hy1, hy2⟩ := info_parts infoMsg
  have hR := hW.rd
  rcases hW with ⟨rfl, rfl⟩ | ⟨g, off, cap, cur, rfl, hgb, hle, hmx, hcu, hce⟩
  · have q22 : ∀ (w : World) (a : Option Addr) (n c n' c' : Nat), (binOp .eql 26 (.slice a n c) (.slice none n' c')).run Try.prog w = .ok (.bool a.isNone) w := fun w a n c n' c' => Lib.run_eql_slice_nil w _ _ a n c n' c' Try.underlying26
    go_enter Try.func36, Try.ntmps36
    go_wp2_with fail
    go_ret
    exact ⟨_, rfl, World.ownsRow_nil _ _ _ _, Chg.refl _ _⟩
  · obtain ⟨A, cap', hv, hc1, hc2, hRd⟩ := hR
    obtain ⟨rfl, rfl⟩ : some ⟨g, off, none⟩ = A ∧ cap = cap' := by simpa using hv
    clear hv
    have hN := Lib.hid (fun o : Obj => Rd.news (by decide) encM_len (hRd.chg0 ((Chg.refl [] w).alloc o)))
    have hBo : Hid ((w.alloc (.cells #[] 33)).ownsRow w.heap.size 33 11 (.slice (some ⟨w.heap.size, 0, none⟩) 0 0) 0 []) := Lib.hid ⟨rfl, .inr ⟨w.heap.size, 0, #[], rfl, Nat.le_refl _, heap_alloc_new w _, Nat.le_refl _, Nat.zero_le _, rfl, rfl⟩⟩
    have q22 : ∀ (w : World) (a : Option Addr) (n c n' c' : Nat), (binOp .eql 26 (.slice a n c) (.slice none n' c')).run Try.prog w = .ok (.bool a.isNone) w := fun w a n c n' c' => Lib.run_eql_slice_nil w _ _ a n c n' c' Try.underlying26
    have glt := hgb.lt
    clear hgb hcu hce hRd
    go_enter Try.func36, Try.ntmps36
    go_wp2_with (first | (at_builtin; refine wpList_append_own_any _ rfl (.tmp 5) (.tmp 6) 26 rfl (w.heap.size) 33 j0 (.agg #[.int .i64 0, .int .i64 0, .int .i64 0, .int .u64 0, .int .u64 0, .int .u64 0, .int .u64 0, .int .u64 0, .int .u64 0, .int .u64 0, .int .u64 0]) 11 88 Try.underlying26 hj hy0 hy1 hy2 rfl (by decide) _ _ _ rfl (hBo.out) (some ⟨g, off, none⟩) (l.length) (cap) (l.flatMap encM) rfl (fun h => nomatch h) (flat_len encM_len l) hle (hN.out _) (encs_one l) (by unfold maxLen; omega) (by omega) (by first | omega | (simp; omega) | simp) ?_; intro va1 wa1 hown1 hgrow1 hblk1 hnil1; have hsz1 := hgrow1.size; have HO1 := Lib.hid hown1; have HG1 := Lib.hid hgrow1; have HB1 := Lib.hid hblk1; have HZ1 := Lib.hid hnil1; clear hown1 hgrow1 hblk1 hnil1) | fail)
    have hk : Chg [] w wa1 := ((Chg.refl [] w).alloc (.cells #[] 33)).grown HG1.out (fun k hk hlt => by have : some w.heap.size = some k := hk; cases this; exact absurd hlt (Nat.lt_irrefl _))
    have HK := Lib.hid hk
    have HO := Lib.hid HO1.out
    clear hk HG1 HB1 HZ1 HO1
    go_ret
    exact ⟨_, rfl, by have := HO.out; rw [Nat.zero_add, List.nil_append] at this; exact this, HK.out⟩

theorem Waiting_ok (w : World) (d bl n cap : Nat) (i : Int) (h0 : 0 ≤ i) (h1 : i < n) (v : Value) (l : List MsgV) (hl : l.length ≤ 100000) (hW : WaitAt w v l) (hm : w.cell? ⟨d, 2, none⟩ = some (.slice (some ⟨bl, 0, none⟩) n cap)) (ho : w.cell? ⟨bl, i.toNat * 16 + 15, none⟩ = some v) :
    Calls Try.prog 18 #[.pointer (some ⟨d, 0, none⟩), .int .i64 i] w (ClonePost w l) := by
  have H := Lib.hid (dat_ok w d bl n cap i h0 h1 hm)
  have HC := Lib.hid (MClone_any w v l hW hl)
  obtain ⟨A, c, hv, _, _, _⟩ := hW.rd
  subst hv
  clear h1 hm h0 hW hl
  generalize i.toNat * 16 = p at *
  go_enter Try.func18, Try.ntmps18
  go_wp2_with fail
  refine H.out.mono ?_
  rintro e w' ⟨rfl, rfl⟩
  go_wp2_with fail
  refine HC.out.mono ?_
  rintro e w1 ⟨v, rfl, ho, hk⟩
  have HO := Lib.hid ho; have HK := Lib.hid hk
  clear ho hk HC H
  go_wp2_with fail
  go_ret
  exact ⟨v, rfl, HO.out, HK.out⟩

set_option maxHeartbeats 4000000 in
theorem Under_ok (w : World) (d bl n cap : Nat) (i : Nat) (es : List EntV) (hi : i < es.length) (hn : es.length = n) (dlt : d < w.heap.size) (hE : EntsAt w bl es) (hm : w.cell? ⟨d, 2, none⟩ = some (.slice (some ⟨bl, 0, none⟩) n cap)) :
    Calls Try.prog 14 #[.pointer (some ⟨d, 0, none⟩), .int .i64 (i : Int)] w fun e w' => e = .returned (.tuple #[mcells es[i].un, .bool (es[i].ph != 0)]) ∧ Chg [] w w' := by
  obtain ⟨E, hEE⟩ : ∃ E, es[i] = E := ⟨_, rfl⟩
  rw [hEE]
  obtain ⟨ow, sh, ⟨uk, uc, ul, ⟨u0, u1, u2, u3, u4, u5, u6, u7⟩⟩, ph, ak, wt, wl⟩ := E
  have HEE := Lib.hid hEE
  clear hEE
  simp only
  have hal : Chg [] w (w.alloc (.cells #[.int .i64 0, .int .i64 0, .int .i64 0, .int .u64 0, .int .u64 0, .int .u64 0, .int .u64 0, .int .u64 0, .int .u64 0, .int .u64 0, .int .u64 0] 33)) := (Chg.refl [] w).alloc _
  have HA := Lib.hid (fun W (k : Chg [] w W) => dat_ok W d bl n cap (i : Int) (by omega) (by omega) ((k.cell0 dlt 2).trans hm))
  have HE := Lib.hid (show EntsAt _ bl es from hal.blk hE (by simp))
  have HB := Lib.hid (Blk.new w [.int .i64 0, .int .i64 0, .int .i64 0, .int .u64 0, .int .u64 0, .int .u64 0, .int .u64 0, .int .u64 0, .int .u64 0, .int .u64 0, .int .u64 0] 33)
  have HC := Lib.hid hal
  have hbl : bl < w.heap.size := Blk.lt hE
  clear hE hm
  go_enter Try.func14, Try.ntmps14
  go_upto_region 1 with fail
  generalize World.alloc _ _ = wa at *
  obtain ⟨b, hb⟩ : ∃ b, w.heap.size = b := ⟨_, rfl⟩
  have HNb := Lib.hid hb
  rw [hb] at HB hbl ⊢
  clear hb
  obtain ⟨p, hp⟩ : ∃ p, i * 16 = p := ⟨_, rfl⟩
  have HP := Lib.hid hp
  have e2 : wa.cell? ⟨bl, p + 2, none⟩ = some (.int .i64 uk) := by have := HE.out.cell hi (j := 2) (by decide); rw [HEE.out, hp] at this; exact this
  have e3 : wa.cell? ⟨bl, p + 3, none⟩ = some (.int .i64 uc) := by have := HE.out.cell hi (j := 3) (by decide); rw [HEE.out, hp] at this; exact this
  have e4 : wa.cell? ⟨bl, p + 4, none⟩ = some (.int .i64 ul) := by have := HE.out.cell hi (j := 4) (by decide); rw [HEE.out, hp] at this; exact this
  have e5 : wa.cell? ⟨bl, p + 5, none⟩ = some (.int .u64 u0) := by have := HE.out.cell hi (j := 5) (by decide); rw [HEE.out, hp] at this; exact this
  have e6 : wa.cell? ⟨bl, p + 6, none⟩ = some (.int .u64 u1) := by have := HE.out.cell hi (j := 6) (by decide); rw [HEE.out, hp] at this; exact this
  have e7 : wa.cell? ⟨bl, p + 7, none⟩ = some (.int .u64 u2) := by have := HE.out.cell hi (j := 7) (by decide); rw [HEE.out, hp] at this; exact this
  have e8 : wa.cell? ⟨bl, p + 8, none⟩ = some (.int .u64 u3) := by have := HE.out.cell hi (j := 8) (by decide); rw [HEE.out, hp] at this; exact this
  have e9 : wa.cell? ⟨bl, p + 9, none⟩ = some (.int .u64 u4) := by have := HE.out.cell hi (j := 9) (by decide); rw [HEE.out, hp] at this; exact this
  have e10 : wa.cell? ⟨bl, p + 10, none⟩ = some (.int .u64 u5) := by have := HE.out.cell hi (j := 10) (by decide); rw [HEE.out, hp] at this; exact this
  have e11 : wa.cell? ⟨bl, p + 11, none⟩ = some (.int .u64 u6) := by have := HE.out.cell hi (j := 11) (by decide); rw [HEE.out, hp] at this; exact this
  have e12 : wa.cell? ⟨bl, p + 12, none⟩ = some (.int .u64 u7) := by have := HE.out.cell hi (j := 12) (by decide); rw [HEE.out, hp] at this; exact this
  have e13 : wa.cell? ⟨bl, p + 13, none⟩ = some (.int .i64 ph) := by have := HE.out.cell hi (j := 13) (by decide); rw [HEE.out, hp] at this; exact this
  have blt : bl < wa.heap.size := Blk.lt HE.out
  have mlt : b < wa.heap.size := HB.out.lt
  have hdb : b ≠ bl := by omega
  have c0 : wa.cell? ⟨b, 0, none⟩ = some (.int .i64 0) := HB.out.cell 0
  have c1 : wa.cell? ⟨b, 1, none⟩ = some (.int .i64 0) := HB.out.cell 1
  have c2 : wa.cell? ⟨b, 2, none⟩ = some (.int .i64 0) := HB.out.cell 2
  have c3 : wa.cell? ⟨b, 3, none⟩ = some (.int .u64 0) := HB.out.cell 3
  have c4 : wa.cell? ⟨b, 4, none⟩ = some (.int .u64 0) := HB.out.cell 4
  have c5 : wa.cell? ⟨b, 5, none⟩ = some (.int .u64 0) := HB.out.cell 5
  have c6 : wa.cell? ⟨b, 6, none⟩ = some (.int .u64 0) := HB.out.cell 6
  have c7 : wa.cell? ⟨b, 7, none⟩ = some (.int .u64 0) := HB.out.cell 7
  have c8 : wa.cell? ⟨b, 8, none⟩ = some (.int .u64 0) := HB.out.cell 8
  have c9 : wa.cell? ⟨b, 9, none⟩ = some (.int .u64 0) := HB.out.cell 9
  have c10 : wa.cell? ⟨b, 10, none⟩ = some (.int .u64 0) := HB.out.cell 10
  have g0 : wa.frozen? ⟨b, 0, none⟩ = false := HB.out.free 0
  have g1 : wa.frozen? ⟨b, 1, none⟩ = false := HB.out.free 1
  have g2 : wa.frozen? ⟨b, 2, none⟩ = false := HB.out.free 2
  have g3 : wa.frozen? ⟨b, 3, none⟩ = false := HB.out.free 3
  have g4 : wa.frozen? ⟨b, 4, none⟩ = false := HB.out.free 4
  have g5 : wa.frozen? ⟨b, 5, none⟩ = false := HB.out.free 5
  have g6 : wa.frozen? ⟨b, 6, none⟩ = false := HB.out.free 6
  have g7 : wa.frozen? ⟨b, 7, none⟩ = false := HB.out.free 7
  have g8 : wa.frozen? ⟨b, 8, none⟩ = false := HB.out.free 8
  have g9 : wa.frozen? ⟨b, 9, none⟩ = false := HB.out.free 9
  have g10 : wa.frozen? ⟨b, 10, none⟩ = false := HB.out.free 10
  have hA := HA.out wa HC.out
  rw [Int.toNat_natCast, hp] at hA
  replace HA := Lib.hid hA
  clear hA hp
  go_wp2_with fail
  refine HA.out.mono ?_
  rintro e w' ⟨rfl, rfl⟩
  go_wp2_with fail
  have hTd := ((((((((((((Chg.refl [b] wa).setCell (p := ⟨b, 0, none⟩) (fun _ => List.mem_singleton.2 rfl) (.int .i64 uk)).setCell (p := ⟨b, 1, none⟩) (fun _ => List.mem_singleton.2 rfl) (.int .i64 uc)).setCell (p := ⟨b, 2, none⟩) (fun _ => List.mem_singleton.2 rfl) (.int .i64 ul)).setCell (p := ⟨b, 3, none⟩) (fun _ => List.mem_singleton.2 rfl) (.int .u64 u0)).setCell (p := ⟨b, 4, none⟩) (fun _ => List.mem_singleton.2 rfl) (.int .u64 u1)).setCell (p := ⟨b, 5, none⟩) (fun _ => List.mem_singleton.2 rfl) (.int .u64 u2)).setCell (p := ⟨b, 6, none⟩) (fun _ => List.mem_singleton.2 rfl) (.int .u64 u3)).setCell (p := ⟨b, 7, none⟩) (fun _ => List.mem_singleton.2 rfl) (.int .u64 u4)).setCell (p := ⟨b, 8, none⟩) (fun _ => List.mem_singleton.2 rfl) (.int .u64 u5)).setCell (p := ⟨b, 9, none⟩) (fun _ => List.mem_singleton.2 rfl) (.int .u64 u6)).setCell (p := ⟨b, 10, none⟩) (fun _ => List.mem_singleton.2 rfl) (.int .u64 u7)).drew
  have hq1 : bl ∉ [b] := by simpa using Ne.symm hdb
  go_region_held3 (fun w' => w'.cell? ⟨bl, p + 2, none⟩ = some (.int .i64 uk) ∧ w'.cell? ⟨bl, p + 3, none⟩ = some (.int .i64 uc) ∧ w'.cell? ⟨bl, p + 4, none⟩ = some (.int .i64 ul) ∧ w'.cell? ⟨bl, p + 5, none⟩ = some (.int .u64 u0) ∧ w'.cell? ⟨bl, p + 6, none⟩ = some (.int .u64 u1) ∧ w'.cell? ⟨bl, p + 7, none⟩ = some (.int .u64 u2) ∧ w'.cell? ⟨bl, p + 8, none⟩ = some (.int .u64 u3) ∧ w'.cell? ⟨bl, p + 9, none⟩ = some (.int .u64 u4) ∧ w'.cell? ⟨bl, p + 10, none⟩ = some (.int .u64 u5) ∧ w'.cell? ⟨bl, p + 11, none⟩ = some (.int .u64 u6) ∧ w'.cell? ⟨bl, p + 12, none⟩ = some (.int .u64 u7) ∧ w'.cell? ⟨bl, p + 13, none⟩ = some (.int .i64 ph))
    (first | with_reducible exact ⟨e2, e3, e4, e5, e6, e7, e8, e9, e10, e11, e12, e13⟩ | with_reducible exact ⟨(hTd.cell blt hq1 _).trans e2, (hTd.cell blt hq1 _).trans e3, (hTd.cell blt hq1 _).trans e4, (hTd.cell blt hq1 _).trans e5, (hTd.cell blt hq1 _).trans e6, (hTd.cell blt hq1 _).trans e7, (hTd.cell blt hq1 _).trans e8, (hTd.cell blt hq1 _).trans e9, (hTd.cell blt hq1 _).trans e10, (hTd.cell blt hq1 _).trans e11, (hTd.cell blt hq1 _).trans e12, (hTd.cell blt hq1 _).trans e13⟩ | go_keep) (fail)
  have HBz := Lib.hid (show Blk _ b [.int .i64 uk, .int .i64 uc, .int .i64 ul, .int .u64 u0, .int .u64 u1, .int .u64 u2, .int .u64 u3, .int .u64 u4, .int .u64 u5, .int .u64 u6, .int .u64 u7] 33 from Blk.drew (((((((((((HB.out.set 0 (.int .i64 uk)).set 1 (.int .i64 uc)).set 2 (.int .i64 ul)).set 3 (.int .u64 u0)).set 4 (.int .u64 u1)).set 5 (.int .u64 u2)).set 6 (.int .u64 u3)).set 7 (.int .u64 u4)).set 8 (.int .u64 u5)).set 9 (.int .u64 u6)).set 10 (.int .u64 u7)))
  have HCz := Lib.hid (HC.out.trans' hTd (fun x hx hlt => by rw [List.mem_singleton.1 hx] at hlt; have := HNb.out; omega))
  clear hTd hq1 HE HB HC HA e2 e3 e4 e5 e6 e7 e8 e9 e10 e11 e12 e13 c0 c1 c2 c3 c4 c5 c6 c7 c8 c9 c10 g0 g1 g2 g3 g4 g5 g6 g7 g8 g9 g10 mlt blt hdb
  generalize World.drew _ = w3 at *
  have r0 : w3.cell? ⟨b, 0, none⟩ = some (.int .i64 uk) := HBz.out.cell 0; have r1 : w3.cell? ⟨b, 1, none⟩ = some (.int .i64 uc) := HBz.out.cell 1; have r2 : w3.cell? ⟨b, 2, none⟩ = some (.int .i64 ul) := HBz.out.cell 2; have r3 : w3.cell? ⟨b, 3, none⟩ = some (.int .u64 u0) := HBz.out.cell 3; have r4 : w3.cell? ⟨b, 4, none⟩ = some (.int .u64 u1) := HBz.out.cell 4; have r5 : w3.cell? ⟨b, 5, none⟩ = some (.int .u64 u2) := HBz.out.cell 5; have r6 : w3.cell? ⟨b, 6, none⟩ = some (.int .u64 u3) := HBz.out.cell 6; have r7 : w3.cell? ⟨b, 7, none⟩ = some (.int .u64 u4) := HBz.out.cell 7; have r8 : w3.cell? ⟨b, 8, none⟩ = some (.int .u64 u5) := HBz.out.cell 8; have r9 : w3.cell? ⟨b, 9, none⟩ = some (.int .u64 u6) := HBz.out.cell 9; have r10 : w3.cell? ⟨b, 10, none⟩ = some (.int .u64 u7) := HBz.out.cell 10
  go_wp2_with fail
  refine bodyPost_ret (v := .tuple #[.agg #[.int .i64 uk, .int .i64 uc, .int .i64 ul, .int .u64 u0, .int .u64 u1, .int .u64 u2, .int .u64 u3, .int .u64 u4, .int .u64 u5, .int .u64 u6, .int .u64 u7], .bool (ph != 0)]) ?_ rfl ⟨rfl, HCz.out⟩
  simp [results, Try.results14, go_sem, r0, r1, r2, r3, r4, r5, r6, r7, r8, r9, r10]

section
variable {w : World} {d bm bw bl n : Nat} {cores : Int} {ws : List Int} {es ks : List EntV}
theorem Under_any (i : Nat) (K : Knows w d bm bw bl n cores ws es ks) (hi : i < n) (e : EntV) (he : ks[i]? = some e) :
    Calls Try.prog 14 #[.pointer (some ⟨d, 0, none⟩), .int .i64 (i : Int)] w fun r w' => r = .returned (.tuple #[mcells e.un, .bool (e.ph != 0)]) ∧ Chg [] w w' := by
  have hln := K.D.D.len
  have hie : i < es.length := by omega
  have he2 : e = unw es[i] := by rw [← K.ks, List.getElem?_map, List.getElem?_eq_getElem hie] at he; simpa using he.symm
  subst he2
  exact Under_ok w d bl n n i es hie hln K.D.D.blk.lt K.D.D.ents (K.D.D.blk.cell 2)
theorem Waiting_any (i : Nat) (K : Knows w d bm bw bl n cores ws es ks) (hi : i < n) (e : EntV) (he : ks[i]? = some e) :
    Calls Try.prog 18 #[.pointer (some ⟨d, 0, none⟩), .int .i64 (i : Int)] w (ClonePost w e.wl) := by
  have hln := K.D.D.len
  have hie : i < es.length := by omega
  have he2 : e = unw es[i] := by rw [← K.ks, List.getElem?_map, List.getElem?_eq_getElem hie] at he; simpa using he.symm
  subst he2
  obtain ⟨hE, hW⟩ := K.ok i hie
  exact Waiting_ok w d bl n n (i : Int) (by omega) (by omega) es[i].wt es[i].wl (hW.len hE K.co.2) (K.D.wait i hie) (K.D.D.blk.cell 2) (K.D.D.ents.cell hie (j := 15) (by decide))
end
end Go.Proofs.Ytepdhajgemmoiaa
