/- A log's Write, Clear, New. -/
import Derived.Test.YtilffolppnnkaaaSLog3
namespace Go.Proofs.Ytilffolppnnkaaa
set_option maxRecDepth 100000
open Go.RowKit

theorem idxD_fst (l : PL) : idxD l = (l.map Prod.fst).zipIdx.foldl (fun D x => D.put (.int .i64 x.1) (.lit (.int .i64 (x.2 : Int)))) (.map []) := by
  simp [idxD, List.zipIdx_map, List.foldl_map]
theorem set_fst {l : PL} {i : Nat} {a x : Int} (h : place l a = some i) : (l.set i (a, x)).map Prod.fst = l.map Prod.fst := by
  obtain ⟨hi, ha⟩ := place_lt h
  apply List.ext_getElem
  · simp
  · intro j h1 h2
    simp only [List.getElem_map, List.getElem_set]
    split
    · rename_i e; subst e; exact ha.symm
    · rfl
theorem place_fst (l : PL) (a : Int) : place l a = (l.map Prod.fst).findIdx? (· == a) := by
  simp [place, List.findIdx?_map, Function.comp_def]
theorem cellsP_set (l : PL) (i : Nat) (hi : i < l.length) (x : Int) : (cellsP l).set (i * 2 + 1) (.int .u64 x) = cellsP (l.set i (l[i].1, x)) := by
  apply List.ext_getElem?
  intro j
  by_cases hj : j < l.length * 2
  · obtain ⟨q, r, hr, rfl⟩ : ∃ q r, r < 2 ∧ j = q * 2 + r := ⟨j / 2, j % 2, by omega, by omega⟩
    have hq : q < l.length := by omega
    rw [cellsP_get _ q r (by simpa using hq) hr, List.getElem?_set]
    by_cases e : i * 2 + 1 = q * 2 + r
    · obtain rfl : i = q := by omega
      obtain rfl : r = 1 := by omega
      rw [if_pos e, if_pos (by rw [cellsP_len]; omega)]
      simp [encP]
    · rw [if_neg e, cellsP_get _ q r hq hr]
      by_cases e2 : i = q
      · subst e2
        obtain rfl : r = 0 := by omega
        simp [encP]
      · rw [List.getElem_set_ne e2]
  · rw [List.getElem?_eq_none (by rw [List.length_set, cellsP_len]; omega), List.getElem?_eq_none (by rw [cellsP_len, List.length_set]; omega)]

def wrErr (l : PL) (a : Int) : Int := rdErr l a
def WritePost (w : World) (g : Nat) (F : List Nat) (R W : PL) (a x : Int) (e : Ending) (w' : World) : Prop :=
  e = .returned (.int .i64 (wrErr W a)) ∧ ∃ F', LogAt w' g F' R (wrL W a x) ∧ Mv F F' w w'

set_option maxHeartbeats 1000000 in
theorem Write_any (w : World) (g : Nat) (F : List Nat) (R W : PL) (a x : Int) (ha : (Lit.int .i64 a).wf = true) (hx : (Lit.int .u64 x).wf = true) (h : LogAt w g F R W) :
    Calls Try.prog 43 #[.pointer (some ⟨g, 0, none⟩), .int .i64 a, .int .u64 x] w (WritePost w g F R W a x) := by
  have h0 := h
  obtain ⟨b, c, v, m, u, n, h1, h2, h3, rfl, h4, h5, h6⟩ := h.parts
  have k0 : w.cell? ⟨g, 0, none⟩ = some (.pointer (some ⟨b, 0, none⟩)) := h1.cell 0
  have k1 : w.cell? ⟨g, 1, none⟩ = some (.pointer (some ⟨c, 0, none⟩)) := h1.cell 1
  have q0 : w.cell? ⟨c, 0, none⟩ = some u := h3.blk.cell 0
  have q1 : w.cell? ⟨c, 1, none⟩ = some (.map (some n)) := h3.blk.cell 1
  have hkey := Maps.keyOf_int_mk Try.underlying3 ha
  have hown := h3.map
  have hh := has_idxD W a
  have H0 := Lib.hid h0
  have H1 := Lib.hid h1
  have H2 := Lib.hid h2
  have H3 := Lib.hid h3
  have H4 := Lib.hid h4
  have H5 := Lib.hid h5
  have H6 := Lib.hid h6
  clear h h0 h1 h2 h3 h4 h5 h6
  by_cases hneg : a < 0
  · have e1 : wrErr W a = 2 := by simp [wrErr, rdErr, hneg]
    have e2 : wrL W a x = W := by simp [wrL, hneg]
    unfold WritePost
    rw [e1, e2]
    clear e1 e2 hh
    go_enter Try.func43, Try.ntmps43
    go_wp2_with fail
    refine (none_any _ _ _ k0).mono ?_
    rintro e w' ⟨rfl, rfl⟩
    go_wp2_with fail
    go_ret
    exact ⟨rfl, _, H0.out, Mv.refl _ _⟩
  have hpos : 0 ≤ a := by omega
  cases hp : place W a with
  | some i =>
    have e1 : wrErr W a = 0 := by simp [wrErr, rdErr, hneg, hp]
    have e2 : wrL W a x = W.set i (a, x) := by simp [wrL, hneg, hp]
    rw [hp] at hh
    have hh' : Maps.has (idxD W) (.int .i64 a) = true := hh
    have hat0 := at_idxD W a i H3.out.once hp (.lit (.int .i64 0))
    obtain ⟨hi, hia⟩ := place_lt hp
    have hm := H3.out.most
    unfold WritePost
    rw [e1, e2]
    have HP := Lib.hid hp
    have HI := Lib.hid hia
    obtain ⟨A, cap, rfl, hcap, hmax, _, hcs⟩ := ownsRow_cell H3.out.row
    obtain ⟨p, rfl, _, hc, hf⟩ := hcs (i * 2 + 1) (by omega)
    rw [cellsP_get W i 1 hi (by decide)] at hc
    have hc' : w.cell? ⟨p, i * 2 + 1, none⟩ = some (.int .u64 W[i].2) := hc
    generalize W[i].2 = lv at *
    clear e1 e2 hp hneg hh hia hcs hc
    go_enter Try.func43, Try.ntmps43
    go_wp2_with fail
    refine (none_any _ _ _ k0).mono ?_
    rintro e w' ⟨rfl, rfl⟩
    go_wp2_with (first
      | (at_lookup; refine wpList_lookup_own_ok_int _ rfl _ _ 42 rfl 3 3 .i64 lawInt Try.underlying42 Try.underlying3 (zeroInt _) n _ _ rfl hown _ _ rfl hkey ?_; intro cc hat hwc; rw [hh']; obtain rfl : (i : Int) = cc := (by rw [hat0] at hat; simpa using hat); clear hat hat0 hh'))
    go_ret
    have h3 := H3.out
    have hpn : p ≠ n := by rintro rfl; exact h3.mv (by simp [Value.ownBlock])
    have hpc : p ≠ c := by rintro rfl; exact h3.bv (by simp [Value.ownBlock])
    have hpl : place W a = some i := HP.out
    have hrow := h3.row.stored (i * 2 + 1) (.int .u64 x)
    rw [cellsP_set W i hi x, HI.out] at hrow
    have hG : Chg (listF c (.slice (some ⟨p, 0, none⟩) W.length cap) n) w (w.setCell ⟨p, i * 2 + 1, none⟩ (.int .u64 x)) := (Chg.refl _ w).setCell (by simp [listF, Value.ownBlock]) _
    have hG1 : Chg [p] w (w.setCell ⟨p, i * 2 + 1, none⟩ (.int .u64 x)) := (Chg.refl _ w).setCell (by simp) _
    refine ⟨rfl, LogAt.writes H1.out H2.out h3 H4.out H5.out H6.out (u' := .slice (some ⟨p, 0, none⟩) W.length cap) ⟨hG1.blk h3.blk (by simpa using hpc.symm), ?_, ?_, ?_, ?_, by simpa using h3.most, h3.bm, h3.bv, h3.mv⟩ ⟨hG, fun _ hx => .inl hx⟩⟩
    · rw [List.length_set]; exact hrow.1
    · rw [List.length_set, idxD_fst, set_fst hpl, ← idxD_fst]; exact ownsMap_chg h3.map hG1 (by simpa using hpn.symm)
    · unfold Once; rw [set_fst hpl]; exact h3.once
    · intro q hq
      rcases List.mem_or_eq_of_mem_set hq with e | e
      · exact h3.ok q e
      · subst e; exact ⟨ha, hx⟩
  | none =>
    have e1 : wrErr W a = putErr W := by simp [wrErr, rdErr, hneg, hp]
    have e2 : wrL W a x = putL W a x := by simp [wrL, hneg, hp]
    rw [hp] at hh
    have hh' : Maps.has (idxD W) (.int .i64 a) = false := hh
    unfold WritePost
    rw [e1, e2]
    have HP := Lib.hid hp
    clear e1 e2 hp hneg hh
    go_enter Try.func43, Try.ntmps43
    go_wp2_with fail
    refine (none_any _ _ _ k0).mono ?_
    rintro e w' ⟨rfl, rfl⟩
    go_wp2_with (first
      | (at_lookup; refine wpList_lookup_own_ok_int _ rfl _ _ 42 rfl 3 3 .i64 lawInt Try.underlying42 Try.underlying3 (zeroInt _) n _ _ rfl hown _ _ rfl hkey ?_; intro cc hat hwc; rw [hh']; clear hat hh')
      | (go_at_call 74; refine (put_any _ c n u W a x ha hx HP.out H3.out).mono ?_; rintro e w' ⟨rfl, hput⟩; have HQ := Lib.hid hput; clear hput))
    go_ret
    obtain ⟨v', hl, hm⟩ := HQ.out
    exact ⟨rfl, LogAt.writes H1.out H2.out H3.out H4.out H5.out H6.out hl hm⟩

set_option maxHeartbeats 1000000 in
theorem Clear_any (w : World) (g : Nat) (F : List Nat) (R W : PL) (h : LogAt w g F R W) :
    Calls Try.prog 37 #[.pointer (some ⟨g, 0, none⟩)] w fun e w' => e = .returned (.int .i64 0) ∧ ∃ F', LogAt w' g F' [] [] ∧ Mv F F' w w' := by
  obtain ⟨b, c, v, m, u, n, h1, h2, h3, rfl, h4, h5, h6⟩ := h.parts
  have k0 : w.cell? ⟨g, 0, none⟩ = some (.pointer (some ⟨b, 0, none⟩)) := h1.cell 0
  have H1 := Lib.hid h1
  have H2 := Lib.hid h2
  have H3 := Lib.hid h3
  have H4 := Lib.hid h4
  have H5 := Lib.hid h5
  have H6 := Lib.hid h6
  clear h h1 h2 h3 h4 h5 h6
  go_enter Try.func37, Try.ntmps37
  go_wp2_with fail
  refine (none_any _ _ _ k0).mono ?_
  rintro e w' ⟨rfl, rfl⟩
  go_wp2_with fail
  refine (clear_any _ b m v R H2.out).mono ?_
  rintro e w1 ⟨rfl, hl, hm⟩
  obtain ⟨F1, hL1, hM1⟩ := LogAt.reads H1.out H2.out H3.out H4.out H5.out H6.out hl hm
  have k1 : w1.cell? ⟨g, 1, none⟩ = some (.pointer (some ⟨c, 0, none⟩)) := (hm.chg.blk H1.out H5.out).cell 1
  have h31 := H3.out.chg hm.chg H4.out.symm
  have L1 := Lib.hid hL1
  have M1 := Lib.hid hM1
  have HL := Lib.hid hl
  have HM := Lib.hid hm
  clear hl hm hL1 hM1
  go_wp2_with fail
  refine (clear_any _ c n u W h31).mono ?_
  rintro e w2 ⟨rfl, hl2, hm2⟩
  have HL2 := Lib.hid hl2
  have HM2 := Lib.hid hm2
  clear hl2 hm2
  go_wp2_with fail
  go_ret
  obtain ⟨F2, hL2, hM2⟩ := LogAt.writes (HM.out.chg.blk H1.out H5.out) HL.out h31 (H4.out.mv HM.out H3.out.lt) (fun hg => (HM.out.new g hg).elim H5.out (fun e => by have := H1.out.lt; omega)) H6.out HL2.out HM2.out
  refine ⟨rfl, F2, hL2, ?_⟩
  refine Mv.trans (G := g :: (listF b (.slice none 0 0) m ++ listF c u n)) ⟨HM.out.chg.mono (fun x hx => by simp [hx]), ?_⟩ hM2
  intro x hx
  simp only [List.mem_cons, List.mem_append] at hx ⊢
  rcases hx with rfl | hx | hx
  · exact .inl (.inl rfl)
  · exact (HM.out.new x hx).elim (fun e => .inl (.inr (.inl e))) .inr
  · exact .inl (.inr (.inr hx))

theorem list_new {w : World} {b m : Nat} (hb : Blk w b [.slice none 0 0, .map (some m)] 88) (hm : w.ownsMap Try.prog 3 (plainElem (H := Unit) Try.prog 3) m 0 (.map [])) (hne : b ≠ m) : ListAt w b (.slice none 0 0) m [] :=
  ⟨hb, ⟨by simp [cellsP], .inl ⟨rfl, rfl⟩⟩, hm, by simp [Once], by simp [PairsOk], by simp, hne, by simp [Value.ownBlock], by simp [Value.ownBlock]⟩

theorem ListAt.alloc {w : World} {b m : Nat} {v : Value} {l : PL} (h : ListAt w b v m l) (o : Obj) : ListAt (w.alloc o) b v m l := h.chg ((Chg.refl [] w).alloc o) (Apart.nil_right _)

def NewPost (w : World) (e : Ending) (w' : World) : Prop := ∃ g F, e = .returned (.pointer (some ⟨g, 0, none⟩)) ∧ LogAt w' g F [] [] ∧ Mv [] F w w'
theorem New_any (w : World) : Calls Try.prog 35 #[] w (NewPost w) := by
  have hmm := @run_makeMap Try.prog
  go_enter Try.func35, Try.ntmps35
  go_wp2
  go_ret
  have a1 := World.ownsMap_made (H := Unit) w Try.prog 3 (plainElem Try.prog 3)
  have b1 := Blk.new (w.alloc (.map #[] 0)) [.slice none 0 0, .map (some w.heap.size)] 88
  have l1 : ListAt _ _ _ _ _ := list_new b1 (a1.alloc _) (by simp)
  have a2 := World.ownsMap_made (H := Unit) ((w.alloc (.map #[] 0)).alloc (.cells #[.slice none 0 0, .map (some w.heap.size)] 88)) Try.prog 3 (plainElem Try.prog 3)
  have b2 := Blk.new (((w.alloc (.map #[] 0)).alloc (.cells #[.slice none 0 0, .map (some w.heap.size)] 88)).alloc (.map #[] 0)) [.slice none 0 0, .map (some (w.heap.size + 1 + 1))] 88
  have l2 : ListAt _ _ _ _ _ := list_new b2 (by simpa using a2.alloc _) (by simp)
  have b3 := Blk.new ((((w.alloc (.map #[] 0)).alloc (.cells #[.slice none 0 0, .map (some w.heap.size)] 88)).alloc (.map #[] 0)).alloc (.cells #[.slice none 0 0, .map (some (w.heap.size + 1 + 1))] 88)) [.pointer (some ⟨w.heap.size + 1, 0, none⟩), .pointer (some ⟨w.heap.size + 1 + 1 + 1, 0, none⟩)] 90
  simp only [World.size_alloc] at l1 l2 b3
  refine ⟨_, _, rfl, ⟨_, _, _, _, _, _, b3, ((l1.alloc _).alloc _).alloc _, l2.alloc _, rfl, ?_, ?_, ?_⟩, ⟨((((Chg.refl [] w).alloc _).alloc _).alloc _).alloc _ |>.alloc _, ?_⟩⟩
  · intro k hk hk2
    simp [listF, Value.ownBlock] at hk hk2
    omega
  · simp [listF, Value.ownBlock]; omega
  · simp [listF, Value.ownBlock]; omega
  · intro k hk
    simp [listF, Value.ownBlock] at hk
    refine .inr ?_
    omega

end Go.Proofs.Ytilffolppnnkaaa
