/- A code that comes about: its end: places are put in. -/
import Derived.Test.YthlhjahhjoclfaaCd3
namespace Go.Proofs.Ythlhjahhjoclfaa
set_option maxRecDepth 100000
open Go.RowKit

def setImm : List Ins → Nat → Int → List Ins
  | [], _, _ => []
  | x :: l, 0, v => { x with imm := v } :: l
  | x :: l, k + 1, v => x :: setImm l k v
theorem setImm_len : ∀ (l : List Ins) (k : Nat) (v : Int), (setImm l k v).length = l.length
  | [], _, _ => rfl
  | _ :: _, 0, _ => rfl
  | _ :: l, k + 1, v => by simp [setImm, setImm_len l k v]
theorem setImm_cells : ∀ (l : List Ins) (k : Nat) (v : Int), (l.flatMap encI).set (k * 5 + 4) (.int .i64 v) = (setImm l k v).flatMap encI
  | [], _, _ => rfl
  | x :: l, 0, v => by simp [setImm, encI]
  | x :: l, k + 1, v => by
    have ih := setImm_cells l k v
    simp only [setImm, List.flatMap_cons, ← ih]
    rw [List.set_append_right _ _ (by simp [encI]; omega)]
    congr 2
    simp [encI]; omega

def fixL (pl : List (ByteArray × Int)) (gs : List (Int × ByteArray)) (l : List Ins) : List Ins := gs.foldl (fun l g => setImm l g.1.toNat (lookN pl g.2.data.toList)) l
theorem fixL_len (pl : List (ByteArray × Int)) (gs : List (Int × ByteArray)) : ∀ l : List Ins, (fixL pl gs l).length = l.length := by
  induction gs with
  | nil => intro l; rfl
  | cons g gs ih => intro l; rw [show fixL pl (g :: gs) l = fixL pl gs (setImm l g.1.toNat (lookN pl g.2.data.toList)) from rfl, ih, setImm_len]
theorem fixL_snoc (pl : List (ByteArray × Int)) (gs : List (Int × ByteArray)) (g : Int × ByteArray) (l : List Ins) : fixL pl (gs ++ [g]) l = setImm (fixL pl gs l) g.1.toNat (lookN pl g.2.data.toList) := by simp [fixL]

/-- The end of a code. -/
def St.close (s : St) : List Ins := fixL s.places s.goes (s.put ⟨18, 0, 0, 0, 0⟩).list
/-- .. whose second answer was needed on the way. -/
def St.out (s : St) : List Ins := ((s.here ⟨#[111, 117, 116]⟩).set 2 0).close

def LPost (base : Nat) (w : World) (l : List Ins) (e : Ending) (w' : World) : Prop := ∃ v, e = .returned v ∧ w'.ownsRow base 25 5 v l.length (l.flatMap encI) ∧ Kp base w w'

def ClRel (base n : Nat) (W : World) (b : Nat) (s : St) (vl : Value) (mb : Nat) (vg : Value) (i : Value) (wr : World) : Prop :=
  ∃ k : Nat, k ≤ s.goes.length ∧ i = .int .i64 k ∧ CodeIn base n wr b { s with list := fixL s.places (s.goes.take k) s.list } vl mb vg ∧ Kp base W wr

theorem CodeIn.goAt {base n : Nat} {w : World} {b : Nat} {s : St} {vl : Value} {mb : Nat} {vg : Value} (h : CodeIn base n w b s vl mb vg) {k : Nat} (hk : k < s.goes.length) :
    ∃ gg cap, vg = .slice (some ⟨gg, 0, none⟩) s.goes.length cap ∧ w.cell? ⟨gg, k * 2, none⟩ = some (.int .i64 (s.goes[k]).1) ∧ w.cell? ⟨gg, k * 2 + 1, none⟩ = some (.string (s.goes[k]).2) ∧ gg < w.heap.size := by
  obtain ⟨gg, cap, rfl, _, hg, _⟩ := ownsRow_posC h.gos (by omega)
  obtain ⟨A, cap', e, _, _, _, hr, _⟩ := Rd.of_row encG_len h.gos
  cases e
  obtain ⟨b', off, e, _, hc⟩ := hr (by omega)
  cases e
  have c0 := hc k hk 0 (by decide)
  have c1 := hc k hk 1 (by decide)
  rw [Nat.zero_add] at c0 c1
  exact ⟨gg, cap, rfl, c0, c1, hg⟩

theorem CodeIn.immAt {base n : Nat} {w : World} {b : Nat} {s : St} {vl : Value} {mb : Nat} {vg : Value} (h : CodeIn base n w b s vl mb vg) {k : Nat} (hk : k < s.list.length) :
    ∃ g cap, vl = .slice (some ⟨g, 0, none⟩) s.list.length cap ∧ w.cell? ⟨g, k * 5 + 4, none⟩ = some (.int .i64 (s.list[k]).imm) ∧ w.frozen? ⟨g, k * 5 + 4, none⟩ = false ∧ g < w.heap.size := by
  obtain ⟨gg, cap, rfl, _, hg, _⟩ := ownsRow_posC h.row (by omega)
  obtain ⟨A, cap', e, _, _, _, hr, _⟩ := Rd.of_row encI_len h.row
  cases e
  obtain ⟨b', off, e, _, hc⟩ := hr (by omega)
  cases e
  have c1 := hc k hk 4 (by decide)
  rw [Nat.zero_add] at c1
  exact ⟨gg, cap, rfl, c1, h.row.frozenAt _, hg⟩

/-- Behind a store of a place. -/
theorem fix_done {base n : Nat} {w w1 : World} {b mb : Nat} {s : St} {vl vg : Value} {g cap k : Nat} {v : Int} (h : CodeIn base n w b s vl mb vg) (hc : Chg [] w w1) (hv : vl = .slice (some ⟨g, 0, none⟩) s.list.length cap) :
    CodeIn base n (w1.setCell ⟨g, k * 5 + 4, none⟩ (.int .i64 v)) b { s with list := setImm s.list k v } vl mb vg ∧ Kp base w (w1.setCell ⟨g, k * 5 + 4, none⟩ (.int .i64 v)) := by
  subst hv
  have h1 := h.chg hc
  obtain ⟨n1, n2, n3, n4, n5, n6⟩ := h1.ne
  have hgb : b ≠ g := by simpa [Value.ownBlock] using n2
  have hgm : mb ≠ g := by simpa [Value.ownBlock] using n4
  have hset : Chg [g] w1 (w1.setCell ⟨g, k * 5 + 4, none⟩ (.int .i64 v)) := (Chg.refl _ _).setCell (p := ⟨g, _, none⟩) (by simp) _
  have hro := h1.row.stored (k * 5 + 4) (.int .i64 v)
  rw [setImm_cells] at hro
  refine ⟨⟨hset.blk h1.blk (by simpa using hgb), ?_, ownsMap_chg h1.map hset (by simpa using hgm), ownsRow_chg h1.gos hset (fun x hx => ?_), h.bb, h.bm, ?_, ?_⟩, (Kp.of_nil hc).trans (Kp.of_chg hset (fun x hx _ => ?_))⟩
  · rw [setImm_len]; exact hro.1
  · simp; rintro rfl; exact n6 x (by simp [Value.ownBlock]) hx
  · simpa [setImm_len] using h.ln
  · intro q hq; have := h.ok q hq; simpa [setImm_len] using this
  · simp at hx; subst hx
    rcases h1.row.2 with ⟨e, _⟩ | ⟨b', cap', cur, e, hb, hh, _⟩
    · cases e
    · cases e
      refine ⟨hb, fun cur t d hq => ?_⟩
      rw [hh] at hq; cases hq; rfl

set_option maxHeartbeats 2000000 in
theorem close_in (base n : Nat) (w : World) (b : Nat) (s : St) (L : List Ins) (hn : n ≤ 4900) (h : CodeAt base n w b s) (hL : s.close = L) :
    Calls Try.prog 62 #[.pointer (some ⟨b, 0, none⟩)] w (LPost base w L) := by
  have hok : ∀ g ∈ s.goes, g.1 ≤ s.list.length := by obtain ⟨vl, mb, vg, h⟩ := h; exact fun g hg => (h.ok g hg).2.2
  have HOK := Lib.hid hok
  have HC := Lib.hid h
  have hL' : fixL (s.put ⟨18, 0, 0, 0, 0⟩).places (s.put ⟨18, 0, 0, 0, 0⟩).goes (s.put ⟨18, 0, 0, 0, 0⟩).list = L := hL
  have HLL := Lib.hid hL'
  clear h hok hL hL'
  go_enter Try.func62, Try.ntmps62
  go_wp2_with fail
  refine (put_any base _ _ b _ ⟨18, 0, 0, 0, 0⟩ (by omega) HC.out).mono ?_
  rintro e W ⟨rfl, hC, hK⟩
  have HK := Lib.hid hK
  have hok : ∀ g ∈ (s.put ⟨18, 0, 0, 0, 0⟩).goes, g.1.toNat < (s.put ⟨18, 0, 0, 0, 0⟩).list.length := fun g hg => by
    have := HOK.out g hg
    simp [St.put]; omega
  clear HOK HC hK
  generalize s.put ⟨18, 0, 0, 0, 0⟩ = s at *
  have HOK := Lib.hid hok
  obtain ⟨vl, mb, vg, h⟩ := hC
  obtain ⟨A, cap, rfl, _, _, _⟩ := ownsRow_cell h.row
  obtain ⟨A2, cap2, rfl, _, _, _⟩ := ownsRow_cell h.gos
  have k2 : W.cell? ⟨b, 2, none⟩ = some (.slice A2 s.goes.length cap2) := h.blk.cell 2
  have hll : s.list.length ≤ 4901 := Nat.le_trans h.ln.1 (by omega)
  have hlg : s.goes.length ≤ 4901 := Nat.le_trans h.ln.2.2 (by omega)
  have hli : (s.list.length : Int) ≤ 4901 := by omega
  have hgi : (s.goes.length : Int) ≤ 4901 := by omega
  have H := Lib.hid h
  clear h hok
  go_wp2_with fail
  go_loopw [13] (fun i wr => ClRel base (n + 1) W b s (.slice A s.list.length cap) mb (.slice A2 s.goes.length cap2) i wr) (fun i _ => s.goes.length - (intOf i).toNat)
  case atStart => exact ⟨0, Nat.zero_le _, rfl, H.out, Kp.refl _ _⟩
  case round =>
    obtain ⟨k, hk, rfl, h, hK2⟩ := hrel
    have hlk := fixL_len s.places (s.goes.take k) s.list
    have k0 : wr.cell? ⟨b, 0, none⟩ = some (.slice A s.list.length cap) := h.blk.cell 0
    have k1 : wr.cell? ⟨b, 1, none⟩ = some (.map (some mb)) := h.blk.cell 1
    have hbl := h.blk.lt
    have H2 := Lib.hid h
    have HK2 := Lib.hid hK2
    have HL := Lib.hid hlk
    clear h hK2 hlk H
    by_cases hlt : k < s.goes.length
    · obtain ⟨gg, cap3, hv, c0, c1, hgg⟩ := H2.out.goAt hlt
      obtain ⟨rfl, rfl⟩ : A2 = _ ∧ cap2 = cap3 := by simpa using hv
      have hat := HOK.out _ (List.getElem_mem hlt)
      have hnn := (H2.out.ok _ (List.getElem_mem hlt)).2.1
      have hsz := (H2.out.ok _ (List.getElem_mem hlt)).1
      have HT := Lib.hid (show fixL s.places (s.goes.take (k + 1)) s.list = setImm (fixL s.places (s.goes.take k) s.list) (s.goes[k]).1.toNat (lookN s.places (s.goes[k]).2.data.toList) from by
        rw [List.take_add_one, List.getElem?_eq_getElem hlt]; exact fixL_snoc _ _ _ _)
      simp only at c0 c1
      clear hv
      generalize (s.goes[k]).2 = nm at *
      obtain ⟨at', hat'⟩ := Int.eq_ofNat_of_zero_le hnn
      rw [hat'] at c0 hat HT
      rw [Int.toNat_natCast] at hat HT
      clear hat' hnn
      obtain ⟨g, cap4, hv, d0, d1, hg⟩ := H2.out.immAt (k := at') (by rw [HL.out]; exact hat)
      have hA : A = some ⟨g, 0, none⟩ := by simp at hv; exact hv.1
      subst hA
      clear hv
      have hx : at' < (fixL s.places (s.goes.take k) s.list).length := by rw [HL.out]; exact hat
      generalize ((fixL s.places (s.goes.take k) s.list)[at']'hx).imm = im at *
      clear hx
      have hati : (at' : Int) < s.list.length := by omega
      have hkey := Go.WideMaps.keyOf_string_mk Try.underlying9 (s := nm) (by unfold maxLen; omega)
      obtain ⟨w2, hw2⟩ : ∃ w2, w2 = wr.alloc (.cells #[.int .i64 at', .string nm] 107) := ⟨_, rfl⟩
      have hcx : Chg [] wr w2 := by rw [hw2]; exact (Chg.refl [] wr).alloc _
      have hNB : Blk w2 wr.heap.size [.int .i64 at', .string nm] 107 := by rw [hw2]; exact Blk.new _ _ _
      have H3 := Lib.hid (H2.out.chg hcx)
      have m0 : w2.cell? ⟨b, 0, none⟩ = some (.slice (some ⟨g, 0, none⟩) s.list.length cap) := H3.out.blk.cell 0
      have m1 : w2.cell? ⟨b, 1, none⟩ = some (.map (some mb)) := H3.out.blk.cell 1
      have mn0 : w2.cell? ⟨wr.heap.size, 0, none⟩ = some (.int .i64 at') := hNB.cell 0
      have mn1 : w2.cell? ⟨wr.heap.size, 1, none⟩ = some (.string nm) := hNB.cell 1
      have md0 : w2.cell? ⟨g, at' * 5 + 4, none⟩ = some (.int .i64 im) := (hcx.cell0 hg _).trans d0
      obtain ⟨g', cap5, hv, _, md1, _⟩ := H3.out.immAt (k := at') (by rw [HL.out]; exact hat)
      obtain rfl : g = g' := by simp at hv; exact hv.1
      clear hv
      obtain ⟨c, hrun, hcat, _⟩ := (ownsMap_chg H3.out.map ((Chg.refl [] w2).drewN 1) (by simp)).lookup_int lawStr Try.underlying99 Try.underlying3 (zeroInt _) hkey
      have hcv : lookN s.places nm.data.toList = c := by
        have := at_placesD s.places nm.data.toList
        rw [hcat] at this
        simpa using this.symm
      rw [hcv] at HT
      have HX := Lib.hid hcx
      have HW := Lib.hid hw2
      clear hkey hcat hcv hcx hw2 hNB
      go_wp2_with fail
      rw [← HW.out]
      clear HW
      have hrun2 : (Instr.lookup 99 (.map (some mb)) (.string nm) false).run Try.prog w2.drew = .ok (.int .i64 c) w2.drew := hrun
      clear hrun
      go_still_tail 15, (by kernel_rfl)
      go_wp2_with fail
      go_roundw
      case rel =>
        have hq := fix_done (k := at') (v := c) (g := g) (cap := cap) H2.out (HX.out.drewN 1) (by rw [HL.out])
        rw [← HT.out] at hq
        exact ⟨k + 1, by omega, by go_num, hq.1, HK2.out.trans hq.2⟩
      case measure => simp [intOf]; omega
    · obtain rfl : k = s.goes.length := by omega
      go_wp2_with fail
      go_ret
      have h := H2.out
      rw [List.take_length, HLL.out] at h
      rw [List.take_length, HLL.out] at HL
      have hr := h.row
      rw [show ({ list := L, places := s.places, goes := s.goes } : St).list = L from rfl] at hr
      exact ⟨_, rfl, hr, HK.out.trans HK2.out⟩

theorem out_in (base n : Nat) (w : World) (b : Nat) (s : St) (L : List Ins) (hn : n ≤ 4800) (h : CodeAt base n w b s) (hL : s.out = L) :
    Calls Try.prog 49 #[.pointer (some ⟨b, 0, none⟩)] w (LPost base w L) := by
  have H := Lib.hid h
  have HL := Lib.hid hL
  clear h hL
  go_enter Try.func49, Try.ntmps49
  go_wp2_with fail
  refine (here_any base n _ b s _ (by decide) (by omega) H.out).mono ?_
  rintro e w1 ⟨rfl, hC, hK⟩
  have HC := Lib.hid hC
  have HK := Lib.hid hK
  clear hC hK
  go_wp2_with fail
  refine (set_any base _ _ b _ 2 0 (by omega) HC.out).mono ?_
  rintro e w2 ⟨rfl, hC, hK⟩
  replace HC := Lib.hid hC
  replace HK := Lib.hid (HK.out.trans hK)
  clear hC hK
  go_wp2_with fail
  refine (close_in base _ _ b _ L (by omega) HC.out HL.out).mono ?_
  rintro e w3 ⟨v, rfl, hr, hK⟩
  go_wp2_with fail
  go_ret
  exact ⟨_, rfl, hr, HK.out.trans hK⟩

end Go.Proofs.Ythlhjahhjoclfaa
