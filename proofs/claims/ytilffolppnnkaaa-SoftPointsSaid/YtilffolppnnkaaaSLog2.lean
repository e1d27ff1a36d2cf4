/- A list: put, clear. -/
import Derived.Test.YtilffolppnnkaaaSLog1
namespace Go.Proofs.Ytilffolppnnkaaa
set_option maxRecDepth 100000
open Go.RowKit

def putErr (l : PL) : Int := if l.length = 128 then 70 else 0
def putL (l : PL) (a v : Int) : PL := if l.length = 128 then l else l ++ [(a, v)]
def PutPost (w : World) (b m : Nat) (v : Value) (l : PL) (a x : Int) (e : Ending) (w' : World) : Prop :=
  e = .returned (.int .i64 (putErr l)) ∧ ∃ v', ListAt w' b v' m (putL l a x) ∧ Mv (listF b v m) (listF b v' m) w w'

set_option maxHeartbeats 1000000 in
theorem put_any (w : World) (b m : Nat) (v : Value) (l : PL) (a x : Int) (ha : (Lit.int .i64 a).wf = true) (hx : (Lit.int .u64 x).wf = true) (hn : place l a = none) (h : ListAt w b v m l) :
    Calls Try.prog 74 #[.pointer (some ⟨b, 0, none⟩), .int .i64 a, .int .u64 x] w (PutPost w b m v l a x) := by
  obtain ⟨A, cap, rfl, hcap, hmax, _⟩ := ownsRow_cell h.row
  have k0 : w.cell? ⟨b, 0, none⟩ = some (.slice A l.length cap) := h.blk.cell 0
  have k1 : w.cell? ⟨b, 1, none⟩ = some (.map (some m)) := h.blk.cell 1
  have hmost := h.most
  by_cases hf : l.length = 128
  · have e1 : putErr l = 70 := by simp [putErr, hf]
    have e2 : putL l a x = l := by simp [putL, hf]
    unfold PutPost
    rw [e1, e2]
    rw [hf] at k0
    have H := Lib.hid h
    clear h hf e1 e2 hn hcap hmost
    go_enter Try.func74, Try.ntmps74
    go_wp2_with fail
    go_ret
    exact ⟨rfl, _, H.out, Mv.refl _ _⟩
  · have e1 : putErr l = 0 := by simp [putErr, hf]
    have e2 : putL l a x = l ++ [(a, x)] := by simp [putL, hf]
    unfold PutPost
    rw [e1, e2]
    have hkey := Maps.keyOf_int_mk Try.underlying3 ha
    have hlen : (Lit.int .i64 (l.length : Int)).wf = true := by simp [Lit.wf, IntKind.min, IntKind.max, IntKind.signed, IntKind.bits]; omega
    have hfb : ((l.length : Int) == 128) = false := by simp; omega
    have hlt : l.length < 128 := by omega
    have hown := h.map
    have HH := Lib.hid h
    have H1 := Lib.hid hn
    clear h hf e1 e2 hn
    obtain ⟨i0, hi, hz0, hz1, hz2⟩ := info_parts infoPair
    go_enter Try.func74, Try.ntmps74
    go_wp2_with fail
    go_still_tail 10, (by kernel_rfl)
    go_wp2_with (first
      | (at_mapUpdate; refine wpList_mapUpdate_own _ rfl _ _ _ 42 rfl 3 3 lawInt Try.underlying42 _ m l.length (idxD l) rfl hown (by unfold maxLen; omega) _ _ _ rfl rfl hkey _ [] (plainElem_int Try.underlying3 hlen) ?_; intro w1 hown1 hgrow1; have HG1 := Lib.hid (Chg.of_grown hgrow1); have HO1 := Lib.hid hown1; have hB1 := Lib.hid (HG1.out.blk (HH.out.blk.drewN 1) (by simpa using HH.out.bm)); have hr1 := Lib.hid (ownsRow_chg (w := w.drewN 1) HH.out.row HG1.out (fun g hg he => by simp at he; exact HH.out.mv (he ▸ hg))); have k0 : w1.cell? ⟨b, 0, none⟩ = some (.slice A l.length cap) := hB1.out.cell 0; clear k1 hown hown1 hgrow1)
      | (at_builtin; refine wpList_append_own_at _ rfl _ _ 56 rfl 0 85 i0 (.agg #[.int .i64 0, .int .u64 0]) 2 16 Try.underlying56 hi hz0 hz1 hz2 rfl (by decide) (.slice A l.length cap) _ _ rfl (hr1.out.alloc _) ⟨w1.heap.size, 0, none⟩ 1 1 [.int .i64 a, .int .u64 x] rfl rfl (cells_new w1 [.int .i64 a, .int .u64 x] 85) (by simp [Value.oneCell']) (by unfold maxLen; omega) (by omega) (Nat.zero_le _) ?_; intro v' w2 hown2 hgrow2 hnil hat; obtain ⟨g2, cap2, cur2, rfl, _, _, _⟩ := ownsRow_pos hown2 (by omega); have HG2 := Lib.hid (Chg.of_grown hgrow2); have HO2 := Lib.hid hown2; have HA2 := Lib.hid hat; have hB2 := Lib.hid (HG2.out.blk (hB1.out.alloc _) HH.out.bv); have f2 : w2.frozen? ⟨b, 0, none⟩ = false := hB2.out.free 0; have q2 : w2.cell? ⟨b, 0, none⟩ = some (.slice A l.length cap) := hB2.out.cell 0; clear hr1 k0 hown2 hgrow2 hnil hat))
    go_ret
    have h := HH.out
    have hB3 := hB2.out.set 0 (.slice (some ⟨g2, 0, none⟩) (l.length + 1) cap2)
    have hmv : m ∉ (Value.slice A l.length cap).ownBlock.toList := h.mv
    have hml := h.map.lt
    have hsz1 := HG1.out.size
    have hbl := h.blk.lt
    have hsz0 : w.heap.size ≤ w1.heap.size := hsz1
    have hg2b : g2 ≠ b := by
      rintro rfl
      rcases HA2.out with e | e
      · exact h.bv (by rw [← e]; simp [Value.ownBlock])
      · simp [Value.ownBlock] at e; omega
    have hg2m : g2 ≠ m := by
      rintro rfl
      rcases HA2.out with e | e
      · exact hmv (by rw [← e]; simp [Value.ownBlock])
      · simp [Value.ownBlock] at e; omega
    have hO3 := ownsRow_chg HO2.out (((Chg.refl [b] _).setCell (p := ⟨b, 0, none⟩) (by simp) (.slice (some ⟨g2, 0, none⟩) (l.length + 1) cap2))) (by simpa [Value.ownBlock] using hg2b)
    have hM1 := (ownsMap_chg HO1.out ((Chg.refl [] w1).alloc (.cells #[.int .i64 a, .int .u64 x] 85)) (by simp))
    have hM2 := ownsMap_chg hM1 HG2.out hmv
    have hM3 := ownsMap_chg hM2 (((Chg.refl [b] _).setCell (p := ⟨b, 0, none⟩) (by simp) (.slice (some ⟨g2, 0, none⟩) (l.length + 1) cap2))) (by simpa using h.bm.symm)
    refine ⟨rfl, _, ⟨hB3, ?_, ?_, once_snoc.2 ⟨h.once, H1.out⟩, ?_, by simp; omega, h.bm, by simpa [Value.ownBlock] using hg2b.symm, by simpa [Value.ownBlock] using hg2m.symm⟩, ?_, ?_⟩
    · rw [List.length_append, cellsP_snoc]; exact hO3
    · rw [idxD_snoc, List.length_append]; exact hM3
    · intro p hp
      rcases List.mem_append.1 hp with hp | hp
      · exact h.ok p hp
      · simp at hp; subst hp; exact ⟨ha, hx⟩
    · have c1 : Chg (listF b (.slice A l.length cap) m) w w1 := ((Chg.refl _ w).drewN 1).trans (HG1.out.one (T := listF b (.slice A l.length cap) m) (by simp [listF]))
      have c2 := (c1.alloc (.cells #[.int .i64 a, .int .u64 x] 85)).trans (HG2.out.mono (T := listF b (.slice A l.length cap) m) (fun x hx => List.mem_cons_of_mem _ (List.mem_cons_of_mem _ hx)))
      exact c2.setCell (by simp [listF]) _
    · intro k hk
      simp only [listF, List.mem_cons] at hk ⊢
      rcases hk with rfl | rfl | hk
      · exact .inl (.inl rfl)
      · exact .inl (.inr (.inl rfl))
      · rcases HA2.out with e | e
        · rw [e] at hk; exact .inl (.inr (.inr hk))
        · rw [e] at hk
          simp at hk
          exact .inr (by omega)

theorem clear_any (w : World) (b m : Nat) (v : Value) (l : PL) (h : ListAt w b v m l) :
    Calls Try.prog 58 #[.pointer (some ⟨b, 0, none⟩)] w fun e w' => e = .returned (.tuple #[]) ∧ ListAt w' b (.slice none 0 0) m [] ∧ Mv (listF b v m) (listF b (.slice none 0 0) m) w w' := by
  have k1 : w.cell? ⟨b, 1, none⟩ = some (.map (some m)) := h.blk.cell 1
  have HH := Lib.hid h
  have hown := h.map
  clear h
  go_enter Try.func58, Try.ntmps58
  go_wp2_with (first
    | (refine wpList_clear_own _ rfl _ 42 3 rfl 3 Try.underlying42 _ m _ _ rfl hown ?_; intro w1 hown1 hgrow1; have HG1 := Lib.hid (Chg.of_grown hgrow1); have HO1 := Lib.hid hown1; have hB1 := Lib.hid (HG1.out.blk HH.out.blk (by simpa using HH.out.bm)); have k0 : w1.cell? ⟨b, 0, none⟩ = some v := hB1.out.cell 0; have f0 : w1.frozen? ⟨b, 0, none⟩ = false := hB1.out.free 0; clear k1 hown hown1 hgrow1))
  go_end0
  have h := HH.out
  refine ⟨rfl, ⟨hB1.out.set 0 (.slice none 0 0), ⟨by simp [cellsP], .inl ⟨rfl, rfl⟩⟩, ?_, by simp [Once], by simp [PairsOk], by simp, h.bm, by simp [Value.ownBlock], by simp [Value.ownBlock]⟩, ?_, ?_⟩
  · exact ownsMap_chg HO1.out (((Chg.refl [b] _).setCell (p := ⟨b, 0, none⟩) (by simp) _)) (by simpa using h.bm.symm)
  · have c1 : Chg (listF b v m) w w1 := HG1.out.one (by simp [listF])
    exact c1.setCell (by simp [listF]) _
  · intro k hk
    simp only [listF, List.mem_cons] at hk ⊢
    rcases hk with rfl | rfl | hk
    · exact .inl (.inl rfl)
    · exact .inl (.inr (.inl rfl))
    · cases hk

end Go.Proofs.Ytilffolppnnkaaa
