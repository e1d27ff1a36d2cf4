/- What is asked of a directory: Owner; the law's refuses. -/
import Derived.Test.YtepdhajgemmoiaaDir21
namespace Go.Proofs.Ytepdhajgemmoiaa
set_option maxRecDepth 100000
open Go.RowKit

theorem Knows.new {w : World} {d bm bw bl n : Nat} {cores : Int} {ws : List Int} (D : DirW w d bm bw bl n cores ws (List.replicate n newE)) (hc : 1 ≤ cores ∧ cores ≤ 4) : Knows w d bm bw bl n cores ws (List.replicate n newE) (List.replicate n newE) :=
  ⟨D, by rw [List.map_replicate]; rfl, fun i h => by
    rw [List.getElem_replicate]
    exact ⟨⟨.inl rfl, fun hp => absurd rfl hp, fun m hm => absurd (show m ∈ ([] : List MsgV) from hm) (by simp)⟩, List.nodup_nil⟩, hc⟩
theorem Knows.look {w w' : World} {d bm bw bl n : Nat} {cores : Int} {ws : List Int} {es ks : List EntV} (K : Knows w d bm bw bl n cores ws es ks) (k : Chg [] w w') : Knows w' d bm bw bl n cores ws es ks := ⟨K.D.look k, K.ks, K.ok, K.co⟩
def ownerK (ks : List EntV) (i : Int) : Int := if i < 0 then -1 else match ks[i.toNat]? with | some e => e.ow | none => -1
theorem Owner_any (w : World) (d bm bw bl n : Nat) (cores : Int) (ws : List Int) (es ks : List EntV) (i : Int) (K : Knows w d bm bw bl n cores ws es ks) :
    Calls Try.prog 9 #[.pointer (some ⟨d, 0, none⟩), .int .i64 i] w fun e w' => e = .returned (.int .i64 (ownerK ks i)) ∧ w = w' := by
  have hln := K.D.D.len
  have d2 : w.cell? ⟨d, 2, none⟩ = some (.slice (some ⟨bl, 0, none⟩) n n) := K.D.D.blk.cell 2
  by_cases h : i < 0 ∨ (n : Int) ≤ i
  · have e : ownerK ks i = -1 := by
      unfold ownerK
      by_cases h0 : i < 0
      · rw [if_pos h0]
      · rw [if_neg h0, ← K.ks, List.getElem?_eq_none (by rw [List.length_map]; omega)]
    rw [e]
    exact Owner_bad w d bl n n i h d2
  · have hi : i.toNat < es.length := by omega
    have e : ownerK ks i = es[i.toNat].ow := by
      unfold ownerK
      rw [if_neg (by omega), ← K.ks, List.getElem?_map, List.getElem?_eq_getElem hi]
      rfl
    rw [e]
    exact Owner_ok w d bl n n i _ (by omega) (by omega) d2 (K.D.D.ents.cell hi (j := 0) (by decide))

set_option maxHeartbeats 1000000 in
theorem refuses_any (w : World) (d bm bw bl n : Nat) (cores : Int) (ws : List Int) (es ks : List EntV) (m : MsgV) (want : Int) (K : Knows w d bm bw bl n cores ws es ks) :
    Calls Try.prog 11 #[.pointer (some ⟨d, 0, none⟩), .agg #[.int .i64 m.k, .int .i64 m.c, .int .i64 m.l, .int .u64 m.d.x0, .int .u64 m.d.x1, .int .u64 m.d.x2, .int .u64 m.d.x3, .int .u64 m.d.x4, .int .u64 m.d.x5, .int .u64 m.d.x6, .int .u64 m.d.x7], .int .i64 want] w
      fun e w' => ∃ es', e = .returned (.bool (((hearS n cores ws ks m).2.2.2 == want) && ((hearS n cores ws ks m).2.2.1.length == 0))) ∧ DirPost w w' d bm bw bl n cores es (hearS n cores ws ks m).1 es' ∧ Knows w' d bm bw bl n cores (hearS n cores ws ks m).1 es' (hearS n cores ws ks m).2.1 := by
  have hk : Chg [] w (w.alloc (.cells #[.int .i64 m.k, .int .i64 m.c, .int .i64 m.l, .int .u64 m.d.x0, .int .u64 m.d.x1, .int .u64 m.d.x2, .int .u64 m.d.x3, .int .u64 m.d.x4, .int .u64 m.d.x5, .int .u64 m.d.x6, .int .u64 m.d.x7] 33)) := (Chg.refl [] w).alloc _
  have hH := Lib.hid (hear_any _ d bm bw bl n cores ws es ks m (K.look hk))
  have HP0 := Lib.hid (DirPost.look K.D hk)
  clear K hk
  generalize hearS n cores ws ks m = r at *
  obtain ⟨ws', ks', out, err⟩ := r
  dsimp only at *
  go_enter Try.func11, Try.ntmps11
  go_wp2_with fail
  refine hH.out.mono ?_
  rintro e w1 ⟨es', ⟨v, rfl, hO, hs, hP⟩, hK⟩
  obtain ⟨A, cap, rfl, _, _, _⟩ := ownsRow_cell hO
  have HP := Lib.hid (HP0.out.trans hP); have HK := Lib.hid hK
  clear hO hs hP hK hH HP0
  go_wp2_with fail
  all_goals (go_ret; refine ⟨es', ret_bool ?_, HP.out, HK.out⟩; clear HP HK; by_cases hw : err = want <;> by_cases ho : out = [] <;> simp_all <;> (rw [Bool.eq_iff_iff]; simp))
end Go.Proofs.Ytepdhajgemmoiaa
