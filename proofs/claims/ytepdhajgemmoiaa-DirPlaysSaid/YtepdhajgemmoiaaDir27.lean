/- A set of cores as a list; Sharers. -/
import Derived.Test.YtepdhajgemmoiaaDir8c
import Derived.Test.YtepdhajgemmoiaaDir2122
namespace Go.Proofs.Ytepdhajgemmoiaa
set_option linter.unusedSimpArgs false
set_option linter.unusedVariables false
set_option maxRecDepth 100000
set_option linter.unusedSimpArgs false
set_option linter.unusedVariables false
open Go.RowKit Go.Shelf


attribute [local go_sem] Oper.semAt_some

theorem infoInt : (Try.prog.info? 3).map (fun i => (i.zero, i.size, i.bytes)) = some (some (.int .i64 0), 1, 8) := by kernel_rfl

/-- A new row of a set's cores. -/
def CorePost (w : World) (s : Int) (e : Ending) (w' : World) : Prop := ∃ v, e = .returned v ∧ w'.ownsRow w.heap.size 3 1 v (coresL s 4).length ((coresL s 4).map fun j : Nat => .int .i64 (j : Int)) ∧ Chg [] w w'

set_option maxHeartbeats 8000000 in
theorem appendSeq_any (w : World) (Bc : Nat) (s : Int) (bC : Boxed w Bc 76 (.int .u8 s)) :
    Calls Try.prog 49 #[.slice none 0 0, .func (.func 50) #[] #[.pointer (some ⟨Bc, 0, none⟩)]] w (CorePost w s) := by
  refine (callsIn_wide (n := 3)).1 (callsIn_of_wp_marks Try.func49 rfl trivial ?_ rfl)
  simp only [Try.ntmps49, List.size_toArray, List.length_cons, List.length_nil, Nat.reduceAdd, Nat.reduceSub, Array.replicate_succ, Array.replicate_zero, List.push_toArray, List.append_toArray, List.nil_append, List.cons_append]
  rw [wpIn_wide]
  have hbc : Bc < w.heap.size := bC.lt
  obtain ⟨i0, hi0, hz0, hz1, hz2⟩ := info_parts infoInt
  have bO := Boxed.new w 36 (.slice none 0 0)
  have bN := bC.alloc (.cells #[.slice none 0 0] 36)
  have hC := (Chg.refl [] w).alloc (.cells #[.slice none 0 0] 36)
  have hszW : (w.alloc (.cells #[.slice none 0 0] 36)).heap.size = w.heap.size + 1 := by simp
  go_wp2_with fail
  generalize w.alloc _ = W0 at *
  obtain ⟨n₀, hn₀⟩ : ∃ x, w.heap.size = x := ⟨_, rfl⟩
  have hn₀w : n₀ ≤ W0.heap.size := by omega
  have HN := Lib.hid hn₀
  rw [hn₀] at bO hbc ⊢
  rw [← wpIn_wide (n := 3)]
  refine wpIn_rangeFunc_ownH rfl (by decide) (gf := 50) (lb := #[.pointer (some ⟨Bc, 0, none⟩)]) rfl trivial (enters_of Try.func50 (by kernel_rfl) rfl)
    (each_stops (3 - 1) (by decide) Bc n₀ s _ bN) keepB_t (keepB_b hn₀w) (Below.refl _ _) (fun _ => rfl)
    (fun pre W => (∃ v, Boxed W n₀ 36 v ∧ W.ownsRow n₀ 3 1 v pre.length ((fun pre : List Nat => pre.map fun (j : Nat) => .int .i64 (j : Int)) pre) ∧ True) ∧ Below n₀ W0 W)
    (fun _ _ _ => False)
    (OwnFrom.and (Own.from (holdsRow_own n₀ n₀ 36 3 1 (fun pre : List Nat => pre.length) (fun pre : List Nat => pre.map fun (j : Nat) => .int .i64 (j : Int)) (fun _ _ => True)) _) (ownFrom_below hn₀w hn₀w))
    (fun _ _ _ _ _ hs _ _ => hs)
    ⟨⟨_, bO, World.ownsRow_nil _ _ _ _, trivial⟩, Below.refl _ _⟩
    (fun x a' W => a' = { tmps := #[.slice none 0 0, .func (.func 50) #[] #[.pointer (some ⟨Bc, 0, none⟩)], .pointer (some ⟨n₀, 0, none⟩), undef, .slice none 0 0, .int .i64 (x : Int), .func (.func 50) #[] #[.pointer (some ⟨Bc, 0, none⟩)], .int .i64 (x : Int), undef, undef, undef, undef, undef], defers := [] })
    (fun x a' s X Y row h1 hg hr => h1)
    ?assign ?body ?done ?stop
  case assign =>
    rintro l pre x W K ⟨⟨v, hv, hrow, hpre⟩, hB⟩ hK
    gi_wp2
    exact hK _ _ (KeepsFrom.refl _ _) ⟨Below.refl _ _, fun _ _ h => h⟩ ⟨⟨v, hv, hrow, hpre⟩, hB⟩ rfl
  case body =>
    rintro l pre x a' W hl ⟨r, hr⟩ ⟨⟨v, hv, hrow, hpre⟩, hB⟩ rfl hlt
    have hc := hv.cell
    have hsz := hv.lt
    gi_wp2_with (gi_at_builtin; refine wpListIn_append_own _ rfl _ _ 36 rfl n₀ 3 i0 _ 1 8 Try.underlying36 hi0 hz0 hz1 hz2 rfl (by decide) _ _ _ rfl (hrow.alloc _) ⟨W.heap.size, 0, none⟩ 1 1 [.int .i64 (x : Int)] rfl rfl (cells_at (by simp) [.int .i64 (x : Int)] _) (by simp [Value.oneCell']) (by unfold maxLen; omega) (by omega) (by have := hB.size; simp; omega) ?_; intro v' w1 hown' hgrow _; obtain ⟨g', cap', rfl⟩ := ownsRow_succ hown'; obtain ⟨hv1, hv2, hr2, hk2, hb2⟩ := hv.appended (by decide) hrow (by have := hB.size; omega) (Nat.le_refl _) hown' hgrow; have hc1 := hv1.cell; have hf1 := hv1.frozen)
    refine ⟨hk2.from _, ⟨hb2, fun o _ ho => ?_⟩, ⟨_, hv2, ?_⟩, hB.trans hb2⟩
    · exact (hb2.block _ hbc).trans ho
    · rw [List.length_append, List.map_append]; exact hr2
  case done =>
    rintro D ys W hD rfl ⟨⟨v, hv, hrow, hpre⟩, hB⟩ hK
    have hc := hv.cell
    go_wp2_with fail
    refine ⟨by simp, .inl ⟨_, _, rfl, run_takeDeferred hK, ?_⟩⟩
    refine ⟨_, results_tmp rfl _ _ _, v, rfl, ?_, ?_⟩
    · rw [HN.out]; exact ownsRow_putObj hrow _ hK rfl
    · exact hC.then_below (hB.trans (belowK_b (w := W0) hn₀w W D _ _ (by first | omega | (simp at hD; omega)) hK rfl rfl)) (by rw [HN.out]; exact Nat.le_refl _)
  case stop =>
    rintro D c pre W _ _ h _
    exact h.elim

theorem collect_any (w : World) (Bc : Nat) (s : Int) (bC : Boxed w Bc 76 (.int .u8 s)) :
    Calls Try.prog 30 #[.func (.func 50) #[] #[.pointer (some ⟨Bc, 0, none⟩)]] w (CorePost w s) := by
  have H := Lib.hid (appendSeq_any w Bc s bC)
  clear bC
  go_enter Try.func30, Try.ntmps30
  go_wp2_with fail
  refine H.out.mono ?_
  rintro e w1 ⟨v, rfl, ho, hk⟩
  have HO := Lib.hid ho; have HK := Lib.hid hk
  clear ho hk H
  go_wp2_with fail
  go_ret
  exact ⟨v, rfl, HO.out, HK.out⟩
/-- Sharers, where the entry is known. -/
theorem Sharers_ok (w : World) (d bl n cap : Nat) (i s : Int) (h0 : 0 ≤ i) (h1 : i < n) (hm : w.cell? ⟨d, 2, none⟩ = some (.slice (some ⟨bl, 0, none⟩) n cap)) (ho : w.cell? ⟨bl, i.toNat * 16 + 1, none⟩ = some (.int .u8 s)) :
    Calls Try.prog 10 #[.pointer (some ⟨d, 0, none⟩), .int .i64 i] w (CorePost w s) := by
  have H := Lib.hid (dat_ok w d bl n cap i h0 h1 hm)
  have HE := Lib.hid (callsIn_wide.1 (each_in 3 s w))
  have HS := Lib.hid (collect_any _ _ s (Boxed.new w 76 (.int .u8 s)))
  have HC := Lib.hid ((Chg.refl [] w).alloc (.cells #[.int .u8 s] 76))
  clear h1 hm h0
  generalize i.toNat * 16 = p at *
  go_enter Try.func10, Try.ntmps10
  go_wp2_with fail
  refine H.out.mono ?_
  rintro e w' ⟨rfl, rfl⟩
  go_wp2_with fail
  refine HE.out.mono ?_
  rintro e w' ⟨rfl, rfl⟩
  go_wp2_with fail
  refine HS.out.mono ?_
  rintro e w1 ⟨v, rfl, ho, hk⟩
  have HO := Lib.hid (ownsRow_base ho (by simp : w.heap.size ≤ _)); have HK := Lib.hid (HC.out.trans hk)
  clear ho hk HC HS HE H
  go_wp2_with fail
  go_ret
  exact ⟨v, rfl, HO.out, HK.out⟩

theorem Sharers_bad (w : World) (d bl n cap : Nat) (i : Int) (h1 : i < 0 ∨ (n : Int) ≤ i) (hm : w.cell? ⟨d, 2, none⟩ = some (.slice (some ⟨bl, 0, none⟩) n cap)) :
    Calls Try.prog 10 #[.pointer (some ⟨d, 0, none⟩), .int .i64 i] w fun e w' => e = .returned (.slice none 0 0) ∧ w = w' := by
  have H := Lib.hid (dat_bad w d bl n cap i h1 hm)
  clear h1 hm
  go_enter Try.func10, Try.ntmps10
  go_wp2_with fail
  refine H.out.mono ?_
  rintro e w' ⟨rfl, rfl⟩
  go_wp2_with fail
  go_ret
  exact ⟨rfl, rfl⟩


/-- A line's set of sharers; where there is no such line, none. -/
def sharersK (ks : List EntV) (i : Int) : Int := if i < 0 then 0 else match ks[i.toNat]? with | some e => e.sh | none => 0
theorem cores_none : coresL 0 4 = [] := by kernel_rfl
theorem Sharers_any (w : World) (d bm bw bl n : Nat) (cores : Int) (ws : List Int) (es ks : List EntV) (i : Int) (K : Knows w d bm bw bl n cores ws es ks) :
    Calls Try.prog 10 #[.pointer (some ⟨d, 0, none⟩), .int .i64 i] w (CorePost w (sharersK ks i)) := by
  have hln := K.D.D.len
  have d2 : w.cell? ⟨d, 2, none⟩ = some (.slice (some ⟨bl, 0, none⟩) n n) := K.D.D.blk.cell 2
  by_cases h : i < 0 ∨ (n : Int) ≤ i
  · have e : sharersK ks i = 0 := by
      unfold sharersK
      by_cases h0 : i < 0
      · rw [if_pos h0]
      · rw [if_neg h0, ← K.ks, List.getElem?_eq_none (by rw [List.length_map]; omega)]
    rw [e]
    refine (Sharers_bad w d bl n n i h d2).mono ?_
    rintro e w' ⟨rfl, rfl⟩
    refine ⟨_, rfl, ?_, Chg.refl _ _⟩
    rw [cores_none]
    exact World.ownsRow_nil _ _ _ _
  · have hi : i.toNat < es.length := by omega
    have e : sharersK ks i = es[i.toNat].sh := by
      unfold sharersK
      rw [if_neg (by omega), ← K.ks, List.getElem?_map, List.getElem?_eq_getElem hi]
      rfl
    rw [e]
    exact Sharers_ok w d bl n n i _ (by omega) (by omega) d2 (K.D.D.ents.cell hi (j := 1) (by decide))

end Go.Proofs.Ytepdhajgemmoiaa
