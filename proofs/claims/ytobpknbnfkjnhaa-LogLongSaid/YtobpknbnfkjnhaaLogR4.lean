/- What was answered is kept. -/
import Derived.Test.YtobpknbnfkjnhaaLogR3
import Derived.Deep.RegionLaw
import Derived.Deep.RegionHeld3
import Derived.Deep.AppendLies
namespace Go.Proofs.Ytobpknbnfkjnhaa
open Go.RowKit

def encV (s : SlP) : List Value := [s.val]
theorem encV_len (s : SlP) : (encV s).length = 1 := rfl
theorem encV_one (l : List SlP) : ∀ u ∈ l.flatMap encV, u.oneCell' = true := by
  intro u hu
  obtain ⟨x, _, hx⟩ := List.mem_flatMap.1 hu
  simp [encV, SlP.val] at hx
  subst hx; rfl
theorem infoVs : (Try.prog.info? 24).map (fun i => (i.zero, i.size, i.bytes)) = some (some (.slice none 0 0), 1, 24) := by kernel_rfl

/-- The lists that were kept, and what they said; K: what it turns. -/
structure KeptAt (w : World) (M : List Nat) (kb : Nat) (K : List Nat) (vt vu : Value) (ts us : List SlP) : Prop where
  blk : Blk w kb [vt, vu] 47
  told : w.ownsRow 0 24 1 vt ts.length (ts.flatMap encV)
  was : w.ownsRow 0 24 1 vu us.length (us.flatMap encV)
  same : ts.map SlP.l = us.map SlP.l
  foot : K = kb :: (vt.ownBlock.toList ++ vu.ownBlock.toList)
  tu : Apart vt.ownBlock.toList vu.ownBlock.toList
  kt : kb ∉ vt.ownBlock.toList
  ku : kb ∉ vu.ownBlock.toList
  few : ∀ s ∈ ts, s.l.length ≤ 200
  ft : ∀ s ∈ ts, FzP w (M ++ K) s
  fu : ∀ s ∈ us, FzP w (M ++ K) s
theorem KeptAt.lt {w : World} {M : List Nat} {kb : Nat} {K : List Nat} {vt vu : Value} {ts us : List SlP} (h : KeptAt w M kb K vt vu ts us) : ∀ x ∈ K, x < w.heap.size := by
  intro x hx
  rw [h.foot] at hx
  simp only [List.mem_cons, List.mem_append] at hx
  rcases hx with rfl | hx | hx
  · exact h.blk.lt
  · exact ownsRow_lt h.told x hx
  · exact ownsRow_lt h.was x hx
theorem KeptAt.len {w : World} {M : List Nat} {kb : Nat} {K : List Nat} {vt vu : Value} {ts us : List SlP} (h : KeptAt w M kb K vt vu ts us) : us.length = ts.length := by
  have := congrArg List.length h.same
  simpa using this.symm
/-- A step that leaves what it turns alone. -/
theorem KeptAt.step {w w' : World} {M M' : List Nat} {kb : Nat} {K : List Nat} {vt vu : Value} {ts us : List SlP} (h : KeptAt w M kb K vt vu ts us) (k : Chg M w w') (hM : ∀ x ∈ M', x ∈ M ∨ w.heap.size ≤ x) (ha : Apart K M) : KeptAt w' M' kb K vt vu ts us := by
  have hf := h.foot
  have hk : Chg (M ++ K) w w' := k.mono (fun x hx => List.mem_append_left _ hx)
  have hN : ∀ x ∈ M' ++ K, x ∈ M ++ K ∨ w.heap.size ≤ x := fun x hx => (List.mem_append.1 hx).elim (fun hx => (hM x hx).imp (List.mem_append_left _) id) (fun hx => .inl (List.mem_append_right _ hx))
  exact ⟨k.blk h.blk (ha kb (by simp [hf])), ownsRow_chg h.told k (fun g hg => ha g (by rw [hf]; simp only [List.mem_cons, List.mem_append]; exact .inr (.inl hg))),
    ownsRow_chg h.was k (fun g hg => ha g (by rw [hf]; simp only [List.mem_cons, List.mem_append]; exact .inr (.inr hg))), h.same, hf, h.tu, h.kt, h.ku, h.few, fun s hs => (h.ft s hs).step hk hN, fun s hs => (h.fu s hs).step hk hN⟩

def p7 (p : Int × Int) : Int × Int := (wrap64 (p.1 + 7), IntKind.u64.wrap (p.2 + 1))
def mix7 (l : PL) (k : Nat) : PL := (l.take k).map p7 ++ l.drop k
theorem mix7_len {l : PL} {k : Nat} (hk : k ≤ l.length) : (mix7 l k).length = l.length := by simp [mix7]; omega
theorem mix7_get {l : PL} {k : Nat} (hk : k < l.length) (h : k < (mix7 l k).length) : (mix7 l k)[k] = l[k] := by
  simp only [mix7]
  rw [List.getElem_append_right (by simp; omega)]
  simp [Nat.min_eq_left (Nat.le_of_lt hk)]
theorem mix7_step {l : PL} {k : Nat} (hk : k < l.length) : mix7 l (k + 1) = (mix7 l k).set k (p7 l[k]) := by
  simp only [mix7]
  rw [List.set_append_right _ _ (by simp; omega)]
  simp only [List.length_map, List.length_take, Nat.min_eq_left (Nat.le_of_lt hk), Nat.sub_self]
  rw [List.drop_eq_getElem_cons hk, List.set_cons_zero, List.take_add_one, List.getElem?_eq_getElem hk, List.map_append]
  simp only [Option.toList_some, List.map_cons, List.map_nil, List.append_assoc, List.cons_append, List.nil_append]
theorem flatP_set0 (y : Int) : ∀ (l : PL) (i : Nat) (hi : i < l.length), (l.flatMap encP).set (i * 2) (.int .i64 y) = (l.set i (y, l[i].2)).flatMap encP
  | p :: l, 0, _ => by simp [encP]
  | p :: l, i + 1, hi => by
    have ih := flatP_set0 y l i (by simpa using hi)
    simp only [List.flatMap_cons, List.set_cons_succ, List.getElem_cons_succ, ← ih]
    rw [List.set_append_right _ _ (by rw [encP_len]; omega)]
    rw [encP_len, show (i + 1) * 2 - 2 = i * 2 from by omega]

def M7Rel (W0 : World) (B : Nat) (v : Value) (l : PL) (i : Value) (wr : World) : Prop := ∃ k : Nat, k ≤ l.length ∧ i = .int .i64 k ∧ wr.ownsRow B 39 2 v l.length ((mix7 l k).flatMap encP) ∧ Chg v.ownBlock.toList W0 wr

/-- The list that was answered, written over. -/
theorem keep_mid {w w' : World} {M K V : List Nat} {kb B g1 c1 : Nat} {vt vu v : Value} {ts us : List SlP} {l1 : PL} (hV : V = v.ownBlock.toList) (hM : ∀ x ∈ M, x < w.heap.size) (hvM : Apart V (M ++ K)) (hKM : Apart K M) (hK : KeptAt w (M ++ V) kb K vt vu ts us)
    (hO : w'.ownsRow B 39 2 (.slice (some ⟨g1, 0, none⟩) l1.length c1) l1.length (l1.flatMap encP)) (hg : w.grownBy w' v.ownBlock) (hb : g1 ∈ V ∨ w.heap.size ≤ g1) :
    KeptAt w' M kb K vt vu ts us ∧ FzP w' (M ++ K) ⟨some ⟨g1, 0, none⟩, c1, l1⟩ ∧ Chg V w w' := by
  have hC : Chg V w w' := by rw [hV]; exact Chg.of_grown hg
  have hKl := hK.lt
  have hKV : Apart K (M ++ V) := fun x hx hm => (List.mem_append.1 hm).elim (fun h => hKM x hx h) (fun h => hvM x h (List.mem_append_right _ hx))
  refine ⟨hK.step (hC.mono (fun x hx => List.mem_append_right _ hx)) (fun x hx => .inl (List.mem_append_left _ hx)) hKV, ?_, hC⟩
  obtain ⟨s, hs, hsv, hF⟩ := FzP.of_row (N := M ++ K) hO (fun x hx hm => by
    simp [Value.ownBlock] at hx
    subst hx
    rcases hb with h | h
    · exact hvM _ h hm
    · rcases List.mem_append.1 hm with h2 | h2
      · have := hM _ h2; omega
      · have := hKl _ h2; omega)
  obtain ⟨A, c, l⟩ := s
  simp only [SlP.val, Value.slice.injEq] at hs hsv
  obtain ⟨h1, _, h3⟩ := hsv
  subst hs h1 h3
  exact hF

theorem keep_row {w : World} {B n g1 c1 : Nat} {l1 : PL} (hl : l1.length = n) (h : w.ownsRow B 39 2 (.slice (some ⟨g1, 0, none⟩) (n + 1) c1) (n + 1) (l1.flatMap encP ++ [.int .i64 3, .int .u64 9])) :
    w.ownsRow B 39 2 (.slice (some ⟨g1, 0, none⟩) (l1 ++ [(3, 9)]).length c1) (l1 ++ [(3, 9)]).length ((l1 ++ [(3, 9)]).flatMap encP) := by
  rw [show (l1 ++ [((3, 9) : Int × Int)]).length = n + 1 from by simp [hl], flat_snoc]; exact h
theorem keep_blk {v : Value} {g1 n c N : Nat} (h : (Value.slice (some ⟨g1, 0, none⟩) n c).ownBlock = v.ownBlock ∨ (Value.slice (some ⟨g1, 0, none⟩) n c).ownBlock = some N) : g1 ∈ v.ownBlock.toList ∨ N ≤ g1 := by
  rcases h with h | h
  · exact .inl (by rw [← h]; simp [Value.ownBlock])
  · simp [Value.ownBlock] at h; exact .inr (by omega)

/-- A call of a Go function as a step of a region that draws its order. -/
theorem step_call {P : Program} {ops : Array Oper} {o : Oper} {a : Act} {w : World} {K : Act → World → Prop} {Q : Exit → Act → World → Prop} {E : Prop} (hgd : o.guard = none) (f : FuncId) (args : Array Value) (hx : (execOp a.eval o).run P w = .ok (.enter f args) w)
    {Post : Ending → World → Prop} (hc : Calls P f args w Post) (h : ∀ e w', Post e w' → ∃ v, e = .returned v ∧ K (a.put o.dst v) w') :
    if Region.wanted o (yielded ops a.tmps) = true then Oper.wp P o a w K Q else E := by
  have hw : Region.wanted o (yielded ops a.tmps) = true := by simp [Region.wanted, hgd]
  rw [if_pos hw]
  unfold Oper.wp
  rw [hx, Oper.upon_enter]
  exact hc.mono (fun e w' hp => by obtain ⟨v, rfl, hk⟩ := h e w' hp; exact hk)

theorem Twin_n (W : World) (A : Option Addr) (cap B n : Nat) (l : PL) (hn : n = l.length) (hm : l.length ≤ 1000) (hcap : l.length ≤ cap) (hA0 : A = none → cap = 0) (hA : RdP W B A l) :
    Calls Try.prog 33 #[.slice A n cap] W (PairsPost W l) := by
  subst hn; exact Twin_any W A cap B l hm hcap hA0 hA

theorem encV_snoc (ts : List SlP) (s : SlP) : (ts ++ [s]).flatMap encV = ts.flatMap encV ++ [s.val] := by simp [encV]
theorem keep_blk2 {v : Value} {g n c : Nat} {w : World} {o : Obj} (h : (Value.slice (some ⟨g, 0, none⟩) n c).ownBlock = v.ownBlock ∨ (Value.slice (some ⟨g, 0, none⟩) n c).ownBlock = some (w.alloc o).heap.size) : g ∈ v.ownBlock.toList ∨ w.heap.size ≤ g :=
  (keep_blk h).imp id (fun h => by simp at h; omega)
theorem keep_blk3 {v : Value} {g N : Nat} (h : v.ownBlock = some g ∨ g = N) : g ∈ v.ownBlock.toList ∨ N ≤ g := h.imp (fun e => by simp [e]) (fun e => by omega)
theorem keep_row5 {w : World} {B n g c : Nat} {L : PL} {v : Value} (hn : n = L.length) (h : w.ownsRow B 39 2 v L.length (L.flatMap encP)) : w.ownsRow B 39 2 v n (L.flatMap encP) := by rw [hn]; exact h
/-- keep, put together. -/
theorem keep_fin {wa1 wa2 w3 w5 w6 : World} {M K : List Nat} {kb g1 c1 g2 c2 g3 c3 g5 c5 n : Nat} {vt vu : Value} {ts us : List SlP} {L1 : PL} {o2 o6 : Obj} (hn : n = L1.length) (hfew : L1.length ≤ 200) (hM : ∀ x ∈ M, x < wa1.heap.size) (hK : KeptAt wa1 M kb K vt vu ts us) (h1 : FzP wa1 (M ++ K) ⟨some ⟨g1, 0, none⟩, c1, L1⟩)
    (hO2 : wa2.ownsRow 0 24 1 (.slice (some ⟨g2, 0, none⟩) (ts.length + 1) c2) (ts.length + 1) (ts.flatMap encV ++ [.slice (some ⟨g1, 0, none⟩) n c1])) (hg2 : (wa1.alloc o2).grownBy wa2 vt.ownBlock) (hb2 : g2 ∈ vt.ownBlock.toList ∨ wa1.heap.size ≤ g2)
    (h3 : w3 = wa2.setCell ⟨kb, 0, none⟩ (.slice (some ⟨g2, 0, none⟩) (ts.length + 1) c2)) (hC5 : Chg [] w3 w5) (hO5 : w5.ownsRow w3.heap.size 39 2 (.slice (some ⟨g5, 0, none⟩) n c5) n (L1.flatMap encP))
    (hO6 : w6.ownsRow 0 24 1 (.slice (some ⟨g3, 0, none⟩) (us.length + 1) c3) (us.length + 1) (us.flatMap encV ++ [.slice (some ⟨g5, 0, none⟩) n c5])) (hg6 : (w5.alloc o6).grownBy w6 vu.ownBlock) (hb6 : g3 ∈ vu.ownBlock.toList ∨ w5.heap.size + 1 ≤ g3) (hk6 : Blk w6 kb [.slice (some ⟨g2, 0, none⟩) (ts.length + 1) c2, vu] 47) :
    ∃ K' vt' vu' ts' us', KeptAt (w6.setCell ⟨kb, 1, none⟩ (.slice (some ⟨g3, 0, none⟩) (us.length + 1) c3)) M kb K' vt' vu' ts' us' ∧ Chg K wa1 (w6.setCell ⟨kb, 1, none⟩ (.slice (some ⟨g3, 0, none⟩) (us.length + 1) c3)) ∧ (∀ x ∈ K', x ∈ K ∨ wa1.heap.size ≤ x) ∧ ts'.length = ts.length + 1 := by
  subst hn
  have hf := hK.foot
  have hkK : kb ∈ K := by simp [hf]
  have hTK : ∀ x ∈ vt.ownBlock.toList, x ∈ K := fun x hx => by rw [hf]; exact List.mem_cons_of_mem _ (List.mem_append_left _ hx)
  have hUK : ∀ x ∈ vu.ownBlock.toList, x ∈ K := fun x hx => by rw [hf]; exact List.mem_cons_of_mem _ (List.mem_append_right _ hx)
  have hlt := hK.lt
  have c12 : Chg K wa1 wa2 := ((Chg.refl _ wa1).alloc _).grown hg2 (fun q e _ => hTK q (by simp [e]))
  have c23 : Chg K wa2 w3 := by rw [h3]; exact (Chg.refl _ _).setCell (fun _ => hkK) _
  have c35 : Chg K w3 w5 := hC5.mono (by simp)
  have c56 : Chg K w5 w6 := ((Chg.refl _ w5).alloc _).grown hg6 (fun q e _ => hUK q (by simp [e]))
  have c67 : Chg K w6 (w6.setCell ⟨kb, 1, none⟩ (.slice (some ⟨g3, 0, none⟩) (us.length + 1) c3)) := (Chg.refl _ _).setCell (fun _ => hkK) _
  have call := (((c12.trans c23).trans c35).trans c56).trans c67
  have s13 := (c12.trans c23).size
  have s15 := ((c12.trans c23).trans c35).size
  have sl2 : g2 < wa2.heap.size := (hO2.lt g2 rfl).2
  have s23 := c23.size
  have s25 := c35.size
  have hkl := hlt kb hkK
  have e2k : g2 ≠ kb := by
    rcases hb2 with h | h
    · exact fun e => hK.kt (e ▸ h)
    · omega
  have e2u : g2 ∉ vu.ownBlock.toList := by
    rcases hb2 with h | h
    · exact hK.tu g2 h
    · exact fun hm => by have := hlt g2 (hUK g2 hm); omega
  have e3k : g3 ≠ kb := by
    rcases hb6 with h | h
    · exact fun e => hK.ku (e ▸ h)
    · omega
  have e23 : g2 ≠ g3 := by
    rcases hb6 with h | h
    · exact fun e => e2u (e ▸ h)
    · omega
  have hN : ∀ x ∈ M ++ [kb, g2, g3], x ∈ M ++ K ∨ wa1.heap.size ≤ x := by
    intro x hx
    rcases List.mem_append.1 hx with hx | hx
    · exact .inl (List.mem_append_left _ hx)
    · simp at hx
      rcases hx with rfl | rfl | rfl
      · exact .inl (List.mem_append_right _ hkK)
      · exact hb2.imp (fun h => List.mem_append_right _ (hTK _ h)) id
      · rcases hb6 with h | h
        · exact .inl (List.mem_append_right _ (hUK _ h))
        · exact .inr (by omega)
  have call' : Chg (M ++ K) wa1 (w6.setCell ⟨kb, 1, none⟩ (.slice (some ⟨g3, 0, none⟩) (us.length + 1) c3)) := call.mono (fun x hx => List.mem_append_right _ hx)
  obtain ⟨s5, hs5, hv5, hF5⟩ := FzP.of_row (N := M ++ K ++ [g2]) hO5 (fun x hx hm => by
    have hx5 := (hO5.lt x (by simpa using hx)).1
    rcases List.mem_append.1 hm with hm | hm
    · rcases List.mem_append.1 hm with hm | hm
      · have := hM x hm; omega
      · have := hlt x hm; omega
    · simp at hm; subst hm; omega)
  have hF7 : FzP (w6.setCell ⟨kb, 1, none⟩ (.slice (some ⟨g3, 0, none⟩) (us.length + 1) c3)) (M ++ [kb, g2, g3]) s5 := hF5.step ((c56.trans c67).mono (fun x hx => List.mem_append_left _ (List.mem_append_right _ hx))) (fun x hx => by
    rcases List.mem_append.1 hx with hx | hx
    · exact .inl (List.mem_append_left _ (List.mem_append_left _ hx))
    · simp at hx
      rcases hx with rfl | rfl | rfl
      · exact .inl (List.mem_append_left _ (List.mem_append_right _ hkK))
      · exact .inl (List.mem_append_right _ (by simp))
      · rcases hb6 with h | h
        · exact .inl (List.mem_append_left _ (List.mem_append_right _ (hUK _ h)))
        · exact .inr (by omega))
  have hT7 : (w6.setCell ⟨kb, 1, none⟩ (.slice (some ⟨g3, 0, none⟩) (us.length + 1) c3)).ownsRow 0 24 1 (.slice (some ⟨g2, 0, none⟩) (ts.length + 1) c2) (ts.length + 1) (ts.flatMap encV ++ [.slice (some ⟨g1, 0, none⟩) L1.length c1]) := by
    have d23 : Chg [kb] wa2 w3 := by rw [h3]; exact (Chg.refl _ _).setCell (by simp) _
    have d56 : Chg vu.ownBlock.toList w5 w6 := ((Chg.refl _ w5).alloc _).grown hg6 (fun q e _ => by simp [e])
    exact ownsRow_chg (ownsRow_chg (ownsRow_chg (ownsRow_chg hO2 d23 (by simpa [Value.ownBlock] using e2k)) hC5 (by simp)) d56 (by simpa [Value.ownBlock] using e2u)) ((Chg.refl [kb] w6).setCell (p := ⟨kb, 1, none⟩) (by simp) _) (by simpa [Value.ownBlock] using e2k)
  have hU7 := ownsRow_chg hO6 ((Chg.refl [kb] w6).setCell (p := ⟨kb, 1, none⟩) (by simp) (.slice (some ⟨g3, 0, none⟩) (us.length + 1) c3)) (by simpa [Value.ownBlock] using e3k)
  refine ⟨[kb, g2, g3], .slice (some ⟨g2, 0, none⟩) (ts.length + 1) c2, .slice (some ⟨g3, 0, none⟩) (us.length + 1) c3, ts ++ [⟨some ⟨g1, 0, none⟩, c1, L1⟩], us ++ [s5], ?_, call, fun x hx => (hN x (List.mem_append_right _ hx)).elim (fun h => (List.mem_append.1 h).elim (fun hm => ?_) .inl) .inr, by simp⟩
  · refine ⟨by simpa using hk6.set 1 (.slice (some ⟨g3, 0, none⟩) (us.length + 1) c3), ?_, ?_, ?_, ?_, ?_, ?_, ?_, ?_, ?_, ?_⟩
    · rw [List.length_append, encV_snoc]; exact hT7
    · rw [List.length_append, encV_snoc, ← hv5]; exact hU7
    · rw [List.map_append, List.map_append, hK.same]; simp [hs5]
    · simp [Value.ownBlock]
    · intro x hx; simp [Value.ownBlock] at hx ⊢; omega
    · simpa [Value.ownBlock] using fun e => e2k e.symm
    · simpa [Value.ownBlock] using fun e => e3k e.symm
    · intro s hs
      rcases List.mem_append.1 hs with hs | hs
      · exact hK.few s hs
      · simp at hs; subst hs; exact hfew
    · intro s hs
      rcases List.mem_append.1 hs with hs | hs
      · exact (hK.ft s hs).step call' hN
      · simp at hs; subst hs; exact h1.step call' hN
    · intro s hs
      rcases List.mem_append.1 hs with hs | hs
      · exact (hK.fu s hs).step call' hN
      · simp at hs; subst hs; exact hF7
  · simp at hx
    rcases hx with rfl | rfl | rfl
    · exact .inl hkK
    · exact hb2.imp (hTK _) id
    · rcases hb6 with h | h
      · exact .inl (hUK _ h)
      · exact .inr (by omega)

def KeepPost (w : World) (M : List Nat) (kb n : Nat) (K V : List Nat) (e : Ending) (w' : World) : Prop := e = .returned (.tuple #[]) ∧ ∃ K' vt vu ts us, KeptAt w' M kb K' vt vu ts us ∧ Chg (K ++ V) w w' ∧ (∀ x ∈ K', x ∈ K ∨ w.heap.size ≤ x) ∧ ts.length = n + 1

set_option maxRecDepth 100000 in
set_option maxHeartbeats 4000000 in
theorem keep_any (w : World) (M : List Nat) (kb B : Nat) (K : List Nat) (vt vu v : Value) (ts us : List SlP) (l : PL) (hl : l.length ≤ 128) (hts : ts.length ≤ 1000) (hM : ∀ x ∈ M, x < w.heap.size)
    (hO : w.ownsRow B 39 2 v l.length (l.flatMap encP)) (hB : B ≤ w.heap.size) (hvM : Apart v.ownBlock.toList (M ++ K)) (hKM : Apart K M) (hK : KeptAt w (M ++ v.ownBlock.toList) kb K vt vu ts us) :
    Calls Try.prog 32 #[.pointer (some ⟨kb, 0, none⟩), v] w (KeepPost w M kb ts.length K v.ownBlock.toList) := by
  obtain ⟨i0, hi, hz0, hz1, hz2⟩ := info_parts infoPair
  obtain ⟨j0, hj, hy0, hy1, hy2⟩ := info_parts infoVs
  have hl' : (l.length : Int) ≤ 128 := by omega
  obtain ⟨A, cap, rfl, _, _, _, _, _⟩ := Rd.of_row encP_len hO
  have HO := Lib.hid hO
  have HK := Lib.hid hK
  have HM := Lib.hid hM
  have HvM := Lib.hid hvM
  clear hO hK hM hvM
  go_enter Try.func32, Try.ntmps32
  go_wp2_with fail
  go_loopw [4] (fun i wr => M7Rel w B (.slice A l.length cap) l i wr) (fun i _ => l.length - (intOf i).toNat)
  case atStart => exact ⟨0, Nat.zero_le _, rfl, HO.out, Chg.refl _ _⟩
  case round =>
    obtain ⟨k, hk, rfl, hO, hC⟩ := hrel
    by_cases hlt : k < l.length
    · obtain ⟨g, rfl⟩ : ∃ g, A = some ⟨g, 0, none⟩ := by
        obtain ⟨g, c, he, _⟩ := ownsRow_posC hO (by omega)
        exact ⟨g, by simpa using (Value.slice.inj he).1⟩
      have hix : k < (mix7 l k).length := by rw [mix7_len hk]; exact hlt
      have d0 : wr.cell? ⟨g, k * 2, none⟩ = some (.int .i64 l[k].1) := by
        have := flat_get encP_len _ _ hix 0 (by decide)
        rw [mix7_get hlt] at this
        exact (hO.cellAt (k * 2 + 0) (by omega)).trans this
      have d1 : wr.cell? ⟨g, k * 2 + 1, none⟩ = some (.int .u64 l[k].2) := by
        have := flat_get encP_len _ _ hix 1 (by decide)
        rw [mix7_get hlt] at this
        exact (hO.cellAt (k * 2 + 1) (by omega)).trans this
      have f0 : wr.frozen? ⟨g, k * 2, none⟩ = false := hO.frozenAt _
      have f1 : wr.frozen? ⟨g, k * 2 + 1, none⟩ = false := hO.frozenAt _
      have hSt := ((hO.stored (k * 2 + 1) (.int .u64 (IntKind.u64.wrap (l[k].2 + 1)))).1.stored (k * 2) (.int .i64 (wrap64 (l[k].1 + 7)))).1
      rw [flatP_set _ _ hix, mix7_get hlt, flatP_set0 _ _ _ (by rw [List.length_set]; exact hix), List.getElem_set_self, List.set_set, show (wrap64 (l[k].1 + 7), IntKind.u64.wrap (l[k].2 + 1)) = p7 l[k] from rfl, ← mix7_step hlt] at hSt
      have HSt := Lib.hid hSt
      have HC := Lib.hid hC
      clear hSt hO hC hix
      generalize l[k].1 = x0 at *
      generalize l[k].2 = x1 at *
      go_wp2_with fail
      go_roundw
      case rel => exact ⟨k + 1, by omega, by go_num, HSt.out, (HC.out.setCell (by simp [Value.ownBlock]) _).setCell (by simp [Value.ownBlock]) _⟩
      case measure => simp [intOf]; omega
    · obtain rfl : k = l.length := by omega
      have hl1 : (mix7 l l.length).length = l.length := mix7_len (Nat.le_refl _)
      have HOr := Lib.hid hO
      have hKr := HK.out.step (hC.mono (T := M ++ (Value.slice A l.length cap).ownBlock.toList) (fun x hx => List.mem_append_right _ hx)) (fun x hx => .inl hx) (fun x hx hm => (List.mem_append.1 hm).elim (fun h => hKM x hx h) (fun h => HvM.out x h (List.mem_append_right _ hx)))
      have HKr := Lib.hid hKr
      have HCr := Lib.hid hC
      have HMr := Lib.hid (fun x hx => Nat.lt_of_lt_of_le (HM.out x hx) hC.size)
      have HKM := Lib.hid hKM
      have hsr := hC.size
      have hKl := hKr.lt
      have HKl := Lib.hid hKl
      clear hO hC hKr hKM HO HK HM hKl
      generalize hL1 : mix7 l l.length = l1 at *
      clear hL1
      go_wp2_with (first
        | (at_builtin; refine wpList_append_own_at _ rfl (.tmp 31) (.tmp 33) 24 rfl (B) 39 i0 (.agg #[.int .i64 0, .int .u64 0]) 2 16 Try.underlying24 hi hz0 hz1 hz2 rfl (by decide) _ _ _ rfl (HOr.out.alloc _) ⟨wr.heap.size, 0, none⟩ 1 1 [.int .i64 3, .int .u64 9] rfl rfl (cells_at (by simp) [.int .i64 3, .int .u64 9] _) (by simp [Value.oneCell']) (by unfold maxLen; omega) (by omega) (by first | omega | (simp; omega) | simp) ?_; intro va1 wa1 hown1 hgrow1 _ hblk1; have hsz1 := hgrow1.size; have HO1 := Lib.hid hown1; have HG1 := Lib.hid hgrow1; have HB1 := Lib.hid hblk1; clear hown1 hgrow1 hblk1; obtain ⟨g1, c1, hv1, hg1, hg2, hc1, hc2⟩ := ownsRow_posC HO1.out (by omega); subst hv1; have HMid := Lib.hid (keep_mid (w := wr.alloc (.cells #[.int .i64 3, .int .u64 9] 39)) (l1 := l1 ++ [(3, 9)]) rfl (fun x hx => Nat.lt_of_lt_of_le (HMr.out x hx) (by simp)) HvM.out HKM.out (HKr.out.step ((Chg.refl _ wr).alloc _) (fun x hx => .inl hx) (fun x hx hm => (List.mem_append.1 hm).elim (fun h => HKM.out x hx h) (fun h => HvM.out x h (List.mem_append_right _ hx)))) (keep_row hl1 HO1.out) HG1.out (keep_blk HB1.out)); have hbk := HMid.out.1.blk; have k0 : wa1.cell? ⟨kb, 0, none⟩ = some vt := hbk.cell 0; have HT1 := Lib.hid HMid.out.1.told; clear hbk)
        | (at_builtin; refine wpList_append_own_at _ rfl (.tmp 39) (.tmp 41) 45 rfl (0) 24 j0 (.slice none 0 0) 1 24 Try.underlying45 hj hy0 hy1 hy2 rfl (by decide) _ _ _ rfl (HT1.out.alloc _) ⟨wa1.heap.size, 0, none⟩ 1 1 [.slice (some ⟨g1, 0, none⟩) (l.length + 1) c1] rfl rfl (cells_at (by simp) [.slice (some ⟨g1, 0, none⟩) (l.length + 1) c1] _) (by simp [Value.oneCell']) (by unfold maxLen; omega) (by omega) (by first | omega | (simp; omega) | simp) ?_; intro va2 wa2 hown1 hgrow1 _ hblk1; have hsz2 := hgrow1.size; have HO2 := Lib.hid hown1; have HG2 := Lib.hid hgrow1; have HB2 := Lib.hid hblk1; clear hown1 hgrow1 hblk1; obtain ⟨g2, c2, hv2, hg3, hg4, hc3, hc4⟩ := ownsRow_posC HO2.out (by omega); subst hv2; have hbk2 := (Chg.of_grown HG2.out).blk (HMid.out.1.blk.alloc _) HMid.out.1.kt; have q0 : wa2.cell? ⟨kb, 0, none⟩ = some vt := hbk2.cell 0; have f2 : wa2.frozen? ⟨kb, 0, none⟩ = false := hbk2.free 0; have HBk2 := Lib.hid hbk2; clear hbk2))
      have hB3 := HBk2.out.set 0 (.slice (some ⟨g2, 0, none⟩) (ts.length + 1) c2)
      have hcs : Chg [kb] wa2 (wa2.setCell ⟨kb, 0, none⟩ (.slice (some ⟨g2, 0, none⟩) (ts.length + 1) c2)) := (Chg.refl _ _).setCell (by simp) _
      have hC12 : Chg vt.ownBlock.toList wa1 wa2 := ((Chg.refl _ wa1).alloc _).grown HG2.out (fun q e _ => by simpa using (show vt.ownBlock = some q from e))
      have hU3 := ownsRow_chg (ownsRow_chg HMid.out.1.was hC12 (fun x hx hm => HMid.out.1.tu x hm hx)) hcs (fun x hx hm => by simp at hm; subst hm; exact HMid.out.1.ku hx)
      have hF1 := HMid.out.2.1
      have hfoot := HMid.out.1.foot
      have hg1t : g1 ∉ vt.ownBlock.toList := fun hm => hF1.out _ rfl (List.mem_append_right _ (by rw [hfoot]; exact List.mem_cons_of_mem _ (List.mem_append_left _ hm)))
      have hg1k : g1 ≠ kb := fun e => hF1.out _ rfl (List.mem_append_right _ (by rw [hfoot, e]; simp))
      have hR3 := (hF1.rd.chg hC12 (fun a e => by cases e; exact hg1t)).chg hcs (fun a e => by cases e; simpa using hg1k)
      have HB3 := Lib.hid hB3
      have HU3 := Lib.hid hU3
      have HR3 := Lib.hid hR3
      have hk3 := HB3.out.cell 1
      have hf3 := HB3.out.free 1
      have hln : l.length + 1 = (l1 ++ [((3, 9) : Int × Int)]).length := by simp [hl1]
      have hl130 : (l1 ++ [((3, 9) : Int × Int)]).length ≤ 1000 := by simp [hl1]; omega
      have hcc1 : (l1 ++ [((3, 9) : Int × Int)]).length ≤ c1 := by simp [hl1]; omega
      have HW3 : ∃ w3, w3 = wa2.setCell ⟨kb, 0, none⟩ (.slice (some ⟨g2, 0, none⟩) (ts.length + 1) c2) := ⟨_, rfl⟩
      obtain ⟨w3, hw3⟩ := HW3
      rw [← hw3] at HB3 HU3 HR3 hk3 hf3 ⊢
      have hus : us.length ≤ 1000 := by rw [HMid.out.1.len]; exact hts
      have HLN := Lib.hid hln
      have HL130 := Lib.hid hl130
      have HCC1 := Lib.hid hcc1
      have HW3 := Lib.hid hw3
      have k3 : w3.cell? ⟨kb, 1, none⟩ = some vu := hk3
      clear hB3 hcs hC12 hU3 hF1 hfoot hg1t hg1k hR3 hk3 hw3 q0 f2 k0 hln hl130 hcc1
      go_region_law
        (first
          | (refine step_call (by rfl) 33 #[.slice (some ⟨g1, 0, none⟩) (l.length + 1) c1] (by go_simp) (Twin_n _ (some ⟨g1, 0, none⟩) c1 _ _ _ HLN.out HL130.out HCC1.out (fun h => nomatch h) (HR3.out.chg0 ((Chg.refl [] _).drew))) ?_; rintro e w5 ⟨v5, rfl, hv5, hC5⟩; obtain ⟨g5, c5, hv1, hg5, hg6, hc5, hc6⟩ := ownsRow_posC hv5 (by simp); subst hv1; have HB5 := Lib.hid (hC5.blk HB3.out.drew (by simp)); have HV5 := Lib.hid hv5; have HC5 := Lib.hid (((Chg.refl [] w3).drew).trans hC5); have HU5 := Lib.hid (ownsRow_chg HU3.out HC5.out (by simp)); have k5 : w5.cell? ⟨kb, 1, none⟩ = some vu := HB5.out.cell 1; have kbl5 : kb < w5.heap.size := HB5.out.lt; clear hv5 hC5; refine ⟨_, rfl, ?_⟩)
          | (have _t := HU5; refine step_append_lies (w5.alloc (.cells #[.slice (some ⟨g5, 0, none⟩) (l.length + 1) c5] 24)) (by rfl) (.tmp 49) (.tmp 52) _ (by rfl) 0 24 j0 (.slice none 0 0) 1 24 Try.underlying45 hj hy0 hy1 hy2 rfl (by omega) vu us.length (us.flatMap encV) (by rfl) (HU5.out.alloc _) ⟨w5.heap.size, 0, none⟩ 1 1 [.slice (some ⟨g5, 0, none⟩) (l.length + 1) c5] (by rfl) (by rfl) (cells_new w5 [.slice (some ⟨g5, 0, none⟩) (l.length + 1) c5] _) (by simp [Value.oneCell']) (by omega) (by unfold maxLen; omega) (by omega) (by omega) (w5.heap.size + 1) (by simp) ?_; intro g3 c3 w6 hown6 hgrow6 hat6 hlt6; have hb6 := (Chg.of_grown hgrow6).blk (HB5.out.alloc (.cells #[.slice (some ⟨g5, 0, none⟩) (l.length + 1) c5] 24)) HMid.out.1.ku; have f6 : w6.frozen? ⟨kb, 1, none⟩ = false := hb6.free 1; have q6 : w6.cell? ⟨kb, 1, none⟩ = some vu := hb6.cell 1; have HB6 := Lib.hid hb6; clear hb6)
          | fail)
      all_goals
        go_end0
        have hfin := keep_fin (n := l.length + 1) HLN.out (by have := HLN.out; omega) (fun x hx => Nat.lt_of_lt_of_le (HMr.out x hx) (Nat.le_trans (by simp) HMid.out.2.2.size)) HMid.out.1 HMid.out.2.1 HO2.out HG2.out (keep_blk2 HB2.out) HW3.out HC5.out (by rw [HLN.out]; exact HV5.out) hown6 hgrow6 (keep_blk3 hat6) HB6.out
        obtain ⟨K', vt', vu', ts', us', h1, h2, h3, h4⟩ := hfin
        have hV : Chg (Value.slice A l.length cap).ownBlock.toList w wa1 := (HCr.out.alloc _).trans HMid.out.2.2
        exact ⟨rfl, K', vt', vu', ts', us', h1, (hV.mono (fun x hx => List.mem_append_right _ hx)).trans (h2.mono (fun x hx => List.mem_append_left _ hx)), fun x hx => (h3 x hx).imp id (fun h => Nat.le_trans hV.size h), h4⟩

end Go.Proofs.Ytobpknbnfkjnhaa
