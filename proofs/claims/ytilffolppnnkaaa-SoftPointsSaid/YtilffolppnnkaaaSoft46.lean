/- SoftPoints: the walk of shared. -/
import Derived.Test.YtilffolppnnkaaaSoft45
import Derived.Test.YtilffolppnnkaaaSoft23
import Derived.Test.YtilffolppnnkaaaSoftOpen3
import Derived.Deep.CutBlock
import Derived.Deep.RegionHeld3
namespace Go.Proofs.Ytilffolppnnkaaa
set_option maxRecDepth 100000
open Go.RowKit

theorem infoPtr : (Try.prog.info? 31).map (fun i => (i.zero, i.size, i.bytes)) = some (some (.pointer none), 1, 8) := by kernel_rfl
theorem infoInt : (Try.prog.info? 3).map (fun i => (i.zero, i.size, i.bytes)) = some (some (.int .i64 0), 1, 8) := by kernel_rfl
def encQ (p : Nat) : List Value := [.pointer (some ⟨p, 0, none⟩)]
def natV (n : Nat) : Value := .int .i64 n

/-- The paths being made. -/
def MakeRel (W W0 : World) (n m u : Nat) (h g : PL) (bx ba : Nat) (mx : List Value) (v i : Value) (wr : World) : Prop :=
  ∃ (k : Nat) (fr : List (Nat × List Nat)), k ≤ n ∧ i = .int .i64 k ∧ fr.length = k ∧ Mid wr fr (List.replicate k {}) m 8 h u 8 g (v.ownBlock.toList ++ [ba, bx]) ∧ wr.ownsRow W0.heap.size 31 1 v k ((fr.map (·.1)).flatMap encQ) ∧
    Blk wr ba (List.replicate n (natV 0)) 3 ∧ Blk wr bx mx 74 ∧ Chg [] W0 wr ∧ (∀ x ∈ frF fr, W.heap.size ≤ x)

theorem cn_replicate (f : PS → Bool) (s : PS) (hf : f s = false) : ∀ n, cn f (List.replicate n s) = 0
  | 0 => rfl
  | n + 1 => by rw [List.replicate_succ]; simp only [cn]; rw [b01_zero hf, cn_replicate f s hf n]
theorem SI.first (ws : List Int) (q : Int) (h0 : 0 ≤ q) (h1 : q < 1000) (n : Nat) : SI 0 (firstH ws q 6) (firstH ws 0 6) (List.replicate n {}) := by
  have e0 : getH (firstH ws q 6) 0 = q * 2 := by
    rw [getH_first, if_pos rfl]; exact wrap_fit (by omega) (by omega)
  have hz := cn_replicate PS.wr {} rfl n
  have hs : ∀ s ∈ List.replicate n ({} : PS), s = {} := fun s hs => (List.mem_replicate.1 hs).2
  refine ⟨fun s h => ?_, by omega, by omega, by rw [e0, hz]; omega, by omega, fun a ha => ?_, ?_, fun s h => ?_⟩
  · rw [hs s h]
    exact ⟨Int.le_refl _, by rw [e0]; show (0 : Int) ≤ _; omega, rfl, fun q hq => (by cases hq), fun q hq => (by cases hq), rfl, fun e => (by cases e), trivial⟩
  · rw [leftA_zero hz]
    show getH (firstH ws q 6) a = getH (firstH ws 0 6) a
    have ha0 : ¬ a = 0 := by omega
    rw [getH_first, getH_first, if_neg ha0, if_neg ha0]
  · rw [cn_replicate PS.counted {} rfl n, getH_first]; rfl
  · rw [hs s h]; exact ⟨Int.le_refl _, Int.le_refl _⟩

/-- What stays beside the paths. -/
structure Keep (W : World) (m u bx bl : Nat) (mx : List Value) (Q : List Nat) (fr : List (Nat × List Nat)) (wr : World) : Prop where
  box : Blk wr bx mx 74
  row : Rd wr wr.heap.size (some ⟨bl, 0, none⟩) 1 encQ Q
  chg : Chg [] W wr
  new : ∀ x ∈ m :: u :: frF fr, W.heap.size ≤ x
theorem Keep.step {W : World} {m u bx bl ba : Nat} {mx : List Value} {Q : List Nat} {fr : List (Nat × List Nat)} {wr wx : World} {l : List PS} {c d : Nat} {h g : PL} (K : Keep W m u bx bl mx Q fr wr) (M : Mid wr fr l m c h u d g [ba, bl, bx]) (hb : W.heap.size ≤ ba) (hbb : ba ≠ bx ∧ ba ≠ bl) {S : List Nat} (hC : Chg S wr wx)
    (hS : ∀ x ∈ S, x = ba ∨ x ∈ m :: u :: frF fr) : Keep W m u bx bl mx Q fr wx := by
  have hO : ∀ y ∈ [bl, bx], ∀ x ∈ S, x ≠ y := fun y hy x hx e => by
    subst e
    have hy2 : x ∈ [ba, bl, bx] := List.mem_cons_of_mem _ hy
    rcases hS x hx with e | e
    · subst e; simp only [List.mem_cons, List.not_mem_nil, or_false] at hy; omega
    · rcases List.mem_cons.1 e with e | e
      · subst e; exact M.ne (List.mem_cons_of_mem _ hy2)
      · rcases List.mem_cons.1 e with e | e
        · subst e; exact M.nu hy2
        · exact M.off x e (List.mem_cons_of_mem _ (List.mem_cons_of_mem _ hy2))
  refine ⟨hC.blk K.box (fun e => hO bx (by simp) bx e rfl), K.row.chg hC (fun a e hx => ?_), K.chg.trans' hC (fun x hx hl => ?_), K.new⟩
  · cases e; exact hO bl (by simp) bl hx rfl
  · rcases hS x hx with e | e
    · omega
    · have := K.new x e; omega
theorem Keep.frs {W : World} {m u bx bl : Nat} {mx : List Value} {Q : List Nat} {fr fr' : List (Nat × List Nat)} {wr : World} (K : Keep W m u bx bl mx Q fr wr) (h : ∀ x ∈ frF fr', W.heap.size ≤ x) : Keep W m u bx bl mx Q fr' wr :=
  ⟨K.box, K.row, K.chg, fun x hx => by
    simp only [List.mem_cons] at hx
    rcases hx with e | e | e
    · exact K.new x (by simp [e])
    · exact K.new x (by simp [e])
    · exact h x e⟩

/-- Between two turns. -/
def TurnRel (W : World) (n m u : Nat) (bx ba bl : Nat) (mx : List Value) (Q : List Nat) (nt : Nat) (i : Value) (wr : World) : Prop :=
  ∃ (t : Nat) (fr : List (Nat × List Nat)) (l : List PS) (c d : Nat) (h g : PL) (ats : List Nat), t ≤ nt ∧ i = .int .i64 t ∧ Mid wr fr l m c h u d g [ba, bl, bx] ∧ fr.map (·.1) = Q ∧ SI t h g l ∧ c ≤ 8 + t ∧ d ≤ 8 + 128 * t ∧
    Blk wr ba (ats.map natV) 3 ∧ ats.length = n ∧ (∀ a ∈ ats, a ≤ t) ∧ Keep W m u bx bl mx Q fr wr
/-- Behind what a turn does. -/
def ActRel (W : World) (n m u : Nat) (bx ba bl : Nat) (mx : List Value) (Q : List Nat) (t : Nat) (fr : List (Nat × List Nat)) (l : List PS) (d : Nat) (g : PL) (x : Nat) (hx : x < fr.length) (hx' : x < l.length) (wr : World) : Prop :=
  ∃ (F' : List Nat) (s' : PS) (c' : Nat) (h' : PL) (ats' : List Nat), Mid wr (fr.set x (fr[x].1, F')) (l.set x s') m c' h' u d g [ba, bl, bx] ∧ SI (t + 1) h' (shB l[x] s' g) (l.set x s') ∧
    (s'.points = l[x].points ∨ s'.points = l[x].points + 1 ∧ ReadAll h' s'.R) ∧ c' ≤ 9 + t ∧ Blk wr ba (ats'.map natV) 3 ∧ ats'.length = n ∧ (∀ a ∈ ats', a ≤ t + 1) ∧ Keep W m u bx bl mx Q (fr.set x (fr[x].1, F')) wr

/-- What was committed has come into what should be. -/
def WroteRel (W : World) (m u : Nat) (bx ba bl : Nat) (mx : List Value) (Q : List Nat) (t : Nat) (fr : List (Nat × List Nat)) (l : List PS) (c : Nat) (h g : PL) (ats : List Nat) (wr : World) : Prop :=
  ∃ d, Mid wr fr l m c h u d g [ba, bl, bx] ∧ d ≤ 8 + 128 * (t + 1) ∧ Blk wr ba (ats.map natV) 3 ∧ Keep W m u bx bl mx Q fr wr
def WriteLoop (W : World) (m u : Nat) (bx ba bl : Nat) (mx : List Value) (Q : List Nat) (fr : List (Nat × List Nat)) (l : List PS) (c : Nat) (h : PL) (d : Nat) (g : PL) (L : PL) (A : Option Addr) (ats : List Nat) (i : Value) (wr : World) : Prop :=
  ∃ (j d1 : Nat), j ≤ L.length ∧ i = .int .i64 j ∧ Mid wr fr l m c h u d1 (backH (L.take j) g) [ba, bl, bx] ∧ d1 ≤ d + j ∧ Blk wr ba (ats.map natV) 3 ∧ Keep W m u bx bl mx Q fr wr ∧ Rd wr wr.heap.size A 2 encP L
/-- What is counted of the paths so far. -/
def CountRel (l : List PS) (we : World) (n : Nat) (wv lv bv kv : Value) (wx : World) : Prop :=
  ∃ j : Nat, j ≤ n ∧ kv = .int .i64 j ∧ wv = .int .i64 (cn (fun s => s.writing) (l.take j)) ∧ lv = .int .u64 (cn (fun s => s.live) (l.take j)) ∧ bv = .bool ((l.take j).any PS.busy) ∧ wx = we
theorem shB_same (s : PS) (g : PL) : shB s s g = g := by unfold shB; cases s.writing <;> rfl
theorem act_none {W : World} {n m u bx ba bl : Nat} {mx : List Value} {Q : List Nat} {t : Nat} {fr : List (Nat × List Nat)} {l : List PS} {c d : Nat} {h g : PL} {x : Nat} {hx : x < fr.length} {hx' : x < l.length} {wr : World} {ats : List Nat} (M : Mid wr fr l m c h u d g [ba, bl, bx]) (S : SI t h g l) (hc : c ≤ 8 + t)
    (hba : Blk wr ba (ats.map natV) 3) (hal : ats.length = n) (hat : ∀ a ∈ ats, a ≤ t) (K : Keep W m u bx bl mx Q fr wr) : ActRel W n m u bx ba bl mx Q t fr l d g x hx hx' wr := by
  have e1 : fr.set x (fr[x].1, fr[x].2) = fr := List.set_getElem_self hx
  have e2 : l.set x l[x] = l := List.set_getElem_self hx'
  exact ⟨fr[x].2, l[x], c, h, ats, by rw [e1, e2]; exact M, by rw [e2, shB_same]; exact S.more, .inl rfl, by omega, hba, hal, fun a ha => by have := hat a ha; omega, by rw [e1]; exact K⟩
theorem shB_begins {h : PL} {s : PS} (k : PI h s) (kd a v : Int) (g : PL) : shB s (s.begins kd a v 6) g = g := by
  have e : (s.begins kd a v 6).writing = s.writing := by rw [(k.begins kd a v).1.wr, k.wr, (k.begins kd a v).2.2.2.1]
  unfold shB; rw [e]; cases s.writing <;> rfl


set_option maxHeartbeats 8000000 in
theorem shared_any (w : World) (A : Option Addr) (cap : Nat) (ws : List Int) (seq : Int) (AP : Option Addr) (capP : Nat) (ps : List SlO) (AK : Option Addr) (capK : Nat) (ks : List Int) (hws : ∀ y ∈ ws, w64ok y) (hl : ws.length ≤ 100) (hR : Rd w w.heap.size A 1 encU ws) (hsq : w64ok seq)
    (hps : ∀ s ∈ ps, SlOk w s ∧ s.xs.length ≤ 100) (hRP : Rd w w.heap.size AP 1 encSl ps) (hks : ∀ y ∈ ks, (Lit.int .u8 y).wf = true) (hkl : ks.length ≤ 3000) (hRK : Rd w w.heap.size AK 1 encK ks) :
    Calls Try.prog 34 #[.slice A ws.length cap, .agg #[.int .u64 seq, .slice AP ps.length capP, .slice AK ks.length capK]] w (StaysPost w) := by
  obtain ⟨i0, hi, hz0, hz1, hz2⟩ := info_parts infoPtr
  obtain ⟨j0, hj, hy0, hy1, hy2⟩ := info_parts infoInt
  obtain ⟨n, hn⟩ : ∃ n, n = min 3 ps.length := ⟨_, rfl⟩
  have hn3 : n ≤ 3 := by omega
  have hmk : ∀ w : World, (Instr.makeSlice 65 (.int .i64 (n : Int)) (.int .i64 (n : Int))).run Try.prog w = .ok (.slice (some ⟨w.heap.size, 0, none⟩) n n) (w.alloc (.cells (List.replicate n (natV 0)).toArray 3)) := by
    intro w
    have h := run_make (P := Try.prog) w 65 3 j0 _ Try.underlying65 hj hy0 .i64 .i64 (n : Int) (n : Int) (by omega) (Int.le_refl _) (by rw [hy2]; omega) (by omega)
    rw [hy1, Int.toNat_natCast, madeCells_replicate (.int .i64 0) 0 _ _ (by rfl)] at h
    rw [h]
    simp [natV]
  have HW := Lib.hid hws
  have HL := Lib.hid hl
  have HR := Lib.hid hR
  have HS := Lib.hid hsq
  have HPs := Lib.hid hps
  have HRP := Lib.hid hRP
  have HKs := Lib.hid hks
  have HKl := Lib.hid hkl
  have HRK := Lib.hid hRK
  have HN3 := Lib.hid hn3
  clear hws hl hR hsq hps hRP hks hkl hRK
  go_enter Try.func34, Try.ntmps34
  go_wp2_with fail
  have hX := Blk.new w [.int .u64 seq, .slice AP ps.length capP, .slice AK ks.length capK] 74
  have hC1 := (Chg.refl [] w).alloc (.cells #[.int .u64 seq, .slice AP ps.length capP, .slice AK ks.length capK] 74)
  have HX := Lib.hid hX
  have HC1 := Lib.hid hC1
  obtain ⟨bx, hbx⟩ : ∃ bx, w.heap.size = bx := ⟨_, rfl⟩
  have HBx := Lib.hid hbx
  have hs1 : bx < (w.alloc (.cells #[.int .u64 seq, .slice AP ps.length capP, .slice AK ks.length capK] 74)).heap.size := by rw [← hbx]; exact hX.lt
  have HS1 := Lib.hid hs1
  rw [hbx] at HX ⊢
  clear hX hC1 hs1 hbx
  generalize w.alloc _ = w1 at *
  have hq0 : 0 ≤ seq.tmod 1000 := Int.tmod_nonneg _ HS.out.1
  have hq1 : seq.tmod 1000 < 1000 := Int.tmod_lt_of_pos _ (by decide)
  obtain ⟨q, hq⟩ : ∃ q, seq.tmod 1000 = q := ⟨_, rfl⟩
  rw [hq] at hq0 hq1 ⊢
  have HQ := Lib.hid (And.intro hq0 hq1)
  have HQw := Lib.hid (show w64ok q from ⟨hq0, by simp [Lit.wf, IntKind.min, IntKind.max, IntKind.signed, IntKind.bits]; omega⟩)
  clear hq0 hq1 hq
  refine (first_any w1 A cap ws q 6 HW.out HQw.out (by decide) (by have := HL.out; omega) (HR.out.chg0 HC1.out)).mono ?_
  rintro e w2 ⟨m, rfl, hm, hC, hml⟩
  have HMm := Lib.hid hm
  have HC2 := Lib.hid hC
  have HML := Lib.hid hml
  clear hm hC hml
  go_wp2_with fail
  refine (first_any w2 A cap ws 0 6 HW.out ⟨by decide, by decide⟩ (by decide) (by have := HL.out; omega) (HR.out.chg0 (HC1.out.trans HC2.out))).mono ?_
  rintro e w3 ⟨u, rfl, hm, hC, hml⟩
  have HMu := Lib.hid hm
  have HC3 := Lib.hid hC
  have HUL := Lib.hid hml
  clear hm hC hml
  have HX3 := Lib.hid ((HC2.out.trans HC3.out).blk HX.out (by simp))
  have x1 : w3.cell? ⟨bx, 1, none⟩ = some (.slice AP ps.length capP) := HX3.out.cell 1
  go_upto_region 5 with fail
  rw [show (if (ps.length : Int) < 3 then (ps.length : Int) else 3) = (n : Int) by split <;> omega]
  have HNn := Lib.hid hn
  clear hn
  go_upto_region 7 with fail
  clear hmk x1
  have HBa := Lib.hid (Blk.new w3 (List.replicate n (natV 0)) 3)
  have hC4 := (Chg.refl [] w3).alloc (.cells (List.replicate n (natV 0)).toArray 3)
  have HX4 := Lib.hid (hC4.blk HX3.out (by simp))
  have HC4 := Lib.hid hC4
  have hbx3 : bx < w3.heap.size := HX3.out.lt
  have hm3 : MemAt w3 m 8 (firstH ws q 6) := HMm.out.chg HC3.out (by simp)
  have hmu : m ≠ u := fun e => by have := HMm.out.lt; have := HUL.out; omega
  have hmx : m ≠ bx := fun e => by have := HS1.out; have := HML.out; omega
  have hux : u ≠ bx := fun e => by have := HS1.out; have := HUL.out; have := HC2.out.size; omega
  have hm3l := hm3.lt
  have hu3l := HMu.out.lt
  have hmid0 : Mid (w3.alloc (.cells (List.replicate n (natV 0)).toArray 3)) [] [] m 8 (firstH ws q 6) u 8 (firstH ws 0 6) ((Value.slice none 0 0).ownBlock.toList ++ [w3.heap.size, bx]) :=
    ⟨Paths.nil _, hm3.chg hC4 (by simp), HMu.out.chg hC4 (by simp), fun x hx => (by cases hx), (by simp [Value.ownBlock]; exact ⟨hmu, by omega, hmx⟩), (by simp [Value.ownBlock]; exact ⟨by omega, hux⟩), (by simp [Value.ownBlock]; omega)⟩
  have HMid0 := Lib.hid hmid0
  have HB4 := Lib.hid (show w.heap.size ≤ w3.heap.size from Nat.le_trans HC1.out.size (Nat.le_trans HC2.out.size HC3.out.size))
  have HC14 := Lib.hid ((HC1.out.trans (HC2.out.trans HC3.out)).trans hC4)
  have hw3l : w3.heap.size < (w3.alloc (.cells (List.replicate n (natV 0)).toArray 3)).heap.size := by simp
  have HWl := Lib.hid hw3l
  have hbx3 : bx < w3.heap.size := hbx3
  clear hmid0 hC4 hm3 hmu hmx hux hm3l hu3l HX3 HC4 hw3l
  rw [show Array.replicate n (natV 0) = (List.replicate n (natV 0)).toArray by simp]
  generalize w3.alloc _ = W0 at *
  have HBxl := Lib.hid HX4.out.lt
  have HBn := Lib.hid (show bx < w3.heap.size from hbx3)
  obtain ⟨ba, hba⟩ : ∃ ba, w3.heap.size = ba := ⟨_, rfl⟩
  rw [hba] at HBa HMid0 HWl HB4 HBn ⊢
  clear hbx3
  have HUm := Lib.hid (show m < w3.heap.size ∧ u < w3.heap.size ∧ w.heap.size ≤ m ∧ w.heap.size ≤ u from ⟨Nat.lt_of_lt_of_le HMm.out.lt HC3.out.size, HMu.out.lt, Nat.le_trans HC1.out.size HML.out, Nat.le_trans (Nat.le_trans HC1.out.size HC2.out.size) HUL.out⟩)
  clear hba HMm HMu
  obtain ⟨mx, hmx⟩ : ∃ mx : List Value, [.int .u64 seq, .slice AP ps.length capP, .slice AK ks.length capK] = mx := ⟨_, rfl⟩
  rw [hmx] at HX4
  have HMx := Lib.hid hmx
  clear hmx HX
  go_wp2_with fail
  go_loopw [9, 11] (fun v i wr => MakeRel w W0 n m u (firstH ws q 6) (firstH ws 0 6) bx ba mx v i wr) (fun _ i _ => n - (intOf i).toNat)
  case atStart =>
    exact ⟨0, [], Nat.zero_le _, rfl, rfl, HMid0.out, ⟨rfl, .inl ⟨rfl, rfl⟩⟩, HBa.out, HX4.out, Chg.refl _ _, fun x hx => (by cases hx)⟩
  case round =>
    clear HMid0 HBa HX4
    obtain ⟨k, fr, hk, rfl, hfl, hmid, hrow, hba, hbx, hC, hge⟩ := hrel
    have HMid := Lib.hid hmid
    have HRow := Lib.hid hrow
    have HBa := Lib.hid hba
    have HX5 := Lib.hid hbx
    have HC5 := Lib.hid hC
    have HGe := Lib.hid hge
    have HFl := Lib.hid hfl
    have hszr := hC.size
    clear hmid hrow hba hbx hC hge hfl
    by_cases hlt : k < n
    · have hkn : (k : Int) < n := by omega
      have HK := Lib.hid hlt
      go_wp2_with fail
      refine (SNew_e wr).mono ?_
      rintro e w5 ⟨p, F, rfl, hp, hM⟩
      have hmid5 := HMid.out.add hp hM trivial
      have HMid5 := Lib.hid hmid5
      have hown5 := HRow.out
      have hrow5 := ownsRow_chg hown5 hM.chg (fun x hx e => (by cases e))
      have HRow5 := Lib.hid hrow5
      have HBa5 := Lib.hid (hM.chg.blk HBa.out (by simp))
      have HX6 := Lib.hid (hM.chg.blk HX5.out (by simp))
      have HC6 := Lib.hid (HC5.out.trans hM.chg)
      have HF5 := Lib.hid (show ∀ x ∈ F, w.heap.size ≤ x from fun x hx => (hM.new x hx).elim (fun e => (by cases e)) (fun e => by have := HB4.out; have := HWl.out; omega))
      have hsz5 : W0.heap.size ≤ w5.heap.size := HC6.out.size
      have hk3 : k ≤ 3 := by have := HN3.out; omega
      clear hp hM hmid5 hown5 hrow5 HMid HRow HBa HX5 HC5 hszr
      go_wp2_with (first
        | (at_builtin; refine wpList_append_own_at _ rfl (.tmp 49) (.tmp 51) 83 rfl (W0.heap.size) 31 i0 (.pointer none) 1 8 Try.underlying83 hi hz0 hz1 hz2 rfl (by decide) _ _ _ rfl (HRow5.out.alloc _) ⟨w5.heap.size, 0, none⟩ 1 1 [.pointer (some ⟨p, 0, none⟩)] rfl rfl (cells_at (by simp) [.pointer (some ⟨p, 0, none⟩)] _) (by simp [Value.oneCell']) (by unfold maxLen; omega) (by omega) (by first | omega | (simp; omega) | simp) ?_; intro va1 wa1 hown1 hgrow1 _ hblk1; have hsz1 := hgrow1.size; have HO1 := Lib.hid hown1; have HG1 := Lib.hid hgrow1; have HB1 := Lib.hid hblk1; clear hown1 hgrow1 hblk1)
        | fail)
      go_roundw
      case rel =>
        have hA := HMid5.out.look ((Chg.refl [] w5).alloc (.cells #[.pointer (some ⟨p, 0, none⟩)] 31))
        refine ⟨k + 1, fr ++ [(p, F)], HK.out, by go_num, by simp [HFl.out], ?_, ?_, (HBa5.out.alloc _).grew (HRow5.out.alloc _) HG1.out HWl.out, (HX6.out.alloc _).grew (HRow5.out.alloc _) HG1.out HBxl.out, (HC6.out.alloc _).grew (HRow5.out.alloc _) HG1.out (fun q h1 h2 => by omega), fun x hx => ?_⟩
        · rw [List.replicate_succ']
          rcases HB1.out with e | e
          · rw [e]; exact hA.chg (Chg.of_grown HG1.out) (fun x hx => List.mem_append.2 (.inl hx))
          · refine (hA.beside (Chg.of_grown HG1.out) (fun x hx => List.mem_append.2 (.inl hx)) (Nat.le_refl _) ((HO1.out.lt _ e).2)).less (fun x hx => ?_)
            rw [e] at hx
            simp only [Option.toList_some, List.cons_append, List.nil_append, List.mem_cons, List.mem_append] at hx ⊢
            rcases hx with h | h
            · exact .inl h
            · exact .inr (.inr h)
        · have := HO1.out
          rw [show ((fr ++ [(p, F)]).map (·.1)).flatMap encQ = (fr.map (·.1)).flatMap encQ ++ [.pointer (some ⟨p, 0, none⟩)] by simp [encQ]]
          exact this
        · have : x ∈ frF fr ∨ x ∈ F := by
            unfold frF at hx ⊢
            rw [List.flatMap_append, List.mem_append] at hx
            exact hx.imp id (fun e => by simpa using e)
          exact this.elim (HGe.out x) (HF5.out x)
      case measure => simp [intOf]; omega
    · have hkn : ¬ ((k : Int) < n) := by omega
      obtain rfl : k = n := by omega
      have x2 : wr.cell? ⟨bx, 2, none⟩ = some (.slice AK ks.length capK) := (HX5.out.cell 2).trans (by rw [← HMx.out]; rfl)
      by_cases hk0 : k = 0
      · subst hk0
        have HX2 := Lib.hid x2
        clear hlt hkn hk x2
        go_wp2_with fail
        go_loopw [12] (fun i wx => i = .int .i64 0 ∧ wx = wr) (fun _ _ => 0)
        case atStart => exact ⟨rfl, rfl⟩
        case round =>
          obtain ⟨rfl, rfl⟩ := hrel
          have x2 := HX2.out
          by_cases hks : 0 < ks.length
          · have hks' : (0 : Int) < (ks.length : Int) := by omega
            go_wp2_with fail
            go_ret
            exact ⟨rfl, (HC14.out.trans HC5.out).nil_below⟩
          · have hks' : ¬ (0 : Int) < (ks.length : Int) := by omega
            clear hks
            go_wp2_with fail
            go_ret
            exact ⟨rfl, (HC14.out.trans HC5.out).nil_below⟩
      · obtain ⟨bl, cl, rfl, hbl1, hbl2, hbl3⟩ := ownsRow_posC HRow.out (by omega)
        obtain ⟨A2, c2, hv2, _, _, _, hR2, _⟩ := Rd.of_row (enc := encQ) (l := fr.map (·.1)) (fun _ => rfl) (show wr.ownsRow W0.heap.size 31 1 _ (fr.map (·.1)).length ((fr.map (·.1)).flatMap encQ) by rw [List.length_map, HFl.out]; exact HRow.out)
        obtain rfl : some ⟨bl, 0, none⟩ = A2 := by simp at hv2; exact hv2.1
        have HRQ := Lib.hid hR2
        have hmid := HMid.out.less (O' := [ba, bl, bx]) (fun x hx => by simp [Value.ownBlock] at hx ⊢; omega)
        have HMid2 := Lib.hid hmid
        have hpos : (0 : Int) < (k : Int) := by omega
        have HCw := Lib.hid (HC14.out.trans HC5.out)
        have HBl1 := Lib.hid hbl1
        clear hv2 hR2 hmid hlt hkn hk x2 hbl1 hbl2 hbl3 hn3
        obtain ⟨Q, hQ⟩ : ∃ Q, fr.map (·.1) = Q := ⟨_, rfl⟩
        have HQQ := Lib.hid hQ
        have HQl := Lib.hid (show Q.length = k by rw [← hQ, List.length_map]; exact HFl.out)
        rw [hQ] at HRQ
        have HBB := Lib.hid (show ba ≠ bx ∧ ba ≠ bl from ⟨by have := HBn.out; omega, by have := HWl.out; have := HBl1.out; omega⟩)
        clear hQ
        go_wp2_with fail
        go_loopw [12] (fun i wx => TurnRel w k m u bx ba bl mx Q ks.length i wx) (fun i _ => ks.length - (intOf i).toNat)
        case atStart =>
          refine ⟨0, fr, List.replicate k {}, 8, 8, _, _, List.replicate k 0, Nat.zero_le _, rfl, HMid2.out, HQQ.out, SI.first ws q HQ.out.1 HQ.out.2 k, Nat.le_refl _, Nat.le_refl _, ?_, by simp, ?_, HX5.out, HRQ.out, HCw.out, ?_⟩
          · rw [List.map_replicate]; exact HBa.out
          · intro a ha; simp at ha; omega
          · intro x hx
            simp only [List.mem_cons] at hx
            rcases hx with rfl | rfl | hx
            · exact HUm.out.2.2.1
            · exact HUm.out.2.2.2
            · exact HGe.out x hx
        case round =>
          clear HMid HMid2 HBa HX5 HRQ HQQ HGe HFl HRow HCw
          obtain ⟨t, fr, l, c, d, h, g, ats, ht, rfl, hmid, hQ, hSI, hc, hd, hba, hal, hat, hK⟩ := hrel
          have HMid := Lib.hid hmid
          have HQQ := Lib.hid hQ
          have HSI := Lib.hid hSI
          have HCD := Lib.hid (And.intro hc hd)
          have HBa := Lib.hid hba
          have HAt := Lib.hid (And.intro hal hat)
          have HK := Lib.hid hK
          clear hmid hQ hSI hc hd hba hal hat hK
          have x2 : wr.cell? ⟨bx, 2, none⟩ = some (.slice AK ks.length capK) := (HK.out.box.cell 2).trans (by rw [← HMx.out]; rfl)
          by_cases hlt : t < ks.length
          · have hkt : (t : Int) < (ks.length : Int) := by omega
            obtain ⟨bk, ok, rfl, hbk, hcell⟩ := HRK.out.keep (Nat.le_refl _) HK.out.chg (by simp) (by omega)
            have c0 : wr.cell? ⟨bk, ok + t, none⟩ = some (.int .u8 ks[t]) := by simpa [encK] using hcell t hlt 0 (by decide)
            have HKv := Lib.hid (HKs.out ks[t] (List.getElem_mem hlt))
            have HT := Lib.hid hlt
            clear hcell hbk
            generalize ks[t] = kv at *
            clear hlt
            have h00 : ((k : Int) == 0) = false := by simp; omega
            have h01 : ((k : Int) == -1) = false := by simp
            have hkv : 0 ≤ kv ∧ kv ≤ 255 := by have := HKv.out; simp [Lit.wf, IntKind.min, IntKind.max, IntKind.signed, IntKind.bits] at this; omega
            have hwk : wrap64 kv = kv := by unfold wrap64; omega
            obtain ⟨x, hx, hxk⟩ : ∃ x : Nat, (wrap64 kv).tmod (k : Int) = x ∧ x < k := by
              rw [hwk]
              have h1 := Int.tmod_nonneg (k : Int) hkv.1
              have h2 := Int.tmod_lt_of_pos kv hpos
              exact ⟨(kv.tmod k).toNat, by omega, by omega⟩
            have HHx := Lib.hid hxk
            have hxi : (x : Int) < k := by omega
            have hxf : x < fr.length := by have := HQl.out; rw [← HQQ.out, List.length_map] at this; omega
            have hxl : x < l.length := by rw [← HMid.out.paths.len]; exact hxf
            have HXf := Lib.hid (And.intro hxf hxl)
            obtain ⟨b2, o2, e2, hb2, hcell2⟩ := HK.out.row (by have := HQl.out; omega)
            obtain ⟨e3, e4⟩ : bl = b2 ∧ 0 = o2 := by simpa using e2
            subst e3 e4
            have c1 : wr.cell? ⟨bl, x, none⟩ = some (.pointer (some ⟨fr[x].1, 0, none⟩)) := by
              have := hcell2 x (by rw [HQl.out]; exact hxk) 0 (by decide)
              have e : Q[x]'(by rw [HQl.out]; exact hxk) = fr[x].1 := by simp [← HQQ.out]
              rw [e] at this
              simpa [encQ] using this
            clear hcell2 e2 hb2 hkv hwk
            have HPth := Lib.hid (HMid.out.paths.path x hxf hxl)
            have hok := HMid.out.paths.ok _ (List.getElem_mem hxl)
            have HOk := Lib.hid hok
            clear hok
            go_wp2_with fail
            refine (Points_any wr _ _ _ HPth.out).mono ?_
            rintro e w' ⟨rfl, rfl⟩
            go_wp2_with fail
            refine (Writing_any wr _ _ _ HPth.out).mono ?_
            rintro e w' ⟨rfl, rfl⟩
            go_wp2_with fail
            refine (Want_any wr _ _ _ HPth.out).mono ?_
            rintro e w1 ⟨rfl, hp1, hC1⟩
            have hX := hC1.trans ((Chg.refl [] w1).alloc (.cells #[.int .i64 l[x].want.op, .int .i64 l[x].want.addr, .int .u64 l[x].want.val, .int .u64 l[x].want.old] 49))
            have HX1 := Lib.hid hX
            have HM1 := Lib.hid (HMid.out.look hX)
            have HK1 := Lib.hid (HK.out.step HMid.out HB4.out HBB.out hX (by simp))
            have HBa1 := Lib.hid (hX.blk HBa.out (by simp))
            have HWt := Lib.hid (PS.want_ok HOk.out HPth.out.pairs.2.2.1 HPth.out.pairs.2.2.2.1)
            clear hp1 hC1 hX c0 c1 x2
            unfold Rq.val'
            generalize hbz : l[x].busy = bz
            have HBz := Lib.hid hbz
            clear hbz
            go_upto_if 85 with fail
            go_cut [] from 86 to 123 (fun wx => ActRel w k m u bx ba bl mx Q t fr l d g x hxf hxl wx)
            case first =>
              cases bz with
              | true =>
                go_wp2_with fail
                refine (Answer_any _ m c h l[x].want HWt.out (by have := HCD.out.1; have := HKl.out; have := HT.out; unfold maxLen; omega) HM1.out.mem).mono ?_
                rintro e w2 ⟨rfl, hm2, hC2⟩
                have HM2 := Lib.hid (HM1.out.mstep hm2 hC2)
                have HK2 := Lib.hid (HK1.out.step HM1.out HB4.out HBB.out hC2 (by simp))
                have hba : ba ≠ m := fun e => HM1.out.ne (by simp [e])
                have HBa2 := Lib.hid (hC2.blk HBa1.out (by simpa using hba))
                clear hm2 hC2 hba
                go_wp2_with fail
                refine (Give_any w2 _ _ _ _ _ (HMid.out.mem.ok _) HOk.out (HM2.out.paths.path x hxf hxl)).mono ?_
                rintro e w3 ⟨rfl, F3, hp3, hM3⟩
                have HM3 := Lib.hid (HM2.out.step hxf hp3 hM3 (PS.give_ok (HMid.out.mem.ok _) HOk.out))
                have HK3 := Lib.hid ((HK2.out.step HM2.out HB4.out HBB.out hM3.chg (fun y hy => .inr (by simp only [List.mem_cons]; exact .inr (.inr (mem_frF.2 ⟨x, hxf, hy⟩))))).frs (fr' := fr.set x (fr[x].1, F3)) (fun y hy => by
                  rcases mem_frF_set hxf hy with e | e
                  · rcases hM3.new y e with e | e
                    · exact HK2.out.new y (by simp only [List.mem_cons]; exact .inr (.inr (mem_frF.2 ⟨x, hxf, e⟩)))
                    · exact Nat.le_trans HK2.out.chg.size e
                  · exact HK2.out.new y (by simp [e])))
                have HBa3 := Lib.hid (hM3.chg.blk HBa2.out (fun e => HM2.out.off ba (mem_frF.2 ⟨x, hxf, e⟩) (by simp)))
                clear hp3 hM3
                go_wp2_with fail
                go_meet
                obtain ⟨g1, g2⟩ := HSI.out.give hxl HOk.out HBz.out (by have := HKl.out; have := HT.out; omega) (by have := HN3.out; have := HMid.out.paths.len; have := HQl.out; rw [← HQQ.out, List.length_map] at this; omega)
                exact ⟨F3, _, _, _, ats, HM3.out, g1, g2, by have e := HCD.out.1; exact Nat.le_trans (ansC_le _ _ _) (by omega), HBa3.out, HAt.out.1, fun a ha => by have := HAt.out.2 a ha; omega, HK3.out⟩
              | false =>
                have hxp : x < ps.length := by have := HNn.out; omega
                obtain ⟨sl, hsl⟩ : ∃ sl, ps[x] = sl := ⟨_, rfl⟩
                obtain ⟨hslk, hs100⟩ := HPs.out ps[x] (List.getElem_mem hxp)
                rw [hsl] at hslk hs100
                obtain ⟨sA, sC, xs⟩ := sl
                obtain ⟨hok1, hrd1⟩ := hslk
                simp only at hok1 hrd1 hs100
                have HOk1 := Lib.hid hok1
                have HRd1 := Lib.hid hrd1
                have hxa : x < ats.length := by rw [HAt.out.1]; exact HHx.out
                have hax : ats[x] ≤ t := HAt.out.2 _ (List.getElem_mem hxa)
                obtain ⟨bp, op, rfl, hbp, hcp⟩ := HRP.out.keep (Nat.le_refl _) HK1.out.chg (by simp) (by omega)
                generalize w1.alloc _ = wy at *
                have e0 : wy.cell? ⟨ba, x, none⟩ = some (.int .i64 ats[x]) := by rw [HBa1.out.cell, List.getElem?_map, List.getElem?_eq_getElem hxa]; rfl
                have e1 : wy.cell? ⟨bx, 1, none⟩ = some (.slice (some ⟨bp, op, none⟩) ps.length capP) := (HK1.out.box.cell 1).trans (by rw [← HMx.out]; rfl)
                have e2 : wy.cell? ⟨bp, op + x, none⟩ = some (.slice sA xs.length sC) := by
                  have := hcp x hxp 0 (by decide)
                  rw [hsl] at this
                  simpa [encSl] using this
                have hxpi : (x : Int) < (ps.length : Int) := by omega
                generalize hav : ats[x] = av at *
                have HAv := Lib.hid hav
                have HHs := Lib.hid (And.intro hxp (And.intro hs100 (And.intro hxa hax)))
                have HBp := Lib.hid hbp
                clear hok1 hrd1 hcp hbp hsl hav
                by_cases hlo : av < xs.length
                · have hloi : (av : Int) < (xs.length : Int) := by omega
                  go_wp2_with fail
                  go_quiet (fail)
                  have HM2 := Lib.hid (HM1.out.look (((Chg.refl [] wy).drewN nq)))
                  have HK2 := Lib.hid (HK1.out.step HM1.out HB4.out HBB.out ((Chg.refl [] wy).drewN nq) (by simp))
                  have HBa2 := Lib.hid (HBa1.out.drewN nq)
                  have f0 : (wy.drewN nq).cell? ⟨ba, x, none⟩ = some (.int .i64 av) := e0
                  have f1 : (wy.drewN nq).cell? ⟨bx, 1, none⟩ = some (.slice (some ⟨bp, op, none⟩) ps.length capP) := e1
                  have f2 : (wy.drewN nq).cell? ⟨bp, op + x, none⟩ = some (.slice sA xs.length sC) := e2
                  clear HM1 HK1 HBa1 e0 e1 e2
                  generalize wy.drewN nq = wz at *
                  obtain ⟨bs, os, rfl, hbs, hcs⟩ := HRd1.out.keep (Nat.le_refl _) HK2.out.chg (by simp) (by omega)
                  have g0 : wz.cell? ⟨bs, os + av * 4, none⟩ = some (.int .i64 xs[av].k) := hcs av hlo 0 (by decide)
                  have g1 : wz.cell? ⟨bs, os + av * 4 + 1, none⟩ = some (.int .i64 xs[av].a) := hcs av hlo 1 (by decide)
                  have g2 : wz.cell? ⟨bs, os + av * 4 + 2, none⟩ = some (.int .u64 xs[av].v) := hcs av hlo 2 (by decide)
                  have g3 : wz.cell? ⟨bs, os + av * 4 + 3, none⟩ = some (.bool xs[av].ok) := hcs av hlo 3 (by decide)
                  have HOv := Lib.hid (HOk1.out xs[av] (List.getElem_mem hlo))
                  generalize xs[av] = o at *
                  obtain ⟨ok1, oa, ov, ob⟩ := o
                  simp only at g0 g1 g2 g3
                  have hlz : w.heap.size ≤ wz.heap.size := HK2.out.chg.size
                  have HNb := Lib.hid (show ∀ y ∈ fr[x].2, w.heap.size ≤ y from fun y hy => HK2.out.new y (by simp only [List.mem_cons]; exact .inr (.inr (mem_frF.2 ⟨x, hxf, hy⟩))))
                  have HNa := Lib.hid (show ba ∉ fr[x].2 ∧ bx ∉ fr[x].2 from ⟨fun e => HM2.out.off ba (mem_frF.2 ⟨x, hxf, e⟩) (by simp), fun e => HM2.out.off bx (mem_frF.2 ⟨x, hxf, e⟩) (by simp)⟩)
                  have HLb := Lib.hid (show bp < wz.heap.size ∧ bs < wz.heap.size ∧ ba < wz.heap.size ∧ bx < wz.heap.size ∧ bp ∉ fr[x].2 ∧ bs ∉ fr[x].2 from ⟨by have := HBp.out; omega, by omega, HBa2.out.lt, HK2.out.box.lt, fun e => by have := HNb.out _ e; have := HBp.out; omega, fun e => by have := HNb.out _ e; omega⟩)
                  clear hcs hbs hlz
                  go_wp2_with fail
                  go_region_held3 (fun w' => w'.cell? ⟨ba, x, none⟩ = some (.int .i64 av) ∧ w'.cell? ⟨bx, 1, none⟩ = some (.slice (some ⟨bp, op, none⟩) ps.length capP) ∧ w'.cell? ⟨bp, op + x, none⟩ = some (.slice (some ⟨bs, os, none⟩) xs.length sC) ∧ w'.cell? ⟨bs, os + av * 4, none⟩ = some (.int .i64 ok1) ∧ w'.cell? ⟨bs, os + av * 4 + 1, none⟩ = some (.int .i64 oa) ∧ w'.cell? ⟨bs, os + av * 4 + 2, none⟩ = some (.int .u64 ov) ∧ w'.cell? ⟨bs, os + av * 4 + 3, none⟩ = some (.bool ob))
                    (first | exact ⟨f0, f1, f2, g0, g1, g2, g3⟩ | (obtain ⟨F2, hp2, hm2⟩ := HG.out; exact ⟨(hm2.chg.cell HLb.out.2.2.1 HNa.out.1 _).trans f0, (hm2.chg.cell HLb.out.2.2.2.1 HNa.out.2 _).trans f1, (hm2.chg.cell HLb.out.1 HLb.out.2.2.2.2.1 _).trans f2, (hm2.chg.cell HLb.out.2.1 HLb.out.2.2.2.2.2 _).trans g0, (hm2.chg.cell HLb.out.2.1 HLb.out.2.2.2.2.2 _).trans g1, (hm2.chg.cell HLb.out.2.1 HLb.out.2.2.2.2.2 _).trans g2, (hm2.chg.cell HLb.out.2.1 HLb.out.2.2.2.2.2 _).trans g3⟩))
                    (first
                      | (go_at_call 22; refine (begins_any _ fr[x].1 fr[x].2 l[x] ok1 oa ov 6 ob HOv.out.1 HOv.out.2 (by decide) (by decide) ((HM2.out.paths.path x hxf hxl).look ((Chg.refl [] _).drew))).mono ?_; rintro e w' ⟨rfl, hq⟩; have HG := Lib.hid hq; clear hq)
                      | fail)
                  obtain ⟨F5, hp5, hM5⟩ := HG.out
                  have hlk := (Chg.refl [] wz).drew
                  have HMd := Lib.hid (HM2.out.look hlk)
                  have HKd := Lib.hid (HK2.out.step HM2.out HB4.out HBB.out hlk (by simp))
                  have hpi := HSI.out.pi _ (List.getElem_mem hxl)
                  have HM3 := Lib.hid (HMd.out.step hxf hp5 hM5 (PS.begins_ok (by decide) (by decide) HOk.out))
                  have HK3 := Lib.hid ((HKd.out.step HMd.out HB4.out HBB.out hM5.chg (fun y hy => .inr (by simp only [List.mem_cons]; exact .inr (.inr (mem_frF.2 ⟨x, hxf, hy⟩))))).frs (fr' := fr.set x (fr[x].1, F5)) (fun y hy => by
                    rcases mem_frF_set hxf hy with e | e
                    · rcases hM5.new y e with e | e
                      · exact HKd.out.new y (by simp only [List.mem_cons]; exact .inr (.inr (mem_frF.2 ⟨x, hxf, e⟩)))
                      · exact Nat.le_trans HKd.out.chg.size e
                    · exact HKd.out.new y (by simp [e])))
                  have hB3 := hM5.chg.blk HBa2.out.drew HNa.out.1
                  have HB3 := Lib.hid hB3
                  have z0 : w'.cell? ⟨ba, x, none⟩ = some (.int .i64 av) := by rw [hB3.cell, List.getElem?_map, List.getElem?_eq_getElem HHs.out.2.2.1, HAv.out]; rfl
                  have zf : w'.frozen? ⟨ba, x, none⟩ = false := hB3.free x
                  have hav9 : av ≤ 3000 := by have := HHs.out.2.2.2; have := HKl.out; have := HT.out; omega
                  have HPi := Lib.hid hpi
                  clear hp5 hM5 hlk hB3 HG hpi f0 f1 f2 g0 g1 g2 g3
                  go_wp2_with fail
                  go_meet
                  have hC9 := (Chg.refl [ba] w').setCell (p := ⟨ba, x, none⟩) (by simp) (.int .i64 ((av : Int) + 1))
                  refine ⟨F5, _, c, h, ats.set x (av + 1), HM3.out.chg hC9 (by simp), by rw [shB_begins HPi.out]; exact HSI.out.begins hxl ok1 oa ov, .inl (HPi.out.begins ok1 oa ov).2.1, by have := HCD.out.1; omega, ?_, by rw [List.length_set]; exact HAt.out.1, fun a ha => ?_, HK3.out.step HM3.out HB4.out HBB.out hC9 (by simp)⟩
                  · have := HB3.out.set x (.int .i64 ((av : Int) + 1))
                    rw [List.map_set]; exact this
                  · rcases List.mem_or_eq_of_mem_set ha with e | e
                    · have := HAt.out.2 a e; omega
                    · have := HHs.out.2.2.2; omega
                · have hloi : ¬ (av : Int) < (xs.length : Int) := by omega
                  go_wp2_with fail
                  go_quiet (fail)
                  go_wp2_with fail
                  go_meet
                  exact act_none (HM1.out.look ((Chg.refl [] wy).drewN nq)) HSI.out HCD.out.1 (HBa1.out.drewN nq) HAt.out.1 HAt.out.2 (HK1.out.step HM1.out HB4.out HBB.out ((Chg.refl [] wy).drewN nq) (by simp))
            case rest =>
              obtain ⟨F', s', c', h', ats', hM, hS, hP, hc', hB, hL, hA, hK⟩ := hcut
              rename World => wa
              have hpth := hM.paths.path x (by rw [List.length_set]; exact hxf) (by rw [List.length_set]; exact hxl)
              simp only [List.getElem_set_self] at hpth
              have hok' := hM.paths.ok s' (List.mem_of_getElem? (i := x) (by rw [List.getElem?_set_self hxl]))
              have hQ' : (fr.set x (fr[x].1, F')).map (·.1) = Q := by
                rw [List.map_set]
                have e : (fr.map (·.1)).set x ((fr.map (·.1))[x]'(by rw [List.length_map]; exact hxf)) = fr.map (·.1) := List.set_getElem_self _
                rw [List.getElem_map] at e
                rw [e]; exact HQQ.out
              have hll : (l.set x s').length = k := by rw [← hM.paths.len, ← HQl.out, ← hQ', List.length_map]
              have hpt0 := HSI.out.pts _ (List.getElem_mem hxl)
              have HPth' := Lib.hid hpth
              have HOk' := Lib.hid hok'
              have HQ' := Lib.hid hQ'
              have HLl := Lib.hid hll
              have HM' := Lib.hid hM
              have HS' := Lib.hid hS
              have HP' := Lib.hid hP
              have HC' := Lib.hid hc'
              have HB' := Lib.hid hB
              have HL' := Lib.hid (And.intro hL hA)
              have HK' := Lib.hid hK
              generalize hfr' : fr.set x (fr[x].1, F') = fr' at *
              generalize hl' : l.set x s' = l' at *
              have HLx := Lib.hid (show ∃ hx : x < l'.length, l'[x] = s' from ⟨by rw [← hl', List.length_set]; exact hxl, by simp [← hl']⟩)
              generalize hg' : shB l[x] s' g = g' at *
              have HGg := Lib.hid hg'
              clear hM hS hP hc' hB hL hA hK hpth hok' hQ' hll hfr' hl' hg' HM1 HX1 HK1 HBa1 HWt HMid HBa HK HOk
              generalize hpo : l[x].points = po at *
              generalize hwo : l[x].writing = wo at *
              have HWo := Lib.hid hwo
              clear hwo hpo
              have hpo0 : 0 ≤ po := hpt0.1
              have hpo1 : po ≤ 3000 := by have := hpt0.2; have := HKl.out; have := HT.out; omega
              clear hpt0
              obtain ⟨pn, hpn⟩ : ∃ pn, s'.points = pn := ⟨_, rfl⟩
              have hpn1 : ¬ pn < po := by rcases HP'.out with e | ⟨e, _⟩ <;> omega
              have hpn2 : ¬ po + 1 < pn := by rcases HP'.out with e | ⟨e, _⟩ <;> omega
              have HPn := Lib.hid hpn
              have HPo := Lib.hid (And.intro hpo0 hpo1)
              clear hpn
              go_wp2_with fail
              refine (Points_any wa _ _ _ HPth'.out).mono ?_
              rintro e w' ⟨rfl, rfl⟩
              rw [HPn.out]
              go_upto_if 137 with fail
              generalize hbg : decide (po < pn) = bg
              have HBg := Lib.hid hbg
              clear hbg
              go_cut [] from 138 to 152 (fun wx => Chg [] wa wx)
              case first =>
                cases bg with
                | true =>
                  go_wp2_with fail
                  refine (SReads_any wa _ _ _ HPth'.out).mono ?_
                  rintro e w5 ⟨v5, rfl, hrow, hb⟩
                  obtain ⟨A5, c5, rfl, _, _, _, hR5, _⟩ := Rd.of_row (enc := encP) (l := s'.R) (fun _ => rfl) (show w5.ownsRow wa.heap.size 85 2 _ s'.R.length (s'.R.flatMap encP) by rw [List.flatMap_def]; exact hrow)
                  have HC5 := Lib.hid (Chg.of_below hb [])
                  have HR5 := Lib.hid hR5
                  have hlen5 : s'.R.length ≤ 128 := HPth'.out.pairs.1
                  have HRA := Lib.hid (show ReadAll h' s'.R by
                    rcases HP'.out with e | ⟨_, e⟩
                    · have := HPn.out; have := of_decide_eq_true HBg.out; omega
                    · exact e)
                  have HPk := Lib.hid HPth'.out.pairs.2.2.1
                  clear hrow hb hR5
                  go_wp2_with fail
                  go_loopw [141] (fun i wx => ∃ j : Nat, j ≤ s'.R.length ∧ i = .int .i64 j ∧ Chg [] w5 wx) (fun i _ => s'.R.length - (intOf i).toNat)
                  case atStart => exact ⟨0, Nat.zero_le _, rfl, Chg.refl _ _⟩
                  case round =>
                    obtain ⟨j, hj, rfl, hC⟩ := hrel
                    have HC6 := Lib.hid hC
                    clear hC
                    by_cases hlt6 : j < s'.R.length
                    · have hji : (j : Int) < (s'.R.length : Int) := by omega
                      obtain ⟨b6, o6, rfl, hb6, hc6⟩ := (HR5.out.chg0 HC6.out) (by omega)
                      have c0 : wr.cell? ⟨b6, o6 + j * 2, none⟩ = some (.int .i64 s'.R[j].1) := hc6 j hlt6 0 (by decide)
                      have c1 : wr.cell? ⟨b6, o6 + j * 2 + 1, none⟩ = some (.int .u64 s'.R[j].2) := hc6 j hlt6 1 (by decide)
                      have hq := HRA.out _ (List.getElem_mem hlt6)
                      have hk6 := HPk.out _ (List.getElem_mem hlt6)
                      have HJ := Lib.hid hlt6
                      generalize s'.R[j] = qq at *
                      obtain ⟨qa, qv⟩ := qq
                      simp only at c0 c1 hq hk6
                      have hlk := ((HM'.out.look ((HC5.out.trans HC6.out).alloc (.cells #[.int .i64 qa, .int .u64 qv] 85))).mem.look (a := qa) (by exact hk6.1))
                      rw [hq] at hlk
                      clear hc6 hb6 hq hk6 hlt6
                      go_wp2_with fail
                      go_roundw
                      case rel => exact ⟨j + 1, HJ.out, by go_num, HC6.out.alloc _⟩
                      case measure => have := HJ.out; simp [intOf]; omega
                    · have hji : ¬ (j : Int) < (s'.R.length : Int) := by omega
                      clear hlt6
                      go_wp2_with fail
                      go_meet
                      exact HC5.out.trans HC6.out
                | false =>
                  go_wp2_with fail
                  go_meet
                  exact Chg.refl _ _
              case rest =>
                rename World => wd
                have HMd := Lib.hid (HM'.out.look hcut)
                have HKd := Lib.hid (HK'.out.step HM'.out HB4.out HBB.out hcut (by simp))
                have HBd := Lib.hid (hcut.blk HB'.out (by simp))
                have HPd := Lib.hid (HPth'.out.look hcut)
                clear hcut HM' HK' HB' HPth' HPn HPo hpn1 hpn2 hpo0 hpo1 HBg
                obtain ⟨wn, hwn⟩ : ∃ wn, s'.writing = wn := ⟨_, rfl⟩
                have HWn := Lib.hid hwn
                clear hwn
                go_upto_region 33 with fail
                go_cut [158] from 153 to 157 (fun v wx => v = .bool (wn && !wo) ∧ wx = wd)
                case first =>
                  go_wp2_with fail
                  refine (Writing_any wd _ _ _ HPd.out).mono ?_
                  rintro e w' ⟨rfl, rfl⟩
                  rw [HWn.out]
                  cases wn with
                  | true =>
                    go_wp2_with fail
                    go_meet
                    exact ⟨rfl, rfl⟩
                  | false =>
                    go_wp2_with fail
                    go_meet
                    exact ⟨rfl, rfl⟩
                case rest =>
                  obtain ⟨rfl, rfl⟩ := hcut
                  rename World => wd
                  generalize hbw : (wn && !wo) = bw
                  have HBw := Lib.hid hbw
                  clear hbw
                  go_upto_if 158 with fail
                  go_cut [] from 159 to 171 (fun wx => WroteRel w m u bx ba bl mx Q t fr' l' c' h' g' ats' wx)
                  case first =>
                    cases bw with
                    | true =>
                      have hge : g' = backH s'.W g := by
                        rw [← HGg.out]; unfold shB; rw [HWo.out, HWn.out, HBw.out]; rfl
                      have HGe2 := Lib.hid hge
                      clear hge
                      go_wp2_with fail
                      refine (SWrites_any wd _ _ _ HPd.out).mono ?_
                      rintro e w5 ⟨v5, rfl, hrow, hb⟩
                      obtain ⟨A5, c5, rfl, _, _, _, hR5, hown5⟩ := Rd.of_row (enc := encP) (l := s'.W) (fun _ => rfl) (show w5.ownsRow wd.heap.size 85 2 _ s'.W.length (s'.W.flatMap encP) by rw [List.flatMap_def]; exact hrow)
                      have HN5 := Lib.hid (show ∀ a, A5 = some a → a.block ∉ [u] from fun a e hx => by
                        have h1 := (hrow.lt _ (hown5 a e)).1
                        have h2 := HMd.out.sh.lt
                        simp only [List.mem_singleton] at hx
                        omega)
                      have HC5 := Lib.hid (Chg.of_below hb [])
                      have HR5 := Lib.hid hR5
                      have hlen5 : s'.W.length ≤ 128 := HPd.out.pairs.2.1
                      have HPk := Lib.hid HPd.out.pairs.2.2.2.1
                      have HM5 := Lib.hid (HMd.out.look HC5.out)
                      have HK5 := Lib.hid (HKd.out.step HMd.out HB4.out HBB.out HC5.out (by simp))
                      have HB5 := Lib.hid (HC5.out.blk HBd.out (by simp))
                      have HL5 := Lib.hid hlen5
                      clear hrow hb hR5 hown5
                      go_wp2_with fail
                      go_loopw [162] (fun i wx => WriteLoop w m u bx ba bl mx Q fr' l' c' h' d g s'.W A5 ats' i wx) (fun i _ => s'.W.length - (intOf i).toNat)
                      case atStart => exact ⟨0, d, Nat.zero_le _, rfl, HM5.out, Nat.le_refl _, HB5.out, HK5.out, HR5.out⟩
                      case round =>
                        obtain ⟨j, d1, hj, rfl, hM6, hd6, hB6, hK6, hR6⟩ := hrel
                        have HM6 := Lib.hid hM6
                        have HD6 := Lib.hid hd6
                        have HB6 := Lib.hid hB6
                        have HK6 := Lib.hid hK6
                        have HR6 := Lib.hid hR6
                        clear hM6 hd6 hB6 hK6 hR6
                        by_cases hlt6 : j < s'.W.length
                        · have hji : (j : Int) < (s'.W.length : Int) := by omega
                          obtain ⟨b6, o6, rfl, hb6, hc6⟩ := HR6.out (by omega)
                          have c0 : wr.cell? ⟨b6, o6 + j * 2, none⟩ = some (.int .i64 s'.W[j].1) := hc6 j hlt6 0 (by decide)
                          have c1 : wr.cell? ⟨b6, o6 + j * 2 + 1, none⟩ = some (.int .u64 s'.W[j].2) := hc6 j hlt6 1 (by decide)
                          have hk6 := HPk.out _ (List.getElem_mem hlt6)
                          have HTk := Lib.hid (show backH (s'.W.take (j + 1)) g = s'.W[j] :: backH (s'.W.take j) g by
                            rw [List.take_succ_eq_append_getElem hlt6]; unfold backH; rw [List.foldl_append]; rfl)
                          have HJ := Lib.hid hlt6
                          generalize s'.W[j] = qq at *
                          obtain ⟨qa, qv⟩ := qq
                          simp only at c0 c1 hk6
                          have HKk := Lib.hid hk6
                          have hal := (Chg.refl [] wr).alloc (.cells #[.int .i64 qa, .int .u64 qv] 85)
                          have HMa := Lib.hid (HM6.out.look hal)
                          have HKa := Lib.hid (HK6.out.step HM6.out HB4.out HBB.out hal (by simp))
                          have HBa := Lib.hid (hal.blk HB6.out (by simp))
                          have HRa := Lib.hid (HR6.out.chg0 hal)
                          have hd1 : d1 < maxLen := by have := HD6.out; have := HCD.out.2; have := HKl.out; have := HT.out; have := HL5.out; have := HJ.out; unfold maxLen; omega
                          have HD1 := Lib.hid hd1
                          clear hc6 hb6 hk6 hlt6 hal hd1
                          go_wp2_with (first
                            | (at_mapUpdate; refine wpList_memPut _ rfl _ _ _ (.inl rfl) u d1 _ rfl HMa.out.sh HD1.out qa qv rfl rfl HKk.out.1 (w64_of_wf HKk.out.2) ?_; intro w9 hk9 hC9; have HM9 := Lib.hid (HMa.out.should hk9 hC9); have HK9 := Lib.hid (HKa.out.step HMa.out HB4.out HBB.out hC9 (by simp)); have HB9 := Lib.hid (hC9.blk HBa.out (by have := HMa.out.nu; simp only [List.mem_cons, not_or] at this; simp only [List.mem_singleton]; exact fun e => this.1 e.symm)); have HR9 := Lib.hid (HRa.out.chg hC9 HN5.out); clear hk9 hC9)
                            | fail)
                          go_roundw
                          case rel =>
                            refine ⟨j + 1, upC d1 (backH (s'.W.take j) g) qa, HJ.out, by go_num, ?_, ?_, HB9.out, HK9.out, HR9.out⟩
                            · rw [HTk.out]; exact HM9.out
                            · have := upC_le d1 (backH (s'.W.take j) g) qa; have := HD6.out; omega
                          case measure => have := HJ.out; simp [intOf]; omega
                        · have hji : ¬ (j : Int) < (s'.W.length : Int) := by omega
                          have HJ := Lib.hid (show j = s'.W.length by omega)
                          clear hlt6
                          go_wp2_with fail
                          go_meet
                          refine ⟨d1, ?_, by have := HD6.out; have := HL5.out; have := HCD.out.2; have := HJ.out; omega, HB6.out, HK6.out⟩
                          have h1 := HM6.out
                          rw [HJ.out, List.take_length, ← HGe2.out] at h1
                          exact h1
                    | false =>
                      have hge : g' = g := by
                        rw [← HGg.out]; unfold shB; rw [HWo.out, HWn.out, HBw.out]; rfl
                      go_wp2_with fail
                      go_meet
                      exact ⟨d, by rw [hge]; exact HMd.out, by have := HCD.out.2; omega, HBd.out, HKd.out⟩
                  case rest =>
                    obtain ⟨d', hM, hd', hB, hK⟩ := hcut
                    rename World => we
                    have HMe := Lib.hid hM
                    have HDe := Lib.hid hd'
                    have HBe := Lib.hid hB
                    have HKe := Lib.hid hK
                    have HLf := Lib.hid (show fr'.length = k by rw [hM.paths.len]; exact HLl.out)
                    clear hM hd' hB hK HMd HKd HBd HPd
                    go_wp2_with fail
                    go_loopw [24, 25, 26, 27] (fun wv lv bv kv wx => CountRel l' we k wv lv bv kv wx) (fun _ _ _ kv _ => k - (intOf kv).toNat)
                    case atStart => exact ⟨0, Nat.zero_le _, rfl, rfl, rfl, rfl, rfl⟩
                    case round =>
                      obtain ⟨j, hj, rfl, rfl, rfl, rfl, rfl⟩ := hrel
                      rename World => we
                      by_cases hlt7 : j < k
                      · have hji : (j : Int) < (k : Int) := by omega
                        have hj3 : (j : Int) ≤ 3 := by have := HN3.out; omega
                        have hjf : j < fr'.length := by have := HLf.out; omega
                        have hjl : j < l'.length := by have := HLl.out; omega
                        have HJ := Lib.hid (And.intro hlt7 (And.intro hjf hjl))
                        have HPj := Lib.hid (HMe.out.paths.path j hjf hjl)
                        obtain ⟨b7, o7, e7, hb7, hc7⟩ := HKe.out.row (by have := HQl.out; omega)
                        obtain ⟨e3, e4⟩ : bl = b7 ∧ 0 = o7 := by simpa using e7
                        subst e3 e4
                        have c7 : we.cell? ⟨bl, j, none⟩ = some (.pointer (some ⟨fr'[j].1, 0, none⟩)) := by
                          have := hc7 j (by rw [HQl.out]; exact hlt7) 0 (by decide)
                          have e : Q[j]'(by rw [HQl.out]; exact hlt7) = fr'[j].1 := by simp [← HQ'.out]
                          rw [e] at this
                          simpa [encQ] using this
                        have hlk : (l'.take j).length ≤ 3 := by simp; have := HN3.out; omega
                        have hcw := cn_le (fun s => s.writing) (l'.take j)
                        have hcl := cn_le (fun s => s.live) (l'.take j)
                        have HTw := Lib.hid (show cn (fun s => s.writing) (l'.take (j + 1)) = cn (fun s => s.writing) (l'.take j) + b01 l'[j].writing by rw [List.take_succ_eq_append_getElem hjl, cn_snoc])
                        have HTl := Lib.hid (show cn (fun s => s.live) (l'.take (j + 1)) = cn (fun s => s.live) (l'.take j) + b01 l'[j].live by rw [List.take_succ_eq_append_getElem hjl, cn_snoc])
                        have HTb := Lib.hid (show (l'.take (j + 1)).any PS.busy = ((l'.take j).any PS.busy || l'[j].busy) by rw [List.take_succ_eq_append_getElem hjl, List.any_append, List.any_cons, List.any_nil, Bool.or_false])
                        generalize hxw : cn (fun s => s.writing) (l'.take j) = cw at *
                        generalize hxl : cn (fun s => s.live) (l'.take j) = cl2 at *
                        generalize hxb : (l'.take j).any PS.busy = bu at *
                        have hcw3 : cw ≤ 3 := by omega
                        have hcl3 : cl2 ≤ 3 := by omega
                        have HCw3 := Lib.hid (And.intro hcw3 hcl3)
                        clear hxw hxl hxb hc7 e7 hb7 hlk hcw hcl hcw3 hcl3
                        go_wp2_with fail
                        refine (Writing_any we _ _ _ HPj.out).mono ?_
                        rintro e w' ⟨rfl, rfl⟩
                        obtain ⟨jw, hjw⟩ : ∃ b, l'[j].writing = b := ⟨_, rfl⟩
                        obtain ⟨jl, hjl2⟩ : ∃ b, l'[j].live = b := ⟨_, rfl⟩
                        obtain ⟨jb, hjb⟩ : ∃ b, l'[j].busy = b := ⟨_, rfl⟩
                        rw [hjw]
                        have HJs := Lib.hid (And.intro hjw (And.intro hjl2 hjb))
                        clear hjw hjl2 hjb
                        go_upto_if 181 with fail
                        go_cut [24] from 182 to 183 (fun v wx => v = .int .i64 ((cw + b01 jw : Nat) : Int) ∧ wx = we)
                        case first =>
                          have hcw3 := HCw3.out.1
                          cases jw with
                          | true =>
                            go_wp2_with fail
                            go_meet
                            exact ⟨by simp [b01], rfl⟩
                          | false =>
                            go_wp2_with fail
                            go_meet
                            exact ⟨by simp [b01], rfl⟩
                        case rest =>
                          obtain ⟨rfl, rfl⟩ := hcut
                          rename World => we
                          go_wp2_with fail
                          refine (Live_any we _ _ _ HPj.out).mono ?_
                          rintro e w' ⟨rfl, rfl⟩
                          rw [HJs.out.2.1]
                          go_upto_if 188 with fail
                          go_cut [25] from 189 to 190 (fun v wx => v = .int .u64 ((cl2 + b01 jl : Nat) : Int) ∧ wx = we)
                          case first =>
                            have hcl3 := HCw3.out.2
                            have hwl : IntKind.u64.wrap ((cl2 : Int) + 1) = (cl2 : Int) + 1 := wrap_fit (by omega) (by omega)
                            cases jl with
                            | true =>
                              go_wp2_with fail
                              go_meet
                              exact ⟨by simp [b01], rfl⟩
                            | false =>
                              go_wp2_with fail
                              go_meet
                              exact ⟨by simp [b01], rfl⟩
                          case rest =>
                            obtain ⟨rfl, rfl⟩ := hcut
                            rename World => we
                            cases bu with
                            | true =>
                              go_wp2_with fail
                              go_roundw
                              case rel =>
                                refine ⟨j + 1, HJ.out.1, by go_num, ?_, ?_, ?_, rfl⟩
                                · (rw [HTw.out, HJs.out.1]) <;> simp
                                · (rw [HTl.out, HJs.out.2.1]) <;> simp
                                · (rw [HTb.out, HJs.out.2.2]) <;> simp
                              case measure => have := HJ.out.1; simp [intOf]; omega
                            | false =>
                              go_wp2_with fail
                              refine (Busy_any we _ _ _ HPj.out).mono ?_
                              rintro e w' ⟨rfl, rfl⟩
                              rw [HJs.out.2.2]
                              go_wp2_with fail
                              go_roundw
                              case rel =>
                                refine ⟨j + 1, HJ.out.1, by go_num, ?_, ?_, ?_, rfl⟩
                                · (rw [HTw.out, HJs.out.1]) <;> simp
                                · (rw [HTl.out, HJs.out.2.1]) <;> simp
                                · (rw [HTb.out, HJs.out.2.2]) <;> simp
                              case measure => have := HJ.out.1; simp [intOf]; omega
                      · have hji : ¬ (j : Int) < (k : Int) := by omega
                        obtain rfl : k = j := by omega
                        have htk : l'.take k = l' := List.take_of_length_le (by have := HLl.out; omega)
                        rw [htk]
                        have hlo := HS'.out.lo
                        have hod := HS'.out.od
                        have hone := HS'.out.one
                        have hwrs := HS'.out.writes
                        have hcl3 := cn_le (fun s => s.live) l'
                        rw [HLl.out] at hcl3
                        rw [← hwrs] at hod hone
                        have HZ := Lib.hid (show cn (fun s => s.writing) l' = 0 → ∀ a : Int, 8 ≤ a → getH h' a = getH g' a from fun e a ha => HS'.out.words (by rw [← hwrs]; exact e) ha)
                        have HLv := Lib.hid (show l'.any PS.busy = false → getH h' 1 = cn (fun s => s.live) l' from fun e => HS'.out.lives (fun s hs => by
                          have := List.any_eq_false.1 e s hs
                          simpa using this))
                        generalize hxw : cn (fun s => s.writing) l' = cw at *
                        generalize hxl : cn (fun s => s.live) l' = cl3 at *
                        generalize hxb : l'.any PS.busy = bu at *
                        have hl0 := HMe.out.mem.look (a := 0) (by decide)
                        have hl1 := HMe.out.mem.look (a := 1) (by decide)
                        have hm0 : (getH h' 0).tmod 2 = (cw : Int) := by rw [Int.tmod_eq_emod_of_nonneg hlo]; exact hod
                        have HC3 := Lib.hid hcl3
                        clear hxw hxl hxb hwrs hlo hod htk hcl3
                        have HC1 := Lib.hid hone
                        go_upto_region 48 with fail
                        go_cut [218] from 199 to 217 (fun v wx => v = .bool false ∧ wx = we)
                        case first =>
                          obtain rfl | rfl : cw = 0 ∨ cw = 1 := by omega
                          · cases bu with
                            | true =>
                              go_wp2_with fail
                              go_meet
                              exact ⟨rfl, rfl⟩
                            | false =>
                              rw [HLv.out rfl] at hl1
                              go_wp2_with fail
                              go_meet
                              exact ⟨rfl, rfl⟩
                          · cases bu with
                            | true =>
                              go_wp2_with fail
                              go_meet
                              exact ⟨rfl, rfl⟩
                            | false =>
                              rw [HLv.out rfl] at hl1
                              go_wp2_with fail
                              go_meet
                              exact ⟨rfl, rfl⟩
                        case rest =>
                          obtain ⟨rfl, rfl⟩ := hcut
                          rename World => we
                          clear hl0 hl1 hm0
                          have ht3 : (t : Int) ≤ 3000 := by have := HKl.out; have := HT.out; omega
                          obtain rfl | rfl : cw = 0 ∨ cw = 1 := by have := HC1.out; omega
                          · have HZ0 := Lib.hid (HZ.out rfl)
                            clear HZ
                            go_wp2_with fail
                            go_loopw [28] (fun i wx => ∃ j : Nat, j ≤ 6 ∧ i = .int .i64 (8 + (j : Int)) ∧ wx = we) (fun i _ => 14 - (intOf i).toNat)
                            case atStart => exact ⟨0, by decide, rfl, rfl⟩
                            case round =>
                              obtain ⟨j, hj, rfl, rfl⟩ := hrel
                              rename World => we
                              by_cases hj6 : j < 6
                              · have hji : (8 : Int) + j < 14 := by omega
                                have hjw : (Lit.int .i64 (8 + (j : Int))).wf = true := i64_small (by omega) (by omega)
                                have hla := HMe.out.mem.look hjw
                                have hlb := HMe.out.sh.look hjw
                                rw [HZ0.out (8 + (j : Int)) (by omega)] at hla
                                have HJ := Lib.hid hj6
                                clear hj6 hjw
                                go_wp2_with fail
                                go_roundw
                                case rel => exact ⟨j + 1, HJ.out, by go_num, by first | rfl | trivial⟩
                                case measure => have := HJ.out; simp [intOf]; omega
                              · have hji : ¬ (8 : Int) + j < 14 := by omega
                                clear hj6
                                go_wp2_with fail
                                go_roundw
                                case rel => exact ⟨t + 1, fr', l', c', d', h', g', ats', HT.out, by go_num, HMe.out, HQ'.out, HS'.out, by have := HC'.out; omega, HDe.out, HBe.out, HL'.out.1, HL'.out.2, HKe.out⟩
                                case measure => have := HT.out; simp [intOf]; omega
                          · go_wp2_with fail
                            go_loopw [28] (fun i wx => i = .int .i64 8 ∧ wx = we) (fun _ _ => 0)
                            case atStart => exact ⟨rfl, rfl⟩
                            case round =>
                              obtain ⟨rfl, rfl⟩ := hrel
                              rename World => we
                              go_wp2_with fail
                              go_roundw
                              case rel => exact ⟨t + 1, fr', l', c', d', h', g', ats', HT.out, by go_num, HMe.out, HQ'.out, HS'.out, by have := HC'.out; omega, HDe.out, HBe.out, HL'.out.1, HL'.out.2, HKe.out⟩
                              case measure => have := HT.out; simp [intOf]; omega
          · have hkt : ¬ (t : Int) < (ks.length : Int) := by omega
            clear hlt
            go_wp2_with fail
            go_ret
            exact ⟨rfl, HK.out.chg.nil_below⟩

end Go.Proofs.Ytilffolppnnkaaa
