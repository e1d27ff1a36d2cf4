/- LogBroken. -/
import Derived.Test.YtobpknbnfkjnhaaLog10
namespace Go.Proofs.Ytobpknbnfkjnhaa
open Go.RowKit

theorem brk_none {R now : PL} (h : ∀ p ∈ R, bad now p = false) : brk R now = none := by
  rw [brk, List.findIdx?_eq_none_iff]
  exact h
theorem isIn_mem {l : PL} {a : Int} (h : isIn l a = true) : ∃ q ∈ l, q.1 = a ∧ valOf l a = q.2 := by
  unfold isIn at h
  obtain ⟨i, hp⟩ := Option.isSome_iff_exists.1 h
  obtain ⟨hi, ha⟩ := place_lt hp
  exact ⟨l[i], List.getElem_mem hi, ha, by simp [valOf, hp, hi]⟩
theorem once_inj {l : PL} (h : Once l) {p q : Int × Int} (hp : p ∈ l) (hq : q ∈ l) (e : p.1 = q.1) : p = q := by
  obtain ⟨i, hi, rfl⟩ := List.getElem_of_mem hp
  obtain ⟨j, hj, rfl⟩ := List.getElem_of_mem hq
  by_cases hij : i < j
  · exact absurd e (once_ne h hi hj hij)
  · by_cases hji : j < i
    · exact absurd e.symm (once_ne h hj hi hji)
    · obtain rfl : i = j := by omega
      rfl
theorem brk_sub {R now : PL} (ho : Once R) (h : ∀ q ∈ now, q ∈ R) : brk R now = none := brk_none fun p hp => by
  unfold bad
  cases hi : isIn now p.1 with
  | false => rfl
  | true =>
    obtain ⟨q, hq, h1, h2⟩ := isIn_mem hi
    have := once_inj ho (h q hq) hp h1
    subst this
    simp [h2]
theorem brk_out {R now : PL} (h : ∀ q ∈ now, isIn R q.1 = false) : brk R now = none := brk_none fun p hp => by
  unfold bad
  cases hi : isIn now p.1 with
  | false => rfl
  | true =>
    obtain ⟨q, hq, h1, _⟩ := isIn_mem hi
    have h2 := h q hq
    rw [h1] at h2
    have : place R p.1 ≠ none := fun e => place_none.1 e p hp rfl
    simp [isIn] at h2
    exact absurd h2 this
theorem once_idx {l : PL} (h : Once l) {k : Nat} (hk : k < l.length) : place l l[k].1 = some k := by
  rw [place, List.findIdx?_eq_some_iff_getElem]
  exact ⟨hk, by simp, fun j hj => by simpa using once_ne h (by omega) hk hj⟩
theorem brk_turned {R now : PL} {n : Nat} (hn : n < R.length) (hb : bad now R[n] = true) (h : ∀ k (hk : k < R.length), k < n → bad now R[k] = false) : brk R now = some n := by
  rw [brk, List.findIdx?_eq_some_iff_getElem]
  exact ⟨hn, hb, fun j hj => by simpa using h j (by omega) hj⟩
theorem bad_set {R : PL} (ho : Once R) {n : Nat} (hn : n < R.length) (x : Int) {k : Nat} (hk : k < R.length) : bad (R.set n (R[n].1, x)) R[k] = (if k = n then x != R[k].2 else false) := by
  have h1 : place (R.set n (R[n].1, x)) R[k].1 = some k := by rw [place_fst, set_fst (once_idx ho hn), ← place_fst]; exact once_idx ho hk
  unfold bad
  by_cases e : k = n
  · subst e; simp [isIn, valOf, h1, hk]
  · have e' : ¬ n = k := fun h => e h.symm
    simp [isIn, valOf, h1, hk, e, List.getElem?_set, e']
theorem brk_set {R : PL} (ho : Once R) {n : Nat} (hn : n < R.length) {x : Int} (hx : x ≠ R[n].2) : brk R (R.set n (R[n].1, x)) = some n :=
  brk_turned hn (by rw [bad_set ho hn x hn]; simp [hx]) (fun k hk hkn => by rw [bad_set ho hn x hk, if_neg (by omega)])
theorem brk_one {R : PL} (ho : Once R) {n : Nat} (hn : n < R.length) {x : Int} (hx : x ≠ R[n].2) : brk R [(R[n].1, x)] = some n := by
  refine brk_turned hn ?_ (fun k hk hkn => ?_)
  · simp [bad, isIn, valOf, place, List.findIdx?_cons, hx]
  · have := once_ne ho hk hn hkn
    have h2 : place [(R[n].1, x)] R[k].1 = none := place_none.2 (by simp; exact fun e => this e.symm)
    simp [bad, isIn, h2]
theorem brk_twice {R now : PL} (ho : Once R) : brk R (R ++ now) = none := brk_none fun p hp => by
  obtain ⟨k, hk, rfl⟩ := List.getElem_of_mem hp
  have h1 : place (R ++ now) R[k].1 = some k := by
    have := once_idx ho hk
    simp only [place, List.findIdx?_append] at this ⊢
    rw [this]; rfl
  have h2 : (R ++ now)[k]? = some R[k] := by rw [List.getElem?_append_left hk]; simp [hk]
  simp [bad, isIn, valOf, h1, h2]
theorem mem_drop_set {R : PL} {n : Nat} {y : Int × Int} : ∀ q ∈ (R.set n y).drop (n + 1), q ∈ R := by
  intro q hq
  rw [List.drop_set, if_pos (by omega)] at hq
  exact List.mem_of_mem_drop hq

theorem u64_turn {v b : Int} (hv : u64ok v) (hb : u64ok b) (hne : b ≠ 0) : ∃ x : Int, IntKind.u64.wrap (v + b) = x ∧ x ≠ v ∧ (Lit.int .u64 x).wf = true := by
  have e : IntKind.u64.wrap (v + b) = (v + b) % 18446744073709551616 := by simp [IntKind.wrap, IntKind.signed, IntKind.bits]
  unfold u64ok at hv hb
  refine ⟨_, e, by omega, ?_⟩
  simp [Lit.wf, IntKind.min, IntKind.max, IntKind.signed, IntKind.bits]
  omega

theorem cellsP_app (l m : PL) : cellsP (l ++ m) = cellsP l ++ cellsP m := by simp [cellsP]
theorem cellsP_one (l : PL) : ∀ u ∈ cellsP l, u.oneCell' = true := by
  intro u hu
  simp only [cellsP, List.mem_flatten, List.mem_map] at hu
  obtain ⟨_, ⟨p, _, rfl⟩, hu⟩ := hu
  simp [encP] at hu
  rcases hu with rfl | rfl <;> rfl

def others (R W : PL) (k : Nat) : PL := (W.take k).filter (fun q => !isIn R q.1)
theorem others_succ (R W : PL) {k : Nat} (hk : k < W.length) : others R W (k + 1) = others R W k ++ (if isIn R W[k].1 then [] else [W[k]]) := by
  unfold others
  rw [List.take_succ_eq_append_getElem hk, List.filter_append]
  cases h : isIn R W[k].1 <;> simp [h]
theorem others_len (R W : PL) (k : Nat) : (others R W k).length ≤ W.length := by
  unfold others
  exact Nat.le_trans (List.length_filter_le _ _) (by rw [List.length_take]; omega)
theorem others_out (R W : PL) (k : Nat) : ∀ q ∈ others R W k, isIn R q.1 = false := fun q hq => by
  have := (List.mem_filter.1 hq).2
  simpa using this

def OthersRel (R W : PL) (w8 : World) (v i : Value) (wr : World) : Prop := ∃ k : Nat, k ≤ W.length ∧ i = .int .i64 k ∧ wr.ownsRow w8.heap.size 39 2 v (others R W k).length (cellsP (others R W k)) ∧ Below w8.heap.size w8 wr

theorem NRd.nil (W : World) (A : Option Addr) (n₀ : Nat) : NRd W A n₀ [] := fun k hk => absurd hk (by simp)

set_option maxRecDepth 100000 in
set_option maxHeartbeats 8000000 in
theorem LogBroken_ok (w : World) (A : Option Addr) (cap : Nat) (xs : List OpV) (which by' : Int) (hR : Rd w w.heap.size A 4 encOpV xs) (hl : xs.length ≤ 1000)
    (hok : ∀ o ∈ xs, (Lit.int .i64 o.a).wf = true ∧ (Lit.int .u64 o.v).wf = true) (ww : i64ok which) (wb : u64ok by') :
    Calls Try.prog 9 #[.slice A xs.length cap, .int .i64 which, .int .u64 by'] w (StaysPost w) := by
  have hl' : (xs.length : Int) ≤ 1000 := by omega
  have HR := Lib.hid hR
  have HOK := Lib.hid hok
  obtain ⟨R, W, hS⟩ : ∃ R W, opPlay ([], []) xs = (R, W) := ⟨_, _, rfl⟩
  have HS := Lib.hid hS
  have WW := Lib.hid ww
  have WB := Lib.hid wb
  obtain ⟨i0, hi, hz0, hz1, hz2⟩ := info_parts infoPair
  clear hR hok hS ww wb
  go_enter Try.func9, Try.ntmps9
  go_wp2_with fail
  refine (alive_any _).mono ?_
  rintro e w1 ⟨rfl, h1⟩
  have HB := Lib.hid h1
  have hsz := h1.size
  clear h1
  go_wp2_with fail
  refine (New_any _).mono ?_
  rintro e w2 ⟨g, F2, rfl, h1, h2⟩
  have H2 := Lib.hid (h1.own h2)
  clear h1 h2
  go_wp2_with fail
  refine (play_any w1.heap.size w1 _ g F2 ([], []) A cap xs ((HR.out.below (HB.out.trans (H2.out.bel.mono hsz))).mono hsz) hl HOK.out H2.out).mono ?_
  rintro e w4 ⟨rfl, F4, h1, h2⟩
  rw [HS.out] at h1
  have H4 := Lib.hid h1
  clear h1 h2
  have oR : Once R := H4.out.l.facts.1.1
  have kW : PairsOk W := H4.out.l.facts.2.2.1
  have kR : PairsOk R := H4.out.l.facts.1.2.1
  have mR : R.length ≤ 128 := H4.out.l.facts.1.2.2
  have mW : W.length ≤ 128 := H4.out.l.facts.2.2.2
  have OR := Lib.hid oR
  have KW := Lib.hid kW
  have KR := Lib.hid kR
  clear oR kW kR
  go_wp2_with fail
  refine (Reads_any _ g F4 R W H4.out.l).mono ?_
  rintro e w5 ⟨v, rfl, h1, h2⟩
  obtain ⟨Ar, capr, rfl⟩ := told_len h1
  have R5 := Lib.hid h1
  have H5 := Lib.hid (H4.out.look h2)
  clear h1 h2
  go_wp2_with fail
  refine (Broken_any g F4 R W R Ar capr w5 (by unfold maxLen; omega) (NRd.of_prd (PRd.of_row R5.out)) H5.out.l).mono ?_
  rintro e w6 ⟨rfl, h2⟩
  rw [brkI, brk_sub OR.out (fun q hq => hq)]
  have R6 := Lib.hid (told_keep (F := []) R5.out (by simp) (Chg.of_below h2 []))
  have H6 := Lib.hid (H5.out.look h2)
  clear h2
  dsimp only [Option.isSome]
  go_wp2_with fail
  refine (Broken_any g F4 R W [] none 0 w6 (by simp) (NRd.nil _ _ _) H6.out.l).mono ?_
  rintro e w7 ⟨rfl, h2⟩
  rw [brkI, brk_sub OR.out (by simp)]
  have R7 := Lib.hid (told_keep (F := []) R6.out (by simp) (Chg.of_below h2 []))
  have H7 := Lib.hid (H6.out.look h2)
  clear h2
  dsimp only [Option.isSome]
  go_wp2_with fail
  refine (Writes_any _ g F4 R W H7.out.l).mono ?_
  rintro e w8 ⟨v, rfl, h1, h2⟩
  obtain ⟨Aw, capw, rfl⟩ := told_len h1
  have PW := Lib.hid (PRd.of_row h1)
  have R8 := Lib.hid (told_keep (F := []) R7.out (by simp) (Chg.of_below h2 []))
  have H8 := Lib.hid (H7.out.look h2)
  clear h1 h2
  go_wp2_with fail
  go_loopw [14, 16] (fun v i wr => OthersRel R W w8 v i wr) (fun _ i _ => W.length - (intOf i).toNat)
  case atStart => exact ⟨0, Nat.zero_le _, rfl, World.ownsRow_nil _ _ _ _, Below.refl _ _⟩
  case round =>
    obtain ⟨k, hk, rfl, hrow, hbel⟩ := hrel
    have HRow := Lib.hid hrow
    have HBel := Lib.hid hbel
    have hbs := hbel.size
    clear hrow hbel
    by_cases hlt : k < W.length
    · obtain ⟨b, hAb, hbl, c0, c1⟩ := PW.out.below HBel.out k hlt
      subst hAb
      have eq : W[k]?.getD (0, 0) = W[k] := by simp [hlt]
      rw [eq] at c0 c1
      obtain ⟨wa, _⟩ := KW.out _ (List.getElem_mem hlt)
      have WA := Lib.hid wa
      have HO := Lib.hid (others_succ R W hlt)
      have hol := others_len R W k
      have hpk : W[k] = (W[k].1, W[k].2) := rfl
      rw [hpk] at HO
      clear eq wa hpk
      dsimp only at HO
      generalize W[k].1 = ra at *
      generalize W[k].2 = rv at *
      generalize others R W k = ok at *
      go_wp2_with fail
      refine (Was_any _ g F4 R W ra WA.out (H8.out.look HBel.out).l).mono ?_
      rintro e w' ⟨rfl, rfl⟩
      cases hin : isIn R ra with
      | true =>
        rw [hin, if_pos rfl, List.append_nil] at HO
        clear hin
        go_wp2_with fail
        go_roundw
        case rel => exact ⟨k + 1, by omega, by go_num, by rw [HO.out]; exact HRow.out, HBel.out⟩
        case measure => simp [intOf]; omega
      | false =>
        rw [hin, if_neg (by decide)] at HO
        clear hin
        go_wp2_with (first
          | (at_builtin; refine wpList_append_own_at _ rfl _ _ 24 rfl w8.heap.size 39 i0 (.agg #[.int .i64 0, .int .u64 0]) 2 16 Try.underlying24 hi hz0 hz1 hz2 rfl (by decide) _ _ _ rfl (HRow.out.alloc _) ⟨wr.heap.size, 0, none⟩ 1 1 [.int .i64 ra, .int .u64 rv] rfl rfl (cells_new wr [.int .i64 ra, .int .u64 rv] 39) (by simp [Value.oneCell']) (by unfold maxLen; omega) (by omega) (by simp; omega) ?_; intro v' w2' hown2 hgrow2 _ _; have HO2 := Lib.hid hown2; have HG2 := Lib.hid hgrow2; clear hown2 hgrow2))
        go_roundw
        case rel =>
          refine ⟨k + 1, by omega, by go_num, by rw [HO.out, cellsP_snoc, List.length_append]; exact HO2.out, ?_⟩
          exact (HBel.out.alloc (by omega) _).grown HG2.out (by simp; omega) (fun j ej => (HRow.out.lt j ej).1)
        case measure => simp [intOf]; omega
    · obtain rfl : k = W.length := by omega
      clear hk hlt
      obtain ⟨Ao, capo, hv⟩ := told_len HRow.out
      subst hv
      have hol := others_len R W W.length
      go_wp2_with fail
      refine (Broken_any g F4 R W (others R W W.length) Ao capo _ (by unfold maxLen; omega) (NRd.of_prd (PRd.of_row HRow.out)) (H8.out.look HBel.out).l).mono ?_
      rintro e w9 ⟨rfl, h2⟩
      rw [brkI, brk_out (others_out R W W.length)]
      have R9 := Lib.hid (told_keep (F := []) R8.out (by simp) ((Chg.of_below HBel.out []).trans (Chg.of_below h2 [])))
      have H9 := Lib.hid ((H8.out.look HBel.out).look h2)
      clear h2
      dsimp only [Option.isSome]
      by_cases hz : R.length = 0
      · have hzb : ((R.length : Int) == 0) = true := by simp [hz]
        clear hz
        go_wp2_with fail
        go_ret
        exact ⟨rfl, HB.out.trans (H9.out.bel.mono hsz)⟩
      have hzb : ((R.length : Int) == 0) = false := by simpa using hz
      by_cases hby : by' = 0
      · subst hby
        clear hz
        go_wp2_with fail
        go_ret
        exact ⟨rfl, HB.out.trans (H9.out.bel.mono hsz)⟩
      have hbyb : (by' == 0) = false := by simpa using hby
      have hpos : 0 < R.length := by omega
      have hmod : ∃ z : Int, which.tmod (R.length : Int) = z ∧ -(R.length : Int) < z ∧ z < R.length := by
        refine ⟨_, rfl, ?_, ?_⟩
        · have := Int.lt_tmod_of_pos which (b := (R.length : Int)) (by omega); omega
        · exact Int.tmod_lt_of_pos which (by omega)
      obtain ⟨z, hzm, hz1', hz2'⟩ := hmod
      have hm : ∃ m : Nat, m < R.length ∧ ((0 ≤ z ∧ z = m) ∨ (z < 0 ∧ z + R.length = m)) := by
        by_cases h0 : 0 ≤ z
        · exact ⟨z.toNat, by omega, .inl ⟨h0, by omega⟩⟩
        · exact ⟨(z + R.length).toNat, by omega, .inr ⟨by omega, by omega⟩⟩
      obtain ⟨m, hml, hmz⟩ := hm
      have hx : ∃ x : Int, IntKind.u64.wrap (R[m].2 + by') = x ∧ x ≠ R[m].2 ∧ (Lit.int .u64 x).wf = true := u64_turn (u64ok_of (KR.out _ (List.getElem_mem hml)).2) WB.out hby
      obtain ⟨x, hxw, hxn, hxo⟩ := hx
      have HXN := Lib.hid hxn
      have HXO := Lib.hid hxo
      obtain ⟨Ar', capr', ea, hcapr, hmaxr, _, hcr⟩ := ownsRow_cell R9.out
      obtain ⟨rfl, rfl⟩ : Ar = Ar' ∧ capr = capr' := by simpa using ea
      obtain ⟨gr, ega, _, cr, fr⟩ := hcr (m * 2 + 1) (by omega)
      subst ega
      rw [cellsP_get R m 1 hml (by decide)] at cr
      have cr' : w9.cell? ⟨gr, m * 2 + 1, none⟩ = some (.int .u64 R[m].2) := cr
      have hrow3 := (R9.out.stored (m * 2 + 1) (.int .u64 x)).1
      rw [cellsP_set R m hml x] at hrow3
      have hgrF : ∀ y ∈ F4, y ∉ [gr] := by
        intro y hy hyg
        simp at hyg; subst hyg
        have h1 := H4.out.l.lt y hy
        have h2 := (R9.out.lt y (by simp [Value.ownBlock])).1
        omega
      have hch : Chg [gr] w9 (w9.setCell ⟨gr, m * 2 + 1, none⟩ (.int .u64 x)) := (Chg.refl _ _).setCell (by simp) _
      have hlg := H9.out.l.chg hch hgrF
      have hge : w1.heap.size ≤ gr := by
        have h2 := (R9.out.lt gr (by simp [Value.ownBlock])).1
        exact Nat.le_trans H4.out.le' h2
      have hbel3 : Below w1.heap.size w1 (w9.setCell ⟨gr, m * 2 + 1, none⟩ (.int .u64 x)) := H9.out.bel.setCell (p := ⟨gr, m * 2 + 1, none⟩) hge _
      have HROW3 := Lib.hid hrow3
      have HL3 := Lib.hid hlg
      have HB3 := Lib.hid hbel3
      have hm127 : (m : Int) < 128 := by omega
      have hmb : (m : Int) < R.length := by omega
      have ES := Lib.hid (brk_set OR.out hml hxn)
      have EO := Lib.hid (brk_one OR.out hml hxn)
      have ED : Hid (brk R ((R.set m (R[m].1, x)).drop (m + 1)) = none) := Lib.hid (brk_sub OR.out mem_drop_set)
      have ET : Hid (brk R (R ++ R.set m (R[m].1, x)) = none) := Lib.hid (brk_twice OR.out)
      have hset1 : (R.set m (R[m].1, x)).length = R.length := by simp
      have HSET1 := Lib.hid hset1
      have hgetm : (R.set m (R[m].1, x))[m]? = some (R[m].1, x) := by simp [hml]
      have HGETM := Lib.hid hgetm
      generalize hR' : R.set m (R[m].1, x) = R' at *
      generalize R[m].1 = ram at *
      generalize R[m].2 = rvm at *
      clear hz1' hz2'
      clear hR' hset1 hgetm hcr cr hrow3 hlg hbel3 hxn hxo hch hgrF hby hz hmaxr
      rcases hmz with ⟨h0, rfl⟩ | ⟨h0, hzs⟩
      · have hnn : decide ((m : Int) < 0) = false := by simp
        go_wp2_with fail
        have hBr := Broken_any g F4 R W R' (some ⟨gr, 0, none⟩) capr (w9.setCell ⟨gr, m * 2 + 1, none⟩ (.int .u64 x)) (by rw [HSET1.out]; unfold maxLen; omega) (NRd.of_prd (PRd.of_row (cap := capr) (by rw [HSET1.out]; exact HROW3.out))) HL3.out
        rw [HSET1.out] at hBr
        refine hBr.mono ?_
        clear hBr
        rintro e w10 ⟨rfl, h2⟩
        rw [brkI, ES.out]
        have R10 := Lib.hid (ownsRow_chg HROW3.out (Chg.of_below h2 []) (by simp))
        have HL10 := Lib.hid (HL3.out.look (Chg.of_below h2 []))
        have HB10 := Lib.hid (HB3.out.trans (h2.mono HB3.out.size))
        clear h2
        dsimp only [Option.isSome]
        go_wp2_with fail
        have hP10 := PRd.of_row (cap := capr) (l := R') (by rw [HSET1.out]; exact R10.out)
        obtain ⟨gq, egq, hgq, p0, p1⟩ := hP10 m (by rw [HSET1.out]; exact hml)
        obtain rfl : gr = gq := by simpa using egq
        rw [HGETM.out] at p0 p1
        have hN1 : NRd w10 (some ⟨gr, m * 2, none⟩) w10.heap.size [(ram, x)] := fun k hk => by
          obtain rfl : k = 0 := by simpa using hk
          exact ⟨gr, m * 2, rfl, hgq, p0, p1⟩
        have hBr := Broken_any g F4 R W [(ram, x)] (some ⟨gr, m * 2, none⟩) (capr - m) w10 (by unfold maxLen; simp) hN1 HL10.out
        rw [show ([(ram, x)] : PL).length = 1 from rfl] at hBr
        clear hN1 hP10 p0 p1 egq hgq
        refine hBr.mono ?_
        clear hBr
        rintro e w11 ⟨rfl, h2⟩
        rw [brkI, EO.out]
        have R11 := Lib.hid (ownsRow_chg R10.out (Chg.of_below h2 []) (by simp))
        have HL11 := Lib.hid (HL10.out.look (Chg.of_below h2 []))
        have HB11 := Lib.hid (HB10.out.trans (h2.mono HB10.out.size))
        clear h2
        dsimp only [Option.isSome]
        have hsl : IntKind.i64.wrap ((m : Int) + 1) = (m : Int) + 1 := IntWalk.i64_in _ (by omega)
        by_cases hcap : capr = m + 1
        · subst hcap
          have hcb : ((m : Int) + 1 == (m : Int) + 1) = true := by simp
          go_wp2_with fail
          have hBr := Broken_any g F4 R W [] (some ⟨gr, 0, none⟩) 0 w11 (by simp) (NRd.nil _ _ _) HL11.out
          rw [show ([] : PL).length = 0 from rfl] at hBr
          with_reducible refine hBr.mono ?_
          clear hBr
          rintro e w12 ⟨rfl, h2⟩
          rw [brkI, brk_sub OR.out (now := []) (by simp)]
          have R12 := Lib.hid (ownsRow_chg R11.out (Chg.of_below h2 []) (by simp))
          have HL12 := Lib.hid (HL11.out.look (Chg.of_below h2 []))
          have HB12 := Lib.hid (HB11.out.trans (h2.mono HB11.out.size))
          clear h2
          dsimp only [Option.isSome]
          go_wp2_with fail
          refine (Reads_any _ g F4 R W HL12.out).mono ?_
          rintro e w13 ⟨v, rfl, h1, h2⟩
          obtain ⟨A13, cap13, rfl⟩ := told_len h1
          have T13 := Lib.hid h1
          have R13 := Lib.hid (ownsRow_chg R12.out (Chg.of_below h2 []) (by simp))
          have HL13 := Lib.hid (HL12.out.look (Chg.of_below h2 []))
          have HB13 := Lib.hid (HB12.out.trans (h2.mono HB12.out.size))
          have hs13 := h2.size
          have hT : Hid (∀ y ∈ (Value.slice A13 R.length cap13).ownBlock.toList, y ∉ F4 ∧ w1.heap.size ≤ y) := Lib.hid fun y hy => by
            have h3 := (T13.out.lt y (by simpa using hy)).1
            exact ⟨fun hyF => by have := HL12.out.lt y hyF; omega, Nat.le_trans (Nat.le_trans H9.out.le HB12.out.size) h3⟩
          clear h1 h2
          go_wp2_with (first
            | (at_builtin; refine wpList_append_own_at _ rfl _ _ 24 rfl w12.heap.size 39 i0 (.agg #[.int .i64 0, .int .u64 0]) 2 16 Try.underlying24 hi hz0 hz1 hz2 rfl (by decide) (.slice A13 R.length cap13) R.length (cellsP R) rfl T13.out ⟨gr, 0, none⟩ R.length _ (cellsP R') rfl (by rw [cellsP_len, HSET1.out]) (R13.out.cells rfl) (cellsP_one R') (by unfold maxLen; omega) (by omega) hs13 ?_; intro v' w14 hown2 hgrow2 _ _; have HO2 := Lib.hid hown2; have HG2 := Lib.hid hgrow2; clear hown2 hgrow2))
          obtain ⟨A14, cap14, hv⟩ := told_len HO2.out
          subst hv
          have hdl : (R ++ R').length = R.length + R.length := by rw [List.length_append, HSET1.out]
          have hc14 := Chg.of_grown HG2.out
          have hBr := Broken_any g F4 R W (R ++ R') A14 cap14 w14 (by rw [hdl]; unfold maxLen; omega) (NRd.of_prd (PRd.of_row (base := w12.heap.size) (by rw [hdl]; have := HO2.out; rw [← cellsP_app] at this; exact this))) (HL13.out.chg hc14 (fun y hy hy2 => (hT.out y hy2).1 hy))
          rw [hdl] at hBr
          clear hc14
          with_reducible refine hBr.mono ?_
          clear hBr hdl
          rintro e w15 ⟨rfl, h2⟩
          rw [brkI, ET.out]
          have hb14 : Below w1.heap.size w1 w14 := HB13.out.grown HG2.out (Nat.le_trans H9.out.le HB13.out.size) (fun j ej => (hT.out j (by rw [ej]; simp)).2)
          have HB15 := Lib.hid (hb14.trans (h2.mono hb14.size))
          clear h2 hb14
          dsimp only [Option.isSome]
          go_wp2_with fail
          go_ret
          exact ⟨rfl, HB.out.trans (HB15.out.mono hsz)⟩
        · have hlt2 : m + 1 < capr := by omega
          go_wp2_with fail
          have hdl : (R'.drop (m + 1)).length = R.length - (m + 1) := by rw [List.length_drop, HSET1.out]
          have hN3 : NRd w11 (some ⟨gr, (m + 1) * 2, none⟩) w11.heap.size (R'.drop (m + 1)) := by
            intro k hk
            rw [hdl] at hk
            have hP11 := PRd.of_row (cap := capr) (l := R') (by rw [HSET1.out]; exact R11.out)
            obtain ⟨gq, egq, hgq, p0, p1⟩ := hP11 (m + 1 + k) (by rw [HSET1.out]; omega)
            obtain rfl : gr = gq := by simpa using egq
            have e1 : (R'.drop (m + 1))[k]? = R'[m + 1 + k]? := by rw [List.getElem?_drop]
            rw [e1]
            refine ⟨gr, (m + 1) * 2, rfl, hgq, ?_, ?_⟩
            · rw [show (m + 1) * 2 + k * 2 = (m + 1 + k) * 2 from by omega]; exact p0
            · rw [show (m + 1) * 2 + k * 2 + 1 = (m + 1 + k) * 2 + 1 from by omega]; exact p1
          have hBr := Broken_any g F4 R W (R'.drop (m + 1)) (some ⟨gr, (m + 1) * 2, none⟩) (capr - (m + 1)) w11 (by rw [hdl]; unfold maxLen; omega) hN3 HL11.out
          rw [hdl] at hBr
          clear hN3 hdl
          with_reducible refine hBr.mono ?_
          clear hBr
          rintro e w12 ⟨rfl, h2⟩
          rw [brkI, ED.out]
          have R12 := Lib.hid (ownsRow_chg R11.out (Chg.of_below h2 []) (by simp))
          have HL12 := Lib.hid (HL11.out.look (Chg.of_below h2 []))
          have HB12 := Lib.hid (HB11.out.trans (h2.mono HB11.out.size))
          clear h2
          dsimp only [Option.isSome]
          go_wp2_with fail
          refine (Reads_any _ g F4 R W HL12.out).mono ?_
          rintro e w13 ⟨v, rfl, h1, h2⟩
          obtain ⟨A13, cap13, rfl⟩ := told_len h1
          have T13 := Lib.hid h1
          have R13 := Lib.hid (ownsRow_chg R12.out (Chg.of_below h2 []) (by simp))
          have HL13 := Lib.hid (HL12.out.look (Chg.of_below h2 []))
          have HB13 := Lib.hid (HB12.out.trans (h2.mono HB12.out.size))
          have hs13 := h2.size
          have hT : Hid (∀ y ∈ (Value.slice A13 R.length cap13).ownBlock.toList, y ∉ F4 ∧ w1.heap.size ≤ y) := Lib.hid fun y hy => by
            have h3 := (T13.out.lt y (by simpa using hy)).1
            exact ⟨fun hyF => by have := HL12.out.lt y hyF; omega, Nat.le_trans (Nat.le_trans H9.out.le HB12.out.size) h3⟩
          clear h1 h2
          go_wp2_with (first
            | (at_builtin; refine wpList_append_own_at _ rfl _ _ 24 rfl w12.heap.size 39 i0 (.agg #[.int .i64 0, .int .u64 0]) 2 16 Try.underlying24 hi hz0 hz1 hz2 rfl (by decide) (.slice A13 R.length cap13) R.length (cellsP R) rfl T13.out ⟨gr, 0, none⟩ R.length _ (cellsP R') rfl (by rw [cellsP_len, HSET1.out]) (R13.out.cells rfl) (cellsP_one R') (by unfold maxLen; omega) (by omega) hs13 ?_; intro v' w14 hown2 hgrow2 _ _; have HO2 := Lib.hid hown2; have HG2 := Lib.hid hgrow2; clear hown2 hgrow2))
          obtain ⟨A14, cap14, hv⟩ := told_len HO2.out
          subst hv
          have hdl : (R ++ R').length = R.length + R.length := by rw [List.length_append, HSET1.out]
          have hc14 := Chg.of_grown HG2.out
          have hBr := Broken_any g F4 R W (R ++ R') A14 cap14 w14 (by rw [hdl]; unfold maxLen; omega) (NRd.of_prd (PRd.of_row (base := w12.heap.size) (by rw [hdl]; have := HO2.out; rw [← cellsP_app] at this; exact this))) (HL13.out.chg hc14 (fun y hy hy2 => (hT.out y hy2).1 hy))
          rw [hdl] at hBr
          clear hc14
          with_reducible refine hBr.mono ?_
          clear hBr hdl
          rintro e w15 ⟨rfl, h2⟩
          rw [brkI, ET.out]
          have hb14 : Below w1.heap.size w1 w14 := HB13.out.grown HG2.out (Nat.le_trans H9.out.le HB13.out.size) (fun j ej => (hT.out j (by rw [ej]; simp)).2)
          have HB15 := Lib.hid (hb14.trans (h2.mono hb14.size))
          clear h2 hb14
          dsimp only [Option.isSome]
          go_wp2_with fail
          go_ret
          exact ⟨rfl, HB.out.trans (HB15.out.mono hsz)⟩

      · have hsum : IntKind.i64.wrap (z + (R.length : Int)) = (m : Int) := by rw [hzs]; exact IntWalk.i64_in _ (by omega)
        have hnn : decide (z < 0) = true := by simpa using h0
        clear hzs
        go_wp2_with fail
        have hBr := Broken_any g F4 R W R' (some ⟨gr, 0, none⟩) capr (w9.setCell ⟨gr, m * 2 + 1, none⟩ (.int .u64 x)) (by rw [HSET1.out]; unfold maxLen; omega) (NRd.of_prd (PRd.of_row (cap := capr) (by rw [HSET1.out]; exact HROW3.out))) HL3.out
        rw [HSET1.out] at hBr
        refine hBr.mono ?_
        clear hBr
        rintro e w10 ⟨rfl, h2⟩
        rw [brkI, ES.out]
        have R10 := Lib.hid (ownsRow_chg HROW3.out (Chg.of_below h2 []) (by simp))
        have HL10 := Lib.hid (HL3.out.look (Chg.of_below h2 []))
        have HB10 := Lib.hid (HB3.out.trans (h2.mono HB3.out.size))
        clear h2
        dsimp only [Option.isSome]
        go_wp2_with fail
        have hP10 := PRd.of_row (cap := capr) (l := R') (by rw [HSET1.out]; exact R10.out)
        obtain ⟨gq, egq, hgq, p0, p1⟩ := hP10 m (by rw [HSET1.out]; exact hml)
        obtain rfl : gr = gq := by simpa using egq
        rw [HGETM.out] at p0 p1
        have hN1 : NRd w10 (some ⟨gr, m * 2, none⟩) w10.heap.size [(ram, x)] := fun k hk => by
          obtain rfl : k = 0 := by simpa using hk
          exact ⟨gr, m * 2, rfl, hgq, p0, p1⟩
        have hBr := Broken_any g F4 R W [(ram, x)] (some ⟨gr, m * 2, none⟩) (capr - m) w10 (by unfold maxLen; simp) hN1 HL10.out
        rw [show ([(ram, x)] : PL).length = 1 from rfl] at hBr
        clear hN1 hP10 p0 p1 egq hgq
        refine hBr.mono ?_
        clear hBr
        rintro e w11 ⟨rfl, h2⟩
        rw [brkI, EO.out]
        have R11 := Lib.hid (ownsRow_chg R10.out (Chg.of_below h2 []) (by simp))
        have HL11 := Lib.hid (HL10.out.look (Chg.of_below h2 []))
        have HB11 := Lib.hid (HB10.out.trans (h2.mono HB10.out.size))
        clear h2
        dsimp only [Option.isSome]
        have hsl : IntKind.i64.wrap ((m : Int) + 1) = (m : Int) + 1 := IntWalk.i64_in _ (by omega)
        by_cases hcap : capr = m + 1
        · subst hcap
          have hcb : ((m : Int) + 1 == (m : Int) + 1) = true := by simp
          go_wp2_with fail
          have hBr := Broken_any g F4 R W [] (some ⟨gr, 0, none⟩) 0 w11 (by simp) (NRd.nil _ _ _) HL11.out
          rw [show ([] : PL).length = 0 from rfl] at hBr
          with_reducible refine hBr.mono ?_
          clear hBr
          rintro e w12 ⟨rfl, h2⟩
          rw [brkI, brk_sub OR.out (now := []) (by simp)]
          have R12 := Lib.hid (ownsRow_chg R11.out (Chg.of_below h2 []) (by simp))
          have HL12 := Lib.hid (HL11.out.look (Chg.of_below h2 []))
          have HB12 := Lib.hid (HB11.out.trans (h2.mono HB11.out.size))
          clear h2
          dsimp only [Option.isSome]
          go_wp2_with fail
          refine (Reads_any _ g F4 R W HL12.out).mono ?_
          rintro e w13 ⟨v, rfl, h1, h2⟩
          obtain ⟨A13, cap13, rfl⟩ := told_len h1
          have T13 := Lib.hid h1
          have R13 := Lib.hid (ownsRow_chg R12.out (Chg.of_below h2 []) (by simp))
          have HL13 := Lib.hid (HL12.out.look (Chg.of_below h2 []))
          have HB13 := Lib.hid (HB12.out.trans (h2.mono HB12.out.size))
          have hs13 := h2.size
          have hT : Hid (∀ y ∈ (Value.slice A13 R.length cap13).ownBlock.toList, y ∉ F4 ∧ w1.heap.size ≤ y) := Lib.hid fun y hy => by
            have h3 := (T13.out.lt y (by simpa using hy)).1
            exact ⟨fun hyF => by have := HL12.out.lt y hyF; omega, Nat.le_trans (Nat.le_trans H9.out.le HB12.out.size) h3⟩
          clear h1 h2
          go_wp2_with (first
            | (at_builtin; refine wpList_append_own_at _ rfl _ _ 24 rfl w12.heap.size 39 i0 (.agg #[.int .i64 0, .int .u64 0]) 2 16 Try.underlying24 hi hz0 hz1 hz2 rfl (by decide) (.slice A13 R.length cap13) R.length (cellsP R) rfl T13.out ⟨gr, 0, none⟩ R.length _ (cellsP R') rfl (by rw [cellsP_len, HSET1.out]) (R13.out.cells rfl) (cellsP_one R') (by unfold maxLen; omega) (by omega) hs13 ?_; intro v' w14 hown2 hgrow2 _ _; have HO2 := Lib.hid hown2; have HG2 := Lib.hid hgrow2; clear hown2 hgrow2))
          obtain ⟨A14, cap14, hv⟩ := told_len HO2.out
          subst hv
          have hdl : (R ++ R').length = R.length + R.length := by rw [List.length_append, HSET1.out]
          have hc14 := Chg.of_grown HG2.out
          have hBr := Broken_any g F4 R W (R ++ R') A14 cap14 w14 (by rw [hdl]; unfold maxLen; omega) (NRd.of_prd (PRd.of_row (base := w12.heap.size) (by rw [hdl]; have := HO2.out; rw [← cellsP_app] at this; exact this))) (HL13.out.chg hc14 (fun y hy hy2 => (hT.out y hy2).1 hy))
          rw [hdl] at hBr
          clear hc14
          with_reducible refine hBr.mono ?_
          clear hBr hdl
          rintro e w15 ⟨rfl, h2⟩
          rw [brkI, ET.out]
          have hb14 : Below w1.heap.size w1 w14 := HB13.out.grown HG2.out (Nat.le_trans H9.out.le HB13.out.size) (fun j ej => (hT.out j (by rw [ej]; simp)).2)
          have HB15 := Lib.hid (hb14.trans (h2.mono hb14.size))
          clear h2 hb14
          dsimp only [Option.isSome]
          go_wp2_with fail
          go_ret
          exact ⟨rfl, HB.out.trans (HB15.out.mono hsz)⟩
        · have hlt2 : m + 1 < capr := by omega
          go_wp2_with fail
          have hdl : (R'.drop (m + 1)).length = R.length - (m + 1) := by rw [List.length_drop, HSET1.out]
          have hN3 : NRd w11 (some ⟨gr, (m + 1) * 2, none⟩) w11.heap.size (R'.drop (m + 1)) := by
            intro k hk
            rw [hdl] at hk
            have hP11 := PRd.of_row (cap := capr) (l := R') (by rw [HSET1.out]; exact R11.out)
            obtain ⟨gq, egq, hgq, p0, p1⟩ := hP11 (m + 1 + k) (by rw [HSET1.out]; omega)
            obtain rfl : gr = gq := by simpa using egq
            have e1 : (R'.drop (m + 1))[k]? = R'[m + 1 + k]? := by rw [List.getElem?_drop]
            rw [e1]
            refine ⟨gr, (m + 1) * 2, rfl, hgq, ?_, ?_⟩
            · rw [show (m + 1) * 2 + k * 2 = (m + 1 + k) * 2 from by omega]; exact p0
            · rw [show (m + 1) * 2 + k * 2 + 1 = (m + 1 + k) * 2 + 1 from by omega]; exact p1
          have hBr := Broken_any g F4 R W (R'.drop (m + 1)) (some ⟨gr, (m + 1) * 2, none⟩) (capr - (m + 1)) w11 (by rw [hdl]; unfold maxLen; omega) hN3 HL11.out
          rw [hdl] at hBr
          clear hN3 hdl
          with_reducible refine hBr.mono ?_
          clear hBr
          rintro e w12 ⟨rfl, h2⟩
          rw [brkI, ED.out]
          have R12 := Lib.hid (ownsRow_chg R11.out (Chg.of_below h2 []) (by simp))
          have HL12 := Lib.hid (HL11.out.look (Chg.of_below h2 []))
          have HB12 := Lib.hid (HB11.out.trans (h2.mono HB11.out.size))
          clear h2
          dsimp only [Option.isSome]
          go_wp2_with fail
          refine (Reads_any _ g F4 R W HL12.out).mono ?_
          rintro e w13 ⟨v, rfl, h1, h2⟩
          obtain ⟨A13, cap13, rfl⟩ := told_len h1
          have T13 := Lib.hid h1
          have R13 := Lib.hid (ownsRow_chg R12.out (Chg.of_below h2 []) (by simp))
          have HL13 := Lib.hid (HL12.out.look (Chg.of_below h2 []))
          have HB13 := Lib.hid (HB12.out.trans (h2.mono HB12.out.size))
          have hs13 := h2.size
          have hT : Hid (∀ y ∈ (Value.slice A13 R.length cap13).ownBlock.toList, y ∉ F4 ∧ w1.heap.size ≤ y) := Lib.hid fun y hy => by
            have h3 := (T13.out.lt y (by simpa using hy)).1
            exact ⟨fun hyF => by have := HL12.out.lt y hyF; omega, Nat.le_trans (Nat.le_trans H9.out.le HB12.out.size) h3⟩
          clear h1 h2
          go_wp2_with (first
            | (at_builtin; refine wpList_append_own_at _ rfl _ _ 24 rfl w12.heap.size 39 i0 (.agg #[.int .i64 0, .int .u64 0]) 2 16 Try.underlying24 hi hz0 hz1 hz2 rfl (by decide) (.slice A13 R.length cap13) R.length (cellsP R) rfl T13.out ⟨gr, 0, none⟩ R.length _ (cellsP R') rfl (by rw [cellsP_len, HSET1.out]) (R13.out.cells rfl) (cellsP_one R') (by unfold maxLen; omega) (by omega) hs13 ?_; intro v' w14 hown2 hgrow2 _ _; have HO2 := Lib.hid hown2; have HG2 := Lib.hid hgrow2; clear hown2 hgrow2))
          obtain ⟨A14, cap14, hv⟩ := told_len HO2.out
          subst hv
          have hdl : (R ++ R').length = R.length + R.length := by rw [List.length_append, HSET1.out]
          have hc14 := Chg.of_grown HG2.out
          have hBr := Broken_any g F4 R W (R ++ R') A14 cap14 w14 (by rw [hdl]; unfold maxLen; omega) (NRd.of_prd (PRd.of_row (base := w12.heap.size) (by rw [hdl]; have := HO2.out; rw [← cellsP_app] at this; exact this))) (HL13.out.chg hc14 (fun y hy hy2 => (hT.out y hy2).1 hy))
          rw [hdl] at hBr
          clear hc14
          with_reducible refine hBr.mono ?_
          clear hBr hdl
          rintro e w15 ⟨rfl, h2⟩
          rw [brkI, ET.out]
          have hb14 : Below w1.heap.size w1 w14 := HB13.out.grown HG2.out (Nat.le_trans H9.out.le HB13.out.size) (fun j ej => (hT.out j (by rw [ej]; simp)).2)
          have HB15 := Lib.hid (hb14.trans (h2.mono hb14.size))
          clear h2 hb14
          dsimp only [Option.isSome]
          go_wp2_with fail
          go_ret
          exact ⟨rfl, HB.out.trans (HB15.out.mono hsz)⟩

set_option maxRecDepth 100000 in
set_option maxHeartbeats 2000000 in
theorem LogBroken_any (w : World) (A : Option Addr) (cap : Nat) (xs : List OpV) (which by' : Int) (hR : Rd w w.heap.size A 4 encOpV xs)
    (hok : ∀ o ∈ xs, (Lit.int .i64 o.a).wf = true ∧ (Lit.int .u64 o.v).wf = true) (ww : (Lit.int .i64 which).wf = true) (wb : (Lit.int .u64 by').wf = true) :
    Calls Try.prog 9 #[.slice A xs.length cap, .int .i64 which, .int .u64 by'] w (StaysPost w) := by
  by_cases hlen : 1000 < xs.length
  · have hl' : (1000 : Int) < xs.length := by omega
    go_enter Try.func9, Try.ntmps9
    go_wp2_with fail
    refine (alive_any _).mono ?_
    rintro e w1 ⟨rfl, h1⟩
    go_wp2_with fail
    go_ret
    exact ⟨rfl, h1⟩
  exact LogBroken_ok w A cap xs which by' hR (by omega) hok (i64ok_of ww) (u64ok_of wb)

end Go.Proofs.Ytobpknbnfkjnhaa
