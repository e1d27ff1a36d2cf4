/- Join. -/
import Derived.Test.YthlhjahhjoclfaaLibs3
namespace Go.Proofs.Ythlhjahhjoclfaa
open Go.RowKit

theorem flat_set4 (v : Int) : ∀ (l : List Ins) (i : Nat) (hi : i < l.length), (l.flatMap encI).set (i * 5 + 4) (.int .i64 v) = (l.set i { l[i] with imm := v }).flatMap encI
  | x :: l, 0, _ => by simp [encI]
  | x :: l, i + 1, hi => by
    have ih := flat_set4 v l i (by simpa using hi)
    simp only [List.flatMap_cons, List.set_cons_succ, List.getElem_cons_succ, ← ih]
    rw [List.set_append_right _ _ (by rw [encI_len]; omega)]
    rw [encI_len, show (i + 1) * 5 + 4 - 5 = i * 5 + 4 from by omega]
theorem flat_set0 (v : Int) : ∀ (l : List Ins) (i : Nat) (hi : i < l.length), (l.flatMap encI).set (i * 5) (.int .i64 v) = (l.set i { l[i] with op := v }).flatMap encI
  | x :: l, 0, _ => by simp [encI]
  | x :: l, i + 1, hi => by
    have ih := flat_set0 v l i (by simpa using hi)
    simp only [List.flatMap_cons, List.set_cons_succ, List.getElem_cons_succ, ← ih]
    rw [List.set_append_right _ _ (by rw [encI_len]; omega)]
    rw [encI_len, show (i + 1) * 5 - 5 = i * 5 from by omega]

def mixL (o p : List Ins) (k : Nat) : List Ins := o ++ ((p.take k).map (shI o.length) ++ p.drop k)
theorem mixL_len {o p : List Ins} {k : Nat} (hk : k ≤ p.length) : (mixL o p k).length = o.length + p.length := by simp [mixL]; omega
theorem mixL_get {o p : List Ins} {k : Nat} (hk : k < p.length) (h : o.length + k < (mixL o p k).length) : (mixL o p k)[o.length + k] = p[k] := by
  simp only [mixL]
  rw [List.getElem_append_right (by omega)]
  simp only [Nat.add_sub_cancel_left]
  rw [List.getElem_append_right (by simp; omega)]
  simp [Nat.min_eq_left (Nat.le_of_lt hk)]
theorem mixL_step {o p : List Ins} {k : Nat} (hk : k < p.length) : mixL o p (k + 1) = (mixL o p k).set (o.length + k) (shI o.length p[k]) := by
  simp only [mixL]
  rw [List.set_append_right _ _ (by omega), Nat.add_sub_cancel_left, List.set_append_right _ _ (by simp; omega)]
  simp only [List.length_map, List.length_take, Nat.min_eq_left (Nat.le_of_lt hk), Nat.sub_self]
  rw [List.drop_eq_getElem_cons hk, List.set_cons_zero, List.take_add_one, List.getElem?_eq_getElem hk, List.map_append]
  simp only [Option.toList_some, List.map_cons, List.map_nil, List.append_assoc, List.cons_append, List.nil_append]
theorem mixL_zero (o p : List Ins) : mixL o p 0 = o ++ p := by simp [mixL]
theorem mixL_all (o p : List Ins) : mixL o p p.length = o ++ p.map (shI o.length) := by simp [mixL]

def JnRel (W : World) (B g c : Nat) (o p : List Ins) (i : Value) (wr : World) : Prop := ∃ k : Nat, k ≤ p.length ∧ i = .int .i64 k ∧ wr.ownsRow B 25 5 (.slice (some ⟨g, 0, none⟩) (o.length + p.length) c) (o.length + p.length) ((mixL o p k).flatMap encI) ∧ Chg [] W wr

def JnOutE (W : World) (ps : List (List Ins)) (vo i : Value) (wr : World) : Prop := ∃ k : Nat, k ≤ ps.length ∧ i = .int .i64 k ∧ wr.ownsRow W.heap.size 25 5 vo (joinL (ps.take k)).length ((joinL (ps.take k)).flatMap encI) ∧ Chg [] W wr ∧ (joinL (ps.take k) = [] → vo = .slice none 0 0)

theorem encI_one (p : List Ins) : ∀ u ∈ p.flatMap encI, u.oneCell' = true := by
  intro u hu
  obtain ⟨x, _, hx⟩ := List.mem_flatMap.1 hu
  simp [encI] at hx
  rcases hx with rfl | rfl | rfl | rfl | rfl <;> rfl

set_option maxRecDepth 100000 in
set_option maxHeartbeats 4000000 in
theorem Join_any (W : World) (A : Option Addr) (cap : Nat) (ps : List Sl) (hn : ps.length ≤ 20) (hp : ∀ s ∈ ps, s.l.length ≤ 300) (h : Parts W A ps) :
    Calls Try.prog 10 #[.slice A ps.length cap] W (InsPost W (joinL (ps.map Sl.l))) := by
  obtain ⟨i0, hi, hz0, hz1, hz2⟩ := info_parts infoIns
  have hn' : (ps.length : Int) ≤ 20 := by omega
  have HP := Lib.hid h
  have HL := Lib.hid hp
  have hpl : ∀ p ∈ ps.map Sl.l, p.length ≤ 300 := fun p hq => by obtain ⟨s, hs, rfl⟩ := List.mem_map.1 hq; exact hp s hs
  have HJ := Lib.hid (joinL_len _ hpl)
  clear h hp hpl
  go_enter Try.func10, Try.ntmps10
  go_wp2_with fail
  go_loopw [3, 10] (fun vo i wr => JnOutE W (ps.map Sl.l) vo i wr) (fun _ i _ => ps.length - (intOf i).toNat)
  case atStart => exact ⟨0, Nat.zero_le _, rfl, World.ownsRow_nil _ _ _ _, Chg.refl _ _, fun _ => rfl⟩
  case round =>
    obtain ⟨i, hi', rfl, hO, hC, hE⟩ := hrel
    rw [List.length_map] at hi'
    by_cases hlt : i < ps.length
    · obtain ⟨wo, rfl⟩ : ∃ wo : World, wo = wr := ⟨_, rfl⟩
      have hjl := HJ.out i (by rw [List.length_map]; omega)
      have HS := Lib.hid (joinL_take (ps := ps.map Sl.l) (k := i) (by rw [List.length_map]; exact hlt))
      have hlen := HL.out _ (List.getElem_mem hlt)
      have HO := Lib.hid hO
      have HC := Lib.hid hC
      have HE := Lib.hid hE
      obtain ⟨hR, hq⟩ := HP.out
      obtain ⟨b, off, rfl, hb, hc⟩ := hR (by omega)
      have c0 : wo.cell? ⟨b, off + i, none⟩ = some (.slice ps[i].A ps[i].l.length ps[i].cap) := by
        have := hc i hlt 0 (by decide)
        rw [Nat.mul_one, Nat.add_zero] at this
        rw [hC.cell0 hb, this]; rfl
      obtain ⟨q1, q2, q3, q4⟩ := hq _ (List.getElem_mem hlt)
      have HA0 := Lib.hid q3
      have HN := Lib.hid ((q4.chg0 hC).news (by decide) encI_len)
      rw [List.getElem_map] at HS
      clear hO hC hE hR hq hc q3 q4
      generalize joinL ((ps.map Sl.l).take i) = out0 at *
      generalize ps[i].l = p at *
      generalize ps[i].A = A1 at *
      generalize ps[i].cap = cap1 at *
      obtain ⟨Ao, co, rfl, _, _, _, _, _⟩ := Rd.of_row encI_len HO.out
      have hp1 : (p.length : Int) ≤ 300 := by omega
      have hs0 := HC.out.size
      have ho1 : (out0.length : Int) ≤ 300 * i := by omega
      by_cases hz : out0.length + p.length = 0
      · obtain rfl : out0 = [] := List.eq_nil_of_length_eq_zero (by omega)
        obtain rfl : p = [] := List.eq_nil_of_length_eq_zero (by omega)
        obtain hv := HE.out rfl
        simp only [List.length_nil, Value.slice.injEq, true_and] at hv
        obtain ⟨rfl, rfl⟩ := hv
        have HJE := Lib.hid (show joinL ((ps.map Sl.l).take (i + 1)) = [] from by rw [HS.out]; rfl)
        simp only [List.length_nil, show ((0 : Nat) : Int) = 0 from rfl] at *
        have hsl : ∀ w, (Instr.slice 23 (.slice none 0 0) (some (.int .i64 0)) none none).run Try.prog w = .ok (.slice none 0 0) w := fun _ => by kernel_rfl
        go_wp2_with (first
          | (at_builtin; refine wpList_append_own_any _ rfl (.tmp 16) (.tmp 17) 23 rfl (W.heap.size) 25 i0 (.agg #[.int .i64 0, .int .i64 0, .int .i64 0, .int .i64 0, .int .i64 0]) 5 40 Try.underlying23 hi hz0 hz1 hz2 rfl (by decide) _ _ _ rfl (HO.out) A1 (0) (cap1) (List.flatMap encI []) rfl HA0.out (flat_len encI_len _) q1 HN.out (encI_one _) (by unfold maxLen; omega) (by omega) (by first | omega | (simp; omega) | simp) ?_; intro va1 wa1 hown1 hgrow1 hblk1 hnil1; have hsz1 := hgrow1.size; have HO1 := Lib.hid hown1; have HG1 := Lib.hid hgrow1; have HB1 := Lib.hid hblk1; have HZ1 := Lib.hid hnil1; clear hown1 hgrow1 hblk1 hnil1; have hv1 := HZ1.out rfl rfl; subst hv1))
        go_loopw [23] (fun i wr => i = .int .i64 0 ∧ wr = wa1) (fun _ _ => 0)
        case atStart => exact ⟨rfl, rfl⟩
        case round =>
          obtain ⟨rfl, rfl⟩ := hrel
          go_wp2_with fail
          go_roundw
          case rel => exact ⟨i + 1, by rw [List.length_map]; omega, by go_num, by rw [HJE.out]; exact HO1.out, HC.out.grew HO.out HG1.out (fun q h1 h2 => by omega), fun _ => rfl⟩
          case measure => simp [intOf]; omega
      · by_cases hp0 : p.length = 0
        · obtain rfl : p = [] := List.eq_nil_of_length_eq_zero hp0
          have hpos1 : 0 < out0.length + 0 := by simp at hz; simp; exact Nat.pos_of_ne_zero (fun h => hz (by simpa using h))
          have hJE : joinL ((ps.map Sl.l).take (i + 1)) = out0 := by rw [HS.out]; simp
          have HJE := Lib.hid hJE
          clear hJE hz hp0
          simp only [List.length_nil, show ((0 : Nat) : Int) = 0 from rfl] at *
          go_wp2_with (first
            | (at_builtin; refine wpList_append_own_any _ rfl (.tmp 16) (.tmp 17) 23 rfl (W.heap.size) 25 i0 (.agg #[.int .i64 0, .int .i64 0, .int .i64 0, .int .i64 0, .int .i64 0]) 5 40 Try.underlying23 hi hz0 hz1 hz2 rfl (by decide) _ _ _ rfl (HO.out) A1 (0) (cap1) (List.flatMap encI []) rfl HA0.out (flat_len encI_len _) q1 HN.out (encI_one _) (by unfold maxLen; omega) (by omega) (by first | omega | (simp; omega) | simp) ?_; intro va1 wa1 hown1 hgrow1 hblk1 hnil1; have hsz1 := hgrow1.size; have HO1 := Lib.hid hown1; have HG1 := Lib.hid hgrow1; have HB1 := Lib.hid hblk1; have HZ1 := Lib.hid hnil1; clear hown1 hgrow1 hblk1 hnil1; obtain ⟨g, c1, hv1, hg1, hg2, hc1, hc2⟩ := ownsRow_posC HO1.out hpos1; subst hv1; have hc1' : (out0.length : Int) ≤ c1 := (by omega); have hc2' : (c1 : Int) ≤ 9223372036854775807 := (by omega)))
          all_goals
            have hO1 := HO1.out
            rw [show (List.flatMap encI out0 ++ List.flatMap encI []) = List.flatMap encI out0 from by simp] at hO1
            have HM1 := Lib.hid hO1
            have HC1 := Lib.hid (HC.out.grew HO.out HG1.out (fun q h1 h2 => by omega))
            clear hO1
            go_loopw [23] (fun i wr => i = .int .i64 0 ∧ wr = wa1) (fun _ _ => 0)
            case atStart => exact ⟨rfl, rfl⟩
            case round =>
              obtain ⟨rfl, rfl⟩ := hrel
              go_wp2_with fail
              go_roundw
              case rel =>
                have hne : out0 ≠ [] := fun e => by rw [e] at hpos1; simp at hpos1
                first
                | exact ⟨i + 1, by rw [List.length_map]; omega, by go_num, by rw [HJE.out]; exact HM1.out, HC1.out, fun e => absurd (HJE.out.symm.trans e) hne⟩
                | (have he : c1 = out0.length := by assumption
                   subst he
                   exact ⟨i + 1, by rw [List.length_map]; omega, by go_num, by rw [HJE.out]; exact HM1.out, HC1.out, fun e => absurd (HJE.out.symm.trans e) hne⟩)
              case measure => simp [intOf]; omega
        have hpos1 : 0 < out0.length + p.length := by omega
        have hp2 : 0 < p.length := by omega
        clear hz hp0
        go_wp2_with (first
          | (at_builtin; refine wpList_append_own_any _ rfl (.tmp 16) (.tmp 17) 23 rfl (W.heap.size) 25 i0 (.agg #[.int .i64 0, .int .i64 0, .int .i64 0, .int .i64 0, .int .i64 0]) 5 40 Try.underlying23 hi hz0 hz1 hz2 rfl (by decide) _ _ _ rfl (HO.out) A1 (p.length) (cap1) (List.flatMap encI p) rfl HA0.out (flat_len encI_len _) q1 HN.out (encI_one _) (by unfold maxLen; omega) (by omega) (by first | omega | (simp; omega) | simp) ?_; intro va1 wa1 hown1 hgrow1 hblk1 hnil1; have hsz1 := hgrow1.size; have HO1 := Lib.hid hown1; have HG1 := Lib.hid hgrow1; have HB1 := Lib.hid hblk1; have HZ1 := Lib.hid hnil1; clear hown1 hgrow1 hblk1 hnil1; obtain ⟨g, c1, hv1, hg1, hg2, hc1, hc2⟩ := ownsRow_posC HO1.out hpos1; subst hv1; have hc1' : (out0.length : Int) + p.length ≤ c1 := (by omega); have hc2' : (c1 : Int) ≤ 9223372036854775807 := (by omega); have hcne : ¬ c1 = out0.length := (by omega)))
        all_goals
          have hO1 := HO1.out
          rw [← flat_app, ← mixL_zero] at hO1
          have HM1 := Lib.hid hO1
          have HC1 := Lib.hid (HC.out.grew HO.out HG1.out (fun q h1 h2 => by omega))
          clear hO1
          go_loopw [23] (fun k wr => JnRel W W.heap.size g c1 out0 p k wr) (fun k _ => p.length - (intOf k).toNat)
          case atStart => exact ⟨0, Nat.zero_le _, rfl, HM1.out, HC1.out⟩
          case round =>
            obtain ⟨k, hk, rfl, hO, hC⟩ := hrel
            by_cases hltk : k < p.length
            · have hix : out0.length + k < (mixL out0 p k).length := by rw [mixL_len hk]; omega
              have hcl : ∀ j, j < 5 → wr.cell? ⟨g, (out0.length + k) * 5 + j, none⟩ = (encI p[k])[j]? := by
                intro j hj
                rw [hO.cellAt _ (by omega), flat_get encI_len _ _ hix j hj, mixL_get hltk]
              have d0 : wr.cell? ⟨g, (out0.length + k) * 5, none⟩ = some (.int .i64 p[k].op) := hcl 0 (by decide)
              have d4 : wr.cell? ⟨g, (out0.length + k) * 5 + 4, none⟩ = some (.int .i64 p[k].imm) := hcl 4 (by decide)
              have f4 : wr.frozen? ⟨g, (out0.length + k) * 5 + 4, none⟩ = false := hO.frozenAt _
              have hJ4 := jumps_any (wr.alloc (.cells #[.int .i64 13, .int .i64 14, .int .i64 15, .int .i64 16] 3)) wr.heap.size p[k].op (Blk.new wr [.int .i64 13, .int .i64 14, .int .i64 15, .int .i64 16] _)
              have hSt := (hO.stored ((out0.length + k) * 5 + 4) (.int .i64 (wrap64 (p[k].imm + out0.length)))).1.alloc (.cells #[.int .i64 13, .int .i64 14, .int .i64 15, .int .i64 16] 3)
              rw [flat_set4 _ _ _ hix, mixL_get hltk] at hSt
              have HSt := Lib.hid hSt
              have HOA := Lib.hid (hO.alloc (.cells #[.int .i64 13, .int .i64 14, .int .i64 15, .int .i64 16] 3))
              have HCA := Lib.hid (hC.alloc (.cells #[.int .i64 13, .int .i64 14, .int .i64 15, .int .i64 16] 3))
              have HCS := Lib.hid hC
              have HMS := Lib.hid (mixL_step (o := out0) hltk)
              have HJ4 := Lib.hid hJ4
              have HSh := Lib.hid (show shI out0.length p[k] = if 13 ≤ p[k].op ∧ p[k].op ≤ 16 then { p[k] with imm := wrap64 (p[k].imm + out0.length) } else p[k] from rfl)
              have hsame : (mixL out0 p k).set (out0.length + k) p[k] = mixL out0 p k := by rw [← mixL_get hltk hix, List.set_getElem_self]
              have HSame := Lib.hid hsame
              have hoc : ((out0.length : Int) + k) ≤ 9223372036854775807 := by omega
              have hkc : (out0.length : Int) + k < out0.length + p.length := by omega
              have hgl : g < wr.heap.size := (hO.lt g rfl).2
              clear hcl hO hC hJ4 hSt hsame hix
              by_cases hj : 13 ≤ p[k].op ∧ p[k].op ≤ 16
              · rw [if_pos hj] at HSh
                rw [decide_eq_true hj] at HJ4
                clear hj
                generalize hpk : p[k] = pk at *
                clear hpk
                go_wp2_with fail
                refine HJ4.out.mono ?_
                rintro e w' ⟨rfl, rfl⟩
                go_wp2_with fail
                go_roundw
                case rel => exact ⟨k + 1, by omega, by go_num, by rw [HMS.out, HSh.out]; exact HSt.out, (HCS.out.setCell (fun h => absurd (show g < W.heap.size from h) (by omega)) _).alloc _⟩
                case measure => simp [intOf]; omega
              · rw [if_neg hj] at HSh
                rw [decide_eq_false hj] at HJ4
                clear hj
                generalize hpk : p[k] = pk at *
                clear hpk
                go_wp2_with fail
                refine HJ4.out.mono ?_
                rintro e w' ⟨rfl, rfl⟩
                go_wp2_with fail
                go_roundw
                case rel => exact ⟨k + 1, by omega, by go_num, by rw [HMS.out, HSh.out, HSame.out]; exact HOA.out, HCA.out⟩
                case measure => simp [intOf]; omega
            · obtain rfl : k = p.length := by omega
              rw [mixL_all, ← HS.out] at hO
              have hlj : (joinL ((ps.map Sl.l).take (i + 1))).length = out0.length + p.length := by rw [HS.out]; simp
              have hne : joinL ((ps.map Sl.l).take (i + 1)) ≠ [] := fun e => by rw [e] at hlj; simp at hlj; omega
              rw [← hlj] at hO
              have HO2 := Lib.hid hO
              have HC2 := Lib.hid hC
              have HNE := Lib.hid hne
              have HLJ := Lib.hid hlj
              clear hO hC hne hlj
              go_wp2_with fail
              go_roundw
              case rel => exact ⟨i + 1, by rw [List.length_map]; omega, by go_num, by have h := HO2.out; rw [HLJ.out] at h ⊢; exact h, HC2.out, fun e => absurd e HNE.out⟩
              case measure => simp [intOf]; omega
    · obtain rfl : i = ps.length := by omega
      rw [List.take_of_length_le (by simp)] at hO
      have HO := Lib.hid hO
      have HC := Lib.hid hC
      clear hO hC
      go_wp2_with fail
      go_ret
      exact ⟨_, rfl, HO.out, HC.out⟩

end Go.Proofs.Ythlhjahhjoclfaa
