/- LibsJoined. -/
import Derived.Test.YthlhjahhjoclfaaCd45
import Derived.Deep.DeepCutAuto
import Derived.Deep.RegionHeld3
namespace Go.Proofs.Ythlhjahhjoclfaa
set_option maxRecDepth 100000
open Go.RowKit

set_option maxHeartbeats 16000000 in
theorem LibsJoined_any (W : World) (A : Option Addr) (cap : Nat) (x0 x1 x2 : Int) (l : List Tu) (g0 : 0 ≤ x0 ∧ x0 ≤ 255) (g1 : 0 ≤ x1 ∧ x1 ≤ 255) (g2 : 0 ≤ x2 ∧ x2 ≤ 255) (hm : l.length ≤ maxLen) (hl : ∀ t ∈ l, TuOk t) (hA : Rd W W.heap.size A 4 encT l) :
    Calls Try.prog 8 #[.agg #[.int .u8 x0, .int .u8 x1, .int .u8 x2], .slice A l.length cap] W (StaysPost W) := by
  obtain ⟨j0, hj, hy0, hy1, hy2⟩ := info_parts infoSls
  have HA := Lib.hid hA
  have HL := Lib.hid hl
  have hlm : (l.length : Int) ≤ 9223372036854775807 := by unfold maxLen at hm; omega
  clear hA hl hm
  have hmk := make_zeros
  have HX := Lib.hid (Blk.new W [.int .u8 x0, .int .u8 x1, .int .u8 x2] 45)
  have HC := Lib.hid ((Chg.refl [] W).alloc (.cells #[.int .u8 x0, .int .u8 x1, .int .u8 x2] 45))
  go_enter Try.func8, Try.ntmps8
  go_wp2_with fail
  refine (alive_any _).mono ?_
  rintro e w1 ⟨rfl, hx⟩
  replace HX := Lib.hid (hx.blk HX.out (by simp))
  replace HC := Lib.hid (HC.out.trans hx)
  clear hx
  by_cases hmany : (12 : Int) < l.length
  · go_wp2_with fail
    go_ret
    exact ⟨rfl, HC.out.nil_below⟩
  have hl3 : (l.length : Int) ≤ 12 := by omega
  clear hmany
  have y0 : w1.cell? ⟨W.heap.size, 0, none⟩ = some (.int .u8 x0) := HX.out.cell 0
  have y1 : w1.cell? ⟨W.heap.size, 1, none⟩ = some (.int .u8 x1) := HX.out.cell 1
  have y2 : w1.cell? ⟨W.heap.size, 2, none⟩ = some (.int .u8 x2) := HX.out.cell 2
  have yl : W.heap.size < w1.heap.size := HX.out.lt
  go_wp2_with fail
  refine (trio_any _ x0 x1 x2 g0 g1 g2).mono ?_
  rintro e w2 ⟨b0, b1, b2, bk, c0, c1, c2, h3, rfl, hx⟩
  replace HC := Lib.hid (HC.out.trans hx)
  have H3 := Lib.hid h3
  clear hx y0 y1 y2 yl HX h3 g0 g1 g2
  go_wp2_with fail
  have hP := Blk.new w2 [.int .i64 0, .int .i64 b0, .int .i64 bk, .int .i64 c0, .int .i64 1, .int .i64 b1, .int .i64 bk, .int .i64 c1, .int .i64 2, .int .i64 b2, .int .i64 bk, .int .i64 c2] 48
  have hC := HC.out.alloc (.cells #[.int .i64 0, .int .i64 b0, .int .i64 bk, .int .i64 c0, .int .i64 1, .int .i64 b1, .int .i64 bk, .int .i64 c1, .int .i64 2, .int .i64 b2, .int .i64 bk, .int .i64 c2] 48)
  have hsz := HC.out.size
  have HP := Lib.hid hP; replace HC := Lib.hid hC
  clear hP hC
  generalize World.alloc _ _ = wa at *
  obtain ⟨bp, hbp⟩ : ∃ b, w2.heap.size = b := ⟨_, rfl⟩
  rw [hbp] at HP hsz ⊢
  clear hbp
  have hpl : bp < wa.heap.size := HP.out.lt
  go_cut [7, 8] (fun s7 s8 wx => ∃ bM bO : Nat, s7 = .slice (some ⟨bM, 0, none⟩) 504 504 ∧ s8 = .slice (some ⟨bO, 0, none⟩) 504 504 ∧ bM ≠ bO ∧ bp < bM ∧ bp < bO ∧ Blk wx bM (zeros.map (Value.int .u64)) 32 ∧ Blk wx bO (zeros.map (Value.int .u64)) 32 ∧ Chg [] wa wx)
  case first =>
    go_region
    all_goals
      go_wp2_with fail
      go_meet
      have hA0 := ((Blk.new wa (zeros.map (Value.int .u64)) 32).alloc (.cells (zeros.map (Value.int .u64)).toArray 32)).drew
      have hA1 := (Blk.new (wa.alloc (.cells (zeros.map (Value.int .u64)).toArray 32)) (zeros.map (Value.int .u64)) 32).drew
      simp only [World.size_alloc] at hA1
      have hCC := (((Chg.refl [] wa).alloc (.cells (zeros.map (Value.int .u64)).toArray 32)).alloc (.cells (zeros.map (Value.int .u64)).toArray 32)).drew
      first | exact ⟨_, _, rfl, rfl, by omega, by omega, by omega, hA0, hA1, hCC⟩ | exact ⟨_, _, rfl, rfl, by omega, by omega, by omega, hA1, hA0, hCC⟩
  case rest =>
    obtain ⟨bM, bO, rfl, rfl, hmo, hpm, hpo, hBM, hBO, hcc⟩ := hcut
    rename World => wb
    have h1 := (hcc.blk HP.out (by simp)).alloc (.cells #[.int .u64 5, .int .u64 5, .int .u64 5] 54)
    have h2 := hBM.alloc (.cells #[.int .u64 5, .int .u64 5, .int .u64 5] 54)
    have h3 := hBO.alloc (.cells #[.int .u64 5, .int .u64 5, .int .u64 5] 54)
    have h4 := Blk.new wb [.int .u64 5, .int .u64 5, .int .u64 5] 54
    have h5 := (HC.out.trans hcc).alloc (.cells #[.int .u64 5, .int .u64 5, .int .u64 5] 54)
    have hml := hBM.lt; have hol := hBO.lt
    have HS := Lib.hid (show JoAt W _ bp bM bO wb.heap.size b0 b1 b2 bk c0 c1 c2 zeros 5 5 5 from ⟨h1, h2, h3, h4, h5, ⟨by omega, hml, hol, hmo, hpm, hpo, hsz⟩⟩)
    clear h1 h2 h3 h4 h5 hcc hBM hBO HP HC
    go_wp2_with fail
    generalize World.alloc _ _ = w0 at *
    obtain ⟨bL, hbL⟩ : ∃ b, wb.heap.size = b := ⟨_, rfl⟩
    rw [hbL] at HS ⊢
    have hne := HS.out.ne
    clear hbL hml hol hmo hpm hpo hsz hpl
    go_loopw [9, 11] (fun vp s wr => JoRel W bp bM bO bL b0 b1 b2 bk c0 c1 c2 l.length vp s wr) (fun _ s _ => l.length - (intOf s).toNat)
    case atStart => exact ⟨0, zeros, [], 5, 5, 5, Nat.zero_le _, rfl, JoIn.start H3.out, HS.out, Nat.le_refl _, JInv.nil, JoinU.nil, by simp, by simp, World.ownsRow_nil _ _ _ _⟩
    case round =>
      clear HS hmk
      obtain ⟨i, M, ps, l0, l1, l2, hi, rfl, hIn, hAt, hpi, hJ, hU, h128, hPt, hOw⟩ := hrel
      by_cases hlt : i < l.length
      · obtain ⟨b, off, rfl, hb, c⟩ := (HA.out.chg0 hAt.chg) (by omega)
        have d0 : wr.cell? ⟨b, off + i * 4, none⟩ = some (.int .u8 l[i].who) := c i hlt 0 (by decide)
        have d1 : wr.cell? ⟨b, off + i * 4 + 1, none⟩ = some (.int .i64 l[i].c) := c i hlt 1 (by decide)
        have d2 : wr.cell? ⟨b, off + i * 4 + 2, none⟩ = some (.int .u64 l[i].k) := c i hlt 2 (by decide)
        have d3 : wr.cell? ⟨b, off + i * 4 + 3, none⟩ = some (.int .u64 l[i].v) := c i hlt 3 (by decide)
        obtain ⟨⟨u0, u1⟩, ⟨k0, k1⟩, ⟨v0, v1⟩⟩ := HL.out _ (List.getElem_mem hlt)
        have HIn := Lib.hid hIn; have HAt := Lib.hid hAt; have HJ := Lib.hid hJ; have HU0 := Lib.hid hU; have H128 := Lib.hid h128; have HPt := Lib.hid hPt; have HOw := Lib.hid hOw
        clear c hIn hAt hJ hU h128 hPt hOw
        generalize l[i].who = tw at *
        generalize l[i].c = tc at *
        generalize l[i].k = tk at *
        generalize l[i].v = tv at *
        have hmod := mod3 tw u0
        rcases hmod with hmod | hmod | hmod
        · skip
          have p0 : wr.cell? ⟨bp, 0, none⟩ = some (.int .i64 0) := HAt.out.p.cell 0
          have p1 : wr.cell? ⟨bp, 1, none⟩ = some (.int .i64 b0) := HAt.out.p.cell 1
          have p2 : wr.cell? ⟨bp, 2, none⟩ = some (.int .i64 bk) := HAt.out.p.cell 2
          have p3 : wr.cell? ⟨bp, 3, none⟩ = some (.int .i64 c0) := HAt.out.p.cell 3
          have pl : bp < wr.heap.size := HAt.out.p.lt
          go_wp2_with fail
          have HX := Lib.hid ((Chg.refl [] wr).drew)
          go_region_held3 (fun w' => w'.cell? ⟨bp, 0, none⟩ = some (.int .i64 0) ∧ w'.cell? ⟨bp, 1, none⟩ = some (.int .i64 b0) ∧ w'.cell? ⟨bp, 2, none⟩ = some (.int .i64 bk) ∧ w'.cell? ⟨bp, 3, none⟩ = some (.int .i64 c0) ∧ w'.cell? ⟨b, off + i * 4 + 1, none⟩ = some (.int .i64 tc) ∧ w'.cell? ⟨b, off + i * 4 + 2, none⟩ = some (.int .u64 tk) ∧ w'.cell? ⟨b, off + i * 4 + 3, none⟩ = some (.int .u64 tv)) (exact ⟨(HX.out.blk HAt.out.p (by simp)).cell 0, (HX.out.blk HAt.out.p (by simp)).cell 1, (HX.out.blk HAt.out.p (by simp)).cell 2, (HX.out.blk HAt.out.p (by simp)).cell 3, (HX.out.cell0 hb _).trans d1, (HX.out.cell0 hb _).trans d2, (HX.out.cell0 hb _).trans d3⟩) (first | (go_at_call 16; refine (usual_any _ 0 tc b0 bk c0 tk tv (by decide)).mono ?_; rintro e w3 ⟨rfl, hx⟩; replace HX := Lib.hid (HX.out.trans hx); clear hx) | fail)
          have hx2 := HX.out
          replace HAt := Lib.hid (HAt.out.look hx2)
          replace HPt := Lib.hid (fun s hs => (HPt.out s hs).chg hx2 (by simp))
          replace HOw := Lib.hid (ownsRow_chg HOw.out hx2 (by simp))
          replace d0 := (hx2.cell0 hb _).trans d0
          replace d1 := (hx2.cell0 hb _).trans d1
          replace d2 := (hx2.cell0 hb _).trans d2
          replace d3 := (hx2.cell0 hb _).trans d3
          clear p0 p1 p2 p3 pl HX
          replace hb := Nat.lt_of_lt_of_le hb hx2.size
          clear hx2
          cases hu : usualB 0 tc
          · go_wp2_with fail
            go_roundw
            case rel => exact ⟨i + 1, M, ps, l0, l1, l2, by omega, by go_num, HIn.out.skip, HAt.out, by omega, HJ.out, HU0.out, H128.out, HPt.out, HOw.out⟩
            case measure => simp [intOf]; omega
          · have HU := Lib.hid hu
            clear hu
            have p0 : w3.cell? ⟨bp, 0, none⟩ = some (.int .i64 0) := HAt.out.p.cell 0
            have p1 : w3.cell? ⟨bp, 1, none⟩ = some (.int .i64 b0) := HAt.out.p.cell 1
            have p2 : w3.cell? ⟨bp, 2, none⟩ = some (.int .i64 bk) := HAt.out.p.cell 2
            have p3 : w3.cell? ⟨bp, 3, none⟩ = some (.int .i64 c0) := HAt.out.p.cell 3
            have pl : bp < w3.heap.size := HAt.out.p.lt
            go_wp2_with fail
            have HX := Lib.hid ((Chg.refl [] w3).drew)
            go_region_held3 (fun w' => w'.cell? ⟨bp, 0, none⟩ = some (.int .i64 0) ∧ w'.cell? ⟨bp, 1, none⟩ = some (.int .i64 b0) ∧ w'.cell? ⟨bp, 2, none⟩ = some (.int .i64 bk) ∧ w'.cell? ⟨bp, 3, none⟩ = some (.int .i64 c0) ∧ w'.cell? ⟨b, off + i * 4 + 1, none⟩ = some (.int .i64 tc) ∧ w'.cell? ⟨b, off + i * 4 + 2, none⟩ = some (.int .u64 tk) ∧ w'.cell? ⟨b, off + i * 4 + 3, none⟩ = some (.int .u64 tv)) (exact ⟨(HX.out.blk HAt.out.p (by simp)).cell 0, (HX.out.blk HAt.out.p (by simp)).cell 1, (HX.out.blk HAt.out.p (by simp)).cell 2, (HX.out.blk HAt.out.p (by simp)).cell 3, (HX.out.cell0 hb _).trans d1, (HX.out.cell0 hb _).trans d2, (HX.out.cell0 hb _).trans d3⟩) (first | (go_at_call 17; refine (Code_own HX.out 0 tc b0 bk c0 tk tv HU.out k0 k1 v0 v1 (fits_pl H3.out.pl.1 (by decide))).mono ?_; rintro e w4 ⟨s4, hs4, rfl, hR, hx⟩; replace HX := Lib.hid hx; have HR := Lib.hid hR; have HS4 := Lib.hid hs4; clear hx hR hs4) | fail)
            have hx := HX.out; have hR := HR.out; have hs4 := HS4.out
            clear HX HR HS4
            have hus := useL_of (codeL_use 0 tc b0 bk c0 tk tv HU.out)
            have hlw := HAt.out.last.lt
            replace HAt := Lib.hid (HAt.out.look hx)
            replace HPt := Lib.hid (fun s hs => (HPt.out s hs).chg hx (by simp))
            replace HOw := Lib.hid (ownsRow_chg HOw.out hx (by simp))
            have hR2 : PtOk w4 (bL + 1) s4 := hR.low (by omega)
            have hst := JoIn.step0 H3.out (by omega) HIn.out (by have := HU0.out.len; rw [List.length_map] at this; omega) HJ.out tk tv HU.out hs4.symm
            rw [← hs4] at hus
            obtain ⟨A4, cp4, L⟩ := s4
            simp only at hst hus hs4 ⊢
            have hne0 : (L.length == 0) = false := by rw [beq_eq_false_iff_ne]; omega
            have hne1 : ((L.length : Int) == 0) = false := by rw [beq_eq_false_iff_ne]; omega
            have HR := Lib.hid hR2; have HJ1 := Lib.hid hst.1; have HJ2 := Lib.hid hst.2; have HUs := Lib.hid hus
            have hL8 : (L.length : Int) ≤ 128 := by omega
            clear hR hR2 hx hst hus hs4 p0 p1 p2 p3 pl d0 d1 d2 d3 hb u0 u1 hmod hlw
            go_wp2_with fail
            have HAm := Lib.hid (show ∀ a, A4 = some a → a.block ∉ [bM] from fun a e hm => by subst e; have := (HR.out.blk a.block (by simp [Value.ownBlock])).1; simp at hm; omega)
            refine (answers_504 w4 A4 cp4 L bM M HIn.out.m.1 (Nat.le_trans HUs.out.1 (by decide)) HUs.out.2.2 HR.out.sl.2.2.2 HAm.out HIn.out.m.2 HAt.out.m).mono ?_
            rintro e w5 ⟨a0, a1, a2, ha, rfl, hbk, hx⟩
            replace HAt := Lib.hid (HAt.out.runM hx hbk)
            replace HPt := Lib.hid (fun s hs => (HPt.out s hs).chg hx (fun x hx => .inl (by simp at hx; omega)))
            replace HR := Lib.hid (HR.out.chg hx (fun x hx => .inl (by simp at hx; omega)))
            replace HOw := Lib.hid (ownsRow_chg HOw.out hx (fun g hg hm => by simp at hm; subst hm; exact ownsRow_notMem HOw.out (by omega) hg))
            rw [ha] at HJ1
            clear ha hbk hx HAm
            have q0 : w5.cell? ⟨bL, 0, none⟩ = some (.int .u64 l0) := HAt.out.last.cell 0
            have f0 : w5.frozen? ⟨bL, 0, none⟩ = false := HAt.out.last.free 0
            have q1 : w5.cell? ⟨bL, 1, none⟩ = some (.int .u64 l1) := HAt.out.last.cell 1
            have f1 : w5.frozen? ⟨bL, 1, none⟩ = false := HAt.out.last.free 1
            have q2 : w5.cell? ⟨bL, 2, none⟩ = some (.int .u64 l2) := HAt.out.last.cell 2
            have f2 : w5.frozen? ⟨bL, 2, none⟩ = false := HAt.out.last.free 2
            have ql : bL < w5.heap.size := HAt.out.last.lt
            go_upto_region 17 with fail
            have hb2 := ((HAt.out.last.set 0 (.int .u64 a0)).set 1 (.int .u64 a1)).set 2 (.int .u64 a2)
            simp only [List.set_cons_zero, List.set_cons_succ] at hb2
            have hx2 : Chg [bL] w5 _ := (((Chg.refl [bL] w5).setCell (p := ⟨bL, 0, none⟩) (by simp) (.int .u64 a0)).setCell (p := ⟨bL, 1, none⟩) (by simp) (.int .u64 a1)).setCell (p := ⟨bL, 2, none⟩) (by simp) (.int .u64 a2)
            replace HAt := Lib.hid (HAt.out.setL hx2 hb2)
            replace HPt := Lib.hid (fun s hs => (HPt.out s hs).chg hx2 (fun x hx => .inl (by simp at hx; omega)))
            replace HR := Lib.hid (HR.out.chg hx2 (fun x hx => .inl (by simp at hx; omega)))
            replace HOw := Lib.hid (ownsRow_chg HOw.out hx2 (fun g hg hm => by simp at hm; subst hm; exact ownsRow_notMem HOw.out (by omega) hg))
            clear hb2 hx2 q0 q1 q2 f0 f1 f2 ql
            generalize World.setCell (World.setCell (World.setCell _ _ _) _ _) _ _ = w6 at *
            have ql2 : bL < w6.heap.size := HAt.out.last.lt
            go_wp2_with (first | (at_builtin; refine wpList_append_own_at _ rfl (.tmp 77) (.tmp 79) 22 rfl (bL + 1) 23 j0 (.slice none 0 0) 1 24 Try.underlying22 hj hy0 hy1 hy2 rfl (by decide) _ _ _ rfl (HOw.out.alloc _) ⟨w6.heap.size, 0, none⟩ 1 1 [.slice A4 L.length cp4] rfl rfl (cells_at (by simp) [.slice A4 L.length cp4] _) (by simp [Value.oneCell']) (by unfold maxLen; omega) (by omega) (by first | omega | (simp; omega) | simp) ?_; intro va1 wa1 hown1 hgrow1 _ hblk1; have hsz1 := hgrow1.size; have HO1 := Lib.hid hown1; have HG1 := Lib.hid hgrow1; have HB1 := Lib.hid hblk1; clear hown1 hgrow1 hblk1) | fail)
            go_roundw
            case rel =>
              have hg1 : (w6.alloc (.cells #[.slice A4 L.length cp4] 23)).grownBy wa1 u9.ownBlock := HG1.out
              have hk0 : Chg [] w6 (w6.alloc (.cells #[.slice A4 L.length cp4] 23)) := (Chg.refl _ _).alloc _
              have hk1 : Chg u9.ownBlock.toList _ wa1 := Chg.of_grown hg1
              have hrow := row_blk (ownsRow_chg HOw.out hk0 (by simp))
              have hS : ∀ x ∈ u9.ownBlock.toList, x < bL + 1 ∨ ∃ cur t, Blk (w6.alloc (.cells #[.slice A4 L.length cp4] 23)) x cur t ∧ t ≠ 25 := fun x hx => by obtain ⟨_, cur, h⟩ := hrow x hx; exact .inr ⟨cur, _, h, by decide⟩
              have hO := HO1.out
              refine ⟨i + 1, (run9 L M).mem, ps ++ [⟨A4, cp4, L⟩], a0, a1, a2, by omega, by go_num, HJ2.out, (HAt.out.look hk0).chgS hk1 (fun x hx => by have := (hrow x hx).1; omega), by simp; omega, ?_, ?_, ?_, ?_, ?_⟩
              · rw [List.map_append]; exact HJ1.out
              · rw [List.map_append]; exact HU0.out.snoc (by simp; omega) ⟨HUs.out.1, HUs.out.2.2⟩
              · intro s hs; rcases List.mem_append.1 hs with hs | hs
                · exact H128.out s hs
                · simp at hs; subst hs; exact HUs.out.1
              · intro s hs; rcases List.mem_append.1 hs with hs | hs
                · exact ((HPt.out s hs).chg hk0 (by simp)).chg hk1 hS
                · simp at hs; subst hs; exact (HR.out.chg hk0 (by simp)).chg hk1 hS
              · rw [List.length_append, flat_app]; exact hO
            case measure => simp [intOf]; omega
        · skip
          have p0 : wr.cell? ⟨bp, 4, none⟩ = some (.int .i64 1) := HAt.out.p.cell 4
          have p1 : wr.cell? ⟨bp, 5, none⟩ = some (.int .i64 b1) := HAt.out.p.cell 5
          have p2 : wr.cell? ⟨bp, 6, none⟩ = some (.int .i64 bk) := HAt.out.p.cell 6
          have p3 : wr.cell? ⟨bp, 7, none⟩ = some (.int .i64 c1) := HAt.out.p.cell 7
          have pl : bp < wr.heap.size := HAt.out.p.lt
          go_wp2_with fail
          have HX := Lib.hid ((Chg.refl [] wr).drew)
          go_region_held3 (fun w' => w'.cell? ⟨bp, 4, none⟩ = some (.int .i64 1) ∧ w'.cell? ⟨bp, 5, none⟩ = some (.int .i64 b1) ∧ w'.cell? ⟨bp, 6, none⟩ = some (.int .i64 bk) ∧ w'.cell? ⟨bp, 7, none⟩ = some (.int .i64 c1) ∧ w'.cell? ⟨b, off + i * 4 + 1, none⟩ = some (.int .i64 tc) ∧ w'.cell? ⟨b, off + i * 4 + 2, none⟩ = some (.int .u64 tk) ∧ w'.cell? ⟨b, off + i * 4 + 3, none⟩ = some (.int .u64 tv)) (exact ⟨(HX.out.blk HAt.out.p (by simp)).cell 4, (HX.out.blk HAt.out.p (by simp)).cell 5, (HX.out.blk HAt.out.p (by simp)).cell 6, (HX.out.blk HAt.out.p (by simp)).cell 7, (HX.out.cell0 hb _).trans d1, (HX.out.cell0 hb _).trans d2, (HX.out.cell0 hb _).trans d3⟩) (first | (go_at_call 16; refine (usual_any _ 1 tc b1 bk c1 tk tv (by decide)).mono ?_; rintro e w3 ⟨rfl, hx⟩; replace HX := Lib.hid (HX.out.trans hx); clear hx) | fail)
          have hx2 := HX.out
          replace HAt := Lib.hid (HAt.out.look hx2)
          replace HPt := Lib.hid (fun s hs => (HPt.out s hs).chg hx2 (by simp))
          replace HOw := Lib.hid (ownsRow_chg HOw.out hx2 (by simp))
          replace d0 := (hx2.cell0 hb _).trans d0
          replace d1 := (hx2.cell0 hb _).trans d1
          replace d2 := (hx2.cell0 hb _).trans d2
          replace d3 := (hx2.cell0 hb _).trans d3
          clear p0 p1 p2 p3 pl HX
          replace hb := Nat.lt_of_lt_of_le hb hx2.size
          clear hx2
          cases hu : usualB 1 tc
          · go_wp2_with fail
            go_roundw
            case rel => exact ⟨i + 1, M, ps, l0, l1, l2, by omega, by go_num, HIn.out.skip, HAt.out, by omega, HJ.out, HU0.out, H128.out, HPt.out, HOw.out⟩
            case measure => simp [intOf]; omega
          · have HU := Lib.hid hu
            clear hu
            have p0 : w3.cell? ⟨bp, 4, none⟩ = some (.int .i64 1) := HAt.out.p.cell 4
            have p1 : w3.cell? ⟨bp, 5, none⟩ = some (.int .i64 b1) := HAt.out.p.cell 5
            have p2 : w3.cell? ⟨bp, 6, none⟩ = some (.int .i64 bk) := HAt.out.p.cell 6
            have p3 : w3.cell? ⟨bp, 7, none⟩ = some (.int .i64 c1) := HAt.out.p.cell 7
            have pl : bp < w3.heap.size := HAt.out.p.lt
            go_wp2_with fail
            have HX := Lib.hid ((Chg.refl [] w3).drew)
            go_region_held3 (fun w' => w'.cell? ⟨bp, 4, none⟩ = some (.int .i64 1) ∧ w'.cell? ⟨bp, 5, none⟩ = some (.int .i64 b1) ∧ w'.cell? ⟨bp, 6, none⟩ = some (.int .i64 bk) ∧ w'.cell? ⟨bp, 7, none⟩ = some (.int .i64 c1) ∧ w'.cell? ⟨b, off + i * 4 + 1, none⟩ = some (.int .i64 tc) ∧ w'.cell? ⟨b, off + i * 4 + 2, none⟩ = some (.int .u64 tk) ∧ w'.cell? ⟨b, off + i * 4 + 3, none⟩ = some (.int .u64 tv)) (exact ⟨(HX.out.blk HAt.out.p (by simp)).cell 4, (HX.out.blk HAt.out.p (by simp)).cell 5, (HX.out.blk HAt.out.p (by simp)).cell 6, (HX.out.blk HAt.out.p (by simp)).cell 7, (HX.out.cell0 hb _).trans d1, (HX.out.cell0 hb _).trans d2, (HX.out.cell0 hb _).trans d3⟩) (first | (go_at_call 17; refine (Code_own HX.out 1 tc b1 bk c1 tk tv HU.out k0 k1 v0 v1 (fits_pl H3.out.pl.2.1 (by decide))).mono ?_; rintro e w4 ⟨s4, hs4, rfl, hR, hx⟩; replace HX := Lib.hid hx; have HR := Lib.hid hR; have HS4 := Lib.hid hs4; clear hx hR hs4) | fail)
            have hx := HX.out; have hR := HR.out; have hs4 := HS4.out
            clear HX HR HS4
            have hus := useL_of (codeL_use 1 tc b1 bk c1 tk tv HU.out)
            have hlw := HAt.out.last.lt
            replace HAt := Lib.hid (HAt.out.look hx)
            replace HPt := Lib.hid (fun s hs => (HPt.out s hs).chg hx (by simp))
            replace HOw := Lib.hid (ownsRow_chg HOw.out hx (by simp))
            have hR2 : PtOk w4 (bL + 1) s4 := hR.low (by omega)
            have hst := JoIn.step1 H3.out (by omega) HIn.out (by have := HU0.out.len; rw [List.length_map] at this; omega) HJ.out tk tv HU.out hs4.symm
            rw [← hs4] at hus
            obtain ⟨A4, cp4, L⟩ := s4
            simp only at hst hus hs4 ⊢
            have hne0 : (L.length == 0) = false := by rw [beq_eq_false_iff_ne]; omega
            have hne1 : ((L.length : Int) == 0) = false := by rw [beq_eq_false_iff_ne]; omega
            have HR := Lib.hid hR2; have HJ1 := Lib.hid hst.1; have HJ2 := Lib.hid hst.2; have HUs := Lib.hid hus
            have hL8 : (L.length : Int) ≤ 128 := by omega
            clear hR hR2 hx hst hus hs4 p0 p1 p2 p3 pl d0 d1 d2 d3 hb u0 u1 hmod hlw
            go_wp2_with fail
            have HAm := Lib.hid (show ∀ a, A4 = some a → a.block ∉ [bM] from fun a e hm => by subst e; have := (HR.out.blk a.block (by simp [Value.ownBlock])).1; simp at hm; omega)
            refine (answers_504 w4 A4 cp4 L bM M HIn.out.m.1 (Nat.le_trans HUs.out.1 (by decide)) HUs.out.2.2 HR.out.sl.2.2.2 HAm.out HIn.out.m.2 HAt.out.m).mono ?_
            rintro e w5 ⟨a0, a1, a2, ha, rfl, hbk, hx⟩
            replace HAt := Lib.hid (HAt.out.runM hx hbk)
            replace HPt := Lib.hid (fun s hs => (HPt.out s hs).chg hx (fun x hx => .inl (by simp at hx; omega)))
            replace HR := Lib.hid (HR.out.chg hx (fun x hx => .inl (by simp at hx; omega)))
            replace HOw := Lib.hid (ownsRow_chg HOw.out hx (fun g hg hm => by simp at hm; subst hm; exact ownsRow_notMem HOw.out (by omega) hg))
            rw [ha] at HJ1
            clear ha hbk hx HAm
            have q0 : w5.cell? ⟨bL, 0, none⟩ = some (.int .u64 l0) := HAt.out.last.cell 0
            have f0 : w5.frozen? ⟨bL, 0, none⟩ = false := HAt.out.last.free 0
            have q1 : w5.cell? ⟨bL, 1, none⟩ = some (.int .u64 l1) := HAt.out.last.cell 1
            have f1 : w5.frozen? ⟨bL, 1, none⟩ = false := HAt.out.last.free 1
            have q2 : w5.cell? ⟨bL, 2, none⟩ = some (.int .u64 l2) := HAt.out.last.cell 2
            have f2 : w5.frozen? ⟨bL, 2, none⟩ = false := HAt.out.last.free 2
            have ql : bL < w5.heap.size := HAt.out.last.lt
            go_upto_region 17 with fail
            have hb2 := ((HAt.out.last.set 0 (.int .u64 a0)).set 1 (.int .u64 a1)).set 2 (.int .u64 a2)
            simp only [List.set_cons_zero, List.set_cons_succ] at hb2
            have hx2 : Chg [bL] w5 _ := (((Chg.refl [bL] w5).setCell (p := ⟨bL, 0, none⟩) (by simp) (.int .u64 a0)).setCell (p := ⟨bL, 1, none⟩) (by simp) (.int .u64 a1)).setCell (p := ⟨bL, 2, none⟩) (by simp) (.int .u64 a2)
            replace HAt := Lib.hid (HAt.out.setL hx2 hb2)
            replace HPt := Lib.hid (fun s hs => (HPt.out s hs).chg hx2 (fun x hx => .inl (by simp at hx; omega)))
            replace HR := Lib.hid (HR.out.chg hx2 (fun x hx => .inl (by simp at hx; omega)))
            replace HOw := Lib.hid (ownsRow_chg HOw.out hx2 (fun g hg hm => by simp at hm; subst hm; exact ownsRow_notMem HOw.out (by omega) hg))
            clear hb2 hx2 q0 q1 q2 f0 f1 f2 ql
            generalize World.setCell (World.setCell (World.setCell _ _ _) _ _) _ _ = w6 at *
            have ql2 : bL < w6.heap.size := HAt.out.last.lt
            go_wp2_with (first | (at_builtin; refine wpList_append_own_at _ rfl (.tmp 77) (.tmp 79) 22 rfl (bL + 1) 23 j0 (.slice none 0 0) 1 24 Try.underlying22 hj hy0 hy1 hy2 rfl (by decide) _ _ _ rfl (HOw.out.alloc _) ⟨w6.heap.size, 0, none⟩ 1 1 [.slice A4 L.length cp4] rfl rfl (cells_at (by simp) [.slice A4 L.length cp4] _) (by simp [Value.oneCell']) (by unfold maxLen; omega) (by omega) (by first | omega | (simp; omega) | simp) ?_; intro va1 wa1 hown1 hgrow1 _ hblk1; have hsz1 := hgrow1.size; have HO1 := Lib.hid hown1; have HG1 := Lib.hid hgrow1; have HB1 := Lib.hid hblk1; clear hown1 hgrow1 hblk1) | fail)
            go_roundw
            case rel =>
              have hg1 : (w6.alloc (.cells #[.slice A4 L.length cp4] 23)).grownBy wa1 u9.ownBlock := HG1.out
              have hk0 : Chg [] w6 (w6.alloc (.cells #[.slice A4 L.length cp4] 23)) := (Chg.refl _ _).alloc _
              have hk1 : Chg u9.ownBlock.toList _ wa1 := Chg.of_grown hg1
              have hrow := row_blk (ownsRow_chg HOw.out hk0 (by simp))
              have hS : ∀ x ∈ u9.ownBlock.toList, x < bL + 1 ∨ ∃ cur t, Blk (w6.alloc (.cells #[.slice A4 L.length cp4] 23)) x cur t ∧ t ≠ 25 := fun x hx => by obtain ⟨_, cur, h⟩ := hrow x hx; exact .inr ⟨cur, _, h, by decide⟩
              have hO := HO1.out
              refine ⟨i + 1, (run9 L M).mem, ps ++ [⟨A4, cp4, L⟩], a0, a1, a2, by omega, by go_num, HJ2.out, (HAt.out.look hk0).chgS hk1 (fun x hx => by have := (hrow x hx).1; omega), by simp; omega, ?_, ?_, ?_, ?_, ?_⟩
              · rw [List.map_append]; exact HJ1.out
              · rw [List.map_append]; exact HU0.out.snoc (by simp; omega) ⟨HUs.out.1, HUs.out.2.2⟩
              · intro s hs; rcases List.mem_append.1 hs with hs | hs
                · exact H128.out s hs
                · simp at hs; subst hs; exact HUs.out.1
              · intro s hs; rcases List.mem_append.1 hs with hs | hs
                · exact ((HPt.out s hs).chg hk0 (by simp)).chg hk1 hS
                · simp at hs; subst hs; exact (HR.out.chg hk0 (by simp)).chg hk1 hS
              · rw [List.length_append, flat_app]; exact hO
            case measure => simp [intOf]; omega
        · skip
          have p0 : wr.cell? ⟨bp, 8, none⟩ = some (.int .i64 2) := HAt.out.p.cell 8
          have p1 : wr.cell? ⟨bp, 9, none⟩ = some (.int .i64 b2) := HAt.out.p.cell 9
          have p2 : wr.cell? ⟨bp, 10, none⟩ = some (.int .i64 bk) := HAt.out.p.cell 10
          have p3 : wr.cell? ⟨bp, 11, none⟩ = some (.int .i64 c2) := HAt.out.p.cell 11
          have pl : bp < wr.heap.size := HAt.out.p.lt
          go_wp2_with fail
          have HX := Lib.hid ((Chg.refl [] wr).drew)
          go_region_held3 (fun w' => w'.cell? ⟨bp, 8, none⟩ = some (.int .i64 2) ∧ w'.cell? ⟨bp, 9, none⟩ = some (.int .i64 b2) ∧ w'.cell? ⟨bp, 10, none⟩ = some (.int .i64 bk) ∧ w'.cell? ⟨bp, 11, none⟩ = some (.int .i64 c2) ∧ w'.cell? ⟨b, off + i * 4 + 1, none⟩ = some (.int .i64 tc) ∧ w'.cell? ⟨b, off + i * 4 + 2, none⟩ = some (.int .u64 tk) ∧ w'.cell? ⟨b, off + i * 4 + 3, none⟩ = some (.int .u64 tv)) (exact ⟨(HX.out.blk HAt.out.p (by simp)).cell 8, (HX.out.blk HAt.out.p (by simp)).cell 9, (HX.out.blk HAt.out.p (by simp)).cell 10, (HX.out.blk HAt.out.p (by simp)).cell 11, (HX.out.cell0 hb _).trans d1, (HX.out.cell0 hb _).trans d2, (HX.out.cell0 hb _).trans d3⟩) (first | (go_at_call 16; refine (usual_any _ 2 tc b2 bk c2 tk tv (by decide)).mono ?_; rintro e w3 ⟨rfl, hx⟩; replace HX := Lib.hid (HX.out.trans hx); clear hx) | fail)
          have hx2 := HX.out
          replace HAt := Lib.hid (HAt.out.look hx2)
          replace HPt := Lib.hid (fun s hs => (HPt.out s hs).chg hx2 (by simp))
          replace HOw := Lib.hid (ownsRow_chg HOw.out hx2 (by simp))
          replace d0 := (hx2.cell0 hb _).trans d0
          replace d1 := (hx2.cell0 hb _).trans d1
          replace d2 := (hx2.cell0 hb _).trans d2
          replace d3 := (hx2.cell0 hb _).trans d3
          clear p0 p1 p2 p3 pl HX
          replace hb := Nat.lt_of_lt_of_le hb hx2.size
          clear hx2
          cases hu : usualB 2 tc
          · go_wp2_with fail
            go_roundw
            case rel => exact ⟨i + 1, M, ps, l0, l1, l2, by omega, by go_num, HIn.out.skip, HAt.out, by omega, HJ.out, HU0.out, H128.out, HPt.out, HOw.out⟩
            case measure => simp [intOf]; omega
          · have HU := Lib.hid hu
            clear hu
            have p0 : w3.cell? ⟨bp, 8, none⟩ = some (.int .i64 2) := HAt.out.p.cell 8
            have p1 : w3.cell? ⟨bp, 9, none⟩ = some (.int .i64 b2) := HAt.out.p.cell 9
            have p2 : w3.cell? ⟨bp, 10, none⟩ = some (.int .i64 bk) := HAt.out.p.cell 10
            have p3 : w3.cell? ⟨bp, 11, none⟩ = some (.int .i64 c2) := HAt.out.p.cell 11
            have pl : bp < w3.heap.size := HAt.out.p.lt
            go_wp2_with fail
            have HX := Lib.hid ((Chg.refl [] w3).drew)
            go_region_held3 (fun w' => w'.cell? ⟨bp, 8, none⟩ = some (.int .i64 2) ∧ w'.cell? ⟨bp, 9, none⟩ = some (.int .i64 b2) ∧ w'.cell? ⟨bp, 10, none⟩ = some (.int .i64 bk) ∧ w'.cell? ⟨bp, 11, none⟩ = some (.int .i64 c2) ∧ w'.cell? ⟨b, off + i * 4 + 1, none⟩ = some (.int .i64 tc) ∧ w'.cell? ⟨b, off + i * 4 + 2, none⟩ = some (.int .u64 tk) ∧ w'.cell? ⟨b, off + i * 4 + 3, none⟩ = some (.int .u64 tv)) (exact ⟨(HX.out.blk HAt.out.p (by simp)).cell 8, (HX.out.blk HAt.out.p (by simp)).cell 9, (HX.out.blk HAt.out.p (by simp)).cell 10, (HX.out.blk HAt.out.p (by simp)).cell 11, (HX.out.cell0 hb _).trans d1, (HX.out.cell0 hb _).trans d2, (HX.out.cell0 hb _).trans d3⟩) (first | (go_at_call 17; refine (Code_own HX.out 2 tc b2 bk c2 tk tv HU.out k0 k1 v0 v1 (fits_pl H3.out.pl.2.2.1 (by decide))).mono ?_; rintro e w4 ⟨s4, hs4, rfl, hR, hx⟩; replace HX := Lib.hid hx; have HR := Lib.hid hR; have HS4 := Lib.hid hs4; clear hx hR hs4) | fail)
            have hx := HX.out; have hR := HR.out; have hs4 := HS4.out
            clear HX HR HS4
            have hus := useL_of (codeL_use 2 tc b2 bk c2 tk tv HU.out)
            have hlw := HAt.out.last.lt
            replace HAt := Lib.hid (HAt.out.look hx)
            replace HPt := Lib.hid (fun s hs => (HPt.out s hs).chg hx (by simp))
            replace HOw := Lib.hid (ownsRow_chg HOw.out hx (by simp))
            have hR2 : PtOk w4 (bL + 1) s4 := hR.low (by omega)
            have hst := JoIn.step2 H3.out (by omega) HIn.out (by have := HU0.out.len; rw [List.length_map] at this; omega) HJ.out tk tv HU.out hs4.symm
            rw [← hs4] at hus
            obtain ⟨A4, cp4, L⟩ := s4
            simp only at hst hus hs4 ⊢
            have hne0 : (L.length == 0) = false := by rw [beq_eq_false_iff_ne]; omega
            have hne1 : ((L.length : Int) == 0) = false := by rw [beq_eq_false_iff_ne]; omega
            have HR := Lib.hid hR2; have HJ1 := Lib.hid hst.1; have HJ2 := Lib.hid hst.2; have HUs := Lib.hid hus
            have hL8 : (L.length : Int) ≤ 128 := by omega
            clear hR hR2 hx hst hus hs4 p0 p1 p2 p3 pl d0 d1 d2 d3 hb u0 u1 hmod hlw
            go_wp2_with fail
            have HAm := Lib.hid (show ∀ a, A4 = some a → a.block ∉ [bM] from fun a e hm => by subst e; have := (HR.out.blk a.block (by simp [Value.ownBlock])).1; simp at hm; omega)
            refine (answers_504 w4 A4 cp4 L bM M HIn.out.m.1 (Nat.le_trans HUs.out.1 (by decide)) HUs.out.2.2 HR.out.sl.2.2.2 HAm.out HIn.out.m.2 HAt.out.m).mono ?_
            rintro e w5 ⟨a0, a1, a2, ha, rfl, hbk, hx⟩
            replace HAt := Lib.hid (HAt.out.runM hx hbk)
            replace HPt := Lib.hid (fun s hs => (HPt.out s hs).chg hx (fun x hx => .inl (by simp at hx; omega)))
            replace HR := Lib.hid (HR.out.chg hx (fun x hx => .inl (by simp at hx; omega)))
            replace HOw := Lib.hid (ownsRow_chg HOw.out hx (fun g hg hm => by simp at hm; subst hm; exact ownsRow_notMem HOw.out (by omega) hg))
            rw [ha] at HJ1
            clear ha hbk hx HAm
            have q0 : w5.cell? ⟨bL, 0, none⟩ = some (.int .u64 l0) := HAt.out.last.cell 0
            have f0 : w5.frozen? ⟨bL, 0, none⟩ = false := HAt.out.last.free 0
            have q1 : w5.cell? ⟨bL, 1, none⟩ = some (.int .u64 l1) := HAt.out.last.cell 1
            have f1 : w5.frozen? ⟨bL, 1, none⟩ = false := HAt.out.last.free 1
            have q2 : w5.cell? ⟨bL, 2, none⟩ = some (.int .u64 l2) := HAt.out.last.cell 2
            have f2 : w5.frozen? ⟨bL, 2, none⟩ = false := HAt.out.last.free 2
            have ql : bL < w5.heap.size := HAt.out.last.lt
            go_upto_region 17 with fail
            have hb2 := ((HAt.out.last.set 0 (.int .u64 a0)).set 1 (.int .u64 a1)).set 2 (.int .u64 a2)
            simp only [List.set_cons_zero, List.set_cons_succ] at hb2
            have hx2 : Chg [bL] w5 _ := (((Chg.refl [bL] w5).setCell (p := ⟨bL, 0, none⟩) (by simp) (.int .u64 a0)).setCell (p := ⟨bL, 1, none⟩) (by simp) (.int .u64 a1)).setCell (p := ⟨bL, 2, none⟩) (by simp) (.int .u64 a2)
            replace HAt := Lib.hid (HAt.out.setL hx2 hb2)
            replace HPt := Lib.hid (fun s hs => (HPt.out s hs).chg hx2 (fun x hx => .inl (by simp at hx; omega)))
            replace HR := Lib.hid (HR.out.chg hx2 (fun x hx => .inl (by simp at hx; omega)))
            replace HOw := Lib.hid (ownsRow_chg HOw.out hx2 (fun g hg hm => by simp at hm; subst hm; exact ownsRow_notMem HOw.out (by omega) hg))
            clear hb2 hx2 q0 q1 q2 f0 f1 f2 ql
            generalize World.setCell (World.setCell (World.setCell _ _ _) _ _) _ _ = w6 at *
            have ql2 : bL < w6.heap.size := HAt.out.last.lt
            go_wp2_with (first | (at_builtin; refine wpList_append_own_at _ rfl (.tmp 77) (.tmp 79) 22 rfl (bL + 1) 23 j0 (.slice none 0 0) 1 24 Try.underlying22 hj hy0 hy1 hy2 rfl (by decide) _ _ _ rfl (HOw.out.alloc _) ⟨w6.heap.size, 0, none⟩ 1 1 [.slice A4 L.length cp4] rfl rfl (cells_at (by simp) [.slice A4 L.length cp4] _) (by simp [Value.oneCell']) (by unfold maxLen; omega) (by omega) (by first | omega | (simp; omega) | simp) ?_; intro va1 wa1 hown1 hgrow1 _ hblk1; have hsz1 := hgrow1.size; have HO1 := Lib.hid hown1; have HG1 := Lib.hid hgrow1; have HB1 := Lib.hid hblk1; clear hown1 hgrow1 hblk1) | fail)
            go_roundw
            case rel =>
              have hg1 : (w6.alloc (.cells #[.slice A4 L.length cp4] 23)).grownBy wa1 u9.ownBlock := HG1.out
              have hk0 : Chg [] w6 (w6.alloc (.cells #[.slice A4 L.length cp4] 23)) := (Chg.refl _ _).alloc _
              have hk1 : Chg u9.ownBlock.toList _ wa1 := Chg.of_grown hg1
              have hrow := row_blk (ownsRow_chg HOw.out hk0 (by simp))
              have hS : ∀ x ∈ u9.ownBlock.toList, x < bL + 1 ∨ ∃ cur t, Blk (w6.alloc (.cells #[.slice A4 L.length cp4] 23)) x cur t ∧ t ≠ 25 := fun x hx => by obtain ⟨_, cur, h⟩ := hrow x hx; exact .inr ⟨cur, _, h, by decide⟩
              have hO := HO1.out
              refine ⟨i + 1, (run9 L M).mem, ps ++ [⟨A4, cp4, L⟩], a0, a1, a2, by omega, by go_num, HJ2.out, (HAt.out.look hk0).chgS hk1 (fun x hx => by have := (hrow x hx).1; omega), by simp; omega, ?_, ?_, ?_, ?_, ?_⟩
              · rw [List.map_append]; exact HJ1.out
              · rw [List.map_append]; exact HU0.out.snoc (by simp; omega) ⟨HUs.out.1, HUs.out.2.2⟩
              · intro s hs; rcases List.mem_append.1 hs with hs | hs
                · exact H128.out s hs
                · simp at hs; subst hs; exact HUs.out.1
              · intro s hs; rcases List.mem_append.1 hs with hs | hs
                · exact ((HPt.out s hs).chg hk0 (by simp)).chg hk1 hS
                · simp at hs; subst hs; exact (HR.out.chg hk0 (by simp)).chg hk1 hS
              · rw [List.length_append, flat_app]; exact hO
            case measure => simp [intOf]; omega
      · obtain rfl : i = l.length := by omega
        obtain ⟨Ap, cpp, rfl, _, _, _, hRp, _⟩ := Rd.of_row encS_len hOw
        have HPs := Lib.hid (show Parts wr Ap ps from ⟨hRp, fun s hs => (hPt s hs).sl⟩)
        have hp12 : ps.length ≤ 12 := by omega
        have HJn := Lib.hid (Join_any wr Ap cpp ps (by omega) (fun s hs => Nat.le_trans (h128 s hs) (by decide)) HPs.out)
        obtain ⟨m1, hm1, hfine, hmem, htake⟩ := joined_run hJ (by rw [List.length_map]; exact hp12)
        rw [List.length_map] at hfine
        have HUse := Lib.hid hU.use
        have HAt := Lib.hid hAt
        have HMk := Lib.hid hIn.m
        clear hIn hAt hpi hJ hU h128 hPt hOw hRp HPs HA HL hi hlt hlm hl3
        generalize joinL (ps.map Sl.l) = JL at *
        have HRun := Lib.hid hm1; have HFine := Lib.hid hfine; have HMem := Lib.hid hmem; have HTake := Lib.hid htake
        clear hm1 hfine hmem htake
        have hp12i : (ps.length : Int) ≤ 12 := by omega
        go_wp2_with fail
        refine HJn.out.mono ?_
        rintro e w1 ⟨vj, rfl, hj, hx⟩
        obtain ⟨Aj, cj, rfl, _, _, _, hRj, hbj⟩ := Rd.of_row encI_len hj
        have hlw := HAt.out.last.lt
        have HAjm := Lib.hid (show ∀ a, Aj = some a → a.block ∉ [bO] from fun a e hm => by have h1 := (hj.lt a.block (by rw [hbj a e])).1; simp at hm; omega)
        replace HAt := Lib.hid (HAt.out.look hx)
        have HRj := Lib.hid hRj
        clear hj hx hRj hbj HJn hlw
        by_cases hbig : (1024 : Int) < JL.length
        · go_wp2_with fail
          go_ret
          exact ⟨rfl, HAt.out.chg.nil_below⟩
        have hsm : (JL.length : Int) ≤ 1024 := by omega
        have hsmn : JL.length ≤ 1024 := by omega
        clear hbig
        go_wp2_with fail
        refine (Play_504 _ Aj cj JL bO ps.length hsmn HUse.out HRj.out HAjm.out HAt.out.a (by omega) HRun.out).mono ?_
        rintro e w2 ⟨r0, r1, r2, r3, r4, r5, r6, r7, hr, rfl, hb, _, hc⟩
        rw [HFine.out]
        obtain ⟨rfl, rfl, rfl⟩ : r0 = l0 ∧ r1 = l1 ∧ r2 = l2 := by have := HTake.out; rw [hr] at this; simpa using this
        rw [HMem.out] at hb
        have HBO := Lib.hid hb
        have HBM := Lib.hid (hc.blk HAt.out.m (by simpa using HAt.out.ne.2.2.2.1))
        have HBL := Lib.hid (hc.blk HAt.out.last (by simp; omega))
        have HC := Lib.hid (HAt.out.chg.trans' hc (fun x hx hl => by simp at hx; omega))
        clear hr hb hc
        generalize m1.steps = st at *
        have q0 : w2.cell? ⟨bL, 0, none⟩ = some (.int .u64 r0) := HBL.out.cell 0
        have q1 : w2.cell? ⟨bL, 1, none⟩ = some (.int .u64 r1) := HBL.out.cell 1
        have q2 : w2.cell? ⟨bL, 2, none⟩ = some (.int .u64 r2) := HBL.out.cell 2
        have ql : bL < w2.heap.size := HBL.out.lt
        go_wp2_with fail
        replace HBO := Lib.hid (HBO.out.alloc (.cells #[.bool true, .int .u64 r0, .int .u64 r1, .int .u64 r2, .int .u64 r3, .int .u64 r4, .int .u64 r5, .int .u64 r6, .int .u64 r7, .int .i64 st] 65))
        replace HBM := Lib.hid (HBM.out.alloc (.cells #[.bool true, .int .u64 r0, .int .u64 r1, .int .u64 r2, .int .u64 r3, .int .u64 r4, .int .u64 r5, .int .u64 r6, .int .u64 r7, .int .i64 st] 65))
        replace HC := Lib.hid (HC.out.alloc (.cells #[.bool true, .int .u64 r0, .int .u64 r1, .int .u64 r2, .int .u64 r3, .int .u64 r4, .int .u64 r5, .int .u64 r6, .int .u64 r7, .int .i64 st] 65))
        clear q0 q1 q2 ql HBL
        generalize World.alloc _ _ = w3 at *
        go_loopw [122] (fun s wx => ∃ j : Nat, j ≤ 504 ∧ s = .int .i64 j ∧ Chg [] w3 wx) (fun s _ => 504 - (intOf s).toNat)
        case atStart => exact ⟨0, by omega, rfl, Chg.refl _ _⟩
        case round =>
          obtain ⟨j, hj, rfl, hx⟩ := hrel
          rename World => wy
          by_cases hlt : j < 504
          · have hml : M.length = 504 := HMk.out.1
            have q1 : wy.cell? ⟨bO, j, none⟩ = some (.int .u64 (M[j]?.getD 0)) := ((hx.blk HBO.out (by simp)).cell _).trans (map_get (by omega))
            have q2 : wy.cell? ⟨bM, j, none⟩ = some (.int .u64 (M[j]?.getD 0)) := ((hx.blk HBM.out (by simp)).cell _).trans (map_get (by omega))
            have l1 : bM < wy.heap.size := (hx.blk HBM.out (by simp)).lt
            have l2 : bO < wy.heap.size := (hx.blk HBO.out (by simp)).lt
            have HX := Lib.hid hx
            clear hx hml
            generalize M[j]?.getD 0 = vv at *
            go_wp2_with fail
            go_quiet (fail)
            go_wp2_with fail
            go_roundw
            case rel => exact ⟨j + 1, by omega, by go_num, HX.out.drewN _⟩
            case measure => simp [intOf]; omega
          · obtain rfl : j = 504 := by omega
            have HX := Lib.hid hx
            clear hx
            go_wp2_with fail
            go_ret
            exact ⟨rfl, (HC.out.trans HX.out).nil_below⟩

end Go.Proofs.Ythlhjahhjoclfaa
