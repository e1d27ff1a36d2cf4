/- SoftLong: paths that read, and write, as much as there is room for, or more. -/
import Derived.Test.YtilffolppnnkaaaSoft33
namespace Go.Proofs.Ytilffolppnnkaaa
set_option maxRecDepth 100000
open Go.RowKit

theorem infoOp : (Try.prog.info? 44).map (fun i => (i.zero, i.size, i.bytes)) = some (some (.agg #[.int .i64 0, .int .i64 0, .int .u64 0, .bool false]), 4, 32) := by kernel_rfl
theorem encOpV_len (x : OpV) : (encOpV x).length = 4 := rfl
theorem encOpV_one (l : List OpV) : ∀ u ∈ l.flatMap encOpV, u.oneCell' = true := by
  intro u hu
  obtain ⟨x, _, hx⟩ := List.mem_flatMap.1 hu
  simp [encOpV] at hx
  rcases hx with rfl | rfl | rfl | rfl <;> rfl

/-- The calls gathered so far. -/
structure AllAt (W0 : World) (v : Value) (ys : List OpV) (wr : World) : Prop where
  row : wr.ownsRow W0.heap.size 44 4 v ys.length (ys.flatMap encOpV)
  chg : Chg [] W0 wr
  ok : ∀ o ∈ ys, OpOk o
theorem AllAt.add {W0 wr : World} {v : Value} {ys zs : List OpV} {w1 : World} {v1 : Value} {n : Nat} (h : AllAt W0 v ys wr) (hn : n = zs.length) (ho : w1.ownsRow W0.heap.size 44 4 v1 (ys.length + n) (ys.flatMap encOpV ++ zs.flatMap encOpV)) (hC : Chg [] W0 w1) (hz : ∀ o ∈ zs, OpOk o) : AllAt W0 v1 (ys ++ zs) w1 := by
  subst hn
  refine ⟨?_, hC, fun o ho => (List.mem_append.1 ho).elim (h.ok o) (hz o)⟩
  rw [List.length_append, List.flatMap_append]
  exact ho

def LRel (W0 : World) (most : Int) (b g : Nat) (v i : Value) (wr : World) : Prop :=
  ∃ (k : Nat) (ys : List OpV), (k : Int) ≤ most ∧ i = .int .i64 k ∧ ys.length ≤ b + g * k ∧ AllAt W0 v ys wr
def LoopRel (w : World) (p d m : Nat) (A : Option Addr) (ys : List OpV) (i : Value) (wr : World) : Prop :=
  ∃ (k : Nat) (F : List Nat) (c : Nat) (s : PS) (h : PL), k ≤ ys.length ∧ i = .int .i64 k ∧ c ≤ k ∧ Duo wr p F s d s m c h ∧ Chg [] w wr ∧ (∀ x ∈ d :: m :: F, w.heap.size ≤ x) ∧ Rd wr wr.heap.size A 4 encOpV ys ∧ (∀ a, A = some a → a.block ∉ d :: m :: F)
theorem i64_to {a b : Int} (h : 0 ≤ a) (h' : a ≤ b) (hb : b ≤ 1000000) : (Lit.int .i64 a).wf = true := by
  simp [Lit.wf, IntKind.min, IntKind.max, IntKind.signed, IntKind.bits]; omega
theorem u64_to {a b : Int} (h : 0 ≤ a) (h' : a ≤ b) (hb : b ≤ 1000000) : (Lit.int .u64 a).wf = true := by
  simp [Lit.wf, IntKind.min, IntKind.max, IntKind.signed, IntKind.bits]; omega

set_option maxHeartbeats 8000000 in
theorem SoftLong_ok (w : World) (nr nw : Int) (A : Option Addr) (cap : Nat) (xs : List OpV) (h0 : 0 ≤ nr) (h1 : 0 ≤ nw) (h2 : nr ≤ 200) (h3 : nw ≤ 200) (hl : xs.length ≤ 300) (hcap : xs.length ≤ cap) (hA0 : A = none → cap = 0) (hok : ∀ o ∈ xs, OpOk o) (hR : Rd w w.heap.size A 4 encOpV xs) :
    Calls Try.prog 7 #[.int .i64 nr, .int .i64 nw, .slice A xs.length cap] w (StaysPost w) := by
  have hmm := @run_makeMap Try.prog
  obtain ⟨i0, hi, hz0, hz1, hz2⟩ := info_parts infoOp
  have HR := Lib.hid hR
  have HO := Lib.hid hok
  have HCap := Lib.hid (And.intro hcap hA0)
  have hl' : (xs.length : Int) ≤ 300 := by omega
  have HL := Lib.hid hl
  clear hR hok hcap hA0 hl
  go_enter Try.func7, Try.ntmps7
  go_wp2_with fail
  refine (SNew_e w).mono ?_
  rintro e w1 ⟨p, F0, rfl, hp, hM⟩
  have hDM := duo_new hp hM
  have HD0 := Lib.hid hDM.1
  have HM0 := Lib.hid hDM.2
  clear hp hM hDM
  go_wp2_with fail
  obtain ⟨d, hd⟩ : ∃ d, w1.heap.size = d := ⟨_, rfl⟩
  obtain ⟨m, hm⟩ : ∃ m, d + 1 = m := ⟨_, rfl⟩
  obtain ⟨W0, hW0⟩ : ∃ W0, W0 = (w1.alloc (.cells zeroD.toArray 60)).alloc (.map #[] 0) := ⟨_, rfl⟩
  have hs0 : W0.heap.size = d + 1 + 1 := by rw [hW0]; simp [hd]
  rw [hd, hm] at HD0 HM0
  rw [← hW0] at HD0 HM0
  have HA0 : Hid (AllAt W0 (.slice (some ⟨W0.heap.size, 0, none⟩) 1 1) [⟨0, 0, 0, false⟩] (W0.alloc (.cells #[.int .i64 0, .int .i64 0, .int .u64 0, .bool false] 44))) :=
    Lib.hid ⟨World.ownsRow_lit W0 _ 1 (Nat.le_refl _) (by decide) rfl, (Chg.refl [] W0).alloc _, fun o ho => by simp at ho; subst ho; exact ⟨by decide, by decide⟩⟩
  simp only [hd, hm] at hs0 ⊢
  rw [← hs0]
  change Code.wp _ _ _ _ (((w1.alloc (.cells zeroD.toArray 60)).alloc (.map #[] 0)).alloc (.cells #[.int .i64 0, .int .i64 0, .int .u64 0, .bool false] 44))
  rw [← hW0]
  have HWd : Hid (∀ x ∈ d :: m :: F0, x < W0.heap.size) := Lib.hid HD0.out.lt
  clear hW0 hs0
  go_loopw [10, 11] (fun v i wr => LRel W0 5 1 1 v i wr) (fun _ i _ => Int.toNat (5) - (intOf i).toNat)
  case atStart => exact ⟨0, _, by omega, rfl, Nat.le_refl _, HA0.out⟩
  case round =>
    clear HA0
    obtain ⟨k, ys, hk, rfl, hyl, hA⟩ := hrel
    have HA := Lib.hid hA
    have hle := hA.chg.size
    clear hA
    by_cases hlt : (k : Int) < 5
    · have h00 := hlt
      have hyb : ys.length ≤ 2000 := by omega
      have HY := Lib.hid hyl
      go_wp2_with (first
        | (at_builtin; refine wpList_append_own_at _ rfl (.tmp 44) (.tmp 46) 41 rfl (W0.heap.size) 44 i0 (.agg #[.int .i64 0, .int .i64 0, .int .u64 0, .bool false]) 4 32 Try.underlying41 hi hz0 hz1 hz2 rfl (by decide) _ _ _ rfl (HA.out.row.alloc _) ⟨wr.heap.size, 0, none⟩ 1 1 [.int .i64 6, .int .i64 0, .int .u64 0, .bool false] rfl rfl (cells_at (by simp) [.int .i64 6, .int .i64 0, .int .u64 0, .bool false] _) (by simp [Value.oneCell']) (by unfold maxLen; omega) (by omega) (by first | omega | (simp; omega) | simp) ?_; intro va1 wa1 hown1 hgrow1 _ hblk1; have hsz1 := hgrow1.size; have HO1 := Lib.hid hown1; have HG1 := Lib.hid hgrow1; have HB1 := Lib.hid hblk1; clear hown1 hgrow1 hblk1))
      go_roundw
      case rel =>
        refine ⟨k + 1, ys ++ [⟨6, 0, 0, false⟩], by omega, by go_num, by have := HY.out; simp; omega, HA.out.add (zs := [⟨6, 0, 0, false⟩]) (n := 1) rfl HO1.out ((HA.out.chg.alloc _).grew (HA.out.row.alloc _) HG1.out (fun q h1 h2 => by omega)) ?_⟩
        intro o ho
        simp only [List.mem_cons, List.not_mem_nil, or_false] at ho
        subst ho; exact ⟨by decide, by decide⟩
      case measure => simp [intOf]; omega
    · have HAp := HA
      have HYp := Lib.hid (show ys.length ≤ 6 from by omega)
      clear hyl HA
      go_wp2_with fail
      clear hk hlt hle
      go_loopw [10, 12] (fun v i wr => LRel W0 nr 6 4 v i wr) (fun _ i _ => Int.toNat (nr) - (intOf i).toNat)
      case atStart => exact ⟨0, _, by omega, rfl, by have := HYp.out; omega, HAp.out⟩
      case round =>
        clear HAp HYp
        obtain ⟨k, ys, hk, rfl, hyl, hA⟩ := hrel
        have HA := Lib.hid hA
        have hle := hA.chg.size
        clear hA
        by_cases hlt : (k : Int) < nr
        · have hk200 : (k : Int) ≤ 200 := by omega
          have HWf := Lib.hid (And.intro (i64_to (a := 8 + (k : Int)) (b := 1000) (by omega) (by omega) (by omega)) (u64_to (a := (k : Int)) (b := 1000) (by omega) (by omega) (by omega)))
          have hyb : ys.length ≤ 2000 := by omega
          have HY := Lib.hid hyl
          go_wp2_with (first
            | (at_builtin; refine wpList_append_own_at _ rfl (.tmp 53) (.tmp 60) 41 rfl (W0.heap.size) 44 i0 (.agg #[.int .i64 0, .int .i64 0, .int .u64 0, .bool false]) 4 32 Try.underlying41 hi hz0 hz1 hz2 rfl (by decide) _ _ _ rfl (HA.out.row.alloc _) ⟨wr.heap.size, 0, none⟩ 4 4 [.int .i64 1, .int .i64 (8 + (k : Int)), .int .u64 0, .bool false, .int .i64 6, .int .i64 0, .int .u64 0, .bool false, .int .i64 6, .int .i64 0, .int .u64 0, .bool false, .int .i64 8, .int .i64 0, .int .u64 0, .bool false] rfl rfl (cells_at (by simp) [.int .i64 1, .int .i64 (8 + (k : Int)), .int .u64 0, .bool false, .int .i64 6, .int .i64 0, .int .u64 0, .bool false, .int .i64 6, .int .i64 0, .int .u64 0, .bool false, .int .i64 8, .int .i64 0, .int .u64 0, .bool false] _) (by simp [Value.oneCell']) (by unfold maxLen; omega) (by omega) (by first | omega | (simp; omega) | simp) ?_; intro va1 wa1 hown1 hgrow1 _ hblk1; have hsz1 := hgrow1.size; have HO1 := Lib.hid hown1; have HG1 := Lib.hid hgrow1; have HB1 := Lib.hid hblk1; clear hown1 hgrow1 hblk1))
          go_roundw
          case rel =>
            refine ⟨k + 1, ys ++ [⟨1, 8 + (k : Int), 0, false⟩, ⟨6, 0, 0, false⟩, ⟨6, 0, 0, false⟩, ⟨8, 0, 0, false⟩], by omega, by go_num, by have := HY.out; simp; omega, HA.out.add (zs := [⟨1, 8 + (k : Int), 0, false⟩, ⟨6, 0, 0, false⟩, ⟨6, 0, 0, false⟩, ⟨8, 0, 0, false⟩]) (n := 4) rfl HO1.out ((HA.out.chg.alloc _).grew (HA.out.row.alloc _) HG1.out (fun q h1 h2 => by omega)) ?_⟩
            intro o ho
            simp only [List.mem_cons, List.not_mem_nil, or_false] at ho
            rcases ho with rfl | rfl | rfl | rfl <;> first | exact ⟨by decide, by decide⟩ | exact ⟨HWf.out.1, rfl⟩
          case measure => simp [intOf]; omega
        · have HAp := HA
          have HYp := Lib.hid (show ys.length ≤ 806 from by omega)
          clear hyl HA
          go_wp2_with fail
          clear hk hlt hle
          go_loopw [10, 13] (fun v i wr => LRel W0 nw 806 2 v i wr) (fun _ i _ => Int.toNat (nw) - (intOf i).toNat)
          case atStart => exact ⟨0, _, by omega, rfl, by have := HYp.out; omega, HAp.out⟩
          case round =>
            clear HAp HYp
            obtain ⟨k, ys, hk, rfl, hyl, hA⟩ := hrel
            have HA := Lib.hid hA
            have hle := hA.chg.size
            clear hA
            by_cases hlt : (k : Int) < nw
            · have hk200 : (k : Int) ≤ 200 := by omega
              have HWf := Lib.hid (And.intro (i64_to (a := 8 + 2 * (k : Int)) (b := 1000) (by omega) (by omega) (by omega)) (u64_to (a := (k : Int)) (b := 1000) (by omega) (by omega) (by omega)))
              have hyb : ys.length ≤ 2000 := by omega
              have HY := Lib.hid hyl
              go_wp2_with (first
                | (at_builtin; refine wpList_append_own_at _ rfl (.tmp 67) (.tmp 75) 41 rfl (W0.heap.size) 44 i0 (.agg #[.int .i64 0, .int .i64 0, .int .u64 0, .bool false]) 4 32 Try.underlying41 hi hz0 hz1 hz2 rfl (by decide) _ _ _ rfl (HA.out.row.alloc _) ⟨wr.heap.size, 0, none⟩ 2 2 [.int .i64 2, .int .i64 (8 + 2 * (k : Int)), .int .u64 (k : Int), .bool false, .int .i64 9, .int .i64 0, .int .u64 0, .bool false] rfl rfl (cells_at (by simp) [.int .i64 2, .int .i64 (8 + 2 * (k : Int)), .int .u64 (k : Int), .bool false, .int .i64 9, .int .i64 0, .int .u64 0, .bool false] _) (by simp [Value.oneCell']) (by unfold maxLen; omega) (by omega) (by first | omega | (simp; omega) | simp) ?_; intro va1 wa1 hown1 hgrow1 _ hblk1; have hsz1 := hgrow1.size; have HO1 := Lib.hid hown1; have HG1 := Lib.hid hgrow1; have HB1 := Lib.hid hblk1; clear hown1 hgrow1 hblk1))
              go_roundw
              case rel =>
                refine ⟨k + 1, ys ++ [⟨2, 8 + 2 * (k : Int), (k : Int), false⟩, ⟨9, 0, 0, false⟩], by omega, by go_num, by have := HY.out; simp; omega, HA.out.add (zs := [⟨2, 8 + 2 * (k : Int), (k : Int), false⟩, ⟨9, 0, 0, false⟩]) (n := 2) rfl HO1.out ((HA.out.chg.alloc _).grew (HA.out.row.alloc _) HG1.out (fun q h1 h2 => by omega)) ?_⟩
                intro o ho
                simp only [List.mem_cons, List.not_mem_nil, or_false] at ho
                rcases ho with rfl | rfl <;> first | exact ⟨by decide, by decide⟩ | exact ⟨HWf.out.1, HWf.out.2⟩
              case measure => simp [intOf]; omega
            · have HAp := HA
              have HYp := Lib.hid (show ys.length ≤ 1206 from by omega)
              clear hyl HA
              have hyb : ys.length ≤ 1206 := HYp.out
              have hlx : xs.length ≤ 300 := HL.out
              have hle2 : W0.heap.size ≤ wr.heap.size := hle
              have HRw := Lib.hid (HR.out.chg0 (HM0.out.chg.trans HAp.out.chg))
              have HNw := Lib.hid (HRw.out.news (by decide) encOpV_len)
              go_wp2_with (first
                | (at_builtin; refine wpList_append_own_any _ rfl (.tmp 77) (.tmp 78) 41 rfl (W0.heap.size) 44 i0 (.agg #[.int .i64 0, .int .i64 0, .int .u64 0, .bool false]) 4 32 Try.underlying41 hi hz0 hz1 hz2 rfl (by decide) _ _ _ rfl (HAp.out.row) A (xs.length) (cap) (List.flatMap encOpV xs) rfl HCap.out.2 (flat_len encOpV_len _) HCap.out.1 HNw.out (encOpV_one _) (by unfold maxLen; omega) (by omega) (by first | omega | (simp; omega) | simp) ?_; intro va2 wa2 hown1 hgrow1 hblk1 hnil1; have hsz2 := hgrow1.size; have HO2 := Lib.hid hown1; have HG2 := Lib.hid hgrow1; have HB2 := Lib.hid hblk1; have HZ2 := Lib.hid hnil1; clear hown1 hgrow1 hblk1 hnil1))
              have hA2 := HAp.out.add (zs := xs) rfl HO2.out (HAp.out.chg.grew HAp.out.row HG2.out (fun q h1 h2 => by omega)) HO.out
              obtain ⟨A2, cap2, hv2, hc21, hc22, hc23, hR2, hg2⟩ := Rd.of_row encOpV_len hA2.row
              have HA2 := Lib.hid hA2
              have HOff := Lib.hid (show ∀ a, A2 = some a → a.block ∉ d :: m :: F0 from fun a e hx => ownsRow_notMem hA2.row (HWd.out _ hx) (by rw [hg2 a e]; simp))
              have HR2 := Lib.hid hR2
              have hlz : (ys ++ xs).length ≤ 1506 := by simp; omega
              have hlen2 : (ys ++ xs).length = ys.length + xs.length := by simp
              rw [hlen2] at hv2
              subst hv2
              rw [← hlen2]
              have hlz2 : ((ys ++ xs).length : Int) ≤ 1506 := by omega
              clear hA2 hR2 hg2 hyb hlx hlen2 HRw HNw HO2 HG2 HB2 HZ2
              generalize ys ++ xs = zs at *
              have HGe := Lib.hid (show ∀ y ∈ d :: m :: F0, w.heap.size ≤ y from fun y hy => (HM0.out.new y hy).elim (fun e => by cases e) id)
              go_loopw [14] (fun i wr => LoopRel w p d m A2 zs i wr) (fun i _ => zs.length - (intOf i).toNat)
              case atStart => exact ⟨0, F0, 0, {}, [], Nat.zero_le _, rfl, Nat.le_refl _, HD0.out.look HA2.out.chg, HM0.out.chg.trans HA2.out.chg, HGe.out, HR2.out, HOff.out⟩
              case round =>
                obtain ⟨j, F, c, s, h, hj, rfl, hc, hD, hC, hge, hRj, hoj⟩ := hrel
                have HD := Lib.hid hD
                have HC := Lib.hid hC
                have HGj := Lib.hid hge
                have HRj := Lib.hid hRj
                have HOj := Lib.hid hoj
                have HCj := Lib.hid hc
                have HZo := Lib.hid HA2.out.ok
                clear hD hC hge hoj hc
                by_cases hlt3 : j < zs.length
                · obtain ⟨bi, off, rfl, hbb, hcell⟩ := hRj (by omega)
                  have c0 : World.cell? _ ⟨bi, off + j * 4, none⟩ = some (.int .i64 zs[j].k) := hcell j hlt3 0 (by decide)
                  have c1 : World.cell? _ ⟨bi, off + j * 4 + 1, none⟩ = some (.int .i64 zs[j].a) := hcell j hlt3 1 (by decide)
                  have c2 : World.cell? _ ⟨bi, off + j * 4 + 2, none⟩ = some (.int .u64 zs[j].v) := hcell j hlt3 2 (by decide)
                  have c3 : World.cell? _ ⟨bi, off + j * 4 + 3, none⟩ = some (.bool zs[j].ok) := hcell j hlt3 3 (by decide)
                  have HQ := Lib.hid (HZo.out zs[j] (List.getElem_mem hlt3))
                  have HK := Lib.hid (And.intro hj (And.intro hlt3 hlz))
                  have hkl : (j : Int) < zs.length := by omega
                  clear hcell hRj hj hbb
                  generalize zs[j] = o at *
                  go_wp2_with fail
                  refine (do_any _ p d m c F s h o HD.out HQ.out (by have := HCj.out; have := HK.out; omega)).mono ?_
                  rintro e w9 ⟨rfl, F9, c9, hc9, hD9, hM9⟩
                  have HD9 := Lib.hid hD9
                  have HM9 := Lib.hid hM9
                  have HC9 := Lib.hid hc9
                  clear hc9 hD9 hM9
                  go_wp2_with fail
                  go_roundw
                  case rel =>
                    refine ⟨j + 1, F9, c9, _, _, by have := HK.out; omega, by go_num, by have := HCj.out; have := HC9.out; omega, HD9.out, HC.out.trans' HM9.out.chg (fun y hy hl => absurd (HGj.out y hy) (by omega)), fun y hy => (HM9.out.new y hy).elim (HGj.out y) (fun e => Nat.le_trans HC.out.size e), HRj.out.chg HM9.out.chg HOj.out, fun a e hx => (HM9.out.new _ hx).elim (HOj.out a e) (fun e2 => ?_)⟩
                    obtain ⟨b2, off2, e3, hb2, _⟩ := HRj.out (by have := HK.out; omega)
                    rw [e] at e3
                    have e4 : a.block = b2 := by cases e3; rfl
                    omega
                  case measure => have := HK.out; simp [intOf]; omega
                · have hkl : ¬ ((j : Int) < zs.length) := by omega
                  clear hlt3
                  go_wp2_with fail
                  refine (same_any _ p d m c F s h HD.out).mono ?_
                  rintro e w9 ⟨rfl, hC9⟩
                  have HC9 := Lib.hid hC9
                  clear hC9
                  go_wp2_with fail
                  go_ret
                  exact ⟨rfl, (HC.out.trans HC9.out).nil_below⟩

theorem SoftLong_any (w : World) (nr nw : Int) (A : Option Addr) (cap : Nat) (xs : List OpV) (hcap : xs.length ≤ cap) (hA0 : A = none → cap = 0) (hok : ∀ o ∈ xs, OpOk o) (hR : Rd w w.heap.size A 4 encOpV xs) :
    Calls Try.prog 7 #[.int .i64 nr, .int .i64 nw, .slice A xs.length cap] w (StaysPost w) := by
  by_cases h0 : 0 ≤ nr
  · by_cases h1 : 0 ≤ nw
    · by_cases h2 : nr ≤ 200
      · by_cases h3 : nw ≤ 200
        · by_cases hl : xs.length ≤ 300
          · exact SoftLong_ok w nr nw A cap xs h0 h1 h2 h3 hl hcap hA0 hok hR
          · have hl1 : (300 : Int) < (xs.length : Int) := by omega
            clear hR hok hcap hA0 hl
            go_enter Try.func7, Try.ntmps7
            go_wp2_with fail
            go_ret
            exact ⟨rfl, Below.refl _ _⟩
        · have h3' : (200 : Int) < nw := by omega
          clear hR hok hcap hA0 h3
          go_enter Try.func7, Try.ntmps7
          go_wp2_with fail
          go_ret
          exact ⟨rfl, Below.refl _ _⟩
      · have h2' : (200 : Int) < nr := by omega
        clear hR hok hcap hA0 h2
        go_enter Try.func7, Try.ntmps7
        go_wp2_with fail
        go_ret
        exact ⟨rfl, Below.refl _ _⟩
    · clear hR hok hcap hA0
      have h1' : nw < 0 := by omega
      go_enter Try.func7, Try.ntmps7
      go_wp2_with fail
      go_ret
      exact ⟨rfl, Below.refl _ _⟩
  · clear hR hok hcap hA0
    have h0' : nr < 0 := by omega
    go_enter Try.func7, Try.ntmps7
    go_wp2_with fail
    go_ret
    exact ⟨rfl, Below.refl _ _⟩

end Go.Proofs.Ytilffolppnnkaaa
