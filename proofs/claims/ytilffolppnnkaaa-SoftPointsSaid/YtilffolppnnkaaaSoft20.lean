/- SoftRefused: calls that cannot be where a path is are refused: the run ahead. -/
import Derived.Test.YtilffolppnnkaaaSoft19
import Derived.Test.YtilffolppnnkaaaEl
namespace Go.Proofs.Ytilffolppnnkaaa
set_option maxRecDepth 100000
open Go.RowKit

/-- A call. -/
structure OpV where
  k : Int
  a : Int
  v : Int
  ok : Bool
def encOpV (o : OpV) : List Value := [.int .i64 o.k, .int .i64 o.a, .int .u64 o.v, .bool o.ok]
def OpOk (o : OpV) : Prop := (Lit.int .i64 o.a).wf = true ∧ (Lit.int .u64 o.v).wf = true

def RefRel (w : World) (p m : Nat) (n : Nat) (i : Value) (wr : World) : Prop :=
  ∃ (k : Nat) (F : List Nat) (c : Nat) (s : PS) (h : PL), k ≤ n ∧ i = .int .i64 k ∧ c ≤ k ∧ Two wr p F m c s h ∧ Mv [] (m :: F) w wr

theorem give_not {s : PS} (h : s.busy = false) (v : Int) (ok : Bool) : s.give v ok = s := by
  have := PS.busy_idle h
  unfold PS.give; rw [this]

def RefEnd (w : World) (a v : Int) (Q : Exit → Act → World → Prop) : Prop := True

set_option maxHeartbeats 2000000 in
theorem SoftRefused_any (w : World) (A : Option Addr) (cap : Nat) (xs : List OpV) (a v : Int) (hok : ∀ o ∈ xs, OpOk o) (ha : (Lit.int .i64 a).wf = true) (hv : (Lit.int .u64 v).wf = true) (hR : Rd w w.heap.size A 4 encOpV xs) :
    Calls Try.prog 5 #[.slice A xs.length cap, .int .i64 a, .int .u64 v] w (StaysPost w) := by
  have hmm := @run_makeMap Try.prog
  have HR := Lib.hid hR
  have HO := Lib.hid hok
  have HA := Lib.hid ha
  have HV := Lib.hid hv
  clear hR hok ha hv
  go_enter Try.func5, Try.ntmps5
  go_wp2_with fail
  refine (alive_any w).mono ?_
  rintro e w0 ⟨rfl, hB⟩
  have HB := Lib.hid hB
  clear hB
  by_cases hlen : xs.length ≤ 1000
  · have hl1 : ¬ (1000 : Int) < (xs.length : Int) := by omega
    go_wp2_with fail
    refine (SNew_e w0).mono ?_
    rintro e w1 ⟨p, F0, rfl, hp, hM⟩
    have HP := Lib.hid hp
    have HM := Lib.hid hM
    clear hp hM
    go_wp2_with fail
    obtain ⟨m, hm⟩ : ∃ m, w1.heap.size = m := ⟨_, rfl⟩
    rw [hm]
    have HT := Lib.hid (show Two (w1.alloc (.map #[] 0)) p F0 m 0 {} [] from ⟨HP.out.look ((Chg.refl [] w1).alloc _), hm ▸ MemAt.new w1, fun hx => by have := HP.out.lt _ hx; omega, trivial⟩)
    have HM0 : Hid (Mv [] (m :: F0) w (w1.alloc (.map #[] 0))) := Lib.hid (by
      have e0 : Mv [] [] w w0 := Mv.of_same (Chg.of_below HB.out [])
      have e1 := e0.trans (HM.out.trans (Mv.of_same ((Chg.refl [] w1).alloc (.map #[] 0))))
      refine ⟨e1.chg, fun x hx => ?_⟩
      rcases List.mem_cons.1 hx with rfl | hx
      · exact .inr (by have := HM.out.chg.size; have := HB.out.size; omega)
      · exact e1.new x hx)
    clear HP HM
    go_loopw [10] (fun i wr => RefRel w p m xs.length i wr) (fun i _ => xs.length - (intOf i).toNat)
    case atStart => exact ⟨0, F0, 0, {}, [], Nat.zero_le _, rfl, Nat.le_refl _, HT.out, HM0.out⟩
    case round =>
      clear HT HM0
      obtain ⟨k, F, c, s, h, hk, rfl, hc, hT, hM⟩ := hrel
      have HT := Lib.hid hT
      have HM := Lib.hid hM
      have HC := Lib.hid hc
      clear hT hM hc
      by_cases hlt : k < xs.length
      · have hR := HR.out.keep (Nat.le_refl _) HM.out.chg (by simp)
        obtain ⟨bi, off, rfl, hbb, hcell⟩ := hR (by omega)
        have c0 : wr.cell? ⟨bi, off + k * 4, none⟩ = some (.int .i64 xs[k].k) := hcell k hlt 0 (by decide)
        have c1 : wr.cell? ⟨bi, off + k * 4 + 1, none⟩ = some (.int .i64 xs[k].a) := hcell k hlt 1 (by decide)
        have c2 : wr.cell? ⟨bi, off + k * 4 + 2, none⟩ = some (.int .u64 xs[k].v) := hcell k hlt 2 (by decide)
        have c3 : wr.cell? ⟨bi, off + k * 4 + 3, none⟩ = some (.bool xs[k].ok) := hcell k hlt 3 (by decide)
        have hq := HO.out xs[k] (List.getElem_mem hlt)
        have HQ := Lib.hid hq
        have hkl : (k : Int) < xs.length := by omega
        have HK := Lib.hid (And.intro hk (And.intro hlt hlen))
        clear hcell hR hq hk hlen hl1
        generalize xs[k] = o at *
        obtain ⟨ok_, oa, ov, ob⟩ := o
        simp only at c0 c1 c2 c3
        go_wp2_with fail
        refine (Want_any wr p F s HT.out.path).mono ?_
        rintro e w1 ⟨rfl, hp1, hC1⟩
        have hX := hC1.trans ((Chg.refl [] w1).alloc (.cells #[.int .i64 s.want.op, .int .i64 s.want.addr, .int .u64 s.want.val, .int .u64 s.want.old] 49))
        have HX := Lib.hid hX
        have HT1 := Lib.hid (HT.out.look hX)
        have hbw := Nat.lt_of_lt_of_le hbb HM.out.chg.size
        have HN := Lib.hid (show bi ∉ F from fun hx => (HM.out.new bi (by simp [hx])).elim (fun e => by cases e) (fun e => by omega))
        have d0 := (hX.cell0 hbw _).trans c0
        have d1 := (hX.cell0 hbw _).trans c1
        have d2 := (hX.cell0 hbw _).trans c2
        have d3 := (hX.cell0 hbw _).trans c3
        have HBB := Lib.hid (Nat.lt_of_lt_of_le hbw hX.size)
        have HWant := Lib.hid (PS.want_ok HT.out.ok HT.out.path.pairs.2.2.1 HT.out.path.pairs.2.2.2.1)
        clear hp1 hC1 hX c0 c1 c2 c3 hbb hbw
        unfold Rq.val'
        by_cases h5 : ok_ = 5
        · subst h5
          have HS := Lib.hid (show (s.give ov ob).ph.ok (s.give ov ob).R (s.give ov ob).W from PS.give_ok (w64_of_wf HQ.out.2) HT.out.ok)
          go_wp2_with fail
          go_region_held3 (fun w' => w'.cell? ⟨bi, off + k * 4 + 2, none⟩ = some (.int .u64 ov) ∧ w'.cell? ⟨bi, off + k * 4 + 3, none⟩ = some (.bool ob))
            (first | exact ⟨d2, d3⟩ | (obtain ⟨F2, hp2, hm2⟩ := HG.out; exact ⟨((hm2.chg.cell HBB.out (HN.out)) _).trans d2, ((hm2.chg.cell HBB.out (HN.out)) _).trans d3⟩))
            (first
              | (go_at_call 24; refine (Give_e _ p F s ov ob (w64_of_wf HQ.out.2) HT.out.ok (HT1.out.path.look ((Chg.refl [] _).drew))).mono ?_; rintro e w' ⟨rfl, hq⟩; have HG := Lib.hid hq; clear hq)
              | fail)
          go_wp2_with fail
          go_roundw
          case rel =>
            obtain ⟨F2, hp2, hm2⟩ := HG.out
            refine ⟨k + 1, F2, c, _, h, by have := HK.out; omega, by go_num, by have := HC.out; omega, (HT1.out.look ((Chg.refl [] _).drew)).step hp2 hm2 HS.out, ?_⟩
            exact HM.out.trans ((Mv.of_same (HX.out.trans ((Chg.refl [] _).drew))).trans (hm2.cons m))
          case measure => have := HK.out; simp [intOf]; omega
        · have h5' : (ok_ == 5) = false := by simpa using h5
          clear h5
          by_cases hb : s.busy = true
          · have HBz := Lib.hid hb
            rw [hb]
            clear hb
            go_wp2_with fail
            refine (Answer_any _ m c h s.want HWant.out (by have := HC.out; have := HK.out; unfold maxLen; omega) HT1.out.mem).mono ?_
            rintro e w2 ⟨rfl, hm2, hC2⟩
            have HT2 := Lib.hid (HT1.out.mstep hm2 hC2)
            have HC2 := Lib.hid hC2
            clear hm2 hC2
            go_wp2_with fail
            refine (Give_e w2 p F s _ _ (HT.out.mem.ok _) HT.out.ok HT2.out.path).mono ?_
            rintro e w3 ⟨rfl, F3, hp3, hM3⟩
            have HT3 := Lib.hid (HT2.out.step hp3 hM3 (PS.give_ok (HT.out.mem.ok _) HT.out.ok))
            have HM3 := Lib.hid hM3
            clear hp3 hM3
            go_wp2_with fail
            go_roundw
            case rel =>
              refine ⟨k + 1, F3, _, _, _, by have := HK.out; omega, by go_num, ?_, HT3.out, ?_⟩
              · have := ansC_le c h s.want; have := HC.out; omega
              · exact HM.out.trans ((Mv.of_same HX.out).trans ((Mv.mem HC2.out).trans (HM3.out.cons m)))
            case measure => have := HK.out; simp [intOf]; omega
          · have hb' : s.busy = false := by simpa using hb
            rw [hb']
            clear hb
            go_wp2_with fail
            refine (begins_any _ p F s ok_ oa ov 5 ob HQ.out.1 HQ.out.2 (by decide) (by decide) HT1.out.path).mono ?_
            rintro e w3 ⟨rfl, F3, hp3, hM3⟩
            have HT3 := Lib.hid (HT1.out.step hp3 hM3 (PS.begins_ok (by decide) (by decide) HT.out.ok))
            have HM3 := Lib.hid hM3
            clear hp3 hM3
            go_wp2_with fail
            go_roundw
            case rel =>
              refine ⟨k + 1, F3, c, _, h, by have := HK.out; omega, by go_num, by have := HC.out; omega, HT3.out, ?_⟩
              exact HM.out.trans ((Mv.of_same HX.out).trans (HM3.out.cons m))
            case measure => have := HK.out; simp [intOf]; omega
      · have hkl : ¬ ((k : Int) < xs.length) := by omega
        clear hlt
        obtain ⟨F20, hF20⟩ : ∃ F20, F20 = F := ⟨_, rfl⟩
        have HT20 := HT
        have HM20 := HM
        rw [← hF20] at HT20 HM20
        clear hF20 HT HM HC
        cases hb : s.busy with
        | true =>
          cases hl : s.live with
          | true =>
            have eBg : s.begin = s := by unfold PS.begin; simp [hb, hl]
            have eBe : s.berr = 80 := by unfold PS.berr; simp [hb, hl]
            have eRd : s.ready = false := by unfold PS.ready; simp [hb, hl]
            have eRe : s.rerr = 80 := by unfold PS.rerr; simp [eRd]
            have eCo : s.commit = s := by unfold PS.commit; simp [eRd]
            have eQu : s.quit = s := by unfold PS.quit; simp [eRd]
            have eLo : s.load a = s := by unfold PS.load; simp [eRd]
            have eSt : s.store a v = s := by unfold PS.store; simp [eRd]
            have eEr : s.err a = 80 := by unfold PS.err touchErr; simp [hb, hl]
            have HOk := Lib.hid HT20.out.ok
            go_wp2_with fail
            refine (Want_any wr p F20 s HT20.out.path).mono ?_
            rintro e w21 ⟨he, hp, hC⟩
            obtain rfl : e = .returned (.tuple #[.agg #[.int .i64 s.want.op, .int .i64 s.want.addr, .int .u64 s.want.val, .int .u64 s.want.old], .bool true]) := by rw [he, hb]; rfl
            try clear he
            have HTa := Lib.hid (HT20.out.look hC)
            obtain ⟨F21, hF21⟩ : ∃ F21, F21 = F20 := ⟨_, rfl⟩
            have HZ := Lib.hid (HM20.out.trans (Mv.of_same (hC.trans ((Chg.refl [] w21).alloc (.cells #[.int .i64 s.want.op, .int .i64 s.want.addr, .int .u64 s.want.val, .int .u64 s.want.old] 49)))))
            have HT21 := Lib.hid (HTa.out.look ((Chg.refl [] w21).alloc (.cells #[.int .i64 s.want.op, .int .i64 s.want.addr, .int .u64 s.want.val, .int .u64 s.want.old] 49)))
            have HB13 := Lib.hid (Blk.new w21 [.int .i64 s.want.op, .int .i64 s.want.addr, .int .u64 s.want.val, .int .u64 s.want.old] 49)
            have HO13 := Lib.hid (show w21.heap.size ∉ m :: F20 from fun hx => by have := HTa.out.lt _ hx; omega)
            rw [← hF21] at HT21 HTa HO13 HZ; clear hF21
            have HM21 := Lib.hid (Mv.refl (m :: F21) (w21.alloc (.cells #[.int .i64 s.want.op, .int .i64 s.want.addr, .int .u64 s.want.val, .int .u64 s.want.old] 49)))
            clear hp hC
            go_wp2_with fail
            refine (Busy_any _ p F21 (s) HT21.out.path).mono ?_
            rintro e w' ⟨he, rfl⟩
            obtain rfl : e = .returned (.bool true) := by rw [he, hb]
            try clear he
            go_wp2_with fail
            refine (Live_any _ p F21 (s) HT21.out.path).mono ?_
            rintro e w' ⟨he, rfl⟩
            obtain rfl : e = .returned (.bool true) := by rw [he, hl]
            try clear he
            go_wp2_with fail
            refine (SValue_any _ p F21 (s) HT21.out.path).mono ?_
            rintro e w' ⟨he, rfl⟩
            obtain rfl : e = .returned (.int .u64 s.value) := he
            try clear he
            go_wp2_with fail
            refine (Ended_any _ p F21 (s) HT21.out.path).mono ?_
            rintro e w' ⟨he, rfl⟩
            obtain rfl : e = .returned (.int .i64 s.ended) := he
            try clear he
            go_wp2_with fail
            refine (Points_any _ p F21 (s) HT21.out.path).mono ?_
            rintro e w' ⟨he, rfl⟩
            obtain rfl : e = .returned (.int .i64 s.points) := he
            try clear he
            go_wp2_with fail
            refine (Begin_e _ p F21 (s) HT21.out.path).mono ?_
            rintro e w22 ⟨he, F22, hp, hM⟩
            obtain rfl : e = .returned (.int .i64 80) := by rw [he, eBe]
            rw [eBg] at hp
            have HT22 : Hid (Two w22 p F22 m c (s) h) := Lib.hid (HT21.out.step hp hM (HOk.out))
            have HM22 := Lib.hid (HM21.out.trans (hM.cons m))
            clear hp hM
            go_wp2_with fail
            refine (Load_any _ p F22 (s) a HA.out HT22.out.path).mono ?_
            rintro e w23 ⟨he, F23, hp, hM⟩
            obtain rfl : e = .returned (.int .i64 80) := by rw [he, eEr]
            rw [eLo] at hp
            have HT23 : Hid (Two w23 p F23 m c (s) h) := Lib.hid (HT22.out.step hp hM (HOk.out))
            have HM23 := Lib.hid (HM22.out.trans (hM.cons m))
            clear hp hM
            go_wp2_with fail
            refine (Store_any _ p F23 (s) a v HA.out HV.out HT23.out.path).mono ?_
            rintro e w24 ⟨he, F24, hp, hM⟩
            obtain rfl : e = .returned (.int .i64 80) := by rw [he, eEr]
            rw [eSt] at hp
            have HT24 : Hid (Two w24 p F24 m c (s) h) := Lib.hid (HT23.out.step hp hM (HOk.out))
            have HM24 := Lib.hid (HM23.out.trans (hM.cons m))
            clear hp hM
            go_wp2_with fail
            refine (Commit_e _ p F24 (s) HT24.out.path).mono ?_
            rintro e w25 ⟨he, F25, hp, hM⟩
            obtain rfl : e = .returned (.int .i64 80) := by rw [he, eRe]
            rw [eCo] at hp
            have HT25 : Hid (Two w25 p F25 m c (s) h) := Lib.hid (HT24.out.step hp hM (HOk.out))
            have HM25 := Lib.hid (HM24.out.trans (hM.cons m))
            clear hp hM
            go_wp2_with fail
            refine (Quit_e _ p F25 (s) HT25.out.path).mono ?_
            rintro e w26 ⟨he, F26, hp, hM⟩
            obtain rfl : e = .returned (.int .i64 80) := by rw [he, eRe]
            rw [eQu] at hp
            have HT26 : Hid (Two w26 p F26 m c (s) h) := Lib.hid (HT25.out.step hp hM (HOk.out))
            have HM26 := Lib.hid (HM25.out.trans (hM.cons m))
            clear hp hM
            go_wp2_with fail
            refine (Want_any _ p F26 (s) HT26.out.path).mono ?_
            rintro e w27 ⟨he, hp, hC⟩
            obtain rfl : e = .returned (.tuple #[.agg #[.int .i64 s.want.op, .int .i64 s.want.addr, .int .u64 s.want.val, .int .u64 s.want.old], .bool true]) := by rw [he, hb]; rfl
            try clear he
            obtain ⟨F27, hF27⟩ : ∃ F27, F27 = F26 := ⟨_, rfl⟩
            have HT27 := Lib.hid ((HT26.out.look hC).look ((Chg.refl [] w27).alloc (.cells #[.int .i64 s.want.op, .int .i64 s.want.addr, .int .u64 s.want.val, .int .u64 s.want.old] 49)))
            have HM27 := Lib.hid (HM26.out.trans (Mv.of_same (hC.trans ((Chg.refl [] w27).alloc (.cells #[.int .i64 s.want.op, .int .i64 s.want.addr, .int .u64 s.want.val, .int .u64 s.want.old] 49)))))
            have HX27 := Lib.hid hC
            rw [← hF27] at HT27 HM27; clear hF27
            clear hp hC
            have q0 : (w27.alloc (.cells #[.int .i64 s.want.op, .int .i64 s.want.addr, .int .u64 s.want.val, .int .u64 s.want.old] 49)).cell? ⟨w21.heap.size, 0, none⟩ = some (.int .i64 s.want.op) := (HM27.out.chg.blk HB13.out HO13.out).cell 0
            have q1 : (w27.alloc (.cells #[.int .i64 s.want.op, .int .i64 s.want.addr, .int .u64 s.want.val, .int .u64 s.want.old] 49)).cell? ⟨w21.heap.size, 1, none⟩ = some (.int .i64 s.want.addr) := (HM27.out.chg.blk HB13.out HO13.out).cell 1
            have q2 : (w27.alloc (.cells #[.int .i64 s.want.op, .int .i64 s.want.addr, .int .u64 s.want.val, .int .u64 s.want.old] 49)).cell? ⟨w21.heap.size, 2, none⟩ = some (.int .u64 s.want.val) := (HM27.out.chg.blk HB13.out HO13.out).cell 2
            have q3 : (w27.alloc (.cells #[.int .i64 s.want.op, .int .i64 s.want.addr, .int .u64 s.want.val, .int .u64 s.want.old] 49)).cell? ⟨w21.heap.size, 3, none⟩ = some (.int .u64 s.want.old) := (HM27.out.chg.blk HB13.out HO13.out).cell 3
            go_wp2_with fail
            refine (Busy_any _ p F27 (s) HT27.out.path).mono ?_
            rintro e w' ⟨he, rfl⟩
            obtain rfl : e = .returned (.bool true) := by rw [he, hb]
            try clear he
            go_wp2_with fail
            refine (Live_any _ p F27 (s) HT27.out.path).mono ?_
            rintro e w' ⟨he, rfl⟩
            obtain rfl : e = .returned (.bool true) := by rw [he, hl]
            try clear he
            go_wp2_with fail
            refine (SValue_any _ p F27 (s) HT27.out.path).mono ?_
            rintro e w' ⟨he, rfl⟩
            obtain rfl : e = .returned (.int .u64 s.value) := he
            try clear he
            go_wp2_with fail
            refine (Ended_any _ p F27 (s) HT27.out.path).mono ?_
            rintro e w' ⟨he, rfl⟩
            obtain rfl : e = .returned (.int .i64 s.ended) := he
            try clear he
            go_wp2_with fail
            refine (Points_any _ p F27 (s) HT27.out.path).mono ?_
            rintro e w' ⟨he, rfl⟩
            obtain rfl : e = .returned (.int .i64 s.points) := he
            try clear he
            go_wp2_with fail
            go_ret
            exact ⟨rfl, (HZ.out.chg.trans' HM27.out.chg (fun x hx hl => (HZ.out.new x hx).elim id (fun e => by omega))).to_below (by simp) (Nat.le_refl _)⟩
          | false =>
            have eBg : s.begin = s := by unfold PS.begin; simp [hb, hl]
            have eBe : s.berr = 80 := by unfold PS.berr; simp [hb, hl]
            have eRd : s.ready = false := by unfold PS.ready; simp [hb, hl]
            have eRe : s.rerr = 80 := by unfold PS.rerr; simp [eRd]
            have eCo : s.commit = s := by unfold PS.commit; simp [eRd]
            have eQu : s.quit = s := by unfold PS.quit; simp [eRd]
            have eLo : s.load a = s := by unfold PS.load; simp [eRd]
            have eSt : s.store a v = s := by unfold PS.store; simp [eRd]
            have eEr : s.err a = 80 := by unfold PS.err touchErr; simp [hb, hl]
            have HOk := Lib.hid HT20.out.ok
            go_wp2_with fail
            refine (Want_any wr p F20 s HT20.out.path).mono ?_
            rintro e w21 ⟨he, hp, hC⟩
            obtain rfl : e = .returned (.tuple #[.agg #[.int .i64 s.want.op, .int .i64 s.want.addr, .int .u64 s.want.val, .int .u64 s.want.old], .bool true]) := by rw [he, hb]; rfl
            try clear he
            have HTa := Lib.hid (HT20.out.look hC)
            obtain ⟨F21, hF21⟩ : ∃ F21, F21 = F20 := ⟨_, rfl⟩
            have HZ := Lib.hid (HM20.out.trans (Mv.of_same (hC.trans ((Chg.refl [] w21).alloc (.cells #[.int .i64 s.want.op, .int .i64 s.want.addr, .int .u64 s.want.val, .int .u64 s.want.old] 49)))))
            have HT21 := Lib.hid (HTa.out.look ((Chg.refl [] w21).alloc (.cells #[.int .i64 s.want.op, .int .i64 s.want.addr, .int .u64 s.want.val, .int .u64 s.want.old] 49)))
            have HB13 := Lib.hid (Blk.new w21 [.int .i64 s.want.op, .int .i64 s.want.addr, .int .u64 s.want.val, .int .u64 s.want.old] 49)
            have HO13 := Lib.hid (show w21.heap.size ∉ m :: F20 from fun hx => by have := HTa.out.lt _ hx; omega)
            rw [← hF21] at HT21 HTa HO13 HZ; clear hF21
            have HM21 := Lib.hid (Mv.refl (m :: F21) (w21.alloc (.cells #[.int .i64 s.want.op, .int .i64 s.want.addr, .int .u64 s.want.val, .int .u64 s.want.old] 49)))
            clear hp hC
            go_wp2_with fail
            refine (Busy_any _ p F21 (s) HT21.out.path).mono ?_
            rintro e w' ⟨he, rfl⟩
            obtain rfl : e = .returned (.bool true) := by rw [he, hb]
            try clear he
            go_wp2_with fail
            refine (Live_any _ p F21 (s) HT21.out.path).mono ?_
            rintro e w' ⟨he, rfl⟩
            obtain rfl : e = .returned (.bool false) := by rw [he, hl]
            try clear he
            go_wp2_with fail
            refine (SValue_any _ p F21 (s) HT21.out.path).mono ?_
            rintro e w' ⟨he, rfl⟩
            obtain rfl : e = .returned (.int .u64 s.value) := he
            try clear he
            go_wp2_with fail
            refine (Ended_any _ p F21 (s) HT21.out.path).mono ?_
            rintro e w' ⟨he, rfl⟩
            obtain rfl : e = .returned (.int .i64 s.ended) := he
            try clear he
            go_wp2_with fail
            refine (Points_any _ p F21 (s) HT21.out.path).mono ?_
            rintro e w' ⟨he, rfl⟩
            obtain rfl : e = .returned (.int .i64 s.points) := he
            try clear he
            go_wp2_with fail
            refine (Begin_e _ p F21 (s) HT21.out.path).mono ?_
            rintro e w22 ⟨he, F22, hp, hM⟩
            obtain rfl : e = .returned (.int .i64 80) := by rw [he, eBe]
            rw [eBg] at hp
            have HT22 : Hid (Two w22 p F22 m c (s) h) := Lib.hid (HT21.out.step hp hM (HOk.out))
            have HM22 := Lib.hid (HM21.out.trans (hM.cons m))
            clear hp hM
            go_wp2_with fail
            refine (Load_any _ p F22 (s) a HA.out HT22.out.path).mono ?_
            rintro e w23 ⟨he, F23, hp, hM⟩
            obtain rfl : e = .returned (.int .i64 80) := by rw [he, eEr]
            rw [eLo] at hp
            have HT23 : Hid (Two w23 p F23 m c (s) h) := Lib.hid (HT22.out.step hp hM (HOk.out))
            have HM23 := Lib.hid (HM22.out.trans (hM.cons m))
            clear hp hM
            go_wp2_with fail
            refine (Store_any _ p F23 (s) a v HA.out HV.out HT23.out.path).mono ?_
            rintro e w24 ⟨he, F24, hp, hM⟩
            obtain rfl : e = .returned (.int .i64 80) := by rw [he, eEr]
            rw [eSt] at hp
            have HT24 : Hid (Two w24 p F24 m c (s) h) := Lib.hid (HT23.out.step hp hM (HOk.out))
            have HM24 := Lib.hid (HM23.out.trans (hM.cons m))
            clear hp hM
            go_wp2_with fail
            refine (Commit_e _ p F24 (s) HT24.out.path).mono ?_
            rintro e w25 ⟨he, F25, hp, hM⟩
            obtain rfl : e = .returned (.int .i64 80) := by rw [he, eRe]
            rw [eCo] at hp
            have HT25 : Hid (Two w25 p F25 m c (s) h) := Lib.hid (HT24.out.step hp hM (HOk.out))
            have HM25 := Lib.hid (HM24.out.trans (hM.cons m))
            clear hp hM
            go_wp2_with fail
            refine (Quit_e _ p F25 (s) HT25.out.path).mono ?_
            rintro e w26 ⟨he, F26, hp, hM⟩
            obtain rfl : e = .returned (.int .i64 80) := by rw [he, eRe]
            rw [eQu] at hp
            have HT26 : Hid (Two w26 p F26 m c (s) h) := Lib.hid (HT25.out.step hp hM (HOk.out))
            have HM26 := Lib.hid (HM25.out.trans (hM.cons m))
            clear hp hM
            go_wp2_with fail
            refine (Want_any _ p F26 (s) HT26.out.path).mono ?_
            rintro e w27 ⟨he, hp, hC⟩
            obtain rfl : e = .returned (.tuple #[.agg #[.int .i64 s.want.op, .int .i64 s.want.addr, .int .u64 s.want.val, .int .u64 s.want.old], .bool true]) := by rw [he, hb]; rfl
            try clear he
            obtain ⟨F27, hF27⟩ : ∃ F27, F27 = F26 := ⟨_, rfl⟩
            have HT27 := Lib.hid ((HT26.out.look hC).look ((Chg.refl [] w27).alloc (.cells #[.int .i64 s.want.op, .int .i64 s.want.addr, .int .u64 s.want.val, .int .u64 s.want.old] 49)))
            have HM27 := Lib.hid (HM26.out.trans (Mv.of_same (hC.trans ((Chg.refl [] w27).alloc (.cells #[.int .i64 s.want.op, .int .i64 s.want.addr, .int .u64 s.want.val, .int .u64 s.want.old] 49)))))
            have HX27 := Lib.hid hC
            rw [← hF27] at HT27 HM27; clear hF27
            clear hp hC
            have q0 : (w27.alloc (.cells #[.int .i64 s.want.op, .int .i64 s.want.addr, .int .u64 s.want.val, .int .u64 s.want.old] 49)).cell? ⟨w21.heap.size, 0, none⟩ = some (.int .i64 s.want.op) := (HM27.out.chg.blk HB13.out HO13.out).cell 0
            have q1 : (w27.alloc (.cells #[.int .i64 s.want.op, .int .i64 s.want.addr, .int .u64 s.want.val, .int .u64 s.want.old] 49)).cell? ⟨w21.heap.size, 1, none⟩ = some (.int .i64 s.want.addr) := (HM27.out.chg.blk HB13.out HO13.out).cell 1
            have q2 : (w27.alloc (.cells #[.int .i64 s.want.op, .int .i64 s.want.addr, .int .u64 s.want.val, .int .u64 s.want.old] 49)).cell? ⟨w21.heap.size, 2, none⟩ = some (.int .u64 s.want.val) := (HM27.out.chg.blk HB13.out HO13.out).cell 2
            have q3 : (w27.alloc (.cells #[.int .i64 s.want.op, .int .i64 s.want.addr, .int .u64 s.want.val, .int .u64 s.want.old] 49)).cell? ⟨w21.heap.size, 3, none⟩ = some (.int .u64 s.want.old) := (HM27.out.chg.blk HB13.out HO13.out).cell 3
            go_wp2_with fail
            refine (Busy_any _ p F27 (s) HT27.out.path).mono ?_
            rintro e w' ⟨he, rfl⟩
            obtain rfl : e = .returned (.bool true) := by rw [he, hb]
            try clear he
            go_wp2_with fail
            refine (Live_any _ p F27 (s) HT27.out.path).mono ?_
            rintro e w' ⟨he, rfl⟩
            obtain rfl : e = .returned (.bool false) := by rw [he, hl]
            try clear he
            go_wp2_with fail
            refine (SValue_any _ p F27 (s) HT27.out.path).mono ?_
            rintro e w' ⟨he, rfl⟩
            obtain rfl : e = .returned (.int .u64 s.value) := he
            try clear he
            go_wp2_with fail
            refine (Ended_any _ p F27 (s) HT27.out.path).mono ?_
            rintro e w' ⟨he, rfl⟩
            obtain rfl : e = .returned (.int .i64 s.ended) := he
            try clear he
            go_wp2_with fail
            refine (Points_any _ p F27 (s) HT27.out.path).mono ?_
            rintro e w' ⟨he, rfl⟩
            obtain rfl : e = .returned (.int .i64 s.points) := he
            try clear he
            go_wp2_with fail
            go_ret
            exact ⟨rfl, (HZ.out.chg.trans' HM27.out.chg (fun x hx hl => (HZ.out.new x hx).elim id (fun e => by omega))).to_below (by simp) (Nat.le_refl _)⟩
        | false =>
          cases hl : s.live with
          | true =>
            by_cases ha8 : a < 8
            · skip
              have eBg : s.begin = s := by unfold PS.begin; simp [hb, hl]
              have eBe : s.berr = 80 := by unfold PS.berr; simp [hb, hl]
              have eLo : s.load a = s := by unfold PS.load; simp; intro _ h; omega
              have eSt : s.store a v = s := by unfold PS.store; simp; intro _ h; omega
              have eEr : s.err a = 2 := by unfold PS.err touchErr; simp [hb, hl]; omega
              have eGe : s.gerr = 80 := by unfold PS.gerr; simp [hb]
              have HOk := Lib.hid HT20.out.ok
              go_wp2_with fail
              refine (Want_any wr p F20 s HT20.out.path).mono ?_
              rintro e w21 ⟨he, hp, hC⟩
              obtain rfl : e = .returned (.tuple #[.agg #[.int .i64 s.want.op, .int .i64 s.want.addr, .int .u64 s.want.val, .int .u64 s.want.old], .bool false]) := by rw [he, hb]; rfl
              try clear he
              have HTa := Lib.hid (HT20.out.look hC)
              obtain ⟨F21, hF21⟩ : ∃ F21, F21 = F20 := ⟨_, rfl⟩
              have HZ := Lib.hid (HM20.out.trans (Mv.of_same (hC.trans ((Chg.refl [] w21).alloc (.cells #[.int .i64 s.want.op, .int .i64 s.want.addr, .int .u64 s.want.val, .int .u64 s.want.old] 49)))))
              have HT21 := Lib.hid (HTa.out.look ((Chg.refl [] w21).alloc (.cells #[.int .i64 s.want.op, .int .i64 s.want.addr, .int .u64 s.want.val, .int .u64 s.want.old] 49)))
              have HB13 := Lib.hid (Blk.new w21 [.int .i64 s.want.op, .int .i64 s.want.addr, .int .u64 s.want.val, .int .u64 s.want.old] 49)
              have HO13 := Lib.hid (show w21.heap.size ∉ m :: F20 from fun hx => by have := HTa.out.lt _ hx; omega)
              rw [← hF21] at HT21 HTa HO13 HZ; clear hF21
              have HM21 := Lib.hid (Mv.refl (m :: F21) (w21.alloc (.cells #[.int .i64 s.want.op, .int .i64 s.want.addr, .int .u64 s.want.val, .int .u64 s.want.old] 49)))
              clear hp hC
              go_wp2_with fail
              refine (Busy_any _ p F21 (s) HT21.out.path).mono ?_
              rintro e w' ⟨he, rfl⟩
              obtain rfl : e = .returned (.bool false) := by rw [he, hb]
              try clear he
              go_wp2_with fail
              refine (Live_any _ p F21 (s) HT21.out.path).mono ?_
              rintro e w' ⟨he, rfl⟩
              obtain rfl : e = .returned (.bool true) := by rw [he, hl]
              try clear he
              go_wp2_with fail
              refine (SValue_any _ p F21 (s) HT21.out.path).mono ?_
              rintro e w' ⟨he, rfl⟩
              obtain rfl : e = .returned (.int .u64 s.value) := he
              try clear he
              go_wp2_with fail
              refine (Ended_any _ p F21 (s) HT21.out.path).mono ?_
              rintro e w' ⟨he, rfl⟩
              obtain rfl : e = .returned (.int .i64 s.ended) := he
              try clear he
              go_wp2_with fail
              refine (Points_any _ p F21 (s) HT21.out.path).mono ?_
              rintro e w' ⟨he, rfl⟩
              obtain rfl : e = .returned (.int .i64 s.points) := he
              try clear he
              go_wp2_with fail
              refine (Give_e _ p F21 (s) v true (w64_of_wf HV.out) HT21.out.ok HT21.out.path).mono ?_
              rintro e w22 ⟨he, F22, hp, hM⟩
              obtain rfl : e = .returned (.int .i64 80) := by rw [he, eGe]
              rw [give_not hb] at hp
              have HT22 : Hid (Two w22 p F22 m c (s) h) := Lib.hid (HT21.out.step hp hM (HOk.out))
              have HM22 := Lib.hid (HM21.out.trans (hM.cons m))
              clear hp hM
              go_wp2_with fail
              refine (Begin_e _ p F22 (s) HT22.out.path).mono ?_
              rintro e w23 ⟨he, F23, hp, hM⟩
              obtain rfl : e = .returned (.int .i64 80) := by rw [he, eBe]
              rw [eBg] at hp
              have HT23 : Hid (Two w23 p F23 m c (s) h) := Lib.hid (HT22.out.step hp hM (HOk.out))
              have HM23 := Lib.hid (HM22.out.trans (hM.cons m))
              clear hp hM
              go_wp2_with fail
              refine (Load_any _ p F23 (s) a HA.out HT23.out.path).mono ?_
              rintro e w24 ⟨he, F24, hp, hM⟩
              obtain rfl : e = .returned (.int .i64 2) := by rw [he, eEr]
              rw [eLo] at hp
              have HT24 : Hid (Two w24 p F24 m c (s) h) := Lib.hid (HT23.out.step hp hM (HOk.out))
              have HM24 := Lib.hid (HM23.out.trans (hM.cons m))
              clear hp hM
              go_wp2_with fail
              refine (Store_any _ p F24 (s) a v HA.out HV.out HT24.out.path).mono ?_
              rintro e w25 ⟨he, F25, hp, hM⟩
              obtain rfl : e = .returned (.int .i64 2) := by rw [he, eEr]
              rw [eSt] at hp
              have HT25 : Hid (Two w25 p F25 m c (s) h) := Lib.hid (HT24.out.step hp hM (HOk.out))
              have HM25 := Lib.hid (HM24.out.trans (hM.cons m))
              clear hp hM
              go_wp2_with fail
              refine (Want_any _ p F25 (s) HT25.out.path).mono ?_
              rintro e w26 ⟨he, hp, hC⟩
              obtain rfl : e = .returned (.tuple #[.agg #[.int .i64 s.want.op, .int .i64 s.want.addr, .int .u64 s.want.val, .int .u64 s.want.old], .bool false]) := by rw [he, hb]; rfl
              try clear he
              obtain ⟨F26, hF26⟩ : ∃ F26, F26 = F25 := ⟨_, rfl⟩
              have HT26 := Lib.hid ((HT25.out.look hC).look ((Chg.refl [] w26).alloc (.cells #[.int .i64 s.want.op, .int .i64 s.want.addr, .int .u64 s.want.val, .int .u64 s.want.old] 49)))
              have HM26 := Lib.hid (HM25.out.trans (Mv.of_same (hC.trans ((Chg.refl [] w26).alloc (.cells #[.int .i64 s.want.op, .int .i64 s.want.addr, .int .u64 s.want.val, .int .u64 s.want.old] 49)))))
              have HX26 := Lib.hid hC
              rw [← hF26] at HT26 HM26; clear hF26
              clear hp hC
              have q0 : (w26.alloc (.cells #[.int .i64 s.want.op, .int .i64 s.want.addr, .int .u64 s.want.val, .int .u64 s.want.old] 49)).cell? ⟨w21.heap.size, 0, none⟩ = some (.int .i64 s.want.op) := (HM26.out.chg.blk HB13.out HO13.out).cell 0
              have q1 : (w26.alloc (.cells #[.int .i64 s.want.op, .int .i64 s.want.addr, .int .u64 s.want.val, .int .u64 s.want.old] 49)).cell? ⟨w21.heap.size, 1, none⟩ = some (.int .i64 s.want.addr) := (HM26.out.chg.blk HB13.out HO13.out).cell 1
              have q2 : (w26.alloc (.cells #[.int .i64 s.want.op, .int .i64 s.want.addr, .int .u64 s.want.val, .int .u64 s.want.old] 49)).cell? ⟨w21.heap.size, 2, none⟩ = some (.int .u64 s.want.val) := (HM26.out.chg.blk HB13.out HO13.out).cell 2
              have q3 : (w26.alloc (.cells #[.int .i64 s.want.op, .int .i64 s.want.addr, .int .u64 s.want.val, .int .u64 s.want.old] 49)).cell? ⟨w21.heap.size, 3, none⟩ = some (.int .u64 s.want.old) := (HM26.out.chg.blk HB13.out HO13.out).cell 3
              go_wp2_with fail
              refine (Busy_any _ p F26 (s) HT26.out.path).mono ?_
              rintro e w' ⟨he, rfl⟩
              obtain rfl : e = .returned (.bool false) := by rw [he, hb]
              try clear he
              go_wp2_with fail
              refine (Live_any _ p F26 (s) HT26.out.path).mono ?_
              rintro e w' ⟨he, rfl⟩
              obtain rfl : e = .returned (.bool true) := by rw [he, hl]
              try clear he
              go_wp2_with fail
              refine (SValue_any _ p F26 (s) HT26.out.path).mono ?_
              rintro e w' ⟨he, rfl⟩
              obtain rfl : e = .returned (.int .u64 s.value) := he
              try clear he
              go_wp2_with fail
              refine (Ended_any _ p F26 (s) HT26.out.path).mono ?_
              rintro e w' ⟨he, rfl⟩
              obtain rfl : e = .returned (.int .i64 s.ended) := he
              try clear he
              go_wp2_with fail
              refine (Points_any _ p F26 (s) HT26.out.path).mono ?_
              rintro e w' ⟨he, rfl⟩
              obtain rfl : e = .returned (.int .i64 s.points) := he
              try clear he
              go_wp2_with fail
              go_ret
              exact ⟨rfl, (HZ.out.chg.trans' HM26.out.chg (fun x hx hl => (HZ.out.new x hx).elim id (fun e => by omega))).to_below (by simp) (Nat.le_refl _)⟩
            · skip
              have eBg : s.begin = s := by unfold PS.begin; simp [hb, hl]
              have eBe : s.berr = 80 := by unfold PS.berr; simp [hb, hl]
              have eGe : s.gerr = 80 := by unfold PS.gerr; simp [hb]
              have HOk := Lib.hid HT20.out.ok
              go_wp2_with fail
              refine (Want_any wr p F20 s HT20.out.path).mono ?_
              rintro e w21 ⟨he, hp, hC⟩
              obtain rfl : e = .returned (.tuple #[.agg #[.int .i64 s.want.op, .int .i64 s.want.addr, .int .u64 s.want.val, .int .u64 s.want.old], .bool false]) := by rw [he, hb]; rfl
              try clear he
              have HTa := Lib.hid (HT20.out.look hC)
              obtain ⟨F21, hF21⟩ : ∃ F21, F21 = F20 := ⟨_, rfl⟩
              have HZ := Lib.hid (HM20.out.trans (Mv.of_same (hC.trans ((Chg.refl [] w21).alloc (.cells #[.int .i64 s.want.op, .int .i64 s.want.addr, .int .u64 s.want.val, .int .u64 s.want.old] 49)))))
              have HT21 := Lib.hid (HTa.out.look ((Chg.refl [] w21).alloc (.cells #[.int .i64 s.want.op, .int .i64 s.want.addr, .int .u64 s.want.val, .int .u64 s.want.old] 49)))
              have HB13 := Lib.hid (Blk.new w21 [.int .i64 s.want.op, .int .i64 s.want.addr, .int .u64 s.want.val, .int .u64 s.want.old] 49)
              have HO13 := Lib.hid (show w21.heap.size ∉ m :: F20 from fun hx => by have := HTa.out.lt _ hx; omega)
              rw [← hF21] at HT21 HTa HO13 HZ; clear hF21
              have HM21 := Lib.hid (Mv.refl (m :: F21) (w21.alloc (.cells #[.int .i64 s.want.op, .int .i64 s.want.addr, .int .u64 s.want.val, .int .u64 s.want.old] 49)))
              clear hp hC
              go_wp2_with fail
              refine (Busy_any _ p F21 (s) HT21.out.path).mono ?_
              rintro e w' ⟨he, rfl⟩
              obtain rfl : e = .returned (.bool false) := by rw [he, hb]
              try clear he
              go_wp2_with fail
              refine (Live_any _ p F21 (s) HT21.out.path).mono ?_
              rintro e w' ⟨he, rfl⟩
              obtain rfl : e = .returned (.bool true) := by rw [he, hl]
              try clear he
              go_wp2_with fail
              refine (SValue_any _ p F21 (s) HT21.out.path).mono ?_
              rintro e w' ⟨he, rfl⟩
              obtain rfl : e = .returned (.int .u64 s.value) := he
              try clear he
              go_wp2_with fail
              refine (Ended_any _ p F21 (s) HT21.out.path).mono ?_
              rintro e w' ⟨he, rfl⟩
              obtain rfl : e = .returned (.int .i64 s.ended) := he
              try clear he
              go_wp2_with fail
              refine (Points_any _ p F21 (s) HT21.out.path).mono ?_
              rintro e w' ⟨he, rfl⟩
              obtain rfl : e = .returned (.int .i64 s.points) := he
              try clear he
              go_wp2_with fail
              refine (Give_e _ p F21 (s) v true (w64_of_wf HV.out) HT21.out.ok HT21.out.path).mono ?_
              rintro e w22 ⟨he, F22, hp, hM⟩
              obtain rfl : e = .returned (.int .i64 80) := by rw [he, eGe]
              rw [give_not hb] at hp
              have HT22 : Hid (Two w22 p F22 m c (s) h) := Lib.hid (HT21.out.step hp hM (HOk.out))
              have HM22 := Lib.hid (HM21.out.trans (hM.cons m))
              clear hp hM
              go_wp2_with fail
              refine (Begin_e _ p F22 (s) HT22.out.path).mono ?_
              rintro e w23 ⟨he, F23, hp, hM⟩
              obtain rfl : e = .returned (.int .i64 80) := by rw [he, eBe]
              rw [eBg] at hp
              have HT23 : Hid (Two w23 p F23 m c (s) h) := Lib.hid (HT22.out.step hp hM (HOk.out))
              have HM23 := Lib.hid (HM22.out.trans (hM.cons m))
              clear hp hM
              go_wp2_with fail
              refine (Want_any _ p F23 (s) HT23.out.path).mono ?_
              rintro e w24 ⟨he, hp, hC⟩
              obtain rfl : e = .returned (.tuple #[.agg #[.int .i64 s.want.op, .int .i64 s.want.addr, .int .u64 s.want.val, .int .u64 s.want.old], .bool false]) := by rw [he, hb]; rfl
              try clear he
              obtain ⟨F24, hF24⟩ : ∃ F24, F24 = F23 := ⟨_, rfl⟩
              have HT24 := Lib.hid ((HT23.out.look hC).look ((Chg.refl [] w24).alloc (.cells #[.int .i64 s.want.op, .int .i64 s.want.addr, .int .u64 s.want.val, .int .u64 s.want.old] 49)))
              have HM24 := Lib.hid (HM23.out.trans (Mv.of_same (hC.trans ((Chg.refl [] w24).alloc (.cells #[.int .i64 s.want.op, .int .i64 s.want.addr, .int .u64 s.want.val, .int .u64 s.want.old] 49)))))
              have HX24 := Lib.hid hC
              rw [← hF24] at HT24 HM24; clear hF24
              clear hp hC
              have q0 : (w24.alloc (.cells #[.int .i64 s.want.op, .int .i64 s.want.addr, .int .u64 s.want.val, .int .u64 s.want.old] 49)).cell? ⟨w21.heap.size, 0, none⟩ = some (.int .i64 s.want.op) := (HM24.out.chg.blk HB13.out HO13.out).cell 0
              have q1 : (w24.alloc (.cells #[.int .i64 s.want.op, .int .i64 s.want.addr, .int .u64 s.want.val, .int .u64 s.want.old] 49)).cell? ⟨w21.heap.size, 1, none⟩ = some (.int .i64 s.want.addr) := (HM24.out.chg.blk HB13.out HO13.out).cell 1
              have q2 : (w24.alloc (.cells #[.int .i64 s.want.op, .int .i64 s.want.addr, .int .u64 s.want.val, .int .u64 s.want.old] 49)).cell? ⟨w21.heap.size, 2, none⟩ = some (.int .u64 s.want.val) := (HM24.out.chg.blk HB13.out HO13.out).cell 2
              have q3 : (w24.alloc (.cells #[.int .i64 s.want.op, .int .i64 s.want.addr, .int .u64 s.want.val, .int .u64 s.want.old] 49)).cell? ⟨w21.heap.size, 3, none⟩ = some (.int .u64 s.want.old) := (HM24.out.chg.blk HB13.out HO13.out).cell 3
              go_wp2_with fail
              refine (Busy_any _ p F24 (s) HT24.out.path).mono ?_
              rintro e w' ⟨he, rfl⟩
              obtain rfl : e = .returned (.bool false) := by rw [he, hb]
              try clear he
              go_wp2_with fail
              refine (Live_any _ p F24 (s) HT24.out.path).mono ?_
              rintro e w' ⟨he, rfl⟩
              obtain rfl : e = .returned (.bool true) := by rw [he, hl]
              try clear he
              go_wp2_with fail
              refine (SValue_any _ p F24 (s) HT24.out.path).mono ?_
              rintro e w' ⟨he, rfl⟩
              obtain rfl : e = .returned (.int .u64 s.value) := he
              try clear he
              go_wp2_with fail
              refine (Ended_any _ p F24 (s) HT24.out.path).mono ?_
              rintro e w' ⟨he, rfl⟩
              obtain rfl : e = .returned (.int .i64 s.ended) := he
              try clear he
              go_wp2_with fail
              refine (Points_any _ p F24 (s) HT24.out.path).mono ?_
              rintro e w' ⟨he, rfl⟩
              obtain rfl : e = .returned (.int .i64 s.points) := he
              try clear he
              go_wp2_with fail
              go_ret
              exact ⟨rfl, (HZ.out.chg.trans' HM24.out.chg (fun x hx hl => (HZ.out.new x hx).elim id (fun e => by omega))).to_below (by simp) (Nat.le_refl _)⟩
          | false =>
            have eRd : s.ready = false := by unfold PS.ready; simp [hb, hl]
            have eRe : s.rerr = 80 := by unfold PS.rerr; simp [eRd]
            have eCo : s.commit = s := by unfold PS.commit; simp [eRd]
            have eQu : s.quit = s := by unfold PS.quit; simp [eRd]
            have eLo : s.load a = s := by unfold PS.load; simp [eRd]
            have eSt : s.store a v = s := by unfold PS.store; simp [eRd]
            have eEr : s.err a = 80 := by unfold PS.err touchErr; simp [hb, hl]
            have eGe : s.gerr = 80 := by unfold PS.gerr; simp [hb]
            have HOk := Lib.hid HT20.out.ok
            go_wp2_with fail
            refine (Want_any wr p F20 s HT20.out.path).mono ?_
            rintro e w21 ⟨he, hp, hC⟩
            obtain rfl : e = .returned (.tuple #[.agg #[.int .i64 s.want.op, .int .i64 s.want.addr, .int .u64 s.want.val, .int .u64 s.want.old], .bool false]) := by rw [he, hb]; rfl
            try clear he
            have HTa := Lib.hid (HT20.out.look hC)
            obtain ⟨F21, hF21⟩ : ∃ F21, F21 = F20 := ⟨_, rfl⟩
            have HZ := Lib.hid (HM20.out.trans (Mv.of_same (hC.trans ((Chg.refl [] w21).alloc (.cells #[.int .i64 s.want.op, .int .i64 s.want.addr, .int .u64 s.want.val, .int .u64 s.want.old] 49)))))
            have HT21 := Lib.hid (HTa.out.look ((Chg.refl [] w21).alloc (.cells #[.int .i64 s.want.op, .int .i64 s.want.addr, .int .u64 s.want.val, .int .u64 s.want.old] 49)))
            have HB13 := Lib.hid (Blk.new w21 [.int .i64 s.want.op, .int .i64 s.want.addr, .int .u64 s.want.val, .int .u64 s.want.old] 49)
            have HO13 := Lib.hid (show w21.heap.size ∉ m :: F20 from fun hx => by have := HTa.out.lt _ hx; omega)
            rw [← hF21] at HT21 HTa HO13 HZ; clear hF21
            have HM21 := Lib.hid (Mv.refl (m :: F21) (w21.alloc (.cells #[.int .i64 s.want.op, .int .i64 s.want.addr, .int .u64 s.want.val, .int .u64 s.want.old] 49)))
            clear hp hC
            go_wp2_with fail
            refine (Busy_any _ p F21 (s) HT21.out.path).mono ?_
            rintro e w' ⟨he, rfl⟩
            obtain rfl : e = .returned (.bool false) := by rw [he, hb]
            try clear he
            go_wp2_with fail
            refine (Live_any _ p F21 (s) HT21.out.path).mono ?_
            rintro e w' ⟨he, rfl⟩
            obtain rfl : e = .returned (.bool false) := by rw [he, hl]
            try clear he
            go_wp2_with fail
            refine (SValue_any _ p F21 (s) HT21.out.path).mono ?_
            rintro e w' ⟨he, rfl⟩
            obtain rfl : e = .returned (.int .u64 s.value) := he
            try clear he
            go_wp2_with fail
            refine (Ended_any _ p F21 (s) HT21.out.path).mono ?_
            rintro e w' ⟨he, rfl⟩
            obtain rfl : e = .returned (.int .i64 s.ended) := he
            try clear he
            go_wp2_with fail
            refine (Points_any _ p F21 (s) HT21.out.path).mono ?_
            rintro e w' ⟨he, rfl⟩
            obtain rfl : e = .returned (.int .i64 s.points) := he
            try clear he
            go_wp2_with fail
            refine (Give_e _ p F21 (s) v true (w64_of_wf HV.out) HT21.out.ok HT21.out.path).mono ?_
            rintro e w22 ⟨he, F22, hp, hM⟩
            obtain rfl : e = .returned (.int .i64 80) := by rw [he, eGe]
            rw [give_not hb] at hp
            have HT22 : Hid (Two w22 p F22 m c (s) h) := Lib.hid (HT21.out.step hp hM (HOk.out))
            have HM22 := Lib.hid (HM21.out.trans (hM.cons m))
            clear hp hM
            go_wp2_with fail
            refine (Load_any _ p F22 (s) a HA.out HT22.out.path).mono ?_
            rintro e w23 ⟨he, F23, hp, hM⟩
            obtain rfl : e = .returned (.int .i64 80) := by rw [he, eEr]
            rw [eLo] at hp
            have HT23 : Hid (Two w23 p F23 m c (s) h) := Lib.hid (HT22.out.step hp hM (HOk.out))
            have HM23 := Lib.hid (HM22.out.trans (hM.cons m))
            clear hp hM
            go_wp2_with fail
            refine (Store_any _ p F23 (s) a v HA.out HV.out HT23.out.path).mono ?_
            rintro e w24 ⟨he, F24, hp, hM⟩
            obtain rfl : e = .returned (.int .i64 80) := by rw [he, eEr]
            rw [eSt] at hp
            have HT24 : Hid (Two w24 p F24 m c (s) h) := Lib.hid (HT23.out.step hp hM (HOk.out))
            have HM24 := Lib.hid (HM23.out.trans (hM.cons m))
            clear hp hM
            go_wp2_with fail
            refine (Commit_e _ p F24 (s) HT24.out.path).mono ?_
            rintro e w25 ⟨he, F25, hp, hM⟩
            obtain rfl : e = .returned (.int .i64 80) := by rw [he, eRe]
            rw [eCo] at hp
            have HT25 : Hid (Two w25 p F25 m c (s) h) := Lib.hid (HT24.out.step hp hM (HOk.out))
            have HM25 := Lib.hid (HM24.out.trans (hM.cons m))
            clear hp hM
            go_wp2_with fail
            refine (Quit_e _ p F25 (s) HT25.out.path).mono ?_
            rintro e w26 ⟨he, F26, hp, hM⟩
            obtain rfl : e = .returned (.int .i64 80) := by rw [he, eRe]
            rw [eQu] at hp
            have HT26 : Hid (Two w26 p F26 m c (s) h) := Lib.hid (HT25.out.step hp hM (HOk.out))
            have HM26 := Lib.hid (HM25.out.trans (hM.cons m))
            clear hp hM
            go_wp2_with fail
            refine (Want_any _ p F26 (s) HT26.out.path).mono ?_
            rintro e w27 ⟨he, hp, hC⟩
            obtain rfl : e = .returned (.tuple #[.agg #[.int .i64 s.want.op, .int .i64 s.want.addr, .int .u64 s.want.val, .int .u64 s.want.old], .bool false]) := by rw [he, hb]; rfl
            try clear he
            obtain ⟨F27, hF27⟩ : ∃ F27, F27 = F26 := ⟨_, rfl⟩
            have HT27 := Lib.hid ((HT26.out.look hC).look ((Chg.refl [] w27).alloc (.cells #[.int .i64 s.want.op, .int .i64 s.want.addr, .int .u64 s.want.val, .int .u64 s.want.old] 49)))
            have HM27 := Lib.hid (HM26.out.trans (Mv.of_same (hC.trans ((Chg.refl [] w27).alloc (.cells #[.int .i64 s.want.op, .int .i64 s.want.addr, .int .u64 s.want.val, .int .u64 s.want.old] 49)))))
            have HX27 := Lib.hid hC
            rw [← hF27] at HT27 HM27; clear hF27
            clear hp hC
            have q0 : (w27.alloc (.cells #[.int .i64 s.want.op, .int .i64 s.want.addr, .int .u64 s.want.val, .int .u64 s.want.old] 49)).cell? ⟨w21.heap.size, 0, none⟩ = some (.int .i64 s.want.op) := (HM27.out.chg.blk HB13.out HO13.out).cell 0
            have q1 : (w27.alloc (.cells #[.int .i64 s.want.op, .int .i64 s.want.addr, .int .u64 s.want.val, .int .u64 s.want.old] 49)).cell? ⟨w21.heap.size, 1, none⟩ = some (.int .i64 s.want.addr) := (HM27.out.chg.blk HB13.out HO13.out).cell 1
            have q2 : (w27.alloc (.cells #[.int .i64 s.want.op, .int .i64 s.want.addr, .int .u64 s.want.val, .int .u64 s.want.old] 49)).cell? ⟨w21.heap.size, 2, none⟩ = some (.int .u64 s.want.val) := (HM27.out.chg.blk HB13.out HO13.out).cell 2
            have q3 : (w27.alloc (.cells #[.int .i64 s.want.op, .int .i64 s.want.addr, .int .u64 s.want.val, .int .u64 s.want.old] 49)).cell? ⟨w21.heap.size, 3, none⟩ = some (.int .u64 s.want.old) := (HM27.out.chg.blk HB13.out HO13.out).cell 3
            go_wp2_with fail
            refine (Busy_any _ p F27 (s) HT27.out.path).mono ?_
            rintro e w' ⟨he, rfl⟩
            obtain rfl : e = .returned (.bool false) := by rw [he, hb]
            try clear he
            go_wp2_with fail
            refine (Live_any _ p F27 (s) HT27.out.path).mono ?_
            rintro e w' ⟨he, rfl⟩
            obtain rfl : e = .returned (.bool false) := by rw [he, hl]
            try clear he
            go_wp2_with fail
            refine (SValue_any _ p F27 (s) HT27.out.path).mono ?_
            rintro e w' ⟨he, rfl⟩
            obtain rfl : e = .returned (.int .u64 s.value) := he
            try clear he
            go_wp2_with fail
            refine (Ended_any _ p F27 (s) HT27.out.path).mono ?_
            rintro e w' ⟨he, rfl⟩
            obtain rfl : e = .returned (.int .i64 s.ended) := he
            try clear he
            go_wp2_with fail
            refine (Points_any _ p F27 (s) HT27.out.path).mono ?_
            rintro e w' ⟨he, rfl⟩
            obtain rfl : e = .returned (.int .i64 s.points) := he
            try clear he
            go_wp2_with fail
            go_ret
            exact ⟨rfl, (HZ.out.chg.trans' HM27.out.chg (fun x hx hl => (HZ.out.new x hx).elim id (fun e => by omega))).to_below (by simp) (Nat.le_refl _)⟩
  · have hl1 : (1000 : Int) < (xs.length : Int) := by omega
    go_wp2_with fail
    go_ret
    exact ⟨rfl, HB.out⟩

end Go.Proofs.Ytilffolppnnkaaa
