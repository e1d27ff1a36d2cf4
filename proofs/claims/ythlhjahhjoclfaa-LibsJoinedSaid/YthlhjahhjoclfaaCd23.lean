/- A code run alone over a memory: the walk. -/
import Derived.Test.YthlhjahhjoclfaaCd22
import Derived.Deep.LoopGhost
import Derived.Deep.CutRange
import Derived.Deep.RegionHeld3
namespace Go.Proofs.Ythlhjahhjoclfaa
set_option maxRecDepth 100000
open Go.RowKit

def EfAt (w8 : World) (kd : Int) (nx rx : Nat) (vl : Int) (ad : Nat) (ge : Nat) (wx : World) : Prop := Blk wx ge [.int .i64 kd, .int .i64 nx, .int .i64 rx, .int .u64 vl, .int .u64 ad] 91 ∧ Chg [] w8 wx
theorem ef_new {w8 w' : World} (h : Chg [] w8 w') (kd : Int) (nx rx : Nat) (vl : Int) (ad : Nat) : EfAt w8 kd nx rx vl ad w'.heap.size (w'.alloc (.cells #[.int .i64 kd, .int .i64 nx, .int .i64 rx, .int .u64 vl, .int .u64 ad] 91)) := ⟨Blk.new _ _ _, h.alloc _⟩
theorem ef_set {w8 w' : World} (h : Chg [] w8 w') (hz : Blk w' w8.heap.size [.int .i64 0, .int .i64 0, .int .i64 0, .int .u64 0, .int .u64 0] 91) (kd : Int) (nx rx : Nat) (vl : Int) (ad : Nat) : EfAt w8 kd nx rx vl ad w8.heap.size (((((w'.setCell ⟨w8.heap.size, 0, none⟩ (.int .i64 kd)).setCell ⟨w8.heap.size, 1, none⟩ (.int .i64 nx)).setCell ⟨w8.heap.size, 2, none⟩ (.int .i64 rx)).setCell ⟨w8.heap.size, 3, none⟩ (.int .u64 vl)).setCell ⟨w8.heap.size, 4, none⟩ (.int .u64 ad)) :=
  ⟨((((hz.set 0 _).set 1 _).set 2 _).set 3 _).set 4 _, ((((h.setCell (fun h => absurd h (Nat.lt_irrefl _)) _).setCell (fun h => absurd h (Nat.lt_irrefl _)) _).setCell (fun h => absurd h (Nat.lt_irrefl _)) _).setCell (fun h => absurd h (Nat.lt_irrefl _)) _).setCell (fun h => absurd h (Nat.lt_irrefl _)) _⟩
def DoneDo (w8 : World) (n : Nat) (E : Ef) (s : Value) (wx : World) : Prop := ∃ (kd : Int) (nx rx : Nat) (vl : Int) (ad ge : Nat), E = ⟨kd, nx, rx, vl, ad⟩ ∧ EfOk n kd nx rx vl ad ∧ s = .pointer (some ⟨ge, 0, none⟩) ∧ EfAt w8 kd nx rx vl ad ge wx
theorem done_do {w8 wx : World} {n : Nat} {E : Ef} {kd : Int} {nx rx : Nat} {vl : Int} {ad ge : Nat} (hE : E = ⟨kd, nx, rx, vl, ad⟩) (hok : EfOk n kd nx rx vl ad) (h : EfAt w8 kd nx rx vl ad ge wx) : DoneDo w8 n E (.pointer (some ⟨ge, 0, none⟩)) wx := ⟨kd, nx, rx, vl, ad, ge, hE, hok, rfl, h⟩

set_option maxHeartbeats 8000000 in
theorem Play_any (W : World) (A : Option Addr) (cap : Nat) (l : List Ins) (bm : Nat) (M0 : List Int) (r0 r1 r2 r3 r4 r5 r6 r7 : Int) (fr til blocks most : Nat)
    (hl : l.length ≤ 1024) (hu : ∀ i ∈ l, UseI l.length i) (hA : RdI W W.heap.size A l) (hAm : ∀ a, A = some a → a.block ∉ [bm]) (hM : M0.length ≤ 1000) (hMok : ∀ x ∈ M0, uok x) (hB : Blk W bm (M0.map (Value.int .u64)) 32)
    (hr : ∀ k : Nat, uok (rg [r0, r1, r2, r3, r4, r5, r6, r7] k)) (hf : fr ≤ 1000) (ht : til ≤ 1000) (hb : blocks ≤ 1000) (hm : most ≤ 1000000) :
    Calls Try.prog 34 #[.slice A l.length cap, .slice (some ⟨bm, 0, none⟩) M0.length M0.length, .agg #[.int .u64 r0, .int .u64 r1, .int .u64 r2, .int .u64 r3, .int .u64 r4, .int .u64 r5, .int .u64 r6, .int .u64 r7], .int .i64 fr, .int .i64 til, .int .i64 blocks, .int .i64 most] W
      (PlayPost W bm l.length blocks (runM l fr til most (most + 1) ⟨M0, [r0, r1, r2, r3, r4, r5, r6, r7], 0, false, 0, 0, false⟩)) := by
  have HA := Lib.hid hA
  have HAm := Lib.hid hAm
  have HU := Lib.hid hu
  have HMb := Lib.hid hB
  have HR := Lib.hid hr
  have HMk := Lib.hid hMok
  clear hA hAm hu hB hr hMok
  go_enter Try.func34, Try.ntmps34
  go_wp2_with fail
  have HG : Hid (PlRel W bm (W.heap.size + 1) (W.heap.size + 1 + 1) l fr til most M0.length ⟨M0, [r0, r1, r2, r3, r4, r5, r6, r7], 0, false, 0, 0, false⟩ (most + 1) (.int .i64 0) (.bool false) (.int .i64 0) (((W.alloc (.cells #[.int .u64 r0, .int .u64 r1, .int .u64 r2, .int .u64 r3, .int .u64 r4, .int .u64 r5, .int .u64 r6, .int .u64 r7] 63)).alloc (.cells #[.bool false, .int .u64 0, .int .u64 0, .int .u64 0, .int .u64 0, .int .u64 0, .int .u64 0, .int .u64 0, .int .u64 0, .int .i64 0] 65)).alloc (.cells #[.bool false, .int .u64 r0, .int .u64 r1, .int .u64 r2, .int .u64 r3, .int .u64 r4, .int .u64 r5, .int .u64 r6, .int .u64 r7, .int .i64 0] 65))) := Lib.hid (by
    refine ⟨_, rfl, rfl, rfl, rfl, ⟨rfl, HR.out, rfl, HMk.out, Nat.zero_le _, rfl, Nat.le_refl _, Nat.zero_le _⟩, ?_, ?_, ?_, (((Chg.refl [bm] W).alloc _).alloc _).alloc _, rfl⟩
    · have := Blk.new ((W.alloc (.cells #[.int .u64 r0, .int .u64 r1, .int .u64 r2, .int .u64 r3, .int .u64 r4, .int .u64 r5, .int .u64 r6, .int .u64 r7] 63)).alloc (.cells #[.bool false, .int .u64 0, .int .u64 0, .int .u64 0, .int .u64 0, .int .u64 0, .int .u64 0, .int .u64 0, .int .u64 0, .int .i64 0] 65)) [.bool false, .int .u64 r0, .int .u64 r1, .int .u64 r2, .int .u64 r3, .int .u64 r4, .int .u64 r5, .int .u64 r6, .int .u64 r7, .int .i64 0] 65
      show Blk _ (W.heap.size + 1 + 1) [.bool false, .int .u64 r0, .int .u64 r1, .int .u64 r2, .int .u64 r3, .int .u64 r4, .int .u64 r5, .int .u64 r6, .int .u64 r7, .int .i64 0] _
      simpa using this
    · refine Blk.alloc ?_ _
      have := Blk.new (W.alloc (.cells #[.int .u64 r0, .int .u64 r1, .int .u64 r2, .int .u64 r3, .int .u64 r4, .int .u64 r5, .int .u64 r6, .int .u64 r7] 63)) [.bool false, .int .u64 0, .int .u64 0, .int .u64 0, .int .u64 0, .int .u64 0, .int .u64 0, .int .u64 0, .int .u64 0, .int .i64 0] 65
      show Blk _ (W.heap.size + 1) [.bool false, .int .u64 0, .int .u64 0, .int .u64 0, .int .u64 0, .int .u64 0, .int .u64 0, .int .u64 0, .int .u64 0, .int .i64 0] _
      simpa using this
    · exact ((HMb.out.alloc _).alloc _).alloc _)
  have hlb := HMb.out.lt
  clear HMb HR HMk
  generalize (⟨M0, [r0, r1, r2, r3, r4, r5, r6, r7], 0, false, 0, 0, false⟩ : Mach) = m0 at *
  have HMl := Lib.hid hM
  go_loopg [16, 17, 18] (most + 1) (fun g s16 s17 s18 wr => PlRel W bm (W.heap.size + 1) (W.heap.size + 1 + 1) l fr til most M0.length m0 g s16 s17 s18 wr)
  case atStart => exact HG.out
  case round =>
    clear HG
    obtain ⟨m, hg, rfl, rfl, rfl, hok, hB, hZ, hMb, hC, hrun⟩ := hrel
    obtain ⟨M, R, pc, ins, beg, st, bad⟩ := m
    simp only at hg hok hB hMb hrun
    obtain ⟨k1, k2, k3, k4, k5, k6, k7, k8⟩ := hok
    simp only at k1 k2 k3 k4 k5 k6 k7 k8
    subst k6
    obtain ⟨r0, r1, r2, r3, r4, r5, r6, r7, rfl⟩ := eight k1
    have HB := Lib.hid hB
    have HZ := Lib.hid hZ
    have HMb := Lib.hid hMb
    have HC := Lib.hid hC
    have HK := And.intro (Lib.hid k2) (And.intro (Lib.hid k3) (Lib.hid k4))
    have HRun := Lib.hid hrun
    have hlw : W.heap.size + 1 + 1 < wr.heap.size := hB.lt
    clear hB hZ hMb hC k1 k2 k3 k4 hrun
    by_cases hpc : pc < l.length
    · by_cases hst : st < most
      · have hpi : (pc : Int) < l.length := by omega
        have hsi : (st : Int) < most := by omega
        have hfit := HU.out _ (List.getElem_mem hpc)
        obtain ⟨ba, off, rfl, hba0, _⟩ := HA.out (by omega)
        obtain ⟨ba', off', e', hba, c⟩ := (HA.out.chg HC.out HAm.out) (by omega)
        obtain ⟨rfl, rfl⟩ : ba = ba' ∧ off = off' := by simpa using e'
        clear e'
        have HAB : Hid (ba ∉ [bm]) := Lib.hid (HAm.out _ rfl)
        have c0 : wr.cell? ⟨ba, off + pc * 5, none⟩ = some (.int .i64 l[pc].op) := c pc hpc 0 (by decide)
        have c1 : wr.cell? ⟨ba, off + pc * 5 + 1, none⟩ = some (.int .i64 l[pc].a) := c pc hpc 1 (by decide)
        have c2 : wr.cell? ⟨ba, off + pc * 5 + 2, none⟩ = some (.int .i64 l[pc].b) := c pc hpc 2 (by decide)
        have c3 : wr.cell? ⟨ba, off + pc * 5 + 3, none⟩ = some (.int .i64 l[pc].c) := c pc hpc 3 (by decide)
        have c4 : wr.cell? ⟨ba, off + pc * 5 + 4, none⟩ = some (.int .i64 l[pc].imm) := c pc hpc 4 (by decide)
        have HU1 := Lib.hid hfit
        have HRun1 := Lib.hid (runM_step l fr til most (gk - 1) ⟨M, [r0, r1, r2, r3, r4, r5, r6, r7], pc, ins, beg, st, false⟩ hpc rfl hst)
        clear c hfit
        have hle : l[pc] = ⟨l[pc].op, l[pc].a, l[pc].b, l[pc].c, l[pc].imm⟩ := rfl
        rw [hle] at HU1 HRun1
        clear hle
        generalize l[pc].op = x0 at *
        generalize l[pc].a = x1 at *
        generalize l[pc].b = x2 at *
        generalize l[pc].c = x3 at *
        generalize l[pc].imm = x4 at *
        have q9 : wr.cell? ⟨W.heap.size + 1 + 1, 9, none⟩ = some (.int .i64 st) := HB.out.cell 9
        have f9 : wr.frozen? ⟨W.heap.size + 1 + 1, 9, none⟩ = false := HB.out.free 9
        have hmd : decide (most ≤ st) = false := by simp; omega
        have hpd : decide ((pc : Int) < 0) = false := by simp
        have nz : W.heap.size + 1 ≠ W.heap.size + 1 + 1 := by omega
        have nm : bm ≠ W.heap.size + 1 + 1 := by omega
        have hset : Chg [W.heap.size + 1 + 1] wr (wr.setCell ⟨W.heap.size + 1 + 1, 9, none⟩ (.int .i64 (st + 1))) := (Chg.refl _ _).setCell (p := ⟨_, 9, none⟩) (by simp) _
        have hB8 := HB.out.set 9 (.int .i64 (st + 1))
        rw [rL_steps rfl] at hB8
        have HA8 := Lib.hid ((HA.out.chg HC.out HAm.out).chg hset (fun a e => by cases e; simp; omega))
        replace HB := Lib.hid hB8
        replace HZ := Lib.hid (hset.blk HZ.out (by simp))
        replace HMb := Lib.hid (hset.blk HMb.out (by simpa using nm))
        replace HC := Lib.hid (HC.out.trans' hset (fun x hx hl => by simp at hx; omega))
        have C0 : (wr.setCell ⟨W.heap.size + 1 + 1, 9, none⟩ (.int .i64 (st + 1))).cell? ⟨ba, off + pc * 5, none⟩ = some (.int .i64 x0) := (hset.cell (by omega) (by simp; omega) _).trans c0
        have C1 : (wr.setCell ⟨W.heap.size + 1 + 1, 9, none⟩ (.int .i64 (st + 1))).cell? ⟨ba, off + pc * 5 + 1, none⟩ = some (.int .i64 x1) := (hset.cell (by omega) (by simp; omega) _).trans c1
        have C2 : (wr.setCell ⟨W.heap.size + 1 + 1, 9, none⟩ (.int .i64 (st + 1))).cell? ⟨ba, off + pc * 5 + 2, none⟩ = some (.int .i64 x2) := (hset.cell (by omega) (by simp; omega) _).trans c2
        have C3 : (wr.setCell ⟨W.heap.size + 1 + 1, 9, none⟩ (.int .i64 (st + 1))).cell? ⟨ba, off + pc * 5 + 3, none⟩ = some (.int .i64 x3) := (hset.cell (by omega) (by simp; omega) _).trans c3
        have C4 : (wr.setCell ⟨W.heap.size + 1 + 1, 9, none⟩ (.int .i64 (st + 1))).cell? ⟨ba, off + pc * 5 + 4, none⟩ = some (.int .i64 x4) := (hset.cell (by omega) (by simp; omega) _).trans c4
        clear hB8 hset nz nm c0 c1 c2 c3 c4
        go_upto_region 9 with fail
        clear q9 f9 hmd hpd
        generalize World.setCell _ _ _ = w8 at *
        have q0 : w8.cell? ⟨W.heap.size + 1 + 1, 0, none⟩ = some (.bool false) := HB.out.cell 0
        have q1 : w8.cell? ⟨W.heap.size + 1 + 1, 1, none⟩ = some (.int .u64 r0) := HB.out.cell 1
        have q2 : w8.cell? ⟨W.heap.size + 1 + 1, 2, none⟩ = some (.int .u64 r1) := HB.out.cell 2
        have q3 : w8.cell? ⟨W.heap.size + 1 + 1, 3, none⟩ = some (.int .u64 r2) := HB.out.cell 3
        have q4 : w8.cell? ⟨W.heap.size + 1 + 1, 4, none⟩ = some (.int .u64 r3) := HB.out.cell 4
        have q5 : w8.cell? ⟨W.heap.size + 1 + 1, 5, none⟩ = some (.int .u64 r4) := HB.out.cell 5
        have q6 : w8.cell? ⟨W.heap.size + 1 + 1, 6, none⟩ = some (.int .u64 r5) := HB.out.cell 6
        have q7 : w8.cell? ⟨W.heap.size + 1 + 1, 7, none⟩ = some (.int .u64 r6) := HB.out.cell 7
        have q8 : w8.cell? ⟨W.heap.size + 1 + 1, 8, none⟩ = some (.int .u64 r7) := HB.out.cell 8
        have q9 : w8.cell? ⟨W.heap.size + 1 + 1, 9, none⟩ = some (.int .i64 (st + 1)) := HB.out.cell 9
        have HBA : Hid (ba < w8.heap.size) := Lib.hid (by have := HB.out.lt; have := HC.out.size; omega)
        have hb8 : ba < w8.heap.size := HBA.out
        have hl8 : W.heap.size + 1 + 1 < w8.heap.size := HB.out.lt
        go_cut [19] from 22 to 118 (fun s wx => DoneDo w8 l.length (doE ⟨x0, x1, x2, x3, x4⟩ [r0, r1, r2, r3, r4, r5, r6, r7] pc) s wx)
        case first =>
          have HX := Lib.hid ((Chg.refl [] w8).drew)
          go_region_with (go_at_call 64; refine (Do_any _ l.length pc x0 x1 x2 x3 x4 r0 r1 r2 r3 r4 r5 r6 r7 hl hpc HU1.out HK.1.out).mono ?_; rintro e w' ⟨kd, nx, rx, vl, ad, hE, hok, rfl, hx⟩; have HE := Lib.hid hE; have HOk := Lib.hid hok; clear hE hok; (first | (have hx' : Chg [] w8 w' := (by with_reducible exact HX.out.trans hx); replace HX := Lib.hid hx'; clear hx hx') | (have hx' : Chg [] w8 w' := (by with_reducible exact (((Chg.refl [] w8).alloc _).drew).trans hx); replace HX := Lib.hid hx'; have hZ := hx.blk (Blk.new w8 [.int .i64 0, .int .i64 0, .int .i64 0, .int .u64 0, .int .u64 0] 91).drew (by simp); have z0 : w'.cell? ⟨w8.heap.size, 0, none⟩ = some (.int .i64 0) := hZ.cell 0; have fz0 : w'.frozen? ⟨w8.heap.size, 0, none⟩ = false := hZ.free 0; have z1 : w'.cell? ⟨w8.heap.size, 1, none⟩ = some (.int .i64 0) := hZ.cell 1; have fz1 : w'.frozen? ⟨w8.heap.size, 1, none⟩ = false := hZ.free 1; have z2 : w'.cell? ⟨w8.heap.size, 2, none⟩ = some (.int .i64 0) := hZ.cell 2; have fz2 : w'.frozen? ⟨w8.heap.size, 2, none⟩ = false := hZ.free 2; have z3 : w'.cell? ⟨w8.heap.size, 3, none⟩ = some (.int .u64 0) := hZ.cell 3; have fz3 : w'.frozen? ⟨w8.heap.size, 3, none⟩ = false := hZ.free 3; have z4 : w'.cell? ⟨w8.heap.size, 4, none⟩ = some (.int .u64 0) := hZ.cell 4; have fz4 : w'.frozen? ⟨w8.heap.size, 4, none⟩ = false := hZ.free 4; have HZZ := Lib.hid hZ; clear hZ hx hx')))
          all_goals
            go_wp2_with fail
            go_meet
            first | exact done_do HE.out HOk.out (ef_set HX.out HZZ.out kd nx rx vl ad) | exact done_do HE.out HOk.out (ef_new HX.out kd nx rx vl ad)
        case rest =>
          obtain ⟨kd, nx, rx, vl, ad, ge, hE, hok, rfl, hbe, hx⟩ := hcut
          replace HB := Lib.hid (hx.blk HB.out (by simp))
          replace HZ := Lib.hid (hx.blk HZ.out (by simp))
          replace HMb := Lib.hid (hx.blk HMb.out (by simp))
          replace HC := Lib.hid (HC.out.trans' hx (fun x hx => by cases hx))
          have hstep := HRun1.out
          rw [hE] at hstep
          have hgk : gk = gk - 1 + 1 := by omega
          replace HRun1 := Lib.hid ((congrArg (fun g => runM l fr til most g ⟨M, [r0, r1, r2, r3, r4, r5, r6, r7], pc, ins, beg, st, false⟩) hgk.symm).symm.trans hstep |>.symm.trans HRun.out)
          obtain ⟨hk, hnx, hrx, hvl, had⟩ := hok
          have e0 : wc.cell? ⟨ge, 0, none⟩ = some (.int .i64 kd) := hbe.cell 0
          have e1 : wc.cell? ⟨ge, 1, none⟩ = some (.int .i64 nx) := hbe.cell 1
          have e2 : wc.cell? ⟨ge, 2, none⟩ = some (.int .i64 rx) := hbe.cell 2
          have e3 : wc.cell? ⟨ge, 3, none⟩ = some (.int .u64 vl) := hbe.cell 3
          have e4 : wc.cell? ⟨ge, 4, none⟩ = some (.int .u64 ad) := hbe.cell 4
          clear hE hstep hx hgk C0 C1 C2 C3 C4 q0 q1 q2 q3 q4 q5 q6 q7 q8 q9 hb8 hl8
          have hbi : (beg : Int) ≤ 1000000 := by omega
          rcases hk with rfl | rfl | rfl | rfl | rfl | rfl
          · have hact : actM fr til ⟨M, [r0, r1, r2, r3, r4, r5, r6, r7], pc, ins, beg, st, false⟩ ⟨1, nx, rx, vl, ad⟩ = ⟨M, [r0, r1, r2, r3, r4, r5, r6, r7].set rx vl, nx, ins, beg, st + 1, false⟩ := rfl
            rw [hact] at HRun1
            obtain ⟨rv, hrv⟩ : ∃ rv, (rL [r0, r1, r2, r3, r4, r5, r6, r7] (st + 1))[1 + rx]? = some rv := ⟨_, List.getElem?_eq_getElem (by simp [rL]; omega)⟩
            have cr : wc.cell? ⟨W.heap.size + 1 + 1, 1 + rx, none⟩ = some rv := (HB.out.cell (1 + rx)).trans hrv
            have fr' : wc.frozen? ⟨W.heap.size + 1 + 1, 1 + rx, none⟩ = false := HB.out.free (1 + rx)
            have nz : W.heap.size + 1 ≠ W.heap.size + 1 + 1 := by omega
            have nm : bm ≠ W.heap.size + 1 + 1 := by omega
            clear hrv
            have hset : Chg [W.heap.size + 1 + 1] wc (wc.setCell ⟨W.heap.size + 1 + 1, 1 + rx, none⟩ (.int .u64 vl)) := (Chg.refl _ _).setCell (p := ⟨_, 1 + rx, none⟩) (by simp) _
            have hB' := (HB.out).set (1 + rx) (.int .u64 (vl))
            rw [Nat.add_comm 1 rx, rL_set (by simpa using hrx), ← Nat.add_comm 1 rx] at hB'
            have HB' := Lib.hid hB'
            have HS' := Lib.hid hset
            have e1' : (wc.setCell ⟨W.heap.size + 1 + 1, 1 + rx, none⟩ (.int .u64 (vl))).cell? ⟨ge, 1, none⟩ = some (.int .i64 nx) := (hset.blk (hbe) (by have hne := hbe.ne HB.out (by decide); simpa using hne)).cell 1
            clear hset hB'
            go_wp2_with fail
            go_roundg (gk - 1)
            case measure => omega
            case rel =>
              refine ⟨⟨M, [r0, r1, r2, r3, r4, r5, r6, r7].set rx vl, nx, ins, beg, st + 1, false⟩, by simp; omega, rfl, rfl, rfl, ⟨by simp, rg_set HK.1.out hvl rx, HK.2.1.out, HK.2.2.out, hnx, rfl, by simp; omega, by simp; omega⟩, ?_, ?_, ?_, ?_, HRun1.out⟩
              · exact HB'.out
              · exact HS'.out.blk HZ.out (by simp)
              · exact HS'.out.blk HMb.out (by simpa using nm)
              · exact HC.out.trans' HS'.out (fun x hx hl => by simp at hx; omega)
          · have hact : actM fr til ⟨M, [r0, r1, r2, r3, r4, r5, r6, r7], pc, ins, beg, st, false⟩ ⟨2, nx, rx, vl, ad⟩ = ⟨M, [r0, r1, r2, r3, r4, r5, r6, r7], nx, ins, beg, st + 1, false⟩ := rfl
            rw [hact] at HRun1
            go_wp2_with fail
            go_roundg (gk - 1)
            case measure => omega
            case rel =>
              refine ⟨⟨M, [r0, r1, r2, r3, r4, r5, r6, r7], nx, ins, beg, st + 1, false⟩, by simp; omega, rfl, rfl, rfl, ⟨rfl, HK.1.out, HK.2.1.out, HK.2.2.out, hnx, rfl, by simp; omega, by simp; omega⟩, ?_, ?_, ?_, ?_, HRun1.out⟩
              · exact HB.out
              · exact HZ.out
              · exact HMb.out
              · exact HC.out
          · cases ins with
            | false =>
              have hact : actM fr til ⟨M, [r0, r1, r2, r3, r4, r5, r6, r7], pc, false, beg, st, false⟩ ⟨3, nx, rx, vl, ad⟩ = ⟨M, [r0, r1, r2, r3, r4, r5, r6, r7], pc, false, beg, st + 1, true⟩ := rfl
              rw [hact] at HRun1
              have q0 : wc.cell? ⟨W.heap.size + 1 + 1, 0, none⟩ = some (.bool false) := HB.out.cell 0
              have q1 : wc.cell? ⟨W.heap.size + 1 + 1, 1, none⟩ = some (.int .u64 r0) := HB.out.cell 1
              have q2 : wc.cell? ⟨W.heap.size + 1 + 1, 2, none⟩ = some (.int .u64 r1) := HB.out.cell 2
              have q3 : wc.cell? ⟨W.heap.size + 1 + 1, 3, none⟩ = some (.int .u64 r2) := HB.out.cell 3
              have q4 : wc.cell? ⟨W.heap.size + 1 + 1, 4, none⟩ = some (.int .u64 r3) := HB.out.cell 4
              have q5 : wc.cell? ⟨W.heap.size + 1 + 1, 5, none⟩ = some (.int .u64 r4) := HB.out.cell 5
              have q6 : wc.cell? ⟨W.heap.size + 1 + 1, 6, none⟩ = some (.int .u64 r5) := HB.out.cell 6
              have q7 : wc.cell? ⟨W.heap.size + 1 + 1, 7, none⟩ = some (.int .u64 r6) := HB.out.cell 7
              have q8 : wc.cell? ⟨W.heap.size + 1 + 1, 8, none⟩ = some (.int .u64 r7) := HB.out.cell 8
              have q9 : wc.cell? ⟨W.heap.size + 1 + 1, 9, none⟩ = some (.int .i64 (st + 1)) := HB.out.cell 9
              have fq0 : wc.frozen? ⟨W.heap.size + 1 + 1, 0, none⟩ = false := HB.out.free 0
              have z0 : wc.cell? ⟨W.heap.size + 1, 0, none⟩ = some (.bool false) := HZ.out.cell 0
              have y0 : wc.frozen? ⟨W.heap.size + 1, 0, none⟩ = false := HZ.out.free 0
              have z1 : wc.cell? ⟨W.heap.size + 1, 1, none⟩ = some (.int .u64 0) := HZ.out.cell 1
              have y1 : wc.frozen? ⟨W.heap.size + 1, 1, none⟩ = false := HZ.out.free 1
              have z2 : wc.cell? ⟨W.heap.size + 1, 2, none⟩ = some (.int .u64 0) := HZ.out.cell 2
              have y2 : wc.frozen? ⟨W.heap.size + 1, 2, none⟩ = false := HZ.out.free 2
              have z3 : wc.cell? ⟨W.heap.size + 1, 3, none⟩ = some (.int .u64 0) := HZ.out.cell 3
              have y3 : wc.frozen? ⟨W.heap.size + 1, 3, none⟩ = false := HZ.out.free 3
              have z4 : wc.cell? ⟨W.heap.size + 1, 4, none⟩ = some (.int .u64 0) := HZ.out.cell 4
              have y4 : wc.frozen? ⟨W.heap.size + 1, 4, none⟩ = false := HZ.out.free 4
              have z5 : wc.cell? ⟨W.heap.size + 1, 5, none⟩ = some (.int .u64 0) := HZ.out.cell 5
              have y5 : wc.frozen? ⟨W.heap.size + 1, 5, none⟩ = false := HZ.out.free 5
              have z6 : wc.cell? ⟨W.heap.size + 1, 6, none⟩ = some (.int .u64 0) := HZ.out.cell 6
              have y6 : wc.frozen? ⟨W.heap.size + 1, 6, none⟩ = false := HZ.out.free 6
              have z7 : wc.cell? ⟨W.heap.size + 1, 7, none⟩ = some (.int .u64 0) := HZ.out.cell 7
              have y7 : wc.frozen? ⟨W.heap.size + 1, 7, none⟩ = false := HZ.out.free 7
              have z8 : wc.cell? ⟨W.heap.size + 1, 8, none⟩ = some (.int .u64 0) := HZ.out.cell 8
              have y8 : wc.frozen? ⟨W.heap.size + 1, 8, none⟩ = false := HZ.out.free 8
              have z9 : wc.cell? ⟨W.heap.size + 1, 9, none⟩ = some (.int .i64 0) := HZ.out.cell 9
              have y9 : wc.frozen? ⟨W.heap.size + 1, 9, none⟩ = false := HZ.out.free 9
              go_wp2_with fail
              have hfin := ((((((((((HZ.out.set 0 (.bool false)).set 1 (.int .u64 r0)).set 2 (.int .u64 r1)).set 3 (.int .u64 r2)).set 4 (.int .u64 r3)).set 5 (.int .u64 r4)).set 6 (.int .u64 r5)).set 7 (.int .u64 r6)).set 8 (.int .u64 r7)).set 9 (.int .i64 (st + 1)))
              have hcs := (((((((((((Chg.refl [W.heap.size + 1] wc).setCell (p := ⟨W.heap.size + 1, 0, none⟩) (by simp) (.bool false)).setCell (p := ⟨W.heap.size + 1, 1, none⟩) (by simp) (.int .u64 r0)).setCell (p := ⟨W.heap.size + 1, 2, none⟩) (by simp) (.int .u64 r1)).setCell (p := ⟨W.heap.size + 1, 3, none⟩) (by simp) (.int .u64 r2)).setCell (p := ⟨W.heap.size + 1, 4, none⟩) (by simp) (.int .u64 r3)).setCell (p := ⟨W.heap.size + 1, 5, none⟩) (by simp) (.int .u64 r4)).setCell (p := ⟨W.heap.size + 1, 6, none⟩) (by simp) (.int .u64 r5)).setCell (p := ⟨W.heap.size + 1, 7, none⟩) (by simp) (.int .u64 r6)).setCell (p := ⟨W.heap.size + 1, 8, none⟩) (by simp) (.int .u64 r7)).setCell (p := ⟨W.heap.size + 1, 9, none⟩) (by simp) (.int .i64 (st + 1)))
              have hres : runM l fr til most (most + 1) m0 = ⟨M, [r0, r1, r2, r3, r4, r5, r6, r7], pc, false, beg, st + 1, true⟩ := by rw [← HRun1.out, runM_bad _ _ _ _ _ _ rfl]
              refine bodyPost_ret (v := .agg #[.bool false, .int .u64 r0, .int .u64 r1, .int .u64 r2, .int .u64 r3, .int .u64 r4, .int .u64 r5, .int .u64 r6, .int .u64 r7, .int .i64 (st + 1)]) ?_ rfl ?_
              · exact play_results _ _ (W.heap.size + 1) _ _ _ _ _ _ _ _ _ _ hfin (by simp)
              · refine ⟨r0, r1, r2, r3, r4, r5, r6, r7, by rw [hres], by rw [hres]; rfl, ?_, rfl, ?_⟩
                · rw [hres]; exact hcs.blk HMb.out (by simp; omega)
                · exact HC.out.trans' hcs (fun x hx hl => by simp at hx; omega)
            | true =>
              have hml := HK.2.1.out
              by_cases h1 : ad < fr
              · have hact : actM fr til ⟨M, [r0, r1, r2, r3, r4, r5, r6, r7], pc, true, beg, st, false⟩ ⟨3, nx, rx, vl, ad⟩ = ⟨M, [r0, r1, r2, r3, r4, r5, r6, r7], pc, true, beg, st + 1, true⟩ := by
                  have hor : true = false ∨ (ad : Int) < fr ∨ (til : Int) ≤ ad ∨ (M.length : Int) ≤ ad := by omega
                  simp only [actM]
                  rw [if_neg (by decide), if_neg (by decide), if_pos (by decide), if_pos hor]
                rw [hact] at HRun1
                clear hml
                have q0 : wc.cell? ⟨W.heap.size + 1 + 1, 0, none⟩ = some (.bool false) := HB.out.cell 0
                have q1 : wc.cell? ⟨W.heap.size + 1 + 1, 1, none⟩ = some (.int .u64 r0) := HB.out.cell 1
                have q2 : wc.cell? ⟨W.heap.size + 1 + 1, 2, none⟩ = some (.int .u64 r1) := HB.out.cell 2
                have q3 : wc.cell? ⟨W.heap.size + 1 + 1, 3, none⟩ = some (.int .u64 r2) := HB.out.cell 3
                have q4 : wc.cell? ⟨W.heap.size + 1 + 1, 4, none⟩ = some (.int .u64 r3) := HB.out.cell 4
                have q5 : wc.cell? ⟨W.heap.size + 1 + 1, 5, none⟩ = some (.int .u64 r4) := HB.out.cell 5
                have q6 : wc.cell? ⟨W.heap.size + 1 + 1, 6, none⟩ = some (.int .u64 r5) := HB.out.cell 6
                have q7 : wc.cell? ⟨W.heap.size + 1 + 1, 7, none⟩ = some (.int .u64 r6) := HB.out.cell 7
                have q8 : wc.cell? ⟨W.heap.size + 1 + 1, 8, none⟩ = some (.int .u64 r7) := HB.out.cell 8
                have q9 : wc.cell? ⟨W.heap.size + 1 + 1, 9, none⟩ = some (.int .i64 (st + 1)) := HB.out.cell 9
                have fq0 : wc.frozen? ⟨W.heap.size + 1 + 1, 0, none⟩ = false := HB.out.free 0
                have z0 : wc.cell? ⟨W.heap.size + 1, 0, none⟩ = some (.bool false) := HZ.out.cell 0
                have y0 : wc.frozen? ⟨W.heap.size + 1, 0, none⟩ = false := HZ.out.free 0
                have z1 : wc.cell? ⟨W.heap.size + 1, 1, none⟩ = some (.int .u64 0) := HZ.out.cell 1
                have y1 : wc.frozen? ⟨W.heap.size + 1, 1, none⟩ = false := HZ.out.free 1
                have z2 : wc.cell? ⟨W.heap.size + 1, 2, none⟩ = some (.int .u64 0) := HZ.out.cell 2
                have y2 : wc.frozen? ⟨W.heap.size + 1, 2, none⟩ = false := HZ.out.free 2
                have z3 : wc.cell? ⟨W.heap.size + 1, 3, none⟩ = some (.int .u64 0) := HZ.out.cell 3
                have y3 : wc.frozen? ⟨W.heap.size + 1, 3, none⟩ = false := HZ.out.free 3
                have z4 : wc.cell? ⟨W.heap.size + 1, 4, none⟩ = some (.int .u64 0) := HZ.out.cell 4
                have y4 : wc.frozen? ⟨W.heap.size + 1, 4, none⟩ = false := HZ.out.free 4
                have z5 : wc.cell? ⟨W.heap.size + 1, 5, none⟩ = some (.int .u64 0) := HZ.out.cell 5
                have y5 : wc.frozen? ⟨W.heap.size + 1, 5, none⟩ = false := HZ.out.free 5
                have z6 : wc.cell? ⟨W.heap.size + 1, 6, none⟩ = some (.int .u64 0) := HZ.out.cell 6
                have y6 : wc.frozen? ⟨W.heap.size + 1, 6, none⟩ = false := HZ.out.free 6
                have z7 : wc.cell? ⟨W.heap.size + 1, 7, none⟩ = some (.int .u64 0) := HZ.out.cell 7
                have y7 : wc.frozen? ⟨W.heap.size + 1, 7, none⟩ = false := HZ.out.free 7
                have z8 : wc.cell? ⟨W.heap.size + 1, 8, none⟩ = some (.int .u64 0) := HZ.out.cell 8
                have y8 : wc.frozen? ⟨W.heap.size + 1, 8, none⟩ = false := HZ.out.free 8
                have z9 : wc.cell? ⟨W.heap.size + 1, 9, none⟩ = some (.int .i64 0) := HZ.out.cell 9
                have y9 : wc.frozen? ⟨W.heap.size + 1, 9, none⟩ = false := HZ.out.free 9
                go_wp2_with fail
                have hfin := ((((((((((HZ.out.set 0 (.bool false)).set 1 (.int .u64 r0)).set 2 (.int .u64 r1)).set 3 (.int .u64 r2)).set 4 (.int .u64 r3)).set 5 (.int .u64 r4)).set 6 (.int .u64 r5)).set 7 (.int .u64 r6)).set 8 (.int .u64 r7)).set 9 (.int .i64 (st + 1)))
                have hcs := (((((((((((Chg.refl [W.heap.size + 1] wc).setCell (p := ⟨W.heap.size + 1, 0, none⟩) (by simp) (.bool false)).setCell (p := ⟨W.heap.size + 1, 1, none⟩) (by simp) (.int .u64 r0)).setCell (p := ⟨W.heap.size + 1, 2, none⟩) (by simp) (.int .u64 r1)).setCell (p := ⟨W.heap.size + 1, 3, none⟩) (by simp) (.int .u64 r2)).setCell (p := ⟨W.heap.size + 1, 4, none⟩) (by simp) (.int .u64 r3)).setCell (p := ⟨W.heap.size + 1, 5, none⟩) (by simp) (.int .u64 r4)).setCell (p := ⟨W.heap.size + 1, 6, none⟩) (by simp) (.int .u64 r5)).setCell (p := ⟨W.heap.size + 1, 7, none⟩) (by simp) (.int .u64 r6)).setCell (p := ⟨W.heap.size + 1, 8, none⟩) (by simp) (.int .u64 r7)).setCell (p := ⟨W.heap.size + 1, 9, none⟩) (by simp) (.int .i64 (st + 1)))
                have hres : runM l fr til most (most + 1) m0 = ⟨M, [r0, r1, r2, r3, r4, r5, r6, r7], pc, true, beg, st + 1, true⟩ := by rw [← HRun1.out, runM_bad _ _ _ _ _ _ rfl]
                refine bodyPost_ret (v := .agg #[.bool false, .int .u64 r0, .int .u64 r1, .int .u64 r2, .int .u64 r3, .int .u64 r4, .int .u64 r5, .int .u64 r6, .int .u64 r7, .int .i64 (st + 1)]) ?_ rfl ?_
                · exact play_results _ _ (W.heap.size + 1) _ _ _ _ _ _ _ _ _ _ hfin (by simp)
                · refine ⟨r0, r1, r2, r3, r4, r5, r6, r7, by rw [hres], by rw [hres]; rfl, ?_, rfl, ?_⟩
                  · rw [hres]; exact hcs.blk HMb.out (by simp; omega)
                  · exact HC.out.trans' hcs (fun x hx hl => by simp at hx; omega)
              · have h1' : fr ≤ ad := by omega
                clear h1
                by_cases h2 : til ≤ ad
                · have hact : actM fr til ⟨M, [r0, r1, r2, r3, r4, r5, r6, r7], pc, true, beg, st, false⟩ ⟨3, nx, rx, vl, ad⟩ = ⟨M, [r0, r1, r2, r3, r4, r5, r6, r7], pc, true, beg, st + 1, true⟩ := by
                    have hor : true = false ∨ (ad : Int) < fr ∨ (til : Int) ≤ ad ∨ (M.length : Int) ≤ ad := by omega
                    simp only [actM]
                    rw [if_neg (by decide), if_neg (by decide), if_pos (by decide), if_pos hor]
                  rw [hact] at HRun1
                  clear hml
                  have q0 : wc.cell? ⟨W.heap.size + 1 + 1, 0, none⟩ = some (.bool false) := HB.out.cell 0
                  have q1 : wc.cell? ⟨W.heap.size + 1 + 1, 1, none⟩ = some (.int .u64 r0) := HB.out.cell 1
                  have q2 : wc.cell? ⟨W.heap.size + 1 + 1, 2, none⟩ = some (.int .u64 r1) := HB.out.cell 2
                  have q3 : wc.cell? ⟨W.heap.size + 1 + 1, 3, none⟩ = some (.int .u64 r2) := HB.out.cell 3
                  have q4 : wc.cell? ⟨W.heap.size + 1 + 1, 4, none⟩ = some (.int .u64 r3) := HB.out.cell 4
                  have q5 : wc.cell? ⟨W.heap.size + 1 + 1, 5, none⟩ = some (.int .u64 r4) := HB.out.cell 5
                  have q6 : wc.cell? ⟨W.heap.size + 1 + 1, 6, none⟩ = some (.int .u64 r5) := HB.out.cell 6
                  have q7 : wc.cell? ⟨W.heap.size + 1 + 1, 7, none⟩ = some (.int .u64 r6) := HB.out.cell 7
                  have q8 : wc.cell? ⟨W.heap.size + 1 + 1, 8, none⟩ = some (.int .u64 r7) := HB.out.cell 8
                  have q9 : wc.cell? ⟨W.heap.size + 1 + 1, 9, none⟩ = some (.int .i64 (st + 1)) := HB.out.cell 9
                  have fq0 : wc.frozen? ⟨W.heap.size + 1 + 1, 0, none⟩ = false := HB.out.free 0
                  have z0 : wc.cell? ⟨W.heap.size + 1, 0, none⟩ = some (.bool false) := HZ.out.cell 0
                  have y0 : wc.frozen? ⟨W.heap.size + 1, 0, none⟩ = false := HZ.out.free 0
                  have z1 : wc.cell? ⟨W.heap.size + 1, 1, none⟩ = some (.int .u64 0) := HZ.out.cell 1
                  have y1 : wc.frozen? ⟨W.heap.size + 1, 1, none⟩ = false := HZ.out.free 1
                  have z2 : wc.cell? ⟨W.heap.size + 1, 2, none⟩ = some (.int .u64 0) := HZ.out.cell 2
                  have y2 : wc.frozen? ⟨W.heap.size + 1, 2, none⟩ = false := HZ.out.free 2
                  have z3 : wc.cell? ⟨W.heap.size + 1, 3, none⟩ = some (.int .u64 0) := HZ.out.cell 3
                  have y3 : wc.frozen? ⟨W.heap.size + 1, 3, none⟩ = false := HZ.out.free 3
                  have z4 : wc.cell? ⟨W.heap.size + 1, 4, none⟩ = some (.int .u64 0) := HZ.out.cell 4
                  have y4 : wc.frozen? ⟨W.heap.size + 1, 4, none⟩ = false := HZ.out.free 4
                  have z5 : wc.cell? ⟨W.heap.size + 1, 5, none⟩ = some (.int .u64 0) := HZ.out.cell 5
                  have y5 : wc.frozen? ⟨W.heap.size + 1, 5, none⟩ = false := HZ.out.free 5
                  have z6 : wc.cell? ⟨W.heap.size + 1, 6, none⟩ = some (.int .u64 0) := HZ.out.cell 6
                  have y6 : wc.frozen? ⟨W.heap.size + 1, 6, none⟩ = false := HZ.out.free 6
                  have z7 : wc.cell? ⟨W.heap.size + 1, 7, none⟩ = some (.int .u64 0) := HZ.out.cell 7
                  have y7 : wc.frozen? ⟨W.heap.size + 1, 7, none⟩ = false := HZ.out.free 7
                  have z8 : wc.cell? ⟨W.heap.size + 1, 8, none⟩ = some (.int .u64 0) := HZ.out.cell 8
                  have y8 : wc.frozen? ⟨W.heap.size + 1, 8, none⟩ = false := HZ.out.free 8
                  have z9 : wc.cell? ⟨W.heap.size + 1, 9, none⟩ = some (.int .i64 0) := HZ.out.cell 9
                  have y9 : wc.frozen? ⟨W.heap.size + 1, 9, none⟩ = false := HZ.out.free 9
                  go_wp2_with fail
                  have hfin := ((((((((((HZ.out.set 0 (.bool false)).set 1 (.int .u64 r0)).set 2 (.int .u64 r1)).set 3 (.int .u64 r2)).set 4 (.int .u64 r3)).set 5 (.int .u64 r4)).set 6 (.int .u64 r5)).set 7 (.int .u64 r6)).set 8 (.int .u64 r7)).set 9 (.int .i64 (st + 1)))
                  have hcs := (((((((((((Chg.refl [W.heap.size + 1] wc).setCell (p := ⟨W.heap.size + 1, 0, none⟩) (by simp) (.bool false)).setCell (p := ⟨W.heap.size + 1, 1, none⟩) (by simp) (.int .u64 r0)).setCell (p := ⟨W.heap.size + 1, 2, none⟩) (by simp) (.int .u64 r1)).setCell (p := ⟨W.heap.size + 1, 3, none⟩) (by simp) (.int .u64 r2)).setCell (p := ⟨W.heap.size + 1, 4, none⟩) (by simp) (.int .u64 r3)).setCell (p := ⟨W.heap.size + 1, 5, none⟩) (by simp) (.int .u64 r4)).setCell (p := ⟨W.heap.size + 1, 6, none⟩) (by simp) (.int .u64 r5)).setCell (p := ⟨W.heap.size + 1, 7, none⟩) (by simp) (.int .u64 r6)).setCell (p := ⟨W.heap.size + 1, 8, none⟩) (by simp) (.int .u64 r7)).setCell (p := ⟨W.heap.size + 1, 9, none⟩) (by simp) (.int .i64 (st + 1)))
                  have hres : runM l fr til most (most + 1) m0 = ⟨M, [r0, r1, r2, r3, r4, r5, r6, r7], pc, true, beg, st + 1, true⟩ := by rw [← HRun1.out, runM_bad _ _ _ _ _ _ rfl]
                  refine bodyPost_ret (v := .agg #[.bool false, .int .u64 r0, .int .u64 r1, .int .u64 r2, .int .u64 r3, .int .u64 r4, .int .u64 r5, .int .u64 r6, .int .u64 r7, .int .i64 (st + 1)]) ?_ rfl ?_
                  · exact play_results _ _ (W.heap.size + 1) _ _ _ _ _ _ _ _ _ _ hfin (by simp)
                  · refine ⟨r0, r1, r2, r3, r4, r5, r6, r7, by rw [hres], by rw [hres]; rfl, ?_, rfl, ?_⟩
                    · rw [hres]; exact hcs.blk HMb.out (by simp; omega)
                    · exact HC.out.trans' hcs (fun x hx hl => by simp at hx; omega)
                · have h2' : ad < til := by omega
                  clear h2
                  by_cases h3 : M0.length ≤ ad
                  · have hact : actM fr til ⟨M, [r0, r1, r2, r3, r4, r5, r6, r7], pc, true, beg, st, false⟩ ⟨3, nx, rx, vl, ad⟩ = ⟨M, [r0, r1, r2, r3, r4, r5, r6, r7], pc, true, beg, st + 1, true⟩ := by
                      have hor : true = false ∨ (ad : Int) < fr ∨ (til : Int) ≤ ad ∨ (M.length : Int) ≤ ad := by omega
                      simp only [actM]
                      rw [if_neg (by decide), if_neg (by decide), if_pos (by decide), if_pos hor]
                    rw [hact] at HRun1
                    clear hml
                    have q0 : wc.cell? ⟨W.heap.size + 1 + 1, 0, none⟩ = some (.bool false) := HB.out.cell 0
                    have q1 : wc.cell? ⟨W.heap.size + 1 + 1, 1, none⟩ = some (.int .u64 r0) := HB.out.cell 1
                    have q2 : wc.cell? ⟨W.heap.size + 1 + 1, 2, none⟩ = some (.int .u64 r1) := HB.out.cell 2
                    have q3 : wc.cell? ⟨W.heap.size + 1 + 1, 3, none⟩ = some (.int .u64 r2) := HB.out.cell 3
                    have q4 : wc.cell? ⟨W.heap.size + 1 + 1, 4, none⟩ = some (.int .u64 r3) := HB.out.cell 4
                    have q5 : wc.cell? ⟨W.heap.size + 1 + 1, 5, none⟩ = some (.int .u64 r4) := HB.out.cell 5
                    have q6 : wc.cell? ⟨W.heap.size + 1 + 1, 6, none⟩ = some (.int .u64 r5) := HB.out.cell 6
                    have q7 : wc.cell? ⟨W.heap.size + 1 + 1, 7, none⟩ = some (.int .u64 r6) := HB.out.cell 7
                    have q8 : wc.cell? ⟨W.heap.size + 1 + 1, 8, none⟩ = some (.int .u64 r7) := HB.out.cell 8
                    have q9 : wc.cell? ⟨W.heap.size + 1 + 1, 9, none⟩ = some (.int .i64 (st + 1)) := HB.out.cell 9
                    have fq0 : wc.frozen? ⟨W.heap.size + 1 + 1, 0, none⟩ = false := HB.out.free 0
                    have z0 : wc.cell? ⟨W.heap.size + 1, 0, none⟩ = some (.bool false) := HZ.out.cell 0
                    have y0 : wc.frozen? ⟨W.heap.size + 1, 0, none⟩ = false := HZ.out.free 0
                    have z1 : wc.cell? ⟨W.heap.size + 1, 1, none⟩ = some (.int .u64 0) := HZ.out.cell 1
                    have y1 : wc.frozen? ⟨W.heap.size + 1, 1, none⟩ = false := HZ.out.free 1
                    have z2 : wc.cell? ⟨W.heap.size + 1, 2, none⟩ = some (.int .u64 0) := HZ.out.cell 2
                    have y2 : wc.frozen? ⟨W.heap.size + 1, 2, none⟩ = false := HZ.out.free 2
                    have z3 : wc.cell? ⟨W.heap.size + 1, 3, none⟩ = some (.int .u64 0) := HZ.out.cell 3
                    have y3 : wc.frozen? ⟨W.heap.size + 1, 3, none⟩ = false := HZ.out.free 3
                    have z4 : wc.cell? ⟨W.heap.size + 1, 4, none⟩ = some (.int .u64 0) := HZ.out.cell 4
                    have y4 : wc.frozen? ⟨W.heap.size + 1, 4, none⟩ = false := HZ.out.free 4
                    have z5 : wc.cell? ⟨W.heap.size + 1, 5, none⟩ = some (.int .u64 0) := HZ.out.cell 5
                    have y5 : wc.frozen? ⟨W.heap.size + 1, 5, none⟩ = false := HZ.out.free 5
                    have z6 : wc.cell? ⟨W.heap.size + 1, 6, none⟩ = some (.int .u64 0) := HZ.out.cell 6
                    have y6 : wc.frozen? ⟨W.heap.size + 1, 6, none⟩ = false := HZ.out.free 6
                    have z7 : wc.cell? ⟨W.heap.size + 1, 7, none⟩ = some (.int .u64 0) := HZ.out.cell 7
                    have y7 : wc.frozen? ⟨W.heap.size + 1, 7, none⟩ = false := HZ.out.free 7
                    have z8 : wc.cell? ⟨W.heap.size + 1, 8, none⟩ = some (.int .u64 0) := HZ.out.cell 8
                    have y8 : wc.frozen? ⟨W.heap.size + 1, 8, none⟩ = false := HZ.out.free 8
                    have z9 : wc.cell? ⟨W.heap.size + 1, 9, none⟩ = some (.int .i64 0) := HZ.out.cell 9
                    have y9 : wc.frozen? ⟨W.heap.size + 1, 9, none⟩ = false := HZ.out.free 9
                    go_wp2_with fail
                    have hfin := ((((((((((HZ.out.set 0 (.bool false)).set 1 (.int .u64 r0)).set 2 (.int .u64 r1)).set 3 (.int .u64 r2)).set 4 (.int .u64 r3)).set 5 (.int .u64 r4)).set 6 (.int .u64 r5)).set 7 (.int .u64 r6)).set 8 (.int .u64 r7)).set 9 (.int .i64 (st + 1)))
                    have hcs := (((((((((((Chg.refl [W.heap.size + 1] wc).setCell (p := ⟨W.heap.size + 1, 0, none⟩) (by simp) (.bool false)).setCell (p := ⟨W.heap.size + 1, 1, none⟩) (by simp) (.int .u64 r0)).setCell (p := ⟨W.heap.size + 1, 2, none⟩) (by simp) (.int .u64 r1)).setCell (p := ⟨W.heap.size + 1, 3, none⟩) (by simp) (.int .u64 r2)).setCell (p := ⟨W.heap.size + 1, 4, none⟩) (by simp) (.int .u64 r3)).setCell (p := ⟨W.heap.size + 1, 5, none⟩) (by simp) (.int .u64 r4)).setCell (p := ⟨W.heap.size + 1, 6, none⟩) (by simp) (.int .u64 r5)).setCell (p := ⟨W.heap.size + 1, 7, none⟩) (by simp) (.int .u64 r6)).setCell (p := ⟨W.heap.size + 1, 8, none⟩) (by simp) (.int .u64 r7)).setCell (p := ⟨W.heap.size + 1, 9, none⟩) (by simp) (.int .i64 (st + 1)))
                    have hres : runM l fr til most (most + 1) m0 = ⟨M, [r0, r1, r2, r3, r4, r5, r6, r7], pc, true, beg, st + 1, true⟩ := by rw [← HRun1.out, runM_bad _ _ _ _ _ _ rfl]
                    refine bodyPost_ret (v := .agg #[.bool false, .int .u64 r0, .int .u64 r1, .int .u64 r2, .int .u64 r3, .int .u64 r4, .int .u64 r5, .int .u64 r6, .int .u64 r7, .int .i64 (st + 1)]) ?_ rfl ?_
                    · exact play_results _ _ (W.heap.size + 1) _ _ _ _ _ _ _ _ _ _ hfin (by simp)
                    · refine ⟨r0, r1, r2, r3, r4, r5, r6, r7, by rw [hres], by rw [hres]; rfl, ?_, rfl, ?_⟩
                      · rw [hres]; exact hcs.blk HMb.out (by simp; omega)
                      · exact HC.out.trans' hcs (fun x hx hl => by simp at hx; omega)
                  · have h3' : ad < M0.length := by omega
                    clear h3
                    have hg0 : M.getD ad 0 = (M[ad]?.getD 0) := by simp [List.getD]
                    have hact : actM fr til ⟨M, [r0, r1, r2, r3, r4, r5, r6, r7], pc, true, beg, st, false⟩ ⟨3, nx, rx, vl, ad⟩ = ⟨M, [r0, r1, r2, r3, r4, r5, r6, r7].set rx (M[ad]?.getD 0), nx, true, beg, st + 1, false⟩ := by
                      have hno : ¬ (true = false ∨ (ad : Int) < fr ∨ (til : Int) ≤ ad ∨ (M.length : Int) ≤ ad) := by simp; omega
                      simp only [actM]
                      rw [if_neg (by decide), if_neg (by decide), if_pos (by decide), if_neg hno, if_pos trivial]
                      simp [hg0]
                    rw [hact] at HRun1
                    have cm : wc.cell? ⟨bm, ad, none⟩ = some (.int .u64 (M[ad]?.getD 0)) := (HMb.out.cell ad).trans (map_get (by omega))
                    have fm : wc.frozen? ⟨bm, ad, none⟩ = false := HMb.out.free ad
                    have hmv : uok (M[ad]?.getD 0) := by rw [List.getElem?_eq_getElem (by omega)]; exact HK.2.2.out _ (List.getElem_mem _)
                    clear hg0 hact hml
                    obtain ⟨rv, hrv⟩ : ∃ rv, (rL [r0, r1, r2, r3, r4, r5, r6, r7] (st + 1))[1 + rx]? = some rv := ⟨_, List.getElem?_eq_getElem (by simp [rL]; omega)⟩
                    have cr : wc.cell? ⟨W.heap.size + 1 + 1, 1 + rx, none⟩ = some rv := (HB.out.cell (1 + rx)).trans hrv
                    have fr' : wc.frozen? ⟨W.heap.size + 1 + 1, 1 + rx, none⟩ = false := HB.out.free (1 + rx)
                    have nz : W.heap.size + 1 ≠ W.heap.size + 1 + 1 := by omega
                    have nm : bm ≠ W.heap.size + 1 + 1 := by omega
                    clear hrv
                    generalize M[ad]?.getD 0 = mv at *
                    have hset : Chg [W.heap.size + 1 + 1] wc (wc.setCell ⟨W.heap.size + 1 + 1, 1 + rx, none⟩ (.int .u64 mv)) := (Chg.refl _ _).setCell (p := ⟨_, 1 + rx, none⟩) (by simp) _
                    have hB' := (HB.out).set (1 + rx) (.int .u64 (mv))
                    rw [Nat.add_comm 1 rx, rL_set (by simpa using hrx), ← Nat.add_comm 1 rx] at hB'
                    have HB' := Lib.hid hB'
                    have HS' := Lib.hid hset
                    have e1' : (wc.setCell ⟨W.heap.size + 1 + 1, 1 + rx, none⟩ (.int .u64 (mv))).cell? ⟨ge, 1, none⟩ = some (.int .i64 nx) := (hset.blk (hbe) (by have hne := hbe.ne HB.out (by decide); simpa using hne)).cell 1
                    clear hset hB'
                    go_wp2_with fail
                    go_region
                    all_goals
                      go_wp2_with fail
                      go_roundg (gk - 1)
                      case measure => omega
                      case rel =>
                        refine ⟨⟨M, [r0, r1, r2, r3, r4, r5, r6, r7].set rx mv, nx, true, beg, st + 1, false⟩, by simp; omega, rfl, rfl, rfl, ⟨by simp, rg_set HK.1.out hmv rx, HK.2.1.out, HK.2.2.out, hnx, rfl, by simp; omega, by simp; omega⟩, ?_, ?_, ?_, ?_, HRun1.out⟩
                        · exact HB'.out.drew
                        · exact (HS'.out.blk HZ.out (by simp)).drew
                        · exact (HS'.out.blk HMb.out (by simpa using nm)).drew
                        · exact (HC.out.trans' HS'.out (fun x hx hl => by simp at hx; omega)).drew
          · cases ins with
            | false =>
              have hact : actM fr til ⟨M, [r0, r1, r2, r3, r4, r5, r6, r7], pc, false, beg, st, false⟩ ⟨4, nx, rx, vl, ad⟩ = ⟨M, [r0, r1, r2, r3, r4, r5, r6, r7], pc, false, beg, st + 1, true⟩ := rfl
              rw [hact] at HRun1
              have q0 : wc.cell? ⟨W.heap.size + 1 + 1, 0, none⟩ = some (.bool false) := HB.out.cell 0
              have q1 : wc.cell? ⟨W.heap.size + 1 + 1, 1, none⟩ = some (.int .u64 r0) := HB.out.cell 1
              have q2 : wc.cell? ⟨W.heap.size + 1 + 1, 2, none⟩ = some (.int .u64 r1) := HB.out.cell 2
              have q3 : wc.cell? ⟨W.heap.size + 1 + 1, 3, none⟩ = some (.int .u64 r2) := HB.out.cell 3
              have q4 : wc.cell? ⟨W.heap.size + 1 + 1, 4, none⟩ = some (.int .u64 r3) := HB.out.cell 4
              have q5 : wc.cell? ⟨W.heap.size + 1 + 1, 5, none⟩ = some (.int .u64 r4) := HB.out.cell 5
              have q6 : wc.cell? ⟨W.heap.size + 1 + 1, 6, none⟩ = some (.int .u64 r5) := HB.out.cell 6
              have q7 : wc.cell? ⟨W.heap.size + 1 + 1, 7, none⟩ = some (.int .u64 r6) := HB.out.cell 7
              have q8 : wc.cell? ⟨W.heap.size + 1 + 1, 8, none⟩ = some (.int .u64 r7) := HB.out.cell 8
              have q9 : wc.cell? ⟨W.heap.size + 1 + 1, 9, none⟩ = some (.int .i64 (st + 1)) := HB.out.cell 9
              have fq0 : wc.frozen? ⟨W.heap.size + 1 + 1, 0, none⟩ = false := HB.out.free 0
              have z0 : wc.cell? ⟨W.heap.size + 1, 0, none⟩ = some (.bool false) := HZ.out.cell 0
              have y0 : wc.frozen? ⟨W.heap.size + 1, 0, none⟩ = false := HZ.out.free 0
              have z1 : wc.cell? ⟨W.heap.size + 1, 1, none⟩ = some (.int .u64 0) := HZ.out.cell 1
              have y1 : wc.frozen? ⟨W.heap.size + 1, 1, none⟩ = false := HZ.out.free 1
              have z2 : wc.cell? ⟨W.heap.size + 1, 2, none⟩ = some (.int .u64 0) := HZ.out.cell 2
              have y2 : wc.frozen? ⟨W.heap.size + 1, 2, none⟩ = false := HZ.out.free 2
              have z3 : wc.cell? ⟨W.heap.size + 1, 3, none⟩ = some (.int .u64 0) := HZ.out.cell 3
              have y3 : wc.frozen? ⟨W.heap.size + 1, 3, none⟩ = false := HZ.out.free 3
              have z4 : wc.cell? ⟨W.heap.size + 1, 4, none⟩ = some (.int .u64 0) := HZ.out.cell 4
              have y4 : wc.frozen? ⟨W.heap.size + 1, 4, none⟩ = false := HZ.out.free 4
              have z5 : wc.cell? ⟨W.heap.size + 1, 5, none⟩ = some (.int .u64 0) := HZ.out.cell 5
              have y5 : wc.frozen? ⟨W.heap.size + 1, 5, none⟩ = false := HZ.out.free 5
              have z6 : wc.cell? ⟨W.heap.size + 1, 6, none⟩ = some (.int .u64 0) := HZ.out.cell 6
              have y6 : wc.frozen? ⟨W.heap.size + 1, 6, none⟩ = false := HZ.out.free 6
              have z7 : wc.cell? ⟨W.heap.size + 1, 7, none⟩ = some (.int .u64 0) := HZ.out.cell 7
              have y7 : wc.frozen? ⟨W.heap.size + 1, 7, none⟩ = false := HZ.out.free 7
              have z8 : wc.cell? ⟨W.heap.size + 1, 8, none⟩ = some (.int .u64 0) := HZ.out.cell 8
              have y8 : wc.frozen? ⟨W.heap.size + 1, 8, none⟩ = false := HZ.out.free 8
              have z9 : wc.cell? ⟨W.heap.size + 1, 9, none⟩ = some (.int .i64 0) := HZ.out.cell 9
              have y9 : wc.frozen? ⟨W.heap.size + 1, 9, none⟩ = false := HZ.out.free 9
              go_wp2_with fail
              have hfin := ((((((((((HZ.out.set 0 (.bool false)).set 1 (.int .u64 r0)).set 2 (.int .u64 r1)).set 3 (.int .u64 r2)).set 4 (.int .u64 r3)).set 5 (.int .u64 r4)).set 6 (.int .u64 r5)).set 7 (.int .u64 r6)).set 8 (.int .u64 r7)).set 9 (.int .i64 (st + 1)))
              have hcs := (((((((((((Chg.refl [W.heap.size + 1] wc).setCell (p := ⟨W.heap.size + 1, 0, none⟩) (by simp) (.bool false)).setCell (p := ⟨W.heap.size + 1, 1, none⟩) (by simp) (.int .u64 r0)).setCell (p := ⟨W.heap.size + 1, 2, none⟩) (by simp) (.int .u64 r1)).setCell (p := ⟨W.heap.size + 1, 3, none⟩) (by simp) (.int .u64 r2)).setCell (p := ⟨W.heap.size + 1, 4, none⟩) (by simp) (.int .u64 r3)).setCell (p := ⟨W.heap.size + 1, 5, none⟩) (by simp) (.int .u64 r4)).setCell (p := ⟨W.heap.size + 1, 6, none⟩) (by simp) (.int .u64 r5)).setCell (p := ⟨W.heap.size + 1, 7, none⟩) (by simp) (.int .u64 r6)).setCell (p := ⟨W.heap.size + 1, 8, none⟩) (by simp) (.int .u64 r7)).setCell (p := ⟨W.heap.size + 1, 9, none⟩) (by simp) (.int .i64 (st + 1)))
              have hres : runM l fr til most (most + 1) m0 = ⟨M, [r0, r1, r2, r3, r4, r5, r6, r7], pc, false, beg, st + 1, true⟩ := by rw [← HRun1.out, runM_bad _ _ _ _ _ _ rfl]
              refine bodyPost_ret (v := .agg #[.bool false, .int .u64 r0, .int .u64 r1, .int .u64 r2, .int .u64 r3, .int .u64 r4, .int .u64 r5, .int .u64 r6, .int .u64 r7, .int .i64 (st + 1)]) ?_ rfl ?_
              · exact play_results _ _ (W.heap.size + 1) _ _ _ _ _ _ _ _ _ _ hfin (by simp)
              · refine ⟨r0, r1, r2, r3, r4, r5, r6, r7, by rw [hres], by rw [hres]; rfl, ?_, rfl, ?_⟩
                · rw [hres]; exact hcs.blk HMb.out (by simp; omega)
                · exact HC.out.trans' hcs (fun x hx hl => by simp at hx; omega)
            | true =>
              have hml := HK.2.1.out
              by_cases h1 : ad < fr
              · have hact : actM fr til ⟨M, [r0, r1, r2, r3, r4, r5, r6, r7], pc, true, beg, st, false⟩ ⟨4, nx, rx, vl, ad⟩ = ⟨M, [r0, r1, r2, r3, r4, r5, r6, r7], pc, true, beg, st + 1, true⟩ := by
                  have hor : true = false ∨ (ad : Int) < fr ∨ (til : Int) ≤ ad ∨ (M.length : Int) ≤ ad := by omega
                  simp only [actM]
                  rw [if_neg (by decide), if_neg (by decide), if_pos (by decide), if_pos hor]
                rw [hact] at HRun1
                clear hml
                have q0 : wc.cell? ⟨W.heap.size + 1 + 1, 0, none⟩ = some (.bool false) := HB.out.cell 0
                have q1 : wc.cell? ⟨W.heap.size + 1 + 1, 1, none⟩ = some (.int .u64 r0) := HB.out.cell 1
                have q2 : wc.cell? ⟨W.heap.size + 1 + 1, 2, none⟩ = some (.int .u64 r1) := HB.out.cell 2
                have q3 : wc.cell? ⟨W.heap.size + 1 + 1, 3, none⟩ = some (.int .u64 r2) := HB.out.cell 3
                have q4 : wc.cell? ⟨W.heap.size + 1 + 1, 4, none⟩ = some (.int .u64 r3) := HB.out.cell 4
                have q5 : wc.cell? ⟨W.heap.size + 1 + 1, 5, none⟩ = some (.int .u64 r4) := HB.out.cell 5
                have q6 : wc.cell? ⟨W.heap.size + 1 + 1, 6, none⟩ = some (.int .u64 r5) := HB.out.cell 6
                have q7 : wc.cell? ⟨W.heap.size + 1 + 1, 7, none⟩ = some (.int .u64 r6) := HB.out.cell 7
                have q8 : wc.cell? ⟨W.heap.size + 1 + 1, 8, none⟩ = some (.int .u64 r7) := HB.out.cell 8
                have q9 : wc.cell? ⟨W.heap.size + 1 + 1, 9, none⟩ = some (.int .i64 (st + 1)) := HB.out.cell 9
                have fq0 : wc.frozen? ⟨W.heap.size + 1 + 1, 0, none⟩ = false := HB.out.free 0
                have z0 : wc.cell? ⟨W.heap.size + 1, 0, none⟩ = some (.bool false) := HZ.out.cell 0
                have y0 : wc.frozen? ⟨W.heap.size + 1, 0, none⟩ = false := HZ.out.free 0
                have z1 : wc.cell? ⟨W.heap.size + 1, 1, none⟩ = some (.int .u64 0) := HZ.out.cell 1
                have y1 : wc.frozen? ⟨W.heap.size + 1, 1, none⟩ = false := HZ.out.free 1
                have z2 : wc.cell? ⟨W.heap.size + 1, 2, none⟩ = some (.int .u64 0) := HZ.out.cell 2
                have y2 : wc.frozen? ⟨W.heap.size + 1, 2, none⟩ = false := HZ.out.free 2
                have z3 : wc.cell? ⟨W.heap.size + 1, 3, none⟩ = some (.int .u64 0) := HZ.out.cell 3
                have y3 : wc.frozen? ⟨W.heap.size + 1, 3, none⟩ = false := HZ.out.free 3
                have z4 : wc.cell? ⟨W.heap.size + 1, 4, none⟩ = some (.int .u64 0) := HZ.out.cell 4
                have y4 : wc.frozen? ⟨W.heap.size + 1, 4, none⟩ = false := HZ.out.free 4
                have z5 : wc.cell? ⟨W.heap.size + 1, 5, none⟩ = some (.int .u64 0) := HZ.out.cell 5
                have y5 : wc.frozen? ⟨W.heap.size + 1, 5, none⟩ = false := HZ.out.free 5
                have z6 : wc.cell? ⟨W.heap.size + 1, 6, none⟩ = some (.int .u64 0) := HZ.out.cell 6
                have y6 : wc.frozen? ⟨W.heap.size + 1, 6, none⟩ = false := HZ.out.free 6
                have z7 : wc.cell? ⟨W.heap.size + 1, 7, none⟩ = some (.int .u64 0) := HZ.out.cell 7
                have y7 : wc.frozen? ⟨W.heap.size + 1, 7, none⟩ = false := HZ.out.free 7
                have z8 : wc.cell? ⟨W.heap.size + 1, 8, none⟩ = some (.int .u64 0) := HZ.out.cell 8
                have y8 : wc.frozen? ⟨W.heap.size + 1, 8, none⟩ = false := HZ.out.free 8
                have z9 : wc.cell? ⟨W.heap.size + 1, 9, none⟩ = some (.int .i64 0) := HZ.out.cell 9
                have y9 : wc.frozen? ⟨W.heap.size + 1, 9, none⟩ = false := HZ.out.free 9
                go_wp2_with fail
                have hfin := ((((((((((HZ.out.set 0 (.bool false)).set 1 (.int .u64 r0)).set 2 (.int .u64 r1)).set 3 (.int .u64 r2)).set 4 (.int .u64 r3)).set 5 (.int .u64 r4)).set 6 (.int .u64 r5)).set 7 (.int .u64 r6)).set 8 (.int .u64 r7)).set 9 (.int .i64 (st + 1)))
                have hcs := (((((((((((Chg.refl [W.heap.size + 1] wc).setCell (p := ⟨W.heap.size + 1, 0, none⟩) (by simp) (.bool false)).setCell (p := ⟨W.heap.size + 1, 1, none⟩) (by simp) (.int .u64 r0)).setCell (p := ⟨W.heap.size + 1, 2, none⟩) (by simp) (.int .u64 r1)).setCell (p := ⟨W.heap.size + 1, 3, none⟩) (by simp) (.int .u64 r2)).setCell (p := ⟨W.heap.size + 1, 4, none⟩) (by simp) (.int .u64 r3)).setCell (p := ⟨W.heap.size + 1, 5, none⟩) (by simp) (.int .u64 r4)).setCell (p := ⟨W.heap.size + 1, 6, none⟩) (by simp) (.int .u64 r5)).setCell (p := ⟨W.heap.size + 1, 7, none⟩) (by simp) (.int .u64 r6)).setCell (p := ⟨W.heap.size + 1, 8, none⟩) (by simp) (.int .u64 r7)).setCell (p := ⟨W.heap.size + 1, 9, none⟩) (by simp) (.int .i64 (st + 1)))
                have hres : runM l fr til most (most + 1) m0 = ⟨M, [r0, r1, r2, r3, r4, r5, r6, r7], pc, true, beg, st + 1, true⟩ := by rw [← HRun1.out, runM_bad _ _ _ _ _ _ rfl]
                refine bodyPost_ret (v := .agg #[.bool false, .int .u64 r0, .int .u64 r1, .int .u64 r2, .int .u64 r3, .int .u64 r4, .int .u64 r5, .int .u64 r6, .int .u64 r7, .int .i64 (st + 1)]) ?_ rfl ?_
                · exact play_results _ _ (W.heap.size + 1) _ _ _ _ _ _ _ _ _ _ hfin (by simp)
                · refine ⟨r0, r1, r2, r3, r4, r5, r6, r7, by rw [hres], by rw [hres]; rfl, ?_, rfl, ?_⟩
                  · rw [hres]; exact hcs.blk HMb.out (by simp; omega)
                  · exact HC.out.trans' hcs (fun x hx hl => by simp at hx; omega)
              · have h1' : fr ≤ ad := by omega
                clear h1
                by_cases h2 : til ≤ ad
                · have hact : actM fr til ⟨M, [r0, r1, r2, r3, r4, r5, r6, r7], pc, true, beg, st, false⟩ ⟨4, nx, rx, vl, ad⟩ = ⟨M, [r0, r1, r2, r3, r4, r5, r6, r7], pc, true, beg, st + 1, true⟩ := by
                    have hor : true = false ∨ (ad : Int) < fr ∨ (til : Int) ≤ ad ∨ (M.length : Int) ≤ ad := by omega
                    simp only [actM]
                    rw [if_neg (by decide), if_neg (by decide), if_pos (by decide), if_pos hor]
                  rw [hact] at HRun1
                  clear hml
                  have q0 : wc.cell? ⟨W.heap.size + 1 + 1, 0, none⟩ = some (.bool false) := HB.out.cell 0
                  have q1 : wc.cell? ⟨W.heap.size + 1 + 1, 1, none⟩ = some (.int .u64 r0) := HB.out.cell 1
                  have q2 : wc.cell? ⟨W.heap.size + 1 + 1, 2, none⟩ = some (.int .u64 r1) := HB.out.cell 2
                  have q3 : wc.cell? ⟨W.heap.size + 1 + 1, 3, none⟩ = some (.int .u64 r2) := HB.out.cell 3
                  have q4 : wc.cell? ⟨W.heap.size + 1 + 1, 4, none⟩ = some (.int .u64 r3) := HB.out.cell 4
                  have q5 : wc.cell? ⟨W.heap.size + 1 + 1, 5, none⟩ = some (.int .u64 r4) := HB.out.cell 5
                  have q6 : wc.cell? ⟨W.heap.size + 1 + 1, 6, none⟩ = some (.int .u64 r5) := HB.out.cell 6
                  have q7 : wc.cell? ⟨W.heap.size + 1 + 1, 7, none⟩ = some (.int .u64 r6) := HB.out.cell 7
                  have q8 : wc.cell? ⟨W.heap.size + 1 + 1, 8, none⟩ = some (.int .u64 r7) := HB.out.cell 8
                  have q9 : wc.cell? ⟨W.heap.size + 1 + 1, 9, none⟩ = some (.int .i64 (st + 1)) := HB.out.cell 9
                  have fq0 : wc.frozen? ⟨W.heap.size + 1 + 1, 0, none⟩ = false := HB.out.free 0
                  have z0 : wc.cell? ⟨W.heap.size + 1, 0, none⟩ = some (.bool false) := HZ.out.cell 0
                  have y0 : wc.frozen? ⟨W.heap.size + 1, 0, none⟩ = false := HZ.out.free 0
                  have z1 : wc.cell? ⟨W.heap.size + 1, 1, none⟩ = some (.int .u64 0) := HZ.out.cell 1
                  have y1 : wc.frozen? ⟨W.heap.size + 1, 1, none⟩ = false := HZ.out.free 1
                  have z2 : wc.cell? ⟨W.heap.size + 1, 2, none⟩ = some (.int .u64 0) := HZ.out.cell 2
                  have y2 : wc.frozen? ⟨W.heap.size + 1, 2, none⟩ = false := HZ.out.free 2
                  have z3 : wc.cell? ⟨W.heap.size + 1, 3, none⟩ = some (.int .u64 0) := HZ.out.cell 3
                  have y3 : wc.frozen? ⟨W.heap.size + 1, 3, none⟩ = false := HZ.out.free 3
                  have z4 : wc.cell? ⟨W.heap.size + 1, 4, none⟩ = some (.int .u64 0) := HZ.out.cell 4
                  have y4 : wc.frozen? ⟨W.heap.size + 1, 4, none⟩ = false := HZ.out.free 4
                  have z5 : wc.cell? ⟨W.heap.size + 1, 5, none⟩ = some (.int .u64 0) := HZ.out.cell 5
                  have y5 : wc.frozen? ⟨W.heap.size + 1, 5, none⟩ = false := HZ.out.free 5
                  have z6 : wc.cell? ⟨W.heap.size + 1, 6, none⟩ = some (.int .u64 0) := HZ.out.cell 6
                  have y6 : wc.frozen? ⟨W.heap.size + 1, 6, none⟩ = false := HZ.out.free 6
                  have z7 : wc.cell? ⟨W.heap.size + 1, 7, none⟩ = some (.int .u64 0) := HZ.out.cell 7
                  have y7 : wc.frozen? ⟨W.heap.size + 1, 7, none⟩ = false := HZ.out.free 7
                  have z8 : wc.cell? ⟨W.heap.size + 1, 8, none⟩ = some (.int .u64 0) := HZ.out.cell 8
                  have y8 : wc.frozen? ⟨W.heap.size + 1, 8, none⟩ = false := HZ.out.free 8
                  have z9 : wc.cell? ⟨W.heap.size + 1, 9, none⟩ = some (.int .i64 0) := HZ.out.cell 9
                  have y9 : wc.frozen? ⟨W.heap.size + 1, 9, none⟩ = false := HZ.out.free 9
                  go_wp2_with fail
                  have hfin := ((((((((((HZ.out.set 0 (.bool false)).set 1 (.int .u64 r0)).set 2 (.int .u64 r1)).set 3 (.int .u64 r2)).set 4 (.int .u64 r3)).set 5 (.int .u64 r4)).set 6 (.int .u64 r5)).set 7 (.int .u64 r6)).set 8 (.int .u64 r7)).set 9 (.int .i64 (st + 1)))
                  have hcs := (((((((((((Chg.refl [W.heap.size + 1] wc).setCell (p := ⟨W.heap.size + 1, 0, none⟩) (by simp) (.bool false)).setCell (p := ⟨W.heap.size + 1, 1, none⟩) (by simp) (.int .u64 r0)).setCell (p := ⟨W.heap.size + 1, 2, none⟩) (by simp) (.int .u64 r1)).setCell (p := ⟨W.heap.size + 1, 3, none⟩) (by simp) (.int .u64 r2)).setCell (p := ⟨W.heap.size + 1, 4, none⟩) (by simp) (.int .u64 r3)).setCell (p := ⟨W.heap.size + 1, 5, none⟩) (by simp) (.int .u64 r4)).setCell (p := ⟨W.heap.size + 1, 6, none⟩) (by simp) (.int .u64 r5)).setCell (p := ⟨W.heap.size + 1, 7, none⟩) (by simp) (.int .u64 r6)).setCell (p := ⟨W.heap.size + 1, 8, none⟩) (by simp) (.int .u64 r7)).setCell (p := ⟨W.heap.size + 1, 9, none⟩) (by simp) (.int .i64 (st + 1)))
                  have hres : runM l fr til most (most + 1) m0 = ⟨M, [r0, r1, r2, r3, r4, r5, r6, r7], pc, true, beg, st + 1, true⟩ := by rw [← HRun1.out, runM_bad _ _ _ _ _ _ rfl]
                  refine bodyPost_ret (v := .agg #[.bool false, .int .u64 r0, .int .u64 r1, .int .u64 r2, .int .u64 r3, .int .u64 r4, .int .u64 r5, .int .u64 r6, .int .u64 r7, .int .i64 (st + 1)]) ?_ rfl ?_
                  · exact play_results _ _ (W.heap.size + 1) _ _ _ _ _ _ _ _ _ _ hfin (by simp)
                  · refine ⟨r0, r1, r2, r3, r4, r5, r6, r7, by rw [hres], by rw [hres]; rfl, ?_, rfl, ?_⟩
                    · rw [hres]; exact hcs.blk HMb.out (by simp; omega)
                    · exact HC.out.trans' hcs (fun x hx hl => by simp at hx; omega)
                · have h2' : ad < til := by omega
                  clear h2
                  by_cases h3 : M0.length ≤ ad
                  · have hact : actM fr til ⟨M, [r0, r1, r2, r3, r4, r5, r6, r7], pc, true, beg, st, false⟩ ⟨4, nx, rx, vl, ad⟩ = ⟨M, [r0, r1, r2, r3, r4, r5, r6, r7], pc, true, beg, st + 1, true⟩ := by
                      have hor : true = false ∨ (ad : Int) < fr ∨ (til : Int) ≤ ad ∨ (M.length : Int) ≤ ad := by omega
                      simp only [actM]
                      rw [if_neg (by decide), if_neg (by decide), if_pos (by decide), if_pos hor]
                    rw [hact] at HRun1
                    clear hml
                    have q0 : wc.cell? ⟨W.heap.size + 1 + 1, 0, none⟩ = some (.bool false) := HB.out.cell 0
                    have q1 : wc.cell? ⟨W.heap.size + 1 + 1, 1, none⟩ = some (.int .u64 r0) := HB.out.cell 1
                    have q2 : wc.cell? ⟨W.heap.size + 1 + 1, 2, none⟩ = some (.int .u64 r1) := HB.out.cell 2
                    have q3 : wc.cell? ⟨W.heap.size + 1 + 1, 3, none⟩ = some (.int .u64 r2) := HB.out.cell 3
                    have q4 : wc.cell? ⟨W.heap.size + 1 + 1, 4, none⟩ = some (.int .u64 r3) := HB.out.cell 4
                    have q5 : wc.cell? ⟨W.heap.size + 1 + 1, 5, none⟩ = some (.int .u64 r4) := HB.out.cell 5
                    have q6 : wc.cell? ⟨W.heap.size + 1 + 1, 6, none⟩ = some (.int .u64 r5) := HB.out.cell 6
                    have q7 : wc.cell? ⟨W.heap.size + 1 + 1, 7, none⟩ = some (.int .u64 r6) := HB.out.cell 7
                    have q8 : wc.cell? ⟨W.heap.size + 1 + 1, 8, none⟩ = some (.int .u64 r7) := HB.out.cell 8
                    have q9 : wc.cell? ⟨W.heap.size + 1 + 1, 9, none⟩ = some (.int .i64 (st + 1)) := HB.out.cell 9
                    have fq0 : wc.frozen? ⟨W.heap.size + 1 + 1, 0, none⟩ = false := HB.out.free 0
                    have z0 : wc.cell? ⟨W.heap.size + 1, 0, none⟩ = some (.bool false) := HZ.out.cell 0
                    have y0 : wc.frozen? ⟨W.heap.size + 1, 0, none⟩ = false := HZ.out.free 0
                    have z1 : wc.cell? ⟨W.heap.size + 1, 1, none⟩ = some (.int .u64 0) := HZ.out.cell 1
                    have y1 : wc.frozen? ⟨W.heap.size + 1, 1, none⟩ = false := HZ.out.free 1
                    have z2 : wc.cell? ⟨W.heap.size + 1, 2, none⟩ = some (.int .u64 0) := HZ.out.cell 2
                    have y2 : wc.frozen? ⟨W.heap.size + 1, 2, none⟩ = false := HZ.out.free 2
                    have z3 : wc.cell? ⟨W.heap.size + 1, 3, none⟩ = some (.int .u64 0) := HZ.out.cell 3
                    have y3 : wc.frozen? ⟨W.heap.size + 1, 3, none⟩ = false := HZ.out.free 3
                    have z4 : wc.cell? ⟨W.heap.size + 1, 4, none⟩ = some (.int .u64 0) := HZ.out.cell 4
                    have y4 : wc.frozen? ⟨W.heap.size + 1, 4, none⟩ = false := HZ.out.free 4
                    have z5 : wc.cell? ⟨W.heap.size + 1, 5, none⟩ = some (.int .u64 0) := HZ.out.cell 5
                    have y5 : wc.frozen? ⟨W.heap.size + 1, 5, none⟩ = false := HZ.out.free 5
                    have z6 : wc.cell? ⟨W.heap.size + 1, 6, none⟩ = some (.int .u64 0) := HZ.out.cell 6
                    have y6 : wc.frozen? ⟨W.heap.size + 1, 6, none⟩ = false := HZ.out.free 6
                    have z7 : wc.cell? ⟨W.heap.size + 1, 7, none⟩ = some (.int .u64 0) := HZ.out.cell 7
                    have y7 : wc.frozen? ⟨W.heap.size + 1, 7, none⟩ = false := HZ.out.free 7
                    have z8 : wc.cell? ⟨W.heap.size + 1, 8, none⟩ = some (.int .u64 0) := HZ.out.cell 8
                    have y8 : wc.frozen? ⟨W.heap.size + 1, 8, none⟩ = false := HZ.out.free 8
                    have z9 : wc.cell? ⟨W.heap.size + 1, 9, none⟩ = some (.int .i64 0) := HZ.out.cell 9
                    have y9 : wc.frozen? ⟨W.heap.size + 1, 9, none⟩ = false := HZ.out.free 9
                    go_wp2_with fail
                    have hfin := ((((((((((HZ.out.set 0 (.bool false)).set 1 (.int .u64 r0)).set 2 (.int .u64 r1)).set 3 (.int .u64 r2)).set 4 (.int .u64 r3)).set 5 (.int .u64 r4)).set 6 (.int .u64 r5)).set 7 (.int .u64 r6)).set 8 (.int .u64 r7)).set 9 (.int .i64 (st + 1)))
                    have hcs := (((((((((((Chg.refl [W.heap.size + 1] wc).setCell (p := ⟨W.heap.size + 1, 0, none⟩) (by simp) (.bool false)).setCell (p := ⟨W.heap.size + 1, 1, none⟩) (by simp) (.int .u64 r0)).setCell (p := ⟨W.heap.size + 1, 2, none⟩) (by simp) (.int .u64 r1)).setCell (p := ⟨W.heap.size + 1, 3, none⟩) (by simp) (.int .u64 r2)).setCell (p := ⟨W.heap.size + 1, 4, none⟩) (by simp) (.int .u64 r3)).setCell (p := ⟨W.heap.size + 1, 5, none⟩) (by simp) (.int .u64 r4)).setCell (p := ⟨W.heap.size + 1, 6, none⟩) (by simp) (.int .u64 r5)).setCell (p := ⟨W.heap.size + 1, 7, none⟩) (by simp) (.int .u64 r6)).setCell (p := ⟨W.heap.size + 1, 8, none⟩) (by simp) (.int .u64 r7)).setCell (p := ⟨W.heap.size + 1, 9, none⟩) (by simp) (.int .i64 (st + 1)))
                    have hres : runM l fr til most (most + 1) m0 = ⟨M, [r0, r1, r2, r3, r4, r5, r6, r7], pc, true, beg, st + 1, true⟩ := by rw [← HRun1.out, runM_bad _ _ _ _ _ _ rfl]
                    refine bodyPost_ret (v := .agg #[.bool false, .int .u64 r0, .int .u64 r1, .int .u64 r2, .int .u64 r3, .int .u64 r4, .int .u64 r5, .int .u64 r6, .int .u64 r7, .int .i64 (st + 1)]) ?_ rfl ?_
                    · exact play_results _ _ (W.heap.size + 1) _ _ _ _ _ _ _ _ _ _ hfin (by simp)
                    · refine ⟨r0, r1, r2, r3, r4, r5, r6, r7, by rw [hres], by rw [hres]; rfl, ?_, rfl, ?_⟩
                      · rw [hres]; exact hcs.blk HMb.out (by simp; omega)
                      · exact HC.out.trans' hcs (fun x hx hl => by simp at hx; omega)
                  · have h3' : ad < M0.length := by omega
                    clear h3
                    have hg0 : M.getD ad 0 = (M[ad]?.getD 0) := by simp [List.getD]
                    have hact : actM fr til ⟨M, [r0, r1, r2, r3, r4, r5, r6, r7], pc, true, beg, st, false⟩ ⟨4, nx, rx, vl, ad⟩ = ⟨M.set ad vl, [r0, r1, r2, r3, r4, r5, r6, r7], nx, true, beg, st + 1, false⟩ := by
                      have hno : ¬ (true = false ∨ (ad : Int) < fr ∨ (til : Int) ≤ ad ∨ (M.length : Int) ≤ ad) := by simp; omega
                      simp only [actM]
                      rw [if_neg (by decide), if_neg (by decide), if_pos (by decide), if_neg hno, if_neg (by decide)]
                      simp [hg0]
                    rw [hact] at HRun1
                    have cm : wc.cell? ⟨bm, ad, none⟩ = some (.int .u64 (M[ad]?.getD 0)) := (HMb.out.cell ad).trans (map_get (by omega))
                    have fm : wc.frozen? ⟨bm, ad, none⟩ = false := HMb.out.free ad
                    have nz : bm ≠ W.heap.size + 1 := by omega
                    have nm : bm ≠ W.heap.size + 1 + 1 := by omega
                    have HS := Lib.hid (show Chg [bm] wc (wc.setCell ⟨bm, ad, none⟩ (.int .u64 vl)) from (Chg.refl _ _).setCell (p := ⟨_, ad, none⟩) (by simp) _)
                    have e1' : (wc.setCell ⟨bm, ad, none⟩ (.int .u64 vl)).cell? ⟨ge, 1, none⟩ = some (.int .i64 nx) := (HS.out.blk hbe (by have hne := hbe.ne HMb.out (by decide); simpa using hne)).cell 1
                    have hM2 := HMb.out.set ad (.int .u64 vl)
                    rw [← List.map_set] at hM2
                    have HM2 := Lib.hid hM2
                    clear hg0 hact hml hM2
                    generalize M[ad]?.getD 0 = mv at *
                    go_wp2_with fail
                    go_roundg (gk - 1)
                    case measure => omega
                    case rel =>
                      refine ⟨⟨M.set ad vl, [r0, r1, r2, r3, r4, r5, r6, r7], nx, true, beg, st + 1, false⟩, by simp; omega, rfl, rfl, rfl, ⟨rfl, HK.1.out, by simpa using HK.2.1.out, mem_set HK.2.2.out hvl ad, hnx, rfl, by simp; omega, by simp; omega⟩, ?_, ?_, ?_, ?_, HRun1.out⟩
                      · exact HS.out.blk HB.out (by simpa using nm.symm)
                      · exact HS.out.blk HZ.out (by simpa using nz.symm)
                      · exact HM2.out
                      · exact HC.out.trans HS.out
          · cases ins with
            | false =>
              have hact : actM fr til ⟨M, [r0, r1, r2, r3, r4, r5, r6, r7], pc, false, beg, st, false⟩ ⟨5, nx, rx, vl, ad⟩ = ⟨M, [r0, r1, r2, r3, r4, r5, r6, r7], nx, true, beg + 1, st + 1, false⟩ := rfl
              rw [hact] at HRun1
              go_wp2_with fail
              go_roundg (gk - 1)
              case measure => omega
              case rel =>
                refine ⟨⟨M, [r0, r1, r2, r3, r4, r5, r6, r7], nx, true, beg + 1, st + 1, false⟩, by simp; omega, rfl, rfl, rfl, ⟨rfl, HK.1.out, HK.2.1.out, HK.2.2.out, hnx, rfl, by simp; omega, by simp; omega⟩, ?_, ?_, ?_, ?_, HRun1.out⟩
                · exact HB.out
                · exact HZ.out
                · exact HMb.out
                · exact HC.out
            | true =>
              have hact : actM fr til ⟨M, [r0, r1, r2, r3, r4, r5, r6, r7], pc, true, beg, st, false⟩ ⟨5, nx, rx, vl, ad⟩ = ⟨M, [r0, r1, r2, r3, r4, r5, r6, r7], pc, true, beg, st + 1, true⟩ := rfl
              rw [hact] at HRun1
              have q0 : wc.cell? ⟨W.heap.size + 1 + 1, 0, none⟩ = some (.bool false) := HB.out.cell 0
              have q1 : wc.cell? ⟨W.heap.size + 1 + 1, 1, none⟩ = some (.int .u64 r0) := HB.out.cell 1
              have q2 : wc.cell? ⟨W.heap.size + 1 + 1, 2, none⟩ = some (.int .u64 r1) := HB.out.cell 2
              have q3 : wc.cell? ⟨W.heap.size + 1 + 1, 3, none⟩ = some (.int .u64 r2) := HB.out.cell 3
              have q4 : wc.cell? ⟨W.heap.size + 1 + 1, 4, none⟩ = some (.int .u64 r3) := HB.out.cell 4
              have q5 : wc.cell? ⟨W.heap.size + 1 + 1, 5, none⟩ = some (.int .u64 r4) := HB.out.cell 5
              have q6 : wc.cell? ⟨W.heap.size + 1 + 1, 6, none⟩ = some (.int .u64 r5) := HB.out.cell 6
              have q7 : wc.cell? ⟨W.heap.size + 1 + 1, 7, none⟩ = some (.int .u64 r6) := HB.out.cell 7
              have q8 : wc.cell? ⟨W.heap.size + 1 + 1, 8, none⟩ = some (.int .u64 r7) := HB.out.cell 8
              have q9 : wc.cell? ⟨W.heap.size + 1 + 1, 9, none⟩ = some (.int .i64 (st + 1)) := HB.out.cell 9
              have fq0 : wc.frozen? ⟨W.heap.size + 1 + 1, 0, none⟩ = false := HB.out.free 0
              have z0 : wc.cell? ⟨W.heap.size + 1, 0, none⟩ = some (.bool false) := HZ.out.cell 0
              have y0 : wc.frozen? ⟨W.heap.size + 1, 0, none⟩ = false := HZ.out.free 0
              have z1 : wc.cell? ⟨W.heap.size + 1, 1, none⟩ = some (.int .u64 0) := HZ.out.cell 1
              have y1 : wc.frozen? ⟨W.heap.size + 1, 1, none⟩ = false := HZ.out.free 1
              have z2 : wc.cell? ⟨W.heap.size + 1, 2, none⟩ = some (.int .u64 0) := HZ.out.cell 2
              have y2 : wc.frozen? ⟨W.heap.size + 1, 2, none⟩ = false := HZ.out.free 2
              have z3 : wc.cell? ⟨W.heap.size + 1, 3, none⟩ = some (.int .u64 0) := HZ.out.cell 3
              have y3 : wc.frozen? ⟨W.heap.size + 1, 3, none⟩ = false := HZ.out.free 3
              have z4 : wc.cell? ⟨W.heap.size + 1, 4, none⟩ = some (.int .u64 0) := HZ.out.cell 4
              have y4 : wc.frozen? ⟨W.heap.size + 1, 4, none⟩ = false := HZ.out.free 4
              have z5 : wc.cell? ⟨W.heap.size + 1, 5, none⟩ = some (.int .u64 0) := HZ.out.cell 5
              have y5 : wc.frozen? ⟨W.heap.size + 1, 5, none⟩ = false := HZ.out.free 5
              have z6 : wc.cell? ⟨W.heap.size + 1, 6, none⟩ = some (.int .u64 0) := HZ.out.cell 6
              have y6 : wc.frozen? ⟨W.heap.size + 1, 6, none⟩ = false := HZ.out.free 6
              have z7 : wc.cell? ⟨W.heap.size + 1, 7, none⟩ = some (.int .u64 0) := HZ.out.cell 7
              have y7 : wc.frozen? ⟨W.heap.size + 1, 7, none⟩ = false := HZ.out.free 7
              have z8 : wc.cell? ⟨W.heap.size + 1, 8, none⟩ = some (.int .u64 0) := HZ.out.cell 8
              have y8 : wc.frozen? ⟨W.heap.size + 1, 8, none⟩ = false := HZ.out.free 8
              have z9 : wc.cell? ⟨W.heap.size + 1, 9, none⟩ = some (.int .i64 0) := HZ.out.cell 9
              have y9 : wc.frozen? ⟨W.heap.size + 1, 9, none⟩ = false := HZ.out.free 9
              go_wp2_with fail
              have hfin := ((((((((((HZ.out.set 0 (.bool false)).set 1 (.int .u64 r0)).set 2 (.int .u64 r1)).set 3 (.int .u64 r2)).set 4 (.int .u64 r3)).set 5 (.int .u64 r4)).set 6 (.int .u64 r5)).set 7 (.int .u64 r6)).set 8 (.int .u64 r7)).set 9 (.int .i64 (st + 1)))
              have hcs := (((((((((((Chg.refl [W.heap.size + 1] wc).setCell (p := ⟨W.heap.size + 1, 0, none⟩) (by simp) (.bool false)).setCell (p := ⟨W.heap.size + 1, 1, none⟩) (by simp) (.int .u64 r0)).setCell (p := ⟨W.heap.size + 1, 2, none⟩) (by simp) (.int .u64 r1)).setCell (p := ⟨W.heap.size + 1, 3, none⟩) (by simp) (.int .u64 r2)).setCell (p := ⟨W.heap.size + 1, 4, none⟩) (by simp) (.int .u64 r3)).setCell (p := ⟨W.heap.size + 1, 5, none⟩) (by simp) (.int .u64 r4)).setCell (p := ⟨W.heap.size + 1, 6, none⟩) (by simp) (.int .u64 r5)).setCell (p := ⟨W.heap.size + 1, 7, none⟩) (by simp) (.int .u64 r6)).setCell (p := ⟨W.heap.size + 1, 8, none⟩) (by simp) (.int .u64 r7)).setCell (p := ⟨W.heap.size + 1, 9, none⟩) (by simp) (.int .i64 (st + 1)))
              have hres : runM l fr til most (most + 1) m0 = ⟨M, [r0, r1, r2, r3, r4, r5, r6, r7], pc, true, beg, st + 1, true⟩ := by rw [← HRun1.out, runM_bad _ _ _ _ _ _ rfl]
              refine bodyPost_ret (v := .agg #[.bool false, .int .u64 r0, .int .u64 r1, .int .u64 r2, .int .u64 r3, .int .u64 r4, .int .u64 r5, .int .u64 r6, .int .u64 r7, .int .i64 (st + 1)]) ?_ rfl ?_
              · exact play_results _ _ (W.heap.size + 1) _ _ _ _ _ _ _ _ _ _ hfin (by simp)
              · refine ⟨r0, r1, r2, r3, r4, r5, r6, r7, by rw [hres], by rw [hres]; rfl, ?_, rfl, ?_⟩
                · rw [hres]; exact hcs.blk HMb.out (by simp; omega)
                · exact HC.out.trans' hcs (fun x hx hl => by simp at hx; omega)
          · cases ins with
            | false =>
              have hact : actM fr til ⟨M, [r0, r1, r2, r3, r4, r5, r6, r7], pc, false, beg, st, false⟩ ⟨6, nx, rx, vl, ad⟩ = ⟨M, [r0, r1, r2, r3, r4, r5, r6, r7], pc, false, beg, st + 1, true⟩ := rfl
              rw [hact] at HRun1
              have q0 : wc.cell? ⟨W.heap.size + 1 + 1, 0, none⟩ = some (.bool false) := HB.out.cell 0
              have q1 : wc.cell? ⟨W.heap.size + 1 + 1, 1, none⟩ = some (.int .u64 r0) := HB.out.cell 1
              have q2 : wc.cell? ⟨W.heap.size + 1 + 1, 2, none⟩ = some (.int .u64 r1) := HB.out.cell 2
              have q3 : wc.cell? ⟨W.heap.size + 1 + 1, 3, none⟩ = some (.int .u64 r2) := HB.out.cell 3
              have q4 : wc.cell? ⟨W.heap.size + 1 + 1, 4, none⟩ = some (.int .u64 r3) := HB.out.cell 4
              have q5 : wc.cell? ⟨W.heap.size + 1 + 1, 5, none⟩ = some (.int .u64 r4) := HB.out.cell 5
              have q6 : wc.cell? ⟨W.heap.size + 1 + 1, 6, none⟩ = some (.int .u64 r5) := HB.out.cell 6
              have q7 : wc.cell? ⟨W.heap.size + 1 + 1, 7, none⟩ = some (.int .u64 r6) := HB.out.cell 7
              have q8 : wc.cell? ⟨W.heap.size + 1 + 1, 8, none⟩ = some (.int .u64 r7) := HB.out.cell 8
              have q9 : wc.cell? ⟨W.heap.size + 1 + 1, 9, none⟩ = some (.int .i64 (st + 1)) := HB.out.cell 9
              have fq0 : wc.frozen? ⟨W.heap.size + 1 + 1, 0, none⟩ = false := HB.out.free 0
              have z0 : wc.cell? ⟨W.heap.size + 1, 0, none⟩ = some (.bool false) := HZ.out.cell 0
              have y0 : wc.frozen? ⟨W.heap.size + 1, 0, none⟩ = false := HZ.out.free 0
              have z1 : wc.cell? ⟨W.heap.size + 1, 1, none⟩ = some (.int .u64 0) := HZ.out.cell 1
              have y1 : wc.frozen? ⟨W.heap.size + 1, 1, none⟩ = false := HZ.out.free 1
              have z2 : wc.cell? ⟨W.heap.size + 1, 2, none⟩ = some (.int .u64 0) := HZ.out.cell 2
              have y2 : wc.frozen? ⟨W.heap.size + 1, 2, none⟩ = false := HZ.out.free 2
              have z3 : wc.cell? ⟨W.heap.size + 1, 3, none⟩ = some (.int .u64 0) := HZ.out.cell 3
              have y3 : wc.frozen? ⟨W.heap.size + 1, 3, none⟩ = false := HZ.out.free 3
              have z4 : wc.cell? ⟨W.heap.size + 1, 4, none⟩ = some (.int .u64 0) := HZ.out.cell 4
              have y4 : wc.frozen? ⟨W.heap.size + 1, 4, none⟩ = false := HZ.out.free 4
              have z5 : wc.cell? ⟨W.heap.size + 1, 5, none⟩ = some (.int .u64 0) := HZ.out.cell 5
              have y5 : wc.frozen? ⟨W.heap.size + 1, 5, none⟩ = false := HZ.out.free 5
              have z6 : wc.cell? ⟨W.heap.size + 1, 6, none⟩ = some (.int .u64 0) := HZ.out.cell 6
              have y6 : wc.frozen? ⟨W.heap.size + 1, 6, none⟩ = false := HZ.out.free 6
              have z7 : wc.cell? ⟨W.heap.size + 1, 7, none⟩ = some (.int .u64 0) := HZ.out.cell 7
              have y7 : wc.frozen? ⟨W.heap.size + 1, 7, none⟩ = false := HZ.out.free 7
              have z8 : wc.cell? ⟨W.heap.size + 1, 8, none⟩ = some (.int .u64 0) := HZ.out.cell 8
              have y8 : wc.frozen? ⟨W.heap.size + 1, 8, none⟩ = false := HZ.out.free 8
              have z9 : wc.cell? ⟨W.heap.size + 1, 9, none⟩ = some (.int .i64 0) := HZ.out.cell 9
              have y9 : wc.frozen? ⟨W.heap.size + 1, 9, none⟩ = false := HZ.out.free 9
              go_wp2_with fail
              have hfin := ((((((((((HZ.out.set 0 (.bool false)).set 1 (.int .u64 r0)).set 2 (.int .u64 r1)).set 3 (.int .u64 r2)).set 4 (.int .u64 r3)).set 5 (.int .u64 r4)).set 6 (.int .u64 r5)).set 7 (.int .u64 r6)).set 8 (.int .u64 r7)).set 9 (.int .i64 (st + 1)))
              have hcs := (((((((((((Chg.refl [W.heap.size + 1] wc).setCell (p := ⟨W.heap.size + 1, 0, none⟩) (by simp) (.bool false)).setCell (p := ⟨W.heap.size + 1, 1, none⟩) (by simp) (.int .u64 r0)).setCell (p := ⟨W.heap.size + 1, 2, none⟩) (by simp) (.int .u64 r1)).setCell (p := ⟨W.heap.size + 1, 3, none⟩) (by simp) (.int .u64 r2)).setCell (p := ⟨W.heap.size + 1, 4, none⟩) (by simp) (.int .u64 r3)).setCell (p := ⟨W.heap.size + 1, 5, none⟩) (by simp) (.int .u64 r4)).setCell (p := ⟨W.heap.size + 1, 6, none⟩) (by simp) (.int .u64 r5)).setCell (p := ⟨W.heap.size + 1, 7, none⟩) (by simp) (.int .u64 r6)).setCell (p := ⟨W.heap.size + 1, 8, none⟩) (by simp) (.int .u64 r7)).setCell (p := ⟨W.heap.size + 1, 9, none⟩) (by simp) (.int .i64 (st + 1)))
              have hres : runM l fr til most (most + 1) m0 = ⟨M, [r0, r1, r2, r3, r4, r5, r6, r7], pc, false, beg, st + 1, true⟩ := by rw [← HRun1.out, runM_bad _ _ _ _ _ _ rfl]
              refine bodyPost_ret (v := .agg #[.bool false, .int .u64 r0, .int .u64 r1, .int .u64 r2, .int .u64 r3, .int .u64 r4, .int .u64 r5, .int .u64 r6, .int .u64 r7, .int .i64 (st + 1)]) ?_ rfl ?_
              · exact play_results _ _ (W.heap.size + 1) _ _ _ _ _ _ _ _ _ _ hfin (by simp)
              · refine ⟨r0, r1, r2, r3, r4, r5, r6, r7, by rw [hres], by rw [hres]; rfl, ?_, rfl, ?_⟩
                · rw [hres]; exact hcs.blk HMb.out (by simp; omega)
                · exact HC.out.trans' hcs (fun x hx hl => by simp at hx; omega)
            | true =>
              have hact : actM fr til ⟨M, [r0, r1, r2, r3, r4, r5, r6, r7], pc, true, beg, st, false⟩ ⟨6, nx, rx, vl, ad⟩ = ⟨M, [r0, r1, r2, r3, r4, r5, r6, r7], nx, false, beg, st + 1, false⟩ := rfl
              rw [hact] at HRun1
              go_wp2_with fail
              go_roundg (gk - 1)
              case measure => omega
              case rel =>
                refine ⟨⟨M, [r0, r1, r2, r3, r4, r5, r6, r7], nx, false, beg, st + 1, false⟩, by simp; omega, rfl, rfl, rfl, ⟨rfl, HK.1.out, HK.2.1.out, HK.2.2.out, hnx, rfl, by simp; omega, by simp; omega⟩, ?_, ?_, ?_, ?_, HRun1.out⟩
                · exact HB.out
                · exact HZ.out
                · exact HMb.out
                · exact HC.out
      · have hmd : decide (most ≤ st) = true := by simp; omega
        have hpi : (pc : Int) < l.length := by omega
        have hge : gk = 0 + 1 := by omega
        have hrm := runM_most l fr til most 0 ⟨M, [r0, r1, r2, r3, r4, r5, r6, r7], pc, ins, beg, st, false⟩ hpc rfl (by simp; omega)
        rw [← hge] at hrm
        have HRm := Lib.hid hrm
        clear hrm hge
        have q0 : wr.cell? ⟨W.heap.size + 1 + 1, 0, none⟩ = some (.bool false) := HB.out.cell 0
        have q1 : wr.cell? ⟨W.heap.size + 1 + 1, 1, none⟩ = some (.int .u64 r0) := HB.out.cell 1
        have q2 : wr.cell? ⟨W.heap.size + 1 + 1, 2, none⟩ = some (.int .u64 r1) := HB.out.cell 2
        have q3 : wr.cell? ⟨W.heap.size + 1 + 1, 3, none⟩ = some (.int .u64 r2) := HB.out.cell 3
        have q4 : wr.cell? ⟨W.heap.size + 1 + 1, 4, none⟩ = some (.int .u64 r3) := HB.out.cell 4
        have q5 : wr.cell? ⟨W.heap.size + 1 + 1, 5, none⟩ = some (.int .u64 r4) := HB.out.cell 5
        have q6 : wr.cell? ⟨W.heap.size + 1 + 1, 6, none⟩ = some (.int .u64 r5) := HB.out.cell 6
        have q7 : wr.cell? ⟨W.heap.size + 1 + 1, 7, none⟩ = some (.int .u64 r6) := HB.out.cell 7
        have q8 : wr.cell? ⟨W.heap.size + 1 + 1, 8, none⟩ = some (.int .u64 r7) := HB.out.cell 8
        have q9 : wr.cell? ⟨W.heap.size + 1 + 1, 9, none⟩ = some (.int .i64 st) := HB.out.cell 9
        have fq0 : wr.frozen? ⟨W.heap.size + 1 + 1, 0, none⟩ = false := HB.out.free 0
        have z0 : wr.cell? ⟨W.heap.size + 1, 0, none⟩ = some (.bool false) := HZ.out.cell 0
        have y0 : wr.frozen? ⟨W.heap.size + 1, 0, none⟩ = false := HZ.out.free 0
        have z1 : wr.cell? ⟨W.heap.size + 1, 1, none⟩ = some (.int .u64 0) := HZ.out.cell 1
        have y1 : wr.frozen? ⟨W.heap.size + 1, 1, none⟩ = false := HZ.out.free 1
        have z2 : wr.cell? ⟨W.heap.size + 1, 2, none⟩ = some (.int .u64 0) := HZ.out.cell 2
        have y2 : wr.frozen? ⟨W.heap.size + 1, 2, none⟩ = false := HZ.out.free 2
        have z3 : wr.cell? ⟨W.heap.size + 1, 3, none⟩ = some (.int .u64 0) := HZ.out.cell 3
        have y3 : wr.frozen? ⟨W.heap.size + 1, 3, none⟩ = false := HZ.out.free 3
        have z4 : wr.cell? ⟨W.heap.size + 1, 4, none⟩ = some (.int .u64 0) := HZ.out.cell 4
        have y4 : wr.frozen? ⟨W.heap.size + 1, 4, none⟩ = false := HZ.out.free 4
        have z5 : wr.cell? ⟨W.heap.size + 1, 5, none⟩ = some (.int .u64 0) := HZ.out.cell 5
        have y5 : wr.frozen? ⟨W.heap.size + 1, 5, none⟩ = false := HZ.out.free 5
        have z6 : wr.cell? ⟨W.heap.size + 1, 6, none⟩ = some (.int .u64 0) := HZ.out.cell 6
        have y6 : wr.frozen? ⟨W.heap.size + 1, 6, none⟩ = false := HZ.out.free 6
        have z7 : wr.cell? ⟨W.heap.size + 1, 7, none⟩ = some (.int .u64 0) := HZ.out.cell 7
        have y7 : wr.frozen? ⟨W.heap.size + 1, 7, none⟩ = false := HZ.out.free 7
        have z8 : wr.cell? ⟨W.heap.size + 1, 8, none⟩ = some (.int .u64 0) := HZ.out.cell 8
        have y8 : wr.frozen? ⟨W.heap.size + 1, 8, none⟩ = false := HZ.out.free 8
        have z9 : wr.cell? ⟨W.heap.size + 1, 9, none⟩ = some (.int .i64 0) := HZ.out.cell 9
        have y9 : wr.frozen? ⟨W.heap.size + 1, 9, none⟩ = false := HZ.out.free 9
        go_wp2_with fail
        have hfin := ((((((((((HZ.out.set 0 (.bool false)).set 1 (.int .u64 r0)).set 2 (.int .u64 r1)).set 3 (.int .u64 r2)).set 4 (.int .u64 r3)).set 5 (.int .u64 r4)).set 6 (.int .u64 r5)).set 7 (.int .u64 r6)).set 8 (.int .u64 r7)).set 9 (.int .i64 (st)))
        have hcs := (((((((((((Chg.refl [W.heap.size + 1] wr).setCell (p := ⟨W.heap.size + 1, 0, none⟩) (by simp) (.bool false)).setCell (p := ⟨W.heap.size + 1, 1, none⟩) (by simp) (.int .u64 r0)).setCell (p := ⟨W.heap.size + 1, 2, none⟩) (by simp) (.int .u64 r1)).setCell (p := ⟨W.heap.size + 1, 3, none⟩) (by simp) (.int .u64 r2)).setCell (p := ⟨W.heap.size + 1, 4, none⟩) (by simp) (.int .u64 r3)).setCell (p := ⟨W.heap.size + 1, 5, none⟩) (by simp) (.int .u64 r4)).setCell (p := ⟨W.heap.size + 1, 6, none⟩) (by simp) (.int .u64 r5)).setCell (p := ⟨W.heap.size + 1, 7, none⟩) (by simp) (.int .u64 r6)).setCell (p := ⟨W.heap.size + 1, 8, none⟩) (by simp) (.int .u64 r7)).setCell (p := ⟨W.heap.size + 1, 9, none⟩) (by simp) (.int .i64 (st)))
        have hres : runM l fr til most (most + 1) m0 = ⟨M, [r0, r1, r2, r3, r4, r5, r6, r7], pc, ins, beg, st, true⟩ := by rw [← HRun.out, HRm.out]
        refine bodyPost_ret (v := .agg #[.bool false, .int .u64 r0, .int .u64 r1, .int .u64 r2, .int .u64 r3, .int .u64 r4, .int .u64 r5, .int .u64 r6, .int .u64 r7, .int .i64 (st)]) ?_ rfl ?_
        · exact play_results _ _ (W.heap.size + 1) _ _ _ _ _ _ _ _ _ _ hfin (by simp)
        · refine ⟨r0, r1, r2, r3, r4, r5, r6, r7, by rw [hres], by rw [hres]; rfl, ?_, rfl, ?_⟩
          · rw [hres]; exact hcs.blk HMb.out (by simp; omega)
          · exact HC.out.trans' hcs (fun x hx hl => by simp at hx; omega)
    · obtain rfl : pc = l.length := by omega
      have HRe := Lib.hid (runM_end l fr til most gk ⟨M, [r0, r1, r2, r3, r4, r5, r6, r7], l.length, ins, beg, st, false⟩ (by simp))
      have heq : (l.length == l.length) = true := by simp
      have hbi : (beg : Int) ≤ 1000000 := by omega
      have q0 : wr.cell? ⟨W.heap.size + 1 + 1, 0, none⟩ = some (.bool false) := HB.out.cell 0
      have q1 : wr.cell? ⟨W.heap.size + 1 + 1, 1, none⟩ = some (.int .u64 r0) := HB.out.cell 1
      have q2 : wr.cell? ⟨W.heap.size + 1 + 1, 2, none⟩ = some (.int .u64 r1) := HB.out.cell 2
      have q3 : wr.cell? ⟨W.heap.size + 1 + 1, 3, none⟩ = some (.int .u64 r2) := HB.out.cell 3
      have q4 : wr.cell? ⟨W.heap.size + 1 + 1, 4, none⟩ = some (.int .u64 r3) := HB.out.cell 4
      have q5 : wr.cell? ⟨W.heap.size + 1 + 1, 5, none⟩ = some (.int .u64 r4) := HB.out.cell 5
      have q6 : wr.cell? ⟨W.heap.size + 1 + 1, 6, none⟩ = some (.int .u64 r5) := HB.out.cell 6
      have q7 : wr.cell? ⟨W.heap.size + 1 + 1, 7, none⟩ = some (.int .u64 r6) := HB.out.cell 7
      have q8 : wr.cell? ⟨W.heap.size + 1 + 1, 8, none⟩ = some (.int .u64 r7) := HB.out.cell 8
      have q9 : wr.cell? ⟨W.heap.size + 1 + 1, 9, none⟩ = some (.int .i64 st) := HB.out.cell 9
      have fq0 : wr.frozen? ⟨W.heap.size + 1 + 1, 0, none⟩ = false := HB.out.free 0
      have z0 : wr.cell? ⟨W.heap.size + 1, 0, none⟩ = some (.bool false) := HZ.out.cell 0
      have y0 : wr.frozen? ⟨W.heap.size + 1, 0, none⟩ = false := HZ.out.free 0
      have z1 : wr.cell? ⟨W.heap.size + 1, 1, none⟩ = some (.int .u64 0) := HZ.out.cell 1
      have y1 : wr.frozen? ⟨W.heap.size + 1, 1, none⟩ = false := HZ.out.free 1
      have z2 : wr.cell? ⟨W.heap.size + 1, 2, none⟩ = some (.int .u64 0) := HZ.out.cell 2
      have y2 : wr.frozen? ⟨W.heap.size + 1, 2, none⟩ = false := HZ.out.free 2
      have z3 : wr.cell? ⟨W.heap.size + 1, 3, none⟩ = some (.int .u64 0) := HZ.out.cell 3
      have y3 : wr.frozen? ⟨W.heap.size + 1, 3, none⟩ = false := HZ.out.free 3
      have z4 : wr.cell? ⟨W.heap.size + 1, 4, none⟩ = some (.int .u64 0) := HZ.out.cell 4
      have y4 : wr.frozen? ⟨W.heap.size + 1, 4, none⟩ = false := HZ.out.free 4
      have z5 : wr.cell? ⟨W.heap.size + 1, 5, none⟩ = some (.int .u64 0) := HZ.out.cell 5
      have y5 : wr.frozen? ⟨W.heap.size + 1, 5, none⟩ = false := HZ.out.free 5
      have z6 : wr.cell? ⟨W.heap.size + 1, 6, none⟩ = some (.int .u64 0) := HZ.out.cell 6
      have y6 : wr.frozen? ⟨W.heap.size + 1, 6, none⟩ = false := HZ.out.free 6
      have z7 : wr.cell? ⟨W.heap.size + 1, 7, none⟩ = some (.int .u64 0) := HZ.out.cell 7
      have y7 : wr.frozen? ⟨W.heap.size + 1, 7, none⟩ = false := HZ.out.free 7
      have z8 : wr.cell? ⟨W.heap.size + 1, 8, none⟩ = some (.int .u64 0) := HZ.out.cell 8
      have y8 : wr.frozen? ⟨W.heap.size + 1, 8, none⟩ = false := HZ.out.free 8
      have z9 : wr.cell? ⟨W.heap.size + 1, 9, none⟩ = some (.int .i64 0) := HZ.out.cell 9
      have y9 : wr.frozen? ⟨W.heap.size + 1, 9, none⟩ = false := HZ.out.free 9
      have nz : W.heap.size + 1 ≠ W.heap.size + 1 + 1 := by omega
      have nm : bm ≠ W.heap.size + 1 + 1 := by omega
      cases ins with
      | true =>
        have HS := Lib.hid (show Chg [W.heap.size + 1 + 1] wr (wr.setCell ⟨W.heap.size + 1 + 1, 0, none⟩ (.bool false)) from (Chg.refl _ _).setCell (p := ⟨_, 0, none⟩) (by simp) _)
        have HB2 := Lib.hid (HB.out.set 0 (.bool false))
        have p0 : (wr.setCell ⟨W.heap.size + 1 + 1, 0, none⟩ (.bool false)).cell? ⟨W.heap.size + 1 + 1, 0, none⟩ = some (.bool false) := HB2.out.cell 0
        have p1 : (wr.setCell ⟨W.heap.size + 1 + 1, 0, none⟩ (.bool false)).cell? ⟨W.heap.size + 1 + 1, 1, none⟩ = some (.int .u64 r0) := HB2.out.cell 1
        have p2 : (wr.setCell ⟨W.heap.size + 1 + 1, 0, none⟩ (.bool false)).cell? ⟨W.heap.size + 1 + 1, 2, none⟩ = some (.int .u64 r1) := HB2.out.cell 2
        have p3 : (wr.setCell ⟨W.heap.size + 1 + 1, 0, none⟩ (.bool false)).cell? ⟨W.heap.size + 1 + 1, 3, none⟩ = some (.int .u64 r2) := HB2.out.cell 3
        have p4 : (wr.setCell ⟨W.heap.size + 1 + 1, 0, none⟩ (.bool false)).cell? ⟨W.heap.size + 1 + 1, 4, none⟩ = some (.int .u64 r3) := HB2.out.cell 4
        have p5 : (wr.setCell ⟨W.heap.size + 1 + 1, 0, none⟩ (.bool false)).cell? ⟨W.heap.size + 1 + 1, 5, none⟩ = some (.int .u64 r4) := HB2.out.cell 5
        have p6 : (wr.setCell ⟨W.heap.size + 1 + 1, 0, none⟩ (.bool false)).cell? ⟨W.heap.size + 1 + 1, 6, none⟩ = some (.int .u64 r5) := HB2.out.cell 6
        have p7 : (wr.setCell ⟨W.heap.size + 1 + 1, 0, none⟩ (.bool false)).cell? ⟨W.heap.size + 1 + 1, 7, none⟩ = some (.int .u64 r6) := HB2.out.cell 7
        have p8 : (wr.setCell ⟨W.heap.size + 1 + 1, 0, none⟩ (.bool false)).cell? ⟨W.heap.size + 1 + 1, 8, none⟩ = some (.int .u64 r7) := HB2.out.cell 8
        have p9 : (wr.setCell ⟨W.heap.size + 1 + 1, 0, none⟩ (.bool false)).cell? ⟨W.heap.size + 1 + 1, 9, none⟩ = some (.int .i64 st) := HB2.out.cell 9
        have x0 : (wr.setCell ⟨W.heap.size + 1 + 1, 0, none⟩ (.bool false)).cell? ⟨W.heap.size + 1, 0, none⟩ = some (.bool false) := (HS.out.blk HZ.out (by simp)).cell 0
        have w0 : (wr.setCell ⟨W.heap.size + 1 + 1, 0, none⟩ (.bool false)).frozen? ⟨W.heap.size + 1, 0, none⟩ = false := (HS.out.blk HZ.out (by simp)).free 0
        have x1 : (wr.setCell ⟨W.heap.size + 1 + 1, 0, none⟩ (.bool false)).cell? ⟨W.heap.size + 1, 1, none⟩ = some (.int .u64 0) := (HS.out.blk HZ.out (by simp)).cell 1
        have w1 : (wr.setCell ⟨W.heap.size + 1 + 1, 0, none⟩ (.bool false)).frozen? ⟨W.heap.size + 1, 1, none⟩ = false := (HS.out.blk HZ.out (by simp)).free 1
        have x2 : (wr.setCell ⟨W.heap.size + 1 + 1, 0, none⟩ (.bool false)).cell? ⟨W.heap.size + 1, 2, none⟩ = some (.int .u64 0) := (HS.out.blk HZ.out (by simp)).cell 2
        have w2 : (wr.setCell ⟨W.heap.size + 1 + 1, 0, none⟩ (.bool false)).frozen? ⟨W.heap.size + 1, 2, none⟩ = false := (HS.out.blk HZ.out (by simp)).free 2
        have x3 : (wr.setCell ⟨W.heap.size + 1 + 1, 0, none⟩ (.bool false)).cell? ⟨W.heap.size + 1, 3, none⟩ = some (.int .u64 0) := (HS.out.blk HZ.out (by simp)).cell 3
        have w3 : (wr.setCell ⟨W.heap.size + 1 + 1, 0, none⟩ (.bool false)).frozen? ⟨W.heap.size + 1, 3, none⟩ = false := (HS.out.blk HZ.out (by simp)).free 3
        have x4 : (wr.setCell ⟨W.heap.size + 1 + 1, 0, none⟩ (.bool false)).cell? ⟨W.heap.size + 1, 4, none⟩ = some (.int .u64 0) := (HS.out.blk HZ.out (by simp)).cell 4
        have w4 : (wr.setCell ⟨W.heap.size + 1 + 1, 0, none⟩ (.bool false)).frozen? ⟨W.heap.size + 1, 4, none⟩ = false := (HS.out.blk HZ.out (by simp)).free 4
        have x5 : (wr.setCell ⟨W.heap.size + 1 + 1, 0, none⟩ (.bool false)).cell? ⟨W.heap.size + 1, 5, none⟩ = some (.int .u64 0) := (HS.out.blk HZ.out (by simp)).cell 5
        have w5 : (wr.setCell ⟨W.heap.size + 1 + 1, 0, none⟩ (.bool false)).frozen? ⟨W.heap.size + 1, 5, none⟩ = false := (HS.out.blk HZ.out (by simp)).free 5
        have x6 : (wr.setCell ⟨W.heap.size + 1 + 1, 0, none⟩ (.bool false)).cell? ⟨W.heap.size + 1, 6, none⟩ = some (.int .u64 0) := (HS.out.blk HZ.out (by simp)).cell 6
        have w6 : (wr.setCell ⟨W.heap.size + 1 + 1, 0, none⟩ (.bool false)).frozen? ⟨W.heap.size + 1, 6, none⟩ = false := (HS.out.blk HZ.out (by simp)).free 6
        have x7 : (wr.setCell ⟨W.heap.size + 1 + 1, 0, none⟩ (.bool false)).cell? ⟨W.heap.size + 1, 7, none⟩ = some (.int .u64 0) := (HS.out.blk HZ.out (by simp)).cell 7
        have w7 : (wr.setCell ⟨W.heap.size + 1 + 1, 0, none⟩ (.bool false)).frozen? ⟨W.heap.size + 1, 7, none⟩ = false := (HS.out.blk HZ.out (by simp)).free 7
        have x8 : (wr.setCell ⟨W.heap.size + 1 + 1, 0, none⟩ (.bool false)).cell? ⟨W.heap.size + 1, 8, none⟩ = some (.int .u64 0) := (HS.out.blk HZ.out (by simp)).cell 8
        have w8 : (wr.setCell ⟨W.heap.size + 1 + 1, 0, none⟩ (.bool false)).frozen? ⟨W.heap.size + 1, 8, none⟩ = false := (HS.out.blk HZ.out (by simp)).free 8
        have x9 : (wr.setCell ⟨W.heap.size + 1 + 1, 0, none⟩ (.bool false)).cell? ⟨W.heap.size + 1, 9, none⟩ = some (.int .i64 0) := (HS.out.blk HZ.out (by simp)).cell 9
        have w9 : (wr.setCell ⟨W.heap.size + 1 + 1, 0, none⟩ (.bool false)).frozen? ⟨W.heap.size + 1, 9, none⟩ = false := (HS.out.blk HZ.out (by simp)).free 9
        go_wp2_with fail
        have hfin := (((((((((((HS.out.blk HZ.out (by simp)).set 0 (.bool false)).set 1 (.int .u64 r0)).set 2 (.int .u64 r1)).set 3 (.int .u64 r2)).set 4 (.int .u64 r3)).set 5 (.int .u64 r4)).set 6 (.int .u64 r5)).set 7 (.int .u64 r6)).set 8 (.int .u64 r7)).set 9 (.int .i64 (st)))
        have hcs := (((((((((((Chg.refl [W.heap.size + 1] (wr.setCell ⟨W.heap.size + 1 + 1, 0, none⟩ (.bool false))).setCell (p := ⟨W.heap.size + 1, 0, none⟩) (by simp) (.bool false)).setCell (p := ⟨W.heap.size + 1, 1, none⟩) (by simp) (.int .u64 r0)).setCell (p := ⟨W.heap.size + 1, 2, none⟩) (by simp) (.int .u64 r1)).setCell (p := ⟨W.heap.size + 1, 3, none⟩) (by simp) (.int .u64 r2)).setCell (p := ⟨W.heap.size + 1, 4, none⟩) (by simp) (.int .u64 r3)).setCell (p := ⟨W.heap.size + 1, 5, none⟩) (by simp) (.int .u64 r4)).setCell (p := ⟨W.heap.size + 1, 6, none⟩) (by simp) (.int .u64 r5)).setCell (p := ⟨W.heap.size + 1, 7, none⟩) (by simp) (.int .u64 r6)).setCell (p := ⟨W.heap.size + 1, 8, none⟩) (by simp) (.int .u64 r7)).setCell (p := ⟨W.heap.size + 1, 9, none⟩) (by simp) (.int .i64 (st)))
        have hres : runM l fr til most (most + 1) m0 = ⟨M, [r0, r1, r2, r3, r4, r5, r6, r7], l.length, true, beg, st, false⟩ := by rw [← HRun.out, HRe.out]
        refine bodyPost_ret (v := .agg #[.bool false, .int .u64 r0, .int .u64 r1, .int .u64 r2, .int .u64 r3, .int .u64 r4, .int .u64 r5, .int .u64 r6, .int .u64 r7, .int .i64 (st)]) ?_ rfl ?_
        · exact play_results _ _ (W.heap.size + 1) _ _ _ _ _ _ _ _ _ _ hfin (by simp)
        · refine ⟨r0, r1, r2, r3, r4, r5, r6, r7, by rw [hres], by rw [hres]; simp [fineM], ?_, rfl, ?_⟩
          · rw [hres]; exact hcs.blk (HS.out.blk HMb.out (by simpa using nm)) (by simp; omega)
          · exact (HC.out.trans' HS.out (fun x hx hl => by simp at hx; omega)).trans' hcs (fun x hx hl => by simp at hx; omega)
      | false =>
        by_cases hbb : beg = blocks
        · have HBB := Lib.hid hbb
          have hbq : (beg == blocks) = true := by simpa using hbb
          have hbq2 : ((beg : Int) == (blocks : Int)) = true := by simp [hbb]
          clear hbb
          have HS := Lib.hid (show Chg [W.heap.size + 1 + 1] wr (wr.setCell ⟨W.heap.size + 1 + 1, 0, none⟩ (.bool true)) from (Chg.refl _ _).setCell (p := ⟨_, 0, none⟩) (by simp) _)
          have HB2 := Lib.hid (HB.out.set 0 (.bool true))
          have p0 : (wr.setCell ⟨W.heap.size + 1 + 1, 0, none⟩ (.bool true)).cell? ⟨W.heap.size + 1 + 1, 0, none⟩ = some (.bool true) := HB2.out.cell 0
          have p1 : (wr.setCell ⟨W.heap.size + 1 + 1, 0, none⟩ (.bool true)).cell? ⟨W.heap.size + 1 + 1, 1, none⟩ = some (.int .u64 r0) := HB2.out.cell 1
          have p2 : (wr.setCell ⟨W.heap.size + 1 + 1, 0, none⟩ (.bool true)).cell? ⟨W.heap.size + 1 + 1, 2, none⟩ = some (.int .u64 r1) := HB2.out.cell 2
          have p3 : (wr.setCell ⟨W.heap.size + 1 + 1, 0, none⟩ (.bool true)).cell? ⟨W.heap.size + 1 + 1, 3, none⟩ = some (.int .u64 r2) := HB2.out.cell 3
          have p4 : (wr.setCell ⟨W.heap.size + 1 + 1, 0, none⟩ (.bool true)).cell? ⟨W.heap.size + 1 + 1, 4, none⟩ = some (.int .u64 r3) := HB2.out.cell 4
          have p5 : (wr.setCell ⟨W.heap.size + 1 + 1, 0, none⟩ (.bool true)).cell? ⟨W.heap.size + 1 + 1, 5, none⟩ = some (.int .u64 r4) := HB2.out.cell 5
          have p6 : (wr.setCell ⟨W.heap.size + 1 + 1, 0, none⟩ (.bool true)).cell? ⟨W.heap.size + 1 + 1, 6, none⟩ = some (.int .u64 r5) := HB2.out.cell 6
          have p7 : (wr.setCell ⟨W.heap.size + 1 + 1, 0, none⟩ (.bool true)).cell? ⟨W.heap.size + 1 + 1, 7, none⟩ = some (.int .u64 r6) := HB2.out.cell 7
          have p8 : (wr.setCell ⟨W.heap.size + 1 + 1, 0, none⟩ (.bool true)).cell? ⟨W.heap.size + 1 + 1, 8, none⟩ = some (.int .u64 r7) := HB2.out.cell 8
          have p9 : (wr.setCell ⟨W.heap.size + 1 + 1, 0, none⟩ (.bool true)).cell? ⟨W.heap.size + 1 + 1, 9, none⟩ = some (.int .i64 st) := HB2.out.cell 9
          have x0 : (wr.setCell ⟨W.heap.size + 1 + 1, 0, none⟩ (.bool true)).cell? ⟨W.heap.size + 1, 0, none⟩ = some (.bool false) := (HS.out.blk HZ.out (by simp)).cell 0
          have w0 : (wr.setCell ⟨W.heap.size + 1 + 1, 0, none⟩ (.bool true)).frozen? ⟨W.heap.size + 1, 0, none⟩ = false := (HS.out.blk HZ.out (by simp)).free 0
          have x1 : (wr.setCell ⟨W.heap.size + 1 + 1, 0, none⟩ (.bool true)).cell? ⟨W.heap.size + 1, 1, none⟩ = some (.int .u64 0) := (HS.out.blk HZ.out (by simp)).cell 1
          have w1 : (wr.setCell ⟨W.heap.size + 1 + 1, 0, none⟩ (.bool true)).frozen? ⟨W.heap.size + 1, 1, none⟩ = false := (HS.out.blk HZ.out (by simp)).free 1
          have x2 : (wr.setCell ⟨W.heap.size + 1 + 1, 0, none⟩ (.bool true)).cell? ⟨W.heap.size + 1, 2, none⟩ = some (.int .u64 0) := (HS.out.blk HZ.out (by simp)).cell 2
          have w2 : (wr.setCell ⟨W.heap.size + 1 + 1, 0, none⟩ (.bool true)).frozen? ⟨W.heap.size + 1, 2, none⟩ = false := (HS.out.blk HZ.out (by simp)).free 2
          have x3 : (wr.setCell ⟨W.heap.size + 1 + 1, 0, none⟩ (.bool true)).cell? ⟨W.heap.size + 1, 3, none⟩ = some (.int .u64 0) := (HS.out.blk HZ.out (by simp)).cell 3
          have w3 : (wr.setCell ⟨W.heap.size + 1 + 1, 0, none⟩ (.bool true)).frozen? ⟨W.heap.size + 1, 3, none⟩ = false := (HS.out.blk HZ.out (by simp)).free 3
          have x4 : (wr.setCell ⟨W.heap.size + 1 + 1, 0, none⟩ (.bool true)).cell? ⟨W.heap.size + 1, 4, none⟩ = some (.int .u64 0) := (HS.out.blk HZ.out (by simp)).cell 4
          have w4 : (wr.setCell ⟨W.heap.size + 1 + 1, 0, none⟩ (.bool true)).frozen? ⟨W.heap.size + 1, 4, none⟩ = false := (HS.out.blk HZ.out (by simp)).free 4
          have x5 : (wr.setCell ⟨W.heap.size + 1 + 1, 0, none⟩ (.bool true)).cell? ⟨W.heap.size + 1, 5, none⟩ = some (.int .u64 0) := (HS.out.blk HZ.out (by simp)).cell 5
          have w5 : (wr.setCell ⟨W.heap.size + 1 + 1, 0, none⟩ (.bool true)).frozen? ⟨W.heap.size + 1, 5, none⟩ = false := (HS.out.blk HZ.out (by simp)).free 5
          have x6 : (wr.setCell ⟨W.heap.size + 1 + 1, 0, none⟩ (.bool true)).cell? ⟨W.heap.size + 1, 6, none⟩ = some (.int .u64 0) := (HS.out.blk HZ.out (by simp)).cell 6
          have w6 : (wr.setCell ⟨W.heap.size + 1 + 1, 0, none⟩ (.bool true)).frozen? ⟨W.heap.size + 1, 6, none⟩ = false := (HS.out.blk HZ.out (by simp)).free 6
          have x7 : (wr.setCell ⟨W.heap.size + 1 + 1, 0, none⟩ (.bool true)).cell? ⟨W.heap.size + 1, 7, none⟩ = some (.int .u64 0) := (HS.out.blk HZ.out (by simp)).cell 7
          have w7 : (wr.setCell ⟨W.heap.size + 1 + 1, 0, none⟩ (.bool true)).frozen? ⟨W.heap.size + 1, 7, none⟩ = false := (HS.out.blk HZ.out (by simp)).free 7
          have x8 : (wr.setCell ⟨W.heap.size + 1 + 1, 0, none⟩ (.bool true)).cell? ⟨W.heap.size + 1, 8, none⟩ = some (.int .u64 0) := (HS.out.blk HZ.out (by simp)).cell 8
          have w8 : (wr.setCell ⟨W.heap.size + 1 + 1, 0, none⟩ (.bool true)).frozen? ⟨W.heap.size + 1, 8, none⟩ = false := (HS.out.blk HZ.out (by simp)).free 8
          have x9 : (wr.setCell ⟨W.heap.size + 1 + 1, 0, none⟩ (.bool true)).cell? ⟨W.heap.size + 1, 9, none⟩ = some (.int .i64 0) := (HS.out.blk HZ.out (by simp)).cell 9
          have w9 : (wr.setCell ⟨W.heap.size + 1 + 1, 0, none⟩ (.bool true)).frozen? ⟨W.heap.size + 1, 9, none⟩ = false := (HS.out.blk HZ.out (by simp)).free 9
          go_wp2_with fail
          have hfin := (((((((((((HS.out.blk HZ.out (by simp)).set 0 (.bool true)).set 1 (.int .u64 r0)).set 2 (.int .u64 r1)).set 3 (.int .u64 r2)).set 4 (.int .u64 r3)).set 5 (.int .u64 r4)).set 6 (.int .u64 r5)).set 7 (.int .u64 r6)).set 8 (.int .u64 r7)).set 9 (.int .i64 (st)))
          have hcs := (((((((((((Chg.refl [W.heap.size + 1] (wr.setCell ⟨W.heap.size + 1 + 1, 0, none⟩ (.bool true))).setCell (p := ⟨W.heap.size + 1, 0, none⟩) (by simp) (.bool true)).setCell (p := ⟨W.heap.size + 1, 1, none⟩) (by simp) (.int .u64 r0)).setCell (p := ⟨W.heap.size + 1, 2, none⟩) (by simp) (.int .u64 r1)).setCell (p := ⟨W.heap.size + 1, 3, none⟩) (by simp) (.int .u64 r2)).setCell (p := ⟨W.heap.size + 1, 4, none⟩) (by simp) (.int .u64 r3)).setCell (p := ⟨W.heap.size + 1, 5, none⟩) (by simp) (.int .u64 r4)).setCell (p := ⟨W.heap.size + 1, 6, none⟩) (by simp) (.int .u64 r5)).setCell (p := ⟨W.heap.size + 1, 7, none⟩) (by simp) (.int .u64 r6)).setCell (p := ⟨W.heap.size + 1, 8, none⟩) (by simp) (.int .u64 r7)).setCell (p := ⟨W.heap.size + 1, 9, none⟩) (by simp) (.int .i64 (st)))
          have hres : runM l fr til most (most + 1) m0 = ⟨M, [r0, r1, r2, r3, r4, r5, r6, r7], l.length, false, beg, st, false⟩ := by rw [← HRun.out, HRe.out]
          refine bodyPost_ret (v := .agg #[.bool true, .int .u64 r0, .int .u64 r1, .int .u64 r2, .int .u64 r3, .int .u64 r4, .int .u64 r5, .int .u64 r6, .int .u64 r7, .int .i64 (st)]) ?_ rfl ?_
          · exact play_results _ _ (W.heap.size + 1) _ _ _ _ _ _ _ _ _ _ hfin (by simp)
          · refine ⟨r0, r1, r2, r3, r4, r5, r6, r7, by rw [hres], by rw [hres]; simp [fineM, HBB.out], ?_, rfl, ?_⟩
            · rw [hres]; exact hcs.blk (HS.out.blk HMb.out (by simpa using nm)) (by simp; omega)
            · exact (HC.out.trans' HS.out (fun x hx hl => by simp at hx; omega)).trans' hcs (fun x hx hl => by simp at hx; omega)
        · have HBB := Lib.hid hbb
          have hbq : (beg == blocks) = false := by simpa using hbb
          have hbq2 : ((beg : Int) == (blocks : Int)) = false := by simp; omega
          clear hbb
          have HS := Lib.hid (show Chg [W.heap.size + 1 + 1] wr (wr.setCell ⟨W.heap.size + 1 + 1, 0, none⟩ (.bool false)) from (Chg.refl _ _).setCell (p := ⟨_, 0, none⟩) (by simp) _)
          have HB2 := Lib.hid (HB.out.set 0 (.bool false))
          have p0 : (wr.setCell ⟨W.heap.size + 1 + 1, 0, none⟩ (.bool false)).cell? ⟨W.heap.size + 1 + 1, 0, none⟩ = some (.bool false) := HB2.out.cell 0
          have p1 : (wr.setCell ⟨W.heap.size + 1 + 1, 0, none⟩ (.bool false)).cell? ⟨W.heap.size + 1 + 1, 1, none⟩ = some (.int .u64 r0) := HB2.out.cell 1
          have p2 : (wr.setCell ⟨W.heap.size + 1 + 1, 0, none⟩ (.bool false)).cell? ⟨W.heap.size + 1 + 1, 2, none⟩ = some (.int .u64 r1) := HB2.out.cell 2
          have p3 : (wr.setCell ⟨W.heap.size + 1 + 1, 0, none⟩ (.bool false)).cell? ⟨W.heap.size + 1 + 1, 3, none⟩ = some (.int .u64 r2) := HB2.out.cell 3
          have p4 : (wr.setCell ⟨W.heap.size + 1 + 1, 0, none⟩ (.bool false)).cell? ⟨W.heap.size + 1 + 1, 4, none⟩ = some (.int .u64 r3) := HB2.out.cell 4
          have p5 : (wr.setCell ⟨W.heap.size + 1 + 1, 0, none⟩ (.bool false)).cell? ⟨W.heap.size + 1 + 1, 5, none⟩ = some (.int .u64 r4) := HB2.out.cell 5
          have p6 : (wr.setCell ⟨W.heap.size + 1 + 1, 0, none⟩ (.bool false)).cell? ⟨W.heap.size + 1 + 1, 6, none⟩ = some (.int .u64 r5) := HB2.out.cell 6
          have p7 : (wr.setCell ⟨W.heap.size + 1 + 1, 0, none⟩ (.bool false)).cell? ⟨W.heap.size + 1 + 1, 7, none⟩ = some (.int .u64 r6) := HB2.out.cell 7
          have p8 : (wr.setCell ⟨W.heap.size + 1 + 1, 0, none⟩ (.bool false)).cell? ⟨W.heap.size + 1 + 1, 8, none⟩ = some (.int .u64 r7) := HB2.out.cell 8
          have p9 : (wr.setCell ⟨W.heap.size + 1 + 1, 0, none⟩ (.bool false)).cell? ⟨W.heap.size + 1 + 1, 9, none⟩ = some (.int .i64 st) := HB2.out.cell 9
          have x0 : (wr.setCell ⟨W.heap.size + 1 + 1, 0, none⟩ (.bool false)).cell? ⟨W.heap.size + 1, 0, none⟩ = some (.bool false) := (HS.out.blk HZ.out (by simp)).cell 0
          have w0 : (wr.setCell ⟨W.heap.size + 1 + 1, 0, none⟩ (.bool false)).frozen? ⟨W.heap.size + 1, 0, none⟩ = false := (HS.out.blk HZ.out (by simp)).free 0
          have x1 : (wr.setCell ⟨W.heap.size + 1 + 1, 0, none⟩ (.bool false)).cell? ⟨W.heap.size + 1, 1, none⟩ = some (.int .u64 0) := (HS.out.blk HZ.out (by simp)).cell 1
          have w1 : (wr.setCell ⟨W.heap.size + 1 + 1, 0, none⟩ (.bool false)).frozen? ⟨W.heap.size + 1, 1, none⟩ = false := (HS.out.blk HZ.out (by simp)).free 1
          have x2 : (wr.setCell ⟨W.heap.size + 1 + 1, 0, none⟩ (.bool false)).cell? ⟨W.heap.size + 1, 2, none⟩ = some (.int .u64 0) := (HS.out.blk HZ.out (by simp)).cell 2
          have w2 : (wr.setCell ⟨W.heap.size + 1 + 1, 0, none⟩ (.bool false)).frozen? ⟨W.heap.size + 1, 2, none⟩ = false := (HS.out.blk HZ.out (by simp)).free 2
          have x3 : (wr.setCell ⟨W.heap.size + 1 + 1, 0, none⟩ (.bool false)).cell? ⟨W.heap.size + 1, 3, none⟩ = some (.int .u64 0) := (HS.out.blk HZ.out (by simp)).cell 3
          have w3 : (wr.setCell ⟨W.heap.size + 1 + 1, 0, none⟩ (.bool false)).frozen? ⟨W.heap.size + 1, 3, none⟩ = false := (HS.out.blk HZ.out (by simp)).free 3
          have x4 : (wr.setCell ⟨W.heap.size + 1 + 1, 0, none⟩ (.bool false)).cell? ⟨W.heap.size + 1, 4, none⟩ = some (.int .u64 0) := (HS.out.blk HZ.out (by simp)).cell 4
          have w4 : (wr.setCell ⟨W.heap.size + 1 + 1, 0, none⟩ (.bool false)).frozen? ⟨W.heap.size + 1, 4, none⟩ = false := (HS.out.blk HZ.out (by simp)).free 4
          have x5 : (wr.setCell ⟨W.heap.size + 1 + 1, 0, none⟩ (.bool false)).cell? ⟨W.heap.size + 1, 5, none⟩ = some (.int .u64 0) := (HS.out.blk HZ.out (by simp)).cell 5
          have w5 : (wr.setCell ⟨W.heap.size + 1 + 1, 0, none⟩ (.bool false)).frozen? ⟨W.heap.size + 1, 5, none⟩ = false := (HS.out.blk HZ.out (by simp)).free 5
          have x6 : (wr.setCell ⟨W.heap.size + 1 + 1, 0, none⟩ (.bool false)).cell? ⟨W.heap.size + 1, 6, none⟩ = some (.int .u64 0) := (HS.out.blk HZ.out (by simp)).cell 6
          have w6 : (wr.setCell ⟨W.heap.size + 1 + 1, 0, none⟩ (.bool false)).frozen? ⟨W.heap.size + 1, 6, none⟩ = false := (HS.out.blk HZ.out (by simp)).free 6
          have x7 : (wr.setCell ⟨W.heap.size + 1 + 1, 0, none⟩ (.bool false)).cell? ⟨W.heap.size + 1, 7, none⟩ = some (.int .u64 0) := (HS.out.blk HZ.out (by simp)).cell 7
          have w7 : (wr.setCell ⟨W.heap.size + 1 + 1, 0, none⟩ (.bool false)).frozen? ⟨W.heap.size + 1, 7, none⟩ = false := (HS.out.blk HZ.out (by simp)).free 7
          have x8 : (wr.setCell ⟨W.heap.size + 1 + 1, 0, none⟩ (.bool false)).cell? ⟨W.heap.size + 1, 8, none⟩ = some (.int .u64 0) := (HS.out.blk HZ.out (by simp)).cell 8
          have w8 : (wr.setCell ⟨W.heap.size + 1 + 1, 0, none⟩ (.bool false)).frozen? ⟨W.heap.size + 1, 8, none⟩ = false := (HS.out.blk HZ.out (by simp)).free 8
          have x9 : (wr.setCell ⟨W.heap.size + 1 + 1, 0, none⟩ (.bool false)).cell? ⟨W.heap.size + 1, 9, none⟩ = some (.int .i64 0) := (HS.out.blk HZ.out (by simp)).cell 9
          have w9 : (wr.setCell ⟨W.heap.size + 1 + 1, 0, none⟩ (.bool false)).frozen? ⟨W.heap.size + 1, 9, none⟩ = false := (HS.out.blk HZ.out (by simp)).free 9
          go_wp2_with fail
          have hfin := (((((((((((HS.out.blk HZ.out (by simp)).set 0 (.bool false)).set 1 (.int .u64 r0)).set 2 (.int .u64 r1)).set 3 (.int .u64 r2)).set 4 (.int .u64 r3)).set 5 (.int .u64 r4)).set 6 (.int .u64 r5)).set 7 (.int .u64 r6)).set 8 (.int .u64 r7)).set 9 (.int .i64 (st)))
          have hcs := (((((((((((Chg.refl [W.heap.size + 1] (wr.setCell ⟨W.heap.size + 1 + 1, 0, none⟩ (.bool false))).setCell (p := ⟨W.heap.size + 1, 0, none⟩) (by simp) (.bool false)).setCell (p := ⟨W.heap.size + 1, 1, none⟩) (by simp) (.int .u64 r0)).setCell (p := ⟨W.heap.size + 1, 2, none⟩) (by simp) (.int .u64 r1)).setCell (p := ⟨W.heap.size + 1, 3, none⟩) (by simp) (.int .u64 r2)).setCell (p := ⟨W.heap.size + 1, 4, none⟩) (by simp) (.int .u64 r3)).setCell (p := ⟨W.heap.size + 1, 5, none⟩) (by simp) (.int .u64 r4)).setCell (p := ⟨W.heap.size + 1, 6, none⟩) (by simp) (.int .u64 r5)).setCell (p := ⟨W.heap.size + 1, 7, none⟩) (by simp) (.int .u64 r6)).setCell (p := ⟨W.heap.size + 1, 8, none⟩) (by simp) (.int .u64 r7)).setCell (p := ⟨W.heap.size + 1, 9, none⟩) (by simp) (.int .i64 (st)))
          have hres : runM l fr til most (most + 1) m0 = ⟨M, [r0, r1, r2, r3, r4, r5, r6, r7], l.length, false, beg, st, false⟩ := by rw [← HRun.out, HRe.out]
          refine bodyPost_ret (v := .agg #[.bool false, .int .u64 r0, .int .u64 r1, .int .u64 r2, .int .u64 r3, .int .u64 r4, .int .u64 r5, .int .u64 r6, .int .u64 r7, .int .i64 (st)]) ?_ rfl ?_
          · exact play_results _ _ (W.heap.size + 1) _ _ _ _ _ _ _ _ _ _ hfin (by simp)
          · refine ⟨r0, r1, r2, r3, r4, r5, r6, r7, by rw [hres], by rw [hres]; simp [fineM, HBB.out], ?_, rfl, ?_⟩
            · rw [hres]; exact hcs.blk (HS.out.blk HMb.out (by simpa using nm)) (by simp; omega)
            · exact (HC.out.trans' HS.out (fun x hx hl => by simp at hx; omega)).trans' hcs (fun x hx hl => by simp at hx; omega)

end Go.Proofs.Ythlhjahhjoclfaa
