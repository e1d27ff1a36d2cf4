/- Layer 8's statements: a memory answers until a path is busy no more. -/
import Derived.Test.YtilffolppnnkaaaSoft16
namespace Go.Proofs.Ytilffolppnnkaaa
set_option maxRecDepth 100000
open Go.RowKit

theorem u64_wrap (x : Int) : w64ok (IntKind.u64.wrap x) := by
  have h : 0 ≤ IntKind.u64.wrap x ∧ IntKind.u64.wrap x ≤ 18446744073709551615 := by
    unfold IntKind.wrap; simp [IntKind.bits, IntKind.signed]; omega
  refine ⟨h.1, ?_⟩
  simp [Lit.wf, IntKind.min, IntKind.max, IntKind.signed, IntKind.bits]; omega

theorem PathAt.pairs {w : World} {p : Nat} {F : List Nat} {s : PS} (h : PathAt w p F s) : s.R.length ≤ 128 ∧ s.W.length ≤ 128 ∧ PairsOk s.R ∧ PairsOk s.W ∧ Once s.R ∧ Once s.W := by
  obtain ⟨g, L, E, nx, hi, hs, rfl⟩ := h; exact hi.log.most

theorem w64_of_wf {v : Int} (h : (Lit.int .u64 v).wf = true) : w64ok v := by
  refine ⟨?_, h⟩
  simp [Lit.wf, IntKind.min, IntKind.signed] at h; exact h.1
theorem pair_ok {l : PL} (h : PairsOk l) {i : Nat} (hi : i < l.length) : (Lit.int .i64 (l[i]?.getD (0, 0)).1).wf = true ∧ w64ok (l[i]?.getD (0, 0)).2 := by
  have := h l[i] (List.getElem_mem hi)
  simp only [List.getElem?_eq_getElem hi, Option.getD_some]
  exact ⟨this.1, w64_of_wf this.2⟩

theorem PS.want_ok {s : PS} (h : s.ph.ok s.R s.W) (hR : PairsOk s.R) (hW : PairsOk s.W) : s.want.Ok := by
  have u0 : w64ok 0 := ⟨Int.le_refl _, by decide⟩
  unfold PS.want
  cases hp : s.ph <;> rw [hp] at h <;> simp only [wantOf, Ph.ok] at h ⊢
  all_goals first
    | exact ⟨by simp, rfl, u0⟩
    | exact ⟨by simp, rfl, u64_wrap _⟩
    | exact ⟨by simp, h.2, u0⟩
    | exact ⟨by simp, (pair_ok hR h.2).1, u0⟩
    | exact ⟨by simp, (pair_ok hW h).1, (pair_ok hW h).2⟩

theorem To.ok_ph {R W : PL} {to : To} (h : to.ok W) : to.ph.ok R W := by cases to <;> exact h
theorem nextCheck_ok {R W : PL} {to : To} {g : Int} {i : Nat} (h : to.ok W) : (nextCheck R to g i).ok R W := by
  unfold nextCheck; split
  · exact ⟨h, by assumption⟩
  · exact h
theorem PS.give_ok {s : PS} {v : Int} {ok : Bool} (hv : w64ok v) (h : s.ph.ok s.R s.W) : (s.give v ok).ph.ok (s.give v ok).R (s.give v ok).W := by
  unfold PS.give
  cases hp : s.ph <;> rw [hp] at h <;> simp only
  all_goals first
    | (rw [hp]; exact h)
    | trivial
    | exact ⟨h, hv⟩
    | (split <;> first | trivial | (rw [hp]; trivial) | exact nextCheck_ok h | (rw [hp]; exact h) | exact nextCheck_ok h.1 | exact To.ok_ph h | exact h | exact List.length_pos_iff.2 h | (simp only [Ph.ok]; omega))
    | (split <;> first | (split <;> trivial) | exact h.1 | trivial | exact List.length_pos_iff.2 h)

/-- A path, and a memory, side by side. -/
structure Two (w : World) (p : Nat) (F : List Nat) (m c : Nat) (s : PS) (h : PL) : Prop where
  path : PathAt w p F s
  mem : MemAt w m c h
  off : m ∉ F
  ok : s.ph.ok s.R s.W

theorem Two.lt {w : World} {p : Nat} {F : List Nat} {m c : Nat} {s : PS} {h : PL} (k : Two w p F m c s h) : ∀ x ∈ m :: F, x < w.heap.size := fun x hx => by
  rcases List.mem_cons.1 hx with rfl | hx
  · exact k.mem.lt
  · exact k.path.lt x hx
theorem Two.chg {S : List Nat} {w w' : World} {p : Nat} {F : List Nat} {m c : Nat} {s : PS} {h : PL} (k : Two w p F m c s h) (hC : Chg S w w') (hS : Apart (m :: F) S) : Two w' p F m c s h :=
  ⟨k.path.chg hC (fun x hx => hS x (by simp [hx])), k.mem.chg hC (hS m (by simp)), k.off, k.ok⟩
theorem Two.look {w w' : World} {p : Nat} {F : List Nat} {m c : Nat} {s : PS} {h : PL} (k : Two w p F m c s h) (hC : Chg [] w w') : Two w' p F m c s h := k.chg hC (Apart.nil_right _)
/-- The path did something. -/
theorem Two.step {w w' : World} {p : Nat} {F F' : List Nat} {m c : Nat} {s s' : PS} {h : PL} (k : Two w p F m c s h) (hp : PathAt w' p F' s') (hM : Mv F F' w w') (ho : s'.ph.ok s'.R s'.W) : Two w' p F' m c s' h :=
  ⟨hp, k.mem.chg hM.chg k.off, fun hx => (hM.new m hx).elim k.off (fun e => by have := k.mem.lt; omega), ho⟩
theorem Mv.cons {F F' : List Nat} {w w' : World} (hM : Mv F F' w w') (m : Nat) : Mv (m :: F) (m :: F') w w' :=
  ⟨hM.chg.mono (fun x hx => by simp [hx]), fun x hx => by
    rcases List.mem_cons.1 hx with rfl | hx
    · exact .inl (by simp)
    · exact (hM.new x hx).imp (fun e => by simp [e]) id⟩
/-- The memory did something. -/
theorem Two.mstep {w w' : World} {p : Nat} {F : List Nat} {m c c' : Nat} {s : PS} {h h' : PL} (k : Two w p F m c s h) (hm : MemAt w' m c' h') (hC : Chg [m] w w') : Two w' p F m c' s h' :=
  ⟨k.path.chg hC (fun x hx he => by simp at he; subst he; exact k.off hx), hm, k.off, k.ok⟩
theorem Mv.mem {F : List Nat} {w w' : World} {m : Nat} (hC : Chg [m] w w') : Mv (m :: F) (m :: F) w w' := ⟨hC.mono (by simp), fun _ hx => .inl hx⟩

/-- Memory answers what a path asks. -/
def stepM (x : PS × PL) : PS × PL := (x.1.give (getH x.2 x.1.want.addr) (ansOk x.2 x.1.want), ansH x.2 x.1.want)
def finM : Nat → PS × PL → PS × PL
  | 0, x => x
  | n + 1, x => if x.1.busy then finM n (stepM x) else x
theorem finM_idle {n : Nat} {x : PS × PL} (h : x.1.busy = false) : finM n x = x := by
  cases n with
  | zero => rfl
  | succ n => rw [finM, h]; rfl
theorem finM_busy {n : Nat} {x : PS × PL} (h : x.1.busy = true) : finM (n + 1) x = finM n (stepM x) := by rw [finM, h]; rfl

def FinRel (w : World) (p m : Nat) (F : List Nat) (c : Nat) (x : PS × PL) (i : Value) (wr : World) : Prop :=
  ∃ (k : Nat) (F' : List Nat) (c' : Nat) (y : PS × PL), k ≤ 3000 ∧ i = .int .i64 k ∧ c' ≤ c + k ∧ finM (3000 - k) y = finM 3000 x ∧ Two wr p F' m c' y.1 y.2 ∧ Mv (m :: F) (m :: F') w wr
def FinPost (w : World) (p m : Nat) (F : List Nat) (c : Nat) (x : PS × PL) (e : Ending) (w' : World) : Prop :=
  e = .returned (.bool (!(finM 3000 x).1.busy)) ∧ ∃ F' c', c' ≤ c + 3000 ∧ Two w' p F' m c' (finM 3000 x).1 (finM 3000 x).2 ∧ Mv (m :: F) (m :: F') w w'

set_option maxHeartbeats 1000000 in
theorem finish_any (w : World) (p m : Nat) (F : List Nat) (c : Nat) (x : PS × PL) (hc : c ≤ 1000000000) (h : Two w p F m c x.1 x.2) :
    Calls Try.prog 15 #[.pointer (some ⟨p, 0, none⟩), .map (some m)] w (FinPost w p m F c x) := by
  have H := Lib.hid h
  clear h
  go_enter Try.func15, Try.ntmps15
  go_wp2_with fail
  go_loopw [5] (fun i wr => FinRel w p m F c x i wr) (fun i _ => 3000 - (intOf i).toNat)
  case atStart => exact ⟨0, F, c, x, by omega, rfl, by omega, rfl, H.out, Mv.refl _ _⟩
  case round =>
    obtain ⟨k, F', c', y, hk, rfl, hc', hfin, hT, hM⟩ := hrel
    have HT := Lib.hid hT
    have HM := Lib.hid hM
    have HF := Lib.hid hfin
    have HC := Lib.hid hc'
    clear hT hM hfin hc'
    by_cases hlt : k < 3000
    · by_cases hb : y.1.busy = true
      · have hB := Lib.hid (Busy_any wr p F' y.1 HT.out.path)
        rw [hb] at hB
        have HBz := Lib.hid hb
        clear hb
        go_wp2_with fail
        refine hB.out.mono ?_
        rintro e w' ⟨rfl, rfl⟩
        go_wp2_with fail
        refine (Want_any wr p F' y.1 HT.out.path).mono ?_
        rintro e w1 ⟨rfl, hp1, hC1⟩
        rw [HBz.out]
        have HT1 := Lib.hid (((HT.out.look hC1).look ((Chg.refl [] w1).alloc (.cells #[.int .i64 y.1.want.op, .int .i64 y.1.want.addr, .int .u64 y.1.want.val, .int .u64 y.1.want.old] 49))))
        have HC1 := Lib.hid (hC1.trans ((Chg.refl [] w1).alloc (.cells #[.int .i64 y.1.want.op, .int .i64 y.1.want.addr, .int .u64 y.1.want.val, .int .u64 y.1.want.old] 49)))
        have HR := Lib.hid (PS.want_ok HT.out.ok HT.out.path.pairs.2.2.1 HT.out.path.pairs.2.2.2.1)
        clear hp1 hC1
        unfold Rq.val'
        go_wp2_with fail
        refine (Answer_any _ m c' y.2 y.1.want HR.out (by have := HC.out; unfold maxLen; omega) HT1.out.mem).mono ?_
        rintro e w2 ⟨rfl, hm2, hC2⟩
        have HT2 := Lib.hid (HT1.out.mstep hm2 hC2)
        have HC2 := Lib.hid hC2
        clear hm2 hC2
        go_wp2_with fail
        refine (Give_any w2 p F' y.1 _ _ (HT.out.mem.ok _) HT.out.ok HT2.out.path).mono ?_
        rintro e w3 ⟨rfl, F3, hp3, hM3⟩
        have HT3 := Lib.hid (HT2.out.step hp3 hM3 (PS.give_ok (HT.out.mem.ok _) HT.out.ok))
        have HM3 := Lib.hid hM3
        clear hp3 hM3
        go_wp2_with fail
        go_roundw
        case rel =>
          refine ⟨k + 1, F3, _, stepM y, by omega, by go_num, ?_, ?_, HT3.out, ?_⟩
          · have := ansC_le c' y.2 y.1.want; have := HC.out; omega
          · rw [← HF.out, show 3000 - k = (3000 - (k + 1)) + 1 from by omega, finM_busy HBz.out]
          · exact HM.out.trans ((Mv.of_same HC1.out).trans ((Mv.mem HC2.out).trans (HM3.out.cons m)))
        case measure => simp [intOf]; omega
      · have hb' : y.1.busy = false := by simpa using hb
        have hB := Lib.hid (Busy_any wr p F' y.1 HT.out.path)
        rw [hb'] at hB
        have HBz := Lib.hid hb'
        clear hb hb'
        go_wp2_with fail
        refine hB.out.mono ?_
        rintro e w' ⟨rfl, rfl⟩
        go_wp2_with fail
        refine hB.out.mono ?_
        rintro e w' ⟨rfl, rfl⟩
        go_wp2_with fail
        go_ret
        have hf := HF.out
        rw [finM_idle HBz.out] at hf
        refine ⟨?_, F', c', by have := HC.out; omega, by rw [← hf]; exact HT.out, HM.out⟩
        rw [← hf, HBz.out]; rfl
    · have hB := Lib.hid (Busy_any wr p F' y.1 HT.out.path)
      have hf := HF.out
      rw [show 3000 - k = 0 from by omega, finM] at hf
      have hk3 : decide ((k : Int) < 3000) = false := by simp; omega
      have HF2 := Lib.hid hf
      clear hf
      go_wp2_with fail
      refine hB.out.mono ?_
      rintro e w' ⟨rfl, rfl⟩
      go_wp2_with fail
      go_ret
      refine ⟨?_, F', c', by have := HC.out; omega, by rw [← HF2.out]; exact HT.out, HM.out⟩
      rw [← HF2.out]; rfl

end Go.Proofs.Ytilffolppnnkaaa
