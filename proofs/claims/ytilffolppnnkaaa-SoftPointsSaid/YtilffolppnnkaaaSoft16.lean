/- A memory of layer 8's statements: words by address; what it answers. -/
import Derived.Test.YtilffolppnnkaaaSoft15
import Derived.Maps.OwnOps
namespace Go.Proofs.Ytilffolppnnkaaa
set_option maxRecDepth 100000
open Go.RowKit

/-- What was put, the latest first. -/
def getH (h : PL) (a : Int) : Int := match h.find? (fun p => p.1 == a) with | some p => p.2 | none => 0
def inH (h : PL) (a : Int) : Bool := (h.find? (fun p => p.1 == a)).isSome
theorem getH_nil (a : Int) : getH [] a = 0 := rfl
theorem inH_nil (a : Int) : inH [] a = false := rfl
theorem getH_cons (h : PL) (a v b : Int) : getH ((a, v) :: h) b = if a = b then v else getH h b := by
  unfold getH
  rw [List.find?_cons]
  by_cases e : a = b
  · subst e; simp
  · have : (a == b) = false := by simpa using e
    simp [this, e]
theorem inH_cons (h : PL) (a v b : Int) : inH ((a, v) :: h) b = (decide (a = b) || inH h b) := by
  unfold inH
  rw [List.find?_cons]
  by_cases e : a = b
  · subst e; simp
  · have : (a == b) = false := by simpa using e
    simp [this, e]
theorem getH_same (h : PL) (a v : Int) : getH ((a, v) :: h) a = v := by rw [getH_cons, if_pos rfl]
theorem getH_other (h : PL) {a b : Int} (v : Int) (hne : a ≠ b) : getH ((a, v) :: h) b = getH h b := by rw [getH_cons, if_neg hne]

structure MemAt (w : World) (m c : Nat) (h : PL) : Prop where
  map : ∃ D : DataW Unit, w.ownsMap Try.prog 3 (plainElem Try.prog 23) m c D ∧ Maps.size D = c ∧ (∀ a : Int, Maps.has D (.int .i64 a) = inH h a) ∧ (∀ a : Int, D.atKey (.int .i64 a) (.lit (.int .u64 0)) = .lit (.int .u64 (getH h a)))
  ok : ∀ a, w64ok (getH h a)

theorem zeroU64 (w : World) : (zeroValue 23).run Try.prog w = .ok (.int .u64 0) w := by kernel_rfl

theorem MemAt.lt {w : World} {m c : Nat} {h : PL} (k : MemAt w m c h) : m < w.heap.size := by
  obtain ⟨D, h1, _⟩ := k.map; exact h1.lt
theorem MemAt.chg {S : List Nat} {w w' : World} {m c : Nat} {h : PL} (k : MemAt w m c h) (hC : Chg S w w') (hs : m ∉ S) : MemAt w' m c h := by
  obtain ⟨D, h1, h2⟩ := k.map; exact ⟨⟨D, ownsMap_chg h1 hC hs, h2⟩, k.ok⟩
theorem MemAt.new (w : World) : MemAt (w.alloc (.map #[] 0)) w.heap.size 0 [] := ⟨⟨.map [], World.ownsMap_made w _ _ _, rfl, fun _ => rfl, fun _ => rfl⟩, fun a => ⟨Int.le_refl _, by rw [getH_nil]; decide⟩⟩
theorem ownsMap_tight {H : Type} {P : Program} {k : TypeId} {R : Value → Option (DataW H × List MemPlace)} {w : World} {b n : Nat} {D : DataW H} (h : w.ownsMap P k R b n D) : w.ownsMap P k R b (Maps.size D) D := by
  obtain ⟨es, clock, hb, F, hs, rfl⟩ := h
  exact ⟨es, clock, hb, F, by simp [Maps.size, length_sorted], rfl⟩

def upC (c : Nat) (h : PL) (a : Int) : Nat := if inH h a then c else c + 1
theorem upC_le (c : Nat) (h : PL) (a : Int) : upC c h a ≤ c + 1 := by unfold upC; split <;> omega

theorem MemAt.look {w : World} {m c : Nat} {h : PL} (k : MemAt w m c h) {a : Int} (ha : (Lit.int .i64 a).wf = true) :
    (Instr.lookup 29 (.map (some m)) (.int .i64 a) false).run Try.prog w = .ok (.int .u64 (getH h a)) w := by
  obtain ⟨D, h1, h2, h3, h4⟩ := k.map
  obtain ⟨x, hrun, hat, _⟩ := h1.lookup_int lawInt Try.underlying29 Try.underlying23 (zeroU64 w) (Maps.keyOf_int_mk Try.underlying3 ha)
  rw [h4 a] at hat
  simp only [DataW.lit.injEq, Lit.int.injEq, true_and] at hat
  rw [hrun, hat]

theorem MemAt.put {w : World} {m c : Nat} {h : PL} (k : MemAt w m c h) (hc : c < maxLen) {a v : Int} (ha : (Lit.int .i64 a).wf = true) (hv : w64ok v) :
    ∃ w', (Instr.mapUpdate 29 (.map (some m)) (.int .i64 a) (.int .u64 v)).run Try.prog w = .ok () w' ∧ MemAt w' m (upC c h a) ((a, v) :: h) ∧ Chg [m] w w' := by
  obtain ⟨D, h1, h2, h3, h4⟩ := k.map
  obtain ⟨w', hrun, ho, hg⟩ := h1.update lawInt Try.underlying29 hc (Maps.keyOf_int_mk Try.underlying3 ha) (plainElem_int Try.underlying23 hv.2)
  have hs : Maps.size (D.put (.int .i64 a) (.lit (.int .u64 v))) = upC c h a := by
    rw [Maps.size_put (h1.tidy lawInt), h3 a, h2]; rfl
  refine ⟨w', hrun, ⟨⟨_, hs ▸ ownsMap_tight ho, hs, ?_, ?_⟩, ?_⟩, Chg.of_grown hg⟩
  · intro b
    rw [inH_cons]
    by_cases e : a = b
    · subst e; rw [Maps.has_put_same h1.isMap (by trivial)]; simp
    · rw [Maps.has_put_other (by simpa using fun x => e x.symm), h3]; simp [e]
  · intro b
    rw [getH_cons]
    by_cases e : a = b
    · subst e; rw [Maps.atKey_put_same h1.isMap (by trivial), if_pos rfl]
    · rw [Maps.atKey_put_other (by simpa using fun x => e x.symm), h4, if_neg e]
  · intro b
    rw [getH_cons]; split
    · exact hv
    · exact k.ok b

/-- 'm[a] = v' at the operation. -/
theorem wpList_memPut (w : World) {ops : Array Oper} {rest : List Oper} {o : Oper} {a : Act} {Q : Exit → Act → World → Prop} (hg : o.guard = none) (mo x v : Operand)
    (hop : o.op = Op.mapUpdate 29 mo x v ∨ o.op = Op.insert 29 mo x v) (m c : Nat) (h : PL) (hm : a.eval mo = .map (some m)) (k : MemAt w m c h) (hc : c < maxLen) (key val : Int)
    (hx : a.eval x = .int .i64 key) (hv : a.eval v = .int .u64 val) (hk : (Lit.int .i64 key).wf = true) (hval : w64ok val)
    (hK : ∀ w', MemAt w' m (upC c h key) ((key, val) :: h) → Chg [m] w w' → wpList Try.prog ops Q rest (a.put o.dst undef) w') :
    wpList Try.prog ops Q (o :: rest) a w := by
  refine wpList_plain hg fun K' hK' => ?_
  obtain ⟨w', hrun, r1, r2⟩ := k.put hc hk hval
  unfold Oper.wp
  rcases hop with hop | hop <;>
  · simp [execOp, hop, hm, hx, hv, hrun, Result.andThen]
    exact hK' _ _ (hK w' r1 r2)

/-- A request that may be. -/
structure Rq.Ok (r : Rq) : Prop where
  op : r.op = 0 ∨ r.op = 1 ∨ r.op = 2 ∨ r.op = 3
  addr : (Lit.int .i64 r.addr).wf = true
  val : w64ok r.val

def ansOk (h : PL) (r : Rq) : Bool := decide (r.op = 3) && decide (getH h r.addr = r.old)
def ansH (h : PL) (r : Rq) : PL := if r.op = 2 ∨ ansOk h r = true then (r.addr, r.val) :: h else h
def ansC (c : Nat) (h : PL) (r : Rq) : Nat := if r.op = 2 ∨ ansOk h r = true then upC c h r.addr else c
theorem ansC_le (c : Nat) (h : PL) (r : Rq) : ansC c h r ≤ c + 1 := by
  unfold ansC; split
  · exact upC_le _ _ _
  · omega

def AnsPost (w : World) (m c : Nat) (h : PL) (r : Rq) (e : Ending) (w' : World) : Prop :=
  e = .returned (.tuple #[.int .u64 (getH h r.addr), .bool (ansOk h r)]) ∧ MemAt w' m (ansC c h r) (ansH h r) ∧ Chg [m] w w'

set_option maxHeartbeats 1000000 in
theorem Answer_any (w : World) (m c : Nat) (h : PL) (r : Rq) (hr : r.Ok) (hc : c < maxLen) (k : MemAt w m c h) :
    Calls Try.prog 25 #[.map (some m), r.val'] w (AnsPost w m c h r) := by
  obtain ⟨o, ad, va, ol⟩ := r
  obtain ⟨h1, h2, h3⟩ := hr
  simp only at h1 h2 h3
  have hC := (Chg.refl [] w).alloc (.cells #[.int .i64 o, .int .i64 ad, .int .u64 va, .int .u64 ol] 49)
  have HC := Lib.hid (hC.mono (T := [m]) (by simp))
  have hk := k.chg hC (by simp)
  have HK := Lib.hid hk
  have hl := hk.look h2
  have H2 := Lib.hid h2
  have H3 := Lib.hid h3
  unfold AnsPost ansC ansH ansOk Rq.val'
  simp only
  have hml := k.lt
  have HX := Lib.hid (Blk.new w [.int .i64 o, .int .i64 ad, .int .u64 va, .int .u64 ol] 49)
  have HM := Lib.hid (show w.heap.size ∉ [m] from by simp; omega)
  clear hk k hml
  rcases h1 with rfl | rfl | rfl | rfl
  · generalize getH h ad = x at *
    simp only [show ((0 : Int) = 2) = False from by simp, show ((0 : Int) = 3) = False from by simp, decide_false, Bool.false_and, Bool.false_eq_true, or_self, if_false]
    clear h2 h3
    go_enter Try.func25, Try.ntmps25
    go_wp2_with fail
    go_ret2
    exact ⟨rfl, HK.out, HC.out⟩
  · generalize getH h ad = x at *
    simp only [show ((1 : Int) = 2) = False from by simp, show ((1 : Int) = 3) = False from by simp, decide_false, Bool.false_and, Bool.false_eq_true, or_self, if_false]
    clear h2 h3
    go_enter Try.func25, Try.ntmps25
    go_wp2_with fail
    go_ret2
    exact ⟨rfl, HK.out, HC.out⟩
  · simp only [show ((2 : Int) = 3) = False from by simp, decide_false, Bool.false_and, Bool.false_eq_true, or_false, if_true]
    generalize getH h ad = x at *
    clear h2 h3
    go_enter Try.func25, Try.ntmps25
    go_wp2_with (first
      | (at_mapUpdate; refine wpList_memPut _ rfl _ _ _ (.inl rfl) m c h rfl HK.out hc _ _ rfl rfl H2.out H3.out ?_; intro w1 hk1 hC1; have HK1 := Lib.hid hk1; have HC1 := Lib.hid hC1; have b1 := hC1.blk HX.out HM.out; have e0 := b1.cell 0; have e1 := b1.cell 1; have e2 := b1.cell 2; have e3 := b1.cell 3; simp only [List.getElem?_cons_zero, List.getElem?_cons_succ] at e0 e1 e2 e3; clear hk1 hC1 b1))
    go_ret2
    exact ⟨rfl, HK1.out, HC.out.trans HC1.out⟩
  · by_cases he : getH h ad = ol
    · rw [he] at hl ⊢
      simp only [show ((3 : Int) = 2) = False from by simp, decide_true, Bool.and_self, or_true, if_true]
      clear h2 h3 he
      go_enter Try.func25, Try.ntmps25
      go_wp2_with (first
        | (at_mapUpdate; refine wpList_memPut _ rfl _ _ _ (.inl rfl) m c h rfl HK.out hc _ _ rfl rfl H2.out H3.out ?_; intro w1 hk1 hC1; have HK1 := Lib.hid hk1; have HC1 := Lib.hid hC1; have b1 := hC1.blk HX.out HM.out; have e0 := b1.cell 0; have e1 := b1.cell 1; have e2 := b1.cell 2; have e3 := b1.cell 3; simp only [List.getElem?_cons_zero, List.getElem?_cons_succ] at e0 e1 e2 e3; clear hk1 hC1 b1))
      go_ret2
      exact ⟨rfl, HK1.out, HC.out.trans HC1.out⟩
    · have hd : decide (getH h ad = ol) = false := by simpa using he
      have hb : (getH h ad == ol) = false := by simpa using he
      simp only [show ((3 : Int) = 2) = False from by simp, decide_true, hd, Bool.and_false, Bool.false_eq_true, or_self, if_false]
      clear h2 h3 he hd
      generalize getH h ad = x at *
      go_enter Try.func25, Try.ntmps25
      go_wp2_with fail
      go_ret2
      exact ⟨rfl, HK.out, HC.out⟩

end Go.Proofs.Ytilffolppnnkaaa
