/- The codes of the libraries' calls. -/
import Derived.Test.YthlhjahhjoclfaaCd10
namespace Go.Proofs.Ythlhjahhjoclfaa
set_option maxRecDepth 100000
open Go.RowKit

def ApiNo (W : World) (e : Ending) (w' : World) : Prop := e = .returned (.tuple #[.slice none 0 0, .int .i64 130]) ∧ Chg [] W w'
def ApiYes (W : World) (L : List Ins) (e : Ending) (w' : World) : Prop := ∃ v, e = .returned (.tuple #[v, .int .i64 0]) ∧ w'.ownsRow W.heap.size 25 5 v L.length (L.flatMap encI) ∧ Chg [] W w'

def hashPutL (base bk cap k v : Int) : List Ins := (hashS base bk cap k v).putting (hPool base bk cap) (fun s => s.hput1 (hPool base bk cap))
theorem HashPut_no (w : World) (base bk cap k v : Int) (h : fitsB base (hSize bk cap) = false) :
    Calls Try.prog 26 #[.int .i64 base, .int .i64 bk, .int .i64 cap, .int .u64 k, .int .u64 v] w (ApiNo w) := by
  have HF := Lib.hid h
  clear h
  go_enter Try.func26, Try.ntmps26
  go_wp2_with fail
  refine (hashed_no _ base bk cap k v HF.out).mono ?_
  rintro e w1 ⟨rfl, hx⟩
  have HX := Lib.hid hx
  clear hx
  go_wp2_with fail
  go_ret2
  exact ⟨rfl, (HX.out.alloc _).alloc _⟩

set_option maxHeartbeats 2000000 in
theorem HashPut_yes (w : World) (base bk cap k v : Int) (hk0 : 0 ≤ k) (hk1 : k ≤ 18446744073709551615) (hv0 : 0 ≤ v) (hv1 : v ≤ 18446744073709551615) (h : fitsB base (hSize bk cap) = true) :
    Calls Try.prog 26 #[.int .i64 base, .int .i64 bk, .int .i64 cap, .int .u64 k, .int .u64 v] w (ApiYes w (hashPutL base bk cap k v)) := by
  have HF := Lib.hid h
  have HPo := Lib.hid (hPool_ok h).1
  have hmf : ∀ (fn : Fn) (first cap : Array Value) (w : World), (Instr.makeFunc fn first cap).run Try.prog w = .ok (.func fn first cap) w := fun _ _ _ _ => rfl
  clear h
  go_enter Try.func26, Try.ntmps26
  go_wp2_with fail
  refine (hashed_yes _ base bk cap k v hk0 hk1 hv0 hv1 HF.out).mono ?_
  rintro e w1 ⟨b, rfl, hC, hx⟩
  have hx2 : Chg [] w1 ((w1.alloc (.cells #[.pointer (some ⟨b, 0, none⟩)] 72)).alloc (.cells #[.int .i64 (base), .int .i64 (base + 1), .int .i64 (base + 2 + bk), .int .i64 (3), .int .i64 (2), .int .i64 (cap)] 82)) := ((Chg.refl [] w1).alloc _).alloc _
  have HC := Lib.hid (hC.chg hx2)
  have HK := Lib.hid (Kp.of_nil (base := w.heap.size) (hx.trans hx2))
  have HB : Hid (Blk ((w1.alloc (.cells #[.pointer (some ⟨b, 0, none⟩)] 72)).alloc (.cells #[.int .i64 (base), .int .i64 (base + 1), .int .i64 (base + 2 + bk), .int .i64 (3), .int .i64 (2), .int .i64 (cap)] 82)) (w1.heap.size + 1) [.int .i64 (base), .int .i64 (base + 1), .int .i64 (base + 2 + bk), .int .i64 (3), .int .i64 (2), .int .i64 (cap)] 82) := Lib.hid (by have := Blk.new (w1.alloc (.cells #[.pointer (some ⟨b, 0, none⟩)] 72)) [.int .i64 (base), .int .i64 (base + 1), .int .i64 (base + 2 + bk), .int .i64 (3), .int .i64 (2), .int .i64 (cap)] 82; simpa using this)
  have HD := Lib.hid ((Blk.new w1 [.pointer (some ⟨b, 0, none⟩)] 72).alloc (.cells #[.int .i64 (base), .int .i64 (base + 1), .int .i64 (base + 2 + bk), .int .i64 (3), .int .i64 (2), .int .i64 (cap)] 82))
  clear hC hx hx2
  go_wp2_with fail
  refine (putting_any _ _ _ b _ (hPool base bk cap) HPo.out (by omega) _ _ _ hput1_enters 1 _ (by decide) (hput1_clo _ b _ _ (hPool base bk cap) HPo.out) HD.out HB.out HC.out).mono ?_
  rintro e w2 ⟨v, rfl, hr, hK⟩
  have HR := Lib.hid hr
  replace HK := Lib.hid (HK.out.trans hK)
  clear hr hK
  go_wp2_with fail
  go_ret2
  exact ⟨_, rfl, HR.out, HK.out.chg (Nat.le_refl _)⟩

def hashGetL (base bk cap k : Int) : List Ins := (hashS base bk cap k 0).getting (hPool base bk cap)
theorem HashGet_no (w : World) (base bk cap k : Int) (h : fitsB base (hSize bk cap) = false) :
    Calls Try.prog 28 #[.int .i64 base, .int .i64 bk, .int .i64 cap, .int .u64 k] w (ApiNo w) := by
  have HF := Lib.hid h
  clear h
  go_enter Try.func28, Try.ntmps28
  go_wp2_with fail
  refine (hashed_no _ base bk cap k 0 HF.out).mono ?_
  rintro e w1 ⟨rfl, hx⟩
  have HX := Lib.hid hx
  clear hx
  go_wp2_with fail
  go_ret2
  exact ⟨rfl, HX.out.alloc _⟩

set_option maxHeartbeats 2000000 in
theorem HashGet_yes (w : World) (base bk cap k : Int) (hk0 : 0 ≤ k) (hk1 : k ≤ 18446744073709551615) (h : fitsB base (hSize bk cap) = true) :
    Calls Try.prog 28 #[.int .i64 base, .int .i64 bk, .int .i64 cap, .int .u64 k] w (ApiYes w (hashGetL base bk cap k)) := by
  have HF := Lib.hid h
  have HPo := Lib.hid (hPool_ok h).1
  have hmf : ∀ (fn : Fn) (first cap : Array Value) (w : World), (Instr.makeFunc fn first cap).run Try.prog w = .ok (.func fn first cap) w := fun _ _ _ _ => rfl
  clear h
  go_enter Try.func28, Try.ntmps28
  go_wp2_with fail
  refine (hashed_yes _ base bk cap k 0 hk0 hk1 (by decide) (by decide) HF.out).mono ?_
  rintro e w1 ⟨b, rfl, hC, hx⟩
  have hx2 : Chg [] w1 (w1.alloc (.cells #[.int .i64 (base), .int .i64 (base + 1), .int .i64 (base + 2 + bk), .int .i64 (3), .int .i64 (2), .int .i64 (cap)] 82)) := (Chg.refl [] w1).alloc _
  have HC := Lib.hid (hC.chg hx2)
  have HK := Lib.hid (Kp.of_nil (base := w.heap.size) (hx.trans hx2))
  have HB : Hid (Blk (w1.alloc (.cells #[.int .i64 (base), .int .i64 (base + 1), .int .i64 (base + 2 + bk), .int .i64 (3), .int .i64 (2), .int .i64 (cap)] 82)) (w1.heap.size) [.int .i64 (base), .int .i64 (base + 1), .int .i64 (base + 2 + bk), .int .i64 (3), .int .i64 (2), .int .i64 (cap)] 82) := Lib.hid (by have := Blk.new w1 [.int .i64 (base), .int .i64 (base + 1), .int .i64 (base + 2 + bk), .int .i64 (3), .int .i64 (2), .int .i64 (cap)] 82; simpa using this)
  clear hC hx hx2
  go_wp2_with fail
  refine (getting_any _ _ _ b _ (hPool base bk cap) HPo.out (by omega) HC.out).mono ?_
  rintro e w2 ⟨v, rfl, hr, hK⟩
  have HR := Lib.hid hr
  replace HK := Lib.hid (HK.out.trans hK)
  clear hr hK
  go_wp2_with fail
  go_ret2
  exact ⟨_, rfl, HR.out, HK.out.chg (Nat.le_refl _)⟩

def hashCutL (base bk cap k : Int) : List Ins := (hashS base bk cap k 0).cutting (hPool base bk cap) (fun s => s.hcut1 (hPool base bk cap))
theorem HashCut_no (w : World) (base bk cap k : Int) (h : fitsB base (hSize bk cap) = false) :
    Calls Try.prog 27 #[.int .i64 base, .int .i64 bk, .int .i64 cap, .int .u64 k] w (ApiNo w) := by
  have HF := Lib.hid h
  clear h
  go_enter Try.func27, Try.ntmps27
  go_wp2_with fail
  refine (hashed_no _ base bk cap k 0 HF.out).mono ?_
  rintro e w1 ⟨rfl, hx⟩
  have HX := Lib.hid hx
  clear hx
  go_wp2_with fail
  go_ret2
  exact ⟨rfl, (HX.out.alloc _).alloc _⟩

set_option maxHeartbeats 2000000 in
theorem HashCut_yes (w : World) (base bk cap k : Int) (hk0 : 0 ≤ k) (hk1 : k ≤ 18446744073709551615) (h : fitsB base (hSize bk cap) = true) :
    Calls Try.prog 27 #[.int .i64 base, .int .i64 bk, .int .i64 cap, .int .u64 k] w (ApiYes w (hashCutL base bk cap k)) := by
  have HF := Lib.hid h
  have HPo := Lib.hid (hPool_ok h).1
  have hmf : ∀ (fn : Fn) (first cap : Array Value) (w : World), (Instr.makeFunc fn first cap).run Try.prog w = .ok (.func fn first cap) w := fun _ _ _ _ => rfl
  clear h
  go_enter Try.func27, Try.ntmps27
  go_wp2_with fail
  refine (hashed_yes _ base bk cap k 0 hk0 hk1 (by decide) (by decide) HF.out).mono ?_
  rintro e w1 ⟨b, rfl, hC, hx⟩
  have hx2 : Chg [] w1 ((w1.alloc (.cells #[.pointer (some ⟨b, 0, none⟩)] 72)).alloc (.cells #[.int .i64 (base), .int .i64 (base + 1), .int .i64 (base + 2 + bk), .int .i64 (3), .int .i64 (2), .int .i64 (cap)] 82)) := ((Chg.refl [] w1).alloc _).alloc _
  have HC := Lib.hid (hC.chg hx2)
  have HK := Lib.hid (Kp.of_nil (base := w.heap.size) (hx.trans hx2))
  have HB : Hid (Blk ((w1.alloc (.cells #[.pointer (some ⟨b, 0, none⟩)] 72)).alloc (.cells #[.int .i64 (base), .int .i64 (base + 1), .int .i64 (base + 2 + bk), .int .i64 (3), .int .i64 (2), .int .i64 (cap)] 82)) (w1.heap.size + 1) [.int .i64 (base), .int .i64 (base + 1), .int .i64 (base + 2 + bk), .int .i64 (3), .int .i64 (2), .int .i64 (cap)] 82) := Lib.hid (by have := Blk.new (w1.alloc (.cells #[.pointer (some ⟨b, 0, none⟩)] 72)) [.int .i64 (base), .int .i64 (base + 1), .int .i64 (base + 2 + bk), .int .i64 (3), .int .i64 (2), .int .i64 (cap)] 82; simpa using this)
  have HD := Lib.hid ((Blk.new w1 [.pointer (some ⟨b, 0, none⟩)] 72).alloc (.cells #[.int .i64 (base), .int .i64 (base + 1), .int .i64 (base + 2 + bk), .int .i64 (3), .int .i64 (2), .int .i64 (cap)] 82))
  clear hC hx hx2
  go_wp2_with fail
  refine (cutting_any _ _ _ b _ (hPool base bk cap) HPo.out (by omega) _ _ _ hcut1_enters 2 _ (by decide) (hcut1_clo _ b _ _ (hPool base bk cap) HPo.out) HD.out HB.out HC.out).mono ?_
  rintro e w2 ⟨v, rfl, hr, hK⟩
  have HR := Lib.hid hr
  replace HK := Lib.hid (HK.out.trans hK)
  clear hr hK
  go_wp2_with fail
  go_ret2
  exact ⟨_, rfl, HR.out, HK.out.chg (Nat.le_refl _)⟩

def treePutL (base cap k v : Int) : List Ins := (treeS base cap k v).putting (tPool base cap) (fun s => s.tput1 (tPool base cap))
theorem TreePut_no (w : World) (base cap k v : Int) (h : fitsB base (tSize cap) = false) :
    Calls Try.prog 30 #[.int .i64 base, .int .i64 cap, .int .u64 k, .int .u64 v] w (ApiNo w) := by
  have HF := Lib.hid h
  clear h
  go_enter Try.func30, Try.ntmps30
  go_wp2_with fail
  refine (treed_no _ base cap k v HF.out).mono ?_
  rintro e w1 ⟨rfl, hx⟩
  have HX := Lib.hid hx
  clear hx
  go_wp2_with fail
  go_ret2
  exact ⟨rfl, (HX.out.alloc _).alloc _⟩

set_option maxHeartbeats 2000000 in
theorem TreePut_yes (w : World) (base cap k v : Int) (hk0 : 0 ≤ k) (hk1 : k ≤ 18446744073709551615) (hv0 : 0 ≤ v) (hv1 : v ≤ 18446744073709551615) (h : fitsB base (tSize cap) = true) :
    Calls Try.prog 30 #[.int .i64 base, .int .i64 cap, .int .u64 k, .int .u64 v] w (ApiYes w (treePutL base cap k v)) := by
  have HF := Lib.hid h
  have HPo := Lib.hid (tPool_ok h).1
  have hmf : ∀ (fn : Fn) (first cap : Array Value) (w : World), (Instr.makeFunc fn first cap).run Try.prog w = .ok (.func fn first cap) w := fun _ _ _ _ => rfl
  clear h
  go_enter Try.func30, Try.ntmps30
  go_wp2_with fail
  refine (treed_yes _ base cap k v hk0 hk1 hv0 hv1 HF.out).mono ?_
  rintro e w1 ⟨b, rfl, hC, hx⟩
  have hx2 : Chg [] w1 ((w1.alloc (.cells #[.pointer (some ⟨b, 0, none⟩)] 72)).alloc (.cells #[.int .i64 (base + 1), .int .i64 (base + 2), .int .i64 (base + 3), .int .i64 (4), .int .i64 (2), .int .i64 (cap)] 82)) := ((Chg.refl [] w1).alloc _).alloc _
  have HC := Lib.hid (hC.chg hx2)
  have HK := Lib.hid (Kp.of_nil (base := w.heap.size) (hx.trans hx2))
  have HB : Hid (Blk ((w1.alloc (.cells #[.pointer (some ⟨b, 0, none⟩)] 72)).alloc (.cells #[.int .i64 (base + 1), .int .i64 (base + 2), .int .i64 (base + 3), .int .i64 (4), .int .i64 (2), .int .i64 (cap)] 82)) (w1.heap.size + 1) [.int .i64 (base + 1), .int .i64 (base + 2), .int .i64 (base + 3), .int .i64 (4), .int .i64 (2), .int .i64 (cap)] 82) := Lib.hid (by have := Blk.new (w1.alloc (.cells #[.pointer (some ⟨b, 0, none⟩)] 72)) [.int .i64 (base + 1), .int .i64 (base + 2), .int .i64 (base + 3), .int .i64 (4), .int .i64 (2), .int .i64 (cap)] 82; simpa using this)
  have HD := Lib.hid ((Blk.new w1 [.pointer (some ⟨b, 0, none⟩)] 72).alloc (.cells #[.int .i64 (base + 1), .int .i64 (base + 2), .int .i64 (base + 3), .int .i64 (4), .int .i64 (2), .int .i64 (cap)] 82))
  clear hC hx hx2
  go_wp2_with fail
  refine (putting_any _ _ _ b _ (tPool base cap) HPo.out (by omega) _ _ _ tput1_enters 2 _ (by decide) (tput1_clo _ b _ _ (tPool base cap) HPo.out) HD.out HB.out HC.out).mono ?_
  rintro e w2 ⟨v, rfl, hr, hK⟩
  have HR := Lib.hid hr
  replace HK := Lib.hid (HK.out.trans hK)
  clear hr hK
  go_wp2_with fail
  go_ret2
  exact ⟨_, rfl, HR.out, HK.out.chg (Nat.le_refl _)⟩

def treeGetL (base cap k : Int) : List Ins := (treeS base cap k 0).getting (tPool base cap)
theorem TreeGet_no (w : World) (base cap k : Int) (h : fitsB base (tSize cap) = false) :
    Calls Try.prog 33 #[.int .i64 base, .int .i64 cap, .int .u64 k] w (ApiNo w) := by
  have HF := Lib.hid h
  clear h
  go_enter Try.func33, Try.ntmps33
  go_wp2_with fail
  refine (treed_no _ base cap k 0 HF.out).mono ?_
  rintro e w1 ⟨rfl, hx⟩
  have HX := Lib.hid hx
  clear hx
  go_wp2_with fail
  go_ret2
  exact ⟨rfl, HX.out.alloc _⟩

set_option maxHeartbeats 2000000 in
theorem TreeGet_yes (w : World) (base cap k : Int) (hk0 : 0 ≤ k) (hk1 : k ≤ 18446744073709551615) (h : fitsB base (tSize cap) = true) :
    Calls Try.prog 33 #[.int .i64 base, .int .i64 cap, .int .u64 k] w (ApiYes w (treeGetL base cap k)) := by
  have HF := Lib.hid h
  have HPo := Lib.hid (tPool_ok h).1
  have hmf : ∀ (fn : Fn) (first cap : Array Value) (w : World), (Instr.makeFunc fn first cap).run Try.prog w = .ok (.func fn first cap) w := fun _ _ _ _ => rfl
  clear h
  go_enter Try.func33, Try.ntmps33
  go_wp2_with fail
  refine (treed_yes _ base cap k 0 hk0 hk1 (by decide) (by decide) HF.out).mono ?_
  rintro e w1 ⟨b, rfl, hC, hx⟩
  have hx2 : Chg [] w1 (w1.alloc (.cells #[.int .i64 (base + 1), .int .i64 (base + 2), .int .i64 (base + 3), .int .i64 (4), .int .i64 (2), .int .i64 (cap)] 82)) := (Chg.refl [] w1).alloc _
  have HC := Lib.hid (hC.chg hx2)
  have HK := Lib.hid (Kp.of_nil (base := w.heap.size) (hx.trans hx2))
  have HB : Hid (Blk (w1.alloc (.cells #[.int .i64 (base + 1), .int .i64 (base + 2), .int .i64 (base + 3), .int .i64 (4), .int .i64 (2), .int .i64 (cap)] 82)) (w1.heap.size) [.int .i64 (base + 1), .int .i64 (base + 2), .int .i64 (base + 3), .int .i64 (4), .int .i64 (2), .int .i64 (cap)] 82) := Lib.hid (by have := Blk.new w1 [.int .i64 (base + 1), .int .i64 (base + 2), .int .i64 (base + 3), .int .i64 (4), .int .i64 (2), .int .i64 (cap)] 82; simpa using this)
  clear hC hx hx2
  go_wp2_with fail
  refine (getting_any _ _ _ b _ (tPool base cap) HPo.out (by omega) HC.out).mono ?_
  rintro e w2 ⟨v, rfl, hr, hK⟩
  have HR := Lib.hid hr
  replace HK := Lib.hid (HK.out.trans hK)
  clear hr hK
  go_wp2_with fail
  go_ret2
  exact ⟨_, rfl, HR.out, HK.out.chg (Nat.le_refl _)⟩

def treeCutL (base cap k : Int) : List Ins := (treeS base cap k 0).cutting (tPool base cap) (fun s => s.tcut1 (tPool base cap))
theorem TreeCut_no (w : World) (base cap k : Int) (h : fitsB base (tSize cap) = false) :
    Calls Try.prog 32 #[.int .i64 base, .int .i64 cap, .int .u64 k] w (ApiNo w) := by
  have HF := Lib.hid h
  clear h
  go_enter Try.func32, Try.ntmps32
  go_wp2_with fail
  refine (treed_no _ base cap k 0 HF.out).mono ?_
  rintro e w1 ⟨rfl, hx⟩
  have HX := Lib.hid hx
  clear hx
  go_wp2_with fail
  go_ret2
  exact ⟨rfl, (HX.out.alloc _).alloc _⟩

set_option maxHeartbeats 2000000 in
theorem TreeCut_yes (w : World) (base cap k : Int) (hk0 : 0 ≤ k) (hk1 : k ≤ 18446744073709551615) (h : fitsB base (tSize cap) = true) :
    Calls Try.prog 32 #[.int .i64 base, .int .i64 cap, .int .u64 k] w (ApiYes w (treeCutL base cap k)) := by
  have HF := Lib.hid h
  have HPo := Lib.hid (tPool_ok h).1
  have hmf : ∀ (fn : Fn) (first cap : Array Value) (w : World), (Instr.makeFunc fn first cap).run Try.prog w = .ok (.func fn first cap) w := fun _ _ _ _ => rfl
  clear h
  go_enter Try.func32, Try.ntmps32
  go_wp2_with fail
  refine (treed_yes _ base cap k 0 hk0 hk1 (by decide) (by decide) HF.out).mono ?_
  rintro e w1 ⟨b, rfl, hC, hx⟩
  have hx2 : Chg [] w1 ((w1.alloc (.cells #[.pointer (some ⟨b, 0, none⟩)] 72)).alloc (.cells #[.int .i64 (base + 1), .int .i64 (base + 2), .int .i64 (base + 3), .int .i64 (4), .int .i64 (2), .int .i64 (cap)] 82)) := ((Chg.refl [] w1).alloc _).alloc _
  have HC := Lib.hid (hC.chg hx2)
  have HK := Lib.hid (Kp.of_nil (base := w.heap.size) (hx.trans hx2))
  have HB : Hid (Blk ((w1.alloc (.cells #[.pointer (some ⟨b, 0, none⟩)] 72)).alloc (.cells #[.int .i64 (base + 1), .int .i64 (base + 2), .int .i64 (base + 3), .int .i64 (4), .int .i64 (2), .int .i64 (cap)] 82)) (w1.heap.size + 1) [.int .i64 (base + 1), .int .i64 (base + 2), .int .i64 (base + 3), .int .i64 (4), .int .i64 (2), .int .i64 (cap)] 82) := Lib.hid (by have := Blk.new (w1.alloc (.cells #[.pointer (some ⟨b, 0, none⟩)] 72)) [.int .i64 (base + 1), .int .i64 (base + 2), .int .i64 (base + 3), .int .i64 (4), .int .i64 (2), .int .i64 (cap)] 82; simpa using this)
  have HD := Lib.hid ((Blk.new w1 [.pointer (some ⟨b, 0, none⟩)] 72).alloc (.cells #[.int .i64 (base + 1), .int .i64 (base + 2), .int .i64 (base + 3), .int .i64 (4), .int .i64 (2), .int .i64 (cap)] 82))
  clear hC hx hx2
  go_wp2_with fail
  refine (cutting_any _ _ _ b _ (tPool base cap) HPo.out (by omega) _ _ _ tcut1_enters 31 _ (by decide) (tcut1_clo _ b _ _ (tPool base cap) HPo.out) HD.out HB.out HC.out).mono ?_
  rintro e w2 ⟨v, rfl, hr, hK⟩
  have HR := Lib.hid hr
  replace HK := Lib.hid (HK.out.trans hK)
  clear hr hK
  go_wp2_with fail
  go_ret2
  exact ⟨_, rfl, HR.out, HK.out.chg (Nat.le_refl _)⟩

end Go.Proofs.Ythlhjahhjoclfaa
