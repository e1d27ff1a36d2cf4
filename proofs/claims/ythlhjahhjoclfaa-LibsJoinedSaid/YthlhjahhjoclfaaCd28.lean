/- LibsSame: the plain side. -/
import Derived.Test.YthlhjahhjoclfaaCd27
namespace Go.Proofs.Ythlhjahhjoclfaa
set_option maxRecDepth 100000
open Go.RowKit

def setOp : List Ins → Nat → List Ins
  | [], _ => []
  | x :: l, 0 => { x with op := 0 } :: l
  | x :: l, k + 1 => x :: setOp l k
theorem setOp_len : ∀ (l : List Ins) (k : Nat), (setOp l k).length = l.length
  | [], _ => rfl
  | _ :: _, 0 => rfl
  | _ :: l, k + 1 => by simp [setOp, setOp_len l k]
theorem setOp_cells : ∀ (l : List Ins) (k : Nat), (l.flatMap encI).set (k * 5) (.int .i64 0) = (setOp l k).flatMap encI
  | [], _ => rfl
  | x :: l, 0 => by simp [setOp, encI]
  | x :: l, k + 1 => by
    have ih := setOp_cells l k
    simp only [setOp, List.flatMap_cons, ← ih]
    rw [List.set_append_right _ _ (by simp [encI]; omega)]
    congr 2
    simp [encI]; omega
theorem setOp_get : ∀ (l : List Ins) (k j : Nat), k < j → (setOp l k)[j]? = l[j]?
  | [], _, _, _ => rfl
  | x :: l, 0, j + 1, _ => rfl
  | x :: l, k + 1, j + 1, h => by simpa [setOp] using setOp_get l k j (by omega)

def SaRel (W : World) (B ba bb : Nat) (va vb : Value) (x : Int) (base bk cap c k v : Int) (L : List Ins) (s : Value) (wr : World) : Prop :=
  ∃ (j : Nat) (La : List Ins), j ≤ L.length ∧ s = .int .i64 j ∧ La.length = L.length ∧ (∀ i, j ≤ i → La[i]? = L[i]?) ∧ wr.ownsRow ba 25 5 va L.length (La.flatMap encI) ∧ wr.ownsRow bb 25 5 vb L.length (L.flatMap encI) ∧
    Blk wr B [.int .i64 x, .int .i64 base, .int .i64 bk, .int .i64 cap] 31 ∧ Blk wr (B + 1) [.int .i64 c, .int .u64 k, .int .u64 v] 34 ∧ Chg [] W wr
def SdRel (W : World) (bb bd : Nat) (vb vd : Value) (L : List Ins) (s : Value) (wr : World) : Prop :=
  ∃ j q : Nat, j ≤ L.length ∧ s = .int .i64 j ∧ wr = W.drewN q ∧ wr.ownsRow bb 25 5 vb L.length (L.flatMap encI) ∧ wr.ownsRow bd 25 5 vd L.length (L.flatMap encI)

theorem own_mem {g k n c : Nat} (h : k ∈ (Value.slice (some ⟨g, 0, none⟩) n c).ownBlock.toList) : k = g := by
  simp [Value.ownBlock] at h
  first | exact h | exact h.symm

theorem row_drew {w : World} {p q base n size : Nat} {e : TypeId} {v : Value} {xs : List Value} (h : (w.drewN p).ownsRow base e size v n xs) : (w.drewN q).ownsRow base e size v n xs := h

theorem and_kind (x : Int) : ∃ m : Int, bits BinOp.and IntKind.i64 x 1023 = m ∧ 0 ≤ m ∧ m ≤ 1023 := by
  refine ⟨_, rfl, ?_⟩
  have h : ∀ a : Nat, ((a &&& 1023 : Nat) : Int) ≤ 1023 := fun a => by have : a &&& 1023 ≤ 1023 := Nat.and_le_right; omega
  have e : (BitVec.ofInt IntKind.i64.bits (1023 : Int)).toNat = 1023 := by rfl
  have hb : bits BinOp.and IntKind.i64 x 1023 = (((BitVec.ofInt IntKind.i64.bits x).toNat &&& 1023 : Nat) : Int) := by
    simp only [bits, BitVec.toNat_and, e]
    have := h (BitVec.ofInt IntKind.i64.bits x).toNat
    exact IntWalk.i64_in _ (by omega)
  rw [hb]
  exact ⟨Int.natCast_nonneg _, h _⟩
end Go.Proofs.Ythlhjahhjoclfaa
