/- Instructions; Same; the document's Join. -/
import Derived.Test.YthlhjahhjoclfaaChecked
import Derived.Test.YthlhjahhjoclfaaRows
import Derived.Test.YthlhjahhjoclfaaEl
import Derived.Test.YthlhjahhjoclfaaArr
import Derived.StillTailTactics
namespace Go.Proofs.Ythlhjahhjoclfaa
open Go.RowKit

/-- An instruction. -/
structure Ins where
  op : Int
  a : Int
  b : Int
  c : Int
  imm : Int
def encI (x : Ins) : List Value := [.int .i64 x.op, .int .i64 x.a, .int .i64 x.b, .int .i64 x.c, .int .i64 x.imm]
theorem encI_len (x : Ins) : (encI x).length = 5 := rfl
abbrev RdI (w : World) (B : Nat) (A : Option Addr) (l : List Ins) : Prop := Rd w B A 5 encI l

theorem infoIns : (Try.prog.info? 25).map (fun i => (i.zero, i.size, i.bytes)) = some (some (.agg #[.int .i64 0, .int .i64 0, .int .i64 0, .int .i64 0, .int .i64 0]), 5, 40) := by kernel_rfl

def SmRel (W : World) (n : Nat) (i : Value) (wr : World) : Prop := ∃ k q : Nat, k ≤ n ∧ i = .int .i64 k ∧ wr = W.drewN q

set_option maxHeartbeats 1000000 in
theorem Same_true (W : World) (A B : Option Addr) (cap cap' n₀ n₁ : Nat) (l : List Ins) (hm : l.length ≤ 100000) (hA : RdI W n₀ A l) (hB : RdI W n₁ B l) :
    Calls Try.prog 11 #[.slice A l.length cap, .slice B l.length cap'] W fun e w' => e = .returned (.bool true) ∧ ∃ q, w' = W.drewN q := by
  have HA := Lib.hid hA
  have HB := Lib.hid hB
  have hm' : (l.length : Int) ≤ 100000 := by omega
  clear hA hB
  go_enter Try.func11, Try.ntmps11
  go_wp2_with fail
  go_loopw [5] (fun i wr => SmRel W l.length i wr) (fun i _ => l.length - (intOf i).toNat)
  case atStart => exact ⟨0, 0, Nat.zero_le _, rfl, rfl⟩
  case round =>
    obtain ⟨k, q, hk, rfl, rfl⟩ := hrel
    by_cases hlt : k < l.length
    · obtain ⟨b, off, rfl, _, c⟩ := HA.out (by omega)
      obtain ⟨b2, off2, rfl, _, d⟩ := HB.out (by omega)
      have c0 : W.cell? ⟨b, off + k * 5, none⟩ = some (.int .i64 l[k].op) := c k hlt 0 (by decide)
      have c1 : W.cell? ⟨b, off + k * 5 + 1, none⟩ = some (.int .i64 l[k].a) := c k hlt 1 (by decide)
      have c2 : W.cell? ⟨b, off + k * 5 + 2, none⟩ = some (.int .i64 l[k].b) := c k hlt 2 (by decide)
      have c3 : W.cell? ⟨b, off + k * 5 + 3, none⟩ = some (.int .i64 l[k].c) := c k hlt 3 (by decide)
      have c4 : W.cell? ⟨b, off + k * 5 + 4, none⟩ = some (.int .i64 l[k].imm) := c k hlt 4 (by decide)
      have d0 : W.cell? ⟨b2, off2 + k * 5, none⟩ = some (.int .i64 l[k].op) := d k hlt 0 (by decide)
      have d1 : W.cell? ⟨b2, off2 + k * 5 + 1, none⟩ = some (.int .i64 l[k].a) := d k hlt 1 (by decide)
      have d2 : W.cell? ⟨b2, off2 + k * 5 + 2, none⟩ = some (.int .i64 l[k].b) := d k hlt 2 (by decide)
      have d3 : W.cell? ⟨b2, off2 + k * 5 + 3, none⟩ = some (.int .i64 l[k].c) := d k hlt 3 (by decide)
      have d4 : W.cell? ⟨b2, off2 + k * 5 + 4, none⟩ = some (.int .i64 l[k].imm) := d k hlt 4 (by decide)
      clear c d
      generalize l[k].op = x0 at *
      generalize l[k].a = x1 at *
      generalize l[k].b = x2 at *
      generalize l[k].c = x3 at *
      generalize l[k].imm = x4 at *
      go_wp2_with fail
      go_quiet (fail)
      go_wp2_with fail
      go_roundw
      case rel => exact ⟨k + 1, _, by omega, by go_num, rfl⟩
      case measure => simp [intOf]; omega
    · obtain rfl : k = l.length := by omega
      go_wp2_with fail
      go_ret
      exact ⟨rfl, q, rfl⟩

end Go.Proofs.Ythlhjahhjoclfaa
