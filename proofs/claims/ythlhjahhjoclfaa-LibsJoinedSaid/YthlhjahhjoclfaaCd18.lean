/- The document's Do, for the instructions that codes are made of. -/
import Derived.Test.YthlhjahhjoclfaaCd17
namespace Go.Proofs.Ythlhjahhjoclfaa
set_option maxRecDepth 100000
open Go.RowKit

/-- A register. -/
def rg (r : List Int) (k : Int) : Int := r.getD k.toNat 0
def u64 (x : Int) : Int := IntKind.u64.wrap x
def shlV : Nat → Int → Int
  | 0, v => v
  | n + 1, v => u64 (shlV n v + shlV n v)
/-- What an instruction asks for: kind, next, register, value, address. -/
structure Ef where
  kind : Int
  next : Int
  reg : Int
  value : Int
  addr : Int
def doE (i : Ins) (r : List Int) (pc : Int) : Ef :=
  if i.op = 2 then ⟨1, pc + 1, i.a, u64 i.imm, 0⟩ else
  if i.op = 3 then ⟨1, pc + 1, i.a, rg r i.b, 0⟩ else
  if i.op = 4 then ⟨1, pc + 1, i.a, u64 (rg r i.b + rg r i.c), 0⟩ else
  if i.op = 5 then ⟨1, pc + 1, i.a, u64 (rg r i.b - rg r i.c), 0⟩ else
  if i.op = 7 then ⟨1, pc + 1, i.a, bits BinOp.and IntKind.u64 (rg r i.b) (rg r i.c), 0⟩ else
  if i.op = 9 then ⟨1, pc + 1, i.a, shlV ((rg r i.c).toNat % 64) (rg r i.b), 0⟩ else
  if i.op = 11 then ⟨3, pc + 1, i.a, 0, u64 (rg r i.b + u64 i.imm)⟩ else
  if i.op = 12 then ⟨4, pc + 1, 0, rg r i.a, u64 (rg r i.b + u64 i.imm)⟩ else
  if i.op = 13 then ⟨2, i.imm, 0, 0, 0⟩ else
  if i.op = 14 then ⟨2, if rg r i.a = rg r i.b then i.imm else pc + 1, 0, 0, 0⟩ else
  if i.op = 15 then ⟨2, if rg r i.a = rg r i.b then pc + 1 else i.imm, 0, 0, 0⟩ else
  if i.op = 16 then ⟨2, if rg r i.a < rg r i.b then i.imm else pc + 1, 0, 0, 0⟩ else
  if i.op = 17 then ⟨5, pc + 1, 0, 0, 0⟩ else ⟨6, pc + 1, 0, 0, 0⟩

theorem reg_cell {w : World} {g : Nat} {r0 r1 r2 r3 r4 r5 r6 r7 : Int} (h : Blk w g [.int .u64 r0, .int .u64 r1, .int .u64 r2, .int .u64 r3, .int .u64 r4, .int .u64 r5, .int .u64 r6, .int .u64 r7] 63) {k : Nat} (hk : k < 8) : w.cell? ⟨g, k, none⟩ = some (.int .u64 (rg [r0, r1, r2, r3, r4, r5, r6, r7] k)) := by
  rw [h.cell]
  rcases (by omega : k = 0 ∨ k = 1 ∨ k = 2 ∨ k = 3 ∨ k = 4 ∨ k = 5 ∨ k = 6 ∨ k = 7) with rfl | rfl | rfl | rfl | rfl | rfl | rfl | rfl <;> rfl

set_option maxHeartbeats 1000000 in
theorem shifted_any (w : World) (v z : Int) (z0 : 0 ≤ z) (z1 : z ≤ 18446744073709551615) : Calls Try.prog 73 #[.int .u64 v, .int .u64 z, .bool true] w fun e w' => e = .returned (.int .u64 (shlV (z.toNat % 64) v)) ∧ w = w' := by
  have hz : z % 64 = ((z.toNat % 64 : Nat) : Int) := by omega
  have hm : z.toNat % 64 < 64 := Nat.mod_lt _ (by decide)
  have HZ := Lib.hid hz
  clear hz
  go_enter Try.func73, Try.ntmps73
  go_wp2_with fail
  go_loop [0, 7] (fun a k => ∃ n : Nat, n ≤ z.toNat % 64 ∧ k = .int .u64 n ∧ a = .int .u64 (shlV n v)) (fun _ k => z.toNat % 64 - (intOf k).toNat)
  case atStart => exact ⟨0, Nat.zero_le _, rfl, rfl⟩
  case round =>
    obtain ⟨n, hn, rfl, rfl⟩ := hrel
    have hsh : Hid (shlV (n + 1) v = IntKind.u64.wrap (shlV n v + shlV n v)) := Lib.hid rfl
    by_cases hlt : n < z.toNat % 64
    · have h1 : (n : Int) < z % 64 := by omega
      generalize shlV n v = sn at *
      clear hlt
      go_wp2_with fail
      go_round
      case rel => exact ⟨n + 1, by omega, by go_num, by rw [hsh.out]⟩
      case measure => simp [intOf]; omega
    · have hne : n = z.toNat % 64 := by omega
      have h1 : z % 64 ≤ (n : Int) := by omega
      have HNe := Lib.hid hne
      clear hne hlt hn hm
      generalize hs : shlV n v = sn at *
      have HS := Lib.hid hs
      clear hs
      go_wp2_with fail
      go_ret
      exact ⟨ret_int (by rw [← HNe.out, HS.out]), rfl⟩

end Go.Proofs.Ythlhjahhjoclfaa
