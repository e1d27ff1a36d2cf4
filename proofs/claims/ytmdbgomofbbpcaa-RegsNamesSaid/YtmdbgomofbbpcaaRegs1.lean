/- A register file and its calls, each by a contract: what it answers, and how the file stands behind it. -/
import Derived.Test.YtmdbgomofbbpcaaRows
import Derived.Test.YtmdbgomofbbpcaaLib
import Derived.Test.YtmdbgomofbbpcaaArr
namespace Go.Proofs.Ytmdbgomofbbpcaa
open Go.RowKit

def zeros8 : List Int := [0, 0, 0, 0, 0, 0, 0, 0]
/-- A file as the document has it: registers, a place; whether there is a checkpoint, and what it has. -/
structure RF where
  rs : List Int
  pc : Int
  is : Bool
  ps : List Int
  to : Int
def fNew : RF := ⟨zeros8, 0, false, zeros8, 0⟩
def fSet (F : RF) (i v : Int) : RF := ⟨memPut F.rs i v, F.pc, F.is, F.ps, F.to⟩
def fJump (F : RF) (n : Int) : RF := ⟨F.rs, if 0 ≤ n then n else F.pc, F.is, F.ps, F.to⟩
def jumpErr (n : Int) : Int := if 0 ≤ n then 0 else 2
def fSave (F : RF) : RF := ⟨F.rs, F.pc, true, F.rs, F.pc⟩
def fRestore (F : RF) : RF := if F.is then ⟨F.ps, F.to, F.is, F.ps, F.to⟩ else F
def fDrop (F : RF) : RF := if F.is then ⟨F.rs, F.pc, false, zeros8, 0⟩ else F
def markErr (F : RF) : Int := if F.is then 0 else 60

structure RF.Ok (F : RF) : Prop where
  len : F.rs.length = 8
  plen : F.ps.length = 8
  pc0 : 0 ≤ F.pc
  pc1 : F.pc ≤ 9223372036854775807
  to0 : 0 ≤ F.to
  to1 : F.to ≤ 9223372036854775807
  no : F.is = false → F.ps = zeros8 ∧ F.to = 0

theorem RF.Ok.new : fNew.Ok := ⟨rfl, rfl, by decide, by decide, by decide, by decide, fun _ => ⟨rfl, rfl⟩⟩
theorem memPut_length (ws : List Int) (a v : Int) : (memPut ws a v).length = ws.length := by simp only [memPut]; split <;> simp
theorem RF.Ok.set {F : RF} (h : F.Ok) (i v : Int) : (fSet F i v).Ok := ⟨by simp [fSet, memPut_length, h.len], h.plen, h.pc0, h.pc1, h.to0, h.to1, h.no⟩
theorem RF.Ok.jump {F : RF} (h : F.Ok) {n : Int} (hn : n ≤ 9223372036854775807) : (fJump F n).Ok := by
  refine ⟨h.len, h.plen, ?_, ?_, h.to0, h.to1, h.no⟩ <;> (simp only [fJump]; split <;> first | exact h.pc0 | exact h.pc1 | omega)
theorem RF.Ok.save {F : RF} (h : F.Ok) : (fSave F).Ok := ⟨h.len, h.len, h.pc0, h.pc1, h.pc0, h.pc1, fun e => by cases e⟩
theorem RF.Ok.restore {F : RF} (h : F.Ok) : (fRestore F).Ok := by
  unfold fRestore
  split
  · exact ⟨h.plen, h.plen, h.to0, h.to1, h.to0, h.to1, h.no⟩
  · exact h
theorem RF.Ok.drop {F : RF} (h : F.Ok) : (fDrop F).Ok := by
  unfold fDrop
  split
  · exact ⟨h.len, rfl, h.pc0, h.pc1, by simp, by simp, fun _ => ⟨rfl, rfl⟩⟩
  · exact h

theorem eight {l : List Int} (h : l.length = 8) : ∃ r0 r1 r2 r3 r4 r5 r6 r7, l = [r0, r1, r2, r3, r4, r5, r6, r7] := by
  match l, h with
  | [r0, r1, r2, r3, r4, r5, r6, r7], _ => exact ⟨r0, r1, r2, r3, r4, r5, r6, r7, rfl⟩

/-- The pointer to the checkpoint, and its block. -/
inductive PtAt (w : World) (pv : Value) (F : RF) : Prop where
  | noPt (h : F.is = false) (e : pv = .pointer none)
  | onPt (bp : Nat) (h : F.is = true) (e : pv = .pointer (some ⟨bp, 0, none⟩)) (b : Blk w bp (F.ps.map (Value.int .u64) ++ [.int .i64 F.to]) 46)

/-- A file at block b. -/
structure FileAt (w : World) (b : Nat) (F : RF) : Prop where
  ok : F.Ok
  blk : ∃ pv, Blk w b (F.rs.map (Value.int .u64) ++ [.int .i64 F.pc, pv, .bool true]) 49 ∧ PtAt w pv F

section
variable {w w' : World} {b : Nat} {F : RF}
theorem PtAt.alloc {pv : Value} (h : PtAt w pv F) (o : Obj) : PtAt (w.alloc o) pv F := by
  cases h with
  | noPt h e => exact .noPt h e
  | onPt bp h e b => exact .onPt bp h e (b.alloc o)
theorem PtAt.drew {pv : Value} (h : PtAt w pv F) : PtAt w.drew pv F := by
  cases h with
  | noPt h e => exact .noPt h e
  | onPt bp h e b => exact .onPt bp h e b
theorem FileAt.alloc (h : FileAt w b F) (o : Obj) : FileAt (w.alloc o) b F := ⟨h.ok, by obtain ⟨pv, x, y⟩ := h.blk; exact ⟨pv, x.alloc o, y.alloc o⟩⟩
theorem FileAt.drew (h : FileAt w b F) : FileAt w.drew b F := ⟨h.ok, by obtain ⟨pv, x, y⟩ := h.blk; exact ⟨pv, x, y.drew⟩⟩
theorem FileAt.drewN (h : FileAt w b F) (n : Nat) : FileAt (w.drewN n) b F := ⟨h.ok, by
  obtain ⟨pv, x, y⟩ := h.blk
  refine ⟨pv, x.drewN n, ?_⟩
  cases y with
  | noPt h e => exact .noPt h e
  | onPt bp h e b => exact .onPt bp h e (b.drewN n)⟩
theorem FileAt.lt (h : FileAt w b F) : b < w.heap.size := by obtain ⟨_, x, _⟩ := h.blk; exact x.lt
/-- What leaves the file's block and all blocks of checkpoints leaves the file. -/
theorem FileAt.chg {S : List Nat} (h : FileAt w b F) (k : Chg S w w') (hb : b ∉ S) (hs : ∀ c ∈ S, ∀ cs, ¬ Blk w c cs 46) : FileAt w' b F := by
  obtain ⟨ok, pv, x, y⟩ := h
  refine ⟨ok, pv, k.blk x hb, ?_⟩
  cases y with
  | noPt h e => exact .noPt h e
  | onPt bp h e b => exact .onPt bp h e (k.blk b (fun hc => hs _ hc _ b))
/-- A change of the one block c of another type. -/
theorem FileAt.chg1 {c : Nat} {l : List Value} {t : TypeId} (h : FileAt w b F) (k : Chg [c] w w') (hc : Blk w c l t) (hb : b ≠ c) (ht : t ≠ 46) : FileAt w' b F :=
  h.chg k (by simpa using hb) (by intro x hx cs hx'; simp at hx; subst hx; exact ht (hc.inj hx').2)
theorem FileAt.below {B : Nat} (h : FileAt w b F) (hB : Below B w w') (h1 : b < B) (h2 : ∀ c cs, Blk w c cs 46 → c < B) : FileAt w' b F := by
  obtain ⟨ok, pv, x, y⟩ := h
  refine ⟨ok, pv, (hB.block _ h1).trans x, ?_⟩
  cases y with
  | noPt h e => exact .noPt h e
  | onPt bp h e b => exact .onPt bp h e ((hB.block _ (h2 _ _ b)).trans b)
theorem FileAt.block (h : FileAt w b F) : ∃ cs, Blk w b cs 49 := by obtain ⟨_, x, _⟩ := h.blk; exact ⟨_, x⟩
theorem FileAt.made (h : FileAt w b F) : w.cell? ⟨b, 10, none⟩ = some (.bool true) := by
  obtain ⟨pv, x, _⟩ := h.blk
  rw [x.cell, List.getElem?_append_right (by simp [h.ok.len])]; simp [h.ok.len]
theorem FileAt.pcCell (h : FileAt w b F) : w.cell? ⟨b, 8, none⟩ = some (.int .i64 F.pc) := by
  obtain ⟨pv, x, _⟩ := h.blk
  rw [x.cell, List.getElem?_append_right (by simp [h.ok.len])]; simp [h.ok.len]
theorem FileAt.reg (h : FileAt w b F) {i : Nat} (hi : i < 8) : w.cell? ⟨b, i, none⟩ = some (.int .u64 (F.rs[i]?.getD 0)) := by
  obtain ⟨pv, x, _⟩ := h.blk
  rw [x.cell, List.getElem?_append_left (by simp [h.ok.len, hi])]; exact map_get (by rw [h.ok.len]; exact hi)
theorem FileAt.free (h : FileAt w b F) (i : Nat) : w.frozen? ⟨b, i, none⟩ = false := by obtain ⟨_, x, _⟩ := h.blk; exact x.free i
theorem PtAt.set {pv : Value} (h : PtAt w pv F) {G : RF} {l : List Value} (hb : Blk w b l 49) (i : Nat) (v : Value) (e1 : G.is = F.is) (e2 : G.ps = F.ps) (e3 : G.to = F.to) : PtAt (w.setCell ⟨b, i, none⟩ v) pv G := by
  cases h with
  | noPt h e => exact .noPt (e1.trans h) e
  | onPt bp h e k => exact .onPt bp (e1.trans h) e (by rw [e2, e3]; exact k.other (hb.ne k (by decide)) v)
end

set_option maxHeartbeats 400000 in
theorem none_any (w : World) (b : Nat) (hm : w.cell? ⟨b, 10, none⟩ = some (.bool true)) :
    Calls Try.prog 31 #[.pointer (some ⟨b, 0, none⟩)] w fun e w' => e = .returned (.bool false) ∧ w = w' := by
  go_enter Try.func31, Try.ntmps31
  go_wp2
  go_ret
  exact ⟨rfl, rfl⟩

set_option maxHeartbeats 400000 in
theorem none_zero (w : World) (b : Nat) (hm : w.cell? ⟨b, 10, none⟩ = some (.bool false)) :
    Calls Try.prog 31 #[.pointer (some ⟨b, 0, none⟩)] w fun e w' => e = .returned (.bool true) ∧ w = w' := by
  go_enter Try.func31, Try.ntmps31
  go_wp2
  go_ret
  exact ⟨rfl, rfl⟩

set_option maxHeartbeats 400000 in
theorem none_nil (w : World) :
    Calls Try.prog 31 #[.pointer none] w fun e w' => e = .returned (.bool true) ∧ w = w' := by
  go_enter Try.func31, Try.ntmps31
  go_wp2
  go_ret
  exact ⟨rfl, rfl⟩

set_option maxHeartbeats 400000 in
theorem where_any (w : World) (b : Nat) (i : Int) (hm : w.cell? ⟨b, 10, none⟩ = some (.bool true)) :
    Calls Try.prog 30 #[.pointer (some ⟨b, 0, none⟩), .int .i64 i] w fun e w' => e = .returned (.int .i64 (memErr 8 i)) ∧ w = w' := by
  by_cases h : 0 ≤ i ∧ i < 8
  · rw [memErr_in h]
    obtain ⟨h0, h1⟩ := h
    go_enter Try.func30, Try.ntmps30
    go_wp2_with fail
    refine (none_any _ _ hm).mono ?_
    rintro e w' ⟨rfl, rfl⟩
    go_wp2_with fail
    go_ret
    exact ⟨rfl, rfl⟩
  · rw [memErr_out h]
    have h' : i < 0 ∨ 8 ≤ i := by omega
    clear h
    rcases h' with h | h
    all_goals
      go_enter Try.func30, Try.ntmps30
      go_wp2_with fail
      refine (none_any _ _ hm).mono ?_
      rintro e w' ⟨rfl, rfl⟩
      go_wp2_with fail
      go_ret
      exact ⟨rfl, rfl⟩

/-- A file that was not made, or none: each call has the first error. -/
def NoFile (w : World) (v : Value) : Prop := v = .pointer none ∨ ∃ b, v = .pointer (some ⟨b, 0, none⟩) ∧ w.cell? ⟨b, 10, none⟩ = some (.bool false)

theorem none_no (w : World) (v : Value) (h : NoFile w v) :
    Calls Try.prog 31 #[v] w fun e w' => e = .returned (.bool true) ∧ w = w' := by
  rcases h with rfl | ⟨b, rfl, hm⟩
  · exact none_nil w
  · exact none_zero w b hm

theorem where_no (w : World) (v : Value) (i : Int) (h : NoFile w v) :
    Calls Try.prog 30 #[v, .int .i64 i] w fun e w' => e = .returned (.int .i64 1) ∧ w = w' := by
  go_enter Try.func30, Try.ntmps30
  go_wp2_with fail
  refine (none_no _ _ h).mono ?_
  rintro e w' ⟨rfl, rfl⟩
  go_wp2_with fail
  go_ret
  exact ⟨rfl, rfl⟩

theorem marked_no (w : World) (v : Value) (h : NoFile w v) :
    Calls Try.prog 29 #[v] w fun e w' => e = .returned (.int .i64 1) ∧ w = w' := by
  go_enter Try.func29, Try.ntmps29
  go_wp2_with fail
  refine (none_no _ _ h).mono ?_
  rintro e w' ⟨rfl, rfl⟩
  go_wp2_with fail
  go_ret
  exact ⟨rfl, rfl⟩

theorem Get_no (w : World) (v : Value) (i : Int) (h : NoFile w v) :
    Calls Try.prog 16 #[v, .int .i64 i] w fun e w' => e = .returned (.tuple #[.int .u64 0, .int .i64 1]) ∧ w = w' := by
  go_enter Try.func16, Try.ntmps16
  go_wp2_with fail
  refine (where_no _ _ _ h).mono ?_
  rintro e w' ⟨rfl, rfl⟩
  go_wp2_with fail
  go_ret2
  exact ⟨rfl, rfl⟩

theorem Set_no (w : World) (v : Value) (i x : Int) (h : NoFile w v) :
    Calls Try.prog 15 #[v, .int .i64 i, .int .u64 x] w fun e w' => e = .returned (.int .i64 1) ∧ w = w' := by
  go_enter Try.func15, Try.ntmps15
  go_wp2_with fail
  refine (where_no _ _ _ h).mono ?_
  rintro e w' ⟨rfl, rfl⟩
  go_wp2_with fail
  go_ret
  exact ⟨rfl, rfl⟩

theorem Jump_no (w : World) (v : Value) (i : Int) (h : NoFile w v) :
    Calls Try.prog 17 #[v, .int .i64 i] w fun e w' => e = .returned (.int .i64 1) ∧ w = w' := by
  go_enter Try.func17, Try.ntmps17
  go_wp2_with fail
  refine (none_no _ _ h).mono ?_
  rintro e w' ⟨rfl, rfl⟩
  go_wp2_with fail
  go_ret
  exact ⟨rfl, rfl⟩

theorem Save_no (w : World) (v : Value) (h : NoFile w v) :
    Calls Try.prog 18 #[v] w fun e w' => e = .returned (.int .i64 1) ∧ w = w' := by
  go_enter Try.func18, Try.ntmps18
  go_wp2_with fail
  refine (none_no _ _ h).mono ?_
  rintro e w' ⟨rfl, rfl⟩
  go_wp2_with fail
  go_ret
  exact ⟨rfl, rfl⟩

theorem PC_no (w : World) (v : Value) (h : NoFile w v) :
    Calls Try.prog 20 #[v] w fun e w' => e = .returned (.int .i64 0) ∧ w = w' := by
  go_enter Try.func20, Try.ntmps20
  go_wp2_with fail
  refine (none_no _ _ h).mono ?_
  rintro e w' ⟨rfl, rfl⟩
  go_wp2_with fail
  go_ret
  exact ⟨rfl, rfl⟩

theorem Drop_no (w : World) (v : Value) (h : NoFile w v) :
    Calls Try.prog 13 #[v] w fun e w' => e = .returned (.int .i64 1) ∧ w = w' := by
  go_enter Try.func13, Try.ntmps13
  go_wp2_with fail
  refine (marked_no _ _ h).mono ?_
  rintro e w' ⟨rfl, rfl⟩
  go_wp2_with fail
  go_ret
  exact ⟨rfl, rfl⟩

end Go.Proofs.Ytmdbgomofbbpcaa
