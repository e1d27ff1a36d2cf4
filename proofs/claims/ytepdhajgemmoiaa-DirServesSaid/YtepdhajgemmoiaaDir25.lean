/- The law's first example. -/
import Derived.Test.YtepdhajgemmoiaaDir24
namespace Go.Proofs.Ytepdhajgemmoiaa
set_option maxRecDepth 100000
open Go.RowKit

/-- Where a run of messages leaves a directory of two lines and two cores. -/
def stOf (ms : List MsgV) : List Int × List EntV := ms.foldl (fun s m => ((hearS 2 2 s.1 s.2 m).1, (hearS 2 2 s.1 s.2 m).2.1)) (List.replicate (8 * 2) 0, List.replicate 2 newE)
def outOf (ms : List MsgV) (m : MsgV) : List MsgV × Int := (hearS 2 2 (stOf ms).1 (stOf ms).2 m).2.2
theorem stOf_snoc (ms : List MsgV) (m : MsgV) : stOf (ms ++ [m]) = ((hearS 2 2 (stOf ms).1 (stOf ms).2 m).1, (hearS 2 2 (stOf ms).1 (stOf ms).2 m).2.1) := by
  unfold stOf; rw [List.foldl_append]; rfl
def Sees (w0 w : World) (d bm bw bl : Nat) (ms : List MsgV) : Prop :=
  ∃ es, Knows w d bm bw bl 2 2 (stOf ms).1 es (stOf ms).2 ∧ Chg [] w0 w ∧ ∀ g ∈ dirB bw bl es, w0.heap.size ≤ g
theorem Sees.look {w0 w w' : World} {d bm bw bl : Nat} {ms : List MsgV} (h : Sees w0 w d bm bw bl ms) (k : Chg [] w w') : Sees w0 w' d bm bw bl ms := by
  obtain ⟨es, K, C, g⟩ := h
  exact ⟨es, K.look k, C.trans k, g⟩
theorem Sees.hear {w0 w w' : World} {d bm bw bl : Nat} {ms : List MsgV} {es es' : List EntV} {m : MsgV} (C : Chg [] w0 w) (g : ∀ g ∈ dirB bw bl es, w0.heap.size ≤ g) (P : DirPost w w' d bm bw bl 2 2 es (hearS 2 2 (stOf ms).1 (stOf ms).2 m).1 es') (K : Knows w' d bm bw bl 2 2 (hearS 2 2 (stOf ms).1 (stOf ms).2 m).1 es' (hearS 2 2 (stOf ms).1 (stOf ms).2 m).2.1) : Sees w0 w' d bm bw bl (ms ++ [m]) :=
  ⟨es', by rw [stOf_snoc]; exact K, C.trans' P.chg (fun x hx hl => by have := g x hx; omega), fun x hx => (P.own x hx).elim (g x) (fun h => Nat.le_trans C.size h)⟩
theorem hears_lit (w0 w : World) (d bm bw bl : Nat) (ms : List MsgV) (m : MsgV) (want : List MsgV) (capw : Nat) (hwl : want.length ≤ 1000) (S : Sees w0 w d bm bw bl ms) (b : Bool) (hb : decide ((outOf ms m).2 = 0 ∧ (outOf ms m).1 = want) = b) :
    Calls Try.prog 8 #[.pointer (some ⟨d, 0, none⟩), .agg #[.int .i64 m.k, .int .i64 m.c, .int .i64 m.l, .int .u64 m.d.x0, .int .u64 m.d.x1, .int .u64 m.d.x2, .int .u64 m.d.x3, .int .u64 m.d.x4, .int .u64 m.d.x5, .int .u64 m.d.x6, .int .u64 m.d.x7], .slice (some ⟨w.heap.size, 0, none⟩) want.length capw] (w.alloc (.cells (want.flatMap encM).toArray 33))
      fun e w' => e = .returned (.bool b) ∧ Sees w0 w' d bm bw bl (ms ++ [m]) := by
  obtain ⟨es, K, C, g⟩ := S
  have hk : Chg [] w (w.alloc (.cells (want.flatMap encM).toArray 33)) := (Chg.refl [] w).alloc _
  refine (hears_any _ d bm bw bl 2 2 (stOf ms).1 es (stOf ms).2 m (some ⟨w.heap.size, 0, none⟩) capw want hwl (Rd.of_blk encM_len (Blk.new w _ _)) (fun a e hm => ?_) (K.look hk)).mono ?_
  · cases e; exact Nat.lt_irrefl _ (K.D.lt _ hm)
  · rintro e w' ⟨es', rfl, P, K'⟩
    exact ⟨by rw [← hb]; rfl, Sees.hear (C.trans hk) g P K'⟩
theorem hears_nil (w0 w : World) (d bm bw bl : Nat) (ms : List MsgV) (m : MsgV) (S : Sees w0 w d bm bw bl ms) (b : Bool) (hb : decide ((outOf ms m).2 = 0 ∧ (outOf ms m).1 = []) = b) :
    Calls Try.prog 8 #[.pointer (some ⟨d, 0, none⟩), .agg #[.int .i64 m.k, .int .i64 m.c, .int .i64 m.l, .int .u64 m.d.x0, .int .u64 m.d.x1, .int .u64 m.d.x2, .int .u64 m.d.x3, .int .u64 m.d.x4, .int .u64 m.d.x5, .int .u64 m.d.x6, .int .u64 m.d.x7], .slice none 0 0] w
      fun e w' => e = .returned (.bool b) ∧ Sees w0 w' d bm bw bl (ms ++ [m]) := by
  obtain ⟨es, K, C, g⟩ := S
  refine (hears_any w d bm bw bl 2 2 (stOf ms).1 es (stOf ms).2 m none 0 [] (by simp) (Rd.nil _ _ _ _ _) (fun a e => by cases e) K).mono ?_
  rintro e w' ⟨es', rfl, P, K'⟩
  exact ⟨by rw [← hb]; rfl, Sees.hear C g P K'⟩
theorem Sees.new {w0 w : World} {d bm bw bl : Nat} (C : Chg [] w0 w) (hg : ∀ g ∈ [bm, bw, bl], w0.heap.size ≤ g) (D : DirW w d bm bw bl 2 2 (List.replicate (8 * 2) 0) (List.replicate 2 newE)) : Sees w0 w d bm bw bl [] :=
  ⟨_, Knows.new D ⟨by decide, by decide⟩, C, fun g h => by
    have h2 : g ∈ [bw, bl] := h
    exact hg g (by simp at h2 ⊢; exact .inr h2)⟩
theorem owner_sees (w0 w : World) (d bm bw bl : Nat) (ms : List MsgV) (i o : Int) (S : Sees w0 w d bm bw bl ms) (ho : ownerK (stOf ms).2 i = o) :
    Calls Try.prog 9 #[.pointer (some ⟨d, 0, none⟩), .int .i64 i] w fun e w' => e = .returned (.int .i64 o) ∧ w = w' := by
  obtain ⟨es, K, _, _⟩ := S
  rw [← ho]
  exact Owner_any w d bm bw bl 2 2 _ es _ i K

def mA : MsgV := { k := 2, c := 0, l := 1 }
def mB : MsgV := { k := 7, c := 0, l := 1 }
def mC : MsgV := { k := 1, c := 1, l := 1 }
theorem outA : decide ((outOf [] mA).2 = 0 ∧ (outOf [] mA).1 = [{ k := 15, c := 0, l := 1 }]) = true := by kernel_rfl
theorem outB : decide ((outOf [mA] mB).2 = 0 ∧ (outOf [mA] mB).1 = []) = true := by kernel_rfl
theorem outC : decide ((outOf [mA, mB] mC).2 = 0 ∧ (outOf [mA, mB] mC).1 = [{ k := 12, c := 0, l := 1 }]) = true := by kernel_rfl
theorem ownC : ownerK (stOf [mA, mB, mC]).2 1 = 0 := by kernel_rfl

set_option maxHeartbeats 8000000 in
theorem alive_any (w : World) :
    Calls Try.prog 15 #[] w fun e w' => e = .returned (.bool true) ∧ Chg [] w w' := by
  have hN := Lib.hid (DNew_ok w 2 2 (by decide) (by decide) (by decide))
  go_enter Try.func15, Try.ntmps15
  go_wp2_with fail
  refine hN.out.mono ?_
  rintro e w1 ⟨d, bm, bw, bl, rfl, hC, hd, hg, D⟩
  have HS := Lib.hid (Sees.new hC hg D)
  clear D hC hd hg hN
  go_wp2_with fail
  refine (hears_lit w w1 d bm bw bl [] mA [{ k := 15, c := 0, l := 1 }] 1 (by decide) HS.out true outA).mono ?_
  rintro e w2 ⟨rfl, hS⟩
  have HS2 := Lib.hid hS
  clear hS HS
  go_wp2_with fail
  refine (hears_nil w w2 d bm bw bl [mA] mB HS2.out true outB).mono ?_
  rintro e w3 ⟨rfl, hS⟩
  have HS3 := Lib.hid hS
  clear hS HS2
  go_wp2_with fail
  refine (hears_lit w w3 d bm bw bl [mA, mB] mC [{ k := 12, c := 0, l := 1 }] 1 (by decide) HS3.out true outC).mono ?_
  rintro e w4 ⟨rfl, hS⟩
  have HS4 := Lib.hid hS
  clear hS HS3
  go_wp2_with fail
  refine (owner_sees w w4 d bm bw bl [mA, mB, mC] 1 0 HS4.out ownC).mono ?_
  rintro e w5 ⟨rfl, rfl⟩
  obtain ⟨_, _, hC, _⟩ := HS4.out
  have HC := Lib.hid hC
  clear hC
  go_wp2_with fail
  go_ret
  exact ⟨rfl, HC.out⟩
end Go.Proofs.Ytepdhajgemmoiaa
