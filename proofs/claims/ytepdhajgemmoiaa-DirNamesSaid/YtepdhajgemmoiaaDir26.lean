/- DirNames, Sharers given. -/
import Derived.Test.YtepdhajgemmoiaaDir25
namespace Go.Proofs.Ytepdhajgemmoiaa
set_option maxRecDepth 100000
open Go.RowKit

theorem hear_sees (w0 w : World) (d bm bw bl : Nat) (ms : List MsgV) (m : MsgV) (S : Sees w0 w d bm bw bl ms) :
    Calls Try.prog 7 #[.pointer (some ⟨d, 0, none⟩), .agg #[.int .i64 m.k, .int .i64 m.c, .int .i64 m.l, .int .u64 m.d.x0, .int .u64 m.d.x1, .int .u64 m.d.x2, .int .u64 m.d.x3, .int .u64 m.d.x4, .int .u64 m.d.x5, .int .u64 m.d.x6, .int .u64 m.d.x7]] w fun e w' => ∃ v err, e = .returned (.tuple #[v, .int .i64 err]) ∧ Sees w0 w' d bm bw bl (ms ++ [m]) := by
  obtain ⟨es, K, C, g⟩ := S
  refine (hear_any w d bm bw bl 2 2 (stOf ms).1 es (stOf ms).2 m K).mono ?_
  rintro e w' ⟨es', ⟨v, rfl, _, _, P⟩, K'⟩
  exact ⟨v, _, rfl, Sees.hear C g P K'⟩
theorem refuses_sees (w0 w : World) (d bm bw bl : Nat) (ms : List MsgV) (m : MsgV) (want : Int) (S : Sees w0 w d bm bw bl ms) (b : Bool) (hb : ((outOf ms m).2 == want && (outOf ms m).1.length == 0) = b) :
    Calls Try.prog 11 #[.pointer (some ⟨d, 0, none⟩), .agg #[.int .i64 m.k, .int .i64 m.c, .int .i64 m.l, .int .u64 m.d.x0, .int .u64 m.d.x1, .int .u64 m.d.x2, .int .u64 m.d.x3, .int .u64 m.d.x4, .int .u64 m.d.x5, .int .u64 m.d.x6, .int .u64 m.d.x7], .int .i64 want] w fun e w' => e = .returned (.bool b) ∧ Sees w0 w' d bm bw bl (ms ++ [m]) := by
  obtain ⟨es, K, C, g⟩ := S
  refine (refuses_any w d bm bw bl 2 2 (stOf ms).1 es (stOf ms).2 m want K).mono ?_
  rintro e w' ⟨es', rfl, P, K'⟩
  exact ⟨by rw [← hb]; rfl, Sees.hear C g P K'⟩

def n0 : MsgV := { k := 2, c := 0, l := 1, d := { x0 := 0 } }
def n1 : MsgV := { k := 7, c := 0, l := 1, d := { x0 := 0 } }
def n2 : MsgV := { k := 1, c := 1, l := 1, d := { x0 := 0 } }
def n3 : MsgV := { k := 5, c := 0, l := 1, d := { x0 := 5 } }
def n4 : MsgV := { k := 7, c := 1, l := 1, d := { x0 := 0 } }
def n5 : MsgV := { k := 2, c := 1, l := 1, d := { x0 := 0 } }
def n6 : MsgV := { k := 4, c := 0, l := 1, d := { x0 := 0 } }
def n7 : MsgV := { k := 1, c := 0, l := 1, d := { x0 := 0 } }
def n8 : MsgV := { k := 7, c := 1, l := 1, d := { x0 := 0 } }
def n9 : MsgV := { k := 3, c := 0, l := 1, d := { x0 := 0 } }
def n10 : MsgV := { k := 4, c := 1, l := 1, d := { x0 := 0 } }
def n11 : MsgV := { k := 7, c := 0, l := 1, d := { x0 := 0 } }
def n12 : MsgV := { k := 1, c := 2, l := 1, d := { x0 := 0 } }
def n13 : MsgV := { k := 1, c := 0, l := 2, d := { x0 := 0 } }
def n14 : MsgV := { k := 11, c := 0, l := 0, d := { x0 := 0 } }
def n15 : MsgV := { k := 0, c := 0, l := 0, d := { x0 := 0 } }
def n16 : MsgV := { k := 1, c := 0, l := 1, d := { x0 := 0 } }
def n17 : MsgV := { k := 6, c := 1, l := 1, d := { x0 := 0 } }
def n18 : MsgV := { k := 3, c := 1, l := 1, d := { x0 := 6 } }
theorem an3 : decide ((outOf [n0, n1, n2] n3).2 = 0 ∧ (outOf [n0, n1, n2] n3).1 = [{ k := 14, c := 1, l := 1, d := { x0 := 5 } }]) = true := by kernel_rfl
theorem an4 : decide ((outOf [n0, n1, n2, n3] n4).2 = 0 ∧ (outOf [n0, n1, n2, n3] n4).1 = []) = true := by kernel_rfl
theorem an5 : decide ((outOf [n0, n1, n2, n3, n4] n5).2 = 0 ∧ (outOf [n0, n1, n2, n3, n4] n5).1 = [{ k := 11, c := 0, l := 1, d := { x0 := 0 } }]) = true := by kernel_rfl
theorem an6 : decide ((outOf [n0, n1, n2, n3, n4, n5] n6).2 = 0 ∧ (outOf [n0, n1, n2, n3, n4, n5] n6).1 = [{ k := 15, c := 1, l := 1, d := { x0 := 5 } }]) = true := by kernel_rfl
theorem an7 : decide ((outOf [n0, n1, n2, n3, n4, n5, n6] n7).2 = 0 ∧ (outOf [n0, n1, n2, n3, n4, n5, n6] n7).1 = []) = true := by kernel_rfl
theorem an8 : decide ((outOf [n0, n1, n2, n3, n4, n5, n6, n7] n8).2 = 0 ∧ (outOf [n0, n1, n2, n3, n4, n5, n6, n7] n8).1 = [{ k := 12, c := 1, l := 1, d := { x0 := 0 } }]) = true := by kernel_rfl
theorem an17 : decide ((outOf [n0, n1, n2, n3, n4, n5, n6, n7, n8, n9, n10, n11, n12, n13, n14, n15, n16] n17).2 = 0 ∧ (outOf [n0, n1, n2, n3, n4, n5, n6, n7, n8, n9, n10, n11, n12, n13, n14, n15, n16] n17).1 = []) = true := by kernel_rfl
theorem an18 : decide ((outOf [n0, n1, n2, n3, n4, n5, n6, n7, n8, n9, n10, n11, n12, n13, n14, n15, n16, n17] n18).2 = 0 ∧ (outOf [n0, n1, n2, n3, n4, n5, n6, n7, n8, n9, n10, n11, n12, n13, n14, n15, n16, n17] n18).1 = [{ k := 16, c := 1, l := 1, d := { x0 := 0 } }, { k := 14, c := 0, l := 1, d := { x0 := 6 } }]) = true := by kernel_rfl
theorem an9 : ((outOf [n0, n1, n2, n3, n4, n5, n6, n7, n8] n9).2 == 30 && (outOf [n0, n1, n2, n3, n4, n5, n6, n7, n8] n9).1.length == 0) = true := by kernel_rfl
theorem an10 : ((outOf [n0, n1, n2, n3, n4, n5, n6, n7, n8, n9] n10).2 == 30 && (outOf [n0, n1, n2, n3, n4, n5, n6, n7, n8, n9] n10).1.length == 0) = true := by kernel_rfl
theorem an11 : ((outOf [n0, n1, n2, n3, n4, n5, n6, n7, n8, n9, n10] n11).2 == 30 && (outOf [n0, n1, n2, n3, n4, n5, n6, n7, n8, n9, n10] n11).1.length == 0) = true := by kernel_rfl
theorem an12 : ((outOf [n0, n1, n2, n3, n4, n5, n6, n7, n8, n9, n10, n11] n12).2 == 2 && (outOf [n0, n1, n2, n3, n4, n5, n6, n7, n8, n9, n10, n11] n12).1.length == 0) = true := by kernel_rfl
theorem an13 : ((outOf [n0, n1, n2, n3, n4, n5, n6, n7, n8, n9, n10, n11, n12] n13).2 == 2 && (outOf [n0, n1, n2, n3, n4, n5, n6, n7, n8, n9, n10, n11, n12] n13).1.length == 0) = true := by kernel_rfl
theorem an14 : ((outOf [n0, n1, n2, n3, n4, n5, n6, n7, n8, n9, n10, n11, n12, n13] n14).2 == 30 && (outOf [n0, n1, n2, n3, n4, n5, n6, n7, n8, n9, n10, n11, n12, n13] n14).1.length == 0) = true := by kernel_rfl
theorem an15 : ((outOf [n0, n1, n2, n3, n4, n5, n6, n7, n8, n9, n10, n11, n12, n13, n14] n15).2 == 30 && (outOf [n0, n1, n2, n3, n4, n5, n6, n7, n8, n9, n10, n11, n12, n13, n14] n15).1.length == 0) = true := by kernel_rfl
theorem an16 : ((outOf [n0, n1, n2, n3, n4, n5, n6, n7, n8, n9, n10, n11, n12, n13, n14, n15] n16).2 == 30 && (outOf [n0, n1, n2, n3, n4, n5, n6, n7, n8, n9, n10, n11, n12, n13, n14, n15] n16).1.length == 0) = true := by kernel_rfl
theorem ow5 : ownerK (stOf [n0, n1, n2, n3, n4]).2 1 = -1 := by kernel_rfl

def SeesL (w0 w : World) (d bm bw bl lb : Nat) (vs : List Value) (ms : List MsgV) : Prop :=
  ∃ es, Knows w d bm bw bl 2 2 (stOf ms).1 es (stOf ms).2 ∧ Chg [] w0 w ∧ (∀ g ∈ dirB bw bl es, w0.heap.size ≤ g) ∧ Blk w lb vs 31 ∧ lb ∉ dirB bw bl es
theorem Sees.box {w0 w : World} {d bm bw bl : Nat} {ms : List MsgV} (vs : List Value) (S : Sees w0 w d bm bw bl ms) : SeesL w0 (w.alloc (.cells vs.toArray 31)) d bm bw bl w.heap.size vs ms := by
  obtain ⟨es, K, C, g⟩ := S
  exact ⟨es, K.look ((Chg.refl _ _).alloc _), C.alloc _, g, Blk.new w vs _, fun hm => Nat.lt_irrefl _ (K.D.lt _ hm)⟩
theorem SeesL.blk {w0 w : World} {d bm bw bl lb : Nat} {vs : List Value} {ms : List MsgV} (S : SeesL w0 w d bm bw bl lb vs ms) : Blk w lb vs 31 := by
  obtain ⟨es, K, C, g, B, nb⟩ := S
  exact B
theorem SeesL.chg0 {w0 w : World} {d bm bw bl lb : Nat} {vs : List Value} {ms : List MsgV} (S : SeesL w0 w d bm bw bl lb vs ms) : Chg [] w0 w := by
  obtain ⟨es, K, C, g, B, nb⟩ := S
  exact C
theorem SeesL.look {w0 w w' : World} {d bm bw bl lb : Nat} {vs : List Value} {ms : List MsgV} (S : SeesL w0 w d bm bw bl lb vs ms) (k : Chg [] w w') : SeesL w0 w' d bm bw bl lb vs ms := by
  obtain ⟨es, K, C, g, B, nb⟩ := S
  exact ⟨es, K.look k, C.trans k, g, k.blk B (by simp), nb⟩
theorem SeesL.hear {w0 w w' : World} {d bm bw bl lb : Nat} {vs : List Value} {ms : List MsgV} {es es' : List EntV} {m : MsgV} (C : Chg [] w0 w) (g : ∀ g ∈ dirB bw bl es, w0.heap.size ≤ g) (B : Blk w lb vs 31) (nb : lb ∉ dirB bw bl es) (P : DirPost w w' d bm bw bl 2 2 es (hearS 2 2 (stOf ms).1 (stOf ms).2 m).1 es') (K : Knows w' d bm bw bl 2 2 (hearS 2 2 (stOf ms).1 (stOf ms).2 m).1 es' (hearS 2 2 (stOf ms).1 (stOf ms).2 m).2.1) : SeesL w0 w' d bm bw bl lb vs (ms ++ [m]) :=
  ⟨es', by rw [stOf_snoc]; exact K, C.trans' P.chg (fun x hx hl => by have := g x hx; omega), fun x hx => (P.own x hx).elim (g x) (fun h => Nat.le_trans C.size h), P.chg.blk B nb, fun hx => (P.own lb hx).elim nb (fun h => by have := B.lt; omega)⟩
theorem hears_litL (w0 w : World) (d bm bw bl lb : Nat) (vs : List Value) (ms : List MsgV) (m : MsgV) (want : List MsgV) (capw H : Nat) (hH : w.heap.size = H) (hwl : want.length ≤ 1000) (S : SeesL w0 w d bm bw bl lb vs ms) (b : Bool) (hb : decide ((outOf ms m).2 = 0 ∧ (outOf ms m).1 = want) = b) :
    Calls Try.prog 8 #[.pointer (some ⟨d, 0, none⟩), .agg #[.int .i64 m.k, .int .i64 m.c, .int .i64 m.l, .int .u64 m.d.x0, .int .u64 m.d.x1, .int .u64 m.d.x2, .int .u64 m.d.x3, .int .u64 m.d.x4, .int .u64 m.d.x5, .int .u64 m.d.x6, .int .u64 m.d.x7], .slice (some ⟨H, 0, none⟩) want.length capw] (w.alloc (.cells (want.flatMap encM).toArray 33))
      fun e w' => e = .returned (.bool b) ∧ SeesL w0 w' d bm bw bl lb vs (ms ++ [m]) := by
  subst hH
  obtain ⟨es, K, C, g, B, nb⟩ := S
  have hk : Chg [] w (w.alloc (.cells (want.flatMap encM).toArray 33)) := (Chg.refl [] w).alloc _
  refine (hears_any _ d bm bw bl 2 2 (stOf ms).1 es (stOf ms).2 m (some ⟨w.heap.size, 0, none⟩) capw want hwl (Rd.of_blk encM_len (Blk.new w _ _)) (fun a e hm => ?_) (K.look hk)).mono ?_
  · cases e; exact Nat.lt_irrefl _ (K.D.lt _ hm)
  · rintro e w' ⟨es', rfl, P, K'⟩
    exact ⟨by rw [← hb]; rfl, SeesL.hear (C.trans hk) g (hk.blk B (by simp)) nb P K'⟩
theorem hears_nilL (w0 w : World) (d bm bw bl lb : Nat) (vs : List Value) (ms : List MsgV) (m : MsgV) (S : SeesL w0 w d bm bw bl lb vs ms) (b : Bool) (hb : decide ((outOf ms m).2 = 0 ∧ (outOf ms m).1 = []) = b) :
    Calls Try.prog 8 #[.pointer (some ⟨d, 0, none⟩), .agg #[.int .i64 m.k, .int .i64 m.c, .int .i64 m.l, .int .u64 m.d.x0, .int .u64 m.d.x1, .int .u64 m.d.x2, .int .u64 m.d.x3, .int .u64 m.d.x4, .int .u64 m.d.x5, .int .u64 m.d.x6, .int .u64 m.d.x7], .slice none 0 0] w
      fun e w' => e = .returned (.bool b) ∧ SeesL w0 w' d bm bw bl lb vs (ms ++ [m]) := by
  obtain ⟨es, K, C, g, B, nb⟩ := S
  refine (hears_any w d bm bw bl 2 2 (stOf ms).1 es (stOf ms).2 m none 0 [] (by simp) (Rd.nil _ _ _ _ _) (fun a e => by cases e) K).mono ?_
  rintro e w' ⟨es', rfl, P, K'⟩
  exact ⟨by rw [← hb]; rfl, SeesL.hear C g B nb P K'⟩
theorem owner_seesL (w0 w : World) (d bm bw bl lb : Nat) (vs : List Value) (ms : List MsgV) (i o : Int) (S : SeesL w0 w d bm bw bl lb vs ms) (ho : ownerK (stOf ms).2 i = o) :
    Calls Try.prog 9 #[.pointer (some ⟨d, 0, none⟩), .int .i64 i] w fun e w' => e = .returned (.int .i64 o) ∧ w = w' := by
  obtain ⟨es, K, _, _, _⟩ := S
  rw [← ho]
  exact Owner_any w d bm bw bl 2 2 _ es _ i K
theorem refuses_seesL (w0 w : World) (d bm bw bl lb : Nat) (vs : List Value) (ms : List MsgV) (m : MsgV) (want : Int) (S : SeesL w0 w d bm bw bl lb vs ms) (b : Bool) (hb : ((outOf ms m).2 == want && (outOf ms m).1.length == 0) = b) :
    Calls Try.prog 11 #[.pointer (some ⟨d, 0, none⟩), .agg #[.int .i64 m.k, .int .i64 m.c, .int .i64 m.l, .int .u64 m.d.x0, .int .u64 m.d.x1, .int .u64 m.d.x2, .int .u64 m.d.x3, .int .u64 m.d.x4, .int .u64 m.d.x5, .int .u64 m.d.x6, .int .u64 m.d.x7], .int .i64 want] w fun e w' => e = .returned (.bool b) ∧ SeesL w0 w' d bm bw bl lb vs (ms ++ [m]) := by
  obtain ⟨es, K, C, g, B, nb⟩ := S
  refine (refuses_any w d bm bw bl 2 2 (stOf ms).1 es (stOf ms).2 m want K).mono ?_
  rintro e w' ⟨es', rfl, P, K'⟩
  exact ⟨by rw [← hb]; rfl, SeesL.hear C g B nb P K'⟩
def ShPost (w0 w : World) (d bm bw bl : Nat) (ms : List MsgV) (e : Ending) (w' : World) : Prop := ∃ v, e = .returned v ∧ w'.ownsRow w.heap.size 3 1 v 2 [.int .i64 0, .int .i64 1] ∧ Chg [] w w'
set_option maxHeartbeats 16000000 in
theorem Names_of (w : World) (hSh : ∀ w1 d bm bw bl lb vs, SeesL w w1 d bm bw bl lb vs [n0, n1, n2, n3, n4] → Calls Try.prog 10 #[.pointer (some ⟨d, 0, none⟩), .int .i64 1] w1 (ShPost w w1 d bm bw bl [n0, n1, n2, n3, n4])) :
    Calls Try.prog 3 #[] w (StaysPost w) := by
  have hN := Lib.hid (DNew_ok w 2 2 (by decide) (by decide) (by decide))
  have HSh := Lib.hid hSh
  clear hSh
  go_enter Try.func3, Try.ntmps3
  go_wp2_with fail
  refine hN.out.mono ?_
  rintro e w1 ⟨d, bm, bw, bl, rfl, hC, hd, hg, D⟩
  have HS0 := Lib.hid (Sees.new hC hg D)
  clear D hC hd hg hN

  go_wp2_with fail
  refine (hear_sees w w1 d bm bw bl [] n0 HS0.out).mono ?_
  rintro e wh0 ⟨v0, er0, rfl, hS⟩
  have HS1 := Lib.hid hS; clear hS HS0
  go_wp2_with fail
  refine (hear_sees w wh0 d bm bw bl [n0] n1 HS1.out).mono ?_
  rintro e wh1 ⟨v1, er1, rfl, hS⟩
  have HS2 := Lib.hid hS; clear hS HS1
  go_wp2_with fail
  refine (hear_sees w wh1 d bm bw bl [n0, n1] n2 HS2.out).mono ?_
  rintro e wh2 ⟨v2, er2, rfl, hS⟩
  have HS3 := Lib.hid hS; clear hS HS2
  have HL3 := Lib.hid (HS3.out.box [.int .u64 5, .int .u64 0, .int .u64 0, .int .u64 0, .int .u64 0, .int .u64 0, .int .u64 0, .int .u64 0]); clear HS3
  obtain ⟨lb, hlb⟩ : ∃ lb, wh2.heap.size = lb := ⟨_, rfl⟩
  rw [hlb] at HL3
  have Hlb := Lib.hid hlb; clear hlb
  go_wp2_with fail
  refine (hears_litL w _ d bm bw bl lb _ [n0, n1, n2] n3 [{ k := 14, c := 1, l := 1, d := { x0 := 5 } }] 1 _ (by rw [World.size_alloc, Hlb.out]) (by decide) HL3.out true an3).mono ?_
  rintro e ws3 ⟨rfl, hS⟩
  have HL4 := Lib.hid hS; clear hS HL3
  have hB4 := SeesL.blk HL4.out
  have l4_0 : ws3.cell? ⟨lb, 0, none⟩ = some (.int .u64 5) := hB4.cell 0
  have l4_1 : ws3.cell? ⟨lb, 1, none⟩ = some (.int .u64 0) := hB4.cell 1
  have l4_2 : ws3.cell? ⟨lb, 2, none⟩ = some (.int .u64 0) := hB4.cell 2
  have l4_3 : ws3.cell? ⟨lb, 3, none⟩ = some (.int .u64 0) := hB4.cell 3
  have l4_4 : ws3.cell? ⟨lb, 4, none⟩ = some (.int .u64 0) := hB4.cell 4
  have l4_5 : ws3.cell? ⟨lb, 5, none⟩ = some (.int .u64 0) := hB4.cell 5
  have l4_6 : ws3.cell? ⟨lb, 6, none⟩ = some (.int .u64 0) := hB4.cell 6
  have l4_7 : ws3.cell? ⟨lb, 7, none⟩ = some (.int .u64 0) := hB4.cell 7
  have ll4 : lb < ws3.heap.size := hB4.lt
  clear hB4
  go_wp2_with fail
  refine (hears_nilL w ws3 d bm bw bl lb _ [n0, n1, n2, n3] n4 HL4.out true an4).mono ?_
  rintro e ws4 ⟨rfl, hS⟩
  have HL5 := Lib.hid hS; clear hS HL4 l4_0 l4_1 l4_2 l4_3 l4_4 l4_5 l4_6 l4_7 ll4
  have hB5 := SeesL.blk HL5.out
  have l5_0 : ws4.cell? ⟨lb, 0, none⟩ = some (.int .u64 5) := hB5.cell 0
  have l5_1 : ws4.cell? ⟨lb, 1, none⟩ = some (.int .u64 0) := hB5.cell 1
  have l5_2 : ws4.cell? ⟨lb, 2, none⟩ = some (.int .u64 0) := hB5.cell 2
  have l5_3 : ws4.cell? ⟨lb, 3, none⟩ = some (.int .u64 0) := hB5.cell 3
  have l5_4 : ws4.cell? ⟨lb, 4, none⟩ = some (.int .u64 0) := hB5.cell 4
  have l5_5 : ws4.cell? ⟨lb, 5, none⟩ = some (.int .u64 0) := hB5.cell 5
  have l5_6 : ws4.cell? ⟨lb, 6, none⟩ = some (.int .u64 0) := hB5.cell 6
  have l5_7 : ws4.cell? ⟨lb, 7, none⟩ = some (.int .u64 0) := hB5.cell 7
  have ll5 : lb < ws4.heap.size := hB5.lt
  clear hB5
  go_wp2_with fail
  refine (owner_seesL w ws4 d bm bw bl lb _ [n0, n1, n2, n3, n4] 1 (-1) HL5.out ow5).mono ?_
  rintro e wo ⟨rfl, rfl⟩
  go_wp2_with fail
  refine (HSh.out ws4 d bm bw bl lb _ HL5.out).mono ?_
  rintro e wt ⟨v, rfl, hO, hx⟩
  obtain ⟨A, cap, rfl, hcap, hmx, _⟩ := ownsRow_cell hO
  have HO := Lib.hid hO
  have HL5b := Lib.hid (HL5.out.look hx)
  clear hO hx HL5 l5_0 l5_1 l5_2 l5_3 l5_4 l5_5 l5_6 l5_7 ll5
  rcases HO.out.2 with ⟨_, h0⟩ | ⟨gs, caps, cur, hv, hgb, hcur, hle, hmm, hsz, htk⟩
  · cases h0
  obtain ⟨rfl, rfl⟩ : A = some ⟨gs, 0, none⟩ ∧ cap = caps := by simpa using hv
  obtain ⟨rest, hr⟩ : ∃ rest, cur.toList = [.int .i64 0, .int .i64 1] ++ rest := ⟨cur.toList.drop 2, by rw [← htk]; exact (List.take_append_drop 2 _).symm⟩
  have hbS : Blk wt gs cur.toList 3 := by simpa [Blk] using hcur
  rw [hr] at hbS
  have s0 : wt.cell? ⟨gs, 0, none⟩ = some (.int .i64 0) := hbS.cell 0
  have s1 : wt.cell? ⟨gs, 1, none⟩ = some (.int .i64 1) := hbS.cell 1
  clear hv hgb hcur hle hmm hsz htk hr hbS HO hcap hmx HSh
  rw [Hlb.out]
  have hB5 := SeesL.blk HL5b.out
  have l5_0 : wt.cell? ⟨lb, 0, none⟩ = some (.int .u64 5) := hB5.cell 0
  have l5_1 : wt.cell? ⟨lb, 1, none⟩ = some (.int .u64 0) := hB5.cell 1
  have l5_2 : wt.cell? ⟨lb, 2, none⟩ = some (.int .u64 0) := hB5.cell 2
  have l5_3 : wt.cell? ⟨lb, 3, none⟩ = some (.int .u64 0) := hB5.cell 3
  have l5_4 : wt.cell? ⟨lb, 4, none⟩ = some (.int .u64 0) := hB5.cell 4
  have l5_5 : wt.cell? ⟨lb, 5, none⟩ = some (.int .u64 0) := hB5.cell 5
  have l5_6 : wt.cell? ⟨lb, 6, none⟩ = some (.int .u64 0) := hB5.cell 6
  have l5_7 : wt.cell? ⟨lb, 7, none⟩ = some (.int .u64 0) := hB5.cell 7
  have ll5 : lb < wt.heap.size := hB5.lt
  clear hB5
  go_wp2_with fail
  refine (hears_litL w wt d bm bw bl lb _ [n0, n1, n2, n3, n4] n5 [{ k := 11, c := 0, l := 1, d := { x0 := 0 } }] 1 _ rfl (by decide) HL5b.out true an5).mono ?_
  rintro e ws5 ⟨rfl, hS⟩
  have HL6 := Lib.hid hS; clear hS HL5b l5_0 l5_1 l5_2 l5_3 l5_4 l5_5 l5_6 l5_7 ll5
  have hB6 := SeesL.blk HL6.out
  have l6_0 : ws5.cell? ⟨lb, 0, none⟩ = some (.int .u64 5) := hB6.cell 0
  have l6_1 : ws5.cell? ⟨lb, 1, none⟩ = some (.int .u64 0) := hB6.cell 1
  have l6_2 : ws5.cell? ⟨lb, 2, none⟩ = some (.int .u64 0) := hB6.cell 2
  have l6_3 : ws5.cell? ⟨lb, 3, none⟩ = some (.int .u64 0) := hB6.cell 3
  have l6_4 : ws5.cell? ⟨lb, 4, none⟩ = some (.int .u64 0) := hB6.cell 4
  have l6_5 : ws5.cell? ⟨lb, 5, none⟩ = some (.int .u64 0) := hB6.cell 5
  have l6_6 : ws5.cell? ⟨lb, 6, none⟩ = some (.int .u64 0) := hB6.cell 6
  have l6_7 : ws5.cell? ⟨lb, 7, none⟩ = some (.int .u64 0) := hB6.cell 7
  have ll6 : lb < ws5.heap.size := hB6.lt
  clear hB6
  go_wp2_with fail
  refine (hears_litL w ws5 d bm bw bl lb _ [n0, n1, n2, n3, n4, n5] n6 [{ k := 15, c := 1, l := 1, d := { x0 := 5 } }] 1 _ rfl (by decide) HL6.out true an6).mono ?_
  rintro e ws6 ⟨rfl, hS⟩
  have HL7 := Lib.hid hS; clear hS HL6 l6_0 l6_1 l6_2 l6_3 l6_4 l6_5 l6_6 l6_7 ll6
  have hB7 := SeesL.blk HL7.out
  have l7_0 : ws6.cell? ⟨lb, 0, none⟩ = some (.int .u64 5) := hB7.cell 0
  have l7_1 : ws6.cell? ⟨lb, 1, none⟩ = some (.int .u64 0) := hB7.cell 1
  have l7_2 : ws6.cell? ⟨lb, 2, none⟩ = some (.int .u64 0) := hB7.cell 2
  have l7_3 : ws6.cell? ⟨lb, 3, none⟩ = some (.int .u64 0) := hB7.cell 3
  have l7_4 : ws6.cell? ⟨lb, 4, none⟩ = some (.int .u64 0) := hB7.cell 4
  have l7_5 : ws6.cell? ⟨lb, 5, none⟩ = some (.int .u64 0) := hB7.cell 5
  have l7_6 : ws6.cell? ⟨lb, 6, none⟩ = some (.int .u64 0) := hB7.cell 6
  have l7_7 : ws6.cell? ⟨lb, 7, none⟩ = some (.int .u64 0) := hB7.cell 7
  have ll7 : lb < ws6.heap.size := hB7.lt
  clear hB7
  go_wp2_with fail
  refine (hears_nilL w ws6 d bm bw bl lb _ [n0, n1, n2, n3, n4, n5, n6] n7 HL7.out true an7).mono ?_
  rintro e ws7 ⟨rfl, hS⟩
  have HL8 := Lib.hid hS; clear hS HL7 l7_0 l7_1 l7_2 l7_3 l7_4 l7_5 l7_6 l7_7 ll7
  have hB8 := SeesL.blk HL8.out
  have l8_0 : ws7.cell? ⟨lb, 0, none⟩ = some (.int .u64 5) := hB8.cell 0
  have l8_1 : ws7.cell? ⟨lb, 1, none⟩ = some (.int .u64 0) := hB8.cell 1
  have l8_2 : ws7.cell? ⟨lb, 2, none⟩ = some (.int .u64 0) := hB8.cell 2
  have l8_3 : ws7.cell? ⟨lb, 3, none⟩ = some (.int .u64 0) := hB8.cell 3
  have l8_4 : ws7.cell? ⟨lb, 4, none⟩ = some (.int .u64 0) := hB8.cell 4
  have l8_5 : ws7.cell? ⟨lb, 5, none⟩ = some (.int .u64 0) := hB8.cell 5
  have l8_6 : ws7.cell? ⟨lb, 6, none⟩ = some (.int .u64 0) := hB8.cell 6
  have l8_7 : ws7.cell? ⟨lb, 7, none⟩ = some (.int .u64 0) := hB8.cell 7
  have ll8 : lb < ws7.heap.size := hB8.lt
  clear hB8
  go_wp2_with fail
  refine (hears_litL w ws7 d bm bw bl lb _ [n0, n1, n2, n3, n4, n5, n6, n7] n8 [{ k := 12, c := 1, l := 1, d := { x0 := 0 } }] 1 _ rfl (by decide) HL8.out true an8).mono ?_
  rintro e ws8 ⟨rfl, hS⟩
  have HL9 := Lib.hid hS; clear hS HL8 l8_0 l8_1 l8_2 l8_3 l8_4 l8_5 l8_6 l8_7 ll8
  have hB9 := SeesL.blk HL9.out
  have l9_0 : ws8.cell? ⟨lb, 0, none⟩ = some (.int .u64 5) := hB9.cell 0
  have l9_1 : ws8.cell? ⟨lb, 1, none⟩ = some (.int .u64 0) := hB9.cell 1
  have l9_2 : ws8.cell? ⟨lb, 2, none⟩ = some (.int .u64 0) := hB9.cell 2
  have l9_3 : ws8.cell? ⟨lb, 3, none⟩ = some (.int .u64 0) := hB9.cell 3
  have l9_4 : ws8.cell? ⟨lb, 4, none⟩ = some (.int .u64 0) := hB9.cell 4
  have l9_5 : ws8.cell? ⟨lb, 5, none⟩ = some (.int .u64 0) := hB9.cell 5
  have l9_6 : ws8.cell? ⟨lb, 6, none⟩ = some (.int .u64 0) := hB9.cell 6
  have l9_7 : ws8.cell? ⟨lb, 7, none⟩ = some (.int .u64 0) := hB9.cell 7
  have ll9 : lb < ws8.heap.size := hB9.lt
  clear hB9
  go_wp2_with fail
  refine (refuses_seesL w ws8 d bm bw bl lb _ [n0, n1, n2, n3, n4, n5, n6, n7, n8] n9 30 HL9.out true an9).mono ?_
  rintro e ws9 ⟨rfl, hS⟩
  have HL10 := Lib.hid hS; clear hS HL9 l9_0 l9_1 l9_2 l9_3 l9_4 l9_5 l9_6 l9_7 ll9
  have hB10 := SeesL.blk HL10.out
  have l10_0 : ws9.cell? ⟨lb, 0, none⟩ = some (.int .u64 5) := hB10.cell 0
  have l10_1 : ws9.cell? ⟨lb, 1, none⟩ = some (.int .u64 0) := hB10.cell 1
  have l10_2 : ws9.cell? ⟨lb, 2, none⟩ = some (.int .u64 0) := hB10.cell 2
  have l10_3 : ws9.cell? ⟨lb, 3, none⟩ = some (.int .u64 0) := hB10.cell 3
  have l10_4 : ws9.cell? ⟨lb, 4, none⟩ = some (.int .u64 0) := hB10.cell 4
  have l10_5 : ws9.cell? ⟨lb, 5, none⟩ = some (.int .u64 0) := hB10.cell 5
  have l10_6 : ws9.cell? ⟨lb, 6, none⟩ = some (.int .u64 0) := hB10.cell 6
  have l10_7 : ws9.cell? ⟨lb, 7, none⟩ = some (.int .u64 0) := hB10.cell 7
  have ll10 : lb < ws9.heap.size := hB10.lt
  clear hB10
  go_wp2_with fail
  refine (refuses_seesL w ws9 d bm bw bl lb _ [n0, n1, n2, n3, n4, n5, n6, n7, n8, n9] n10 30 HL10.out true an10).mono ?_
  rintro e ws10 ⟨rfl, hS⟩
  have HL11 := Lib.hid hS; clear hS HL10 l10_0 l10_1 l10_2 l10_3 l10_4 l10_5 l10_6 l10_7 ll10
  have hB11 := SeesL.blk HL11.out
  have l11_0 : ws10.cell? ⟨lb, 0, none⟩ = some (.int .u64 5) := hB11.cell 0
  have l11_1 : ws10.cell? ⟨lb, 1, none⟩ = some (.int .u64 0) := hB11.cell 1
  have l11_2 : ws10.cell? ⟨lb, 2, none⟩ = some (.int .u64 0) := hB11.cell 2
  have l11_3 : ws10.cell? ⟨lb, 3, none⟩ = some (.int .u64 0) := hB11.cell 3
  have l11_4 : ws10.cell? ⟨lb, 4, none⟩ = some (.int .u64 0) := hB11.cell 4
  have l11_5 : ws10.cell? ⟨lb, 5, none⟩ = some (.int .u64 0) := hB11.cell 5
  have l11_6 : ws10.cell? ⟨lb, 6, none⟩ = some (.int .u64 0) := hB11.cell 6
  have l11_7 : ws10.cell? ⟨lb, 7, none⟩ = some (.int .u64 0) := hB11.cell 7
  have ll11 : lb < ws10.heap.size := hB11.lt
  clear hB11
  go_wp2_with fail
  refine (refuses_seesL w ws10 d bm bw bl lb _ [n0, n1, n2, n3, n4, n5, n6, n7, n8, n9, n10] n11 30 HL11.out true an11).mono ?_
  rintro e ws11 ⟨rfl, hS⟩
  have HL12 := Lib.hid hS; clear hS HL11 l11_0 l11_1 l11_2 l11_3 l11_4 l11_5 l11_6 l11_7 ll11
  have hB12 := SeesL.blk HL12.out
  have l12_0 : ws11.cell? ⟨lb, 0, none⟩ = some (.int .u64 5) := hB12.cell 0
  have l12_1 : ws11.cell? ⟨lb, 1, none⟩ = some (.int .u64 0) := hB12.cell 1
  have l12_2 : ws11.cell? ⟨lb, 2, none⟩ = some (.int .u64 0) := hB12.cell 2
  have l12_3 : ws11.cell? ⟨lb, 3, none⟩ = some (.int .u64 0) := hB12.cell 3
  have l12_4 : ws11.cell? ⟨lb, 4, none⟩ = some (.int .u64 0) := hB12.cell 4
  have l12_5 : ws11.cell? ⟨lb, 5, none⟩ = some (.int .u64 0) := hB12.cell 5
  have l12_6 : ws11.cell? ⟨lb, 6, none⟩ = some (.int .u64 0) := hB12.cell 6
  have l12_7 : ws11.cell? ⟨lb, 7, none⟩ = some (.int .u64 0) := hB12.cell 7
  have ll12 : lb < ws11.heap.size := hB12.lt
  clear hB12
  go_wp2_with fail
  refine (refuses_seesL w ws11 d bm bw bl lb _ [n0, n1, n2, n3, n4, n5, n6, n7, n8, n9, n10, n11] n12 2 HL12.out true an12).mono ?_
  rintro e ws12 ⟨rfl, hS⟩
  have HL13 := Lib.hid hS; clear hS HL12 l12_0 l12_1 l12_2 l12_3 l12_4 l12_5 l12_6 l12_7 ll12
  have hB13 := SeesL.blk HL13.out
  have l13_0 : ws12.cell? ⟨lb, 0, none⟩ = some (.int .u64 5) := hB13.cell 0
  have l13_1 : ws12.cell? ⟨lb, 1, none⟩ = some (.int .u64 0) := hB13.cell 1
  have l13_2 : ws12.cell? ⟨lb, 2, none⟩ = some (.int .u64 0) := hB13.cell 2
  have l13_3 : ws12.cell? ⟨lb, 3, none⟩ = some (.int .u64 0) := hB13.cell 3
  have l13_4 : ws12.cell? ⟨lb, 4, none⟩ = some (.int .u64 0) := hB13.cell 4
  have l13_5 : ws12.cell? ⟨lb, 5, none⟩ = some (.int .u64 0) := hB13.cell 5
  have l13_6 : ws12.cell? ⟨lb, 6, none⟩ = some (.int .u64 0) := hB13.cell 6
  have l13_7 : ws12.cell? ⟨lb, 7, none⟩ = some (.int .u64 0) := hB13.cell 7
  have ll13 : lb < ws12.heap.size := hB13.lt
  clear hB13
  go_wp2_with fail
  refine (refuses_seesL w ws12 d bm bw bl lb _ [n0, n1, n2, n3, n4, n5, n6, n7, n8, n9, n10, n11, n12] n13 2 HL13.out true an13).mono ?_
  rintro e ws13 ⟨rfl, hS⟩
  have HL14 := Lib.hid hS; clear hS HL13 l13_0 l13_1 l13_2 l13_3 l13_4 l13_5 l13_6 l13_7 ll13
  have hB14 := SeesL.blk HL14.out
  have l14_0 : ws13.cell? ⟨lb, 0, none⟩ = some (.int .u64 5) := hB14.cell 0
  have l14_1 : ws13.cell? ⟨lb, 1, none⟩ = some (.int .u64 0) := hB14.cell 1
  have l14_2 : ws13.cell? ⟨lb, 2, none⟩ = some (.int .u64 0) := hB14.cell 2
  have l14_3 : ws13.cell? ⟨lb, 3, none⟩ = some (.int .u64 0) := hB14.cell 3
  have l14_4 : ws13.cell? ⟨lb, 4, none⟩ = some (.int .u64 0) := hB14.cell 4
  have l14_5 : ws13.cell? ⟨lb, 5, none⟩ = some (.int .u64 0) := hB14.cell 5
  have l14_6 : ws13.cell? ⟨lb, 6, none⟩ = some (.int .u64 0) := hB14.cell 6
  have l14_7 : ws13.cell? ⟨lb, 7, none⟩ = some (.int .u64 0) := hB14.cell 7
  have ll14 : lb < ws13.heap.size := hB14.lt
  clear hB14
  go_wp2_with fail
  refine (refuses_seesL w ws13 d bm bw bl lb _ [n0, n1, n2, n3, n4, n5, n6, n7, n8, n9, n10, n11, n12, n13] n14 30 HL14.out true an14).mono ?_
  rintro e ws14 ⟨rfl, hS⟩
  have HL15 := Lib.hid hS; clear hS HL14 l14_0 l14_1 l14_2 l14_3 l14_4 l14_5 l14_6 l14_7 ll14
  have hB15 := SeesL.blk HL15.out
  have l15_0 : ws14.cell? ⟨lb, 0, none⟩ = some (.int .u64 5) := hB15.cell 0
  have l15_1 : ws14.cell? ⟨lb, 1, none⟩ = some (.int .u64 0) := hB15.cell 1
  have l15_2 : ws14.cell? ⟨lb, 2, none⟩ = some (.int .u64 0) := hB15.cell 2
  have l15_3 : ws14.cell? ⟨lb, 3, none⟩ = some (.int .u64 0) := hB15.cell 3
  have l15_4 : ws14.cell? ⟨lb, 4, none⟩ = some (.int .u64 0) := hB15.cell 4
  have l15_5 : ws14.cell? ⟨lb, 5, none⟩ = some (.int .u64 0) := hB15.cell 5
  have l15_6 : ws14.cell? ⟨lb, 6, none⟩ = some (.int .u64 0) := hB15.cell 6
  have l15_7 : ws14.cell? ⟨lb, 7, none⟩ = some (.int .u64 0) := hB15.cell 7
  have ll15 : lb < ws14.heap.size := hB15.lt
  clear hB15
  go_wp2_with fail
  refine (refuses_seesL w ws14 d bm bw bl lb _ [n0, n1, n2, n3, n4, n5, n6, n7, n8, n9, n10, n11, n12, n13, n14] n15 30 HL15.out true an15).mono ?_
  rintro e ws15 ⟨rfl, hS⟩
  have HL16 := Lib.hid hS; clear hS HL15 l15_0 l15_1 l15_2 l15_3 l15_4 l15_5 l15_6 l15_7 ll15
  have hB16 := SeesL.blk HL16.out
  have l16_0 : ws15.cell? ⟨lb, 0, none⟩ = some (.int .u64 5) := hB16.cell 0
  have l16_1 : ws15.cell? ⟨lb, 1, none⟩ = some (.int .u64 0) := hB16.cell 1
  have l16_2 : ws15.cell? ⟨lb, 2, none⟩ = some (.int .u64 0) := hB16.cell 2
  have l16_3 : ws15.cell? ⟨lb, 3, none⟩ = some (.int .u64 0) := hB16.cell 3
  have l16_4 : ws15.cell? ⟨lb, 4, none⟩ = some (.int .u64 0) := hB16.cell 4
  have l16_5 : ws15.cell? ⟨lb, 5, none⟩ = some (.int .u64 0) := hB16.cell 5
  have l16_6 : ws15.cell? ⟨lb, 6, none⟩ = some (.int .u64 0) := hB16.cell 6
  have l16_7 : ws15.cell? ⟨lb, 7, none⟩ = some (.int .u64 0) := hB16.cell 7
  have ll16 : lb < ws15.heap.size := hB16.lt
  clear hB16
  go_wp2_with fail
  refine (refuses_seesL w ws15 d bm bw bl lb _ [n0, n1, n2, n3, n4, n5, n6, n7, n8, n9, n10, n11, n12, n13, n14, n15] n16 30 HL16.out true an16).mono ?_
  rintro e ws16 ⟨rfl, hS⟩
  have HL17 := Lib.hid hS; clear hS HL16 l16_0 l16_1 l16_2 l16_3 l16_4 l16_5 l16_6 l16_7 ll16
  have hB17 := SeesL.blk HL17.out
  have l17_0 : ws16.cell? ⟨lb, 0, none⟩ = some (.int .u64 5) := hB17.cell 0
  have l17_1 : ws16.cell? ⟨lb, 1, none⟩ = some (.int .u64 0) := hB17.cell 1
  have l17_2 : ws16.cell? ⟨lb, 2, none⟩ = some (.int .u64 0) := hB17.cell 2
  have l17_3 : ws16.cell? ⟨lb, 3, none⟩ = some (.int .u64 0) := hB17.cell 3
  have l17_4 : ws16.cell? ⟨lb, 4, none⟩ = some (.int .u64 0) := hB17.cell 4
  have l17_5 : ws16.cell? ⟨lb, 5, none⟩ = some (.int .u64 0) := hB17.cell 5
  have l17_6 : ws16.cell? ⟨lb, 6, none⟩ = some (.int .u64 0) := hB17.cell 6
  have l17_7 : ws16.cell? ⟨lb, 7, none⟩ = some (.int .u64 0) := hB17.cell 7
  have ll17 : lb < ws16.heap.size := hB17.lt
  clear hB17
  go_wp2_with fail
  refine (hears_nilL w ws16 d bm bw bl lb _ [n0, n1, n2, n3, n4, n5, n6, n7, n8, n9, n10, n11, n12, n13, n14, n15, n16] n17 HL17.out true an17).mono ?_
  rintro e ws17 ⟨rfl, hS⟩
  have HL18 := Lib.hid hS; clear hS HL17 l17_0 l17_1 l17_2 l17_3 l17_4 l17_5 l17_6 l17_7 ll17
  have hB18 := SeesL.blk HL18.out
  have l18_0 : ws17.cell? ⟨lb, 0, none⟩ = some (.int .u64 5) := hB18.cell 0
  have l18_1 : ws17.cell? ⟨lb, 1, none⟩ = some (.int .u64 0) := hB18.cell 1
  have l18_2 : ws17.cell? ⟨lb, 2, none⟩ = some (.int .u64 0) := hB18.cell 2
  have l18_3 : ws17.cell? ⟨lb, 3, none⟩ = some (.int .u64 0) := hB18.cell 3
  have l18_4 : ws17.cell? ⟨lb, 4, none⟩ = some (.int .u64 0) := hB18.cell 4
  have l18_5 : ws17.cell? ⟨lb, 5, none⟩ = some (.int .u64 0) := hB18.cell 5
  have l18_6 : ws17.cell? ⟨lb, 6, none⟩ = some (.int .u64 0) := hB18.cell 6
  have l18_7 : ws17.cell? ⟨lb, 7, none⟩ = some (.int .u64 0) := hB18.cell 7
  have ll18 : lb < ws17.heap.size := hB18.lt
  clear hB18
  go_wp2_with fail
  refine (hears_litL w ws17 d bm bw bl lb _ [n0, n1, n2, n3, n4, n5, n6, n7, n8, n9, n10, n11, n12, n13, n14, n15, n16, n17] n18 [{ k := 16, c := 1, l := 1, d := { x0 := 0 } }, { k := 14, c := 0, l := 1, d := { x0 := 6 } }] 2 _ rfl (by decide) HL18.out true an18).mono ?_
  rintro e ws18 ⟨rfl, hS⟩
  have HL19 := Lib.hid hS; clear hS HL18 l18_0 l18_1 l18_2 l18_3 l18_4 l18_5 l18_6 l18_7 ll18
  have hB19 := SeesL.blk HL19.out
  have l19_0 : ws18.cell? ⟨lb, 0, none⟩ = some (.int .u64 5) := hB19.cell 0
  have l19_1 : ws18.cell? ⟨lb, 1, none⟩ = some (.int .u64 0) := hB19.cell 1
  have l19_2 : ws18.cell? ⟨lb, 2, none⟩ = some (.int .u64 0) := hB19.cell 2
  have l19_3 : ws18.cell? ⟨lb, 3, none⟩ = some (.int .u64 0) := hB19.cell 3
  have l19_4 : ws18.cell? ⟨lb, 4, none⟩ = some (.int .u64 0) := hB19.cell 4
  have l19_5 : ws18.cell? ⟨lb, 5, none⟩ = some (.int .u64 0) := hB19.cell 5
  have l19_6 : ws18.cell? ⟨lb, 6, none⟩ = some (.int .u64 0) := hB19.cell 6
  have l19_7 : ws18.cell? ⟨lb, 7, none⟩ = some (.int .u64 0) := hB19.cell 7
  have ll19 : lb < ws18.heap.size := hB19.lt
  clear hB19
  have HZ : Hid (Chg [] w ws18) := Lib.hid HL19.out.chg0
  clear HL19 ll19 s0 s1 l19_0 l19_1 l19_2 l19_3 l19_4 l19_5 l19_6 l19_7
  go_wp2_with fail
  refine (DNew_bad _ 1 1 (by decide)).mono ?_
  rintro e y0 ⟨rfl, rfl⟩
  go_wp2_with fail
  refine (DNew_cores _ 2 5 (by decide) (by decide) (by decide)).mono ?_
  rintro e y1 ⟨rfl, hz⟩
  replace HZ : Hid (Chg [] w y1) := by first | exact Lib.hid (HZ.out.trans hz) | exact Lib.hid ((HZ.out.alloc _).trans hz)
  clear hz
  go_wp2_with fail
  refine (DNew_cores _ 2 0 (by decide) (by decide) (by decide)).mono ?_
  rintro e y2 ⟨rfl, hz⟩
  replace HZ : Hid (Chg [] w y2) := by first | exact Lib.hid (HZ.out.trans hz) | exact Lib.hid ((HZ.out.alloc _).trans hz)
  clear hz
  go_wp2_with fail
  refine (Hear_nil _ { k := 0, c := 0, l := 0 }).mono ?_
  rintro e y3 ⟨rfl, hz⟩
  replace HZ : Hid (Chg [] w y3) := by first | exact Lib.hid (HZ.out.trans hz) | exact Lib.hid ((HZ.out.alloc _).trans hz)
  clear hz
  go_wp2_with fail
  refine (DMemory_nil _ 0).mono ?_
  rintro e y4 ⟨rfl, hz⟩
  replace HZ : Hid (Chg [] w y4) := by first | exact Lib.hid (HZ.out.trans hz) | exact Lib.hid ((HZ.out.alloc _).trans hz)
  clear hz
  go_wp2_with fail
  refine (DSet_nil _ 0 0 0 0 0 0 0 0 0).mono ?_
  rintro e y5 ⟨rfl, hz⟩
  replace HZ : Hid (Chg [] w y5) := by first | exact Lib.hid (HZ.out.trans hz) | exact Lib.hid ((HZ.out.alloc _).trans hz)
  clear hz
  go_wp2_with fail
  refine (DUnder_nil _ 0).mono ?_
  rintro e y6 ⟨rfl, hz⟩
  replace HZ : Hid (Chg [] w y6) := by first | exact Lib.hid (HZ.out.trans hz) | exact Lib.hid ((HZ.out.alloc _).trans hz)
  clear hz
  go_wp2_with fail
  refine (alive_any _).mono ?_
  rintro e y7 ⟨rfl, hz⟩
  replace HZ : Hid (Chg [] w y7) := by first | exact Lib.hid (HZ.out.trans hz) | exact Lib.hid ((HZ.out.alloc _).trans hz)
  clear hz
  go_wp2_with fail
  refine (Owner_nil _ 0).mono ?_
  rintro e y8 ⟨rfl, rfl⟩
  go_wp2_with fail
  go_ret
  exact ⟨rfl, HZ.out.nil_below⟩
end Go.Proofs.Ytepdhajgemmoiaa
