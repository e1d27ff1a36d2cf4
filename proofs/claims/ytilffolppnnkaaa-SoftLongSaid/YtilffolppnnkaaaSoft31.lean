/- A path beside the document's: the lists; whether they stand alike. -/
import Derived.Test.YtilffolppnnkaaaSoft30
import Derived.Test.YtilffolppnnkaaaSoft20
namespace Go.Proofs.Ytilffolppnnkaaa
set_option maxRecDepth 100000
open Go.RowKit

/-- A path, the document's, and a memory, apart. -/
structure Duo (w : World) (p : Nat) (F : List Nat) (s : PS) (d : Nat) (t : PS) (m c : Nat) (h : PL) : Prop where
  T : Two w p F m c s h
  D : DAt w (d :: m :: F) d t
  off : d ∉ m :: F
theorem Duo.dlt {w : World} {p d m c : Nat} {F : List Nat} {s t : PS} {h : PL} (k : Duo w p F s d t m c h) : d < w.heap.size := by
  obtain ⟨x, r, u, _, _, hb, _⟩ := k.D; exact hb.lt
theorem Duo.lt {w : World} {p d m c : Nat} {F : List Nat} {s t : PS} {h : PL} (k : Duo w p F s d t m c h) : ∀ z ∈ d :: m :: F, z < w.heap.size := fun z hz => by
  rcases List.mem_cons.1 hz with rfl | hz
  · exact k.dlt
  · exact k.T.lt z hz
theorem DAt.chg {w w' : World} {N N' S : List Nat} {d : Nat} {s : PS} (h : DAt w N d s) (hC : Chg S w w') (hS : ∀ x ∈ S, x ∈ N) (hd : d ∉ S) (hN : ∀ x ∈ N', x ∈ N ∨ w.heap.size ≤ x) : DAt w' N' d s := by
  obtain ⟨x, r, u, h1, h2, hb, hF, hG, hp⟩ := h
  exact ⟨x, r, u, h1, h2, hC.blk hb hd, hF.step (hC.mono hS) hN, hG.step (hC.mono hS) hN, hp⟩
theorem Duo.path {w w' : World} {p d m c : Nat} {F F' : List Nat} {s s' t : PS} {h : PL} (k : Duo w p F s d t m c h) (hp : PathAt w' p F' s') (hM : Mv F F' w w') (ho : s'.ph.ok s'.R s'.W) : Duo w' p F' s' d t m c h := by
  have hd : d ∉ F := fun e => k.off (by simp [e])
  refine ⟨k.T.step hp hM ho, k.D.chg hM.chg (fun x hx => by simp [hx]) hd (fun x hx => ?_), fun e => ?_⟩
  · simp only [List.mem_cons] at hx ⊢
    rcases hx with hx | hx | hx
    · exact .inl (.inl hx)
    · exact .inl (.inr (.inl hx))
    · exact (hM.new x hx).imp (fun e => .inr (.inr e)) id
  · rcases List.mem_cons.1 e with rfl | e
    · exact k.off (by simp)
    · exact (hM.new d e).elim hd (fun e => by have := k.dlt; omega)
theorem Duo.mem {w w' : World} {p d m c c' : Nat} {F : List Nat} {s t : PS} {h h' : PL} (k : Duo w p F s d t m c h) (hm : MemAt w' m c' h') (hC : Chg [m] w w') : Duo w' p F s d t m c' h' :=
  ⟨k.T.mstep hm hC, k.D.chg hC (fun x hx => by simp at hx; simp [hx]) (fun e => k.off (by simp at e; simp [e])) (fun x hx => .inl hx), k.off⟩
theorem Duo.doc {w w' : World} {p d m c : Nat} {F : List Nat} {s t t' : PS} {h : PL} (k : Duo w p F s d t m c h) (hD : DAt w' (d :: m :: F) d t') (hC : Chg [d] w w') : Duo w' p F s d t' m c h :=
  ⟨k.T.chg hC (fun x hx e => k.off (by simp at e; subst e; exact hx)), hD, k.off⟩
theorem Duo.look {w w' : World} {p d m c : Nat} {F : List Nat} {s t : PS} {h : PL} (k : Duo w p F s d t m c h) (hC : Chg [] w w') : Duo w' p F s d t m c h :=
  ⟨k.T.look hC, k.D.chg hC (by simp) (by simp) (fun x hx => .inl hx), k.off⟩
theorem Duo.told {w w' : World} {p d m c : Nat} {F : List Nat} {s t : PS} {h : PL} (k : Duo w p F s d t m c h) {v : Value} {l : PL} (ho : w'.ownsRow w.heap.size 85 2 v l.length (cellsP l)) (hb : Below w.heap.size w w') :
    ∃ A cap, v = .slice A l.length cap ∧ RdP w' w'.heap.size A l ∧ Duo w' p F s d t m c h ∧ Chg [] w w' := by
  have hC := Chg.of_below hb []
  rw [cellsP_flat] at ho
  obtain ⟨A, cap, rfl, _, _, _, hR, _⟩ := Rd.of_row encP_len ho
  exact ⟨A, cap, rfl, hR, k.look hC, hC⟩

set_option maxHeartbeats 4000000 in
theorem lists_any (w : World) (p d m c : Nat) (F : List Nat) (s : PS) (h : PL) (hD : Duo w p F s d s m c h) :
    Calls Try.prog 55 #[.pointer (some ⟨p, 0, none⟩), .pointer (some ⟨d, 0, none⟩)] w fun e w' => e = .returned (.bool true) ∧ Chg [] w w' := by
  obtain ⟨x, r, u, h1, h2, hb, hF, hG, hp⟩ := hD.D
  obtain ⟨m1, m2, _⟩ := hD.T.path.pairs
  have m1' : s.R.length ≤ 1000 := by omega
  have m2' : s.W.length ≤ 1000 := by omega
  have k0 : w.cell? ⟨d, 10, none⟩ = some (.slice r.A s.R.length r.cap) := by rw [← h1]; exact hb.cell 10
  have k1 : w.cell? ⟨d, 11, none⟩ = some (.slice u.A s.W.length u.cap) := by rw [← h2]; exact hb.cell 11
  have q1 := hF.rd
  have q2 := hG.rd
  rw [h1] at q1
  rw [h2] at q2
  have HQ1 := Lib.hid q1
  have HQ2 := Lib.hid q2
  have HO := Lib.hid hD
  have hdl := hb.lt
  have HDL := Lib.hid hdl
  clear hb hF hG h1 h2 q1 q2 m1 m2 hp hD
  go_enter Try.func55, Try.ntmps55
  go_wp2_with fail
  go_region_held3 (fun w' => w'.cell? ⟨d, 10, none⟩ = some (.slice r.A s.R.length r.cap) ∧ w'.cell? ⟨d, 11, none⟩ = some (.slice u.A s.W.length u.cap))
    (first | exact ⟨k0, k1⟩ | exact K1.out | exact K2.out | exact K3.out | exact K4.out)
    (first
      | (go_at_call 32; have hP0 := HO.out.look ((Chg.refl [] _).drew); refine (SReads_any _ p F s hP0.T.path).mono ?_; rintro e w1 ⟨x, rfl, hv, hbl⟩; obtain ⟨A1, c1, hx, hR1, hP1, hC1⟩ := hP0.told hv hbl; subst hx; have HR1 := Lib.hid hR1; have HP1 := Lib.hid hP1; have HC1 := Lib.hid (((Chg.refl [] w).drew).trans hC1); have K1 : Hid ((fun w' => w'.cell? ⟨d, 10, none⟩ = some (.slice r.A s.R.length r.cap) ∧ w'.cell? ⟨d, 11, none⟩ = some (.slice u.A s.W.length u.cap)) w1) := Lib.hid ⟨(hC1.cell0 HDL.out 10).trans k0, (hC1.cell0 HDL.out 11).trans k1⟩; clear hv hbl hR1 hP1 hC1 hP0)
      | (go_at_call 86; refine (SameP_q _ A2 u.A c2 u.cap _ _ s.W m2' HR2.out (HQ2.out.chg0 HC2.out)).mono ?_; rintro e w4 ⟨rfl, q4, rfl⟩; have HC4 := Lib.hid (HC2.out.trans ((Chg.refl [] _).drewN q4)); have K4 : Hid ((fun w' => w'.cell? ⟨d, 10, none⟩ = some (.slice r.A s.R.length r.cap) ∧ w'.cell? ⟨d, 11, none⟩ = some (.slice u.A s.W.length u.cap)) (w2.drewN q4)) := Lib.hid K2.out)
      | (go_at_call 86; refine (SameP_q _ A1 r.A c1 r.cap _ _ s.R m1' HR1.out (HQ1.out.chg0 HC1.out)).mono ?_; rintro e w3 ⟨rfl, q3, rfl⟩; have HP3 := Lib.hid (HP1.out.look ((Chg.refl [] _).drewN q3)); have HC3 := Lib.hid (HC1.out.trans ((Chg.refl [] _).drewN q3)); have K3 : Hid ((fun w' => w'.cell? ⟨d, 10, none⟩ = some (.slice r.A s.R.length r.cap) ∧ w'.cell? ⟨d, 11, none⟩ = some (.slice u.A s.W.length u.cap)) (w1.drewN q3)) := Lib.hid K1.out)
      | (go_at_call 33; refine (SWrites_any _ p F s HP3.out.T.path).mono ?_; rintro e w2 ⟨x, rfl, hv, hbl⟩; obtain ⟨A2, c2, hx, hR1, hP1, hC1⟩ := HP3.out.told hv hbl; subst hx; have HR2 := Lib.hid hR1; have HC2 := Lib.hid (HC3.out.trans hC1); have K2 : Hid ((fun w' => w'.cell? ⟨d, 10, none⟩ = some (.slice r.A s.R.length r.cap) ∧ w'.cell? ⟨d, 11, none⟩ = some (.slice u.A s.W.length u.cap)) w2) := Lib.hid ⟨(hC1.cell0 HP3.out.dlt 10).trans K3.out.1, (hC1.cell0 HP3.out.dlt 11).trans K3.out.2⟩; clear hv hbl hR1 hP1 hC1)
      | fail)
  all_goals
    go_wp2_with fail
    go_ret
    exact ⟨rfl, HC4.out⟩

end Go.Proofs.Ytilffolppnnkaaa
