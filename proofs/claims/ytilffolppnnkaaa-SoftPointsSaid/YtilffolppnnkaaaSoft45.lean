/- SoftPoints, where it stands: some paths, a memory, what it should be, and other blocks. -/
import Derived.Test.YtilffolppnnkaaaSoft44
import Derived.Test.YtilffolppnnkaaaSoft37
namespace Go.Proofs.Ytilffolppnnkaaa
set_option maxRecDepth 100000
open Go.RowKit

/-- All blocks of some paths. -/
def frF (fr : List (Nat × List Nat)) : List Nat := fr.flatMap (·.2)
theorem mem_frF {fr : List (Nat × List Nat)} {x : Nat} : x ∈ frF fr ↔ ∃ i, ∃ hi : i < fr.length, x ∈ fr[i].2 := by
  unfold frF
  rw [List.mem_flatMap]
  constructor
  · rintro ⟨a, ha, hx⟩
    obtain ⟨i, hi, rfl⟩ := List.getElem_of_mem ha
    exact ⟨i, hi, hx⟩
  · rintro ⟨i, hi, hx⟩
    exact ⟨fr[i], List.getElem_mem hi, hx⟩
theorem mem_frF_set {fr : List (Nat × List Nat)} {i : Nat} (hi : i < fr.length) {p : Nat} {F' : List Nat} {x : Nat} (h : x ∈ frF (fr.set i (p, F'))) : x ∈ F' ∨ x ∈ frF fr := by
  obtain ⟨j, hj, hx⟩ := mem_frF.1 h
  rw [List.getElem_set] at hx
  split at hx
  · exact .inl hx
  · exact .inr (mem_frF.2 ⟨j, by simpa using hj, hx⟩)

/-- Paths, each with its own blocks. -/
structure Paths (w : World) (fr : List (Nat × List Nat)) (l : List PS) : Prop where
  len : fr.length = l.length
  path : ∀ i (hi : i < fr.length) (hj : i < l.length), PathAt w fr[i].1 fr[i].2 l[i]
  apart : ∀ i j (hi : i < fr.length) (hj : j < fr.length), i ≠ j → Apart fr[i].2 fr[j].2
  ok : ∀ s ∈ l, s.ph.ok s.R s.W

theorem Paths.nil (w : World) : Paths w [] [] := ⟨rfl, fun i hi => (by cases hi), fun i j hi => (by cases hi), fun s hs => (by cases hs)⟩
section
variable {w w' : World} {fr : List (Nat × List Nat)} {l : List PS} (k : Paths w fr l)
include k
theorem Paths.lt : ∀ x ∈ frF fr, x < w.heap.size := fun x hx => by
  obtain ⟨i, hi, hx⟩ := mem_frF.1 hx
  exact (k.path i hi (by rw [← k.len]; exact hi)).lt x hx
theorem Paths.chg {S : List Nat} (hC : Chg S w w') (hS : ∀ x ∈ frF fr, x ∉ S) : Paths w' fr l :=
  ⟨k.len, fun i hi hj => (k.path i hi hj).chg hC (fun x hx => hS x (mem_frF.2 ⟨i, hi, hx⟩)), k.apart, k.ok⟩
theorem Paths.look (hC : Chg [] w w') : Paths w' fr l := k.chg hC (by simp)
theorem Paths.step {i : Nat} (hi : i < fr.length) {F' : List Nat} {s' : PS} (hp : PathAt w' fr[i].1 F' s') (hM : Mv fr[i].2 F' w w') (ho : s'.ph.ok s'.R s'.W) : Paths w' (fr.set i (fr[i].1, F')) (l.set i s') := by
  refine ⟨by simp [k.len], fun j hj hj' => ?_, fun a b ha hb hab => ?_, fun s hs => ?_⟩
  · by_cases e : i = j
    · subst e; simp only [List.getElem_set_self]; exact hp
    · simp only [List.getElem_set_ne e]
      have hj1 : j < fr.length := by simpa using hj
      have hj2 : j < l.length := by simpa using hj'
      exact (k.path j hj1 hj2).chg hM.chg (k.apart j i hj1 hi (fun x => e x.symm))
  · have ha1 : a < fr.length := by simpa using ha
    have hb1 : b < fr.length := by simpa using hb
    have hlt : ∀ (c : Nat) (hc : c < fr.length), ∀ x ∈ fr[c].2, x < w.heap.size := fun c hc x hx => k.lt x (mem_frF.2 ⟨c, hc, hx⟩)
    by_cases ea : i = a
    · subst ea
      rw [List.getElem_set_self, List.getElem_set_ne hab]
      exact (k.apart i b hi hb1 hab).mv hM (hlt b hb1)
    · rw [List.getElem_set_ne ea]
      by_cases eb : i = b
      · subst eb
        rw [List.getElem_set_self]
        exact ((k.apart i a hi ha1 ea).mv hM (hlt a ha1)).symm
      · rw [List.getElem_set_ne eb]; exact k.apart a b ha1 hb1 hab
  · rcases mem_set hs with rfl | ⟨j, hj, _, rfl⟩
    · exact ho
    · exact k.ok _ (List.getElem_mem hj)
theorem Paths.add {p : Nat} {F : List Nat} {s : PS} (hp : PathAt w' p F s) (hM : Mv [] F w w') (ho : s.ph.ok s.R s.W) : Paths w' (fr ++ [(p, F)]) (l ++ [s]) := by
  have k' := k.look (hM.chg)
  have hn : ∀ x ∈ F, w.heap.size ≤ x := fun x hx => (hM.new x hx).elim (fun e => by cases e) id
  have hlen := k.len
  refine ⟨by simp [k.len], fun i hi hj => ?_, fun a b ha hb hab => ?_, fun s hs => ?_⟩
  · by_cases e : i < fr.length
    · rw [List.getElem_append_left e, List.getElem_append_left (by omega)]
      exact k'.path i e (by omega)
    · simp only [List.length_append, List.length_cons, List.length_nil] at hi
      obtain rfl : i = fr.length := by omega
      have e2 : (l ++ [s])[fr.length] = s := by simp [hlen]
      rw [e2]
      simp only [List.getElem_concat_length]
      exact hp
  · have hlt : ∀ (c : Nat) (hc : c < fr.length), ∀ x ∈ fr[c].2, x < w.heap.size := fun c hc x hx => k.lt x (mem_frF.2 ⟨c, hc, hx⟩)
    simp only [List.length_append, List.length_cons, List.length_nil] at ha hb
    by_cases ea : a < fr.length
    · rw [List.getElem_append_left ea]
      by_cases eb : b < fr.length
      · rw [List.getElem_append_left eb]; exact k.apart a b ea eb hab
      · obtain rfl : b = fr.length := by omega
        simp only [List.getElem_concat_length]
        exact (Apart.new hn (hlt a ea)).symm
    · obtain rfl : a = fr.length := by omega
      have eb : b < fr.length := by omega
      rw [List.getElem_append_left eb]
      simp only [List.getElem_concat_length]
      exact Apart.new hn (hlt b eb)
  · rcases List.mem_append.1 hs with e | e
    · exact k.ok s e
    · simp only [List.mem_singleton] at e; subst e; exact ho
end

/-- Paths over a memory, what it should be, and other blocks beside. -/
structure Mid (w : World) (fr : List (Nat × List Nat)) (l : List PS) (m c : Nat) (h : PL) (u d : Nat) (g : PL) (O : List Nat) : Prop where
  paths : Paths w fr l
  mem : MemAt w m c h
  sh : MemAt w u d g
  off : ∀ x ∈ frF fr, x ∉ m :: u :: O
  ne : m ∉ u :: O
  nu : u ∉ O
  lt : ∀ x ∈ O, x < w.heap.size

section
variable {w w' : World} {fr : List (Nat × List Nat)} {l : List PS} {m c : Nat} {h : PL} {u d : Nat} {g : PL} {O : List Nat} (k : Mid w fr l m c h u d g O)
include k
/-- Other blocks may turn. -/
theorem Mid.chg {S : List Nat} (hC : Chg S w w') (hS : ∀ x ∈ S, x ∈ O) : Mid w' fr l m c h u d g O :=
  ⟨k.paths.chg hC (fun x hx e => k.off x hx (by simp [hS x e])), k.mem.chg hC (fun e => k.ne (by simp [hS m e])), k.sh.chg hC (fun e => k.nu (hS u e)), k.off, k.ne, k.nu, fun x hx => Nat.lt_of_lt_of_le (k.lt x hx) hC.size⟩
theorem Mid.look (hC : Chg [] w w') : Mid w' fr l m c h u d g O := k.chg hC (by simp)
/-- One path did something. -/
theorem Mid.step {i : Nat} (hi : i < fr.length) {F' : List Nat} {s' : PS} (hp : PathAt w' fr[i].1 F' s') (hM : Mv fr[i].2 F' w w') (ho : s'.ph.ok s'.R s'.W) : Mid w' (fr.set i (fr[i].1, F')) (l.set i s') m c h u d g O := by
  have hin : ∀ x ∈ fr[i].2, x ∈ frF fr := fun x hx => mem_frF.2 ⟨i, hi, hx⟩
  have hm : m ∉ fr[i].2 := fun e => k.off m (hin m e) (by simp)
  have hu : u ∉ fr[i].2 := fun e => k.off u (hin u e) (by simp)
  refine ⟨k.paths.step hi hp hM ho, k.mem.chg hM.chg hm, k.sh.chg hM.chg hu, fun x hx e => ?_, k.ne, k.nu, fun x hx => Nat.lt_of_lt_of_le (k.lt x hx) hM.chg.size⟩
  have hold : x < w.heap.size := by
    simp only [List.mem_cons] at e
    rcases e with rfl | rfl | e
    · exact k.mem.lt
    · exact k.sh.lt
    · exact k.lt x e
  rcases mem_frF_set hi hx with h1 | h1
  · rcases hM.new x h1 with h2 | h2
    · exact k.off x (hin x h2) e
    · omega
  · exact k.off x h1 e
/-- Memory did something. -/
theorem Mid.mstep {c' : Nat} {h' : PL} (hm : MemAt w' m c' h') (hC : Chg [m] w w') : Mid w' fr l m c' h' u d g O :=
  ⟨k.paths.chg hC (fun x hx e => k.off x hx (by simp at e; simp [e])), hm, k.sh.chg hC (fun e => k.ne (by simp at e; simp [e])), k.off, k.ne, k.nu, fun x hx => Nat.lt_of_lt_of_le (k.lt x hx) hC.size⟩
theorem Mid.should {d' : Nat} {g' : PL} (hm : MemAt w' u d' g') (hC : Chg [u] w w') : Mid w' fr l m c h u d' g' O :=
  ⟨k.paths.chg hC (fun x hx e => k.off x hx (by simp at e; simp [e])), k.mem.chg hC (fun e => k.ne (by simp at e; simp [e])), hm, k.off, k.ne, k.nu, fun x hx => Nat.lt_of_lt_of_le (k.lt x hx) hC.size⟩
/-- A path more. -/
theorem Mid.add {p : Nat} {F : List Nat} {s : PS} (hp : PathAt w' p F s) (hM : Mv [] F w w') (ho : s.ph.ok s.R s.W) : Mid w' (fr ++ [(p, F)]) (l ++ [s]) m c h u d g O := by
  refine ⟨k.paths.add hp hM ho, k.mem.chg hM.chg (by simp), k.sh.chg hM.chg (by simp), fun x hx e => ?_, k.ne, k.nu, fun x hx => Nat.lt_of_lt_of_le (k.lt x hx) hM.chg.size⟩
  have hold : x < w.heap.size := by
    simp only [List.mem_cons] at e
    rcases e with rfl | rfl | e
    · exact k.mem.lt
    · exact k.sh.lt
    · exact k.lt x e
  have : x ∈ frF fr ∨ x ∈ F := by
    unfold frF at hx ⊢
    rw [List.flatMap_append, List.mem_append] at hx
    exact hx.imp id (fun e => by simpa using e)
  rcases this with h1 | h1
  · exact k.off x h1 e
  · exact (hM.new x h1).elim (fun e => by cases e) (fun e => by omega)
/-- Other blocks beside: a new one may come in. -/
theorem Mid.beside {S : List Nat} {b : Nat} (hC : Chg S w w') (hS : ∀ x ∈ S, x ∈ O) (hb : w.heap.size ≤ b) (hlt : b < w'.heap.size) : Mid w' fr l m c h u d g (b :: O) := by
  have k' := k.chg hC hS
  refine ⟨k'.paths, k'.mem, k'.sh, fun x hx e => ?_, fun e => ?_, fun e => ?_, fun x hx => ?_⟩
  · have := k.paths.lt x hx
    simp only [List.mem_cons] at e
    rcases e with e | e | e | e
    · exact k.off x hx (by simp [e])
    · exact k.off x hx (by simp [e])
    · omega
    · exact k.off x hx (by simp [e])
  · have := k.mem.lt
    simp only [List.mem_cons] at e
    rcases e with e | e | e
    · exact k.ne (by simp [e])
    · omega
    · exact k.ne (by simp [e])
  · have := k.sh.lt
    simp only [List.mem_cons] at e
    rcases e with e | e
    · omega
    · exact k.nu e
  · rcases List.mem_cons.1 hx with rfl | e
    · exact hlt
    · exact k'.lt x e
theorem Mid.less {O' : List Nat} (hO : ∀ x ∈ O', x ∈ O) : Mid w fr l m c h u d g O' := by
  have hsub : ∀ y (L : List Nat), y ∈ L ++ O' → y ∈ L ++ O := fun y L hy => by
    rcases List.mem_append.1 hy with e | e
    · exact List.mem_append.2 (.inl e)
    · exact List.mem_append.2 (.inr (hO y e))
  exact ⟨k.paths, k.mem, k.sh, fun x hx e => k.off x hx (hsub x [m, u] e), fun e => k.ne (hsub m [u] e), fun e => k.nu (hO u e), fun x hx => k.lt x (hO x hx)⟩
end

end Go.Proofs.Ytilffolppnnkaaa
