/- A log's calls: New, Read, Write, Was, Look, Clear. -/
import Derived.Test.YtilffolppnnkaaaSLog2
namespace Go.Proofs.Ytilffolppnnkaaa
set_option maxRecDepth 100000
open Go.RowKit

/-- What a read, and a write, make of a list. -/
def rdErr (l : PL) (a : Int) : Int := if a < 0 then 2 else if (place l a).isSome then 0 else putErr l
def rdL (l : PL) (a v : Int) : PL := if a < 0 then l else if (place l a).isSome then l else putL l a v
def wrL (l : PL) (a v : Int) : PL := if a < 0 then l else match place l a with | some i => l.set i (a, v) | none => putL l a v

/-- A log at block g: its two lists. -/
structure LogAt (w : World) (g : Nat) (F : List Nat) (R W : PL) : Prop where
  parts : ∃ b c v m u n, Blk w g [.pointer (some ⟨b, 0, none⟩), .pointer (some ⟨c, 0, none⟩)] 90 ∧ ListAt w b v m R ∧ ListAt w c u n W ∧
    F = g :: (listF b v m ++ listF c u n) ∧ Apart (listF b v m) (listF c u n) ∧ g ∉ listF b v m ∧ g ∉ listF c u n

theorem LogAt.lt {w : World} {g : Nat} {F : List Nat} {R W : PL} (h : LogAt w g F R W) : ∀ x ∈ F, x < w.heap.size := by
  obtain ⟨b, c, v, m, u, n, h1, h2, h3, rfl, _⟩ := h.parts
  intro x hx
  simp only [List.mem_cons, List.mem_append] at hx
  rcases hx with rfl | hx | hx
  · exact h1.lt
  · exact h2.lt x hx
  · exact h3.lt x hx
theorem LogAt.chg {S : List Nat} {w w' : World} {g : Nat} {F : List Nat} {R W : PL} (h : LogAt w g F R W) (k : Chg S w w') (hs : Apart F S) : LogAt w' g F R W := by
  obtain ⟨b, c, v, m, u, n, h1, h2, h3, rfl, h4, h5, h6⟩ := h.parts
  exact ⟨b, c, v, m, u, n, k.blk h1 (hs g (by simp)), h2.chg k (fun x hx => hs x (by simp [hx])), h3.chg k (fun x hx => hs x (by simp [hx])), rfl, h4, h5, h6⟩
theorem LogAt.look {w w' : World} {g : Nat} {F : List Nat} {R W : PL} (h : LogAt w g F R W) (k : Chg [] w w') : LogAt w' g F R W := h.chg k (Apart.nil_right _)

theorem none_any (w : World) (g : Nat) (b : Nat) (h : w.cell? ⟨g, 0, none⟩ = some (.pointer (some ⟨b, 0, none⟩))) :
    Calls Try.prog 57 #[.pointer (some ⟨g, 0, none⟩)] w fun e w' => e = .returned (.bool false) ∧ w = w' := by
  go_enter Try.func57, Try.ntmps57
  go_wp2
  go_ret
  exact ⟨rfl, rfl⟩

set_option maxHeartbeats 1000000 in
theorem Was_any (w : World) (g : Nat) (F : List Nat) (R W : PL) (a : Int) (ha : (Lit.int .i64 a).wf = true) (h : LogAt w g F R W) :
    Calls Try.prog 70 #[.pointer (some ⟨g, 0, none⟩), .int .i64 a] w fun e w' => e = .returned (.tuple #[.int .u64 (valOf R a), .bool (isIn R a)]) ∧ w = w' := by
  obtain ⟨b, c, v, m, u, n, h1, h2, h3, rfl, h4, h5, h6⟩ := h.parts
  have k0 : w.cell? ⟨g, 0, none⟩ = some (.pointer (some ⟨b, 0, none⟩)) := h1.cell 0
  have H2 := Lib.hid h2
  clear h h1 h2 h3 h4 h5 h6
  go_enter Try.func70, Try.ntmps70
  go_wp2_with fail
  refine (none_any _ _ _ k0).mono ?_
  rintro e w' ⟨rfl, rfl⟩
  go_wp2_with fail
  refine (look_any _ b m v R a ha H2.out).mono ?_
  rintro e w' ⟨rfl, rfl⟩
  go_wp2_with fail
  go_ret2
  exact ⟨rfl, rfl⟩

set_option maxHeartbeats 1000000 in
theorem Look_any (w : World) (g : Nat) (F : List Nat) (R W : PL) (a : Int) (ha : (Lit.int .i64 a).wf = true) (h : LogAt w g F R W) :
    Calls Try.prog 41 #[.pointer (some ⟨g, 0, none⟩), .int .i64 a] w fun e w' => e = .returned (.tuple #[.int .u64 (valOf W a), .bool (isIn W a)]) ∧ w = w' := by
  obtain ⟨b, c, v, m, u, n, h1, h2, h3, rfl, h4, h5, h6⟩ := h.parts
  have k0 : w.cell? ⟨g, 0, none⟩ = some (.pointer (some ⟨b, 0, none⟩)) := h1.cell 0
  have k1 : w.cell? ⟨g, 1, none⟩ = some (.pointer (some ⟨c, 0, none⟩)) := h1.cell 1
  have H3 := Lib.hid h3
  clear h h1 h2 h3 h4 h5 h6
  go_enter Try.func41, Try.ntmps41
  go_wp2_with fail
  refine (none_any _ _ _ k0).mono ?_
  rintro e w' ⟨rfl, rfl⟩
  go_wp2_with fail
  refine (look_any _ c n u W a ha H3.out).mono ?_
  rintro e w' ⟨rfl, rfl⟩
  go_wp2_with fail
  go_ret2
  exact ⟨rfl, rfl⟩

def ReadPost (w : World) (g : Nat) (F : List Nat) (R W : PL) (a x : Int) (e : Ending) (w' : World) : Prop :=
  e = .returned (.int .i64 (rdErr R a)) ∧ ∃ F', LogAt w' g F' (rdL R a x) W ∧ Mv F F' w w'

theorem Mv.of_same {F : List Nat} {w w' : World} (h : Chg [] w w') : Mv F F w w' := ⟨h.mono (by simp), fun _ hx => .inl hx⟩

theorem LogAt.reads {w w' : World} {g b c m n : Nat} {v v' u : Value} {R R' W : PL} (h1 : Blk w g [.pointer (some ⟨b, 0, none⟩), .pointer (some ⟨c, 0, none⟩)] 90) (h2 : ListAt w b v m R) (h3 : ListAt w c u n W) (h4 : Apart (listF b v m) (listF c u n)) (h5 : g ∉ listF b v m) (h6 : g ∉ listF c u n)
    (k : ListAt w' b v' m R') (hm : Mv (listF b v m) (listF b v' m) w w') : ∃ F', LogAt w' g F' R' W ∧ Mv (g :: (listF b v m ++ listF c u n)) F' w w' := by
  refine ⟨_, ⟨b, c, v', m, u, n, hm.chg.blk h1 h5, k, h3.chg hm.chg h4.symm, rfl, h4.mv hm h3.lt, ?_, h6⟩, ⟨hm.chg.mono (fun x hx => by simp [hx]), ?_⟩⟩
  · intro hg
    rcases hm.new g hg with e | e
    · exact h5 e
    · have := h1.lt; omega
  · intro x hx
    simp only [List.mem_cons, List.mem_append] at hx ⊢
    rcases hx with rfl | hx | hx
    · exact .inl (.inl rfl)
    · exact (hm.new x hx).elim (fun e => .inl (.inr (.inl e))) .inr
    · exact .inl (.inr (.inr hx))
theorem LogAt.writes {w w' : World} {g b c m n : Nat} {v u u' : Value} {R W W' : PL} (h1 : Blk w g [.pointer (some ⟨b, 0, none⟩), .pointer (some ⟨c, 0, none⟩)] 90) (h2 : ListAt w b v m R) (h3 : ListAt w c u n W) (h4 : Apart (listF b v m) (listF c u n)) (h5 : g ∉ listF b v m) (h6 : g ∉ listF c u n)
    (k : ListAt w' c u' n W') (hm : Mv (listF c u n) (listF c u' n) w w') : ∃ F', LogAt w' g F' R W' ∧ Mv (g :: (listF b v m ++ listF c u n)) F' w w' := by
  refine ⟨_, ⟨b, c, v, m, u', n, hm.chg.blk h1 h6, h2.chg hm.chg h4, k, rfl, (h4.symm.mv hm h2.lt).symm, h5, ?_⟩, ⟨hm.chg.mono (fun x hx => by simp [hx]), ?_⟩⟩
  · intro hg
    rcases hm.new g hg with e | e
    · exact h6 e
    · have := h1.lt; omega
  · intro x hx
    simp only [List.mem_cons, List.mem_append] at hx ⊢
    rcases hx with rfl | hx | hx
    · exact .inl (.inl rfl)
    · exact .inl (.inr (.inl hx))
    · exact (hm.new x hx).elim (fun e => .inl (.inr (.inr e))) .inr

set_option maxHeartbeats 1000000 in
theorem Read_any (w : World) (g : Nat) (F : List Nat) (R W : PL) (a x : Int) (ha : (Lit.int .i64 a).wf = true) (hx : (Lit.int .u64 x).wf = true) (h : LogAt w g F R W) :
    Calls Try.prog 71 #[.pointer (some ⟨g, 0, none⟩), .int .i64 a, .int .u64 x] w (ReadPost w g F R W a x) := by
  have h0 := h
  obtain ⟨b, c, v, m, u, n, h1, h2, h3, rfl, h4, h5, h6⟩ := h.parts
  have k0 : w.cell? ⟨g, 0, none⟩ = some (.pointer (some ⟨b, 0, none⟩)) := h1.cell 0
  have H0 := Lib.hid h0
  have H1 := Lib.hid h1
  have H2 := Lib.hid h2
  have H3 := Lib.hid h3
  have H4 := Lib.hid h4
  have H5 := Lib.hid h5
  have H6 := Lib.hid h6
  clear h h0 h1 h2 h3 h4 h5 h6
  by_cases hneg : a < 0
  · have e1 : rdErr R a = 2 := by simp [rdErr, hneg]
    have e2 : rdL R a x = R := by simp [rdL, hneg]
    unfold ReadPost
    rw [e1, e2]
    clear e1 e2
    go_enter Try.func71, Try.ntmps71
    go_wp2_with fail
    refine (none_any _ _ _ k0).mono ?_
    rintro e w' ⟨rfl, rfl⟩
    go_wp2_with fail
    go_ret
    exact ⟨rfl, _, H0.out, Mv.refl _ _⟩
  have hpos : 0 ≤ a := by omega
  cases hp : place R a with
  | some i =>
    have e1 : rdErr R a = 0 := by simp [rdErr, hneg, hp]
    have e2 : rdL R a x = R := by simp [rdL, hneg, hp]
    have e3 : isIn R a = true := by simp [isIn, hp]
    unfold ReadPost
    rw [e1, e2]
    have E3 := Lib.hid e3
    clear e1 e2 e3 hp hneg
    go_enter Try.func71, Try.ntmps71
    go_wp2_with fail
    refine (none_any _ _ _ k0).mono ?_
    rintro e w' ⟨rfl, rfl⟩
    go_wp2_with fail
    refine (look_any _ b m v R a ha H2.out).mono ?_
    rintro e w' ⟨rfl, rfl⟩
    rw [E3.out]
    go_wp2_with fail
    go_ret
    exact ⟨rfl, _, H0.out, Mv.refl _ _⟩
  | none =>
    have e1 : rdErr R a = putErr R := by simp [rdErr, hneg, hp]
    have e2 : rdL R a x = putL R a x := by simp [rdL, hneg, hp]
    have e3 : isIn R a = false := by simp [isIn, hp]
    unfold ReadPost
    rw [e1, e2]
    have E3 := Lib.hid e3
    have HP := Lib.hid hp
    clear e1 e2 e3 hp hneg
    go_enter Try.func71, Try.ntmps71
    go_wp2_with fail
    refine (none_any _ _ _ k0).mono ?_
    rintro e w' ⟨rfl, rfl⟩
    go_wp2_with fail
    refine (look_any _ b m v R a ha H2.out).mono ?_
    rintro e w' ⟨rfl, rfl⟩
    rw [E3.out]
    go_wp2_with fail
    refine (put_any _ b m v R a x ha hx HP.out H2.out).mono ?_
    rintro e w' ⟨rfl, hput⟩
    have HQ := Lib.hid hput
    clear hput
    go_wp2_with fail
    go_ret
    obtain ⟨v', hl, hm⟩ := HQ.out
    exact ⟨rfl, LogAt.reads H1.out H2.out H3.out H4.out H5.out H6.out hl hm⟩

end Go.Proofs.Ytilffolppnnkaaa
