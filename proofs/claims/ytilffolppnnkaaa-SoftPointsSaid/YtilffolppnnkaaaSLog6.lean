/- A log's Reads, Writes, Broken. -/
import Derived.Test.YtilffolppnnkaaaSLog5
namespace Go.Proofs.Ytilffolppnnkaaa
set_option maxRecDepth 100000
open Go.RowKit Go.Shelf

attribute [local go_sem] Oper.semAt_some

set_option maxHeartbeats 1000000 in
theorem Reads_any (w : World) (g : Nat) (F : List Nat) (R W : PL) (h : LogAt w g F R W) :
    Calls Try.prog 56 #[.pointer (some ⟨g, 0, none⟩)] w (ToldPost w R) := by
  obtain ⟨b, c, v, m, u, n, h1, h2, h3, rfl, h4, h5, h6⟩ := h.parts
  have k0 : w.cell? ⟨g, 0, none⟩ = some (.pointer (some ⟨b, 0, none⟩)) := h1.cell 0
  have H2 := Lib.hid h2
  clear h h1 h2 h3 h4 h5 h6
  go_enter Try.func56, Try.ntmps56
  go_wp2_with fail
  refine (none_any _ _ _ k0).mono ?_
  rintro e w' ⟨rfl, rfl⟩
  go_wp2_with fail
  refine (told_any b v m R _ H2.out).mono ?_
  rintro e w' ⟨x, rfl, hr, hb⟩
  have HR := Lib.hid hr
  have HB := Lib.hid hb
  clear hr hb
  go_wp2_with fail
  go_ret
  exact ⟨_, rfl, HR.out, HB.out⟩

set_option maxHeartbeats 1000000 in
theorem Writes_any (w : World) (g : Nat) (F : List Nat) (R W : PL) (h : LogAt w g F R W) :
    Calls Try.prog 46 #[.pointer (some ⟨g, 0, none⟩)] w (ToldPost w W) := by
  obtain ⟨b, c, v, m, u, n, h1, h2, h3, rfl, h4, h5, h6⟩ := h.parts
  have k0 : w.cell? ⟨g, 0, none⟩ = some (.pointer (some ⟨b, 0, none⟩)) := h1.cell 0
  have k1 : w.cell? ⟨g, 1, none⟩ = some (.pointer (some ⟨c, 0, none⟩)) := h1.cell 1
  have H3 := Lib.hid h3
  clear h h1 h2 h3 h4 h5 h6
  go_enter Try.func46, Try.ntmps46
  go_wp2_with fail
  refine (none_any _ _ _ k0).mono ?_
  rintro e w' ⟨rfl, rfl⟩
  go_wp2_with fail
  refine (told_any c u n W _ H3.out).mono ?_
  rintro e w' ⟨x, rfl, hr, hb⟩
  have HR := Lib.hid hr
  have HB := Lib.hid hb
  clear hr hb
  go_wp2_with fail
  go_ret
  exact ⟨_, rfl, HR.out, HB.out⟩

end Go.Proofs.Ytilffolppnnkaaa
