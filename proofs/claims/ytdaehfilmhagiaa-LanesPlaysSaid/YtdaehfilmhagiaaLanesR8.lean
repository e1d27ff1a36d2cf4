/- A control and the document's stand alike; LanesPlays. -/
import Derived.Test.YtdaehfilmhagiaaLanesR7
namespace Go.Proofs.Ytdaehfilmhagiaa
open Go.RowKit

set_option maxRecDepth 100000 in
set_option maxHeartbeats 16000000 in
theorem same_1 (w wr : World) (a b : Nat) (C : LC) (f s o : Int) (ls : List Int) (l1 : C.lane = 1) (h : PairAt w wr a b C f s o ls) :
    Calls Try.prog 23 #[.pointer (some ⟨a, 0, none⟩), .pointer (some ⟨b, 0, none⟩)] wr (SamePost wr) := by
  obtain ⟨v, x, y⟩ := h.r.blk
  obtain ⟨A, cap, rfl, _⟩ := y.len
  have hq := eq_five
  have q := eqInts_self [0, cnt ls 1, cnt ls 2, cnt ls 3, cnt ls 4]
  have X := Lib.hid x
  have HH := Lib.hid h
  have hl := h.al.len
  have z0 := h.own.ok.z0
  have n1 := h.al.n1
  have n2 := h.al.n2
  have n3 := h.al.n3
  have n4 := h.al.n4
  have L := Lib.hid hl
  have Z := Lib.hid z0
  have N1 := Lib.hid n1
  have N2 := Lib.hid n2
  have N3 := Lib.hid n3
  have N4 := Lib.hid n4
  have hc3 : wr.cell? ⟨b, 3, none⟩ = some (.int .i64 1) := by rw [← l1]; exact x.cell 3
  have hc4 : wr.cell? ⟨b, 4, none⟩ = some (.slice A ls.length cap) := x.cell 4
  have hG := Lib.hid (Chg.refl [] wr)
  clear h x y hl z0 n1 n2 n3 n4
  have eh : C.hard = true := by simp [LC.hard, l1]
  have EH := Lib.hid eh
  have L1 := Lib.hid l1
  clear l1 eh
  go_enter Try.func23, Try.ntmps23
  go_wp2_with fail
  first
    | (go_region_with (first
        | (go_at_call 17; refine (Lane_any _ a C (Blk.drew HH.out.own.c)).mono ?_; rintro e w1 ⟨rfl, rfl⟩; rw [L1.out])
        | (go_at_call 20; refine (Try_any _ a C HH.out.own.ok.small (Blk.drew HH.out.own.c)).mono ?_; rintro e w1 ⟨rfl, h2⟩; have G1 := Lib.hid ((Chg.refl [] wr).drew.trans h2); have k31 : w1.cell? ⟨b, 3, none⟩ = some (.int .i64 1) := by { have := (G1.out.blk X.out (by simp)).cell 3; rw [L1.out] at this; exact this }; have k41 : w1.cell? ⟨b, 4, none⟩ = some (.slice A ls.length cap) := (G1.out.blk X.out (by simp)).cell 4; clear h2; rw [L.out])
        | (go_at_call 16; refine (Counts_any _ a C (HH.out.look G1.out).own.c).mono ?_; rintro e w2 ⟨rfl, h2⟩; have G2 := Lib.hid (G1.out.trans h2); clear h2 k31 k41; rw [Z.out, N1.out, N2.out, N3.out, N4.out])
        | (go_at_call 31; refine (refCounts_any _ b f s o C.lane ls (HH.out.look G2.out).r).mono ?_; rintro e w3 ⟨rfl, h2⟩; have G3 := Lib.hid (G2.out.trans h2); have k33 : w3.cell? ⟨b, 3, none⟩ = some (.int .i64 1) := by { have := (G3.out.blk X.out (by simp)).cell 3; rw [L1.out] at this; exact this }; clear h2)
        | (go_at_call 13; refine (Hard_any _ a C (HH.out.look G3.out).own.c).mono ?_; rintro e w4 ⟨rfl, rfl⟩; rw [EH.out])
        | fail))
    | fail
  all_goals go_wp2_with fail
  all_goals go_ret
  all_goals exact ⟨rfl, G3.out⟩

set_option maxRecDepth 100000 in
set_option maxHeartbeats 4000000 in
theorem same_any (w wr : World) (a b : Nat) (C : LC) (f s o : Int) (ls : List Int) (h : PairAt w wr a b C f s o ls) :
    Calls Try.prog 23 #[.pointer (some ⟨a, 0, none⟩), .pointer (some ⟨b, 0, none⟩)] wr (SamePost wr) := by
  by_cases l1 : C.lane = 1
  · exact same_1 w wr a b C f s o ls l1 h
  obtain ⟨v, x, y⟩ := h.r.blk
  obtain ⟨A, cap, rfl, _⟩ := y.len
  have hq := eq_five
  have q := eqInts_self [0, cnt ls 1, cnt ls 2, cnt ls 3, cnt ls 4]
  have X := Lib.hid x
  have HH := Lib.hid h
  have hl := h.al.len
  have z0 := h.own.ok.z0
  have n1 := h.al.n1
  have n2 := h.al.n2
  have n3 := h.al.n3
  have n4 := h.al.n4
  have L := Lib.hid hl
  have Z := Lib.hid z0
  have N1 := Lib.hid n1
  have N2 := Lib.hid n2
  have N3 := Lib.hid n3
  have N4 := Lib.hid n4
  have hc3 : wr.cell? ⟨b, 3, none⟩ = some (.int .i64 C.lane) := x.cell 3
  have hc4 : wr.cell? ⟨b, 4, none⟩ = some (.slice A ls.length cap) := x.cell 4
  have hG := Lib.hid (Chg.refl [] wr)
  clear h x y hl z0 n1 n2 n3 n4
  by_cases l2 : C.lane = 2
  · have eh : C.hard = true := by simp [LC.hard, l2]
    have EH := Lib.hid eh
    have b1 : (C.lane == 1) = false := by simpa using l1
    have b2 : (C.lane == 2) = true := by simpa using l2
    clear l1 l2 eh
    go_enter Try.func23, Try.ntmps23
    go_wp2_with fail
    first
      | (go_region_held3 (fun w' => w'.cell? ⟨b, 3, none⟩ = some (.int .i64 C.lane) ∧ w'.cell? ⟨b, 4, none⟩ = some (.slice A ls.length cap)) (first | exact ⟨hc3, hc4⟩ | exact ⟨(G3.out.blk X.out (by simp)).cell 3, (G3.out.blk X.out (by simp)).cell 4⟩ | exact ⟨(G2.out.blk X.out (by simp)).cell 3, (G2.out.blk X.out (by simp)).cell 4⟩ | exact ⟨(G1.out.blk X.out (by simp)).cell 3, (G1.out.blk X.out (by simp)).cell 4⟩) (first
        | (go_at_call 17; refine (Lane_any _ a C (Blk.drew HH.out.own.c)).mono ?_; rintro e w1 ⟨rfl, rfl⟩)
        | (go_at_call 20; refine (Try_any _ a C HH.out.own.ok.small (Blk.drew HH.out.own.c)).mono ?_; rintro e w1 ⟨rfl, h2⟩; have G1 := Lib.hid ((Chg.refl [] wr).drew.trans h2); clear h2; rw [L.out])
        | (go_at_call 16; refine (Counts_any _ a C (HH.out.look G1.out).own.c).mono ?_; rintro e w2 ⟨rfl, h2⟩; have G2 := Lib.hid (G1.out.trans h2); clear h2; rw [Z.out, N1.out, N2.out, N3.out, N4.out])
        | (go_at_call 31; refine (refCounts_any _ b f s o C.lane ls (HH.out.look G2.out).r).mono ?_; rintro e w3 ⟨rfl, h2⟩; have G3 := Lib.hid (G2.out.trans h2); clear h2)
        | (go_at_call 13; refine (Hard_any _ a C (HH.out.look G3.out).own.c).mono ?_; rintro e w4 ⟨rfl, rfl⟩; rw [EH.out])))
      | fail
    go_wp2_with fail
    go_ret
    exact ⟨rfl, G3.out⟩
  · have eh : C.hard = false := by simp [LC.hard, l1, l2]
    have EH := Lib.hid eh
    have b1 : (C.lane == 1) = false := by simpa using l1
    have b2 : (C.lane == 2) = false := by simpa using l2
    clear l1 l2 eh
    go_enter Try.func23, Try.ntmps23
    go_wp2_with fail
    first
      | (go_region_held3 (fun w' => w'.cell? ⟨b, 3, none⟩ = some (.int .i64 C.lane) ∧ w'.cell? ⟨b, 4, none⟩ = some (.slice A ls.length cap)) (first | exact ⟨hc3, hc4⟩ | exact ⟨(G3.out.blk X.out (by simp)).cell 3, (G3.out.blk X.out (by simp)).cell 4⟩ | exact ⟨(G2.out.blk X.out (by simp)).cell 3, (G2.out.blk X.out (by simp)).cell 4⟩ | exact ⟨(G1.out.blk X.out (by simp)).cell 3, (G1.out.blk X.out (by simp)).cell 4⟩) (first
        | (go_at_call 17; refine (Lane_any _ a C (Blk.drew HH.out.own.c)).mono ?_; rintro e w1 ⟨rfl, rfl⟩)
        | (go_at_call 20; refine (Try_any _ a C HH.out.own.ok.small (Blk.drew HH.out.own.c)).mono ?_; rintro e w1 ⟨rfl, h2⟩; have G1 := Lib.hid ((Chg.refl [] wr).drew.trans h2); clear h2; rw [L.out])
        | (go_at_call 16; refine (Counts_any _ a C (HH.out.look G1.out).own.c).mono ?_; rintro e w2 ⟨rfl, h2⟩; have G2 := Lib.hid (G1.out.trans h2); clear h2; rw [Z.out, N1.out, N2.out, N3.out, N4.out])
        | (go_at_call 31; refine (refCounts_any _ b f s o C.lane ls (HH.out.look G2.out).r).mono ?_; rintro e w3 ⟨rfl, h2⟩; have G3 := Lib.hid (G2.out.trans h2); clear h2)
        | (go_at_call 13; refine (Hard_any _ a C (HH.out.look G3.out).own.c).mono ?_; rintro e w4 ⟨rfl, rfl⟩; rw [EH.out])))
      | fail
    go_wp2_with fail
    go_ret
    exact ⟨rfl, G3.out⟩

end Go.Proofs.Ytdaehfilmhagiaa
