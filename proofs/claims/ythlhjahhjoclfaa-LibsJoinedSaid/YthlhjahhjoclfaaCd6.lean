/- Closures of a code that comes about. -/
import Derived.Test.YthlhjahhjoclfaaCd5
namespace Go.Proofs.Ythlhjahhjoclfaa
set_option maxRecDepth 100000
open Go.RowKit
def St.chain1 (s : St) (p : Po) : St := s.more 5 6 (p.at 2) 2
def St.descend1 (s : St) (p : Po) : St := ((((s.when 16 3 2 ⟨#[108, 101, 102, 116]⟩).more 5 6 (p.at 3) 2).jump ⟨#[115, 101, 97, 114, 99, 104]⟩).here ⟨#[108, 101, 102, 116]⟩).more 5 6 (p.at 2) 2
def St.hput1 (s : St) (p : Po) : St := s.store 7 6 (p.at 2)
def St.hcut1 (s : St) (p : Po) : St := (s.load 2 6 (p.at 2)).store 2 5 0
def St.tput1 (s : St) (p : Po) : St := (s.store 7 6 (p.at 2)).store 7 6 (p.at 3)

set_option maxHeartbeats 400000 in
theorem chain1_any (base n : Nat) (w : World) (b cb pb : Nat) (s : St) (p : Po) (hp : PoOk p) (hn : n ≤ 4500) (hcb : Blk w cb [.pointer (some ⟨b, 0, none⟩)] 72) (hpb : Blk w pb [.int .i64 p.fresh, .int .i64 p.free, .int .i64 p.nodes, .int .i64 p.each, .int .i64 p.next, .int .i64 p.cap] 82) (h : CodeAt base n w b s) :
    Calls Try.prog 75 #[.pointer (some ⟨cb, 0, none⟩), .pointer (some ⟨pb, 0, none⟩)] w (CPost base (n + 2) w b (s.chain1 p)) := by
  have HC := Lib.hid h
  have HK := Lib.hid (Kp.refl base w)
  have HD := Lib.hid hcb
  have HB := Lib.hid hpb
  clear h hcb hpb
  have d0 : w.cell? ⟨cb, 0, none⟩ = some (.pointer (some ⟨b, 0, none⟩)) := HD.out.cell 0
  have q0 : w.cell? ⟨pb, 0, none⟩ = some (.int .i64 p.fresh) := HB.out.cell 0
  have q1 : w.cell? ⟨pb, 1, none⟩ = some (.int .i64 p.free) := HB.out.cell 1
  have q2 : w.cell? ⟨pb, 2, none⟩ = some (.int .i64 p.nodes) := HB.out.cell 2
  have q3 : w.cell? ⟨pb, 3, none⟩ = some (.int .i64 p.each) := HB.out.cell 3
  have q4 : w.cell? ⟨pb, 4, none⟩ = some (.int .i64 p.next) := HB.out.cell 4
  have q5 : w.cell? ⟨pb, 5, none⟩ = some (.int .i64 p.cap) := HB.out.cell 5
  go_enter Try.func75, Try.ntmps75
  go_wp2_with fail
  go_region_held3 (fun w' => w'.cell? ⟨cb, 0, none⟩ = some (.pointer (some ⟨b, 0, none⟩)) ∧ w'.cell? ⟨pb, 0, none⟩ = some (.int .i64 p.fresh) ∧ w'.cell? ⟨pb, 1, none⟩ = some (.int .i64 p.free) ∧ w'.cell? ⟨pb, 2, none⟩ = some (.int .i64 p.nodes) ∧ w'.cell? ⟨pb, 3, none⟩ = some (.int .i64 p.each) ∧ w'.cell? ⟨pb, 4, none⟩ = some (.int .i64 p.next) ∧ w'.cell? ⟨pb, 5, none⟩ = some (.int .i64 p.cap)) (first | exact ⟨(((Chg.refl [] w).drew).blk HD.out (by simp)).cell 0, (((Chg.refl [] w).drew).blk HB.out (by simp)).cell 0, (((Chg.refl [] w).drew).blk HB.out (by simp)).cell 1, (((Chg.refl [] w).drew).blk HB.out (by simp)).cell 2, (((Chg.refl [] w).drew).blk HB.out (by simp)).cell 3, (((Chg.refl [] w).drew).blk HB.out (by simp)).cell 4, (((Chg.refl [] w).drew).blk HB.out (by simp)).cell 5⟩ | exact ⟨(hx.blk HD.out (by simp)).cell 0, (hx.blk HB.out (by simp)).cell 0, (hx.blk HB.out (by simp)).cell 1, (hx.blk HB.out (by simp)).cell 2, (hx.blk HB.out (by simp)).cell 3, (hx.blk HB.out (by simp)).cell 4, (hx.blk HB.out (by simp)).cell 5⟩ | exact ⟨(hK.blk HD.out rfl).cell 0, (hK.blk HB.out rfl).cell 0, (hK.blk HB.out rfl).cell 1, (hK.blk HB.out rfl).cell 2, (hK.blk HB.out rfl).cell 3, (hK.blk HB.out rfl).cell 4, (hK.blk HB.out rfl).cell 5⟩) (first | (go_at_call 53; refine (at_any _ p _ hp (by decide) (by decide)).mono ?_; rintro e wx1 ⟨rfl, hx0⟩; have hx := ((Chg.refl [] w).drew).trans hx0; clear hx0) | (go_at_call 48; refine (more_any base _ _ b _ _ _ _ _ (by omega) (HC.out.chg hx)).mono ?_; rintro e w1 ⟨rfl, hC, hK0⟩; have hK := ((Kp.of_nil (base := base) hx).trans hK0); clear hK0) | fail)
  replace HC := Lib.hid hC
  replace HK := Lib.hid (HK.out.trans hK)
  replace HB := Lib.hid (hK.blk HB.out rfl)
  replace HD := Lib.hid (hK.blk HD.out rfl)
  clear hC hK d0 q0 q1 q2 q3 q4 q5 hx
  have d0 : w1.cell? ⟨cb, 0, none⟩ = some (.pointer (some ⟨b, 0, none⟩)) := HD.out.cell 0
  have q0 : w1.cell? ⟨pb, 0, none⟩ = some (.int .i64 p.fresh) := HB.out.cell 0
  have q1 : w1.cell? ⟨pb, 1, none⟩ = some (.int .i64 p.free) := HB.out.cell 1
  have q2 : w1.cell? ⟨pb, 2, none⟩ = some (.int .i64 p.nodes) := HB.out.cell 2
  have q3 : w1.cell? ⟨pb, 3, none⟩ = some (.int .i64 p.each) := HB.out.cell 3
  have q4 : w1.cell? ⟨pb, 4, none⟩ = some (.int .i64 p.next) := HB.out.cell 4
  have q5 : w1.cell? ⟨pb, 5, none⟩ = some (.int .i64 p.cap) := HB.out.cell 5
  go_wp2_with fail
  go_end0
  exact ⟨rfl, HC.out, HK.out⟩

set_option maxHeartbeats 400000 in
theorem descend1_any (base n : Nat) (w : World) (b cb pb : Nat) (s : St) (p : Po) (hp : PoOk p) (hn : n ≤ 4500) (hcb : Blk w cb [.pointer (some ⟨b, 0, none⟩)] 72) (hpb : Blk w pb [.int .i64 p.fresh, .int .i64 p.free, .int .i64 p.nodes, .int .i64 p.each, .int .i64 p.next, .int .i64 p.cap] 82) (h : CodeAt base n w b s) :
    Calls Try.prog 76 #[.pointer (some ⟨cb, 0, none⟩), .pointer (some ⟨pb, 0, none⟩)] w (CPost base (n + 9) w b (s.descend1 p)) := by
  have HC := Lib.hid h
  have HK := Lib.hid (Kp.refl base w)
  have HD := Lib.hid hcb
  have HB := Lib.hid hpb
  clear h hcb hpb
  have d0 : w.cell? ⟨cb, 0, none⟩ = some (.pointer (some ⟨b, 0, none⟩)) := HD.out.cell 0
  have q0 : w.cell? ⟨pb, 0, none⟩ = some (.int .i64 p.fresh) := HB.out.cell 0
  have q1 : w.cell? ⟨pb, 1, none⟩ = some (.int .i64 p.free) := HB.out.cell 1
  have q2 : w.cell? ⟨pb, 2, none⟩ = some (.int .i64 p.nodes) := HB.out.cell 2
  have q3 : w.cell? ⟨pb, 3, none⟩ = some (.int .i64 p.each) := HB.out.cell 3
  have q4 : w.cell? ⟨pb, 4, none⟩ = some (.int .i64 p.next) := HB.out.cell 4
  have q5 : w.cell? ⟨pb, 5, none⟩ = some (.int .i64 p.cap) := HB.out.cell 5
  go_enter Try.func76, Try.ntmps76
  go_wp2_with fail
  refine (when_any base _ _ b _ _ _ _ _ (by decide) (by omega) HC.out).mono ?_
  rintro e w1 ⟨rfl, hC, hK⟩
  replace HC := Lib.hid hC
  replace HK := Lib.hid (HK.out.trans hK)
  replace HB := Lib.hid (hK.blk HB.out rfl)
  replace HD := Lib.hid (hK.blk HD.out rfl)
  clear hC hK d0 q0 q1 q2 q3 q4 q5
  have d0 : w1.cell? ⟨cb, 0, none⟩ = some (.pointer (some ⟨b, 0, none⟩)) := HD.out.cell 0
  have q0 : w1.cell? ⟨pb, 0, none⟩ = some (.int .i64 p.fresh) := HB.out.cell 0
  have q1 : w1.cell? ⟨pb, 1, none⟩ = some (.int .i64 p.free) := HB.out.cell 1
  have q2 : w1.cell? ⟨pb, 2, none⟩ = some (.int .i64 p.nodes) := HB.out.cell 2
  have q3 : w1.cell? ⟨pb, 3, none⟩ = some (.int .i64 p.each) := HB.out.cell 3
  have q4 : w1.cell? ⟨pb, 4, none⟩ = some (.int .i64 p.next) := HB.out.cell 4
  have q5 : w1.cell? ⟨pb, 5, none⟩ = some (.int .i64 p.cap) := HB.out.cell 5
  go_wp2_with fail
  go_region_held3 (fun w' => w'.cell? ⟨cb, 0, none⟩ = some (.pointer (some ⟨b, 0, none⟩)) ∧ w'.cell? ⟨pb, 0, none⟩ = some (.int .i64 p.fresh) ∧ w'.cell? ⟨pb, 1, none⟩ = some (.int .i64 p.free) ∧ w'.cell? ⟨pb, 2, none⟩ = some (.int .i64 p.nodes) ∧ w'.cell? ⟨pb, 3, none⟩ = some (.int .i64 p.each) ∧ w'.cell? ⟨pb, 4, none⟩ = some (.int .i64 p.next) ∧ w'.cell? ⟨pb, 5, none⟩ = some (.int .i64 p.cap)) (first | exact ⟨(((Chg.refl [] w1).drew).blk HD.out (by simp)).cell 0, (((Chg.refl [] w1).drew).blk HB.out (by simp)).cell 0, (((Chg.refl [] w1).drew).blk HB.out (by simp)).cell 1, (((Chg.refl [] w1).drew).blk HB.out (by simp)).cell 2, (((Chg.refl [] w1).drew).blk HB.out (by simp)).cell 3, (((Chg.refl [] w1).drew).blk HB.out (by simp)).cell 4, (((Chg.refl [] w1).drew).blk HB.out (by simp)).cell 5⟩ | exact ⟨(hx.blk HD.out (by simp)).cell 0, (hx.blk HB.out (by simp)).cell 0, (hx.blk HB.out (by simp)).cell 1, (hx.blk HB.out (by simp)).cell 2, (hx.blk HB.out (by simp)).cell 3, (hx.blk HB.out (by simp)).cell 4, (hx.blk HB.out (by simp)).cell 5⟩ | exact ⟨(hK.blk HD.out rfl).cell 0, (hK.blk HB.out rfl).cell 0, (hK.blk HB.out rfl).cell 1, (hK.blk HB.out rfl).cell 2, (hK.blk HB.out rfl).cell 3, (hK.blk HB.out rfl).cell 4, (hK.blk HB.out rfl).cell 5⟩) (first | (go_at_call 53; refine (at_any _ p _ hp (by decide) (by decide)).mono ?_; rintro e wx2 ⟨rfl, hx0⟩; have hx := ((Chg.refl [] w1).drew).trans hx0; clear hx0) | (go_at_call 48; refine (more_any base _ _ b _ _ _ _ _ (by omega) (HC.out.chg hx)).mono ?_; rintro e w2 ⟨rfl, hC, hK0⟩; have hK := ((Kp.of_nil (base := base) hx).trans hK0); clear hK0) | fail)
  replace HC := Lib.hid hC
  replace HK := Lib.hid (HK.out.trans hK)
  replace HB := Lib.hid (hK.blk HB.out rfl)
  replace HD := Lib.hid (hK.blk HD.out rfl)
  clear hC hK d0 q0 q1 q2 q3 q4 q5 hx
  have d0 : w2.cell? ⟨cb, 0, none⟩ = some (.pointer (some ⟨b, 0, none⟩)) := HD.out.cell 0
  have q0 : w2.cell? ⟨pb, 0, none⟩ = some (.int .i64 p.fresh) := HB.out.cell 0
  have q1 : w2.cell? ⟨pb, 1, none⟩ = some (.int .i64 p.free) := HB.out.cell 1
  have q2 : w2.cell? ⟨pb, 2, none⟩ = some (.int .i64 p.nodes) := HB.out.cell 2
  have q3 : w2.cell? ⟨pb, 3, none⟩ = some (.int .i64 p.each) := HB.out.cell 3
  have q4 : w2.cell? ⟨pb, 4, none⟩ = some (.int .i64 p.next) := HB.out.cell 4
  have q5 : w2.cell? ⟨pb, 5, none⟩ = some (.int .i64 p.cap) := HB.out.cell 5
  go_wp2_with fail
  refine (jump_any base _ _ b _ _ (by decide) (by omega) HC.out).mono ?_
  rintro e w3 ⟨rfl, hC, hK⟩
  replace HC := Lib.hid hC
  replace HK := Lib.hid (HK.out.trans hK)
  replace HB := Lib.hid (hK.blk HB.out rfl)
  replace HD := Lib.hid (hK.blk HD.out rfl)
  clear hC hK d0 q0 q1 q2 q3 q4 q5
  have d0 : w3.cell? ⟨cb, 0, none⟩ = some (.pointer (some ⟨b, 0, none⟩)) := HD.out.cell 0
  have q0 : w3.cell? ⟨pb, 0, none⟩ = some (.int .i64 p.fresh) := HB.out.cell 0
  have q1 : w3.cell? ⟨pb, 1, none⟩ = some (.int .i64 p.free) := HB.out.cell 1
  have q2 : w3.cell? ⟨pb, 2, none⟩ = some (.int .i64 p.nodes) := HB.out.cell 2
  have q3 : w3.cell? ⟨pb, 3, none⟩ = some (.int .i64 p.each) := HB.out.cell 3
  have q4 : w3.cell? ⟨pb, 4, none⟩ = some (.int .i64 p.next) := HB.out.cell 4
  have q5 : w3.cell? ⟨pb, 5, none⟩ = some (.int .i64 p.cap) := HB.out.cell 5
  go_wp2_with fail
  refine (here_any base _ _ b _ _ (by decide) (by omega) HC.out).mono ?_
  rintro e w4 ⟨rfl, hC, hK⟩
  replace HC := Lib.hid hC
  replace HK := Lib.hid (HK.out.trans hK)
  replace HB := Lib.hid (hK.blk HB.out rfl)
  replace HD := Lib.hid (hK.blk HD.out rfl)
  clear hC hK d0 q0 q1 q2 q3 q4 q5
  have d0 : w4.cell? ⟨cb, 0, none⟩ = some (.pointer (some ⟨b, 0, none⟩)) := HD.out.cell 0
  have q0 : w4.cell? ⟨pb, 0, none⟩ = some (.int .i64 p.fresh) := HB.out.cell 0
  have q1 : w4.cell? ⟨pb, 1, none⟩ = some (.int .i64 p.free) := HB.out.cell 1
  have q2 : w4.cell? ⟨pb, 2, none⟩ = some (.int .i64 p.nodes) := HB.out.cell 2
  have q3 : w4.cell? ⟨pb, 3, none⟩ = some (.int .i64 p.each) := HB.out.cell 3
  have q4 : w4.cell? ⟨pb, 4, none⟩ = some (.int .i64 p.next) := HB.out.cell 4
  have q5 : w4.cell? ⟨pb, 5, none⟩ = some (.int .i64 p.cap) := HB.out.cell 5
  go_wp2_with fail
  go_region_held3 (fun w' => w'.cell? ⟨cb, 0, none⟩ = some (.pointer (some ⟨b, 0, none⟩)) ∧ w'.cell? ⟨pb, 0, none⟩ = some (.int .i64 p.fresh) ∧ w'.cell? ⟨pb, 1, none⟩ = some (.int .i64 p.free) ∧ w'.cell? ⟨pb, 2, none⟩ = some (.int .i64 p.nodes) ∧ w'.cell? ⟨pb, 3, none⟩ = some (.int .i64 p.each) ∧ w'.cell? ⟨pb, 4, none⟩ = some (.int .i64 p.next) ∧ w'.cell? ⟨pb, 5, none⟩ = some (.int .i64 p.cap)) (first | exact ⟨(((Chg.refl [] w4).drew).blk HD.out (by simp)).cell 0, (((Chg.refl [] w4).drew).blk HB.out (by simp)).cell 0, (((Chg.refl [] w4).drew).blk HB.out (by simp)).cell 1, (((Chg.refl [] w4).drew).blk HB.out (by simp)).cell 2, (((Chg.refl [] w4).drew).blk HB.out (by simp)).cell 3, (((Chg.refl [] w4).drew).blk HB.out (by simp)).cell 4, (((Chg.refl [] w4).drew).blk HB.out (by simp)).cell 5⟩ | exact ⟨(hx.blk HD.out (by simp)).cell 0, (hx.blk HB.out (by simp)).cell 0, (hx.blk HB.out (by simp)).cell 1, (hx.blk HB.out (by simp)).cell 2, (hx.blk HB.out (by simp)).cell 3, (hx.blk HB.out (by simp)).cell 4, (hx.blk HB.out (by simp)).cell 5⟩ | exact ⟨(hK.blk HD.out rfl).cell 0, (hK.blk HB.out rfl).cell 0, (hK.blk HB.out rfl).cell 1, (hK.blk HB.out rfl).cell 2, (hK.blk HB.out rfl).cell 3, (hK.blk HB.out rfl).cell 4, (hK.blk HB.out rfl).cell 5⟩) (first | (go_at_call 53; refine (at_any _ p _ hp (by decide) (by decide)).mono ?_; rintro e wx5 ⟨rfl, hx0⟩; have hx := ((Chg.refl [] w4).drew).trans hx0; clear hx0) | (go_at_call 48; refine (more_any base _ _ b _ _ _ _ _ (by omega) (HC.out.chg hx)).mono ?_; rintro e w5 ⟨rfl, hC, hK0⟩; have hK := ((Kp.of_nil (base := base) hx).trans hK0); clear hK0) | fail)
  replace HC := Lib.hid hC
  replace HK := Lib.hid (HK.out.trans hK)
  replace HB := Lib.hid (hK.blk HB.out rfl)
  replace HD := Lib.hid (hK.blk HD.out rfl)
  clear hC hK d0 q0 q1 q2 q3 q4 q5 hx
  have d0 : w5.cell? ⟨cb, 0, none⟩ = some (.pointer (some ⟨b, 0, none⟩)) := HD.out.cell 0
  have q0 : w5.cell? ⟨pb, 0, none⟩ = some (.int .i64 p.fresh) := HB.out.cell 0
  have q1 : w5.cell? ⟨pb, 1, none⟩ = some (.int .i64 p.free) := HB.out.cell 1
  have q2 : w5.cell? ⟨pb, 2, none⟩ = some (.int .i64 p.nodes) := HB.out.cell 2
  have q3 : w5.cell? ⟨pb, 3, none⟩ = some (.int .i64 p.each) := HB.out.cell 3
  have q4 : w5.cell? ⟨pb, 4, none⟩ = some (.int .i64 p.next) := HB.out.cell 4
  have q5 : w5.cell? ⟨pb, 5, none⟩ = some (.int .i64 p.cap) := HB.out.cell 5
  go_wp2_with fail
  go_end0
  exact ⟨rfl, HC.out, HK.out⟩

set_option maxHeartbeats 400000 in
theorem hput1_any (base n : Nat) (w : World) (b cb pb : Nat) (s : St) (p : Po) (hp : PoOk p) (hn : n ≤ 4500) (hcb : Blk w cb [.pointer (some ⟨b, 0, none⟩)] 72) (hpb : Blk w pb [.int .i64 p.fresh, .int .i64 p.free, .int .i64 p.nodes, .int .i64 p.each, .int .i64 p.next, .int .i64 p.cap] 82) (h : CodeAt base n w b s) :
    Calls Try.prog 52 #[.pointer (some ⟨cb, 0, none⟩), .pointer (some ⟨pb, 0, none⟩)] w (CPost base (n + 1) w b (s.hput1 p)) := by
  have HC := Lib.hid h
  have HK := Lib.hid (Kp.refl base w)
  have HD := Lib.hid hcb
  have HB := Lib.hid hpb
  clear h hcb hpb
  have d0 : w.cell? ⟨cb, 0, none⟩ = some (.pointer (some ⟨b, 0, none⟩)) := HD.out.cell 0
  have q0 : w.cell? ⟨pb, 0, none⟩ = some (.int .i64 p.fresh) := HB.out.cell 0
  have q1 : w.cell? ⟨pb, 1, none⟩ = some (.int .i64 p.free) := HB.out.cell 1
  have q2 : w.cell? ⟨pb, 2, none⟩ = some (.int .i64 p.nodes) := HB.out.cell 2
  have q3 : w.cell? ⟨pb, 3, none⟩ = some (.int .i64 p.each) := HB.out.cell 3
  have q4 : w.cell? ⟨pb, 4, none⟩ = some (.int .i64 p.next) := HB.out.cell 4
  have q5 : w.cell? ⟨pb, 5, none⟩ = some (.int .i64 p.cap) := HB.out.cell 5
  go_enter Try.func52, Try.ntmps52
  go_wp2_with fail
  go_region_held3 (fun w' => w'.cell? ⟨cb, 0, none⟩ = some (.pointer (some ⟨b, 0, none⟩)) ∧ w'.cell? ⟨pb, 0, none⟩ = some (.int .i64 p.fresh) ∧ w'.cell? ⟨pb, 1, none⟩ = some (.int .i64 p.free) ∧ w'.cell? ⟨pb, 2, none⟩ = some (.int .i64 p.nodes) ∧ w'.cell? ⟨pb, 3, none⟩ = some (.int .i64 p.each) ∧ w'.cell? ⟨pb, 4, none⟩ = some (.int .i64 p.next) ∧ w'.cell? ⟨pb, 5, none⟩ = some (.int .i64 p.cap)) (first | exact ⟨(((Chg.refl [] w).drew).blk HD.out (by simp)).cell 0, (((Chg.refl [] w).drew).blk HB.out (by simp)).cell 0, (((Chg.refl [] w).drew).blk HB.out (by simp)).cell 1, (((Chg.refl [] w).drew).blk HB.out (by simp)).cell 2, (((Chg.refl [] w).drew).blk HB.out (by simp)).cell 3, (((Chg.refl [] w).drew).blk HB.out (by simp)).cell 4, (((Chg.refl [] w).drew).blk HB.out (by simp)).cell 5⟩ | exact ⟨(hx.blk HD.out (by simp)).cell 0, (hx.blk HB.out (by simp)).cell 0, (hx.blk HB.out (by simp)).cell 1, (hx.blk HB.out (by simp)).cell 2, (hx.blk HB.out (by simp)).cell 3, (hx.blk HB.out (by simp)).cell 4, (hx.blk HB.out (by simp)).cell 5⟩ | exact ⟨(hK.blk HD.out rfl).cell 0, (hK.blk HB.out rfl).cell 0, (hK.blk HB.out rfl).cell 1, (hK.blk HB.out rfl).cell 2, (hK.blk HB.out rfl).cell 3, (hK.blk HB.out rfl).cell 4, (hK.blk HB.out rfl).cell 5⟩) (first | (go_at_call 53; refine (at_any _ p _ hp (by decide) (by decide)).mono ?_; rintro e wx1 ⟨rfl, hx0⟩; have hx := ((Chg.refl [] w).drew).trans hx0; clear hx0) | (go_at_call 47; refine (store_any base _ _ b _ _ _ _ (by omega) (HC.out.chg hx)).mono ?_; rintro e w1 ⟨rfl, hC, hK0⟩; have hK := ((Kp.of_nil (base := base) hx).trans hK0); clear hK0) | fail)
  replace HC := Lib.hid hC
  replace HK := Lib.hid (HK.out.trans hK)
  replace HB := Lib.hid (hK.blk HB.out rfl)
  replace HD := Lib.hid (hK.blk HD.out rfl)
  clear hC hK d0 q0 q1 q2 q3 q4 q5 hx
  have d0 : w1.cell? ⟨cb, 0, none⟩ = some (.pointer (some ⟨b, 0, none⟩)) := HD.out.cell 0
  have q0 : w1.cell? ⟨pb, 0, none⟩ = some (.int .i64 p.fresh) := HB.out.cell 0
  have q1 : w1.cell? ⟨pb, 1, none⟩ = some (.int .i64 p.free) := HB.out.cell 1
  have q2 : w1.cell? ⟨pb, 2, none⟩ = some (.int .i64 p.nodes) := HB.out.cell 2
  have q3 : w1.cell? ⟨pb, 3, none⟩ = some (.int .i64 p.each) := HB.out.cell 3
  have q4 : w1.cell? ⟨pb, 4, none⟩ = some (.int .i64 p.next) := HB.out.cell 4
  have q5 : w1.cell? ⟨pb, 5, none⟩ = some (.int .i64 p.cap) := HB.out.cell 5
  go_wp2_with fail
  go_end0
  exact ⟨rfl, HC.out, HK.out⟩

set_option maxHeartbeats 400000 in
theorem hcut1_any (base n : Nat) (w : World) (b cb pb : Nat) (s : St) (p : Po) (hp : PoOk p) (hn : n ≤ 4500) (hcb : Blk w cb [.pointer (some ⟨b, 0, none⟩)] 72) (hpb : Blk w pb [.int .i64 p.fresh, .int .i64 p.free, .int .i64 p.nodes, .int .i64 p.each, .int .i64 p.next, .int .i64 p.cap] 82) (h : CodeAt base n w b s) :
    Calls Try.prog 55 #[.pointer (some ⟨cb, 0, none⟩), .pointer (some ⟨pb, 0, none⟩)] w (CPost base (n + 2) w b (s.hcut1 p)) := by
  have HC := Lib.hid h
  have HK := Lib.hid (Kp.refl base w)
  have HD := Lib.hid hcb
  have HB := Lib.hid hpb
  clear h hcb hpb
  have d0 : w.cell? ⟨cb, 0, none⟩ = some (.pointer (some ⟨b, 0, none⟩)) := HD.out.cell 0
  have q0 : w.cell? ⟨pb, 0, none⟩ = some (.int .i64 p.fresh) := HB.out.cell 0
  have q1 : w.cell? ⟨pb, 1, none⟩ = some (.int .i64 p.free) := HB.out.cell 1
  have q2 : w.cell? ⟨pb, 2, none⟩ = some (.int .i64 p.nodes) := HB.out.cell 2
  have q3 : w.cell? ⟨pb, 3, none⟩ = some (.int .i64 p.each) := HB.out.cell 3
  have q4 : w.cell? ⟨pb, 4, none⟩ = some (.int .i64 p.next) := HB.out.cell 4
  have q5 : w.cell? ⟨pb, 5, none⟩ = some (.int .i64 p.cap) := HB.out.cell 5
  go_enter Try.func55, Try.ntmps55
  go_wp2_with fail
  go_region_held3 (fun w' => w'.cell? ⟨cb, 0, none⟩ = some (.pointer (some ⟨b, 0, none⟩)) ∧ w'.cell? ⟨pb, 0, none⟩ = some (.int .i64 p.fresh) ∧ w'.cell? ⟨pb, 1, none⟩ = some (.int .i64 p.free) ∧ w'.cell? ⟨pb, 2, none⟩ = some (.int .i64 p.nodes) ∧ w'.cell? ⟨pb, 3, none⟩ = some (.int .i64 p.each) ∧ w'.cell? ⟨pb, 4, none⟩ = some (.int .i64 p.next) ∧ w'.cell? ⟨pb, 5, none⟩ = some (.int .i64 p.cap)) (first | exact ⟨(((Chg.refl [] w).drew).blk HD.out (by simp)).cell 0, (((Chg.refl [] w).drew).blk HB.out (by simp)).cell 0, (((Chg.refl [] w).drew).blk HB.out (by simp)).cell 1, (((Chg.refl [] w).drew).blk HB.out (by simp)).cell 2, (((Chg.refl [] w).drew).blk HB.out (by simp)).cell 3, (((Chg.refl [] w).drew).blk HB.out (by simp)).cell 4, (((Chg.refl [] w).drew).blk HB.out (by simp)).cell 5⟩ | exact ⟨(hx.blk HD.out (by simp)).cell 0, (hx.blk HB.out (by simp)).cell 0, (hx.blk HB.out (by simp)).cell 1, (hx.blk HB.out (by simp)).cell 2, (hx.blk HB.out (by simp)).cell 3, (hx.blk HB.out (by simp)).cell 4, (hx.blk HB.out (by simp)).cell 5⟩ | exact ⟨(hK.blk HD.out rfl).cell 0, (hK.blk HB.out rfl).cell 0, (hK.blk HB.out rfl).cell 1, (hK.blk HB.out rfl).cell 2, (hK.blk HB.out rfl).cell 3, (hK.blk HB.out rfl).cell 4, (hK.blk HB.out rfl).cell 5⟩) (first | (go_at_call 53; refine (at_any _ p _ hp (by decide) (by decide)).mono ?_; rintro e wx1 ⟨rfl, hx0⟩; have hx := ((Chg.refl [] w).drew).trans hx0; clear hx0) | (go_at_call 42; refine (load_any base _ _ b _ _ _ _ (by omega) (HC.out.chg hx)).mono ?_; rintro e w1 ⟨rfl, hC, hK0⟩; have hK := ((Kp.of_nil (base := base) hx).trans hK0); clear hK0) | fail)
  replace HC := Lib.hid hC
  replace HK := Lib.hid (HK.out.trans hK)
  replace HB := Lib.hid (hK.blk HB.out rfl)
  replace HD := Lib.hid (hK.blk HD.out rfl)
  clear hC hK d0 q0 q1 q2 q3 q4 q5 hx
  have d0 : w1.cell? ⟨cb, 0, none⟩ = some (.pointer (some ⟨b, 0, none⟩)) := HD.out.cell 0
  have q0 : w1.cell? ⟨pb, 0, none⟩ = some (.int .i64 p.fresh) := HB.out.cell 0
  have q1 : w1.cell? ⟨pb, 1, none⟩ = some (.int .i64 p.free) := HB.out.cell 1
  have q2 : w1.cell? ⟨pb, 2, none⟩ = some (.int .i64 p.nodes) := HB.out.cell 2
  have q3 : w1.cell? ⟨pb, 3, none⟩ = some (.int .i64 p.each) := HB.out.cell 3
  have q4 : w1.cell? ⟨pb, 4, none⟩ = some (.int .i64 p.next) := HB.out.cell 4
  have q5 : w1.cell? ⟨pb, 5, none⟩ = some (.int .i64 p.cap) := HB.out.cell 5
  go_wp2_with fail
  refine (store_any base _ _ b _ _ _ _ (by omega) HC.out).mono ?_
  rintro e w2 ⟨rfl, hC, hK⟩
  replace HC := Lib.hid hC
  replace HK := Lib.hid (HK.out.trans hK)
  replace HB := Lib.hid (hK.blk HB.out rfl)
  replace HD := Lib.hid (hK.blk HD.out rfl)
  clear hC hK d0 q0 q1 q2 q3 q4 q5
  have d0 : w2.cell? ⟨cb, 0, none⟩ = some (.pointer (some ⟨b, 0, none⟩)) := HD.out.cell 0
  have q0 : w2.cell? ⟨pb, 0, none⟩ = some (.int .i64 p.fresh) := HB.out.cell 0
  have q1 : w2.cell? ⟨pb, 1, none⟩ = some (.int .i64 p.free) := HB.out.cell 1
  have q2 : w2.cell? ⟨pb, 2, none⟩ = some (.int .i64 p.nodes) := HB.out.cell 2
  have q3 : w2.cell? ⟨pb, 3, none⟩ = some (.int .i64 p.each) := HB.out.cell 3
  have q4 : w2.cell? ⟨pb, 4, none⟩ = some (.int .i64 p.next) := HB.out.cell 4
  have q5 : w2.cell? ⟨pb, 5, none⟩ = some (.int .i64 p.cap) := HB.out.cell 5
  go_wp2_with fail
  go_end0
  exact ⟨rfl, HC.out, HK.out⟩

set_option maxHeartbeats 400000 in
theorem tput1_any (base n : Nat) (w : World) (b cb pb : Nat) (s : St) (p : Po) (hp : PoOk p) (hn : n ≤ 4500) (hcb : Blk w cb [.pointer (some ⟨b, 0, none⟩)] 72) (hpb : Blk w pb [.int .i64 p.fresh, .int .i64 p.free, .int .i64 p.nodes, .int .i64 p.each, .int .i64 p.next, .int .i64 p.cap] 82) (h : CodeAt base n w b s) :
    Calls Try.prog 58 #[.pointer (some ⟨cb, 0, none⟩), .pointer (some ⟨pb, 0, none⟩)] w (CPost base (n + 2) w b (s.tput1 p)) := by
  have HC := Lib.hid h
  have HK := Lib.hid (Kp.refl base w)
  have HD := Lib.hid hcb
  have HB := Lib.hid hpb
  clear h hcb hpb
  have d0 : w.cell? ⟨cb, 0, none⟩ = some (.pointer (some ⟨b, 0, none⟩)) := HD.out.cell 0
  have q0 : w.cell? ⟨pb, 0, none⟩ = some (.int .i64 p.fresh) := HB.out.cell 0
  have q1 : w.cell? ⟨pb, 1, none⟩ = some (.int .i64 p.free) := HB.out.cell 1
  have q2 : w.cell? ⟨pb, 2, none⟩ = some (.int .i64 p.nodes) := HB.out.cell 2
  have q3 : w.cell? ⟨pb, 3, none⟩ = some (.int .i64 p.each) := HB.out.cell 3
  have q4 : w.cell? ⟨pb, 4, none⟩ = some (.int .i64 p.next) := HB.out.cell 4
  have q5 : w.cell? ⟨pb, 5, none⟩ = some (.int .i64 p.cap) := HB.out.cell 5
  go_enter Try.func58, Try.ntmps58
  go_wp2_with fail
  go_region_held3 (fun w' => w'.cell? ⟨cb, 0, none⟩ = some (.pointer (some ⟨b, 0, none⟩)) ∧ w'.cell? ⟨pb, 0, none⟩ = some (.int .i64 p.fresh) ∧ w'.cell? ⟨pb, 1, none⟩ = some (.int .i64 p.free) ∧ w'.cell? ⟨pb, 2, none⟩ = some (.int .i64 p.nodes) ∧ w'.cell? ⟨pb, 3, none⟩ = some (.int .i64 p.each) ∧ w'.cell? ⟨pb, 4, none⟩ = some (.int .i64 p.next) ∧ w'.cell? ⟨pb, 5, none⟩ = some (.int .i64 p.cap)) (first | exact ⟨(((Chg.refl [] w).drew).blk HD.out (by simp)).cell 0, (((Chg.refl [] w).drew).blk HB.out (by simp)).cell 0, (((Chg.refl [] w).drew).blk HB.out (by simp)).cell 1, (((Chg.refl [] w).drew).blk HB.out (by simp)).cell 2, (((Chg.refl [] w).drew).blk HB.out (by simp)).cell 3, (((Chg.refl [] w).drew).blk HB.out (by simp)).cell 4, (((Chg.refl [] w).drew).blk HB.out (by simp)).cell 5⟩ | exact ⟨(hx.blk HD.out (by simp)).cell 0, (hx.blk HB.out (by simp)).cell 0, (hx.blk HB.out (by simp)).cell 1, (hx.blk HB.out (by simp)).cell 2, (hx.blk HB.out (by simp)).cell 3, (hx.blk HB.out (by simp)).cell 4, (hx.blk HB.out (by simp)).cell 5⟩ | exact ⟨(hK.blk HD.out rfl).cell 0, (hK.blk HB.out rfl).cell 0, (hK.blk HB.out rfl).cell 1, (hK.blk HB.out rfl).cell 2, (hK.blk HB.out rfl).cell 3, (hK.blk HB.out rfl).cell 4, (hK.blk HB.out rfl).cell 5⟩) (first | (go_at_call 53; refine (at_any _ p _ hp (by decide) (by decide)).mono ?_; rintro e wx1 ⟨rfl, hx0⟩; have hx := ((Chg.refl [] w).drew).trans hx0; clear hx0) | (go_at_call 47; refine (store_any base _ _ b _ _ _ _ (by omega) (HC.out.chg hx)).mono ?_; rintro e w1 ⟨rfl, hC, hK0⟩; have hK := ((Kp.of_nil (base := base) hx).trans hK0); clear hK0) | fail)
  replace HC := Lib.hid hC
  replace HK := Lib.hid (HK.out.trans hK)
  replace HB := Lib.hid (hK.blk HB.out rfl)
  replace HD := Lib.hid (hK.blk HD.out rfl)
  clear hC hK d0 q0 q1 q2 q3 q4 q5 hx
  have d0 : w1.cell? ⟨cb, 0, none⟩ = some (.pointer (some ⟨b, 0, none⟩)) := HD.out.cell 0
  have q0 : w1.cell? ⟨pb, 0, none⟩ = some (.int .i64 p.fresh) := HB.out.cell 0
  have q1 : w1.cell? ⟨pb, 1, none⟩ = some (.int .i64 p.free) := HB.out.cell 1
  have q2 : w1.cell? ⟨pb, 2, none⟩ = some (.int .i64 p.nodes) := HB.out.cell 2
  have q3 : w1.cell? ⟨pb, 3, none⟩ = some (.int .i64 p.each) := HB.out.cell 3
  have q4 : w1.cell? ⟨pb, 4, none⟩ = some (.int .i64 p.next) := HB.out.cell 4
  have q5 : w1.cell? ⟨pb, 5, none⟩ = some (.int .i64 p.cap) := HB.out.cell 5
  go_wp2_with fail
  go_region_held3 (fun w' => w'.cell? ⟨cb, 0, none⟩ = some (.pointer (some ⟨b, 0, none⟩)) ∧ w'.cell? ⟨pb, 0, none⟩ = some (.int .i64 p.fresh) ∧ w'.cell? ⟨pb, 1, none⟩ = some (.int .i64 p.free) ∧ w'.cell? ⟨pb, 2, none⟩ = some (.int .i64 p.nodes) ∧ w'.cell? ⟨pb, 3, none⟩ = some (.int .i64 p.each) ∧ w'.cell? ⟨pb, 4, none⟩ = some (.int .i64 p.next) ∧ w'.cell? ⟨pb, 5, none⟩ = some (.int .i64 p.cap)) (first | exact ⟨(((Chg.refl [] w1).drew).blk HD.out (by simp)).cell 0, (((Chg.refl [] w1).drew).blk HB.out (by simp)).cell 0, (((Chg.refl [] w1).drew).blk HB.out (by simp)).cell 1, (((Chg.refl [] w1).drew).blk HB.out (by simp)).cell 2, (((Chg.refl [] w1).drew).blk HB.out (by simp)).cell 3, (((Chg.refl [] w1).drew).blk HB.out (by simp)).cell 4, (((Chg.refl [] w1).drew).blk HB.out (by simp)).cell 5⟩ | exact ⟨(hx.blk HD.out (by simp)).cell 0, (hx.blk HB.out (by simp)).cell 0, (hx.blk HB.out (by simp)).cell 1, (hx.blk HB.out (by simp)).cell 2, (hx.blk HB.out (by simp)).cell 3, (hx.blk HB.out (by simp)).cell 4, (hx.blk HB.out (by simp)).cell 5⟩ | exact ⟨(hK.blk HD.out rfl).cell 0, (hK.blk HB.out rfl).cell 0, (hK.blk HB.out rfl).cell 1, (hK.blk HB.out rfl).cell 2, (hK.blk HB.out rfl).cell 3, (hK.blk HB.out rfl).cell 4, (hK.blk HB.out rfl).cell 5⟩) (first | (go_at_call 53; refine (at_any _ p _ hp (by decide) (by decide)).mono ?_; rintro e wx2 ⟨rfl, hx0⟩; have hx := ((Chg.refl [] w1).drew).trans hx0; clear hx0) | (go_at_call 47; refine (store_any base _ _ b _ _ _ _ (by omega) (HC.out.chg hx)).mono ?_; rintro e w2 ⟨rfl, hC, hK0⟩; have hK := ((Kp.of_nil (base := base) hx).trans hK0); clear hK0) | fail)
  replace HC := Lib.hid hC
  replace HK := Lib.hid (HK.out.trans hK)
  replace HB := Lib.hid (hK.blk HB.out rfl)
  replace HD := Lib.hid (hK.blk HD.out rfl)
  clear hC hK d0 q0 q1 q2 q3 q4 q5 hx
  have d0 : w2.cell? ⟨cb, 0, none⟩ = some (.pointer (some ⟨b, 0, none⟩)) := HD.out.cell 0
  have q0 : w2.cell? ⟨pb, 0, none⟩ = some (.int .i64 p.fresh) := HB.out.cell 0
  have q1 : w2.cell? ⟨pb, 1, none⟩ = some (.int .i64 p.free) := HB.out.cell 1
  have q2 : w2.cell? ⟨pb, 2, none⟩ = some (.int .i64 p.nodes) := HB.out.cell 2
  have q3 : w2.cell? ⟨pb, 3, none⟩ = some (.int .i64 p.each) := HB.out.cell 3
  have q4 : w2.cell? ⟨pb, 4, none⟩ = some (.int .i64 p.next) := HB.out.cell 4
  have q5 : w2.cell? ⟨pb, 5, none⟩ = some (.int .i64 p.cap) := HB.out.cell 5
  go_wp2_with fail
  go_end0
  exact ⟨rfl, HC.out, HK.out⟩

end Go.Proofs.Ythlhjahhjoclfaa
