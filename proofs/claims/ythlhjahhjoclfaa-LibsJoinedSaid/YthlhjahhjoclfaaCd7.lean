/- Closures of a code that comes about, and the ends of Puts, Gets and Cuts. -/
import Derived.Test.YthlhjahhjoclfaaCd6
namespace Go.Proofs.Ythlhjahhjoclfaa
set_option maxRecDepth 100000
open Go.RowKit
def St.tcut1 (s : St) (p : Po) : St := (((((((((((((((((((((((((s).load 2 6 (p.at 3)).load 3 6 (p.at 2)).when 14 3 7 ⟨#[111, 110, 101]⟩).when 14 2 7 ⟨#[111, 116, 104, 101, 114]⟩).more 4 6 (p.at 3) 2).here ⟨#[100, 111, 119, 110]⟩).load 3 4 0).load 2 3 (p.at 2)).when 14 2 7 ⟨#[110, 101, 120, 116]⟩).more 4 3 (p.at 2) 2).jump ⟨#[100, 111, 119, 110]⟩).here ⟨#[110, 101, 120, 116]⟩).load 2 3 (p.at 0)).store 2 6 (p.at 0)).load 2 3 (p.at 1)).store 2 6 (p.at 1)).put ⟨3, 6, 3, 0, 0⟩).put ⟨3, 5, 4, 0, 0⟩).load 2 6 (p.at 3)).jump ⟨#[111, 110, 101]⟩).here ⟨#[111, 116, 104, 101, 114]⟩).put ⟨3, 2, 3, 0, 0⟩).here ⟨#[111, 110, 101]⟩).store 2 5 0)
/-- What a closure over the code and the pool does. -/
def Clo (base : Nat) (b cb pb : Nat) (p : Po) (F : FuncId) (K : Nat) (f : St → St) : Prop := ∀ (n : Nat) (w : World) (s : St), n ≤ 4400 → Blk w cb [.pointer (some ⟨b, 0, none⟩)] 72 → Blk w pb [.int .i64 p.fresh, .int .i64 p.free, .int .i64 p.nodes, .int .i64 p.each, .int .i64 p.next, .int .i64 p.cap] 82 → CodeAt base n w b s → Calls Try.prog F #[.pointer (some ⟨cb, 0, none⟩), .pointer (some ⟨pb, 0, none⟩)] w (CPost base (n + K) w b (f s))
def St.search (s : St) (p : Po) (f : St → St) : St := (f ((((((s).here ⟨#[115, 101, 97, 114, 99, 104]⟩).load 6 5 0).when 14 6 7 ⟨#[110, 111, 110, 101]⟩).load 2 6 (p.at 0)).when 14 2 3 ⟨#[102, 111, 117, 110, 100]⟩)).jump ⟨#[115, 101, 97, 114, 99, 104]⟩
def St.chain (s : St) (p : Po) (k : Int) : St := (((s.set 5 (k - 1)).three 7 5 3 5).more 5 5 (p.free + 1) 2).search p (fun s => s.chain1 p)
def St.descend (s : St) (p : Po) (k : Int) : St := (s.set 5 k).search p (fun s => s.descend1 p)
def St.getting (s : St) (p : Po) : List Ins := (((((s).here ⟨#[102, 111, 117, 110, 100]⟩).load 1 6 (p.at 1)).set 0 1).here ⟨#[110, 111, 110, 101]⟩).out
def St.cutting (s : St) (p : Po) (f : St → St) : List Ins := ((((f (((s).here ⟨#[102, 111, 117, 110, 100]⟩).load 1 6 (p.at 1))).give p).set 0 1).here ⟨#[110, 111, 110, 101]⟩).out
def St.putting (s : St) (p : Po) (f : St → St) : List Ins := (((f ((((((((((s).here ⟨#[102, 111, 117, 110, 100]⟩).load 1 6 (p.at 1)).store 4 6 (p.at 1)).set 0 2).jump ⟨#[111, 117, 116]⟩).here ⟨#[110, 111, 110, 101]⟩).take p).store 3 6 (p.at 0)).store 4 6 (p.at 1))).store 6 5 0).set 0 1).out

set_option maxHeartbeats 4000000 in
theorem tcut1_any (base n : Nat) (w : World) (b cb pb : Nat) (s : St) (p : Po) (hp : PoOk p) (hn : n ≤ 4500) (hcb : Blk w cb [.pointer (some ⟨b, 0, none⟩)] 72) (hpb : Blk w pb [.int .i64 p.fresh, .int .i64 p.free, .int .i64 p.nodes, .int .i64 p.each, .int .i64 p.next, .int .i64 p.cap] 82) (h : CodeAt base n w b s) :
    Calls Try.prog 63 #[.pointer (some ⟨cb, 0, none⟩), .pointer (some ⟨pb, 0, none⟩)] w (CPost base (n + 31) w b (s.tcut1 p)) := by
  have HC := Lib.hid h
  have HK := Lib.hid (Kp.refl base w)
  have HD := Lib.hid hcb
  have HB := Lib.hid hpb
  clear h hcb hpb
  have d0 : w.cell? ⟨cb, 0, none⟩ = some (.pointer (some ⟨b, 0, none⟩)) := HD.out.cell 0
  have q0 : w.cell? ⟨pb, 0, none⟩ = some (.int .i64 p.fresh) := HB.out.cell 0
  have q1 : w.cell? ⟨pb, 1, none⟩ = some (.int .i64 p.free) := HB.out.cell 1
  have q2 : w.cell? ⟨pb, 2, none⟩ = some (.int .i64 p.nodes) := HB.out.cell 2
  have q3 : w.cell? ⟨pb, 3, none⟩ = some (.int .i64 p.each) := HB.out.cell 3
  have q4 : w.cell? ⟨pb, 4, none⟩ = some (.int .i64 p.next) := HB.out.cell 4
  have q5 : w.cell? ⟨pb, 5, none⟩ = some (.int .i64 p.cap) := HB.out.cell 5
  go_enter Try.func63, Try.ntmps63
  go_wp2_with fail
  go_region_held3 (fun w' => w'.cell? ⟨cb, 0, none⟩ = some (.pointer (some ⟨b, 0, none⟩)) ∧ w'.cell? ⟨pb, 0, none⟩ = some (.int .i64 p.fresh) ∧ w'.cell? ⟨pb, 1, none⟩ = some (.int .i64 p.free) ∧ w'.cell? ⟨pb, 2, none⟩ = some (.int .i64 p.nodes) ∧ w'.cell? ⟨pb, 3, none⟩ = some (.int .i64 p.each) ∧ w'.cell? ⟨pb, 4, none⟩ = some (.int .i64 p.next) ∧ w'.cell? ⟨pb, 5, none⟩ = some (.int .i64 p.cap)) (first | exact ⟨(((Chg.refl [] w).drew).blk HD.out (by simp)).cell 0, (((Chg.refl [] w).drew).blk HB.out (by simp)).cell 0, (((Chg.refl [] w).drew).blk HB.out (by simp)).cell 1, (((Chg.refl [] w).drew).blk HB.out (by simp)).cell 2, (((Chg.refl [] w).drew).blk HB.out (by simp)).cell 3, (((Chg.refl [] w).drew).blk HB.out (by simp)).cell 4, (((Chg.refl [] w).drew).blk HB.out (by simp)).cell 5⟩ | exact ⟨(hx.blk HD.out (by simp)).cell 0, (hx.blk HB.out (by simp)).cell 0, (hx.blk HB.out (by simp)).cell 1, (hx.blk HB.out (by simp)).cell 2, (hx.blk HB.out (by simp)).cell 3, (hx.blk HB.out (by simp)).cell 4, (hx.blk HB.out (by simp)).cell 5⟩ | exact ⟨(hK.blk HD.out rfl).cell 0, (hK.blk HB.out rfl).cell 0, (hK.blk HB.out rfl).cell 1, (hK.blk HB.out rfl).cell 2, (hK.blk HB.out rfl).cell 3, (hK.blk HB.out rfl).cell 4, (hK.blk HB.out rfl).cell 5⟩) (first | (go_at_call 53; refine (at_any _ p _ hp (by decide) (by decide)).mono ?_; rintro e wx1 ⟨rfl, hx0⟩; have hx := ((Chg.refl [] w).drew).trans hx0; clear hx0) | (go_at_call 42; refine (load_any base _ _ b _ _ _ _ (by omega) (HC.out.chg hx)).mono ?_; rintro e w1 ⟨rfl, hC, hK0⟩; have hK := ((Kp.of_nil (base := base) hx).trans hK0); clear hK0) | fail)
  replace HC := Lib.hid hC
  replace HK := Lib.hid (HK.out.trans hK)
  replace HB := Lib.hid (hK.blk HB.out rfl)
  replace HD := Lib.hid (hK.blk HD.out rfl)
  clear hC hK d0 q0 q1 q2 q3 q4 q5 hx
  have d0 : w1.cell? ⟨cb, 0, none⟩ = some (.pointer (some ⟨b, 0, none⟩)) := HD.out.cell 0
  have q0 : w1.cell? ⟨pb, 0, none⟩ = some (.int .i64 p.fresh) := HB.out.cell 0
  have q1 : w1.cell? ⟨pb, 1, none⟩ = some (.int .i64 p.free) := HB.out.cell 1
  have q2 : w1.cell? ⟨pb, 2, none⟩ = some (.int .i64 p.nodes) := HB.out.cell 2
  have q3 : w1.cell? ⟨pb, 3, none⟩ = some (.int .i64 p.each) := HB.out.cell 3
  have q4 : w1.cell? ⟨pb, 4, none⟩ = some (.int .i64 p.next) := HB.out.cell 4
  have q5 : w1.cell? ⟨pb, 5, none⟩ = some (.int .i64 p.cap) := HB.out.cell 5
  go_wp2_with fail
  go_region_held3 (fun w' => w'.cell? ⟨cb, 0, none⟩ = some (.pointer (some ⟨b, 0, none⟩)) ∧ w'.cell? ⟨pb, 0, none⟩ = some (.int .i64 p.fresh) ∧ w'.cell? ⟨pb, 1, none⟩ = some (.int .i64 p.free) ∧ w'.cell? ⟨pb, 2, none⟩ = some (.int .i64 p.nodes) ∧ w'.cell? ⟨pb, 3, none⟩ = some (.int .i64 p.each) ∧ w'.cell? ⟨pb, 4, none⟩ = some (.int .i64 p.next) ∧ w'.cell? ⟨pb, 5, none⟩ = some (.int .i64 p.cap)) (first | exact ⟨(((Chg.refl [] w1).drew).blk HD.out (by simp)).cell 0, (((Chg.refl [] w1).drew).blk HB.out (by simp)).cell 0, (((Chg.refl [] w1).drew).blk HB.out (by simp)).cell 1, (((Chg.refl [] w1).drew).blk HB.out (by simp)).cell 2, (((Chg.refl [] w1).drew).blk HB.out (by simp)).cell 3, (((Chg.refl [] w1).drew).blk HB.out (by simp)).cell 4, (((Chg.refl [] w1).drew).blk HB.out (by simp)).cell 5⟩ | exact ⟨(hx.blk HD.out (by simp)).cell 0, (hx.blk HB.out (by simp)).cell 0, (hx.blk HB.out (by simp)).cell 1, (hx.blk HB.out (by simp)).cell 2, (hx.blk HB.out (by simp)).cell 3, (hx.blk HB.out (by simp)).cell 4, (hx.blk HB.out (by simp)).cell 5⟩ | exact ⟨(hK.blk HD.out rfl).cell 0, (hK.blk HB.out rfl).cell 0, (hK.blk HB.out rfl).cell 1, (hK.blk HB.out rfl).cell 2, (hK.blk HB.out rfl).cell 3, (hK.blk HB.out rfl).cell 4, (hK.blk HB.out rfl).cell 5⟩) (first | (go_at_call 53; refine (at_any _ p _ hp (by decide) (by decide)).mono ?_; rintro e wx2 ⟨rfl, hx0⟩; have hx := ((Chg.refl [] w1).drew).trans hx0; clear hx0) | (go_at_call 42; refine (load_any base _ _ b _ _ _ _ (by omega) (HC.out.chg hx)).mono ?_; rintro e w2 ⟨rfl, hC, hK0⟩; have hK := ((Kp.of_nil (base := base) hx).trans hK0); clear hK0) | fail)
  replace HC := Lib.hid hC
  replace HK := Lib.hid (HK.out.trans hK)
  replace HB := Lib.hid (hK.blk HB.out rfl)
  replace HD := Lib.hid (hK.blk HD.out rfl)
  clear hC hK d0 q0 q1 q2 q3 q4 q5 hx
  have d0 : w2.cell? ⟨cb, 0, none⟩ = some (.pointer (some ⟨b, 0, none⟩)) := HD.out.cell 0
  have q0 : w2.cell? ⟨pb, 0, none⟩ = some (.int .i64 p.fresh) := HB.out.cell 0
  have q1 : w2.cell? ⟨pb, 1, none⟩ = some (.int .i64 p.free) := HB.out.cell 1
  have q2 : w2.cell? ⟨pb, 2, none⟩ = some (.int .i64 p.nodes) := HB.out.cell 2
  have q3 : w2.cell? ⟨pb, 3, none⟩ = some (.int .i64 p.each) := HB.out.cell 3
  have q4 : w2.cell? ⟨pb, 4, none⟩ = some (.int .i64 p.next) := HB.out.cell 4
  have q5 : w2.cell? ⟨pb, 5, none⟩ = some (.int .i64 p.cap) := HB.out.cell 5
  go_wp2_with fail
  refine (when_any base _ _ b _ _ _ _ _ (by decide) (by omega) HC.out).mono ?_
  rintro e w3 ⟨rfl, hC, hK⟩
  replace HC := Lib.hid hC
  replace HK := Lib.hid (HK.out.trans hK)
  replace HB := Lib.hid (hK.blk HB.out rfl)
  replace HD := Lib.hid (hK.blk HD.out rfl)
  clear hC hK d0 q0 q1 q2 q3 q4 q5
  have d0 : w3.cell? ⟨cb, 0, none⟩ = some (.pointer (some ⟨b, 0, none⟩)) := HD.out.cell 0
  have q0 : w3.cell? ⟨pb, 0, none⟩ = some (.int .i64 p.fresh) := HB.out.cell 0
  have q1 : w3.cell? ⟨pb, 1, none⟩ = some (.int .i64 p.free) := HB.out.cell 1
  have q2 : w3.cell? ⟨pb, 2, none⟩ = some (.int .i64 p.nodes) := HB.out.cell 2
  have q3 : w3.cell? ⟨pb, 3, none⟩ = some (.int .i64 p.each) := HB.out.cell 3
  have q4 : w3.cell? ⟨pb, 4, none⟩ = some (.int .i64 p.next) := HB.out.cell 4
  have q5 : w3.cell? ⟨pb, 5, none⟩ = some (.int .i64 p.cap) := HB.out.cell 5
  go_wp2_with fail
  refine (when_any base _ _ b _ _ _ _ _ (by decide) (by omega) HC.out).mono ?_
  rintro e w4 ⟨rfl, hC, hK⟩
  replace HC := Lib.hid hC
  replace HK := Lib.hid (HK.out.trans hK)
  replace HB := Lib.hid (hK.blk HB.out rfl)
  replace HD := Lib.hid (hK.blk HD.out rfl)
  clear hC hK d0 q0 q1 q2 q3 q4 q5
  have d0 : w4.cell? ⟨cb, 0, none⟩ = some (.pointer (some ⟨b, 0, none⟩)) := HD.out.cell 0
  have q0 : w4.cell? ⟨pb, 0, none⟩ = some (.int .i64 p.fresh) := HB.out.cell 0
  have q1 : w4.cell? ⟨pb, 1, none⟩ = some (.int .i64 p.free) := HB.out.cell 1
  have q2 : w4.cell? ⟨pb, 2, none⟩ = some (.int .i64 p.nodes) := HB.out.cell 2
  have q3 : w4.cell? ⟨pb, 3, none⟩ = some (.int .i64 p.each) := HB.out.cell 3
  have q4 : w4.cell? ⟨pb, 4, none⟩ = some (.int .i64 p.next) := HB.out.cell 4
  have q5 : w4.cell? ⟨pb, 5, none⟩ = some (.int .i64 p.cap) := HB.out.cell 5
  go_wp2_with fail
  go_region_held3 (fun w' => w'.cell? ⟨cb, 0, none⟩ = some (.pointer (some ⟨b, 0, none⟩)) ∧ w'.cell? ⟨pb, 0, none⟩ = some (.int .i64 p.fresh) ∧ w'.cell? ⟨pb, 1, none⟩ = some (.int .i64 p.free) ∧ w'.cell? ⟨pb, 2, none⟩ = some (.int .i64 p.nodes) ∧ w'.cell? ⟨pb, 3, none⟩ = some (.int .i64 p.each) ∧ w'.cell? ⟨pb, 4, none⟩ = some (.int .i64 p.next) ∧ w'.cell? ⟨pb, 5, none⟩ = some (.int .i64 p.cap)) (first | exact ⟨(((Chg.refl [] w4).drew).blk HD.out (by simp)).cell 0, (((Chg.refl [] w4).drew).blk HB.out (by simp)).cell 0, (((Chg.refl [] w4).drew).blk HB.out (by simp)).cell 1, (((Chg.refl [] w4).drew).blk HB.out (by simp)).cell 2, (((Chg.refl [] w4).drew).blk HB.out (by simp)).cell 3, (((Chg.refl [] w4).drew).blk HB.out (by simp)).cell 4, (((Chg.refl [] w4).drew).blk HB.out (by simp)).cell 5⟩ | exact ⟨(hx.blk HD.out (by simp)).cell 0, (hx.blk HB.out (by simp)).cell 0, (hx.blk HB.out (by simp)).cell 1, (hx.blk HB.out (by simp)).cell 2, (hx.blk HB.out (by simp)).cell 3, (hx.blk HB.out (by simp)).cell 4, (hx.blk HB.out (by simp)).cell 5⟩ | exact ⟨(hK.blk HD.out rfl).cell 0, (hK.blk HB.out rfl).cell 0, (hK.blk HB.out rfl).cell 1, (hK.blk HB.out rfl).cell 2, (hK.blk HB.out rfl).cell 3, (hK.blk HB.out rfl).cell 4, (hK.blk HB.out rfl).cell 5⟩) (first | (go_at_call 53; refine (at_any _ p _ hp (by decide) (by decide)).mono ?_; rintro e wx5 ⟨rfl, hx0⟩; have hx := ((Chg.refl [] w4).drew).trans hx0; clear hx0) | (go_at_call 48; refine (more_any base _ _ b _ _ _ _ _ (by omega) (HC.out.chg hx)).mono ?_; rintro e w5 ⟨rfl, hC, hK0⟩; have hK := ((Kp.of_nil (base := base) hx).trans hK0); clear hK0) | fail)
  replace HC := Lib.hid hC
  replace HK := Lib.hid (HK.out.trans hK)
  replace HB := Lib.hid (hK.blk HB.out rfl)
  replace HD := Lib.hid (hK.blk HD.out rfl)
  clear hC hK d0 q0 q1 q2 q3 q4 q5 hx
  have d0 : w5.cell? ⟨cb, 0, none⟩ = some (.pointer (some ⟨b, 0, none⟩)) := HD.out.cell 0
  have q0 : w5.cell? ⟨pb, 0, none⟩ = some (.int .i64 p.fresh) := HB.out.cell 0
  have q1 : w5.cell? ⟨pb, 1, none⟩ = some (.int .i64 p.free) := HB.out.cell 1
  have q2 : w5.cell? ⟨pb, 2, none⟩ = some (.int .i64 p.nodes) := HB.out.cell 2
  have q3 : w5.cell? ⟨pb, 3, none⟩ = some (.int .i64 p.each) := HB.out.cell 3
  have q4 : w5.cell? ⟨pb, 4, none⟩ = some (.int .i64 p.next) := HB.out.cell 4
  have q5 : w5.cell? ⟨pb, 5, none⟩ = some (.int .i64 p.cap) := HB.out.cell 5
  go_wp2_with fail
  refine (here_any base _ _ b _ _ (by decide) (by omega) HC.out).mono ?_
  rintro e w6 ⟨rfl, hC, hK⟩
  replace HC := Lib.hid hC
  replace HK := Lib.hid (HK.out.trans hK)
  replace HB := Lib.hid (hK.blk HB.out rfl)
  replace HD := Lib.hid (hK.blk HD.out rfl)
  clear hC hK d0 q0 q1 q2 q3 q4 q5
  have d0 : w6.cell? ⟨cb, 0, none⟩ = some (.pointer (some ⟨b, 0, none⟩)) := HD.out.cell 0
  have q0 : w6.cell? ⟨pb, 0, none⟩ = some (.int .i64 p.fresh) := HB.out.cell 0
  have q1 : w6.cell? ⟨pb, 1, none⟩ = some (.int .i64 p.free) := HB.out.cell 1
  have q2 : w6.cell? ⟨pb, 2, none⟩ = some (.int .i64 p.nodes) := HB.out.cell 2
  have q3 : w6.cell? ⟨pb, 3, none⟩ = some (.int .i64 p.each) := HB.out.cell 3
  have q4 : w6.cell? ⟨pb, 4, none⟩ = some (.int .i64 p.next) := HB.out.cell 4
  have q5 : w6.cell? ⟨pb, 5, none⟩ = some (.int .i64 p.cap) := HB.out.cell 5
  go_wp2_with fail
  refine (load_any base _ _ b _ _ _ _ (by omega) HC.out).mono ?_
  rintro e w7 ⟨rfl, hC, hK⟩
  replace HC := Lib.hid hC
  replace HK := Lib.hid (HK.out.trans hK)
  replace HB := Lib.hid (hK.blk HB.out rfl)
  replace HD := Lib.hid (hK.blk HD.out rfl)
  clear hC hK d0 q0 q1 q2 q3 q4 q5
  have d0 : w7.cell? ⟨cb, 0, none⟩ = some (.pointer (some ⟨b, 0, none⟩)) := HD.out.cell 0
  have q0 : w7.cell? ⟨pb, 0, none⟩ = some (.int .i64 p.fresh) := HB.out.cell 0
  have q1 : w7.cell? ⟨pb, 1, none⟩ = some (.int .i64 p.free) := HB.out.cell 1
  have q2 : w7.cell? ⟨pb, 2, none⟩ = some (.int .i64 p.nodes) := HB.out.cell 2
  have q3 : w7.cell? ⟨pb, 3, none⟩ = some (.int .i64 p.each) := HB.out.cell 3
  have q4 : w7.cell? ⟨pb, 4, none⟩ = some (.int .i64 p.next) := HB.out.cell 4
  have q5 : w7.cell? ⟨pb, 5, none⟩ = some (.int .i64 p.cap) := HB.out.cell 5
  go_wp2_with fail
  go_region_held3 (fun w' => w'.cell? ⟨cb, 0, none⟩ = some (.pointer (some ⟨b, 0, none⟩)) ∧ w'.cell? ⟨pb, 0, none⟩ = some (.int .i64 p.fresh) ∧ w'.cell? ⟨pb, 1, none⟩ = some (.int .i64 p.free) ∧ w'.cell? ⟨pb, 2, none⟩ = some (.int .i64 p.nodes) ∧ w'.cell? ⟨pb, 3, none⟩ = some (.int .i64 p.each) ∧ w'.cell? ⟨pb, 4, none⟩ = some (.int .i64 p.next) ∧ w'.cell? ⟨pb, 5, none⟩ = some (.int .i64 p.cap)) (first | exact ⟨(((Chg.refl [] w7).drew).blk HD.out (by simp)).cell 0, (((Chg.refl [] w7).drew).blk HB.out (by simp)).cell 0, (((Chg.refl [] w7).drew).blk HB.out (by simp)).cell 1, (((Chg.refl [] w7).drew).blk HB.out (by simp)).cell 2, (((Chg.refl [] w7).drew).blk HB.out (by simp)).cell 3, (((Chg.refl [] w7).drew).blk HB.out (by simp)).cell 4, (((Chg.refl [] w7).drew).blk HB.out (by simp)).cell 5⟩ | exact ⟨(hx.blk HD.out (by simp)).cell 0, (hx.blk HB.out (by simp)).cell 0, (hx.blk HB.out (by simp)).cell 1, (hx.blk HB.out (by simp)).cell 2, (hx.blk HB.out (by simp)).cell 3, (hx.blk HB.out (by simp)).cell 4, (hx.blk HB.out (by simp)).cell 5⟩ | exact ⟨(hK.blk HD.out rfl).cell 0, (hK.blk HB.out rfl).cell 0, (hK.blk HB.out rfl).cell 1, (hK.blk HB.out rfl).cell 2, (hK.blk HB.out rfl).cell 3, (hK.blk HB.out rfl).cell 4, (hK.blk HB.out rfl).cell 5⟩) (first | (go_at_call 53; refine (at_any _ p _ hp (by decide) (by decide)).mono ?_; rintro e wx8 ⟨rfl, hx0⟩; have hx := ((Chg.refl [] w7).drew).trans hx0; clear hx0) | (go_at_call 42; refine (load_any base _ _ b _ _ _ _ (by omega) (HC.out.chg hx)).mono ?_; rintro e w8 ⟨rfl, hC, hK0⟩; have hK := ((Kp.of_nil (base := base) hx).trans hK0); clear hK0) | fail)
  replace HC := Lib.hid hC
  replace HK := Lib.hid (HK.out.trans hK)
  replace HB := Lib.hid (hK.blk HB.out rfl)
  replace HD := Lib.hid (hK.blk HD.out rfl)
  clear hC hK d0 q0 q1 q2 q3 q4 q5 hx
  have d0 : w8.cell? ⟨cb, 0, none⟩ = some (.pointer (some ⟨b, 0, none⟩)) := HD.out.cell 0
  have q0 : w8.cell? ⟨pb, 0, none⟩ = some (.int .i64 p.fresh) := HB.out.cell 0
  have q1 : w8.cell? ⟨pb, 1, none⟩ = some (.int .i64 p.free) := HB.out.cell 1
  have q2 : w8.cell? ⟨pb, 2, none⟩ = some (.int .i64 p.nodes) := HB.out.cell 2
  have q3 : w8.cell? ⟨pb, 3, none⟩ = some (.int .i64 p.each) := HB.out.cell 3
  have q4 : w8.cell? ⟨pb, 4, none⟩ = some (.int .i64 p.next) := HB.out.cell 4
  have q5 : w8.cell? ⟨pb, 5, none⟩ = some (.int .i64 p.cap) := HB.out.cell 5
  go_wp2_with fail
  refine (when_any base _ _ b _ _ _ _ _ (by decide) (by omega) HC.out).mono ?_
  rintro e w9 ⟨rfl, hC, hK⟩
  replace HC := Lib.hid hC
  replace HK := Lib.hid (HK.out.trans hK)
  replace HB := Lib.hid (hK.blk HB.out rfl)
  replace HD := Lib.hid (hK.blk HD.out rfl)
  clear hC hK d0 q0 q1 q2 q3 q4 q5
  have d0 : w9.cell? ⟨cb, 0, none⟩ = some (.pointer (some ⟨b, 0, none⟩)) := HD.out.cell 0
  have q0 : w9.cell? ⟨pb, 0, none⟩ = some (.int .i64 p.fresh) := HB.out.cell 0
  have q1 : w9.cell? ⟨pb, 1, none⟩ = some (.int .i64 p.free) := HB.out.cell 1
  have q2 : w9.cell? ⟨pb, 2, none⟩ = some (.int .i64 p.nodes) := HB.out.cell 2
  have q3 : w9.cell? ⟨pb, 3, none⟩ = some (.int .i64 p.each) := HB.out.cell 3
  have q4 : w9.cell? ⟨pb, 4, none⟩ = some (.int .i64 p.next) := HB.out.cell 4
  have q5 : w9.cell? ⟨pb, 5, none⟩ = some (.int .i64 p.cap) := HB.out.cell 5
  go_wp2_with fail
  go_region_held3 (fun w' => w'.cell? ⟨cb, 0, none⟩ = some (.pointer (some ⟨b, 0, none⟩)) ∧ w'.cell? ⟨pb, 0, none⟩ = some (.int .i64 p.fresh) ∧ w'.cell? ⟨pb, 1, none⟩ = some (.int .i64 p.free) ∧ w'.cell? ⟨pb, 2, none⟩ = some (.int .i64 p.nodes) ∧ w'.cell? ⟨pb, 3, none⟩ = some (.int .i64 p.each) ∧ w'.cell? ⟨pb, 4, none⟩ = some (.int .i64 p.next) ∧ w'.cell? ⟨pb, 5, none⟩ = some (.int .i64 p.cap)) (first | exact ⟨(((Chg.refl [] w9).drew).blk HD.out (by simp)).cell 0, (((Chg.refl [] w9).drew).blk HB.out (by simp)).cell 0, (((Chg.refl [] w9).drew).blk HB.out (by simp)).cell 1, (((Chg.refl [] w9).drew).blk HB.out (by simp)).cell 2, (((Chg.refl [] w9).drew).blk HB.out (by simp)).cell 3, (((Chg.refl [] w9).drew).blk HB.out (by simp)).cell 4, (((Chg.refl [] w9).drew).blk HB.out (by simp)).cell 5⟩ | exact ⟨(hx.blk HD.out (by simp)).cell 0, (hx.blk HB.out (by simp)).cell 0, (hx.blk HB.out (by simp)).cell 1, (hx.blk HB.out (by simp)).cell 2, (hx.blk HB.out (by simp)).cell 3, (hx.blk HB.out (by simp)).cell 4, (hx.blk HB.out (by simp)).cell 5⟩ | exact ⟨(hK.blk HD.out rfl).cell 0, (hK.blk HB.out rfl).cell 0, (hK.blk HB.out rfl).cell 1, (hK.blk HB.out rfl).cell 2, (hK.blk HB.out rfl).cell 3, (hK.blk HB.out rfl).cell 4, (hK.blk HB.out rfl).cell 5⟩) (first | (go_at_call 53; refine (at_any _ p _ hp (by decide) (by decide)).mono ?_; rintro e wx10 ⟨rfl, hx0⟩; have hx := ((Chg.refl [] w9).drew).trans hx0; clear hx0) | (go_at_call 48; refine (more_any base _ _ b _ _ _ _ _ (by omega) (HC.out.chg hx)).mono ?_; rintro e w10 ⟨rfl, hC, hK0⟩; have hK := ((Kp.of_nil (base := base) hx).trans hK0); clear hK0) | fail)
  replace HC := Lib.hid hC
  replace HK := Lib.hid (HK.out.trans hK)
  replace HB := Lib.hid (hK.blk HB.out rfl)
  replace HD := Lib.hid (hK.blk HD.out rfl)
  clear hC hK d0 q0 q1 q2 q3 q4 q5 hx
  have d0 : w10.cell? ⟨cb, 0, none⟩ = some (.pointer (some ⟨b, 0, none⟩)) := HD.out.cell 0
  have q0 : w10.cell? ⟨pb, 0, none⟩ = some (.int .i64 p.fresh) := HB.out.cell 0
  have q1 : w10.cell? ⟨pb, 1, none⟩ = some (.int .i64 p.free) := HB.out.cell 1
  have q2 : w10.cell? ⟨pb, 2, none⟩ = some (.int .i64 p.nodes) := HB.out.cell 2
  have q3 : w10.cell? ⟨pb, 3, none⟩ = some (.int .i64 p.each) := HB.out.cell 3
  have q4 : w10.cell? ⟨pb, 4, none⟩ = some (.int .i64 p.next) := HB.out.cell 4
  have q5 : w10.cell? ⟨pb, 5, none⟩ = some (.int .i64 p.cap) := HB.out.cell 5
  go_wp2_with fail
  refine (jump_any base _ _ b _ _ (by decide) (by omega) HC.out).mono ?_
  rintro e w11 ⟨rfl, hC, hK⟩
  replace HC := Lib.hid hC
  replace HK := Lib.hid (HK.out.trans hK)
  replace HB := Lib.hid (hK.blk HB.out rfl)
  replace HD := Lib.hid (hK.blk HD.out rfl)
  clear hC hK d0 q0 q1 q2 q3 q4 q5
  have d0 : w11.cell? ⟨cb, 0, none⟩ = some (.pointer (some ⟨b, 0, none⟩)) := HD.out.cell 0
  have q0 : w11.cell? ⟨pb, 0, none⟩ = some (.int .i64 p.fresh) := HB.out.cell 0
  have q1 : w11.cell? ⟨pb, 1, none⟩ = some (.int .i64 p.free) := HB.out.cell 1
  have q2 : w11.cell? ⟨pb, 2, none⟩ = some (.int .i64 p.nodes) := HB.out.cell 2
  have q3 : w11.cell? ⟨pb, 3, none⟩ = some (.int .i64 p.each) := HB.out.cell 3
  have q4 : w11.cell? ⟨pb, 4, none⟩ = some (.int .i64 p.next) := HB.out.cell 4
  have q5 : w11.cell? ⟨pb, 5, none⟩ = some (.int .i64 p.cap) := HB.out.cell 5
  go_wp2_with fail
  refine (here_any base _ _ b _ _ (by decide) (by omega) HC.out).mono ?_
  rintro e w12 ⟨rfl, hC, hK⟩
  replace HC := Lib.hid hC
  replace HK := Lib.hid (HK.out.trans hK)
  replace HB := Lib.hid (hK.blk HB.out rfl)
  replace HD := Lib.hid (hK.blk HD.out rfl)
  clear hC hK d0 q0 q1 q2 q3 q4 q5
  have d0 : w12.cell? ⟨cb, 0, none⟩ = some (.pointer (some ⟨b, 0, none⟩)) := HD.out.cell 0
  have q0 : w12.cell? ⟨pb, 0, none⟩ = some (.int .i64 p.fresh) := HB.out.cell 0
  have q1 : w12.cell? ⟨pb, 1, none⟩ = some (.int .i64 p.free) := HB.out.cell 1
  have q2 : w12.cell? ⟨pb, 2, none⟩ = some (.int .i64 p.nodes) := HB.out.cell 2
  have q3 : w12.cell? ⟨pb, 3, none⟩ = some (.int .i64 p.each) := HB.out.cell 3
  have q4 : w12.cell? ⟨pb, 4, none⟩ = some (.int .i64 p.next) := HB.out.cell 4
  have q5 : w12.cell? ⟨pb, 5, none⟩ = some (.int .i64 p.cap) := HB.out.cell 5
  go_wp2_with fail
  go_region_held3 (fun w' => w'.cell? ⟨cb, 0, none⟩ = some (.pointer (some ⟨b, 0, none⟩)) ∧ w'.cell? ⟨pb, 0, none⟩ = some (.int .i64 p.fresh) ∧ w'.cell? ⟨pb, 1, none⟩ = some (.int .i64 p.free) ∧ w'.cell? ⟨pb, 2, none⟩ = some (.int .i64 p.nodes) ∧ w'.cell? ⟨pb, 3, none⟩ = some (.int .i64 p.each) ∧ w'.cell? ⟨pb, 4, none⟩ = some (.int .i64 p.next) ∧ w'.cell? ⟨pb, 5, none⟩ = some (.int .i64 p.cap)) (first | exact ⟨(((Chg.refl [] w12).drew).blk HD.out (by simp)).cell 0, (((Chg.refl [] w12).drew).blk HB.out (by simp)).cell 0, (((Chg.refl [] w12).drew).blk HB.out (by simp)).cell 1, (((Chg.refl [] w12).drew).blk HB.out (by simp)).cell 2, (((Chg.refl [] w12).drew).blk HB.out (by simp)).cell 3, (((Chg.refl [] w12).drew).blk HB.out (by simp)).cell 4, (((Chg.refl [] w12).drew).blk HB.out (by simp)).cell 5⟩ | exact ⟨(hx.blk HD.out (by simp)).cell 0, (hx.blk HB.out (by simp)).cell 0, (hx.blk HB.out (by simp)).cell 1, (hx.blk HB.out (by simp)).cell 2, (hx.blk HB.out (by simp)).cell 3, (hx.blk HB.out (by simp)).cell 4, (hx.blk HB.out (by simp)).cell 5⟩ | exact ⟨(hK.blk HD.out rfl).cell 0, (hK.blk HB.out rfl).cell 0, (hK.blk HB.out rfl).cell 1, (hK.blk HB.out rfl).cell 2, (hK.blk HB.out rfl).cell 3, (hK.blk HB.out rfl).cell 4, (hK.blk HB.out rfl).cell 5⟩) (first | (go_at_call 53; refine (at_any _ p _ hp (by decide) (by decide)).mono ?_; rintro e wx13 ⟨rfl, hx0⟩; have hx := ((Chg.refl [] w12).drew).trans hx0; clear hx0) | (go_at_call 42; refine (load_any base _ _ b _ _ _ _ (by omega) (HC.out.chg hx)).mono ?_; rintro e w13 ⟨rfl, hC, hK0⟩; have hK := ((Kp.of_nil (base := base) hx).trans hK0); clear hK0) | fail)
  replace HC := Lib.hid hC
  replace HK := Lib.hid (HK.out.trans hK)
  replace HB := Lib.hid (hK.blk HB.out rfl)
  replace HD := Lib.hid (hK.blk HD.out rfl)
  clear hC hK d0 q0 q1 q2 q3 q4 q5 hx
  have d0 : w13.cell? ⟨cb, 0, none⟩ = some (.pointer (some ⟨b, 0, none⟩)) := HD.out.cell 0
  have q0 : w13.cell? ⟨pb, 0, none⟩ = some (.int .i64 p.fresh) := HB.out.cell 0
  have q1 : w13.cell? ⟨pb, 1, none⟩ = some (.int .i64 p.free) := HB.out.cell 1
  have q2 : w13.cell? ⟨pb, 2, none⟩ = some (.int .i64 p.nodes) := HB.out.cell 2
  have q3 : w13.cell? ⟨pb, 3, none⟩ = some (.int .i64 p.each) := HB.out.cell 3
  have q4 : w13.cell? ⟨pb, 4, none⟩ = some (.int .i64 p.next) := HB.out.cell 4
  have q5 : w13.cell? ⟨pb, 5, none⟩ = some (.int .i64 p.cap) := HB.out.cell 5
  go_wp2_with fail
  go_region_held3 (fun w' => w'.cell? ⟨cb, 0, none⟩ = some (.pointer (some ⟨b, 0, none⟩)) ∧ w'.cell? ⟨pb, 0, none⟩ = some (.int .i64 p.fresh) ∧ w'.cell? ⟨pb, 1, none⟩ = some (.int .i64 p.free) ∧ w'.cell? ⟨pb, 2, none⟩ = some (.int .i64 p.nodes) ∧ w'.cell? ⟨pb, 3, none⟩ = some (.int .i64 p.each) ∧ w'.cell? ⟨pb, 4, none⟩ = some (.int .i64 p.next) ∧ w'.cell? ⟨pb, 5, none⟩ = some (.int .i64 p.cap)) (first | exact ⟨(((Chg.refl [] w13).drew).blk HD.out (by simp)).cell 0, (((Chg.refl [] w13).drew).blk HB.out (by simp)).cell 0, (((Chg.refl [] w13).drew).blk HB.out (by simp)).cell 1, (((Chg.refl [] w13).drew).blk HB.out (by simp)).cell 2, (((Chg.refl [] w13).drew).blk HB.out (by simp)).cell 3, (((Chg.refl [] w13).drew).blk HB.out (by simp)).cell 4, (((Chg.refl [] w13).drew).blk HB.out (by simp)).cell 5⟩ | exact ⟨(hx.blk HD.out (by simp)).cell 0, (hx.blk HB.out (by simp)).cell 0, (hx.blk HB.out (by simp)).cell 1, (hx.blk HB.out (by simp)).cell 2, (hx.blk HB.out (by simp)).cell 3, (hx.blk HB.out (by simp)).cell 4, (hx.blk HB.out (by simp)).cell 5⟩ | exact ⟨(hK.blk HD.out rfl).cell 0, (hK.blk HB.out rfl).cell 0, (hK.blk HB.out rfl).cell 1, (hK.blk HB.out rfl).cell 2, (hK.blk HB.out rfl).cell 3, (hK.blk HB.out rfl).cell 4, (hK.blk HB.out rfl).cell 5⟩) (first | (go_at_call 53; refine (at_any _ p _ hp (by decide) (by decide)).mono ?_; rintro e wx14 ⟨rfl, hx0⟩; have hx := ((Chg.refl [] w13).drew).trans hx0; clear hx0) | (go_at_call 47; refine (store_any base _ _ b _ _ _ _ (by omega) (HC.out.chg hx)).mono ?_; rintro e w14 ⟨rfl, hC, hK0⟩; have hK := ((Kp.of_nil (base := base) hx).trans hK0); clear hK0) | fail)
  replace HC := Lib.hid hC
  replace HK := Lib.hid (HK.out.trans hK)
  replace HB := Lib.hid (hK.blk HB.out rfl)
  replace HD := Lib.hid (hK.blk HD.out rfl)
  clear hC hK d0 q0 q1 q2 q3 q4 q5 hx
  have d0 : w14.cell? ⟨cb, 0, none⟩ = some (.pointer (some ⟨b, 0, none⟩)) := HD.out.cell 0
  have q0 : w14.cell? ⟨pb, 0, none⟩ = some (.int .i64 p.fresh) := HB.out.cell 0
  have q1 : w14.cell? ⟨pb, 1, none⟩ = some (.int .i64 p.free) := HB.out.cell 1
  have q2 : w14.cell? ⟨pb, 2, none⟩ = some (.int .i64 p.nodes) := HB.out.cell 2
  have q3 : w14.cell? ⟨pb, 3, none⟩ = some (.int .i64 p.each) := HB.out.cell 3
  have q4 : w14.cell? ⟨pb, 4, none⟩ = some (.int .i64 p.next) := HB.out.cell 4
  have q5 : w14.cell? ⟨pb, 5, none⟩ = some (.int .i64 p.cap) := HB.out.cell 5
  go_wp2_with fail
  go_region_held3 (fun w' => w'.cell? ⟨cb, 0, none⟩ = some (.pointer (some ⟨b, 0, none⟩)) ∧ w'.cell? ⟨pb, 0, none⟩ = some (.int .i64 p.fresh) ∧ w'.cell? ⟨pb, 1, none⟩ = some (.int .i64 p.free) ∧ w'.cell? ⟨pb, 2, none⟩ = some (.int .i64 p.nodes) ∧ w'.cell? ⟨pb, 3, none⟩ = some (.int .i64 p.each) ∧ w'.cell? ⟨pb, 4, none⟩ = some (.int .i64 p.next) ∧ w'.cell? ⟨pb, 5, none⟩ = some (.int .i64 p.cap)) (first | exact ⟨(((Chg.refl [] w14).drew).blk HD.out (by simp)).cell 0, (((Chg.refl [] w14).drew).blk HB.out (by simp)).cell 0, (((Chg.refl [] w14).drew).blk HB.out (by simp)).cell 1, (((Chg.refl [] w14).drew).blk HB.out (by simp)).cell 2, (((Chg.refl [] w14).drew).blk HB.out (by simp)).cell 3, (((Chg.refl [] w14).drew).blk HB.out (by simp)).cell 4, (((Chg.refl [] w14).drew).blk HB.out (by simp)).cell 5⟩ | exact ⟨(hx.blk HD.out (by simp)).cell 0, (hx.blk HB.out (by simp)).cell 0, (hx.blk HB.out (by simp)).cell 1, (hx.blk HB.out (by simp)).cell 2, (hx.blk HB.out (by simp)).cell 3, (hx.blk HB.out (by simp)).cell 4, (hx.blk HB.out (by simp)).cell 5⟩ | exact ⟨(hK.blk HD.out rfl).cell 0, (hK.blk HB.out rfl).cell 0, (hK.blk HB.out rfl).cell 1, (hK.blk HB.out rfl).cell 2, (hK.blk HB.out rfl).cell 3, (hK.blk HB.out rfl).cell 4, (hK.blk HB.out rfl).cell 5⟩) (first | (go_at_call 53; refine (at_any _ p _ hp (by decide) (by decide)).mono ?_; rintro e wx15 ⟨rfl, hx0⟩; have hx := ((Chg.refl [] w14).drew).trans hx0; clear hx0) | (go_at_call 42; refine (load_any base _ _ b _ _ _ _ (by omega) (HC.out.chg hx)).mono ?_; rintro e w15 ⟨rfl, hC, hK0⟩; have hK := ((Kp.of_nil (base := base) hx).trans hK0); clear hK0) | fail)
  replace HC := Lib.hid hC
  replace HK := Lib.hid (HK.out.trans hK)
  replace HB := Lib.hid (hK.blk HB.out rfl)
  replace HD := Lib.hid (hK.blk HD.out rfl)
  clear hC hK d0 q0 q1 q2 q3 q4 q5 hx
  have d0 : w15.cell? ⟨cb, 0, none⟩ = some (.pointer (some ⟨b, 0, none⟩)) := HD.out.cell 0
  have q0 : w15.cell? ⟨pb, 0, none⟩ = some (.int .i64 p.fresh) := HB.out.cell 0
  have q1 : w15.cell? ⟨pb, 1, none⟩ = some (.int .i64 p.free) := HB.out.cell 1
  have q2 : w15.cell? ⟨pb, 2, none⟩ = some (.int .i64 p.nodes) := HB.out.cell 2
  have q3 : w15.cell? ⟨pb, 3, none⟩ = some (.int .i64 p.each) := HB.out.cell 3
  have q4 : w15.cell? ⟨pb, 4, none⟩ = some (.int .i64 p.next) := HB.out.cell 4
  have q5 : w15.cell? ⟨pb, 5, none⟩ = some (.int .i64 p.cap) := HB.out.cell 5
  go_wp2_with fail
  go_region_held3 (fun w' => w'.cell? ⟨cb, 0, none⟩ = some (.pointer (some ⟨b, 0, none⟩)) ∧ w'.cell? ⟨pb, 0, none⟩ = some (.int .i64 p.fresh) ∧ w'.cell? ⟨pb, 1, none⟩ = some (.int .i64 p.free) ∧ w'.cell? ⟨pb, 2, none⟩ = some (.int .i64 p.nodes) ∧ w'.cell? ⟨pb, 3, none⟩ = some (.int .i64 p.each) ∧ w'.cell? ⟨pb, 4, none⟩ = some (.int .i64 p.next) ∧ w'.cell? ⟨pb, 5, none⟩ = some (.int .i64 p.cap)) (first | exact ⟨(((Chg.refl [] w15).drew).blk HD.out (by simp)).cell 0, (((Chg.refl [] w15).drew).blk HB.out (by simp)).cell 0, (((Chg.refl [] w15).drew).blk HB.out (by simp)).cell 1, (((Chg.refl [] w15).drew).blk HB.out (by simp)).cell 2, (((Chg.refl [] w15).drew).blk HB.out (by simp)).cell 3, (((Chg.refl [] w15).drew).blk HB.out (by simp)).cell 4, (((Chg.refl [] w15).drew).blk HB.out (by simp)).cell 5⟩ | exact ⟨(hx.blk HD.out (by simp)).cell 0, (hx.blk HB.out (by simp)).cell 0, (hx.blk HB.out (by simp)).cell 1, (hx.blk HB.out (by simp)).cell 2, (hx.blk HB.out (by simp)).cell 3, (hx.blk HB.out (by simp)).cell 4, (hx.blk HB.out (by simp)).cell 5⟩ | exact ⟨(hK.blk HD.out rfl).cell 0, (hK.blk HB.out rfl).cell 0, (hK.blk HB.out rfl).cell 1, (hK.blk HB.out rfl).cell 2, (hK.blk HB.out rfl).cell 3, (hK.blk HB.out rfl).cell 4, (hK.blk HB.out rfl).cell 5⟩) (first | (go_at_call 53; refine (at_any _ p _ hp (by decide) (by decide)).mono ?_; rintro e wx16 ⟨rfl, hx0⟩; have hx := ((Chg.refl [] w15).drew).trans hx0; clear hx0) | (go_at_call 47; refine (store_any base _ _ b _ _ _ _ (by omega) (HC.out.chg hx)).mono ?_; rintro e w16 ⟨rfl, hC, hK0⟩; have hK := ((Kp.of_nil (base := base) hx).trans hK0); clear hK0) | fail)
  replace HC := Lib.hid hC
  replace HK := Lib.hid (HK.out.trans hK)
  replace HB := Lib.hid (hK.blk HB.out rfl)
  replace HD := Lib.hid (hK.blk HD.out rfl)
  clear hC hK d0 q0 q1 q2 q3 q4 q5 hx
  have d0 : w16.cell? ⟨cb, 0, none⟩ = some (.pointer (some ⟨b, 0, none⟩)) := HD.out.cell 0
  have q0 : w16.cell? ⟨pb, 0, none⟩ = some (.int .i64 p.fresh) := HB.out.cell 0
  have q1 : w16.cell? ⟨pb, 1, none⟩ = some (.int .i64 p.free) := HB.out.cell 1
  have q2 : w16.cell? ⟨pb, 2, none⟩ = some (.int .i64 p.nodes) := HB.out.cell 2
  have q3 : w16.cell? ⟨pb, 3, none⟩ = some (.int .i64 p.each) := HB.out.cell 3
  have q4 : w16.cell? ⟨pb, 4, none⟩ = some (.int .i64 p.next) := HB.out.cell 4
  have q5 : w16.cell? ⟨pb, 5, none⟩ = some (.int .i64 p.cap) := HB.out.cell 5
  go_wp2_with fail
  refine (put_any base _ _ b _ ⟨3, 6, 3, 0, 0⟩ (by omega) HC.out).mono ?_
  rintro e w17 ⟨rfl, hC, hK⟩
  replace HC := Lib.hid hC
  replace HK := Lib.hid (HK.out.trans hK)
  replace HB := Lib.hid (hK.blk HB.out rfl)
  replace HD := Lib.hid (hK.blk HD.out rfl)
  clear hC hK d0 q0 q1 q2 q3 q4 q5
  have d0 : w17.cell? ⟨cb, 0, none⟩ = some (.pointer (some ⟨b, 0, none⟩)) := HD.out.cell 0
  have q0 : w17.cell? ⟨pb, 0, none⟩ = some (.int .i64 p.fresh) := HB.out.cell 0
  have q1 : w17.cell? ⟨pb, 1, none⟩ = some (.int .i64 p.free) := HB.out.cell 1
  have q2 : w17.cell? ⟨pb, 2, none⟩ = some (.int .i64 p.nodes) := HB.out.cell 2
  have q3 : w17.cell? ⟨pb, 3, none⟩ = some (.int .i64 p.each) := HB.out.cell 3
  have q4 : w17.cell? ⟨pb, 4, none⟩ = some (.int .i64 p.next) := HB.out.cell 4
  have q5 : w17.cell? ⟨pb, 5, none⟩ = some (.int .i64 p.cap) := HB.out.cell 5
  go_wp2_with fail
  refine (put_any base _ _ b _ ⟨3, 5, 4, 0, 0⟩ (by omega) HC.out).mono ?_
  rintro e w18 ⟨rfl, hC, hK⟩
  replace HC := Lib.hid hC
  replace HK := Lib.hid (HK.out.trans hK)
  replace HB := Lib.hid (hK.blk HB.out rfl)
  replace HD := Lib.hid (hK.blk HD.out rfl)
  clear hC hK d0 q0 q1 q2 q3 q4 q5
  have d0 : w18.cell? ⟨cb, 0, none⟩ = some (.pointer (some ⟨b, 0, none⟩)) := HD.out.cell 0
  have q0 : w18.cell? ⟨pb, 0, none⟩ = some (.int .i64 p.fresh) := HB.out.cell 0
  have q1 : w18.cell? ⟨pb, 1, none⟩ = some (.int .i64 p.free) := HB.out.cell 1
  have q2 : w18.cell? ⟨pb, 2, none⟩ = some (.int .i64 p.nodes) := HB.out.cell 2
  have q3 : w18.cell? ⟨pb, 3, none⟩ = some (.int .i64 p.each) := HB.out.cell 3
  have q4 : w18.cell? ⟨pb, 4, none⟩ = some (.int .i64 p.next) := HB.out.cell 4
  have q5 : w18.cell? ⟨pb, 5, none⟩ = some (.int .i64 p.cap) := HB.out.cell 5
  go_wp2_with fail
  go_region_held3 (fun w' => w'.cell? ⟨cb, 0, none⟩ = some (.pointer (some ⟨b, 0, none⟩)) ∧ w'.cell? ⟨pb, 0, none⟩ = some (.int .i64 p.fresh) ∧ w'.cell? ⟨pb, 1, none⟩ = some (.int .i64 p.free) ∧ w'.cell? ⟨pb, 2, none⟩ = some (.int .i64 p.nodes) ∧ w'.cell? ⟨pb, 3, none⟩ = some (.int .i64 p.each) ∧ w'.cell? ⟨pb, 4, none⟩ = some (.int .i64 p.next) ∧ w'.cell? ⟨pb, 5, none⟩ = some (.int .i64 p.cap)) (first | exact ⟨(((Chg.refl [] w18).drew).blk HD.out (by simp)).cell 0, (((Chg.refl [] w18).drew).blk HB.out (by simp)).cell 0, (((Chg.refl [] w18).drew).blk HB.out (by simp)).cell 1, (((Chg.refl [] w18).drew).blk HB.out (by simp)).cell 2, (((Chg.refl [] w18).drew).blk HB.out (by simp)).cell 3, (((Chg.refl [] w18).drew).blk HB.out (by simp)).cell 4, (((Chg.refl [] w18).drew).blk HB.out (by simp)).cell 5⟩ | exact ⟨(hx.blk HD.out (by simp)).cell 0, (hx.blk HB.out (by simp)).cell 0, (hx.blk HB.out (by simp)).cell 1, (hx.blk HB.out (by simp)).cell 2, (hx.blk HB.out (by simp)).cell 3, (hx.blk HB.out (by simp)).cell 4, (hx.blk HB.out (by simp)).cell 5⟩ | exact ⟨(hK.blk HD.out rfl).cell 0, (hK.blk HB.out rfl).cell 0, (hK.blk HB.out rfl).cell 1, (hK.blk HB.out rfl).cell 2, (hK.blk HB.out rfl).cell 3, (hK.blk HB.out rfl).cell 4, (hK.blk HB.out rfl).cell 5⟩) (first | (go_at_call 53; refine (at_any _ p _ hp (by decide) (by decide)).mono ?_; rintro e wx19 ⟨rfl, hx0⟩; have hx := ((Chg.refl [] w18).drew).trans hx0; clear hx0) | (go_at_call 42; refine (load_any base _ _ b _ _ _ _ (by omega) (HC.out.chg hx)).mono ?_; rintro e w19 ⟨rfl, hC, hK0⟩; have hK := ((Kp.of_nil (base := base) hx).trans hK0); clear hK0) | fail)
  replace HC := Lib.hid hC
  replace HK := Lib.hid (HK.out.trans hK)
  replace HB := Lib.hid (hK.blk HB.out rfl)
  replace HD := Lib.hid (hK.blk HD.out rfl)
  clear hC hK d0 q0 q1 q2 q3 q4 q5 hx
  have d0 : w19.cell? ⟨cb, 0, none⟩ = some (.pointer (some ⟨b, 0, none⟩)) := HD.out.cell 0
  have q0 : w19.cell? ⟨pb, 0, none⟩ = some (.int .i64 p.fresh) := HB.out.cell 0
  have q1 : w19.cell? ⟨pb, 1, none⟩ = some (.int .i64 p.free) := HB.out.cell 1
  have q2 : w19.cell? ⟨pb, 2, none⟩ = some (.int .i64 p.nodes) := HB.out.cell 2
  have q3 : w19.cell? ⟨pb, 3, none⟩ = some (.int .i64 p.each) := HB.out.cell 3
  have q4 : w19.cell? ⟨pb, 4, none⟩ = some (.int .i64 p.next) := HB.out.cell 4
  have q5 : w19.cell? ⟨pb, 5, none⟩ = some (.int .i64 p.cap) := HB.out.cell 5
  go_wp2_with fail
  refine (jump_any base _ _ b _ _ (by decide) (by omega) HC.out).mono ?_
  rintro e w20 ⟨rfl, hC, hK⟩
  replace HC := Lib.hid hC
  replace HK := Lib.hid (HK.out.trans hK)
  replace HB := Lib.hid (hK.blk HB.out rfl)
  replace HD := Lib.hid (hK.blk HD.out rfl)
  clear hC hK d0 q0 q1 q2 q3 q4 q5
  have d0 : w20.cell? ⟨cb, 0, none⟩ = some (.pointer (some ⟨b, 0, none⟩)) := HD.out.cell 0
  have q0 : w20.cell? ⟨pb, 0, none⟩ = some (.int .i64 p.fresh) := HB.out.cell 0
  have q1 : w20.cell? ⟨pb, 1, none⟩ = some (.int .i64 p.free) := HB.out.cell 1
  have q2 : w20.cell? ⟨pb, 2, none⟩ = some (.int .i64 p.nodes) := HB.out.cell 2
  have q3 : w20.cell? ⟨pb, 3, none⟩ = some (.int .i64 p.each) := HB.out.cell 3
  have q4 : w20.cell? ⟨pb, 4, none⟩ = some (.int .i64 p.next) := HB.out.cell 4
  have q5 : w20.cell? ⟨pb, 5, none⟩ = some (.int .i64 p.cap) := HB.out.cell 5
  go_wp2_with fail
  refine (here_any base _ _ b _ _ (by decide) (by omega) HC.out).mono ?_
  rintro e w21 ⟨rfl, hC, hK⟩
  replace HC := Lib.hid hC
  replace HK := Lib.hid (HK.out.trans hK)
  replace HB := Lib.hid (hK.blk HB.out rfl)
  replace HD := Lib.hid (hK.blk HD.out rfl)
  clear hC hK d0 q0 q1 q2 q3 q4 q5
  have d0 : w21.cell? ⟨cb, 0, none⟩ = some (.pointer (some ⟨b, 0, none⟩)) := HD.out.cell 0
  have q0 : w21.cell? ⟨pb, 0, none⟩ = some (.int .i64 p.fresh) := HB.out.cell 0
  have q1 : w21.cell? ⟨pb, 1, none⟩ = some (.int .i64 p.free) := HB.out.cell 1
  have q2 : w21.cell? ⟨pb, 2, none⟩ = some (.int .i64 p.nodes) := HB.out.cell 2
  have q3 : w21.cell? ⟨pb, 3, none⟩ = some (.int .i64 p.each) := HB.out.cell 3
  have q4 : w21.cell? ⟨pb, 4, none⟩ = some (.int .i64 p.next) := HB.out.cell 4
  have q5 : w21.cell? ⟨pb, 5, none⟩ = some (.int .i64 p.cap) := HB.out.cell 5
  go_wp2_with fail
  refine (put_any base _ _ b _ ⟨3, 2, 3, 0, 0⟩ (by omega) HC.out).mono ?_
  rintro e w22 ⟨rfl, hC, hK⟩
  replace HC := Lib.hid hC
  replace HK := Lib.hid (HK.out.trans hK)
  replace HB := Lib.hid (hK.blk HB.out rfl)
  replace HD := Lib.hid (hK.blk HD.out rfl)
  clear hC hK d0 q0 q1 q2 q3 q4 q5
  have d0 : w22.cell? ⟨cb, 0, none⟩ = some (.pointer (some ⟨b, 0, none⟩)) := HD.out.cell 0
  have q0 : w22.cell? ⟨pb, 0, none⟩ = some (.int .i64 p.fresh) := HB.out.cell 0
  have q1 : w22.cell? ⟨pb, 1, none⟩ = some (.int .i64 p.free) := HB.out.cell 1
  have q2 : w22.cell? ⟨pb, 2, none⟩ = some (.int .i64 p.nodes) := HB.out.cell 2
  have q3 : w22.cell? ⟨pb, 3, none⟩ = some (.int .i64 p.each) := HB.out.cell 3
  have q4 : w22.cell? ⟨pb, 4, none⟩ = some (.int .i64 p.next) := HB.out.cell 4
  have q5 : w22.cell? ⟨pb, 5, none⟩ = some (.int .i64 p.cap) := HB.out.cell 5
  go_wp2_with fail
  refine (here_any base _ _ b _ _ (by decide) (by omega) HC.out).mono ?_
  rintro e w23 ⟨rfl, hC, hK⟩
  replace HC := Lib.hid hC
  replace HK := Lib.hid (HK.out.trans hK)
  replace HB := Lib.hid (hK.blk HB.out rfl)
  replace HD := Lib.hid (hK.blk HD.out rfl)
  clear hC hK d0 q0 q1 q2 q3 q4 q5
  have d0 : w23.cell? ⟨cb, 0, none⟩ = some (.pointer (some ⟨b, 0, none⟩)) := HD.out.cell 0
  have q0 : w23.cell? ⟨pb, 0, none⟩ = some (.int .i64 p.fresh) := HB.out.cell 0
  have q1 : w23.cell? ⟨pb, 1, none⟩ = some (.int .i64 p.free) := HB.out.cell 1
  have q2 : w23.cell? ⟨pb, 2, none⟩ = some (.int .i64 p.nodes) := HB.out.cell 2
  have q3 : w23.cell? ⟨pb, 3, none⟩ = some (.int .i64 p.each) := HB.out.cell 3
  have q4 : w23.cell? ⟨pb, 4, none⟩ = some (.int .i64 p.next) := HB.out.cell 4
  have q5 : w23.cell? ⟨pb, 5, none⟩ = some (.int .i64 p.cap) := HB.out.cell 5
  go_wp2_with fail
  refine (store_any base _ _ b _ _ _ _ (by omega) HC.out).mono ?_
  rintro e w24 ⟨rfl, hC, hK⟩
  replace HC := Lib.hid hC
  replace HK := Lib.hid (HK.out.trans hK)
  replace HB := Lib.hid (hK.blk HB.out rfl)
  replace HD := Lib.hid (hK.blk HD.out rfl)
  clear hC hK d0 q0 q1 q2 q3 q4 q5
  have d0 : w24.cell? ⟨cb, 0, none⟩ = some (.pointer (some ⟨b, 0, none⟩)) := HD.out.cell 0
  have q0 : w24.cell? ⟨pb, 0, none⟩ = some (.int .i64 p.fresh) := HB.out.cell 0
  have q1 : w24.cell? ⟨pb, 1, none⟩ = some (.int .i64 p.free) := HB.out.cell 1
  have q2 : w24.cell? ⟨pb, 2, none⟩ = some (.int .i64 p.nodes) := HB.out.cell 2
  have q3 : w24.cell? ⟨pb, 3, none⟩ = some (.int .i64 p.each) := HB.out.cell 3
  have q4 : w24.cell? ⟨pb, 4, none⟩ = some (.int .i64 p.next) := HB.out.cell 4
  have q5 : w24.cell? ⟨pb, 5, none⟩ = some (.int .i64 p.cap) := HB.out.cell 5
  go_wp2_with fail
  go_end0
  exact ⟨rfl, HC.out, HK.out⟩

set_option maxHeartbeats 2000000 in
theorem search_any (base n : Nat) (w : World) (b : Nat) (s : St) (p : Po) (hp : PoOk p) (hn : n ≤ 3000) (cb pb : Nat) (F : FuncId) (hcf : ∀ (args : Array Value) (w : World), (callFunc F args).run Try.prog w = .ok (.enter F args) w) (K : Nat) (f : St → St) (hK40 : K ≤ 40) (hf : Clo base b cb pb p F K f) (hcb : Blk w cb [.pointer (some ⟨b, 0, none⟩)] 72) (hpb : Blk w pb [.int .i64 p.fresh, .int .i64 p.free, .int .i64 p.nodes, .int .i64 p.each, .int .i64 p.next, .int .i64 p.cap] 82) (h : CodeAt base n w b s) :
    Calls Try.prog 74 #[.pointer (some ⟨b, 0, none⟩), .agg #[.int .i64 p.fresh, .int .i64 p.free, .int .i64 p.nodes, .int .i64 p.each, .int .i64 p.next, .int .i64 p.cap], .func (.func F) #[] #[.pointer (some ⟨cb, 0, none⟩), .pointer (some ⟨pb, 0, none⟩)]] w (CPost base (n + K + 9) w b (s.search p f)) := by
  have HD := Lib.hid (hcb.alloc (.cells #[.int .i64 p.fresh, .int .i64 p.free, .int .i64 p.nodes, .int .i64 p.each, .int .i64 p.next, .int .i64 p.cap] 82))
  have HP2 := Lib.hid (hpb.alloc (.cells #[.int .i64 p.fresh, .int .i64 p.free, .int .i64 p.nodes, .int .i64 p.each, .int .i64 p.next, .int .i64 p.cap] 82))
  have HF := Lib.hid hf
  clear hcb hpb hf
  have HC := Lib.hid (h.chg ((Chg.refl [] w).alloc (.cells #[.int .i64 p.fresh, .int .i64 p.free, .int .i64 p.nodes, .int .i64 p.each, .int .i64 p.next, .int .i64 p.cap] 82)))
  have HB := Lib.hid (Blk.new w [.int .i64 p.fresh, .int .i64 p.free, .int .i64 p.nodes, .int .i64 p.each, .int .i64 p.next, .int .i64 p.cap] 82)
  have HK := Lib.hid ((Kp.refl base w).alloc (.cells #[.int .i64 p.fresh, .int .i64 p.free, .int .i64 p.nodes, .int .i64 p.each, .int .i64 p.next, .int .i64 p.cap] 82))
  clear h
  have hp1 := hp.m0
  have hp2 := hp.m1
  have hp3 := hp.n0
  have hp4 := hp.n1
  have q0 : (w.alloc (.cells #[.int .i64 p.fresh, .int .i64 p.free, .int .i64 p.nodes, .int .i64 p.each, .int .i64 p.next, .int .i64 p.cap] 82)).cell? ⟨w.heap.size, 0, none⟩ = some (.int .i64 p.fresh) := HB.out.cell 0
  have q1 : (w.alloc (.cells #[.int .i64 p.fresh, .int .i64 p.free, .int .i64 p.nodes, .int .i64 p.each, .int .i64 p.next, .int .i64 p.cap] 82)).cell? ⟨w.heap.size, 1, none⟩ = some (.int .i64 p.free) := HB.out.cell 1
  have q2 : (w.alloc (.cells #[.int .i64 p.fresh, .int .i64 p.free, .int .i64 p.nodes, .int .i64 p.each, .int .i64 p.next, .int .i64 p.cap] 82)).cell? ⟨w.heap.size, 2, none⟩ = some (.int .i64 p.nodes) := HB.out.cell 2
  have q3 : (w.alloc (.cells #[.int .i64 p.fresh, .int .i64 p.free, .int .i64 p.nodes, .int .i64 p.each, .int .i64 p.next, .int .i64 p.cap] 82)).cell? ⟨w.heap.size, 3, none⟩ = some (.int .i64 p.each) := HB.out.cell 3
  have q4 : (w.alloc (.cells #[.int .i64 p.fresh, .int .i64 p.free, .int .i64 p.nodes, .int .i64 p.each, .int .i64 p.next, .int .i64 p.cap] 82)).cell? ⟨w.heap.size, 4, none⟩ = some (.int .i64 p.next) := HB.out.cell 4
  have q5 : (w.alloc (.cells #[.int .i64 p.fresh, .int .i64 p.free, .int .i64 p.nodes, .int .i64 p.each, .int .i64 p.next, .int .i64 p.cap] 82)).cell? ⟨w.heap.size, 5, none⟩ = some (.int .i64 p.cap) := HB.out.cell 5
  go_enter Try.func74, Try.ntmps74
  go_wp2_with fail
  refine (here_any base _ _ b _  _ (by decide) (by omega) HC.out).mono ?_
  rintro e w1 ⟨rfl, hC, hK⟩
  replace HC := Lib.hid hC
  replace HK := Lib.hid (HK.out.trans hK)
  replace HB := Lib.hid (hK.blk HB.out rfl)
  replace HD := Lib.hid (hK.blk HD.out rfl)
  replace HP2 := Lib.hid (hK.blk HP2.out rfl)
  clear hC hK
  clear q0 q1 q2 q3 q4 q5
  have q0 : w1.cell? ⟨w.heap.size, 0, none⟩ = some (.int .i64 p.fresh) := HB.out.cell 0
  have q1 : w1.cell? ⟨w.heap.size, 1, none⟩ = some (.int .i64 p.free) := HB.out.cell 1
  have q2 : w1.cell? ⟨w.heap.size, 2, none⟩ = some (.int .i64 p.nodes) := HB.out.cell 2
  have q3 : w1.cell? ⟨w.heap.size, 3, none⟩ = some (.int .i64 p.each) := HB.out.cell 3
  have q4 : w1.cell? ⟨w.heap.size, 4, none⟩ = some (.int .i64 p.next) := HB.out.cell 4
  have q5 : w1.cell? ⟨w.heap.size, 5, none⟩ = some (.int .i64 p.cap) := HB.out.cell 5
  go_wp2_with fail
  refine (load_any base _ _ b _ _ _ _ (by omega) HC.out).mono ?_
  rintro e w2 ⟨rfl, hC, hK⟩
  replace HC := Lib.hid hC
  replace HK := Lib.hid (HK.out.trans hK)
  replace HB := Lib.hid (hK.blk HB.out rfl)
  replace HD := Lib.hid (hK.blk HD.out rfl)
  replace HP2 := Lib.hid (hK.blk HP2.out rfl)
  clear hC hK
  clear q0 q1 q2 q3 q4 q5
  have q0 : w2.cell? ⟨w.heap.size, 0, none⟩ = some (.int .i64 p.fresh) := HB.out.cell 0
  have q1 : w2.cell? ⟨w.heap.size, 1, none⟩ = some (.int .i64 p.free) := HB.out.cell 1
  have q2 : w2.cell? ⟨w.heap.size, 2, none⟩ = some (.int .i64 p.nodes) := HB.out.cell 2
  have q3 : w2.cell? ⟨w.heap.size, 3, none⟩ = some (.int .i64 p.each) := HB.out.cell 3
  have q4 : w2.cell? ⟨w.heap.size, 4, none⟩ = some (.int .i64 p.next) := HB.out.cell 4
  have q5 : w2.cell? ⟨w.heap.size, 5, none⟩ = some (.int .i64 p.cap) := HB.out.cell 5
  go_wp2_with fail
  refine (when_any base _ _ b _ _ _ _ _ (by decide) (by omega) HC.out).mono ?_
  rintro e w3 ⟨rfl, hC, hK⟩
  replace HC := Lib.hid hC
  replace HK := Lib.hid (HK.out.trans hK)
  replace HB := Lib.hid (hK.blk HB.out rfl)
  replace HD := Lib.hid (hK.blk HD.out rfl)
  replace HP2 := Lib.hid (hK.blk HP2.out rfl)
  clear hC hK
  clear q0 q1 q2 q3 q4 q5
  have q0 : w3.cell? ⟨w.heap.size, 0, none⟩ = some (.int .i64 p.fresh) := HB.out.cell 0
  have q1 : w3.cell? ⟨w.heap.size, 1, none⟩ = some (.int .i64 p.free) := HB.out.cell 1
  have q2 : w3.cell? ⟨w.heap.size, 2, none⟩ = some (.int .i64 p.nodes) := HB.out.cell 2
  have q3 : w3.cell? ⟨w.heap.size, 3, none⟩ = some (.int .i64 p.each) := HB.out.cell 3
  have q4 : w3.cell? ⟨w.heap.size, 4, none⟩ = some (.int .i64 p.next) := HB.out.cell 4
  have q5 : w3.cell? ⟨w.heap.size, 5, none⟩ = some (.int .i64 p.cap) := HB.out.cell 5
  go_wp2_with fail
  refine (at_any _ p _ hp (by decide) (by decide)).mono ?_
  rintro e w4 ⟨rfl, hx⟩
  replace HC := Lib.hid (HC.out.chg hx)
  replace HK := Lib.hid (HK.out.trans (Kp.of_nil hx))
  replace HB := Lib.hid (hx.blk HB.out (by simp))
  replace HD := Lib.hid (hx.blk HD.out (by simp))
  replace HP2 := Lib.hid (hx.blk HP2.out (by simp))
  clear hx
  clear q0 q1 q2 q3 q4 q5
  have q0 : w4.cell? ⟨w.heap.size, 0, none⟩ = some (.int .i64 p.fresh) := HB.out.cell 0
  have q1 : w4.cell? ⟨w.heap.size, 1, none⟩ = some (.int .i64 p.free) := HB.out.cell 1
  have q2 : w4.cell? ⟨w.heap.size, 2, none⟩ = some (.int .i64 p.nodes) := HB.out.cell 2
  have q3 : w4.cell? ⟨w.heap.size, 3, none⟩ = some (.int .i64 p.each) := HB.out.cell 3
  have q4 : w4.cell? ⟨w.heap.size, 4, none⟩ = some (.int .i64 p.next) := HB.out.cell 4
  have q5 : w4.cell? ⟨w.heap.size, 5, none⟩ = some (.int .i64 p.cap) := HB.out.cell 5
  go_wp2_with fail
  refine (load_any base _ _ b _ _ _ _ (by omega) HC.out).mono ?_
  rintro e w5 ⟨rfl, hC, hK⟩
  replace HC := Lib.hid hC
  replace HK := Lib.hid (HK.out.trans hK)
  replace HB := Lib.hid (hK.blk HB.out rfl)
  replace HD := Lib.hid (hK.blk HD.out rfl)
  replace HP2 := Lib.hid (hK.blk HP2.out rfl)
  clear hC hK
  clear q0 q1 q2 q3 q4 q5
  have q0 : w5.cell? ⟨w.heap.size, 0, none⟩ = some (.int .i64 p.fresh) := HB.out.cell 0
  have q1 : w5.cell? ⟨w.heap.size, 1, none⟩ = some (.int .i64 p.free) := HB.out.cell 1
  have q2 : w5.cell? ⟨w.heap.size, 2, none⟩ = some (.int .i64 p.nodes) := HB.out.cell 2
  have q3 : w5.cell? ⟨w.heap.size, 3, none⟩ = some (.int .i64 p.each) := HB.out.cell 3
  have q4 : w5.cell? ⟨w.heap.size, 4, none⟩ = some (.int .i64 p.next) := HB.out.cell 4
  have q5 : w5.cell? ⟨w.heap.size, 5, none⟩ = some (.int .i64 p.cap) := HB.out.cell 5
  go_wp2_with fail
  refine (when_any base _ _ b _ _ _ _ _ (by decide) (by omega) HC.out).mono ?_
  rintro e w6 ⟨rfl, hC, hK⟩
  replace HC := Lib.hid hC
  replace HK := Lib.hid (HK.out.trans hK)
  replace HB := Lib.hid (hK.blk HB.out rfl)
  replace HD := Lib.hid (hK.blk HD.out rfl)
  replace HP2 := Lib.hid (hK.blk HP2.out rfl)
  clear hC hK
  clear q0 q1 q2 q3 q4 q5
  have q0 : w6.cell? ⟨w.heap.size, 0, none⟩ = some (.int .i64 p.fresh) := HB.out.cell 0
  have q1 : w6.cell? ⟨w.heap.size, 1, none⟩ = some (.int .i64 p.free) := HB.out.cell 1
  have q2 : w6.cell? ⟨w.heap.size, 2, none⟩ = some (.int .i64 p.nodes) := HB.out.cell 2
  have q3 : w6.cell? ⟨w.heap.size, 3, none⟩ = some (.int .i64 p.each) := HB.out.cell 3
  have q4 : w6.cell? ⟨w.heap.size, 4, none⟩ = some (.int .i64 p.next) := HB.out.cell 4
  have q5 : w6.cell? ⟨w.heap.size, 5, none⟩ = some (.int .i64 p.cap) := HB.out.cell 5
  go_wp2_with fail
  refine (HF.out _ _ _ (by omega) HD.out HP2.out HC.out).mono ?_
  rintro e w7 ⟨rfl, hC, hK⟩
  replace HC := Lib.hid hC
  replace HK := Lib.hid (HK.out.trans hK)
  replace HB := Lib.hid (hK.blk HB.out rfl)
  replace HD := Lib.hid (hK.blk HD.out rfl)
  replace HP2 := Lib.hid (hK.blk HP2.out rfl)
  clear hC hK
  clear q0 q1 q2 q3 q4 q5
  have q0 : w7.cell? ⟨w.heap.size, 0, none⟩ = some (.int .i64 p.fresh) := HB.out.cell 0
  have q1 : w7.cell? ⟨w.heap.size, 1, none⟩ = some (.int .i64 p.free) := HB.out.cell 1
  have q2 : w7.cell? ⟨w.heap.size, 2, none⟩ = some (.int .i64 p.nodes) := HB.out.cell 2
  have q3 : w7.cell? ⟨w.heap.size, 3, none⟩ = some (.int .i64 p.each) := HB.out.cell 3
  have q4 : w7.cell? ⟨w.heap.size, 4, none⟩ = some (.int .i64 p.next) := HB.out.cell 4
  have q5 : w7.cell? ⟨w.heap.size, 5, none⟩ = some (.int .i64 p.cap) := HB.out.cell 5
  go_wp2_with fail
  refine (jump_any base _ _ b _  _ (by decide) (by omega) HC.out).mono ?_
  rintro e w8 ⟨rfl, hC, hK⟩
  replace HC := Lib.hid hC
  replace HK := Lib.hid (HK.out.trans hK)
  replace HB := Lib.hid (hK.blk HB.out rfl)
  replace HD := Lib.hid (hK.blk HD.out rfl)
  replace HP2 := Lib.hid (hK.blk HP2.out rfl)
  clear hC hK
  clear q0 q1 q2 q3 q4 q5
  have q0 : w8.cell? ⟨w.heap.size, 0, none⟩ = some (.int .i64 p.fresh) := HB.out.cell 0
  have q1 : w8.cell? ⟨w.heap.size, 1, none⟩ = some (.int .i64 p.free) := HB.out.cell 1
  have q2 : w8.cell? ⟨w.heap.size, 2, none⟩ = some (.int .i64 p.nodes) := HB.out.cell 2
  have q3 : w8.cell? ⟨w.heap.size, 3, none⟩ = some (.int .i64 p.each) := HB.out.cell 3
  have q4 : w8.cell? ⟨w.heap.size, 4, none⟩ = some (.int .i64 p.next) := HB.out.cell 4
  have q5 : w8.cell? ⟨w.heap.size, 5, none⟩ = some (.int .i64 p.cap) := HB.out.cell 5
  go_wp2_with fail
  go_end0
  exact ⟨rfl, HC.out.mono (by omega), HK.out⟩

set_option maxHeartbeats 2000000 in
theorem getting_any (base n : Nat) (w : World) (b : Nat) (s : St) (p : Po) (hp : PoOk p) (hn : n ≤ 3000) (h : CodeAt base n w b s) :
    Calls Try.prog 56 #[.pointer (some ⟨b, 0, none⟩), .agg #[.int .i64 p.fresh, .int .i64 p.free, .int .i64 p.nodes, .int .i64 p.each, .int .i64 p.next, .int .i64 p.cap]] w (LPost base w (s.getting p)) := by
  have HC := Lib.hid (h.chg ((Chg.refl [] w).alloc (.cells #[.int .i64 p.fresh, .int .i64 p.free, .int .i64 p.nodes, .int .i64 p.each, .int .i64 p.next, .int .i64 p.cap] 82)))
  have HB := Lib.hid (Blk.new w [.int .i64 p.fresh, .int .i64 p.free, .int .i64 p.nodes, .int .i64 p.each, .int .i64 p.next, .int .i64 p.cap] 82)
  have HK := Lib.hid ((Kp.refl base w).alloc (.cells #[.int .i64 p.fresh, .int .i64 p.free, .int .i64 p.nodes, .int .i64 p.each, .int .i64 p.next, .int .i64 p.cap] 82))
  clear h
  have hp1 := hp.m0
  have hp2 := hp.m1
  have hp3 := hp.n0
  have hp4 := hp.n1
  have q0 : (w.alloc (.cells #[.int .i64 p.fresh, .int .i64 p.free, .int .i64 p.nodes, .int .i64 p.each, .int .i64 p.next, .int .i64 p.cap] 82)).cell? ⟨w.heap.size, 0, none⟩ = some (.int .i64 p.fresh) := HB.out.cell 0
  have q1 : (w.alloc (.cells #[.int .i64 p.fresh, .int .i64 p.free, .int .i64 p.nodes, .int .i64 p.each, .int .i64 p.next, .int .i64 p.cap] 82)).cell? ⟨w.heap.size, 1, none⟩ = some (.int .i64 p.free) := HB.out.cell 1
  have q2 : (w.alloc (.cells #[.int .i64 p.fresh, .int .i64 p.free, .int .i64 p.nodes, .int .i64 p.each, .int .i64 p.next, .int .i64 p.cap] 82)).cell? ⟨w.heap.size, 2, none⟩ = some (.int .i64 p.nodes) := HB.out.cell 2
  have q3 : (w.alloc (.cells #[.int .i64 p.fresh, .int .i64 p.free, .int .i64 p.nodes, .int .i64 p.each, .int .i64 p.next, .int .i64 p.cap] 82)).cell? ⟨w.heap.size, 3, none⟩ = some (.int .i64 p.each) := HB.out.cell 3
  have q4 : (w.alloc (.cells #[.int .i64 p.fresh, .int .i64 p.free, .int .i64 p.nodes, .int .i64 p.each, .int .i64 p.next, .int .i64 p.cap] 82)).cell? ⟨w.heap.size, 4, none⟩ = some (.int .i64 p.next) := HB.out.cell 4
  have q5 : (w.alloc (.cells #[.int .i64 p.fresh, .int .i64 p.free, .int .i64 p.nodes, .int .i64 p.each, .int .i64 p.next, .int .i64 p.cap] 82)).cell? ⟨w.heap.size, 5, none⟩ = some (.int .i64 p.cap) := HB.out.cell 5
  go_enter Try.func56, Try.ntmps56
  go_wp2_with fail
  refine (here_any base _ _ b _  _ (by decide) (by omega) HC.out).mono ?_
  rintro e w1 ⟨rfl, hC, hK⟩
  replace HC := Lib.hid hC
  replace HK := Lib.hid (HK.out.trans hK)
  replace HB := Lib.hid (hK.blk HB.out rfl)
  clear hC hK
  clear q0 q1 q2 q3 q4 q5
  have q0 : w1.cell? ⟨w.heap.size, 0, none⟩ = some (.int .i64 p.fresh) := HB.out.cell 0
  have q1 : w1.cell? ⟨w.heap.size, 1, none⟩ = some (.int .i64 p.free) := HB.out.cell 1
  have q2 : w1.cell? ⟨w.heap.size, 2, none⟩ = some (.int .i64 p.nodes) := HB.out.cell 2
  have q3 : w1.cell? ⟨w.heap.size, 3, none⟩ = some (.int .i64 p.each) := HB.out.cell 3
  have q4 : w1.cell? ⟨w.heap.size, 4, none⟩ = some (.int .i64 p.next) := HB.out.cell 4
  have q5 : w1.cell? ⟨w.heap.size, 5, none⟩ = some (.int .i64 p.cap) := HB.out.cell 5
  go_wp2_with fail
  refine (at_any _ p _ hp (by decide) (by decide)).mono ?_
  rintro e w2 ⟨rfl, hx⟩
  replace HC := Lib.hid (HC.out.chg hx)
  replace HK := Lib.hid (HK.out.trans (Kp.of_nil hx))
  replace HB := Lib.hid (hx.blk HB.out (by simp))
  clear hx
  clear q0 q1 q2 q3 q4 q5
  have q0 : w2.cell? ⟨w.heap.size, 0, none⟩ = some (.int .i64 p.fresh) := HB.out.cell 0
  have q1 : w2.cell? ⟨w.heap.size, 1, none⟩ = some (.int .i64 p.free) := HB.out.cell 1
  have q2 : w2.cell? ⟨w.heap.size, 2, none⟩ = some (.int .i64 p.nodes) := HB.out.cell 2
  have q3 : w2.cell? ⟨w.heap.size, 3, none⟩ = some (.int .i64 p.each) := HB.out.cell 3
  have q4 : w2.cell? ⟨w.heap.size, 4, none⟩ = some (.int .i64 p.next) := HB.out.cell 4
  have q5 : w2.cell? ⟨w.heap.size, 5, none⟩ = some (.int .i64 p.cap) := HB.out.cell 5
  go_wp2_with fail
  refine (load_any base _ _ b _ _ _ _ (by omega) HC.out).mono ?_
  rintro e w3 ⟨rfl, hC, hK⟩
  replace HC := Lib.hid hC
  replace HK := Lib.hid (HK.out.trans hK)
  replace HB := Lib.hid (hK.blk HB.out rfl)
  clear hC hK
  clear q0 q1 q2 q3 q4 q5
  have q0 : w3.cell? ⟨w.heap.size, 0, none⟩ = some (.int .i64 p.fresh) := HB.out.cell 0
  have q1 : w3.cell? ⟨w.heap.size, 1, none⟩ = some (.int .i64 p.free) := HB.out.cell 1
  have q2 : w3.cell? ⟨w.heap.size, 2, none⟩ = some (.int .i64 p.nodes) := HB.out.cell 2
  have q3 : w3.cell? ⟨w.heap.size, 3, none⟩ = some (.int .i64 p.each) := HB.out.cell 3
  have q4 : w3.cell? ⟨w.heap.size, 4, none⟩ = some (.int .i64 p.next) := HB.out.cell 4
  have q5 : w3.cell? ⟨w.heap.size, 5, none⟩ = some (.int .i64 p.cap) := HB.out.cell 5
  go_wp2_with fail
  refine (set_any base _ _ b _ _ _ (by omega) HC.out).mono ?_
  rintro e w4 ⟨rfl, hC, hK⟩
  replace HC := Lib.hid hC
  replace HK := Lib.hid (HK.out.trans hK)
  replace HB := Lib.hid (hK.blk HB.out rfl)
  clear hC hK
  clear q0 q1 q2 q3 q4 q5
  have q0 : w4.cell? ⟨w.heap.size, 0, none⟩ = some (.int .i64 p.fresh) := HB.out.cell 0
  have q1 : w4.cell? ⟨w.heap.size, 1, none⟩ = some (.int .i64 p.free) := HB.out.cell 1
  have q2 : w4.cell? ⟨w.heap.size, 2, none⟩ = some (.int .i64 p.nodes) := HB.out.cell 2
  have q3 : w4.cell? ⟨w.heap.size, 3, none⟩ = some (.int .i64 p.each) := HB.out.cell 3
  have q4 : w4.cell? ⟨w.heap.size, 4, none⟩ = some (.int .i64 p.next) := HB.out.cell 4
  have q5 : w4.cell? ⟨w.heap.size, 5, none⟩ = some (.int .i64 p.cap) := HB.out.cell 5
  go_wp2_with fail
  refine (here_any base _ _ b _  _ (by decide) (by omega) HC.out).mono ?_
  rintro e w5 ⟨rfl, hC, hK⟩
  replace HC := Lib.hid hC
  replace HK := Lib.hid (HK.out.trans hK)
  replace HB := Lib.hid (hK.blk HB.out rfl)
  clear hC hK
  clear q0 q1 q2 q3 q4 q5
  have q0 : w5.cell? ⟨w.heap.size, 0, none⟩ = some (.int .i64 p.fresh) := HB.out.cell 0
  have q1 : w5.cell? ⟨w.heap.size, 1, none⟩ = some (.int .i64 p.free) := HB.out.cell 1
  have q2 : w5.cell? ⟨w.heap.size, 2, none⟩ = some (.int .i64 p.nodes) := HB.out.cell 2
  have q3 : w5.cell? ⟨w.heap.size, 3, none⟩ = some (.int .i64 p.each) := HB.out.cell 3
  have q4 : w5.cell? ⟨w.heap.size, 4, none⟩ = some (.int .i64 p.next) := HB.out.cell 4
  have q5 : w5.cell? ⟨w.heap.size, 5, none⟩ = some (.int .i64 p.cap) := HB.out.cell 5
  go_wp2_with fail
  refine (out_in base _ _ b _ _ (by omega) HC.out rfl).mono ?_
  rintro e w99 ⟨v, rfl, hr, hK⟩
  go_wp2_with fail
  go_ret
  exact ⟨_, rfl, hr, HK.out.trans hK⟩

set_option maxHeartbeats 2000000 in
theorem cutting_any (base n : Nat) (w : World) (b : Nat) (s : St) (p : Po) (hp : PoOk p) (hn : n ≤ 3000) (cb pb : Nat) (F : FuncId) (hcf : ∀ (args : Array Value) (w : World), (callFunc F args).run Try.prog w = .ok (.enter F args) w) (K : Nat) (f : St → St) (hK40 : K ≤ 40) (hf : Clo base b cb pb p F K f) (hcb : Blk w cb [.pointer (some ⟨b, 0, none⟩)] 72) (hpb : Blk w pb [.int .i64 p.fresh, .int .i64 p.free, .int .i64 p.nodes, .int .i64 p.each, .int .i64 p.next, .int .i64 p.cap] 82) (h : CodeAt base n w b s) :
    Calls Try.prog 54 #[.pointer (some ⟨b, 0, none⟩), .agg #[.int .i64 p.fresh, .int .i64 p.free, .int .i64 p.nodes, .int .i64 p.each, .int .i64 p.next, .int .i64 p.cap], .func (.func F) #[] #[.pointer (some ⟨cb, 0, none⟩), .pointer (some ⟨pb, 0, none⟩)]] w (LPost base w (s.cutting p f)) := by
  have HD := Lib.hid (hcb.alloc (.cells #[.int .i64 p.fresh, .int .i64 p.free, .int .i64 p.nodes, .int .i64 p.each, .int .i64 p.next, .int .i64 p.cap] 82))
  have HP2 := Lib.hid (hpb.alloc (.cells #[.int .i64 p.fresh, .int .i64 p.free, .int .i64 p.nodes, .int .i64 p.each, .int .i64 p.next, .int .i64 p.cap] 82))
  have HF := Lib.hid hf
  clear hcb hpb hf
  have HC := Lib.hid (h.chg ((Chg.refl [] w).alloc (.cells #[.int .i64 p.fresh, .int .i64 p.free, .int .i64 p.nodes, .int .i64 p.each, .int .i64 p.next, .int .i64 p.cap] 82)))
  have HB := Lib.hid (Blk.new w [.int .i64 p.fresh, .int .i64 p.free, .int .i64 p.nodes, .int .i64 p.each, .int .i64 p.next, .int .i64 p.cap] 82)
  have HK := Lib.hid ((Kp.refl base w).alloc (.cells #[.int .i64 p.fresh, .int .i64 p.free, .int .i64 p.nodes, .int .i64 p.each, .int .i64 p.next, .int .i64 p.cap] 82))
  clear h
  have hp1 := hp.m0
  have hp2 := hp.m1
  have hp3 := hp.n0
  have hp4 := hp.n1
  have q0 : (w.alloc (.cells #[.int .i64 p.fresh, .int .i64 p.free, .int .i64 p.nodes, .int .i64 p.each, .int .i64 p.next, .int .i64 p.cap] 82)).cell? ⟨w.heap.size, 0, none⟩ = some (.int .i64 p.fresh) := HB.out.cell 0
  have q1 : (w.alloc (.cells #[.int .i64 p.fresh, .int .i64 p.free, .int .i64 p.nodes, .int .i64 p.each, .int .i64 p.next, .int .i64 p.cap] 82)).cell? ⟨w.heap.size, 1, none⟩ = some (.int .i64 p.free) := HB.out.cell 1
  have q2 : (w.alloc (.cells #[.int .i64 p.fresh, .int .i64 p.free, .int .i64 p.nodes, .int .i64 p.each, .int .i64 p.next, .int .i64 p.cap] 82)).cell? ⟨w.heap.size, 2, none⟩ = some (.int .i64 p.nodes) := HB.out.cell 2
  have q3 : (w.alloc (.cells #[.int .i64 p.fresh, .int .i64 p.free, .int .i64 p.nodes, .int .i64 p.each, .int .i64 p.next, .int .i64 p.cap] 82)).cell? ⟨w.heap.size, 3, none⟩ = some (.int .i64 p.each) := HB.out.cell 3
  have q4 : (w.alloc (.cells #[.int .i64 p.fresh, .int .i64 p.free, .int .i64 p.nodes, .int .i64 p.each, .int .i64 p.next, .int .i64 p.cap] 82)).cell? ⟨w.heap.size, 4, none⟩ = some (.int .i64 p.next) := HB.out.cell 4
  have q5 : (w.alloc (.cells #[.int .i64 p.fresh, .int .i64 p.free, .int .i64 p.nodes, .int .i64 p.each, .int .i64 p.next, .int .i64 p.cap] 82)).cell? ⟨w.heap.size, 5, none⟩ = some (.int .i64 p.cap) := HB.out.cell 5
  go_enter Try.func54, Try.ntmps54
  go_wp2_with fail
  refine (here_any base _ _ b _  _ (by decide) (by omega) HC.out).mono ?_
  rintro e w1 ⟨rfl, hC, hK⟩
  replace HC := Lib.hid hC
  replace HK := Lib.hid (HK.out.trans hK)
  replace HB := Lib.hid (hK.blk HB.out rfl)
  replace HD := Lib.hid (hK.blk HD.out rfl)
  replace HP2 := Lib.hid (hK.blk HP2.out rfl)
  clear hC hK
  clear q0 q1 q2 q3 q4 q5
  have q0 : w1.cell? ⟨w.heap.size, 0, none⟩ = some (.int .i64 p.fresh) := HB.out.cell 0
  have q1 : w1.cell? ⟨w.heap.size, 1, none⟩ = some (.int .i64 p.free) := HB.out.cell 1
  have q2 : w1.cell? ⟨w.heap.size, 2, none⟩ = some (.int .i64 p.nodes) := HB.out.cell 2
  have q3 : w1.cell? ⟨w.heap.size, 3, none⟩ = some (.int .i64 p.each) := HB.out.cell 3
  have q4 : w1.cell? ⟨w.heap.size, 4, none⟩ = some (.int .i64 p.next) := HB.out.cell 4
  have q5 : w1.cell? ⟨w.heap.size, 5, none⟩ = some (.int .i64 p.cap) := HB.out.cell 5
  go_wp2_with fail
  refine (at_any _ p _ hp (by decide) (by decide)).mono ?_
  rintro e w2 ⟨rfl, hx⟩
  replace HC := Lib.hid (HC.out.chg hx)
  replace HK := Lib.hid (HK.out.trans (Kp.of_nil hx))
  replace HB := Lib.hid (hx.blk HB.out (by simp))
  replace HD := Lib.hid (hx.blk HD.out (by simp))
  replace HP2 := Lib.hid (hx.blk HP2.out (by simp))
  clear hx
  clear q0 q1 q2 q3 q4 q5
  have q0 : w2.cell? ⟨w.heap.size, 0, none⟩ = some (.int .i64 p.fresh) := HB.out.cell 0
  have q1 : w2.cell? ⟨w.heap.size, 1, none⟩ = some (.int .i64 p.free) := HB.out.cell 1
  have q2 : w2.cell? ⟨w.heap.size, 2, none⟩ = some (.int .i64 p.nodes) := HB.out.cell 2
  have q3 : w2.cell? ⟨w.heap.size, 3, none⟩ = some (.int .i64 p.each) := HB.out.cell 3
  have q4 : w2.cell? ⟨w.heap.size, 4, none⟩ = some (.int .i64 p.next) := HB.out.cell 4
  have q5 : w2.cell? ⟨w.heap.size, 5, none⟩ = some (.int .i64 p.cap) := HB.out.cell 5
  go_wp2_with fail
  refine (load_any base _ _ b _ _ _ _ (by omega) HC.out).mono ?_
  rintro e w3 ⟨rfl, hC, hK⟩
  replace HC := Lib.hid hC
  replace HK := Lib.hid (HK.out.trans hK)
  replace HB := Lib.hid (hK.blk HB.out rfl)
  replace HD := Lib.hid (hK.blk HD.out rfl)
  replace HP2 := Lib.hid (hK.blk HP2.out rfl)
  clear hC hK
  clear q0 q1 q2 q3 q4 q5
  have q0 : w3.cell? ⟨w.heap.size, 0, none⟩ = some (.int .i64 p.fresh) := HB.out.cell 0
  have q1 : w3.cell? ⟨w.heap.size, 1, none⟩ = some (.int .i64 p.free) := HB.out.cell 1
  have q2 : w3.cell? ⟨w.heap.size, 2, none⟩ = some (.int .i64 p.nodes) := HB.out.cell 2
  have q3 : w3.cell? ⟨w.heap.size, 3, none⟩ = some (.int .i64 p.each) := HB.out.cell 3
  have q4 : w3.cell? ⟨w.heap.size, 4, none⟩ = some (.int .i64 p.next) := HB.out.cell 4
  have q5 : w3.cell? ⟨w.heap.size, 5, none⟩ = some (.int .i64 p.cap) := HB.out.cell 5
  go_wp2_with fail
  refine (HF.out _ _ _ (by omega) HD.out HP2.out HC.out).mono ?_
  rintro e w4 ⟨rfl, hC, hK⟩
  replace HC := Lib.hid hC
  replace HK := Lib.hid (HK.out.trans hK)
  replace HB := Lib.hid (hK.blk HB.out rfl)
  replace HD := Lib.hid (hK.blk HD.out rfl)
  replace HP2 := Lib.hid (hK.blk HP2.out rfl)
  clear hC hK
  clear q0 q1 q2 q3 q4 q5
  have q0 : w4.cell? ⟨w.heap.size, 0, none⟩ = some (.int .i64 p.fresh) := HB.out.cell 0
  have q1 : w4.cell? ⟨w.heap.size, 1, none⟩ = some (.int .i64 p.free) := HB.out.cell 1
  have q2 : w4.cell? ⟨w.heap.size, 2, none⟩ = some (.int .i64 p.nodes) := HB.out.cell 2
  have q3 : w4.cell? ⟨w.heap.size, 3, none⟩ = some (.int .i64 p.each) := HB.out.cell 3
  have q4 : w4.cell? ⟨w.heap.size, 4, none⟩ = some (.int .i64 p.next) := HB.out.cell 4
  have q5 : w4.cell? ⟨w.heap.size, 5, none⟩ = some (.int .i64 p.cap) := HB.out.cell 5
  go_wp2_with fail
  refine (give_any base _ _ b _ p hp (by omega) HC.out).mono ?_
  rintro e w5 ⟨rfl, hC, hK⟩
  replace HC := Lib.hid hC
  replace HK := Lib.hid (HK.out.trans hK)
  replace HB := Lib.hid (hK.blk HB.out rfl)
  replace HD := Lib.hid (hK.blk HD.out rfl)
  replace HP2 := Lib.hid (hK.blk HP2.out rfl)
  clear hC hK
  clear q0 q1 q2 q3 q4 q5
  have q0 : w5.cell? ⟨w.heap.size, 0, none⟩ = some (.int .i64 p.fresh) := HB.out.cell 0
  have q1 : w5.cell? ⟨w.heap.size, 1, none⟩ = some (.int .i64 p.free) := HB.out.cell 1
  have q2 : w5.cell? ⟨w.heap.size, 2, none⟩ = some (.int .i64 p.nodes) := HB.out.cell 2
  have q3 : w5.cell? ⟨w.heap.size, 3, none⟩ = some (.int .i64 p.each) := HB.out.cell 3
  have q4 : w5.cell? ⟨w.heap.size, 4, none⟩ = some (.int .i64 p.next) := HB.out.cell 4
  have q5 : w5.cell? ⟨w.heap.size, 5, none⟩ = some (.int .i64 p.cap) := HB.out.cell 5
  go_wp2_with fail
  refine (set_any base _ _ b _ _ _ (by omega) HC.out).mono ?_
  rintro e w6 ⟨rfl, hC, hK⟩
  replace HC := Lib.hid hC
  replace HK := Lib.hid (HK.out.trans hK)
  replace HB := Lib.hid (hK.blk HB.out rfl)
  replace HD := Lib.hid (hK.blk HD.out rfl)
  replace HP2 := Lib.hid (hK.blk HP2.out rfl)
  clear hC hK
  clear q0 q1 q2 q3 q4 q5
  have q0 : w6.cell? ⟨w.heap.size, 0, none⟩ = some (.int .i64 p.fresh) := HB.out.cell 0
  have q1 : w6.cell? ⟨w.heap.size, 1, none⟩ = some (.int .i64 p.free) := HB.out.cell 1
  have q2 : w6.cell? ⟨w.heap.size, 2, none⟩ = some (.int .i64 p.nodes) := HB.out.cell 2
  have q3 : w6.cell? ⟨w.heap.size, 3, none⟩ = some (.int .i64 p.each) := HB.out.cell 3
  have q4 : w6.cell? ⟨w.heap.size, 4, none⟩ = some (.int .i64 p.next) := HB.out.cell 4
  have q5 : w6.cell? ⟨w.heap.size, 5, none⟩ = some (.int .i64 p.cap) := HB.out.cell 5
  go_wp2_with fail
  refine (here_any base _ _ b _  _ (by decide) (by omega) HC.out).mono ?_
  rintro e w7 ⟨rfl, hC, hK⟩
  replace HC := Lib.hid hC
  replace HK := Lib.hid (HK.out.trans hK)
  replace HB := Lib.hid (hK.blk HB.out rfl)
  replace HD := Lib.hid (hK.blk HD.out rfl)
  replace HP2 := Lib.hid (hK.blk HP2.out rfl)
  clear hC hK
  clear q0 q1 q2 q3 q4 q5
  have q0 : w7.cell? ⟨w.heap.size, 0, none⟩ = some (.int .i64 p.fresh) := HB.out.cell 0
  have q1 : w7.cell? ⟨w.heap.size, 1, none⟩ = some (.int .i64 p.free) := HB.out.cell 1
  have q2 : w7.cell? ⟨w.heap.size, 2, none⟩ = some (.int .i64 p.nodes) := HB.out.cell 2
  have q3 : w7.cell? ⟨w.heap.size, 3, none⟩ = some (.int .i64 p.each) := HB.out.cell 3
  have q4 : w7.cell? ⟨w.heap.size, 4, none⟩ = some (.int .i64 p.next) := HB.out.cell 4
  have q5 : w7.cell? ⟨w.heap.size, 5, none⟩ = some (.int .i64 p.cap) := HB.out.cell 5
  go_wp2_with fail
  refine (out_in base _ _ b _ _ (by omega) HC.out rfl).mono ?_
  rintro e w99 ⟨v, rfl, hr, hK⟩
  go_wp2_with fail
  go_ret
  exact ⟨_, rfl, hr, HK.out.trans hK⟩

set_option maxHeartbeats 2000000 in
theorem putting_any (base n : Nat) (w : World) (b : Nat) (s : St) (p : Po) (hp : PoOk p) (hn : n ≤ 3000) (cb pb : Nat) (F : FuncId) (hcf : ∀ (args : Array Value) (w : World), (callFunc F args).run Try.prog w = .ok (.enter F args) w) (K : Nat) (f : St → St) (hK40 : K ≤ 40) (hf : Clo base b cb pb p F K f) (hcb : Blk w cb [.pointer (some ⟨b, 0, none⟩)] 72) (hpb : Blk w pb [.int .i64 p.fresh, .int .i64 p.free, .int .i64 p.nodes, .int .i64 p.each, .int .i64 p.next, .int .i64 p.cap] 82) (h : CodeAt base n w b s) :
    Calls Try.prog 51 #[.pointer (some ⟨b, 0, none⟩), .agg #[.int .i64 p.fresh, .int .i64 p.free, .int .i64 p.nodes, .int .i64 p.each, .int .i64 p.next, .int .i64 p.cap], .func (.func F) #[] #[.pointer (some ⟨cb, 0, none⟩), .pointer (some ⟨pb, 0, none⟩)]] w (LPost base w (s.putting p f)) := by
  have HD := Lib.hid (hcb.alloc (.cells #[.int .i64 p.fresh, .int .i64 p.free, .int .i64 p.nodes, .int .i64 p.each, .int .i64 p.next, .int .i64 p.cap] 82))
  have HP2 := Lib.hid (hpb.alloc (.cells #[.int .i64 p.fresh, .int .i64 p.free, .int .i64 p.nodes, .int .i64 p.each, .int .i64 p.next, .int .i64 p.cap] 82))
  have HF := Lib.hid hf
  clear hcb hpb hf
  have HC := Lib.hid (h.chg ((Chg.refl [] w).alloc (.cells #[.int .i64 p.fresh, .int .i64 p.free, .int .i64 p.nodes, .int .i64 p.each, .int .i64 p.next, .int .i64 p.cap] 82)))
  have HB := Lib.hid (Blk.new w [.int .i64 p.fresh, .int .i64 p.free, .int .i64 p.nodes, .int .i64 p.each, .int .i64 p.next, .int .i64 p.cap] 82)
  have HK := Lib.hid ((Kp.refl base w).alloc (.cells #[.int .i64 p.fresh, .int .i64 p.free, .int .i64 p.nodes, .int .i64 p.each, .int .i64 p.next, .int .i64 p.cap] 82))
  clear h
  have hp1 := hp.m0
  have hp2 := hp.m1
  have hp3 := hp.n0
  have hp4 := hp.n1
  have q0 : (w.alloc (.cells #[.int .i64 p.fresh, .int .i64 p.free, .int .i64 p.nodes, .int .i64 p.each, .int .i64 p.next, .int .i64 p.cap] 82)).cell? ⟨w.heap.size, 0, none⟩ = some (.int .i64 p.fresh) := HB.out.cell 0
  have q1 : (w.alloc (.cells #[.int .i64 p.fresh, .int .i64 p.free, .int .i64 p.nodes, .int .i64 p.each, .int .i64 p.next, .int .i64 p.cap] 82)).cell? ⟨w.heap.size, 1, none⟩ = some (.int .i64 p.free) := HB.out.cell 1
  have q2 : (w.alloc (.cells #[.int .i64 p.fresh, .int .i64 p.free, .int .i64 p.nodes, .int .i64 p.each, .int .i64 p.next, .int .i64 p.cap] 82)).cell? ⟨w.heap.size, 2, none⟩ = some (.int .i64 p.nodes) := HB.out.cell 2
  have q3 : (w.alloc (.cells #[.int .i64 p.fresh, .int .i64 p.free, .int .i64 p.nodes, .int .i64 p.each, .int .i64 p.next, .int .i64 p.cap] 82)).cell? ⟨w.heap.size, 3, none⟩ = some (.int .i64 p.each) := HB.out.cell 3
  have q4 : (w.alloc (.cells #[.int .i64 p.fresh, .int .i64 p.free, .int .i64 p.nodes, .int .i64 p.each, .int .i64 p.next, .int .i64 p.cap] 82)).cell? ⟨w.heap.size, 4, none⟩ = some (.int .i64 p.next) := HB.out.cell 4
  have q5 : (w.alloc (.cells #[.int .i64 p.fresh, .int .i64 p.free, .int .i64 p.nodes, .int .i64 p.each, .int .i64 p.next, .int .i64 p.cap] 82)).cell? ⟨w.heap.size, 5, none⟩ = some (.int .i64 p.cap) := HB.out.cell 5
  go_enter Try.func51, Try.ntmps51
  go_wp2_with fail
  refine (here_any base _ _ b _  _ (by decide) (by omega) HC.out).mono ?_
  rintro e w1 ⟨rfl, hC, hK⟩
  replace HC := Lib.hid hC
  replace HK := Lib.hid (HK.out.trans hK)
  replace HB := Lib.hid (hK.blk HB.out rfl)
  replace HD := Lib.hid (hK.blk HD.out rfl)
  replace HP2 := Lib.hid (hK.blk HP2.out rfl)
  clear hC hK
  clear q0 q1 q2 q3 q4 q5
  have q0 : w1.cell? ⟨w.heap.size, 0, none⟩ = some (.int .i64 p.fresh) := HB.out.cell 0
  have q1 : w1.cell? ⟨w.heap.size, 1, none⟩ = some (.int .i64 p.free) := HB.out.cell 1
  have q2 : w1.cell? ⟨w.heap.size, 2, none⟩ = some (.int .i64 p.nodes) := HB.out.cell 2
  have q3 : w1.cell? ⟨w.heap.size, 3, none⟩ = some (.int .i64 p.each) := HB.out.cell 3
  have q4 : w1.cell? ⟨w.heap.size, 4, none⟩ = some (.int .i64 p.next) := HB.out.cell 4
  have q5 : w1.cell? ⟨w.heap.size, 5, none⟩ = some (.int .i64 p.cap) := HB.out.cell 5
  go_wp2_with fail
  refine (at_any _ p _ hp (by decide) (by decide)).mono ?_
  rintro e w2 ⟨rfl, hx⟩
  replace HC := Lib.hid (HC.out.chg hx)
  replace HK := Lib.hid (HK.out.trans (Kp.of_nil hx))
  replace HB := Lib.hid (hx.blk HB.out (by simp))
  replace HD := Lib.hid (hx.blk HD.out (by simp))
  replace HP2 := Lib.hid (hx.blk HP2.out (by simp))
  clear hx
  clear q0 q1 q2 q3 q4 q5
  have q0 : w2.cell? ⟨w.heap.size, 0, none⟩ = some (.int .i64 p.fresh) := HB.out.cell 0
  have q1 : w2.cell? ⟨w.heap.size, 1, none⟩ = some (.int .i64 p.free) := HB.out.cell 1
  have q2 : w2.cell? ⟨w.heap.size, 2, none⟩ = some (.int .i64 p.nodes) := HB.out.cell 2
  have q3 : w2.cell? ⟨w.heap.size, 3, none⟩ = some (.int .i64 p.each) := HB.out.cell 3
  have q4 : w2.cell? ⟨w.heap.size, 4, none⟩ = some (.int .i64 p.next) := HB.out.cell 4
  have q5 : w2.cell? ⟨w.heap.size, 5, none⟩ = some (.int .i64 p.cap) := HB.out.cell 5
  go_wp2_with fail
  refine (load_any base _ _ b _ _ _ _ (by omega) HC.out).mono ?_
  rintro e w3 ⟨rfl, hC, hK⟩
  replace HC := Lib.hid hC
  replace HK := Lib.hid (HK.out.trans hK)
  replace HB := Lib.hid (hK.blk HB.out rfl)
  replace HD := Lib.hid (hK.blk HD.out rfl)
  replace HP2 := Lib.hid (hK.blk HP2.out rfl)
  clear hC hK
  clear q0 q1 q2 q3 q4 q5
  have q0 : w3.cell? ⟨w.heap.size, 0, none⟩ = some (.int .i64 p.fresh) := HB.out.cell 0
  have q1 : w3.cell? ⟨w.heap.size, 1, none⟩ = some (.int .i64 p.free) := HB.out.cell 1
  have q2 : w3.cell? ⟨w.heap.size, 2, none⟩ = some (.int .i64 p.nodes) := HB.out.cell 2
  have q3 : w3.cell? ⟨w.heap.size, 3, none⟩ = some (.int .i64 p.each) := HB.out.cell 3
  have q4 : w3.cell? ⟨w.heap.size, 4, none⟩ = some (.int .i64 p.next) := HB.out.cell 4
  have q5 : w3.cell? ⟨w.heap.size, 5, none⟩ = some (.int .i64 p.cap) := HB.out.cell 5
  go_wp2_with fail
  refine (at_any _ p _ hp (by decide) (by decide)).mono ?_
  rintro e w4 ⟨rfl, hx⟩
  replace HC := Lib.hid (HC.out.chg hx)
  replace HK := Lib.hid (HK.out.trans (Kp.of_nil hx))
  replace HB := Lib.hid (hx.blk HB.out (by simp))
  replace HD := Lib.hid (hx.blk HD.out (by simp))
  replace HP2 := Lib.hid (hx.blk HP2.out (by simp))
  clear hx
  clear q0 q1 q2 q3 q4 q5
  have q0 : w4.cell? ⟨w.heap.size, 0, none⟩ = some (.int .i64 p.fresh) := HB.out.cell 0
  have q1 : w4.cell? ⟨w.heap.size, 1, none⟩ = some (.int .i64 p.free) := HB.out.cell 1
  have q2 : w4.cell? ⟨w.heap.size, 2, none⟩ = some (.int .i64 p.nodes) := HB.out.cell 2
  have q3 : w4.cell? ⟨w.heap.size, 3, none⟩ = some (.int .i64 p.each) := HB.out.cell 3
  have q4 : w4.cell? ⟨w.heap.size, 4, none⟩ = some (.int .i64 p.next) := HB.out.cell 4
  have q5 : w4.cell? ⟨w.heap.size, 5, none⟩ = some (.int .i64 p.cap) := HB.out.cell 5
  go_wp2_with fail
  refine (store_any base _ _ b _ _ _ _ (by omega) HC.out).mono ?_
  rintro e w5 ⟨rfl, hC, hK⟩
  replace HC := Lib.hid hC
  replace HK := Lib.hid (HK.out.trans hK)
  replace HB := Lib.hid (hK.blk HB.out rfl)
  replace HD := Lib.hid (hK.blk HD.out rfl)
  replace HP2 := Lib.hid (hK.blk HP2.out rfl)
  clear hC hK
  clear q0 q1 q2 q3 q4 q5
  have q0 : w5.cell? ⟨w.heap.size, 0, none⟩ = some (.int .i64 p.fresh) := HB.out.cell 0
  have q1 : w5.cell? ⟨w.heap.size, 1, none⟩ = some (.int .i64 p.free) := HB.out.cell 1
  have q2 : w5.cell? ⟨w.heap.size, 2, none⟩ = some (.int .i64 p.nodes) := HB.out.cell 2
  have q3 : w5.cell? ⟨w.heap.size, 3, none⟩ = some (.int .i64 p.each) := HB.out.cell 3
  have q4 : w5.cell? ⟨w.heap.size, 4, none⟩ = some (.int .i64 p.next) := HB.out.cell 4
  have q5 : w5.cell? ⟨w.heap.size, 5, none⟩ = some (.int .i64 p.cap) := HB.out.cell 5
  go_wp2_with fail
  refine (set_any base _ _ b _ _ _ (by omega) HC.out).mono ?_
  rintro e w6 ⟨rfl, hC, hK⟩
  replace HC := Lib.hid hC
  replace HK := Lib.hid (HK.out.trans hK)
  replace HB := Lib.hid (hK.blk HB.out rfl)
  replace HD := Lib.hid (hK.blk HD.out rfl)
  replace HP2 := Lib.hid (hK.blk HP2.out rfl)
  clear hC hK
  clear q0 q1 q2 q3 q4 q5
  have q0 : w6.cell? ⟨w.heap.size, 0, none⟩ = some (.int .i64 p.fresh) := HB.out.cell 0
  have q1 : w6.cell? ⟨w.heap.size, 1, none⟩ = some (.int .i64 p.free) := HB.out.cell 1
  have q2 : w6.cell? ⟨w.heap.size, 2, none⟩ = some (.int .i64 p.nodes) := HB.out.cell 2
  have q3 : w6.cell? ⟨w.heap.size, 3, none⟩ = some (.int .i64 p.each) := HB.out.cell 3
  have q4 : w6.cell? ⟨w.heap.size, 4, none⟩ = some (.int .i64 p.next) := HB.out.cell 4
  have q5 : w6.cell? ⟨w.heap.size, 5, none⟩ = some (.int .i64 p.cap) := HB.out.cell 5
  go_wp2_with fail
  refine (jump_any base _ _ b _  _ (by decide) (by omega) HC.out).mono ?_
  rintro e w7 ⟨rfl, hC, hK⟩
  replace HC := Lib.hid hC
  replace HK := Lib.hid (HK.out.trans hK)
  replace HB := Lib.hid (hK.blk HB.out rfl)
  replace HD := Lib.hid (hK.blk HD.out rfl)
  replace HP2 := Lib.hid (hK.blk HP2.out rfl)
  clear hC hK
  clear q0 q1 q2 q3 q4 q5
  have q0 : w7.cell? ⟨w.heap.size, 0, none⟩ = some (.int .i64 p.fresh) := HB.out.cell 0
  have q1 : w7.cell? ⟨w.heap.size, 1, none⟩ = some (.int .i64 p.free) := HB.out.cell 1
  have q2 : w7.cell? ⟨w.heap.size, 2, none⟩ = some (.int .i64 p.nodes) := HB.out.cell 2
  have q3 : w7.cell? ⟨w.heap.size, 3, none⟩ = some (.int .i64 p.each) := HB.out.cell 3
  have q4 : w7.cell? ⟨w.heap.size, 4, none⟩ = some (.int .i64 p.next) := HB.out.cell 4
  have q5 : w7.cell? ⟨w.heap.size, 5, none⟩ = some (.int .i64 p.cap) := HB.out.cell 5
  go_wp2_with fail
  refine (here_any base _ _ b _  _ (by decide) (by omega) HC.out).mono ?_
  rintro e w8 ⟨rfl, hC, hK⟩
  replace HC := Lib.hid hC
  replace HK := Lib.hid (HK.out.trans hK)
  replace HB := Lib.hid (hK.blk HB.out rfl)
  replace HD := Lib.hid (hK.blk HD.out rfl)
  replace HP2 := Lib.hid (hK.blk HP2.out rfl)
  clear hC hK
  clear q0 q1 q2 q3 q4 q5
  have q0 : w8.cell? ⟨w.heap.size, 0, none⟩ = some (.int .i64 p.fresh) := HB.out.cell 0
  have q1 : w8.cell? ⟨w.heap.size, 1, none⟩ = some (.int .i64 p.free) := HB.out.cell 1
  have q2 : w8.cell? ⟨w.heap.size, 2, none⟩ = some (.int .i64 p.nodes) := HB.out.cell 2
  have q3 : w8.cell? ⟨w.heap.size, 3, none⟩ = some (.int .i64 p.each) := HB.out.cell 3
  have q4 : w8.cell? ⟨w.heap.size, 4, none⟩ = some (.int .i64 p.next) := HB.out.cell 4
  have q5 : w8.cell? ⟨w.heap.size, 5, none⟩ = some (.int .i64 p.cap) := HB.out.cell 5
  go_wp2_with fail
  refine (take_any base _ _ b _ p hp (by omega) HC.out).mono ?_
  rintro e w9 ⟨rfl, hC, hK⟩
  replace HC := Lib.hid hC
  replace HK := Lib.hid (HK.out.trans hK)
  replace HB := Lib.hid (hK.blk HB.out rfl)
  replace HD := Lib.hid (hK.blk HD.out rfl)
  replace HP2 := Lib.hid (hK.blk HP2.out rfl)
  clear hC hK
  clear q0 q1 q2 q3 q4 q5
  have q0 : w9.cell? ⟨w.heap.size, 0, none⟩ = some (.int .i64 p.fresh) := HB.out.cell 0
  have q1 : w9.cell? ⟨w.heap.size, 1, none⟩ = some (.int .i64 p.free) := HB.out.cell 1
  have q2 : w9.cell? ⟨w.heap.size, 2, none⟩ = some (.int .i64 p.nodes) := HB.out.cell 2
  have q3 : w9.cell? ⟨w.heap.size, 3, none⟩ = some (.int .i64 p.each) := HB.out.cell 3
  have q4 : w9.cell? ⟨w.heap.size, 4, none⟩ = some (.int .i64 p.next) := HB.out.cell 4
  have q5 : w9.cell? ⟨w.heap.size, 5, none⟩ = some (.int .i64 p.cap) := HB.out.cell 5
  go_wp2_with fail
  refine (at_any _ p _ hp (by decide) (by decide)).mono ?_
  rintro e w10 ⟨rfl, hx⟩
  replace HC := Lib.hid (HC.out.chg hx)
  replace HK := Lib.hid (HK.out.trans (Kp.of_nil hx))
  replace HB := Lib.hid (hx.blk HB.out (by simp))
  replace HD := Lib.hid (hx.blk HD.out (by simp))
  replace HP2 := Lib.hid (hx.blk HP2.out (by simp))
  clear hx
  clear q0 q1 q2 q3 q4 q5
  have q0 : w10.cell? ⟨w.heap.size, 0, none⟩ = some (.int .i64 p.fresh) := HB.out.cell 0
  have q1 : w10.cell? ⟨w.heap.size, 1, none⟩ = some (.int .i64 p.free) := HB.out.cell 1
  have q2 : w10.cell? ⟨w.heap.size, 2, none⟩ = some (.int .i64 p.nodes) := HB.out.cell 2
  have q3 : w10.cell? ⟨w.heap.size, 3, none⟩ = some (.int .i64 p.each) := HB.out.cell 3
  have q4 : w10.cell? ⟨w.heap.size, 4, none⟩ = some (.int .i64 p.next) := HB.out.cell 4
  have q5 : w10.cell? ⟨w.heap.size, 5, none⟩ = some (.int .i64 p.cap) := HB.out.cell 5
  go_wp2_with fail
  refine (store_any base _ _ b _ _ _ _ (by omega) HC.out).mono ?_
  rintro e w11 ⟨rfl, hC, hK⟩
  replace HC := Lib.hid hC
  replace HK := Lib.hid (HK.out.trans hK)
  replace HB := Lib.hid (hK.blk HB.out rfl)
  replace HD := Lib.hid (hK.blk HD.out rfl)
  replace HP2 := Lib.hid (hK.blk HP2.out rfl)
  clear hC hK
  clear q0 q1 q2 q3 q4 q5
  have q0 : w11.cell? ⟨w.heap.size, 0, none⟩ = some (.int .i64 p.fresh) := HB.out.cell 0
  have q1 : w11.cell? ⟨w.heap.size, 1, none⟩ = some (.int .i64 p.free) := HB.out.cell 1
  have q2 : w11.cell? ⟨w.heap.size, 2, none⟩ = some (.int .i64 p.nodes) := HB.out.cell 2
  have q3 : w11.cell? ⟨w.heap.size, 3, none⟩ = some (.int .i64 p.each) := HB.out.cell 3
  have q4 : w11.cell? ⟨w.heap.size, 4, none⟩ = some (.int .i64 p.next) := HB.out.cell 4
  have q5 : w11.cell? ⟨w.heap.size, 5, none⟩ = some (.int .i64 p.cap) := HB.out.cell 5
  go_wp2_with fail
  refine (at_any _ p _ hp (by decide) (by decide)).mono ?_
  rintro e w12 ⟨rfl, hx⟩
  replace HC := Lib.hid (HC.out.chg hx)
  replace HK := Lib.hid (HK.out.trans (Kp.of_nil hx))
  replace HB := Lib.hid (hx.blk HB.out (by simp))
  replace HD := Lib.hid (hx.blk HD.out (by simp))
  replace HP2 := Lib.hid (hx.blk HP2.out (by simp))
  clear hx
  clear q0 q1 q2 q3 q4 q5
  have q0 : w12.cell? ⟨w.heap.size, 0, none⟩ = some (.int .i64 p.fresh) := HB.out.cell 0
  have q1 : w12.cell? ⟨w.heap.size, 1, none⟩ = some (.int .i64 p.free) := HB.out.cell 1
  have q2 : w12.cell? ⟨w.heap.size, 2, none⟩ = some (.int .i64 p.nodes) := HB.out.cell 2
  have q3 : w12.cell? ⟨w.heap.size, 3, none⟩ = some (.int .i64 p.each) := HB.out.cell 3
  have q4 : w12.cell? ⟨w.heap.size, 4, none⟩ = some (.int .i64 p.next) := HB.out.cell 4
  have q5 : w12.cell? ⟨w.heap.size, 5, none⟩ = some (.int .i64 p.cap) := HB.out.cell 5
  go_wp2_with fail
  refine (store_any base _ _ b _ _ _ _ (by omega) HC.out).mono ?_
  rintro e w13 ⟨rfl, hC, hK⟩
  replace HC := Lib.hid hC
  replace HK := Lib.hid (HK.out.trans hK)
  replace HB := Lib.hid (hK.blk HB.out rfl)
  replace HD := Lib.hid (hK.blk HD.out rfl)
  replace HP2 := Lib.hid (hK.blk HP2.out rfl)
  clear hC hK
  clear q0 q1 q2 q3 q4 q5
  have q0 : w13.cell? ⟨w.heap.size, 0, none⟩ = some (.int .i64 p.fresh) := HB.out.cell 0
  have q1 : w13.cell? ⟨w.heap.size, 1, none⟩ = some (.int .i64 p.free) := HB.out.cell 1
  have q2 : w13.cell? ⟨w.heap.size, 2, none⟩ = some (.int .i64 p.nodes) := HB.out.cell 2
  have q3 : w13.cell? ⟨w.heap.size, 3, none⟩ = some (.int .i64 p.each) := HB.out.cell 3
  have q4 : w13.cell? ⟨w.heap.size, 4, none⟩ = some (.int .i64 p.next) := HB.out.cell 4
  have q5 : w13.cell? ⟨w.heap.size, 5, none⟩ = some (.int .i64 p.cap) := HB.out.cell 5
  go_wp2_with fail
  refine (HF.out _ _ _ (by omega) HD.out HP2.out HC.out).mono ?_
  rintro e w14 ⟨rfl, hC, hK⟩
  replace HC := Lib.hid hC
  replace HK := Lib.hid (HK.out.trans hK)
  replace HB := Lib.hid (hK.blk HB.out rfl)
  replace HD := Lib.hid (hK.blk HD.out rfl)
  replace HP2 := Lib.hid (hK.blk HP2.out rfl)
  clear hC hK
  clear q0 q1 q2 q3 q4 q5
  have q0 : w14.cell? ⟨w.heap.size, 0, none⟩ = some (.int .i64 p.fresh) := HB.out.cell 0
  have q1 : w14.cell? ⟨w.heap.size, 1, none⟩ = some (.int .i64 p.free) := HB.out.cell 1
  have q2 : w14.cell? ⟨w.heap.size, 2, none⟩ = some (.int .i64 p.nodes) := HB.out.cell 2
  have q3 : w14.cell? ⟨w.heap.size, 3, none⟩ = some (.int .i64 p.each) := HB.out.cell 3
  have q4 : w14.cell? ⟨w.heap.size, 4, none⟩ = some (.int .i64 p.next) := HB.out.cell 4
  have q5 : w14.cell? ⟨w.heap.size, 5, none⟩ = some (.int .i64 p.cap) := HB.out.cell 5
  go_wp2_with fail
  refine (store_any base _ _ b _ _ _ _ (by omega) HC.out).mono ?_
  rintro e w15 ⟨rfl, hC, hK⟩
  replace HC := Lib.hid hC
  replace HK := Lib.hid (HK.out.trans hK)
  replace HB := Lib.hid (hK.blk HB.out rfl)
  replace HD := Lib.hid (hK.blk HD.out rfl)
  replace HP2 := Lib.hid (hK.blk HP2.out rfl)
  clear hC hK
  clear q0 q1 q2 q3 q4 q5
  have q0 : w15.cell? ⟨w.heap.size, 0, none⟩ = some (.int .i64 p.fresh) := HB.out.cell 0
  have q1 : w15.cell? ⟨w.heap.size, 1, none⟩ = some (.int .i64 p.free) := HB.out.cell 1
  have q2 : w15.cell? ⟨w.heap.size, 2, none⟩ = some (.int .i64 p.nodes) := HB.out.cell 2
  have q3 : w15.cell? ⟨w.heap.size, 3, none⟩ = some (.int .i64 p.each) := HB.out.cell 3
  have q4 : w15.cell? ⟨w.heap.size, 4, none⟩ = some (.int .i64 p.next) := HB.out.cell 4
  have q5 : w15.cell? ⟨w.heap.size, 5, none⟩ = some (.int .i64 p.cap) := HB.out.cell 5
  go_wp2_with fail
  refine (set_any base _ _ b _ _ _ (by omega) HC.out).mono ?_
  rintro e w16 ⟨rfl, hC, hK⟩
  replace HC := Lib.hid hC
  replace HK := Lib.hid (HK.out.trans hK)
  replace HB := Lib.hid (hK.blk HB.out rfl)
  replace HD := Lib.hid (hK.blk HD.out rfl)
  replace HP2 := Lib.hid (hK.blk HP2.out rfl)
  clear hC hK
  clear q0 q1 q2 q3 q4 q5
  have q0 : w16.cell? ⟨w.heap.size, 0, none⟩ = some (.int .i64 p.fresh) := HB.out.cell 0
  have q1 : w16.cell? ⟨w.heap.size, 1, none⟩ = some (.int .i64 p.free) := HB.out.cell 1
  have q2 : w16.cell? ⟨w.heap.size, 2, none⟩ = some (.int .i64 p.nodes) := HB.out.cell 2
  have q3 : w16.cell? ⟨w.heap.size, 3, none⟩ = some (.int .i64 p.each) := HB.out.cell 3
  have q4 : w16.cell? ⟨w.heap.size, 4, none⟩ = some (.int .i64 p.next) := HB.out.cell 4
  have q5 : w16.cell? ⟨w.heap.size, 5, none⟩ = some (.int .i64 p.cap) := HB.out.cell 5
  go_wp2_with fail
  refine (out_in base _ _ b _ _ (by omega) HC.out rfl).mono ?_
  rintro e w99 ⟨v, rfl, hr, hK⟩
  go_wp2_with fail
  go_ret
  exact ⟨_, rfl, hr, HK.out.trans hK⟩

end Go.Proofs.Ythlhjahhjoclfaa
