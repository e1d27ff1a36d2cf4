/- The document's Join. -/
import Derived.Test.YthlhjahhjoclfaaLibs1
namespace Go.Proofs.Ythlhjahhjoclfaa
open Go.RowKit

/-- A slice of instructions, as a value. -/
structure Sl where
  A : Option Addr
  cap : Nat
  l : List Ins
def encS (s : Sl) : List Value := [.slice s.A s.l.length s.cap]
def SlOk (w : World) (B : Nat) (s : Sl) : Prop := s.l.length ≤ s.cap ∧ s.cap ≤ maxLen ∧ (s.A = none → s.cap = 0) ∧ RdI w B s.A s.l
theorem SlOk.chg0 {w w' : World} {s : Sl} (h : SlOk w w.heap.size s) (k : Chg [] w w') : SlOk w' w'.heap.size s := ⟨h.1, h.2.1, h.2.2.1, h.2.2.2.chg0 k⟩
/-- Such slices, in a slice. -/
def Parts (w : World) (A : Option Addr) (ps : List Sl) : Prop := Rd w w.heap.size A 1 encS ps ∧ ∀ s ∈ ps, SlOk w w.heap.size s
theorem Parts.chg0 {w w' : World} {A : Option Addr} {ps : List Sl} (h : Parts w A ps) (k : Chg [] w w') : Parts w' A ps := ⟨h.1.chg0 k, fun s hs => (h.2 s hs).chg0 k⟩

def shI (k : Int) (i : Ins) : Ins := if 13 ≤ i.op ∧ i.op ≤ 16 then { i with imm := wrap64 (i.imm + k) } else i
def joinL (ps : List (List Ins)) : List Ins := ps.foldl (fun out p => out ++ p.map (shI out.length)) []
theorem joinL_snoc (ps : List (List Ins)) (p : List Ins) : joinL (ps ++ [p]) = joinL ps ++ p.map (shI (joinL ps).length) := by simp [joinL]
theorem joinL_take {ps : List (List Ins)} {k : Nat} (hk : k < ps.length) : joinL (ps.take (k + 1)) = joinL (ps.take k) ++ (ps[k]).map (shI (joinL (ps.take k)).length) := by
  rw [List.take_add_one, List.getElem?_eq_getElem hk]; exact joinL_snoc _ _
theorem joinL_len (ps : List (List Ins)) (hp : ∀ p ∈ ps, p.length ≤ 300) : ∀ k, k ≤ ps.length → (joinL (ps.take k)).length ≤ 300 * k
  | 0, _ => by simp [joinL]
  | k + 1, h => by
    rw [joinL_take h]
    have := joinL_len ps hp k (by omega)
    have := hp _ (List.getElem_mem h)
    simp
    omega

def JnIn (W0 : World) (B : Nat) (out0 p : List Ins) (vo i : Value) (wr : World) : Prop := ∃ k : Nat, k ≤ p.length ∧ i = .int .i64 k ∧ wr.ownsRow B 25 5 vo (out0.length + k) ((out0 ++ (p.take k).map (shI out0.length)).flatMap encI) ∧ Chg [] W0 wr
def JnOut (W : World) (ps : List (List Ins)) (vo i : Value) (wr : World) : Prop := ∃ k : Nat, k ≤ ps.length ∧ i = .int .i64 k ∧ wr.ownsRow W.heap.size 25 5 vo (joinL (ps.take k)).length ((joinL (ps.take k)).flatMap encI) ∧ Chg [] W wr

/-- A list of instructions of a call's own. -/
def InsPost (W : World) (l : List Ins) (e : Ending) (w' : World) : Prop := ∃ v, e = .returned v ∧ w'.ownsRow W.heap.size 25 5 v l.length (l.flatMap encI) ∧ Chg [] W w'

set_option maxRecDepth 100000 in
set_option maxHeartbeats 4000000 in
theorem JoinR_any (W : World) (A : Option Addr) (cap : Nat) (ps : List Sl) (hn : ps.length ≤ 20) (hp : ∀ s ∈ ps, s.l.length ≤ 300) (h : Parts W A ps) :
    Calls Try.prog 9 #[.slice A ps.length cap] W (InsPost W (joinL (ps.map Sl.l))) := by
  obtain ⟨i0, hi, hz0, hz1, hz2⟩ := info_parts infoIns
  have hn' : (ps.length : Int) ≤ 20 := by omega
  have HP := Lib.hid h
  have HL := Lib.hid hp
  have hpl : ∀ p ∈ ps.map Sl.l, p.length ≤ 300 := fun p hq => by obtain ⟨s, hs, rfl⟩ := List.mem_map.1 hq; exact hp s hs
  have HJ := Lib.hid (joinL_len _ hpl)
  clear h hp hpl
  go_enter Try.func9, Try.ntmps9
  go_wp2_with fail
  go_loopw [3, 4] (fun vo i wr => JnOut W (ps.map Sl.l) vo i wr) (fun _ i _ => ps.length - (intOf i).toNat)
  case atStart => exact ⟨0, Nat.zero_le _, rfl, World.ownsRow_nil _ _ _ _, Chg.refl _ _⟩
  case round =>
    obtain ⟨i, hi', rfl, hO, hC⟩ := hrel
    rw [List.length_map] at hi'
    by_cases hlt : i < ps.length
    · obtain ⟨wo, rfl⟩ : ∃ wo : World, wo = wr := ⟨_, rfl⟩
      have hjl := HJ.out i (by rw [List.length_map]; omega)
      have HS := Lib.hid (joinL_take (ps := ps.map Sl.l) (k := i) (by rw [List.length_map]; exact hlt))
      have hlen := HL.out _ (List.getElem_mem hlt)
      have HO := Lib.hid hO
      have HC := Lib.hid hC
      obtain ⟨hR, hq⟩ := HP.out
      obtain ⟨b, off, rfl, hb, hc⟩ := hR (by omega)
      have c0 : W.cell? ⟨b, off + i, none⟩ = some (.slice ps[i].A ps[i].l.length ps[i].cap) := by have := hc i hlt 0 (by decide); rwa [Nat.mul_one, Nat.add_zero] at this
      have HSl := Lib.hid (hq _ (List.getElem_mem hlt)).2.2.2
      rw [List.getElem_map] at HS
      clear hO hC hR hq hc
      generalize joinL ((ps.map Sl.l).take i) = out0 at *
      generalize ps[i].l = p at *
      generalize ps[i].A = A1 at *
      generalize ps[i].cap = cap1 at *
      obtain ⟨Ao, co, rfl, _, _, _, _, _⟩ := Rd.of_row encI_len HO.out
      have hp1 : (p.length : Int) ≤ 300 := by omega
      have hs0 := HC.out.size
      have ho1 : (out0.length : Int) ≤ 300 * i := by omega
      go_wp2_with fail
      go_loopw [3, 6] (fun vo k wr => JnIn W W.heap.size out0 p vo k wr) (fun _ k _ => p.length - (intOf k).toNat)
      case atStart => exact ⟨0, Nat.zero_le _, rfl, by simpa using HO.out, HC.out⟩
      case round =>
        obtain ⟨k, hk, rfl, hO, hC⟩ := hrel
        have hs1 := hC.size
        have c1 : wr.cell? ⟨b, off + i, none⟩ = some (.slice A1 p.length cap1) := (hC.cell0 hb _).trans c0
        by_cases hltk : k < p.length
        · obtain ⟨g, o, rfl, hg, hd⟩ := (HSl.out.chg0 hC) (by omega)
          have d0 : wr.cell? ⟨g, o + k * 5, none⟩ = some (.int .i64 p[k].op) := hd k hltk 0 (by decide)
          have d1 : wr.cell? ⟨g, o + k * 5 + 1, none⟩ = some (.int .i64 p[k].a) := hd k hltk 1 (by decide)
          have d2 : wr.cell? ⟨g, o + k * 5 + 2, none⟩ = some (.int .i64 p[k].b) := hd k hltk 2 (by decide)
          have d3 : wr.cell? ⟨g, o + k * 5 + 3, none⟩ = some (.int .i64 p[k].c) := hd k hltk 3 (by decide)
          have d4 : wr.cell? ⟨g, o + k * 5 + 4, none⟩ = some (.int .i64 p[k].imm) := hd k hltk 4 (by decide)
          have HO1 := Lib.hid hO
          have HC1 := Lib.hid hC
          clear hO hC hd
          have HT := Lib.hid (show (p.take (k + 1)).map (shI out0.length) = (p.take k).map (shI out0.length) ++ [shI out0.length p[k]] from by rw [List.take_add_one, List.getElem?_eq_getElem hltk, List.map_append]; rfl)
          have HSh := Lib.hid (show shI out0.length p[k] = if 13 ≤ p[k].op ∧ p[k].op ≤ 16 then ⟨p[k].op, p[k].a, p[k].b, p[k].c, wrap64 (p[k].imm + out0.length)⟩ else ⟨p[k].op, p[k].a, p[k].b, p[k].c, p[k].imm⟩ from rfl)
          generalize shI out0.length p[k] = sh at *
          generalize p[k].op = x0 at *
          generalize p[k].a = x1 at *
          generalize p[k].b = x2 at *
          generalize p[k].c = x3 at *
          generalize p[k].imm = x4 at *
          by_cases h1 : 13 ≤ x0
          · by_cases h2 : x0 ≤ 16
            · go_wp2_with (first
                | (at_builtin; refine wpList_append_own_at _ rfl (.tmp 45) (.tmp 47) 23 rfl (W.heap.size) 25 i0 (.agg #[.int .i64 0, .int .i64 0, .int .i64 0, .int .i64 0, .int .i64 0]) 5 40 Try.underlying23 hi hz0 hz1 hz2 rfl (by decide) _ _ _ rfl ((HO1.out.alloc _).alloc _) ⟨wr.heap.size + 1, 0, none⟩ 1 1 [.int .i64 x0, .int .i64 x1, .int .i64 x2, .int .i64 x3, .int .i64 (wrap64 (x4 + out0.length))] rfl rfl (cells_at (by simp) [.int .i64 x0, .int .i64 x1, .int .i64 x2, .int .i64 x3, .int .i64 (wrap64 (x4 + out0.length))] _) (by simp [Value.oneCell']) (by unfold maxLen; omega) (by omega) (by first | omega | (simp; omega) | simp) ?_; intro va2 wa2 hown1 hgrow1 _ hblk1; have hsz2 := hgrow1.size; have HO2 := Lib.hid hown1; have HG2 := Lib.hid hgrow1; have HB2 := Lib.hid hblk1; clear hown1 hgrow1 hblk1))
              go_roundw
              case rel =>
                refine ⟨k + 1, by omega, by go_num, ?_, ((HC1.out.alloc _).alloc _).grew ((HO1.out.alloc _).alloc _) HG2.out (fun q h1 h2 => by omega)⟩
                have hq := HO2.out
                have hs := HSh.out
                rw [if_pos ⟨h1, h2⟩] at hs
                rw [HT.out, ← List.append_assoc, List.flatMap_append, hs]
                exact hq
              case measure => simp [intOf]; omega
            · have h2' : 16 < x0 := by omega
              go_wp2_with (first
                | (at_builtin; refine wpList_append_own_at _ rfl (.tmp 45) (.tmp 47) 23 rfl (W.heap.size) 25 i0 (.agg #[.int .i64 0, .int .i64 0, .int .i64 0, .int .i64 0, .int .i64 0]) 5 40 Try.underlying23 hi hz0 hz1 hz2 rfl (by decide) _ _ _ rfl ((HO1.out.alloc _).alloc _) ⟨wr.heap.size + 1, 0, none⟩ 1 1 [.int .i64 x0, .int .i64 x1, .int .i64 x2, .int .i64 x3, .int .i64 x4] rfl rfl (cells_at (by simp) [.int .i64 x0, .int .i64 x1, .int .i64 x2, .int .i64 x3, .int .i64 x4] _) (by simp [Value.oneCell']) (by unfold maxLen; omega) (by omega) (by first | omega | (simp; omega) | simp) ?_; intro va2 wa2 hown1 hgrow1 _ hblk1; have hsz2 := hgrow1.size; have HO2 := Lib.hid hown1; have HG2 := Lib.hid hgrow1; have HB2 := Lib.hid hblk1; clear hown1 hgrow1 hblk1))
              go_roundw
              case rel =>
                refine ⟨k + 1, by omega, by go_num, ?_, ((HC1.out.alloc _).alloc _).grew ((HO1.out.alloc _).alloc _) HG2.out (fun q h1 h2 => by omega)⟩
                have hq := HO2.out
                have hs := HSh.out
                rw [if_neg (by omega)] at hs
                rw [HT.out, ← List.append_assoc, List.flatMap_append, hs]
                exact hq
              case measure => simp [intOf]; omega
          · have h1' : x0 < 13 := by omega
            go_wp2_with (first
              | (at_builtin; refine wpList_append_own_at _ rfl (.tmp 45) (.tmp 47) 23 rfl (W.heap.size) 25 i0 (.agg #[.int .i64 0, .int .i64 0, .int .i64 0, .int .i64 0, .int .i64 0]) 5 40 Try.underlying23 hi hz0 hz1 hz2 rfl (by decide) _ _ _ rfl ((HO1.out.alloc _).alloc _) ⟨wr.heap.size + 1, 0, none⟩ 1 1 [.int .i64 x0, .int .i64 x1, .int .i64 x2, .int .i64 x3, .int .i64 x4] rfl rfl (cells_at (by simp) [.int .i64 x0, .int .i64 x1, .int .i64 x2, .int .i64 x3, .int .i64 x4] _) (by simp [Value.oneCell']) (by unfold maxLen; omega) (by omega) (by first | omega | (simp; omega) | simp) ?_; intro va2 wa2 hown1 hgrow1 _ hblk1; have hsz2 := hgrow1.size; have HO2 := Lib.hid hown1; have HG2 := Lib.hid hgrow1; have HB2 := Lib.hid hblk1; clear hown1 hgrow1 hblk1))
            go_roundw
            case rel =>
              refine ⟨k + 1, by omega, by go_num, ?_, ((HC1.out.alloc _).alloc _).grew ((HO1.out.alloc _).alloc _) HG2.out (fun q h1 h2 => by omega)⟩
              have hq := HO2.out
              have hs := HSh.out
              rw [if_neg (by omega)] at hs
              rw [HT.out, ← List.append_assoc, List.flatMap_append, hs]
              exact hq
            case measure => simp [intOf]; omega
        · obtain rfl : k = p.length := by omega
          rw [List.take_length, ← HS.out] at hO
          have HO1 := Lib.hid hO
          have HC1 := Lib.hid hC
          clear hO hC
          go_wp2_with fail
          go_roundw
          case rel =>
            refine ⟨i + 1, by rw [List.length_map]; omega, by go_num, ?_, HC1.out⟩
            have hq := HO1.out
            rwa [show out0.length + p.length = (joinL ((ps.map Sl.l).take (i + 1))).length from by rw [HS.out]; simp] at hq
          case measure => simp [intOf]; omega
    · obtain rfl : i = ps.length := by omega
      rw [List.take_of_length_le (by simp)] at hO
      have HO := Lib.hid hO
      have HC := Lib.hid hC
      clear hO hC
      go_wp2_with fail
      go_ret
      exact ⟨_, rfl, HO.out, HC.out⟩

end Go.Proofs.Ythlhjahhjoclfaa
