/- RegsBack, RegsOne, RegsLast: what a Save and a Restore bring back, a Set's register, the last checkpoint. -/
import Derived.Test.YtmdbgomofbbpcaaRegs8
namespace Go.Proofs.Ytmdbgomofbbpcaa
open Go.RowKit

/-- The leaves of an argument, as calls. -/
def toOp (ns : List Int) : Int × Int × Int := (ns.getD 0 0, ns.getD 1 0, ns.getD 2 0)
def opKs : List (Option IntKind) := [some .i64, some .i64, some .u64]
theorem ops_flat {xs : List (List Int)} (h : ∀ ns ∈ xs, ∃ cs, FlatRel opKs cs ns) : ∀ ns ∈ xs, ∃ q : Int × Int × Int, ns = [q.1, q.2.1, q.2.2] ∧ i64ok q.2.1 := by
  intro ns hns
  obtain ⟨cs, hr⟩ := h ns hns
  obtain ⟨x, ns, rfl, hx, cs, hr⟩ := hr.cons_inv
  obtain ⟨y, ns, rfl, hy, cs, hr⟩ := hr.cons_inv
  obtain ⟨z, ns, rfl, hz, cs, hr⟩ := hr.cons_inv
  obtain rfl := hr.nil_inv
  exact ⟨(x, y, z), rfl, i64ok_of hy⟩
theorem ops_rd {w : World} {B : Nat} {A : Option Addr} {xs : List (List Int)} (h : ∀ ns ∈ xs, ∃ cs, FlatRel opKs cs ns) (hR : Rd w B A 3 (fun ns => List.zipWith leafV opKs ns) xs) : Rd w B A 3 encOp (xs.map toOp) :=
  hR.map toOp (fun ns hns => by obtain ⟨q, rfl, _⟩ := ops_flat h ns hns; rfl)
theorem ops_ok {xs : List (List Int)} (h : ∀ ns ∈ xs, ∃ cs, FlatRel opKs cs ns) : ∀ p ∈ xs.map toOp, i64ok p.2.1 := by
  intro p hp
  obtain ⟨ns, hns, rfl⟩ := List.mem_map.1 hp
  obtain ⟨q, rfl, ho⟩ := ops_flat h ns hns
  exact ho

/-- What holds of a file between Saves and Drops. -/
theorem fStep_keeps (F : RF) (p : Int × Int × Int) : (fStep false F p).is = F.is ∧ (fStep false F p).ps = F.ps ∧ (fStep false F p).to = F.to := by
  unfold fStep
  split
  · exact ⟨rfl, rfl, rfl⟩
  split
  · exact ⟨rfl, rfl, rfl⟩
  split
  · exact ⟨rfl, rfl, rfl⟩
  split
  · unfold fRestore; split <;> exact ⟨rfl, rfl, rfl⟩
  split
  · exact ⟨rfl, rfl, rfl⟩
  · exact ⟨rfl, rfl, rfl⟩
theorem fPlay_keeps : ∀ (xs : List (Int × Int × Int)) (F : RF), (fPlay false F xs).is = F.is ∧ (fPlay false F xs).ps = F.ps ∧ (fPlay false F xs).to = F.to
  | [], F => ⟨rfl, rfl, rfl⟩
  | x :: xs, F => by
    have h := fPlay_keeps xs (fStep false F x)
    have g := fStep_keeps F x
    exact ⟨h.1.trans g.1, h.2.1.trans g.2.1, h.2.2.trans g.2.2⟩

/-- A file above what was there. -/
structure OwnAt (w wr : World) (a : Nat) (F : RF) : Prop where
  f : FileAt wr a F
  la : w.heap.size ≤ a
  bel : Below w.heap.size w wr
theorem OwnAt.did {w wr w' : World} {a : Nat} {F G : RF} (h : OwnAt w wr a F) (h1 : FileAt w' a G) (h3 : Chg [a] wr w') : OwnAt w w' a G :=
  ⟨h1, h.la, below_chg h.bel h3 (by intro x hx; have := h.la; simp at hx; omega) (Nat.le_refl _)⟩
theorem OwnAt.look {w wr w' : World} {a : Nat} {F : RF} (h : OwnAt w wr a F) (h3 : Chg [] wr w') : OwnAt w w' a F :=
  ⟨h.f.chg h3 (by simp) (by simp), h.la, below_chg h.bel h3 (by simp) (Nat.le_refl _)⟩
theorem OwnAt.drew {w wr : World} {a : Nat} {F : RF} (h : OwnAt w wr a F) : OwnAt w wr.drew a F := h.look (Chg.refl _ _).drew
theorem OwnAt.drewN {w wr : World} {a : Nat} {F : RF} (h : OwnAt w wr a F) (n : Nat) : OwnAt w (wr.drewN n) a F := h.look ((Chg.refl _ _).drewN n)
theorem OwnAt.alloc {w wr : World} {a : Nat} {F : RF} (h : OwnAt w wr a F) (o : Obj) : OwnAt w (wr.alloc o) a F := h.look ((Chg.refl _ _).alloc o)

set_option maxRecDepth 100000 in
set_option maxHeartbeats 1000000 in
theorem RegsBack_any (w : World) (A A2 : Option Addr) (cap cap2 : Nat) (xs ys : List (Int × Int × Int)) (hR : Rd w w.heap.size A 3 encOp xs) (hR2 : Rd w w.heap.size A2 3 encOp ys) (hxs : ∀ p ∈ xs, i64ok p.2.1) (hys : ∀ p ∈ ys, i64ok p.2.1) :
    Calls Try.prog 6 #[.slice A xs.length cap, .slice A2 ys.length cap2] w (StaysPost w) := by
  by_cases hlen : 1000 < xs.length
  · have hl' : (1000 : Int) < xs.length := by omega
    go_enter Try.func6, Try.ntmps6
    go_wp2_with fail
    refine (alive_any w).mono ?_
    rintro e w1 ⟨rfl, hC1⟩
    go_wp2_with fail
    go_ret
    exact ⟨rfl, hC1.nil_below⟩
  by_cases hlen2 : 1000 < ys.length
  · have hl' : (1000 : Int) < ys.length := by omega
    have hl2 : (xs.length : Int) ≤ 1000 := by omega
    go_enter Try.func6, Try.ntmps6
    go_wp2_with fail
    refine (alive_any w).mono ?_
    rintro e w1 ⟨rfl, hC1⟩
    go_wp2_with fail
    go_ret
    exact ⟨rfl, hC1.nil_below⟩
  have hl1 : xs.length ≤ 1000 := by omega
  have hl2 : ys.length ≤ 1000 := by omega
  have hl1' : (xs.length : Int) ≤ 1000 := by omega
  have hl2' : (ys.length : Int) ≤ 1000 := by omega
  clear hlen hlen2
  go_enter Try.func6, Try.ntmps6
  go_wp2_with fail
  refine (alive_any w).mono ?_
  rintro e w1 ⟨rfl, hC1⟩
  go_wp2_with fail
  refine (New_any w1).mono ?_
  rintro e w2 ⟨rfl, hF2, hC2, -⟩
  have hO : OwnAt w w2 w1.heap.size fNew := ⟨hF2, hC1.size, (hC1.trans hC2).nil_below⟩
  generalize w1.heap.size = a at *
  clear hF2 hC2 hC1
  go_wp2_with fail
  refine (play_any w2 a A cap true fNew xs hl1 w.heap.size (hR.below hO.bel) hO.la hxs hO.f).mono ?_
  rintro e w3 ⟨rfl, hF3, hC3⟩
  replace hO := hO.did hF3 hC3
  clear hF3 hC3
  generalize fPlay true fNew xs = F at *
  obtain ⟨rs, pc, is, ps, to⟩ := F
  obtain ⟨r0, r1, r2, r3, r4, r5, r6, r7, rfl⟩ := eight hO.f.ok.len
  go_wp2_with fail
  refine (All_any _ a _ hO.f).mono ?_
  rintro e w4 ⟨rfl, hC4⟩
  simp only [u64s, List.map_cons, List.map_nil]
  replace hO := hO.look hC4
  clear hC4
  go_wp2_with fail
  refine (PC_any _ a _ hO.f).mono ?_
  rintro e w5 ⟨rfl, rfl⟩
  go_wp2_with fail
  have kt := Blk.new w4 [.int .u64 r0, .int .u64 r1, .int .u64 r2, .int .u64 r3, .int .u64 r4, .int .u64 r5, .int .u64 r6, .int .u64 r7] 27
  replace hO := hO.alloc (.cells #[.int .u64 r0, .int .u64 r1, .int .u64 r2, .int .u64 r3, .int .u64 r4, .int .u64 r5, .int .u64 r6, .int .u64 r7] 27)
  generalize w4.alloc (.cells #[.int .u64 r0, .int .u64 r1, .int .u64 r2, .int .u64 r3, .int .u64 r4, .int .u64 r5, .int .u64 r6, .int .u64 r7] 27) = w5 at *
  generalize w4.heap.size = t at *
  have hta : t ≠ a := by obtain ⟨_, kf⟩ := hO.f.block; exact kt.ne kf (by decide)
  refine (Save_any _ a _ hO.f).mono ?_
  rintro e w6 ⟨rfl, hF6, hC6⟩
  replace hO := hO.did hF6 hC6
  replace kt := hC6.blk kt (by simpa using hta)
  clear hF6 hC6
  go_wp2_with fail
  go_loopw [9] (fun i wr => ∃ k : Nat, k ≤ 2 ∧ i = .int .i64 k ∧ ∃ G, OwnAt w wr a G ∧ (G.is = true ∧ G.ps = [r0, r1, r2, r3, r4, r5, r6, r7] ∧ G.to = pc) ∧ Blk wr t [.int .u64 r0, .int .u64 r1, .int .u64 r2, .int .u64 r3, .int .u64 r4, .int .u64 r5, .int .u64 r6, .int .u64 r7] 27) (fun i _ => 2 - (intOf i).toNat)
  case atStart => exact ⟨0, Nat.zero_le _, rfl, _, hO, ⟨rfl, rfl, rfl⟩, kt⟩
  case round =>
    clear hO kt
    obtain ⟨k, hk, rfl, G, hO, hG, kt⟩ := hrel
    by_cases hlt : k < 2
    · go_wp2_with fail
      refine (play_any _ a A2 cap2 false G ys hl2 w.heap.size (hR2.below hO.bel) hO.la hys hO.f).mono ?_
      rintro e w7 ⟨rfl, hF7, hC7⟩
      replace hO := hO.did hF7 hC7
      replace kt := hC7.blk kt (by simpa using hta)
      have hkeep := fPlay_keeps ys G
      rw [hG.1, hG.2.1, hG.2.2] at hkeep
      clear hF7 hC7 hG
      generalize fPlay false G ys = G' at *
      obtain ⟨rs', pc', is', ps', to'⟩ := G'
      obtain ⟨e1, e2, e3⟩ := hkeep
      dsimp only at e1 e2 e3
      subst e1 e2 e3
      have m : markErr ⟨rs', pc', true, [r0, r1, r2, r3, r4, r5, r6, r7], to'⟩ = 0 := rfl
      go_wp2_with fail
      refine (Point_any _ a _ hO.f).mono ?_
      rintro e w8 ⟨rfl, hC8⟩
      simp only [u64s, List.map_cons, List.map_nil]
      replace hO := hO.look hC8
      replace kt := hC8.blk kt (by simp)
      clear hC8
      go_wp2_with fail
      have k10 := Blk.new w8 [.int .u64 r0, .int .u64 r1, .int .u64 r2, .int .u64 r3, .int .u64 r4, .int .u64 r5, .int .u64 r6, .int .u64 r7] 27
      replace hO := hO.alloc (.cells #[.int .u64 r0, .int .u64 r1, .int .u64 r2, .int .u64 r3, .int .u64 r4, .int .u64 r5, .int .u64 r6, .int .u64 r7] 27)
      replace kt := kt.alloc (.cells #[.int .u64 r0, .int .u64 r1, .int .u64 r2, .int .u64 r3, .int .u64 r4, .int .u64 r5, .int .u64 r6, .int .u64 r7] 27)
      generalize w8.alloc (.cells #[.int .u64 r0, .int .u64 r1, .int .u64 r2, .int .u64 r3, .int .u64 r4, .int .u64 r5, .int .u64 r6, .int .u64 r7] 27) = w9 at *
      generalize w8.heap.size = t10 at *
      have hta10 : t10 ≠ a := by obtain ⟨_, kf⟩ := hO.f.block; exact k10.ne kf (by decide)
      have hq := eq_regs
      have q := eqInts_self [r0, r1, r2, r3, r4, r5, r6, r7]
      go_region_held3 (fun w' => w'.cell? ⟨t, 0, none⟩ = some (.int .u64 r0) ∧ w'.cell? ⟨t, 1, none⟩ = some (.int .u64 r1) ∧ w'.cell? ⟨t, 2, none⟩ = some (.int .u64 r2) ∧ w'.cell? ⟨t, 3, none⟩ = some (.int .u64 r3) ∧ w'.cell? ⟨t, 4, none⟩ = some (.int .u64 r4) ∧ w'.cell? ⟨t, 5, none⟩ = some (.int .u64 r5) ∧ w'.cell? ⟨t, 6, none⟩ = some (.int .u64 r6) ∧ w'.cell? ⟨t, 7, none⟩ = some (.int .u64 r7) ∧ w'.cell? ⟨t10, 0, none⟩ = some (.int .u64 r0) ∧ w'.cell? ⟨t10, 1, none⟩ = some (.int .u64 r1) ∧ w'.cell? ⟨t10, 2, none⟩ = some (.int .u64 r2) ∧ w'.cell? ⟨t10, 3, none⟩ = some (.int .u64 r3) ∧ w'.cell? ⟨t10, 4, none⟩ = some (.int .u64 r4) ∧ w'.cell? ⟨t10, 5, none⟩ = some (.int .u64 r5) ∧ w'.cell? ⟨t10, 6, none⟩ = some (.int .u64 r6) ∧ w'.cell? ⟨t10, 7, none⟩ = some (.int .u64 r7)) (first | exact ⟨kt.cell 0, kt.cell 1, kt.cell 2, kt.cell 3, kt.cell 4, kt.cell 5, kt.cell 6, kt.cell 7, k10.cell 0, k10.cell 1, k10.cell 2, k10.cell 3, k10.cell 4, k10.cell 5, k10.cell 6, k10.cell 7⟩ | exact ⟨(hC8.blk kt.drew (by simp [*])).cell 0, (hC8.blk kt.drew (by simp [*])).cell 1, (hC8.blk kt.drew (by simp [*])).cell 2, (hC8.blk kt.drew (by simp [*])).cell 3, (hC8.blk kt.drew (by simp [*])).cell 4, (hC8.blk kt.drew (by simp [*])).cell 5, (hC8.blk kt.drew (by simp [*])).cell 6, (hC8.blk kt.drew (by simp [*])).cell 7, (hC8.blk k10.drew (by simp [*])).cell 0, (hC8.blk k10.drew (by simp [*])).cell 1, (hC8.blk k10.drew (by simp [*])).cell 2, (hC8.blk k10.drew (by simp [*])).cell 3, (hC8.blk k10.drew (by simp [*])).cell 4, (hC8.blk k10.drew (by simp [*])).cell 5, (hC8.blk k10.drew (by simp [*])).cell 6, (hC8.blk k10.drew (by simp [*])).cell 7⟩ | exact ⟨(hC9.blk (hC8.blk kt.drew (by simp [*])) (by simp)).cell 0, (hC9.blk (hC8.blk kt.drew (by simp [*])) (by simp)).cell 1, (hC9.blk (hC8.blk kt.drew (by simp [*])) (by simp)).cell 2, (hC9.blk (hC8.blk kt.drew (by simp [*])) (by simp)).cell 3, (hC9.blk (hC8.blk kt.drew (by simp [*])) (by simp)).cell 4, (hC9.blk (hC8.blk kt.drew (by simp [*])) (by simp)).cell 5, (hC9.blk (hC8.blk kt.drew (by simp [*])) (by simp)).cell 6, (hC9.blk (hC8.blk kt.drew (by simp [*])) (by simp)).cell 7, (hC9.blk (hC8.blk k10.drew (by simp [*])) (by simp)).cell 0, (hC9.blk (hC8.blk k10.drew (by simp [*])) (by simp)).cell 1, (hC9.blk (hC8.blk k10.drew (by simp [*])) (by simp)).cell 2, (hC9.blk (hC8.blk k10.drew (by simp [*])) (by simp)).cell 3, (hC9.blk (hC8.blk k10.drew (by simp [*])) (by simp)).cell 4, (hC9.blk (hC8.blk k10.drew (by simp [*])) (by simp)).cell 5, (hC9.blk (hC8.blk k10.drew (by simp [*])) (by simp)).cell 6, (hC9.blk (hC8.blk k10.drew (by simp [*])) (by simp)).cell 7⟩)
        (first
          | (go_at_call 12; refine (Restore_any _ a _ hO.f.drew).mono ?_; rintro e w8 ⟨rfl, hF8, hC8⟩; replace hF8 : FileAt w8 a ⟨[r0, r1, r2, r3, r4, r5, r6, r7], to', true, [r0, r1, r2, r3, r4, r5, r6, r7], to'⟩ := hF8)
          | (go_at_call 19; refine (All_any _ a _ hF8).mono ?_; rintro e w9 ⟨rfl, hC9⟩; simp only [u64s, List.map_cons, List.map_nil])
          | (go_at_call 20; refine (PC_any _ a _ (hF8.chg hC9 (by simp) (by simp))).mono ?_; rintro e w10 ⟨rfl, rfl⟩))
      go_wp2_with fail
      go_roundw
      case rel => exact ⟨k + 1, by omega, by go_num, _, (hO.drew.did hF8 hC8).look hC9, ⟨rfl, rfl, rfl⟩, hC9.blk (hC8.blk kt.drew (by simpa using hta)) (by simp)⟩
      case measure => simp [intOf]; omega
    · obtain rfl : k = 2 := by omega
      go_wp2_with fail
      go_ret
      exact ⟨rfl, hO.bel⟩

end Go.Proofs.Ytmdbgomofbbpcaa
