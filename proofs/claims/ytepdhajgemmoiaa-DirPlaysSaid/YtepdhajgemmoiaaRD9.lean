/- The reference's directory hears: what it leaves. -/
import Derived.Test.YtepdhajgemmoiaaRD8
import Derived.Test.YtepdhajgemmoiaaRD567

namespace Go.Proofs.Ytepdhajgemmoiaa
set_option linter.unusedSimpArgs false
set_option linter.unusedVariables false
set_option maxRecDepth 100000
open Go.RowKit

/-- What Hear of the reference's directory leaves, when it answers out and an error. -/
def RHPost (w : World) (N : List Nat) (d bL bW n capL : Nat) (cores : Int) (rs : List RE) (i : Nat) (r : List Int × RV × List MsgV × Int) (e : Ending) (w' : World) : Prop :=
  ∃ v x', e = .returned (.tuple #[v, .int .i64 r.2.2.2]) ∧ x'.toV = r.2.1 ∧ w'.ownsRow w.heap.size 33 11 v r.2.2.1.length (r.2.2.1.flatMap encM) ∧ RDAt w' N d bL bW n capL cores r.1 (rs.set i x') ∧ Chg [bL, bW] w w'
section
variable {w w' : World} {N : List Nat} {d bL bW n capL : Nat} {cores : Int} {ws ws' : List Int} {rs : List RE}
theorem RDAt.turn (h : RDAt w N d bL bW n capL cores ws rs) (k : Chg [bW] w w') (hM : RfAt w' d bW (8 * n) ws') : RDAt w' N d bL bW n capL cores ws' rs :=
  ⟨k.blk h.blk (by simpa using h.ne.2.1), hM.l, hM.len, h.small, h.ents.imp fun _ b => k.blk b (by simpa using h.ne.2.2), h.len, fun i hi => (h.fz i hi).step (k.mono (fun y hy => by rw [List.mem_singleton.1 hy]; exact h.inN.2.2)) (fun x hx => .inl hx), h.inN⟩
end
theorem encs_oneR (l : List MsgV) : ∀ u ∈ l.flatMap encM, u.oneCell' = true := fun u hu => by
  obtain ⟨m, _, h⟩ := List.mem_flatMap.1 hu
  exact encM_one m u h
theorem set_self {α : Type} (l : List α) (i : Nat) (h : i < l.length) : l.set i l[i] = l := List.set_getElem_self h
end Go.Proofs.Ytepdhajgemmoiaa
