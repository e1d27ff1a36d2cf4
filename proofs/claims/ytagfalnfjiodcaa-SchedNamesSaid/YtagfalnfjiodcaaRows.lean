/-
  No cell of these rows narrows 'for every input' (looked for: loops, veiled, ifaces, maps, wideKeys, modest, calm, conditions, laid).
  DERIVED. THE GIVEN ROWS OF THIS SEAT. 9 by the template 'for every input the law returns true; each argument reads behind the call as it read before'; 0 by the template 'total and deterministic' (their statements: YtagfalnfjiodcaaTotals.lean).
  GIVEN WITH THE SEED: the statements are not yours to turn. If you find one false, say at which input.
  Laid BY PROGRAM, IN A SANDBOX (cutbox-rows.mjs): the forced cells as the released guide's own fill.sh prints them over the translation 29c97fbf7b88d768… (all of the seat's roots in one cut). By AI agents, Wed Nov 11 2026. No macro, syntax, notation, axiom, sorry.
-/
import Derived.Test.YtagfalnfjiodcaaChecked
import GoSem.Claim
import GoSem.ClaimJoined
import GoSem.ClaimMapViews
import Derived.JoinedTies
import Derived.KernelRfl
namespace Go.Proofs.Ytagfalnfjiodcaa
/- THE CELL 'sum', in the pinned program and in every row, IS THE sha256 OF THE DUMP (.gsa) THAT YtagfalnfjiodcaaProg.lean LOADS. Nothing in Lean hashes anything: it is a label: what it is worth is what the hold of that sum in a sandbox is worth. -/
noncomputable def Try.pinned : Pinned := { name := "ytagfalnfjiodcaa", sum := "29c97fbf7b88d7686134c1d1192533415621516c711359d7e714887a0cfe4960", checked := Try.checked }
namespace Rows
def none {H : Type} : Left H := { results := [], args := [] }

/-- 'shuntlaw24.SchedTurns': WHATEVER THE INPUT: true; the input reads as it did. -/
def schedTurnsSpec : ChangeSpec := { name := "schedTurns", fn := fun _ => fun
  | [d1, d2, d3] => { results := [.lit (.bool true)], args := [d1, d2, d3] }
  | _ => none }
def schedTurnsRow : OpenClaim := { program := "ytagfalnfjiodcaa", sum := "29c97fbf7b88d7686134c1d1192533415621516c711359d7e714887a0cfe4960", func := "shunt/shuntlaw24.SchedTurns", spec := "schedTurns", unfollowed := true, recurses := true, apart := false }
def SchedTurnsSaid : Prop := schedTurnsRow.holds Try.pinned (OpenSpec.ofChange schedTurnsSpec)

/-- ITS FALSE NEIGHBOUR: 'it returns false'. Refute it at one input. -/
def schedTurnsWrong : ChangeSpec := { name := "schedTurns", fn := fun _ => fun
  | [d1, d2, d3] => { results := [.lit (.bool false)], args := [d1, d2, d3] }
  | _ => none }
def SchedTurnsWrongFalsely : Prop := schedTurnsRow.holds Try.pinned (OpenSpec.ofChange schedTurnsWrong)

/-- 'shuntlaw24.SchedShares': WHATEVER THE INPUT: true; the input reads as it did. -/
def schedSharesSpec : ChangeSpec := { name := "schedShares", fn := fun _ => fun
  | [d1, d2] => { results := [.lit (.bool true)], args := [d1, d2] }
  | _ => none }
def schedSharesRow : OpenClaim := { program := "ytagfalnfjiodcaa", sum := "29c97fbf7b88d7686134c1d1192533415621516c711359d7e714887a0cfe4960", func := "shunt/shuntlaw24.SchedShares", spec := "schedShares", unfollowed := true, recurses := true, apart := false }
def SchedSharesSaid : Prop := schedSharesRow.holds Try.pinned (OpenSpec.ofChange schedSharesSpec)

/-- ITS FALSE NEIGHBOUR: 'it returns false'. Refute it at one input. -/
def schedSharesWrong : ChangeSpec := { name := "schedShares", fn := fun _ => fun
  | [d1, d2] => { results := [.lit (.bool false)], args := [d1, d2] }
  | _ => none }
def SchedSharesWrongFalsely : Prop := schedSharesRow.holds Try.pinned (OpenSpec.ofChange schedSharesWrong)

/-- 'shuntlaw24.SchedActs': WHATEVER THE INPUT: true; the input reads as it did. -/
def schedActsSpec : ChangeSpec := { name := "schedActs", fn := fun _ => fun
  | [d1, d2, d3] => { results := [.lit (.bool true)], args := [d1, d2, d3] }
  | _ => none }
def schedActsRow : OpenClaim := { program := "ytagfalnfjiodcaa", sum := "29c97fbf7b88d7686134c1d1192533415621516c711359d7e714887a0cfe4960", func := "shunt/shuntlaw24.SchedActs", spec := "schedActs", unfollowed := true, recurses := true, apart := false }
def SchedActsSaid : Prop := schedActsRow.holds Try.pinned (OpenSpec.ofChange schedActsSpec)

/-- ITS FALSE NEIGHBOUR: 'it returns false'. Refute it at one input. -/
def schedActsWrong : ChangeSpec := { name := "schedActs", fn := fun _ => fun
  | [d1, d2, d3] => { results := [.lit (.bool false)], args := [d1, d2, d3] }
  | _ => none }
def SchedActsWrongFalsely : Prop := schedActsRow.holds Try.pinned (OpenSpec.ofChange schedActsWrong)

/-- 'shuntlaw24.SchedEven': WHATEVER THE INPUT: true; the input reads as it did. -/
def schedEvenSpec : ChangeSpec := { name := "schedEven", fn := fun _ => fun
  | [d1, d2] => { results := [.lit (.bool true)], args := [d1, d2] }
  | _ => none }
def schedEvenRow : OpenClaim := { program := "ytagfalnfjiodcaa", sum := "29c97fbf7b88d7686134c1d1192533415621516c711359d7e714887a0cfe4960", func := "shunt/shuntlaw24.SchedEven", spec := "schedEven", unfollowed := true, recurses := true, apart := false }
def SchedEvenSaid : Prop := schedEvenRow.holds Try.pinned (OpenSpec.ofChange schedEvenSpec)

/-- ITS FALSE NEIGHBOUR: 'it returns false'. Refute it at one input. -/
def schedEvenWrong : ChangeSpec := { name := "schedEven", fn := fun _ => fun
  | [d1, d2] => { results := [.lit (.bool false)], args := [d1, d2] }
  | _ => none }
def SchedEvenWrongFalsely : Prop := schedEvenRow.holds Try.pinned (OpenSpec.ofChange schedEvenWrong)

/-- 'shuntlaw24.SchedShare': WHATEVER THE INPUT: true; the input reads as it did. -/
def schedShareSpec : ChangeSpec := { name := "schedShare", fn := fun _ => fun
  | [d1, d2] => { results := [.lit (.bool true)], args := [d1, d2] }
  | _ => none }
def schedShareRow : OpenClaim := { program := "ytagfalnfjiodcaa", sum := "29c97fbf7b88d7686134c1d1192533415621516c711359d7e714887a0cfe4960", func := "shunt/shuntlaw24.SchedShare", spec := "schedShare", unfollowed := true, recurses := true, apart := false }
def SchedShareSaid : Prop := schedShareRow.holds Try.pinned (OpenSpec.ofChange schedShareSpec)

/-- ITS FALSE NEIGHBOUR: 'it returns false'. Refute it at one input. -/
def schedShareWrong : ChangeSpec := { name := "schedShare", fn := fun _ => fun
  | [d1, d2] => { results := [.lit (.bool false)], args := [d1, d2] }
  | _ => none }
def SchedShareWrongFalsely : Prop := schedShareRow.holds Try.pinned (OpenSpec.ofChange schedShareWrong)

/-- 'shuntlaw24.SchedBegins': WHATEVER THE INPUT: true; the input reads as it did. -/
def schedBeginsSpec : ChangeSpec := { name := "schedBegins", fn := fun _ => fun
  | [d1, d2, d3] => { results := [.lit (.bool true)], args := [d1, d2, d3] }
  | _ => none }
def schedBeginsRow : OpenClaim := { program := "ytagfalnfjiodcaa", sum := "29c97fbf7b88d7686134c1d1192533415621516c711359d7e714887a0cfe4960", func := "shunt/shuntlaw24.SchedBegins", spec := "schedBegins", unfollowed := true, recurses := true, apart := false }
def SchedBeginsSaid : Prop := schedBeginsRow.holds Try.pinned (OpenSpec.ofChange schedBeginsSpec)

/-- ITS FALSE NEIGHBOUR: 'it returns false'. Refute it at one input. -/
def schedBeginsWrong : ChangeSpec := { name := "schedBegins", fn := fun _ => fun
  | [d1, d2, d3] => { results := [.lit (.bool false)], args := [d1, d2, d3] }
  | _ => none }
def SchedBeginsWrongFalsely : Prop := schedBeginsRow.holds Try.pinned (OpenSpec.ofChange schedBeginsWrong)

/-- 'shuntlaw24.SchedSoon': WHATEVER THE INPUT: true; the input reads as it did. -/
def schedSoonSpec : ChangeSpec := { name := "schedSoon", fn := fun _ => fun
  | [d1, d2, d3] => { results := [.lit (.bool true)], args := [d1, d2, d3] }
  | _ => none }
def schedSoonRow : OpenClaim := { program := "ytagfalnfjiodcaa", sum := "29c97fbf7b88d7686134c1d1192533415621516c711359d7e714887a0cfe4960", func := "shunt/shuntlaw24.SchedSoon", spec := "schedSoon", unfollowed := true, recurses := true, apart := false }
def SchedSoonSaid : Prop := schedSoonRow.holds Try.pinned (OpenSpec.ofChange schedSoonSpec)

/-- ITS FALSE NEIGHBOUR: 'it returns false'. Refute it at one input. -/
def schedSoonWrong : ChangeSpec := { name := "schedSoon", fn := fun _ => fun
  | [d1, d2, d3] => { results := [.lit (.bool false)], args := [d1, d2, d3] }
  | _ => none }
def SchedSoonWrongFalsely : Prop := schedSoonRow.holds Try.pinned (OpenSpec.ofChange schedSoonWrong)

/-- 'shuntlaw24.SchedActed': WHATEVER THE INPUT: true; the input reads as it did. -/
def schedActedSpec : ChangeSpec := { name := "schedActed", fn := fun _ => fun
  | [d1, d2] => { results := [.lit (.bool true)], args := [d1, d2] }
  | _ => none }
def schedActedRow : OpenClaim := { program := "ytagfalnfjiodcaa", sum := "29c97fbf7b88d7686134c1d1192533415621516c711359d7e714887a0cfe4960", func := "shunt/shuntlaw24.SchedActed", spec := "schedActed", unfollowed := true, recurses := true, apart := false }
def SchedActedSaid : Prop := schedActedRow.holds Try.pinned (OpenSpec.ofChange schedActedSpec)

/-- ITS FALSE NEIGHBOUR: 'it returns false'. Refute it at one input. -/
def schedActedWrong : ChangeSpec := { name := "schedActed", fn := fun _ => fun
  | [d1, d2] => { results := [.lit (.bool false)], args := [d1, d2] }
  | _ => none }
def SchedActedWrongFalsely : Prop := schedActedRow.holds Try.pinned (OpenSpec.ofChange schedActedWrong)

/-- 'shuntlaw24.SchedNames': WHATEVER THE INPUT: true; the input reads as it did. -/
def schedNamesSpec : ChangeSpec := { name := "schedNames", fn := fun _ => fun
  | [] => { results := [.lit (.bool true)], args := [] }
  | _ => none }
def schedNamesRow : OpenClaim := { program := "ytagfalnfjiodcaa", sum := "29c97fbf7b88d7686134c1d1192533415621516c711359d7e714887a0cfe4960", func := "shunt/shuntlaw24.SchedNames", spec := "schedNames", unfollowed := true, recurses := true, apart := false }
def SchedNamesSaid : Prop := schedNamesRow.holds Try.pinned (OpenSpec.ofChange schedNamesSpec)

/-- ITS FALSE NEIGHBOUR: 'it returns false'. Refute it at one input. -/
def schedNamesWrong : ChangeSpec := { name := "schedNames", fn := fun _ => fun
  | [] => { results := [.lit (.bool false)], args := [] }
  | _ => none }
def SchedNamesWrongFalsely : Prop := schedNamesRow.holds Try.pinned (OpenSpec.ofChange schedNamesWrong)

/- THE SECOND FORM. 'bulk': how many values and letters a reading holds, each counted each time it is reached (what is shared counts as often as it is met; a slice's spare places count too). A statement '..UptoSaid' is the law's where the arguments, and the package variables that the reading takes, are together of bulk at most 1048576: NARROWER than '..Said'. Prove '..Said' where nothing that the law and all that it calls make is longer than what came in: it says more and counts as full. Else prove '..UptoSaid'. A law counts once. -/
mutual
def uptoBulk {H : Type} : DataW H → Nat
  | .lit (.string bytes) => bytes.length + 1
  | .lit _ => 1
  | .nil => 1
  | .ptr d => uptoBulk d + 1
  | .slice elems spare => uptoBulkAll elems + uptoBulkAll spare + 1
  | .agg parts => uptoBulkAll parts + 1
  | .iface _ d => uptoBulk d + 1
  | .map entries => uptoBulkEntries entries + 1
  | .held _ => 1
def uptoBulkAll {H : Type} : List (DataW H) → Nat
  | [] => 0
  | d :: r => uptoBulk d + uptoBulkAll r
def uptoBulkEntries {H : Type} : List (Lit × DataW H) → Nat
  | [] => 0
  | x :: r => uptoBulkEntry x + uptoBulkEntries r
def uptoBulkEntry {H : Type} : Lit × DataW H → Nat
  | (.string bytes, d) => bytes.length + uptoBulk d + 1
  | (_, d) => uptoBulk d + 1
 end
def uptoSmall : (H : Type) → List (DataW H) → Bool := fun _ ds => decide (uptoBulkAll ds ≤ 1048576)
def OpenSpec.upto (s : _root_.Go.ChangeSpec) : _root_.Go.OpenSpec := { _root_.Go.OpenSpec.ofChange s with cond := some uptoSmall }

/-- 'shuntlaw24.SchedTurns', WHERE WHAT IT READS IS OF BULK AT MOST 1048576: true; the input reads as it did. -/
def schedTurnsUptoRow : OpenClaim := { program := "ytagfalnfjiodcaa", sum := "29c97fbf7b88d7686134c1d1192533415621516c711359d7e714887a0cfe4960", func := "shunt/shuntlaw24.SchedTurns", spec := "schedTurns", unfollowed := true, recurses := true, apart := false, narrowed := true }
def SchedTurnsUptoSaid : Prop := schedTurnsUptoRow.holds Try.pinned (OpenSpec.upto schedTurnsSpec)

/-- 'shuntlaw24.SchedShares', WHERE WHAT IT READS IS OF BULK AT MOST 1048576: true; the input reads as it did. -/
def schedSharesUptoRow : OpenClaim := { program := "ytagfalnfjiodcaa", sum := "29c97fbf7b88d7686134c1d1192533415621516c711359d7e714887a0cfe4960", func := "shunt/shuntlaw24.SchedShares", spec := "schedShares", unfollowed := true, recurses := true, apart := false, narrowed := true }
def SchedSharesUptoSaid : Prop := schedSharesUptoRow.holds Try.pinned (OpenSpec.upto schedSharesSpec)

/-- 'shuntlaw24.SchedActs', WHERE WHAT IT READS IS OF BULK AT MOST 1048576: true; the input reads as it did. -/
def schedActsUptoRow : OpenClaim := { program := "ytagfalnfjiodcaa", sum := "29c97fbf7b88d7686134c1d1192533415621516c711359d7e714887a0cfe4960", func := "shunt/shuntlaw24.SchedActs", spec := "schedActs", unfollowed := true, recurses := true, apart := false, narrowed := true }
def SchedActsUptoSaid : Prop := schedActsUptoRow.holds Try.pinned (OpenSpec.upto schedActsSpec)

/-- 'shuntlaw24.SchedEven', WHERE WHAT IT READS IS OF BULK AT MOST 1048576: true; the input reads as it did. -/
def schedEvenUptoRow : OpenClaim := { program := "ytagfalnfjiodcaa", sum := "29c97fbf7b88d7686134c1d1192533415621516c711359d7e714887a0cfe4960", func := "shunt/shuntlaw24.SchedEven", spec := "schedEven", unfollowed := true, recurses := true, apart := false, narrowed := true }
def SchedEvenUptoSaid : Prop := schedEvenUptoRow.holds Try.pinned (OpenSpec.upto schedEvenSpec)

/-- 'shuntlaw24.SchedShare', WHERE WHAT IT READS IS OF BULK AT MOST 1048576: true; the input reads as it did. -/
def schedShareUptoRow : OpenClaim := { program := "ytagfalnfjiodcaa", sum := "29c97fbf7b88d7686134c1d1192533415621516c711359d7e714887a0cfe4960", func := "shunt/shuntlaw24.SchedShare", spec := "schedShare", unfollowed := true, recurses := true, apart := false, narrowed := true }
def SchedShareUptoSaid : Prop := schedShareUptoRow.holds Try.pinned (OpenSpec.upto schedShareSpec)

/-- 'shuntlaw24.SchedBegins', WHERE WHAT IT READS IS OF BULK AT MOST 1048576: true; the input reads as it did. -/
def schedBeginsUptoRow : OpenClaim := { program := "ytagfalnfjiodcaa", sum := "29c97fbf7b88d7686134c1d1192533415621516c711359d7e714887a0cfe4960", func := "shunt/shuntlaw24.SchedBegins", spec := "schedBegins", unfollowed := true, recurses := true, apart := false, narrowed := true }
def SchedBeginsUptoSaid : Prop := schedBeginsUptoRow.holds Try.pinned (OpenSpec.upto schedBeginsSpec)

/-- 'shuntlaw24.SchedSoon', WHERE WHAT IT READS IS OF BULK AT MOST 1048576: true; the input reads as it did. -/
def schedSoonUptoRow : OpenClaim := { program := "ytagfalnfjiodcaa", sum := "29c97fbf7b88d7686134c1d1192533415621516c711359d7e714887a0cfe4960", func := "shunt/shuntlaw24.SchedSoon", spec := "schedSoon", unfollowed := true, recurses := true, apart := false, narrowed := true }
def SchedSoonUptoSaid : Prop := schedSoonUptoRow.holds Try.pinned (OpenSpec.upto schedSoonSpec)

/-- 'shuntlaw24.SchedActed', WHERE WHAT IT READS IS OF BULK AT MOST 1048576: true; the input reads as it did. -/
def schedActedUptoRow : OpenClaim := { program := "ytagfalnfjiodcaa", sum := "29c97fbf7b88d7686134c1d1192533415621516c711359d7e714887a0cfe4960", func := "shunt/shuntlaw24.SchedActed", spec := "schedActed", unfollowed := true, recurses := true, apart := false, narrowed := true }
def SchedActedUptoSaid : Prop := schedActedUptoRow.holds Try.pinned (OpenSpec.upto schedActedSpec)

/-- 'shuntlaw24.SchedNames', WHERE WHAT IT READS IS OF BULK AT MOST 1048576: true; the input reads as it did. -/
def schedNamesUptoRow : OpenClaim := { program := "ytagfalnfjiodcaa", sum := "29c97fbf7b88d7686134c1d1192533415621516c711359d7e714887a0cfe4960", func := "shunt/shuntlaw24.SchedNames", spec := "schedNames", unfollowed := true, recurses := true, apart := false, narrowed := true }
def SchedNamesUptoSaid : Prop := schedNamesUptoRow.holds Try.pinned (OpenSpec.upto schedNamesSpec)

end Rows
end Go.Proofs.Ytagfalnfjiodcaa
