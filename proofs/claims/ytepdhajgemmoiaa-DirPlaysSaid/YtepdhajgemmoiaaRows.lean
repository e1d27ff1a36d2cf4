/-
  No cell of these rows narrows 'for every input' (looked for: loops, veiled, ifaces, maps, wideKeys, modest, calm, conditions, laid).
  DERIVED. THE GIVEN ROWS OF THIS SEAT. 3 by the template 'for every input the law returns true; each argument reads behind the call as it read before'; 0 by the template 'total and deterministic' (their statements: YtepdhajgemmoiaaTotals.lean).
  GIVEN WITH THE SEED: the statements are not yours to turn. If you find one false, say at which input.
  Laid BY PROGRAM, IN A SANDBOX (cutbox-rows.mjs): the forced cells as the released guide's own fill.sh prints them over the translation e4d5b69abe56d553… (all of the seat's roots in one cut). By AI agents, Wed Nov 11 2026. No macro, syntax, notation, axiom, sorry.
-/
import Derived.Test.YtepdhajgemmoiaaChecked
import GoSem.Claim
import GoSem.ClaimJoined
import GoSem.ClaimMapViews
import Derived.JoinedTies
import Derived.KernelRfl
namespace Go.Proofs.Ytepdhajgemmoiaa
/- THE CELL 'sum', in the pinned program and in every row, IS THE sha256 OF THE DUMP (.gsa) THAT YtepdhajgemmoiaaProg.lean LOADS. Nothing in Lean hashes anything: it is a label: what it is worth is what the hold of that sum in a sandbox is worth. -/
noncomputable def Try.pinned : Pinned := { name := "ytepdhajgemmoiaa", sum := "e4d5b69abe56d55355a743d8d60c43d3edf49fac4534d938f0ed52b8de8c074c", checked := Try.checked }
namespace Rows
def none {H : Type} : Left H := { results := [], args := [] }

/-- 'shuntlaw03.DirNames': WHATEVER THE INPUT: true; the input reads as it did. -/
def dirNamesSpec : ChangeSpec := { name := "dirNames", fn := fun _ => fun
  | [] => { results := [.lit (.bool true)], args := [] }
  | _ => none }
def dirNamesRow : OpenClaim := { program := "ytepdhajgemmoiaa", sum := "e4d5b69abe56d55355a743d8d60c43d3edf49fac4534d938f0ed52b8de8c074c", func := "shunt/shuntlaw03.DirNames", spec := "dirNames", unfollowed := true, recurses := true, apart := false }
def DirNamesSaid : Prop := dirNamesRow.holds Try.pinned (OpenSpec.ofChange dirNamesSpec)

/-- ITS FALSE NEIGHBOUR: 'it returns false'. Refute it at one input. -/
def dirNamesWrong : ChangeSpec := { name := "dirNames", fn := fun _ => fun
  | [] => { results := [.lit (.bool false)], args := [] }
  | _ => none }
def DirNamesWrongFalsely : Prop := dirNamesRow.holds Try.pinned (OpenSpec.ofChange dirNamesWrong)

/-- 'shuntlaw03.DirServes': WHATEVER THE INPUT: true; the input reads as it did. -/
def dirServesSpec : ChangeSpec := { name := "dirServes", fn := fun _ => fun
  | [d1, d2] => { results := [.lit (.bool true)], args := [d1, d2] }
  | _ => none }
def dirServesRow : OpenClaim := { program := "ytepdhajgemmoiaa", sum := "e4d5b69abe56d55355a743d8d60c43d3edf49fac4534d938f0ed52b8de8c074c", func := "shunt/shuntlaw03.DirServes", spec := "dirServes", unfollowed := true, recurses := true, apart := false }
def DirServesSaid : Prop := dirServesRow.holds Try.pinned (OpenSpec.ofChange dirServesSpec)

/-- ITS FALSE NEIGHBOUR: 'it returns false'. Refute it at one input. -/
def dirServesWrong : ChangeSpec := { name := "dirServes", fn := fun _ => fun
  | [d1, d2] => { results := [.lit (.bool false)], args := [d1, d2] }
  | _ => none }
def DirServesWrongFalsely : Prop := dirServesRow.holds Try.pinned (OpenSpec.ofChange dirServesWrong)

/-- 'shuntlaw03.DirPlays': WHATEVER THE INPUT: true; the input reads as it did. -/
def dirPlaysSpec : ChangeSpec := { name := "dirPlays", fn := fun _ => fun
  | [d1, d2, d3] => { results := [.lit (.bool true)], args := [d1, d2, d3] }
  | _ => none }
def dirPlaysRow : OpenClaim := { program := "ytepdhajgemmoiaa", sum := "e4d5b69abe56d55355a743d8d60c43d3edf49fac4534d938f0ed52b8de8c074c", func := "shunt/shuntlaw03.DirPlays", spec := "dirPlays", unfollowed := true, recurses := true, apart := false }
def DirPlaysSaid : Prop := dirPlaysRow.holds Try.pinned (OpenSpec.ofChange dirPlaysSpec)

/-- ITS FALSE NEIGHBOUR: 'it returns false'. Refute it at one input. -/
def dirPlaysWrong : ChangeSpec := { name := "dirPlays", fn := fun _ => fun
  | [d1, d2, d3] => { results := [.lit (.bool false)], args := [d1, d2, d3] }
  | _ => none }
def DirPlaysWrongFalsely : Prop := dirPlaysRow.holds Try.pinned (OpenSpec.ofChange dirPlaysWrong)

/- THE SECOND FORM. 'bulk': how many values and letters a reading holds, each counted each time it is reached (what is shared counts as often as it is met; a slice's spare places count too). A statement '..UptoSaid' is the law's where the arguments, and the package variables that the reading takes, are together of bulk at most 1048576: NARROWER than '..Said'. Prove '..Said' where nothing that the law and all that it calls make is longer than what came in: it says more and counts as full. Else prove '..UptoSaid'. A law counts once. -/
mutual
def uptoBulk {H : Type} : DataW H → Nat
  | .lit (.string bytes) => bytes.length + 1
  | .lit _ => 1
  | .nil => 1
  | .ptr d => uptoBulk d + 1
  | .slice elems spare => uptoBulkAll elems + uptoBulkAll spare + 1
  | .agg parts => uptoBulkAll parts + 1
  | .iface _ d => uptoBulk d + 1
  | .map entries => uptoBulkEntries entries + 1
  | .held _ => 1
def uptoBulkAll {H : Type} : List (DataW H) → Nat
  | [] => 0
  | d :: r => uptoBulk d + uptoBulkAll r
def uptoBulkEntries {H : Type} : List (Lit × DataW H) → Nat
  | [] => 0
  | x :: r => uptoBulkEntry x + uptoBulkEntries r
def uptoBulkEntry {H : Type} : Lit × DataW H → Nat
  | (.string bytes, d) => bytes.length + uptoBulk d + 1
  | (_, d) => uptoBulk d + 1
 end
def uptoSmall : (H : Type) → List (DataW H) → Bool := fun _ ds => decide (uptoBulkAll ds ≤ 1048576)
def OpenSpec.upto (s : _root_.Go.ChangeSpec) : _root_.Go.OpenSpec := { _root_.Go.OpenSpec.ofChange s with cond := some uptoSmall }

/-- 'shuntlaw03.DirNames', WHERE WHAT IT READS IS OF BULK AT MOST 1048576: true; the input reads as it did. -/
def dirNamesUptoRow : OpenClaim := { program := "ytepdhajgemmoiaa", sum := "e4d5b69abe56d55355a743d8d60c43d3edf49fac4534d938f0ed52b8de8c074c", func := "shunt/shuntlaw03.DirNames", spec := "dirNames", unfollowed := true, recurses := true, apart := false, narrowed := true }
def DirNamesUptoSaid : Prop := dirNamesUptoRow.holds Try.pinned (OpenSpec.upto dirNamesSpec)

/-- 'shuntlaw03.DirServes', WHERE WHAT IT READS IS OF BULK AT MOST 1048576: true; the input reads as it did. -/
def dirServesUptoRow : OpenClaim := { program := "ytepdhajgemmoiaa", sum := "e4d5b69abe56d55355a743d8d60c43d3edf49fac4534d938f0ed52b8de8c074c", func := "shunt/shuntlaw03.DirServes", spec := "dirServes", unfollowed := true, recurses := true, apart := false, narrowed := true }
def DirServesUptoSaid : Prop := dirServesUptoRow.holds Try.pinned (OpenSpec.upto dirServesSpec)

/-- 'shuntlaw03.DirPlays', WHERE WHAT IT READS IS OF BULK AT MOST 1048576: true; the input reads as it did. -/
def dirPlaysUptoRow : OpenClaim := { program := "ytepdhajgemmoiaa", sum := "e4d5b69abe56d55355a743d8d60c43d3edf49fac4534d938f0ed52b8de8c074c", func := "shunt/shuntlaw03.DirPlays", spec := "dirPlays", unfollowed := true, recurses := true, apart := false, narrowed := true }
def DirPlaysUptoSaid : Prop := dirPlaysUptoRow.holds Try.pinned (OpenSpec.upto dirPlaysSpec)

end Rows
end Go.Proofs.Ytepdhajgemmoiaa
