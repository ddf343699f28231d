/-
  No cell of these rows narrows 'for every input' (looked for: loops, veiled, ifaces, maps, wideKeys, modest, calm, conditions, laid).
  DERIVED. THE GIVEN ROWS OF THIS SEAT. 3 by the template 'for every input the law returns true; each argument reads behind the call as it read before'; 0 by the template 'total and deterministic' (their statements: YtokidokmcbkodaaTotals.lean).
  GIVEN WITH THE SEED: the statements are not yours to turn. If you find one false, say at which input.
  Laid BY PROGRAM, IN A SANDBOX (cutbox-rows.mjs): the forced cells as the released guide's own fill.sh prints them over the translation 3e248df5f286546f… (all of the seat's roots in one cut). By AI agents, Wed Nov 11 2026. No macro, syntax, notation, axiom, sorry.
-/
import Derived.Test.YtokidokmcbkodaaChecked
import GoSem.Claim
import GoSem.ClaimJoined
import GoSem.ClaimMapViews
import Derived.JoinedTies
import Derived.KernelRfl
namespace Go.Proofs.Ytokidokmcbkodaa
/- THE CELL 'sum', in the pinned program and in every row, IS THE sha256 OF THE DUMP (.gsa) THAT YtokidokmcbkodaaProg.lean LOADS. Nothing in Lean hashes anything: it is a label: what it is worth is what the hold of that sum in a sandbox is worth. -/
noncomputable def Try.pinned : Pinned := { name := "ytokidokmcbkodaa", sum := "3e248df5f286546f9998dd0153388f7b84f14126dc3eb13c4b1e6dd7e83e557a", checked := Try.checked }
namespace Rows
def none {H : Type} : Left H := { results := [], args := [] }

/-- 'juntolaw13.WordFull': WHATEVER THE INPUT: true; the input reads as it did. -/
def wordFullSpec : ChangeSpec := { name := "wordFull", fn := fun _ => fun
  | [] => { results := [.lit (.bool true)], args := [] }
  | _ => none }
def wordFullRow : OpenClaim := { program := "ytokidokmcbkodaa", sum := "3e248df5f286546f9998dd0153388f7b84f14126dc3eb13c4b1e6dd7e83e557a", func := "junto/juntolaw13.WordFull", spec := "wordFull", unfollowed := true, recurses := true, apart := false }
def WordFullSaid : Prop := wordFullRow.holds Try.pinned (OpenSpec.ofChange wordFullSpec)

/-- ITS FALSE NEIGHBOUR: 'it returns false'. Refute it at one input. -/
def wordFullWrong : ChangeSpec := { name := "wordFull", fn := fun _ => fun
  | [] => { results := [.lit (.bool false)], args := [] }
  | _ => none }
def WordFullWrongFalsely : Prop := wordFullRow.holds Try.pinned (OpenSpec.ofChange wordFullWrong)

/-- 'juntolaw13.WordRings': WHATEVER THE INPUT: true; the input reads as it did. -/
def wordRingsSpec : ChangeSpec := { name := "wordRings", fn := fun _ => fun
  | [d1, d2, d3] => { results := [.lit (.bool true)], args := [d1, d2, d3] }
  | _ => none }
def wordRingsRow : OpenClaim := { program := "ytokidokmcbkodaa", sum := "3e248df5f286546f9998dd0153388f7b84f14126dc3eb13c4b1e6dd7e83e557a", func := "junto/juntolaw13.WordRings", spec := "wordRings", unfollowed := true, recurses := true, apart := false }
def WordRingsSaid : Prop := wordRingsRow.holds Try.pinned (OpenSpec.ofChange wordRingsSpec)

/-- ITS FALSE NEIGHBOUR: 'it returns false'. Refute it at one input. -/
def wordRingsWrong : ChangeSpec := { name := "wordRings", fn := fun _ => fun
  | [d1, d2, d3] => { results := [.lit (.bool false)], args := [d1, d2, d3] }
  | _ => none }
def WordRingsWrongFalsely : Prop := wordRingsRow.holds Try.pinned (OpenSpec.ofChange wordRingsWrong)

/-- 'juntolaw13.WordNobody': WHATEVER THE INPUT: true; the input reads as it did. -/
def wordNobodySpec : ChangeSpec := { name := "wordNobody", fn := fun _ => fun
  | [d] => { results := [.lit (.bool true)], args := [d] }
  | _ => none }
def wordNobodyRow : OpenClaim := { program := "ytokidokmcbkodaa", sum := "3e248df5f286546f9998dd0153388f7b84f14126dc3eb13c4b1e6dd7e83e557a", func := "junto/juntolaw13.WordNobody", spec := "wordNobody", unfollowed := true, recurses := true, apart := false }
def WordNobodySaid : Prop := wordNobodyRow.holds Try.pinned (OpenSpec.ofChange wordNobodySpec)

/-- ITS FALSE NEIGHBOUR: 'it returns false'. Refute it at one input. -/
def wordNobodyWrong : ChangeSpec := { name := "wordNobody", fn := fun _ => fun
  | [d] => { results := [.lit (.bool false)], args := [d] }
  | _ => none }
def WordNobodyWrongFalsely : Prop := wordNobodyRow.holds Try.pinned (OpenSpec.ofChange wordNobodyWrong)

/- THE SECOND FORM. 'bulk': how many values and letters a reading holds, each counted each time it is reached (what is shared counts as often as it is met; a slice's spare places count too). A statement '..UptoSaid' is the law's where the arguments, and the package variables that the reading takes, are together of bulk at most 1048576: NARROWER than '..Said'. Prove '..Said' where nothing that the law and all that it calls make is longer than what came in: it says more and counts as full. Else prove '..UptoSaid'. A law counts once. -/
mutual
def uptoBulk {H : Type} : DataW H → Nat
  | .lit (.string bytes) => bytes.length + 1
  | .lit _ => 1
  | .nil => 1
  | .ptr d => uptoBulk d + 1
  | .slice elems spare => uptoBulkAll elems + uptoBulkAll spare + 1
  | .agg parts => uptoBulkAll parts + 1
  | .iface _ d => uptoBulk d + 1
  | .map entries => uptoBulkEntries entries + 1
  | .held _ => 1
def uptoBulkAll {H : Type} : List (DataW H) → Nat
  | [] => 0
  | d :: r => uptoBulk d + uptoBulkAll r
def uptoBulkEntries {H : Type} : List (Lit × DataW H) → Nat
  | [] => 0
  | x :: r => uptoBulkEntry x + uptoBulkEntries r
def uptoBulkEntry {H : Type} : Lit × DataW H → Nat
  | (.string bytes, d) => bytes.length + uptoBulk d + 1
  | (_, d) => uptoBulk d + 1
 end
def uptoSmall : (H : Type) → List (DataW H) → Bool := fun _ ds => decide (uptoBulkAll ds ≤ 1048576)
def OpenSpec.upto (s : _root_.Go.ChangeSpec) : _root_.Go.OpenSpec := { _root_.Go.OpenSpec.ofChange s with cond := some uptoSmall }

/-- 'juntolaw13.WordFull', WHERE WHAT IT READS IS OF BULK AT MOST 1048576: true; the input reads as it did. -/
def wordFullUptoRow : OpenClaim := { program := "ytokidokmcbkodaa", sum := "3e248df5f286546f9998dd0153388f7b84f14126dc3eb13c4b1e6dd7e83e557a", func := "junto/juntolaw13.WordFull", spec := "wordFull", unfollowed := true, recurses := true, apart := false, narrowed := true }
def WordFullUptoSaid : Prop := wordFullUptoRow.holds Try.pinned (OpenSpec.upto wordFullSpec)

/-- 'juntolaw13.WordRings', WHERE WHAT IT READS IS OF BULK AT MOST 1048576: true; the input reads as it did. -/
def wordRingsUptoRow : OpenClaim := { program := "ytokidokmcbkodaa", sum := "3e248df5f286546f9998dd0153388f7b84f14126dc3eb13c4b1e6dd7e83e557a", func := "junto/juntolaw13.WordRings", spec := "wordRings", unfollowed := true, recurses := true, apart := false, narrowed := true }
def WordRingsUptoSaid : Prop := wordRingsUptoRow.holds Try.pinned (OpenSpec.upto wordRingsSpec)

/-- 'juntolaw13.WordNobody', WHERE WHAT IT READS IS OF BULK AT MOST 1048576: true; the input reads as it did. -/
def wordNobodyUptoRow : OpenClaim := { program := "ytokidokmcbkodaa", sum := "3e248df5f286546f9998dd0153388f7b84f14126dc3eb13c4b1e6dd7e83e557a", func := "junto/juntolaw13.WordNobody", spec := "wordNobody", unfollowed := true, recurses := true, apart := false, narrowed := true }
def WordNobodyUptoSaid : Prop := wordNobodyUptoRow.holds Try.pinned (OpenSpec.upto wordNobodySpec)

end Rows
end Go.Proofs.Ytokidokmcbkodaa
