/-
  No cell of these rows narrows 'for every input' (looked for: loops, veiled, ifaces, maps, wideKeys, modest, calm, conditions, laid).
  DERIVED. THE GIVEN ROWS OF THIS SEAT. 6 by the template 'for every input the law returns true; each argument reads behind the call as it read before'; 0 by the template 'total and deterministic' (their statements: YtaccfbpfennjkaaTotals.lean).
  GIVEN WITH THE SEED: the statements are not yours to turn. If you find one false, say at which input.
  Laid BY PROGRAM, IN A SANDBOX (cutbox-rows.mjs): the forced cells as the released guide's own fill.sh prints them over the translation 4aa8b1c28d021cf4… (all of the seat's roots in one cut). By AI agents, Wed Nov 11 2026. No macro, syntax, notation, axiom, sorry.
-/
import Derived.Test.YtaccfbpfennjkaaChecked
import GoSem.Claim
import GoSem.ClaimJoined
import GoSem.ClaimMapViews
import Derived.JoinedTies
import Derived.KernelRfl
namespace Go.Proofs.Ytaccfbpfennjkaa
/- THE CELL 'sum', in the pinned program and in every row, IS THE sha256 OF THE DUMP (.gsa) THAT YtaccfbpfennjkaaProg.lean LOADS. Nothing in Lean hashes anything: it is a label: what it is worth is what the hold of that sum in a sandbox is worth. -/
noncomputable def Try.pinned : Pinned := { name := "ytaccfbpfennjkaa", sum := "4aa8b1c28d021cf474cb0ae4760a222d75d0d9999f9d8887e6779ea7558b771c", checked := Try.checked }
namespace Rows
def none {H : Type} : Left H := { results := [], args := [] }

/-- 'scriptoriumlaw17.TideHolds': WHATEVER THE INPUT: true; the input reads as it did. -/
def tideHoldsSpec : ChangeSpec := { name := "tideHolds", fn := fun _ => fun
  | [d1, d2, d3] => { results := [.lit (.bool true)], args := [d1, d2, d3] }
  | _ => none }
def tideHoldsRow : OpenClaim := { program := "ytaccfbpfennjkaa", sum := "4aa8b1c28d021cf474cb0ae4760a222d75d0d9999f9d8887e6779ea7558b771c", func := "scriptorium/scriptoriumlaw17.TideHolds", spec := "tideHolds", unfollowed := true, recurses := true, apart := false }
def TideHoldsSaid : Prop := tideHoldsRow.holds Try.pinned (OpenSpec.ofChange tideHoldsSpec)

/-- ITS FALSE NEIGHBOUR: 'it returns false'. Refute it at one input. -/
def tideHoldsWrong : ChangeSpec := { name := "tideHolds", fn := fun _ => fun
  | [d1, d2, d3] => { results := [.lit (.bool false)], args := [d1, d2, d3] }
  | _ => none }
def TideHoldsWrongFalsely : Prop := tideHoldsRow.holds Try.pinned (OpenSpec.ofChange tideHoldsWrong)

/-- 'scriptoriumlaw17.TideDoes': WHATEVER THE INPUT: true; the input reads as it did. -/
def tideDoesSpec : ChangeSpec := { name := "tideDoes", fn := fun _ => fun
  | [d1, d2, d3] => { results := [.lit (.bool true)], args := [d1, d2, d3] }
  | _ => none }
def tideDoesRow : OpenClaim := { program := "ytaccfbpfennjkaa", sum := "4aa8b1c28d021cf474cb0ae4760a222d75d0d9999f9d8887e6779ea7558b771c", func := "scriptorium/scriptoriumlaw17.TideDoes", spec := "tideDoes", unfollowed := true, recurses := true, apart := false }
def TideDoesSaid : Prop := tideDoesRow.holds Try.pinned (OpenSpec.ofChange tideDoesSpec)

/-- ITS FALSE NEIGHBOUR: 'it returns false'. Refute it at one input. -/
def tideDoesWrong : ChangeSpec := { name := "tideDoes", fn := fun _ => fun
  | [d1, d2, d3] => { results := [.lit (.bool false)], args := [d1, d2, d3] }
  | _ => none }
def TideDoesWrongFalsely : Prop := tideDoesRow.holds Try.pinned (OpenSpec.ofChange tideDoesWrong)

/-- 'scriptoriumlaw17.TideRises': WHATEVER THE INPUT: true; the input reads as it did. -/
def tideRisesSpec : ChangeSpec := { name := "tideRises", fn := fun _ => fun
  | [d1, d2, d3] => { results := [.lit (.bool true)], args := [d1, d2, d3] }
  | _ => none }
def tideRisesRow : OpenClaim := { program := "ytaccfbpfennjkaa", sum := "4aa8b1c28d021cf474cb0ae4760a222d75d0d9999f9d8887e6779ea7558b771c", func := "scriptorium/scriptoriumlaw17.TideRises", spec := "tideRises", unfollowed := true, recurses := true, apart := false }
def TideRisesSaid : Prop := tideRisesRow.holds Try.pinned (OpenSpec.ofChange tideRisesSpec)

/-- ITS FALSE NEIGHBOUR: 'it returns false'. Refute it at one input. -/
def tideRisesWrong : ChangeSpec := { name := "tideRises", fn := fun _ => fun
  | [d1, d2, d3] => { results := [.lit (.bool false)], args := [d1, d2, d3] }
  | _ => none }
def TideRisesWrongFalsely : Prop := tideRisesRow.holds Try.pinned (OpenSpec.ofChange tideRisesWrong)

/-- 'scriptoriumlaw17.TideBelow': WHATEVER THE INPUT: true; the input reads as it did. -/
def tideBelowSpec : ChangeSpec := { name := "tideBelow", fn := fun _ => fun
  | [d1, d2, d3] => { results := [.lit (.bool true)], args := [d1, d2, d3] }
  | _ => none }
def tideBelowRow : OpenClaim := { program := "ytaccfbpfennjkaa", sum := "4aa8b1c28d021cf474cb0ae4760a222d75d0d9999f9d8887e6779ea7558b771c", func := "scriptorium/scriptoriumlaw17.TideBelow", spec := "tideBelow", unfollowed := true, recurses := true, apart := false }
def TideBelowSaid : Prop := tideBelowRow.holds Try.pinned (OpenSpec.ofChange tideBelowSpec)

/-- ITS FALSE NEIGHBOUR: 'it returns false'. Refute it at one input. -/
def tideBelowWrong : ChangeSpec := { name := "tideBelow", fn := fun _ => fun
  | [d1, d2, d3] => { results := [.lit (.bool false)], args := [d1, d2, d3] }
  | _ => none }
def TideBelowWrongFalsely : Prop := tideBelowRow.holds Try.pinned (OpenSpec.ofChange tideBelowWrong)

/-- 'scriptoriumlaw17.TideExact': WHATEVER THE INPUT: true; the input reads as it did. -/
def tideExactSpec : ChangeSpec := { name := "tideExact", fn := fun _ => fun
  | [d1, d2, d3] => { results := [.lit (.bool true)], args := [d1, d2, d3] }
  | _ => none }
def tideExactRow : OpenClaim := { program := "ytaccfbpfennjkaa", sum := "4aa8b1c28d021cf474cb0ae4760a222d75d0d9999f9d8887e6779ea7558b771c", func := "scriptorium/scriptoriumlaw17.TideExact", spec := "tideExact", unfollowed := true, recurses := true, apart := false }
def TideExactSaid : Prop := tideExactRow.holds Try.pinned (OpenSpec.ofChange tideExactSpec)

/-- ITS FALSE NEIGHBOUR: 'it returns false'. Refute it at one input. -/
def tideExactWrong : ChangeSpec := { name := "tideExact", fn := fun _ => fun
  | [d1, d2, d3] => { results := [.lit (.bool false)], args := [d1, d2, d3] }
  | _ => none }
def TideExactWrongFalsely : Prop := tideExactRow.holds Try.pinned (OpenSpec.ofChange tideExactWrong)

/-- 'scriptoriumlaw17.TideKnown': WHATEVER THE INPUT: true; the input reads as it did. -/
def tideKnownSpec : ChangeSpec := { name := "tideKnown", fn := fun _ => fun
  | [] => { results := [.lit (.bool true)], args := [] }
  | _ => none }
def tideKnownRow : OpenClaim := { program := "ytaccfbpfennjkaa", sum := "4aa8b1c28d021cf474cb0ae4760a222d75d0d9999f9d8887e6779ea7558b771c", func := "scriptorium/scriptoriumlaw17.TideKnown", spec := "tideKnown", unfollowed := true, recurses := true, apart := false }
def TideKnownSaid : Prop := tideKnownRow.holds Try.pinned (OpenSpec.ofChange tideKnownSpec)

/-- ITS FALSE NEIGHBOUR: 'it returns false'. Refute it at one input. -/
def tideKnownWrong : ChangeSpec := { name := "tideKnown", fn := fun _ => fun
  | [] => { results := [.lit (.bool false)], args := [] }
  | _ => none }
def TideKnownWrongFalsely : Prop := tideKnownRow.holds Try.pinned (OpenSpec.ofChange tideKnownWrong)

/- THE SECOND FORM. 'bulk': how many values and letters a reading holds, each counted each time it is reached (what is shared counts as often as it is met; a slice's spare places count too). A statement '..UptoSaid' is the law's where the arguments, and the package variables that the reading takes, are together of bulk at most 1048576: NARROWER than '..Said'. Prove '..Said' where nothing that the law and all that it calls make is longer than what came in: it says more and counts as full. Else prove '..UptoSaid'. A law counts once. -/
mutual
def uptoBulk {H : Type} : DataW H → Nat
  | .lit (.string bytes) => bytes.length + 1
  | .lit _ => 1
  | .nil => 1
  | .ptr d => uptoBulk d + 1
  | .slice elems spare => uptoBulkAll elems + uptoBulkAll spare + 1
  | .agg parts => uptoBulkAll parts + 1
  | .iface _ d => uptoBulk d + 1
  | .map entries => uptoBulkEntries entries + 1
  | .held _ => 1
def uptoBulkAll {H : Type} : List (DataW H) → Nat
  | [] => 0
  | d :: r => uptoBulk d + uptoBulkAll r
def uptoBulkEntries {H : Type} : List (Lit × DataW H) → Nat
  | [] => 0
  | x :: r => uptoBulkEntry x + uptoBulkEntries r
def uptoBulkEntry {H : Type} : Lit × DataW H → Nat
  | (.string bytes, d) => bytes.length + uptoBulk d + 1
  | (_, d) => uptoBulk d + 1
 end
def uptoSmall : (H : Type) → List (DataW H) → Bool := fun _ ds => decide (uptoBulkAll ds ≤ 1048576)
def OpenSpec.upto (s : _root_.Go.ChangeSpec) : _root_.Go.OpenSpec := { _root_.Go.OpenSpec.ofChange s with cond := some uptoSmall }

/-- 'scriptoriumlaw17.TideHolds', WHERE WHAT IT READS IS OF BULK AT MOST 1048576: true; the input reads as it did. -/
def tideHoldsUptoRow : OpenClaim := { program := "ytaccfbpfennjkaa", sum := "4aa8b1c28d021cf474cb0ae4760a222d75d0d9999f9d8887e6779ea7558b771c", func := "scriptorium/scriptoriumlaw17.TideHolds", spec := "tideHolds", unfollowed := true, recurses := true, apart := false, narrowed := true }
def TideHoldsUptoSaid : Prop := tideHoldsUptoRow.holds Try.pinned (OpenSpec.upto tideHoldsSpec)

/-- 'scriptoriumlaw17.TideDoes', WHERE WHAT IT READS IS OF BULK AT MOST 1048576: true; the input reads as it did. -/
def tideDoesUptoRow : OpenClaim := { program := "ytaccfbpfennjkaa", sum := "4aa8b1c28d021cf474cb0ae4760a222d75d0d9999f9d8887e6779ea7558b771c", func := "scriptorium/scriptoriumlaw17.TideDoes", spec := "tideDoes", unfollowed := true, recurses := true, apart := false, narrowed := true }
def TideDoesUptoSaid : Prop := tideDoesUptoRow.holds Try.pinned (OpenSpec.upto tideDoesSpec)

/-- 'scriptoriumlaw17.TideRises', WHERE WHAT IT READS IS OF BULK AT MOST 1048576: true; the input reads as it did. -/
def tideRisesUptoRow : OpenClaim := { program := "ytaccfbpfennjkaa", sum := "4aa8b1c28d021cf474cb0ae4760a222d75d0d9999f9d8887e6779ea7558b771c", func := "scriptorium/scriptoriumlaw17.TideRises", spec := "tideRises", unfollowed := true, recurses := true, apart := false, narrowed := true }
def TideRisesUptoSaid : Prop := tideRisesUptoRow.holds Try.pinned (OpenSpec.upto tideRisesSpec)

/-- 'scriptoriumlaw17.TideBelow', WHERE WHAT IT READS IS OF BULK AT MOST 1048576: true; the input reads as it did. -/
def tideBelowUptoRow : OpenClaim := { program := "ytaccfbpfennjkaa", sum := "4aa8b1c28d021cf474cb0ae4760a222d75d0d9999f9d8887e6779ea7558b771c", func := "scriptorium/scriptoriumlaw17.TideBelow", spec := "tideBelow", unfollowed := true, recurses := true, apart := false, narrowed := true }
def TideBelowUptoSaid : Prop := tideBelowUptoRow.holds Try.pinned (OpenSpec.upto tideBelowSpec)

/-- 'scriptoriumlaw17.TideExact', WHERE WHAT IT READS IS OF BULK AT MOST 1048576: true; the input reads as it did. -/
def tideExactUptoRow : OpenClaim := { program := "ytaccfbpfennjkaa", sum := "4aa8b1c28d021cf474cb0ae4760a222d75d0d9999f9d8887e6779ea7558b771c", func := "scriptorium/scriptoriumlaw17.TideExact", spec := "tideExact", unfollowed := true, recurses := true, apart := false, narrowed := true }
def TideExactUptoSaid : Prop := tideExactUptoRow.holds Try.pinned (OpenSpec.upto tideExactSpec)

/-- 'scriptoriumlaw17.TideKnown', WHERE WHAT IT READS IS OF BULK AT MOST 1048576: true; the input reads as it did. -/
def tideKnownUptoRow : OpenClaim := { program := "ytaccfbpfennjkaa", sum := "4aa8b1c28d021cf474cb0ae4760a222d75d0d9999f9d8887e6779ea7558b771c", func := "scriptorium/scriptoriumlaw17.TideKnown", spec := "tideKnown", unfollowed := true, recurses := true, apart := false, narrowed := true }
def TideKnownUptoSaid : Prop := tideKnownUptoRow.holds Try.pinned (OpenSpec.upto tideKnownSpec)

end Rows
end Go.Proofs.Ytaccfbpfennjkaa
