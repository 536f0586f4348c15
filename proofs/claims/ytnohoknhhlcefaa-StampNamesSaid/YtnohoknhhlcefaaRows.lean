/-
  No cell of these rows narrows 'for every input' (looked for: loops, veiled, ifaces, maps, wideKeys, modest, calm, conditions, laid).
  DERIVED. THE GIVEN ROWS OF THIS SEAT. 8 by the template 'for every input the law returns true; each argument reads behind the call as it read before'; 0 by the template 'total and deterministic' (their statements: YtnohoknhhlcefaaTotals.lean).
  GIVEN WITH THE SEED: the statements are not yours to turn. If you find one false, say at which input.
  Laid BY PROGRAM, IN A SANDBOX (cutbox-rows.mjs): the forced cells as the released guide's own fill.sh prints them over the translation 0ec51fc1e7c02061… (all of the seat's roots in one cut). By AI agents, Wed Nov 11 2026. No macro, syntax, notation, axiom, sorry.
-/
import Derived.Test.YtnohoknhhlcefaaChecked
import GoSem.Claim
import GoSem.ClaimJoined
import GoSem.ClaimMapViews
import Derived.JoinedTies
import Derived.KernelRfl
namespace Go.Proofs.Ytnohoknhhlcefaa
/- THE CELL 'sum', in the pinned program and in every row, IS THE sha256 OF THE DUMP (.gsa) THAT YtnohoknhhlcefaaProg.lean LOADS. Nothing in Lean hashes anything: it is a label: what it is worth is what the hold of that sum in a sandbox is worth. -/
noncomputable def Try.pinned : Pinned := { name := "ytnohoknhhlcefaa", sum := "0ec51fc1e7c0206185df2d60cff1327a66cfed4121e494497c3253905bcbf243", checked := Try.checked }
namespace Rows
def none {H : Type} : Left H := { results := [], args := [] }

/-- 'scriptoriumlaw05.StampChecks': WHATEVER THE INPUT: true; the input reads as it did. -/
def stampChecksSpec : ChangeSpec := { name := "stampChecks", fn := fun _ => fun
  | [d1, d2] => { results := [.lit (.bool true)], args := [d1, d2] }
  | _ => none }
def stampChecksRow : OpenClaim := { program := "ytnohoknhhlcefaa", sum := "0ec51fc1e7c0206185df2d60cff1327a66cfed4121e494497c3253905bcbf243", func := "scriptorium/scriptoriumlaw05.StampChecks", spec := "stampChecks", apart := false }
def StampChecksSaid : Prop := stampChecksRow.holds Try.pinned (OpenSpec.ofChange stampChecksSpec)

/-- ITS FALSE NEIGHBOUR: 'it returns false'. Refute it at one input. -/
def stampChecksWrong : ChangeSpec := { name := "stampChecks", fn := fun _ => fun
  | [d1, d2] => { results := [.lit (.bool false)], args := [d1, d2] }
  | _ => none }
def StampChecksWrongFalsely : Prop := stampChecksRow.holds Try.pinned (OpenSpec.ofChange stampChecksWrong)

/-- 'scriptoriumlaw05.StampSteps': WHATEVER THE INPUT: true; the input reads as it did. -/
def stampStepsSpec : ChangeSpec := { name := "stampSteps", fn := fun _ => fun
  | [d1, d2] => { results := [.lit (.bool true)], args := [d1, d2] }
  | _ => none }
def stampStepsRow : OpenClaim := { program := "ytnohoknhhlcefaa", sum := "0ec51fc1e7c0206185df2d60cff1327a66cfed4121e494497c3253905bcbf243", func := "scriptorium/scriptoriumlaw05.StampSteps", spec := "stampSteps", apart := false }
def StampStepsSaid : Prop := stampStepsRow.holds Try.pinned (OpenSpec.ofChange stampStepsSpec)

/-- ITS FALSE NEIGHBOUR: 'it returns false'. Refute it at one input. -/
def stampStepsWrong : ChangeSpec := { name := "stampSteps", fn := fun _ => fun
  | [d1, d2] => { results := [.lit (.bool false)], args := [d1, d2] }
  | _ => none }
def StampStepsWrongFalsely : Prop := stampStepsRow.holds Try.pinned (OpenSpec.ofChange stampStepsWrong)

/-- 'scriptoriumlaw05.StampNear': WHATEVER THE INPUT: true; the input reads as it did. -/
def stampNearSpec : ChangeSpec := { name := "stampNear", fn := fun _ => fun
  | [d1, d2] => { results := [.lit (.bool true)], args := [d1, d2] }
  | _ => none }
def stampNearRow : OpenClaim := { program := "ytnohoknhhlcefaa", sum := "0ec51fc1e7c0206185df2d60cff1327a66cfed4121e494497c3253905bcbf243", func := "scriptorium/scriptoriumlaw05.StampNear", spec := "stampNear", apart := false }
def StampNearSaid : Prop := stampNearRow.holds Try.pinned (OpenSpec.ofChange stampNearSpec)

/-- ITS FALSE NEIGHBOUR: 'it returns false'. Refute it at one input. -/
def stampNearWrong : ChangeSpec := { name := "stampNear", fn := fun _ => fun
  | [d1, d2] => { results := [.lit (.bool false)], args := [d1, d2] }
  | _ => none }
def StampNearWrongFalsely : Prop := stampNearRow.holds Try.pinned (OpenSpec.ofChange stampNearWrong)

/-- 'scriptoriumlaw05.StampOrder': WHATEVER THE INPUT: true; the input reads as it did. -/
def stampOrderSpec : ChangeSpec := { name := "stampOrder", fn := fun _ => fun
  | [d1, d2, d3] => { results := [.lit (.bool true)], args := [d1, d2, d3] }
  | _ => none }
def stampOrderRow : OpenClaim := { program := "ytnohoknhhlcefaa", sum := "0ec51fc1e7c0206185df2d60cff1327a66cfed4121e494497c3253905bcbf243", func := "scriptorium/scriptoriumlaw05.StampOrder", spec := "stampOrder", apart := false }
def StampOrderSaid : Prop := stampOrderRow.holds Try.pinned (OpenSpec.ofChange stampOrderSpec)

/-- ITS FALSE NEIGHBOUR: 'it returns false'. Refute it at one input. -/
def stampOrderWrong : ChangeSpec := { name := "stampOrder", fn := fun _ => fun
  | [d1, d2, d3] => { results := [.lit (.bool false)], args := [d1, d2, d3] }
  | _ => none }
def StampOrderWrongFalsely : Prop := stampOrderRow.holds Try.pinned (OpenSpec.ofChange stampOrderWrong)

/-- 'scriptoriumlaw05.StampKeeps': WHATEVER THE INPUT: true; the input reads as it did. -/
def stampKeepsSpec : ChangeSpec := { name := "stampKeeps", fn := fun _ => fun
  | [d1, d2, d3] => { results := [.lit (.bool true)], args := [d1, d2, d3] }
  | _ => none }
def stampKeepsRow : OpenClaim := { program := "ytnohoknhhlcefaa", sum := "0ec51fc1e7c0206185df2d60cff1327a66cfed4121e494497c3253905bcbf243", func := "scriptorium/scriptoriumlaw05.StampKeeps", spec := "stampKeeps", apart := false }
def StampKeepsSaid : Prop := stampKeepsRow.holds Try.pinned (OpenSpec.ofChange stampKeepsSpec)

/-- ITS FALSE NEIGHBOUR: 'it returns false'. Refute it at one input. -/
def stampKeepsWrong : ChangeSpec := { name := "stampKeeps", fn := fun _ => fun
  | [d1, d2, d3] => { results := [.lit (.bool false)], args := [d1, d2, d3] }
  | _ => none }
def StampKeepsWrongFalsely : Prop := stampKeepsRow.holds Try.pinned (OpenSpec.ofChange stampKeepsWrong)

/-- 'scriptoriumlaw05.StampMost': WHATEVER THE INPUT: true; the input reads as it did. -/
def stampMostSpec : ChangeSpec := { name := "stampMost", fn := fun _ => fun
  | [d] => { results := [.lit (.bool true)], args := [d] }
  | _ => none }
def stampMostRow : OpenClaim := { program := "ytnohoknhhlcefaa", sum := "0ec51fc1e7c0206185df2d60cff1327a66cfed4121e494497c3253905bcbf243", func := "scriptorium/scriptoriumlaw05.StampMost", spec := "stampMost", unfollowed := true, recurses := true, apart := false }
def StampMostSaid : Prop := stampMostRow.holds Try.pinned (OpenSpec.ofChange stampMostSpec)

/-- ITS FALSE NEIGHBOUR: 'it returns false'. Refute it at one input. -/
def stampMostWrong : ChangeSpec := { name := "stampMost", fn := fun _ => fun
  | [d] => { results := [.lit (.bool false)], args := [d] }
  | _ => none }
def StampMostWrongFalsely : Prop := stampMostRow.holds Try.pinned (OpenSpec.ofChange stampMostWrong)

/-- 'scriptoriumlaw05.StampGreatest': WHATEVER THE INPUT: true; the input reads as it did. -/
def stampGreatestSpec : ChangeSpec := { name := "stampGreatest", fn := fun _ => fun
  | [d1, d2] => { results := [.lit (.bool true)], args := [d1, d2] }
  | _ => none }
def stampGreatestRow : OpenClaim := { program := "ytnohoknhhlcefaa", sum := "0ec51fc1e7c0206185df2d60cff1327a66cfed4121e494497c3253905bcbf243", func := "scriptorium/scriptoriumlaw05.StampGreatest", spec := "stampGreatest", unfollowed := true, recurses := true, apart := false }
def StampGreatestSaid : Prop := stampGreatestRow.holds Try.pinned (OpenSpec.ofChange stampGreatestSpec)

/-- ITS FALSE NEIGHBOUR: 'it returns false'. Refute it at one input. -/
def stampGreatestWrong : ChangeSpec := { name := "stampGreatest", fn := fun _ => fun
  | [d1, d2] => { results := [.lit (.bool false)], args := [d1, d2] }
  | _ => none }
def StampGreatestWrongFalsely : Prop := stampGreatestRow.holds Try.pinned (OpenSpec.ofChange stampGreatestWrong)

/-- 'scriptoriumlaw05.StampNames': WHATEVER THE INPUT: true; the input reads as it did. -/
def stampNamesSpec : ChangeSpec := { name := "stampNames", fn := fun _ => fun
  | [] => { results := [.lit (.bool true)], args := [] }
  | _ => none }
def stampNamesRow : OpenClaim := { program := "ytnohoknhhlcefaa", sum := "0ec51fc1e7c0206185df2d60cff1327a66cfed4121e494497c3253905bcbf243", func := "scriptorium/scriptoriumlaw05.StampNames", spec := "stampNames", unfollowed := true, recurses := true, apart := false }
def StampNamesSaid : Prop := stampNamesRow.holds Try.pinned (OpenSpec.ofChange stampNamesSpec)

/-- ITS FALSE NEIGHBOUR: 'it returns false'. Refute it at one input. -/
def stampNamesWrong : ChangeSpec := { name := "stampNames", fn := fun _ => fun
  | [] => { results := [.lit (.bool false)], args := [] }
  | _ => none }
def StampNamesWrongFalsely : Prop := stampNamesRow.holds Try.pinned (OpenSpec.ofChange stampNamesWrong)

/- THE SECOND FORM. 'bulk': how many values and letters a reading holds, each counted each time it is reached (what is shared counts as often as it is met; a slice's spare places count too). A statement '..UptoSaid' is the law's where the arguments, and the package variables that the reading takes, are together of bulk at most 1048576: NARROWER than '..Said'. Prove '..Said' where nothing that the law and all that it calls make is longer than what came in: it says more and counts as full. Else prove '..UptoSaid'. A law counts once. -/
mutual
def uptoBulk {H : Type} : DataW H → Nat
  | .lit (.string bytes) => bytes.length + 1
  | .lit _ => 1
  | .nil => 1
  | .ptr d => uptoBulk d + 1
  | .slice elems spare => uptoBulkAll elems + uptoBulkAll spare + 1
  | .agg parts => uptoBulkAll parts + 1
  | .iface _ d => uptoBulk d + 1
  | .map entries => uptoBulkEntries entries + 1
  | .held _ => 1
def uptoBulkAll {H : Type} : List (DataW H) → Nat
  | [] => 0
  | d :: r => uptoBulk d + uptoBulkAll r
def uptoBulkEntries {H : Type} : List (Lit × DataW H) → Nat
  | [] => 0
  | x :: r => uptoBulkEntry x + uptoBulkEntries r
def uptoBulkEntry {H : Type} : Lit × DataW H → Nat
  | (.string bytes, d) => bytes.length + uptoBulk d + 1
  | (_, d) => uptoBulk d + 1
 end
def uptoSmall : (H : Type) → List (DataW H) → Bool := fun _ ds => decide (uptoBulkAll ds ≤ 1048576)
def OpenSpec.upto (s : _root_.Go.ChangeSpec) : _root_.Go.OpenSpec := { _root_.Go.OpenSpec.ofChange s with cond := some uptoSmall }

/-- 'scriptoriumlaw05.StampChecks', WHERE WHAT IT READS IS OF BULK AT MOST 1048576: true; the input reads as it did. -/
def stampChecksUptoRow : OpenClaim := { program := "ytnohoknhhlcefaa", sum := "0ec51fc1e7c0206185df2d60cff1327a66cfed4121e494497c3253905bcbf243", func := "scriptorium/scriptoriumlaw05.StampChecks", spec := "stampChecks", apart := false, narrowed := true }
def StampChecksUptoSaid : Prop := stampChecksUptoRow.holds Try.pinned (OpenSpec.upto stampChecksSpec)

/-- 'scriptoriumlaw05.StampSteps', WHERE WHAT IT READS IS OF BULK AT MOST 1048576: true; the input reads as it did. -/
def stampStepsUptoRow : OpenClaim := { program := "ytnohoknhhlcefaa", sum := "0ec51fc1e7c0206185df2d60cff1327a66cfed4121e494497c3253905bcbf243", func := "scriptorium/scriptoriumlaw05.StampSteps", spec := "stampSteps", apart := false, narrowed := true }
def StampStepsUptoSaid : Prop := stampStepsUptoRow.holds Try.pinned (OpenSpec.upto stampStepsSpec)

/-- 'scriptoriumlaw05.StampNear', WHERE WHAT IT READS IS OF BULK AT MOST 1048576: true; the input reads as it did. -/
def stampNearUptoRow : OpenClaim := { program := "ytnohoknhhlcefaa", sum := "0ec51fc1e7c0206185df2d60cff1327a66cfed4121e494497c3253905bcbf243", func := "scriptorium/scriptoriumlaw05.StampNear", spec := "stampNear", apart := false, narrowed := true }
def StampNearUptoSaid : Prop := stampNearUptoRow.holds Try.pinned (OpenSpec.upto stampNearSpec)

/-- 'scriptoriumlaw05.StampOrder', WHERE WHAT IT READS IS OF BULK AT MOST 1048576: true; the input reads as it did. -/
def stampOrderUptoRow : OpenClaim := { program := "ytnohoknhhlcefaa", sum := "0ec51fc1e7c0206185df2d60cff1327a66cfed4121e494497c3253905bcbf243", func := "scriptorium/scriptoriumlaw05.StampOrder", spec := "stampOrder", apart := false, narrowed := true }
def StampOrderUptoSaid : Prop := stampOrderUptoRow.holds Try.pinned (OpenSpec.upto stampOrderSpec)

/-- 'scriptoriumlaw05.StampKeeps', WHERE WHAT IT READS IS OF BULK AT MOST 1048576: true; the input reads as it did. -/
def stampKeepsUptoRow : OpenClaim := { program := "ytnohoknhhlcefaa", sum := "0ec51fc1e7c0206185df2d60cff1327a66cfed4121e494497c3253905bcbf243", func := "scriptorium/scriptoriumlaw05.StampKeeps", spec := "stampKeeps", apart := false, narrowed := true }
def StampKeepsUptoSaid : Prop := stampKeepsUptoRow.holds Try.pinned (OpenSpec.upto stampKeepsSpec)

/-- 'scriptoriumlaw05.StampMost', WHERE WHAT IT READS IS OF BULK AT MOST 1048576: true; the input reads as it did. -/
def stampMostUptoRow : OpenClaim := { program := "ytnohoknhhlcefaa", sum := "0ec51fc1e7c0206185df2d60cff1327a66cfed4121e494497c3253905bcbf243", func := "scriptorium/scriptoriumlaw05.StampMost", spec := "stampMost", unfollowed := true, recurses := true, apart := false, narrowed := true }
def StampMostUptoSaid : Prop := stampMostUptoRow.holds Try.pinned (OpenSpec.upto stampMostSpec)

/-- 'scriptoriumlaw05.StampGreatest', WHERE WHAT IT READS IS OF BULK AT MOST 1048576: true; the input reads as it did. -/
def stampGreatestUptoRow : OpenClaim := { program := "ytnohoknhhlcefaa", sum := "0ec51fc1e7c0206185df2d60cff1327a66cfed4121e494497c3253905bcbf243", func := "scriptorium/scriptoriumlaw05.StampGreatest", spec := "stampGreatest", unfollowed := true, recurses := true, apart := false, narrowed := true }
def StampGreatestUptoSaid : Prop := stampGreatestUptoRow.holds Try.pinned (OpenSpec.upto stampGreatestSpec)

/-- 'scriptoriumlaw05.StampNames', WHERE WHAT IT READS IS OF BULK AT MOST 1048576: true; the input reads as it did. -/
def stampNamesUptoRow : OpenClaim := { program := "ytnohoknhhlcefaa", sum := "0ec51fc1e7c0206185df2d60cff1327a66cfed4121e494497c3253905bcbf243", func := "scriptorium/scriptoriumlaw05.StampNames", spec := "stampNames", unfollowed := true, recurses := true, apart := false, narrowed := true }
def StampNamesUptoSaid : Prop := stampNamesUptoRow.holds Try.pinned (OpenSpec.upto stampNamesSpec)

end Rows
end Go.Proofs.Ytnohoknhhlcefaa
