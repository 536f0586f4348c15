/-
  No cell of these rows narrows 'for every input' (looked for: loops, veiled, ifaces, maps, wideKeys, modest, calm, conditions, laid).
  DERIVED. THE GIVEN ROWS OF THIS SEAT. 6 by the template 'for every input the law returns true; each argument reads behind the call as it read before'; 0 by the template 'total and deterministic' (their statements: YthhgoiabkgfdfaaTotals.lean).
  GIVEN WITH THE SEED: the statements are not yours to turn. If you find one false, say at which input.
  Laid BY PROGRAM, IN A SANDBOX (cutbox-rows.mjs): the forced cells as the released guide's own fill.sh prints them over the translation 403129e94fd8f571… (all of the seat's roots in one cut). By AI agents, Wed Nov 11 2026. No macro, syntax, notation, axiom, sorry.
-/
import Derived.Test.YthhgoiabkgfdfaaChecked
import GoSem.Claim
import GoSem.ClaimJoined
import GoSem.ClaimMapViews
import Derived.JoinedTies
import Derived.KernelRfl
namespace Go.Proofs.Ythhgoiabkgfdfaa
/- THE CELL 'sum', in the pinned program and in every row, IS THE sha256 OF THE DUMP (.gsa) THAT YthhgoiabkgfdfaaProg.lean LOADS. Nothing in Lean hashes anything: it is a label: what it is worth is what the hold of that sum in a sandbox is worth. -/
noncomputable def Try.pinned : Pinned := { name := "ythhgoiabkgfdfaa", sum := "403129e94fd8f5710f418a91ee8688747ea5f93bc79b545f11f3b94f9510237e", checked := Try.checked }
namespace Rows
def none {H : Type} : Left H := { results := [], args := [] }

/-- 'scriptoriumlaw06.ClockTalks': WHATEVER THE INPUT: true; the input reads as it did. -/
def clockTalksSpec : ChangeSpec := { name := "clockTalks", fn := fun _ => fun
  | [d] => { results := [.lit (.bool true)], args := [d] }
  | _ => none }
def clockTalksRow : OpenClaim := { program := "ythhgoiabkgfdfaa", sum := "403129e94fd8f5710f418a91ee8688747ea5f93bc79b545f11f3b94f9510237e", func := "scriptorium/scriptoriumlaw06.ClockTalks", spec := "clockTalks", unfollowed := true, recurses := true, apart := false }
def ClockTalksSaid : Prop := clockTalksRow.holds Try.pinned (OpenSpec.ofChange clockTalksSpec)

/-- ITS FALSE NEIGHBOUR: 'it returns false'. Refute it at one input. -/
def clockTalksWrong : ChangeSpec := { name := "clockTalks", fn := fun _ => fun
  | [d] => { results := [.lit (.bool false)], args := [d] }
  | _ => none }
def ClockTalksWrongFalsely : Prop := clockTalksRow.holds Try.pinned (OpenSpec.ofChange clockTalksWrong)

/-- 'scriptoriumlaw06.ClockPlays': WHATEVER THE INPUT: true; the input reads as it did. -/
def clockPlaysSpec : ChangeSpec := { name := "clockPlays", fn := fun _ => fun
  | [d1, d2, d3] => { results := [.lit (.bool true)], args := [d1, d2, d3] }
  | _ => none }
def clockPlaysRow : OpenClaim := { program := "ythhgoiabkgfdfaa", sum := "403129e94fd8f5710f418a91ee8688747ea5f93bc79b545f11f3b94f9510237e", func := "scriptorium/scriptoriumlaw06.ClockPlays", spec := "clockPlays", unfollowed := true, recurses := true, apart := false }
def ClockPlaysSaid : Prop := clockPlaysRow.holds Try.pinned (OpenSpec.ofChange clockPlaysSpec)

/-- ITS FALSE NEIGHBOUR: 'it returns false'. Refute it at one input. -/
def clockPlaysWrong : ChangeSpec := { name := "clockPlays", fn := fun _ => fun
  | [d1, d2, d3] => { results := [.lit (.bool false)], args := [d1, d2, d3] }
  | _ => none }
def ClockPlaysWrongFalsely : Prop := clockPlaysRow.holds Try.pinned (OpenSpec.ofChange clockPlaysWrong)

/-- 'scriptoriumlaw06.ClockStays': WHATEVER THE INPUT: true; the input reads as it did. -/
def clockStaysSpec : ChangeSpec := { name := "clockStays", fn := fun _ => fun
  | [d1, d2, d3] => { results := [.lit (.bool true)], args := [d1, d2, d3] }
  | _ => none }
def clockStaysRow : OpenClaim := { program := "ythhgoiabkgfdfaa", sum := "403129e94fd8f5710f418a91ee8688747ea5f93bc79b545f11f3b94f9510237e", func := "scriptorium/scriptoriumlaw06.ClockStays", spec := "clockStays", unfollowed := true, recurses := true, apart := false }
def ClockStaysSaid : Prop := clockStaysRow.holds Try.pinned (OpenSpec.ofChange clockStaysSpec)

/-- ITS FALSE NEIGHBOUR: 'it returns false'. Refute it at one input. -/
def clockStaysWrong : ChangeSpec := { name := "clockStays", fn := fun _ => fun
  | [d1, d2, d3] => { results := [.lit (.bool false)], args := [d1, d2, d3] }
  | _ => none }
def ClockStaysWrongFalsely : Prop := clockStaysRow.holds Try.pinned (OpenSpec.ofChange clockStaysWrong)

/-- 'scriptoriumlaw06.ClockNames': WHATEVER THE INPUT: true; the input reads as it did. -/
def clockNamesSpec : ChangeSpec := { name := "clockNames", fn := fun _ => fun
  | [] => { results := [.lit (.bool true)], args := [] }
  | _ => none }
def clockNamesRow : OpenClaim := { program := "ythhgoiabkgfdfaa", sum := "403129e94fd8f5710f418a91ee8688747ea5f93bc79b545f11f3b94f9510237e", func := "scriptorium/scriptoriumlaw06.ClockNames", spec := "clockNames", unfollowed := true, recurses := true, apart := false }
def ClockNamesSaid : Prop := clockNamesRow.holds Try.pinned (OpenSpec.ofChange clockNamesSpec)

/-- ITS FALSE NEIGHBOUR: 'it returns false'. Refute it at one input. -/
def clockNamesWrong : ChangeSpec := { name := "clockNames", fn := fun _ => fun
  | [] => { results := [.lit (.bool false)], args := [] }
  | _ => none }
def ClockNamesWrongFalsely : Prop := clockNamesRow.holds Try.pinned (OpenSpec.ofChange clockNamesWrong)

/-- 'scriptoriumlaw06.ClockRises': WHATEVER THE INPUT: true; the input reads as it did. -/
def clockRisesSpec : ChangeSpec := { name := "clockRises", fn := fun _ => fun
  | [d1, d2] => { results := [.lit (.bool true)], args := [d1, d2] }
  | _ => none }
def clockRisesRow : OpenClaim := { program := "ythhgoiabkgfdfaa", sum := "403129e94fd8f5710f418a91ee8688747ea5f93bc79b545f11f3b94f9510237e", func := "scriptorium/scriptoriumlaw06.ClockRises", spec := "clockRises", unfollowed := true, recurses := true, apart := false }
def ClockRisesSaid : Prop := clockRisesRow.holds Try.pinned (OpenSpec.ofChange clockRisesSpec)

/-- ITS FALSE NEIGHBOUR: 'it returns false'. Refute it at one input. -/
def clockRisesWrong : ChangeSpec := { name := "clockRises", fn := fun _ => fun
  | [d1, d2] => { results := [.lit (.bool false)], args := [d1, d2] }
  | _ => none }
def ClockRisesWrongFalsely : Prop := clockRisesRow.holds Try.pinned (OpenSpec.ofChange clockRisesWrong)

/-- 'scriptoriumlaw06.ClockAnew': WHATEVER THE INPUT: true; the input reads as it did. -/
def clockAnewSpec : ChangeSpec := { name := "clockAnew", fn := fun _ => fun
  | [d1, d2] => { results := [.lit (.bool true)], args := [d1, d2] }
  | _ => none }
def clockAnewRow : OpenClaim := { program := "ythhgoiabkgfdfaa", sum := "403129e94fd8f5710f418a91ee8688747ea5f93bc79b545f11f3b94f9510237e", func := "scriptorium/scriptoriumlaw06.ClockAnew", spec := "clockAnew", unfollowed := true, recurses := true, apart := false }
def ClockAnewSaid : Prop := clockAnewRow.holds Try.pinned (OpenSpec.ofChange clockAnewSpec)

/-- ITS FALSE NEIGHBOUR: 'it returns false'. Refute it at one input. -/
def clockAnewWrong : ChangeSpec := { name := "clockAnew", fn := fun _ => fun
  | [d1, d2] => { results := [.lit (.bool false)], args := [d1, d2] }
  | _ => none }
def ClockAnewWrongFalsely : Prop := clockAnewRow.holds Try.pinned (OpenSpec.ofChange clockAnewWrong)

/- THE SECOND FORM. 'bulk': how many values and letters a reading holds, each counted each time it is reached (what is shared counts as often as it is met; a slice's spare places count too). A statement '..UptoSaid' is the law's where the arguments, and the package variables that the reading takes, are together of bulk at most 1048576: NARROWER than '..Said'. Prove '..Said' where nothing that the law and all that it calls make is longer than what came in: it says more and counts as full. Else prove '..UptoSaid'. A law counts once. -/
mutual
def uptoBulk {H : Type} : DataW H → Nat
  | .lit (.string bytes) => bytes.length + 1
  | .lit _ => 1
  | .nil => 1
  | .ptr d => uptoBulk d + 1
  | .slice elems spare => uptoBulkAll elems + uptoBulkAll spare + 1
  | .agg parts => uptoBulkAll parts + 1
  | .iface _ d => uptoBulk d + 1
  | .map entries => uptoBulkEntries entries + 1
  | .held _ => 1
def uptoBulkAll {H : Type} : List (DataW H) → Nat
  | [] => 0
  | d :: r => uptoBulk d + uptoBulkAll r
def uptoBulkEntries {H : Type} : List (Lit × DataW H) → Nat
  | [] => 0
  | x :: r => uptoBulkEntry x + uptoBulkEntries r
def uptoBulkEntry {H : Type} : Lit × DataW H → Nat
  | (.string bytes, d) => bytes.length + uptoBulk d + 1
  | (_, d) => uptoBulk d + 1
 end
def uptoSmall : (H : Type) → List (DataW H) → Bool := fun _ ds => decide (uptoBulkAll ds ≤ 1048576)
def OpenSpec.upto (s : _root_.Go.ChangeSpec) : _root_.Go.OpenSpec := { _root_.Go.OpenSpec.ofChange s with cond := some uptoSmall }

/-- 'scriptoriumlaw06.ClockTalks', WHERE WHAT IT READS IS OF BULK AT MOST 1048576: true; the input reads as it did. -/
def clockTalksUptoRow : OpenClaim := { program := "ythhgoiabkgfdfaa", sum := "403129e94fd8f5710f418a91ee8688747ea5f93bc79b545f11f3b94f9510237e", func := "scriptorium/scriptoriumlaw06.ClockTalks", spec := "clockTalks", unfollowed := true, recurses := true, apart := false, narrowed := true }
def ClockTalksUptoSaid : Prop := clockTalksUptoRow.holds Try.pinned (OpenSpec.upto clockTalksSpec)

/-- 'scriptoriumlaw06.ClockPlays', WHERE WHAT IT READS IS OF BULK AT MOST 1048576: true; the input reads as it did. -/
def clockPlaysUptoRow : OpenClaim := { program := "ythhgoiabkgfdfaa", sum := "403129e94fd8f5710f418a91ee8688747ea5f93bc79b545f11f3b94f9510237e", func := "scriptorium/scriptoriumlaw06.ClockPlays", spec := "clockPlays", unfollowed := true, recurses := true, apart := false, narrowed := true }
def ClockPlaysUptoSaid : Prop := clockPlaysUptoRow.holds Try.pinned (OpenSpec.upto clockPlaysSpec)

/-- 'scriptoriumlaw06.ClockStays', WHERE WHAT IT READS IS OF BULK AT MOST 1048576: true; the input reads as it did. -/
def clockStaysUptoRow : OpenClaim := { program := "ythhgoiabkgfdfaa", sum := "403129e94fd8f5710f418a91ee8688747ea5f93bc79b545f11f3b94f9510237e", func := "scriptorium/scriptoriumlaw06.ClockStays", spec := "clockStays", unfollowed := true, recurses := true, apart := false, narrowed := true }
def ClockStaysUptoSaid : Prop := clockStaysUptoRow.holds Try.pinned (OpenSpec.upto clockStaysSpec)

/-- 'scriptoriumlaw06.ClockNames', WHERE WHAT IT READS IS OF BULK AT MOST 1048576: true; the input reads as it did. -/
def clockNamesUptoRow : OpenClaim := { program := "ythhgoiabkgfdfaa", sum := "403129e94fd8f5710f418a91ee8688747ea5f93bc79b545f11f3b94f9510237e", func := "scriptorium/scriptoriumlaw06.ClockNames", spec := "clockNames", unfollowed := true, recurses := true, apart := false, narrowed := true }
def ClockNamesUptoSaid : Prop := clockNamesUptoRow.holds Try.pinned (OpenSpec.upto clockNamesSpec)

/-- 'scriptoriumlaw06.ClockRises', WHERE WHAT IT READS IS OF BULK AT MOST 1048576: true; the input reads as it did. -/
def clockRisesUptoRow : OpenClaim := { program := "ythhgoiabkgfdfaa", sum := "403129e94fd8f5710f418a91ee8688747ea5f93bc79b545f11f3b94f9510237e", func := "scriptorium/scriptoriumlaw06.ClockRises", spec := "clockRises", unfollowed := true, recurses := true, apart := false, narrowed := true }
def ClockRisesUptoSaid : Prop := clockRisesUptoRow.holds Try.pinned (OpenSpec.upto clockRisesSpec)

/-- 'scriptoriumlaw06.ClockAnew', WHERE WHAT IT READS IS OF BULK AT MOST 1048576: true; the input reads as it did. -/
def clockAnewUptoRow : OpenClaim := { program := "ythhgoiabkgfdfaa", sum := "403129e94fd8f5710f418a91ee8688747ea5f93bc79b545f11f3b94f9510237e", func := "scriptorium/scriptoriumlaw06.ClockAnew", spec := "clockAnew", unfollowed := true, recurses := true, apart := false, narrowed := true }
def ClockAnewUptoSaid : Prop := clockAnewUptoRow.holds Try.pinned (OpenSpec.upto clockAnewSpec)

end Rows
end Go.Proofs.Ythhgoiabkgfdfaa
