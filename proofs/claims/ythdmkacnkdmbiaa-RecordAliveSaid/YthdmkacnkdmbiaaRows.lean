/-
  No cell of these rows narrows 'for every input' (looked for: loops, veiled, ifaces, maps, wideKeys, modest, calm, conditions, laid).
  DERIVED. THE GIVEN ROWS OF THIS SEAT. 5 by the template 'for every input the law returns true; each argument reads behind the call as it read before'; 0 by the template 'total and deterministic' (their statements: YthdmkacnkdmbiaaTotals.lean).
  GIVEN WITH THE SEED: the statements are not yours to turn. If you find one false, say at which input.
  Laid BY PROGRAM, IN A SANDBOX (cutbox-rows.mjs): the forced cells as the released guide's own fill.sh prints them over the translation 6fa1341c22c94313… (all of the seat's roots in one cut). By AI agents, Wed Nov 11 2026. No macro, syntax, notation, axiom, sorry.
-/
import Derived.Test.YthdmkacnkdmbiaaChecked
import GoSem.Claim
import GoSem.ClaimJoined
import GoSem.ClaimMapViews
import Derived.JoinedTies
import Derived.KernelRfl
namespace Go.Proofs.Ythdmkacnkdmbiaa
/- THE CELL 'sum', in the pinned program and in every row, IS THE sha256 OF THE DUMP (.gsa) THAT YthdmkacnkdmbiaaProg.lean LOADS. Nothing in Lean hashes anything: it is a label: what it is worth is what the hold of that sum in a sandbox is worth. -/
noncomputable def Try.pinned : Pinned := { name := "ythdmkacnkdmbiaa", sum := "6fa1341c22c943135f2915f9ca4c9fea837008e7446e2246071de22a56f4b085", checked := Try.checked }
namespace Rows
def none {H : Type} : Left H := { results := [], args := [] }

/-- 'scriptoriumlaw20.RecordStays': WHATEVER THE INPUT: true; the input reads as it did. -/
def recordStaysSpec : ChangeSpec := { name := "recordStays", fn := fun _ => fun
  | [d] => { results := [.lit (.bool true)], args := [d] }
  | _ => none }
def recordStaysRow : OpenClaim := { program := "ythdmkacnkdmbiaa", sum := "6fa1341c22c943135f2915f9ca4c9fea837008e7446e2246071de22a56f4b085", func := "scriptorium/scriptoriumlaw20.RecordStays", spec := "recordStays", unfollowed := true, recurses := true, apart := false }
def RecordStaysSaid : Prop := recordStaysRow.holds Try.pinned (OpenSpec.ofChange recordStaysSpec)

/-- ITS FALSE NEIGHBOUR: 'it returns false'. Refute it at one input. -/
def recordStaysWrong : ChangeSpec := { name := "recordStays", fn := fun _ => fun
  | [d] => { results := [.lit (.bool false)], args := [d] }
  | _ => none }
def RecordStaysWrongFalsely : Prop := recordStaysRow.holds Try.pinned (OpenSpec.ofChange recordStaysWrong)

/-- 'scriptoriumlaw20.RecordStaged': WHATEVER THE INPUT: true; the input reads as it did. -/
def recordStagedSpec : ChangeSpec := { name := "recordStaged", fn := fun _ => fun
  | [d] => { results := [.lit (.bool true)], args := [d] }
  | _ => none }
def recordStagedRow : OpenClaim := { program := "ythdmkacnkdmbiaa", sum := "6fa1341c22c943135f2915f9ca4c9fea837008e7446e2246071de22a56f4b085", func := "scriptorium/scriptoriumlaw20.RecordStaged", spec := "recordStaged", unfollowed := true, recurses := true, apart := false }
def RecordStagedSaid : Prop := recordStagedRow.holds Try.pinned (OpenSpec.ofChange recordStagedSpec)

/-- ITS FALSE NEIGHBOUR: 'it returns false'. Refute it at one input. -/
def recordStagedWrong : ChangeSpec := { name := "recordStaged", fn := fun _ => fun
  | [d] => { results := [.lit (.bool false)], args := [d] }
  | _ => none }
def RecordStagedWrongFalsely : Prop := recordStagedRow.holds Try.pinned (OpenSpec.ofChange recordStagedWrong)

/-- 'scriptoriumlaw20.RecordRises': WHATEVER THE INPUT: true; the input reads as it did. -/
def recordRisesSpec : ChangeSpec := { name := "recordRises", fn := fun _ => fun
  | [d] => { results := [.lit (.bool true)], args := [d] }
  | _ => none }
def recordRisesRow : OpenClaim := { program := "ythdmkacnkdmbiaa", sum := "6fa1341c22c943135f2915f9ca4c9fea837008e7446e2246071de22a56f4b085", func := "scriptorium/scriptoriumlaw20.RecordRises", spec := "recordRises", unfollowed := true, recurses := true, apart := false }
def RecordRisesSaid : Prop := recordRisesRow.holds Try.pinned (OpenSpec.ofChange recordRisesSpec)

/-- ITS FALSE NEIGHBOUR: 'it returns false'. Refute it at one input. -/
def recordRisesWrong : ChangeSpec := { name := "recordRises", fn := fun _ => fun
  | [d] => { results := [.lit (.bool false)], args := [d] }
  | _ => none }
def RecordRisesWrongFalsely : Prop := recordRisesRow.holds Try.pinned (OpenSpec.ofChange recordRisesWrong)

/-- 'scriptoriumlaw20.RecordAlive': WHATEVER THE INPUT: true; the input reads as it did. -/
def recordAliveSpec : ChangeSpec := { name := "recordAlive", fn := fun _ => fun
  | [d1, d2] => { results := [.lit (.bool true)], args := [d1, d2] }
  | _ => none }
def recordAliveRow : OpenClaim := { program := "ythdmkacnkdmbiaa", sum := "6fa1341c22c943135f2915f9ca4c9fea837008e7446e2246071de22a56f4b085", func := "scriptorium/scriptoriumlaw20.RecordAlive", spec := "recordAlive", unfollowed := true, recurses := true, apart := false }
def RecordAliveSaid : Prop := recordAliveRow.holds Try.pinned (OpenSpec.ofChange recordAliveSpec)

/-- ITS FALSE NEIGHBOUR: 'it returns false'. Refute it at one input. -/
def recordAliveWrong : ChangeSpec := { name := "recordAlive", fn := fun _ => fun
  | [d1, d2] => { results := [.lit (.bool false)], args := [d1, d2] }
  | _ => none }
def RecordAliveWrongFalsely : Prop := recordAliveRow.holds Try.pinned (OpenSpec.ofChange recordAliveWrong)

/-- 'scriptoriumlaw20.RecordOne': WHATEVER THE INPUT: true; the input reads as it did. -/
def recordOneSpec : ChangeSpec := { name := "recordOne", fn := fun _ => fun
  | [d] => { results := [.lit (.bool true)], args := [d] }
  | _ => none }
def recordOneRow : OpenClaim := { program := "ythdmkacnkdmbiaa", sum := "6fa1341c22c943135f2915f9ca4c9fea837008e7446e2246071de22a56f4b085", func := "scriptorium/scriptoriumlaw20.RecordOne", spec := "recordOne", unfollowed := true, recurses := true, apart := false }
def RecordOneSaid : Prop := recordOneRow.holds Try.pinned (OpenSpec.ofChange recordOneSpec)

/-- ITS FALSE NEIGHBOUR: 'it returns false'. Refute it at one input. -/
def recordOneWrong : ChangeSpec := { name := "recordOne", fn := fun _ => fun
  | [d] => { results := [.lit (.bool false)], args := [d] }
  | _ => none }
def RecordOneWrongFalsely : Prop := recordOneRow.holds Try.pinned (OpenSpec.ofChange recordOneWrong)

/- THE SECOND FORM. 'bulk': how many values and letters a reading holds, each counted each time it is reached (what is shared counts as often as it is met; a slice's spare places count too). A statement '..UptoSaid' is the law's where the arguments, and the package variables that the reading takes, are together of bulk at most 1048576: NARROWER than '..Said'. Prove '..Said' where nothing that the law and all that it calls make is longer than what came in: it says more and counts as full. Else prove '..UptoSaid'. A law counts once. -/
mutual
def uptoBulk {H : Type} : DataW H → Nat
  | .lit (.string bytes) => bytes.length + 1
  | .lit _ => 1
  | .nil => 1
  | .ptr d => uptoBulk d + 1
  | .slice elems spare => uptoBulkAll elems + uptoBulkAll spare + 1
  | .agg parts => uptoBulkAll parts + 1
  | .iface _ d => uptoBulk d + 1
  | .map entries => uptoBulkEntries entries + 1
  | .held _ => 1
def uptoBulkAll {H : Type} : List (DataW H) → Nat
  | [] => 0
  | d :: r => uptoBulk d + uptoBulkAll r
def uptoBulkEntries {H : Type} : List (Lit × DataW H) → Nat
  | [] => 0
  | x :: r => uptoBulkEntry x + uptoBulkEntries r
def uptoBulkEntry {H : Type} : Lit × DataW H → Nat
  | (.string bytes, d) => bytes.length + uptoBulk d + 1
  | (_, d) => uptoBulk d + 1
 end
def uptoSmall : (H : Type) → List (DataW H) → Bool := fun _ ds => decide (uptoBulkAll ds ≤ 1048576)
def OpenSpec.upto (s : _root_.Go.ChangeSpec) : _root_.Go.OpenSpec := { _root_.Go.OpenSpec.ofChange s with cond := some uptoSmall }

/-- 'scriptoriumlaw20.RecordStays', WHERE WHAT IT READS IS OF BULK AT MOST 1048576: true; the input reads as it did. -/
def recordStaysUptoRow : OpenClaim := { program := "ythdmkacnkdmbiaa", sum := "6fa1341c22c943135f2915f9ca4c9fea837008e7446e2246071de22a56f4b085", func := "scriptorium/scriptoriumlaw20.RecordStays", spec := "recordStays", unfollowed := true, recurses := true, apart := false, narrowed := true }
def RecordStaysUptoSaid : Prop := recordStaysUptoRow.holds Try.pinned (OpenSpec.upto recordStaysSpec)

/-- 'scriptoriumlaw20.RecordStaged', WHERE WHAT IT READS IS OF BULK AT MOST 1048576: true; the input reads as it did. -/
def recordStagedUptoRow : OpenClaim := { program := "ythdmkacnkdmbiaa", sum := "6fa1341c22c943135f2915f9ca4c9fea837008e7446e2246071de22a56f4b085", func := "scriptorium/scriptoriumlaw20.RecordStaged", spec := "recordStaged", unfollowed := true, recurses := true, apart := false, narrowed := true }
def RecordStagedUptoSaid : Prop := recordStagedUptoRow.holds Try.pinned (OpenSpec.upto recordStagedSpec)

/-- 'scriptoriumlaw20.RecordRises', WHERE WHAT IT READS IS OF BULK AT MOST 1048576: true; the input reads as it did. -/
def recordRisesUptoRow : OpenClaim := { program := "ythdmkacnkdmbiaa", sum := "6fa1341c22c943135f2915f9ca4c9fea837008e7446e2246071de22a56f4b085", func := "scriptorium/scriptoriumlaw20.RecordRises", spec := "recordRises", unfollowed := true, recurses := true, apart := false, narrowed := true }
def RecordRisesUptoSaid : Prop := recordRisesUptoRow.holds Try.pinned (OpenSpec.upto recordRisesSpec)

/-- 'scriptoriumlaw20.RecordAlive', WHERE WHAT IT READS IS OF BULK AT MOST 1048576: true; the input reads as it did. -/
def recordAliveUptoRow : OpenClaim := { program := "ythdmkacnkdmbiaa", sum := "6fa1341c22c943135f2915f9ca4c9fea837008e7446e2246071de22a56f4b085", func := "scriptorium/scriptoriumlaw20.RecordAlive", spec := "recordAlive", unfollowed := true, recurses := true, apart := false, narrowed := true }
def RecordAliveUptoSaid : Prop := recordAliveUptoRow.holds Try.pinned (OpenSpec.upto recordAliveSpec)

/-- 'scriptoriumlaw20.RecordOne', WHERE WHAT IT READS IS OF BULK AT MOST 1048576: true; the input reads as it did. -/
def recordOneUptoRow : OpenClaim := { program := "ythdmkacnkdmbiaa", sum := "6fa1341c22c943135f2915f9ca4c9fea837008e7446e2246071de22a56f4b085", func := "scriptorium/scriptoriumlaw20.RecordOne", spec := "recordOne", unfollowed := true, recurses := true, apart := false, narrowed := true }
def RecordOneUptoSaid : Prop := recordOneUptoRow.holds Try.pinned (OpenSpec.upto recordOneSpec)

end Rows
end Go.Proofs.Ythdmkacnkdmbiaa
