/-
  No cell of these rows narrows 'for every input' (looked for: loops, veiled, ifaces, maps, wideKeys, modest, calm, conditions, laid).
  DERIVED. THE GIVEN ROWS OF THIS SEAT. 11 by the template 'for every input the law returns true; each argument reads behind the call as it read before'; 0 by the template 'total and deterministic' (their statements: YtclbcmblgbinpaaTotals.lean).
  GIVEN WITH THE SEED: the statements are not yours to turn. If you find one false, say at which input.
  Laid BY PROGRAM, IN A SANDBOX (cutbox-rows.mjs): the forced cells as the released guide's own fill.sh prints them over the translation 1dff8f2c63ae305c… (all of the seat's roots in one cut). By AI agents, Wed Nov 11 2026. No macro, syntax, notation, axiom, sorry.
-/
import Derived.Test.YtclbcmblgbinpaaChecked
import GoSem.Claim
import GoSem.ClaimJoined
import GoSem.ClaimMapViews
import Derived.JoinedTies
import Derived.KernelRfl
namespace Go.Proofs.Ytclbcmblgbinpaa
/- THE CELL 'sum', in the pinned program and in every row, IS THE sha256 OF THE DUMP (.gsa) THAT YtclbcmblgbinpaaProg.lean LOADS. Nothing in Lean hashes anything: it is a label: what it is worth is what the hold of that sum in a sandbox is worth. -/
noncomputable def Try.pinned : Pinned := { name := "ytclbcmblgbinpaa", sum := "1dff8f2c63ae305c92319e2cb566d74a0cec02771334bf16123f537a86480aeb", checked := Try.checked }
namespace Rows
def none {H : Type} : Left H := { results := [], args := [] }

/-- 'scriptoriumlaw01.QuillNum': WHATEVER THE INPUT: true; the input reads as it did. -/
def quillNumSpec : ChangeSpec := { name := "quillNum", fn := fun _ => fun
  | [d] => { results := [.lit (.bool true)], args := [d] }
  | _ => none }
def quillNumRow : OpenClaim := { program := "ytclbcmblgbinpaa", sum := "1dff8f2c63ae305c92319e2cb566d74a0cec02771334bf16123f537a86480aeb", func := "scriptorium/scriptoriumlaw01.QuillNum", spec := "quillNum", apart := false }
def QuillNumSaid : Prop := quillNumRow.holds Try.pinned (OpenSpec.ofChange quillNumSpec)

/-- ITS FALSE NEIGHBOUR: 'it returns false'. Refute it at one input. -/
def quillNumWrong : ChangeSpec := { name := "quillNum", fn := fun _ => fun
  | [d] => { results := [.lit (.bool false)], args := [d] }
  | _ => none }
def QuillNumWrongFalsely : Prop := quillNumRow.holds Try.pinned (OpenSpec.ofChange quillNumWrong)

/-- 'scriptoriumlaw01.QuillTakes': WHATEVER THE INPUT: true; the input reads as it did. -/
def quillTakesSpec : ChangeSpec := { name := "quillTakes", fn := fun _ => fun
  | [d1, d2] => { results := [.lit (.bool true)], args := [d1, d2] }
  | _ => none }
def quillTakesRow : OpenClaim := { program := "ytclbcmblgbinpaa", sum := "1dff8f2c63ae305c92319e2cb566d74a0cec02771334bf16123f537a86480aeb", func := "scriptorium/scriptoriumlaw01.QuillTakes", spec := "quillTakes", apart := false }
def QuillTakesSaid : Prop := quillTakesRow.holds Try.pinned (OpenSpec.ofChange quillTakesSpec)

/-- ITS FALSE NEIGHBOUR: 'it returns false'. Refute it at one input. -/
def quillTakesWrong : ChangeSpec := { name := "quillTakes", fn := fun _ => fun
  | [d1, d2] => { results := [.lit (.bool false)], args := [d1, d2] }
  | _ => none }
def QuillTakesWrongFalsely : Prop := quillTakesRow.holds Try.pinned (OpenSpec.ofChange quillTakesWrong)

/-- 'scriptoriumlaw01.QuillStr': WHATEVER THE INPUT: true; the input reads as it did. -/
def quillStrSpec : ChangeSpec := { name := "quillStr", fn := fun _ => fun
  | [d1, d2] => { results := [.lit (.bool true)], args := [d1, d2] }
  | _ => none }
def quillStrRow : OpenClaim := { program := "ytclbcmblgbinpaa", sum := "1dff8f2c63ae305c92319e2cb566d74a0cec02771334bf16123f537a86480aeb", func := "scriptorium/scriptoriumlaw01.QuillStr", spec := "quillStr", apart := false }
def QuillStrSaid : Prop := quillStrRow.holds Try.pinned (OpenSpec.ofChange quillStrSpec)

/-- ITS FALSE NEIGHBOUR: 'it returns false'. Refute it at one input. -/
def quillStrWrong : ChangeSpec := { name := "quillStr", fn := fun _ => fun
  | [d1, d2] => { results := [.lit (.bool false)], args := [d1, d2] }
  | _ => none }
def QuillStrWrongFalsely : Prop := quillStrRow.holds Try.pinned (OpenSpec.ofChange quillStrWrong)

/-- 'scriptoriumlaw01.QuillBack': WHATEVER THE INPUT: true; the input reads as it did. -/
def quillBackSpec : ChangeSpec := { name := "quillBack", fn := fun _ => fun
  | [d1, d2, d3] => { results := [.lit (.bool true)], args := [d1, d2, d3] }
  | _ => none }
def quillBackRow : OpenClaim := { program := "ytclbcmblgbinpaa", sum := "1dff8f2c63ae305c92319e2cb566d74a0cec02771334bf16123f537a86480aeb", func := "scriptorium/scriptoriumlaw01.QuillBack", spec := "quillBack", apart := false }
def QuillBackSaid : Prop := quillBackRow.holds Try.pinned (OpenSpec.ofChange quillBackSpec)

/-- ITS FALSE NEIGHBOUR: 'it returns false'. Refute it at one input. -/
def quillBackWrong : ChangeSpec := { name := "quillBack", fn := fun _ => fun
  | [d1, d2, d3] => { results := [.lit (.bool false)], args := [d1, d2, d3] }
  | _ => none }
def QuillBackWrongFalsely : Prop := quillBackRow.holds Try.pinned (OpenSpec.ofChange quillBackWrong)

/-- 'scriptoriumlaw01.QuillAgain': WHATEVER THE INPUT: true; the input reads as it did. -/
def quillAgainSpec : ChangeSpec := { name := "quillAgain", fn := fun _ => fun
  | [d] => { results := [.lit (.bool true)], args := [d] }
  | _ => none }
def quillAgainRow : OpenClaim := { program := "ytclbcmblgbinpaa", sum := "1dff8f2c63ae305c92319e2cb566d74a0cec02771334bf16123f537a86480aeb", func := "scriptorium/scriptoriumlaw01.QuillAgain", spec := "quillAgain", apart := false }
def QuillAgainSaid : Prop := quillAgainRow.holds Try.pinned (OpenSpec.ofChange quillAgainSpec)

/-- ITS FALSE NEIGHBOUR: 'it returns false'. Refute it at one input. -/
def quillAgainWrong : ChangeSpec := { name := "quillAgain", fn := fun _ => fun
  | [d] => { results := [.lit (.bool false)], args := [d] }
  | _ => none }
def QuillAgainWrongFalsely : Prop := quillAgainRow.holds Try.pinned (OpenSpec.ofChange quillAgainWrong)

/-- 'scriptoriumlaw01.QuillCut': WHATEVER THE INPUT: true; the input reads as it did. -/
def quillCutSpec : ChangeSpec := { name := "quillCut", fn := fun _ => fun
  | [d1, d2, d3] => { results := [.lit (.bool true)], args := [d1, d2, d3] }
  | _ => none }
def quillCutRow : OpenClaim := { program := "ytclbcmblgbinpaa", sum := "1dff8f2c63ae305c92319e2cb566d74a0cec02771334bf16123f537a86480aeb", func := "scriptorium/scriptoriumlaw01.QuillCut", spec := "quillCut", apart := false }
def QuillCutSaid : Prop := quillCutRow.holds Try.pinned (OpenSpec.ofChange quillCutSpec)

/-- ITS FALSE NEIGHBOUR: 'it returns false'. Refute it at one input. -/
def quillCutWrong : ChangeSpec := { name := "quillCut", fn := fun _ => fun
  | [d1, d2, d3] => { results := [.lit (.bool false)], args := [d1, d2, d3] }
  | _ => none }
def QuillCutWrongFalsely : Prop := quillCutRow.holds Try.pinned (OpenSpec.ofChange quillCutWrong)

/-- 'scriptoriumlaw01.QuillMost': WHATEVER THE INPUT: true; the input reads as it did. -/
def quillMostSpec : ChangeSpec := { name := "quillMost", fn := fun _ => fun
  | [d1, d2] => { results := [.lit (.bool true)], args := [d1, d2] }
  | _ => none }
def quillMostRow : OpenClaim := { program := "ytclbcmblgbinpaa", sum := "1dff8f2c63ae305c92319e2cb566d74a0cec02771334bf16123f537a86480aeb", func := "scriptorium/scriptoriumlaw01.QuillMost", spec := "quillMost", apart := false }
def QuillMostSaid : Prop := quillMostRow.holds Try.pinned (OpenSpec.ofChange quillMostSpec)

/-- ITS FALSE NEIGHBOUR: 'it returns false'. Refute it at one input. -/
def quillMostWrong : ChangeSpec := { name := "quillMost", fn := fun _ => fun
  | [d1, d2] => { results := [.lit (.bool false)], args := [d1, d2] }
  | _ => none }
def QuillMostWrongFalsely : Prop := quillMostRow.holds Try.pinned (OpenSpec.ofChange quillMostWrong)

/-- 'scriptoriumlaw01.QuillKnown': WHATEVER THE INPUT: true; the input reads as it did. -/
def quillKnownSpec : ChangeSpec := { name := "quillKnown", fn := fun _ => fun
  | [] => { results := [.lit (.bool true)], args := [] }
  | _ => none }
def quillKnownRow : OpenClaim := { program := "ytclbcmblgbinpaa", sum := "1dff8f2c63ae305c92319e2cb566d74a0cec02771334bf16123f537a86480aeb", func := "scriptorium/scriptoriumlaw01.QuillKnown", spec := "quillKnown", apart := false }
def QuillKnownSaid : Prop := quillKnownRow.holds Try.pinned (OpenSpec.ofChange quillKnownSpec)

/-- ITS FALSE NEIGHBOUR: 'it returns false'. Refute it at one input. -/
def quillKnownWrong : ChangeSpec := { name := "quillKnown", fn := fun _ => fun
  | [] => { results := [.lit (.bool false)], args := [] }
  | _ => none }
def QuillKnownWrongFalsely : Prop := quillKnownRow.holds Try.pinned (OpenSpec.ofChange quillKnownWrong)

/-- 'scriptoriumlaw01.QuillApart': WHATEVER THE INPUT: true; the input reads as it did. -/
def quillApartSpec : ChangeSpec := { name := "quillApart", fn := fun _ => fun
  | [d1, d2] => { results := [.lit (.bool true)], args := [d1, d2] }
  | _ => none }
def quillApartRow : OpenClaim := { program := "ytclbcmblgbinpaa", sum := "1dff8f2c63ae305c92319e2cb566d74a0cec02771334bf16123f537a86480aeb", func := "scriptorium/scriptoriumlaw01.QuillApart", spec := "quillApart", apart := false }
def QuillApartSaid : Prop := quillApartRow.holds Try.pinned (OpenSpec.ofChange quillApartSpec)

/-- ITS FALSE NEIGHBOUR: 'it returns false'. Refute it at one input. -/
def quillApartWrong : ChangeSpec := { name := "quillApart", fn := fun _ => fun
  | [d1, d2] => { results := [.lit (.bool false)], args := [d1, d2] }
  | _ => none }
def QuillApartWrongFalsely : Prop := quillApartRow.holds Try.pinned (OpenSpec.ofChange quillApartWrong)

/-- 'scriptoriumlaw01.QuillOrder': WHATEVER THE INPUT: true; the input reads as it did. -/
def quillOrderSpec : ChangeSpec := { name := "quillOrder", fn := fun _ => fun
  | [d1, d2] => { results := [.lit (.bool true)], args := [d1, d2] }
  | _ => none }
def quillOrderRow : OpenClaim := { program := "ytclbcmblgbinpaa", sum := "1dff8f2c63ae305c92319e2cb566d74a0cec02771334bf16123f537a86480aeb", func := "scriptorium/scriptoriumlaw01.QuillOrder", spec := "quillOrder", inPlace := ["internal/bytealg.Compare"], apart := false }
def QuillOrderSaid : Prop := quillOrderRow.holds Try.pinned (OpenSpec.ofChange quillOrderSpec)

/-- ITS FALSE NEIGHBOUR: 'it returns false'. Refute it at one input. -/
def quillOrderWrong : ChangeSpec := { name := "quillOrder", fn := fun _ => fun
  | [d1, d2] => { results := [.lit (.bool false)], args := [d1, d2] }
  | _ => none }
def QuillOrderWrongFalsely : Prop := quillOrderRow.holds Try.pinned (OpenSpec.ofChange quillOrderWrong)

/-- 'scriptoriumlaw01.QuillJoin': WHATEVER THE INPUT: true; the input reads as it did. -/
def quillJoinSpec : ChangeSpec := { name := "quillJoin", fn := fun _ => fun
  | [d] => { results := [.lit (.bool true)], args := [d] }
  | _ => none }
def quillJoinRow : OpenClaim := { program := "ytclbcmblgbinpaa", sum := "1dff8f2c63ae305c92319e2cb566d74a0cec02771334bf16123f537a86480aeb", func := "scriptorium/scriptoriumlaw01.QuillJoin", spec := "quillJoin", apart := false }
def QuillJoinSaid : Prop := quillJoinRow.holds Try.pinned (OpenSpec.ofChange quillJoinSpec)

/-- ITS FALSE NEIGHBOUR: 'it returns false'. Refute it at one input. -/
def quillJoinWrong : ChangeSpec := { name := "quillJoin", fn := fun _ => fun
  | [d] => { results := [.lit (.bool false)], args := [d] }
  | _ => none }
def QuillJoinWrongFalsely : Prop := quillJoinRow.holds Try.pinned (OpenSpec.ofChange quillJoinWrong)

/- THE SECOND FORM. 'bulk': how many values and letters a reading holds, each counted each time it is reached (what is shared counts as often as it is met; a slice's spare places count too). A statement '..UptoSaid' is the law's where the arguments, and the package variables that the reading takes, are together of bulk at most 1048576: NARROWER than '..Said'. Prove '..Said' where nothing that the law and all that it calls make is longer than what came in: it says more and counts as full. Else prove '..UptoSaid'. A law counts once. -/
mutual
def uptoBulk {H : Type} : DataW H → Nat
  | .lit (.string bytes) => bytes.length + 1
  | .lit _ => 1
  | .nil => 1
  | .ptr d => uptoBulk d + 1
  | .slice elems spare => uptoBulkAll elems + uptoBulkAll spare + 1
  | .agg parts => uptoBulkAll parts + 1
  | .iface _ d => uptoBulk d + 1
  | .map entries => uptoBulkEntries entries + 1
  | .held _ => 1
def uptoBulkAll {H : Type} : List (DataW H) → Nat
  | [] => 0
  | d :: r => uptoBulk d + uptoBulkAll r
def uptoBulkEntries {H : Type} : List (Lit × DataW H) → Nat
  | [] => 0
  | x :: r => uptoBulkEntry x + uptoBulkEntries r
def uptoBulkEntry {H : Type} : Lit × DataW H → Nat
  | (.string bytes, d) => bytes.length + uptoBulk d + 1
  | (_, d) => uptoBulk d + 1
 end
def uptoSmall : (H : Type) → List (DataW H) → Bool := fun _ ds => decide (uptoBulkAll ds ≤ 1048576)
def OpenSpec.upto (s : _root_.Go.ChangeSpec) : _root_.Go.OpenSpec := { _root_.Go.OpenSpec.ofChange s with cond := some uptoSmall }

/-- 'scriptoriumlaw01.QuillNum', WHERE WHAT IT READS IS OF BULK AT MOST 1048576: true; the input reads as it did. -/
def quillNumUptoRow : OpenClaim := { program := "ytclbcmblgbinpaa", sum := "1dff8f2c63ae305c92319e2cb566d74a0cec02771334bf16123f537a86480aeb", func := "scriptorium/scriptoriumlaw01.QuillNum", spec := "quillNum", apart := false, narrowed := true }
def QuillNumUptoSaid : Prop := quillNumUptoRow.holds Try.pinned (OpenSpec.upto quillNumSpec)

/-- 'scriptoriumlaw01.QuillTakes', WHERE WHAT IT READS IS OF BULK AT MOST 1048576: true; the input reads as it did. -/
def quillTakesUptoRow : OpenClaim := { program := "ytclbcmblgbinpaa", sum := "1dff8f2c63ae305c92319e2cb566d74a0cec02771334bf16123f537a86480aeb", func := "scriptorium/scriptoriumlaw01.QuillTakes", spec := "quillTakes", apart := false, narrowed := true }
def QuillTakesUptoSaid : Prop := quillTakesUptoRow.holds Try.pinned (OpenSpec.upto quillTakesSpec)

/-- 'scriptoriumlaw01.QuillStr', WHERE WHAT IT READS IS OF BULK AT MOST 1048576: true; the input reads as it did. -/
def quillStrUptoRow : OpenClaim := { program := "ytclbcmblgbinpaa", sum := "1dff8f2c63ae305c92319e2cb566d74a0cec02771334bf16123f537a86480aeb", func := "scriptorium/scriptoriumlaw01.QuillStr", spec := "quillStr", apart := false, narrowed := true }
def QuillStrUptoSaid : Prop := quillStrUptoRow.holds Try.pinned (OpenSpec.upto quillStrSpec)

/-- 'scriptoriumlaw01.QuillBack', WHERE WHAT IT READS IS OF BULK AT MOST 1048576: true; the input reads as it did. -/
def quillBackUptoRow : OpenClaim := { program := "ytclbcmblgbinpaa", sum := "1dff8f2c63ae305c92319e2cb566d74a0cec02771334bf16123f537a86480aeb", func := "scriptorium/scriptoriumlaw01.QuillBack", spec := "quillBack", apart := false, narrowed := true }
def QuillBackUptoSaid : Prop := quillBackUptoRow.holds Try.pinned (OpenSpec.upto quillBackSpec)

/-- 'scriptoriumlaw01.QuillAgain', WHERE WHAT IT READS IS OF BULK AT MOST 1048576: true; the input reads as it did. -/
def quillAgainUptoRow : OpenClaim := { program := "ytclbcmblgbinpaa", sum := "1dff8f2c63ae305c92319e2cb566d74a0cec02771334bf16123f537a86480aeb", func := "scriptorium/scriptoriumlaw01.QuillAgain", spec := "quillAgain", apart := false, narrowed := true }
def QuillAgainUptoSaid : Prop := quillAgainUptoRow.holds Try.pinned (OpenSpec.upto quillAgainSpec)

/-- 'scriptoriumlaw01.QuillCut', WHERE WHAT IT READS IS OF BULK AT MOST 1048576: true; the input reads as it did. -/
def quillCutUptoRow : OpenClaim := { program := "ytclbcmblgbinpaa", sum := "1dff8f2c63ae305c92319e2cb566d74a0cec02771334bf16123f537a86480aeb", func := "scriptorium/scriptoriumlaw01.QuillCut", spec := "quillCut", apart := false, narrowed := true }
def QuillCutUptoSaid : Prop := quillCutUptoRow.holds Try.pinned (OpenSpec.upto quillCutSpec)

/-- 'scriptoriumlaw01.QuillMost', WHERE WHAT IT READS IS OF BULK AT MOST 1048576: true; the input reads as it did. -/
def quillMostUptoRow : OpenClaim := { program := "ytclbcmblgbinpaa", sum := "1dff8f2c63ae305c92319e2cb566d74a0cec02771334bf16123f537a86480aeb", func := "scriptorium/scriptoriumlaw01.QuillMost", spec := "quillMost", apart := false, narrowed := true }
def QuillMostUptoSaid : Prop := quillMostUptoRow.holds Try.pinned (OpenSpec.upto quillMostSpec)

/-- 'scriptoriumlaw01.QuillKnown', WHERE WHAT IT READS IS OF BULK AT MOST 1048576: true; the input reads as it did. -/
def quillKnownUptoRow : OpenClaim := { program := "ytclbcmblgbinpaa", sum := "1dff8f2c63ae305c92319e2cb566d74a0cec02771334bf16123f537a86480aeb", func := "scriptorium/scriptoriumlaw01.QuillKnown", spec := "quillKnown", apart := false, narrowed := true }
def QuillKnownUptoSaid : Prop := quillKnownUptoRow.holds Try.pinned (OpenSpec.upto quillKnownSpec)

/-- 'scriptoriumlaw01.QuillApart', WHERE WHAT IT READS IS OF BULK AT MOST 1048576: true; the input reads as it did. -/
def quillApartUptoRow : OpenClaim := { program := "ytclbcmblgbinpaa", sum := "1dff8f2c63ae305c92319e2cb566d74a0cec02771334bf16123f537a86480aeb", func := "scriptorium/scriptoriumlaw01.QuillApart", spec := "quillApart", apart := false, narrowed := true }
def QuillApartUptoSaid : Prop := quillApartUptoRow.holds Try.pinned (OpenSpec.upto quillApartSpec)

/-- 'scriptoriumlaw01.QuillOrder', WHERE WHAT IT READS IS OF BULK AT MOST 1048576: true; the input reads as it did. -/
def quillOrderUptoRow : OpenClaim := { program := "ytclbcmblgbinpaa", sum := "1dff8f2c63ae305c92319e2cb566d74a0cec02771334bf16123f537a86480aeb", func := "scriptorium/scriptoriumlaw01.QuillOrder", spec := "quillOrder", inPlace := ["internal/bytealg.Compare"], apart := false, narrowed := true }
def QuillOrderUptoSaid : Prop := quillOrderUptoRow.holds Try.pinned (OpenSpec.upto quillOrderSpec)

/-- 'scriptoriumlaw01.QuillJoin', WHERE WHAT IT READS IS OF BULK AT MOST 1048576: true; the input reads as it did. -/
def quillJoinUptoRow : OpenClaim := { program := "ytclbcmblgbinpaa", sum := "1dff8f2c63ae305c92319e2cb566d74a0cec02771334bf16123f537a86480aeb", func := "scriptorium/scriptoriumlaw01.QuillJoin", spec := "quillJoin", apart := false, narrowed := true }
def QuillJoinUptoSaid : Prop := quillJoinUptoRow.holds Try.pinned (OpenSpec.upto quillJoinSpec)

end Rows
end Go.Proofs.Ytclbcmblgbinpaa
