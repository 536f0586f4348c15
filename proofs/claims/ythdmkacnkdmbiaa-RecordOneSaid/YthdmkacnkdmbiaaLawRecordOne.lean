/- Written by xprint.py, a program of these sessions (over the print of the kit, with leaves typed by hand): one Lean function for each Go function, and the proof that the Go code comes to its answers. -/
import Derived.Test.YthdmkacnkdmbiaaRows
import Derived.Test.YthdmkacnkdmbiaaROne
import Derived.Test.YthdmkacnkdmbiaaPureRecordOne
import Derived.Test.YthdmkacnkdmbiaaOpen
import Derived.WalkKit
import Derived.ProofKit
import Derived.OpenShut
import Derived.ShutString
import Derived.ChangeOld
import Derived.Below
import Derived.SizedLaws
import Derived.Carry
import Derived.JoinedCond
import Derived.Deep.CondSized
namespace Go.Proofs.Ythdmkacnkdmbiaa.recordOne
open Go.ChangeShapes Go.WideShapes Go.ChangeAt Go.RowKit Go.Proofs.YthdmkacnkdmbiaaW.PrintWords Go.Proofs.Ythdmkacnkdmbiaa.PRecordStaged
open Go.ChangeMaps (open_string shut_string)
set_option linter.unusedVariables false
theorem own : ownKnob Try.prog.godebug = none := by kernel_rfl
theorem laidOut : laidOutB Try.prog = true := by kernel_rfl
theorem o24 {H : Type} {enc : TypeId × Value → H} : Opn enc Try.prog 24 k24 (fun a => ((Lit.int .i64 a.f0).wf = true ∧ (Lit.int .i64 a.f1).wf = true)) (fun a => ((1 + 1) + 1)) :=
  opn_struct Try.underlying24 (by kernel_rfl) (opnF_cons rfl (by kernel_rfl) (opn_int Try.underlying3) (opnF_one rfl (by kernel_rfl) rfl (opn_int Try.underlying3))) (fun b => ⟨b.1, b.2⟩) (fun _ => rfl)
theorem o31 {H : Type} {enc : TypeId × Value → H} : Opn enc Try.prog 31 k31 (fun a => ((Lit.int .i64 a.f0).wf = true ∧ (Lit.int .i64 a.f1).wf = true ∧ (Lit.int .i64 a.f2).wf = true ∧ a.f3.size ≤ 140737488351232 ∧ ((Lit.int .i64 a.f4.f0).wf = true ∧ (Lit.int .i64 a.f4.f1).wf = true) ∧ ((Lit.int .i64 a.f5.f0).wf = true ∧ (Lit.int .i64 a.f5.f1).wf = true) ∧ ((Lit.int .i64 a.f6.f0).wf = true ∧ (Lit.int .i64 a.f6.f1).wf = true) ∧ ((Lit.int .i64 a.f7.f0).wf = true ∧ (Lit.int .i64 a.f7.f1).wf = true))) (fun a => ((1 + (1 + (1 + ((a.f3.size + 1) + (((1 + 1) + 1) + (((1 + 1) + 1) + (((1 + 1) + 1) + ((1 + 1) + 1)))))))) + 1)) :=
  opn_struct Try.underlying31 (by kernel_rfl) (opnF_cons rfl (by kernel_rfl) (opn_int Try.underlying3) (opnF_cons rfl (by kernel_rfl) (opn_int Try.underlying3) (opnF_cons rfl (by kernel_rfl) (opn_int Try.underlying3) (opnF_cons rfl (by kernel_rfl) (opn_string Try.underlying9) (opnF_cons rfl (by kernel_rfl) o24 (opnF_cons rfl (by kernel_rfl) o24 (opnF_cons rfl (by kernel_rfl) o24 (opnF_one rfl (by kernel_rfl) rfl o24)))))))) (fun b => ⟨b.1, b.2.1, b.2.2.1, b.2.2.2.1, b.2.2.2.2.1, b.2.2.2.2.2.1, b.2.2.2.2.2.2.1, b.2.2.2.2.2.2.2⟩) (fun _ => rfl)
theorem o44 {H : Type} {enc : TypeId × Value → H} : Opn enc Try.prog 44 k44 (fun a => (a.f0.size ≤ 140737488351232 ∧ (Lit.int .i64 a.f1).wf = true)) (fun a => (((a.f0.size + 1) + 1) + 1)) :=
  opn_struct Try.underlying44 (by kernel_rfl) (opnF_cons rfl (by kernel_rfl) (opn_string Try.underlying9) (opnF_one rfl (by kernel_rfl) rfl (opn_int Try.underlying3))) (fun b => ⟨b.1, b.2⟩) (fun _ => rfl)
theorem o27 {H : Type} {enc : TypeId × Value → H} : Opn enc Try.prog 27 k27 (fun a => ((Lit.int .i64 a.f0).wf = true ∧ (Lit.int .i64 a.f1).wf = true ∧ (Lit.int .i64 a.f2).wf = true ∧ (Lit.int .i64 a.f3).wf = true ∧ a.f4.size ≤ 140737488351232 ∧ ((Lit.int .i64 a.f5.f0).wf = true ∧ (Lit.int .i64 a.f5.f1).wf = true) ∧ ((Lit.int .i64 a.f6.f0).wf = true ∧ (Lit.int .i64 a.f6.f1).wf = true) ∧ (a.f7.length ≤ maxLen ∧ a.f7.length * 24 ≤ 140737488351232 ∧ ∀ y0 ∈ a.f7, (y0.f0.size ≤ 140737488351232 ∧ (Lit.int .i64 y0.f1).wf = true)))) (fun a => ((1 + (1 + (1 + (1 + ((a.f4.size + 1) + (((1 + 1) + 1) + (((1 + 1) + 1) + ((a.f7.map fun y0 => (((y0.f0.size + 1) + 1) + 1)).sum + 1)))))))) + 1)) :=
  opn_struct Try.underlying27 (by kernel_rfl) (opnF_cons rfl (by kernel_rfl) (opn_int Try.underlying3) (opnF_cons rfl (by kernel_rfl) (opn_int Try.underlying3) (opnF_cons rfl (by kernel_rfl) (opn_int Try.underlying3) (opnF_cons rfl (by kernel_rfl) (opn_int Try.underlying3) (opnF_cons rfl (by kernel_rfl) (opn_string Try.underlying9) (opnF_cons rfl (by kernel_rfl) o24 (opnF_cons rfl (by kernel_rfl) o24 (opnF_one rfl (by kernel_rfl) rfl (opn_slice (B := 24) Try.underlying25 z44 (by kernel_rfl) (by kernel_rfl) o44))))))))) (fun b => ⟨b.1, b.2.1, b.2.2.1, b.2.2.2.1, b.2.2.2.2.1, b.2.2.2.2.2.1, b.2.2.2.2.2.2.1, b.2.2.2.2.2.2.2⟩) (fun _ => rfl)
theorem o33 {H : Type} {enc : TypeId × Value → H} : Opn enc Try.prog 33 k33 (fun a => ((Lit.int .i64 a.f0).wf = true ∧ (Lit.int .i64 a.f1).wf = true ∧ (Lit.int .i64 a.f2).wf = true ∧ True ∧ ((Lit.int .i64 a.f4.f0).wf = true ∧ (Lit.int .i64 a.f4.f1).wf = true ∧ (Lit.int .i64 a.f4.f2).wf = true ∧ a.f4.f3.size ≤ 140737488351232 ∧ ((Lit.int .i64 a.f4.f4.f0).wf = true ∧ (Lit.int .i64 a.f4.f4.f1).wf = true) ∧ ((Lit.int .i64 a.f4.f5.f0).wf = true ∧ (Lit.int .i64 a.f4.f5.f1).wf = true) ∧ ((Lit.int .i64 a.f4.f6.f0).wf = true ∧ (Lit.int .i64 a.f4.f6.f1).wf = true) ∧ ((Lit.int .i64 a.f4.f7.f0).wf = true ∧ (Lit.int .i64 a.f4.f7.f1).wf = true)) ∧ ((Lit.int .i64 a.f5.f0).wf = true ∧ (Lit.int .i64 a.f5.f1).wf = true ∧ (Lit.int .i64 a.f5.f2).wf = true ∧ (Lit.int .i64 a.f5.f3).wf = true ∧ a.f5.f4.size ≤ 140737488351232 ∧ ((Lit.int .i64 a.f5.f5.f0).wf = true ∧ (Lit.int .i64 a.f5.f5.f1).wf = true) ∧ ((Lit.int .i64 a.f5.f6.f0).wf = true ∧ (Lit.int .i64 a.f5.f6.f1).wf = true) ∧ (a.f5.f7.length ≤ maxLen ∧ a.f5.f7.length * 24 ≤ 140737488351232 ∧ ∀ y0 ∈ a.f5.f7, (y0.f0.size ≤ 140737488351232 ∧ (Lit.int .i64 y0.f1).wf = true))) ∧ (a.f6.length ≤ maxLen ∧ a.f6.length * 24 ≤ 140737488351232 ∧ ∀ y0 ∈ a.f6, (y0.f0.size ≤ 140737488351232 ∧ (Lit.int .i64 y0.f1).wf = true)) ∧ ((Lit.int .i64 a.f7.f0).wf = true ∧ (Lit.int .i64 a.f7.f1).wf = true) ∧ ((Lit.int .i64 a.f8.f0).wf = true ∧ (Lit.int .i64 a.f8.f1).wf = true))) (fun a => ((1 + (1 + (1 + (1 + (((1 + (1 + (1 + ((a.f4.f3.size + 1) + (((1 + 1) + 1) + (((1 + 1) + 1) + (((1 + 1) + 1) + ((1 + 1) + 1)))))))) + 1) + (((1 + (1 + (1 + (1 + ((a.f5.f4.size + 1) + (((1 + 1) + 1) + (((1 + 1) + 1) + ((a.f5.f7.map fun y0 => (((y0.f0.size + 1) + 1) + 1)).sum + 1)))))))) + 1) + (((a.f6.map fun y0 => (((y0.f0.size + 1) + 1) + 1)).sum + 1) + (((1 + 1) + 1) + ((1 + 1) + 1))))))))) + 1)) :=
  opn_struct Try.underlying33 (by kernel_rfl) (opnF_cons rfl (by kernel_rfl) (opn_int Try.underlying3) (opnF_cons rfl (by kernel_rfl) (opn_int Try.underlying3) (opnF_cons rfl (by kernel_rfl) (opn_int Try.underlying3) (opnF_cons rfl (by kernel_rfl) (opn_bool Try.underlying4) (opnF_cons rfl (by kernel_rfl) o31 (opnF_cons rfl (by kernel_rfl) o27 (opnF_cons rfl (by kernel_rfl) (opn_slice (B := 24) Try.underlying25 z44 (by kernel_rfl) (by kernel_rfl) o44) (opnF_cons rfl (by kernel_rfl) o24 (opnF_one rfl (by kernel_rfl) rfl o24))))))))) (fun b => ⟨b.1, b.2.1, b.2.2.1, b.2.2.2.1, b.2.2.2.2.1, b.2.2.2.2.2.1, b.2.2.2.2.2.2.1, b.2.2.2.2.2.2.2.1, b.2.2.2.2.2.2.2.2⟩) (fun _ => rfl)
set_option maxRecDepth 100000 in
theorem contract (H : Type) (enc : TypeId × Value → H) (W : World) (base : Nat) (args : Array Value) (ds gs : List (DataW H)) (before : List MemPlace)
    (hval : ∀ (j : Nat) t v, Try.f7.params[j]? = some t → args[j]? = some v → Value.okWide Try.prog W .any base t v)
    (hW : DataW.Whole enc Try.prog Try.f7.params.toList Rows.recordOneSpec.vars false W args.toList ds gs before)
    (hsz : (DataW.weightsEach Try.prog (Try.f7.params.toList ++ Rows.recordOneSpec.plain.varTypes Try.prog) (ds ++ gs)).all (· ≤ reachBytes) = true) :
    Calls Try.prog 7 args W fun e W' => ∃ v, e = .returned v ∧ Rows.recordOneSpec.post enc Try.prog Try.f7 false true false false W args v W' := by
  have hW' := hW
  obtain ⟨p, q, hA0, hV, rfl, hfz, hnd⟩ := hW
  have hA : DataW.TrodAll enc Try.prog W 0 (fun _ => true) true Try.f7.params.toList args.toList ds p := hA0
  rw [Try.params7] at hA hval hsz
  obtain ⟨v0, vs0, d0, ds0, p0, q0, hargs, rfl, rfl, h0, r0⟩ := trodAll_cons hA
  obtain ⟨rfl, rfl, rfl⟩ := trodAll_nil r0
  obtain rfl : args = #[v0] := by cases args; simp_all
  obtain ⟨rfl, rfl⟩ := trodVars_none hV
  have k0 := h0
  have lt0 : ∀ x ∈ p0, x.block < W.heap.size := by obtain ⟨m, hm⟩ := k0; exact DataW.trod_lt m _ _ _ hm
  obtain ⟨a0, A0, c0, rfl, hr0, hc0, w0, m0⟩ := opn_row Try.underlying22 (opn_slice (B := 296) Try.underlying22 z33 (by kernel_rfl) (by kernel_rfl) o33) (hval 0 22 v0 rfl rfl) h0 (weights_of hsz (j := 0) (t := 22) rfl rfl)
  refine (PRecordStaged.scriptoriumlaw20_RecordOne.walk Pure.RecordOne a0 A0 c0 W w0 hr0 hc0).mono fun e W' ⟨he, bel⟩ => ?_
  subst he
  exact ⟨_, rfl, _, _, _, [], _, [], hW', trodAll_mk1 (shut_bool Try.underlying4 _), (trodAll_cons_mk (Below.trod laidOut (by kernel_rfl) (of_decide_eq_true (by kernel_rfl)) k0 bel lt0) trodAll_mk0), rfl, bel.frame _, fun h => by cases h⟩
set_option maxRecDepth 100000 in
theorem lifted (os : Os) (started : os.Started) (H : Type) (enc : TypeId × Value → H) :
    ReturnsInHanded {} Try.checked os 7 .any (Rows.recordOneSpec.pre6 enc Try.prog Try.f7 Rows.recordOneRow.domain false) (Rows.recordOneSpec.post enc Try.prog Try.f7 false true false false) := by
  refine returnsInHanded_of_change_sized (C := Try.checked) own started (by kernel_rfl) Try.func7
    (ChangeSpec.witness6 (enc := enc) (C := Try.checked) false ⟨#[], #[.slice none 0 0], []⟩ 8 (by kernel_rfl) (by kernel_rfl) (by kernel_rfl) (by kernel_rfl)) ?_
  intro W base args ds gs before hval hW _ hsz _
  exact contract H enc W base args ds gs before hval hW hsz
theorem over : Rows.recordOneRow.holds Try.pinned (OpenSpec.ofChange Rows.recordOneSpec) :=
  OpenClaim.holds_of_wide 7 Try.f7 rfl rfl rfl rfl rfl rfl rfl ⟨rfl, rfl, rfl, rfl, rfl⟩ rfl rfl rfl rfl rfl (by kernel_rfl) Try.func7 (by kernel_rfl)
    (of_decide_eq_true (by kernel_rfl)) (by unfold Func.isWrapper; first | (rw [if_pos (by decide +kernel)]; kernel_rfl) | (rw [if_neg (by decide +kernel)]; exact ⟨rfl, rfl⟩))
    (fun os started H enc _ => lifted os started H enc)
theorem proved : Rows.RecordOneSaid := over
#print axioms proved
end Go.Proofs.Ythdmkacnkdmbiaa.recordOne
namespace Go.Proofs.Ythdmkacnkdmbiaa
/-- The row, under a short name, for the claim. -/
theorem recordOne_holds : Rows.RecordOneSaid := recordOne.proved
end Go.Proofs.Ythdmkacnkdmbiaa
