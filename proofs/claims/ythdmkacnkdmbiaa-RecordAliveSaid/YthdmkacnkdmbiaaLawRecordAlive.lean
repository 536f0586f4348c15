/- Written by xprint.py, a program of these sessions (over the print of the kit, with leaves typed by hand): one Lean function for each Go function, and the proof that the Go code comes to its answers. -/
import Derived.Test.YthdmkacnkdmbiaaRows
import Derived.Test.YthdmkacnkdmbiaaRAlive
import Derived.Test.YthdmkacnkdmbiaaPureRecordAlive
import Derived.Test.YthdmkacnkdmbiaaOpen
import Derived.WalkKit
import Derived.ProofKit
import Derived.OpenShut
import Derived.ShutString
import Derived.ChangeOld
import Derived.Below
import Derived.SizedLaws
import Derived.Carry
import Derived.JoinedCond
import Derived.Deep.CondSized
namespace Go.Proofs.Ythdmkacnkdmbiaa.recordAlive
open Go.ChangeShapes Go.WideShapes Go.ChangeAt Go.RowKit Go.Proofs.YthdmkacnkdmbiaaW.PrintWords Go.Proofs.Ythdmkacnkdmbiaa.PRecordStaged
open Go.ChangeMaps (open_string shut_string)
set_option linter.unusedVariables false
theorem own : ownKnob Try.prog.godebug = none := by kernel_rfl
theorem laidOut : laidOutB Try.prog = true := by kernel_rfl
theorem o24 {H : Type} {enc : TypeId × Value → H} : Opn enc Try.prog 24 k24 (fun a => ((Lit.int .i64 a.f0).wf = true ∧ (Lit.int .i64 a.f1).wf = true)) (fun a => ((1 + 1) + 1)) :=
  opn_struct Try.underlying24 (by kernel_rfl) (opnF_cons rfl (by kernel_rfl) (opn_int Try.underlying3) (opnF_one rfl (by kernel_rfl) rfl (opn_int Try.underlying3))) (fun b => ⟨b.1, b.2⟩) (fun _ => rfl)
theorem o44 {H : Type} {enc : TypeId × Value → H} : Opn enc Try.prog 44 k44 (fun a => (a.f0.size ≤ 140737488351232 ∧ (Lit.int .i64 a.f1).wf = true)) (fun a => (((a.f0.size + 1) + 1) + 1)) :=
  opn_struct Try.underlying44 (by kernel_rfl) (opnF_cons rfl (by kernel_rfl) (opn_string Try.underlying9) (opnF_one rfl (by kernel_rfl) rfl (opn_int Try.underlying3))) (fun b => ⟨b.1, b.2⟩) (fun _ => rfl)
theorem o27 {H : Type} {enc : TypeId × Value → H} : Opn enc Try.prog 27 k27 (fun a => ((Lit.int .i64 a.f0).wf = true ∧ (Lit.int .i64 a.f1).wf = true ∧ (Lit.int .i64 a.f2).wf = true ∧ (Lit.int .i64 a.f3).wf = true ∧ a.f4.size ≤ 140737488351232 ∧ ((Lit.int .i64 a.f5.f0).wf = true ∧ (Lit.int .i64 a.f5.f1).wf = true) ∧ ((Lit.int .i64 a.f6.f0).wf = true ∧ (Lit.int .i64 a.f6.f1).wf = true) ∧ (a.f7.length ≤ maxLen ∧ a.f7.length * 24 ≤ 140737488351232 ∧ ∀ y0 ∈ a.f7, (y0.f0.size ≤ 140737488351232 ∧ (Lit.int .i64 y0.f1).wf = true)))) (fun a => ((1 + (1 + (1 + (1 + ((a.f4.size + 1) + (((1 + 1) + 1) + (((1 + 1) + 1) + ((a.f7.map fun y0 => (((y0.f0.size + 1) + 1) + 1)).sum + 1)))))))) + 1)) :=
  opn_struct Try.underlying27 (by kernel_rfl) (opnF_cons rfl (by kernel_rfl) (opn_int Try.underlying3) (opnF_cons rfl (by kernel_rfl) (opn_int Try.underlying3) (opnF_cons rfl (by kernel_rfl) (opn_int Try.underlying3) (opnF_cons rfl (by kernel_rfl) (opn_int Try.underlying3) (opnF_cons rfl (by kernel_rfl) (opn_string Try.underlying9) (opnF_cons rfl (by kernel_rfl) o24 (opnF_cons rfl (by kernel_rfl) o24 (opnF_one rfl (by kernel_rfl) rfl (opn_slice (B := 24) Try.underlying25 z44 (by kernel_rfl) (by kernel_rfl) o44))))))))) (fun b => ⟨b.1, b.2.1, b.2.2.1, b.2.2.2.1, b.2.2.2.2.1, b.2.2.2.2.2.1, b.2.2.2.2.2.2.1, b.2.2.2.2.2.2.2⟩) (fun _ => rfl)
theorem o31 {H : Type} {enc : TypeId × Value → H} : Opn enc Try.prog 31 k31 (fun a => ((Lit.int .i64 a.f0).wf = true ∧ (Lit.int .i64 a.f1).wf = true ∧ (Lit.int .i64 a.f2).wf = true ∧ a.f3.size ≤ 140737488351232 ∧ ((Lit.int .i64 a.f4.f0).wf = true ∧ (Lit.int .i64 a.f4.f1).wf = true) ∧ ((Lit.int .i64 a.f5.f0).wf = true ∧ (Lit.int .i64 a.f5.f1).wf = true) ∧ ((Lit.int .i64 a.f6.f0).wf = true ∧ (Lit.int .i64 a.f6.f1).wf = true) ∧ ((Lit.int .i64 a.f7.f0).wf = true ∧ (Lit.int .i64 a.f7.f1).wf = true))) (fun a => ((1 + (1 + (1 + ((a.f3.size + 1) + (((1 + 1) + 1) + (((1 + 1) + 1) + (((1 + 1) + 1) + ((1 + 1) + 1)))))))) + 1)) :=
  opn_struct Try.underlying31 (by kernel_rfl) (opnF_cons rfl (by kernel_rfl) (opn_int Try.underlying3) (opnF_cons rfl (by kernel_rfl) (opn_int Try.underlying3) (opnF_cons rfl (by kernel_rfl) (opn_int Try.underlying3) (opnF_cons rfl (by kernel_rfl) (opn_string Try.underlying9) (opnF_cons rfl (by kernel_rfl) o24 (opnF_cons rfl (by kernel_rfl) o24 (opnF_cons rfl (by kernel_rfl) o24 (opnF_one rfl (by kernel_rfl) rfl o24)))))))) (fun b => ⟨b.1, b.2.1, b.2.2.1, b.2.2.2.1, b.2.2.2.2.1, b.2.2.2.2.2.1, b.2.2.2.2.2.2.1, b.2.2.2.2.2.2.2⟩) (fun _ => rfl)
theorem o33 {H : Type} {enc : TypeId × Value → H} : Opn enc Try.prog 33 k33 (fun a => ((Lit.int .i64 a.f0).wf = true ∧ (Lit.int .i64 a.f1).wf = true ∧ (Lit.int .i64 a.f2).wf = true ∧ True ∧ ((Lit.int .i64 a.f4.f0).wf = true ∧ (Lit.int .i64 a.f4.f1).wf = true ∧ (Lit.int .i64 a.f4.f2).wf = true ∧ a.f4.f3.size ≤ 140737488351232 ∧ ((Lit.int .i64 a.f4.f4.f0).wf = true ∧ (Lit.int .i64 a.f4.f4.f1).wf = true) ∧ ((Lit.int .i64 a.f4.f5.f0).wf = true ∧ (Lit.int .i64 a.f4.f5.f1).wf = true) ∧ ((Lit.int .i64 a.f4.f6.f0).wf = true ∧ (Lit.int .i64 a.f4.f6.f1).wf = true) ∧ ((Lit.int .i64 a.f4.f7.f0).wf = true ∧ (Lit.int .i64 a.f4.f7.f1).wf = true)) ∧ ((Lit.int .i64 a.f5.f0).wf = true ∧ (Lit.int .i64 a.f5.f1).wf = true ∧ (Lit.int .i64 a.f5.f2).wf = true ∧ (Lit.int .i64 a.f5.f3).wf = true ∧ a.f5.f4.size ≤ 140737488351232 ∧ ((Lit.int .i64 a.f5.f5.f0).wf = true ∧ (Lit.int .i64 a.f5.f5.f1).wf = true) ∧ ((Lit.int .i64 a.f5.f6.f0).wf = true ∧ (Lit.int .i64 a.f5.f6.f1).wf = true) ∧ (a.f5.f7.length ≤ maxLen ∧ a.f5.f7.length * 24 ≤ 140737488351232 ∧ ∀ y0 ∈ a.f5.f7, (y0.f0.size ≤ 140737488351232 ∧ (Lit.int .i64 y0.f1).wf = true))) ∧ (a.f6.length ≤ maxLen ∧ a.f6.length * 24 ≤ 140737488351232 ∧ ∀ y0 ∈ a.f6, (y0.f0.size ≤ 140737488351232 ∧ (Lit.int .i64 y0.f1).wf = true)) ∧ ((Lit.int .i64 a.f7.f0).wf = true ∧ (Lit.int .i64 a.f7.f1).wf = true) ∧ ((Lit.int .i64 a.f8.f0).wf = true ∧ (Lit.int .i64 a.f8.f1).wf = true))) (fun a => ((1 + (1 + (1 + (1 + (((1 + (1 + (1 + ((a.f4.f3.size + 1) + (((1 + 1) + 1) + (((1 + 1) + 1) + (((1 + 1) + 1) + ((1 + 1) + 1)))))))) + 1) + (((1 + (1 + (1 + (1 + ((a.f5.f4.size + 1) + (((1 + 1) + 1) + (((1 + 1) + 1) + ((a.f5.f7.map fun y0 => (((y0.f0.size + 1) + 1) + 1)).sum + 1)))))))) + 1) + (((a.f6.map fun y0 => (((y0.f0.size + 1) + 1) + 1)).sum + 1) + (((1 + 1) + 1) + ((1 + 1) + 1))))))))) + 1)) :=
  opn_struct Try.underlying33 (by kernel_rfl) (opnF_cons rfl (by kernel_rfl) (opn_int Try.underlying3) (opnF_cons rfl (by kernel_rfl) (opn_int Try.underlying3) (opnF_cons rfl (by kernel_rfl) (opn_int Try.underlying3) (opnF_cons rfl (by kernel_rfl) (opn_bool Try.underlying4) (opnF_cons rfl (by kernel_rfl) o31 (opnF_cons rfl (by kernel_rfl) o27 (opnF_cons rfl (by kernel_rfl) (opn_slice (B := 24) Try.underlying25 z44 (by kernel_rfl) (by kernel_rfl) o44) (opnF_cons rfl (by kernel_rfl) o24 (opnF_one rfl (by kernel_rfl) rfl o24))))))))) (fun b => ⟨b.1, b.2.1, b.2.2.1, b.2.2.2.1, b.2.2.2.2.1, b.2.2.2.2.2.1, b.2.2.2.2.2.2.1, b.2.2.2.2.2.2.2.1, b.2.2.2.2.2.2.2.2⟩) (fun _ => rfl)
set_option maxRecDepth 100000 in
theorem contract (H : Type) (enc : TypeId × Value → H) (W : World) (base : Nat) (args : Array Value) (ds gs : List (DataW H)) (before : List MemPlace)
    (hval : ∀ (j : Nat) t v, Try.f6.params[j]? = some t → args[j]? = some v → Value.okWide Try.prog W .any base t v)
    (hW : DataW.Whole enc Try.prog Try.f6.params.toList Rows.recordAliveSpec.vars false W args.toList ds gs before)
    (hsz : (DataW.weightsEach Try.prog (Try.f6.params.toList ++ Rows.recordAliveSpec.plain.varTypes Try.prog) (ds ++ gs)).all (· ≤ reachBytes) = true) :
    Calls Try.prog 6 args W fun e W' => ∃ v, e = .returned v ∧ Rows.recordAliveSpec.post enc Try.prog Try.f6 false true false false W args v W' := by
  have hW' := hW
  obtain ⟨p, q, hA0, hV, rfl, hfz, hnd⟩ := hW
  have hA : DataW.TrodAll enc Try.prog W 0 (fun _ => true) true Try.f6.params.toList args.toList ds p := hA0
  rw [Try.params6] at hA hval hsz
  obtain ⟨v0, vs0, d0, ds0, p0, q0, hargs, rfl, rfl, h0, r0⟩ := trodAll_cons hA
  obtain ⟨v1, vs1, d1, ds1, p1, q1, rfl, rfl, rfl, h1, r1⟩ := trodAll_cons r0
  obtain ⟨rfl, rfl, rfl⟩ := trodAll_nil r1
  obtain rfl : args = #[v0, v1] := by cases args; simp_all
  obtain ⟨rfl, rfl⟩ := trodVars_none hV
  have k0 := h0
  have lt0 : ∀ x ∈ p0, x.block < W.heap.size := by obtain ⟨m, hm⟩ := k0; exact DataW.trod_lt m _ _ _ hm
  obtain ⟨a0, cs0, rfl, kk0, w0, m0⟩ := opn_agg Try.underlying27 o27 (hval 0 27 v0 rfl rfl) h0 (weights_of hsz (j := 0) (t := 27) rfl rfl)
  obtain ⟨A0_9, c0_9, ee0, hc0_9, hr0_9⟩ := k27_open kk0
  obtain rfl : cs0 = #[.int .i64 a0.f0, .int .i64 a0.f1, .int .i64 a0.f2, .int .i64 a0.f3, .string a0.f4, .int .i64 a0.f5.f0, .int .i64 a0.f5.f1, .int .i64 a0.f6.f0, .int .i64 a0.f6.f1, .slice A0_9 a0.f7.length c0_9] := by rw [← Array.toArray_toList (xs := cs0), ee0]
  have k1 := h1
  have lt1 : ∀ x ∈ p1, x.block < W.heap.size := by obtain ⟨m, hm⟩ := k1; exact DataW.trod_lt m _ _ _ hm
  obtain ⟨a1, cs1, rfl, kk1, w1, m1⟩ := opn_agg Try.underlying33 o33 (hval 1 33 v1 rfl rfl) h1 (weights_of hsz (j := 1) (t := 33) rfl rfl)
  obtain ⟨A1_25, c1_25, A1_26, c1_26, ee1, hc1_25, hr1_25, hc1_26, hr1_26⟩ := k33_open kk1
  obtain rfl : cs1 = #[.int .i64 a1.f0, .int .i64 a1.f1, .int .i64 a1.f2, .bool a1.f3, .int .i64 a1.f4.f0, .int .i64 a1.f4.f1, .int .i64 a1.f4.f2, .string a1.f4.f3, .int .i64 a1.f4.f4.f0, .int .i64 a1.f4.f4.f1, .int .i64 a1.f4.f5.f0, .int .i64 a1.f4.f5.f1, .int .i64 a1.f4.f6.f0, .int .i64 a1.f4.f6.f1, .int .i64 a1.f4.f7.f0, .int .i64 a1.f4.f7.f1, .int .i64 a1.f5.f0, .int .i64 a1.f5.f1, .int .i64 a1.f5.f2, .int .i64 a1.f5.f3, .string a1.f5.f4, .int .i64 a1.f5.f5.f0, .int .i64 a1.f5.f5.f1, .int .i64 a1.f5.f6.f0, .int .i64 a1.f5.f6.f1, .slice A1_25 a1.f5.f7.length c1_25, .slice A1_26 a1.f6.length c1_26, .int .i64 a1.f7.f0, .int .i64 a1.f7.f1, .int .i64 a1.f8.f0, .int .i64 a1.f8.f1] := by rw [← Array.toArray_toList (xs := cs1), ee1]
  refine (PRecordStaged.scriptoriumlaw20_RecordAlive.walk Pure.RecordAlive a0 a1 A0_9 c0_9 A1_25 c1_25 A1_26 c1_26 W w0 w1 hr0_9 hc0_9 hr1_25 hc1_25 hr1_26 hc1_26).mono fun e W' ⟨he, bel⟩ => ?_
  subst he
  exact ⟨_, rfl, _, _, _, [], _, [], hW', trodAll_mk1 (shut_bool Try.underlying4 _), (trodAll_cons_mk (Below.trod laidOut (by kernel_rfl) (of_decide_eq_true (by kernel_rfl)) k0 bel lt0) (trodAll_cons_mk (Below.trod laidOut (by kernel_rfl) (of_decide_eq_true (by kernel_rfl)) k1 bel lt1) trodAll_mk0)), rfl, bel.frame _, fun h => by cases h⟩
set_option maxRecDepth 100000 in
theorem lifted (os : Os) (started : os.Started) (H : Type) (enc : TypeId × Value → H) :
    ReturnsInHanded {} Try.checked os 6 .any (Rows.recordAliveSpec.pre6 enc Try.prog Try.f6 Rows.recordAliveRow.domain false) (Rows.recordAliveSpec.post enc Try.prog Try.f6 false true false false) := by
  refine returnsInHanded_of_change_sized (C := Try.checked) own started (by kernel_rfl) Try.func6
    (ChangeSpec.witness6 (enc := enc) (C := Try.checked) false ⟨#[], #[.agg #[.int .i64 0, .int .i64 0, .int .i64 0, .int .i64 0, .string ByteArray.empty, .int .i64 0, .int .i64 0, .int .i64 0, .int .i64 0, .slice none 0 0], .agg #[.int .i64 0, .int .i64 0, .int .i64 0, .bool false, .int .i64 0, .int .i64 0, .int .i64 0, .string ByteArray.empty, .int .i64 0, .int .i64 0, .int .i64 0, .int .i64 0, .int .i64 0, .int .i64 0, .int .i64 0, .int .i64 0, .int .i64 0, .int .i64 0, .int .i64 0, .int .i64 0, .string ByteArray.empty, .int .i64 0, .int .i64 0, .int .i64 0, .int .i64 0, .slice none 0 0, .slice none 0 0, .int .i64 0, .int .i64 0, .int .i64 0, .int .i64 0]], []⟩ 8 (by kernel_rfl) (by kernel_rfl) (by kernel_rfl) (by kernel_rfl)) ?_
  intro W base args ds gs before hval hW _ hsz _
  exact contract H enc W base args ds gs before hval hW hsz
theorem over : Rows.recordAliveRow.holds Try.pinned (OpenSpec.ofChange Rows.recordAliveSpec) :=
  OpenClaim.holds_of_wide 6 Try.f6 rfl rfl rfl rfl rfl rfl rfl ⟨rfl, rfl, rfl, rfl, rfl⟩ rfl rfl rfl rfl rfl (by kernel_rfl) Try.func6 (by kernel_rfl)
    (of_decide_eq_true (by kernel_rfl)) (by unfold Func.isWrapper; first | (rw [if_pos (by decide +kernel)]; kernel_rfl) | (rw [if_neg (by decide +kernel)]; exact ⟨rfl, rfl⟩))
    (fun os started H enc _ => lifted os started H enc)
theorem proved : Rows.RecordAliveSaid := over
#print axioms proved
end Go.Proofs.Ythdmkacnkdmbiaa.recordAlive
namespace Go.Proofs.Ythdmkacnkdmbiaa
/-- The row, under a short name, for the claim. -/
theorem recordAlive_holds : Rows.RecordAliveSaid := recordAlive.proved
end Go.Proofs.Ythdmkacnkdmbiaa
