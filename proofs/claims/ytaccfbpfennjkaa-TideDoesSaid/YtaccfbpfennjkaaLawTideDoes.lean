/- The row of the law TideDoes (by the printer's words, over a walk typed by hand). -/
import Derived.Test.YtaccfbpfennjkaaRows
import Derived.Test.YtaccfbpfennjkaaTdDoes
import Derived.Test.YtaccfbpfennjkaaOpen
import Derived.WalkKit
import Derived.ProofKit
import Derived.OpenShut
import Derived.ShutString
import Derived.ChangeOld
import Derived.Below
import Derived.SizedLaws
import Derived.Carry
import Derived.JoinedCond
import Derived.Deep.CondSized
namespace Go.Proofs.Ytaccfbpfennjkaa.tideDoes
open Go.ChangeShapes Go.WideShapes Go.ChangeAt Go.RowKit Go.Proofs.YtaccfbpfennjkaaW.PrintWords Go.Proofs.Ytaccfbpfennjkaa.PTideDoes
open Go.ChangeMaps (open_string shut_string)
set_option linter.unusedVariables false
theorem own : ownKnob Try.prog.godebug = none := by kernel_rfl
theorem laidOut : laidOutB Try.prog = true := by kernel_rfl
theorem o31 {H : Type} {enc : TypeId × Value → H} : Opn enc Try.prog 31 k31 (fun a => ((Lit.int .i64 a.f0).wf = true ∧ (Lit.int .i64 a.f1).wf = true)) (fun a => ((1 + 1) + 1)) :=
  opn_struct Try.underlying31 (by kernel_rfl) (opnF_cons rfl (by kernel_rfl) (opn_int Try.underlying3) (opnF_one rfl (by kernel_rfl) rfl (opn_int Try.underlying3))) (fun b => ⟨b.1, b.2⟩) (fun _ => rfl)
theorem o24 {H : Type} {enc : TypeId × Value → H} : Opn enc Try.prog 24 k24 (fun a => (a.f0.size ≤ 140737488351232 ∧ a.f1.size ≤ 140737488351232)) (fun a => (((a.f0.size + 1) + (a.f1.size + 1)) + 1)) :=
  opn_struct Try.underlying24 (by kernel_rfl) (opnF_cons rfl (by kernel_rfl) (opn_string Try.underlying9) (opnF_one rfl (by kernel_rfl) rfl (opn_string Try.underlying9))) (fun b => ⟨b.1, b.2⟩) (fun _ => rfl)
theorem o33 {H : Type} {enc : TypeId × Value → H} : Opn enc Try.prog 33 k33 (fun a => ((Lit.int .i64 a.f0).wf = true ∧ (a.f1.f0.size ≤ 140737488351232 ∧ a.f1.f1.size ≤ 140737488351232) ∧ ((Lit.int .i64 a.f2.f0).wf = true ∧ (Lit.int .i64 a.f2.f1).wf = true) ∧ (Lit.int .i64 a.f3).wf = true)) (fun a => ((1 + ((((a.f1.f0.size + 1) + (a.f1.f1.size + 1)) + 1) + (((1 + 1) + 1) + 1))) + 1)) :=
  opn_struct Try.underlying33 (by kernel_rfl) (opnF_cons rfl (by kernel_rfl) (opn_int Try.underlying3) (opnF_cons rfl (by kernel_rfl) o24 (opnF_cons rfl (by kernel_rfl) o31 (opnF_one rfl (by kernel_rfl) rfl (opn_int Try.underlying3))))) (fun b => ⟨b.1, b.2.1, b.2.2.1, b.2.2.2⟩) (fun _ => rfl)
set_option maxRecDepth 100000 in
theorem contract (H : Type) (enc : TypeId × Value → H) (W : World) (base : Nat) (args : Array Value) (ds gs : List (DataW H)) (before : List MemPlace)
    (hval : ∀ (j : Nat) t v, Try.f4.params[j]? = some t → args[j]? = some v → Value.okWide Try.prog W .any base t v)
    (hW : DataW.Whole enc Try.prog Try.f4.params.toList Rows.tideDoesSpec.vars false W args.toList ds gs before)
    (hsz : (DataW.weightsEach Try.prog (Try.f4.params.toList ++ Rows.tideDoesSpec.plain.varTypes Try.prog) (ds ++ gs)).all (· ≤ reachBytes) = true) :
    Calls Try.prog 4 args W fun e W' => ∃ v, e = .returned v ∧ Rows.tideDoesSpec.post enc Try.prog Try.f4 false true false false W args v W' := by
  have hW' := hW
  obtain ⟨p, q, hA0, hV, rfl, hfz, hnd⟩ := hW
  have hA : DataW.TrodAll enc Try.prog W 0 (fun _ => true) true Try.f4.params.toList args.toList ds p := hA0
  rw [Try.params4] at hA hval hsz
  obtain ⟨v0, vs0, d0, ds0, p0, q0, hargs, rfl, rfl, h0, r0⟩ := trodAll_cons hA
  obtain ⟨v1, vs1, d1, ds1, p1, q1, rfl, rfl, rfl, h1, r1⟩ := trodAll_cons r0
  obtain ⟨v2, vs2, d2, ds2, p2, q2, rfl, rfl, rfl, h2, r2⟩ := trodAll_cons r1
  obtain ⟨rfl, rfl, rfl⟩ := trodAll_nil r2
  obtain rfl : args = #[v0, v1, v2] := by cases args; simp_all
  obtain ⟨rfl, rfl⟩ := trodVars_none hV
  have k0 := h0
  have lt0 : ∀ x ∈ p0, x.block < W.heap.size := by obtain ⟨m, hm⟩ := k0; exact DataW.trod_lt m _ _ _ hm
  obtain ⟨a0, cs0, rfl, kk0, w0, m0⟩ := opn_agg Try.underlying31 o31 (hval 0 31 v0 rfl rfl) h0 (weights_of hsz (j := 0) (t := 31) rfl rfl)
  obtain ee0 := k31_open kk0
  obtain rfl : cs0 = #[.int .i64 a0.f0, .int .i64 a0.f1] := by rw [← Array.toArray_toList (xs := cs0), ee0]
  have k1 := h1
  have lt1 : ∀ x ∈ p1, x.block < W.heap.size := by obtain ⟨m, hm⟩ := k1; exact DataW.trod_lt m _ _ _ hm
  obtain ⟨a1, A1, c1, rfl, hr1, hc1, w1, m1⟩ := opn_row Try.underlying22 (opn_slice (B := 64) Try.underlying22 z33 (by kernel_rfl) (by kernel_rfl) o33) (hval 1 22 v1 rfl rfl) h1 (weights_of hsz (j := 1) (t := 22) rfl rfl)
  have k2 := h2
  have lt2 : ∀ x ∈ p2, x.block < W.heap.size := by obtain ⟨m, hm⟩ := k2; exact DataW.trod_lt m _ _ _ hm
  obtain ⟨a2, cs2, rfl, kk2, w2, m2⟩ := opn_agg Try.underlying24 o24 (hval 2 24 v2 rfl rfl) h2 (weights_of hsz (j := 2) (t := 24) rfl rfl)
  obtain ee2 := k24_open kk2
  obtain rfl : cs2 = #[.string a2.f0, .string a2.f1] := by rw [← Array.toArray_toList (xs := cs2), ee2]
  refine (PTideDoes.kd_walk a0 a1 a2 A1 c1 W w1 hr1).mono fun e W' ⟨he, bel⟩ => ?_
  subst he
  exact ⟨_, rfl, _, _, _, [], _, [], hW', trodAll_mk1 (shut_bool Try.underlying4 _), (trodAll_cons_mk (Below.trod laidOut (by kernel_rfl) (of_decide_eq_true (by kernel_rfl)) k0 bel lt0) (trodAll_cons_mk (Below.trod laidOut (by kernel_rfl) (of_decide_eq_true (by kernel_rfl)) k1 bel lt1) (trodAll_cons_mk (Below.trod laidOut (by kernel_rfl) (of_decide_eq_true (by kernel_rfl)) k2 bel lt2) trodAll_mk0))), rfl, bel.frame _, fun h => by cases h⟩
set_option maxRecDepth 100000 in
theorem lifted (os : Os) (started : os.Started) (H : Type) (enc : TypeId × Value → H) :
    ReturnsInHanded {} Try.checked os 4 .any (Rows.tideDoesSpec.pre6 enc Try.prog Try.f4 Rows.tideDoesRow.domain false) (Rows.tideDoesSpec.post enc Try.prog Try.f4 false true false false) := by
  refine returnsInHanded_of_change_sized (C := Try.checked) own started (by kernel_rfl) Try.func4
    (ChangeSpec.witness6 (enc := enc) (C := Try.checked) false ⟨#[], #[.agg #[.int .i64 0, .int .i64 0], .slice none 0 0, .agg #[.string ByteArray.empty, .string ByteArray.empty]], []⟩ 8 (by kernel_rfl) (by kernel_rfl) (by kernel_rfl) (by kernel_rfl)) ?_
  intro W base args ds gs before hval hW _ hsz _
  exact contract H enc W base args ds gs before hval hW hsz
theorem over : Rows.tideDoesRow.holds Try.pinned (OpenSpec.ofChange Rows.tideDoesSpec) :=
  OpenClaim.holds_of_wide 4 Try.f4 rfl rfl rfl rfl rfl rfl rfl ⟨rfl, rfl, rfl, rfl, rfl⟩ rfl rfl rfl rfl rfl (by kernel_rfl) Try.func4 (by kernel_rfl)
    (of_decide_eq_true (by kernel_rfl)) (by unfold Func.isWrapper; first | (rw [if_pos (by decide +kernel)]; kernel_rfl) | (rw [if_neg (by decide +kernel)]; exact ⟨rfl, rfl⟩))
    (fun os started H enc _ => lifted os started H enc)
theorem proved : Rows.TideDoesSaid := over
#print axioms proved
end Go.Proofs.Ytaccfbpfennjkaa.tideDoes
namespace Go.Proofs.Ytaccfbpfennjkaa
/-- The row, under a short name, for the claim. -/
theorem tideDoes_holds : Rows.TideDoesSaid := tideDoes.proved
end Go.Proofs.Ytaccfbpfennjkaa
