/- Written by xprint.py, a program of these sessions (over the print of the kit, with leaves typed by hand): one Lean function for each Go function, and the proof that the Go code comes to its answers. -/
import Derived.Test.YtnohoknhhlcefaaRows
import Derived.Test.YtnohoknhhlcefaaPStampKeepsx4
import Derived.Test.YtnohoknhhlcefaaPureStampKeeps
import Derived.Test.YtnohoknhhlcefaaOpen
import Derived.WalkKit
import Derived.ProofKit
import Derived.OpenShut
import Derived.ShutString
import Derived.ChangeOld
import Derived.Below
import Derived.SizedLaws
import Derived.Carry
import Derived.JoinedCond
import Derived.Deep.CondSized
namespace Go.Proofs.Ytnohoknhhlcefaa.stampKeeps
open Go.ChangeShapes Go.WideShapes Go.ChangeAt Go.RowKit Go.Proofs.YtnohoknhhlcefaaW.PrintWords Go.Proofs.Ytnohoknhhlcefaa.PStampKeeps
open Go.ChangeMaps (open_string shut_string)
set_option linter.unusedVariables false
theorem own : ownKnob Try.prog.godebug = none := by kernel_rfl
theorem laidOut : laidOutB Try.prog = true := by kernel_rfl
theorem o23 {H : Type} {enc : TypeId × Value → H} : Opn enc Try.prog 23 k23 (fun a => ((Lit.int .i64 a.f0).wf = true ∧ (Lit.int .i64 a.f1).wf = true)) (fun a => ((1 + 1) + 1)) :=
  opn_struct Try.underlying23 (by kernel_rfl) (opnF_cons rfl (by kernel_rfl) (opn_int Try.underlying3) (opnF_one rfl (by kernel_rfl) rfl (opn_int Try.underlying3))) (fun b => ⟨b.1, b.2⟩) (fun _ => rfl)
theorem o34 {H : Type} {enc : TypeId × Value → H} : Opn enc Try.prog 34 k34 (fun a => ((Lit.int .i64 a.f0).wf = true ∧ (Lit.int .i64 a.f1).wf = true)) (fun a => ((1 + 1) + 1)) :=
  opn_arr (n := 2) (c := 1) (fs := [⟨ "", 3, 0, false, "", "", 0⟩, ⟨ "", 3, 1, false, "", "", 0⟩]) Try.underlying34 (by kernel_rfl) (by kernel_rfl) rfl (by intro i g hg; match i, hg with | 0, hg => (cases hg; exact ⟨rfl, rfl⟩) | 1, hg => (cases hg; exact ⟨rfl, rfl⟩) | n + 2, hg => simp at hg) (opnF_cons rfl (by kernel_rfl) (opn_int Try.underlying3) (opnF_one rfl (by kernel_rfl) rfl (opn_int Try.underlying3))) (fun b => ⟨b.1, b.2⟩) (fun _ => rfl)
set_option maxRecDepth 100000 in
theorem contract (H : Type) (enc : TypeId × Value → H) (W : World) (base : Nat) (args : Array Value) (ds gs : List (DataW H)) (before : List MemPlace)
    (hval : ∀ (j : Nat) t v, Try.f7.params[j]? = some t → args[j]? = some v → Value.okWide Try.prog W .any base t v)
    (hW : DataW.Whole enc Try.prog Try.f7.params.toList Rows.stampKeepsSpec.vars false W args.toList ds gs before)
    (hsz : (DataW.weightsEach Try.prog (Try.f7.params.toList ++ Rows.stampKeepsSpec.plain.varTypes Try.prog) (ds ++ gs)).all (· ≤ reachBytes) = true) :
    Calls Try.prog 7 args W fun e W' => ∃ v, e = .returned v ∧ Rows.stampKeepsSpec.post enc Try.prog Try.f7 false true false false W args v W' := by
  have hW' := hW
  obtain ⟨p, q, hA0, hV, rfl, hfz, hnd⟩ := hW
  have hA : DataW.TrodAll enc Try.prog W 0 (fun _ => true) true Try.f7.params.toList args.toList ds p := hA0
  rw [Try.params7] at hA hval hsz
  obtain ⟨v0, vs0, d0, ds0, p0, q0, hargs, rfl, rfl, h0, r0⟩ := trodAll_cons hA
  obtain ⟨v1, vs1, d1, ds1, p1, q1, rfl, rfl, rfl, h1, r1⟩ := trodAll_cons r0
  obtain ⟨v2, vs2, d2, ds2, p2, q2, rfl, rfl, rfl, h2, r2⟩ := trodAll_cons r1
  obtain ⟨rfl, rfl, rfl⟩ := trodAll_nil r2
  obtain rfl : args = #[v0, v1, v2] := by cases args; simp_all
  obtain ⟨rfl, rfl⟩ := trodVars_none hV
  have k0 := h0
  have lt0 : ∀ x ∈ p0, x.block < W.heap.size := by obtain ⟨m, hm⟩ := k0; exact DataW.trod_lt m _ _ _ hm
  obtain ⟨a0, cs0, rfl, kk0, w0, m0⟩ := opn_agg Try.underlying23 o23 (hval 0 23 v0 rfl rfl) h0 (weights_of hsz (j := 0) (t := 23) rfl rfl)
  obtain ee0 := k23_open kk0
  obtain rfl : cs0 = #[.int .i64 a0.f0, .int .i64 a0.f1] := by rw [← Array.toArray_toList (xs := cs0), ee0]
  have k1 := h1
  have lt1 : ∀ x ∈ p1, x.block < W.heap.size := by obtain ⟨m, hm⟩ := k1; exact DataW.trod_lt m _ _ _ hm
  obtain ⟨a1, cs1, rfl, kk1, w1, m1⟩ := opn_agg Try.underlying23 o23 (hval 1 23 v1 rfl rfl) h1 (weights_of hsz (j := 1) (t := 23) rfl rfl)
  obtain ee1 := k23_open kk1
  obtain rfl : cs1 = #[.int .i64 a1.f0, .int .i64 a1.f1] := by rw [← Array.toArray_toList (xs := cs1), ee1]
  have k2 := h2
  have lt2 : ∀ x ∈ p2, x.block < W.heap.size := by obtain ⟨m, hm⟩ := k2; exact DataW.trod_lt m _ _ _ hm
  obtain ⟨a2, cs2, rfl, kk2, w2, m2⟩ := opn_aggA Try.underlying34 o34 (hval 2 34 v2 rfl rfl) h2 (weights_of hsz (j := 2) (t := 34) rfl rfl)
  obtain ee2 := k34_open kk2
  obtain rfl : cs2 = #[.int .i64 a2.f0, .int .i64 a2.f1] := by rw [← Array.toArray_toList (xs := cs2), ee2]
  refine (PStampKeeps.scriptoriumlaw05_StampKeeps.walk Pure.StampKeeps a0 a1 a2 W w0 w1 w2).mono fun e W' ⟨he, bel⟩ => ?_
  subst he
  exact ⟨_, rfl, _, _, _, [], _, [], hW', trodAll_mk1 (shut_bool Try.underlying4 _), (trodAll_cons_mk (Below.trod laidOut (by kernel_rfl) (of_decide_eq_true (by kernel_rfl)) k0 bel lt0) (trodAll_cons_mk (Below.trod laidOut (by kernel_rfl) (of_decide_eq_true (by kernel_rfl)) k1 bel lt1) (trodAll_cons_mk (Below.trod laidOut (by kernel_rfl) (of_decide_eq_true (by kernel_rfl)) k2 bel lt2) trodAll_mk0))), rfl, bel.frame _, fun h => by cases h⟩
set_option maxRecDepth 100000 in
theorem lifted (os : Os) (started : os.Started) (H : Type) (enc : TypeId × Value → H) :
    ReturnsInHanded {} Try.checked os 7 .any (Rows.stampKeepsSpec.pre6 enc Try.prog Try.f7 Rows.stampKeepsRow.domain false) (Rows.stampKeepsSpec.post enc Try.prog Try.f7 false true false false) := by
  refine returnsInHanded_of_change_sized (C := Try.checked) own started (by kernel_rfl) Try.func7
    (ChangeSpec.witness6 (enc := enc) (C := Try.checked) false ⟨#[], #[.agg #[.int .i64 0, .int .i64 0], .agg #[.int .i64 0, .int .i64 0], .agg #[.int .i64 0, .int .i64 0]], []⟩ 8 (by kernel_rfl) (by kernel_rfl) (by kernel_rfl) (by kernel_rfl)) ?_
  intro W base args ds gs before hval hW _ hsz _
  exact contract H enc W base args ds gs before hval hW hsz
theorem over : Rows.stampKeepsRow.holds Try.pinned (OpenSpec.ofChange Rows.stampKeepsSpec) :=
  OpenClaim.holds_of_wide 7 Try.f7 rfl rfl rfl rfl rfl rfl rfl ⟨rfl, rfl, rfl, rfl, rfl⟩ rfl rfl rfl rfl rfl (by kernel_rfl) Try.func7 (by kernel_rfl)
    (of_decide_eq_true (by kernel_rfl)) (by unfold Func.isWrapper; first | (rw [if_pos (by decide +kernel)]; kernel_rfl) | (rw [if_neg (by decide +kernel)]; exact ⟨rfl, rfl⟩))
    (fun os started H enc _ => lifted os started H enc)
theorem proved : Rows.StampKeepsSaid := over
#print axioms proved
end Go.Proofs.Ytnohoknhhlcefaa.stampKeeps
namespace Go.Proofs.Ytnohoknhhlcefaa
/-- The row, under a short name, for the claim. -/
theorem stampKeeps_holds : Rows.StampKeepsSaid := stampKeeps.proved
end Go.Proofs.Ytnohoknhhlcefaa
