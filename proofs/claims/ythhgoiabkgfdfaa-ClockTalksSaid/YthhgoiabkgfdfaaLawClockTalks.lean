/- Written by xprint.py, a program of these sessions (over the print of the kit, with leaves typed by hand): one Lean function for each Go function, and the proof that the Go code comes to its answers. -/
import Derived.Test.YthhgoiabkgfdfaaRows
import Derived.Test.YthhgoiabkgfdfaaKTalks
import Derived.Test.YthhgoiabkgfdfaaPureClockTalks
import Derived.Test.YthhgoiabkgfdfaaOpen
import Derived.WalkKit
import Derived.ProofKit
import Derived.OpenShut
import Derived.ShutString
import Derived.ChangeOld
import Derived.Below
import Derived.SizedLaws
import Derived.Carry
import Derived.JoinedCond
import Derived.Deep.CondSized
namespace Go.Proofs.Ythhgoiabkgfdfaa.clockTalks
open Go.ChangeShapes Go.WideShapes Go.ChangeAt Go.RowKit Go.Proofs.YthhgoiabkgfdfaaW.PrintWords Go.Proofs.Ythhgoiabkgfdfaa.PClockRises
open Go.ChangeMaps (open_string shut_string)
set_option linter.unusedVariables false
theorem own : ownKnob Try.prog.godebug = none := by kernel_rfl
theorem laidOut : laidOutB Try.prog = true := by kernel_rfl
theorem o30 {H : Type} {enc : TypeId × Value → H} : Opn enc Try.prog 30 k30 (fun a => ((Lit.int .i64 a.f0).wf = true ∧ (Lit.int .i64 a.f1).wf = true ∧ (Lit.int .i64 a.f2).wf = true)) (fun a => ((1 + (1 + 1)) + 1)) :=
  opn_arr (n := 3) (c := 1) (fs := [⟨ "", 3, 0, false, "", "", 0⟩, ⟨ "", 3, 1, false, "", "", 0⟩, ⟨ "", 3, 2, false, "", "", 0⟩]) Try.underlying30 (by kernel_rfl) (by kernel_rfl) rfl (by intro i g hg; match i, hg with | 0, hg => (cases hg; exact ⟨rfl, rfl⟩) | 1, hg => (cases hg; exact ⟨rfl, rfl⟩) | 2, hg => (cases hg; exact ⟨rfl, rfl⟩) | n + 3, hg => simp at hg) (opnF_cons rfl (by kernel_rfl) (opn_int Try.underlying3) (opnF_cons rfl (by kernel_rfl) (opn_int Try.underlying3) (opnF_one rfl (by kernel_rfl) rfl (opn_int Try.underlying3)))) (fun b => ⟨b.1, b.2.1, b.2.2⟩) (fun _ => rfl)
set_option maxRecDepth 100000 in
theorem contract (H : Type) (enc : TypeId × Value → H) (W : World) (base : Nat) (args : Array Value) (ds gs : List (DataW H)) (before : List MemPlace)
    (hval : ∀ (j : Nat) t v, Try.f3.params[j]? = some t → args[j]? = some v → Value.okWide Try.prog W .any base t v)
    (hW : DataW.Whole enc Try.prog Try.f3.params.toList Rows.clockTalksSpec.vars false W args.toList ds gs before)
    (hsz : (DataW.weightsEach Try.prog (Try.f3.params.toList ++ Rows.clockTalksSpec.plain.varTypes Try.prog) (ds ++ gs)).all (· ≤ reachBytes) = true) :
    Calls Try.prog 3 args W fun e W' => ∃ v, e = .returned v ∧ Rows.clockTalksSpec.post enc Try.prog Try.f3 false true false false W args v W' := by
  have hW' := hW
  obtain ⟨p, q, hA0, hV, rfl, hfz, hnd⟩ := hW
  have hA : DataW.TrodAll enc Try.prog W 0 (fun _ => true) true Try.f3.params.toList args.toList ds p := hA0
  rw [Try.params3] at hA hval hsz
  obtain ⟨v0, vs0, d0, ds0, p0, q0, hargs, rfl, rfl, h0, r0⟩ := trodAll_cons hA
  obtain ⟨rfl, rfl, rfl⟩ := trodAll_nil r0
  obtain rfl : args = #[v0] := by cases args; simp_all
  obtain ⟨rfl, rfl⟩ := trodVars_none hV
  have k0 := h0
  have lt0 : ∀ x ∈ p0, x.block < W.heap.size := by obtain ⟨m, hm⟩ := k0; exact DataW.trod_lt m _ _ _ hm
  obtain ⟨a0, A0, c0, rfl, hr0, hc0, w0, m0⟩ := opn_row Try.underlying22 (opn_slice (B := 24) Try.underlying22 z30 (by kernel_rfl) (by kernel_rfl) o30) (hval 0 22 v0 rfl rfl) h0 (weights_of hsz (j := 0) (t := 22) rfl rfl)
  refine (PClockRises.scriptoriumlaw06_ClockTalks.walk Pure.ClockTalks a0 A0 c0 W w0 hr0 hc0).mono fun e W' ⟨he, bel⟩ => ?_
  subst he
  exact ⟨_, rfl, _, _, _, [], _, [], hW', trodAll_mk1 (shut_bool Try.underlying4 _), (trodAll_cons_mk (Below.trod laidOut (by kernel_rfl) (of_decide_eq_true (by kernel_rfl)) k0 bel lt0) trodAll_mk0), rfl, bel.frame _, fun h => by cases h⟩
set_option maxRecDepth 100000 in
theorem lifted (os : Os) (started : os.Started) (H : Type) (enc : TypeId × Value → H) :
    ReturnsInHanded {} Try.checked os 3 .any (Rows.clockTalksSpec.pre6 enc Try.prog Try.f3 Rows.clockTalksRow.domain false) (Rows.clockTalksSpec.post enc Try.prog Try.f3 false true false false) := by
  refine returnsInHanded_of_change_sized (C := Try.checked) own started (by kernel_rfl) Try.func3
    (ChangeSpec.witness6 (enc := enc) (C := Try.checked) false ⟨#[], #[.slice none 0 0], []⟩ 8 (by kernel_rfl) (by kernel_rfl) (by kernel_rfl) (by kernel_rfl)) ?_
  intro W base args ds gs before hval hW _ hsz _
  exact contract H enc W base args ds gs before hval hW hsz
theorem over : Rows.clockTalksRow.holds Try.pinned (OpenSpec.ofChange Rows.clockTalksSpec) :=
  OpenClaim.holds_of_wide 3 Try.f3 rfl rfl rfl rfl rfl rfl rfl ⟨rfl, rfl, rfl, rfl, rfl⟩ rfl rfl rfl rfl rfl (by kernel_rfl) Try.func3 (by kernel_rfl)
    (of_decide_eq_true (by kernel_rfl)) (by unfold Func.isWrapper; first | (rw [if_pos (by decide +kernel)]; kernel_rfl) | (rw [if_neg (by decide +kernel)]; exact ⟨rfl, rfl⟩))
    (fun os started H enc _ => lifted os started H enc)
theorem proved : Rows.ClockTalksSaid := over
#print axioms proved
end Go.Proofs.Ythhgoiabkgfdfaa.clockTalks
namespace Go.Proofs.Ythhgoiabkgfdfaa
/-- The row, under a short name, for the claim. -/
theorem clockTalks_holds : Rows.ClockTalksSaid := clockTalks.proved
end Go.Proofs.Ythhgoiabkgfdfaa
