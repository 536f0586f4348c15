/- Written by xprint.py, a program of these sessions (over the print of the kit, with leaves typed by hand): one Lean function for each Go function, and the proof that the Go code comes to its answers. -/
import Derived.Test.YtnohoknhhlcefaaPStampNearx0
import Derived.Test.YtnohoknhhlcefaaPStampNearx1
import Derived.Test.YtnohoknhhlcefaaPStampNearx2
import Derived.Test.YtnohoknhhlcefaaPStampNearx3
import Derived.Test.YtnohoknhhlcefaaPStampNearx4a
import Derived.Test.YtnohoknhhlcefaaPStampNearx4b
namespace Go.Proofs.Ytnohoknhhlcefaa.PStampNear
open Go.RowKit Go.Proofs.YtnohoknhhlcefaaW.PrintWords Go.Proofs.YtnohoknhhlcefaaW.PrintLast Go.Proofs.YtnohoknhhlcefaaW.PrintMore
attribute [local go_sem] max2_int min2_int max_two min_two max_three min_three max_four min_four   -- for this text's walks alone
set_option linter.unusedVariables false
set_option linter.unusedSimpArgs false

attribute [local go_sem high] eqA23
theorem scriptoriumlaw05_StampNear.calls (k : Nat) (a0_0 : Int) (a0_1 : Int) (a1_0 : Int) (a1_1 : Int) (r : Bool) (w : World) (h : scriptoriumlaw05_StampNear.f k a0_0 a0_1 a1_0 a1_1 = some r) (hrt : r = true) :
  Calls Try.prog 5 #[.agg #[.int .i64 a0_0, .int .i64 a0_1], .agg #[.int .i64 a1_0, .int .i64 a1_1]] w fun e w' => e = .returned (.bool r) ∧ Below w.heap.size w w' := by
 by_cases hq : ∀ p q, scriptoriumlaw05_bring.f a0_0 a0_1 = some p → stamp_Next.f p.1 p.2 = some q → q.2.2 = 0
 ·exact scriptoriumlaw05_StampNear.calls_t k a0_0 a0_1 a1_0 a1_1 r w h hrt hq
 ·refine scriptoriumlaw05_StampNear.calls_f k a0_0 a0_1 a1_0 a1_1 r w h hrt (fun p q hp hn h0 => hq (fun p' q' hp' hn' => ?_))
  rw [hp] at hp'
  obtain rfl := Option.some.inj hp'
  rw [hn] at hn'
  obtain rfl := Option.some.inj hn'
  exact h0
/-- THE ONE PURE STATEMENT of scriptoriumlaw05_StampNear: yours. -/
def scriptoriumlaw05_StampNear.Pure : Prop := ∀ (a0 : S23) (a1 : S23), ((Lit.int .i64 a0.f0).wf = true ∧ (Lit.int .i64 a0.f1).wf = true) → ((Lit.int .i64 a1.f0).wf = true ∧ (Lit.int .i64 a1.f1).wf = true) → ∃ k, scriptoriumlaw05_StampNear.f k a0.f0 a0.f1 a1.f0 a1.f1 = some true
theorem scriptoriumlaw05_StampNear.walk (P : scriptoriumlaw05_StampNear.Pure) (a0 : S23) (a1 : S23) (w : World) (w0 : ((Lit.int .i64 a0.f0).wf = true ∧ (Lit.int .i64 a0.f1).wf = true)) (w1 : ((Lit.int .i64 a1.f0).wf = true ∧ (Lit.int .i64 a1.f1).wf = true)) :
  Calls Try.prog 5 #[.agg #[.int .i64 a0.f0, .int .i64 a0.f1], .agg #[.int .i64 a1.f0, .int .i64 a1.f1]] w fun e w' => e = .returned (.bool true) ∧ Below w.heap.size w w' := by
 obtain ⟨k, h⟩ := P a0 a1 w0 w1
 refine (scriptoriumlaw05_StampNear.calls k a0.f0 a0.f1 a1.f0 a1.f1 true w h rfl).mono ?_
 rintro e w' ⟨rfl, hd⟩
 exact ⟨rfl, hd⟩

end Go.Proofs.Ytnohoknhhlcefaa.PStampNear
