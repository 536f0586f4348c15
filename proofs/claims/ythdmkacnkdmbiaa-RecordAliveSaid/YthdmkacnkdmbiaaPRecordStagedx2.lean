/- Written by xprint.py, a program of these sessions (over the print of the kit, with leaves typed by hand): one Lean function for each Go function, and the proof that the Go code comes to its answers. -/
import Derived.Test.YthdmkacnkdmbiaaPRecordStagedx0
namespace Go.Proofs.Ythdmkacnkdmbiaa.PRecordStaged
open Go.RowKit Go.Proofs.YthdmkacnkdmbiaaW.PrintWords Go.Proofs.YthdmkacnkdmbiaaW.PrintLast Go.Proofs.YthdmkacnkdmbiaaW.PrintMore
attribute [local go_sem] max2_int min2_int max_two min_two max_three min_three max_four min_four   -- for this text's walks alone
attribute [local go_sem] str_gtr str_leq str_geq
set_option linter.unusedVariables false
set_option linter.unusedSimpArgs false

theorem eqA44 (d : Nat) (w : World) (x0 y0 : ByteArray) (x1 y1 : Int) :
    (Op.equalIn (d + 2) 44 (.agg #[.string x0, .int .i64 x1]) (.agg #[.string y0, .int .i64 y1])).run Try.prog w = .ok (x0.toList == y0.toList && (x1 == y1)) w := by
  refine eqA_of Try.underlying44 (by kernel_rfl) ?_
  refine eqf_cons (by rfl) (by go_simp; rfl) (by go_simp; rfl) (by go_simp) ?_
  exact eqf_last (by rfl) (by go_simp; rfl) (by go_simp; rfl) (by go_simp)
end Go.Proofs.Ythdmkacnkdmbiaa.PRecordStaged
