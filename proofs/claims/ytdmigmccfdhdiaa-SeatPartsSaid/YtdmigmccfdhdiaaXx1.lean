/- The Go functions that a law reaches as plain Lean functions, and the proof that each call answers as they do: written by xprint.py, a program of this session over print.py of the kit, with hooks and contracts of its own. -/
import Derived.Test.YtdmigmccfdhdiaaXx0
namespace Go.Proofs.Ytdmigmccfdhdiaa.X
open Go.RowKit Go.Proofs.YtdmigmccfdhdiaaW.PrintWords Go.Proofs.YtdmigmccfdhdiaaW.PrintLast Go.Proofs.YtdmigmccfdhdiaaW.PrintMore
attribute [local go_sem] max2_int min2_int max_two min_two max_three min_three max_four min_four   -- for this text's walks alone
set_option linter.unusedVariables false
set_option linter.unusedSimpArgs false

theorem eqA24 (d : Nat) (w : World) (x0 y0 : Bool) (x1 y1 : ByteArray) (x2 y2 : ByteArray) (x3 y3 : Bool) (x4 y4 : ByteArray) :
    (Op.equalIn (d + 2) 24 (.agg #[.bool x0, .string x1, .string x2, .bool x3, .string x4]) (.agg #[.bool y0, .string y1, .string y2, .bool y3, .string y4])).run Try.prog w = .ok (x0 == y0 && (x1.toList == y1.toList && (x2.toList == y2.toList && (x3 == y3 && (x4.toList == y4.toList))))) w := by
  refine eqA_of Try.underlying24 (by kernel_rfl) ?_
  refine eqf_cons (by rfl) (by go_simp; rfl) (by go_simp; rfl) (by go_simp) ?_
  refine eqf_cons (by rfl) (by go_simp; rfl) (by go_simp; rfl) (by go_simp) ?_
  refine eqf_cons (by rfl) (by go_simp; rfl) (by go_simp; rfl) (by go_simp) ?_
  refine eqf_cons (by rfl) (by go_simp; rfl) (by go_simp; rfl) (by go_simp) ?_
  exact eqf_last (by rfl) (by go_simp; rfl) (by go_simp; rfl) (by go_simp)
end Go.Proofs.Ytdmigmccfdhdiaa.X
