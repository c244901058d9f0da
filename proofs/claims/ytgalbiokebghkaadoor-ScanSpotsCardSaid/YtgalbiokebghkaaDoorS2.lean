/- Written by a program of this claim's author (stubprint.py, over the kit's print) out of the translation: Go functions as Lean functions, and that the calls come to them. -/
import Derived.Test.YtgalbiokebghkaaDoorS0
import Derived.Test.YtgalbiokebghkaaDoorS1
import Derived.Test.YtgalbiokebghkaaDoorHandS
namespace Go.Proofs.YtgalbiokebghkaaDoor.S
open Go.RowKit Go.Proofs.YtgalbiokebghkaaDoorW.PrintWords Go.Proofs.YtgalbiokebghkaaDoorW.PrintLast Go.Proofs.YtgalbiokebghkaaDoorW.PrintMore Go.Proofs.YtgalbiokebghkaaDoor.HandS Go.Proofs.YtgalbiokebghkaaDoor.Iter
attribute [local go_sem] max2_int min2_int max_two min_two max_three min_three max_four min_four   -- for this text's walks alone
set_option linter.unusedVariables false
set_option linter.unusedSimpArgs false

theorem eqA39 (d : Nat) (w : World) (x0 y0 : Int) (x1 y1 : Int) (x2 y2 : Int) :
    (Op.equalIn (d + 3) 39 (.agg #[.int .i64 x0,.int .i64 x1,.int .i64 x2]) (.agg #[.int .i64 y0,.int .i64 y1,.int .i64 y2])).run Tryd.prog w = .ok (x0 == y0 && ((x1 == y1 && (x2 == y2)))) w:=by
  refine eqA_of Tryd.underlying39 (by kernel_rfl) ?_
  refine eqf_cons (by rfl) (by go_simp;rfl) (by go_simp;rfl) (by go_simp) ?_
  exact eqf_last (by rfl) (by go_simp) (by go_simp) (eqA37 (d + 0) w _ _ _ _)
end Go.Proofs.YtgalbiokebghkaaDoor.S
