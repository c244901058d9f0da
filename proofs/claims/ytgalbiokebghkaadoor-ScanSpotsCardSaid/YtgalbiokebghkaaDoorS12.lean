/- Written by a program of this claim's author (stubprint.py, over the kit's print) out of the translation: Go functions as Lean functions, and that the calls come to them. -/
import Derived.Test.YtgalbiokebghkaaDoorS0
import Derived.Test.YtgalbiokebghkaaDoorS11
import Derived.Test.YtgalbiokebghkaaDoorHandS
import Derived.Test.YtgalbiokebghkaaDoorLivesS
namespace Go.Proofs.YtgalbiokebghkaaDoor.S
open Go.RowKit Go.Proofs.YtgalbiokebghkaaDoorW.PrintWords Go.Proofs.YtgalbiokebghkaaDoorW.PrintLast Go.Proofs.YtgalbiokebghkaaDoorW.PrintMore Go.Proofs.YtgalbiokebghkaaDoor.HandS Go.Proofs.YtgalbiokebghkaaDoor.Iter
attribute [local go_sem] max2_int min2_int max_two min_two max_three min_three max_four min_four   -- for this text's walks alone
set_option linter.unusedVariables false
set_option linter.unusedSimpArgs false

-- ALONE
theorem joustlaw01_lives.calls (k : Nat) (r : Bool) (w : World) (hG : Tabs w) (h : joustlaw01_lives.f k = some r) :
    Calls Tryd.prog 14 #[] w fun e w' => e = .returned (.bool r) ∧ Below w.heap.size w w':=by
  obtain rfl:=joustlaw01_lives.always k r h
  exact joustlaw01_lives.calls_true k w hG h

end Go.Proofs.YtgalbiokebghkaaDoor.S
