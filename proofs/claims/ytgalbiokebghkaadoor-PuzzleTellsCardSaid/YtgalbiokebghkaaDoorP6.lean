/- Written by a program of this claim's author (stubprint.py, over the kit's print) out of the translation: Go functions as Lean functions, and that the calls come to them. -/
import Derived.Test.YtgalbiokebghkaaDoorP0
import Derived.Test.YtgalbiokebghkaaDoorP5
import Derived.Test.YtgalbiokebghkaaDoorHandP
import Derived.Test.YtgalbiokebghkaaDoorLivesP
namespace Go.Proofs.YtgalbiokebghkaaDoor.P
open Go.RowKit Go.Proofs.YtgalbiokebghkaaDoorW.PrintWords Go.Proofs.YtgalbiokebghkaaDoorW.PrintLast Go.Proofs.YtgalbiokebghkaaDoorW.PrintMore Go.Proofs.YtgalbiokebghkaaDoor.HandP
attribute [local go_sem] max2_int min2_int max_two min_two max_three min_three max_four min_four   -- for this text's walks alone
set_option linter.unusedVariables false
set_option linter.unusedSimpArgs false

-- ALONE
theorem joustlaw36_lives.calls (k : Nat) (r : Bool) (w : World) (hG : Tabs w) (h : joustlaw36_lives.f k = some r) :
    Calls Tryd.prog 7 #[] w fun e w' => e = .returned (.bool r) ∧ Below w.heap.size w w' := by
  obtain rfl := joustlaw36_lives.always k r h
  exact joustlaw36_lives.calls_true k w hG h

end Go.Proofs.YtgalbiokebghkaaDoor.P
