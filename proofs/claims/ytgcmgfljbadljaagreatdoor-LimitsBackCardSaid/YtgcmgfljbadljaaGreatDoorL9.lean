/- Written by a program of this claim's author (stubprint.py, over the kit's print) out of the translation: Go functions as Lean functions, and that the calls come to them. -/
import Derived.Test.YtgcmgfljbadljaaGreatDoorL0
import Derived.Test.YtgcmgfljbadljaaGreatDoorL8
import Derived.Test.YtgcmgfljbadljaaGreatDoorHandS
import Derived.Test.YtgcmgfljbadljaaGreatDoorLivesL
namespace Go.Proofs.YtgcmgfljbadljaaGreatDoor.L
open Go.RowKit Go.Proofs.YtgcmgfljbadljaaGreatDoorW.PrintWords Go.Proofs.YtgcmgfljbadljaaGreatDoorW.PrintLast Go.Proofs.YtgcmgfljbadljaaGreatDoorW.PrintMore Go.Proofs.YtgcmgfljbadljaaGreatDoor.HandS Go.Proofs.YtgcmgfljbadljaaGreatDoor.Iter
attribute [local go_sem] max2_int min2_int max_two min_two max_three min_three max_four min_four   -- for this text's walks alone
set_option linter.unusedVariables false
set_option linter.unusedSimpArgs false

-- ALONE
theorem joustlaw30_lives.calls (k : Nat) (r : Bool) (w : World) (hG : Tabs w) (h : joustlaw30_lives.f k = some r) :
    Calls Tryz.prog 9 #[] w fun e w' => e = .returned (.bool r) ∧ Below w.heap.size w w':=by
  obtain rfl:=joustlaw30_lives.always k r h;exact joustlaw30_lives.calls_true k w hG h

end Go.Proofs.YtgcmgfljbadljaaGreatDoor.L
