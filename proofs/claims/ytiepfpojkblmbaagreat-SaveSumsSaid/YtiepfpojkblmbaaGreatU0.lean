/- Written by a program of this claim's author (stubprint.py, over the kit's print) out of the translation: Go functions as Lean functions, and that the calls come to them. -/
import Derived.Test.YtiepfpojkblmbaaGreatProg
import Derived.Below
import Derived.Deep.Draws
import Derived.Deep.AppendLies
import Derived.Maps.AppendAt
import Derived.OwnWalk
import Derived.Laws.BytesArg
import Derived.Laws.MakeOwn
import Derived.Laws.OwnMore
import Derived.Deep.OwnRows
import Derived.Tactics
import Derived.Lib.ConvBytes
import Derived.Laws.Slices
import Derived.WalkKit
import Derived.KernelRfl
import Derived.RowKit3
import Derived.Deep.LoopGhost
import Derived.Deep.QuietTactic
import Derived.BigQuiet
import Derived.WideLaws
import Derived.Deep.DeepCutAuto
import Derived.Deep.CutBlock
import Derived.Deep.RegionHeld3
import Derived.Laws.Rows
import Derived.Lib.AppendStr
import Derived.ArgAppend
import Derived.Laws.IdiomCopy
import Derived.OrdersHeld
import Derived.Laws.BitsLemmas
import Derived.RowKit
import Derived.Test.YtiepfpojkblmbaaGreatWWords
import Derived.Test.YtiepfpojkblmbaaGreatWLast
import Derived.Test.YtiepfpojkblmbaaGreatWTab
import Derived.Test.YtiepfpojkblmbaaGreatWFour
import Derived.Test.YtiepfpojkblmbaaGreatWQPut
import Derived.Test.YtiepfpojkblmbaaGreatWApart
import Derived.Test.YtiepfpojkblmbaaGreatWArr
import Derived.Test.YtiepfpojkblmbaaGreatWZeros
import Derived.Test.YtiepfpojkblmbaaGreatWFoot
import Derived.Test.YtiepfpojkblmbaaGreatWKept
import Derived.Test.YtiepfpojkblmbaaGreatWShare
import Derived.Test.YtiepfpojkblmbaaGreatWN
import Derived.Test.YtiepfpojkblmbaaGreatWFootNe
import Derived.Test.YtiepfpojkblmbaaGreatWAt
import Derived.Test.YtiepfpojkblmbaaGreatWEqStruct
import Derived.Test.YtiepfpojkblmbaaGreatWRepsOne
import Derived.Test.YtiepfpojkblmbaaGreatWInv
import Derived.Test.YtiepfpojkblmbaaGreatWInvWords
import Derived.Test.YtiepfpojkblmbaaGreatWGuard
import Derived.Test.YtiepfpojkblmbaaGreatWNEv
import Derived.Test.YtiepfpojkblmbaaGreatWMore
namespace Go.Proofs.YtiepfpojkblmbaaGreat.U
open Go.RowKit Go.Proofs.YtiepfpojkblmbaaGreatW.PrintWords Go.Proofs.YtiepfpojkblmbaaGreatW.PrintLast Go.Proofs.YtiepfpojkblmbaaGreatW.PrintMore
attribute [local go_sem] max2_int min2_int max_two min_two max_three min_three max_four min_four   -- for this text's walks alone
set_option linter.unusedVariables false
set_option linter.unusedSimpArgs false



def errW : Option Int → Value
  | none => .nilIface
  | some c => .iface 0 (.int .i64 c)
def errV (N : Nat) : Option Int → Value
  | none => .nilIface
  | some _ => .iface 0 (.pointer (some ⟨N, 0, none⟩))
theorem errV_none (N : Nat) : errV N none = .nilIface := rfl
theorem errV_some (N : Nat) (c : Int) : errV N (some c) = .iface 0 (.pointer (some ⟨N, 0, none⟩)) := rfl
theorem errW_none : errW none = .nilIface := rfl
theorem errW_some (c : Int) : errW (some c) = .iface 0 (.int .i64 c) := rfl

-- the values' own types

end Go.Proofs.YtiepfpojkblmbaaGreat.U
