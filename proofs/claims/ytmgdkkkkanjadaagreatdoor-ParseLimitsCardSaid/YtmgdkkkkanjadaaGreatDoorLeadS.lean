/-
  How many digits stand at the beginning of a text: scan's way and the document's way agree.
-/
import Derived.Test.YtmgdkkkkanjadaaGreatDoorNumS
namespace Go.Proofs.YtmgdkkkkanjadaaGreatDoor.PureS
set_option linter.unusedVariables false
set_option linter.unusedSimpArgs false
open Go.RowKit Go.Lib Go.Proofs.YtmgdkkkkanjadaaGreatDoorW.PrintWords Go.Proofs.YtmgdkkkkanjadaaGreatDoorW.PrintLast Go.Proofs.YtmgdkkkkanjadaaGreatDoorW.PrintMore Go.Proofs.YtmgdkkkkanjadaaGreatDoor.X Go.Proofs.YtmgdkkkkanjadaaGreatDoor.HandS Go.Proofs.YtmgdkkkkanjadaaGreatDoor.Iter

def lead (l : List UInt8) : Nat := (l.takeWhile isD).length
theorem wrap32_in {n : Int} (h0 : -2147483648 ≤ n) (h1 : n ≤ 2147483647) : wrap32 n = n := by
  unfold wrap32; omega
theorem digit_set (b : UInt8) : ([48, 49, 50, 51, 52, 53, 54, 55, 56, 57] : List UInt8).contains b = isD b := by
  have : ∀ n : Fin 256, ([48, 49, 50, 51, 52, 53, 54, 55, 56, 57] : List UInt8).contains (UInt8.ofNat n.1) = isD (UInt8.ofNat n.1) := by decide +kernel
  have h := this ⟨b.toNat, UInt8.toNat_lt b⟩
  rwa [UInt8.ofNat_toNat] at h
theorem drop_lead (l : List UInt8) : (trimLeftS l [48, 49, 50, 51, 52, 53, 54, 55, 56, 57]).length + lead l = l.length := by
  unfold trimLeftS lead
  induction l with
  | nil => rfl
  | cons b l ih =>
    rw [List.dropWhile_cons, List.takeWhile_cons, digit_set]
    cases isD b with
    | true => rw [if_pos rfl, if_pos rfl, List.length_cons, List.length_cons]; omega
    | false => rw [if_neg Bool.false_ne_true, if_neg Bool.false_ne_true]; rfl
theorem numeral (s : ByteArray) (hs : s.size ≤ 4611686018427387904) : scan_numeral.f s = some ((lead s.data.toList : Nat) : Int) := by
  have h := drop_lead s.data.toList
  have hz := size_eq s
  unfold scan_numeral.f strings_TrimLeft.f
  rw [if_pos ⟨by decide, by decide⟩, Option.bind_some]
  have e : ((⟨(trimLeftS s.data.toList [48, 49, 50, 51, 52, 53, 54, 55, 56, 57]).toArray⟩ : ByteArray).size : Nat) = (trimLeftS s.data.toList [48, 49, 50, 51, 52, 53, 54, 55, 56, 57]).length := by
    rw [size_eq]
  show some (wrap64 ((s.size : Int) - ((⟨(trimLeftS s.data.toList [48, 49, 50, 51, 52, 53, 54, 55, 56, 57]).toArray⟩ : ByteArray).size : Int))) = _
  rw [e, wrap_in (by omega) (by omega)]
  congr 1
  omega
end Go.Proofs.YtmgdkkkkanjadaaGreatDoor.PureS


