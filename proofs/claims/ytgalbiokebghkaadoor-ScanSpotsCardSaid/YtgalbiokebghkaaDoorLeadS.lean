/-
  How many digits stand at the beginning of a text: scan's way and the document's way agree.
-/
import Derived.Test.YtgalbiokebghkaaDoorNumS
namespace Go.Proofs.YtgalbiokebghkaaDoor.PureS
set_option linter.unusedVariables false
set_option linter.unusedSimpArgs false
open Go.RowKit Go.Lib Go.Proofs.YtgalbiokebghkaaDoorW.PrintWords Go.Proofs.YtgalbiokebghkaaDoorW.PrintLast Go.Proofs.YtgalbiokebghkaaDoorW.PrintMore Go.Proofs.YtgalbiokebghkaaDoor.S Go.Proofs.YtgalbiokebghkaaDoor.HandS Go.Proofs.YtgalbiokebghkaaDoor.Iter

def lead (l : List UInt8) : Nat := (l.takeWhile isD).length
theorem wrap32_in {n : Int} (h0 : -2147483648 ≤ n) (h1 : n ≤ 2147483647) : wrap32 n = n := by
  unfold wrap32; omega
theorem refNumber_loop (s : ByteArray) (hs : s.size ≤ 4611686018427387904) (n : Nat) : ∀ (k i : Nat), s.size - i = n → n < k → i ≤ s.size → joustref01_number.l0 k s (i : Int) = some ((i + lead (s.data.toList.drop i) : Nat) : Int) := by
  induction n with
  | zero =>
    intro k i h1 h2 h3
    obtain ⟨k, rfl⟩ : ∃ q, k = q + 1 := ⟨k - 1, by omega⟩
    rw [joustref01_number.l0, if_neg (by omega), List.drop_eq_nil_of_le (by rw [← size_eq]; omega)]
    rfl
  | succ n ih =>
    intro k i h1 h2 h3
    obtain ⟨k, rfl⟩ : ∃ q, k = q + 1 := ⟨k - 1, by omega⟩
    have q1 : s.size - (i + 1) = n := by omega
    have q2 : n < k := by omega
    have q3 : i + 1 ≤ s.size := by omega
    have c1 : (i : Int) < (s.size : Int) := by omega
    have c2 : 0 ≤ (i : Int) := by omega
    have e1 : wrap64 ((i : Int) + 1) = ((i + 1 : Nat) : Int) := by rw [wrap_in (by omega) (by omega)]; omega
    have hd := drop_cons s.data.toList i (by rw [← size_eq]; omega)
    have hlt : (s.data.toList.getD i 0).toNat < 256 := UInt8.toNat_lt _
    rw [joustref01_number.l0, if_pos c1, if_pos c2, bt_get s i (by omega), wrap32_in (by omega) (by omega), digit, Option.bind_some, hd]
    unfold lead
    rw [List.takeWhile_cons]
    show (if D (s.data.toList.getD i 0).toNat = true then _ else _) = some ((i + (if D (s.data.toList.getD i 0).toNat = true then _ else _ : List UInt8).length : Nat) : Int)
    cases D (s.data.toList.getD i 0).toNat with
    | true =>
      rw [if_pos rfl, if_pos rfl, e1, ih k (i + 1) q1 q2 q3, List.length_cons]
      unfold lead
      congr 2
      omega
    | false =>
      rw [if_neg Bool.false_ne_true, if_neg Bool.false_ne_true]
      rfl
theorem refNumber (s : ByteArray) (hs : s.size ≤ 4611686018427387904) (k : Nat) (hk : s.size < k) : joustref01_number.f k s = some ((lead s.data.toList : Nat) : Int) := by
  have := refNumber_loop s hs s.size k 0 (by omega) hk (by omega)
  rw [List.drop_zero, Nat.zero_add] at this
  exact this
theorem digit_set (b : UInt8) : ([48, 49, 50, 51, 52, 53, 54, 55, 56, 57] : List UInt8).contains b = isD b := by
  have : ∀ n : Fin 256, ([48, 49, 50, 51, 52, 53, 54, 55, 56, 57] : List UInt8).contains (UInt8.ofNat n.1) = isD (UInt8.ofNat n.1) := by decide +kernel
  have h := this ⟨b.toNat, UInt8.toNat_lt b⟩
  rwa [UInt8.ofNat_toNat] at h
theorem drop_lead (l : List UInt8) : (trimLeftS l [48, 49, 50, 51, 52, 53, 54, 55, 56, 57]).length + lead l = l.length := by
  unfold trimLeftS lead
  induction l with
  | nil => rfl
  | cons b l ih =>
    rw [List.dropWhile_cons, List.takeWhile_cons, digit_set]
    cases isD b with
    | true => rw [if_pos rfl, if_pos rfl, List.length_cons, List.length_cons]; omega
    | false => rw [if_neg Bool.false_ne_true, if_neg Bool.false_ne_true]; rfl
theorem numeral (s : ByteArray) (hs : s.size ≤ 4611686018427387904) : scan_numeral.f s = some ((lead s.data.toList : Nat) : Int) := by
  have h := drop_lead s.data.toList
  have hz := size_eq s
  unfold scan_numeral.f strings_TrimLeft.f
  rw [if_pos ⟨by decide, by decide⟩, Option.bind_some]
  have e : ((⟨(trimLeftS s.data.toList [48, 49, 50, 51, 52, 53, 54, 55, 56, 57]).toArray⟩ : ByteArray).size : Nat) = (trimLeftS s.data.toList [48, 49, 50, 51, 52, 53, 54, 55, 56, 57]).length := by
    rw [size_eq]
  show some (wrap64 ((s.size : Int) - ((⟨(trimLeftS s.data.toList [48, 49, 50, 51, 52, 53, 54, 55, 56, 57]).toArray⟩ : ByteArray).size : Int))) = _
  rw [e, wrap_in (by omega) (by omega)]
  congr 1
  omega
end Go.Proofs.YtgalbiokebghkaaDoor.PureS
