/-
  Numerals over numbers and lists alone: how many digits stand at the beginning, and are they too great; scan's way and the document's way agree.
-/
import Derived.Test.YtmgdkkkkanjadaaGreatDoorCountS
import Derived.Test.YtmgdkkkkanjadaaGreatDoorX6
import Derived.Lib.AtoiAllCases
namespace Go.Proofs.YtmgdkkkkanjadaaGreatDoor.PureS
set_option linter.unusedVariables false
set_option linter.unusedSimpArgs false
open Go.RowKit Go.Lib Go.Proofs.YtmgdkkkkanjadaaGreatDoorW.PrintWords Go.Proofs.YtmgdkkkkanjadaaGreatDoorW.PrintLast Go.Proofs.YtmgdkkkkanjadaaGreatDoorW.PrintMore Go.Proofs.YtmgdkkkkanjadaaGreatDoor.X Go.Proofs.YtmgdkkkkanjadaaGreatDoor.HandS Go.Proofs.YtmgdkkkkanjadaaGreatDoor.Iter

def isD (b : UInt8) : Bool := D b.toNat
/-- What digits spell. -/
def val (acc : Nat) (l : List UInt8) : Nat := l.foldl (fun a b => a * 10 + (b.toNat - 48)) acc
theorem val_nil (acc : Nat) : val acc [] = acc := by unfold val; rw [List.foldl_nil]
theorem val_cons (acc : Nat) (b : UInt8) (l : List UInt8) : val acc (b :: l) = val (acc * 10 + (b.toNat - 48)) l := by unfold val; rw [List.foldl_cons]
theorem val_ge (l : List UInt8) : ∀ acc, acc ≤ val acc l := by
  induction l with
  | nil => intro acc; rw [val_nil]; exact Nat.le_refl _
  | cons b l ih =>
    intro acc
    have := ih (acc * 10 + (b.toNat - 48))
    rw [val_cons]
    omega
theorem parse_val (l : List UInt8) : ∀ acc, (∀ b ∈ l, isD b = true) → (parseUint10 acc l = .ok (val acc l)) ∨ (parseUint10 acc l = .range ∧ 99999 < val acc l) := by
  induction l with
  | nil => intro acc h; exact .inl (by rw [val_nil, parseUint10])
  | cons b l ih =>
    intro acc h
    have hb : 48 ≤ b.toNat ∧ b.toNat ≤ 57 := of_decide_eq_true (h b (List.mem_cons_self ..))
    have hge := val_ge l (acc * 10 + (b.toNat - 48))
    have e : val acc (b :: l) = val (acc * 10 + (b.toNat - 48)) l := val_cons acc b l
    rw [e]
    have e2 : parseUint10 acc (b :: l) = if 1844674407370955162 ≤ acc then .range else if 18446744073709551616 ≤ acc * 10 + (b.toNat - 48) then .range else parseUint10 (acc * 10 + (b.toNat - 48)) l := by
      rw [parseUint10, if_pos hb]
    rw [e2]
    split
    · rename_i h1
      exact .inr ⟨rfl, by omega⟩
    · split
      · rename_i h1 h2
        exact .inr ⟨rfl, by omega⟩
      · exact ih _ (fun x hx => h x (List.mem_cons_of_mem _ hx))
/-- Whether Atoi's answer is too great for a number of a text. -/
def great (l : List UInt8) : Bool := decide (99999 < val 0 l)
theorem atoi_digits (l : List UInt8) (hl : l ≠ []) (h : ∀ b ∈ l, isD b = true) : (∃ v : Nat, atoiAll l = .ok (v : Int) ∧ v = val 0 l) ∨ (atoiAll l = .range ∧ great l = true) := by
  cases l with
  | nil => exact absurd rfl hl
  | cons c r =>
    have hb : 48 ≤ c.toNat ∧ c.toNat ≤ 57 := of_decide_eq_true (h c (List.mem_cons_self ..))
    rw [atoiAll_plain c r (by omega) (by omega), parseMag, if_neg (by simp)]
    rcases parse_val (c :: r) 0 h with e | ⟨e, hg⟩
    · rw [e]
      by_cases h3 : 9223372036854775808 ≤ val 0 (c :: r)
      · exact .inr ⟨by rw [signless, if_pos h3], decide_eq_true (by omega)⟩
      · exact .inl ⟨_, by rw [signless, if_neg h3], rfl⟩
    · exact .inr ⟨by rw [e, signless], decide_eq_true hg⟩

/-! ### great -/
theorem bt_get (s : ByteArray) (i : Nat) (h : i < s.size) : bt s (i : Int) = ((s.data.toList.getD i 0).toNat : Int) := by
  unfold bt
  rw [dif_pos (show (i : Int).toNat < s.size by rw [Int.toNat_natCast]; exact h)]
  have h2 : i < s.data.toList.length := by rw [← size_eq]; exact h
  have e : s.data.toList.getD i 0 = s.data.toList[i] := by
    show (s.data.toList[i]?).getD 0 = _
    rw [List.getElem?_eq_getElem h2]; rfl
  rw [e]
  rfl
theorem drop_cons (l : List UInt8) (i : Nat) (h : i < l.length) : l.drop i = l.getD i 0 :: l.drop (i + 1) := by
  rw [List.drop_eq_getElem_cons h]
  congr 1
  show _ = (l[i]?).getD 0
  rw [List.getElem?_eq_getElem h]; rfl
theorem mn_eq (a b : Int) : mn a b = if a ≤ b then a else b := by
  unfold mn
  split <;> split <;> omega
theorem sat_step (acc b : Nat) (hb : 48 ≤ b) (x : Int) (h : x = if acc ≤ 100000 then (acc : Int) else 100000) : mn (10 * x + ((b : Int) - 48)) 100000 = if acc * 10 + (b - 48) ≤ 100000 then ((acc * 10 + (b - 48) : Nat) : Int) else 100000 := by
  rw [mn_eq]
  by_cases h1 : acc ≤ 100000
  · rw [if_pos h1] at h
    by_cases h2 : acc * 10 + (b - 48) ≤ 100000
    · rw [if_pos h2, if_pos (by omega)]
      omega
    · rw [if_neg h2]
      split <;> omega
  · rw [if_neg h1] at h
    rw [if_neg (show ¬ acc * 10 + (b - 48) ≤ 100000 by omega)]
    split <;> omega
end Go.Proofs.YtmgdkkkkanjadaaGreatDoor.PureS


