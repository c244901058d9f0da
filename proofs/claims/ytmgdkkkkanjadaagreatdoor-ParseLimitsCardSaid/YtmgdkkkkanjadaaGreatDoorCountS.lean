/-
  The runes of a word are counted alike; whether a text is a word is told alike.
-/
import Derived.Test.YtmgdkkkkanjadaaGreatDoorWordS
namespace Go.Proofs.YtmgdkkkkanjadaaGreatDoor.PureS
set_option linter.unusedVariables false
set_option linter.unusedSimpArgs false
open Go.RowKit Go.Lib Go.Proofs.YtmgdkkkkanjadaaGreatDoorW.PrintWords Go.Proofs.YtmgdkkkkanjadaaGreatDoorW.PrintLast Go.Proofs.YtmgdkkkkanjadaaGreatDoorW.PrintMore Go.Proofs.YtmgdkkkkanjadaaGreatDoor.X Go.Proofs.YtmgdkkkkanjadaaGreatDoor.HandS Go.Proofs.YtmgdkkkkanjadaaGreatDoor.Iter

/-- From p to e there are m runes, none of them broken. -/
inductive Runs (s : ByteArray) : Nat → Nat → Nat → Prop
  | nil (p : Nat) : Runs s p p 0
  | cons (p e m : Nat) (hp : p < s.size) (hb : bad s p = false) (h : Runs s (p + W s p) e m) : Runs s p e (m + 1)
theorem Runs.le {s : ByteArray} {p e m : Nat} (h : Runs s p e m) (hp : p ≤ s.size) : p ≤ e ∧ e ≤ s.size ∧ m ≤ e - p := by
  induction h with
  | nil p => omega
  | cons p e m h1 h2 h3 ih =>
    have := ih (step_le h1)
    have := W_pos s p
    omega
theorem Runs.snoc {s : ByteArray} {p e m : Nat} (h : Runs s p e m) (he : e < s.size) (hb : bad s e = false) : Runs s p (e + W s e) (m + 1) := by
  induction h with
  | nil p => exact .cons _ _ _ he hb (.nil _)
  | cons p e m h1 h2 h3 ih => exact .cons _ _ _ h1 h2 (ih he hb)
theorem not_bad {s : ByteArray} {p : Nat} (h : bad s p = false) : ¬ ((Utf8.decode s p).1 = 65533 ∧ (Utf8.decode s p).2 = 1) := of_decide_eq_false h
theorem Runs.count {s : ByteArray} {p e m : Nat} (h : Runs s p e m) : ∀ (hp : p ≤ s.size) (fuel : Nat), m ≤ fuel → runeCountFrom (s.extract 0 e) fuel p = m := by
  induction h with
  | nil p =>
    intro hp fuel hf
    exact runeCountFrom_end _ _ _ (by rw [ByteS.take_size s p hp]; omega)
  | cons p e m h1 h2 h3 ih =>
    intro hp fuel hf
    obtain ⟨f, rfl⟩ : ∃ f, fuel = f + 1 := ⟨fuel - 1, by omega⟩
    have hl := h3.le (step_le h1)
    have hw := W_pos s p
    rw [runeCountFrom, if_pos (by rw [ByteS.take_size s e hl.2.1]; omega), ByteS.take_decode s e p hl.2.1 hl.1 (not_bad h2)]
    have := ih (step_le h1) f (by omega)
    unfold W at this
    rw [this]
    omega
theorem wordL_runs (s : ByteArray) (n : Nat) : ∀ (p r e m : Nat), p ≤ s.size → Runs s 0 p r → Runs s 0 e m → Runs s 0 (wordL s n p r e m).1 (wordL s n p r e m).2 := by
  induction n with
  | zero => intro p r e m hp h1 h2; exact h2
  | succ n ih =>
    intro p r e m hp h1 h2
    rw [wordL]
    split
    · rename_i h
      have hb : bad s p = false := by
        have := h.2
        unfold stops at this
        rw [Bool.or_eq_false_iff, Bool.or_eq_false_iff] at this
        exact this.1.1
      have h3 := h1.snoc h.1 hb
      split
      · exact ih _ _ _ _ (step_le h.1) h3 h2
      · exact ih _ _ _ _ (step_le h.1) h3 h3
    · exact h2
theorem wordS_runs (s : ByteArray) : Runs s 0 (wordS s).1 (wordS s).2 := wordL_runs s s.size 0 0 0 0 (by omega) (.nil 0) (.nil 0)
theorem wordS_le (s : ByteArray) : (wordS s).1 ≤ s.size := ((wordS_runs s).le (by omega)).2.1
theorem count (s : ByteArray) (hs : s.size ≤ 4611686018427387904) : utf8_RuneCountInString.f (s.extract 0 (wordS s).1) = some ((wordS s).2 : Int) := by
  have hr := wordS_runs s
  have hl := hr.le (by omega)
  have hz := ByteS.take_size s (wordS s).1 hl.2.1
  unfold utf8_RuneCountInString.f
  rw [if_pos (by rw [hz]; omega)]
  unfold runeCount
  rw [hr.count (by omega) _ (by rw [hz]; omega)]

end Go.Proofs.YtmgdkkkkanjadaaGreatDoor.PureS


