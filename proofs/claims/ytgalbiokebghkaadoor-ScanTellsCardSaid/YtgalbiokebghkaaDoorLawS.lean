/-
  ScanTells over numbers and lists alone: it is true of every text and place.
-/
import Derived.Test.YtgalbiokebghkaaDoorRefLoopS
import Derived.Test.YtgalbiokebghkaaDoorLivesS
import Derived.Test.YtgalbiokebghkaaDoorS20
namespace Go.Proofs.YtgalbiokebghkaaDoor.PureS
set_option linter.unusedVariables false
set_option linter.unusedSimpArgs false
open Go.RowKit Go.Lib Go.Proofs.YtgalbiokebghkaaDoorW.PrintWords Go.Proofs.YtgalbiokebghkaaDoorW.PrintLast Go.Proofs.YtgalbiokebghkaaDoorW.PrintMore Go.Proofs.YtgalbiokebghkaaDoor.S Go.Proofs.YtgalbiokebghkaaDoor.HandS Go.Proofs.YtgalbiokebghkaaDoor.Iter

theorem sameTokens_loop (l : List S48) (hl : l.length ≤ 1000000) (n : Nat) : ∀ (k i : Nat), i + n = l.length → n < k → joustref00_Tokens.l0 k l l true (i : Int) = some true := by
  induction n with
  | zero =>
    intro k i h1 h2
    obtain ⟨k, rfl⟩ : ∃ q, k = q + 1 := ⟨k - 1, by omega⟩
    rw [joustref00_Tokens.l0, if_pos rfl, if_neg (by omega)]
  | succ n ih =>
    intro k i h1 h2
    obtain ⟨k, rfl⟩ : ∃ q, k = q + 1 := ⟨k - 1, by omega⟩
    have e1 : wrap64 ((i : Int) + 1) = ((i + 1 : Nat) : Int) := by rw [wrap_in (by omega) (by omega)]; omega
    rw [joustref00_Tokens.l0, if_pos rfl, if_pos (by omega), if_pos (by omega), if_pos (by omega), if_pos rfl, e1, beq_self_eq_true]
    exact ih k (i + 1) (by omega) (by omega)
theorem sameTokens (l : List S48) (hl : l.length ≤ 1000000) (k : Nat) (hk : l.length < k) : joustref00_Tokens.f k l l = some true := by
  unfold joustref00_Tokens.f
  rw [beq_self_eq_true]
  exact sameTokens_loop l hl l.length k 0 (by omega) hk
theorem sameSpots_loop (l : List S48) (hl : l.length ≤ 1000000) (n : Nat) : ∀ (k i : Nat), i + n = l.length → n < k → joustref00_Spots.l0 k l l true (i : Int) = some true := by
  induction n with
  | zero =>
    intro k i h1 h2
    obtain ⟨k, rfl⟩ : ∃ q, k = q + 1 := ⟨k - 1, by omega⟩
    rw [joustref00_Spots.l0, if_pos rfl, if_neg (by omega)]
  | succ n ih =>
    intro k i h1 h2
    obtain ⟨k, rfl⟩ : ∃ q, k = q + 1 := ⟨k - 1, by omega⟩
    have e1 : wrap64 ((i : Int) + 1) = ((i + 1 : Nat) : Int) := by rw [wrap_in (by omega) (by omega)]; omega
    rw [joustref00_Spots.l0, if_pos rfl, if_pos (by omega), if_pos (by omega), if_pos (by omega), e1, beq_self_eq_true, beq_self_eq_true]
    exact ih k (i + 1) (by omega) (by omega)
theorem sameSpots (l : List S48) (hl : l.length ≤ 1000000) (k : Nat) (hk : l.length < k) : joustref00_Spots.f k l l = some true := by
  unfold joustref00_Spots.f
  rw [beq_self_eq_true]
  exact sameSpots_loop l hl l.length k 0 (by omega) hk
theorem toks_len (s : ByteArray) (n : Nat) : ∀ (p : Nat) (x : S37) (rem : Bool) (beh : Nat) (l : List S48), (toks s n p x rem beh l).1.length ≤ l.length + n + 1 := by
  induction n with
  | zero =>
    intro p x rem beh l
    rw [toks]
    unfold fin
    simp
  | succ n ih =>
    intro p x rem beh l
    rw [toks]
    split
    · split
      · have := ih (p + W s p) (nl s p x) rem beh l
        omega
      · split
        · have := ih (p + W s p) (nl s p x) false beh l
          omega
        · split
          · unfold fail; simp
          · split
            · have := ih (p + W s p) (nl s p x) (rem || decide (C s p = 35)) beh l
              omega
            · split
              · have := ih (p + W s p) (nl s p x) false (p + (tokAt s p).2.1) (l ++ [oneTok s p x])
                rw [List.length_append, List.length_singleton] at this
                omega
              · unfold fail; simp
    · unfold fin
      rw [List.length_append, List.length_singleton]
      omega
theorem tokens_len (s : ByteArray) : (tokens s).1.length ≤ 1000000 := by
  unfold tokens
  split
  · simp
  · have := toks_len s s.size 0 ⟨1, 1⟩ false 0 []
    rw [List.length_nil] at this
    omega
theorem lawS_j1 (s : ByteArray) (at_ : Int) (k : Nat) (hs : s.size ≤ 4611686018427387904) (hk : 1000000 + 6 * s.size < k) : joustlaw01_ScanTells.j1 (k + 1) s at_ false = some true := by
  have hl := lives_true k (by omega)
  rw [joustlaw01_ScanTells.j1, if_neg Bool.false_ne_true, hl]
  by_cases h : 3000 < s.size
  · rw [if_pos (show (s.size : Int) > 3000 by omega)]; rfl
  · rw [if_neg (show ¬ (s.size : Int) > 3000 by omega), scanWhere s (by omega) at_ k (by omega), refWhere s (by omega) at_ k (by omega), Option.bind_some, Option.bind_some, beq_self_eq_true, beq_self_eq_true]
    rfl
theorem lawS_j0 (s : ByteArray) (at_ : Int) (k : Nat) (hs : s.size ≤ 4611686018427387904) (hk : 2000000 + 6 * s.size < k) : joustlaw01_ScanTells.j0 (k + 1) s at_ false = some true := by
  obtain ⟨k, rfl⟩ : ∃ q, k = q + 1 := ⟨k - 1, by omega⟩
  have h1 := scanTokens s (k + 1) (by omega)
  have h2 := refTokens s (k + 1) (by omega)
  have hl := tokens_len s
  have h3 := sameTokens (tokens s).1 hl (k + 1) (by omega)
  have h4 := sameSpots (tokens s).1 hl (k + 1) (by omega)
  have h5 := scanIsWord s hs (k + 1) (by omega)
  have h6 := refIsWord s hs (k + 1) (by omega)
  have h7 := lawS_j1 s at_ k hs (by omega)
  rw [joustlaw01_ScanTells.j0, if_neg Bool.false_ne_true, h1, Option.bind_some, h2, Option.bind_some, h3, Option.bind_some, if_pos rfl, h4, Option.bind_some, if_pos rfl, beq_self_eq_true, beq_self_eq_true, beq_self_eq_true, if_neg (by decide), h5, Option.bind_some, h6, Option.bind_some, bne_self_eq_false]
  exact h7
theorem lawS (s : ByteArray) (at_ : Int) (hs : s.size ≤ 4611686018427387904) : ∃ k, joustlaw01_ScanTells.f k s at_ = some true := by
  refine ⟨2000001 + 6 * s.size + 1, ?_⟩
  have h0 := lawS_j0 s at_ (2000001 + 6 * s.size) hs (by omega)
  unfold joustlaw01_ScanTells.f
  by_cases h : 3000 < s.size
  · rw [if_pos (show (s.size : Int) > 3000 by omega)]
    by_cases h2 : s.size ≤ 65536
    · rw [decide_eq_true (show (s.size : Int) ≤ 65536 by omega), joustlaw01_ScanTells.j0, if_pos rfl, lives_true _ (by omega)]
      rfl
    · rw [decide_eq_false (show ¬ (s.size : Int) ≤ 65536 by omega)]
      exact h0
  · rw [if_neg (show ¬ (s.size : Int) > 3000 by omega)]
    exact h0
end Go.Proofs.YtgalbiokebghkaaDoor.PureS
