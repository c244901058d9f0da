/-
  The document's tokens come to the same plain walk, rune by rune.
-/
import Derived.Test.YtgalbiokebghkaaDoorRefTokS
import Derived.Test.YtgalbiokebghkaaDoorS18
namespace Go.Proofs.YtgalbiokebghkaaDoor.PureS
set_option linter.unusedVariables false
set_option linter.unusedSimpArgs false
open Go.RowKit Go.Lib Go.Proofs.YtgalbiokebghkaaDoorW.PrintWords Go.Proofs.YtgalbiokebghkaaDoorW.PrintLast Go.Proofs.YtgalbiokebghkaaDoorW.PrintMore Go.Proofs.YtgalbiokebghkaaDoor.S Go.Proofs.YtgalbiokebghkaaDoor.HandS Go.Proofs.YtgalbiokebghkaaDoor.Iter

/-! ### the document's loop -/
theorem bad_tok (s : ByteArray) (p : Nat) (hp : p < s.size) (h : bad s p = true) : (tokAt s p).2.2 = 4 := by
  have hz := ext_size s p
  have h6 : C s p = 65533 ∧ W s p = 1 := by
    have h2 := h
    unfold bad at h2
    exact of_decide_eq_true h2
  have hbz := bad_drop s p 0
  rw [Nat.add_zero] at hbz
  have h1 : ¬ 0 < (wordS (s.extract p s.size)).1 := by
    intro h1
    have := bad_stops (s.extract p s.size) (by omega) (by omega)
    rw [hbz, h] at this
    cases this
  have h2 : ¬ 0 < lead (s.extract p s.size).data.toList := by
    intro h2
    have := (lead_zero (s.extract p s.size) (by omega)).1 h2
    rw [C_zero] at this
    have := of_decide_eq_true this
    omega
  unfold tokAt tok
  rw [if_neg h1, if_neg h2, hbz, h, Bool.not_true, Bool.and_false]
  rfl
theorem wrap_add (p b : Nat) (h : p + b ≤ 4611686018427387904) : wrap64 ((p : Int) + (b : Int)) = ((p + b : Nat) : Int) := by
  rw [wrap_in (by omega) (by omega)]; omega
def ws (c : Nat) : Bool := c == 32 || (c == 9 || (c == 10 || c == 13))
theorem ref_l0 (s : ByteArray) (hs : s.size ≤ 1000000) (k i n p : Nat) (x : S37) (l : List S48) (ha : Along s i n p x) (hp : p < s.size) (hk : s.size < k) :
    joustref01_Tokens.l0 (k + 1) s l (p : Int) = joustref01_Tokens.j1 k s l (p : Int) (C s p : Int) (W s p : Int) (ws (C s p)) x.f0 x.f1 := by
  rw [joustref01_Tokens.l0, if_pos (by omega), if_pos (by omega), if_pos (by omega), Int.toNat_natCast, dec_in hp, Option.bind_some, where_here s hs ha k hk, Option.bind_some]
  unfold ws
  by_cases h1 : C s p = 32
  · rw [if_pos (show (C s p : Int) = 32 by omega), beq_iff_eq.2 h1, Bool.true_or]
  · rw [if_neg (show ¬ (C s p : Int) = 32 by omega), beq_eq_false_iff_ne.2 h1, Bool.false_or]
    by_cases h2 : C s p = 9
    · rw [if_pos (show (C s p : Int) = 9 by omega), beq_iff_eq.2 h2, Bool.true_or]
    · rw [if_neg (show ¬ (C s p : Int) = 9 by omega), beq_eq_false_iff_ne.2 h2, Bool.false_or]
      by_cases h3 : C s p = 10
      · rw [if_pos (show (C s p : Int) = 10 by omega), beq_iff_eq.2 h3, Bool.true_or]
      · rw [if_neg (show ¬ (C s p : Int) = 10 by omega), beq_eq_false_iff_ne.2 h3, Bool.false_or]
        by_cases h4 : C s p = 13
        · rw [beq_iff_eq.2 h4, beq_iff_eq.2 (show (C s p : Int) = 13 by omega)]
        · rw [beq_eq_false_iff_ne.2 h4, beq_eq_false_iff_ne.2 (show (C s p : Int) ≠ 13 by omega)]
theorem ref_last (s : ByteArray) (hs : s.size ≤ 1000000) (k i n p : Nat) (x : S37) (l : List S48) (ha : Along s i n p x) (hp : ¬ p < s.size) (hl : l.length ≤ p) (hk : s.size < k) :
    joustref01_Tokens.l0 (k + 1) s l (p : Int) = some (fin l x) := by
  have hle := ha.le
  have e : p = s.size := by omega
  have hw := where_here s hs ha k hk
  rw [e] at hw
  rw [joustref01_Tokens.l0, if_neg (by omega), hw, Option.bind_some, if_pos (by omega)]
  rfl
theorem not_bad_of (s : ByteArray) (p : Nat) (h : C s p ≠ 65533) : bad s p = false := by
  unfold bad
  exact decide_eq_false (fun h2 => h h2.1)
theorem ref_loop (s : ByteArray) (hs : s.size ≤ 1000000) (n0 : Nat) : ∀ (n k i p : Nat) (x : S37) (beh : Nat) (l : List S48), n ≤ n0 → Along s i n p x → l.length ≤ p → beh ≤ p → 2 * n + 4 * s.size + 20 < k →
    joustref01_Tokens.l0 k s l (p : Int) = some (toks s n p x false beh l) := by
  induction n0 with
  | zero =>
    intro n k i p x beh l hn ha hl hb hk
    obtain rfl : n = 0 := by omega
    obtain ⟨k, rfl⟩ : ∃ q, k = q + 1 := ⟨k - 1, by omega⟩
    have hf := ha.fuel
    rw [ref_last s hs k i 0 p x l ha (by omega) hl (by omega)]
    rfl
  | succ n0 ih =>
    intro n k i p x beh l hn ha hl hb hk
    obtain ⟨k, rfl⟩ : ∃ q, k = q + 1 + 1 := ⟨k - 2, by omega⟩
    by_cases hp : p < s.size
    · obtain ⟨n, rfl⟩ := ha.pos hp
      have ha' := ha.step hp
      have hw := W_pos s p
      rw [ref_l0 s hs (k + 1) i (n + 1) p x l ha hp (by omega)]
      cases hws : ws (C s p) with
      | true =>
        have hc : C s p = 32 ∨ C s p = 9 ∨ C s p = 10 ∨ C s p = 13 := by
          unfold ws at hws
          simpa using hws
        have hw1 := ascii_W s p (by omega)
        have e1 : wrap64 ((p : Int) + 1) = ((p + W s p : Nat) : Int) := by rw [hw1, wrap_in (by omega) (by omega)]; omega
        rw [joustref01_Tokens.j1, if_pos rfl, e1, ih n k (i + 1) _ _ beh l (by omega) ha' (by omega) (by omega) (by omega)]
        by_cases h10 : C s p = 10
        · rw [toks_line hp hb h10]
        · have h35 : decide (C s p = 35) = false := decide_eq_false (by omega)
          have hbl : blank (C s p) = true := by
            unfold blank
            rcases hc with h | h | h | h
            · rw [h]; rfl
            · rw [h]; rfl
            · exact absurd h h10
            · rw [h]; rfl
          rw [toks_blank hp hb h10 (not_bad_of s p (by omega)) (by rw [hbl, Bool.or_true]), h35, Bool.or_false]
      | false =>
        have hc : ¬ C s p = 32 ∧ ¬ C s p = 9 ∧ ¬ C s p = 10 ∧ ¬ C s p = 13 := by
          unfold ws at hws
          simpa using hws
        by_cases h35 : C s p = 35
        · have hok := not_bad_of s p (by omega)
          have hw1 := ascii_W s p (by omega)
          have hz := ext_size s p
          -- the first rune of the remark
          obtain ⟨k2, rfl⟩ : ∃ q, k = q + 1 + 1 := ⟨k - 2, by omega⟩
          have hr := remark_round s k2 p 0 (by omega) hs
          have hr0 : p + 0 = p := Nat.add_zero p
          rw [hr0, if_neg hc.2.2.1, hok, if_neg Bool.false_ne_true, Nat.zero_add] at hr
          have ha1 : Along s (i + 1) n (p + W s p) (nl s p x) := ha'
          have hR := remark_loop s hs p n k2 (i + 1) (W s p) (nl s p x) ha1 (by omega)
          have hrf : joustref01_remark.f (k2 + 1 + 1) (s.extract p s.size) = joustref01_remark.l0 k2 (s.extract p s.size) ((W s p : Nat) : Int) := hr
          have htk : toks s (n + 1) p x false beh l = toks s n (p + W s p) (nl s p x) true beh l := by
            rw [toks_blank hp hb hc.2.2.1 hok (by rw [decide_eq_true h35]; rfl), decide_eq_true h35, Bool.or_true]
          have q1 : 0 ≤ (p : Int) := by omega
          have q2 : (p : Int) ≤ (s.size : Int) := by omega
          have q3 : (C s p : Int) = 35 := by omega
          have q4 : s.size < k2 + 1 + 1 := by omega
          have q5 : beh ≤ p + W s p := by omega
          have q6 : 2 * n + 4 * s.size + 20 < k2 + 1 + 1 := by omega
          rw [joustref01_Tokens.j1, if_neg Bool.false_ne_true, if_pos q3, if_pos q1, if_pos q2, Int.toNat_natCast, hrf, htk]
          rcases hR with ⟨b, i', n', x', e, ha2, ht⟩ | ⟨a, i', n', x', e, ha2, hq, hn2, ht⟩
          · have hle := ha2.le
            have r1 : (b : Int) ≥ 0 := Int.natCast_nonneg b
            have e1 := wrap_add p b (Nat.le_trans hle (Nat.le_trans hs (by decide)))
            rw [e, Option.bind_some, if_pos r1, e1, where_here s hs ha2 _ q4, Option.bind_some, ht beh l q5]
            rfl
          · have hle := ha2.le
            have e1 := wrap_add p a (Nat.le_trans hle (Nat.le_trans hs (by decide)))
            have r1 : l.length ≤ p + a := Nat.le_trans hl (Nat.le_add_right _ _)
            have r2 : beh ≤ p + a := Nat.le_trans hb (Nat.le_add_right _ _)
            have r3 : n' ≤ n0 := Nat.le_trans hn2 (Nat.le_of_succ_le_succ hn)
            have r4 : 2 * n' + 4 * s.size + 20 < k2 + 1 + 1 := by clear e ht e1 htk hrf hr; omega
            rw [e, Option.bind_some, if_neg (show ¬ (((a : Int), (-1 : Int)).2 ≥ 0) from (by decide : ¬ ((-1 : Int) ≥ 0))), e1, ht beh l q5]
            exact ih n' _ i' _ x' beh l r3 ha2 r1 r2 r4
        · rw [ref_tok s hs k p x l hp hl (by omega) h35]
          cases hbad : bad s p with
          | true =>
            rw [toks_bad hp hb hc.2.2.1 hbad, bad_tok s p hp hbad, if_neg (by decide)]
          | false =>
            have hbl : ((false || decide (C s p = 35)) || blank (C s p)) = false := by
              rw [decide_eq_false h35]
              unfold blank
              rw [beq_eq_false_iff_ne.2 hc.1, beq_eq_false_iff_ne.2 hc.2.1, beq_eq_false_iff_ne.2 hc.2.2.2]
              rfl
            rw [toks_tok hp hb hc.2.2.1 hbad hbl]
            by_cases h0 : (tokAt s p).2.2 = 0
            · obtain ⟨⟨m, hr⟩, hpos⟩ := tok_runs s p hp h0
              rw [if_pos h0, if_pos h0]
              generalize (tokAt s p).2.1 = q at *
              obtain ⟨m', h3⟩ := hr.rest (by omega)
              obtain ⟨i', n', x', ha2, hn2, e⟩ := skip s h3 (i + 1) n (nl s p x) false (l ++ [oneTok s p x]) ha'
              rw [e]
              exact ih n' k i' _ x' _ _ (by omega) ha2 (by rw [List.length_append, List.length_singleton]; omega) (Nat.le_refl _) (by omega)
            · rw [if_neg h0, if_neg h0]
    · rw [ref_last s hs (k + 1) i n p x l ha hp hl (by omega), toks_end hp]
theorem refTokens (s : ByteArray) (k : Nat) (hk : 600000 + 6 * s.size < k) : joustref01_Tokens.f k s = some (tokens s) := by
  unfold joustref01_Tokens.f tokens
  by_cases h : 65536 < s.size
  · rw [if_pos (show (s.size : Int) > 65536 by omega), if_pos h]
  · rw [if_neg (show ¬ (s.size : Int) > 65536 by omega), if_neg h]
    exact ref_loop s (by omega) s.size s.size k 0 0 ⟨1, 1⟩ 0 [] (Nat.le_refl _) (Along.start s) (Nat.le_refl _) (Nat.le_refl _) (by omega)
end Go.Proofs.YtgalbiokebghkaaDoor.PureS
