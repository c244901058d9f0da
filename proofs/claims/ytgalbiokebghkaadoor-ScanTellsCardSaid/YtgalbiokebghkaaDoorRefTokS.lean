/-
  The document's tokens come to the same plain walk, rune by rune.
-/
import Derived.Test.YtgalbiokebghkaaDoorRefS
import Derived.Test.YtgalbiokebghkaaDoorS18
namespace Go.Proofs.YtgalbiokebghkaaDoor.PureS
set_option linter.unusedVariables false
set_option linter.unusedSimpArgs false
open Go.RowKit Go.Lib Go.Proofs.YtgalbiokebghkaaDoorW.PrintWords Go.Proofs.YtgalbiokebghkaaDoorW.PrintLast Go.Proofs.YtgalbiokebghkaaDoorW.PrintMore Go.Proofs.YtgalbiokebghkaaDoor.S Go.Proofs.YtgalbiokebghkaaDoor.HandS Go.Proofs.YtgalbiokebghkaaDoor.Iter

/-! The document's loop at a token, its parts being told. -/
section
variable (s : ByteArray) (k p : Nat) (l : List S48) (x : S37) (c : Int) (w : Int)
theorem j1_word (hs : s.size ≤ 1000000) (hp : p < s.size) (hl : l.length ≤ p) (hc : c ≠ 35) (many runes : Nat) (hw : joustref01_word.f k (s.extract p s.size) = some ((many : Int), (runes : Int))) (h0 : 0 < many) (hle : p + many ≤ s.size) :
    joustref01_Tokens.j1 (k + 1) s l (p : Int) c w false x.f0 x.f1 = if 24 < runes then some (fail 3 x) else joustref01_Tokens.l0 k s (l ++ [(⟨1, s.extract p (p + many), x⟩ : S48)]) ((p + many : Nat) : Int) := by
  have q1 : 0 ≤ (p : Int) := by omega
  have q2 : (p : Int) ≤ (s.size : Int) := by omega
  have q3 : (many : Int) > 0 := by omega
  have e1 : wrap64 ((p : Int) + (many : Int)) = ((p + many : Nat) : Int) := by rw [wrap_in (by omega) (by omega)]; omega
  have q4 : (p : Int) ≤ ((p + many : Nat) : Int) := by omega
  have q5 : ((p + many : Nat) : Int) ≤ (s.size : Int) := by omega
  have q6 : l.length < 3518437208883 := by omega
  rw [joustref01_Tokens.j1, if_neg Bool.false_ne_true, if_neg hc, if_pos q1, if_pos q2, Int.toNat_natCast, hw, Option.bind_some, if_pos q3]
  by_cases h2 : 24 < runes
  · have q7 : (runes : Int) > 24 := by omega
    rw [if_pos q7, if_pos h2]
    rfl
  · have q7 : ¬ (runes : Int) > 24 := by omega
    rw [if_neg q7, if_neg h2, e1, if_pos q4, if_pos q5, if_pos q6, Int.toNat_natCast]
theorem j1_mark (hs : s.size ≤ 1000000) (hp : p < s.size) (hl : l.length ≤ p) (hc : c ≠ 35) (runes : Int) (hw : joustref01_word.f k (s.extract p s.size) = some (0, runes)) (hd : joustref01_digit.f c = some false) (m : Bool) (hm : joustref01_mark.f k c = some m) (hw1 : m = true → w = 1) :
    joustref01_Tokens.j1 (k + 1) s l (p : Int) c w false x.f0 x.f1 = if m = true then joustref01_Tokens.l0 k s (l ++ [(⟨3, s.extract p (p + 1), x⟩ : S48)]) ((p + 1 : Nat) : Int) else some (fail 4 x) := by
  have q1 : 0 ≤ (p : Int) := by omega
  have q2 : (p : Int) ≤ (s.size : Int) := by omega
  have q3 : ¬ (0 : Int) > 0 := by omega
  have e1 : wrap64 ((p : Int) + 1) = ((p + 1 : Nat) : Int) := by rw [wrap_in (by omega) (by omega)]; omega
  have q4 : (p : Int) ≤ ((p + 1 : Nat) : Int) := by omega
  have q5 : ((p + 1 : Nat) : Int) ≤ (s.size : Int) := by omega
  have q6 : l.length < 3518437208883 := by omega
  rw [joustref01_Tokens.j1, if_neg Bool.false_ne_true, if_neg hc, if_pos q1, if_pos q2, Int.toNat_natCast, hw, Option.bind_some, if_neg q3, hd, Option.bind_some, if_neg Bool.false_ne_true, hm, Option.bind_some]
  cases m with
  | true =>
    rw [if_pos rfl, if_pos rfl, hw1 rfl, e1, if_pos q4, if_pos q5, if_pos q6, Int.toNat_natCast]
  | false =>
    rw [if_neg Bool.false_ne_true, if_neg Bool.false_ne_true]
    rfl
theorem j1_num (hs : s.size ≤ 1000000) (hp : p < s.size) (hl : l.length ≤ p) (hc : c ≠ 35) (runes : Int) (hw : joustref01_word.f k (s.extract p s.size) = some (0, runes)) (hd : joustref01_digit.f c = some true) (n : Nat) (h0 : 0 < n) (hle : p + n ≤ s.size) (hn : joustref01_number.f k (s.extract p s.size) = some (n : Int)) (g : Bool) (hg : joustref01_great.f k (s.extract p (p + n)) = some g) :
    joustref01_Tokens.j1 (k + 1) s l (p : Int) c w false x.f0 x.f1 = if g = true then some (fail 3 x) else if ((decide (1 < n) && decide (c = 48)) || L (G (s.extract (p + n) s.size))) = true then some (fail 5 x) else joustref01_Tokens.l0 k s (l ++ [(⟨2, s.extract p (p + n), x⟩ : S48)]) ((p + n : Nat) : Int) := by
  have q1 : 0 ≤ (p : Int) := by omega
  have q2 : (p : Int) ≤ (s.size : Int) := by omega
  have q3 : ¬ (0 : Int) > 0 := by omega
  have e1 : wrap64 ((p : Int) + (n : Int)) = ((p + n : Nat) : Int) := by rw [wrap_in (by omega) (by omega)]; omega
  have q4 : (p : Int) ≤ ((p + n : Nat) : Int) := by omega
  have q5 : ((p + n : Nat) : Int) ≤ (s.size : Int) := by omega
  have q6 : l.length < 3518437208883 := by omega
  have q7 : 0 ≤ ((p + n : Nat) : Int) := by omega
  have hGs := G_size (s.extract (p + n) s.size)
  have hlt := letterG (s.extract (p + n) s.size)
  have hdc := decG (s.extract (p + n) s.size)
  rw [joustref01_Tokens.j1, if_neg Bool.false_ne_true, if_neg hc, if_pos q1, if_pos q2, Int.toNat_natCast, hw, Option.bind_some, if_neg q3, hd, Option.bind_some, if_pos rfl, hn, Option.bind_some, e1, if_pos q4, if_pos q5, Int.toNat_natCast, hg, Option.bind_some]
  cases g with
  | true => rw [if_pos rfl, if_pos rfl]; rfl
  | false =>
    rw [if_neg Bool.false_ne_true, if_neg Bool.false_ne_true, if_pos q7, hdc, Option.bind_some, hlt, Option.bind_some]
    by_cases h3 : 1 < n
    · have r1 : (n : Int) > 1 := by omega
      rw [if_pos r1, decide_eq_true h3, Bool.true_and]
      by_cases h4 : c = 48
      · rw [if_pos h4, decide_eq_true h4, Bool.true_or, if_pos rfl]
        rfl
      · rw [if_neg h4, decide_eq_false h4, Bool.false_or]
        cases h5 : L (G (s.extract (p + n) s.size)) with
        | true =>
          have r2 : ((G (s.extract (p + n) s.size) : Int), ((decodeGo (s.extract (p + n) s.size)).2 : Int)).2 > 0 := by
            have := hGs h5
            show ((decodeGo (s.extract (p + n) s.size)).2 : Int) > 0
            omega
          rw [if_pos rfl, if_pos r2, if_pos rfl]
          rfl
        | false => rw [if_neg Bool.false_ne_true, if_neg Bool.false_ne_true, if_pos q6]
    · have r1 : ¬ (n : Int) > 1 := by omega
      rw [if_neg r1, decide_eq_false h3, Bool.false_and, Bool.false_or]
      cases h5 : L (G (s.extract (p + n) s.size)) with
      | true =>
        have r2 : ((G (s.extract (p + n) s.size) : Int), ((decodeGo (s.extract (p + n) s.size)).2 : Int)).2 > 0 := by
          have := hGs h5
          show ((decodeGo (s.extract (p + n) s.size)).2 : Int) > 0
          omega
        rw [if_pos rfl, if_pos r2, if_pos rfl]
        rfl
      | false => rw [if_neg Bool.false_ne_true, if_neg Bool.false_ne_true, if_pos q6]
end
theorem tokAt_eq (s : ByteArray) (p : Nat) : tokAt s p = if 0 < (wordS (s.extract p s.size)).1 then (1, (wordS (s.extract p s.size)).1, if 24 < (wordS (s.extract p s.size)).2 then 3 else 0) else if 0 < lead (s.extract p s.size).data.toList then (2, lead (s.extract p s.size).data.toList, num (s.extract p s.size) (lead (s.extract p s.size).data.toList)) else (3, 1, if (mark (C s p) && !bad s p) = true then 0 else 4) := by
  have hbz := bad_drop s p 0
  rw [Nat.add_zero] at hbz
  unfold tokAt tok
  rw [C_zero, hbz]
theorem mark_ok (s : ByteArray) (p : Nat) (h : mark (C s p) = true) : bad s p = false := by
  have := mark_lt _ h
  unfold bad
  exact decide_eq_false (fun h2 => by omega)
theorem ref_tok (s : ByteArray) (hs : s.size ≤ 1000000) (k p : Nat) (x : S37) (l : List S48) (hp : p < s.size) (hl : l.length ≤ p) (hk : 2 * s.size + 12 < k) (h35 : C s p ≠ 35) :
    joustref01_Tokens.j1 (k + 1) s l (p : Int) (C s p : Int) (W s p : Int) false x.f0 x.f1 = if (tokAt s p).2.2 = 0 then joustref01_Tokens.l0 k s (l ++ [oneTok s p x]) ((p + (tokAt s p).2.1 : Nat) : Int) else some (fail (tokAt s p).2.2 x) := by
  have hz := ext_size s p
  have ht0 : 0 < (s.extract p s.size).size := by omega
  have hword := refWord (s.extract p s.size) (by omega) k (by omega)
  have hwle := wordS_le (s.extract p s.size)
  have hc : (C s p : Int) ≠ 35 := by omega
  by_cases h1 : 0 < (wordS (s.extract p s.size)).1
  · have hT := tokAt_eq s p
    rw [if_pos h1] at hT
    have hle : p + (wordS (s.extract p s.size)).1 ≤ s.size := by omega
    rw [j1_word s k p l x (C s p : Int) (W s p : Int) hs hp hl hc _ _ hword h1 hle]
    unfold oneTok
    rw [hT]
    by_cases h2 : 24 < (wordS (s.extract p s.size)).2
    · rw [if_pos h2, if_pos h2]
      rfl
    · rw [if_neg h2, if_neg h2]
      rfl
  · have hw0 : (wordS (s.extract p s.size)).1 = 0 := by omega
    rw [hw0] at hword
    have hlz := lead_zero (s.extract p s.size) ht0
    rw [C_zero] at hlz
    by_cases h2 : 0 < lead (s.extract p s.size).data.toList
    · have hD := hlz.1 h2
      have hll := lead_le (s.extract p s.size).data.toList
      rw [← size_eq, hz] at hll
      have hle : p + lead (s.extract p s.size).data.toList ≤ s.size := by omega
      have hnumb := refNumber (s.extract p s.size) (by omega) k (by omega)
      have hgr := ref_number_parts s p hs k (by omega) hp h2
      have hdg := digit (C s p)
      rw [hD] at hdg
      have hT := tokAt_eq s p
      rw [if_neg h1, if_pos h2] at hT
      rw [j1_num s k p l x (C s p : Int) (W s p : Int) hs hp hl hc _ hword hdg _ h2 hle hnumb _ hgr]
      have hdd := drop_drop s p (lead (s.extract p s.size).data.toList)
      have hBz := B_drop s p 0
      rw [Nat.add_zero] at hBz
      have hfc := first_C s p hD
      have h48 : decide ((C s p : Int) = 48) = decide (ByteS.B (s.extract p s.size) 0 = 48) := by
        rw [hBz, ← hfc]
        exact decide_eq_decide.2 (by omega)
      have hnum : num (s.extract p s.size) (lead (s.extract p s.size).data.toList) = if great ((s.extract p s.size).data.toList.take (lead (s.extract p s.size).data.toList)) = true then 3 else if ((decide (1 < lead (s.extract p s.size).data.toList) && decide ((C s p : Int) = 48)) || L (G (s.extract (p + lead (s.extract p s.size).data.toList) s.size))) = true then 5 else 0 := by
        rw [h48, ← hdd]
        rfl
      unfold oneTok
      rw [hT, hnum]
      generalize great ((s.extract p s.size).data.toList.take (lead (s.extract p s.size).data.toList)) = g
      generalize ((decide (1 < lead (s.extract p s.size).data.toList) && decide ((C s p : Int) = 48)) || L (G (s.extract (p + lead (s.extract p s.size).data.toList) s.size))) = b
      cases g <;> cases b <;> rfl
    · have hD : D (C s p) = false := by
        cases h : D (C s p) with
        | false => rfl
        | true => exact absurd (hlz.2 h) h2
      have hdg := digit (C s p)
      rw [hD] at hdg
      have hT := tokAt_eq s p
      rw [if_neg h1, if_neg h2] at hT
      have hmark := refMark (C s p) k (by omega)
      rw [j1_mark s k p l x (C s p : Int) (W s p : Int) hs hp hl hc _ hword hdg _ hmark (fun h => by have := ascii_W s p (mark_lt _ h); omega)]
      unfold oneTok
      rw [hT]
      cases hm : mark (C s p) with
      | true =>
        rw [mark_ok s p hm]
        rfl
      | false => rfl
end Go.Proofs.YtgalbiokebghkaaDoor.PureS
