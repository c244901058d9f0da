/-
  The document's tokens come to the same plain walk, rune by rune.
-/
import Derived.Test.YtgalbiokebghkaaDoorRunS
import Derived.Test.YtgalbiokebghkaaDoorS18
namespace Go.Proofs.YtgalbiokebghkaaDoor.PureS
set_option linter.unusedVariables false
set_option linter.unusedSimpArgs false
open Go.RowKit Go.Lib Go.Proofs.YtgalbiokebghkaaDoorW.PrintWords Go.Proofs.YtgalbiokebghkaaDoorW.PrintLast Go.Proofs.YtgalbiokebghkaaDoorW.PrintMore Go.Proofs.YtgalbiokebghkaaDoor.S Go.Proofs.YtgalbiokebghkaaDoor.HandS Go.Proofs.YtgalbiokebghkaaDoor.Iter

section
variable (s : ByteArray) (hs : s.size ≤ 1000000)

include hs in
theorem where_here {i n p : Nat} {x : S37} (ha : Along s i n p x) (k : Nat) (hk : s.size < k) : joustref01_Where.f k s (p : Int) = some (x.f0, x.f1) := by
  rw [refWhere s hs (p : Int) k hk, ha.spot]

theorem newline_B (p : Nat) : C s p = 10 ↔ ByteS.B s p = 10 := by
  constructor
  · intro h
    have := (ByteS.small s p (by unfold C at h; omega)).1
    unfold C at h
    rw [this] at h
    exact h
  · intro h
    have := ByteS.ascii s p (by omega)
    unfold C
    rw [this]
    exact h
theorem B_drop (p q : Nat) : ByteS.B (s.extract p s.size) q = ByteS.B s (p + q) := by
  unfold ByteS.B
  rw [B_ext]
  congr 1
  show ((s.data.toList.drop p)[q]?).getD 0 = (s.data.toList[p + q]?).getD 0
  rw [List.getElem?_drop]
theorem bt_B (q : Nat) (h : q < s.size) : bt s (q : Int) = (ByteS.B s q : Int) := bt_get s q h

/-- One round in a remark. -/
theorem remark_round (k p q : Nat) (hp : p + q < s.size) (hs2 : s.size ≤ 1000000) :
    joustref01_remark.l0 (k + 1 + 1) (s.extract p s.size) (q : Int) = if C s (p + q) = 10 then some ((q : Int), -1) else if bad s (p + q) = true then some (0, (q : Int)) else joustref01_remark.l0 k (s.extract p s.size) ((q + W s (p + q) : Nat) : Int) := by
  have hz := ext_size s p
  have hq : q < (s.extract p s.size).size := by omega
  have hle := C_le s (p + q)
  have hst := step_le hp
  have e1 : wrap64 ((q : Int) + (W s (p + q) : Int)) = ((q + W s (p + q) : Nat) : Int) := by rw [wrap_in (by omega) (by omega)]; omega
  have hd : utf8_DecodeRuneInString.f ((s.extract p s.size).extract q (s.extract p s.size).size) = some ((C s (p + q) : Int), (W s (p + q) : Int)) := by
    rw [drop_drop, dec_in hp]
  have hn := newline_B s (p + q)
  rw [joustref01_remark.l0, if_pos (by omega), if_pos (by omega), bt_B _ q hq, B_drop, joustref01_remark.j1]
  by_cases h1 : C s (p + q) = 10
  · have : ((ByteS.B s (p + q) : Int) != 10) = false := by rw [hn.1 h1]; rfl
    rw [this, if_neg Bool.false_ne_true, if_pos h1]
  · have : ((ByteS.B s (p + q) : Int) != 10) = true := by
      rw [bne_iff_ne]
      intro h
      exact h1 (hn.2 (by omega))
    rw [this, if_pos rfl, if_neg h1, if_pos (by omega), if_pos (by omega), Int.toNat_natCast, hd, Option.bind_some, e1]
    unfold bad
    by_cases h2 : C s (p + q) = 65533
    · rw [if_pos (show (C s (p + q) : Int) = 65533 by omega)]
      by_cases h3 : W s (p + q) = 1
      · rw [if_pos (show (W s (p + q) : Int) = 1 by omega), decide_eq_true ⟨h2, h3⟩, if_pos rfl]
      · rw [if_neg (show ¬ (W s (p + q) : Int) = 1 by omega), decide_eq_false (by omega), if_neg Bool.false_ne_true]
    · rw [if_neg (show ¬ (C s (p + q) : Int) = 65533 by omega), decide_eq_false (by omega), if_neg Bool.false_ne_true]
theorem remark_end (k p q : Nat) (hp : ¬ p + q < s.size) : joustref01_remark.l0 (k + 1 + 1) (s.extract p s.size) (q : Int) = some ((q : Int), -1) := by
  have hz := ext_size s p
  rw [joustref01_remark.l0, if_neg (by omega), joustref01_remark.j1, if_neg Bool.false_ne_true]

/-- What a remark comes to, from a place in it on. -/
def Remarked (n p q : Nat) (x : S37) (r : Option (Int × Int)) : Prop :=
  (∃ (b i' n' : Nat) (x' : S37), r = some ((0 : Int), (b : Int)) ∧ Along s i' n' (p + b) x' ∧ ∀ beh l, beh ≤ p + q → toks s n (p + q) x true beh l = fail 4 x') ∨
  (∃ (a i' n' : Nat) (x' : S37), r = some ((a : Int), (-1 : Int)) ∧ Along s i' n' (p + a) x' ∧ q ≤ a ∧ n' ≤ n ∧ ∀ beh l, beh ≤ p + q → toks s n (p + q) x true beh l = toks s n' (p + a) x' false beh l)
include hs in
theorem remark_loop (p : Nat) (n : Nat) : ∀ (k i q : Nat) (x : S37), Along s i n (p + q) x → 2 * n + 1 < k → Remarked s n p q x (joustref01_remark.l0 k (s.extract p s.size) (q : Int)) := by
  induction n with
  | zero =>
    intro k i q x ha hk
    obtain ⟨k, rfl⟩ : ∃ m, k = m + 1 + 1 := ⟨k - 2, by omega⟩
    have hf := ha.fuel
    rw [remark_end s k p q (by omega)]
    exact .inr ⟨q, i, 0, x, rfl, ha, Nat.le_refl _, Nat.le_refl _, fun beh l hb => rfl⟩
  | succ n ih =>
    intro k i q x ha hk
    obtain ⟨k, rfl⟩ : ∃ m, k = m + 1 + 1 := ⟨k - 2, by omega⟩
    by_cases hp : p + q < s.size
    · rw [remark_round s k p q hp hs]
      have hw := W_pos s (p + q)
      by_cases h1 : C s (p + q) = 10
      · rw [if_pos h1]
        exact .inr ⟨q, i, n + 1, x, rfl, ha, Nat.le_refl _, Nat.le_refl _, fun beh l hb => by rw [toks_line hp hb h1, toks_line hp hb h1]⟩
      · rw [if_neg h1]
        cases h2 : bad s (p + q) with
        | true =>
          rw [if_pos rfl]
          exact .inl ⟨q, i, n + 1, x, rfl, ha, fun beh l hb => toks_bad hp hb h1 h2⟩
        | false =>
          rw [if_neg Bool.false_ne_true]
          have ha' := ha.step hp
          rw [Nat.add_assoc] at ha'
          have hx := ih k (i + 1) (q + W s (p + q)) (nl s (p + q) x) ha' (by omega)
          have hstep : ∀ beh l, beh ≤ p + q → toks s (n + 1) (p + q) x true beh l = toks s n (p + (q + W s (p + q))) (nl s (p + q) x) true beh l := fun beh l hb => by
            rw [toks_blank hp hb h1 h2 rfl, Bool.true_or, Nat.add_assoc]
          rcases hx with ⟨b, i', n', x', e, ha2, ht⟩ | ⟨a, i', n', x', e, ha2, hq, hn, ht⟩
          · exact .inl ⟨b, i', n', x', e, ha2, fun beh l hb => by rw [hstep beh l hb]; exact ht beh l (by omega)⟩
          · exact .inr ⟨a, i', n', x', e, ha2, by omega, by omega, fun beh l hb => by rw [hstep beh l hb]; exact ht beh l (by omega)⟩
    · rw [remark_end s k p q hp]
      exact .inr ⟨q, i, n + 1, x, rfl, ha, Nat.le_refl _, Nat.le_refl _, fun beh l hb => by rw [toks_end hp, toks_end hp]⟩

/-! ### a token -/
theorem num_ref (t : ByteArray) (n : Nat) (h0 : 0 < n) : num t n = if great (t.data.toList.take n) = true then 3 else if ((decide (1 < n) && decide (ByteS.B t 0 = 48)) || L (G (t.extract n t.size))) = true then 5 else 0 := rfl
theorem first_C (p : Nat) (h : D (C s p) = true) : C s p = ByteS.B s p := by
  have h1 : 48 ≤ C s p ∧ C s p ≤ 57 := of_decide_eq_true h
  have := (ByteS.small s p (by unfold C at h1; omega)).1
  unfold C
  rw [this]
theorem bad_stops (t : ByteArray) (h0 : 0 < t.size) (h : (wordS t).1 ≠ 0) : bad t 0 = false := by
  cases hb : bad t 0 with
  | false => rfl
  | true =>
    exfalso
    apply h
    obtain ⟨n, hn⟩ : ∃ n, t.size = n + 1 := ⟨t.size - 1, by omega⟩
    unfold wordS
    rw [hn, wordL, if_neg (by unfold stops; rw [hb]; simp)]
/-- The number of the document, its digits being n. -/
theorem ref_number_parts (p : Nat) (hs : s.size ≤ 1000000) (k : Nat) (hk : s.size < k) (hp : p < s.size) (hd : 0 < lead (s.extract p s.size).data.toList) :
    joustref01_great.f k (s.extract p (p + lead (s.extract p s.size).data.toList)) = some (great ((s.extract p s.size).data.toList.take (lead (s.extract p s.size).data.toList))) := by
  have hl := lead_le (s.extract p s.size).data.toList
  rw [← size_eq, ext_size] at hl
  have e := drop_take s p (lead (s.extract p s.size).data.toList) (by omega)
  have ed : (s.extract p (p + lead (s.extract p s.size).data.toList)).data.toList = (s.extract p s.size).data.toList.take (lead (s.extract p s.size).data.toList) := by
    rw [← e, extract_data, List.drop_zero, Nat.sub_zero]
  have hz : (s.extract p (p + lead (s.extract p s.size).data.toList)).size ≤ s.size := by
    rw [ByteArray.size_extract]; omega
  have := refGreat (s.extract p (p + lead (s.extract p s.size).data.toList)) (by omega) (by rw [ed]; exact lead_digits _) k (by omega)
  rw [this, ed]
end

end Go.Proofs.YtgalbiokebghkaaDoor.PureS
