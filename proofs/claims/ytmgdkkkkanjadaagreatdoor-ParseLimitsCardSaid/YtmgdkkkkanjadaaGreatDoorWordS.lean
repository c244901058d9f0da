/-
  Words over numbers and lists alone: scan.word and the document's word come to one plain walk.
-/
import Derived.Test.YtmgdkkkkanjadaaGreatDoorSpotS
import Derived.Test.YtmgdkkkkanjadaaGreatDoorByteS
import Derived.Test.YtmgdkkkkanjadaaGreatDoorX6
namespace Go.Proofs.YtmgdkkkkanjadaaGreatDoor.PureS
set_option linter.unusedVariables false
set_option linter.unusedSimpArgs false
open Go.RowKit Go.Lib Go.Proofs.YtmgdkkkkanjadaaGreatDoorW.PrintWords Go.Proofs.YtmgdkkkkanjadaaGreatDoorW.PrintLast Go.Proofs.YtmgdkkkkanjadaaGreatDoorW.PrintMore Go.Proofs.YtmgdkkkkanjadaaGreatDoor.X Go.Proofs.YtmgdkkkkanjadaaGreatDoor.HandS Go.Proofs.YtmgdkkkkanjadaaGreatDoor.Iter

def L (c : Nat) : Bool := isLetterU (c : Int)
def D (c : Nat) : Bool := decide (48 ≤ c ∧ c ≤ 57)
theorem letter (s : ByteArray) (p : Nat) : unicode_IsLetter.f (C s p : Int) = some (L (C s p)) := by
  have := C_le s p
  unfold unicode_IsLetter.f
  rw [if_pos ⟨by omega, by omega⟩]
  rfl
theorem isDigit (c : Nat) : scan_isDigit.f (c : Int) = some (D c) := by
  unfold scan_isDigit.f D
  by_cases h : 48 ≤ (c : Int)
  · rw [if_pos h]
    congr 1
    exact decide_eq_decide.2 ⟨fun h2 => ⟨by omega, by omega⟩, fun h2 => by omega⟩
  · rw [if_neg h, decide_eq_false (by omega)]
theorem wordly (s : ByteArray) (p : Nat) : scan_wordly.f (C s p : Int) = some (C s p == 45 || (D (C s p) || L (C s p))) := by
  unfold scan_wordly.f
  by_cases h : C s p = 45
  · rw [if_pos (by omega), h]; rfl
  · rw [if_neg (by omega), beq_eq_false_iff_ne.2 h, isDigit, Option.bind_some, Bool.false_or]
    cases D (C s p) with
    | true => rw [if_pos rfl]; rfl
    | false => rw [if_neg (by decide), letter, Option.bind_some, Bool.false_or]
/-- Is the rune there broken? -/
def bad (s : ByteArray) (p : Nat) : Bool := decide (C s p = 65533 ∧ W s p = 1)
theorem B_ext (s : ByteArray) (p : Nat) : (s.extract p s.size).data.toList = s.data.toList.drop p := by
  rw [extract_data, List.take_of_length_le (by rw [List.length_drop, ← size_eq]; omega)]
theorem broken (s : ByteArray) (p : Nat) (h : p < s.size) : scan_broken.f s (p : Int) (C s p : Int) = some (bad s p) := by
  unfold scan_broken.f
  by_cases hc : C s p = 65533
  · rw [if_pos (by omega), if_pos (by omega), if_pos (by omega), Int.toNat_natCast]
    unfold strings_HasPrefix.f
    rw [Option.bind_some]
    congr 1
    rw [B_ext]
    have hp : Lib.hasPrefix (s.data.toList.drop p) [239, 191, 189] = decide (ByteS.B s p = 239 ∧ ByteS.B s (p + 1) = 191 ∧ ByteS.B s (p + 2) = 189 ∧ 2 < s.size - p) := by
      have e : ∀ k, p + k < s.size → (s.data.toList.drop p)[k]? = some (s.data.toList.getD (p + k) 0) := by
        intro k hk
        rw [List.getElem?_drop]
        rw [size_eq] at hk
        show _ = some ((s.data.toList[p + k]?).getD 0)
        rw [List.getElem?_eq_getElem hk]; rfl
      have hlen : (s.data.toList.drop p).length = s.size - p := by rw [List.length_drop, ← size_eq]
      have e0 := e 0 (by omega)
      rcases hl : s.data.toList.drop p with _ | ⟨a, _ | ⟨b, _ | ⟨c, r⟩⟩⟩
      · rw [hl] at hlen; simp at hlen; omega
      · rw [hl] at hlen
        rw [decide_eq_false (by simp at hlen; omega)]; simp [Lib.hasPrefix, List.isPrefixOf]
      · rw [hl] at hlen
        rw [decide_eq_false (by simp at hlen; omega)]; simp [Lib.hasPrefix, List.isPrefixOf]
      · rw [hl] at hlen e
        have h2 : 2 < s.size - p := by simp at hlen; omega
        have e1 := e 1 (by omega)
        have e2 := e 2 (by omega)
        have e0 := e 0 (by omega)
        simp only [List.getElem?_cons_zero, List.getElem?_cons_succ, Option.some.injEq, Nat.add_zero] at e0 e1 e2
        unfold ByteS.B
        rw [← e0, ← e1, ← e2]
        have f : ∀ (x : UInt8) (n : Nat) (hn : n < 256), ((OfNat.ofNat n : UInt8) == x) = decide (x.toNat = n) := by
          intro x n hn
          by_cases hx : x.toNat = n
          · rw [decide_eq_true hx, beq_iff_eq]
            apply UInt8.toNat_inj.1
            rw [hx]
            simp [UInt8.toNat_ofNat]
            omega
          · rw [decide_eq_false hx, beq_eq_false_iff_ne]
            intro he
            apply hx
            rw [← he]
            simp [UInt8.toNat_ofNat]
            omega
        show (239 == a && (191 == b && (189 == c && true))) = _
        rw [f a 239 (by omega), f b 191 (by omega), f c 189 (by omega)]
        simp [h2]
    have := ByteS.err s p hc
    show (!Lib.hasPrefix _ [239, 191, 189]) = _
    rw [hp]
    unfold bad
    rcases this with ⟨h1, h2⟩ | ⟨h1, h2⟩
    · rw [decide_eq_false h2, decide_eq_true ⟨hc, h1⟩]; rfl
    · rw [decide_eq_true h2, decide_eq_false (by unfold W; omega)]; rfl
  · rw [if_neg (by omega)]
    unfold bad
    rw [decide_eq_false (by omega)]

/-! ### a word: how many bytes, how many runes -/
/-- Does the word end ahead of the rune at p (the first one, if none has come)? -/
def stops (s : ByteArray) (p : Nat) (first : Bool) : Bool := bad s p || (first && !L (C s p)) || (!(L (C s p) || D (C s p)) && C s p != 45)
def wordL (s : ByteArray) : Nat → Nat → Nat → Nat → Nat → Nat × Nat
  | 0, p, r, e, m => (e, m)
  | n + 1, p, r, e, m => if p < s.size ∧ stops s p (r == 0) = false then (if C s p = 45 then wordL s n (p + W s p) (r + 1) e m else wordL s n (p + W s p) (r + 1) (p + W s p) (r + 1)) else (e, m)

/-- The word at the beginning of a text: its bytes, its runes. -/
def wordS (s : ByteArray) : Nat × Nat := wordL s s.size 0 0 0 0
/-! ### scan.word -/
theorem trimmed (s : ByteArray) (p : Nat) (hp : p ≤ s.size) (hs : s.size ≤ 4611686018427387904) : (strings_TrimRight.f (s.extract 0 p) (⟨#[45]⟩ : ByteArray)).bind (fun t => some (t.size : Int)) = some ((ByteS.T s p : Nat) : Int) := by
  have hsz : (s.extract 0 p).size = p := by rw [ByteArray.size_extract]; omega
  unfold strings_TrimRight.f
  rw [if_pos ⟨by rw [hsz]; omega, by decide, by decide⟩, Option.bind_some, extract_data]
  rfl
theorem wordly_stop (s : ByteArray) (p : Nat) : (C s p == 45 || (D (C s p) || L (C s p))) = !(!(L (C s p) || D (C s p)) && C s p != 45) := by
  cases L (C s p) <;> cases D (C s p) <;> cases h : (C s p == 45) <;> simp [bne, h]
/-- What scan.word does behind its first question: is the word over at p? -/
theorem word_j1 (s : ByteArray) (hs : s.size ≤ 4611686018427387904) (k p : Nat) (hp : p < s.size) (f : Bool) : scan_word.j1 (k + 1) s (p : Int) (C s p : Int) f ((p + W s p : Nat) : Int) s =
    if f = true then some 0 else if (bad s p || (!(L (C s p) || D (C s p)) && C s p != 45)) = true then some ((ByteS.T s p : Nat) : Int) else scan_word.l0 k s ((p + W s p : Nat) : Int) s := by
  have ht := trimmed s p (by omega) hs
  rw [scan_word.j1]
  cases f with
  | true => rfl
  | false =>
    simp only [Bool.false_eq_true, if_false]
    rw [broken s p hp, Option.bind_some]
    cases hb : bad s p with
    | true =>
      simp only [if_true, Bool.true_or]
      rw [if_pos (by omega), if_pos (by omega), Int.toNat_natCast]
      exact ht
    | false =>
      simp only [Bool.false_eq_true, if_false, Bool.false_or]
      rw [wordly, Option.bind_some, wordly_stop]
      cases (!(L (C s p) || D (C s p)) && C s p != 45) with
      | true =>
        simp only [Bool.not_true, Bool.false_eq_true, if_false, if_true]
        rw [if_pos (by omega), if_pos (by omega), Int.toNat_natCast]
        exact ht
      | false => simp only [Bool.not_false, if_true, Bool.false_eq_true, if_false]
theorem word_l0 (s : ByteArray) (k p : Nat) (hp : p < s.size) : scan_word.l0 (k + 1) s (p : Int) s = scan_word.j1 k s (p : Int) (C s p : Int) (p == 0 && !L (C s p)) ((p + W s p : Nat) : Int) s := by
  rw [scan_word.l0, next_in hp, Option.bind_some, if_pos rfl]
  by_cases h : p = 0
  · rw [if_pos (show (p : Int) = 0 by omega), letter, Option.bind_some, beq_iff_eq.2 h, Bool.true_and]
  · rw [if_neg (show ¬ (p : Int) = 0 by omega), beq_eq_false_iff_ne.2 h, Bool.false_and]
theorem word_loop (s : ByteArray) (hs : s.size ≤ 4611686018427387904) (n : Nat) : ∀ (k p r m : Nat), s.size - p ≤ n → 2 * n < k → p ≤ s.size → (p = 0 ↔ r = 0) →
    scan_word.l0 k s (p : Int) s = some ((wordL s n p r (ByteS.T s p) m).1 : Int) := by
  induction n with
  | zero =>
    intro k p r m h1 h2 h3 h4
    obtain ⟨k, rfl⟩ : ∃ q, k = q + 1 := ⟨k - 1, by omega⟩
    have hpe : p = s.size := by omega
    have ht := trimmed s s.size (Nat.le_refl _) hs
    rw [scan_word.l0, next_out (by omega), Option.bind_some, if_neg Bool.false_ne_true]
    rw [show s.extract 0 s.size = s from by simp] at ht
    rw [hpe]
    exact ht
  | succ n ih =>
    intro k p r m h1 h2 h3 h4
    obtain ⟨k, rfl⟩ : ∃ q, k = q + 1 + 1 := ⟨k - 2, by omega⟩
    by_cases hp : p < s.size
    · have hl := step_le hp
      have hw := W_pos s p
      have hpr : (p == 0) = (r == 0) := by
        by_cases h : p = 0
        · rw [beq_iff_eq.2 h, beq_iff_eq.2 (h4.1 h)]
        · rw [beq_eq_false_iff_ne.2 h, beq_eq_false_iff_ne.2 (fun e => h (h4.2 e))]
      rw [word_l0 s (k + 1) p hp, word_j1 s hs k p hp, hpr]
      cases hst : stops s p (r == 0) with
      | true =>
        have eW : wordL s (n + 1) p r (ByteS.T s p) m = (ByteS.T s p, m) := by rw [wordL, if_neg (by rw [hst]; simp)]
        rw [eW]
        unfold stops at hst
        cases hf : (r == 0 && !L (C s p)) with
        | true =>
          have hp0 : p = 0 := h4.2 (by
            rw [Bool.and_eq_true, beq_iff_eq] at hf
            exact hf.1)
          rw [if_pos rfl, hp0]
          rfl
        | false =>
          rw [hf, Bool.or_false] at hst
          rw [if_neg (by decide), hst, if_pos rfl]
      | false =>
        have eW : wordL s (n + 1) p r (ByteS.T s p) m = if C s p = 45 then wordL s n (p + W s p) (r + 1) (ByteS.T s p) m else wordL s n (p + W s p) (r + 1) (p + W s p) (r + 1) := by rw [wordL, if_pos ⟨hp, hst⟩]
        rw [eW]
        unfold stops at hst
        rw [Bool.or_eq_false_iff, Bool.or_eq_false_iff] at hst
        rw [hst.1.2, hst.1.1, hst.2, if_neg (by decide), if_neg (by decide)]
        have hok : ¬ (C s p = 65533 ∧ W s p = 1) := by
          have := hst.1.1
          unfold bad at this
          exact of_decide_eq_false this
        by_cases hc : C s p = 45
        · have h1 := ByteS.small s p (by show C s p < 128; omega)
          have hw1 : W s p = 1 := by unfold W; rw [h1.1]
          have hb : ByteS.B s p = 45 := by
            have : C s p = ByteS.B s p := by unfold C; rw [h1.1]
            omega
          have := ih k (p + W s p) (r + 1) m (by omega) (by omega) hl ⟨fun h => by omega, fun h => by omega⟩
          rw [if_pos hc, this, hw1, ByteS.T_dash s p hp hb]
        · have hT := ByteS.T_rune s p hp hl hc hok
          have := ih k (p + W s p) (r + 1) (r + 1) (by omega) (by omega) hl ⟨fun h => by omega, fun h => by omega⟩
          rw [if_neg hc, this]
          show some (((wordL s n (p + W s p) (r + 1) (ByteS.T s (p + W s p)) (r + 1)).1 : Nat) : Int) = _
          rw [show ByteS.T s (p + W s p) = p + W s p from hT]
    · have hpe : p = s.size := by omega
      have ht := trimmed s s.size (Nat.le_refl _) hs
      rw [scan_word.l0, next_out hp, Option.bind_some, if_neg Bool.false_ne_true, wordL, if_neg (by omega)]
      rw [show s.extract 0 s.size = s from by simp] at ht
      rw [hpe]
      exact ht
theorem word (s : ByteArray) (hs : s.size ≤ 4611686018427387904) (k : Nat) (hk : 2 * s.size < k) : scan_word.f k s = some ((wordS s).1 : Int) := by
  have := word_loop s hs s.size k 0 0 0 (by omega) hk (by omega) ⟨fun _ => rfl, fun _ => rfl⟩
  exact this
end Go.Proofs.YtmgdkkkkanjadaaGreatDoor.PureS


