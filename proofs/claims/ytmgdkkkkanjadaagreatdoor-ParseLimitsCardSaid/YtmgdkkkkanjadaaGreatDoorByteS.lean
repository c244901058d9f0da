/-
  Runes and their bytes: what a rune's value and width say of its bytes. No program in sight.
-/
import Derived.Lib.TrimUEq
import Derived.Lib.RuneCountTail
import Derived.Lib.SlTrimSet
namespace Go.Proofs.YtmgdkkkkanjadaaGreatDoor.ByteS
set_option linter.unusedVariables false
set_option linter.unusedSimpArgs false
open Go Go.Lib

set_option maxHeartbeats 1000000 in
theorem dn_cases (n b0 b1 b2 b3 : Nat) :
    (b0 < 128 ∧ decodeN n b0 b1 b2 b3 = (b0, 1)) ∨ (128 ≤ b0 ∧ decodeN n b0 b1 b2 b3 = (65533, 1))
    ∨ (b0 / 32 = 6 ∧ 1 < n ∧ b1 / 64 = 2 ∧ 128 ≤ b0 % 32 * 64 + b1 % 64 ∧ decodeN n b0 b1 b2 b3 = (b0 % 32 * 64 + b1 % 64, 2))
    ∨ (b0 / 16 = 14 ∧ 2 < n ∧ b1 / 64 = 2 ∧ b2 / 64 = 2 ∧ 2048 ≤ b0 % 16 * 4096 + b1 % 64 * 64 + b2 % 64 ∧ decodeN n b0 b1 b2 b3 = (b0 % 16 * 4096 + b1 % 64 * 64 + b2 % 64, 3))
    ∨ (b0 / 8 = 30 ∧ 3 < n ∧ b1 / 64 = 2 ∧ b2 / 64 = 2 ∧ b3 / 64 = 2 ∧ 65536 ≤ b0 % 8 * 262144 + b1 % 64 * 4096 + b2 % 64 * 64 + b3 % 64 ∧ decodeN n b0 b1 b2 b3 = (b0 % 8 * 262144 + b1 % 64 * 4096 + b2 % 64 * 64 + b3 % 64, 4)) := by
  by_cases h0 : b0 < 128
  · exact .inl ⟨h0, by rw [decodeN, if_pos h0]⟩
  by_cases h1 : b0 / 32 = 6 ∧ (1 < n ∧ b1 / 64 = 2)
  · by_cases h2 : b0 % 32 * 64 + b1 % 64 ≥ 128
    · exact .inr (.inr (.inl ⟨h1.1, h1.2.1, h1.2.2, h2, by rw [decodeN, if_neg h0, if_pos h1, if_pos h2]⟩))
    · exact .inr (.inl ⟨by omega, by rw [decodeN, if_neg h0, if_pos h1, if_neg h2]⟩)
  by_cases h2 : b0 / 16 = 14 ∧ (1 < n ∧ b1 / 64 = 2) ∧ (2 < n ∧ b2 / 64 = 2)
  · by_cases h3 : b0 % 16 * 4096 + b1 % 64 * 64 + b2 % 64 ≥ 2048 ∧ (b0 % 16 * 4096 + b1 % 64 * 64 + b2 % 64 < 55296 ∨ (57344 ≤ b0 % 16 * 4096 + b1 % 64 * 64 + b2 % 64 ∧ b0 % 16 * 4096 + b1 % 64 * 64 + b2 % 64 ≤ 1114111))
    · exact .inr (.inr (.inr (.inl ⟨h2.1, h2.2.2.1, h2.2.1.2, h2.2.2.2, h3.1, by rw [decodeN, if_neg h0, if_neg h1, if_pos h2, if_pos h3]⟩)))
    · exact .inr (.inl ⟨by omega, by rw [decodeN, if_neg h0, if_neg h1, if_pos h2, if_neg h3]⟩)
  by_cases h3 : b0 / 8 = 30 ∧ (1 < n ∧ b1 / 64 = 2) ∧ (2 < n ∧ b2 / 64 = 2) ∧ (3 < n ∧ b3 / 64 = 2)
  · by_cases h4 : b0 % 8 * 262144 + b1 % 64 * 4096 + b2 % 64 * 64 + b3 % 64 ≥ 65536 ∧ (b0 % 8 * 262144 + b1 % 64 * 4096 + b2 % 64 * 64 + b3 % 64 < 55296 ∨ (57344 ≤ b0 % 8 * 262144 + b1 % 64 * 4096 + b2 % 64 * 64 + b3 % 64 ∧ b0 % 8 * 262144 + b1 % 64 * 4096 + b2 % 64 * 64 + b3 % 64 ≤ 1114111))
    · exact .inr (.inr (.inr (.inr ⟨h3.1, h3.2.2.2.1, h3.2.1.2, h3.2.2.1.2, h3.2.2.2.2, h4.1, by rw [decodeN, if_neg h0, if_neg h1, if_neg h2, if_pos h3, if_pos h4]⟩)))
    · exact .inr (.inl ⟨by omega, by rw [decodeN, if_neg h0, if_neg h1, if_neg h2, if_pos h3, if_neg h4]⟩)
  · exact .inr (.inl ⟨by omega, by rw [decodeN, if_neg h0, if_neg h1, if_neg h2, if_neg h3]⟩)

/-- The byte at a place (nought beyond the end). -/
def B (s : ByteArray) (i : Nat) : Nat := (s.data.toList.getD i 0).toNat
theorem decode_B (s : ByteArray) (p : Nat) : Utf8.decode s p = decodeN (s.size - p) (B s p) (B s (p + 1)) (B s (p + 2)) (B s (p + 3)) := by
  rw [decode_N, size_eq]; rfl
theorem B_lt (s : ByteArray) (i : Nat) : B s i < 256 := UInt8.toNat_lt _
/-- A rune below 128 is its one byte. -/
theorem small (s : ByteArray) (p : Nat) (h : (Utf8.decode s p).1 < 128) : Utf8.decode s p = (B s p, 1) ∧ B s p < 128 := by
  rw [decode_B] at h ⊢
  rcases dn_cases (s.size - p) (B s p) (B s (p + 1)) (B s (p + 2)) (B s (p + 3)) with ⟨h1, e⟩ | ⟨h1, e⟩ | ⟨_, _, _, h1, e⟩ | ⟨_, _, _, _, h1, e⟩ | ⟨_, _, _, _, _, h1, e⟩ <;> rw [e] at h ⊢ <;> simp only at h
  · exact ⟨rfl, h1⟩
  all_goals omega
theorem ascii (s : ByteArray) (p : Nat) (h : B s p < 128) : Utf8.decode s p = (B s p, 1) := by
  rw [decode_B]; exact decodeN_ascii _ _ _ _ _ h
/-- A rune of one byte that is no ASCII is broken. -/
theorem one (s : ByteArray) (p : Nat) (h : (Utf8.decode s p).2 = 1) (h1 : 128 ≤ (Utf8.decode s p).1) : (Utf8.decode s p).1 = 65533 := by
  rw [decode_B] at h h1 ⊢
  rcases dn_cases (s.size - p) (B s p) (B s (p + 1)) (B s (p + 2)) (B s (p + 3)) with ⟨h2, e⟩ | ⟨h2, e⟩ | ⟨_, _, _, h2, e⟩ | ⟨_, _, _, _, h2, e⟩ | ⟨_, _, _, _, _, h2, e⟩ <;> rw [e] at h h1 ⊢ <;> simp only at h h1 ⊢
  all_goals omega
/-- The last byte of a rune that is no ASCII, and not broken, is beyond ASCII. -/
theorem last (s : ByteArray) (p : Nat) (h : 2 ≤ (Utf8.decode s p).2) : 128 ≤ B s (p + (Utf8.decode s p).2 - 1) := by
  rw [decode_B] at h ⊢
  rcases dn_cases (s.size - p) (B s p) (B s (p + 1)) (B s (p + 2)) (B s (p + 3)) with ⟨h2, e⟩ | ⟨h2, e⟩ | ⟨_, _, _, h2, e⟩ | ⟨_, _, _, _, h2, e⟩ | ⟨_, _, _, _, _, h2, e⟩ <;> rw [e] at h ⊢ <;> simp only at h ⊢
  · omega
  · omega
  · show 128 ≤ B s (p + 1); omega
  · show 128 ≤ B s (p + 2); omega
  · show 128 ≤ B s (p + 3); omega
/-- The rune 65533: broken (one byte), or written out (three). -/
theorem err (s : ByteArray) (p : Nat) (h : (Utf8.decode s p).1 = 65533) : (Utf8.decode s p).2 = 1 ∧ ¬ (B s p = 239 ∧ B s (p + 1) = 191 ∧ B s (p + 2) = 189 ∧ 2 < s.size - p) ∨ (Utf8.decode s p).2 = 3 ∧ B s p = 239 ∧ B s (p + 1) = 191 ∧ B s (p + 2) = 189 ∧ 2 < s.size - p := by
  have hb0 := B_lt s p
  rw [decode_B] at h ⊢
  have key : B s p = 239 ∧ B s (p + 1) = 191 ∧ B s (p + 2) = 189 ∧ 2 < s.size - p → decodeN (s.size - p) (B s p) (B s (p + 1)) (B s (p + 2)) (B s (p + 3)) = (65533, 3) := by
    rintro ⟨e0, e1, e2, e3⟩
    rw [e0, e1, e2, decodeN, if_neg (by decide), if_neg (by omega), if_pos (by omega), if_pos (by decide)]
  by_cases hk : B s p = 239 ∧ B s (p + 1) = 191 ∧ B s (p + 2) = 189 ∧ 2 < s.size - p
  · rw [key hk]
    exact .inr ⟨rfl, hk⟩
  · refine .inl ⟨?_, hk⟩
    rcases dn_cases (s.size - p) (B s p) (B s (p + 1)) (B s (p + 2)) (B s (p + 3)) with ⟨h2, e⟩ | ⟨h2, e⟩ | ⟨_, _, _, h2, e⟩ | ⟨h3, h4, h5, h6, h2, e⟩ | ⟨_, _, _, _, _, h2, e⟩ <;> rw [e] at h ⊢ <;> simp only at h ⊢
    · omega
    · exact absurd ⟨by have := B_lt s (p + 1); have := B_lt s (p + 2); omega, by have := B_lt s (p + 1); have := B_lt s (p + 2); omega, by have := B_lt s (p + 1); have := B_lt s (p + 2); omega, h4⟩ hk
    · omega

/-! ### a text without its trailing dashes -/
/-- How many bytes are left of the first p. -/
def T (s : ByteArray) (p : Nat) : Nat := (trimRightS (s.data.toList.take p) [45]).length
theorem T_zero (s : ByteArray) : T s 0 = 0 := rfl
theorem take_succ_B (s : ByteArray) (p : Nat) (h : p < s.size) : s.data.toList.take (p + 1) = s.data.toList.take p ++ [s.data.toList.getD p 0] := by
  rw [size_eq] at h
  have e : s.data.toList.getD p 0 = s.data.toList[p] := by
    show (s.data.toList[p]?).getD 0 = _
    rw [List.getElem?_eq_getElem h]; rfl
  rw [List.take_add_one, List.getElem?_eq_getElem h, e]
  rfl
theorem T_dash (s : ByteArray) (p : Nat) (h : p < s.size) (hb : B s p = 45) : T s (p + 1) = T s p := by
  have e : s.data.toList.getD p 0 = 45 := by
    apply UInt8.toNat_inj.1
    exact hb
  unfold T trimRightS
  rw [take_succ_B s p h, e, List.reverse_append]
  rfl
theorem T_full (s : ByteArray) (p : Nat) (h0 : 0 < p) (h : p ≤ s.size) (hb : B s (p - 1) ≠ 45) : T s p = p := by
  obtain ⟨q, rfl⟩ : ∃ q, p = q + 1 := ⟨p - 1, by omega⟩
  have e : ([45] : List UInt8).contains (s.data.toList.getD q 0) = false := by
    rw [List.contains_cons, List.contains_nil, Bool.or_false]
    apply beq_eq_false_iff_ne.2
    intro he
    apply hb
    show (s.data.toList.getD (q + 1 - 1) 0).toNat = 45
    rw [Nat.add_sub_cancel, he]
    rfl
  unfold T trimRightS
  rw [take_succ_B s q (by omega), List.reverse_append, List.reverse_singleton, List.singleton_append, List.dropWhile_cons, e]
  simp only [Bool.false_eq_true, if_false]
  have hl := size_eq s
  simp only [List.length_reverse, List.length_cons, List.length_take]
  omega
/-- Behind a rune that is no dash, nor broken, nothing is cut off. -/
theorem T_rune (s : ByteArray) (p : Nat) (h : p < s.size) (hw : p + (Utf8.decode s p).2 ≤ s.size) (hc : (Utf8.decode s p).1 ≠ 45) (hok : ¬ ((Utf8.decode s p).1 = 65533 ∧ (Utf8.decode s p).2 = 1)) : T s (p + (Utf8.decode s p).2) = p + (Utf8.decode s p).2 := by
  have h1 := width_pos s p
  refine T_full s _ (by omega) hw ?_
  by_cases h2 : (Utf8.decode s p).2 = 1
  · rw [h2, Nat.add_sub_cancel]
    have hlt : (Utf8.decode s p).1 < 128 := by
      have := one s p h2
      omega
    have := (small s p hlt).1
    rw [this] at hc
    exact hc
  · have := last s p (by omega)
    omega

/-! ### a text's beginning -/
theorem B_take (s : ByteArray) (e i : Nat) (he : e ≤ s.size) (h : i < e) : B (s.extract 0 e) i = B s i := by
  unfold B
  rw [extract_data, List.drop_zero, Nat.sub_zero, getD_takeU _ _ _ h]
theorem take_size (s : ByteArray) (e : Nat) (he : e ≤ s.size) : (s.extract 0 e).size = e := by rw [ByteArray.size_extract]; omega
/-- A rune that is not broken is the same where the text ends behind it. -/
theorem take_decode (s : ByteArray) (e p : Nat) (he : e ≤ s.size) (hw : p + (Utf8.decode s p).2 ≤ e) (hok : ¬ ((Utf8.decode s p).1 = 65533 ∧ (Utf8.decode s p).2 = 1)) : Utf8.decode (s.extract 0 e) p = Utf8.decode s p := by
  have h1 := width_pos s p
  have hb0 := B_take s e p he (by omega)
  rw [decode_B s p] at hw hok ⊢
  rw [decode_B (s.extract 0 e) p, take_size s e he, hb0]
  generalize hn : s.size - p = n at *
  generalize hn' : e - p = n'
  have hnn : n' ≤ n := by omega
  rcases dn_cases n (B s p) (B s (p + 1)) (B s (p + 2)) (B s (p + 3)) with ⟨h2, q⟩ | ⟨h2, q⟩ | ⟨h3, h4, h5, h2, q⟩ | ⟨h3, h4, h5, h6, h2, q⟩ | ⟨h3, h4, h5, h6, h7, h2, q⟩
  · rw [q, decodeN_ascii _ _ _ _ _ h2]
  · rw [q] at hok
    exact absurd ⟨rfl, rfl⟩ hok
  · rw [q] at hw ⊢
    simp only at hw
    rw [B_take s e (p + 1) he (by omega), decodeN, if_neg (by omega), if_pos ⟨h3, by omega, h5⟩, if_pos h2]
  · have q0 := q
    rw [q] at hw ⊢
    simp only at hw
    rw [decodeN, if_neg (by omega), if_neg (by omega), if_pos ⟨h3, ⟨by omega, h5⟩, h4, h6⟩] at q0
    rw [B_take s e (p + 1) he (by omega), B_take s e (p + 2) he (by omega), decodeN, if_neg (by omega), if_neg (by omega), if_pos ⟨h3, ⟨by omega, h5⟩, by omega, h6⟩]
    exact q0
  · have q0 := q
    rw [q] at hw ⊢
    simp only at hw
    rw [decodeN, if_neg (by omega), if_neg (by omega), if_neg (by omega), if_pos ⟨h3, ⟨by omega, h5⟩, ⟨by omega, h6⟩, h4, h7⟩] at q0
    rw [B_take s e (p + 1) he (by omega), B_take s e (p + 2) he (by omega), B_take s e (p + 3) he (by omega), decodeN, if_neg (by omega), if_neg (by omega), if_neg (by omega), if_pos ⟨h3, ⟨by omega, h5⟩, ⟨by omega, h6⟩, by omega, h7⟩]
    exact q0
end Go.Proofs.YtmgdkkkkanjadaaGreatDoor.ByteS
