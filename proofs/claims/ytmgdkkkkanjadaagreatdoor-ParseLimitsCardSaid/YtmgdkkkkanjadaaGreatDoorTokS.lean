/-
  A token at the beginning of a text: scan's way and the document's way come to one plain answer.
-/
import Derived.Test.YtmgdkkkkanjadaaGreatDoorLeadS
import Derived.Test.YtmgdkkkkanjadaaGreatDoorX6
namespace Go.Proofs.YtmgdkkkkanjadaaGreatDoor.PureS
set_option linter.unusedVariables false
set_option linter.unusedSimpArgs false
open Go.RowKit Go.Lib Go.Proofs.YtmgdkkkkanjadaaGreatDoorW.PrintWords Go.Proofs.YtmgdkkkkanjadaaGreatDoorW.PrintLast Go.Proofs.YtmgdkkkkanjadaaGreatDoorW.PrintMore Go.Proofs.YtmgdkkkkanjadaaGreatDoor.X Go.Proofs.YtmgdkkkkanjadaaGreatDoor.HandS Go.Proofs.YtmgdkkkkanjadaaGreatDoor.Iter

/-! ### what is left of a text -/
theorem decode_drop (s : ByteArray) (p q : Nat) : Utf8.decode (s.extract p s.size) q = Utf8.decode s (p + q) := by
  rw [← decodeL_drop, B_ext, List.drop_drop, decodeL_drop]
theorem C_drop (s : ByteArray) (p q : Nat) : C (s.extract p s.size) q = C s (p + q) := by unfold C; rw [decode_drop]
theorem W_drop (s : ByteArray) (p q : Nat) : W (s.extract p s.size) q = W s (p + q) := by unfold W; rw [decode_drop]
theorem bad_drop (s : ByteArray) (p q : Nat) : bad (s.extract p s.size) q = bad s (p + q) := by unfold bad; rw [C_drop, W_drop]
theorem drop_drop (s : ByteArray) (p q : Nat) : (s.extract p s.size).extract q (s.extract p s.size).size = s.extract (p + q) s.size := by
  apply ByteArray.ext
  apply Array.toList_inj.1
  rw [B_ext, B_ext, B_ext, List.drop_drop]
theorem drop_take (s : ByteArray) (p n : Nat) (h : p + n ≤ s.size) : (s.extract p s.size).extract 0 n = s.extract p (p + n) := by
  apply ByteArray.ext
  apply Array.toList_inj.1
  rw [extract_data, B_ext, extract_data, List.drop_zero, Nat.sub_zero, Nat.add_sub_cancel_left]
theorem Runs.drop {s : ByteArray} {p q e m : Nat} (h : Runs (s.extract p s.size) q e m) : Runs s (p + q) (p + e) m := by
  induction h with
  | nil q => exact .nil _
  | cons q e m h1 h2 h3 ih =>
    rw [ext_size] at h1
    rw [bad_drop] at h2
    rw [W_drop, ← Nat.add_assoc] at ih
    exact .cons _ _ _ (by omega) h2 ih
theorem D_eq (s : ByteArray) (p : Nat) : D (C s p) = D (ByteS.B s p) := by
  by_cases h : C s p < 128
  · have h1 := (ByteS.small s p h).1
    unfold C
    rw [h1]
  · have h2 : ¬ ByteS.B s p < 128 := by
      intro h3
      have := ByteS.ascii s p h3
      unfold C at h
      rw [this] at h
      exact h h3
    unfold D
    rw [decide_eq_false (by omega), decide_eq_false (by omega)]
theorem lead_zero (s : ByteArray) (hs : 0 < s.size) : 0 < lead s.data.toList ↔ D (C s 0) = true := by
  rw [D_eq]
  have hd := drop_cons s.data.toList 0 (by rw [← size_eq]; exact hs)
  rw [List.drop_zero] at hd
  rw [hd]
  unfold lead
  rw [List.takeWhile_cons]
  show 0 < (if D (s.data.toList.getD 0 0).toNat = true then _ else _ : List UInt8).length ↔ D (s.data.toList.getD 0 0).toNat = true
  cases D (s.data.toList.getD 0 0).toNat with
  | true => rw [if_pos rfl, List.length_cons]; simp
  | false => rw [if_neg Bool.false_ne_true]; simp
theorem lead_le (l : List UInt8) : lead l ≤ l.length := by
  have := drop_lead l
  omega
theorem take_takeWhile (p : UInt8 → Bool) (l : List UInt8) : l.take (l.takeWhile p).length = l.takeWhile p := by
  induction l with
  | nil => rfl
  | cons b l ih =>
    rw [List.takeWhile_cons]
    cases p b with
    | true => rw [if_pos rfl, List.length_cons, List.take_succ_cons, ih]
    | false => rw [if_neg Bool.false_ne_true]; rfl
theorem mem_takeWhile (p : UInt8 → Bool) (l : List UInt8) : ∀ b ∈ l.takeWhile p, p b = true := by
  induction l with
  | nil => intro b h; cases h
  | cons c l ih =>
    intro b h
    rw [List.takeWhile_cons] at h
    cases hc : p c with
    | true =>
      rw [hc, if_pos rfl] at h
      rcases List.mem_cons.1 h with rfl | h
      · exact hc
      · exact ih b h
    | false =>
      rw [hc, if_neg Bool.false_ne_true] at h
      cases h
theorem lead_digits (l : List UInt8) : ∀ b ∈ l.take (lead l), isD b = true := by
  unfold lead
  rw [take_takeWhile]
  exact mem_takeWhile isD l
/-- The digits at the beginning are runes, none broken. -/
theorem lead_runs (s : ByteArray) (n : Nat) : ∀ p, p + n ≤ s.size → (∀ i, p ≤ i → i < p + n → D (ByteS.B s i) = true) → Runs s p (p + n) n := by
  induction n with
  | zero => intro p h1 h2; exact .nil _
  | succ n ih =>
    intro p h1 h2
    have hb := h2 p (Nat.le_refl _) (by omega)
    have hb2 : 48 ≤ ByteS.B s p ∧ ByteS.B s p ≤ 57 := of_decide_eq_true hb
    have ha := ByteS.ascii s p (by omega)
    have hw : W s p = 1 := by unfold W; rw [ha]
    have hc : C s p = ByteS.B s p := by unfold C; rw [ha]
    have := ih (p + 1) (by omega) (fun i h3 h4 => h2 i (by omega) (by omega))
    refine .cons _ _ _ (by omega) ?_ ?_
    · unfold bad
      exact decide_eq_false (by omega)
    · rw [hw, show p + (n + 1) = p + 1 + n from by omega]
      exact this
theorem lead_B (s : ByteArray) (p : Nat) (i : Nat) (h1 : p ≤ i) (h2 : i < p + lead (s.data.toList.drop p)) : D (ByteS.B s i) = true := by
  have hd := lead_digits (s.data.toList.drop p)
  have hl := lead_le (s.data.toList.drop p)
  obtain ⟨j, rfl⟩ : ∃ j, i = p + j := ⟨i - p, by omega⟩
  have hj : j < lead (s.data.toList.drop p) := by omega
  have hlen : j < (s.data.toList.drop p).length := by omega
  have e : (s.data.toList.drop p)[j] = s.data.toList.getD (p + j) 0 := by
    rw [List.getElem_drop]
    show _ = (s.data.toList[p + j]?).getD 0
    rw [List.getElem?_eq_getElem (by rw [List.length_drop] at hlen; omega)]; rfl
  have := hd (s.data.toList.drop p)[j] (by
    rw [List.mem_take_iff_getElem]
    exact ⟨j, by omega, rfl⟩)
  rw [e] at this
  exact this

/-! ### a number, with something behind it -/
def G (s : ByteArray) : Nat := (decodeGo s).1
theorem G_le (s : ByteArray) : G s ≤ 1114111 := by
  unfold G decodeGo
  split
  · decide
  · exact C_le s 0
theorem L_none : L 65533 = false := by decide +kernel
theorem letterG (s : ByteArray) : unicode_IsLetter.f (G s : Int) = some (L (G s)) := by
  have := G_le s
  unfold unicode_IsLetter.f
  rw [if_pos ⟨by omega, by omega⟩]
  rfl
theorem decG (s : ByteArray) : utf8_DecodeRuneInString.f s = some ((G s : Int), ((decodeGo s).2 : Int)) := rfl
theorem G_size (s : ByteArray) (h : L (G s) = true) : 0 < (decodeGo s).2 := by
  unfold G decodeGo at h
  unfold decodeGo
  split at h
  · rw [L_none] at h; cases h
  · rename_i h0
    rw [if_neg h0]
    exact width_pos s 0
def num (s : ByteArray) (n : Nat) : Nat :=
  if great (s.data.toList.take n) = true then 3 else if ((decide (1 < n) && decide (ByteS.B s 0 = 48)) || L (G (s.extract n s.size))) = true then 5 else 0
theorem first_B (s : ByteArray) (n : Nat) (h0 : 0 < n) (hn : n ≤ s.size) : bt (s.extract 0 n) 0 = (ByteS.B s 0 : Int) := by
  have hz := ByteS.take_size s n hn
  have := bt_get (s.extract 0 n) 0 (by rw [hz]; exact h0)
  have e := ByteS.B_take s n 0 hn h0
  unfold ByteS.B at e
  rw [e] at this
  exact this
theorem scanNumber_j0 (s : ByteArray) (n : Nat) (h0 : 0 < n) (hn : n ≤ s.size) (k : Nat) : scan_number.j0 (k + 1) (s.extract 0 n) (s.extract n s.size) (great (s.data.toList.take n)) = some ((num s n : Nat) : Int) := by
  have hb := first_B s n h0 hn
  have hz := ByteS.take_size s n hn
  rw [scan_number.j0]
  unfold num
  cases great (s.data.toList.take n) with
  | true => rw [if_pos rfl, if_pos rfl]; rfl
  | false =>
    rw [if_neg Bool.false_ne_true, if_neg Bool.false_ne_true, decG, Option.bind_some, letterG, hb, hz]
    by_cases h1 : 1 < n
    · rw [if_pos (show (n : Int) > 1 by omega), if_pos (show 0 < (n : Int) by omega), decide_eq_true h1, Bool.true_and]
      by_cases h2 : ByteS.B s 0 = 48
      · rw [if_pos (show (ByteS.B s 0 : Int) = 48 by omega), decide_eq_true h2, Bool.true_or, if_pos rfl]; rfl
      · rw [if_neg (show ¬ (ByteS.B s 0 : Int) = 48 by omega), decide_eq_false h2, Bool.false_or, Option.bind_some]
        cases L (G (s.extract n s.size)) <;> rfl
    · rw [if_neg (show ¬ (n : Int) > 1 by omega), decide_eq_false h1, Bool.false_and, Bool.false_or, Option.bind_some]
      cases L (G (s.extract n s.size)) <;> rfl
theorem scanNumber (s : ByteArray) (hs : s.size ≤ 1000000) (h0 : 0 < lead s.data.toList) (k : Nat) : scan_number.f (k + 1) (s.extract 0 (lead s.data.toList)) (s.extract (lead s.data.toList) s.size) = some ((num s (lead s.data.toList) : Nat) : Int) := by
  have hl := lead_le s.data.toList
  have hn : lead s.data.toList ≤ s.size := by rw [size_eq]; exact hl
  have hj := scanNumber_j0 s _ h0 hn k
  have hd : (s.extract 0 (lead s.data.toList)).data.toList = s.data.toList.take (lead s.data.toList) := by
    rw [extract_data, List.drop_zero, Nat.sub_zero]
  have hz := ByteS.take_size s _ hn
  unfold scan_number.f strconv_Atoi.f
  rw [if_pos (by rw [hz]; omega), hd]
  have hne : s.data.toList.take (lead s.data.toList) ≠ [] := by
    intro h
    have := congrArg List.length h
    rw [List.length_take, List.length_nil] at this
    omega
  rcases atoi_digits _ hne (lead_digits s.data.toList) with ⟨v, h1, h2⟩ | ⟨h1, h2⟩
  · rw [h1, Option.bind_some, ← hj]
    refine (if_pos (show ((v : Int), (none : Option Int)).2.isNone = true from rfl)).trans ?_
    congr 1
    unfold great
    exact decide_eq_decide.2 (by subst h2; simp only; omega)
  · rw [h1, Option.bind_some, ← hj, h2]
    exact if_neg (show ¬ ((atoiSat (List.take (lead s.data.toList) s.data.toList), some (1 : Int)).2.isNone = true) by simp)

/-! ### marks -/
def marksL : List Nat := [123, 125, 40, 41, 58, 59, 43, 42, 60, 61, 45]
def mark (c : Nat) : Bool := marksL.contains c
theorem mark_lt (c : Nat) (h : mark c = true) : c < 128 := by
  unfold mark at h
  have := List.contains_iff_mem.1 h
  have h2 : ∀ x ∈ marksL, x < 128 := by decide
  exact h2 c this
theorem scanMark_small : ∀ c : Fin 128, decide (0 ≤ Lib.indexByte [123, 125, 40, 41, 58, 59, 43, 42, 60, 61, 45] (Int.toNat (c.1 : Int)).toUInt8) = mark c.1 := by decide +kernel
theorem scanMark (s : ByteArray) (p : Nat) : strings_ContainsRune.f (⟨#[123, 125, 40, 41, 58, 59, 43, 42, 60, 61, 45]⟩ : ByteArray) (C s p : Int) = some (mark (C s p)) := by
  have hle := C_le s p
  unfold strings_ContainsRune.f
  by_cases h : C s p < 128
  · rw [if_pos ⟨by omega, by omega⟩]
    congr 1
    exact scanMark_small ⟨C s p, h⟩
  · rw [if_neg (by omega), if_pos ⟨rfl, by omega, by omega⟩]
    congr 1
    cases hm : mark (C s p) with
    | false => rfl
    | true => exact absurd (mark_lt _ hm) h
/-! ### the token at the beginning: its kind, its length, what is wrong with it -/
def tok (s : ByteArray) : Nat × Nat × Nat :=
  if 0 < (wordS s).1 then (1, (wordS s).1, if 24 < (wordS s).2 then 3 else 0)
  else if 0 < lead s.data.toList then (2, lead s.data.toList, num s (lead s.data.toList))
  else (3, 1, if (mark (C s 0) && !bad s 0) = true then 0 else 4)
theorem scanToken (s : ByteArray) (hs : s.size ≤ 1000000) (h0 : 0 < s.size) (k : Nat) (hk : 2 * s.size < k) : scan_token.f k s (C s 0 : Int) = some (((tok s).1 : Int), ((tok s).2.1 : Int), ((tok s).2.2 : Int)) := by
  have hw := word s (by omega) k hk
  have hle := wordS_le s
  have hc := count s (by omega)
  have hnum := numeral s (by omega)
  have hl := lead_le s.data.toList
  have hm := scanMark s 0
  have hb := broken s 0 h0
  obtain ⟨k, rfl⟩ : ∃ q, k = q + 1 := ⟨k - 1, by omega⟩
  have hn := scanNumber s hs
  rw [← size_eq] at hl
  unfold scan_token.f tok
  rw [hw, Option.bind_some]
  by_cases h1 : 0 < (wordS s).1
  · rw [if_pos (show ((wordS s).1 : Int) > 0 by omega), if_pos (show 0 ≤ ((wordS s).1 : Int) by omega), if_pos (show ((wordS s).1 : Int) ≤ (s.size : Int) by omega), Int.toNat_natCast, hc, Option.bind_some, if_pos h1]
    by_cases h2 : 24 < (wordS s).2
    · rw [if_pos (show ((wordS s).2 : Int) > 24 by omega), if_pos h2]; rfl
    · rw [if_neg (show ¬ ((wordS s).2 : Int) > 24 by omega), if_neg h2]; rfl
  · rw [if_neg (show ¬ ((wordS s).1 : Int) > 0 by omega), if_neg h1, hnum, Option.bind_some]
    by_cases h2 : 0 < lead s.data.toList
    · rw [if_pos (show ((lead s.data.toList : Nat) : Int) > 0 by omega), if_pos (show 0 ≤ ((lead s.data.toList : Nat) : Int) by omega), if_pos (show ((lead s.data.toList : Nat) : Int) ≤ (s.size : Int) by omega), Int.toNat_natCast, hn h2 k, Option.bind_some, if_pos h2]
      rfl
    · rw [if_neg (show ¬ ((lead s.data.toList : Nat) : Int) > 0 by omega), if_neg h2, hm, Option.bind_some]
      cases mark (C s 0) with
      | false => rfl
      | true =>
        rw [if_pos rfl]
        have hb' : scan_broken.f s 0 (C s 0 : Int) = some (bad s 0) := hb
        rw [hb', Option.bind_some]
        cases bad s 0 <;> rfl
end Go.Proofs.YtmgdkkkkanjadaaGreatDoor.PureS


