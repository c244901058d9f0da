/-
  The plain law of puzzle texts: a puzzle that may be is written so that it is read as the same, and what is read is written so; no program, no memory.
-/
import Derived.Lib.SpaceUEq
import Derived.Lib.AtoiAllCases
import Derived.Lib.ItoaNum
import Derived.Lib.Join
namespace Go.Proofs.YtgalbiokebghkaaDoor.Puz
set_option linter.unusedVariables false
set_option linter.unusedSimpArgs false
open Go.Lib

/-- May a puzzle be? -/
def mayB (who plies : Int) (sc : List Int) : Bool := decide (who ≤ 1) && (decide (1 ≤ plies) && (decide (plies ≤ 12) && (decide (sc.length ≤ 1000) && !(sc.any fun n => decide (n < 0) || decide (99999 < n)))))
/-- Its words. -/
def words (who plies : Int) (sc : List Int) : List (List UInt8) := [119, 105, 110] :: itoa who :: [105, 110] :: itoa plies :: [97, 102, 116, 101, 114] :: sc.map itoa
/-- Its text. -/
def write (who plies : Int) (sc : List Int) : List UInt8 := join (words who plies sc) [32] ++ [10]
/-- Words as numbers that may be. -/
def nums : List (List UInt8) → Option (List Int)
  | [] => some []
  | x :: r => match atoiAll x with
    | .ok i => if i < 0 ∨ 99999 < i then none else (nums r).map (i :: ·)
    | _ => none
/-- What a text is read as. -/
def read (s : List UInt8) : Option (Int × Int × List Int) :=
  if (fieldsU s).length < 5 then none
  else match nums ((fieldsU s).getD 1 [] :: (fieldsU s).getD 3 [] :: (fieldsU s).drop 5) with
    | some (a :: b :: r) => if 1 < a then none else if mayB a b r = true ∧ write a b r = s then some (a, b, r) else none
    | _ => none

/-! ### words that are parted by one blank -/
/-- A byte that is no white space and begins none. -/
def Inky (b : UInt8) : Prop := 33 ≤ b.toNat ∧ b.toNat < 128

theorem head_inky (b : UInt8) (t : List UInt8) (h : Inky b) : headSpace (b :: t) = 0 := by
  obtain ⟨h1, h2⟩ := h
  have ne : ∀ c : UInt8, (c.toNat < 33 ∨ 128 ≤ c.toNat) → (c == b) = false := by
    intro c hc
    rw [beq_eq_false_iff_ne]
    rintro rfl
    omega
  unfold headSpace spaceSeqs
  simp [List.find?, List.isPrefixOf, ne]

theorem head_blank (t : List UInt8) : headSpace (32 :: t) = 1 := by
  unfold headSpace spaceSeqs
  simp [List.find?, List.isPrefixOf]
theorem head_line (t : List UInt8) : headSpace (10 :: t) = 1 := by
  unfold headSpace spaceSeqs
  simp [List.find?, List.isPrefixOf]

/-- A word goes to the field that is being read. -/
theorem go_word : ∀ (x : List UInt8) (f : Nat) (cur t : List UInt8), (∀ b ∈ x, Inky b) → fieldsGoU (f + x.length) cur (x ++ t) = fieldsGoU f (cur ++ x) t
  | [], f, cur, t, _ => by simp
  | b :: x, f, cur, t, h => by
    have e : f + (b :: x).length = f + x.length + 1 := by simp; omega
    rw [e, List.cons_append, fieldsGoU, if_pos (head_inky b _ (h b (by simp))), go_word x f (cur ++ [b]) t (fun c hc => h c (by simp [hc]))]
    simp

/-- Words, each with one blank ahead, and the line end. -/
theorem go_tail : ∀ (r : List (List UInt8)) (f : Nat) (cur : List UInt8), cur ≠ [] → (∀ x ∈ r, x ≠ [] ∧ ∀ b ∈ x, Inky b) → (joinTail [32] r).length + 2 ≤ f → fieldsGoU f cur (joinTail [32] r ++ [10]) = cur :: r
  | [], f, cur, hc, _, hf => by
    obtain ⟨g, rfl⟩ : ∃ g, f = g + 2 := ⟨f - 2, by simp [joinTail] at hf; omega⟩
    simp only [joinTail, List.map_nil, List.flatten_nil, List.nil_append]
    rw [fieldsGoU, if_neg (by rw [head_line]; decide), head_line, if_neg hc]
    simp [fieldsGoU]
  | x :: r, f, cur, hc, h, hf => by
    have e : joinTail [32] (x :: r) = 32 :: (x ++ joinTail [32] r) := by simp [joinTail]
    rw [e] at hf ⊢
    simp only [List.length_cons, List.length_append] at hf
    obtain ⟨g, rfl⟩ : ∃ g, f = g + x.length + 1 := ⟨f - x.length - 1, by omega⟩
    rw [List.cons_append, fieldsGoU, if_neg (by rw [head_blank]; decide), head_blank, if_neg hc]
    simp only [List.drop_succ_cons, List.drop_zero]
    rw [List.append_assoc, go_word x g [] _ (h x (by simp)).2, List.nil_append, go_tail r g x (h x (by simp)).1 (fun y hy => h y (by simp [hy])) (by omega)]
    simp

theorem fields_words (x : List UInt8) (r : List (List UInt8)) (h : ∀ y ∈ x :: r, y ≠ [] ∧ ∀ b ∈ y, Inky b) : fieldsU (join (x :: r) [32] ++ [10]) = x :: r := by
  unfold fieldsU
  rw [join_cons, List.append_assoc]
  have e : (x ++ (joinTail [32] r ++ [10])).length + 1 = ((joinTail [32] r).length + 2) + x.length := by simp; omega
  rw [e, go_word x _ [] _ (h x (by simp)).2, List.nil_append, go_tail r _ x (h x (by simp)).1 (fun y hy => h y (by simp [hy])) (Nat.le_refl _)]

/-! ### numerals -/
theorem itoa_nat (u : Nat) : itoa (u : Int) = decDigits u := by unfold itoa; rw [if_neg (by omega)]; simp

theorem dig_byte (d : Nat) (h : d < 10) : (UInt8.ofNat (48 + d)).toNat = 48 + d := by
  simp; omega

theorem digits_inky (u : Nat) : decDigits u ≠ [] ∧ ∀ b ∈ decDigits u, 48 ≤ b.toNat ∧ b.toNat ≤ 57 := by
  induction u using Nat.strongRecOn with
  | _ u ih =>
    rw [decDigits]
    split
    · refine ⟨by simp, fun b hb => ?_⟩
      simp only [List.mem_singleton] at hb
      subst hb
      rw [dig_byte u (by omega)]; omega
    · refine ⟨by simp, fun b hb => ?_⟩
      simp only [List.mem_append, List.mem_singleton] at hb
      rcases hb with hb | rfl
      · exact (ih (u / 10) (by omega)).2 b hb
      · rw [dig_byte (u % 10) (by omega)]; omega

theorem parse_snoc : ∀ (l : List UInt8) (a u d : Nat), parseUint10 a l = .ok u → d < 10 → u < 1000000000000 → parseUint10 a (l ++ [UInt8.ofNat (48 + d)]) = .ok (u * 10 + d)
  | [], a, u, d, h, hd, hu => by
    simp only [parseUint10] at h
    injection h with h
    subst h
    simp only [List.nil_append, parseUint10]
    rw [dig_byte d hd, if_pos (by omega), if_neg (by omega), if_neg (by omega)]
    congr 1; omega
  | c :: r, a, u, d, h, hd, hu => by
    simp only [List.cons_append, parseUint10] at h ⊢
    split at h
    · rename_i h1
      rw [if_pos h1]
      split at h
      · cases h
      · rename_i h2
        rw [if_neg h2]
        split at h
        · cases h
        · rename_i h3
          rw [if_neg h3]
          exact parse_snoc r _ u d h hd hu
    · cases h

theorem parse_digits (u : Nat) (hu : u < 1000000000000) : parseUint10 0 (decDigits u) = .ok u := by
  induction u using Nat.strongRecOn with
  | _ u ih =>
    rw [decDigits]
    split
    · rename_i h
      have := parse_snoc [] 0 0 u rfl h (by omega)
      simpa using this
    · have := parse_snoc _ 0 (u / 10) (u % 10) (ih (u / 10) (by omega) (by omega)) (by omega) (by omega)
      rw [this]; congr 1; omega

theorem atoi_itoa (n : Int) (h0 : 0 ≤ n) (h1 : n ≤ 99999) : atoiAll (itoa n) = .ok n := by
  obtain ⟨u, rfl⟩ := Int.eq_ofNat_of_zero_le h0
  rw [itoa_nat]
  have hp := parse_digits u (by omega)
  have hi := digits_inky u
  cases hd : decDigits u with
  | nil => exact absurd hd hi.1
  | cons c r =>
    have hc := hi.2 c (by rw [hd]; simp)
    rw [hd] at hp
    unfold atoiAll
    simp only
    rw [if_neg (by omega)]
    unfold parseMag
    rw [if_neg (by simp), hp]
    simp only
    rw [if_neg (by omega), if_neg (by omega), if_neg (by omega)]

theorem nums_itoa : ∀ (l : List Int), (∀ n ∈ l, 0 ≤ n ∧ n ≤ 99999) → nums (l.map itoa) = some l
  | [], _ => rfl
  | n :: r, h => by
    have hn := h n (by simp)
    rw [List.map_cons, nums, atoi_itoa n hn.1 hn.2]
    simp only
    rw [if_neg (by omega), nums_itoa r (fun m hm => h m (by simp [hm]))]
    rfl

theorem may_facts {who plies : Int} {sc : List Int} (h : mayB who plies sc = true) : who ≤ 1 ∧ 1 ≤ plies ∧ plies ≤ 12 ∧ sc.length ≤ 1000 ∧ ∀ n ∈ sc, 0 ≤ n ∧ n ≤ 99999 := by
  simp only [mayB, Bool.and_eq_true, decide_eq_true_eq, Bool.not_eq_true', List.any_eq_false, Bool.or_eq_true, not_or, Int.not_lt] at h
  obtain ⟨h1, h2, h3, h4, h5⟩ := h
  exact ⟨h1, h2, h3, h4, h5⟩

theorem itoa_inky {n : Int} (h0 : 0 ≤ n) : itoa n ≠ [] ∧ ∀ b ∈ itoa n, Inky b := by
  obtain ⟨u, rfl⟩ := Int.eq_ofNat_of_zero_le h0
  rw [itoa_nat]
  refine ⟨(digits_inky u).1, fun b hb => ?_⟩
  have := (digits_inky u).2 b hb
  exact ⟨by omega, by omega⟩

theorem words_inky {who plies : Int} {sc : List Int} (h : mayB who plies sc = true) (hw : 0 ≤ who) : ∀ y ∈ words who plies sc, y ≠ [] ∧ ∀ b ∈ y, Inky b := by
  obtain ⟨h1, h2, h3, h4, h5⟩ := may_facts h
  intro y hy
  simp only [words, List.mem_cons, List.mem_map] at hy
  rcases hy with rfl | rfl | rfl | rfl | rfl | ⟨n, hn, rfl⟩
  · refine ⟨by simp, fun b hb => ?_⟩
    simp only [List.mem_cons, List.not_mem_nil, or_false] at hb
    rcases hb with rfl | rfl | rfl <;> exact ⟨by decide, by decide⟩
  · exact itoa_inky hw
  · refine ⟨by simp, fun b hb => ?_⟩
    simp only [List.mem_cons, List.not_mem_nil, or_false] at hb
    rcases hb with rfl | rfl <;> exact ⟨by decide, by decide⟩
  · exact itoa_inky (by omega)
  · refine ⟨by simp, fun b hb => ?_⟩
    simp only [List.mem_cons, List.not_mem_nil, or_false] at hb
    rcases hb with rfl | rfl | rfl | rfl | rfl <;> exact ⟨by decide, by decide⟩
  · exact itoa_inky (h5 n hn).1

/-- WHAT IS WRITTEN IS READ AS THE SAME. -/
theorem read_write {who plies : Int} {sc : List Int} (h : mayB who plies sc = true) (hw : 0 ≤ who) : read (write who plies sc) = some (who, plies, sc) := by
  obtain ⟨h1, h2, h3, h4, h5⟩ := may_facts h
  have e : fieldsU (write who plies sc) = words who plies sc := fields_words _ _ (words_inky h hw)
  have en : nums ((words who plies sc).getD 1 [] :: (words who plies sc).getD 3 [] :: (words who plies sc).drop 5) = some (who :: plies :: sc) := by
    have := nums_itoa (who :: plies :: sc) (by
      intro n hn
      simp only [List.mem_cons] at hn
      rcases hn with rfl | rfl | hn
      · omega
      · omega
      · exact h5 n hn)
    simpa [words] using this
  unfold read
  rw [e, if_neg (by simp [words]), en]
  simp only
  rw [if_neg (by omega), if_pos ⟨h, trivial⟩]

/-- WHAT IS READ MAY BE, AND IS WRITTEN SO. -/
theorem read_some {s : List UInt8} {who plies : Int} {sc : List Int} (h : read s = some (who, plies, sc)) : mayB who plies sc = true ∧ write who plies sc = s := by
  unfold read at h
  split at h
  · cases h
  · split at h
    · split at h
      · cases h
      · split at h
        · rename_i hm
          injection h with h
          simp only [Prod.mk.injEq] at h
          obtain ⟨rfl, rfl, rfl⟩ := h
          exact hm
        · cases h
    · cases h

/-! ### the text, as the statement puts it together -/
def tailText (sc : List Int) : List UInt8 := (sc.map fun n => [32] ++ itoa n).flatten
def headText (who plies : Int) : List UInt8 := [119, 105, 110, 32] ++ itoa who ++ [32, 105, 110, 32] ++ itoa plies ++ [32, 97, 102, 116, 101, 114]
theorem write_eq (who plies : Int) (sc : List Int) : write who plies sc = headText who plies ++ tailText sc ++ [10] := by
  unfold write words
  rw [join_cons]
  simp [joinTail, headText, tailText, List.map_map, Function.comp_def]
end Go.Proofs.YtgalbiokebghkaaDoor.Puz
