/-
  The statement PuzzleTells over numbers and lists alone: the printed functions come to the plain law of puzzle texts (no memory, no program).
-/
import Derived.Test.YtgalbiokebghkaaDoorP2
import Derived.Test.YtgalbiokebghkaaDoorP4
import Derived.Test.YtgalbiokebghkaaDoorP5
import Derived.Test.YtgalbiokebghkaaDoorP7
import Derived.Test.YtgalbiokebghkaaDoorP8
import Derived.Test.YtgalbiokebghkaaDoorP9
namespace Go.Proofs.YtgalbiokebghkaaDoor.PureP
set_option linter.unusedVariables false
set_option linter.unusedSimpArgs false
open Go.RowKit Go.Proofs.YtgalbiokebghkaaDoorW.PrintWords Go.Proofs.YtgalbiokebghkaaDoorW.PrintLast Go.Proofs.YtgalbiokebghkaaDoor.P Go.Proofs.YtgalbiokebghkaaDoor.HandP Go.Lib

theorem wrap_in {x : Int} (h0 : -9223372036854775808 ≤ x) (h1 : x < 9223372036854775808) : wrap64 x = x := by unfold wrap64; omega
/-- Bytes as a text. -/
def BA (l : List UInt8) : ByteArray := ⟨l.toArray⟩
theorem BA_app (a b : List UInt8) : BA a ++ BA b = BA (a ++ b) := by
  apply ByteArray.ext
  rw [ByteArray.data_append]
  simp [BA]
theorem BA_size (l : List UInt8) : (BA l).size = l.length := by simp [BA, ByteArray.size]
theorem BA_list (l : List UInt8) : (BA l).toList = l := by rw [ByteArray.toList_eq]; simp [BA]
theorem BA_of (s : ByteArray) : BA s.data.toList = s := by apply ByteArray.ext; simp [BA]

/-! ### equal lists of numbers -/
theorem rd_at (a : List Int) (i : Nat) (h : i < a.length) : rd a (i : Int) = a[i] := by simp [rd, List.getD_eq_getElem?_getD, h]
theorem ints_loop (a b : List Int) (hl : a.length = b.length) (hm : a.length < 9223372036854775807) : ∀ (d k i : Nat) (same : Bool), a.length - i = d → i ≤ a.length → d < k → (same = true ↔ ∀ j, j + 1 = i → a[j]? = b[j]?) → (1 ≤ i → ∀ j, j + 1 < i → a[j]? = b[j]?) →
    joustref00_Ints.l0 k a b same i = some (decide (a = b))
  | d, 0, i, same, hd, hi, hk, _, _ => by omega
  | 0, k + 1, i, same, hd, hi, hk, hs, hp => by
    simp only [joustref00_Ints.l0]
    cases same with
    | true =>
      rw [if_pos rfl, if_neg (by omega)]
      congr 1
      symm
      rw [decide_eq_true_eq]
      apply List.ext_getElem? 
      intro j
      by_cases hj : j < a.length
      · by_cases hj2 : j + 1 = i
        · exact (hs.1 rfl) j hj2
        · exact hp (by omega) j (by omega)
      · rw [List.getElem?_eq_none (by omega), List.getElem?_eq_none (by omega)]
    | false =>
      rw [if_neg (by simp)]
      congr 1
      symm
      rw [decide_eq_false_iff_not]
      rintro rfl
      exact absurd (hs.2 (fun _ _ => rfl)) (by simp)
  | d + 1, k + 1, i, same, hd, hi, hk, hs, hp => by
    simp only [joustref00_Ints.l0]
    cases same with
    | true =>
      rw [if_pos rfl, if_pos (by omega), if_pos (by omega), if_pos (by omega), rd_at a i (by omega), rd_at b i (by omega), wrap_in (by omega) (by omega)]
      have := ints_loop a b hl hm d k (i + 1) (a[i] == b[i]) (by omega) (by omega) (by omega) (by
        constructor
        · intro h j hj
          obtain rfl : j = i := by omega
          rw [List.getElem?_eq_getElem (by omega), List.getElem?_eq_getElem (by omega)]
          rw [beq_iff_eq] at h; rw [h]
        · intro h
          have := h i rfl
          rw [List.getElem?_eq_getElem (by omega), List.getElem?_eq_getElem (by omega)] at this
          injection this with this
          rw [beq_iff_eq]; exact this) (by
        intro _ j hj
        by_cases hj2 : j + 1 = i
        · exact (hs.1 rfl) j hj2
        · exact hp (by omega) j (by omega))
      simpa using this
    | false =>
      rw [if_neg (by simp)]
      congr 1
      symm
      rw [decide_eq_false_iff_not]
      rintro rfl
      exact absurd (hs.2 (fun _ _ => rfl)) (by simp)
theorem ints (a b : List Int) (hm : a.length < 9223372036854775807) (hn : b.length < 9223372036854775807) (k : Nat) (hk : a.length < k) : joustref00_Ints.f k a b = some (decide (a = b)) := by
  unfold joustref00_Ints.f
  by_cases hl : a.length = b.length
  · have := ints_loop a b hl hm a.length k 0 true (by omega) (by omega) hk (by simp) (by omega)
    rw [show ((a.length : Int) == (b.length : Int)) = true by rw [beq_iff_eq]; omega]
    simpa using this
  · rw [show ((a.length : Int) == (b.length : Int)) = false by rw [beq_eq_false_iff_ne]; omega]
    obtain ⟨k, rfl⟩ : ∃ m, k = m + 1 := ⟨k - 1, by omega⟩
    simp only [joustref00_Ints.l0]
    rw [if_neg (by simp)]
    congr 1
    symm
    rw [decide_eq_false_iff_not]
    rintro rfl
    exact hl rfl

/-! ### may it be -/
theorem fine_loop (l : List Int) (hm : l.length < 9223372036854775807) : ∀ (d k i : Nat), l.length - i = d → i ≤ l.length → d < k → joustlaw36_fine.l0 k l l.length i = some (!((l.drop i).any fun n => decide (n < 0) || decide (99999 < n)))
  | d, 0, i, hd, hi, hk => by omega
  | 0, k + 1, i, hd, hi, hk => by
    simp only [joustlaw36_fine.l0]
    rw [if_neg (by omega), List.drop_eq_nil_of_le (by omega)]
    rfl
  | d + 1, k + 1, i, hd, hi, hk => by
    simp only [joustlaw36_fine.l0]
    rw [if_pos (by omega), if_pos (by omega), if_pos (by omega), rd_at l i (by omega), List.drop_eq_getElem_cons (by omega), List.any_cons]
    by_cases h1 : l[i] < 0
    · rw [if_pos h1]; simp [h1]
    · rw [if_neg h1]
      by_cases h2 : l[i] > 99999
      · rw [if_pos h2]; simp [show 99999 < l[i] from h2]
      · rw [if_neg h2, wrap_in (by omega) (by omega)]
        have := fine_loop l hm d k (i + 1) (by omega) (by omega) (by omega)
        rw [show decide (l[i] < 0) = false by simpa using h1, show decide (99999 < l[i]) = false by simpa using h2]
        simpa using this
theorem fine (who plies : Int) (l : List Int) (hm : l.length < 9223372036854775807) (k : Nat) (hk : l.length + 1 < k) : joustlaw36_fine.f k who plies l = some (Puz.mayB who plies l) := by
  obtain ⟨k, rfl⟩ : ∃ m, k = m + 1 := ⟨k - 1, by omega⟩
  unfold joustlaw36_fine.f Puz.mayB
  by_cases h1 : who > 1
  · rw [if_pos h1]; simp [joustlaw36_fine.j0, show ¬ who ≤ 1 by omega]
  · rw [if_neg h1]
    by_cases h2 : plies < 1
    · rw [if_pos h2]; simp [joustlaw36_fine.j0, show ¬ 1 ≤ plies by omega]
    · rw [if_neg h2]
      by_cases h3 : plies > 12
      · rw [if_pos h3]; simp [joustlaw36_fine.j0, show ¬ plies ≤ 12 by omega]
      · rw [if_neg h3]
        simp only [joustlaw36_fine.j0]
        by_cases h4 : (l.length : Int) > 1000
        · rw [if_pos (by simpa using h4)]; simp [show ¬ l.length ≤ 1000 by omega]
        · rw [if_neg (by simpa using h4)]
          have := fine_loop l hm l.length k 0 (by omega) (by omega) (by omega)
          simp only [Int.natCast_zero, List.drop_zero] at this
          rw [this]
          simp [show who ≤ 1 by omega, show 1 ≤ plies by omega, show plies ≤ 12 by omega, show l.length ≤ 1000 by omega]

/-! ### numerals -/
theorem digs_piece : ∀ d : Fin 10, (⟨#[48, 49, 50, 51, 52, 53, 54, 55, 56, 57]⟩ : ByteArray).extract d.val (d.val + 1) = BA [UInt8.ofNat (48 + d.val)] := by decide +kernel
theorem nd_le (k u : Nat) (h : u < 10 ^ (k + 1)) : (decDigits u).length ≤ k + 1 := by
  induction k generalizing u with
  | zero => rw [decDigits, dif_pos (by simpa using h)]; simp
  | succ k ih =>
    rw [decDigits]
    split
    · simp
    · have := ih (u / 10) (by rw [Nat.pow_succ] at h; omega)
      simp; omega
theorem digits : ∀ (k u : Nat), u < 10 ^ (k + 1) → u < 9223372036854775808 → joustref21_Digits.f (k + 1) (u : Int) = some (BA (decDigits u))
  | k, u, hu, hb => by
    have hm : Int.tmod (u : Int) 10 = ((u % 10 : Nat) : Int) := by rw [Int.tmod_eq_emod_of_nonneg (by omega)]; omega
    have hd : Int.tdiv (u : Int) 10 = ((u / 10 : Nat) : Int) := by rw [Int.tdiv_eq_ediv_of_nonneg (by omega)]; omega
    have hp := digs_piece ⟨u % 10, by omega⟩
    simp only at hp
    simp only [joustref21_Digits.f]
    rw [if_neg (by omega), hm, hd, if_pos (by omega), wrap_in (by omega) (by omega), if_pos (by omega), if_pos (by omega)]
    have e1 : ((u % 10 : Nat) : Int).toNat = u % 10 := by omega
    have e2 : (((u % 10 : Nat) : Int) + 1).toNat = u % 10 + 1 := by omega
    rw [e1, e2, hp]
    by_cases h : u < 10
    · rw [if_pos (by omega), decDigits, dif_pos h, Nat.mod_eq_of_lt h]
    · rw [if_neg (by omega), wrap_in (by omega) (by omega)]
      obtain ⟨k, rfl⟩ : ∃ m, k = m + 1 := ⟨k - 1, by cases k with
        | zero => simp at hu; omega
        | succ k => omega⟩
      rw [digits k (u / 10) (by rw [Nat.pow_succ] at hu; omega) (by omega)]
      simp only [Option.bind_some]
      have hn := nd_le 18 (u / 10) (by omega)
      rw [BA_size, BA_size, if_pos (by simp; omega), BA_app]
      congr 1
      rw [decDigits.eq_1 u, dif_neg h]
theorem digits_i (n : Int) (h0 : 0 ≤ n) (h1 : n ≤ 99999) (k : Nat) (hk : 5 ≤ k) : joustref21_Digits.f k n = some (BA (itoa n)) := by
  obtain ⟨u, rfl⟩ := Int.eq_ofNat_of_zero_le h0
  obtain ⟨m, rfl⟩ : ∃ m, k = m + 5 := ⟨k - 5, by omega⟩
  have := digits (m + 4) u (Nat.lt_of_lt_of_le (show u < 10 ^ 5 by omega) (Nat.pow_le_pow_right (by omega) (by omega))) (by omega)
  rw [Puz.itoa_nat]; exact this
theorem itoa_len (n : Int) (h0 : 0 ≤ n) (h1 : n ≤ 99999) : (itoa n).length ≤ 5 := by
  obtain ⟨u, rfl⟩ := Int.eq_ofNat_of_zero_le h0
  rw [Puz.itoa_nat]
  exact nd_le 4 u (by omega)

/-! ### the text of the statement -/
theorem text_loop (l : List Int) (hl : ∀ n ∈ l, 0 ≤ n ∧ n ≤ 99999) (hm : l.length ≤ 1000) : ∀ (d k i : Nat) (acc : List UInt8), l.length - i = d → i ≤ l.length → d + 6 ≤ k → acc.length + 6 * d ≤ 1000000 →
    joustlaw36_text.l0 k (BA acc) l l.length i = some (BA (acc ++ Puz.tailText (l.drop i) ++ [10]))
  | d, 0, i, acc, hd, hi, hk, ha => by omega
  | 0, k + 1, i, acc, hd, hi, hk, ha => by
    simp only [joustlaw36_text.l0]
    rw [if_neg (by omega), List.drop_eq_nil_of_le (by omega), BA_size, if_pos (by omega), show (⟨#[10]⟩ : ByteArray) = BA [10] from rfl, BA_app]
    simp [Puz.tailText]
  | d + 1, k + 1, i, acc, hd, hi, hk, ha => by
    have hn := hl l[i] (List.getElem_mem (by omega))
    have hlen := itoa_len l[i] hn.1 hn.2
    simp only [joustlaw36_text.l0]
    rw [if_pos (by omega), if_pos (by omega), if_pos (by omega), BA_size, if_pos (by omega), rd_at l i (by omega), digits_i l[i] hn.1 hn.2 k (by omega)]
    simp only [Option.bind_some]
    rw [show (⟨#[32]⟩ : ByteArray) = BA [32] from rfl, BA_app, BA_size, BA_size, if_pos (by simp; omega), BA_app, wrap_in (by omega) (by omega)]
    have := text_loop l hl hm d k (i + 1) (acc ++ [32] ++ itoa l[i]) (by omega) (by omega) (by omega) (by simp; omega)
    rw [List.drop_eq_getElem_cons (show i < l.length by omega)]
    have e : ∀ (a : Int) (r : List Int), acc ++ Puz.tailText (a :: r) ++ [10] = acc ++ [32] ++ itoa a ++ Puz.tailText r ++ [10] := by
      intro a r
      simp [Puz.tailText]
    rw [e]
    exact this
theorem text (who plies : Int) (l : List Int) (h : Puz.mayB who plies l = true) (hw : 0 ≤ who) (k : Nat) (hk : 1010 ≤ k) : joustlaw36_text.f k who plies l = some (BA (Puz.write who plies l)) := by
  obtain ⟨h1, h2, h3, h4, h5⟩ := Puz.may_facts h
  have l1 := itoa_len who hw (by omega)
  have l2 := itoa_len plies (by omega) (by omega)
  unfold joustlaw36_text.f
  rw [wrap_in (by omega) (by omega), digits_i who hw (by omega) k (by omega)]
  simp only [Option.bind_some]
  rw [BA_size, if_pos (by omega), show (⟨#[119, 105, 110, 32]⟩ : ByteArray) = BA [119, 105, 110, 32] from rfl, BA_app, BA_size, if_pos (by simp; omega), digits_i plies (by omega) (by omega) k (by omega)]
  simp only [Option.bind_some]
  rw [show (⟨#[32, 105, 110, 32]⟩ : ByteArray) = BA [32, 105, 110, 32] from rfl, BA_app, BA_size, BA_size, if_pos (by simp; omega), BA_app, BA_size, if_pos (by simp; omega), show (⟨#[32, 97, 102, 116, 101, 114]⟩ : ByteArray) = BA [32, 97, 102, 116, 101, 114] from rfl, BA_app]
  have := text_loop l h5 h4 l.length k 0 (Puz.headText who plies) (by omega) (by omega) (by omega) (by simp [Puz.headText]; omega)
  rw [Puz.write_eq]
  simp only [Int.natCast_zero, List.drop_zero] at this
  rw [← this]
  simp [Puz.headText]

/-! ### writing -/
theorem tail_len : ∀ r : List (List UInt8), (∀ y ∈ r, y.length ≤ 20) → (joinTail [32] r).length ≤ 21 * r.length
  | [], _ => by simp [joinTail]
  | y :: r, h => by
    have h1 := h y (by simp)
    have h2 := tail_len r (fun z hz => h z (by simp [hz]))
    have e : joinTail [32] (y :: r) = 32 :: (y ++ joinTail [32] r) := by simp [joinTail]
    rw [e]; simp; omega
theorem join_BA (ws : List (List UInt8)) (hn : ws.length ≤ 1010) (hl : ∀ y ∈ ws, y.length ≤ 20) : strings_Join.f (ws.map BA) (⟨#[32]⟩ : ByteArray) = some (BA (join ws [32])) ∧ (join ws [32]).length ≤ 100000 := by
  have e : (ws.map BA).map (·.data.toList) = ws := by rw [List.map_map]; conv => rhs; rw [← List.map_id ws]
                                                      apply List.map_congr_left; intro x _; simp [BA]
  have hb : (join ws [32]).length ≤ 100000 := by
    cases ws with
    | nil => simp [join, List.intercalate]
    | cons x r =>
      have h1 := hl x (by simp)
      have h2 := tail_len r (fun z hz => hl z (by simp [hz]))
      rw [join_cons]
      simp at hn ⊢
      omega
  refine ⟨?_, hb⟩
  unfold strings_Join.f
  rw [e, show ((⟨#[32]⟩ : ByteArray).data.toList) = [32] from rfl, if_pos ⟨by simp; omega, by omega⟩]
  rfl
theorem write_loop (l : List Int) (hl : ∀ n ∈ l, 0 ≤ n ∧ n ≤ 99999) (hm : l.length ≤ 1000) : ∀ (d k i : Nat) (acc : List (List UInt8)), l.length - i = d → i ≤ l.length → d < k → acc.length + d ≤ 1005 → (∀ y ∈ acc, y.length ≤ 20) →
    puzzle_Write.l0 k (acc.map BA) l l.length i = some (BA (join (acc ++ (l.drop i).map itoa) [32] ++ [10]), 0)
  | d, 0, i, acc, hd, hi, hk, ha, hy => by omega
  | 0, k + 1, i, acc, hd, hi, hk, ha, hy => by
    obtain ⟨e1, e2⟩ := join_BA acc (by omega) hy
    simp only [puzzle_Write.l0]
    rw [if_neg (by omega), e1]
    simp only [Option.bind_some]
    rw [BA_size, if_pos (by omega), List.drop_eq_nil_of_le (by omega), show (⟨#[10]⟩ : ByteArray) = BA [10] from rfl, BA_app]
    simp
  | d + 1, k + 1, i, acc, hd, hi, hk, ha, hy => by
    have hn := hl l[i] (List.getElem_mem (by omega))
    have hlen := itoa_len l[i] hn.1 hn.2
    simp only [puzzle_Write.l0]
    rw [if_pos (by omega), if_pos (by omega), if_pos (by omega), rd_at l i (by omega)]
    unfold strconv_Itoa.f
    rw [if_pos ⟨by omega, by omega⟩]
    simp only [Option.bind_some]
    rw [if_pos (by simp; omega), wrap_in (by omega) (by omega)]
    have := write_loop l hl hm d k (i + 1) (acc ++ [itoa l[i]]) (by omega) (by omega) (by omega) (by simp; omega) (by
      intro y hy'
      simp only [List.mem_append, List.mem_singleton] at hy'
      rcases hy' with hy' | rfl
      · exact hy y hy'
      · omega)
    rw [List.map_append, show ((i + 1 : Nat) : Int) = (i : Int) + 1 from by omega] at this
    rw [List.drop_eq_getElem_cons (show i < l.length by omega), show acc ++ (l[i] :: l.drop (i + 1)).map itoa = (acc ++ [itoa l[i]]) ++ (l.drop (i + 1)).map itoa from by rw [List.map_cons, List.append_cons]]
    exact this
theorem write (who plies : Int) (l : List Int) (h0 : 0 ≤ who) (h1 : who ≤ 255) (k : Nat) (hk : 1010 ≤ k) :
    puzzle_Write.f k who plies l = some (if Puz.mayB who plies l = true then (BA (Puz.write who plies l), 0) else (⟨#[]⟩, 2)) := by
  unfold puzzle_Write.f puzzle_May.f
  simp only [Option.bind_some]
  by_cases hm : Puz.mayB who plies l = true
  · obtain ⟨g1, g2, g3, g4, g5⟩ := Puz.may_facts hm
    rw [if_pos hm, if_pos hm, wrap_in (by omega) (by omega)]
    unfold strconv_Itoa.f
    rw [if_pos ⟨by omega, by omega⟩, if_pos ⟨by omega, by omega⟩]
    simp only [Option.bind_some]
    have l1 := itoa_len who h0 (by omega)
    have l2 := itoa_len plies (by omega) (by omega)
    have := write_loop l g5 g4 l.length k 0 [[119, 105, 110], itoa who, [105, 110], itoa plies, [97, 102, 116, 101, 114]] (by omega) (by omega) (by omega) (by simp; omega) (by
      intro y hy
      simp only [List.mem_cons, List.not_mem_nil, or_false] at hy
      rcases hy with rfl | rfl | rfl | rfl | rfl <;> first | omega | simp)
    simp only [Int.natCast_zero, List.drop_zero] at this
    exact this
  · rw [if_neg hm, if_neg hm]

/-! ### reading -/
theorem fields_len : ∀ (f : Nat) (cur l : List UInt8), (fieldsGoU f cur l).length ≤ l.length + 1 ∧ ∀ x ∈ fieldsGoU f cur l, x.length ≤ cur.length + l.length
  | 0, cur, l => by
    simp only [fieldsGoU]
    split
    · simp
    · refine ⟨by simp, fun x hx => ?_⟩
      simp only [List.mem_singleton] at hx
      subst hx; omega
  | f + 1, cur, [] => by
    simp only [fieldsGoU]
    split
    · simp
    · refine ⟨by simp, fun x hx => ?_⟩
      simp only [List.mem_singleton] at hx
      subst hx; omega
  | f + 1, cur, b :: t => by
    simp only [fieldsGoU]
    split
    · have := fields_len f (cur ++ [b]) t
      simp only [List.length_append, List.length_cons, List.length_nil] at this ⊢
      exact ⟨by omega, fun x hx => by have := this.2 x hx; omega⟩
    · rename_i hh
      have h1 := fields_len f [] ((b :: t).drop (headSpace (b :: t)))
      have h2 : ((b :: t).drop (headSpace (b :: t))).length + 1 ≤ (b :: t).length := by rw [List.length_drop]; simp; omega
      refine ⟨?_, fun x hx => ?_⟩
      · rw [List.length_append]
        have h3 : (if cur = [] then [] else [cur]).length ≤ 1 := by split <;> simp
        omega
      · rw [List.mem_append] at hx
        rcases hx with hx | hx
        · split at hx
          · cases hx
          · simp only [List.mem_singleton] at hx
            subst hx; omega
        · have := h1.2 x hx
          simp only [List.length_nil] at this
          omega
theorem fieldsU_len (l : List UInt8) : (fieldsU l).length ≤ l.length + 1 ∧ ∀ x ∈ fieldsU l, x.length ≤ l.length := by
  have := fields_len (l.length + 1) [] l
  simpa [fieldsU] using this

/-- What the numbers of a text come to. -/
def fin (s : List UInt8) : Option (List Int) → Int × Int × List Int × Int
  | some (a :: b :: r) => if 1 < a then (0, 0, [], 5) else if Puz.mayB a b r = true ∧ Puz.write a b r = s then (a, b, r, 0) else (0, 0, [], 5)
  | _ => (0, 0, [], 5)
theorem rdOf_at (ws : List (List UInt8)) (i : Nat) (h : i < ws.length) : rdOf ByteArray.empty (ws.map BA) (i : Int) = BA ws[i] := by simp [rdOf, List.getD_eq_getElem?_getD, h]
theorem read_fin (s : ByteArray) (acc : List Int) (ha : ∀ n ∈ acc, 0 ≤ n ∧ n ≤ 99999) (h2 : 2 ≤ acc.length) (k : Nat) (hk : 1010 ≤ k) (l : List ByteArray) (n i : Int) (hi : ¬ i < n) :
    puzzle_Read.l0 (k + 1) s acc l n i = some (fin s.data.toList (some acc)) := by
  match acc, h2 with
  | a :: b :: r, _ =>
    have g0 := ha a (by simp)
    simp only [puzzle_Read.l0]
    rw [if_neg hi, if_pos (by simp; omega)]
    have r0 : rd (a :: b :: r) 0 = a := rfl
    have r1 : rd (a :: b :: r) 1 = b := rfl
    rw [r0, r1]
    simp only [fin]
    by_cases h1 : a > 1
    · rw [if_pos h1, if_pos h1]
    · rw [if_neg h1, if_neg h1, if_pos (by simp; omega), if_pos (by simp; omega)]
      have ea : a % 256 = a := by omega
      rw [ea, show (a :: b :: r).drop (2 : Int).toNat = r from rfl]
      simp only [Option.bind_some]
      rw [write a b r (by omega) (by omega) k hk]
      simp only [Option.bind_some]
      by_cases hm : Puz.mayB a b r = true
      · rw [if_pos hm]
        simp only [if_true]
        rw [BA_list, ByteArray.toList_eq]
        by_cases hw : Puz.write a b r = s.data.toList
        · rw [if_pos hw, if_pos ⟨hm, hw⟩]
        · rw [if_neg hw, if_neg (fun h => hw h.2)]
      · rw [if_neg hm, if_neg (by simp), if_neg (fun h => hm h.1)]
theorem read_loop (s : ByteArray) (ws : List (List UInt8)) (hw : ws.length ≤ 4294967300) (hx : ∀ x ∈ ws, x.length ≤ 4294967300) : ∀ (d k i : Nat) (acc : List Int), ws.length - i = d → i ≤ ws.length → d + 1010 < k → (∀ n ∈ acc, 0 ≤ n ∧ n ≤ 99999) → 2 ≤ acc.length + d → acc.length ≤ i →
    puzzle_Read.l0 k s acc (ws.map BA) ws.length i = some (fin s.data.toList ((Puz.nums (ws.drop i)).map (acc ++ ·)))
  | d, 0, i, acc, hd, hi, hk, ha, h2, hl => by omega
  | 0, k + 1, i, acc, hd, hi, hk, ha, h2, hl => by
    rw [read_fin s acc ha (by omega) k (by omega) _ _ _ (by omega), List.drop_eq_nil_of_le (by omega)]
    simp [Puz.nums]
  | d + 1, k + 1, i, acc, hd, hi, hk, ha, h2, hl => by
    have hxi := hx ws[i] (List.getElem_mem (by omega))
    simp only [puzzle_Read.l0]
    rw [if_pos (by omega), if_pos (by omega), if_pos (by simp; omega), rdOf_at ws i (by omega), List.drop_eq_getElem_cons (show i < ws.length by omega)]
    unfold strconv_Atoi.f
    rw [BA_size, if_pos (by omega), show (BA ws[i]).data.toList = ws[i] from by simp [BA]]
    simp only [Puz.nums]
    cases hA : atoiAll ws[i] with
    | ok v =>
      simp only [Option.bind_some, Option.isNone_none, if_true]
      by_cases h1 : v < 0
      · rw [if_pos h1, if_pos (.inl h1)]; rfl
      · rw [if_neg h1]
        by_cases h3 : v > 99999
        · rw [if_pos h3, if_pos (.inr h3)]; rfl
        · rw [if_neg h3, if_pos (by omega), wrap_in (by omega) (by omega), if_neg (show ¬ (v < 0 ∨ 99999 < v) by omega)]
          have := read_loop s ws hw hx d k (i + 1) (acc ++ [v]) (by omega) (by omega) (by omega) (by
            intro n hn
            simp only [List.mem_append, List.mem_singleton] at hn
            rcases hn with hn | rfl
            · exact ha n hn
            · omega) (by simp; omega) (by simp; omega)
          rw [show ((i + 1 : Nat) : Int) = (i : Int) + 1 from by omega] at this
          rw [this, Option.map_map]
          congr 2
          cases Puz.nums (ws.drop (i + 1)) <;> simp
    | _ => simp; rfl
/-- What a text is read as, as the program tells it. -/
def readR (s : List UInt8) : Int × Int × List Int × Int := match Puz.read s with
  | some (a, b, r) => (a, b, r, 0)
  | none => (0, 0, [], 5)
theorem read (s : ByteArray) (hs : s.size < 4294967281) (k : Nat) (hk : s.size + 1020 < k) : puzzle_Read.f k s = some (readR s.data.toList) := by
  have hl : s.data.toList.length = s.size := by rw [Array.length_toList]; rfl
  have hf := fieldsU_len s.data.toList
  unfold puzzle_Read.f strings_Fields.f
  rw [if_pos hs]
  simp only [Option.bind_some, List.length_map]
  by_cases h5 : (fieldsU s.data.toList).length < 5
  · rw [if_pos (by omega)]
    unfold readR Puz.read
    rw [if_pos h5]
  · rw [if_neg (by omega), if_pos (by omega), if_pos (by omega), if_pos (by omega)]
    have e1 := rdOf_at (fieldsU s.data.toList) 1 (by omega)
    have e3 := rdOf_at (fieldsU s.data.toList) 3 (by omega)
    have em : ((fieldsU s.data.toList).map fun x => (⟨x.toArray⟩ : ByteArray)) = (fieldsU s.data.toList).map BA := rfl
    rw [em, show (1 : Int) = ((1 : Nat) : Int) from rfl, show (3 : Int) = ((3 : Nat) : Int) from rfl, e1, e3]
    have eL : [BA (fieldsU s.data.toList)[1], BA (fieldsU s.data.toList)[3]] ++ ((fieldsU s.data.toList).map BA).drop 5 = ((fieldsU s.data.toList).getD 1 [] :: (fieldsU s.data.toList).getD 3 [] :: (fieldsU s.data.toList).drop 5).map BA := by
      simp [List.getD_eq_getElem?_getD, show 1 < (fieldsU s.data.toList).length by omega, show 3 < (fieldsU s.data.toList).length by omega]
    rw [if_pos (by simp; omega), eL]
    rw [List.length_map]
    have g1 : ∀ x ∈ ((fieldsU s.data.toList).getD 1 [] :: (fieldsU s.data.toList).getD 3 [] :: (fieldsU s.data.toList).drop 5), x.length ≤ 4294967300 := by
      intro x hx
      have : x ∈ fieldsU s.data.toList ∨ x = [] := by
        simp only [List.mem_cons] at hx
        rcases hx with rfl | rfl | hx
        · rw [List.getD_eq_getElem?_getD, List.getElem?_eq_getElem (by omega)]; exact .inl (List.getElem_mem _)
        · rw [List.getD_eq_getElem?_getD, List.getElem?_eq_getElem (by omega)]; exact .inl (List.getElem_mem _)
        · exact .inl (List.mem_of_mem_drop hx)
      rcases this with h | rfl
      · have := hf.2 x h; omega
      · simp
    have := read_loop s _ (by simp; omega) g1 _ k 0 [] rfl (by omega) (by simp; omega) (by simp) (by simp) (by simp)
    simp only [Int.natCast_zero, List.drop_zero] at this
    rw [show ([] : List Int) = ([] : List Int) from rfl, this]
    congr 1
    unfold readR Puz.read
    rw [if_neg h5]
    simp only [List.nil_append]
    cases Puz.nums ((fieldsU s.data.toList).getD 1 [] :: (fieldsU s.data.toList).getD 3 [] :: (fieldsU s.data.toList).drop 5) with
    | none => rfl
    | some l =>
      match l with
      | [] => rfl
      | [_] => rfl
      | a :: b :: r =>
        simp only [Option.map_some, fin]
        by_cases h1 : 1 < a
        · rw [if_pos h1, if_pos h1]
        · rw [if_neg h1, if_neg h1]
          by_cases h2 : Puz.mayB a b r = true ∧ Puz.write a b r = s.data.toList
          · rw [if_pos h2, if_pos h2]
          · rw [if_neg h2, if_neg h2]
end Go.Proofs.YtgalbiokebghkaaDoor.PureP
