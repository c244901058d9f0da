/-
  The statement PuzzleTells over numbers and lists alone: it is true of every puzzle and every text. Conditions: each number is of its kind; lengths fit the machine.
-/
import Derived.Test.YtgalbiokebghkaaDoorP10
import Derived.Test.YtgalbiokebghkaaDoorLivesP
namespace Go.Proofs.YtgalbiokebghkaaDoor.PureP
set_option linter.unusedVariables false
set_option linter.unusedSimpArgs false
open Go.RowKit Go.Proofs.YtgalbiokebghkaaDoorW.PrintWords Go.Proofs.YtgalbiokebghkaaDoor.P Go.Proofs.YtgalbiokebghkaaDoor.HandP Go.Lib

theorem nums_in : ∀ (ws : List (List UInt8)) (l : List Int), Puz.nums ws = some l → ∀ n ∈ l, 0 ≤ n ∧ n ≤ 99999
  | [], l, h => by
    simp only [Puz.nums] at h
    injection h with h
    subst h
    simp
  | w :: r, l, h => by
    simp only [Puz.nums] at h
    split at h
    · split at h
      · cases h
      · rename_i hi
        cases hr : Puz.nums r with
        | none => rw [hr] at h; cases h
        | some m =>
          rw [hr] at h
          simp only [Option.map_some] at h
          injection h with h
          subst h
          intro n hn
          simp only [List.mem_cons] at hn
          rcases hn with rfl | hn
          · omega
          · exact nums_in r m hr n hn
    · cases h
theorem read_nonneg {s : List UInt8} {a b : Int} {r : List Int} (h : Puz.read s = some (a, b, r)) : 0 ≤ a := by
  unfold Puz.read at h
  split at h
  · cases h
  · split at h
    · rename_i a' b' r' hn
      have := nums_in _ _ hn
      split at h
      · cases h
      · split at h
        · injection h with h
          simp only [Prod.mk.injEq] at h
          obtain ⟨rfl, rfl, rfl⟩ := h
          exact (this _ (by simp)).1
        · cases h
    · cases h
theorem same (a b : Int) (l : List Int) (hl : l.length < 9223372036854775807) (k : Nat) (hk : l.length < k) : joustlaw36_same.f k a b l a b l = some true := by
  unfold joustlaw36_same.f
  rw [if_pos rfl, if_pos rfl, ints l l hl hl k hk]
  simp
theorem write_len (who plies : Int) (l : List Int) (h : Puz.mayB who plies l = true) (h0 : 0 ≤ who) : (Puz.write who plies l).length ≤ 100001 := by
  obtain ⟨g1, g2, g3, g4, g5⟩ := Puz.may_facts h
  have l1 := itoa_len who h0 (by omega)
  have l2 := itoa_len plies (by omega) (by omega)
  have := (join_BA (Puz.words who plies l) (by simp [Puz.words]; omega) (by
    intro y hy
    simp only [Puz.words, List.mem_cons, List.mem_map] at hy
    rcases hy with rfl | rfl | rfl | rfl | rfl | ⟨n, hn, rfl⟩
    · simp
    · omega
    · simp
    · omega
    · simp
    · have := itoa_len n (g5 n hn).1 (g5 n hn).2; omega)).2
  unfold Puz.write
  rw [List.length_append]
  simp
  omega
theorem tail2 (s : ByteArray) (hs : s.size ≤ 9000) (k : Nat) (hk : 20000 ≤ k) : joustlaw36_PuzzleTells.j2 (k + 1) s = some true := by
  have hl := lives_true k (by omega)
  simp only [joustlaw36_PuzzleTells.j2]
  rw [read s (by omega) k (by omega)]
  simp only [Option.bind_some]
  unfold readR
  cases hr : Puz.read s.data.toList with
  | none =>
    simp only
    rw [if_neg (by omega), if_pos trivial, same 0 0 [] (by simp) k (by simp; omega)]
    simp only [Option.bind_some, if_true]
    rw [hl]; rfl
  | some p =>
    obtain ⟨a, b, r⟩ := p
    obtain ⟨hm, hw⟩ := Puz.read_some hr
    have h0 := read_nonneg hr
    obtain ⟨g1, g2, g3, g4, g5⟩ := Puz.may_facts hm
    simp only [if_true]
    rw [fine a b r (by omega) k (by omega), hm]
    simp only [Option.bind_some, if_true]
    rw [text a b r hm h0 k (by omega)]
    simp only [Option.bind_some]
    rw [BA_list, ByteArray.toList_eq, if_pos hw, hl]
    rfl
theorem law (who plies : Int) (l : List Int) (s : ByteArray) (h0 : 0 ≤ who) (h1 : who ≤ 255) : ∃ k, joustlaw36_PuzzleTells.f k who plies l s = some true := by
  refine ⟨200000 + 1 + 1 + 1, ?_⟩
  have hl := lives_true (200000 + 1 + 1) (by omega)
  unfold joustlaw36_PuzzleTells.f
  by_cases c1 : (l.length : Int) > 2000
  · rw [if_pos c1]
    simp only [joustlaw36_PuzzleTells.j0, if_true]
    rw [hl]; rfl
  · rw [if_neg c1]
    by_cases c2 : (s.size : Int) > 9000
    · rw [decide_eq_true c2]
      simp only [joustlaw36_PuzzleTells.j0, if_true]
      rw [hl]; rfl
    · rw [decide_eq_false c2]
      simp only [joustlaw36_PuzzleTells.j0]
      rw [if_neg (by simp), write who plies l h0 h1 (200000 + 1 + 1) (by omega)]
      simp only [Option.bind_some]
      unfold puzzle_May.f
      simp only [Option.bind_some]
      rw [fine who plies l (by omega) (200000 + 1 + 1) (by omega)]
      simp only [Option.bind_some]
      rw [if_neg (by simp)]
      have ht := tail2 s (by omega) 200000 (by omega)
      cases hm : Puz.mayB who plies l with
      | true =>
        simp only [if_true]
        rw [if_neg (by simp)]
        simp only [joustlaw36_PuzzleTells.j1]
        rw [if_neg (by simp)]
        simp only [if_true]
        have hwl := write_len who plies l hm h0
        have hz : (BA (Puz.write who plies l)).size = (Puz.write who plies l).length := BA_size _
        rw [read (BA (Puz.write who plies l)) (by omega) (200000 + 1) (by omega), text who plies l hm h0 (200000 + 1) (by omega)]
        simp only [Option.bind_some]
        rw [show (BA (Puz.write who plies l)).data.toList = Puz.write who plies l from by simp [BA], readR_some hm h0 rfl]
        simp only [if_true]
        rw [same who plies l (by omega) (200000 + 1) (by omega)]
        simp only [Option.bind_some, if_true]
        exact ht
      | false =>
        simp only [Bool.false_eq_true, if_false]
        rw [if_neg (by decide), if_neg (by decide), if_pos trivial]
        have e0 : ((⟨#[]⟩ : ByteArray).toList != ([] : List UInt8)) = false := by
          rw [ByteArray.toList_eq]; rfl
        rw [e0]
        simp only [joustlaw36_PuzzleTells.j1]
        rw [if_neg (by decide), if_neg (by decide)]
        exact ht
end Go.Proofs.YtgalbiokebghkaaDoor.PureP
