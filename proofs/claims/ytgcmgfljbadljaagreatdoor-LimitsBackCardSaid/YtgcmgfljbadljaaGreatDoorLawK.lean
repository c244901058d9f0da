/-
  LimitsBack over numbers and lists alone: it is true of every format and text.
-/
import Derived.Test.YtgcmgfljbadljaaGreatDoorBackK
import Derived.Test.YtgcmgfljbadljaaGreatDoorLivesL
import Derived.Test.YtgcmgfljbadljaaGreatDoorL26
namespace Go.Proofs.YtgcmgfljbadljaaGreatDoor.PureK
set_option linter.unusedVariables false
set_option linter.unusedSimpArgs false
open Go.RowKit Go.Lib Go.Shelf Go.Proofs.YtgcmgfljbadljaaGreatDoorW.PrintWords Go.Proofs.YtgcmgfljbadljaaGreatDoorW.PrintLast Go.Proofs.YtgcmgfljbadljaaGreatDoorW.PrintMore Go.Proofs.YtgcmgfljbadljaaGreatDoor.L Go.Proofs.YtgcmgfljbadljaaGreatDoor.HandS Go.Proofs.YtgcmgfljbadljaaGreatDoor.HandF Go.Proofs.YtgcmgfljbadljaaGreatDoor.HandM Go.Proofs.YtgcmgfljbadljaaGreatDoor.HandW Go.Proofs.YtgcmgfljbadljaaGreatDoor.HandR Go.Proofs.YtgcmgfljbadljaaGreatDoor.Iter Go.Proofs.YtgcmgfljbadljaaGreatDoor.PureS Go.Proofs.YtgcmgfljbadljaaGreatDoor.PureL

theorem same_loop (n : ByteArray) (b u : Int) (l : List S42) (hl : l.length ≤ 1000000) (m : Nat) : ∀ k i : Nat, i + m = l.length → m < k → joustref30_Same.l0 k (i : Int) n b u l n b u l = some true := by
  induction m with
  | zero =>
    intro k i h1 h2
    obtain ⟨k, rfl⟩ : ∃ q, k = q + 1 := ⟨k - 1, by omega⟩
    rw [joustref30_Same.l0, if_neg (by omega)]
  | succ m ih =>
    intro k i h1 h2
    obtain ⟨k, rfl⟩ : ∃ q, k = q + 1 := ⟨k - 1, by omega⟩
    have e1 : wrap64 ((i : Int) + 1) = ((i + 1 : Nat) : Int) := by rw [wrap_in (by omega) (by omega)]; omega
    rw [joustref30_Same.l0, if_pos (by omega), if_pos (by omega), if_pos (by omega), beq_self_eq_true, beq_self_eq_true, beq_self_eq_true, if_neg (by decide), e1]
    exact ih k (i + 1) (by omega) (by omega)
theorem same_f (n : ByteArray) (b u : Int) (l : List S42) (hl : l.length ≤ 1000000) (k : Nat) (hk : l.length + 1 < k) : joustref30_Same.f k n b u l n b u l = some true := by
  obtain ⟨k, rfl⟩ : ∃ q, k = q + 1 := ⟨k - 1, by omega⟩
  unfold joustref30_Same.f
  rw [if_pos rfl, if_pos rfl, if_pos rfl, show ((l.length : Int) != (l.length : Int)) = false from by simp, joustref30_Same.j0, if_neg Bool.false_ne_true]
  exact same_loop n b u l hl l.length k 0 (by omega) (by omega)
theorem may_fits {n : ByteArray} {b u : Int} {l : List S42} (h : MayP n b u l) : Fits 200 n l := by
  have h1 := word_size n h.word
  refine ⟨⟨by omega, by omega⟩, fun x hx => ?_⟩
  have h2 := word_size x.f0 (limit_of h x hx).1
  exact ⟨by omega, by omega⟩
theorem write_yes {B : Nat} {n : ByteArray} {b u : Int} {l : List S42} (hB : Fits B n l) (h : MayP n b u l) (k : Nat) (hk : B + 1000 < k) : limits_Write.f k n b u l = some (⟨(writeL n b u l).toArray⟩, 0) := by
  have hlen := h.len
  unfold limits_Write.f
  rw [may_f (by omega) hB k (by omega), Option.bind_some, mayB_iff.2 h, if_pos rfl, wrote_fits (write_fits h)]
theorem write_no {B : Nat} {n : ByteArray} {b u : Int} {l : List S42} (hl : l.length ≤ 100) (hB : Fits B n l) (h : mayB n b u l = false) (k : Nat) (hk : B + 1000 < k) : limits_Write.f k n b u l = some (⟨#[]⟩, 2) := by
  unfold limits_Write.f
  rw [may_f (by omega) hB k (by omega), Option.bind_some, h, if_neg Bool.false_ne_true]
theorem back_text (text : ByteArray) (ht : text.size ≤ 5000) (k : Nat) (hk : 2000000 < k) : joustlaw30_LimitsBack.j1 k text = some true := by
  obtain ⟨k, rfl⟩ : ∃ q, k = q + 1 := ⟨k - 1, by omega⟩
  obtain ⟨n, b, u, l, e, li, ko, hr, h0, h1⟩ := read_any text k (by omega)
  rw [joustlaw30_LimitsBack.j1, hr, Option.bind_some]
  show (if e = 0 then _ else _) = some true
  by_cases he : e = 0
  · obtain ⟨-, -, hP⟩ := h0 he
    have hlen := hP.len
    have hB := may_fits hP
    rw [if_pos he]
    show (limits_Write.f k n b u l).bind _ = _
    rw [write_yes hB hP k (by omega), Option.bind_some]
    show (limits_Read.f k ⟨(writeL n b u l).toArray⟩).bind _ = _
    rw [read_write hP k (by omega), Option.bind_some]
    show (limits_May.f k n b u l).bind _ = _
    rw [may_f (by omega) hB k (by omega), Option.bind_some, mayB_iff.2 hP, if_pos rfl]
    rw [if_pos (show ((⟨(writeL n b u l).toArray⟩ : ByteArray), (0 : Int)).2 = 0 from rfl)]
    show (if ((0 : Int) == 0 && (((0 : Int) == 0) && ((0 : Int) == 0))) = true then (joustref30_Same.f k n b u l n b u l).bind _ else _) = _
    rw [if_pos (by decide), same_f n b u l (by omega) k (by omega), Option.bind_some, if_pos rfl, lives_true k (by omega), Option.bind_some]
  · obtain ⟨rfl, rfl, rfl, rfl, q1, q2⟩ := h1 he
    rw [if_neg he]
    show (joustref30_Same.f k ⟨#[]⟩ 0 0 [] ⟨#[]⟩ 0 0 []).bind _ = _
    rw [same_f _ _ _ _ (by decide) k (by rw [List.length_nil]; omega), Option.bind_some, if_pos rfl]
    show (if li ≥ 1 then (if ko ≥ 1 then _ else _) else _) = _
    rw [if_pos q1, if_pos q2, lives_true k (by omega), Option.bind_some]
theorem back_lives {n : ByteArray} {b u : Int} {l : List S42} {t : ByteArray} (k : Nat) (hk : 300 ≤ k) : joustlaw30_LimitsBack.j0 (k + 1) t true n b u l = some true := by
  rw [joustlaw30_LimitsBack.j0, if_pos rfl, lives_true k hk, Option.bind_some]
theorem great_is (n : ByteArray) (b u : Int) (l : List S42) (K : List S47) (deck : List Int) : ∃ g, joustlaw30_great.f n b u l K deck = some g ∧ (g = false → l.length ≤ 100) := by
  unfold joustlaw30_great.f
  by_cases h1 : (l.length : Int) > 100
  · exact ⟨true, by rw [if_pos h1], fun h => by cases h⟩
  · rw [if_neg h1]
    by_cases h2 : (K.length : Int) > 100
    · exact ⟨true, by rw [if_pos h2], fun h => by cases h⟩
    · exact ⟨_, by rw [if_neg h2], fun h => by omega⟩
theorem lawBack {B : Nat} (n : ByteArray) (b u : Int) (l : List S42) (text : ByteArray) (hB : Fits B n l) : ∃ k, joustlaw30_LimitsBack.f k n b u l text = some true := by
  refine ⟨(B + 3000000) + 1, ?_⟩
  unfold joustlaw30_LimitsBack.f
  obtain ⟨g, hg, hg2⟩ := great_is n b u l [] []
  rw [hg, Option.bind_some]
  cases g with
  | true => rw [if_pos rfl, back_lives _ (by omega)]
  | false =>
  have hl := hg2 rfl
  rw [if_neg Bool.false_ne_true]
  by_cases ht : (text.size : Int) > 5000
  · rw [decide_eq_true ht]
    exact back_lives _ (by omega)
  · rw [decide_eq_false ht, joustlaw30_LimitsBack.j0, if_neg Bool.false_ne_true]
    have hj := back_text text (by omega) (B + 3000000) (by omega)
    cases hm : mayB n b u l with
    | true =>
      have hP := mayB_iff.1 hm
      rw [write_yes hB hP _ (by omega), Option.bind_some, may_f (by omega) hB _ (by omega), Option.bind_some, hm]
      show (if (((0 : Int) == 0) != true) = true then _ else (if (0 : Int) = 0 then (limits_Read.f (B + 3000000) ⟨(writeL n b u l).toArray⟩).bind _ else _)) = _
      rw [if_neg (by decide), if_pos rfl, read_write hP _ (by omega), Option.bind_some]
      show (if (!((0 : Int) == 0) || ((!((0 : Int) == 0)) || (!((0 : Int) == 0)))) = true then _ else (joustref30_Same.f (B + 3000000) n b u l n b u l).bind _) = _
      rw [if_neg (by decide), same_f n b u l (by omega) _ (by omega), Option.bind_some, if_pos rfl]
      exact hj
    | false =>
      rw [write_no hl hB hm _ (by omega), Option.bind_some, may_f (by omega) hB _ (by omega), Option.bind_some, hm]
      show (if (((2 : Int) == 0) != false) = true then _ else (if (2 : Int) = 0 then _ else _)) = _
      rw [if_neg (by decide), if_neg (by decide)]
      exact hj
end Go.Proofs.YtgcmgfljbadljaaGreatDoor.PureK
