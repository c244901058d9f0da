/-
  LimitsBest over numbers and lists alone: it is true of every format, kinds and number.
-/
import Derived.Test.YtgcmgfljbadljaaGreatDoorLawL
import Derived.Test.YtgcmgfljbadljaaGreatDoorLivesL
import Derived.Test.YtgcmgfljbadljaaGreatDoorL14
namespace Go.Proofs.YtgcmgfljbadljaaGreatDoor.PureL
set_option linter.unusedVariables false
set_option linter.unusedSimpArgs false
open Go.RowKit Go.Lib Go.Proofs.YtgcmgfljbadljaaGreatDoorW.PrintWords Go.Proofs.YtgcmgfljbadljaaGreatDoorW.PrintLast Go.Proofs.YtgcmgfljbadljaaGreatDoorW.PrintMore Go.Proofs.YtgcmgfljbadljaaGreatDoor.L Go.Proofs.YtgcmgfljbadljaaGreatDoor.HandS Go.Proofs.YtgcmgfljbadljaaGreatDoor.HandF Go.Proofs.YtgcmgfljbadljaaGreatDoor.HandM Go.Proofs.YtgcmgfljbadljaaGreatDoor.HandB Go.Proofs.YtgcmgfljbadljaaGreatDoor.Iter Go.Proofs.YtgcmgfljbadljaaGreatDoor.PureS

theorem great_no {n : ByteArray} {b u : Int} {l : List S42} {K : List S47} {deck : List Int} (h1 : l.length ≤ 100) (h2 : K.length ≤ 100) (h3 : deck.length ≤ 100) : joustlaw30_great.f n b u l K deck = some false := by
  unfold joustlaw30_great.f
  rw [if_neg (by omega), if_neg (by omega), decide_eq_false (by omega)]
theorem great_yes {n : ByteArray} {b u : Int} {l : List S42} {K : List S47} {deck : List Int} (h : ¬ (l.length ≤ 100 ∧ K.length ≤ 100 ∧ deck.length ≤ 100)) : joustlaw30_great.f n b u l K deck = some true := by
  unfold joustlaw30_great.f
  by_cases h1 : (l.length : Int) > 100
  · rw [if_pos h1]
  · rw [if_neg h1]
    by_cases h2 : (K.length : Int) > 100
    · rw [if_pos h2]
    · rw [if_neg h2, decide_eq_true (by omega)]
theorem i64_in {n : Int} (h0 : -9223372036854775808 ≤ n) (h1 : n ≤ 9223372036854775807) : IntKind.i64.wrap n = n := by rw [IntKind.wrap_i64]; omega
theorem best_f {B : Nat} {n : ByteArray} {b u : Int} {l : List S42} {K : List S47} (hB : Fits B n l) (h : MayP n b u l) (x : ByteArray) (hx : K.any (isN x) = true) (k : Nat) (hk : B + 1000 < k) :
    ∃ r : Nat, limits_Best.f k n b u l K x = some (r : Int) ∧ r ≤ 3 ∧ (r : Int) ≤ (ofS l x).f1 ∧ (r : Int) * (ofS l x).f2 ≤ b ∧ (((r + 1 : Nat) : Int) > (ofS l x).f1 ∨ ((r + 1 : Nat) : Int) * (ofS l x).f2 > b) := by
  have hl := h.len
  obtain ⟨m0, m1, c0, c1⟩ := ofS_in h x
  have b0 := h.b0
  have b1 := h.b1
  unfold limits_Best.f
  rw [may_f (by omega) hB k (by omega), Option.bind_some, if_pos (mayB_iff.2 h), if_pos hx, of_f _ _ _ _ _ (by omega), Option.bind_some]
  show ∃ r : Nat, (if ((ofS l x).f2 == 0) = true then some (ofS l x).f1 else some (min (ofS l x).f1 (IntKind.i64.wrap (b.tdiv (ofS l x).f2)))) = some (r : Int) ∧ _
  generalize (ofS l x).f1 = M at *
  generalize (ofS l x).f2 = C at *
  by_cases hc : C = 0
  · subst hc
    refine ⟨M.toNat, ?_, by omega, by omega, by omega, .inl (by omega)⟩
    rw [if_pos (by rfl), Int.toNat_of_nonneg m0]
  · have hq0 : 0 ≤ b / C := Int.ediv_nonneg b0 c0
    have hq1 : b / C ≤ b := Int.ediv_le_self C b0
    have ht : b.tdiv C = b / C := Int.tdiv_eq_ediv_of_nonneg b0
    have hC : 0 < C := by omega
    rw [if_neg (by rw [beq_iff_eq]; exact hc), ht, i64_in (by omega) (by omega)]
    have hle : ∀ r : Int, r ≤ b / C → r * C ≤ b := fun r hr => (Int.le_ediv_iff_mul_le hC).1 hr
    have hgt : ∀ r : Int, r > b / C → r * C > b := fun r hr => Int.not_le.1 (fun h2 => by have := (Int.le_ediv_iff_mul_le hC).2 h2; omega)
    by_cases hm : M ≤ b / C
    · refine ⟨M.toNat, ?_, by omega, by omega, ?_, .inl (by omega)⟩
      · rw [Int.min_eq_left hm, Int.toNat_of_nonneg m0]
      · rw [Int.toNat_of_nonneg m0]; exact hle M hm
    · refine ⟨(b / C).toNat, ?_, by omega, by omega, ?_, .inr ?_⟩
      · rw [Int.min_eq_right (by omega), Int.toNat_of_nonneg hq0]
      · rw [Int.toNat_of_nonneg hq0]; exact hle _ (Int.le_refl _)
      · refine hgt _ ?_
        omega

theorem costS_rep (l : List S42) (K : List S47) (d : Int) (r : Nat) : costS l K (List.replicate r d) = (r : Int) * costOf l K d := by
  induction r with
  | zero => rw [List.replicate_zero, costS, Int.natCast_zero, Int.zero_mul]
  | succ r ih =>
    rw [List.replicate_succ, costS, ih, Int.natCast_add, Int.add_mul]
    omega
theorem count_rep (d j : Int) (r : Nat) : (List.replicate r d).count j = if d = j then r else 0 := by
  rw [List.count_replicate]
  by_cases h : d = j
  · rw [if_pos h, if_pos (by rw [beq_iff_eq]; exact h)]
  · rw [if_neg h, if_neg (by rw [beq_iff_eq]; exact h)]
theorem inR_rep {n : Nat} {d : Int} (h0 : 0 ≤ d) (h1 : d < (n : Int)) (r : Nat) : InR n (List.replicate r d) := by
  intro x hx
  rw [List.mem_replicate] at hx
  rw [hx.2]
  exact ⟨h0, h1⟩
theorem checkS_length (b u : Int) (l : List S42) (K : List S47) (deck : List Int) (hK : K.length ≤ 100) : (checkS b u l K deck).length ≤ 200 := by
  unfold checkS tailS
  rw [List.length_append, List.length_append]
  have := overS_length (l := l) (K := K) (c := fun j => (deck.count (j : Int) : Nat)) K.length 0
  have h1 : (if unitsS K deck < u then [(⟨2, -1⟩ : S35)] else []).length ≤ 1 := by split <;> simp
  have h2 : (if costS l K deck > b then [(⟨3, -1⟩ : S35)] else []).length ≤ 1 := by split <;> simp
  omega
theorem S35_kind {a c a' c' : Int} (h : (⟨a, c⟩ : S35) = ⟨a', c'⟩) : a = a' ∧ c = c' := by
  injection h with h1 h2
  exact ⟨h1, h2⟩
/-- Of a card so often. -/
theorem rep_most {b u : Int} {l : List S42} {K : List S47} {d : Nat} (hd : d < K.length) (r : Nat) (m0 : ∀ j : Int, 0 ≤ mostOf l K j) : (⟨1, (d : Int)⟩ : S35) ∈ checkS b u l K (List.replicate r (d : Int)) ↔ (r : Int) > mostOf l K (d : Int) := by
  rw [mem_checkS]
  constructor
  · rintro (⟨j, h1, h2, h3⟩ | ⟨_, h⟩ | ⟨_, h⟩)
    · have := (S35_kind h3).2
      rw [count_rep, if_pos (by omega)] at h2
      have e : (j : Int) = (d : Int) := by omega
      rw [e] at h2
      exact h2
    · have := (S35_kind h).1; omega
    · have := (S35_kind h).1; omega
  · intro h
    refine .inl ⟨d, hd, ?_, rfl⟩
    rw [count_rep, if_pos rfl]
    exact h
theorem rep_budget {b u : Int} {l : List S42} {K : List S47} {d : Int} (r : Nat) : (⟨3, -1⟩ : S35) ∈ checkS b u l K (List.replicate r d) ↔ (r : Int) * costOf l K d > b := by
  rw [mem_checkS, costS_rep]
  constructor
  · rintro (⟨j, h1, h2, h3⟩ | ⟨_, h⟩ | ⟨h, _⟩)
    · have := (S35_kind h3).1; omega
    · have := (S35_kind h).1; omega
    · exact h
  · intro h
    exact .inr (.inr ⟨h, rfl⟩)

theorem best_end {B : Nat} {n : ByteArray} {b u : Int} {l : List S42} {K : List S47} (hB : Fits B n l) (hK : K.length ≤ 100) (h : MayP n b u l) (d r : Nat) (hd : d < K.length) (hr : r ≤ 3) (h1 : (r : Int) ≤ mostOf l K (d : Int)) (h2 : (r : Int) * costOf l K (d : Int) ≤ b)
    (h3 : ((r + 1 : Nat) : Int) > mostOf l K (d : Int) ∨ ((r + 1 : Nat) : Int) * costOf l K (d : Int) > b) (k : Nat) (hk : B + 1001 < k) : joustlaw30_LimitsBest.l0 (k + 1) K (d : Int) (List.replicate r (d : Int)) (r : Int) (r : Int) n b u l = some true := by
  have m0 : ∀ j : Int, 0 ≤ mostOf l K j := fun j => (ofS_in h _).1
  have a1 : Asked n b u l K (List.replicate r (d : Int)) := ⟨h, by rw [List.length_replicate]; omega, inR_rep (by omega) (by omega) _⟩
  have a2 : Asked n b u l K (List.replicate (r + 1) (d : Int)) := ⟨h, by rw [List.length_replicate]; omega, inR_rep (by omega) (by omega) _⟩
  have e : List.replicate r (d : Int) ++ [(d : Int)] = List.replicate (r + 1) (d : Int) := (List.replicate_succ').symm
  have n1 := checkS_length b u l K (List.replicate r (d : Int)) hK
  have n2 := checkS_length b u l K (List.replicate (r + 1) (d : Int)) hK
  rw [joustlaw30_LimitsBest.l0, if_neg (by omega), check_yes hB hK a1 k (by omega), Option.bind_some, if_pos (by rw [List.length_replicate]; omega), e, check_yes hB hK a2 k (by omega), Option.bind_some]
  rw [if_pos (show ((checkS b u l K (List.replicate r (d : Int)), (0 : Int)).2 = 0) from rfl), if_pos (show ((checkS b u l K (List.replicate (r + 1) (d : Int)), (0 : Int)).2 = 0) from rfl)]
  show (joustlaw30_in.f k (checkS b u l K (List.replicate r (d : Int))) 1 (d : Int)).bind _ = _
  obtain ⟨t1, ht1, hi1⟩ := in_f (checkS b u l K (List.replicate r (d : Int))) 1 (d : Int) (by omega) k (by omega)
  obtain ⟨t2, ht2, hi2⟩ := in_f (checkS b u l K (List.replicate r (d : Int))) 3 (-1) (by omega) k (by omega)
  have f1 : ¬ t1 = true := fun hc => by
    have := (rep_most hd r m0).1 (hi1.1 hc)
    omega
  have f2 : t2 = false := by
    cases t2 with
    | false => rfl
    | true =>
      have := (rep_budget r).1 (hi2.1 rfl)
      omega
  obtain ⟨k, rfl⟩ : ∃ q, k = q + 1 := ⟨k - 1, by omega⟩
  obtain ⟨s1, hs1, hj1⟩ := in_f (checkS b u l K (List.replicate (r + 1) (d : Int))) 1 (d : Int) (by omega) k (by omega)
  obtain ⟨s2, hs2, hj2⟩ := in_f (checkS b u l K (List.replicate (r + 1) (d : Int))) 3 (-1) (by omega) k (by omega)
  rw [ht1, Option.bind_some, if_neg f1, ht2, Option.bind_some, f2, joustlaw30_LimitsBest.j3, if_neg Bool.false_ne_true, hs1, Option.bind_some]
  by_cases hc : s1 = true
  · rw [if_pos hc, lives_true k (by omega), Option.bind_some]
  · rw [if_neg hc, hs2, Option.bind_some]
    have hs : s2 = true := by
      rcases h3 with h3 | h3
      · exact absurd (hj1.2 ((rep_most hd (r + 1) m0).2 h3)) hc
      · exact hj2.2 ((rep_budget (r + 1)).2 h3)
    rw [if_pos hs, lives_true k (by omega), Option.bind_some]
theorem best_loop {N : Nat} {n : ByteArray} {b u : Int} {l : List S42} {K : List S47} (d r : Nat) (hr : r ≤ 3) (fin : ∀ k, N < k → joustlaw30_LimitsBest.l0 (k + 1) K (d : Int) (List.replicate r (d : Int)) (r : Int) (r : Int) n b u l = some true) (m : Nat) :
    ∀ k i : Nat, i + m = r → N + m + 1 < k → joustlaw30_LimitsBest.l0 k K (d : Int) (List.replicate i (d : Int)) (r : Int) (i : Int) n b u l = some true := by
  induction m with
  | zero =>
    intro k i h1 h2
    obtain ⟨k, rfl⟩ : ∃ q, k = q + 1 := ⟨k - 1, by omega⟩
    obtain rfl : i = r := by omega
    exact fin k (by omega)
  | succ m ih =>
    intro k i h1 h2
    obtain ⟨k, rfl⟩ : ∃ q, k = q + 1 := ⟨k - 1, by omega⟩
    have e1 : wrap64 ((i : Int) + 1) = ((i + 1 : Nat) : Int) := by rw [wrap_in (by omega) (by omega)]; omega
    rw [joustlaw30_LimitsBest.l0, if_pos (by omega), if_pos (by rw [List.length_replicate]; omega), e1, ← List.replicate_succ']
    exact ih k (i + 1) (by omega) (by omega)
theorem best_lives {n : ByteArray} {b u : Int} {l : List S42} {K : List S47} {a : Int} (k : Nat) (hk : 300 ≤ k) : joustlaw30_LimitsBest.j0 (k + 1) K a true n b u l = some true := by
  rw [joustlaw30_LimitsBest.j0, if_pos rfl, lives_true k hk, Option.bind_some]
theorem rd47_any (K : List S47) (d : Nat) (hd : d < K.length) : K.any (isN (rd_T47 K (d : Int)).f0) = true := by
  rw [List.any_eq_true]
  refine ⟨rd_T47 K (d : Int), ?_, by unfold isN; exact beq_self_eq_true _⟩
  unfold rd_T47
  rw [Int.toNat_natCast, List.getD_eq_getElem?_getD, List.getElem?_eq_getElem hd]
  exact List.getElem_mem hd
theorem lawBest {B : Nat} (n : ByteArray) (b u : Int) (l : List S42) (K : List S47) (a : Int) (ha0 : 0 ≤ a) (ha1 : a ≤ 255) (hB : Fits B n l) : ∃ k, joustlaw30_LimitsBest.f k n b u l K a = some true := by
  refine ⟨(B + 2000) + 1, ?_⟩
  unfold joustlaw30_LimitsBest.f
  by_cases hg : l.length ≤ 100 ∧ K.length ≤ 100 ∧ ([] : List Int).length ≤ 100
  case neg => rw [great_yes hg, Option.bind_some, if_pos rfl, best_lives _ (by omega)]
  obtain ⟨hl, hK, h0⟩ := hg
  rw [great_no hl hK h0, Option.bind_some, if_neg Bool.false_ne_true, may_f (by omega) hB _ (by omega), Option.bind_some]
  by_cases hm : mayB n b u l = true
  case neg => rw [if_neg hm, best_lives _ (by omega)]
  rw [if_pos hm]
  by_cases hk0 : (K.length : Int) = 0
  · rw [hk0]
    exact best_lives _ (by omega)
  rw [show ((K.length : Int) == 0) = false from beq_eq_false_iff_ne.2 hk0, joustlaw30_LimitsBest.j0, if_neg Bool.false_ne_true, if_neg hk0, wrap_in (by omega) (by omega), Int.tmod_eq_emod_of_nonneg ha0]
  have d0 := Int.emod_nonneg a hk0
  have d1 := Int.emod_lt_of_pos a (show 0 < (K.length : Int) by omega)
  generalize a % (K.length : Int) = d at d0 d1 ⊢
  obtain ⟨d, rfl⟩ := Int.eq_ofNat_of_zero_le d0
  have hd : d < K.length := by omega
  have hP := mayB_iff.1 hm
  obtain ⟨r, hr, r3, rm, rb, rn⟩ := best_f hB hP (rd_T47 K (d : Int)).f0 (rd47_any K d hd) (B + 2000) (by omega)
  rw [if_pos d0, if_pos d1, hr, Option.bind_some, if_neg (by omega), decide_eq_false (by omega)]
  obtain ⟨q, hq⟩ : ∃ q, B + 2000 = q + 1 := ⟨B + 1999, rfl⟩
  rw [hq, joustlaw30_LimitsBest.j1, if_neg Bool.false_ne_true]
  exact best_loop (N := B + 1001) d r r3 (fun k hk => best_end hB hK hP d r hd r3 rm rb rn k hk) r q 0 (by omega) (by omega)
end Go.Proofs.YtgcmgfljbadljaaGreatDoor.PureL
