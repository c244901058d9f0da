/-
  A format's text is read as the format.
-/
import Derived.Test.YtgcmgfljbadljaaGreatDoorTextK
namespace Go.Proofs.YtgcmgfljbadljaaGreatDoor.PureK
set_option linter.unusedVariables false
set_option linter.unusedSimpArgs false
open Go.RowKit Go.Lib Go.Shelf Go.Proofs.YtgcmgfljbadljaaGreatDoorW.PrintWords Go.Proofs.YtgcmgfljbadljaaGreatDoorW.PrintLast Go.Proofs.YtgcmgfljbadljaaGreatDoorW.PrintMore Go.Proofs.YtgcmgfljbadljaaGreatDoor.L Go.Proofs.YtgcmgfljbadljaaGreatDoor.HandS Go.Proofs.YtgcmgfljbadljaaGreatDoor.HandF Go.Proofs.YtgcmgfljbadljaaGreatDoor.HandM Go.Proofs.YtgcmgfljbadljaaGreatDoor.HandW Go.Proofs.YtgcmgfljbadljaaGreatDoor.HandR Go.Proofs.YtgcmgfljbadljaaGreatDoor.Iter Go.Proofs.YtgcmgfljbadljaaGreatDoor.PureS Go.Proofs.YtgcmgfljbadljaaGreatDoor.PureL

/-- The reader, without a fault, stands before these tokens. -/
def Rest (T : List S74) (s : Rd) (r : List Key) : Prop := ∃ P : List Key, T.map key = P ++ r ∧ s = ⟨P.length, 0, 0, 0⟩
theorem rest_at {T : List S74} {s : Rd} {K : Int} {x : ByteArray} {r : List Key} (h : Rest T s ((K, x) :: r)) : (tkAt T s.j).f0 = K ∧ (tkAt T s.j).f1 = x ∧ s.e = 0 ∧ s.j + 1 + r.length = T.length := by
  obtain ⟨P, hm, rfl⟩ := h
  have hl : T.length = P.length + (r.length + 1) := by
    have := congrArg List.length hm
    rwa [List.length_map, List.length_append, List.length_cons] at this
  have hj : P.length < T.length := by omega
  have hk : key (tkAt T P.length) = (K, x) := by
    have e : (T.map key)[P.length]? = some (K, x) := by rw [hm, List.getElem?_append_right (Nat.le_refl _), Nat.sub_self]; rfl
    rw [List.getElem?_map, List.getElem?_eq_getElem hj] at e
    injection e with e
    unfold tkAt rd_T74
    rw [Int.toNat_natCast, List.getD_eq_getElem?_getD, List.getElem?_eq_getElem hj]
    exact e
  unfold key at hk
  exact ⟨congrArg Prod.fst hk, congrArg Prod.snd hk, rfl, by show P.length + 1 + r.length = T.length; omega⟩
theorem rest_next {T : List S74} {s : Rd} {k : Key} {r : List Key} (h : Rest T s (k :: r)) (hr : r ≠ []) : Rest T (nextS T s) r := by
  have h2 := h
  obtain ⟨K, x⟩ := k
  obtain ⟨_, _, he, hl⟩ := rest_at h
  obtain ⟨P, hm, rfl⟩ := h2
  have hp : 0 < r.length := List.length_pos_iff.2 hr
  unfold nextS
  rw [if_pos ⟨rfl, by show P.length + 1 < T.length; have : P.length + 1 + r.length = T.length := hl; omega⟩]
  exact ⟨P ++ [(K, x)], by rw [hm, List.append_assoc]; rfl, by rw [List.length_append]; rfl⟩
theorem take_rest {T : List S74} {s : Rd} {K : Int} {x : ByteArray} {r : List Key} {ts : List ByteArray} (h : Rest T s ((K, x) :: r)) (hr : r ≠ []) (hb : ts = [] ∨ x ∈ ts) : Rest T (takeS T K ts s) r := by
  obtain ⟨h0, h1, he, _⟩ := rest_at h
  have hbad : badS K ts (tkAt T s.j) = false := by
    unfold badS
    rw [h0, h1, beq_self_eq_true, Bool.not_true, Bool.false_or]
    rcases hb with rfl | hb
    · rfl
    · rw [(containsS_iff ts x).2 hb, Bool.not_true, Bool.and_false]
  unfold takeS
  rw [hbad, if_neg Bool.false_ne_true]
  exact rest_next h hr
theorem take_last {T : List S74} {s : Rd} {x : ByteArray} (h : Rest T s [(0, x)]) : takeS T 0 [] s = s := by
  obtain ⟨h0, h1, he, hl⟩ := rest_at h
  have hbad : badS 0 [] (tkAt T s.j) = false := by
    unfold badS
    rw [h0]
    rfl
  unfold takeS
  rw [hbad, if_neg Bool.false_ne_true]
  unfold nextS
  rw [if_neg (fun hc => by have := hc.2; simp at hl; omega)]
theorem number_rest {T : List S74} {s : Rd} {v most : Int} {r : List Key} (h : Rest T s ((2, itoaB v) :: r)) (hr : r ≠ []) (h0 : 0 ≤ v) (h1 : v ≤ 4000) (hm : v ≤ most) : ∃ s', numberS T most s = some (v, s') ∧ Rest T s' r := by
  obtain ⟨q0, q1, he, _⟩ := rest_at h
  refine ⟨takeS T 2 [] s, ?_, take_rest h hr (.inl rfl)⟩
  unfold numberS
  rw [q1, atoi_num v h0 h1, Option.bind_some]
  show some (v, takeS T 2 [] (if (none : Option Int).isNone = true ∧ (tkAt T s.j).f0 = 2 ∧ v > most then failS T 3 s else s)) = _
  rw [if_neg (fun hc => by have := hc.2.2; omega)]
theorem head_rest {T : List S74} {n : ByteArray} {b u : Int} {r : List Key} (h : T.map key = headKs n b u ++ r) (hr : r ≠ []) (b0 : 0 ≤ b) (b1 : b ≤ 4000) (u0 : 0 ≤ u) (u1 : u ≤ 40) : ∃ s, headS T = some (n, b, u, s) ∧ Rest T s r := by
  have r0 : Rest T ⟨0, 0, 0, 0⟩ ((1, wFormat) :: (1, n) :: (3, wOpen) :: (1, wBudget) :: (2, itoaB b) :: (1, wUnits) :: (2, itoaB u) :: r) := ⟨[], h, rfl⟩
  have r1 : Rest T (nameS T) ((1, n) :: (3, wOpen) :: (1, wBudget) :: (2, itoaB b) :: (1, wUnits) :: (2, itoaB u) :: r) := take_rest r0 (by simp) (.inr (by simp))
  have r2 : Rest T (takeS T 1 [] (nameS T)) ((3, wOpen) :: (1, wBudget) :: (2, itoaB b) :: (1, wUnits) :: (2, itoaB u) :: r) := take_rest r1 (by simp) (.inl rfl)
  have r3 : Rest T (takeS T 3 [tOpen] (takeS T 1 [] (nameS T))) ((1, wBudget) :: (2, itoaB b) :: (1, wUnits) :: (2, itoaB u) :: r) := take_rest r2 (by simp) (.inr (by simp))
  have r4 : Rest T (openS T) ((2, itoaB b) :: (1, wUnits) :: (2, itoaB u) :: r) := take_rest r3 (by simp) (.inr (by simp))
  obtain ⟨s5, e5, r5⟩ := number_rest (most := 4000) r4 (by simp) b0 b1 b1
  have r6 : Rest T (takeS T 1 [tUnits] s5) ((2, itoaB u) :: r) := take_rest r5 (by simp) (.inr (by simp))
  obtain ⟨s7, e7, r7⟩ := number_rest (most := 40) r6 hr u0 (by omega) u1
  refine ⟨s7, ?_, r7⟩
  unfold headS
  rw [e5, Option.bind_some]
  show (numberS T 40 (takeS T 1 [tUnits] s5)).bind _ = _
  rw [e7, Option.bind_some, (rest_at r1).2.1]
theorem card_rest {T : List S74} {s : Rd} {x : S42} {r : List Key} {L : List S42} (h : Rest T s (limitKs x ++ r)) (hr : r ≠ []) (hx : (0 ≤ x.f1 ∧ x.f1 ≤ 3) ∧ (0 ≤ x.f2 ∧ x.f2 ≤ 100)) (hL : L.length < 64) (hs : Sorted L) (hb : ∀ i : Nat, i < L.length → less (rd_T42 L (i : Int)) x.f0) :
    isWordS T [tBan, tLimit] s = true ∧ ∃ s', cardS T L s = some (x, s') ∧ Rest T s' r := by
  obtain ⟨hb1, hb2⟩ := behind hs x.f0 hb
  have hfull : fullS T L s = s := by unfold fullS; rw [if_neg (by omega)]
  have last : ∀ s3 : Rd, Rest T s3 ((1, x.f0) :: r) → orderS T L s3 = s3 := by
    intro s3 h3
    obtain ⟨q0, q1, _, _⟩ := rest_at h3
    unfold orderS
    rw [q0, q1, if_pos (by rfl), if_neg (by rw [hb2]; exact Bool.false_ne_true), if_neg (by omega)]
  have done : ∀ (s3 : Rd) (a c : Int), Rest T s3 ((1, x.f0) :: r) → termsS T s = some (a, c, s3) → a = x.f1 → c = x.f2 → ∃ s', cardS T L s = some (x, s') ∧ Rest T s' r := by
    intro s3 a c h3 ht ha hc
    refine ⟨takeS T 1 [] s3, ?_, take_rest h3 hr (.inl rfl)⟩
    unfold cardS
    rw [hfull, ht, Option.bind_some]
    show some ((⟨(tkAt T (orderS T L s3).j).f1, a, c⟩ : S42), takeS T 1 [] (orderS T L s3)) = _
    rw [last s3 h3, (rest_at h3).2.1, ha, hc]
  unfold limitKs at h
  by_cases hz : x.f1 = 0 ∧ x.f2 = 0
  · rw [if_pos hz] at h
    have h1 : Rest T s ((1, wBan) :: (1, x.f0) :: r) := h
    obtain ⟨q0, q1, he, _⟩ := rest_at h1
    refine ⟨?_, done (takeS T 1 [] s) 0 0 (take_rest h1 (by simp) (.inl rfl)) ?_ hz.1.symm hz.2.symm⟩
    · unfold isWordS
      rw [he, q0, q1]
      show containsS [tBan, tLimit] wBan = true
      exact (containsS_iff _ _).2 (List.mem_cons_self ..)
    · unfold termsS
      rw [q1, if_neg (by decide +kernel)]
  · rw [if_neg hz] at h
    have h1 : Rest T s ((1, wLimit) :: (2, itoaB x.f1) :: (2, itoaB x.f2) :: (1, x.f0) :: r) := h
    obtain ⟨q0, q1, he, _⟩ := rest_at h1
    obtain ⟨s2, e2, r2⟩ := number_rest (most := 3) (take_rest h1 (by simp) (.inl rfl)) (by simp) hx.1.1 (by omega) hx.1.2
    obtain ⟨s3, e3, r3⟩ := number_rest (most := 100) r2 (by simp) hx.2.1 (by omega) hx.2.2
    refine ⟨?_, done s3 x.f1 x.f2 r3 ?_ rfl rfl⟩
    · unfold isWordS
      rw [he, q0, q1]
      show containsS [tBan, tLimit] wLimit = true
      exact (containsS_iff _ _).2 (List.mem_cons_of_mem _ (List.mem_cons_self ..))
    · unfold termsS
      rw [q1, if_pos (by decide +kernel), e2, Option.bind_some, e3, Option.bind_some]
theorem cards_rest {T : List S74} {r : List Key} {n : ByteArray} {b u : Int} {l : List S42} (hP : MayP n b u l) (l2 : List S42) : ∀ (L : List S42) (s : Rd) (k : Nat), L ++ l2 = l → Rest T s (limitsKs l2 ++ ((3, wShut) :: r)) → l2.length < k → ∃ s', cardsS T k L s = some (l, s') ∧ Rest T s' ((3, wShut) :: r) := by
  have hsort : Sorted l := sorted_of (fun j h0 h1 => (hP.all j h1).2 h0)
  induction l2 with
  | nil =>
    intro L s k hl h hk
    obtain ⟨k, rfl⟩ : ∃ q, k = q + 1 := ⟨k - 1, by omega⟩
    obtain ⟨q0, q1, he, _⟩ := rest_at (show Rest T s ((3, wShut) :: r) from h)
    refine ⟨s, ?_, h⟩
    have hw : isWordS T [tBan, tLimit] s = false := by
      unfold isWordS
      rw [he, q0]
      rfl
    rw [cardsS, hw, if_neg Bool.false_ne_true, ← hl, List.append_nil]
  | cons x l2 ih =>
    intro L s k hl h hk
    obtain ⟨k, rfl⟩ : ∃ q, k = q + 1 := ⟨k - 1, by omega⟩
    have hlen := hP.len
    have hL : L.length + (l2.length + 1) = l.length := by rw [← hl, List.length_append, List.length_cons]
    have hx : x ∈ l := by rw [← hl]; simp
    have hrd : ∀ i : Nat, i < L.length → rd_T42 l (i : Int) = rd_T42 L (i : Int) := by
      intro i hi
      unfold rd_T42
      rw [Int.toNat_natCast, List.getD_eq_getElem?_getD, List.getD_eq_getElem?_getD, ← hl, List.getElem?_append_left hi]
    have hxl : rd_T42 l (L.length : Int) = x := by
      unfold rd_T42
      rw [Int.toNat_natCast, List.getD_eq_getElem?_getD, ← hl, List.getElem?_append_right (Nat.le_refl _), Nat.sub_self]
      rfl
    have hsL : Sorted L := fun i j hij hj => by
      have := hsort i j hij (by omega)
      rwa [hrd i (by omega), hrd j hj] at this
    have hbx : ∀ i : Nat, i < L.length → less (rd_T42 L (i : Int)) x.f0 := fun i hi => by
      have := hsort i L.length hi (by omega)
      rwa [hrd i hi, hxl] at this
    rw [limitsKs, List.append_assoc] at h
    obtain ⟨hw, s1, hc, h1⟩ := card_rest (L := L) h (by simp) (limit_of hP x hx).2 (by omega) hsL hbx
    obtain ⟨s', hc2, h2⟩ := ih (L ++ [x]) s1 k (by rw [← hl, List.append_assoc]; rfl) h1 (by rw [List.length_cons] at hk; omega)
    refine ⟨s', ?_, h2⟩
    rw [cardsS, if_pos hw, if_pos (by omega), hc, Option.bind_some]
    exact hc2
theorem read_write {n : ByteArray} {b u : Int} {l : List S42} (h : MayP n b u l) (k : Nat) (hk : 400000 < k) : limits_Read.f k ⟨(writeL n b u l).toArray⟩ = some (n, b, u, l, 0, 0, 0) := by
  have hsz := write_size h
  have hlen := h.len
  have hs2 : (⟨(writeL n b u l).toArray⟩ : ByteArray).size = (writeL n b u l).length := rfl
  obtain ⟨T', e, ht, hk2⟩ := tokens_write h
  have hm : (T' ++ [stop e]).map key = headKs n b u ++ (limitsKs l ++ ((3, wShut) :: [(0, (⟨#[]⟩ : ByteArray))])) := by
    rw [List.map_append, hk2, allKs, List.append_assoc, List.append_assoc]
    rfl
  obtain ⟨s, e1, r1⟩ := head_rest hm (by simp) h.b0 h.b1 h.u0 h.u1
  obtain ⟨s', e2, r2⟩ := cards_rest h l [] s k rfl r1 (by omega)
  have r3 : Rest (T' ++ [stop e]) (takeS (T' ++ [stop e]) 3 [tShut] s') [(0, (⟨#[]⟩ : ByteArray))] := take_rest r2 (by simp) (.inr (by simp))
  have e3 : HandR.tailS (T' ++ [stop e]) s' = takeS (T' ++ [stop e]) 3 [tShut] s' := by unfold HandR.tailS; exact take_last r3
  have e4 : (HandR.tailS (T' ++ [stop e]) s').e = 0 := by rw [e3]; exact (rest_at r3).2.2.1
  unfold limits_Read.f readF
  rw [scanTokens _ k (by omega), ht, Option.bind_some]
  unfold readS
  rw [if_neg (show ¬ (!((0 : Int) == 0)) = true by decide), if_neg (show ¬ (T' ++ [stop e]).length = 0 by rw [List.length_append]; simp), e1, Option.bind_some]
  show (cardsS (T' ++ [stop e]) k [] s).bind _ = _
  rw [e2, Option.bind_some]
  show (if (!((HandR.tailS (T' ++ [stop e]) s').e == 0)) = true then _ else _) = _
  rw [e4, if_neg (by decide)]
end Go.Proofs.YtgcmgfljbadljaaGreatDoor.PureK
