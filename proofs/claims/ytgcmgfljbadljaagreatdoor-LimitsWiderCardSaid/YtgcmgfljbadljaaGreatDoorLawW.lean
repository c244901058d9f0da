/-
  LimitsWider over numbers and lists alone: it is true of every format, kinds, deck and numbers.
-/
import Derived.Test.YtgcmgfljbadljaaGreatDoorLawL
import Derived.Test.YtgcmgfljbadljaaGreatDoorLivesL
import Derived.Test.YtgcmgfljbadljaaGreatDoorL18
namespace Go.Proofs.YtgcmgfljbadljaaGreatDoor.PureW
set_option linter.unusedVariables false
set_option linter.unusedSimpArgs false
open Go.RowKit Go.Lib Go.Proofs.YtgcmgfljbadljaaGreatDoorW.PrintWords Go.Proofs.YtgcmgfljbadljaaGreatDoorW.PrintLast Go.Proofs.YtgcmgfljbadljaaGreatDoorW.PrintMore Go.Proofs.YtgcmgfljbadljaaGreatDoor.L Go.Proofs.YtgcmgfljbadljaaGreatDoor.HandS Go.Proofs.YtgcmgfljbadljaaGreatDoor.HandF Go.Proofs.YtgcmgfljbadljaaGreatDoor.HandM Go.Proofs.YtgcmgfljbadljaaGreatDoor.HandB Go.Proofs.YtgcmgfljbadljaaGreatDoor.Iter Go.Proofs.YtgcmgfljbadljaaGreatDoor.PureS Go.Proofs.YtgcmgfljbadljaaGreatDoor.PureL

/-- A limit of the same name and cost that lets be no less, and at most three. -/
def Up (x y : S42) : Prop := y.f0 = x.f0 ∧ y.f2 = x.f2 ∧ x.f1 ≤ y.f1 ∧ (x.f1 ≤ 3 → y.f1 ≤ 3)
structure Wide (l m : List S42) : Prop where
  len : m.length = l.length
  up : ∀ j : Nat, Up (rd_T42 l (j : Int)) (rd_T42 m (j : Int))
theorem Wide.refl (l : List S42) : Wide l l := ⟨rfl, fun j => ⟨rfl, rfl, Int.le_refl _, fun h => h⟩⟩
theorem rd42_set (l : List S42) (i j : Nat) (v : S42) (h : i < l.length) : rd_T42 (l.set i v) (j : Int) = if i = j then v else rd_T42 l (j : Int) := by
  unfold rd_T42
  rw [Int.toNat_natCast, List.getD_eq_getElem?_getD, List.getD_eq_getElem?_getD, List.getElem?_set]
  by_cases hij : i = j
  · rw [if_pos hij, if_pos hij, if_pos h, Option.getD_some]
  · rw [if_neg hij, if_neg hij]
theorem wide_set (l : List S42) (i : Nat) (v : S42) (h : i < l.length) (hv : Up (rd_T42 l (i : Int)) v) : Wide l (l.set i v) := by
  refine ⟨List.length_set, fun j => ?_⟩
  rw [rd42_set l i j v h]
  by_cases hij : i = j
  · rw [if_pos hij, ← hij]; exact hv
  · rw [if_neg hij]; exact ⟨rfl, rfl, Int.le_refl _, fun h => h⟩
theorem bsG_wide {l m : List S42} (h : Wide l m) (x : ByteArray) (n : Nat) : ∀ lo hi, bsG m x n lo hi = bsG l x n lo hi := by
  induction n with
  | zero => intro lo hi; rfl
  | succ n ih =>
    intro lo hi
    rw [bsG, bsG, (h.up ((lo + hi) / 2)).1, ih, ih]
theorem isAt_wide {l m : List S42} (h : Wide l m) (x : ByteArray) (i : Nat) : isAt m x i = isAt l x i := by
  unfold isAt
  rw [h.len, (h.up i).1]
theorem ofS_wide {l m : List S42} (h : Wide l m) (x : ByteArray) : (ofS m x).f2 = (ofS l x).f2 ∧ (ofS l x).f1 ≤ (ofS m x).f1 := by
  have hi : bsI m x = bsI l x := by
    unfold bsI
    rw [bsG_wide h, h.len]
  unfold ofS
  rw [hi, isAt_wide h]
  by_cases hx : isAt l x (bsI l x) = true
  · rw [if_pos hx, if_pos hx]
    exact ⟨(h.up _).2.1, (h.up _).2.2.1⟩
  · rw [if_neg hx, if_neg hx]
    exact ⟨rfl, Int.le_refl _⟩
theorem may_wide {n : ByteArray} {b u b' u' : Int} {l m : List S42} (h : Wide l m) (hm : MayP n b u l) (hb0 : 0 ≤ b') (hb1 : b' ≤ 4000) (hu0 : 0 ≤ u') (hu1 : u' ≤ 40) : MayP n b' u' m := by
  refine ⟨hm.word, hb0, hb1, hu0, hu1, by rw [h.len]; exact hm.len, fun j hj => ?_⟩
  rw [h.len] at hj
  obtain ⟨h1, h2⟩ := hm.all j hj
  obtain ⟨u1, u2, u3, u4⟩ := h.up j
  refine ⟨?_, fun h0 => ?_⟩
  · unfold okL at h1 ⊢
    rw [Bool.and_eq_true, Bool.and_eq_true, Bool.and_eq_true, Bool.and_eq_true, decide_eq_true_iff, decide_eq_true_iff, decide_eq_true_iff, decide_eq_true_iff] at h1 ⊢
    obtain ⟨w, ⟨c0, c1⟩, c2, c3⟩ := h1
    exact ⟨by rw [u1]; exact w, ⟨by omega, u4 c1⟩, by omega, by omega⟩
  · rw [u1, (h.up (j - 1)).1]
    exact h2 h0
theorem costS_wide {l m : List S42} (h : Wide l m) (K : List S47) (deck : List Int) : costS m K deck = costS l K deck := by
  induction deck with
  | nil => rfl
  | cons d t ih =>
    rw [costS, costS, ih]
    unfold costOf
    rw [(ofS_wide h _).1]
theorem wide_in {b u b' u' : Int} {l m : List S42} (h : Wide l m) (hb : b ≤ b') (hu : u' ≤ u) (K : List S47) (deck : List Int) (x : S35) (hx : x ∈ checkS b' u' m K deck) : x ∈ checkS b u l K deck := by
  rw [mem_checkS] at hx
  rw [mem_checkS]
  rcases hx with ⟨j, h1, h2, h3⟩ | ⟨h1, h2⟩ | ⟨h1, h2⟩
  · have := (ofS_wide h (rd_T47 K (j : Int)).f0).2
    unfold mostOf at h2
    refine .inl ⟨j, h1, ?_, h3⟩
    unfold mostOf
    omega
  · exact .inr (.inl ⟨by omega, h2⟩)
  · rw [costS_wide h] at h1
    exact .inr (.inr ⟨by omega, h2⟩)
theorem fits_wide {B : Nat} {n : ByteArray} {l m : List S42} (h : Wide l m) (hB : Fits B n l) : Fits B n m := by
  refine ⟨hB.1, fun x hx => ?_⟩
  obtain ⟨j, hj, rfl⟩ := List.mem_iff_getElem.1 hx
  have e : rd_T42 m (j : Int) = m[j] := by
    unfold rd_T42
    rw [Int.toNat_natCast, List.getD_eq_getElem?_getD, List.getElem?_eq_getElem hj]
    rfl
  have h2 := hB.2 _ (rd42_mem l j (by rw [← h.len]; exact hj))
  rw [← e, (h.up j).1]
  exact h2
theorem checkS_small {b u : Int} {l : List S42} {K : List S47} {deck : List Int} (hK : K.length ≤ 100) : (checkS b u l K deck).length ≤ 200 := by
  unfold checkS tailS
  rw [List.length_append, List.length_append]
  have := overS_length (l := l) (K := K) (c := fun j => (deck.count (j : Int) : Nat)) K.length 0
  have h1 : (if unitsS K deck < u then [(⟨2, -1⟩ : S35)] else []).length ≤ 1 := by split <;> simp
  have h2 : (if costS l K deck > b then [(⟨3, -1⟩ : S35)] else []).length ≤ 1 := by split <;> simp
  omega
theorem wider_loop (La Lb : List S35) (hLa : La.length ≤ 1000) (hLb : Lb.length ≤ 1000) (hin : ∀ x ∈ Lb, x ∈ La) (m : Nat) : ∀ k i : Nat, i + m = Lb.length → 2000 + m < k → joustlaw30_LimitsWider.l0 k La Lb (Lb.length : Int) (i : Int) = some true := by
  induction m with
  | zero =>
    intro k i q1 q2
    obtain ⟨k, rfl⟩ : ∃ q, k = q + 1 := ⟨k - 1, by omega⟩
    rw [joustlaw30_LimitsWider.l0, if_neg (by omega), lives_true k (by omega), Option.bind_some]
  | succ m ih =>
    intro k i q1 q2
    obtain ⟨k, rfl⟩ : ∃ q, k = q + 1 := ⟨k - 1, by omega⟩
    have e1 : wrap64 ((i : Int) + 1) = ((i + 1 : Nat) : Int) := by rw [wrap_in (by omega) (by omega)]; omega
    have hm : rd_T35 Lb (i : Int) ∈ Lb := by
      unfold rd_T35
      rw [Int.toNat_natCast, List.getD_eq_getElem?_getD, List.getElem?_eq_getElem (show i < Lb.length by omega)]
      exact List.getElem_mem _
    obtain ⟨t, ht, hi⟩ := in_f La (rd_T35 Lb (i : Int)).f0 (rd_T35 Lb (i : Int)).f1 (by omega) k (by omega)
    rw [joustlaw30_LimitsWider.l0, if_pos (by omega), if_pos (by omega), if_pos (by omega), e1, ht, Option.bind_some, if_pos (hi.2 (hin _ hm))]
    exact ih k (i + 1) (by omega) (by omega)
theorem wider_end {B : Nat} {n : ByteArray} {b u b' u' : Int} {l m : List S42} {K : List S47} {deck : List Int} (hl : l.length ≤ 100) (hB : Fits B n l) (hK : K.length ≤ 100) (h : Wide l m) (hm : MayP n b u l) (hb : b ≤ b') (hb1 : b' ≤ 4000) (hu0 : 0 ≤ u') (hu : u' ≤ u) (k : Nat) (hk : B + 5000 < k) :
    joustlaw30_LimitsWider.j1 (k + 1) K deck n b u l n b' u' m = some true := by
  have hB' := fits_wide h hB
  have hm' : MayP n b' u' m := may_wide h hm (by have := hm.b0; omega) hb1 hu0 (by have := hm.u1; omega)
  have hl' : m.length ≤ 100 := by rw [h.len]; exact hl
  have hmay := may_f (b := b') (u := u') (show m.length ≤ 1000000 by omega) hB' k (by omega)
  rw [mayB_iff.2 hm'] at hmay
  obtain ⟨k, rfl⟩ : ∃ q, k = q + 1 := ⟨k - 1, by omega⟩
  rw [joustlaw30_LimitsWider.j1]
  by_cases ha : Asked n b u l K deck
  · have ha' : Asked n b' u' m K deck := ⟨hm', ha.2.1, ha.2.2⟩
    have n1 := checkS_small (b := b) (u := u) (l := l) (deck := deck) hK
    have n2 := checkS_small (b := b') (u := u') (l := m) (deck := deck) hK
    rw [check_yes hB hK ha (k + 1) (by omega), Option.bind_some, check_yes hB' hK ha' (k + 1) (by omega), Option.bind_some, if_pos rfl, hmay, Option.bind_some]
    show joustlaw30_LimitsWider.j2 (k + 1) (checkS b u l K deck) (checkS b' u' m K deck) false = _
    rw [joustlaw30_LimitsWider.j2, if_neg Bool.false_ne_true]
    exact wider_loop _ _ (by omega) (by omega) (fun x hx => wide_in h hb hu K deck x hx) (checkS b' u' m K deck).length k 0 (by omega) (by omega)
  · have ha' : ¬ Asked n b' u' m K deck := fun hc => ha ⟨hm, hc.2.1, hc.2.2⟩
    rw [check_no hl hB ha (k + 1) (by omega), Option.bind_some, check_no hl' hB' ha' (k + 1) (by omega), Option.bind_some, if_pos rfl, hmay, Option.bind_some]
    show joustlaw30_LimitsWider.j2 (k + 1) [] [] false = _
    rw [joustlaw30_LimitsWider.j2, if_neg Bool.false_ne_true]
    exact wider_loop [] [] (by decide) (by decide) (fun x hx => hx) 0 k 0 rfl (by omega)
theorem wider_lives {n : ByteArray} {b u : Int} {l : List S42} {K : List S47} {deck : List Int} {a c : Int} (k : Nat) (hk : 300 ≤ k) : joustlaw30_LimitsWider.j0 (k + 1) K deck a c true n b u l = some true := by
  rw [joustlaw30_LimitsWider.j0, if_pos rfl, lives_true k hk, Option.bind_some]
theorem great_is (n : ByteArray) (b u : Int) (l : List S42) (K : List S47) (deck : List Int) : ∃ g, joustlaw30_great.f n b u l K deck = some g ∧ (g = false → l.length ≤ 100 ∧ K.length ≤ 100 ∧ deck.length ≤ 100) := by
  unfold joustlaw30_great.f
  by_cases h1 : (l.length : Int) > 100
  · exact ⟨true, by rw [if_pos h1], fun h => by cases h⟩
  · rw [if_neg h1]
    by_cases h2 : (K.length : Int) > 100
    · exact ⟨true, by rw [if_pos h2], fun h => by cases h⟩
    · exact ⟨_, by rw [if_neg h2], fun h => by have := of_decide_eq_false h; omega⟩
theorem lawWider {B : Nat} (n : ByteArray) (b u : Int) (l : List S42) (K : List S47) (deck : List Int) (a c : Int) (ha0 : 0 ≤ a) (ha1 : a ≤ 255) (hc0 : 0 ≤ c) (hc1 : c ≤ 255) (hB : Fits B n l) : ∃ k, joustlaw30_LimitsWider.f k n b u l K deck a c = some true := by
  refine ⟨((B + 6000) + 1) + 1, ?_⟩
  unfold joustlaw30_LimitsWider.f
  obtain ⟨g, hg, hg2⟩ := great_is n b u l K deck
  rw [hg, Option.bind_some]
  cases g with
  | true => rw [if_pos rfl, wider_lives _ (by omega)]
  | false =>
  obtain ⟨hl, hK, hD⟩ := hg2 rfl
  rw [if_neg Bool.false_ne_true, may_f (by omega) hB _ (by omega), Option.bind_some]
  cases hmb : mayB n b u l with
  | false => exact wider_lives _ (by omega)
  | true =>
  have hm := mayB_iff.1 hmb
  have b0 := hm.b0
  have b1 := hm.b1
  have u0 := hm.u0
  have u1 := hm.u1
  have eb : mn (wrap64 (b + wrap64 a)) 4000 = min (b + a) 4000 := by
    rw [wrap_in (n := a) (by omega) (by omega), wrap_in (by omega) (by omega)]
    unfold mn
    by_cases h : 4000 < b + a
    · rw [if_pos h, Int.min_eq_right (by omega)]
    · rw [if_neg h, Int.min_eq_left (by omega)]
  have eu : mx (wrap64 (u - wrap64 a)) 0 = max (u - a) 0 := by
    rw [wrap_in (n := a) (by omega) (by omega), wrap_in (by omega) (by omega)]
    unfold mx
    by_cases h : u - a < 0
    · rw [if_pos h, Int.max_eq_right (by omega)]
    · rw [if_neg h, Int.max_eq_left (by omega)]
  have hb1 : min (b + a) 4000 ≤ 4000 := Int.min_le_right ..
  have hb2 : b ≤ min (b + a) 4000 := Int.le_min.2 ⟨by omega, b1⟩
  have hu1 : 0 ≤ max (u - a) 0 := Int.le_max_right ..
  have hu2 : max (u - a) 0 ≤ u := Int.max_le.2 ⟨by omega, u0⟩
  have hL : (([] : List S42)).length = 0 := rfl
  show joustlaw30_LimitsWider.j0 ((B + 6000 + 1) + 1) K deck a c false n b u l = _
  rw [joustlaw30_LimitsWider.j0, if_neg Bool.false_ne_true, Option.bind_some, if_pos (by rw [hL]; omega), Option.bind_some, List.nil_append, eb, eu]
  by_cases hk : (l.length : Int) > 0
  · rw [if_pos hk, if_neg (by omega), wrap_in (n := c) (by omega) (by omega), Int.tmod_eq_emod_of_nonneg hc0]
    have d0 := Int.emod_nonneg c (show (l.length : Int) ≠ 0 by omega)
    have d1 := Int.emod_lt_of_pos c hk
    generalize c % (l.length : Int) = d at d0 d1 ⊢
    obtain ⟨d, rfl⟩ := Int.eq_ofNat_of_zero_le d0
    have hd : d < l.length := by omega
    rw [if_pos d0, if_pos d1, Int.toNat_natCast]
    have ho := (hm.all d hd).1
    unfold okL at ho
    rw [Bool.and_eq_true, Bool.and_eq_true, Bool.and_eq_true, Bool.and_eq_true, decide_eq_true_iff, decide_eq_true_iff] at ho
    have f0 := ho.2.1.1
    have f1 := ho.2.1.2
    refine wider_end hl hB hK (wide_set l d _ hd ?_) hm hb2 hb1 hu1 hu2 (B + 6000) (by omega)
    refine ⟨rfl, rfl, ?_, fun _ => ?_⟩
    · show (rd_T42 l (d : Int)).f1 ≤ mn (wrap64 ((rd_T42 l (d : Int)).f1 + wrap64 a)) 3
      rw [wrap_in (n := a) (by omega) (by omega), wrap_in (by omega) (by omega)]
      unfold mn
      split <;> omega
    · show mn (wrap64 ((rd_T42 l (d : Int)).f1 + wrap64 a)) 3 ≤ 3
      unfold mn
      split <;> omega
  · rw [if_neg hk]
    exact wider_end hl hB hK (Wide.refl l) hm hb2 hb1 hu1 hu2 (B + 6000) (by omega)
end Go.Proofs.YtgcmgfljbadljaaGreatDoor.PureW
