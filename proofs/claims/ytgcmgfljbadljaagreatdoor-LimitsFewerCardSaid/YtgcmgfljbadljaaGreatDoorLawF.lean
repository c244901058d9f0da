/-
  LimitsFewer over numbers and lists alone: it is true of every format, kinds, deck and number.
-/
import Derived.Test.YtgcmgfljbadljaaGreatDoorLawL
import Derived.Test.YtgcmgfljbadljaaGreatDoorLivesL
import Derived.Test.YtgcmgfljbadljaaGreatDoorL16
namespace Go.Proofs.YtgcmgfljbadljaaGreatDoor.PureF
set_option linter.unusedVariables false
set_option linter.unusedSimpArgs false
open Go.RowKit Go.Lib Go.Proofs.YtgcmgfljbadljaaGreatDoorW.PrintWords Go.Proofs.YtgcmgfljbadljaaGreatDoorW.PrintLast Go.Proofs.YtgcmgfljbadljaaGreatDoorW.PrintMore Go.Proofs.YtgcmgfljbadljaaGreatDoor.L Go.Proofs.YtgcmgfljbadljaaGreatDoor.HandS Go.Proofs.YtgcmgfljbadljaaGreatDoor.HandF Go.Proofs.YtgcmgfljbadljaaGreatDoor.HandM Go.Proofs.YtgcmgfljbadljaaGreatDoor.HandB Go.Proofs.YtgcmgfljbadljaaGreatDoor.Iter Go.Proofs.YtgcmgfljbadljaaGreatDoor.PureS Go.Proofs.YtgcmgfljbadljaaGreatDoor.PureL

/-! ### sums over a deck -/
theorem costS_append (l : List S42) (K : List S47) (x y : List Int) : costS l K (x ++ y) = costS l K x + costS l K y := by
  induction x with
  | nil => rw [List.nil_append, costS, Int.zero_add]
  | cons a x ih => rw [List.cons_append, costS, costS, ih, Int.add_assoc]
theorem unitsS_append (K : List S47) (x y : List Int) : unitsS K (x ++ y) = unitsS K x + unitsS K y := by
  induction x with
  | nil => rw [List.nil_append, unitsS, Int.zero_add]
  | cons a x ih => rw [List.cons_append, unitsS, unitsS, ih, Int.add_assoc]
theorem costS_reverse (l : List S42) (K : List S47) (x : List Int) : costS l K x.reverse = costS l K x := by
  induction x with
  | nil => rfl
  | cons a x ih => rw [List.reverse_cons, costS_append, ih, costS, costS, costS, Int.add_zero, Int.add_comm]
theorem unitsS_reverse (K : List S47) (x : List Int) : unitsS K x.reverse = unitsS K x := by
  induction x with
  | nil => rfl
  | cons a x ih => rw [List.reverse_cons, unitsS_append, ih, unitsS, unitsS, unitsS, Int.add_zero, Int.add_comm]
theorem checkS_reverse (b u : Int) (l : List S42) (K : List S47) (deck : List Int) : checkS b u l K deck.reverse = checkS b u l K deck := by
  unfold checkS
  rw [costS_reverse, unitsS_reverse, overS_congr (c' := fun j => (deck.count (j : Int) : Nat)) K.length 0 (fun j _ _ => by rw [List.count_reverse])]
theorem asked_reverse {n : ByteArray} {b u : Int} {l : List S42} {K : List S47} {deck : List Int} (h : Asked n b u l K deck) : Asked n b u l K deck.reverse :=
  ⟨h.1, by rw [List.length_reverse]; exact h.2.1, fun d hd => h.2.2 d (List.mem_reverse.1 hd)⟩
/-- A deck without its card d. -/
def lessL (deck : List Int) (d : Nat) : List Int := deck.take d ++ deck.drop (d + 1)
theorem parts (deck : List Int) (d : Nat) (h : d < deck.length) : deck = deck.take d ++ rd deck (d : Int) :: deck.drop (d + 1) := by
  rw [← drop_rd deck d h, List.take_append_drop]
theorem asked_less {n : ByteArray} {b u : Int} {l : List S42} {K : List S47} {deck : List Int} (h : Asked n b u l K deck) (d : Nat) (hd : d < deck.length) : Asked n b u l K (lessL deck d) := by
  refine ⟨h.1, ?_, fun x hx => ?_⟩
  · have := h.2.1
    unfold lessL
    rw [List.length_append, List.length_take, List.length_drop]
    omega
  · unfold lessL at hx
    rw [List.mem_append] at hx
    rcases hx with hx | hx
    · exact h.2.2 x (List.mem_of_mem_take hx)
    · exact h.2.2 x (List.mem_of_mem_drop hx)
theorem cost_less {n : ByteArray} {b u : Int} {l : List S42} (h : MayP n b u l) (K : List S47) (deck : List Int) (d : Nat) (hd : d < deck.length) : costS l K (lessL deck d) ≤ costS l K deck := by
  have hc := (ofS_in h (rd_T47 K (rd deck (d : Int))).f0).2.2.1
  have e : costS l K deck = costS l K (deck.take d) + (costOf l K (rd deck (d : Int)) + costS l K (deck.drop (d + 1))) := by
    conv => lhs; rw [parts deck d hd]
    rw [costS_append, costS]
  have e2 : costS l K (lessL deck d) = costS l K (deck.take d) + costS l K (deck.drop (d + 1)) := costS_append ..
  unfold costOf at e
  omega
theorem count_less (deck : List Int) (d : Nat) (hd : d < deck.length) (j : Int) : (lessL deck d).count j ≤ deck.count j := by
  have e : deck.count j = (deck.take d).count j + ((rd deck (d : Int)) :: deck.drop (d + 1)).count j := by
    conv => lhs; rw [parts deck d hd]
    rw [List.count_append]
  have e2 : (lessL deck d).count j = (deck.take d).count j + (deck.drop (d + 1)).count j := List.count_append ..
  have e3 : (deck.drop (d + 1)).count j ≤ ((rd deck (d : Int)) :: deck.drop (d + 1)).count j := List.count_le_count_cons ..
  omega
theorem less_in {n : ByteArray} {b u : Int} {l : List S42} (h : MayP n b u l) (K : List S47) (deck : List Int) (d : Nat) (hd : d < deck.length) (x : S35) (hx : x ∈ checkS b u l K (lessL deck d)) : x.f0 = 2 ∨ x ∈ checkS b u l K deck := by
  rw [mem_checkS] at hx
  rw [mem_checkS]
  rcases hx with ⟨j, h1, h2, h3⟩ | ⟨_, h2⟩ | ⟨h1, h2⟩
  · have := count_less deck d hd (j : Int)
    exact .inr (.inl ⟨j, h1, by omega, h3⟩)
  · exact .inl (by rw [h2])
  · have := cost_less h K deck d hd
    exact .inr (.inr (.inr ⟨by omega, h2⟩))

/-! ### the walk's loops -/
theorem breaches_loop (L : List S35) (hL : L.length ≤ 1000000) (m : Nat) : ∀ k i : Nat, i + m = L.length → m < k → joustref30_Breaches.l0 k L L (i : Int) = some true := by
  induction m with
  | zero =>
    intro k i h1 h2
    obtain ⟨k, rfl⟩ : ∃ q, k = q + 1 := ⟨k - 1, by omega⟩
    rw [joustref30_Breaches.l0, if_neg (by omega)]
  | succ m ih =>
    intro k i h1 h2
    obtain ⟨k, rfl⟩ : ∃ q, k = q + 1 := ⟨k - 1, by omega⟩
    have e1 : wrap64 ((i : Int) + 1) = ((i + 1 : Nat) : Int) := by rw [wrap_in (by omega) (by omega)]; omega
    rw [joustref30_Breaches.l0, if_pos (by omega), if_pos (by omega), if_pos (by omega), beq_self_eq_true, beq_self_eq_true, if_neg (by decide), e1]
    exact ih k (i + 1) (by omega) (by omega)
theorem breaches_f (L : List S35) (hL : L.length ≤ 1000000) (k : Nat) (hk : L.length < k) : joustref30_Breaches.f k L L = some true := by
  unfold joustref30_Breaches.f
  rw [if_pos rfl]
  exact breaches_loop L hL L.length k 0 (by omega) hk
theorem fewer_loop {B : Nat} {n : ByteArray} {b u : Int} {l : List S42} {K : List S47} {deck less : List Int} (hB : Fits B n l) (h1 : Asked n b u l K deck) (h2 : Asked n b u l K less) (hc : costS l K less ≤ costS l K deck) (La Lb : List S35) (hLa : La.length ≤ 1000) (hLb : Lb.length ≤ 1000)
    (hin : ∀ x ∈ Lb, x.f0 = 2 ∨ x ∈ La) (m : Nat) : ∀ k i : Nat, i + m = Lb.length → B + 1001 + m < k → joustlaw30_LimitsFewer.l1 k K deck La less Lb (Lb.length : Int) (i : Int) n b u l = some true := by
  induction m with
  | zero =>
    intro k i q1 q2
    obtain ⟨k, rfl⟩ : ∃ q, k = q + 1 := ⟨k - 1, by omega⟩
    rw [joustlaw30_LimitsFewer.l1, if_neg (by omega), cost_yes hB h1 k (by omega), Option.bind_some, cost_yes hB h2 k (by omega), Option.bind_some, if_pos (show (costS l K deck, (0 : Int)).1 ≥ (costS l K less, (0 : Int)).1 from hc), lives_true k (by omega), Option.bind_some]
  | succ m ih =>
    intro k i q1 q2
    obtain ⟨k, rfl⟩ : ∃ q, k = q + 1 := ⟨k - 1, by omega⟩
    have e1 : wrap64 ((i : Int) + 1) = ((i + 1 : Nat) : Int) := by rw [wrap_in (by omega) (by omega)]; omega
    have hm : rd_T35 Lb (i : Int) ∈ Lb := by
      unfold rd_T35
      rw [Int.toNat_natCast, List.getD_eq_getElem?_getD, List.getElem?_eq_getElem (show i < Lb.length by omega)]
      exact List.getElem_mem _
    have hx := hin _ hm
    rw [joustlaw30_LimitsFewer.l1, if_pos (by omega), if_pos (by omega), if_pos (by omega), e1]
    by_cases h0 : (rd_T35 Lb (i : Int)).f0 = 2
    · rw [if_pos h0]
      exact ih k (i + 1) (by omega) (by omega)
    · rw [if_neg h0]
      obtain ⟨t, ht, hi⟩ := in_f La (rd_T35 Lb (i : Int)).f0 (rd_T35 Lb (i : Int)).f1 (by omega) k (by omega)
      rcases hx with hx | hx
      · exact absurd hx h0
      · rw [ht, Option.bind_some, if_pos (hi.2 hx)]
        exact ih k (i + 1) (by omega) (by omega)
theorem turn_loop {N : Nat} {n : ByteArray} {b u : Int} {l : List S42} {K : List S47} {deck less : List Int} (hd : deck.length ≤ 1000) (La : List S35) (e : Int) (fin : ∀ k, N < k → joustlaw30_LimitsFewer.l0 (k + 1) K deck La e less deck.reverse (-1) n b u l = some true) (i : Nat) :
    ∀ k : Nat, i ≤ deck.length → N + i + 1 < k → joustlaw30_LimitsFewer.l0 k K deck La e less (deck.drop i).reverse ((i : Int) - 1) n b u l = some true := by
  induction i with
  | zero =>
    intro k h1 h2
    obtain ⟨k, rfl⟩ : ∃ q, k = q + 1 := ⟨k - 1, by omega⟩
    rw [List.drop_zero]
    exact fin k (by omega)
  | succ i ih =>
    intro k h1 h2
    obtain ⟨k, rfl⟩ : ∃ q, k = q + 1 := ⟨k - 1, by omega⟩
    have e0 : ((i + 1 : Nat) : Int) - 1 = (i : Int) := by omega
    have e1 : wrap64 ((i : Int) - 1) = (i : Int) - 1 := wrap_in (by omega) (by omega)
    have hlen : (deck.drop (i + 1)).reverse.length ≤ 1000 := by rw [List.length_reverse, List.length_drop]; omega
    rw [e0, joustlaw30_LimitsFewer.l0, if_pos (by omega), if_pos (by omega), if_pos (by omega), if_pos (by omega), e1, ← List.reverse_cons, ← drop_rd deck i (by omega)]
    exact ih k (by omega) (by omega)
theorem len_small {b u : Int} {l : List S42} {K : List S47} {deck : List Int} (hK : K.length ≤ 100) : (checkS b u l K deck).length ≤ 200 := by
  unfold checkS tailS
  rw [List.length_append, List.length_append]
  have := overS_length (l := l) (K := K) (c := fun j => (deck.count (j : Int) : Nat)) K.length 0
  have h1 : (if unitsS K deck < u then [(⟨2, -1⟩ : S35)] else []).length ≤ 1 := by split <;> simp
  have h2 : (if costS l K deck > b then [(⟨3, -1⟩ : S35)] else []).length ≤ 1 := by split <;> simp
  omega
theorem fewer_yes {B : Nat} {n : ByteArray} {b u : Int} {l : List S42} {K : List S47} {deck : List Int} (hB : Fits B n l) (hK : K.length ≤ 100) (h : Asked n b u l K deck) (d : Nat) (hd : d < deck.length) (k : Nat) (hk : B + 1500 < k) :
    joustlaw30_LimitsFewer.l0 (k + 1) K deck (checkS b u l K deck) 0 (lessL deck d) deck.reverse (-1) n b u l = some true := by
  have n1 := len_small (b := b) (u := u) (l := l) (deck := deck) hK
  have n2 := len_small (b := b) (u := u) (l := l) (deck := lessL deck d) hK
  rw [joustlaw30_LimitsFewer.l0, if_neg (by decide), check_yes hB hK (asked_less h d hd) k (by omega), Option.bind_some, check_yes hB hK (asked_reverse h) k (by omega), Option.bind_some, if_pos rfl, checkS_reverse]
  rw [if_pos (show (checkS b u l K (lessL deck d), (0 : Int)).2 = 0 from rfl), if_pos (show (checkS b u l K deck, (0 : Int)).2 = 0 from rfl)]
  show (joustref30_Breaches.f k (checkS b u l K deck) (checkS b u l K deck)).bind _ = _
  rw [breaches_f _ (by omega) k (by omega), Option.bind_some]
  obtain ⟨k, rfl⟩ : ∃ q, k = q + 1 := ⟨k - 1, by omega⟩
  show joustlaw30_LimitsFewer.j2 (k + 1) K deck (checkS b u l K deck) (lessL deck d) (checkS b u l K (lessL deck d)) false n b u l = _
  rw [joustlaw30_LimitsFewer.j2, if_neg Bool.false_ne_true]
  exact fewer_loop hB h (asked_less h d hd) (cost_less h.1 K deck d hd) _ _ (by omega) (by omega) (less_in h.1 K deck d hd) (checkS b u l K (lessL deck d)).length k 0 (by omega) (by omega)
theorem fewer_no {B : Nat} {n : ByteArray} {b u : Int} {l : List S42} {K : List S47} {deck less : List Int} (hl : l.length ≤ 100) (hB : Fits B n l) (hK : K.length ≤ 100) (h : ¬ Asked n b u l K deck) (k : Nat) (hk : B + 1500 < k) :
    joustlaw30_LimitsFewer.l0 (k + 1) K deck [] 2 less deck.reverse (-1) n b u l = some true := by
  have h2 : ¬ Asked n b u l K deck.reverse := fun hc => h (by have := asked_reverse hc; rwa [List.reverse_reverse] at this)
  rw [joustlaw30_LimitsFewer.l0, if_neg (by decide)]
  by_cases h3 : Asked n b u l K less
  · rw [check_yes hB hK h3 k (by omega), Option.bind_some, check_no hl hB h2 k (by omega), Option.bind_some, if_neg (by decide), if_pos rfl, if_pos (show (([] : List S35).length : Int) = 0 from rfl), lives_true k (by omega), Option.bind_some]
  · rw [check_no hl hB h3 k (by omega), Option.bind_some, check_no hl hB h2 k (by omega), Option.bind_some, if_neg (by decide), if_pos rfl, if_pos (show (([] : List S35).length : Int) = 0 from rfl), lives_true k (by omega), Option.bind_some]
theorem fewer_lives {n : ByteArray} {b u : Int} {l : List S42} {K : List S47} {deck : List Int} {a : Int} (k : Nat) (hk : 300 ≤ k) : joustlaw30_LimitsFewer.j0 (k + 1) K deck a true n b u l = some true := by
  rw [joustlaw30_LimitsFewer.j0, if_pos rfl, lives_true k hk, Option.bind_some]
theorem great_is (n : ByteArray) (b u : Int) (l : List S42) (K : List S47) (deck : List Int) : ∃ g, joustlaw30_great.f n b u l K deck = some g ∧ (g = false → l.length ≤ 100 ∧ K.length ≤ 100 ∧ deck.length ≤ 100) := by
  unfold joustlaw30_great.f
  by_cases h1 : (l.length : Int) > 100
  · exact ⟨true, by rw [if_pos h1], fun h => by cases h⟩
  · rw [if_neg h1]
    by_cases h2 : (K.length : Int) > 100
    · exact ⟨true, by rw [if_pos h2], fun h => by cases h⟩
    · exact ⟨_, by rw [if_neg h2], fun h => by have := of_decide_eq_false h; omega⟩
theorem lawFewer {B : Nat} (n : ByteArray) (b u : Int) (l : List S42) (K : List S47) (deck : List Int) (a : Int) (ha0 : 0 ≤ a) (ha1 : a ≤ 255) (hB : Fits B n l) : ∃ k, joustlaw30_LimitsFewer.f k n b u l K deck a = some true := by
  refine ⟨(B + 3000) + 1, ?_⟩
  unfold joustlaw30_LimitsFewer.f
  obtain ⟨g, hg, hg2⟩ := great_is n b u l K deck
  rw [hg, Option.bind_some]
  cases g with
  | true => rw [if_pos rfl, fewer_lives _ (by omega)]
  | false =>
  obtain ⟨hl, hK, hD⟩ := hg2 rfl
  rw [if_neg Bool.false_ne_true]
  by_cases hk0 : (deck.length : Int) = 0
  · rw [hk0]
    exact fewer_lives _ (by omega)
  have hL : (([] : List Int)).length = 0 := rfl
  rw [show ((deck.length : Int) == 0) = false from beq_eq_false_iff_ne.2 hk0, joustlaw30_LimitsFewer.j0, if_neg Bool.false_ne_true, wrap_in (n := a) (by omega) (by omega), Int.tmod_eq_emod_of_nonneg ha0]
  have d0 := Int.emod_nonneg a hk0
  have d1 := Int.emod_lt_of_pos a (show 0 < (deck.length : Int) by omega)
  generalize a % (deck.length : Int) = d at d0 d1 ⊢
  obtain ⟨d, rfl⟩ := Int.eq_ofNat_of_zero_le d0
  have hd : d < deck.length := by omega
  have e1 : wrap64 ((d : Int) + 1) = ((d + 1 : Nat) : Int) := by rw [wrap_in (by omega) (by omega)]; omega
  have e2 : wrap64 ((deck.length : Int) - 1) = (deck.length : Int) - 1 := wrap_in (by omega) (by omega)
  have e3 : (deck.drop deck.length).reverse = [] := by rw [List.drop_length]; rfl
  have key : ∀ La e, (∀ k, B + 1500 < k → joustlaw30_LimitsFewer.l0 (k + 1) K deck La e (lessL deck d) deck.reverse (-1) n b u l = some true) → joustlaw30_LimitsFewer.l0 (B + 3000) K deck La e (lessL deck d) [] ((deck.length : Int) - 1) n b u l = some true := by
    intro La e fin
    have := turn_loop (N := B + 1500) (deck := deck) (less := lessL deck d) (by omega) La e fin deck.length (B + 3000) (Nat.le_refl _) (by omega)
    rwa [e3] at this
  have step : ∀ La : List S35, ∀ e : Int, joustlaw30_LimitsFewer.l0 (B + 3000) K deck La e (lessL deck d) [] ((deck.length : Int) - 1) n b u l = some true →
      (if (deck.length : Int) = 0 then none else if 0 ≤ (d : Int) then if (d : Int) ≤ (deck.length : Int) then if ([] : List Int).length + (deck.take ((d : Int)).toNat).length < 17592186044416 then (some ([] ++ deck.take ((d : Int)).toNat)).bind fun y => if 0 ≤ wrap64 ((d : Int) + 1) then if wrap64 ((d : Int) + 1) ≤ (deck.length : Int) then if y.length + (deck.drop (wrap64 ((d : Int) + 1)).toNat).length < 17592186044416 then joustlaw30_LimitsFewer.l0 (B + 3000) K deck La e (y ++ deck.drop (wrap64 ((d : Int) + 1)).toNat) [] (wrap64 ((deck.length : Int) - 1)) n b u l else none else none else none else none else none else none) = some true := by
    intro La e h
    rw [if_neg hk0, if_pos d0, if_pos (by omega), Int.toNat_natCast, if_pos (by rw [List.length_take, hL]; omega), Option.bind_some, List.nil_append, e1, e2, if_pos (by omega), if_pos (by omega), Int.toNat_natCast, if_pos (by rw [List.length_take, List.length_drop]; omega)]
    exact h
  by_cases h : Asked n b u l K deck
  · rw [check_yes hB hK h (B + 3000) (by omega), Option.bind_some]
    exact step _ _ (key _ _ (fun k hk => fewer_yes hB hK h d hd k hk))
  · rw [check_no hl hB h (B + 3000) (by omega), Option.bind_some]
    exact step _ _ (key _ _ (fun k hk => fewer_no hl hB hK h k hk))
end Go.Proofs.YtgcmgfljbadljaaGreatDoor.PureF
