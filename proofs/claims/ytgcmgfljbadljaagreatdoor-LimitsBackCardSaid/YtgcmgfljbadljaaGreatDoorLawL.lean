/-
  Limits over numbers and lists alone: whether a format may be, the limit of a name, what a deck costs, all that is wrong with a deck.
-/
import Derived.Test.YtgcmgfljbadljaaGreatDoorCountS
import Derived.Test.YtgcmgfljbadljaaGreatDoorHandM
import Derived.Test.YtgcmgfljbadljaaGreatDoorL5
import Derived.Test.YtgcmgfljbadljaaGreatDoorL10
namespace Go.Proofs.YtgcmgfljbadljaaGreatDoor.PureL
set_option linter.unusedVariables false
set_option linter.unusedSimpArgs false
open Go.RowKit Go.Lib Go.Proofs.YtgcmgfljbadljaaGreatDoorW.PrintWords Go.Proofs.YtgcmgfljbadljaaGreatDoorW.PrintLast Go.Proofs.YtgcmgfljbadljaaGreatDoorW.PrintMore Go.Proofs.YtgcmgfljbadljaaGreatDoor.L Go.Proofs.YtgcmgfljbadljaaGreatDoor.HandS Go.Proofs.YtgcmgfljbadljaaGreatDoor.HandF Go.Proofs.YtgcmgfljbadljaaGreatDoor.HandM Go.Proofs.YtgcmgfljbadljaaGreatDoor.Iter Go.Proofs.YtgcmgfljbadljaaGreatDoor.PureS

/-! ### whether a format may be -/
def okL (x : S42) : Bool := isWord x.f0 && ((decide (0 ≤ x.f1) && decide (x.f1 ≤ 3)) && (decide (0 ≤ x.f2) && decide (x.f2 ≤ 100)))
def okAt (l : List S42) (j : Nat) : Prop := okL (rd_T42 l (j : Int)) = true ∧ (0 < j → Op.bytesLess (rd_T42 l ((j - 1 : Nat) : Int)).f0.toList (rd_T42 l (j : Int)).f0.toList = true)
structure MayP (n : ByteArray) (b u : Int) (l : List S42) : Prop where
  word : isWord n = true
  b0 : 0 ≤ b
  b1 : b ≤ 4000
  u0 : 0 ≤ u
  u1 : u ≤ 40
  len : l.length ≤ 64
  all : ∀ j, j < l.length → okAt l j
theorem within_f (a b : Int) : limits_within.f a b = some (decide (0 ≤ a) && decide (a ≤ b)) := by
  unfold limits_within.f
  by_cases h : a ≥ 0
  · rw [if_pos h, decide_eq_true (show 0 ≤ a from h), Bool.true_and]
  · rw [if_neg h, decide_eq_false (show ¬ 0 ≤ a from h), Bool.false_and]
theorem rd42_mem (l : List S42) (i : Nat) (h : i < l.length) : rd_T42 l (i : Int) ∈ l := by
  unfold rd_T42
  rw [Int.toNat_natCast, List.getD_eq_getElem?_getD, List.getElem?_eq_getElem h]
  exact List.getElem_mem h
/-- A format's texts are not too long for so many rounds. -/
def Fits (B : Nat) (n : ByteArray) (l : List S42) : Prop := (n.size ≤ 4611686018427387904 ∧ 2 * n.size < B) ∧ ∀ x ∈ l, x.f0.size ≤ 4611686018427387904 ∧ 2 * x.f0.size < B
theorem may_loop (l : List S42) (B : Nat) (n : ByteArray) (b u : Int) (hl : l.length ≤ 1000000) (hB : Fits B n l) (m : Nat) :
    ∀ k i, i + m = l.length → B + m < k → ∃ r, limits_May.l0 k l (l.length : Int) (i : Int) n b u l = some r ∧ (r = true ↔ ∀ j, i ≤ j → j < l.length → okAt l j) := by
  induction m with
  | zero =>
    intro k i h1 h2
    obtain ⟨k, rfl⟩ : ∃ q, k = q + 1 := ⟨k - 1, by omega⟩
    refine ⟨true, ?_, ?_⟩
    · rw [limits_May.l0, if_neg (by omega)]
    · exact ⟨fun _ j h3 h4 => by omega, fun _ => rfl⟩
  | succ m ih =>
    intro k i h1 h2
    obtain ⟨k, rfl⟩ : ∃ q, k = q + 1 := ⟨k - 1, by omega⟩
    obtain ⟨hs, hb⟩ := hB.2 _ (rd42_mem l i (by omega))
    have e1 : wrap64 ((i : Int) + 1) = ((i + 1 : Nat) : Int) := by rw [wrap_in (by omega) (by omega)]; omega
    obtain ⟨r, hr, hiff⟩ := ih k (i + 1) (by omega) (by omega)
    have no : ¬ okAt l i → (false = true ↔ ∀ j, i ≤ j → j < l.length → okAt l j) := fun h => ⟨fun h3 => Bool.noConfusion h3, fun h2 => absurd (h2 i (Nat.le_refl _) (by omega)) h⟩
    have yes : okAt l i → (r = true ↔ ∀ j, i ≤ j → j < l.length → okAt l j) := fun h => ⟨fun h2 j h3 h4 => by
      rcases Nat.eq_or_lt_of_le h3 with h5 | h5
      · rw [← h5]; exact h
      · exact hiff.1 h2 j h5 h4, fun h2 => hiff.2 (fun j h3 h4 => h2 j (by omega) h4)⟩
    have ok : okAt l i ↔ (isWord (rd_T42 l (i : Int)).f0 = true ∧ (decide (0 ≤ (rd_T42 l (i : Int)).f1) && decide ((rd_T42 l (i : Int)).f1 ≤ 3)) = true ∧ (decide (0 ≤ (rd_T42 l (i : Int)).f2) && decide ((rd_T42 l (i : Int)).f2 ≤ 100)) = true) ∧ (0 < i → Op.bytesLess (rd_T42 l ((i - 1 : Nat) : Int)).f0.toList (rd_T42 l (i : Int)).f0.toList = true) := by
      unfold okAt okL
      rw [Bool.and_eq_true, Bool.and_eq_true]
    rw [limits_May.l0, if_pos (by omega), if_pos (by omega), if_pos (by omega), scanIsWord _ hs k (by omega), Option.bind_some]
    by_cases hw : isWord (rd_T42 l (i : Int)).f0 = true
    case neg => exact ⟨false, by rw [if_neg hw], no (fun h => hw (ok.1 h).1.1)⟩
    rw [if_pos hw, within_f, Option.bind_some]
    by_cases hw1 : (decide (0 ≤ (rd_T42 l (i : Int)).f1) && decide ((rd_T42 l (i : Int)).f1 ≤ 3)) = true
    case neg => exact ⟨false, by rw [if_neg hw1], no (fun h => hw1 (ok.1 h).1.2.1)⟩
    rw [if_pos hw1, within_f, Option.bind_some]
    by_cases hw2 : (decide (0 ≤ (rd_T42 l (i : Int)).f2) && decide ((rd_T42 l (i : Int)).f2 ≤ 100)) = true
    case neg => exact ⟨false, by rw [if_neg hw2], no (fun h => hw2 (ok.1 h).1.2.2)⟩
    rw [if_pos hw2]
    by_cases h0 : 0 < i
    · have e2 : wrap64 ((i : Int) - 1) = ((i - 1 : Nat) : Int) := by rw [wrap_in (by omega) (by omega)]; omega
      rw [if_pos (show (i : Int) > 0 by omega), e2, if_pos (by omega), if_pos (by omega), e1]
      by_cases hc : Op.bytesLess (rd_T42 l ((i - 1 : Nat) : Int)).f0.toList (rd_T42 l (i : Int)).f0.toList = true
      · rw [if_pos hc]
        exact ⟨r, hr, yes (ok.2 ⟨⟨hw, hw1, hw2⟩, fun _ => hc⟩)⟩
      · rw [if_neg hc]
        exact ⟨false, rfl, no (fun h => hc ((ok.1 h).2 h0))⟩
    · rw [if_neg (show ¬ (i : Int) > 0 by omega), e1]
      exact ⟨r, hr, yes (ok.2 ⟨⟨hw, hw1, hw2⟩, fun h => absurd h h0⟩)⟩
noncomputable def mayB (n : ByteArray) (b u : Int) (l : List S42) : Bool := @decide (MayP n b u l) (Classical.propDecidable _)
theorem mayB_iff {n : ByteArray} {b u : Int} {l : List S42} : mayB n b u l = true ↔ MayP n b u l := by unfold mayB; exact @decide_eq_true_iff _ (Classical.propDecidable _)
theorem mayB_eq {n : ByteArray} {b u : Int} {l : List S42} {r : Bool} (h : r = true ↔ MayP n b u l) : r = mayB n b u l := by
  cases r with
  | true => exact (mayB_iff.2 (h.1 rfl)).symm
  | false =>
    cases hm : mayB n b u l with
    | false => rfl
    | true => exact absurd (h.2 (mayB_iff.1 hm)) (by simp)
theorem may_f {B : Nat} {n : ByteArray} {b u : Int} {l : List S42} (hl : l.length ≤ 1000000) (hB : Fits B n l) (k : Nat) (hk : B + l.length + 2 < k) : limits_May.f k n b u l = some (mayB n b u l) := by
  obtain ⟨k, rfl⟩ : ∃ q, k = q + 1 := ⟨k - 1, by omega⟩
  have no : ¬ MayP n b u l → mayB n b u l = false := fun h => by
    cases hm : mayB n b u l with
    | false => rfl
    | true => exact absurd (mayB_iff.1 hm) h
  unfold limits_May.f
  rw [scanIsWord _ hB.1.1 (k + 1) (by have := hB.1.2; omega), Option.bind_some]
  by_cases hw : isWord n = true
  case neg => rw [if_neg hw, limits_May.j0, if_pos rfl, no (fun h => hw h.word)]
  rw [if_pos hw, within_f, Option.bind_some]
  by_cases hb : (decide (0 ≤ b) && decide (b ≤ 4000)) = true
  case neg => rw [if_neg hb, limits_May.j0, if_pos rfl, no (fun h => hb (by rw [decide_eq_true h.b0, decide_eq_true h.b1]; rfl))]
  rw [if_pos hb, within_f, Option.bind_some]
  by_cases hu : (decide (0 ≤ u) && decide (u ≤ 40)) = true
  case neg => rw [if_neg hu, limits_May.j0, if_pos rfl, no (fun h => hu (by rw [decide_eq_true h.u0, decide_eq_true h.u1]; rfl))]
  rw [if_pos hu, limits_May.j0]
  by_cases hn : (l.length : Int) > 64
  · rw [decide_eq_true hn, if_pos rfl, no (fun h => by have := h.len; omega)]
  · rw [decide_eq_false hn, if_neg Bool.false_ne_true]
    obtain ⟨r, hr, hi⟩ := may_loop l B n b u hl hB l.length k 0 (by omega) (by omega)
    refine (show limits_May.l0 k l (l.length : Int) ((0 : Nat) : Int) n b u l = _ from hr).trans (congrArg some (mayB_eq ?_))
    rw [Bool.and_eq_true, decide_eq_true_iff, decide_eq_true_iff] at hb hu
    exact ⟨fun h => ⟨hw, hb.1, hb.2, hu.1, hu.2, by omega, fun j hj => hi.1 h j (Nat.zero_le _) hj⟩, fun h => hi.2 (fun j _ hj => h.all j hj)⟩

/-! ### the limit of a name -/
def ofS (l : List S42) (x : ByteArray) : S42 := if isAt l x (bsI l x) = true then rd_T42 l (bsI l x : Nat) else ⟨x, 3, 0⟩
theorem isAt_lt {l : List S42} {x : ByteArray} {i : Nat} (h : isAt l x i = true) : i < l.length := by
  unfold isAt at h
  rw [Bool.and_eq_true] at h
  exact of_decide_eq_true h.1
theorem of_f (n : ByteArray) (b u : Int) (l : List S42) (x : ByteArray) (hl : l.length ≤ 1000000) : limits_of.f n b u l x = some ((ofS l x).f0, (ofS l x).f1, (ofS l x).f2) := by
  unfold limits_of.f limits_find.f ofS
  rw [if_pos (show l.length < 2305843009213693952 by omega), Option.bind_some]
  by_cases h : isAt l x (bsI l x) = true
  · have hi := isAt_lt h
    rw [if_pos h, if_pos h, if_pos (by omega), if_pos (by omega)]
  · rw [if_neg h, if_neg h]
theorem ofS_in {n : ByteArray} {b u : Int} {l : List S42} (h : MayP n b u l) (x : ByteArray) : 0 ≤ (ofS l x).f1 ∧ (ofS l x).f1 ≤ 3 ∧ 0 ≤ (ofS l x).f2 ∧ (ofS l x).f2 ≤ 100 := by
  unfold ofS
  by_cases hx : isAt l x (bsI l x) = true
  · rw [if_pos hx]
    have h1 := (h.all _ (isAt_lt hx)).1
    unfold okL at h1
    rw [Bool.and_eq_true, Bool.and_eq_true, Bool.and_eq_true, Bool.and_eq_true, decide_eq_true_iff, decide_eq_true_iff, decide_eq_true_iff, decide_eq_true_iff] at h1
    exact ⟨h1.2.1.1, h1.2.1.2, h1.2.2.1, h1.2.2.2⟩
  · rw [if_neg hx]
    show (0 : Int) ≤ 3 ∧ (3 : Int) ≤ 3 ∧ (0 : Int) ≤ 0 ∧ (0 : Int) ≤ 100
    decide

/-! ### what a deck costs -/
def costOf (l : List S42) (K : List S47) (d : Int) : Int := (ofS l (rd_T47 K d).f0).f2
def mostOf (l : List S42) (K : List S47) (d : Int) : Int := (ofS l (rd_T47 K d).f0).f1
def costS (l : List S42) (K : List S47) : List Int → Int
  | [] => 0
  | d :: t => costOf l K d + costS l K t
def InR (n : Nat) (deck : List Int) : Prop := ∀ d ∈ deck, 0 ≤ d ∧ d < (n : Int)
theorem inR_iff (n : Nat) (deck : List Int) : (!deck.any (oddK n)) = true ↔ InR n deck := by
  rw [Bool.not_eq_true', List.any_eq_false]
  unfold InR oddK
  constructor
  · intro h d hd
    have h1 := h d hd
    rw [Bool.not_eq_true, Bool.not_eq_false', Bool.and_eq_true, decide_eq_true_iff, decide_eq_true_iff] at h1
    omega
  · intro h d hd
    have h1 := h d hd
    rw [Bool.not_eq_true, Bool.not_eq_false', Bool.and_eq_true, decide_eq_true_iff, decide_eq_true_iff]
    omega
theorem drop_rd (deck : List Int) (i : Nat) (h : i < deck.length) : deck.drop i = rd deck (i : Int) :: deck.drop (i + 1) := by
  rw [List.drop_eq_getElem_cons h]
  unfold rd
  rw [Int.toNat_natCast, List.getD_eq_getElem?_getD, List.getElem?_eq_getElem h, Option.getD_some]
theorem rd_mem (deck : List Int) (i : Nat) (h : i < deck.length) : rd deck (i : Int) ∈ deck := by
  unfold rd
  rw [Int.toNat_natCast, List.getD_eq_getElem?_getD, List.getElem?_eq_getElem h]
  exact List.getElem_mem h
theorem cost_loop {n : ByteArray} {b u : Int} {l : List S42} (h : MayP n b u l) (K : List S47) (deck : List Int) (hr : InR K.length deck) (hn : deck.length ≤ 1000) (m : Nat) :
    ∀ (k i : Nat) (acc : Int), i + m = deck.length → m < k → 0 ≤ acc → acc + 100 * m ≤ 1000000 → limits_Cost.l0 k K acc deck (deck.length : Int) (i : Int) n b u l = some (acc + costS l K (deck.drop i), 0) := by
  have hlen := h.len
  induction m with
  | zero =>
    intro k i acc h1 h2 h3 h4
    obtain ⟨k, rfl⟩ : ∃ q, k = q + 1 := ⟨k - 1, by omega⟩
    rw [limits_Cost.l0, if_neg (by omega), List.drop_eq_nil_of_le (by omega), costS, Int.add_zero]
  | succ m ih =>
    intro k i acc h1 h2 h3 h4
    obtain ⟨k, rfl⟩ : ∃ q, k = q + 1 := ⟨k - 1, by omega⟩
    have hd := hr _ (rd_mem deck i (by omega))
    obtain ⟨-, -, c0, c1⟩ := ofS_in h (rd_T47 K (rd deck (i : Int))).f0
    have e1 : wrap64 ((i : Int) + 1) = ((i + 1 : Nat) : Int) := by rw [wrap_in (by omega) (by omega)]; omega
    have e2 : wrap64 (acc + (ofS l (rd_T47 K (rd deck (i : Int))).f0).f2) = acc + (ofS l (rd_T47 K (rd deck (i : Int))).f0).f2 := wrap_in (by omega) (by omega)
    rw [limits_Cost.l0, if_pos (by omega), if_pos (by omega), if_pos (by omega), if_pos hd.1, if_pos hd.2, of_f _ _ _ _ _ (by omega), Option.bind_some, e1]
    show limits_Cost.l0 k K (wrap64 (acc + (ofS l (rd_T47 K (rd deck (i : Int))).f0).f2)) deck _ _ n b u l = _
    rw [e2, ih k (i + 1) _ (by omega) (by omega) (by omega) (by omega), drop_rd deck i (by omega), costS, Int.add_assoc]
    rfl
/-- May a deck be asked of? -/
def Asked (n : ByteArray) (b u : Int) (l : List S42) (K : List S47) (deck : List Int) : Prop := MayP n b u l ∧ deck.length ≤ 40 ∧ InR K.length deck
theorem may2_f {B : Nat} {n : ByteArray} {b u : Int} {l : List S42} (hl : l.length ≤ 1000000) (hB : Fits B n l) (K : List S47) (deck : List Int) (k : Nat) (hk : B + l.length + 2 < k) :
    ∃ r, limits_may.f k n b u l K deck = some r ∧ (r = true ↔ Asked n b u l K deck) := by
  unfold limits_may.f
  rw [may_f hl hB k hk, Option.bind_some]
  refine ⟨_, rfl, ?_⟩
  rw [Bool.and_eq_true, Bool.and_eq_true, mayB_iff, inR_iff, decide_eq_true_iff]
  exact Iff.rfl
theorem cost_yes {B : Nat} {n : ByteArray} {b u : Int} {l : List S42} {K : List S47} {deck : List Int} (hB : Fits B n l) (h : Asked n b u l K deck) (k : Nat) (hk : B + 1000 < k) : limits_Cost.f k n b u l K deck = some (costS l K deck, 0) := by
  obtain ⟨h1, h2, h3⟩ := h
  have h4 := h1.len
  obtain ⟨r, hr, hi⟩ := may2_f (u := u) (b := b) (by omega) hB K deck k (by omega)
  unfold limits_Cost.f
  rw [hr, Option.bind_some, if_pos (hi.2 ⟨h1, h2, h3⟩)]
  have := cost_loop h1 K deck h3 (by omega) deck.length k 0 (0 : Int) (by omega) (by omega) (by omega) (by omega)
  rw [List.drop_zero, Int.zero_add] at this
  exact this
theorem cost_no {B : Nat} {n : ByteArray} {b u : Int} {l : List S42} {K : List S47} {deck : List Int} (hl : l.length ≤ 100) (hB : Fits B n l) (h : ¬ Asked n b u l K deck) (k : Nat) (hk : B + 1000 < k) : limits_Cost.f k n b u l K deck = some (0, 2) := by
  obtain ⟨r, hr, hi⟩ := may2_f (u := u) (b := b) (by omega) hB K deck k (by omega)
  unfold limits_Cost.f
  rw [hr, Option.bind_some, if_neg (fun h2 => h (hi.1 h2))]

/-! ### all that is wrong with a deck -/
def overS (l : List S42) (K : List S47) (c : Nat → Int) : Nat → Nat → List S35
  | _, 0 => []
  | i, m + 1 => (if c i > mostOf l K (i : Int) then [⟨1, (i : Int)⟩] else []) ++ overS l K c (i + 1) m
def tailS (b u units cost : Int) : List S35 := (if units < u then [⟨2, -1⟩] else []) ++ (if cost > b then [⟨3, -1⟩] else [])
def unitsS (K : List S47) : List Int → Int
  | [] => 0
  | d :: t => (if (rd_T47 K d).f1 = 0 then 1 else 0) + unitsS K t
def checkS (b u : Int) (l : List S42) (K : List S47) (deck : List Int) : List S35 := overS l K (fun j => (deck.count (j : Int) : Nat)) 0 K.length ++ tailS b u (unitsS K deck) (costS l K deck)
theorem overS_congr {l : List S42} {K : List S47} {c c' : Nat → Int} (m : Nat) : ∀ i, (∀ j, i ≤ j → j < i + m → c j = c' j) → overS l K c i m = overS l K c' i m := by
  induction m with
  | zero => intro i _; rfl
  | succ m ih =>
    intro i h
    rw [overS, overS, h i (Nat.le_refl _) (by omega), ih (i + 1) (fun j h1 h2 => h j (by omega) (by omega))]
theorem mem_overS {l : List S42} {K : List S47} {c : Nat → Int} {x : S35} (m : Nat) : ∀ i, x ∈ overS l K c i m ↔ ∃ j, i ≤ j ∧ j < i + m ∧ c j > mostOf l K (j : Int) ∧ x = ⟨1, (j : Int)⟩ := by
  induction m with
  | zero =>
    intro i
    rw [overS]
    exact ⟨fun h => (List.not_mem_nil h).elim, fun ⟨j, h1, h2, _⟩ => by omega⟩
  | succ m ih =>
    intro i
    rw [overS, List.mem_append, ih]
    constructor
    · rintro (h | ⟨j, h1, h2, h3⟩)
      · by_cases hc : c i > mostOf l K (i : Int)
        · rw [if_pos hc, List.mem_singleton] at h
          exact ⟨i, Nat.le_refl _, by omega, hc, h⟩
        · rw [if_neg hc] at h
          exact (List.not_mem_nil h).elim
      · exact ⟨j, by omega, by omega, h3⟩
    · rintro ⟨j, h1, h2, h3, h4⟩
      rcases Nat.eq_or_lt_of_le h1 with h5 | h5
      · subst h5
        rw [if_pos h3]
        exact .inl (List.mem_singleton.2 h4)
      · exact .inr ⟨j, h5, by omega, h3, h4⟩
theorem mem_tailS {b u units cost : Int} {x : S35} : x ∈ tailS b u units cost ↔ (units < u ∧ x = ⟨2, -1⟩) ∨ (cost > b ∧ x = ⟨3, -1⟩) := by
  unfold tailS
  rw [List.mem_append]
  by_cases h1 : units < u <;> by_cases h2 : cost > b <;> simp [h1, h2]
theorem mem_checkS {b u : Int} {l : List S42} {K : List S47} {deck : List Int} {x : S35} : x ∈ checkS b u l K deck ↔ (∃ j, j < K.length ∧ ((deck.count (j : Int) : Nat) : Int) > mostOf l K (j : Int) ∧ x = ⟨1, (j : Int)⟩) ∨ (unitsS K deck < u ∧ x = ⟨2, -1⟩) ∨ (costS l K deck > b ∧ x = ⟨3, -1⟩) := by
  unfold checkS
  rw [List.mem_append, mem_overS, mem_tailS]
  constructor
  · rintro (⟨j, h1, h2, h3⟩ | h)
    · exact .inl ⟨j, by omega, h3⟩
    · exact .inr h
  · rintro (⟨j, h1, h2⟩ | h)
    · exact .inl ⟨j, by omega, by omega, h2⟩
    · exact .inr h
theorem overS_length {l : List S42} {K : List S47} {c : Nat → Int} (m : Nat) : ∀ i, (overS l K c i m).length ≤ m := by
  induction m with
  | zero => intro i; exact Nat.le_refl _
  | succ m ih =>
    intro i
    have := ih (i + 1)
    rw [overS, List.length_append]
    by_cases hc : c i > mostOf l K (i : Int)
    · rw [if_pos hc, List.length_singleton]; omega
    · rw [if_neg hc, List.length_nil]; omega
theorem tail_ends {b u units cost : Int} {acc : List S35} (ha : acc.length ≤ 1000) :
    (if units < u then (if acc.length < 8796093022208 then ((some (acc ++ [(⟨2, (-1)⟩ : S35)] : List (S35))).bind fun y132 => (if cost > b then (if y132.length < 8796093022208 then (some ((y132 ++ [(⟨3, (-1)⟩ : S35)]), (0 : Int))) else (none)) else (some (y132, 0)))) else (none)) else (if cost > b then (if acc.length < 8796093022208 then (some ((acc ++ [(⟨3, (-1)⟩ : S35)]), 0)) else (none)) else (some (acc, 0)))) = some (acc ++ tailS b u units cost, 0) := by
  unfold tailS
  by_cases h1 : units < u
  · rw [if_pos h1, if_pos h1, if_pos (by omega), Option.bind_some]
    by_cases h2 : cost > b
    · rw [if_pos h2, if_pos h2, if_pos (by rw [List.length_append, List.length_singleton]; omega), List.append_assoc]
    · rw [if_neg h2, if_neg h2, List.append_nil]
  · rw [if_neg h1, if_neg h1, List.nil_append]
    by_cases h2 : cost > b
    · rw [if_pos h2, if_pos h2, if_pos (by omega)]
    · rw [if_neg h2, if_neg h2, List.append_nil]
theorem over_loop {n : ByteArray} {b u : Int} {l : List S42} (hl : l.length ≤ 1000000) (K : List S47) (hK : K.length ≤ 100) (many : List Int) (hm : many.length = K.length) (cost units : Int) (m : Nat) :
    ∀ k i acc, i + m = K.length → m < k → acc.length ≤ i → limits_Check.l1 k K acc cost units many (many.length : Int) (i : Int) n b u l = some (acc ++ (overS l K (fun j => rd many (j : Int)) i m ++ tailS b u units cost), 0) := by
  induction m with
  | zero =>
    intro k i acc h1 h2 h3
    obtain ⟨k, rfl⟩ : ∃ q, k = q + 1 := ⟨k - 1, by omega⟩
    rw [limits_Check.l1, if_neg (by omega), overS, List.nil_append]
    exact tail_ends (by omega)
  | succ m ih =>
    intro k i acc h1 h2 h3
    obtain ⟨k, rfl⟩ : ∃ q, k = q + 1 := ⟨k - 1, by omega⟩
    have e1 : wrap64 ((i : Int) + 1) = ((i + 1 : Nat) : Int) := by rw [wrap_in (by omega) (by omega)]; omega
    rw [limits_Check.l1, if_pos (by omega), if_pos (by omega), if_pos (by omega), if_pos (by omega), of_f _ _ _ _ _ hl, Option.bind_some, e1, overS]
    show (if rd many (i : Int) > mostOf l K (i : Int) then _ else _) = _
    by_cases hc : rd many (i : Int) > mostOf l K (i : Int)
    · rw [if_pos hc, if_pos hc, if_pos (by omega), ih k (i + 1) _ (by omega) (by omega) (by rw [List.length_append, List.length_singleton]; omega), List.append_assoc, List.append_assoc]
    · rw [if_neg hc, if_neg hc, ih k (i + 1) _ (by omega) (by omega) (by omega), List.nil_append]
theorem rd_set (xs : List Int) (i j : Nat) (v : Int) (h : i < xs.length) : rd (xs.set i v) (j : Int) = if i = j then v else rd xs (j : Int) := by
  unfold rd
  rw [Int.toNat_natCast, List.getD_eq_getElem?_getD, List.getD_eq_getElem?_getD, List.getElem?_set]
  by_cases hij : i = j
  · rw [if_pos hij, if_pos hij, if_pos h, Option.getD_some]
  · rw [if_neg hij, if_neg hij]
theorem count_loop {n : ByteArray} {b u : Int} {l : List S42} (hl : l.length ≤ 1000000) (K : List S47) (hK : K.length ≤ 100) (deck : List Int) (hn : deck.length ≤ 1000) (hr : InR K.length deck) (cost : Int) (m : Nat) :
    ∀ (k i : Nat) (many : List Int) (units : Int), i + m = deck.length → m + K.length + 1 < k → many.length = K.length → (∀ j : Nat, j < K.length → 0 ≤ rd many (j : Int) ∧ rd many (j : Int) + m ≤ 1000) → 0 ≤ units → units + m ≤ 1000 →
      limits_Check.l0 k K cost many units deck (deck.length : Int) (i : Int) n b u l = some (overS l K (fun j => rd many (j : Int) + ((deck.drop i).count (j : Int) : Nat)) 0 K.length ++ tailS b u (units + unitsS K (deck.drop i)) cost, 0) := by
  induction m with
  | zero =>
    intro k i many units h1 h2 h3 h4 h5 h6
    obtain ⟨k, rfl⟩ : ∃ q, k = q + 1 := ⟨k - 1, by omega⟩
    have := over_loop (n := n) (b := b) (u := u) hl K hK many h3 cost units K.length k 0 [] (by omega) (by omega) (Nat.le_refl _)
    rw [List.nil_append] at this
    rw [limits_Check.l0, if_neg (by omega), List.drop_eq_nil_of_le (by omega), unitsS, Int.add_zero]
    refine (show limits_Check.l1 k K [] cost units many (many.length : Int) ((0 : Nat) : Int) n b u l = _ from this).trans ?_
    rw [overS_congr (c' := fun j => rd many (j : Int) + (List.count (j : Int) ([] : List Int) : Nat)) K.length 0 (fun j _ _ => by simp)]
  | succ m ih =>
    intro k i many units h1 h2 h3 h4 h5 h6
    obtain ⟨k, rfl⟩ : ∃ q, k = q + 1 := ⟨k - 1, by omega⟩
    have hd := hr _ (rd_mem deck i (by omega))
    have e1 : wrap64 ((i : Int) + 1) = ((i + 1 : Nat) : Int) := by rw [wrap_in (by omega) (by omega)]; omega
    have hdrop := drop_rd deck i (by omega)
    rw [limits_Check.l0, if_pos (by omega), if_pos (by omega), if_pos (by omega), if_pos hd.1, if_pos (by omega), Option.bind_some, if_pos hd.2, e1]
    generalize rd deck (i : Int) = d at hd hdrop ⊢
    obtain ⟨d, rfl⟩ := Int.eq_ofNat_of_zero_le hd.1
    have hdl : d < K.length := by omega
    obtain ⟨q0, q1⟩ := h4 d hdl
    have e2 : wrap64 (rd many (d : Int) + 1) = rd many (d : Int) + 1 := wrap_in (by omega) (by omega)
    have e3 : wrap64 (units + 1) = units + 1 := wrap_in (by omega) (by omega)
    rw [e2, e3, Int.toNat_natCast, hdrop]
    have hset : ∀ j : Nat, rd (many.set d (rd many (d : Int) + 1)) (j : Int) = if d = j then rd many (d : Int) + 1 else rd many (j : Int) := fun j => rd_set many d j _ (by omega)
    have hlen : (many.set d (rd many (d : Int) + 1)).length = K.length := by rw [List.length_set]; exact h3
    have hb : ∀ j : Nat, j < K.length → 0 ≤ rd (many.set d (rd many (d : Int) + 1)) (j : Int) ∧ rd (many.set d (rd many (d : Int) + 1)) (j : Int) + m ≤ 1000 := fun j hj => by
      have := h4 j hj
      rw [hset j]
      by_cases hdj : d = j
      · rw [if_pos hdj]; omega
      · rw [if_neg hdj]; omega
    have hc : overS l K (fun j => rd (many.set d (rd many (d : Int) + 1)) (j : Int) + ((deck.drop (i + 1)).count (j : Int) : Nat)) 0 K.length = overS l K (fun j => rd many (j : Int) + ((((d : Int) :: deck.drop (i + 1))).count (j : Int) : Nat)) 0 K.length := by
      refine overS_congr K.length 0 (fun j _ hj => ?_)
      show rd (many.set d (rd many (d : Int) + 1)) (j : Int) + ((deck.drop (i + 1)).count (j : Int) : Nat) = rd many (j : Int) + ((((d : Int) :: deck.drop (i + 1))).count (j : Int) : Nat)
      rw [hset j, List.count_cons]
      by_cases hdj : d = j
      · subst hdj
        rw [if_pos rfl, if_pos (by rw [beq_self_eq_true])]
        omega
      · rw [if_neg hdj, if_neg (by rw [beq_iff_eq]; omega)]
        omega
    rw [← hc, unitsS]
    by_cases hu : (rd_T47 K (d : Int)).f1 = 0
    · rw [if_pos hu, if_pos hu, ih k (i + 1) _ _ (by omega) (by omega) hlen hb (by omega) (by omega), Int.add_assoc]
    · rw [if_neg hu, if_neg hu, ih k (i + 1) _ _ (by omega) (by omega) hlen hb (by omega) (by omega), Int.zero_add]
theorem check_yes {B : Nat} {n : ByteArray} {b u : Int} {l : List S42} {K : List S47} {deck : List Int} (hB : Fits B n l) (hK : K.length ≤ 100) (h : Asked n b u l K deck) (k : Nat) (hk : B + 1000 < k) : limits_Check.f k n b u l K deck = some (checkS b u l K deck, 0) := by
  obtain ⟨h1, h2, h3⟩ := h
  have h4 := h1.len
  have hz : ∀ j : Nat, rd (List.replicate K.length (0 : Int)) (j : Int) = 0 := fun j => by
    unfold rd
    rw [List.getD_eq_getElem?_getD, List.getElem?_replicate]
    split <;> rfl
  unfold limits_Check.f
  rw [cost_yes hB ⟨h1, h2, h3⟩ k hk, Option.bind_some, if_pos rfl, if_pos (by omega), if_pos (by omega), Int.toNat_natCast]
  have := count_loop (n := n) (b := b) (u := u) (l := l) (by omega) K hK deck (by omega) h3 (costS l K deck) deck.length k 0 (List.replicate K.length 0) 0 (by omega) (by omega) List.length_replicate (fun j _ => by rw [hz j]; omega) (by omega) (by omega)
  refine (show limits_Check.l0 k K (costS l K deck) (List.replicate K.length 0) 0 deck (deck.length : Int) ((0 : Nat) : Int) n b u l = _ from this).trans ?_
  rw [List.drop_zero, Int.zero_add]
  unfold checkS
  rw [overS_congr (c' := fun j => (deck.count (j : Int) : Nat)) K.length 0 (fun j _ _ => by rw [hz j, Int.zero_add])]
theorem check_no {B : Nat} {n : ByteArray} {b u : Int} {l : List S42} {K : List S47} {deck : List Int} (hl : l.length ≤ 100) (hB : Fits B n l) (h : ¬ Asked n b u l K deck) (k : Nat) (hk : B + 1000 < k) : limits_Check.f k n b u l K deck = some ([], 2) := by
  unfold limits_Check.f
  rw [cost_no hl hB h k hk, Option.bind_some, if_neg (by decide)]

/-! ### is a breach among some? -/
theorem in_loop (L : List S35) (a c : Int) (hL : L.length ≤ 1000000) (m : Nat) : ∀ k i, i + m = L.length → m < k → joustlaw30_in.l0 k L (L.length : Int) (i : Int) a c = some ((L.drop i).any (fun x => x.f0 == a && x.f1 == c)) := by
  induction m with
  | zero =>
    intro k i h1 h2
    obtain ⟨k, rfl⟩ : ∃ q, k = q + 1 := ⟨k - 1, by omega⟩
    rw [joustlaw30_in.l0, if_neg (by omega), List.drop_eq_nil_of_le (by omega), List.any_nil]
  | succ m ih =>
    intro k i h1 h2
    obtain ⟨k, rfl⟩ : ∃ q, k = q + 1 := ⟨k - 1, by omega⟩
    have e1 : wrap64 ((i : Int) + 1) = ((i + 1 : Nat) : Int) := by rw [wrap_in (by omega) (by omega)]; omega
    have hi : i < L.length := by omega
    have hd : L.drop i = rd_T35 L (i : Int) :: L.drop (i + 1) := by
      rw [List.drop_eq_getElem_cons hi]
      unfold rd_T35
      rw [Int.toNat_natCast, List.getD_eq_getElem?_getD, List.getElem?_eq_getElem hi, Option.getD_some]
    rw [joustlaw30_in.l0, if_pos (by omega), if_pos (by omega), if_pos (by omega), e1, hd, List.any_cons, ih k (i + 1) (by omega) (by omega)]
    cases h : ((rd_T35 L (i : Int)).f0 == a && (rd_T35 L (i : Int)).f1 == c) with
    | true => rw [if_pos rfl, Bool.true_or]
    | false => rw [if_neg Bool.false_ne_true, Bool.false_or]
theorem in_f (L : List S35) (a c : Int) (hL : L.length ≤ 1000000) (k : Nat) (hk : L.length < k) : ∃ r, joustlaw30_in.f k L a c = some r ∧ (r = true ↔ (⟨a, c⟩ : S35) ∈ L) := by
  refine ⟨_, in_loop L a c hL L.length k 0 (by omega) hk, ?_⟩
  rw [List.drop_zero, List.any_eq_true]
  constructor
  · rintro ⟨x, hx, h⟩
    rw [Bool.and_eq_true, beq_iff_eq, beq_iff_eq] at h
    obtain ⟨x0, x1⟩ := x
    obtain ⟨rfl, rfl⟩ := h
    exact hx
  · intro h
    exact ⟨_, h, by rw [beq_self_eq_true, beq_self_eq_true]; rfl⟩
end Go.Proofs.YtgcmgfljbadljaaGreatDoor.PureL
