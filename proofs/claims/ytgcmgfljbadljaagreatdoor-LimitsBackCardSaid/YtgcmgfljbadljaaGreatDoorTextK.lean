/-
  The tokens of a format's text are those that were written.
-/
import Derived.Test.YtgcmgfljbadljaaGreatDoorAgainS
import Derived.Test.YtgcmgfljbadljaaGreatDoorLawL
import Derived.Test.YtgcmgfljbadljaaGreatDoorHandY
import Derived.Test.YtgcmgfljbadljaaGreatDoorHandL
import Derived.Shelf.Unicode.DecodeLastEight
/-
  Numbers up to 4095, written in ten digits, are read as such: as a token, and by Atoi; words are good tokens.
-/
namespace Go.Proofs.YtgcmgfljbadljaaGreatDoor.PureK
set_option linter.unusedVariables false
set_option linter.unusedSimpArgs false
open Go.RowKit Go.Lib Go.Proofs.YtgcmgfljbadljaaGreatDoorW.PrintWords Go.Proofs.YtgcmgfljbadljaaGreatDoorW.PrintLast Go.Proofs.YtgcmgfljbadljaaGreatDoorW.PrintMore Go.Proofs.YtgcmgfljbadljaaGreatDoor.L Go.Proofs.YtgcmgfljbadljaaGreatDoor.HandS Go.Proofs.YtgcmgfljbadljaaGreatDoor.HandF Go.Proofs.YtgcmgfljbadljaaGreatDoor.HandM Go.Proofs.YtgcmgfljbadljaaGreatDoor.HandW Go.Proofs.YtgcmgfljbadljaaGreatDoor.HandR Go.Proofs.YtgcmgfljbadljaaGreatDoor.Iter Go.Proofs.YtgcmgfljbadljaaGreatDoor.PureS Go.Proofs.YtgcmgfljbadljaaGreatDoor.PureL

/-! ### tokens that are good -/
theorem extract_all (s : ByteArray) : s.extract 0 s.size = s := ByteArray.extract_zero_size
theorem good_word (s : ByteArray) (x : S50) (h : isWord s = true) : PureS.Good (⟨1, s, x⟩ : S74) := by
  unfold isWord at h
  rw [Bool.and_eq_true, Bool.and_eq_true, decide_eq_true_iff, decide_eq_true_iff, decide_eq_true_iff] at h
  obtain ⟨h1, h2, h3⟩ := h
  have ht : tokAt s 0 = (1, s.size, 0) := by
    unfold tokAt
    rw [extract_all]
    unfold tok
    rw [if_pos h1, if_neg (by omega), h2]
  refine ⟨s, 0, by omega, by rw [ht], by rw [ht]; rfl, ?_⟩
  rw [ht]
  show s = s.extract 0 (0 + s.size)
  rw [Nat.zero_add, extract_all]
theorem num_tok64 : ∀ a b : Fin 64, (tok (itoaB ((64 * a.1 + b.1 : Nat) : Int)) = (2, (itoaB ((64 * a.1 + b.1 : Nat) : Int)).size, 0) ∧ 0 < (itoaB ((64 * a.1 + b.1 : Nat) : Int)).size) := by decide +kernel
theorem num_atoi64 : ∀ a b : Fin 64, strconv_Atoi.f (itoaB ((64 * a.1 + b.1 : Nat) : Int)) = some (((64 * a.1 + b.1 : Nat) : Int), none) := by decide +kernel
theorem part64 (n : Nat) (h : n ≤ 4000) : ∃ a b : Fin 64, 64 * a.1 + b.1 = n := ⟨⟨n / 64, by omega⟩, ⟨n % 64, by omega⟩, by show 64 * (n / 64) + n % 64 = n; omega⟩
end Go.Proofs.YtgcmgfljbadljaaGreatDoor.PureK
/-
  The binary search among limits in the order of their names: where it ends.
-/
namespace Go.Proofs.YtgcmgfljbadljaaGreatDoor.PureK
set_option linter.unusedVariables false
set_option linter.unusedSimpArgs false
open Go.RowKit Go.Lib Go.Shelf Go.Proofs.YtgcmgfljbadljaaGreatDoorW.PrintWords Go.Proofs.YtgcmgfljbadljaaGreatDoorW.PrintLast Go.Proofs.YtgcmgfljbadljaaGreatDoorW.PrintMore Go.Proofs.YtgcmgfljbadljaaGreatDoor.L Go.Proofs.YtgcmgfljbadljaaGreatDoor.HandS Go.Proofs.YtgcmgfljbadljaaGreatDoor.HandF Go.Proofs.YtgcmgfljbadljaaGreatDoor.HandM Go.Proofs.YtgcmgfljbadljaaGreatDoor.Iter Go.Proofs.YtgcmgfljbadljaaGreatDoor.PureS Go.Proofs.YtgcmgfljbadljaaGreatDoor.PureL

theorem bl_trans (a : List UInt8) : ∀ b c : List UInt8, Op.bytesLess a b = true → Op.bytesLess b c = true → Op.bytesLess a c = true := by
  induction a with
  | nil =>
    intro b c h1 h2
    cases c with
    | nil => cases b <;> simp [Op.bytesLess] at h2
    | cons z c => rfl
  | cons x a ih =>
    intro b c h1 h2
    cases b with
    | nil => simp [Op.bytesLess] at h1
    | cons y b =>
      cases c with
      | nil => simp [Op.bytesLess] at h2
      | cons z c =>
        simp only [Op.bytesLess, Bool.or_eq_true, Bool.and_eq_true, decide_eq_true_iff, beq_iff_eq, UInt8.lt_iff_toNat_lt] at h1 h2 ⊢
        rcases h1 with h1 | ⟨rfl, h1⟩
        · rcases h2 with h2 | ⟨rfl, h2⟩
          · exact .inl (by omega)
          · exact .inl h1
        · rcases h2 with h2 | ⟨rfl, h2⟩
          · exact .inl h2
          · exact .inr ⟨rfl, ih b c h1 h2⟩
theorem bl_irrefl (a : List UInt8) : Op.bytesLess a a = false := by
  induction a with
  | nil => rfl
  | cons x a ih => simp [Op.bytesLess, ih]
theorem bl_asymm {a b : List UInt8} (h : Op.bytesLess a b = true) : Op.bytesLess b a = false := by
  cases h2 : Op.bytesLess b a with
  | false => rfl
  | true =>
    have := bl_trans a b a h h2
    rw [bl_irrefl] at this
    cases this
abbrev less (x : S42) (n : ByteArray) : Prop := Op.bytesLess x.f0.toList n.toList = true
/-- In the order of their names. -/
def Sorted (l : List S42) : Prop := ∀ i j : Nat, i < j → j < l.length → less (rd_T42 l (i : Int)) (rd_T42 l (j : Int)).f0
theorem sorted_of {l : List S42} (h : ∀ j : Nat, 0 < j → j < l.length → less (rd_T42 l ((j - 1 : Nat) : Int)) (rd_T42 l (j : Int)).f0) : Sorted l := by
  intro i j
  induction j with
  | zero => intro h1; omega
  | succ j ih =>
    intro h1 h2
    have hs := h (j + 1) (by omega) h2
    rw [Nat.add_sub_cancel] at hs
    rcases Nat.lt_or_ge i j with h3 | h3
    · exact bl_trans _ _ _ (ih h3 (by omega)) hs
    · obtain rfl : i = j := by omega
      exact hs
theorem cmp_neg (a x : ByteArray) : cmpF a x < 0 ↔ Op.bytesLess a.toList x.toList = true := by
  unfold cmpF
  by_cases h : Op.bytesLess a.toList x.toList = true
  · rw [if_pos h]; exact ⟨fun _ => h, fun _ => by decide⟩
  · rw [if_neg h]
    constructor
    · intro h2
      split at h2 <;> omega
    · intro h2; exact absurd h2 h
theorem cmp_zero (a x : ByteArray) : (cmpF a x == 0) = true ↔ a.toList = x.toList := by
  unfold cmpF
  by_cases h : Op.bytesLess a.toList x.toList = true
  · rw [if_pos h]
    constructor
    · intro h2; exact absurd h2 (by decide)
    · intro h2; rw [h2, bl_irrefl] at h; cases h
  · rw [if_neg h]
    by_cases h2 : Op.bytesLess x.toList a.toList = true
    · rw [if_pos h2]
      constructor
      · intro h3; exact absurd h3 (by decide)
      · intro h3; rw [h3, bl_irrefl] at h2; cases h2
    · rw [if_neg h2]
      refine ⟨fun _ => ?_, fun _ => by decide⟩
      have h3 := leq_flip a.toList x.toList
      rw [Bool.not_eq_true] at h h2
      rw [h, h2, Bool.false_or] at h3
      exact beq_iff_eq.1 h3
theorem bs_spec {l : List S42} (hs : Sorted l) (x : ByteArray) (n : Nat) : ∀ lo hi : Nat, lo ≤ hi → hi ≤ l.length → hi - lo ≤ n → (∀ i : Nat, i < lo → less (rd_T42 l (i : Int)) x) → (∀ i : Nat, hi ≤ i → i < l.length → ¬ less (rd_T42 l (i : Int)) x) →
    bsG l x n lo hi ≤ l.length ∧ (∀ i : Nat, i < bsG l x n lo hi → less (rd_T42 l (i : Int)) x) ∧ (∀ i : Nat, bsG l x n lo hi ≤ i → i < l.length → ¬ less (rd_T42 l (i : Int)) x) := by
  induction n with
  | zero =>
    intro lo hi h1 h2 h3 h4 h5
    obtain rfl : lo = hi := by omega
    exact ⟨h2, h4, h5⟩
  | succ n ih =>
    intro lo hi h1 h2 h3 h4 h5
    rw [bsG]
    by_cases hlt : lo < hi
    · rw [if_pos hlt]
      by_cases hc : cmpF (rd_T42 l (((lo + hi) / 2 : Nat) : Int)).f0 x < 0
      · rw [if_pos hc]
        have hm := (cmp_neg _ _).1 hc
        refine ih _ _ (by omega) h2 (by omega) (fun i hi2 => ?_) h5
        rcases Nat.lt_or_ge i ((lo + hi) / 2) with h6 | h6
        · exact bl_trans _ _ _ (hs i ((lo + hi) / 2) h6 (by omega)) hm
        · obtain rfl : i = (lo + hi) / 2 := by omega
          exact hm
      · rw [if_neg hc]
        have hm : ¬ less (rd_T42 l (((lo + hi) / 2 : Nat) : Int)) x := fun h => hc ((cmp_neg _ _).2 h)
        refine ih _ _ (by omega) (by omega) (by omega) h4 (fun i h6 h7 h8 => ?_)
        rcases Nat.lt_or_ge ((lo + hi) / 2) i with h9 | h9
        · exact hm (bl_trans _ _ _ (hs ((lo + hi) / 2) i h9 h7) h8)
        · obtain rfl : i = (lo + hi) / 2 := by omega
          exact hm h8
    · rw [if_neg hlt]
      obtain rfl : lo = hi := by omega
      exact ⟨h2, h4, h5⟩
theorem bsI_spec {l : List S42} (hs : Sorted l) (x : ByteArray) : bsI l x ≤ l.length ∧ (∀ i : Nat, i < bsI l x → less (rd_T42 l (i : Int)) x) ∧ (∀ i : Nat, bsI l x ≤ i → i < l.length → ¬ less (rd_T42 l (i : Int)) x) :=
  bs_spec hs x l.length 0 l.length (by omega) (Nat.le_refl _) (by omega) (fun i h => by omega) (fun i h1 h2 => by omega)
/-- A name behind all others. -/
theorem behind {l : List S42} (hs : Sorted l) (x : ByteArray) (h : ∀ i : Nat, i < l.length → less (rd_T42 l (i : Int)) x) : bsI l x = l.length ∧ isAt l x (bsI l x) = false := by
  obtain ⟨h1, h2, h3⟩ := bsI_spec hs x
  have e : bsI l x = l.length := by
    rcases Nat.lt_or_ge (bsI l x) l.length with h4 | h4
    · exact absurd (h _ h4) (h3 _ (Nat.le_refl _) h4)
    · omega
  refine ⟨e, ?_⟩
  unfold isAt
  rw [e, decide_eq_false (Nat.lt_irrefl _), Bool.false_and]
theorem rd42_snoc (l : List S42) (x : S42) (j : Nat) : rd_T42 (l ++ [x]) (j : Int) = if j < l.length then rd_T42 l (j : Int) else if j = l.length then x else z42 := by
  unfold rd_T42
  rw [Int.toNat_natCast, List.getD_eq_getElem?_getD, List.getD_eq_getElem?_getD, List.getElem?_append]
  by_cases h : j < l.length
  · rw [if_pos h, if_pos h]
  · rw [if_neg h, if_neg h]
    by_cases h2 : j = l.length
    · rw [if_pos h2, h2, Nat.sub_self]; rfl
    · rw [if_neg h2]
      obtain ⟨m, hm⟩ : ∃ m, j - l.length = m + 1 := ⟨j - l.length - 1, by omega⟩
      rw [hm]; rfl
end Go.Proofs.YtgcmgfljbadljaaGreatDoor.PureK
namespace Go.Proofs.YtgcmgfljbadljaaGreatDoor.PureK
set_option linter.unusedVariables false
set_option linter.unusedSimpArgs false
open Go.RowKit Go.Lib Go.Shelf Go.Proofs.YtgcmgfljbadljaaGreatDoorW.PrintWords Go.Proofs.YtgcmgfljbadljaaGreatDoorW.PrintLast Go.Proofs.YtgcmgfljbadljaaGreatDoorW.PrintMore Go.Proofs.YtgcmgfljbadljaaGreatDoor.L Go.Proofs.YtgcmgfljbadljaaGreatDoor.HandS Go.Proofs.YtgcmgfljbadljaaGreatDoor.HandF Go.Proofs.YtgcmgfljbadljaaGreatDoor.HandM Go.Proofs.YtgcmgfljbadljaaGreatDoor.HandW Go.Proofs.YtgcmgfljbadljaaGreatDoor.HandR Go.Proofs.YtgcmgfljbadljaaGreatDoor.Iter Go.Proofs.YtgcmgfljbadljaaGreatDoor.PureS Go.Proofs.YtgcmgfljbadljaaGreatDoor.PureL

theorem good_num (v : Int) (x : S50) (h0 : 0 ≤ v) (h1 : v ≤ 4000) : PureS.Good (⟨2, itoaB v, x⟩ : S74) := by
  obtain ⟨n, rfl⟩ := Int.eq_ofNat_of_zero_le h0
  obtain ⟨a, b, hn⟩ := part64 n (by omega)
  have h := num_tok64 a b
  rw [hn] at h
  obtain ⟨h2, h3⟩ := h
  have ht : tokAt (itoaB (n : Int)) 0 = (2, (itoaB (n : Int)).size, 0) := by
    unfold tokAt
    rw [extract_all]
    exact h2
  refine ⟨itoaB (n : Int), 0, h3, by rw [ht], by rw [ht]; rfl, ?_⟩
  rw [ht]
  show itoaB (n : Int) = (itoaB (n : Int)).extract 0 (0 + (itoaB (n : Int)).size)
  rw [Nat.zero_add, extract_all]
theorem atoi_num (v : Int) (h0 : 0 ≤ v) (h1 : v ≤ 4000) : strconv_Atoi.f (itoaB v) = some (v, none) := by
  obtain ⟨n, rfl⟩ := Int.eq_ofNat_of_zero_le h0
  obtain ⟨a, b, hn⟩ := part64 n (by omega)
  have h := num_atoi64 a b
  rwa [hn] at h
theorem good_mark (s : ByteArray) (x : S50) (h : tok s = (3, s.size, 0)) (h0 : 0 < s.size) : PureS.Good (⟨3, s, x⟩ : S74) := by
  have ht : tokAt s 0 = (3, s.size, 0) := by
    unfold tokAt
    rw [extract_all]
    exact h
  refine ⟨s, 0, h0, by rw [ht], by rw [ht]; rfl, ?_⟩
  rw [ht]
  show s = s.extract 0 (0 + s.size)
  rw [Nat.zero_add, extract_all]
theorem tok_open : tok wOpen = (3, wOpen.size, 0) := by decide +kernel
theorem tok_shut : tok wShut = (3, wShut.size, 0) := by decide +kernel
theorem word_format : isWord wFormat = true := by decide +kernel
theorem word_budget : isWord wBudget = true := by decide +kernel
theorem word_units : isWord wUnits = true := by decide +kernel
theorem word_ban : isWord wBan = true := by decide +kernel
theorem word_limit : isWord wLimit = true := by decide +kernel

/-! ### the text, token by token -/
abbrev Key := Int × ByteArray
def tk (k : Key) : S74 := ⟨k.1, k.2, ⟨0, 0⟩⟩
/-- Tokens of a line. -/
def lineK (ks : List Key) : List UInt8 := lineL (ks.map Prod.snd)
def headKs (n : ByteArray) (b u : Int) : List Key := [(1, wFormat), (1, n), (3, wOpen), (1, wBudget), (2, itoaB b), (1, wUnits), (2, itoaB u)]
def limitKs (x : S42) : List Key := if x.f1 = 0 ∧ x.f2 = 0 then [(1, wBan), (1, x.f0)] else [(1, wLimit), (2, itoaB x.f1), (2, itoaB x.f2), (1, x.f0)]
def limitsKs : List S42 → List Key
  | [] => []
  | x :: l => limitKs x ++ limitsKs l
def allKs (n : ByteArray) (b u : Int) (l : List S42) : List Key := headKs n b u ++ (limitsKs l ++ [(3, wShut)])
theorem laid_one (k : Key) (hk : PureS.Good (tk k)) (sep r : List UInt8) (hs : sep ∈ sepsL) (T : List S74) (h : Laid r T) : Laid (k.2.data.toList ++ (sep ++ r)) (tk k :: T) := Laid.tok (tk k) sep r T hk hs h
theorem line_two (a b : ByteArray) (r : List UInt8) : lineL [a, b] ++ r = a.data.toList ++ ([32] ++ (b.data.toList ++ ([32, 10] ++ r))) := by
  simp [lineL, Lib.join, List.intercalate]
theorem line_three (a b c : ByteArray) (r : List UInt8) : lineL [a, b, c] ++ r = a.data.toList ++ ([32] ++ (b.data.toList ++ ([32] ++ (c.data.toList ++ ([32, 10] ++ r))))) := by
  simp [lineL, Lib.join, List.intercalate]
theorem line_four (a b c d : ByteArray) (r : List UInt8) : lineL [a, b, c, d] ++ r = a.data.toList ++ ([32] ++ (b.data.toList ++ ([32] ++ (c.data.toList ++ ([32] ++ (d.data.toList ++ ([32, 10] ++ r))))))) := by
  simp [lineL, Lib.join, List.intercalate]
theorem line_one (a : ByteArray) : lineL [a] = a.data.toList ++ ([32] ++ [10]) := by
  simp [lineL, Lib.join, List.intercalate]
theorem m32 : ([32] : List UInt8) ∈ sepsL := by decide
theorem m10 : ([10] : List UInt8) ∈ sepsL := by decide
theorem m3210 : ([32, 10] : List UInt8) ∈ sepsL := by decide
theorem limit_of {n : ByteArray} {b u : Int} {l : List S42} (h : MayP n b u l) (x : S42) (hx : x ∈ l) : isWord x.f0 = true ∧ (0 ≤ x.f1 ∧ x.f1 ≤ 3) ∧ (0 ≤ x.f2 ∧ x.f2 ≤ 100) := by
  obtain ⟨j, hj, rfl⟩ := List.mem_iff_getElem.1 hx
  have e : rd_T42 l (j : Int) = l[j] := by
    unfold rd_T42
    rw [Int.toNat_natCast, List.getD_eq_getElem?_getD, List.getElem?_eq_getElem hj]
    rfl
  have h1 := (h.all j hj).1
  rw [e] at h1
  unfold okL at h1
  rw [Bool.and_eq_true, Bool.and_eq_true, Bool.and_eq_true, Bool.and_eq_true, decide_eq_true_iff, decide_eq_true_iff, decide_eq_true_iff, decide_eq_true_iff] at h1
  exact h1
theorem laid_limits (l : List S42) (hl : ∀ x ∈ l, isWord x.f0 = true ∧ (0 ≤ x.f1 ∧ x.f1 ≤ 3) ∧ (0 ≤ x.f2 ∧ x.f2 ≤ 100)) (r : List UInt8) (T : List S74) (h : Laid r T) : Laid (limitsL l ++ r) ((limitsKs l).map tk ++ T) := by
  induction l with
  | nil => exact h
  | cons x l ih =>
    have ih2 := ih (fun y hy => hl y (List.mem_cons_of_mem _ hy))
    obtain ⟨hw, ⟨m0, m1⟩, c0, c1⟩ := hl x (List.mem_cons_self ..)
    rw [limitsL, limitsKs, List.append_assoc, List.map_append, List.append_assoc]
    unfold limitWs limitKs
    by_cases hz : x.f1 = 0 ∧ x.f2 = 0
    · rw [if_pos hz, if_pos hz, line_two]
      exact laid_one (1, wBan) (good_word _ _ word_ban) _ _ m32 _ (laid_one (1, x.f0) (good_word _ _ hw) _ _ m3210 _ ih2)
    · rw [if_neg hz, if_neg hz, line_four]
      exact laid_one (1, wLimit) (good_word _ _ word_limit) _ _ m32 _ (laid_one (2, itoaB x.f1) (good_num _ _ m0 (by omega)) _ _ m32 _ (laid_one (2, itoaB x.f2) (good_num _ _ c0 (by omega)) _ _ m32 _ (laid_one (1, x.f0) (good_word _ _ hw) _ _ m3210 _ ih2)))
theorem laid_write {n : ByteArray} {b u : Int} {l : List S42} (h : MayP n b u l) : Laid (writeL n b u l) ((allKs n b u l).map tk) := by
  have hl := limit_of h
  unfold writeL headL allKs
  rw [List.append_assoc, List.map_append, List.map_append]
  have e : lineL [wShut] = wShut.data.toList ++ ([32] ++ [10]) := line_one _
  have h3 : Laid (lineL [wShut]) [tk (3, wShut)] := by
    rw [e]
    exact laid_one (3, wShut) (good_mark _ _ tok_shut (by decide)) _ _ m32 _ (Laid.fin [10] m10)
  have h2 := laid_limits l hl _ _ h3
  rw [line_three, line_four]
  exact laid_one (1, wFormat) (good_word _ _ word_format) _ _ m32 _ (laid_one (1, n) (good_word _ _ h.word) _ _ m32 _ (laid_one (3, wOpen) (good_mark _ _ tok_open (by decide)) _ _ m3210 _
    (laid_one (1, wBudget) (good_word _ _ word_budget) _ _ m32 _ (laid_one (2, itoaB b) (good_num _ _ h.b0 h.b1) _ _ m32 _ (laid_one (1, wUnits) (good_word _ _ word_units) _ _ m32 _ (laid_one (2, itoaB u) (good_num _ _ h.u0 (by have := h.u1; omega)) _ _ m3210 _ h2))))))

/-! ### how long it is -/
theorem W_four (s : ByteArray) (p : Nat) : W s p ≤ 4 := by
  unfold W
  rw [decode_at]
  exact decodeN_le4 _ _ _ _ _
theorem wordL_four (s : ByteArray) (n : Nat) : ∀ p r e m : Nat, p ≤ 4 * r → e ≤ 4 * m → (wordL s n p r e m).1 ≤ 4 * (wordL s n p r e m).2 := by
  induction n with
  | zero => intro p r e m _ h; exact h
  | succ n ih =>
    intro p r e m h1 h2
    have hw := W_four s p
    rw [wordL]
    split
    · split
      · exact ih _ _ _ _ (by omega) h2
      · exact ih _ _ _ _ (by omega) (by omega)
    · exact h2
theorem word_size (s : ByteArray) (h : isWord s = true) : s.size ≤ 96 := by
  unfold isWord at h
  rw [Bool.and_eq_true, Bool.and_eq_true, decide_eq_true_iff, decide_eq_true_iff, decide_eq_true_iff] at h
  obtain ⟨h1, h2, h3⟩ := h
  have := wordL_four s s.size 0 0 0 0 (Nat.le_refl _) (Nat.le_refl _)
  unfold wordS at h2 h3
  omega
theorem num_size64 : ∀ a b : Fin 64, (itoaB ((64 * a.1 + b.1 : Nat) : Int)).size ≤ 4 := by decide +kernel
theorem num_size (v : Int) (h0 : 0 ≤ v) (h1 : v ≤ 4000) : (itoaB v).size ≤ 4 := by
  obtain ⟨n, rfl⟩ := Int.eq_ofNat_of_zero_le h0
  obtain ⟨a, b, hn⟩ := part64 n (by omega)
  have h := num_size64 a b
  rwa [hn] at h
theorem len_bytes (s : ByteArray) : s.data.toList.length = s.size := Array.length_toList ..
theorem limits_size (l : List S42) (hl : ∀ x ∈ l, isWord x.f0 = true ∧ (0 ≤ x.f1 ∧ x.f1 ≤ 3) ∧ (0 ≤ x.f2 ∧ x.f2 ≤ 100)) : (limitsL l).length ≤ 120 * l.length := by
  induction l with
  | nil => exact Nat.le_refl _
  | cons x l ih =>
    have ih2 := ih (fun y hy => hl y (List.mem_cons_of_mem _ hy))
    obtain ⟨hw, ⟨m0, m1⟩, c0, c1⟩ := hl x (List.mem_cons_self ..)
    have hs := word_size _ hw
    have s1 : (Lib.itoa x.f1).length ≤ 4 := num_size x.f1 m0 (by omega)
    have s2 : (Lib.itoa x.f2).length ≤ 4 := num_size x.f2 c0 (by omega)
    rw [limitsL, List.length_append, List.length_cons]
    have : (lineL (limitWs x)).length ≤ 120 := by
      unfold limitWs
      by_cases hz : x.f1 = 0 ∧ x.f2 = 0
      · rw [if_pos hz]
        have e := line_two wBan x.f0 []
        rw [List.append_nil] at e
        rw [e]
        simp only [List.length_append, len_bytes, List.length_cons, List.length_nil]
        have : wBan.size = 3 := rfl
        omega
      · rw [if_neg hz]
        have e := line_four wLimit (itoaB x.f1) (itoaB x.f2) x.f0 []
        rw [List.append_nil] at e
        rw [e]
        simp only [List.length_append, len_bytes, List.length_cons, List.length_nil]
        have : wLimit.size = 5 := rfl
        omega
    omega
theorem write_size {n : ByteArray} {b u : Int} {l : List S42} (h : MayP n b u l) : (writeL n b u l).length ≤ 10000 := by
  have h1 := limits_size l (limit_of h)
  have h2 := word_size n h.word
  have h3 : (Lib.itoa b).length ≤ 4 := num_size b h.b0 h.b1
  have h4 : (Lib.itoa u).length ≤ 4 := num_size u h.u0 (by have := h.u1; omega)
  have h5 := h.len
  have e1 := line_three wFormat n wOpen []
  have e2 := line_four wBudget (itoaB b) wUnits (itoaB u) []
  have e3 := line_one wShut
  rw [List.append_nil] at e1 e2
  unfold writeL headL
  rw [e1, e2, e3]
  simp only [List.length_append, len_bytes, List.length_cons, List.length_nil]
  have q1 : wFormat.size = 6 := rfl
  have q2 : wOpen.size = 1 := rfl
  have q3 : wBudget.size = 6 := rfl
  have q4 : wUnits.size = 5 := rfl
  have q5 : wShut.size = 1 := rfl
  omega
theorem write_fits {n : ByteArray} {b u : Int} {l : List S42} (h : MayP n b u l) : fitsW n b u l := by
  refine ⟨by have := write_size h; omega, ⟨h.b0, by have := h.b1; omega⟩, ⟨h.u0, by have := h.u1; omega⟩, fun x hx => ?_⟩
  obtain ⟨_, ⟨m0, m1⟩, c0, c1⟩ := limit_of h x hx
  exact ⟨⟨m0, by omega⟩, c0, by omega⟩
theorem tk_key (ks : List Key) : (ks.map tk).map key = ks := by
  rw [List.map_map]
  exact (List.map_congr_left (fun k _ => rfl)).trans (List.map_id ks)
theorem tokens_write {n : ByteArray} {b u : Int} {l : List S42} (h : MayP n b u l) : ∃ T' e, tokens ⟨(writeL n b u l).toArray⟩ = (T' ++ [stop e], 0, 0, 0) ∧ T'.map key = allKs n b u l := by
  obtain ⟨T', e, h1, h2⟩ := again_tokens (⟨(writeL n b u l).toArray⟩ : ByteArray) (by have := write_size h; show (writeL n b u l).length ≤ _; omega) ((allKs n b u l).map tk) (laid_write h)
  exact ⟨T', e, h1, h2.trans (tk_key _)⟩
end Go.Proofs.YtgcmgfljbadljaaGreatDoor.PureK
