/-
  The tokens of a text, rune by rune, over numbers and lists alone; scan.Tokens comes to them.
-/
import Derived.Test.YtmgdkkkkanjadaaGreatDoorTokS
import Derived.Test.YtmgdkkkkanjadaaGreatDoorX6
namespace Go.Proofs.YtmgdkkkkanjadaaGreatDoor.PureS
set_option linter.unusedVariables false
set_option linter.unusedSimpArgs false
open Go.RowKit Go.Lib Go.Proofs.YtmgdkkkkanjadaaGreatDoorW.PrintWords Go.Proofs.YtmgdkkkkanjadaaGreatDoorW.PrintLast Go.Proofs.YtmgdkkkkanjadaaGreatDoorW.PrintMore Go.Proofs.YtmgdkkkkanjadaaGreatDoor.X Go.Proofs.YtmgdkkkkanjadaaGreatDoor.HandS Go.Proofs.YtmgdkkkkanjadaaGreatDoor.Iter

abbrev R := List S69 × Int × Int × Int
def fin (l : List S69) (x : S26) : R := (l ++ [(⟨0, (⟨#[]⟩ : ByteArray), x⟩ : S69)], 0, 0, 0)
def fail (e : Nat) (x : S26) : R := ([], (e : Int), x.f0, x.f1)
def blank (c : Nat) : Bool := c == 32 || c == 9 || c == 13
def tokAt (s : ByteArray) (p : Nat) : Nat × Nat × Nat := tok (s.extract p s.size)
def oneTok (s : ByteArray) (p : Nat) (x : S26) : S69 := ⟨((tokAt s p).1 : Int), s.extract p (p + (tokAt s p).2.1), x⟩
def toks (s : ByteArray) : Nat → Nat → S26 → Bool → Nat → List S69 → R
  | 0, _, x, _, _, l => fin l x
  | n + 1, p, x, rem, beh, l =>
    if p < s.size then
      if p < beh then toks s n (p + W s p) (nl s p x) rem beh l
      else if C s p = 10 then toks s n (p + W s p) (nl s p x) false beh l
      else if bad s p = true then fail 4 x
      else if ((rem || decide (C s p = 35)) || blank (C s p)) = true then toks s n (p + W s p) (nl s p x) (rem || decide (C s p = 35)) beh l
      else if (tokAt s p).2.2 = 0 then toks s n (p + W s p) (nl s p x) false (p + (tokAt s p).2.1) (l ++ [oneTok s p x])
      else fail (tokAt s p).2.2 x
    else fin l x
theorem toks_end {s : ByteArray} {n p : Nat} {x : S26} {rem : Bool} {beh : Nat} {l : List S69} (h : ¬ p < s.size) : toks s n p x rem beh l = fin l x := by
  cases n with
  | zero => rfl
  | succ n => rw [toks, if_neg h]
theorem toks_skip {s : ByteArray} {n p : Nat} {x : S26} {rem : Bool} {beh : Nat} {l : List S69} (h : p < s.size) (hb : p < beh) : toks s (n + 1) p x rem beh l = toks s n (p + W s p) (nl s p x) rem beh l := by
  rw [toks, if_pos h, if_pos hb]
theorem toks_line {s : ByteArray} {n p : Nat} {x : S26} {rem : Bool} {beh : Nat} {l : List S69} (h : p < s.size) (hb : beh ≤ p) (hc : C s p = 10) : toks s (n + 1) p x rem beh l = toks s n (p + W s p) (nl s p x) false beh l := by
  rw [toks, if_pos h, if_neg (by omega), if_pos hc]
theorem toks_bad {s : ByteArray} {n p : Nat} {x : S26} {rem : Bool} {beh : Nat} {l : List S69} (h : p < s.size) (hb : beh ≤ p) (hc : ¬ C s p = 10) (h1 : bad s p = true) : toks s (n + 1) p x rem beh l = fail 4 x := by
  rw [toks, if_pos h, if_neg (by omega), if_neg hc, if_pos h1]
theorem toks_blank {s : ByteArray} {n p : Nat} {x : S26} {rem : Bool} {beh : Nat} {l : List S69} (h : p < s.size) (hb : beh ≤ p) (hc : ¬ C s p = 10) (h1 : bad s p = false) (h2 : ((rem || decide (C s p = 35)) || blank (C s p)) = true) : toks s (n + 1) p x rem beh l = toks s n (p + W s p) (nl s p x) (rem || decide (C s p = 35)) beh l := by
  rw [toks, if_pos h, if_neg (by omega), if_neg hc, if_neg (by rw [h1]; exact Bool.false_ne_true), if_pos h2]
theorem toks_tok {s : ByteArray} {n p : Nat} {x : S26} {rem : Bool} {beh : Nat} {l : List S69} (h : p < s.size) (hb : beh ≤ p) (hc : ¬ C s p = 10) (h1 : bad s p = false) (h2 : ((rem || decide (C s p = 35)) || blank (C s p)) = false) :
    toks s (n + 1) p x rem beh l = if (tokAt s p).2.2 = 0 then toks s n (p + W s p) (nl s p x) false (p + (tokAt s p).2.1) (l ++ [oneTok s p x]) else fail (tokAt s p).2.2 x := by
  rw [toks, if_pos h, if_neg (by omega), if_neg hc, if_neg (by rw [h1]; exact Bool.false_ne_true), if_neg (by rw [h2]; exact Bool.false_ne_true)]

/-! ### where one is: the i-th spot of the text -/
structure Along (s : ByteArray) (i n p : Nat) (x : S26) : Prop where
  at_ : (spots s).drop i = walk s n p x
  fuel : s.size - p ≤ n
  le : p ≤ s.size
  fits : Fits p x
  ip : i ≤ p
theorem Along.start (s : ByteArray) : Along s 0 s.size 0 ⟨1, 1⟩ := ⟨rfl, by omega, by omega, ⟨by decide, by decide, by decide, by decide⟩, Nat.le_refl _⟩
theorem Along.get {s : ByteArray} {i n p : Nat} {x : S26} (h : Along s i n p x) : ∃ hi : i < (spots s).length, (spots s)[i] = ((p : Int), x) := by
  obtain ⟨r, hr⟩ := walk_head s n p x h.le h.fuel
  have e := h.at_
  rw [hr] at e
  have hi : i < (spots s).length := by
    have := congrArg List.length e
    rw [List.length_drop, List.length_cons] at this
    omega
  refine ⟨hi, ?_⟩
  rw [List.drop_eq_getElem_cons hi] at e
  exact (List.cons.inj e).1
theorem Along.step {s : ByteArray} {i n p : Nat} {x : S26} (h : Along s i (n + 1) p x) (hp : p < s.size) : Along s (i + 1) n (p + W s p) (nl s p x) := by
  have hw := W_pos s p
  have hf := h.fuel
  have hi := h.ip
  refine ⟨?_, by omega, step_le hp, h.fits.next, by omega⟩
  have e := h.at_
  rw [walk_step hp] at e
  obtain ⟨hl, _⟩ := h.get
  rw [List.drop_eq_getElem_cons hl] at e
  exact (List.cons.inj e).2
theorem Along.last {s : ByteArray} {i n p : Nat} {x : S26} (h : Along s i n p x) (hp : ¬ p < s.size) : (spots s).length = i + 1 := by
  have e := h.at_
  rw [walk_end hp] at e
  have := congrArg List.length e
  rw [List.length_drop, List.length_singleton] at this
  omega
theorem Along.pos {s : ByteArray} {i n p : Nat} {x : S26} (h : Along s i n p x) (hp : p < s.size) : ∃ m, n = m + 1 := by
  have := h.fuel
  exact ⟨n - 1, by omega⟩
theorem Along.spot {s : ByteArray} {i n p : Nat} {x : S26} (h : Along s i n p x) : whereFrom (p : Int) (spots s) = x := by
  obtain ⟨hi, e⟩ := h.get
  have hr := walk_rise s s.size 0 ⟨1, 1⟩ (by omega)
  have := whereFrom_at (p : Int) (spots s) i hi hr (.inr (by rw [e]; exact Int.le_refl _)) (fun j hj h7 => by
    have := List.pairwise_iff_getElem.1 hr i j hi hj h7
    have e2 : ((spots s)[i]).1 = (p : Int) := by rw [e]
    have e3 : (spots s)[i].1 < (spots s)[j].1 := this
    omega)
  rw [this, e]
theorem Along.rd {s : ByteArray} {i n p : Nat} {x : S26} (h : Along s i n p x) : rd_T26 ((spots s).map Prod.snd) (i : Int) = x := by
  obtain ⟨hi, e⟩ := h.get
  rw [rd_snd (spots s) i hi, e]

/-! ### scan.Tokens -/
theorem tok_le (s : ByteArray) (h : 0 < s.size) : (tok s).2.1 ≤ s.size := by
  have h1 := wordS_le s
  have h2 := lead_le s.data.toList
  rw [← size_eq] at h2
  unfold tok
  split
  · exact h1
  · split
    · exact h2
    · exact h
theorem tokAt_le (s : ByteArray) (p : Nat) (h : p < s.size) : p + (tokAt s p).2.1 ≤ s.size := by
  have := tok_le (s.extract p s.size) (by rw [ext_size]; omega)
  rw [ext_size] at this
  unfold tokAt
  omega
theorem C_zero (s : ByteArray) (p : Nat) : C (s.extract p s.size) 0 = C s p := C_drop s p 0
section
variable (s : ByteArray) (hs : s.size ≤ 1000000)
include hs
theorem scan_l0 (k i n p : Nat) (x : S26) (rem : Bool) (beh : Nat) (l : List S69) (ha : Along s i n p x) (hp : p < s.size) :
    scan_Tokens.l0 (k + 1) s l rem (beh : Int) (i : Int) ((spots s).map Prod.fst) ((spots s).map Prod.snd) (p : Int) s =
      if p < beh then scan_Tokens.l0 k s l rem (beh : Int) ((i + 1 : Nat) : Int) ((spots s).map Prod.fst) ((spots s).map Prod.snd) ((p + W s p : Nat) : Int) s
      else if C s p = 10 then scan_Tokens.l0 k s l false (beh : Int) ((i + 1 : Nat) : Int) ((spots s).map Prod.fst) ((spots s).map Prod.snd) ((p + W s p : Nat) : Int) s
      else if bad s p = true then some (fail 4 x)
      else scan_Tokens.j1 k s l (rem || decide (C s p = 35)) (beh : Int) ((i + 1 : Nat) : Int) (p : Int) (C s p : Int) ((spots s).map Prod.fst) ((spots s).map Prod.snd) ((p + W s p : Nat) : Int) s x.f0 x.f1 := by
  obtain ⟨hi, _⟩ := ha.get
  have hx := ha.rd
  have hip := ha.ip
  have e1 : wrap64 ((i : Int) + 1) = ((i + 1 : Nat) : Int) := by rw [wrap_in (by omega) (by omega)]; omega
  have hlen : (i : Int) < ((((spots s).map Prod.snd).length : Nat) : Int) := by rw [List.length_map]; omega
  rw [scan_Tokens.l0, next_in hp, Option.bind_some, if_pos rfl, if_pos (by omega), if_pos hlen, e1, hx, broken s p hp, Option.bind_some]
  by_cases h1 : p < beh
  · rw [if_pos (show (p : Int) < (beh : Int) by omega), if_pos h1]
  · rw [if_neg (show ¬ (p : Int) < (beh : Int) by omega), if_neg h1]
    by_cases h2 : C s p = 10
    · rw [if_pos (show (C s p : Int) = 10 by omega), if_pos h2]
    · rw [if_neg (show ¬ (C s p : Int) = 10 by omega), if_neg h2]
      cases hb : bad s p with
      | true => rw [if_pos rfl, if_pos rfl]; rfl
      | false =>
        rw [if_neg Bool.false_ne_true, if_neg Bool.false_ne_true]
        by_cases h3 : C s p = 35
        · rw [if_pos (show (C s p : Int) = 35 by omega), decide_eq_true h3, Bool.or_true]
        · rw [if_neg (show ¬ (C s p : Int) = 35 by omega), decide_eq_false h3, Bool.or_false]
theorem scan_last (k i n p : Nat) (x : S26) (rem : Bool) (beh : Nat) (l : List S69) (ha : Along s i n p x) (hp : ¬ p < s.size) (hl : l.length ≤ p) :
    scan_Tokens.l0 (k + 1) s l rem (beh : Int) (i : Int) ((spots s).map Prod.fst) ((spots s).map Prod.snd) (p : Int) s = some (fin l x) := by
  have hx := ha.rd
  have hip := ha.ip
  have hle := ha.le
  have hlast := ha.last hp
  have e1 : wrap64 (((((spots s).map Prod.snd).length : Nat) : Int) - 1) = (i : Int) := by rw [List.length_map, hlast, wrap_in (by omega) (by omega)]; omega
  have hlen : (i : Int) < ((((spots s).map Prod.snd).length : Nat) : Int) := by rw [List.length_map]; omega
  rw [scan_Tokens.l0, next_out hp, Option.bind_some, if_neg Bool.false_ne_true, e1, if_pos (by omega), if_pos hlen, if_pos (by omega), hx]
  rfl
omit hs in
theorem scan_j1 (k : Nat) (l : List S69) (rem : Bool) (beh i p : Int) (c : Nat) (A : List Int) (Bs : List S26) (q : Int) (a b : Int) :
    scan_Tokens.j1 (k + 1) s l rem beh i p (c : Int) A Bs q s a b = scan_Tokens.j2 k s l rem beh i p (c : Int) (rem || blank c) A Bs q s a b := by
  rw [scan_Tokens.j1]
  unfold blank
  cases rem with
  | true => rw [if_pos rfl, Bool.true_or]
  | false =>
    rw [if_neg Bool.false_ne_true, Bool.false_or]
    by_cases h1 : c = 32
    · rw [if_pos (show (c : Int) = 32 by omega), beq_iff_eq.2 h1, Bool.true_or, Bool.true_or]
    · rw [if_neg (show ¬ (c : Int) = 32 by omega), beq_eq_false_iff_ne.2 h1, Bool.false_or]
      by_cases h2 : c = 9
      · rw [if_pos (show (c : Int) = 9 by omega), beq_iff_eq.2 h2, Bool.true_or]
      · rw [if_neg (show ¬ (c : Int) = 9 by omega), beq_eq_false_iff_ne.2 h2, Bool.false_or]
        congr 1
        by_cases h3 : c = 13
        · rw [beq_iff_eq.2 h3, beq_iff_eq.2 (show (c : Int) = 13 by omega)]
        · rw [beq_eq_false_iff_ne.2 h3, beq_eq_false_iff_ne.2 (show (c : Int) ≠ 13 by omega)]
theorem scan_j2 (k : Nat) (l : List S69) (rem : Bool) (beh i : Int) (p : Nat) (A : List Int) (Bs : List S26) (q : Int) (x : S26) (hp : p < s.size) (hl : l.length ≤ p) (hk : 2 * s.size < k) :
    scan_Tokens.j2 (k + 1) s l rem beh i (p : Int) (C s p : Int) false A Bs q s x.f0 x.f1 =
      if (tokAt s p).2.2 = 0 then scan_Tokens.l0 k s (l ++ [oneTok s p x]) rem ((p + (tokAt s p).2.1 : Nat) : Int) i A Bs q s else some (fail (tokAt s p).2.2 x) := by
  have ht := scanToken (s.extract p s.size) (by rw [ext_size]; omega) (by rw [ext_size]; omega) k (by rw [ext_size]; omega)
  rw [C_zero] at ht
  have hle := tokAt_le s p hp
  have e1 : wrap64 ((p : Int) + ((tok (s.extract p s.size)).2.1 : Int)) = ((p + (tokAt s p).2.1 : Nat) : Int) := by
    show wrap64 ((p : Int) + ((tokAt s p).2.1 : Int)) = _
    rw [wrap_in (by omega) (by omega)]; omega
  rw [scan_Tokens.j2, if_neg Bool.false_ne_true, if_pos (by omega), if_pos (by omega), Int.toNat_natCast, ht, Option.bind_some, e1]
  by_cases h : (tokAt s p).2.2 = 0
  · rw [if_pos (show ((tok (s.extract p s.size)).2.2 : Int) = 0 by show ((tokAt s p).2.2 : Int) = 0; omega), if_pos h, if_pos (by omega), if_pos (by omega), if_pos (by omega), Int.toNat_natCast]
    rfl
  · rw [if_neg (show ¬ ((tok (s.extract p s.size)).2.2 : Int) = 0 by show ¬ ((tokAt s p).2.2 : Int) = 0; omega), if_neg h]
    rfl
theorem scan_loop (n : Nat) : ∀ (k i p : Nat) (x : S26) (rem : Bool) (beh : Nat) (l : List S69), Along s i n p x → l.length ≤ p → 3 * n + 2 * s.size + 3 < k →
    scan_Tokens.l0 k s l rem (beh : Int) (i : Int) ((spots s).map Prod.fst) ((spots s).map Prod.snd) (p : Int) s = some (toks s n p x rem beh l) := by
  induction n with
  | zero =>
    intro k i p x rem beh l ha hl hk
    obtain ⟨k, rfl⟩ : ∃ q, k = q + 1 := ⟨k - 1, by omega⟩
    have hf := ha.fuel
    rw [scan_last s hs k i 0 p x rem beh l ha (by omega) hl]
    rfl
  | succ n ih =>
    intro k i p x rem beh l ha hl hk
    obtain ⟨k, rfl⟩ : ∃ q, k = q + 1 + 1 + 1 := ⟨k - 3, by omega⟩
    by_cases hp : p < s.size
    · have ha' := ha.step hp
      have hw := W_pos s p
      have q1 : l.length ≤ p + W s p := by omega
      have q2 : 3 * n + 2 * s.size + 3 < k + 1 + 1 := by omega
      have q3 : 3 * n + 2 * s.size + 3 < k := by omega
      rw [scan_l0 s hs (k + 1 + 1) i (n + 1) p x rem beh l ha hp]
      by_cases h1 : p < beh
      · rw [if_pos h1, toks_skip hp h1]
        exact ih (k + 1 + 1) (i + 1) _ _ rem beh l ha' q1 q2
      · have hb : beh ≤ p := by omega
        rw [if_neg h1]
        by_cases h2 : C s p = 10
        · rw [if_pos h2, toks_line hp hb h2]
          exact ih (k + 1 + 1) (i + 1) _ _ false beh l ha' q1 q2
        · rw [if_neg h2]
          cases h3 : bad s p with
          | true => rw [if_pos rfl, toks_bad hp hb h2 h3]
          | false =>
            rw [if_neg Bool.false_ne_true, scan_j1]
            cases h4 : ((rem || decide (C s p = 35)) || blank (C s p)) with
            | true =>
              rw [toks_blank hp hb h2 h3 h4, scan_Tokens.j2, if_pos rfl]
              exact ih k (i + 1) _ _ _ beh l ha' q1 q3
            | false =>
              have hr : (rem || decide (C s p = 35)) = false := (Bool.or_eq_false_iff.1 h4).1
              have q4 : 2 * s.size < k := by omega
              rw [toks_tok hp hb h2 h3 h4, scan_j2 s hs k l _ _ _ p _ _ _ x hp hl q4, hr]
              by_cases h5 : (tokAt s p).2.2 = 0
              · rw [if_pos h5, if_pos h5]
                exact ih k (i + 1) _ _ _ _ _ ha' (by rw [List.length_append, List.length_singleton]; omega) q3
              · rw [if_neg h5, if_neg h5]
    · rw [scan_last s hs (k + 1 + 1) i (n + 1) p x rem beh l ha hp hl, toks_end hp]
end
/-- The tokens of a text, or what is wrong with it. -/
def tokens (s : ByteArray) : R := if 65536 < s.size then ([], 3, 1, 1) else toks s s.size 0 ⟨1, 1⟩ false 0 []
theorem scanTokens (s : ByteArray) (k : Nat) (hk : 300000 + 5 * s.size < k) : scan_Tokens.f k s = some (tokens s) := by
  unfold scan_Tokens.f tokens
  by_cases h : 65536 < s.size
  · rw [if_pos (show (s.size : Int) > 65536 by omega), if_pos h]
  · rw [if_neg (show ¬ (s.size : Int) > 65536 by omega), if_neg h, mapped s (by omega) k (by omega), Option.bind_some]
    exact scan_loop s (by omega) s.size k 0 0 ⟨1, 1⟩ false 0 [] (Along.start s) (Nat.le_refl _) (by omega)
theorem ascii_W (s : ByteArray) (p : Nat) (h : C s p < 128) : W s p = 1 := by
  have := (ByteS.small s p h).1
  unfold W
  rw [this]
theorem Runs.rest {s : ByteArray} {p e m : Nat} (h : Runs s p e m) (hp : p < e) : ∃ m', Runs s (p + W s p) e m' := by
  cases h with
  | nil => omega
  | cons _ _ m h1 h2 h3 => exact ⟨m, h3⟩
/-- Over runes that belong to a token nothing is done. -/
theorem skip (s : ByteArray) {q e m : Nat} (h : Runs s q e m) : ∀ (i n : Nat) (x : S26) (rem : Bool) (l : List S69), Along s i n q x → ∃ i' n' x', Along s i' n' e x' ∧ n' ≤ n ∧ toks s n q x rem e l = toks s n' e x' rem e l := by
  induction h with
  | nil q => intro i n x rem l ha; exact ⟨i, n, x, ha, Nat.le_refl _, rfl⟩
  | cons q e m h1 h2 h3 ih =>
    intro i n x rem l ha
    obtain ⟨n, rfl⟩ := ha.pos h1
    have hl := h3.le (step_le h1)
    have hw := W_pos s q
    obtain ⟨i', n', x', ha', hn, e1⟩ := ih (i + 1) n (nl s q x) rem l (ha.step h1)
    exact ⟨i', n', x', ha', by omega, by rw [toks_skip h1 (by omega), e1]⟩

theorem tok_runs (s : ByteArray) (p : Nat) (hp : p < s.size) (h : (tokAt s p).2.2 = 0) : (∃ m, Runs s p (p + (tokAt s p).2.1) m) ∧ 0 < (tokAt s p).2.1 := by
  have hz := ext_size s p
  have hbz := bad_drop s p 0
  rw [Nat.add_zero] at hbz
  have hr := (wordS_runs (s.extract p s.size)).drop
  rw [Nat.add_zero] at hr
  unfold tokAt tok at h ⊢
  rw [C_zero, hbz] at h ⊢
  by_cases h1 : 0 < (wordS (s.extract p s.size)).1
  · rw [if_pos h1]
    exact ⟨⟨_, hr⟩, h1⟩
  · rw [if_neg h1] at h ⊢
    by_cases h2 : 0 < lead (s.extract p s.size).data.toList
    · rw [if_pos h2]
      refine ⟨⟨lead (s.extract p s.size).data.toList, ?_⟩, h2⟩
      have hl := lead_le (s.extract p s.size).data.toList
      rw [← size_eq, hz] at hl
      show Runs s p (p + lead (s.extract p s.size).data.toList) (lead (s.extract p s.size).data.toList)
      refine lead_runs s _ p (by omega) (fun i h3 h4 => lead_B s p i h3 ?_)
      rw [B_ext] at h4
      exact h4
    · rw [if_neg h2] at h ⊢
      cases hm : (mark (C s p) && !bad s p) with
      | false => rw [hm] at h; simp at h
      | true =>
        have h3 := (Bool.and_eq_true _ _).mp hm
        have hb : bad s p = false := by
          have := h3.2
          rw [Bool.not_eq_true'] at this
          exact this
        have hw := ascii_W s p (mark_lt _ h3.1)
        refine ⟨⟨1, .cons _ _ _ hp hb ?_⟩, Nat.one_pos⟩
        rw [hw]
        exact .nil _
end Go.Proofs.YtmgdkkkkanjadaaGreatDoor.PureS


