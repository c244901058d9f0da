/-
  The way along a text, rune by rune, from token to token; its spots rise; a token's text alone is a word just if it is told so.
-/
import Derived.Test.YtgalbiokebghkaaDoorAgainS
import Derived.Test.YtgalbiokebghkaaDoorCountS
namespace Go.Proofs.YtgalbiokebghkaaDoor.PureS
set_option linter.unusedVariables false
set_option linter.unusedSimpArgs false
open Go.RowKit Go.Lib Go.Proofs.YtgalbiokebghkaaDoorW.PrintWords Go.Proofs.YtgalbiokebghkaaDoorW.PrintLast Go.Proofs.YtgalbiokebghkaaDoorW.PrintMore Go.Proofs.YtgalbiokebghkaaDoor.S Go.Proofs.YtgalbiokebghkaaDoor.HandS Go.Proofs.YtgalbiokebghkaaDoor.Iter

/-! ### the way -/
inductive Path (s : ByteArray) : Nat → Nat → Nat → S37 → Bool → List S48 → Prop
  | fin (i n p : Nat) (x : S37) (rem : Bool) (ha : Along s i n p x) (hp : ¬ p < s.size) : Path s i n p x rem [stop x]
  | line (i n p : Nat) (x : S37) (rem : Bool) (L : List S48) (ha : Along s i (n + 1) p x) (hp : p < s.size) (hc : C s p = 10) (h : Path s (i + 1) n (p + W s p) (nl s p x) false L) : Path s i (n + 1) p x rem L
  | rest (i n p : Nat) (x : S37) (rem : Bool) (L : List S48) (ha : Along s i (n + 1) p x) (hp : p < s.size) (hc : ¬ C s p = 10) (hb : bad s p = false) (h2 : ((rem || decide (C s p = 35)) || blank (C s p)) = true) (h : Path s (i + 1) n (p + W s p) (nl s p x) (rem || decide (C s p = 35)) L) : Path s i (n + 1) p x rem L
  | tok (i n p : Nat) (x : S37) (L : List S48) (i' n' : Nat) (x' : S37) (ha : Along s i n p x) (hp : p < s.size) (h0 : (tokAt s p).2.2 = 0) (h : Path s i' n' (p + (tokAt s p).2.1) x' false L) : Path s i n p x false (oneTok s p x :: L)
theorem Path.along {s : ByteArray} {i n p : Nat} {x : S37} {rem : Bool} {L : List S48} (h : Path s i n p x rem L) : Along s i n p x := by
  cases h <;> assumption
theorem toks_path (s : ByteArray) (n0 : Nat) : ∀ (n i p : Nat) (x : S37) (rem : Bool) (beh : Nat) (l : List S48), n ≤ n0 → Along s i n p x → beh ≤ p → (toks s n p x rem beh l).2.1 = 0 →
    ∃ L, (toks s n p x rem beh l).1 = l ++ L ∧ Path s i n p x rem L := by
  induction n0 with
  | zero =>
    intro n i p x rem beh l hn ha hb h
    obtain rfl : n = 0 := by omega
    have hf := ha.fuel
    exact ⟨[stop x], rfl, .fin i 0 p x rem ha (by omega)⟩
  | succ n0 ih =>
    intro n i p x rem beh l hn ha hb h
    by_cases hp : p < s.size
    · obtain ⟨n, rfl⟩ := ha.pos hp
      have ha' := ha.step hp
      have hw := W_pos s p
      by_cases h10 : C s p = 10
      · rw [toks_line hp hb h10] at h ⊢
        obtain ⟨L, q1, q2⟩ := ih n (i + 1) _ _ false beh l (by omega) ha' (by omega) h
        exact ⟨L, q1, .line i n p x rem L ha hp h10 q2⟩
      · cases hbad : bad s p with
        | true =>
          rw [toks_bad hp hb h10 hbad] at h
          cases h
        | false =>
          cases h2 : ((rem || decide (C s p = 35)) || blank (C s p)) with
          | true =>
            rw [toks_blank hp hb h10 hbad h2] at h ⊢
            obtain ⟨L, q1, q2⟩ := ih n (i + 1) _ _ _ beh l (by omega) ha' (by omega) h
            exact ⟨L, q1, .rest i n p x rem L ha hp h10 hbad h2 q2⟩
          | false =>
            have hr : rem = false := (Bool.or_eq_false_iff.1 (Bool.or_eq_false_iff.1 h2).1).1
            rw [toks_tok hp hb h10 hbad h2] at h ⊢
            by_cases h0 : (tokAt s p).2.2 = 0
            · rw [if_pos h0] at h ⊢
              obtain ⟨⟨m, hrn⟩, hpos⟩ := tok_runs s p hp h0
              obtain ⟨q, hq⟩ : ∃ q, p + (tokAt s p).2.1 = q := ⟨_, rfl⟩
              rw [hq] at hrn h ⊢
              obtain ⟨m', h3⟩ := hrn.rest (by omega)
              obtain ⟨i', n', x', ha2, hn2, e⟩ := skip s h3 (i + 1) n (nl s p x) false (l ++ [oneTok s p x]) ha'
              rw [e] at h ⊢
              obtain ⟨L, q1, q2⟩ := ih n' i' q x' false q (l ++ [oneTok s p x]) (by omega) ha2 (Nat.le_refl _) h
              refine ⟨oneTok s p x :: L, by rw [q1, List.append_assoc]; rfl, ?_⟩
              rw [hr]
              exact .tok i (n + 1) p x L i' n' x' ha hp h0 (by rw [hq]; exact q2)
            · rw [if_neg h0] at h
              have h7 : ((tokAt s p).2.2 : Int) = 0 := h
              omega
    · rw [toks_end hp]
      exact ⟨[stop x], rfl, .fin i n p x rem ha hp⟩
theorem tokens_path (s : ByteArray) (hs : s.size ≤ 65536) (h : (tokens s).2.1 = 0) : Path s 0 s.size 0 ⟨1, 1⟩ false (tokens s).1 := by
  unfold tokens at h ⊢
  rw [if_neg (by omega)] at h ⊢
  obtain ⟨L, q1, q2⟩ := toks_path s s.size s.size 0 0 ⟨1, 1⟩ false 0 [] (Nat.le_refl _) (Along.start s) (Nat.le_refl _) h
  rw [q1, List.nil_append]
  exact q2

/-! ### spots rise -/
def Lt (x y : S37) : Prop := x.f0 < y.f0 ∨ x.f0 = y.f0 ∧ x.f1 < y.f1
def Le (x y : S37) : Prop := x.f0 < y.f0 ∨ x.f0 = y.f0 ∧ x.f1 ≤ y.f1
theorem Lt.le {x y z : S37} (h1 : Lt x y) (h2 : Le y z) : Lt x z := by
  unfold Lt Le at *
  omega
theorem Lt.weak {x y : S37} (h : Lt x y) : Le x y := by
  unfold Lt Le at *
  omega
theorem nl_up (s : ByteArray) (p : Nat) (x : S37) : Lt x (nl s p x) := by
  unfold Lt
  by_cases h : C s p = 10
  · rw [show nl s p x = ⟨x.f0 + 1, 1⟩ from by unfold nl; rw [if_pos h]]
    exact .inl (by show x.f0 < x.f0 + 1; omega)
  · rw [show nl s p x = ⟨x.f0, x.f1 + 1⟩ from by unfold nl; rw [if_neg h]]
    exact .inr ⟨rfl, by show x.f1 < x.f1 + 1; omega⟩
theorem Lt.ne {x y : S37} (h : Lt x y) : (!(x.f0 == y.f0) || !(x.f1 == y.f1)) = true := by
  unfold Lt at h
  rcases h with h | h
  · rw [beq_eq_false_iff_ne.2 (by omega)]; rfl
  · rw [beq_eq_false_iff_ne.2 (show x.f1 ≠ y.f1 by omega), Bool.not_false, Bool.or_true]
theorem Le.rfl_ (x : S37) : Le x x := .inr ⟨rfl, Int.le_refl _⟩
theorem Path.head {s : ByteArray} {i n p : Nat} {x : S37} {rem : Bool} {L : List S48} (h : Path s i n p x rem L) : ∃ t L', L = t :: L' ∧ Le x t.f2 := by
  induction h with
  | fin i n p x rem ha hp => exact ⟨stop x, [], rfl, Le.rfl_ x⟩
  | line i n p x rem L ha hp hc h ih =>
    obtain ⟨t, L', e, hle⟩ := ih
    exact ⟨t, L', e, ((nl_up s p x).le hle).weak⟩
  | rest i n p x rem L ha hp hc hb h2 h ih =>
    obtain ⟨t, L', e, hle⟩ := ih
    exact ⟨t, L', e, ((nl_up s p x).le hle).weak⟩
  | tok i n p x L i' n' x' ha hp h0 h ih => exact ⟨oneTok s p x, L, rfl, Le.rfl_ x⟩
/-- The spot of each byte of a rune. -/
theorem Along.spot_in {s : ByteArray} {i n p : Nat} {x : S37} (h : Along s i n p x) (hp : p < s.size) (q : Nat) (h1 : p ≤ q) (h2 : q < p + W s p) : whereFrom (q : Int) (spots s) = x := by
  obtain ⟨n, rfl⟩ := h.pos hp
  obtain ⟨hi, e⟩ := h.get
  obtain ⟨hi1, e1⟩ := (h.step hp).get
  have hr := walk_rise s s.size 0 ⟨1, 1⟩ (by omega)
  have := whereFrom_at (q : Int) (spots s) i hi hr (.inr (by rw [e]; simp only; omega)) (fun j hj h7 => by
    have e2 : ((spots s)[i + 1]).1 = ((p + W s p : Nat) : Int) := by rw [e1]
    by_cases hj1 : j = i + 1
    · subst hj1
      rw [e2]
      omega
    · have e3 : ((spots s)[i + 1]).1 < ((spots s)[j]).1 := List.pairwise_iff_getElem.1 hr (i + 1) j hi1 hj (by omega)
      omega)
  rw [this, e]

/-! ### bytes of a rune -/
theorem rune_bytes (s : ByteArray) (p q : Nat) (hb : bad s p = false) (h : 128 ≤ C s p) (h1 : p ≤ q) (h2 : q < p + W s p) : 128 ≤ ByteS.B s q := by
  have hok := not_bad hb
  unfold C at h
  unfold W at h2
  rw [ByteS.decode_B] at h h2 hok
  have hb0 := ByteS.B_lt s p
  rcases ByteS.dn_cases (s.size - p) (ByteS.B s p) (ByteS.B s (p + 1)) (ByteS.B s (p + 2)) (ByteS.B s (p + 3)) with ⟨k1, e⟩ | ⟨k1, e⟩ | ⟨k0, _, k2, k1, e⟩ | ⟨k0, _, k2, k3, k1, e⟩ | ⟨k0, _, k2, k3, k4, k1, e⟩ <;> rw [e] at h h2 hok <;> simp only at h h2 hok
  · omega
  · exact absurd ⟨trivial, trivial⟩ hok
  · have : q = p ∨ q = p + 1 := by omega
    rcases this with rfl | rfl <;> omega
  · have : q = p ∨ q = p + 1 ∨ q = p + 2 := by omega
    rcases this with rfl | rfl | rfl <;> omega
  · have : q = p ∨ q = p + 1 ∨ q = p + 2 ∨ q = p + 3 := by omega
    rcases this with rfl | rfl | rfl | rfl <;> omega

/-! ### a token's text alone -/
theorem tok_word (s : ByteArray) (h0 : 0 < s.size) (h : (tok s).2.2 = 0) : isWord (s.extract 0 (tok s).2.1) = (((tok s).1 : Int) == 1) := by
  have hle := tok_le s h0
  have hz := ByteS.take_size s _ hle
  have hpos : 0 < (tok s).2.1 := by
    have e := drop_take s 0 s.size (by omega)
    have := tok_runs s 0 h0 (by
      unfold tokAt
      rw [show s.extract 0 s.size = s from by simp]
      exact h)
    unfold tokAt at this
    rw [show s.extract 0 s.size = s from by simp] at this
    exact this.2
  have hal : Alike0 s (s.extract 0 (tok s).2.1) (tok s).2.1 := by
    refine ⟨?_, hle, by omega, fun f hf => by omega⟩
    apply bytes_of_list
    rw [take_list, take_list, take_list, List.take_take, Nat.min_self]
  have hbyte := hal.byte hpos
  have key : ∀ c, (∀ h : 0 < (s.extract 0 (tok s).2.1).size, True) → (D (C s 0) || mark (C s 0)) = true → c = (wordS (s.extract 0 (tok s).2.1)).1 → c = 0 := by
    intro c _ hm hc
    rw [hc]
    have hlt : C s 0 < 128 := by
      rw [Bool.or_eq_true] at hm
      rcases hm with hm | hm
      · have : 48 ≤ C s 0 ∧ C s 0 ≤ 57 := of_decide_eq_true hm
        omega
      · exact mark_lt _ hm
    have hcs := (ByteS.small s 0 hlt).1
    have hB : ByteS.B s 0 = C s 0 := by unfold C; rw [hcs]
    have ha2 := ByteS.ascii (s.extract 0 (tok s).2.1) 0 (by rw [hbyte, hB]; exact hlt)
    refine no_word _ (by omega) ?_
    have : C (s.extract 0 (tok s).2.1) 0 = C s 0 := by
      show (Utf8.decode (s.extract 0 (tok s).2.1) 0).1 = _
      rw [ha2]
      show ByteS.B (s.extract 0 (tok s).2.1) 0 = _
      rw [hbyte, hB]
    rw [this]
    exact hm
  obtain ⟨b, hb⟩ : ∃ b, s.extract 0 (tok s).2.1 = b := ⟨_, rfl⟩
  rw [hb] at hz hal key ⊢
  obtain ⟨m, hm⟩ : ∃ m, (tok s).2.1 = m := ⟨_, rfl⟩
  rw [hm] at hz hal hpos
  unfold tok at h hm ⊢
  by_cases h1 : 0 < (wordS s).1
  · rw [if_pos h1] at h hm ⊢
    simp only at h hm ⊢
    have hw : wordS b = (m, (wordS s).2) := by
      refine word_local hal s.size b.size 0 0 0 0 (Nat.le_refl _) (Nat.zero_le _) (by omega) ?_
      show wordS s = _
      rw [← hm]
    have hcnt : (wordS s).2 ≤ 24 := by
      split at h
      · cases h
      · omega
    unfold isWord
    rw [hw, decide_eq_true hpos, decide_eq_true hz.symm, decide_eq_true hcnt]
    rfl
  · rw [if_neg h1] at h hm ⊢
    have hno : (D (C s 0) || mark (C s 0)) = true := by
      by_cases h2 : 0 < lead s.data.toList
      · rw [(lead_zero s h0).1 h2]; rfl
      · rw [if_neg h2] at h
        cases hmk : (mark (C s 0) && !bad s 0) with
        | false => rw [hmk] at h; cases h
        | true => rw [((Bool.and_eq_true _ _).mp hmk).1, Bool.or_true]
    have hw0 := key _ (fun _ => trivial) hno rfl
    unfold isWord
    rw [hw0]
    by_cases h2 : 0 < lead s.data.toList
    · rw [if_pos h2]; rfl
    · rw [if_neg h2]; rfl
theorem tok_kind (s : ByteArray) : (tok s).1 ≠ 0 := by
  unfold tok
  split
  · simp
  · split <;> simp
end Go.Proofs.YtgalbiokebghkaaDoor.PureS
