/-
  Tokens, parted by blanks, lines' ends and remarks, are read as the same tokens; over lists alone.
-/
import Derived.Test.YtgcmgfljbadljaaGreatDoorLocalS
namespace Go.Proofs.YtgcmgfljbadljaaGreatDoor.PureS
set_option linter.unusedVariables false
set_option linter.unusedSimpArgs false
open Go.RowKit Go.Lib Go.Proofs.YtgcmgfljbadljaaGreatDoorW.PrintWords Go.Proofs.YtgcmgfljbadljaaGreatDoorW.PrintLast Go.Proofs.YtgcmgfljbadljaaGreatDoorW.PrintMore Go.Proofs.YtgcmgfljbadljaaGreatDoor.L Go.Proofs.YtgcmgfljbadljaaGreatDoor.HandS Go.Proofs.YtgcmgfljbadljaaGreatDoor.Iter

/-! ### what is read of a text -/
/-- A token that was read somewhere. -/
def Good (t : S74) : Prop := ∃ s p, p < s.size ∧ (tokAt s p).2.2 = 0 ∧ t.f0 = ((tokAt s p).1 : Int) ∧ t.f1 = s.extract p (p + (tokAt s p).2.1)
def total : List S74 → Nat
  | [] => 0
  | t :: T => t.f1.size + total T
def stop (e : S50) : S74 := ⟨0, (⟨#[]⟩ : ByteArray), e⟩
theorem toks_good (s : ByteArray) (n : Nat) : ∀ (p : Nat) (x : S50) (rem : Bool) (beh : Nat) (l : List S74), p ≤ s.size → beh ≤ s.size → (toks s n p x rem beh l).2.1 = 0 →
    ∃ T e, (toks s n p x rem beh l).1 = l ++ T ++ [stop e] ∧ (∀ t ∈ T, Good t) ∧ total T + p ≤ s.size ∧ total T + beh ≤ s.size ∧ T.length + p ≤ s.size := by
  induction n with
  | zero =>
    intro p x rem beh l hp hb h
    exact ⟨[], x, by rw [toks, List.append_nil]; rfl, fun t ht => by (cases ht), by rw [total]; omega, by rw [total]; omega, by rw [List.length_nil]; omega⟩
  | succ n ih =>
    intro p x rem beh l hp hb h
    have hw := W_pos s p
    rw [toks] at h ⊢
    by_cases h1 : p < s.size
    · rw [if_pos h1] at h ⊢
      have hst := step_le h1
      have go : ∀ rem' : Bool, (toks s n (p + W s p) (nl s p x) rem' beh l).2.1 = 0 → ∃ T e, (toks s n (p + W s p) (nl s p x) rem' beh l).1 = l ++ T ++ [stop e] ∧ (∀ t ∈ T, Good t) ∧ total T + p ≤ s.size ∧ total T + beh ≤ s.size ∧ T.length + p ≤ s.size := by
        intro rem' h2
        obtain ⟨T, e, q1, q2, q3, q4, q5⟩ := ih _ _ rem' beh l hst hb h2
        exact ⟨T, e, q1, q2, by omega, q4, by omega⟩
      by_cases h2 : p < beh
      · rw [if_pos h2] at h ⊢
        exact go _ h
      · rw [if_neg h2] at h ⊢
        by_cases h3 : C s p = 10
        · rw [if_pos h3] at h ⊢
          exact go _ h
        · rw [if_neg h3] at h ⊢
          by_cases h4 : bad s p = true
          · rw [if_pos h4] at h
            cases h
          · rw [if_neg h4] at h ⊢
            by_cases h5 : ((rem || decide (C s p = 35)) || blank (C s p)) = true
            · rw [if_pos h5] at h ⊢
              exact go _ h
            · rw [if_neg h5] at h ⊢
              by_cases h6 : (tokAt s p).2.2 = 0
              · rw [if_pos h6] at h ⊢
                have hle := tokAt_le s p h1
                obtain ⟨T, e, q1, q2, q3, q4, q5⟩ := ih _ _ false _ (l ++ [oneTok s p x]) hst hle h
                have hsz : (oneTok s p x).f1.size = (tokAt s p).2.1 := by
                  show (s.extract p (p + (tokAt s p).2.1)).size = _
                  rw [ByteArray.size_extract]; omega
                refine ⟨oneTok s p x :: T, e, by rw [q1, List.append_assoc, List.append_assoc, List.append_assoc]; rfl, fun t ht => ?_, ?_, ?_, ?_⟩
                · rcases List.mem_cons.1 ht with rfl | ht
                  · exact ⟨s, p, h1, h6, rfl, rfl⟩
                  · exact q2 t ht
                · rw [total, hsz]; omega
                · rw [total, hsz]; omega
                · rw [List.length_cons]; omega
              · rw [if_neg h6] at h
                have h7 : ((tokAt s p).2.2 : Int) = 0 := h
                omega
    · rw [if_neg h1] at h ⊢
      exact ⟨[], x, by rw [List.append_nil]; rfl, fun t ht => by (cases ht), by rw [total]; omega, by rw [total]; omega, by rw [List.length_nil]; omega⟩
theorem toks_fail (s : ByteArray) (n : Nat) : ∀ (p : Nat) (x : S50) (rem : Bool) (beh : Nat) (l : List S74), ¬ (toks s n p x rem beh l).2.1 = 0 → (toks s n p x rem beh l).1 = [] := by
  induction n with
  | zero => intro p x rem beh l h; exact absurd rfl h
  | succ n ih =>
    intro p x rem beh l h
    rw [toks] at h ⊢
    split at h
    · rename_i h1
      rw [if_pos h1]
      split at h
      · rename_i h2
        rw [if_pos h2]
        exact ih _ _ _ _ _ h
      · rename_i h2
        rw [if_neg h2]
        split at h
        · rename_i h3
          rw [if_pos h3]
          exact ih _ _ _ _ _ h
        · rename_i h3
          rw [if_neg h3]
          split at h
          · rename_i h4
            rw [if_pos h4]
            rfl
          · rename_i h4
            rw [if_neg h4]
            split at h
            · rename_i h5
              rw [if_pos h5]
              exact ih _ _ _ _ _ h
            · rename_i h5
              rw [if_neg h5]
              split at h
              · rename_i h6
                rw [if_pos h6]
                exact ih _ _ _ _ _ h
              · rename_i h6
                rw [if_neg h6]
                rfl
    · exact absurd rfl h
theorem tokens_good (s : ByteArray) (hs : s.size ≤ 65536) (h : (tokens s).2.1 = 0) : ∃ T e, (tokens s).1 = T ++ [stop e] ∧ (∀ t ∈ T, Good t) ∧ total T ≤ s.size ∧ T.length ≤ s.size := by
  unfold tokens at h ⊢
  rw [if_neg (by omega)] at h ⊢
  obtain ⟨T, e, q1, q2, q3, q4, q5⟩ := toks_good s s.size 0 ⟨1, 1⟩ false 0 [] (by omega) (by omega) h
  exact ⟨T, e, by rw [q1, List.nil_append], q2, by omega, by omega⟩

/-! ### bytes at a place, by what is left -/
theorem B_of (s : ByteArray) (q : Nat) (c : UInt8) (r : List UInt8) (h : s.data.toList.drop q = c :: r) : q < s.size ∧ ByteS.B s q = c.toNat := by
  have hl : q < s.data.toList.length := by
    have := congrArg List.length h
    rw [List.length_drop, List.length_cons] at this
    omega
  refine ⟨by rw [size_eq]; exact hl, ?_⟩
  rw [drop_cons _ _ hl] at h
  unfold ByteS.B
  rw [(List.cons.inj h).1]
theorem drop_next {l : List UInt8} {q : Nat} {c : UInt8} {r : List UInt8} (h : l.drop q = c :: r) : l.drop (q + 1) = r := by
  rw [← List.drop_drop, h]; rfl
theorem C_of (s : ByteArray) (q : Nat) (c : UInt8) (r : List UInt8) (h : s.data.toList.drop q = c :: r) (hc : c.toNat < 128) : q < s.size ∧ C s q = c.toNat ∧ W s q = 1 := by
  obtain ⟨h1, h2⟩ := B_of s q c r h
  have := ByteS.ascii s q (by rw [h2]; exact hc)
  unfold C W
  rw [this]
  exact ⟨h1, h2, rfl⟩
theorem C_e (s : ByteArray) (q : Nat) (r : List UInt8) (h : s.data.toList.drop q = 195 :: 169 :: r) : q < s.size ∧ C s q = 233 ∧ W s q = 2 := by
  obtain ⟨h1, h2⟩ := B_of s q _ _ h
  obtain ⟨h3, h4⟩ := B_of s (q + 1) _ _ (drop_next h)
  have e2 : ByteS.B s q = 195 := h2
  have e4 : ByteS.B s (q + 1) = 169 := h4
  have : Utf8.decode s q = (233, 2) := by
    rw [ByteS.decode_B, e2, e4, decodeN, if_neg (by decide), if_pos ⟨by decide, by omega, by decide⟩, if_pos (by decide)]
  unfold C W
  rw [this]
  exact ⟨h1, rfl, rfl⟩

/-! ### over what stands between tokens -/
def Step (s : ByteArray) (p : Nat) (rem : Bool) (p' : Nat) (rem' : Bool) : Prop :=
  p ≤ p' ∧ ∀ (n : Nat) (x : S50) (beh : Nat) (l : List S74), s.size - p ≤ n → beh ≤ p → ∃ n' x', s.size - p' ≤ n' ∧ toks s n p x rem beh l = toks s n' p' x' rem' beh l
theorem Step.trans {s : ByteArray} {p q t : Nat} {a b c : Bool} (h1 : Step s p a q b) (h2 : Step s q b t c) : Step s p a t c := by
  refine ⟨Nat.le_trans h1.1 h2.1, fun n x beh l hn hb => ?_⟩
  obtain ⟨n', x', hn', e'⟩ := h1.2 n x beh l hn hb
  obtain ⟨n'', x'', hn'', e''⟩ := h2.2 n' x' beh l hn' (Nat.le_trans hb h1.1)
  exact ⟨n'', x'', hn'', e'.trans e''⟩
theorem Step.line {s : ByteArray} {p : Nat} {r : List UInt8} (h : s.data.toList.drop p = 10 :: r) (rem : Bool) : Step s p rem (p + 1) false := by
  obtain ⟨h1, h2, h3⟩ := C_of s p 10 r h (by decide)
  refine ⟨Nat.le_succ _, fun n x beh l hn hb => ?_⟩
  obtain ⟨n, rfl⟩ : ∃ m, n = m + 1 := ⟨n - 1, by omega⟩
  exact ⟨n, nl s p x, by omega, by rw [toks_line h1 hb h2, h3]⟩
theorem Step.rest {s : ByteArray} {p : Nat} {c : UInt8} {r : List UInt8} (h : s.data.toList.drop p = c :: r) (hc : c.toNat < 128) (rem : Bool) (h10 : c.toNat ≠ 10) (hb : ((rem || decide (c.toNat = 35)) || blank c.toNat) = true) : Step s p rem (p + 1) (rem || decide (c.toNat = 35)) := by
  obtain ⟨h1, h2, h3⟩ := C_of s p c r h hc
  refine ⟨Nat.le_succ _, fun n x beh l hn hbe => ?_⟩
  obtain ⟨n, rfl⟩ : ∃ m, n = m + 1 := ⟨n - 1, by omega⟩
  refine ⟨n, nl s p x, by omega, ?_⟩
  have hok := not_bad_of_lt s p (by rw [h2]; omega)
  rw [toks_blank h1 hbe (by rw [h2]; exact h10) hok (by rw [h2]; exact hb), h2, h3]
theorem Step.e {s : ByteArray} {p : Nat} {r : List UInt8} (h : s.data.toList.drop p = 195 :: 169 :: r) : Step s p true (p + 2) true := by
  obtain ⟨h1, h2, h3⟩ := C_e s p r h
  refine ⟨by omega, fun n x beh l hn hbe => ?_⟩
  obtain ⟨n, rfl⟩ : ∃ m, n = m + 1 := ⟨n - 1, by omega⟩
  refine ⟨n, nl s p x, by omega, ?_⟩
  have hok := not_bad_of_lt s p (by rw [h2]; decide)
  rw [toks_blank h1 hbe (by rw [h2]; decide) hok rfl, Bool.true_or, h3]
def sepsL : List (List UInt8) := [[32], [10], [9, 32], [13, 10], [35, 32, 123, 32, 195, 169, 32, 48, 48, 55, 10], [32, 10]]
theorem sep_step (s : ByteArray) (p : Nat) (r : List UInt8) (sep : List UInt8) (hm : sep ∈ sepsL) (h : s.data.toList.drop p = sep ++ r) : Step s p false (p + sep.length) false := by
  simp only [sepsL, List.mem_cons, List.not_mem_nil, or_false] at hm
  rcases hm with rfl | rfl | rfl | rfl | rfl | rfl
  · exact Step.rest (c := 32) h (by decide) false (by decide) rfl
  · exact Step.line h false
  · have a := Step.rest (c := 9) h (by decide) false (by decide) rfl
    have b := Step.rest (c := 32) (drop_next h) (by decide) false (by decide) rfl
    exact a.trans b
  · have a := Step.rest (c := 13) h (by decide) false (by decide) rfl
    have b := Step.line (drop_next h) false
    exact a.trans b
  · have a := Step.rest (c := 35) h (by decide) false (by decide) rfl
    have h1 := drop_next h
    have a1 := Step.rest (c := 32) h1 (by decide) true (by decide) rfl
    have h2 := drop_next h1
    have a2 := Step.rest (c := 123) h2 (by decide) true (by decide) rfl
    have h3 := drop_next h2
    have a3 := Step.rest (c := 32) h3 (by decide) true (by decide) rfl
    have h4 := drop_next h3
    have a4 := Step.e h4
    have h5 := drop_next (drop_next h4)
    have a5 := Step.rest (c := 32) h5 (by decide) true (by decide) rfl
    have h6 := drop_next h5
    have a6 := Step.rest (c := 48) h6 (by decide) true (by decide) rfl
    have h7 := drop_next h6
    have a7 := Step.rest (c := 48) h7 (by decide) true (by decide) rfl
    have h8 := drop_next h7
    have a8 := Step.rest (c := 55) h8 (by decide) true (by decide) rfl
    have h9 := drop_next h8
    have a9 := Step.line h9 true
    exact (((((((((a.trans a1).trans a2).trans a3).trans a4).trans a5).trans a6).trans a7).trans a8).trans a9)
  · have a := Step.rest (c := 32) h (by decide) false (by decide) rfl
    have b := Step.line (drop_next h) false
    exact a.trans b
theorem sep_first (sep : List UInt8) (hm : sep ∈ sepsL) : ∃ c r, sep = c :: r ∧ sepc c.toNat = true := by
  simp only [sepsL, List.mem_cons, List.not_mem_nil, or_false] at hm
  rcases hm with rfl | rfl | rfl | rfl | rfl | rfl <;> exact ⟨_, _, rfl, by decide⟩

/-! ### the text put together again -/
inductive Laid : List UInt8 → List S74 → Prop
  | fin (sep : List UInt8) (h : sep ∈ sepsL) : Laid sep []
  | tok (t : S74) (sep r : List UInt8) (T : List S74) (ht : Good t) (hs : sep ∈ sepsL) (h : Laid r T) : Laid (t.f1.data.toList ++ (sep ++ r)) (t :: T)
def key (t : S74) : Int × ByteArray := (t.f0, t.f1)
theorem skip0 (s : ByteArray) {q e m : Nat} (h : Runs s q e m) : ∀ (n : Nat) (x : S50) (rem : Bool) (l : List S74), s.size - q ≤ n → ∃ n' x', s.size - e ≤ n' ∧ toks s n q x rem e l = toks s n' e x' rem e l := by
  induction h with
  | nil q => intro n x rem l ha; exact ⟨n, x, ha, rfl⟩
  | cons q e m h1 h2 h3 ih =>
    intro n x rem l ha
    obtain ⟨n, rfl⟩ : ∃ m, n = m + 1 := ⟨n - 1, by omega⟩
    have hl := h3.le (step_le h1)
    have hw := W_pos s q
    obtain ⟨n', x', ha', e1⟩ := ih n (nl s q x) rem l (by omega)
    exact ⟨n', x', ha', by rw [toks_skip h1 (by omega), e1]⟩
/-- A token begins with no blank, line's end or remark, nor with broken bytes. -/
theorem tok_first (s : ByteArray) (h0 : 0 < s.size) (h : (tok s).2.2 = 0) : sepc (C s 0) = false ∧ bad s 0 = false := by
  have hsep : ∀ c, (L c = true ∨ D c = true ∨ mark c = true) → sepc c = false := by
    intro c hc
    cases hs : sepc c with
    | false => rfl
    | true =>
      have h1 := sepc_L hs
      rcases hc with hc | hc | hc
      · rw [h1.1] at hc; cases hc
      · rw [h1.2.1] at hc; cases hc
      · exfalso
        unfold sepc at hs
        simp at hs
        rcases hs with rfl | rfl | rfl | rfl | rfl <;> revert hc <;> decide
  unfold tok at h
  by_cases h1 : 0 < (wordS s).1
  · obtain ⟨n, hn⟩ : ∃ n, s.size = n + 1 := ⟨s.size - 1, by omega⟩
    have hst : stops s 0 true = false := by
      cases hst : stops s 0 true with
      | false => rfl
      | true =>
        exfalso
        unfold wordS at h1
        rw [hn, wordL, if_neg (by rw [show ((0 : Nat) == 0) = true from rfl, hst]; simp)] at h1
        omega
    unfold stops at hst
    rw [Bool.or_eq_false_iff, Bool.or_eq_false_iff, Bool.true_and] at hst
    refine ⟨hsep _ (.inl ?_), hst.1.1⟩
    have := hst.1.2
    rw [Bool.not_eq_false'] at this
    exact this
  · rw [if_neg h1] at h
    by_cases h2 : 0 < lead s.data.toList
    · have hD := (lead_zero s h0).1 h2
      have hd : 48 ≤ C s 0 ∧ C s 0 ≤ 57 := of_decide_eq_true hD
      exact ⟨hsep _ (.inr (.inl hD)), not_bad_of_lt s 0 (by omega)⟩
    · rw [if_neg h2] at h
      cases hm : (mark (C s 0) && !bad s 0) with
      | false => rw [hm] at h; cases h
      | true =>
        have h3 := (Bool.and_eq_true _ _).mp hm
        refine ⟨hsep _ (.inr (.inr h3.1)), ?_⟩
        have := h3.2
        rw [Bool.not_eq_true'] at this
        exact this
theorem bytes_of_list {a b : ByteArray} (h : a.data.toList = b.data.toList) : a = b := by
  apply ByteArray.ext
  exact Array.toList_inj.1 h
/-- Wherever a good token stands, with a blank or a remark behind it, it is read. -/
theorem good_at (t : S74) (ht : Good t) (s : ByteArray) (p : Nat) (sep r : List UInt8) (hs : sep ∈ sepsL) (h : s.data.toList.drop p = t.f1.data.toList ++ (sep ++ r)) :
    p < s.size ∧ (tokAt s p).2.2 = 0 ∧ ((tokAt s p).1 : Int) = t.f0 ∧ (tokAt s p).2.1 = t.f1.size ∧ s.extract p (p + (tokAt s p).2.1) = t.f1 := by
  obtain ⟨s0, p0, g1, g2, g3, g4⟩ := ht
  obtain ⟨c, r0, rfl, hc⟩ := sep_first sep hs
  have ha0 : 0 < (s0.extract p0 s0.size).size := by rw [ext_size]; omega
  have hale := tok_le _ ha0
  have hpos := (tok_runs s0 p0 g1 g2).2
  unfold tokAt at g2 g3 g4 hpos
  have g4' : t.f1 = (s0.extract p0 s0.size).extract 0 (tok (s0.extract p0 s0.size)).2.1 := by
    rw [g4, drop_take]
    rw [ext_size] at hale
    omega
  generalize s0.extract p0 s0.size = a at *
  obtain ⟨m, hm⟩ : ∃ m, (tok a).2.1 = m := ⟨_, rfl⟩
  rw [hm] at g4' hale hpos
  have hsz : t.f1.size = m := by rw [g4', ByteS.take_size a m hale]
  have hlen : t.f1.data.toList.length = m := by rw [← size_eq, hsz]
  have hdl := congrArg List.length h
  rw [List.length_drop, List.length_append, hlen, ← size_eq, List.cons_append, List.length_cons] at hdl
  have hp : p < s.size := by omega
  have hbz := ext_size s p
  have hal : Alike a (s.extract p s.size) (tok a).2.1 := by
    rw [hm]
    refine ⟨?_, hale, by omega, ?_⟩
    · apply bytes_of_list
      rw [← g4', take_list, B_ext, h, List.take_left' hlen]
    · have hdm : s.data.toList.drop (p + m) = c :: (r0 ++ r) := by
        rw [← List.drop_drop, h, List.drop_left' hlen]; rfl
      have := (B_of s (p + m) _ _ hdm).2
      have e : ByteS.B (s.extract p s.size) m = ByteS.B s (p + m) := by
        unfold ByteS.B
        rw [B_ext]
        congr 1
        show ((s.data.toList.drop p)[m]?).getD 0 = (s.data.toList[p + m]?).getD 0
        rw [List.getElem?_drop]
      rw [e, this]
      exact hc
  have htk := tok_local ha0 g2 hal
  have hT : tokAt s p = tok a := htk
  rw [hT]
  refine ⟨hp, g2, g3.symm, by rw [hm, hsz], ?_⟩
  rw [hm]
  have e := drop_take s p m (by omega)
  rw [← e]
  rw [hm] at hal
  rw [← hal.same, g4']
theorem again_run (s : ByteArray) {r : List UInt8} {T : List S74} (h : Laid r T) : ∀ (p n : Nat) (x : S50) (beh : Nat) (l : List S74), p ≤ s.size → s.data.toList.drop p = r → s.size - p ≤ n → beh ≤ p →
    ∃ T' e, toks s n p x false beh l = (l ++ T' ++ [stop e], 0, 0, 0) ∧ T'.map key = T.map key := by
  induction h with
  | fin sep hs =>
    intro p n x beh l hp hd hn hb
    have hst := sep_step s p [] sep hs (by rw [List.append_nil]; exact hd)
    obtain ⟨n', x', hn', e'⟩ := hst.2 n x beh l hn hb
    have hlen := congrArg List.length hd
    rw [List.length_drop, ← size_eq] at hlen
    refine ⟨[], x', ?_, rfl⟩
    rw [e', toks_end (by omega), List.append_nil]
    rfl
  | tok t sep r T ht hs h ih =>
    intro p n x beh l hp hd hn hb
    obtain ⟨g1, g2, g3, g4, g5⟩ := good_at t ht s p sep r hs hd
    obtain ⟨n, rfl⟩ : ∃ m, n = m + 1 := ⟨n - 1, by omega⟩
    have hf := tok_first (s.extract p s.size) (by rw [ext_size]; omega) g2
    have hbd := bad_drop s p 0
    rw [Nat.add_zero] at hbd
    rw [C_zero, hbd] at hf
    obtain ⟨⟨m, hr⟩, hpos⟩ := tok_runs s p g1 g2
    obtain ⟨m', h3⟩ := hr.rest (by omega)
    have hle := tokAt_le s p g1
    have hw := W_pos s p
    have hlen : t.f1.data.toList.length = (tokAt s p).2.1 := by rw [← size_eq, g4]
    have hd2 : s.data.toList.drop (p + (tokAt s p).2.1) = sep ++ r := by
      rw [← List.drop_drop, hd, List.drop_left' hlen]
    have hc : C s p ≠ 10 ∧ decide (C s p = 35) = false ∧ blank (C s p) = false := by
      have h5 := hf.1
      unfold sepc at h5
      unfold blank
      simp only [Bool.or_eq_false_iff, beq_eq_false_iff_ne] at h5 ⊢
      exact ⟨h5.2.1, decide_eq_false h5.2.2.2.2, ⟨h5.1, h5.2.2.1⟩, h5.2.2.2.1⟩
    have e1 := toks_tok (n := n) (x := x) (rem := false) (l := l) g1 hb hc.1 hf.2 (by rw [hc.2.1, hc.2.2]; rfl)
    rw [if_pos g2] at e1
    obtain ⟨n1, x1, hn1, e2⟩ := skip0 s h3 n (nl s p x) false (l ++ [oneTok s p x]) (by omega)
    obtain ⟨n2, x2, hn2, e3⟩ := (sep_step s _ r sep hs hd2).2 n1 x1 _ (l ++ [oneTok s p x]) hn1 (Nat.le_refl _)
    have hd3 : s.data.toList.drop (p + (tokAt s p).2.1 + sep.length) = r := by
      rw [← List.drop_drop, hd2, List.drop_left' rfl]
    have hle2 : p + (tokAt s p).2.1 + sep.length ≤ s.size := by
      have := congrArg List.length hd2
      rw [List.length_drop, ← size_eq, List.length_append] at this
      omega
    obtain ⟨T', e, q1, q2⟩ := ih _ n2 x2 (p + (tokAt s p).2.1) (l ++ [oneTok s p x]) hle2 hd3 hn2 (Nat.le_add_right _ _)
    refine ⟨oneTok s p x :: T', e, ?_, ?_⟩
    · rw [e1, e2, e3, q1, List.append_assoc, List.append_assoc, List.append_assoc]
      rfl
    · have hk : key (oneTok s p x) = key t := by
        unfold key oneTok
        rw [g3, g5]
      rw [List.map_cons, List.map_cons, q2, hk]
theorem again_tokens (s : ByteArray) (hs : s.size ≤ 65536) (T : List S74) (h : Laid s.data.toList T) : ∃ T' e, tokens s = (T' ++ [stop e], 0, 0, 0) ∧ T'.map key = T.map key := by
  obtain ⟨T', e, q1, q2⟩ := again_run s h 0 s.size ⟨1, 1⟩ 0 [] (Nat.zero_le _) (by rw [List.drop_zero]) (by omega) (Nat.le_refl _)
  refine ⟨T', e, ?_, q2⟩
  unfold tokens
  rw [if_neg (by omega), q1, List.nil_append]
end Go.Proofs.YtgcmgfljbadljaaGreatDoor.PureS


