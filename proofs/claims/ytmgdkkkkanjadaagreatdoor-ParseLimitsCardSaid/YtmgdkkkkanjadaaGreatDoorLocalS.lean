/-
  A token is the same wherever its text stands, if a blank, a line's end or a remark stands behind it.
-/
import Derived.Test.YtmgdkkkkanjadaaGreatDoorRunS
namespace Go.Proofs.YtmgdkkkkanjadaaGreatDoor.PureS
set_option linter.unusedVariables false
set_option linter.unusedSimpArgs false
open Go.RowKit Go.Lib Go.Proofs.YtmgdkkkkanjadaaGreatDoorW.PrintWords Go.Proofs.YtmgdkkkkanjadaaGreatDoorW.PrintLast Go.Proofs.YtmgdkkkkanjadaaGreatDoorW.PrintMore Go.Proofs.YtmgdkkkkanjadaaGreatDoor.X Go.Proofs.YtmgdkkkkanjadaaGreatDoor.HandS Go.Proofs.YtmgdkkkkanjadaaGreatDoor.Iter

/-- A rune that is not broken is the same where more stands behind the text. -/
theorem more_decode (s : ByteArray) (e p : Nat) (he : e ≤ s.size) (hp : p < e) (hw : p + (Utf8.decode (s.extract 0 e) p).2 ≤ e) (hok : ¬ ((Utf8.decode (s.extract 0 e) p).1 = 65533 ∧ (Utf8.decode (s.extract 0 e) p).2 = 1)) : Utf8.decode s p = Utf8.decode (s.extract 0 e) p := by
  have hb0 := ByteS.B_take s e p he hp
  rw [ByteS.decode_B (s.extract 0 e) p, ByteS.take_size s e he, hb0] at hw hok ⊢
  rw [ByteS.decode_B s p]
  generalize hn : s.size - p = n at *
  generalize hn' : e - p = n' at *
  have hnn : n' ≤ n := by omega
  rcases ByteS.dn_cases n' (ByteS.B s p) (ByteS.B (s.extract 0 e) (p + 1)) (ByteS.B (s.extract 0 e) (p + 2)) (ByteS.B (s.extract 0 e) (p + 3)) with ⟨h2, q⟩ | ⟨h2, q⟩ | ⟨h3, h4, h5, h2, q⟩ | ⟨h3, h4, h5, h6, h2, q⟩ | ⟨h3, h4, h5, h6, h7, h2, q⟩
  · rw [q, decodeN_ascii _ _ _ _ _ h2]
  · rw [q] at hok
    exact absurd ⟨rfl, rfl⟩ hok
  · rw [q]
    rw [ByteS.B_take s e (p + 1) he (by omega)] at h5 h2 ⊢
    rw [decodeN, if_neg (by omega), if_pos ⟨h3, by omega, h5⟩, if_pos h2]
  · have q0 := q
    rw [q]
    rw [ByteS.B_take s e (p + 1) he (by omega), ByteS.B_take s e (p + 2) he (by omega)] at q0
    rw [ByteS.B_take s e (p + 1) he (by omega)] at h5 h2 ⊢
    rw [ByteS.B_take s e (p + 2) he (by omega)] at h6 h2 ⊢
    rw [decodeN, if_neg (by omega), if_neg (by omega), if_pos ⟨h3, ⟨by omega, h5⟩, by omega, h6⟩] at q0 ⊢
    exact q0
  · have q0 := q
    rw [q]
    rw [ByteS.B_take s e (p + 1) he (by omega), ByteS.B_take s e (p + 2) he (by omega), ByteS.B_take s e (p + 3) he (by omega)] at q0
    rw [ByteS.B_take s e (p + 1) he (by omega)] at h5 h2 ⊢
    rw [ByteS.B_take s e (p + 2) he (by omega)] at h6 h2 ⊢
    rw [ByteS.B_take s e (p + 3) he (by omega)] at h7 h2 ⊢
    rw [decodeN, if_neg (by omega), if_neg (by omega), if_neg (by omega), if_pos ⟨h3, ⟨by omega, h5⟩, ⟨by omega, h6⟩, by omega, h7⟩] at q0 ⊢
    exact q0

/-- What may stand behind a token that is to stay one. -/
def sepc (c : Nat) : Bool := c == 32 || (c == 10 || (c == 9 || (c == 13 || c == 35)))
theorem sepc_lt {c : Nat} (h : sepc c = true) : c < 128 := by
  unfold sepc at h
  simp at h
  omega
theorem sepc_L {c : Nat} (h : sepc c = true) : L c = false ∧ D c = false ∧ c ≠ 45 := by
  unfold sepc at h
  simp at h
  rcases h with rfl | rfl | rfl | rfl | rfl <;> exact ⟨by decide +kernel, by decide, by decide⟩
/-- Two texts that begin alike, over m bytes, where a word of the second ends. -/
structure Alike0 (a b : ByteArray) (m : Nat) : Prop where
  same : a.extract 0 m = b.extract 0 m
  ha : m ≤ a.size
  hb : m ≤ b.size
  over : ∀ f, ¬ (m < b.size ∧ stops b m f = false)
theorem Alike0.byte {a b : ByteArray} {m i : Nat} (h : Alike0 a b m) (hi : i < m) : ByteS.B b i = ByteS.B a i := by
  have h1 := ByteS.B_take a m i h.ha hi
  have h2 := ByteS.B_take b m i h.hb hi
  rw [← h1, ← h2, h.same]
theorem Alike0.decode {a b : ByteArray} {m p : Nat} (h : Alike0 a b m) (hp : p < m) (hw : p + W a p ≤ m) (hok : bad a p = false) : Utf8.decode b p = Utf8.decode a p := by
  have h1 := ByteS.take_decode a m p h.ha hw (not_bad hok)
  have h2 := more_decode b m p h.hb hp (by rw [← h.same, h1]; exact hw) (by rw [← h.same, h1]; exact not_bad hok)
  rw [h2, ← h.same, h1]
/-- Two texts that begin alike, over m bytes; behind them one has what may stand behind a token. -/
structure Alike (a b : ByteArray) (m : Nat) : Prop where
  same : a.extract 0 m = b.extract 0 m
  ha : m ≤ a.size
  hb : m < b.size
  sep : sepc (ByteS.B b m) = true
theorem Alike.after {a b : ByteArray} {m : Nat} (h : Alike a b m) : C b m = ByteS.B b m ∧ W b m = 1 := by
  have := ByteS.ascii b m (sepc_lt h.sep)
  unfold C W
  rw [this]
  exact ⟨rfl, rfl⟩
theorem Alike.stop {a b : ByteArray} {m : Nat} (h : Alike a b m) (f : Bool) : stops b m f = true := by
  have h1 := sepc_L h.sep
  rw [← h.after.1] at h1
  unfold stops
  rw [h1.1, h1.2.1, bne_iff_ne.2 h1.2.2]
  simp
theorem Alike.plain {a b : ByteArray} {m : Nat} (h : Alike a b m) : Alike0 a b m := ⟨h.same, h.ha, Nat.le_of_lt h.hb, fun f => by rw [h.stop]; simp⟩
theorem Alike.byte {a b : ByteArray} {m i : Nat} (h : Alike a b m) (hi : i < m) : ByteS.B b i = ByteS.B a i := h.plain.byte hi
theorem wordL_up (s : ByteArray) (n : Nat) : ∀ (p r e m : Nat), e ≤ p → wordL s n p r e m = (e, m) ∨ p < (wordL s n p r e m).1 := by
  induction n with
  | zero => intro p r e m h; exact .inl rfl
  | succ n ih =>
    intro p r e m h
    have hw := W_pos s p
    rw [wordL]
    split
    · split
      · rcases ih (p + W s p) (r + 1) e m (by omega) with h2 | h2
        · exact .inl h2
        · exact .inr (by omega)
      · rcases ih (p + W s p) (r + 1) (p + W s p) (r + 1) (Nat.le_refl _) with h2 | h2
        · exact .inr (by rw [h2]; simp only; omega)
        · exact .inr (by omega)
    · exact .inl rfl
theorem word_local {a b : ByteArray} {m c : Nat} (h : Alike0 a b m) (n : Nat) : ∀ (n' p r e d : Nat), e ≤ p → p ≤ m → m - p ≤ n' → wordL a n p r e d = (m, c) → wordL b n' p r e d = (m, c) := by
  induction n with
  | zero =>
    intro n' p r e d h1 h2 h3 h4
    rw [wordL] at h4
    have h5 : e = m ∧ d = c := by simpa using h4
    have hp : p = m := by omega
    cases n' with
    | zero => rw [wordL]; exact h4
    | succ n' => rw [wordL, hp, if_neg (h.over _)]; exact h4
  | succ n ih =>
    intro n' p r e d h1 h2 h3 h4
    by_cases hp : p = m
    · have h5 : (e, d) = (m, c) := by
        rcases wordL_up a (n + 1) p r e d h1 with h6 | h6
        · rw [← h6]; exact h4
        · rw [h4] at h6
          simp only at h6
          omega
      cases n' with
      | zero => rw [wordL]; exact h5
      | succ n' => rw [wordL, hp, if_neg (h.over _)]; exact h5
    · obtain ⟨n', rfl⟩ : ∃ q, n' = q + 1 := ⟨n' - 1, by omega⟩
      rw [wordL] at h4
      have hw := W_pos a p
      have hsz := h.hb
      have hsa := h.ha
      split at h4
      · rename_i hc
        have hbad : bad a p = false := by
          have := hc.2
          unfold stops at this
          rw [Bool.or_eq_false_iff, Bool.or_eq_false_iff] at this
          exact this.1.1
        have hle : p + W a p ≤ m := by
          split at h4
          · rcases wordL_up a n (p + W a p) (r + 1) e d (by omega) with h6 | h6
            · rw [h6] at h4
              have : e = m := by simpa using congrArg Prod.fst h4
              omega
            · rw [h4] at h6; simp only at h6; omega
          · rcases wordL_up a n (p + W a p) (r + 1) (p + W a p) (r + 1) (Nat.le_refl _) with h6 | h6
            · rw [h6] at h4
              have : p + W a p = m := by simpa using congrArg Prod.fst h4
              omega
            · rw [h4] at h6; simp only at h6; omega
        have hd := h.decode (by omega) hle hbad
        have hC : C b p = C a p := by unfold C; rw [hd]
        have hW : W b p = W a p := by unfold W; rw [hd]
        have hst : stops b p (r == 0) = stops a p (r == 0) := by unfold stops bad; rw [hC, hW]
        rw [wordL, hst, if_pos ⟨by omega, hc.2⟩, hC, hW]
        split at h4
        · rename_i h45
          rw [if_pos h45]
          exact ih n' _ _ _ _ (by omega) hle (by omega) h4
        · rename_i h45
          rw [if_neg h45]
          exact ih n' _ _ _ _ (Nat.le_refl _) hle (by omega) h4
      · have h5 : e = m := by simpa using congrArg Prod.fst h4
        omega
theorem digit_L : ∀ c : Fin 128, (D c.1 || mark c.1) = true → L c.1 = false := by decide +kernel
/-- Where no letter begins there is no word. -/
theorem no_word (s : ByteArray) (h0 : 0 < s.size) (h : (D (C s 0) || mark (C s 0)) = true) : (wordS s).1 = 0 := by
  have hlt : C s 0 < 128 := by
    rw [Bool.or_eq_true] at h
    rcases h with h | h
    · have : 48 ≤ C s 0 ∧ C s 0 ≤ 57 := of_decide_eq_true h
      omega
    · exact mark_lt _ h
  have hL := digit_L ⟨C s 0, hlt⟩ h
  obtain ⟨n, hn⟩ : ∃ n, s.size = n + 1 := ⟨s.size - 1, by omega⟩
  unfold wordS
  rw [hn, wordL, if_neg (by unfold stops; rw [hL]; simp)]
theorem B_getD (s : ByteArray) (i : Nat) : (s.data.toList.getD i 0).toNat = ByteS.B s i := rfl
theorem take_list (s : ByteArray) (m : Nat) : (s.extract 0 m).data.toList = s.data.toList.take m := by
  rw [extract_data, List.drop_zero, Nat.sub_zero]
theorem takeWhile_stop (p : UInt8 → Bool) (t r : List UInt8) (c : UInt8) (h : ∀ b ∈ t, p b = true) (hc : p c = false) : (t ++ c :: r).takeWhile p = t := by
  induction t with
  | nil => rw [List.nil_append, List.takeWhile_cons, hc]; rfl
  | cons b t ih =>
    rw [List.cons_append, List.takeWhile_cons, h b (List.mem_cons_self ..), if_pos rfl, ih (fun x hx => h x (List.mem_cons_of_mem _ hx))]
theorem not_bad_of_lt (s : ByteArray) (p : Nat) (h : C s p ≠ 65533) : bad s p = false := by
  unfold bad
  exact decide_eq_false (fun h2 => h h2.1)
theorem tok_local {a b : ByteArray} (h0 : 0 < a.size) (hok : (tok a).2.2 = 0) (h : Alike a b (tok a).2.1) : tok b = tok a := by
  have hb0 : 0 < b.size := by have := h.hb; omega
  obtain ⟨m, hm⟩ : ∃ m, (tok a).2.1 = m := ⟨_, rfl⟩
  have hl := h
  rw [hm] at hl
  have hbyte : 0 < m → ByteS.B b 0 = ByteS.B a 0 := fun h => hl.byte h
  unfold tok at hok hm
  by_cases h1 : 0 < (wordS a).1
  · rw [if_pos h1] at hok hm
    simp only at hm
    have hw : wordS b = (m, (wordS a).2) := by
      refine word_local hl.plain a.size b.size 0 0 0 0 (Nat.le_refl _) (Nat.zero_le _) (by have := hl.hb; omega) ?_
      show wordS a = _
      rw [← hm]
    unfold tok
    rw [hw, if_pos h1, if_pos (by simp only; omega)]
    simp only
    rw [hm]
  · rw [if_neg h1] at hok hm
    by_cases h2 : 0 < lead a.data.toList
    · rw [if_pos h2] at hok hm
      simp only at hm hok
      have hm0 : 0 < m := by omega
      have hDa := (lead_zero a h0).1 h2
      have hDb : D (C b 0) = true := by rw [D_eq, hbyte hm0, ← D_eq]; exact hDa
      have hwb := no_word b hb0 (by rw [hDb]; rfl)
      have hsplit : b.data.toList = a.data.toList.take m ++ b.data.toList.getD m 0 :: b.data.toList.drop (m + 1) := by
        have e1 := take_list a m
        rw [hl.same, take_list] at e1
        rw [← e1]
        have hlt : m < b.data.toList.length := by rw [← size_eq]; exact hl.hb
        rw [← drop_cons b.data.toList m hlt, List.take_append_drop]
      have hdig : ∀ x ∈ a.data.toList.take m, isD x = true := by rw [← hm]; exact lead_digits _
      have hsepD : isD (b.data.toList.getD m 0) = false := (sepc_L hl.sep).2.1
      have hlen : (a.data.toList.take m).length = m := by
        rw [List.length_take, ← size_eq]
        have := hl.ha
        omega
      have hlb : lead b.data.toList = m := by
        unfold lead
        rw [hsplit, takeWhile_stop isD _ _ _ hdig hsepD, hlen]
      have htk : b.data.toList.take m = a.data.toList.take m := by
        rw [← take_list, ← take_list, hl.same]
      have hgr : great (a.data.toList.take m) = false ∧ ((decide (1 < m) && decide (ByteS.B a 0 = 48)) || L (G (a.extract m a.size))) = false := by
        unfold num at hok
        rw [hm] at hok
        split at hok
        · cases hok
        · rename_i hg
          split at hok
          · cases hok
          · rename_i hg2
            exact ⟨Bool.eq_false_iff.2 hg, Bool.eq_false_iff.2 hg2⟩
      have hGb : L (G (b.extract m b.size)) = false := by
        have e : G (b.extract m b.size) = C b m := by
          unfold G
          rw [decodeGo_extract b m hl.hb]
          rfl
        rw [e, hl.after.1]
        exact (sepc_L hl.sep).1
      have hnb : num b m = 0 := by
        unfold num
        rw [htk, hgr.1, if_neg Bool.false_ne_true, hbyte hm0, hGb, Bool.or_false, (Bool.or_eq_false_iff.1 hgr.2).1, if_neg Bool.false_ne_true]
      unfold tok
      rw [hwb, if_neg (by omega), hlb, if_pos hm0, hnb, if_neg h1, if_pos h2, hok, hm]
    · rw [if_neg h2] at hok hm
      simp only at hm hok
      subst hm
      have hmk : (mark (C a 0) && !bad a 0) = true := by
        split at hok
        · assumption
        · cases hok
      have hma := ((Bool.and_eq_true _ _).mp hmk).1
      have hca := (ByteS.small a 0 (mark_lt _ hma)).1
      have hBa : ByteS.B a 0 = C a 0 := by unfold C; rw [hca]
      have hlt : ByteS.B b 0 < 128 := by rw [hbyte Nat.one_pos, hBa]; exact mark_lt _ hma
      have hcb := ByteS.ascii b 0 hlt
      have hCb : C b 0 = C a 0 := by unfold C; rw [hcb]; rw [hbyte Nat.one_pos, hBa]; rfl
      have hwb := no_word b hb0 (by rw [hCb, hma, Bool.or_true])
      have hDa : ¬ D (C a 0) = true := fun h => h2 ((lead_zero a h0).2 h)
      have hlb : ¬ 0 < lead b.data.toList := fun h => hDa (by rw [← hCb]; exact (lead_zero b hb0).1 h)
      have hbb : bad b 0 = false := not_bad_of_lt b 0 (by rw [hCb]; have := mark_lt _ hma; omega)
      unfold tok
      rw [hwb, if_neg (by omega), if_neg hlb, hCb, hma, hbb, if_neg h1, if_neg h2]
      rw [hma] at hmk
      rw [hmk]
      rfl
end Go.Proofs.YtmgdkkkkanjadaaGreatDoor.PureS


