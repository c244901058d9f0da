/-
  The reader over any tokens: it ends; without a fault it has read a format that may be; else its fault stands at a spot.
-/
import Derived.Test.YtgcmgfljbadljaaGreatDoorReadK
/-
  What is read of any text: a format that may be, or a fault at a spot of the text.
-/
namespace Go.Proofs.YtgcmgfljbadljaaGreatDoor.PureK
set_option linter.unusedVariables false
set_option linter.unusedSimpArgs false
open Go.RowKit Go.Lib Go.Shelf Go.Proofs.YtgcmgfljbadljaaGreatDoorW.PrintWords Go.Proofs.YtgcmgfljbadljaaGreatDoorW.PrintLast Go.Proofs.YtgcmgfljbadljaaGreatDoorW.PrintMore Go.Proofs.YtgcmgfljbadljaaGreatDoor.L Go.Proofs.YtgcmgfljbadljaaGreatDoor.HandS Go.Proofs.YtgcmgfljbadljaaGreatDoor.HandF Go.Proofs.YtgcmgfljbadljaaGreatDoor.HandM Go.Proofs.YtgcmgfljbadljaaGreatDoor.HandW Go.Proofs.YtgcmgfljbadljaaGreatDoor.HandR Go.Proofs.YtgcmgfljbadljaaGreatDoor.Iter Go.Proofs.YtgcmgfljbadljaaGreatDoor.PureS Go.Proofs.YtgcmgfljbadljaaGreatDoor.PureL

/-! ### good tokens -/
theorem tok_word (s : ByteArray) (h0 : 0 < s.size) (h : (tok s).2.2 = 0) : isWord (s.extract 0 (tok s).2.1) = (((tok s).1 : Int) == 1) := by
  have hle := tok_le s h0
  have hz := ByteS.take_size s _ hle
  have hpos : 0 < (tok s).2.1 := by
    have e := drop_take s 0 s.size (by omega)
    have := tok_runs s 0 h0 (by
      unfold tokAt
      rw [show s.extract 0 s.size = s from by simp]
      exact h)
    unfold tokAt at this
    rw [show s.extract 0 s.size = s from by simp] at this
    exact this.2
  have hal : Alike0 s (s.extract 0 (tok s).2.1) (tok s).2.1 := by
    refine ⟨?_, hle, by omega, fun f hf => by omega⟩
    apply bytes_of_list
    rw [take_list, take_list, take_list, List.take_take, Nat.min_self]
  have hbyte := hal.byte hpos
  have key : ∀ c, (∀ h : 0 < (s.extract 0 (tok s).2.1).size, True) → (D (C s 0) || PureS.mark (C s 0)) = true → c = (wordS (s.extract 0 (tok s).2.1)).1 → c = 0 := by
    intro c _ hm hc
    rw [hc]
    have hlt : C s 0 < 128 := by
      rw [Bool.or_eq_true] at hm
      rcases hm with hm | hm
      · have : 48 ≤ C s 0 ∧ C s 0 ≤ 57 := of_decide_eq_true hm
        omega
      · exact mark_lt _ hm
    have hcs := (ByteS.small s 0 hlt).1
    have hB : ByteS.B s 0 = C s 0 := by unfold C; rw [hcs]
    have ha2 := ByteS.ascii (s.extract 0 (tok s).2.1) 0 (by rw [hbyte, hB]; exact hlt)
    refine no_word _ (by omega) ?_
    have : C (s.extract 0 (tok s).2.1) 0 = C s 0 := by
      show (Utf8.decode (s.extract 0 (tok s).2.1) 0).1 = _
      rw [ha2]
      show ByteS.B (s.extract 0 (tok s).2.1) 0 = _
      rw [hbyte, hB]
    rw [this]
    exact hm
  obtain ⟨b, hb⟩ : ∃ b, s.extract 0 (tok s).2.1 = b := ⟨_, rfl⟩
  rw [hb] at hz hal key ⊢
  obtain ⟨m, hm⟩ : ∃ m, (tok s).2.1 = m := ⟨_, rfl⟩
  rw [hm] at hz hal hpos
  unfold tok at h hm ⊢
  by_cases h1 : 0 < (wordS s).1
  · rw [if_pos h1] at h hm ⊢
    simp only at h hm ⊢
    have hw : wordS b = (m, (wordS s).2) := by
      refine word_local hal s.size b.size 0 0 0 0 (Nat.le_refl _) (Nat.zero_le _) (by omega) ?_
      show wordS s = _
      rw [← hm]
    have hcnt : (wordS s).2 ≤ 24 := by
      split at h
      · cases h
      · omega
    unfold isWord
    rw [hw, decide_eq_true hpos, decide_eq_true hz.symm, decide_eq_true hcnt]
    rfl
  · rw [if_neg h1] at h hm ⊢
    have hno : (D (C s 0) || PureS.mark (C s 0)) = true := by
      by_cases h2 : 0 < lead s.data.toList
      · rw [(lead_zero s h0).1 h2]; rfl
      · rw [if_neg h2] at h
        cases hmk : (PureS.mark (C s 0) && !bad s 0) with
        | false => rw [hmk] at h; cases h
        | true => rw [((Bool.and_eq_true _ _).mp hmk).1, Bool.or_true]
    have hw0 := key _ (fun _ => trivial) hno rfl
    unfold isWord
    rw [hw0]
    by_cases h2 : 0 < lead s.data.toList
    · rw [if_pos h2]; rfl
    · rw [if_neg h2]; rfl

theorem take_while (p : UInt8 → Bool) (l : List UInt8) : l.take (l.takeWhile p).length = l.takeWhile p := by
  conv => lhs; arg 2; rw [← List.takeWhile_append_dropWhile (p := p) (l := l)]
  rw [List.take_left]
theorem good_text (t : S74) (h : PureS.Good t) : ∃ a : ByteArray, 0 < a.size ∧ (tok a).2.2 = 0 ∧ t.f0 = ((tok a).1 : Int) ∧ t.f1 = a.extract 0 (tok a).2.1 := by
  obtain ⟨s, p, hp, h1, h2, h3⟩ := h
  refine ⟨s.extract p s.size, by rw [ByteArray.size_extract]; omega, h1, h2, ?_⟩
  have hle := tokAt_le s p hp
  rw [h3, ByteArray.extract_extract, Nat.add_zero]
  unfold tokAt at hle ⊢
  rw [Nat.min_eq_left (by omega)]
theorem good_is_word (t : S74) (h : PureS.Good t) (h1 : t.f0 = 1) : isWord t.f1 = true := by
  obtain ⟨a, a0, a1, a2, a3⟩ := good_text t h
  rw [a3, tok_word a a0 a1, ← a2, h1]
  rfl
theorem good_is_num (t : S74) (h : PureS.Good t) (h2 : t.f0 = 2) (hs : t.f1.size ≤ 65536) : ∃ v : Int, strconv_Atoi.f t.f1 = some (v, none) ∧ 0 ≤ v := by
  obtain ⟨a, a0, a1, a2, a3⟩ := good_text t h
  have hk : (tok a).1 = 2 := by omega
  unfold tok at hk
  by_cases hw : 0 < (wordS a).1
  · rw [if_pos hw] at hk; cases hk
  · rw [if_neg hw] at hk
    by_cases hl : 0 < lead a.data.toList
    · have e : tok a = (2, lead a.data.toList, num a (lead a.data.toList)) := by unfold tok; rw [if_neg hw, if_pos hl]
      rw [e] at a1 a3
      have a1 : num a (lead a.data.toList) = 0 := a1
      have a3 : t.f1 = a.extract 0 (lead a.data.toList) := a3
      have hg : great (a.data.toList.take (lead a.data.toList)) = false := by
        unfold num at a1
        cases hg : great (a.data.toList.take (lead a.data.toList)) with
        | false => rfl
        | true => rw [hg, if_pos rfl] at a1; cases a1
      have hd : t.f1.data.toList = a.data.toList.takeWhile isD := by
        rw [a3, take_list]
        unfold lead
        exact take_while _ _
      have hd2 : a.data.toList.take (lead a.data.toList) = a.data.toList.takeWhile isD := by
        unfold lead
        exact take_while _ _
      rw [hd2] at hg
      have hall : ∀ b ∈ a.data.toList.takeWhile isD, isD b = true := fun b hb => List.all_eq_true.1 List.all_takeWhile b hb
      have hne : a.data.toList.takeWhile isD ≠ [] := fun hc => by unfold lead at hl; rw [hc] at hl; exact absurd hl (by decide)
      rcases atoi_digits _ hne hall with ⟨v, hv, _⟩ | ⟨_, hv⟩
      · refine ⟨(v : Int), ?_, by omega⟩
        unfold strconv_Atoi.f
        rw [if_pos (by omega), hd, hv]
      · rw [hg] at hv; cases hv
    · rw [if_neg hl] at hk; cases hk
theorem atoi_total (x : ByteArray) (hs : x.size ≤ 65536) : ∃ r, strconv_Atoi.f x = some r := by
  unfold strconv_Atoi.f
  rw [if_pos (by omega)]
  split <;> exact ⟨_, rfl⟩

/-! ### spots -/
def Spot1 (x : S50) : Prop := 1 ≤ x.f0 ∧ 1 ≤ x.f1
theorem nl_spot (s : ByteArray) (p : Nat) (x : S50) (h : Spot1 x) : Spot1 (nl s p x) := by
  unfold nl
  obtain ⟨h0, h1⟩ := h
  split
  · exact ⟨by show 1 ≤ x.f0 + 1; omega, by show (1 : Int) ≤ 1; omega⟩
  · exact ⟨h0, by show 1 ≤ x.f1 + 1; omega⟩
theorem toks_spot (s : ByteArray) (n : Nat) : ∀ (p : Nat) (x : S50) (rem : Bool) (beh : Nat) (l : List S74), Spot1 x → (∀ t ∈ l, Spot1 t.f2) →
    (∀ t ∈ (toks s n p x rem beh l).1, Spot1 t.f2) ∧ ((toks s n p x rem beh l).2.1 ≠ 0 → 1 ≤ (toks s n p x rem beh l).2.2.1 ∧ 1 ≤ (toks s n p x rem beh l).2.2.2) := by
  have hfin : ∀ (x : S50) (l : List S74), Spot1 x → (∀ t ∈ l, Spot1 t.f2) → (∀ t ∈ (fin l x).1, Spot1 t.f2) ∧ ((fin l x).2.1 ≠ 0 → 1 ≤ (fin l x).2.2.1 ∧ 1 ≤ (fin l x).2.2.2) := by
    intro x l hx hl
    refine ⟨fun t ht => ?_, fun h => absurd rfl h⟩
    rcases List.mem_append.1 ht with ht | ht
    · exact hl t ht
    · rw [List.mem_singleton.1 ht]; exact hx
  have hfail : ∀ (e : Nat) (x : S50), Spot1 x → (∀ t ∈ (PureS.fail e x).1, Spot1 t.f2) ∧ ((PureS.fail e x).2.1 ≠ 0 → 1 ≤ (PureS.fail e x).2.2.1 ∧ 1 ≤ (PureS.fail e x).2.2.2) := by
    intro e x hx
    exact ⟨fun t ht => (List.not_mem_nil ht).elim, fun _ => hx⟩
  induction n with
  | zero => intro p x rem beh l hx hl; exact hfin x l hx hl
  | succ n ih =>
    intro p x rem beh l hx hl
    have hn := nl_spot s p x hx
    rw [toks]
    split
    · split
      · exact ih _ _ _ _ _ hn hl
      · split
        · exact ih _ _ _ _ _ hn hl
        · split
          · exact hfail _ _ hx
          · split
            · exact ih _ _ _ _ _ hn hl
            · split
              · refine ih _ _ _ _ _ hn (fun t ht => ?_)
                rcases List.mem_append.1 ht with ht | ht
                · exact hl t ht
                · rw [List.mem_singleton.1 ht]; exact hx
              · exact hfail _ _ hx
    · exact hfin x l hx hl

/-! ### the tokens of a text -/
structure TOk (T : List S74) : Prop where
  pos : 0 < T.length
  len : T.length ≤ 100000
  good : ∀ j, j < T.length → (tkAt T j).f0 ≠ 0 → PureS.Good (tkAt T j) ∧ j + 1 < T.length
  size : ∀ j, j < T.length → (tkAt T j).f1.size ≤ 65536
  spot : ∀ j, j < T.length → Spot1 (tkAt T j).f2
theorem total_size (T : List S74) (t : S74) (h : t ∈ T) : t.f1.size ≤ total T := by
  induction T with
  | nil => exact (List.not_mem_nil h).elim
  | cons a T ih =>
    rw [total]
    rcases List.mem_cons.1 h with rfl | h
    · omega
    · have := ih h; omega
theorem tk_getElem (T : List S74) (j : Nat) (h : j < T.length) : tkAt T j = T[j] := by
  unfold tkAt rd_T74
  rw [Int.toNat_natCast, List.getD_eq_getElem?_getD, List.getElem?_eq_getElem h]
  rfl
theorem tokens_ok (s : ByteArray) (h : (tokens s).2.1 = 0) : TOk (tokens s).1 := by
  have hs : s.size ≤ 65536 := by
    rcases Nat.lt_or_ge 65536 s.size with h2 | h2
    · unfold tokens at h
      rw [if_pos h2] at h
      exact absurd h (by show ¬ ((3 : Int) = 0); decide)
    · exact h2
  obtain ⟨T', e, ht, hg, htot, hlen⟩ := tokens_good s hs h
  have hsp : ∀ t ∈ (tokens s).1, Spot1 t.f2 := by
    unfold tokens
    rw [if_neg (by omega)]
    exact (toks_spot s s.size 0 ⟨1, 1⟩ false 0 [] ⟨by decide, by decide⟩ (fun t ht => (List.not_mem_nil ht).elim)).1
  have hcase : ∀ j, j < (tokens s).1.length → (tkAt (tokens s).1 j ∈ T' ∧ j + 1 < (tokens s).1.length) ∨ tkAt (tokens s).1 j = stop e := by
    intro j hj
    rw [tk_getElem _ j hj]
    simp only [ht] at hj ⊢
    rw [List.length_append] at hj ⊢
    have h1 : [stop e].length = 1 := rfl
    by_cases hl : j < T'.length
    · left
      rw [List.getElem_append_left hl]
      exact ⟨List.getElem_mem _, by omega⟩
    · right
      obtain rfl : j = T'.length := by omega
      rw [List.getElem_append_right (Nat.le_refl _)]
      simp
  refine ⟨by rw [ht, List.length_append]; exact Nat.lt_of_lt_of_le (Nat.zero_lt_one) (Nat.le_add_left 1 _), by rw [ht, List.length_append]; have h1 : [stop e].length = 1 := rfl; omega, fun j hj h0 => ?_, fun j hj => ?_, fun j hj => ?_⟩
  · rcases hcase j hj with ⟨h1, h2⟩ | h1
    · exact ⟨hg _ h1, h2⟩
    · rw [h1] at h0; exact absurd rfl h0
  · rcases hcase j hj with ⟨h1, h2⟩ | h1
    · have := total_size _ _ h1; omega
    · rw [h1]; exact Nat.zero_le _
  · rw [tk_getElem _ j hj]
    exact hsp _ (List.getElem_mem _)
end Go.Proofs.YtgcmgfljbadljaaGreatDoor.PureK
namespace Go.Proofs.YtgcmgfljbadljaaGreatDoor.PureK
set_option linter.unusedVariables false
set_option linter.unusedSimpArgs false
open Go.RowKit Go.Lib Go.Shelf Go.Proofs.YtgcmgfljbadljaaGreatDoorW.PrintWords Go.Proofs.YtgcmgfljbadljaaGreatDoorW.PrintLast Go.Proofs.YtgcmgfljbadljaaGreatDoorW.PrintMore Go.Proofs.YtgcmgfljbadljaaGreatDoor.L Go.Proofs.YtgcmgfljbadljaaGreatDoor.HandS Go.Proofs.YtgcmgfljbadljaaGreatDoor.HandF Go.Proofs.YtgcmgfljbadljaaGreatDoor.HandM Go.Proofs.YtgcmgfljbadljaaGreatDoor.HandW Go.Proofs.YtgcmgfljbadljaaGreatDoor.HandR Go.Proofs.YtgcmgfljbadljaaGreatDoor.Iter Go.Proofs.YtgcmgfljbadljaaGreatDoor.PureS Go.Proofs.YtgcmgfljbadljaaGreatDoor.PureL

structure ROk (T : List S74) (s : Rd) : Prop where
  lt : s.j < T.length
  spot : s.e ≠ 0 → 1 ≤ s.l ∧ 1 ≤ s.k
theorem next_ok {T : List S74} {s : Rd} (h : ROk T s) : ROk T (nextS T s) ∧ (nextS T s).e = s.e ∧ s.j ≤ (nextS T s).j := by
  unfold nextS
  by_cases hc : s.e = 0 ∧ s.j + 1 < T.length
  · rw [if_pos hc]
    exact ⟨⟨hc.2, fun h2 => absurd hc.1 h2⟩, rfl, Nat.le_succ _⟩
  · rw [if_neg hc]
    exact ⟨h, rfl, Nat.le_refl _⟩
/-- A card that was taken without a fault. -/
def CardOk (L : List S42) (x : S42) : Prop := L.length ≠ 64 ∧ isWord x.f0 = true ∧ ((0 ≤ x.f1 ∧ x.f1 ≤ 3) ∧ (0 ≤ x.f2 ∧ x.f2 ≤ 100)) ∧ isAt L x.f0 (bsI L x.f0) = false ∧ ¬ bsI L x.f0 < L.length
/-- Limits that may be. -/
def ListOk (l : List S42) : Prop := l.length ≤ 64 ∧ Sorted l ∧ ∀ x ∈ l, isWord x.f0 = true ∧ ((0 ≤ x.f1 ∧ x.f1 ≤ 3) ∧ (0 ≤ x.f2 ∧ x.f2 ≤ 100))
theorem list_snoc {L : List S42} {x : S42} (h : ListOk L) (hx : CardOk L x) : ListOk (L ++ [x]) := by
  obtain ⟨h1, h2, h3⟩ := h
  obtain ⟨c1, c2, c3, c4, c5⟩ := hx
  obtain ⟨b1, b2, b3⟩ := bsI_spec h2 x.f0
  have hb : bsI L x.f0 = L.length := by omega
  rw [hb] at b2
  refine ⟨by rw [List.length_append, List.length_singleton]; omega, fun i j hij hj => ?_, fun y hy => ?_⟩
  · rw [List.length_append, List.length_singleton] at hj
    rw [rd42_snoc, rd42_snoc, if_pos (by omega)]
    by_cases hjl : j < L.length
    · rw [if_pos hjl]
      exact h2 i j hij hjl
    · rw [if_neg hjl, if_pos (by omega)]
      exact b2 i (by omega)
  · rcases List.mem_append.1 hy with hy | hy
    · exact h3 y hy
    · rw [List.mem_singleton.1 hy]
      exact ⟨c2, c3⟩
section
variable {T : List S74} (hT : TOk T)
include hT
theorem fail_ok {s : Rd} (h : ROk T s) (x : Int) (hx : x ≠ 0) : ROk T (failS T x s) ∧ (failS T x s).e ≠ 0 ∧ (failS T x s).j = s.j := by
  unfold failS
  by_cases he : s.e = 0
  · rw [if_pos he]
    exact ⟨⟨h.lt, fun _ => hT.spot _ h.lt⟩, hx, rfl⟩
  · rw [if_neg he]
    exact ⟨h, he, rfl⟩
theorem take_ok {s : Rd} (h : ROk T s) (K : Int) (ts : List ByteArray) : ROk T (takeS T K ts s) ∧ s.j ≤ (takeS T K ts s).j ∧ ((takeS T K ts s).e = 0 → s.e = 0 ∧ (tkAt T s.j).f0 = K ∧ (K ≠ 0 → (takeS T K ts s).j = s.j + 1)) := by
  unfold takeS
  by_cases hb : badS K ts (tkAt T s.j) = true
  · rw [if_pos hb]
    obtain ⟨h1, h2, h3⟩ := fail_ok hT h 5 (by decide)
    obtain ⟨h4, h5, h6⟩ := next_ok h1
    exact ⟨h4, by rw [h3] at h6; exact h6, fun h7 => absurd (h5.symm.trans h7) h2⟩
  · rw [if_neg hb]
    obtain ⟨h4, h5, h6⟩ := next_ok h
    refine ⟨h4, h6, fun h7 => ?_⟩
    have he : s.e = 0 := h5.symm.trans h7
    have hk : (tkAt T s.j).f0 = K := by
      unfold badS at hb
      rw [Bool.or_eq_true, not_or, Bool.not_eq_true', Bool.not_eq_false, beq_iff_eq] at hb
      exact hb.1
    refine ⟨he, hk, fun hK => ?_⟩
    have := (hT.good _ h.lt (by rw [hk]; exact hK)).2
    unfold nextS
    rw [if_pos ⟨he, this⟩]
theorem number_ok {s : Rd} (h : ROk T s) (most : Int) : ∃ v s', numberS T most s = some (v, s') ∧ ROk T s' ∧ s.j ≤ s'.j ∧ (s'.e = 0 → s.e = 0 ∧ 0 ≤ v ∧ v ≤ most) := by
  obtain ⟨r, hr⟩ := atoi_total (tkAt T s.j).f1 (hT.size _ h.lt)
  unfold numberS
  rw [hr, Option.bind_some]
  by_cases hc : r.2.isNone = true ∧ (tkAt T s.j).f0 = 2 ∧ r.1 > most
  · rw [if_pos hc]
    obtain ⟨h1, h2, h3⟩ := fail_ok hT h 3 (by decide)
    obtain ⟨h4, h5, h6⟩ := take_ok hT h1 2 []
    exact ⟨_, _, rfl, h4, by rw [h3] at h5; exact h5, fun h7 => absurd (h6 h7).1 h2⟩
  · rw [if_neg hc]
    obtain ⟨h4, h5, h6⟩ := take_ok hT h 2 []
    refine ⟨_, _, rfl, h4, h5, fun h7 => ?_⟩
    obtain ⟨h8, h9, _⟩ := h6 h7
    obtain ⟨v, hv, h0⟩ := good_is_num _ (hT.good _ h.lt (by rw [h9]; decide)).1 h9 (hT.size _ h.lt)
    rw [hv] at hr
    injection hr with hr
    subst hr
    exact ⟨h8, h0, Int.not_lt.1 (fun h10 => hc ⟨rfl, h9, h10⟩)⟩
theorem terms_ok {s : Rd} (h : ROk T s) : ∃ a c s', termsS T s = some (a, c, s') ∧ ROk T s' ∧ s.j ≤ s'.j ∧ (s'.e = 0 → s.e = 0 ∧ s.j < s'.j ∧ (0 ≤ a ∧ a ≤ 3) ∧ (0 ≤ c ∧ c ≤ 100)) := by
  unfold termsS
  obtain ⟨h1, h2, h3⟩ := take_ok hT h 1 []
  split
  · obtain ⟨a, s2, e2, h4, h5, h6⟩ := number_ok hT h1 3
    obtain ⟨c, s3, e3, h7, h8, h9⟩ := number_ok hT h4 100
    rw [e2, Option.bind_some]
    show ∃ a' c' s', ((numberS T 100 s2).bind fun c => some (a, c.1, c.2)) = some (a', c', s') ∧ _
    rw [e3, Option.bind_some]
    refine ⟨a, c, s3, rfl, h7, by omega, fun h10 => ?_⟩
    obtain ⟨q1, q2⟩ := h9 h10
    obtain ⟨q3, q4⟩ := h6 q1
    obtain ⟨q5, q6, q7⟩ := h3 q3
    have := q7 (by decide)
    exact ⟨q5, by omega, q4, q2⟩
  · refine ⟨0, 0, _, rfl, h1, h2, fun h10 => ?_⟩
    obtain ⟨q5, q6, q7⟩ := h3 h10
    have := q7 (by decide)
    exact ⟨q5, by omega, by decide, by decide⟩
theorem order_ok {s : Rd} (L : List S42) (h : ROk T s) : ROk T (orderS T L s) ∧ (orderS T L s).j = s.j ∧ ((orderS T L s).e = 0 → s.e = 0 ∧ ((tkAt T s.j).f0 = 1 → isAt L (tkAt T s.j).f1 (bsI L (tkAt T s.j).f1) = false ∧ ¬ bsI L (tkAt T s.j).f1 < L.length)) := by
  unfold orderS
  by_cases h1 : ((tkAt T s.j).f0 == 1) = true
  · rw [if_pos h1]
    by_cases h2 : isAt L (tkAt T s.j).f1 (bsI L (tkAt T s.j).f1) = true
    · rw [if_pos h2]
      obtain ⟨q1, q2, q3⟩ := fail_ok hT h 7 (by decide)
      exact ⟨q1, q3, fun h3 => absurd h3 q2⟩
    · rw [if_neg h2]
      by_cases h4 : bsI L (tkAt T s.j).f1 < L.length
      · rw [if_pos h4]
        obtain ⟨q1, q2, q3⟩ := fail_ok hT h 9 (by decide)
        exact ⟨q1, q3, fun h3 => absurd h3 q2⟩
      · rw [if_neg h4]
        exact ⟨h, rfl, fun h3 => ⟨h3, fun _ => ⟨Bool.eq_false_iff.2 h2, h4⟩⟩⟩
  · rw [if_neg h1]
    exact ⟨h, rfl, fun h3 => ⟨h3, fun h5 => absurd (beq_iff_eq.2 h5) h1⟩⟩
theorem card_ok {s : Rd} (L : List S42) (h : ROk T s) : ∃ x s', cardS T L s = some (x, s') ∧ ROk T s' ∧ (s'.e = 0 → s.e = 0 ∧ s.j < s'.j ∧ CardOk L x) := by
  have hf : ROk T (fullS T L s) ∧ (fullS T L s).j = s.j ∧ ((fullS T L s).e = 0 → s.e = 0 ∧ L.length ≠ 64) := by
    unfold fullS
    by_cases h6 : L.length = 64
    · rw [if_pos h6]
      obtain ⟨q1, q2, q3⟩ := fail_ok hT h 3 (by decide)
      exact ⟨q1, q3, fun h3 => absurd h3 q2⟩
    · rw [if_neg h6]
      exact ⟨h, rfl, fun h3 => ⟨h3, h6⟩⟩
  obtain ⟨f1, f2, f3⟩ := hf
  obtain ⟨a, c, s3, e3, h3, h4, h5⟩ := terms_ok hT f1
  obtain ⟨o1, o2, o3⟩ := order_ok hT L h3
  obtain ⟨t1, t2, t3⟩ := take_ok hT o1 1 []
  unfold cardS
  rw [e3, Option.bind_some]
  refine ⟨⟨(tkAt T (orderS T L s3).j).f1, a, c⟩, takeS T 1 [] (orderS T L s3), rfl, t1, fun h6 => ?_⟩
  obtain ⟨q1, q2, _⟩ := t3 h6
  obtain ⟨q3, q4⟩ := o3 q1
  obtain ⟨q5, q6, q7⟩ := h5 q3
  obtain ⟨q8, q9⟩ := f3 q5
  rw [o2] at q2
  have hg := (hT.good _ h3.lt (by rw [q2]; decide)).1
  refine ⟨q8, by omega, q9, ?_, q7, ?_⟩
  · show isWord (tkAt T (orderS T L s3).j).f1 = true
    rw [o2]
    exact good_is_word _ hg q2
  · show isAt L (tkAt T (orderS T L s3).j).f1 (bsI L (tkAt T (orderS T L s3).j).f1) = false ∧ ¬ bsI L (tkAt T (orderS T L s3).j).f1 < L.length
    rw [o2]
    exact q4 q2
theorem cards_ok (n : Nat) : ∀ (k : Nat) (L : List S42) (s : Rd), ROk T s → T.length - s.j ≤ n → n + 2 < k → L.length + n ≤ 1000000 →
    ∃ l s', cardsS T k L s = some (l, s') ∧ ROk T s' ∧ (s'.e = 0 → s.e = 0 ∧ (ListOk L → ListOk l)) := by
  induction n with
  | zero =>
    intro k L s h h1 h2 h3
    have := h.lt
    omega
  | succ n ih =>
    intro k L s h h1 h2 h3
    obtain ⟨k, rfl⟩ : ∃ q, k = q + 1 := ⟨k - 1, by omega⟩
    rw [cardsS]
    by_cases hw : isWordS T [tBan, tLimit] s = true
    · rw [if_pos hw, if_pos (by omega)]
      obtain ⟨x, s1, e1, q1, q2⟩ := card_ok hT L h
      rw [e1, Option.bind_some]
      show ∃ l s', cardsS T k (L ++ [x]) s1 = some (l, s') ∧ _
      have hlen : (L ++ [x]).length = L.length + 1 := by rw [List.length_append, List.length_singleton]
      by_cases he : s1.e = 0
      · obtain ⟨q3, q4, q5⟩ := q2 he
        obtain ⟨l, s', e2, q6, q7⟩ := ih k (L ++ [x]) s1 q1 (by omega) (by omega) (by omega)
        exact ⟨l, s', e2, q6, fun h4 => ⟨q3, fun h5 => (q7 h4).2 (list_snoc h5 q5)⟩⟩
      · obtain ⟨k, rfl⟩ : ∃ q, k = q + 1 := ⟨k - 1, by omega⟩
        refine ⟨L ++ [x], s1, ?_, q1, fun h4 => absurd h4 he⟩
        have hw2 : isWordS T [tBan, tLimit] s1 = false := by
          unfold isWordS
          rw [beq_eq_false_iff_ne.2 he, Bool.false_and]
        rw [cardsS, hw2, if_neg Bool.false_ne_true]
    · rw [if_neg hw]
      exact ⟨L, s, rfl, h, fun h4 => ⟨h4, fun h5 => h5⟩⟩
theorem head_ok : ∃ n b u s, headS T = some (n, b, u, s) ∧ ROk T s ∧ (s.e = 0 → isWord n = true ∧ (0 ≤ b ∧ b ≤ 4000) ∧ (0 ≤ u ∧ u ≤ 40)) := by
  have r0 : ROk T ⟨0, 0, 0, 0⟩ := ⟨hT.pos, fun h => absurd rfl h⟩
  obtain ⟨r1, _, c1⟩ := take_ok hT r0 1 [tFormat]
  obtain ⟨r2, _, c2⟩ := take_ok hT r1 1 []
  obtain ⟨r3, _, c3⟩ := take_ok hT r2 3 [tOpen]
  obtain ⟨r4, _, c4⟩ := take_ok hT r3 1 [tBudget]
  obtain ⟨b, s5, e5, r5, _, c5⟩ := number_ok hT r4 4000
  obtain ⟨r6, _, c6⟩ := take_ok hT r5 1 [tUnits]
  obtain ⟨u, s7, e7, r7, _, c7⟩ := number_ok hT r6 40
  refine ⟨(tkAt T (nameS T).j).f1, b, u, s7, ?_, r7, fun h => ?_⟩
  · unfold headS openS nameS
    rw [e5, Option.bind_some]
    show (numberS T 40 (takeS T 1 [tUnits] s5)).bind _ = _
    rw [e7, Option.bind_some]
  · obtain ⟨q1, q2⟩ := c7 h
    obtain ⟨q3, _⟩ := c6 q1
    obtain ⟨q4, q5⟩ := c5 q3
    obtain ⟨q6, _⟩ := c4 q4
    obtain ⟨q7, _⟩ := c3 q6
    obtain ⟨q8, q9, _⟩ := c2 q7
    exact ⟨good_is_word _ (hT.good _ r1.lt (by rw [q9]; decide)).1 q9, q5, q2⟩
end
theorem read_any (s : ByteArray) (k : Nat) (hk : 1000000 + 5 * s.size < k) : ∃ n b u l e li ko, limits_Read.f k s = some (n, b, u, l, e, li, ko) ∧ (e = 0 → li = 0 ∧ ko = 0 ∧ MayP n b u l) ∧ (e ≠ 0 → n = ⟨#[]⟩ ∧ b = 0 ∧ u = 0 ∧ l = [] ∧ 1 ≤ li ∧ 1 ≤ ko) := by
  unfold limits_Read.f readF
  rw [scanTokens s k (by omega), Option.bind_some]
  unfold readS
  by_cases he : (tokens s).2.1 = 0
  · have hT := tokens_ok s he
    have hpos := hT.pos
    have hlen := hT.len
    rw [if_neg (by rw [he]; decide), if_neg (by omega)]
    obtain ⟨n, b, u, s1, e1, r1, c1⟩ := head_ok hT
    obtain ⟨l, s2, e2, r2, c2⟩ := cards_ok hT (tokens s).1.length k [] s1 r1 (by omega) (by omega) (by rw [List.length_nil]; omega)
    obtain ⟨r3, _, c3⟩ := take_ok hT r2 3 [tShut]
    obtain ⟨r4, _, c4⟩ := take_ok hT r3 0 []
    rw [e1, Option.bind_some]
    show ∃ n' b' u' l' e' li ko, ((cardsS (tokens s).1 k [] s1).bind _) = some (n', b', u', l', e', li, ko) ∧ _
    rw [e2, Option.bind_some]
    show ∃ n' b' u' l' e' li ko, (if (!((HandR.tailS (tokens s).1 s2).e == 0)) = true then _ else _) = some (n', b', u', l', e', li, ko) ∧ _
    have ht : HandR.tailS (tokens s).1 s2 = takeS (tokens s).1 0 [] (takeS (tokens s).1 3 [tShut] s2) := rfl
    rw [← ht] at r4 c4
    by_cases h0 : (HandR.tailS (tokens s).1 s2).e = 0
    · rw [h0, if_neg (by decide)]
      refine ⟨n, b, u, l, 0, 0, 0, rfl, fun _ => ⟨rfl, rfl, ?_⟩, fun h => absurd rfl h⟩
      obtain ⟨q1, _⟩ := c4 h0
      obtain ⟨q2, _⟩ := c3 q1
      obtain ⟨q3, q4⟩ := c2 q2
      obtain ⟨q5, q6, q7⟩ := c1 q3
      obtain ⟨l1, l2, l3⟩ := q4 ⟨by simp, fun i j _ h => by simp at h, fun x hx => (List.not_mem_nil hx).elim⟩
      refine ⟨q5, q6.1, q6.2, q7.1, q7.2, l1, fun j hj => ⟨?_, fun hj0 => l2 (j - 1) j (by omega) hj⟩⟩
      obtain ⟨w0, w1, w2⟩ := l3 _ (PureL.rd42_mem l j hj)
      unfold okL
      rw [w0, decide_eq_true w1.1, decide_eq_true w1.2, decide_eq_true w2.1, decide_eq_true w2.2]
      rfl
    · rw [if_pos (by rw [beq_eq_false_iff_ne.2 h0]; rfl)]
      have := r4.spot h0
      exact ⟨_, _, _, _, _, _, _, rfl, fun h => absurd h h0, fun _ => ⟨rfl, rfl, rfl, rfl, this.1, this.2⟩⟩
  · rw [if_pos (by rw [beq_eq_false_iff_ne.2 he]; rfl)]
    refine ⟨_, _, _, _, _, _, _, rfl, fun h => absurd h he, fun _ => ⟨rfl, rfl, rfl, rfl, ?_⟩⟩
    unfold tokens at he ⊢
    by_cases hs : 65536 < s.size
    · rw [if_pos hs]
      exact ⟨by decide, by decide⟩
    · rw [if_neg hs] at he ⊢
      exact (toks_spot s s.size 0 ⟨1, 1⟩ false 0 [] ⟨by decide, by decide⟩ (fun t ht => (List.not_mem_nil ht).elim)).2 he
end Go.Proofs.YtgcmgfljbadljaaGreatDoor.PureK
