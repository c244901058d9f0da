/-
  A token is the same wherever its text stands, if a blank, a line's end or a remark stands behind it.
-/
import Derived.Test.YtmgdkkkkanjadaaGreatDoorCountS
import Derived.Test.YtmgdkkkkanjadaaGreatDoorX6
import Derived.Lib.AtoiAllCases
/-
  Numerals over numbers and lists alone: how many digits stand at the beginning, and are they too great; scan's way and the document's way agree.
-/
namespace Go.Proofs.YtmgdkkkkanjadaaGreatDoor.PureS
set_option linter.unusedVariables false
set_option linter.unusedSimpArgs false
open Go.RowKit Go.Lib Go.Proofs.YtmgdkkkkanjadaaGreatDoorW.PrintWords Go.Proofs.YtmgdkkkkanjadaaGreatDoorW.PrintLast Go.Proofs.YtmgdkkkkanjadaaGreatDoorW.PrintMore Go.Proofs.YtmgdkkkkanjadaaGreatDoor.X Go.Proofs.YtmgdkkkkanjadaaGreatDoor.HandS Go.Proofs.YtmgdkkkkanjadaaGreatDoor.Iter

def isD (b : UInt8) : Bool:=D b.toNat
/-- What digits spell. -/
def val (acc : Nat) (l : List UInt8) : Nat:=l.foldl (fun a b=>a * 10 + (b.toNat - 48)) acc
theorem val_nil (acc : Nat) : val acc [] = acc:=by unfold val;rw [List.foldl_nil]
theorem val_cons (acc : Nat) (b : UInt8) (l : List UInt8) : val acc (b :: l) = val (acc * 10 + (b.toNat - 48)) l:=by unfold val;rw [List.foldl_cons]
theorem val_ge (l : List UInt8) : ∀ acc,acc ≤ val acc l:=by
  induction l with
  | nil=>intro acc;rw [val_nil];exact Nat.le_refl _
  | cons b l ih =>
    intro acc
    have:=ih (acc * 10 + (b.toNat - 48))
    rw [val_cons]
    omega
theorem parse_val (l : List UInt8) : ∀ acc,(∀ b ∈ l,isD b = true) → (parseUint10 acc l = .ok (val acc l)) ∨ (parseUint10 acc l = .range ∧ 99999 < val acc l):=by
  induction l with
  | nil=>intro acc h;exact .inl (by rw [val_nil,parseUint10])
  | cons b l ih =>
    intro acc h
    have hb : 48 ≤ b.toNat ∧ b.toNat ≤ 57:=of_decide_eq_true (h b (List.mem_cons_self ..))
    have hge:=val_ge l (acc * 10 + (b.toNat - 48))
    have e : val acc (b :: l) = val (acc * 10 + (b.toNat - 48)) l:=val_cons acc b l
    rw [e]
    have e2 : parseUint10 acc (b :: l) = if 1844674407370955162 ≤ acc then .range else if 18446744073709551616 ≤ acc * 10 + (b.toNat - 48) then .range else parseUint10 (acc * 10 + (b.toNat - 48)) l:=by
      rw [parseUint10,if_pos hb]
    rw [e2]
    split
    · rename_i h1
      exact .inr ⟨rfl,by omega⟩
    · split
      · rename_i h1 h2
        exact .inr ⟨rfl,by omega⟩
      · exact ih _ (fun x hx=>h x (List.mem_cons_of_mem _ hx))
/-- Whether Atoi's answer is too great for a number of a text. -/
def great (l : List UInt8) : Bool:=decide (99999 < val 0 l)
theorem atoi_digits (l : List UInt8) (hl : l ≠ []) (h : ∀ b ∈ l,isD b = true) : (∃ v : Nat,atoiAll l = .ok (v : Int) ∧ v = val 0 l) ∨ (atoiAll l = .range ∧ great l = true):=by
  cases l with
  | nil=>exact absurd rfl hl
  | cons c r =>
    have hb : 48 ≤ c.toNat ∧ c.toNat ≤ 57:=of_decide_eq_true (h c (List.mem_cons_self ..))
    rw [atoiAll_plain c r (by omega) (by omega),parseMag,if_neg (by simp)]
    rcases parse_val (c :: r) 0 h with e | ⟨e,hg⟩
    · rw [e]
      by_cases h3 : 9223372036854775808 ≤ val 0 (c :: r)
      · exact .inr ⟨by rw [signless,if_pos h3],decide_eq_true (by omega)⟩
      · exact .inl ⟨_,by rw [signless,if_neg h3],rfl⟩
    · exact .inr ⟨by rw [e,signless],decide_eq_true hg⟩

/-! ### great -/
theorem bt_get (s : ByteArray) (i : Nat) (h : i < s.size) : bt s (i : Int) = ((s.data.toList.getD i 0).toNat : Int):=by
  unfold bt
  rw [dif_pos (show (i : Int).toNat < s.size by rw [Int.toNat_natCast];exact h)]
  have h2 : i < s.data.toList.length:=by rw [← size_eq];exact h
  have e : s.data.toList.getD i 0 = s.data.toList[i]:=by
    show (s.data.toList[i]?).getD 0 = _
    rw [List.getElem?_eq_getElem h2];rfl
  rw [e]
  rfl
theorem drop_cons (l : List UInt8) (i : Nat) (h : i < l.length) : l.drop i = l.getD i 0 :: l.drop (i + 1):=by
  rw [List.drop_eq_getElem_cons h]
  congr 1
  show _ = (l[i]?).getD 0
  rw [List.getElem?_eq_getElem h];rfl
theorem mn_eq (a b : Int) : mn a b = if a ≤ b then a else b:=by
  unfold mn
  split <;> split <;> omega
theorem sat_step (acc b : Nat) (hb : 48 ≤ b) (x : Int) (h : x = if acc ≤ 100000 then (acc : Int) else 100000) : mn (10 * x + ((b : Int) - 48)) 100000 = if acc * 10 + (b - 48) ≤ 100000 then ((acc * 10 + (b - 48) : Nat) : Int) else 100000:=by
  rw [mn_eq]
  by_cases h1 : acc ≤ 100000
  · rw [if_pos h1] at h
    by_cases h2 : acc * 10 + (b - 48) ≤ 100000
    · rw [if_pos h2,if_pos (by omega)]
      omega
    · rw [if_neg h2]
      split <;> omega
  · rw [if_neg h1] at h
    rw [if_neg (show ¬ acc * 10 + (b - 48) ≤ 100000 by omega)]
    split <;> omega
end Go.Proofs.YtmgdkkkkanjadaaGreatDoor.PureS
/-
  How many digits stand at the beginning of a text: scan's way and the document's way agree.
-/
namespace Go.Proofs.YtmgdkkkkanjadaaGreatDoor.PureS
set_option linter.unusedVariables false
set_option linter.unusedSimpArgs false
open Go.RowKit Go.Lib Go.Proofs.YtmgdkkkkanjadaaGreatDoorW.PrintWords Go.Proofs.YtmgdkkkkanjadaaGreatDoorW.PrintLast Go.Proofs.YtmgdkkkkanjadaaGreatDoorW.PrintMore Go.Proofs.YtmgdkkkkanjadaaGreatDoor.X Go.Proofs.YtmgdkkkkanjadaaGreatDoor.HandS Go.Proofs.YtmgdkkkkanjadaaGreatDoor.Iter

def lead (l : List UInt8) : Nat:=(l.takeWhile isD).length
theorem wrap32_in {n : Int} (h0 : -2147483648 ≤ n) (h1 : n ≤ 2147483647) : wrap32 n = n:=by
  unfold wrap32;omega
theorem digit_set (b : UInt8) : ([48,49,50,51,52,53,54,55,56,57] : List UInt8).contains b = isD b:=by
  have : ∀ n : Fin 256,([48,49,50,51,52,53,54,55,56,57] : List UInt8).contains (UInt8.ofNat n.1) = isD (UInt8.ofNat n.1):=by decide +kernel
  have h:=this ⟨b.toNat,UInt8.toNat_lt b⟩
  rwa [UInt8.ofNat_toNat] at h
theorem drop_lead (l : List UInt8) : (trimLeftS l [48,49,50,51,52,53,54,55,56,57]).length + lead l = l.length:=by
  unfold trimLeftS lead
  induction l with
  | nil=>rfl
  | cons b l ih =>
    rw [List.dropWhile_cons,List.takeWhile_cons,digit_set]
    cases isD b with
    | true=>rw [if_pos rfl,if_pos rfl,List.length_cons,List.length_cons];omega
    | false=>rw [if_neg Bool.false_ne_true,if_neg Bool.false_ne_true];rfl
theorem numeral (s : ByteArray) (hs : s.size ≤ 4611686018427387904) : scan_numeral.f s = some ((lead s.data.toList : Nat) : Int):=by
  have h:=drop_lead s.data.toList
  have hz:=size_eq s
  unfold scan_numeral.f strings_TrimLeft.f
  rw [if_pos ⟨by decide,by decide⟩,Option.bind_some]
  have e : ((⟨(trimLeftS s.data.toList [48,49,50,51,52,53,54,55,56,57]).toArray⟩ : ByteArray).size : Nat) = (trimLeftS s.data.toList [48,49,50,51,52,53,54,55,56,57]).length:=by
    rw [size_eq]
  show some (wrap64 ((s.size : Int) - ((⟨(trimLeftS s.data.toList [48,49,50,51,52,53,54,55,56,57]).toArray⟩ : ByteArray).size : Int))) = _
  rw [e,wrap_in (by omega) (by omega)]
  congr 1
  omega
end Go.Proofs.YtmgdkkkkanjadaaGreatDoor.PureS
/-
  A token at the beginning of a text: scan's way and the document's way come to one plain answer.
-/
namespace Go.Proofs.YtmgdkkkkanjadaaGreatDoor.PureS
set_option linter.unusedVariables false
set_option linter.unusedSimpArgs false
open Go.RowKit Go.Lib Go.Proofs.YtmgdkkkkanjadaaGreatDoorW.PrintWords Go.Proofs.YtmgdkkkkanjadaaGreatDoorW.PrintLast Go.Proofs.YtmgdkkkkanjadaaGreatDoorW.PrintMore Go.Proofs.YtmgdkkkkanjadaaGreatDoor.X Go.Proofs.YtmgdkkkkanjadaaGreatDoor.HandS Go.Proofs.YtmgdkkkkanjadaaGreatDoor.Iter

/-! ### what is left of a text -/
theorem decode_drop (s : ByteArray) (p q : Nat) : Utf8.decode (s.extract p s.size) q = Utf8.decode s (p + q):=by
  rw [← decodeL_drop,B_ext,List.drop_drop,decodeL_drop]
theorem C_drop (s : ByteArray) (p q : Nat) : C (s.extract p s.size) q = C s (p + q):=by unfold C;rw [decode_drop]
theorem W_drop (s : ByteArray) (p q : Nat) : W (s.extract p s.size) q = W s (p + q):=by unfold W;rw [decode_drop]
theorem bad_drop (s : ByteArray) (p q : Nat) : bad (s.extract p s.size) q = bad s (p + q):=by unfold bad;rw [C_drop,W_drop]
theorem drop_drop (s : ByteArray) (p q : Nat) : (s.extract p s.size).extract q (s.extract p s.size).size = s.extract (p + q) s.size:=by
  apply ByteArray.ext
  apply Array.toList_inj.1
  rw [B_ext,B_ext,B_ext,List.drop_drop]
theorem drop_take (s : ByteArray) (p n : Nat) (h : p + n ≤ s.size) : (s.extract p s.size).extract 0 n = s.extract p (p + n):=by
  apply ByteArray.ext
  apply Array.toList_inj.1
  rw [extract_data,B_ext,extract_data,List.drop_zero,Nat.sub_zero,Nat.add_sub_cancel_left]
theorem Runs.drop {s : ByteArray} {p q e m : Nat} (h : Runs (s.extract p s.size) q e m) : Runs s (p + q) (p + e) m:=by
  induction h with
  | nil q=>exact .nil _
  | cons q e m h1 h2 h3 ih =>
    rw [ext_size] at h1
    rw [bad_drop] at h2
    rw [W_drop,← Nat.add_assoc] at ih
    exact .cons _ _ _ (by omega) h2 ih
theorem D_eq (s : ByteArray) (p : Nat) : D (C s p) = D (ByteS.B s p):=by
  by_cases h : C s p < 128
  · have h1:=(ByteS.small s p h).1
    unfold C
    rw [h1]
  · have h2 : ¬ ByteS.B s p < 128:=by
      intro h3
      have:=ByteS.ascii s p h3
      unfold C at h
      rw [this] at h
      exact h h3
    unfold D
    rw [decide_eq_false (by omega),decide_eq_false (by omega)]
theorem lead_zero (s : ByteArray) (hs : 0 < s.size) : 0 < lead s.data.toList ↔ D (C s 0) = true:=by
  rw [D_eq]
  have hd:=drop_cons s.data.toList 0 (by rw [← size_eq];exact hs)
  rw [List.drop_zero] at hd
  rw [hd]
  unfold lead
  rw [List.takeWhile_cons]
  show 0 < (if D (s.data.toList.getD 0 0).toNat = true then _ else _ : List UInt8).length ↔ D (s.data.toList.getD 0 0).toNat = true
  cases D (s.data.toList.getD 0 0).toNat with
  | true=>rw [if_pos rfl,List.length_cons];simp
  | false=>rw [if_neg Bool.false_ne_true];simp
theorem lead_le (l : List UInt8) : lead l ≤ l.length:=by
  have:=drop_lead l
  omega
theorem take_takeWhile (p : UInt8 → Bool) (l : List UInt8) : l.take (l.takeWhile p).length = l.takeWhile p:=by
  induction l with
  | nil=>rfl
  | cons b l ih =>
    rw [List.takeWhile_cons]
    cases p b with
    | true=>rw [if_pos rfl,List.length_cons,List.take_succ_cons,ih]
    | false=>rw [if_neg Bool.false_ne_true];rfl
theorem mem_takeWhile (p : UInt8 → Bool) (l : List UInt8) : ∀ b ∈ l.takeWhile p,p b = true:=by
  induction l with
  | nil=>intro b h;cases h
  | cons c l ih =>
    intro b h
    rw [List.takeWhile_cons] at h
    cases hc : p c with
    | true =>
      rw [hc,if_pos rfl] at h
      rcases List.mem_cons.1 h with rfl | h
      · exact hc
      · exact ih b h
    | false =>
      rw [hc,if_neg Bool.false_ne_true] at h
      cases h
theorem lead_digits (l : List UInt8) : ∀ b ∈ l.take (lead l),isD b = true:=by
  unfold lead
  rw [take_takeWhile]
  exact mem_takeWhile isD l
/-- The digits at the beginning are runes, none broken. -/
theorem lead_runs (s : ByteArray) (n : Nat) : ∀ p,p + n ≤ s.size → (∀ i,p ≤ i → i < p + n → D (ByteS.B s i) = true) → Runs s p (p + n) n:=by
  induction n with
  | zero=>intro p h1 h2;exact .nil _
  | succ n ih =>
    intro p h1 h2
    have hb:=h2 p (Nat.le_refl _) (by omega)
    have hb2 : 48 ≤ ByteS.B s p ∧ ByteS.B s p ≤ 57:=of_decide_eq_true hb
    have ha:=ByteS.ascii s p (by omega)
    have hw : W s p = 1:=by unfold W;rw [ha]
    have hc : C s p = ByteS.B s p:=by unfold C;rw [ha]
    have:=ih (p + 1) (by omega) (fun i h3 h4=>h2 i (by omega) (by omega))
    refine .cons _ _ _ (by omega) ?_ ?_
    · unfold bad
      exact decide_eq_false (by omega)
    · rw [hw,show p + (n + 1) = p + 1 + n from by omega]
      exact this
theorem lead_B (s : ByteArray) (p : Nat) (i : Nat) (h1 : p ≤ i) (h2 : i < p + lead (s.data.toList.drop p)) : D (ByteS.B s i) = true:=by
  have hd:=lead_digits (s.data.toList.drop p)
  have hl:=lead_le (s.data.toList.drop p)
  obtain ⟨j,rfl⟩ : ∃ j,i = p + j:=⟨i - p,by omega⟩
  have hj : j < lead (s.data.toList.drop p):=by omega
  have hlen : j < (s.data.toList.drop p).length:=by omega
  have e : (s.data.toList.drop p)[j] = s.data.toList.getD (p + j) 0:=by
    rw [List.getElem_drop]
    show _ = (s.data.toList[p + j]?).getD 0
    rw [List.getElem?_eq_getElem (by rw [List.length_drop] at hlen;omega)];rfl
  have:=hd (s.data.toList.drop p)[j] (by
    rw [List.mem_take_iff_getElem]
    exact ⟨j,by omega,rfl⟩)
  rw [e] at this
  exact this

/-! ### a number, with something behind it -/
def G (s : ByteArray) : Nat:=(decodeGo s).1
theorem G_le (s : ByteArray) : G s ≤ 1114111:=by
  unfold G decodeGo
  split
  · decide
  · exact C_le s 0
theorem L_none : L 65533 = false:=by decide +kernel
theorem letterG (s : ByteArray) : unicode_IsLetter.f (G s : Int) = some (L (G s)):=by
  have:=G_le s
  unfold unicode_IsLetter.f
  rw [if_pos ⟨by omega,by omega⟩]
  rfl
theorem decG (s : ByteArray) : utf8_DecodeRuneInString.f s = some ((G s : Int),((decodeGo s).2 : Int)):=rfl
theorem G_size (s : ByteArray) (h : L (G s) = true) : 0 < (decodeGo s).2:=by
  unfold G decodeGo at h
  unfold decodeGo
  split at h
  · rw [L_none] at h;cases h
  · rename_i h0
    rw [if_neg h0]
    exact width_pos s 0
def num (s : ByteArray) (n : Nat) : Nat :=
  if great (s.data.toList.take n) = true then 3 else if ((decide (1 < n) && decide (ByteS.B s 0 = 48)) || L (G (s.extract n s.size))) = true then 5 else 0
theorem first_B (s : ByteArray) (n : Nat) (h0 : 0 < n) (hn : n ≤ s.size) : bt (s.extract 0 n) 0 = (ByteS.B s 0 : Int):=by
  have hz:=ByteS.take_size s n hn
  have:=bt_get (s.extract 0 n) 0 (by rw [hz];exact h0)
  have e:=ByteS.B_take s n 0 hn h0
  unfold ByteS.B at e
  rw [e] at this
  exact this
theorem scanNumber_j0 (s : ByteArray) (n : Nat) (h0 : 0 < n) (hn : n ≤ s.size) (k : Nat) : scan_number.j0 (k + 1) (s.extract 0 n) (s.extract n s.size) (great (s.data.toList.take n)) = some ((num s n : Nat) : Int):=by
  have hb:=first_B s n h0 hn
  have hz:=ByteS.take_size s n hn
  rw [scan_number.j0]
  unfold num
  cases great (s.data.toList.take n) with
  | true=>rw [if_pos rfl,if_pos rfl];rfl
  | false =>
    rw [if_neg Bool.false_ne_true,if_neg Bool.false_ne_true,decG,Option.bind_some,letterG,hb,hz]
    by_cases h1 : 1 < n
    · rw [if_pos (show (n : Int) > 1 by omega),if_pos (show 0 < (n : Int) by omega),decide_eq_true h1,Bool.true_and]
      by_cases h2 : ByteS.B s 0 = 48
      · rw [if_pos (show (ByteS.B s 0 : Int) = 48 by omega),decide_eq_true h2,Bool.true_or,if_pos rfl];rfl
      · rw [if_neg (show ¬ (ByteS.B s 0 : Int) = 48 by omega),decide_eq_false h2,Bool.false_or,Option.bind_some]
        cases L (G (s.extract n s.size)) <;> rfl
    · rw [if_neg (show ¬ (n : Int) > 1 by omega),decide_eq_false h1,Bool.false_and,Bool.false_or,Option.bind_some]
      cases L (G (s.extract n s.size)) <;> rfl
theorem scanNumber (s : ByteArray) (hs : s.size ≤ 1000000) (h0 : 0 < lead s.data.toList) (k : Nat) : scan_number.f (k + 1) (s.extract 0 (lead s.data.toList)) (s.extract (lead s.data.toList) s.size) = some ((num s (lead s.data.toList) : Nat) : Int):=by
  have hl:=lead_le s.data.toList
  have hn : lead s.data.toList ≤ s.size:=by rw [size_eq];exact hl
  have hj:=scanNumber_j0 s _ h0 hn k
  have hd : (s.extract 0 (lead s.data.toList)).data.toList = s.data.toList.take (lead s.data.toList):=by
    rw [extract_data,List.drop_zero,Nat.sub_zero]
  have hz:=ByteS.take_size s _ hn
  unfold scan_number.f strconv_Atoi.f
  rw [if_pos (by rw [hz];omega),hd]
  have hne : s.data.toList.take (lead s.data.toList) ≠ []:=by
    intro h
    have:=congrArg List.length h
    rw [List.length_take,List.length_nil] at this
    omega
  rcases atoi_digits _ hne (lead_digits s.data.toList) with ⟨v,h1,h2⟩ | ⟨h1,h2⟩
  · rw [h1,Option.bind_some,← hj]
    refine (if_pos (show ((v : Int),(none : Option Int)).2.isNone = true from rfl)).trans ?_
    congr 1
    unfold great
    exact decide_eq_decide.2 (by subst h2;simp only;omega)
  · rw [h1,Option.bind_some,← hj,h2]
    exact if_neg (show ¬ ((atoiSat (List.take (lead s.data.toList) s.data.toList),some (1 : Int)).2.isNone = true) by simp)

/-! ### marks -/
def marksL : List Nat:=[123,125,40,41,58,59,43,42,60,61,45]
def mark (c : Nat) : Bool:=marksL.contains c
theorem mark_lt (c : Nat) (h : mark c = true) : c < 128:=by
  unfold mark at h
  have:=List.contains_iff_mem.1 h
  have h2 : ∀ x ∈ marksL,x < 128:=by decide
  exact h2 c this
theorem scanMark_small : ∀ c : Fin 128,decide (0 ≤ Lib.indexByte [123,125,40,41,58,59,43,42,60,61,45] (Int.toNat (c.1 : Int)).toUInt8) = mark c.1:=by decide +kernel
theorem scanMark (s : ByteArray) (p : Nat) : strings_ContainsRune.f (⟨#[123,125,40,41,58,59,43,42,60,61,45]⟩ : ByteArray) (C s p : Int) = some (mark (C s p)):=by
  have hle:=C_le s p
  unfold strings_ContainsRune.f
  by_cases h : C s p < 128
  · rw [if_pos ⟨by omega,by omega⟩]
    congr 1
    exact scanMark_small ⟨C s p,h⟩
  · rw [if_neg (by omega),if_pos ⟨rfl,by omega,by omega⟩]
    congr 1
    cases hm : mark (C s p) with
    | false=>rfl
    | true=>exact absurd (mark_lt _ hm) h
/-! ### the token at the beginning: its kind, its length, what is wrong with it -/
def tok (s : ByteArray) : Nat × Nat × Nat :=
  if 0 < (wordS s).1 then (1,(wordS s).1,if 24 < (wordS s).2 then 3 else 0)
  else if 0 < lead s.data.toList then (2,lead s.data.toList,num s (lead s.data.toList))
  else (3,1,if (mark (C s 0) && !bad s 0) = true then 0 else 4)
theorem scanToken (s : ByteArray) (hs : s.size ≤ 1000000) (h0 : 0 < s.size) (k : Nat) (hk : 2 * s.size < k) : scan_token.f k s (C s 0 : Int) = some (((tok s).1 : Int),((tok s).2.1 : Int),((tok s).2.2 : Int)):=by
  have hw:=word s (by omega) k hk
  have hle:=wordS_le s
  have hc:=count s (by omega)
  have hnum:=numeral s (by omega)
  have hl:=lead_le s.data.toList
  have hm:=scanMark s 0
  have hb:=broken s 0 h0
  obtain ⟨k,rfl⟩ : ∃ q,k = q + 1:=⟨k - 1,by omega⟩
  have hn:=scanNumber s hs
  rw [← size_eq] at hl
  unfold scan_token.f tok
  rw [hw,Option.bind_some]
  by_cases h1 : 0 < (wordS s).1
  · rw [if_pos (show ((wordS s).1 : Int) > 0 by omega),if_pos (show 0 ≤ ((wordS s).1 : Int) by omega),if_pos (show ((wordS s).1 : Int) ≤ (s.size : Int) by omega),Int.toNat_natCast,hc,Option.bind_some,if_pos h1]
    by_cases h2 : 24 < (wordS s).2
    · rw [if_pos (show ((wordS s).2 : Int) > 24 by omega),if_pos h2];rfl
    · rw [if_neg (show ¬ ((wordS s).2 : Int) > 24 by omega),if_neg h2];rfl
  · rw [if_neg (show ¬ ((wordS s).1 : Int) > 0 by omega),if_neg h1,hnum,Option.bind_some]
    by_cases h2 : 0 < lead s.data.toList
    · rw [if_pos (show ((lead s.data.toList : Nat) : Int) > 0 by omega),if_pos (show 0 ≤ ((lead s.data.toList : Nat) : Int) by omega),if_pos (show ((lead s.data.toList : Nat) : Int) ≤ (s.size : Int) by omega),Int.toNat_natCast,hn h2 k,Option.bind_some,if_pos h2]
      rfl
    · rw [if_neg (show ¬ ((lead s.data.toList : Nat) : Int) > 0 by omega),if_neg h2,hm,Option.bind_some]
      cases mark (C s 0) with
      | false=>rfl
      | true =>
        rw [if_pos rfl]
        have hb' : scan_broken.f s 0 (C s 0 : Int) = some (bad s 0) := hb
        rw [hb',Option.bind_some]
        cases bad s 0 <;> rfl
end Go.Proofs.YtmgdkkkkanjadaaGreatDoor.PureS
/-
  The tokens of a text, rune by rune, over numbers and lists alone; scan.Tokens comes to them.
-/
namespace Go.Proofs.YtmgdkkkkanjadaaGreatDoor.PureS
set_option linter.unusedVariables false
set_option linter.unusedSimpArgs false
open Go.RowKit Go.Lib Go.Proofs.YtmgdkkkkanjadaaGreatDoorW.PrintWords Go.Proofs.YtmgdkkkkanjadaaGreatDoorW.PrintLast Go.Proofs.YtmgdkkkkanjadaaGreatDoorW.PrintMore Go.Proofs.YtmgdkkkkanjadaaGreatDoor.X Go.Proofs.YtmgdkkkkanjadaaGreatDoor.HandS Go.Proofs.YtmgdkkkkanjadaaGreatDoor.Iter

abbrev R:=List S69 × Int × Int × Int
def fin (l : List S69) (x : S26) : R:=(l ++ [(⟨0,(⟨#[]⟩ : ByteArray),x⟩ : S69)],0,0,0)
def fail (e : Nat) (x : S26) : R:=([],(e : Int),x.f0,x.f1)
def blank (c : Nat) : Bool:=c == 32 || c == 9 || c == 13
def tokAt (s : ByteArray) (p : Nat) : Nat × Nat × Nat:=tok (s.extract p s.size)
def oneTok (s : ByteArray) (p : Nat) (x : S26) : S69:=⟨((tokAt s p).1 : Int),s.extract p (p + (tokAt s p).2.1),x⟩
def toks (s : ByteArray) : Nat → Nat → S26 → Bool → Nat → List S69 → R
  | 0,_,x,_,_,l=>fin l x
  | n + 1,p,x,rem,beh,l =>
    if p < s.size then
      if p < beh then toks s n (p + W s p) (nl s p x) rem beh l
      else if C s p = 10 then toks s n (p + W s p) (nl s p x) false beh l
      else if bad s p = true then fail 4 x
      else if ((rem || decide (C s p = 35)) || blank (C s p)) = true then toks s n (p + W s p) (nl s p x) (rem || decide (C s p = 35)) beh l
      else if (tokAt s p).2.2 = 0 then toks s n (p + W s p) (nl s p x) false (p + (tokAt s p).2.1) (l ++ [oneTok s p x])
      else fail (tokAt s p).2.2 x
    else fin l x
theorem toks_end {s : ByteArray} {n p : Nat} {x : S26} {rem : Bool} {beh : Nat} {l : List S69} (h : ¬ p < s.size) : toks s n p x rem beh l = fin l x:=by
  cases n with
  | zero=>rfl
  | succ n=>rw [toks,if_neg h]
theorem toks_skip {s : ByteArray} {n p : Nat} {x : S26} {rem : Bool} {beh : Nat} {l : List S69} (h : p < s.size) (hb : p < beh) : toks s (n + 1) p x rem beh l = toks s n (p + W s p) (nl s p x) rem beh l:=by
  rw [toks,if_pos h,if_pos hb]
theorem toks_line {s : ByteArray} {n p : Nat} {x : S26} {rem : Bool} {beh : Nat} {l : List S69} (h : p < s.size) (hb : beh ≤ p) (hc : C s p = 10) : toks s (n + 1) p x rem beh l = toks s n (p + W s p) (nl s p x) false beh l:=by
  rw [toks,if_pos h,if_neg (by omega),if_pos hc]
theorem toks_bad {s : ByteArray} {n p : Nat} {x : S26} {rem : Bool} {beh : Nat} {l : List S69} (h : p < s.size) (hb : beh ≤ p) (hc : ¬ C s p = 10) (h1 : bad s p = true) : toks s (n + 1) p x rem beh l = fail 4 x:=by
  rw [toks,if_pos h,if_neg (by omega),if_neg hc,if_pos h1]
theorem toks_blank {s : ByteArray} {n p : Nat} {x : S26} {rem : Bool} {beh : Nat} {l : List S69} (h : p < s.size) (hb : beh ≤ p) (hc : ¬ C s p = 10) (h1 : bad s p = false) (h2 : ((rem || decide (C s p = 35)) || blank (C s p)) = true) : toks s (n + 1) p x rem beh l = toks s n (p + W s p) (nl s p x) (rem || decide (C s p = 35)) beh l:=by
  rw [toks,if_pos h,if_neg (by omega),if_neg hc,if_neg (by rw [h1];exact Bool.false_ne_true),if_pos h2]
theorem toks_tok {s : ByteArray} {n p : Nat} {x : S26} {rem : Bool} {beh : Nat} {l : List S69} (h : p < s.size) (hb : beh ≤ p) (hc : ¬ C s p = 10) (h1 : bad s p = false) (h2 : ((rem || decide (C s p = 35)) || blank (C s p)) = false) :
    toks s (n + 1) p x rem beh l = if (tokAt s p).2.2 = 0 then toks s n (p + W s p) (nl s p x) false (p + (tokAt s p).2.1) (l ++ [oneTok s p x]) else fail (tokAt s p).2.2 x:=by
  rw [toks,if_pos h,if_neg (by omega),if_neg hc,if_neg (by rw [h1];exact Bool.false_ne_true),if_neg (by rw [h2];exact Bool.false_ne_true)]

/-! ### where one is: the i-th spot of the text -/
structure Along (s : ByteArray) (i n p : Nat) (x : S26) : Prop where
  at_ : (spots s).drop i = walk s n p x
  fuel : s.size - p ≤ n
  le : p ≤ s.size
  fits : Fits p x
  ip : i ≤ p
theorem Along.start (s : ByteArray) : Along s 0 s.size 0 ⟨1,1⟩:=⟨rfl,by omega,by omega,⟨by decide,by decide,by decide,by decide⟩,Nat.le_refl _⟩
theorem Along.get {s : ByteArray} {i n p : Nat} {x : S26} (h : Along s i n p x) : ∃ hi : i < (spots s).length,(spots s)[i] = ((p : Int),x):=by
  obtain ⟨r,hr⟩:=walk_head s n p x h.le h.fuel
  have e:=h.at_
  rw [hr] at e
  have hi : i < (spots s).length:=by
    have:=congrArg List.length e
    rw [List.length_drop,List.length_cons] at this
    omega
  refine ⟨hi,?_⟩
  rw [List.drop_eq_getElem_cons hi] at e
  exact (List.cons.inj e).1
theorem Along.step {s : ByteArray} {i n p : Nat} {x : S26} (h : Along s i (n + 1) p x) (hp : p < s.size) : Along s (i + 1) n (p + W s p) (nl s p x):=by
  have hw:=W_pos s p
  have hf:=h.fuel
  have hi:=h.ip
  refine ⟨?_,by omega,step_le hp,h.fits.next,by omega⟩
  have e:=h.at_
  rw [walk_step hp] at e
  obtain ⟨hl,_⟩:=h.get
  rw [List.drop_eq_getElem_cons hl] at e
  exact (List.cons.inj e).2
theorem Along.last {s : ByteArray} {i n p : Nat} {x : S26} (h : Along s i n p x) (hp : ¬ p < s.size) : (spots s).length = i + 1:=by
  have e:=h.at_
  rw [walk_end hp] at e
  have:=congrArg List.length e
  rw [List.length_drop,List.length_singleton] at this
  omega
theorem Along.pos {s : ByteArray} {i n p : Nat} {x : S26} (h : Along s i n p x) (hp : p < s.size) : ∃ m,n = m + 1:=by
  have:=h.fuel
  exact ⟨n - 1,by omega⟩
theorem Along.spot {s : ByteArray} {i n p : Nat} {x : S26} (h : Along s i n p x) : whereFrom (p : Int) (spots s) = x:=by
  obtain ⟨hi,e⟩:=h.get
  have hr:=walk_rise s s.size 0 ⟨1,1⟩ (by omega)
  have:=whereFrom_at (p : Int) (spots s) i hi hr (.inr (by rw [e];exact Int.le_refl _)) (fun j hj h7=>by
    have:=List.pairwise_iff_getElem.1 hr i j hi hj h7
    have e2 : ((spots s)[i]).1 = (p : Int):=by rw [e]
    have e3 : (spots s)[i].1 < (spots s)[j].1:=this
    omega)
  rw [this,e]
theorem Along.rd {s : ByteArray} {i n p : Nat} {x : S26} (h : Along s i n p x) : rd_T26 ((spots s).map Prod.snd) (i : Int) = x:=by
  obtain ⟨hi,e⟩:=h.get
  rw [rd_snd (spots s) i hi,e]

/-! ### scan.Tokens -/
theorem tok_le (s : ByteArray) (h : 0 < s.size) : (tok s).2.1 ≤ s.size:=by
  have h1:=wordS_le s
  have h2:=lead_le s.data.toList
  rw [← size_eq] at h2
  unfold tok
  split
  · exact h1
  · split
    · exact h2
    · exact h
theorem tokAt_le (s : ByteArray) (p : Nat) (h : p < s.size) : p + (tokAt s p).2.1 ≤ s.size:=by
  have:=tok_le (s.extract p s.size) (by rw [ext_size];omega)
  rw [ext_size] at this
  unfold tokAt
  omega
theorem C_zero (s : ByteArray) (p : Nat) : C (s.extract p s.size) 0 = C s p:=C_drop s p 0
section
variable (s : ByteArray) (hs : s.size ≤ 1000000)
include hs
theorem scan_l0 (k i n p : Nat) (x : S26) (rem : Bool) (beh : Nat) (l : List S69) (ha : Along s i n p x) (hp : p < s.size) :
    scan_Tokens.l0 (k + 1) s l rem (beh : Int) (i : Int) ((spots s).map Prod.fst) ((spots s).map Prod.snd) (p : Int) s =
      if p < beh then scan_Tokens.l0 k s l rem (beh : Int) ((i + 1 : Nat) : Int) ((spots s).map Prod.fst) ((spots s).map Prod.snd) ((p + W s p : Nat) : Int) s
      else if C s p = 10 then scan_Tokens.l0 k s l false (beh : Int) ((i + 1 : Nat) : Int) ((spots s).map Prod.fst) ((spots s).map Prod.snd) ((p + W s p : Nat) : Int) s
      else if bad s p = true then some (fail 4 x)
      else scan_Tokens.j1 k s l (rem || decide (C s p = 35)) (beh : Int) ((i + 1 : Nat) : Int) (p : Int) (C s p : Int) ((spots s).map Prod.fst) ((spots s).map Prod.snd) ((p + W s p : Nat) : Int) s x.f0 x.f1:=by
  obtain ⟨hi,_⟩:=ha.get
  have hx:=ha.rd
  have hip:=ha.ip
  have e1 : wrap64 ((i : Int) + 1) = ((i + 1 : Nat) : Int):=by rw [wrap_in (by omega) (by omega)];omega
  have hlen : (i : Int) < ((((spots s).map Prod.snd).length : Nat) : Int):=by rw [List.length_map];omega
  rw [scan_Tokens.l0,next_in hp,Option.bind_some,if_pos rfl,if_pos (by omega),if_pos hlen,e1,hx,broken s p hp,Option.bind_some]
  by_cases h1 : p < beh
  · rw [if_pos (show (p : Int) < (beh : Int) by omega),if_pos h1]
  · rw [if_neg (show ¬ (p : Int) < (beh : Int) by omega),if_neg h1]
    by_cases h2 : C s p = 10
    · rw [if_pos (show (C s p : Int) = 10 by omega),if_pos h2]
    · rw [if_neg (show ¬ (C s p : Int) = 10 by omega),if_neg h2]
      cases hb : bad s p with
      | true=>rw [if_pos rfl,if_pos rfl];rfl
      | false =>
        rw [if_neg Bool.false_ne_true,if_neg Bool.false_ne_true]
        by_cases h3 : C s p = 35
        · rw [if_pos (show (C s p : Int) = 35 by omega),decide_eq_true h3,Bool.or_true]
        · rw [if_neg (show ¬ (C s p : Int) = 35 by omega),decide_eq_false h3,Bool.or_false]
theorem scan_last (k i n p : Nat) (x : S26) (rem : Bool) (beh : Nat) (l : List S69) (ha : Along s i n p x) (hp : ¬ p < s.size) (hl : l.length ≤ p) :
    scan_Tokens.l0 (k + 1) s l rem (beh : Int) (i : Int) ((spots s).map Prod.fst) ((spots s).map Prod.snd) (p : Int) s = some (fin l x):=by
  have hx:=ha.rd
  have hip:=ha.ip
  have hle:=ha.le
  have hlast:=ha.last hp
  have e1 : wrap64 (((((spots s).map Prod.snd).length : Nat) : Int) - 1) = (i : Int):=by rw [List.length_map,hlast,wrap_in (by omega) (by omega)];omega
  have hlen : (i : Int) < ((((spots s).map Prod.snd).length : Nat) : Int):=by rw [List.length_map];omega
  rw [scan_Tokens.l0,next_out hp,Option.bind_some,if_neg Bool.false_ne_true,e1,if_pos (by omega),if_pos hlen,if_pos (by omega),hx]
  rfl
omit hs in
theorem scan_j1 (k : Nat) (l : List S69) (rem : Bool) (beh i p : Int) (c : Nat) (A : List Int) (Bs : List S26) (q : Int) (a b : Int) :
    scan_Tokens.j1 (k + 1) s l rem beh i p (c : Int) A Bs q s a b = scan_Tokens.j2 k s l rem beh i p (c : Int) (rem || blank c) A Bs q s a b:=by
  rw [scan_Tokens.j1]
  unfold blank
  cases rem with
  | true=>rw [if_pos rfl,Bool.true_or]
  | false =>
    rw [if_neg Bool.false_ne_true,Bool.false_or]
    by_cases h1 : c = 32
    · rw [if_pos (show (c : Int) = 32 by omega),beq_iff_eq.2 h1,Bool.true_or,Bool.true_or]
    · rw [if_neg (show ¬ (c : Int) = 32 by omega),beq_eq_false_iff_ne.2 h1,Bool.false_or]
      by_cases h2 : c = 9
      · rw [if_pos (show (c : Int) = 9 by omega),beq_iff_eq.2 h2,Bool.true_or]
      · rw [if_neg (show ¬ (c : Int) = 9 by omega),beq_eq_false_iff_ne.2 h2,Bool.false_or]
        congr 1
        by_cases h3 : c = 13
        · rw [beq_iff_eq.2 h3,beq_iff_eq.2 (show (c : Int) = 13 by omega)]
        · rw [beq_eq_false_iff_ne.2 h3,beq_eq_false_iff_ne.2 (show (c : Int) ≠ 13 by omega)]
theorem scan_j2 (k : Nat) (l : List S69) (rem : Bool) (beh i : Int) (p : Nat) (A : List Int) (Bs : List S26) (q : Int) (x : S26) (hp : p < s.size) (hl : l.length ≤ p) (hk : 2 * s.size < k) :
    scan_Tokens.j2 (k + 1) s l rem beh i (p : Int) (C s p : Int) false A Bs q s x.f0 x.f1 =
      if (tokAt s p).2.2 = 0 then scan_Tokens.l0 k s (l ++ [oneTok s p x]) rem ((p + (tokAt s p).2.1 : Nat) : Int) i A Bs q s else some (fail (tokAt s p).2.2 x):=by
  have ht:=scanToken (s.extract p s.size) (by rw [ext_size];omega) (by rw [ext_size];omega) k (by rw [ext_size];omega)
  rw [C_zero] at ht
  have hle:=tokAt_le s p hp
  have e1 : wrap64 ((p : Int) + ((tok (s.extract p s.size)).2.1 : Int)) = ((p + (tokAt s p).2.1 : Nat) : Int):=by
    show wrap64 ((p : Int) + ((tokAt s p).2.1 : Int)) = _
    rw [wrap_in (by omega) (by omega)];omega
  rw [scan_Tokens.j2,if_neg Bool.false_ne_true,if_pos (by omega),if_pos (by omega),Int.toNat_natCast,ht,Option.bind_some,e1]
  by_cases h : (tokAt s p).2.2 = 0
  · rw [if_pos (show ((tok (s.extract p s.size)).2.2 : Int) = 0 by show ((tokAt s p).2.2 : Int) = 0;omega),if_pos h,if_pos (by omega),if_pos (by omega),if_pos (by omega),Int.toNat_natCast]
    rfl
  · rw [if_neg (show ¬ ((tok (s.extract p s.size)).2.2 : Int) = 0 by show ¬ ((tokAt s p).2.2 : Int) = 0;omega),if_neg h]
    rfl
theorem scan_loop (n : Nat) : ∀ (k i p : Nat) (x : S26) (rem : Bool) (beh : Nat) (l : List S69),Along s i n p x → l.length ≤ p → 3 * n + 2 * s.size + 3 < k →
    scan_Tokens.l0 k s l rem (beh : Int) (i : Int) ((spots s).map Prod.fst) ((spots s).map Prod.snd) (p : Int) s = some (toks s n p x rem beh l):=by
  induction n with
  | zero =>
    intro k i p x rem beh l ha hl hk
    obtain ⟨k,rfl⟩ : ∃ q,k = q + 1:=⟨k - 1,by omega⟩
    have hf:=ha.fuel
    rw [scan_last s hs k i 0 p x rem beh l ha (by omega) hl]
    rfl
  | succ n ih =>
    intro k i p x rem beh l ha hl hk
    obtain ⟨k,rfl⟩ : ∃ q,k = q + 1 + 1 + 1:=⟨k - 3,by omega⟩
    by_cases hp : p < s.size
    · have ha' := ha.step hp
      have hw:=W_pos s p
      have q1 : l.length ≤ p + W s p:=by omega
      have q2 : 3 * n + 2 * s.size + 3 < k + 1 + 1:=by omega
      have q3 : 3 * n + 2 * s.size + 3 < k:=by omega
      rw [scan_l0 s hs (k + 1 + 1) i (n + 1) p x rem beh l ha hp]
      by_cases h1 : p < beh
      · rw [if_pos h1,toks_skip hp h1]
        exact ih (k + 1 + 1) (i + 1) _ _ rem beh l ha' q1 q2
      · have hb : beh ≤ p:=by omega
        rw [if_neg h1]
        by_cases h2 : C s p = 10
        · rw [if_pos h2,toks_line hp hb h2]
          exact ih (k + 1 + 1) (i + 1) _ _ false beh l ha' q1 q2
        · rw [if_neg h2]
          cases h3 : bad s p with
          | true=>rw [if_pos rfl,toks_bad hp hb h2 h3]
          | false =>
            rw [if_neg Bool.false_ne_true,scan_j1]
            cases h4 : ((rem || decide (C s p = 35)) || blank (C s p)) with
            | true =>
              rw [toks_blank hp hb h2 h3 h4,scan_Tokens.j2,if_pos rfl]
              exact ih k (i + 1) _ _ _ beh l ha' q1 q3
            | false =>
              have hr : (rem || decide (C s p = 35)) = false:=(Bool.or_eq_false_iff.1 h4).1
              have q4 : 2 * s.size < k:=by omega
              rw [toks_tok hp hb h2 h3 h4,scan_j2 s hs k l _ _ _ p _ _ _ x hp hl q4,hr]
              by_cases h5 : (tokAt s p).2.2 = 0
              · rw [if_pos h5,if_pos h5]
                exact ih k (i + 1) _ _ _ _ _ ha' (by rw [List.length_append, List.length_singleton]; omega) q3
              · rw [if_neg h5,if_neg h5]
    · rw [scan_last s hs (k + 1 + 1) i (n + 1) p x rem beh l ha hp hl,toks_end hp]
end
/-- The tokens of a text, or what is wrong with it. -/
def tokens (s : ByteArray) : R:=if 65536 < s.size then ([],3,1,1) else toks s s.size 0 ⟨1,1⟩ false 0 []
theorem scanTokens (s : ByteArray) (k : Nat) (hk : 300000 + 5 * s.size < k) : scan_Tokens.f k s = some (tokens s):=by
  unfold scan_Tokens.f tokens
  by_cases h : 65536 < s.size
  · rw [if_pos (show (s.size : Int) > 65536 by omega),if_pos h]
  · rw [if_neg (show ¬ (s.size : Int) > 65536 by omega),if_neg h,mapped s (by omega) k (by omega),Option.bind_some]
    exact scan_loop s (by omega) s.size k 0 0 ⟨1,1⟩ false 0 [] (Along.start s) (Nat.le_refl _) (by omega)
theorem ascii_W (s : ByteArray) (p : Nat) (h : C s p < 128) : W s p = 1:=by
  have:=(ByteS.small s p h).1
  unfold W
  rw [this]
theorem Runs.rest {s : ByteArray} {p e m : Nat} (h : Runs s p e m) (hp : p < e) : ∃ m', Runs s (p + W s p) e m' := by
  cases h with
  | nil=>omega
  | cons _ _ m h1 h2 h3=>exact ⟨m,h3⟩
/-- Over runes that belong to a token nothing is done. -/
theorem skip (s : ByteArray) {q e m : Nat} (h : Runs s q e m) : ∀ (i n : Nat) (x : S26) (rem : Bool) (l : List S69), Along s i n q x → ∃ i' n' x', Along s i' n' e x' ∧ n' ≤ n ∧ toks s n q x rem e l = toks s n' e x' rem e l := by
  induction h with
  | nil q=>intro i n x rem l ha;exact ⟨i,n,x,ha,Nat.le_refl _,rfl⟩
  | cons q e m h1 h2 h3 ih =>
    intro i n x rem l ha
    obtain ⟨n,rfl⟩:=ha.pos h1
    have hl:=h3.le (step_le h1)
    have hw:=W_pos s q
    obtain ⟨i',n',x',ha',hn,e1⟩:=ih (i + 1) n (nl s q x) rem l (ha.step h1)
    exact ⟨i',n',x',ha',by omega,by rw [toks_skip h1 (by omega),e1]⟩

theorem tok_runs (s : ByteArray) (p : Nat) (hp : p < s.size) (h : (tokAt s p).2.2 = 0) : (∃ m,Runs s p (p + (tokAt s p).2.1) m) ∧ 0 < (tokAt s p).2.1:=by
  have hz:=ext_size s p
  have hbz:=bad_drop s p 0
  rw [Nat.add_zero] at hbz
  have hr:=(wordS_runs (s.extract p s.size)).drop
  rw [Nat.add_zero] at hr
  unfold tokAt tok at h ⊢
  rw [C_zero,hbz] at h ⊢
  by_cases h1 : 0 < (wordS (s.extract p s.size)).1
  · rw [if_pos h1]
    exact ⟨⟨_,hr⟩,h1⟩
  · rw [if_neg h1] at h ⊢
    by_cases h2 : 0 < lead (s.extract p s.size).data.toList
    · rw [if_pos h2]
      refine ⟨⟨lead (s.extract p s.size).data.toList,?_⟩,h2⟩
      have hl:=lead_le (s.extract p s.size).data.toList
      rw [← size_eq,hz] at hl
      show Runs s p (p + lead (s.extract p s.size).data.toList) (lead (s.extract p s.size).data.toList)
      refine lead_runs s _ p (by omega) (fun i h3 h4=>lead_B s p i h3 ?_)
      rw [B_ext] at h4
      exact h4
    · rw [if_neg h2] at h ⊢
      cases hm : (mark (C s p) && !bad s p) with
      | false=>rw [hm] at h;simp at h
      | true =>
        have h3:=(Bool.and_eq_true _ _).mp hm
        have hb : bad s p = false:=by
          have:=h3.2
          rw [Bool.not_eq_true'] at this
          exact this
        have hw:=ascii_W s p (mark_lt _ h3.1)
        refine ⟨⟨1,.cons _ _ _ hp hb ?_⟩,Nat.one_pos⟩
        rw [hw]
        exact .nil _
end Go.Proofs.YtmgdkkkkanjadaaGreatDoor.PureS
namespace Go.Proofs.YtmgdkkkkanjadaaGreatDoor.PureS
set_option linter.unusedVariables false
set_option linter.unusedSimpArgs false
open Go.RowKit Go.Lib Go.Proofs.YtmgdkkkkanjadaaGreatDoorW.PrintWords Go.Proofs.YtmgdkkkkanjadaaGreatDoorW.PrintLast Go.Proofs.YtmgdkkkkanjadaaGreatDoorW.PrintMore Go.Proofs.YtmgdkkkkanjadaaGreatDoor.X Go.Proofs.YtmgdkkkkanjadaaGreatDoor.HandS Go.Proofs.YtmgdkkkkanjadaaGreatDoor.Iter

/-- A rune that is not broken is the same where more stands behind the text. -/
theorem more_decode (s : ByteArray) (e p : Nat) (he : e ≤ s.size) (hp : p < e) (hw : p + (Utf8.decode (s.extract 0 e) p).2 ≤ e) (hok : ¬ ((Utf8.decode (s.extract 0 e) p).1 = 65533 ∧ (Utf8.decode (s.extract 0 e) p).2 = 1)) : Utf8.decode s p = Utf8.decode (s.extract 0 e) p:=by
  have hb0:=ByteS.B_take s e p he hp
  rw [ByteS.decode_B (s.extract 0 e) p,ByteS.take_size s e he,hb0] at hw hok ⊢
  rw [ByteS.decode_B s p]
  generalize hn : s.size - p = n at *
  generalize hn' : e - p = n' at *
  have hnn : n' ≤ n := by omega
  rcases ByteS.dn_cases n' (ByteS.B s p) (ByteS.B (s.extract 0 e) (p + 1)) (ByteS.B (s.extract 0 e) (p + 2)) (ByteS.B (s.extract 0 e) (p + 3)) with ⟨h2, q⟩ | ⟨h2, q⟩ | ⟨h3, h4, h5, h2, q⟩ | ⟨h3, h4, h5, h6, h2, q⟩ | ⟨h3, h4, h5, h6, h7, h2, q⟩
  · rw [q,decodeN_ascii _ _ _ _ _ h2]
  · rw [q] at hok
    exact absurd ⟨rfl,rfl⟩ hok
  · rw [q]
    rw [ByteS.B_take s e (p + 1) he (by omega)] at h5 h2 ⊢
    rw [decodeN,if_neg (by omega),if_pos ⟨h3,by omega,h5⟩,if_pos h2]
  · have q0:=q
    rw [q]
    rw [ByteS.B_take s e (p + 1) he (by omega),ByteS.B_take s e (p + 2) he (by omega)] at q0
    rw [ByteS.B_take s e (p + 1) he (by omega)] at h5 h2 ⊢
    rw [ByteS.B_take s e (p + 2) he (by omega)] at h6 h2 ⊢
    rw [decodeN,if_neg (by omega),if_neg (by omega),if_pos ⟨h3,⟨by omega,h5⟩,by omega,h6⟩] at q0 ⊢
    exact q0
  · have q0:=q
    rw [q]
    rw [ByteS.B_take s e (p + 1) he (by omega),ByteS.B_take s e (p + 2) he (by omega),ByteS.B_take s e (p + 3) he (by omega)] at q0
    rw [ByteS.B_take s e (p + 1) he (by omega)] at h5 h2 ⊢
    rw [ByteS.B_take s e (p + 2) he (by omega)] at h6 h2 ⊢
    rw [ByteS.B_take s e (p + 3) he (by omega)] at h7 h2 ⊢
    rw [decodeN,if_neg (by omega),if_neg (by omega),if_neg (by omega),if_pos ⟨h3,⟨by omega,h5⟩,⟨by omega,h6⟩,by omega,h7⟩] at q0 ⊢
    exact q0

/-- What may stand behind a token that is to stay one. -/
def sepc (c : Nat) : Bool:=c == 32 || (c == 10 || (c == 9 || (c == 13 || c == 35)))
theorem sepc_lt {c : Nat} (h : sepc c = true) : c < 128:=by
  unfold sepc at h
  simp at h
  omega
theorem sepc_L {c : Nat} (h : sepc c = true) : L c = false ∧ D c = false ∧ c ≠ 45:=by
  unfold sepc at h
  simp at h
  rcases h with rfl | rfl | rfl | rfl | rfl <;> exact ⟨by decide +kernel,by decide,by decide⟩
/-- Two texts that begin alike, over m bytes, where a word of the second ends. -/
structure Alike0 (a b : ByteArray) (m : Nat) : Prop where
  same : a.extract 0 m = b.extract 0 m
  ha : m ≤ a.size
  hb : m ≤ b.size
  over : ∀ f,¬ (m < b.size ∧ stops b m f = false)
theorem Alike0.byte {a b : ByteArray} {m i : Nat} (h : Alike0 a b m) (hi : i < m) : ByteS.B b i = ByteS.B a i:=by
  have h1:=ByteS.B_take a m i h.ha hi
  have h2:=ByteS.B_take b m i h.hb hi
  rw [← h1,← h2,h.same]
theorem Alike0.decode {a b : ByteArray} {m p : Nat} (h : Alike0 a b m) (hp : p < m) (hw : p + W a p ≤ m) (hok : bad a p = false) : Utf8.decode b p = Utf8.decode a p:=by
  have h1:=ByteS.take_decode a m p h.ha hw (not_bad hok)
  have h2:=more_decode b m p h.hb hp (by rw [← h.same,h1];exact hw) (by rw [← h.same,h1];exact not_bad hok)
  rw [h2,← h.same,h1]
/-- Two texts that begin alike, over m bytes; behind them one has what may stand behind a token. -/
structure Alike (a b : ByteArray) (m : Nat) : Prop where
  same : a.extract 0 m = b.extract 0 m
  ha : m ≤ a.size
  hb : m < b.size
  sep : sepc (ByteS.B b m) = true
theorem Alike.after {a b : ByteArray} {m : Nat} (h : Alike a b m) : C b m = ByteS.B b m ∧ W b m = 1:=by
  have:=ByteS.ascii b m (sepc_lt h.sep)
  unfold C W
  rw [this]
  exact ⟨rfl,rfl⟩
theorem Alike.stop {a b : ByteArray} {m : Nat} (h : Alike a b m) (f : Bool) : stops b m f = true:=by
  have h1:=sepc_L h.sep
  rw [← h.after.1] at h1
  unfold stops
  rw [h1.1,h1.2.1,bne_iff_ne.2 h1.2.2]
  simp
theorem Alike.plain {a b : ByteArray} {m : Nat} (h : Alike a b m) : Alike0 a b m:=⟨h.same,h.ha,Nat.le_of_lt h.hb,fun f=>by rw [h.stop];simp⟩
theorem Alike.byte {a b : ByteArray} {m i : Nat} (h : Alike a b m) (hi : i < m) : ByteS.B b i = ByteS.B a i:=h.plain.byte hi
theorem take_list (s : ByteArray) (m : Nat) : (s.extract 0 m).data.toList = s.data.toList.take m:=by
  rw [extract_data,List.drop_zero,Nat.sub_zero]
end Go.Proofs.YtmgdkkkkanjadaaGreatDoor.PureS
