/-
  The document's tokens come to the same plain walk, rune by rune.
-/
import Derived.Test.YtmgdkkkkanjadaaGreatDoorRefP
import Derived.Test.YtmgdkkkkanjadaaGreatDoorX16
/-
  The document's tokens come to the same plain walk, rune by rune.
-/
namespace Go.Proofs.YtmgdkkkkanjadaaGreatDoor.PureS
set_option linter.unusedVariables false
set_option linter.unusedSimpArgs false
open Go.RowKit Go.Lib Go.Proofs.YtmgdkkkkanjadaaGreatDoorW.PrintWords Go.Proofs.YtmgdkkkkanjadaaGreatDoorW.PrintLast Go.Proofs.YtmgdkkkkanjadaaGreatDoorW.PrintMore Go.Proofs.YtmgdkkkkanjadaaGreatDoor.X Go.Proofs.YtmgdkkkkanjadaaGreatDoor.HandS Go.Proofs.YtmgdkkkkanjadaaGreatDoor.Iter

section
variable (s : ByteArray) (hs : s.size ≤ 1000000)

include hs in
theorem where_here {i n p : Nat} {x : S26} (ha : Along s i n p x) (k : Nat) (hk : s.size < k) : joustref01_Where.f k s (p : Int) = some (x.f0,x.f1):=by
  rw [refWhere s hs (p : Int) k hk,ha.spot]

theorem newline_B (p : Nat) : C s p = 10 ↔ ByteS.B s p = 10:=by
  constructor
  · intro h
    have:=(ByteS.small s p (by unfold C at h;omega)).1
    unfold C at h
    rw [this] at h
    exact h
  · intro h
    have:=ByteS.ascii s p (by omega)
    unfold C
    rw [this]
    exact h
theorem B_drop (p q : Nat) : ByteS.B (s.extract p s.size) q = ByteS.B s (p + q):=by
  unfold ByteS.B
  rw [B_ext]
  congr 1
  show ((s.data.toList.drop p)[q]?).getD 0 = (s.data.toList[p + q]?).getD 0
  rw [List.getElem?_drop]
theorem bt_B (q : Nat) (h : q < s.size) : bt s (q : Int) = (ByteS.B s q : Int):=bt_get s q h

/-- One round in a remark. -/
theorem remark_round (k p q : Nat) (hp : p + q < s.size) (hs2 : s.size ≤ 1000000) :
    joustref01_remark.l0 (k + 1 + 1) (s.extract p s.size) (q : Int) = if C s (p + q) = 10 then some ((q : Int),-1) else if bad s (p + q) = true then some (0,(q : Int)) else joustref01_remark.l0 k (s.extract p s.size) ((q + W s (p + q) : Nat) : Int):=by
  have hz:=ext_size s p
  have hq : q < (s.extract p s.size).size:=by omega
  have hle:=C_le s (p + q)
  have hst:=step_le hp
  have e1 : wrap64 ((q : Int) + (W s (p + q) : Int)) = ((q + W s (p + q) : Nat) : Int):=by rw [wrap_in (by omega) (by omega)];omega
  have hd : utf8_DecodeRuneInString.f ((s.extract p s.size).extract q (s.extract p s.size).size) = some ((C s (p + q) : Int),(W s (p + q) : Int)):=by
    rw [drop_drop,dec_in hp]
  have hn:=newline_B s (p + q)
  rw [joustref01_remark.l0,if_pos (by omega),if_pos (by omega),bt_B _ q hq,B_drop,joustref01_remark.j1]
  by_cases h1 : C s (p + q) = 10
  · have : ((ByteS.B s (p + q) : Int) != 10) = false:=by rw [hn.1 h1];rfl
    rw [this,if_neg Bool.false_ne_true,if_pos h1]
  · have : ((ByteS.B s (p + q) : Int) != 10) = true:=by
      rw [bne_iff_ne]
      intro h
      exact h1 (hn.2 (by omega))
    rw [this,if_pos rfl,if_neg h1,if_pos (by omega),if_pos (by omega),Int.toNat_natCast,hd,Option.bind_some,e1]
    unfold bad
    by_cases h2 : C s (p + q) = 65533
    · rw [if_pos (show (C s (p + q) : Int) = 65533 by omega)]
      by_cases h3 : W s (p + q) = 1
      · rw [if_pos (show (W s (p + q) : Int) = 1 by omega),decide_eq_true ⟨h2,h3⟩,if_pos rfl]
      · rw [if_neg (show ¬ (W s (p + q) : Int) = 1 by omega),decide_eq_false (by omega),if_neg Bool.false_ne_true]
    · rw [if_neg (show ¬ (C s (p + q) : Int) = 65533 by omega),decide_eq_false (by omega),if_neg Bool.false_ne_true]
theorem remark_end (k p q : Nat) (hp : ¬ p + q < s.size) : joustref01_remark.l0 (k + 1 + 1) (s.extract p s.size) (q : Int) = some ((q : Int),-1):=by
  have hz:=ext_size s p
  rw [joustref01_remark.l0,if_neg (by omega),joustref01_remark.j1,if_neg Bool.false_ne_true]

/-- What a remark comes to, from a place in it on. -/
def Remarked (n p q : Nat) (x : S26) (r : Option (Int × Int)) : Prop :=
  (∃ (b i' n' : Nat) (x' : S26), r = some ((0 : Int), (b : Int)) ∧ Along s i' n' (p + b) x' ∧ ∀ beh l, beh ≤ p + q → toks s n (p + q) x true beh l = fail 4 x') ∨
  (∃ (a i' n' : Nat) (x' : S26), r = some ((a : Int), (-1 : Int)) ∧ Along s i' n' (p + a) x' ∧ q ≤ a ∧ n' ≤ n ∧ ∀ beh l, beh ≤ p + q → toks s n (p + q) x true beh l = toks s n' (p + a) x' false beh l)
include hs in
theorem remark_loop (p : Nat) (n : Nat) : ∀ (k i q : Nat) (x : S26),Along s i n (p + q) x → 2 * n + 1 < k → Remarked s n p q x (joustref01_remark.l0 k (s.extract p s.size) (q : Int)):=by
  induction n with
  | zero =>
    intro k i q x ha hk
    obtain ⟨k,rfl⟩ : ∃ m,k = m + 1 + 1:=⟨k - 2,by omega⟩
    have hf:=ha.fuel
    rw [remark_end s k p q (by omega)]
    exact .inr ⟨q,i,0,x,rfl,ha,Nat.le_refl _,Nat.le_refl _,fun beh l hb=>rfl⟩
  | succ n ih =>
    intro k i q x ha hk
    obtain ⟨k,rfl⟩ : ∃ m,k = m + 1 + 1:=⟨k - 2,by omega⟩
    by_cases hp : p + q < s.size
    · rw [remark_round s k p q hp hs]
      have hw:=W_pos s (p + q)
      by_cases h1 : C s (p + q) = 10
      · rw [if_pos h1]
        exact .inr ⟨q,i,n + 1,x,rfl,ha,Nat.le_refl _,Nat.le_refl _,fun beh l hb=>by rw [toks_line hp hb h1,toks_line hp hb h1]⟩
      · rw [if_neg h1]
        cases h2 : bad s (p + q) with
        | true =>
          rw [if_pos rfl]
          exact .inl ⟨q,i,n + 1,x,rfl,ha,fun beh l hb=>toks_bad hp hb h1 h2⟩
        | false =>
          rw [if_neg Bool.false_ne_true]
          have ha' := ha.step hp
          rw [Nat.add_assoc] at ha'
          have hx := ih k (i + 1) (q + W s (p + q)) (nl s (p + q) x) ha' (by omega)
          have hstep : ∀ beh l,beh ≤ p + q → toks s (n + 1) (p + q) x true beh l = toks s n (p + (q + W s (p + q))) (nl s (p + q) x) true beh l:=fun beh l hb=>by
            rw [toks_blank hp hb h1 h2 rfl,Bool.true_or,Nat.add_assoc]
          rcases hx with ⟨b,i',n',x',e,ha2,ht⟩ | ⟨a,i',n',x',e,ha2,hq,hn,ht⟩
          · exact .inl ⟨b,i',n',x',e,ha2,fun beh l hb=>by rw [hstep beh l hb];exact ht beh l (by omega)⟩
          · exact .inr ⟨a,i',n',x',e,ha2,by omega,by omega,fun beh l hb=>by rw [hstep beh l hb];exact ht beh l (by omega)⟩
    · rw [remark_end s k p q hp]
      exact .inr ⟨q,i,n + 1,x,rfl,ha,Nat.le_refl _,Nat.le_refl _,fun beh l hb=>by rw [toks_end hp,toks_end hp]⟩

/-! ### a token -/
theorem first_C (p : Nat) (h : D (C s p) = true) : C s p = ByteS.B s p:=by
  have h1 : 48 ≤ C s p ∧ C s p ≤ 57:=of_decide_eq_true h
  have:=(ByteS.small s p (by unfold C at h1;omega)).1
  unfold C
  rw [this]
theorem bad_stops (t : ByteArray) (h0 : 0 < t.size) (h : (wordS t).1 ≠ 0) : bad t 0 = false:=by
  cases hb : bad t 0 with
  | false=>rfl
  | true =>
    exfalso
    apply h
    obtain ⟨n,hn⟩ : ∃ n,t.size = n + 1:=⟨t.size - 1,by omega⟩
    unfold wordS
    rw [hn,wordL,if_neg (by unfold stops;rw [hb];simp)]
/-- The number of the document, its digits being n. -/
theorem ref_number_parts (p : Nat) (hs : s.size ≤ 1000000) (k : Nat) (hk : s.size < k) (hp : p < s.size) (hd : 0 < lead (s.extract p s.size).data.toList) :
    joustref01_great.f k (s.extract p (p + lead (s.extract p s.size).data.toList)) = some (great ((s.extract p s.size).data.toList.take (lead (s.extract p s.size).data.toList))):=by
  have hl:=lead_le (s.extract p s.size).data.toList
  rw [← size_eq,ext_size] at hl
  have e:=drop_take s p (lead (s.extract p s.size).data.toList) (by omega)
  have ed : (s.extract p (p + lead (s.extract p s.size).data.toList)).data.toList = (s.extract p s.size).data.toList.take (lead (s.extract p s.size).data.toList):=by
    rw [← e,extract_data,List.drop_zero,Nat.sub_zero]
  have hz : (s.extract p (p + lead (s.extract p s.size).data.toList)).size ≤ s.size:=by
    rw [ByteArray.size_extract];omega
  have:=refGreat (s.extract p (p + lead (s.extract p s.size).data.toList)) (by omega) (by rw [ed];exact lead_digits _) k (by omega)
  rw [this,ed]
end

end Go.Proofs.YtmgdkkkkanjadaaGreatDoor.PureS
/-
  The document's tokens come to the same plain walk, rune by rune.
-/
namespace Go.Proofs.YtmgdkkkkanjadaaGreatDoor.PureS
set_option linter.unusedVariables false
set_option linter.unusedSimpArgs false
open Go.RowKit Go.Lib Go.Proofs.YtmgdkkkkanjadaaGreatDoorW.PrintWords Go.Proofs.YtmgdkkkkanjadaaGreatDoorW.PrintLast Go.Proofs.YtmgdkkkkanjadaaGreatDoorW.PrintMore Go.Proofs.YtmgdkkkkanjadaaGreatDoor.X Go.Proofs.YtmgdkkkkanjadaaGreatDoor.HandS Go.Proofs.YtmgdkkkkanjadaaGreatDoor.Iter

/-! The document's loop at a token, its parts being told. -/
section
variable (s : ByteArray) (k p : Nat) (l : List S69) (x : S26) (c : Int) (w : Int)
theorem j1_word (hs : s.size ≤ 1000000) (hp : p < s.size) (hl : l.length ≤ p) (hc : c ≠ 35) (many runes : Nat) (hw : joustref01_word.f k (s.extract p s.size) = some ((many : Int),(runes : Int))) (h0 : 0 < many) (hle : p + many ≤ s.size) :
    joustref01_Tokens.j1 (k + 1) s l (p : Int) c w false x.f0 x.f1 = if 24 < runes then some (fail 3 x) else joustref01_Tokens.l0 k s (l ++ [(⟨1,s.extract p (p + many),x⟩ : S69)]) ((p + many : Nat) : Int):=by
  have q1 : 0 ≤ (p : Int):=by omega
  have q2 : (p : Int) ≤ (s.size : Int):=by omega
  have q3 : (many : Int) > 0:=by omega
  have e1 : wrap64 ((p : Int) + (many : Int)) = ((p + many : Nat) : Int):=by rw [wrap_in (by omega) (by omega)];omega
  have q4 : (p : Int) ≤ ((p + many : Nat) : Int):=by omega
  have q5 : ((p + many : Nat) : Int) ≤ (s.size : Int):=by omega
  have q6 : l.length < 3518437208883:=by omega
  rw [joustref01_Tokens.j1,if_neg Bool.false_ne_true,if_neg hc,if_pos q1,if_pos q2,Int.toNat_natCast,hw,Option.bind_some,if_pos q3]
  by_cases h2 : 24 < runes
  · have q7 : (runes : Int) > 24:=by omega
    rw [if_pos q7,if_pos h2]
    rfl
  · have q7 : ¬ (runes : Int) > 24:=by omega
    rw [if_neg q7,if_neg h2,e1,if_pos q4,if_pos q5,if_pos q6,Int.toNat_natCast]
theorem j1_mark (hs : s.size ≤ 1000000) (hp : p < s.size) (hl : l.length ≤ p) (hc : c ≠ 35) (runes : Int) (hw : joustref01_word.f k (s.extract p s.size) = some (0,runes)) (hd : joustref01_digit.f c = some false) (m : Bool) (hm : joustref01_mark.f k c = some m) (hw1 : m = true → w = 1) :
    joustref01_Tokens.j1 (k + 1) s l (p : Int) c w false x.f0 x.f1 = if m = true then joustref01_Tokens.l0 k s (l ++ [(⟨3,s.extract p (p + 1),x⟩ : S69)]) ((p + 1 : Nat) : Int) else some (fail 4 x):=by
  have q1 : 0 ≤ (p : Int):=by omega
  have q2 : (p : Int) ≤ (s.size : Int):=by omega
  have q3 : ¬ (0 : Int) > 0:=by omega
  have e1 : wrap64 ((p : Int) + 1) = ((p + 1 : Nat) : Int):=by rw [wrap_in (by omega) (by omega)];omega
  have q4 : (p : Int) ≤ ((p + 1 : Nat) : Int):=by omega
  have q5 : ((p + 1 : Nat) : Int) ≤ (s.size : Int):=by omega
  have q6 : l.length < 3518437208883:=by omega
  rw [joustref01_Tokens.j1,if_neg Bool.false_ne_true,if_neg hc,if_pos q1,if_pos q2,Int.toNat_natCast,hw,Option.bind_some,if_neg q3,hd,Option.bind_some,if_neg Bool.false_ne_true,hm,Option.bind_some]
  cases m with
  | true =>
    rw [if_pos rfl,if_pos rfl,hw1 rfl,e1,if_pos q4,if_pos q5,if_pos q6,Int.toNat_natCast]
  | false =>
    rw [if_neg Bool.false_ne_true,if_neg Bool.false_ne_true]
    rfl
theorem j1_num (hs : s.size ≤ 1000000) (hp : p < s.size) (hl : l.length ≤ p) (hc : c ≠ 35) (runes : Int) (hw : joustref01_word.f k (s.extract p s.size) = some (0,runes)) (hd : joustref01_digit.f c = some true) (n : Nat) (h0 : 0 < n) (hle : p + n ≤ s.size) (hn : joustref01_number.f k (s.extract p s.size) = some (n : Int)) (g : Bool) (hg : joustref01_great.f k (s.extract p (p + n)) = some g) :
    joustref01_Tokens.j1 (k + 1) s l (p : Int) c w false x.f0 x.f1 = if g = true then some (fail 3 x) else if ((decide (1 < n) && decide (c = 48)) || L (G (s.extract (p + n) s.size))) = true then some (fail 5 x) else joustref01_Tokens.l0 k s (l ++ [(⟨2,s.extract p (p + n),x⟩ : S69)]) ((p + n : Nat) : Int):=by
  have q1 : 0 ≤ (p : Int):=by omega
  have q2 : (p : Int) ≤ (s.size : Int):=by omega
  have q3 : ¬ (0 : Int) > 0:=by omega
  have e1 : wrap64 ((p : Int) + (n : Int)) = ((p + n : Nat) : Int):=by rw [wrap_in (by omega) (by omega)];omega
  have q4 : (p : Int) ≤ ((p + n : Nat) : Int):=by omega
  have q5 : ((p + n : Nat) : Int) ≤ (s.size : Int):=by omega
  have q6 : l.length < 3518437208883:=by omega
  have q7 : 0 ≤ ((p + n : Nat) : Int):=by omega
  have hGs:=G_size (s.extract (p + n) s.size)
  have hlt:=letterG (s.extract (p + n) s.size)
  have hdc:=decG (s.extract (p + n) s.size)
  rw [joustref01_Tokens.j1,if_neg Bool.false_ne_true,if_neg hc,if_pos q1,if_pos q2,Int.toNat_natCast,hw,Option.bind_some,if_neg q3,hd,Option.bind_some,if_pos rfl,hn,Option.bind_some,e1,if_pos q4,if_pos q5,Int.toNat_natCast,hg,Option.bind_some]
  cases g with
  | true=>rw [if_pos rfl,if_pos rfl];rfl
  | false =>
    rw [if_neg Bool.false_ne_true,if_neg Bool.false_ne_true,if_pos q7,hdc,Option.bind_some,hlt,Option.bind_some]
    by_cases h3 : 1 < n
    · have r1 : (n : Int) > 1:=by omega
      rw [if_pos r1,decide_eq_true h3,Bool.true_and]
      by_cases h4 : c = 48
      · rw [if_pos h4,decide_eq_true h4,Bool.true_or,if_pos rfl]
        rfl
      · rw [if_neg h4,decide_eq_false h4,Bool.false_or]
        cases h5 : L (G (s.extract (p + n) s.size)) with
        | true =>
          have r2 : ((G (s.extract (p + n) s.size) : Int),((decodeGo (s.extract (p + n) s.size)).2 : Int)).2 > 0:=by
            have:=hGs h5
            show ((decodeGo (s.extract (p + n) s.size)).2 : Int) > 0
            omega
          rw [if_pos rfl,if_pos r2,if_pos rfl]
          rfl
        | false=>rw [if_neg Bool.false_ne_true,if_neg Bool.false_ne_true,if_pos q6]
    · have r1 : ¬ (n : Int) > 1:=by omega
      rw [if_neg r1,decide_eq_false h3,Bool.false_and,Bool.false_or]
      cases h5 : L (G (s.extract (p + n) s.size)) with
      | true =>
        have r2 : ((G (s.extract (p + n) s.size) : Int),((decodeGo (s.extract (p + n) s.size)).2 : Int)).2 > 0:=by
          have:=hGs h5
          show ((decodeGo (s.extract (p + n) s.size)).2 : Int) > 0
          omega
        rw [if_pos rfl,if_pos r2,if_pos rfl]
        rfl
      | false=>rw [if_neg Bool.false_ne_true,if_neg Bool.false_ne_true,if_pos q6]
end
theorem tokAt_eq (s : ByteArray) (p : Nat) : tokAt s p = if 0 < (wordS (s.extract p s.size)).1 then (1,(wordS (s.extract p s.size)).1,if 24 < (wordS (s.extract p s.size)).2 then 3 else 0) else if 0 < lead (s.extract p s.size).data.toList then (2,lead (s.extract p s.size).data.toList,num (s.extract p s.size) (lead (s.extract p s.size).data.toList)) else (3,1,if (mark (C s p) && !bad s p) = true then 0 else 4):=by
  have hbz:=bad_drop s p 0
  rw [Nat.add_zero] at hbz
  unfold tokAt tok
  rw [C_zero,hbz]
theorem mark_ok (s : ByteArray) (p : Nat) (h : mark (C s p) = true) : bad s p = false:=by
  have:=mark_lt _ h
  unfold bad
  exact decide_eq_false (fun h2=>by omega)
theorem ref_tok (s : ByteArray) (hs : s.size ≤ 1000000) (k p : Nat) (x : S26) (l : List S69) (hp : p < s.size) (hl : l.length ≤ p) (hk : 2 * s.size + 12 < k) (h35 : C s p ≠ 35) :
    joustref01_Tokens.j1 (k + 1) s l (p : Int) (C s p : Int) (W s p : Int) false x.f0 x.f1 = if (tokAt s p).2.2 = 0 then joustref01_Tokens.l0 k s (l ++ [oneTok s p x]) ((p + (tokAt s p).2.1 : Nat) : Int) else some (fail (tokAt s p).2.2 x):=by
  have hz:=ext_size s p
  have ht0 : 0 < (s.extract p s.size).size:=by omega
  have hword:=refWord (s.extract p s.size) (by omega) k (by omega)
  have hwle:=wordS_le (s.extract p s.size)
  have hc : (C s p : Int) ≠ 35:=by omega
  by_cases h1 : 0 < (wordS (s.extract p s.size)).1
  · have hT:=tokAt_eq s p
    rw [if_pos h1] at hT
    have hle : p + (wordS (s.extract p s.size)).1 ≤ s.size:=by omega
    rw [j1_word s k p l x (C s p : Int) (W s p : Int) hs hp hl hc _ _ hword h1 hle]
    unfold oneTok
    rw [hT]
    by_cases h2 : 24 < (wordS (s.extract p s.size)).2
    · rw [if_pos h2,if_pos h2]
      rfl
    · rw [if_neg h2,if_neg h2]
      rfl
  · have hw0 : (wordS (s.extract p s.size)).1 = 0:=by omega
    rw [hw0] at hword
    have hlz:=lead_zero (s.extract p s.size) ht0
    rw [C_zero] at hlz
    by_cases h2 : 0 < lead (s.extract p s.size).data.toList
    · have hD:=hlz.1 h2
      have hll:=lead_le (s.extract p s.size).data.toList
      rw [← size_eq,hz] at hll
      have hle : p + lead (s.extract p s.size).data.toList ≤ s.size:=by omega
      have hnumb:=refNumber (s.extract p s.size) (by omega) k (by omega)
      have hgr:=ref_number_parts s p hs k (by omega) hp h2
      have hdg:=digit (C s p)
      rw [hD] at hdg
      have hT:=tokAt_eq s p
      rw [if_neg h1,if_pos h2] at hT
      rw [j1_num s k p l x (C s p : Int) (W s p : Int) hs hp hl hc _ hword hdg _ h2 hle hnumb _ hgr]
      have hdd:=drop_drop s p (lead (s.extract p s.size).data.toList)
      have hBz:=B_drop s p 0
      rw [Nat.add_zero] at hBz
      have hfc:=first_C s p hD
      have h48 : decide ((C s p : Int) = 48) = decide (ByteS.B (s.extract p s.size) 0 = 48):=by
        rw [hBz,← hfc]
        exact decide_eq_decide.2 (by omega)
      have hnum : num (s.extract p s.size) (lead (s.extract p s.size).data.toList) = if great ((s.extract p s.size).data.toList.take (lead (s.extract p s.size).data.toList)) = true then 3 else if ((decide (1 < lead (s.extract p s.size).data.toList) && decide ((C s p : Int) = 48)) || L (G (s.extract (p + lead (s.extract p s.size).data.toList) s.size))) = true then 5 else 0:=by
        rw [h48,← hdd]
        rfl
      unfold oneTok
      rw [hT,hnum]
      generalize great ((s.extract p s.size).data.toList.take (lead (s.extract p s.size).data.toList)) = g
      generalize ((decide (1 < lead (s.extract p s.size).data.toList) && decide ((C s p : Int) = 48)) || L (G (s.extract (p + lead (s.extract p s.size).data.toList) s.size))) = b
      cases g <;> cases b <;> rfl
    · have hD : D (C s p) = false:=by
        cases h : D (C s p) with
        | false=>rfl
        | true=>exact absurd (hlz.2 h) h2
      have hdg:=digit (C s p)
      rw [hD] at hdg
      have hT:=tokAt_eq s p
      rw [if_neg h1,if_neg h2] at hT
      have hmark:=refMark (C s p) k (by omega)
      rw [j1_mark s k p l x (C s p : Int) (W s p : Int) hs hp hl hc _ hword hdg _ hmark (fun h=>by have:=ascii_W s p (mark_lt _ h);omega)]
      unfold oneTok
      rw [hT]
      cases hm : mark (C s p) with
      | true =>
        rw [mark_ok s p hm]
        rfl
      | false=>rfl
end Go.Proofs.YtmgdkkkkanjadaaGreatDoor.PureS
namespace Go.Proofs.YtmgdkkkkanjadaaGreatDoor.PureS
set_option linter.unusedVariables false
set_option linter.unusedSimpArgs false
open Go.RowKit Go.Lib Go.Proofs.YtmgdkkkkanjadaaGreatDoorW.PrintWords Go.Proofs.YtmgdkkkkanjadaaGreatDoorW.PrintLast Go.Proofs.YtmgdkkkkanjadaaGreatDoorW.PrintMore Go.Proofs.YtmgdkkkkanjadaaGreatDoor.X Go.Proofs.YtmgdkkkkanjadaaGreatDoor.HandS Go.Proofs.YtmgdkkkkanjadaaGreatDoor.Iter

/-! ### the document's loop -/
theorem bad_tok (s : ByteArray) (p : Nat) (hp : p < s.size) (h : bad s p = true) : (tokAt s p).2.2 = 4:=by
  have hz:=ext_size s p
  have h6 : C s p = 65533 ∧ W s p = 1:=by
    have h2:=h
    unfold bad at h2
    exact of_decide_eq_true h2
  have hbz:=bad_drop s p 0
  rw [Nat.add_zero] at hbz
  have h1 : ¬ 0 < (wordS (s.extract p s.size)).1:=by
    intro h1
    have:=bad_stops (s.extract p s.size) (by omega) (by omega)
    rw [hbz,h] at this
    cases this
  have h2 : ¬ 0 < lead (s.extract p s.size).data.toList:=by
    intro h2
    have:=(lead_zero (s.extract p s.size) (by omega)).1 h2
    rw [C_zero] at this
    have:=of_decide_eq_true this
    omega
  unfold tokAt tok
  rw [if_neg h1,if_neg h2,hbz,h,Bool.not_true,Bool.and_false]
  rfl
theorem wrap_add (p b : Nat) (h : p + b ≤ 4611686018427387904) : wrap64 ((p : Int) + (b : Int)) = ((p + b : Nat) : Int):=by
  rw [wrap_in (by omega) (by omega)];omega
def ws (c : Nat) : Bool:=c == 32 || (c == 9 || (c == 10 || c == 13))
theorem ref_l0 (s : ByteArray) (hs : s.size ≤ 1000000) (k i n p : Nat) (x : S26) (l : List S69) (ha : Along s i n p x) (hp : p < s.size) (hk : s.size < k) :
    joustref01_Tokens.l0 (k + 1) s l (p : Int) = joustref01_Tokens.j1 k s l (p : Int) (C s p : Int) (W s p : Int) (ws (C s p)) x.f0 x.f1:=by
  rw [joustref01_Tokens.l0,if_pos (by omega),if_pos (by omega),if_pos (by omega),Int.toNat_natCast,dec_in hp,Option.bind_some,where_here s hs ha k hk,Option.bind_some]
  unfold ws
  by_cases h1 : C s p = 32
  · rw [if_pos (show (C s p : Int) = 32 by omega),beq_iff_eq.2 h1,Bool.true_or]
  · rw [if_neg (show ¬ (C s p : Int) = 32 by omega),beq_eq_false_iff_ne.2 h1,Bool.false_or]
    by_cases h2 : C s p = 9
    · rw [if_pos (show (C s p : Int) = 9 by omega),beq_iff_eq.2 h2,Bool.true_or]
    · rw [if_neg (show ¬ (C s p : Int) = 9 by omega),beq_eq_false_iff_ne.2 h2,Bool.false_or]
      by_cases h3 : C s p = 10
      · rw [if_pos (show (C s p : Int) = 10 by omega),beq_iff_eq.2 h3,Bool.true_or]
      · rw [if_neg (show ¬ (C s p : Int) = 10 by omega),beq_eq_false_iff_ne.2 h3,Bool.false_or]
        by_cases h4 : C s p = 13
        · rw [beq_iff_eq.2 h4,beq_iff_eq.2 (show (C s p : Int) = 13 by omega)]
        · rw [beq_eq_false_iff_ne.2 h4,beq_eq_false_iff_ne.2 (show (C s p : Int) ≠ 13 by omega)]
theorem ref_last (s : ByteArray) (hs : s.size ≤ 1000000) (k i n p : Nat) (x : S26) (l : List S69) (ha : Along s i n p x) (hp : ¬ p < s.size) (hl : l.length ≤ p) (hk : s.size < k) :
    joustref01_Tokens.l0 (k + 1) s l (p : Int) = some (fin l x):=by
  have hle:=ha.le
  have e : p = s.size:=by omega
  have hw:=where_here s hs ha k hk
  rw [e] at hw
  rw [joustref01_Tokens.l0,if_neg (by omega),hw,Option.bind_some,if_pos (by omega)]
  rfl
theorem not_bad_of (s : ByteArray) (p : Nat) (h : C s p ≠ 65533) : bad s p = false:=by
  unfold bad
  exact decide_eq_false (fun h2=>h h2.1)
theorem ref_loop (s : ByteArray) (hs : s.size ≤ 1000000) (n0 : Nat) : ∀ (n k i p : Nat) (x : S26) (beh : Nat) (l : List S69),n ≤ n0 → Along s i n p x → l.length ≤ p → beh ≤ p → 2 * n + 4 * s.size + 20 < k →
    joustref01_Tokens.l0 k s l (p : Int) = some (toks s n p x false beh l):=by
  induction n0 with
  | zero =>
    intro n k i p x beh l hn ha hl hb hk
    obtain rfl : n = 0:=by omega
    obtain ⟨k,rfl⟩ : ∃ q,k = q + 1:=⟨k - 1,by omega⟩
    have hf:=ha.fuel
    rw [ref_last s hs k i 0 p x l ha (by omega) hl (by omega)]
    rfl
  | succ n0 ih =>
    intro n k i p x beh l hn ha hl hb hk
    obtain ⟨k,rfl⟩ : ∃ q,k = q + 1 + 1:=⟨k - 2,by omega⟩
    by_cases hp : p < s.size
    · obtain ⟨n,rfl⟩:=ha.pos hp
      have ha' := ha.step hp
      have hw:=W_pos s p
      rw [ref_l0 s hs (k + 1) i (n + 1) p x l ha hp (by omega)]
      cases hws : ws (C s p) with
      | true =>
        have hc : C s p = 32 ∨ C s p = 9 ∨ C s p = 10 ∨ C s p = 13:=by
          unfold ws at hws
          simpa using hws
        have hw1:=ascii_W s p (by omega)
        have e1 : wrap64 ((p : Int) + 1) = ((p + W s p : Nat) : Int):=by rw [hw1,wrap_in (by omega) (by omega)];omega
        rw [joustref01_Tokens.j1, if_pos rfl, e1, ih n k (i + 1) _ _ beh l (by omega) ha' (by omega) (by omega) (by omega)]
        by_cases h10 : C s p = 10
        · rw [toks_line hp hb h10]
        · have h35 : decide (C s p = 35) = false:=decide_eq_false (by omega)
          have hbl : blank (C s p) = true:=by
            unfold blank
            rcases hc with h | h | h | h
            · rw [h];rfl
            · rw [h];rfl
            · exact absurd h h10
            · rw [h];rfl
          rw [toks_blank hp hb h10 (not_bad_of s p (by omega)) (by rw [hbl,Bool.or_true]),h35,Bool.or_false]
      | false =>
        have hc : ¬ C s p = 32 ∧ ¬ C s p = 9 ∧ ¬ C s p = 10 ∧ ¬ C s p = 13:=by
          unfold ws at hws
          simpa using hws
        by_cases h35 : C s p = 35
        · have hok:=not_bad_of s p (by omega)
          have hw1:=ascii_W s p (by omega)
          have hz:=ext_size s p
          -- the first rune of the remark
          obtain ⟨k2,rfl⟩ : ∃ q,k = q + 1 + 1:=⟨k - 2,by omega⟩
          have hr:=remark_round s k2 p 0 (by omega) hs
          have hr0 : p + 0 = p:=Nat.add_zero p
          rw [hr0,if_neg hc.2.2.1,hok,if_neg Bool.false_ne_true,Nat.zero_add] at hr
          have ha1 : Along s (i + 1) n (p + W s p) (nl s p x):=ha'
          have hR:=remark_loop s hs p n k2 (i + 1) (W s p) (nl s p x) ha1 (by omega)
          have hrf : joustref01_remark.f (k2 + 1 + 1) (s.extract p s.size) = joustref01_remark.l0 k2 (s.extract p s.size) ((W s p : Nat) : Int):=hr
          have htk : toks s (n + 1) p x false beh l = toks s n (p + W s p) (nl s p x) true beh l:=by
            rw [toks_blank hp hb hc.2.2.1 hok (by rw [decide_eq_true h35];rfl),decide_eq_true h35,Bool.or_true]
          have q1 : 0 ≤ (p : Int):=by omega
          have q2 : (p : Int) ≤ (s.size : Int):=by omega
          have q3 : (C s p : Int) = 35:=by omega
          have q4 : s.size < k2 + 1 + 1:=by omega
          have q5 : beh ≤ p + W s p:=by omega
          have q6 : 2 * n + 4 * s.size + 20 < k2 + 1 + 1:=by omega
          rw [joustref01_Tokens.j1,if_neg Bool.false_ne_true,if_pos q3,if_pos q1,if_pos q2,Int.toNat_natCast,hrf,htk]
          rcases hR with ⟨b,i',n',x',e,ha2,ht⟩ | ⟨a,i',n',x',e,ha2,hq,hn2,ht⟩
          · have hle:=ha2.le
            have r1 : (b : Int) ≥ 0:=Int.natCast_nonneg b
            have e1:=wrap_add p b (Nat.le_trans hle (Nat.le_trans hs (by decide)))
            rw [e,Option.bind_some,if_pos r1,e1,where_here s hs ha2 _ q4,Option.bind_some,ht beh l q5]
            rfl
          · have hle:=ha2.le
            have e1:=wrap_add p a (Nat.le_trans hle (Nat.le_trans hs (by decide)))
            have r1 : l.length ≤ p + a:=Nat.le_trans hl (Nat.le_add_right _ _)
            have r2 : beh ≤ p + a:=Nat.le_trans hb (Nat.le_add_right _ _)
            have r3 : n' ≤ n0 := Nat.le_trans hn2 (Nat.le_of_succ_le_succ hn)
            have r4 : 2 * n' + 4 * s.size + 20 < k2 + 1 + 1 := by clear e ht e1 htk hrf hr; omega
            rw [e,Option.bind_some,if_neg (show ¬ (((a : Int),(-1 : Int)).2 ≥ 0) from (by decide : ¬ ((-1 : Int) ≥ 0))),e1,ht beh l q5]
            exact ih n' _ i' _ x' beh l r3 ha2 r1 r2 r4
        · rw [ref_tok s hs k p x l hp hl (by omega) h35]
          cases hbad : bad s p with
          | true =>
            rw [toks_bad hp hb hc.2.2.1 hbad,bad_tok s p hp hbad,if_neg (by decide)]
          | false =>
            have hbl : ((false || decide (C s p = 35)) || blank (C s p)) = false:=by
              rw [decide_eq_false h35]
              unfold blank
              rw [beq_eq_false_iff_ne.2 hc.1,beq_eq_false_iff_ne.2 hc.2.1,beq_eq_false_iff_ne.2 hc.2.2.2]
              rfl
            rw [toks_tok hp hb hc.2.2.1 hbad hbl]
            by_cases h0 : (tokAt s p).2.2 = 0
            · obtain ⟨⟨m,hr⟩,hpos⟩:=tok_runs s p hp h0
              rw [if_pos h0,if_pos h0]
              generalize (tokAt s p).2.1 = q at *
              obtain ⟨m',h3⟩:=hr.rest (by omega)
              obtain ⟨i',n',x',ha2,hn2,e⟩:=skip s h3 (i + 1) n (nl s p x) false (l ++ [oneTok s p x]) ha'
              rw [e]
              exact ih n' k i' _ x' _ _ (by omega) ha2 (by rw [List.length_append, List.length_singleton]; omega) (Nat.le_refl _) (by omega)
            · rw [if_neg h0,if_neg h0]
    · rw [ref_last s hs (k + 1) i n p x l ha hp hl (by omega),toks_end hp]
theorem refTokens (s : ByteArray) (k : Nat) (hk : 600000 + 6 * s.size < k) : joustref01_Tokens.f k s = some (tokens s):=by
  unfold joustref01_Tokens.f tokens
  by_cases h : 65536 < s.size
  · rw [if_pos (show (s.size : Int) > 65536 by omega),if_pos h]
  · rw [if_neg (show ¬ (s.size : Int) > 65536 by omega),if_neg h]
    exact ref_loop s (by omega) s.size s.size k 0 0 ⟨1,1⟩ 0 [] (Nat.le_refl _) (Along.start s) (Nat.le_refl _) (Nat.le_refl _) (by omega)
end Go.Proofs.YtmgdkkkkanjadaaGreatDoor.PureS
