/-
  The document's small functions over runes: what they come to, in plain Lean. (Ported from this author's claim ScanTells.)
-/
import Derived.Test.YtmgdkkkkanjadaaGreatDoorLocalS
import Derived.Test.YtmgdkkkkanjadaaGreatDoorX16
namespace Go.Proofs.YtmgdkkkkanjadaaGreatDoor.PureS
set_option linter.unusedVariables false
set_option linter.unusedSimpArgs false
open Go.RowKit Go.Lib Go.Proofs.YtmgdkkkkanjadaaGreatDoorW.PrintWords Go.Proofs.YtmgdkkkkanjadaaGreatDoorW.PrintLast Go.Proofs.YtmgdkkkkanjadaaGreatDoorW.PrintMore Go.Proofs.YtmgdkkkkanjadaaGreatDoor.X Go.Proofs.YtmgdkkkkanjadaaGreatDoor.HandS Go.Proofs.YtmgdkkkkanjadaaGreatDoor.Iter
theorem refWhere_step (s : ByteArray) (at_ : Int) (k p c w : Nat) (l0 l1 : Int) (hs : s.size ≤ 1000000) (hp : p < s.size) (hl : p + w ≤ s.size) (hd : utf8_DecodeRuneInString.f (s.extract p s.size) = some ((c : Int),(w : Int))) (h0 : 1 ≤ l0) (h1 : 1 ≤ l1) (h2 : l0 ≤ 1000001) (h3 : l1 ≤ 1000001) :
    joustref01_Where.l0 (k + 1) s at_ (p : Int) l0 l1 = if at_ < ((p + w : Nat) : Int) then some (l0,l1) else if c = 10 then joustref01_Where.l0 k s at_ ((p + w : Nat) : Int) (l0 + 1) 1 else joustref01_Where.l0 k s at_ ((p + w : Nat) : Int) l0 (l1 + 1):=by
  rw [joustref01_Where.l0]
  rw [if_pos (by omega),if_pos (by omega),if_pos (by omega),Int.toNat_natCast,hd,Option.bind_some]
  have e1 : wrap64 ((p : Int) + (w : Int)) = ((p + w : Nat) : Int):=by rw [wrap_in (by omega) (by omega)];omega
  have e2 : wrap64 (l0 + 1) = l0 + 1:=wrap_in (by omega) (by omega)
  have e3 : wrap64 (l1 + 1) = l1 + 1:=wrap_in (by omega) (by omega)
  rw [e1,e2,e3]
  by_cases hc : c = 10
  · rw [if_pos (show (c : Int) = 10 from by omega),if_pos hc]
  · rw [if_neg (show ¬ (c : Int) = 10 from by omega),if_neg hc]
theorem refWhere_round (s : ByteArray) (hs : s.size ≤ 1000000) (at_ : Int) (k p : Nat) (x : S26) (hp : p < s.size) (h4 : Fits p x) :
    joustref01_Where.l0 (k + 1) s at_ (p : Int) x.f0 x.f1 = if at_ < ((p + W s p : Nat) : Int) then some (x.f0,x.f1) else joustref01_Where.l0 k s at_ ((p + W s p : Nat) : Int) (nl s p x).f0 (nl s p x).f1:=by
  unfold Fits at h4
  rw [refWhere_step s at_ k p (C s p) (W s p) x.f0 x.f1 hs hp (step_le hp) (dec_in hp) (by omega) (by omega) (by omega) (by omega)]
  by_cases hc : C s p = 10
  · rw [if_pos hc,show nl s p x = ⟨x.f0 + 1,1⟩ from by unfold nl;rw [if_pos hc]]
  · rw [if_neg hc,show nl s p x = ⟨x.f0,x.f1 + 1⟩ from by unfold nl;rw [if_neg hc]]
theorem refWhere_loop (s : ByteArray) (hs : s.size ≤ 1000000) (at_ : Int) (n : Nat) : ∀ (k p : Nat) (x : S26),s.size - p ≤ n → n < k → p ≤ s.size → Fits p x →
    joustref01_Where.l0 k s at_ (p : Int) x.f0 x.f1 = some ((whereFrom at_ (walk s n p x)).f0,(whereFrom at_ (walk s n p x)).f1):=by
  induction n with
  | zero =>
    intro k p x h1 h2 h3 h4
    obtain ⟨k,rfl⟩ : ∃ m,k = m + 1:=⟨k - 1,by omega⟩
    rw [walk_end (by omega)]
    simp only [joustref01_Where.l0]
    rw [if_neg (by omega)]
    rfl
  | succ n ih =>
    intro k p x h1 h2 h3 h4
    obtain ⟨k,rfl⟩ : ∃ m,k = m + 1:=⟨k - 1,by omega⟩
    by_cases hp : p < s.size
    · have hw:=W_pos s p
      have hl:=step_le hp
      obtain ⟨r,hr⟩:=walk_head s n (p + W s p) (nl s p x) hl (by omega)
      have hW : whereFrom at_ (((p : Int),x) :: (((p + W s p : Nat) : Int),nl s p x) :: r) = if at_ < ((p + W s p : Nat) : Int) then x else whereFrom at_ ((((p + W s p : Nat) : Int),nl s p x) :: r):=rfl
      have:=ih k (p + W s p) (nl s p x) (by omega) (by omega) hl h4.next
      rw [hr] at this
      rw [refWhere_round s hs at_ k p x hp h4,walk_step hp,hr,hW,this]
      split <;> rfl
    · rw [walk_end hp]
      simp only [joustref01_Where.l0]
      rw [if_neg (by omega)]
      rfl
theorem refWhere (s : ByteArray) (hs : s.size ≤ 1000000) (at_ : Int) (k : Nat) (hk : s.size < k) : joustref01_Where.f k s at_ = some ((whereFrom at_ (spots s)).f0,(whereFrom at_ (spots s)).f1) :=
  refWhere_loop s hs at_ s.size k 0 ⟨1,1⟩ (by omega) hk (by omega) ⟨by decide,by decide,by decide,by decide⟩

theorem digit (c : Nat) : joustref01_digit.f (c : Int) = some (D c):=by
  unfold joustref01_digit.f D
  by_cases h : (c : Int) ≥ 48
  · rw [if_pos h]
    congr 1
    exact decide_eq_decide.2 ⟨fun h2=>⟨by omega,by omega⟩,fun h2=>by omega⟩
  · rw [if_neg h,decide_eq_false (by omega)]
theorem inner (s : ByteArray) (p : Nat) : joustref01_inner.f (C s p : Int) = some (L (C s p) || D (C s p)):=by
  unfold joustref01_inner.f
  rw [letter,Option.bind_some]
  cases L (C s p) with
  | true=>rw [if_pos rfl];rfl
  | false=>rw [if_neg (by decide),digit,Option.bind_some,Bool.false_or]
theorem refWord_l0 (s : ByteArray) (k p r e m : Nat) (hp : p < s.size) : joustref01_word.l0 (k + 1) s (p : Int) (r : Int) (e : Int) (m : Int) = joustref01_word.j1 k s (p : Int) (r : Int) (e : Int) (m : Int) (C s p : Int) (W s p : Int) (stops s p (r == 0)):=by
  rw [joustref01_word.l0]
  rw [if_pos (by omega),if_pos (by omega),if_pos (by omega),Int.toNat_natCast,dec_in hp,Option.bind_some]
  have hl:=letter s p
  have hi:=inner s p
  unfold stops bad
  have h45 : ((C s p : Int) != 45) = (C s p != 45):=by
    by_cases h : C s p = 45
    · rw [h];rfl
    · rw [bne_iff_ne.2 h,bne_iff_ne.2 (by omega)]
  by_cases hc : C s p = 65533
  · rw [if_pos (by show (C s p : Int) = 65533;omega)]
    by_cases hw : W s p = 1
    · rw [if_pos (by show (W s p : Int) = 1;omega),decide_eq_true ⟨hc,hw⟩];rfl
    · rw [if_neg (by show ¬ (W s p : Int) = 1;omega),decide_eq_false (by omega)]
      show (if (r : Int) = 0 then (unicode_IsLetter.f (C s p : Int)).bind _ else (joustref01_inner.f (C s p : Int)).bind _) = _
      rw [hl,hi,Option.bind_some,Option.bind_some]
      by_cases hr : r = 0
      · rw [if_pos (by omega),beq_iff_eq.2 hr]
        cases h1 : L (C s p) <;> simp [h1,h45,hi]
      · rw [if_neg (by omega),beq_eq_false_iff_ne.2 hr]
        cases h1 : (L (C s p) || D (C s p)) <;> simp [h1,h45]
  · rw [if_neg (by show ¬ (C s p : Int) = 65533;omega),decide_eq_false (by omega)]
    show (if (r : Int) = 0 then (unicode_IsLetter.f (C s p : Int)).bind _ else (joustref01_inner.f (C s p : Int)).bind _) = _
    rw [hl,hi,Option.bind_some,Option.bind_some]
    by_cases hr : r = 0
    · rw [if_pos (by omega),beq_iff_eq.2 hr]
      cases h1 : L (C s p) <;> simp [h1,h45,hi]
    · rw [if_neg (by omega),beq_eq_false_iff_ne.2 hr]
      cases h1 : (L (C s p) || D (C s p)) <;> simp [h1,h45]
theorem refWord_loop (s : ByteArray) (hs : s.size ≤ 4611686018427387904) (n : Nat) : ∀ (k p r e m : Nat),s.size - p ≤ n → 2 * n < k → p ≤ s.size → r ≤ p →
    joustref01_word.l0 k s (p : Int) (r : Int) (e : Int) (m : Int) = some (((wordL s n p r e m).1 : Int),((wordL s n p r e m).2 : Int)):=by
  induction n with
  | zero =>
    intro k p r e m h1 h2 h3 h4
    obtain ⟨k,rfl⟩ : ∃ q,k = q + 1:=⟨k - 1,by omega⟩
    rw [joustref01_word.l0,if_neg (by omega)]
    rfl
  | succ n ih =>
    intro k p r e m h1 h2 h3 h4
    obtain ⟨k,rfl⟩ : ∃ q,k = q + 1 + 1:=⟨k - 2,by omega⟩
    by_cases hp : p < s.size
    · have hl:=step_le hp
      have hw:=W_pos s p
      have e1 : wrap64 ((p : Int) + (W s p : Int)) = ((p + W s p : Nat) : Int):=by rw [wrap_in (by omega) (by omega)];omega
      have e2 : wrap64 ((r : Int) + 1) = ((r + 1 : Nat) : Int):=by rw [wrap_in (by omega) (by omega)];omega
      rw [refWord_l0 s (k + 1) p r e m hp,joustref01_word.j1]
      cases hst : stops s p (r == 0) with
      | true =>
        rw [if_pos rfl,wordL,if_neg (by rw [hst];simp)]
      | false =>
        have eW : wordL s (n + 1) p r e m = if C s p = 45 then wordL s n (p + W s p) (r + 1) e m else wordL s n (p + W s p) (r + 1) (p + W s p) (r + 1):=by rw [wordL,if_pos ⟨hp,hst⟩]
        rw [if_neg (by decide),e1,e2,eW]
        by_cases hc : C s p = 45
        · rw [if_pos (show (C s p : Int) = 45 by omega),if_pos hc]
          exact ih k (p + W s p) (r + 1) e m (by omega) (by omega) hl (by omega)
        · rw [if_neg (show ¬ (C s p : Int) = 45 by omega),if_neg hc]
          exact ih k (p + W s p) (r + 1) (p + W s p) (r + 1) (by omega) (by omega) hl (by omega)
    · rw [joustref01_word.l0,if_neg (by omega),wordL,if_neg (by omega)]
theorem refWord (s : ByteArray) (hs : s.size ≤ 4611686018427387904) (k : Nat) (hk : 2 * s.size < k) : joustref01_word.f k s = some (((wordS s).1 : Int),((wordS s).2 : Int)) :=
  refWord_loop s hs s.size k 0 0 0 0 (by omega) hk (by omega) (by omega)

theorem great_loop (s : ByteArray) (hs : s.size ≤ 4611686018427387904) (h : ∀ b ∈ s.data.toList,isD b = true) (n : Nat) : ∀ (k i acc : Nat) (x : Int),s.size - i = n → n < k → i ≤ s.size → x = (if acc ≤ 100000 then (acc : Int) else 100000) →
    joustref01_great.l0 k s x (i : Int) = some (decide (99999 < val acc (s.data.toList.drop i))):=by
  induction n with
  | zero =>
    intro k i acc x h1 h2 h3 h4
    obtain ⟨k,rfl⟩ : ∃ q,k = q + 1:=⟨k - 1,by omega⟩
    rw [joustref01_great.l0,if_neg (by omega),List.drop_eq_nil_of_le (by rw [← size_eq];omega)]
    rw [val_nil]
    have e : (x > 99999) ↔ 99999 < acc:=by
      subst h4
      split <;> omega
    rw [decide_eq_decide.2 e]
  | succ n ih =>
    intro k i acc x h1 h2 h3 h4
    obtain ⟨k,rfl⟩ : ∃ q,k = q + 1:=⟨k - 1,by omega⟩
    have q1 : s.size - (i + 1) = n:=by omega
    have q2 : n < k:=by omega
    have q3 : i + 1 ≤ s.size:=by omega
    have c1 : (i : Int) < (s.size : Int):=by omega
    have c2 : 0 ≤ (i : Int):=by omega
    have hi : i < s.data.toList.length:=by rw [← size_eq];omega
    have hd:=drop_cons s.data.toList i hi
    have hm : s.data.toList.getD i 0 ∈ s.data.toList:=by
      show (s.data.toList[i]?).getD 0 ∈ _
      rw [List.getElem?_eq_getElem hi]
      exact List.getElem_mem hi
    have hb : 48 ≤ (s.data.toList.getD i 0).toNat ∧ (s.data.toList.getD i 0).toNat ≤ 57:=of_decide_eq_true (h _ hm)
    have hbt:=bt_get s i (by omega)
    obtain ⟨b,hbb⟩ : ∃ b : Nat,(s.data.toList.getD i 0).toNat = b:=⟨_,rfl⟩
    rw [hbb] at hb hbt
    have e1 : wrap64 ((i : Int) + 1) = ((i + 1 : Nat) : Int):=by rw [wrap_in (by omega) (by omega)];omega
    have hx : 0 ≤ x ∧ x ≤ 100000:=by subst h4;split <;> omega
    have e2 : wrap64 (10 * x) = 10 * x:=wrap_in (by omega) (by omega)
    have e3 : (((b : Int) - 48) % 256) = (b : Int) - 48:=by omega
    have e4 : wrap64 (10 * x + ((b : Int) - 48)) = 10 * x + ((b : Int) - 48):=wrap_in (by omega) (by omega)
    have:=ih k (i + 1) (acc * 10 + (b - 48)) (mn (10 * x + ((b : Int) - 48)) 100000) q1 q2 q3 (sat_step acc b hb.1 x h4)
    have eA : mn (wrap64 ((wrap64 (10 * x)) + (((bt s (i : Int)) - 48) % 256))) 100000 = mn (10 * x + ((b : Int) - 48)) 100000:=by rw [hbt,e2,e3,e4]
    rw [joustref01_great.l0,if_pos c1,if_pos c2,eA,e1,this,hd,val_cons,hbb]
theorem refGreat (s : ByteArray) (hs : s.size ≤ 4611686018427387904) (h : ∀ b ∈ s.data.toList,isD b = true) (k : Nat) (hk : s.size < k) : joustref01_great.f k s = some (great s.data.toList):=by
  have:=great_loop s hs h s.size k 0 0 0 (by omega) hk (by omega) (by rw [if_pos (by omega)];rfl)
  rw [List.drop_zero] at this
  exact this
theorem refNumber_loop (s : ByteArray) (hs : s.size ≤ 4611686018427387904) (n : Nat) : ∀ (k i : Nat),s.size - i = n → n < k → i ≤ s.size → joustref01_number.l0 k s (i : Int) = some ((i + lead (s.data.toList.drop i) : Nat) : Int):=by
  induction n with
  | zero =>
    intro k i h1 h2 h3
    obtain ⟨k,rfl⟩ : ∃ q,k = q + 1:=⟨k - 1,by omega⟩
    rw [joustref01_number.l0,if_neg (by omega),List.drop_eq_nil_of_le (by rw [← size_eq];omega)]
    rfl
  | succ n ih =>
    intro k i h1 h2 h3
    obtain ⟨k,rfl⟩ : ∃ q,k = q + 1:=⟨k - 1,by omega⟩
    have q1 : s.size - (i + 1) = n:=by omega
    have q2 : n < k:=by omega
    have q3 : i + 1 ≤ s.size:=by omega
    have c1 : (i : Int) < (s.size : Int):=by omega
    have c2 : 0 ≤ (i : Int):=by omega
    have e1 : wrap64 ((i : Int) + 1) = ((i + 1 : Nat) : Int):=by rw [wrap_in (by omega) (by omega)];omega
    have hd:=drop_cons s.data.toList i (by rw [← size_eq];omega)
    have hlt : (s.data.toList.getD i 0).toNat < 256:=UInt8.toNat_lt _
    rw [joustref01_number.l0,if_pos c1,if_pos c2,bt_get s i (by omega),wrap32_in (by omega) (by omega),digit,Option.bind_some,hd]
    unfold lead
    rw [List.takeWhile_cons]
    show (if D (s.data.toList.getD i 0).toNat = true then _ else _) = some ((i + (if D (s.data.toList.getD i 0).toNat = true then _ else _ : List UInt8).length : Nat) : Int)
    cases D (s.data.toList.getD i 0).toNat with
    | true =>
      rw [if_pos rfl,if_pos rfl,e1,ih k (i + 1) q1 q2 q3,List.length_cons]
      unfold lead
      congr 2
      omega
    | false =>
      rw [if_neg Bool.false_ne_true,if_neg Bool.false_ne_true]
      rfl
theorem refNumber (s : ByteArray) (hs : s.size ≤ 4611686018427387904) (k : Nat) (hk : s.size < k) : joustref01_number.f k s = some ((lead s.data.toList : Nat) : Int):=by
  have:=refNumber_loop s hs s.size k 0 (by omega) hk (by omega)
  rw [List.drop_zero,Nat.zero_add] at this
  exact this
theorem refMark_at (c : Nat) (n : Nat) : ∀ (k i : Nat),i + n = 11 → n < k → joustref01_mark.l0 k (c : Int) (i : Int) = some ((marksL.drop i).contains c):=by
  induction n with
  | zero =>
    intro k i h1 h2
    obtain ⟨k,rfl⟩ : ∃ q,k = q + 1:=⟨k - 1,by omega⟩
    obtain rfl : i = 11:=by omega
    rw [joustref01_mark.l0,if_neg (by decide)]
    rfl
  | succ n ih =>
    intro k i h1 h2
    obtain ⟨k,rfl⟩ : ∃ q,k = q + 1:=⟨k - 1,by omega⟩
    have:=ih k (i + 1) (by omega) (by omega)
    have e1 : wrap64 ((i : Int) + 1) = ((i + 1 : Nat) : Int):=by rw [wrap_in (by omega) (by omega)];omega
    have hi : i < marksL.length:=by show i < 11;omega
    have e2 : wrap32 (bt (⟨#[123,125,40,41,58,59,43,42,60,61,45]⟩ : ByteArray) (i : Int)) = ((marksL[i] : Nat) : Int):=by
      have : ∀ j : Fin 11,wrap32 (bt (⟨#[123,125,40,41,58,59,43,42,60,61,45]⟩ : ByteArray) (j.1 : Int)) = ((marksL[j.1]'j.2 : Nat) : Int):=by decide +kernel
      exact this ⟨i,hi⟩
    rw [joustref01_mark.l0,if_pos (by omega),if_pos (by omega),e1,e2,this,List.drop_eq_getElem_cons hi,List.contains_cons]
    by_cases h : marksL[i] = c
    · rw [if_pos (by omega),beq_iff_eq.2 h.symm,Bool.true_or]
    · rw [if_neg (by omega),beq_eq_false_iff_ne.2 (fun e=>h e.symm),Bool.false_or]
theorem refMark (c : Nat) (k : Nat) (hk : 11 < k) : joustref01_mark.f k (c : Int) = some (mark c):=by
  have:=refMark_at c 11 k 0 rfl hk
  exact this

end Go.Proofs.YtmgdkkkkanjadaaGreatDoor.PureS
