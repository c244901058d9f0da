/-
  joustref01.Tokens: the call comes to the Lean function of X16. Conditions: what the listed package variables hold.
-/
import Derived.Test.YtmgdkkkkanjadaaGreatDoorX16
import Derived.Test.YtmgdkkkkanjadaaGreatDoorHandG
import Derived.Deep.CutBlock
namespace Go.Proofs.YtmgdkkkkanjadaaGreatDoor.RefT
set_option linter.unusedVariables false
set_option linter.unusedSimpArgs false
open Go.RowKit Go.Shelf Go.Lib Go.Proofs.YtmgdkkkkanjadaaGreatDoorW.PrintWords Go.Proofs.YtmgdkkkkanjadaaGreatDoorW.PrintLast Go.Proofs.YtmgdkkkkanjadaaGreatDoorW.PrintMore Go.Proofs.YtmgdkkkkanjadaaGreatDoor.X Go.Proofs.YtmgdkkkkanjadaaGreatDoor.HandS Go.Proofs.YtmgdkkkkanjadaaGreatDoor.HandA Go.Proofs.YtmgdkkkkanjadaaGreatDoor.HandB Go.Proofs.YtmgdkkkkanjadaaGreatDoor.HandC Go.Proofs.YtmgdkkkkanjadaaGreatDoor.HandG Go.Proofs.YtmgdkkkkanjadaaGreatDoor.Iter
abbrev Ans:=List S69 × Int × Int × Int
def wsI (c : Int) : Bool:=c == 32 || (c == 9 || (c == 10 || c == 13))
section
variable {k : Nat} {s : ByteArray} {xs : List S69} {p c n x0 x1 : Int} {r : Ans}
theorem l0_inv (h : joustref01_Tokens.l0 (k + 1) s xs p = some r) (hp : p < (s.size : Int)) : 0 ≤ p ∧ ∃ c n x0 x1,utf8_DecodeRuneInString.f (s.extract p.toNat s.size) = some (c,n) ∧ joustref01_Where.f k s p = some (x0,x1) ∧ joustref01_Tokens.j1 k s xs p c n (wsI c) x0 x1 = some r:=by
  rw [joustref01_Tokens.l0,if_pos hp] at h
  by_cases h0 : 0 ≤ p
  · rw [if_pos h0,if_pos (Int.le_of_lt hp)] at h
    cases hd : utf8_DecodeRuneInString.f (s.extract p.toNat s.size) with
    | none=>rw [hd] at h;cases h
    | some t =>
      rw [hd,Option.bind_some] at h
      cases hw : joustref01_Where.f k s p with
      | none=>rw [hw] at h;cases h
      | some x =>
        rw [hw,Option.bind_some] at h
        refine ⟨h0,t.1,t.2,x.1,x.2,rfl,rfl,?_⟩
        unfold wsI
        by_cases a : t.1 = 32
        · rw [if_pos a] at h;rw [beq_iff_eq.2 a];exact h
        rw [if_neg a] at h
        rw [beq_eq_false_iff_ne.2 a]
        by_cases a : t.1 = 9
        · rw [if_pos a] at h;rw [beq_iff_eq.2 a];exact h
        rw [if_neg a] at h
        rw [beq_eq_false_iff_ne.2 a]
        by_cases a : t.1 = 10
        · rw [if_pos a] at h;rw [beq_iff_eq.2 a];exact h
        rw [if_neg a] at h
        rw [beq_eq_false_iff_ne.2 a]
        exact h
  · rw [if_neg h0] at h;cases h
theorem l0_end (h : joustref01_Tokens.l0 (k + 1) s xs p = some r) (hp : ¬ p < (s.size : Int)) : ∃ x0 x1,joustref01_Where.f k s (s.size : Int) = some (x0,x1) ∧ xs.length < 3518437208883 ∧ r = (xs ++ [⟨0,⟨#[]⟩,⟨x0,x1⟩⟩],0,0,0):=by
  rw [joustref01_Tokens.l0,if_neg hp] at h
  cases hw : joustref01_Where.f k s (s.size : Int) with
  | none=>rw [hw] at h;cases h
  | some x =>
    rw [hw,Option.bind_some] at h
    by_cases hl : xs.length < 3518437208883
    · rw [if_pos hl] at h
      exact ⟨x.1,x.2,rfl,hl,(Option.some.inj h).symm⟩
    · rw [if_neg hl] at h;cases h
theorem j1_ws (h : joustref01_Tokens.j1 (k + 1) s xs p c n true x0 x1 = some r) : joustref01_Tokens.l0 k s xs (wrap64 (p + 1)) = some r:=by
  rw [joustref01_Tokens.j1,if_pos rfl] at h
  exact h
theorem j1_rem (h : joustref01_Tokens.j1 (k + 1) s xs p 35 n false x0 x1 = some r) (h0 : 0 ≤ p) (h1 : p ≤ (s.size : Int)) : ∃ m b,joustref01_remark.f k (s.extract p.toNat s.size) = some (m,b) ∧
    ((b ≥ 0 ∧ ∃ y0 y1,joustref01_Where.f k s (wrap64 (p + b)) = some (y0,y1) ∧ r = ([],4,y0,y1)) ∨ (¬ b ≥ 0 ∧ joustref01_Tokens.l0 k s xs (wrap64 (p + m)) = some r)):=by
  rw [joustref01_Tokens.j1,if_neg Bool.false_ne_true,if_pos rfl,if_pos h0,if_pos h1] at h
  cases hr : joustref01_remark.f k (s.extract p.toNat s.size) with
  | none=>rw [hr] at h;cases h
  | some t =>
    rw [hr,Option.bind_some] at h
    refine ⟨t.1,t.2,rfl,?_⟩
    by_cases hb : t.2 ≥ 0
    · rw [if_pos hb] at h
      cases hw : joustref01_Where.f k s (wrap64 (p + t.2)) with
      | none=>rw [hw] at h;cases h
      | some y =>
        rw [hw,Option.bind_some] at h
        exact .inl ⟨hb,y.1,y.2,rfl,(Option.some.inj h).symm⟩
    · rw [if_neg hb] at h
      exact .inr ⟨hb,h⟩
def Good (k : Nat) (s : ByteArray) (xs : List S69) (p m kd x0 x1 : Int) (r : Ans) : Prop :=
  p ≤ wrap64 (p + m) ∧ wrap64 (p + m) ≤ (s.size : Int) ∧ xs.length < 3518437208883 ∧ joustref01_Tokens.l0 k s (xs ++ [⟨kd,s.extract p.toNat (wrap64 (p + m)).toNat,⟨x0,x1⟩⟩]) (wrap64 (p + m)) = some r
theorem good_of {m kd : Int} (h : (if xs.length < 3518437208883 then joustref01_Tokens.l0 k s (xs ++ [⟨kd,s.extract p.toNat (wrap64 (p + m)).toNat,⟨x0,x1⟩⟩]) (wrap64 (p + m)) else none) = some r) (h1 : p ≤ wrap64 (p + m)) (h2 : wrap64 (p + m) ≤ (s.size : Int)) : Good k s xs p m kd x0 x1 r:=by
  by_cases h3 : xs.length < 3518437208883
  · rw [if_pos h3] at h;exact ⟨h1,h2,h3,h⟩
  · rw [if_neg h3] at h;cases h
theorem good_if {m kd : Int} (h : (if p ≤ wrap64 (p + m) then if wrap64 (p + m) ≤ (s.size : Int) then if xs.length < 3518437208883 then joustref01_Tokens.l0 k s (xs ++ [⟨kd,s.extract p.toNat (wrap64 (p + m)).toNat,⟨x0,x1⟩⟩]) (wrap64 (p + m)) else none else none else none) = some r) : Good k s xs p m kd x0 x1 r:=by
  by_cases h1 : p ≤ wrap64 (p + m)
  · rw [if_pos h1] at h
    by_cases h2 : wrap64 (p + m) ≤ (s.size : Int)
    · rw [if_pos h2] at h;exact good_of h h1 h2
    · rw [if_neg h2] at h;cases h
  · rw [if_neg h1] at h;cases h
/-- behind a number -/
def Numb (k : Nat) (s : ByteArray) (xs : List S69) (p c m x0 x1 : Int) (r : Ans) : Prop :=
  ∃ c2 n2,utf8_DecodeRuneInString.f (s.extract (wrap64 (p + m)).toNat s.size) = some (c2,n2) ∧ ((m > 1 ∧ c = 48 ∧ r = ([],5,x0,x1)) ∨ (¬ (m > 1 ∧ c = 48) ∧ ∃ t,unicode_IsLetter.f c2 = some t ∧ ((t = true ∧ n2 > 0 ∧ r = ([],5,x0,x1)) ∨ (¬ (t = true ∧ n2 > 0) ∧ Good k s xs p m 2 x0 x1 r))))
theorem letter_of {m c2 n2 : Int} (h : ((unicode_IsLetter.f c2).bind fun t=>if t = true then if n2 > 0 then some (([] : List S69),(5 : Int),x0,x1) else if xs.length < 3518437208883 then joustref01_Tokens.l0 k s (xs ++ [⟨2,s.extract p.toNat (wrap64 (p + m)).toNat,⟨x0,x1⟩⟩]) (wrap64 (p + m)) else none else if xs.length < 3518437208883 then joustref01_Tokens.l0 k s (xs ++ [⟨2,s.extract p.toNat (wrap64 (p + m)).toNat,⟨x0,x1⟩⟩]) (wrap64 (p + m)) else none) = some r)
    (h1 : p ≤ wrap64 (p + m)) (h2 : wrap64 (p + m) ≤ (s.size : Int)) : ∃ t,unicode_IsLetter.f c2 = some t ∧ ((t = true ∧ n2 > 0 ∧ r = ([],5,x0,x1)) ∨ (¬ (t = true ∧ n2 > 0) ∧ Good k s xs p m 2 x0 x1 r)):=by
  cases hl : unicode_IsLetter.f c2 with
  | none=>rw [hl] at h;cases h
  | some t =>
    rw [hl,Option.bind_some] at h
    refine ⟨t,rfl,?_⟩
    by_cases ht : t = true
    · rw [if_pos ht] at h
      by_cases hn : n2 > 0
      · rw [if_pos hn] at h;exact .inl ⟨ht,hn,(Option.some.inj h).symm⟩
      · rw [if_neg hn] at h;exact .inr ⟨fun q=>hn q.2,good_of h h1 h2⟩
    · rw [if_neg ht] at h;exact .inr ⟨fun q=>ht q.1,good_of h h1 h2⟩
/-- a word, a number, a mark, or a fault -/
def Toke (k : Nat) (s : ByteArray) (xs : List S69) (p c n x0 x1 : Int) (r : Ans) : Prop :=
  ∃ m q,joustref01_word.f k (s.extract p.toNat s.size) = some (m,q) ∧
    ((m > 0 ∧ ((q > 24 ∧ r = ([],3,x0,x1)) ∨ (¬ q > 24 ∧ Good k s xs p m 1 x0 x1 r))) ∨
     (¬ m > 0 ∧ ∃ d,joustref01_digit.f c = some d ∧
       ((d = true ∧ ∃ m,joustref01_number.f k (s.extract p.toNat s.size) = some m ∧ p ≤ wrap64 (p + m) ∧ wrap64 (p + m) ≤ (s.size : Int) ∧ ∃ g,joustref01_great.f k (s.extract p.toNat (wrap64 (p + m)).toNat) = some g ∧ ((g = true ∧ r = ([],3,x0,x1)) ∨ (g = false ∧ 0 ≤ wrap64 (p + m) ∧ Numb k s xs p c m x0 x1 r))) ∨
        (d = false ∧ ∃ b,joustref01_mark.f k c = some b ∧ ((b = false ∧ r = ([],4,x0,x1)) ∨ (b = true ∧ Good k s xs p n 3 x0 x1 r))))))
theorem j1_tok (h : joustref01_Tokens.j1 (k + 1) s xs p c n false x0 x1 = some r) (hc : c ≠ 35) (h0 : 0 ≤ p) (h1 : p ≤ (s.size : Int)) : Toke k s xs p c n x0 x1 r:=by
  rw [joustref01_Tokens.j1,if_neg Bool.false_ne_true,if_neg hc,if_pos h0,if_pos h1] at h
  cases hw : joustref01_word.f k (s.extract p.toNat s.size) with
  | none=>rw [hw] at h;cases h
  | some t =>
    rw [hw,Option.bind_some] at h
    refine ⟨t.1,t.2,hw,?_⟩
    by_cases hm : t.1 > 0
    · rw [if_pos hm] at h
      refine .inl ⟨hm,?_⟩
      by_cases hq : t.2 > 24
      · rw [if_pos hq] at h;exact .inl ⟨hq,(Option.some.inj h).symm⟩
      · rw [if_neg hq] at h;exact .inr ⟨hq,good_if h⟩
    · rw [if_neg hm] at h
      refine .inr ⟨hm,?_⟩
      cases hd : joustref01_digit.f c with
      | none=>rw [hd] at h;cases h
      | some d =>
        rw [hd,Option.bind_some] at h
        refine ⟨d,rfl,?_⟩
        cases d with
        | true =>
          rw [if_pos rfl] at h
          refine .inl ⟨rfl,?_⟩
          cases hn : joustref01_number.f k (s.extract p.toNat s.size) with
          | none=>rw [hn] at h;cases h
          | some m =>
            rw [hn,Option.bind_some] at h
            by_cases q1 : p ≤ wrap64 (p + m)
            · rw [if_pos q1] at h
              by_cases q2 : wrap64 (p + m) ≤ (s.size : Int)
              · rw [if_pos q2] at h
                refine ⟨m,rfl,q1,q2,?_⟩
                cases hg : joustref01_great.f k (s.extract p.toNat (wrap64 (p + m)).toNat) with
                | none=>rw [hg] at h;cases h
                | some g =>
                  rw [hg,Option.bind_some] at h
                  refine ⟨g,rfl,?_⟩
                  cases g with
                  | true=>rw [if_pos rfl] at h;exact .inl ⟨rfl,(Option.some.inj h).symm⟩
                  | false =>
                    rw [if_neg Bool.false_ne_true] at h
                    by_cases q3 : 0 ≤ wrap64 (p + m)
                    · rw [if_pos q3] at h
                      refine .inr ⟨rfl,q3,?_⟩
                      cases hd2 : utf8_DecodeRuneInString.f (s.extract (wrap64 (p + m)).toNat s.size) with
                      | none=>rw [hd2] at h;cases h
                      | some t2 =>
                        rw [hd2,Option.bind_some] at h
                        refine ⟨t2.1,t2.2,hd2,?_⟩
                        by_cases q4 : m > 1
                        · rw [if_pos q4] at h
                          by_cases q5 : c = 48
                          · rw [if_pos q5] at h;exact .inl ⟨q4,q5,(Option.some.inj h).symm⟩
                          · rw [if_neg q5] at h;exact .inr ⟨fun q=>q5 q.2,letter_of h q1 q2⟩
                        · rw [if_neg q4] at h;exact .inr ⟨fun q=>q4 q.1,letter_of h q1 q2⟩
                    · rw [if_neg q3] at h;cases h
              · rw [if_neg q2] at h;cases h
            · rw [if_neg q1] at h;cases h
        | false =>
          rw [if_neg Bool.false_ne_true] at h
          refine .inr ⟨rfl,?_⟩
          cases hm2 : joustref01_mark.f k c with
          | none=>rw [hm2] at h;cases h
          | some b =>
            rw [hm2,Option.bind_some] at h
            refine ⟨b,rfl,?_⟩
            cases b with
            | true=>rw [if_pos rfl] at h;exact .inr ⟨rfl,good_if h⟩
            | false=>rw [if_neg Bool.false_ne_true] at h;exact .inl ⟨rfl,(Option.some.inj h).symm⟩
end
end Go.Proofs.YtmgdkkkkanjadaaGreatDoor.RefT
