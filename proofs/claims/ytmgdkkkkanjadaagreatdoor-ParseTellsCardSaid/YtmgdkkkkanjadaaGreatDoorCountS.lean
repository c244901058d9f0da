/-
  The runes of a word are counted alike; whether a text is a word is told alike.
-/
import Derived.Lib.TrimUEq
import Derived.Lib.RuneCountTail
import Derived.Lib.SlTrimSet
import Derived.Test.YtmgdkkkkanjadaaGreatDoorX6
import Derived.Shelf.Unicode.DecodeLastEight
/-
  Runes and their bytes: what a rune's value and width say of its bytes. No program in sight.
-/
namespace Go.Proofs.YtmgdkkkkanjadaaGreatDoor.ByteS
set_option linter.unusedVariables false
set_option linter.unusedSimpArgs false
open Go Go.Lib

set_option maxHeartbeats 1000000 in
theorem dn_cases (n b0 b1 b2 b3 : Nat) :
    (b0 < 128 ∧ decodeN n b0 b1 b2 b3 = (b0,1)) ∨ (128 ≤ b0 ∧ decodeN n b0 b1 b2 b3 = (65533,1))
    ∨ (b0 / 32 = 6 ∧ 1 < n ∧ b1 / 64 = 2 ∧ 128 ≤ b0 % 32 * 64 + b1 % 64 ∧ decodeN n b0 b1 b2 b3 = (b0 % 32 * 64 + b1 % 64,2))
    ∨ (b0 / 16 = 14 ∧ 2 < n ∧ b1 / 64 = 2 ∧ b2 / 64 = 2 ∧ 2048 ≤ b0 % 16 * 4096 + b1 % 64 * 64 + b2 % 64 ∧ decodeN n b0 b1 b2 b3 = (b0 % 16 * 4096 + b1 % 64 * 64 + b2 % 64,3))
    ∨ (b0 / 8 = 30 ∧ 3 < n ∧ b1 / 64 = 2 ∧ b2 / 64 = 2 ∧ b3 / 64 = 2 ∧ 65536 ≤ b0 % 8 * 262144 + b1 % 64 * 4096 + b2 % 64 * 64 + b3 % 64 ∧ decodeN n b0 b1 b2 b3 = (b0 % 8 * 262144 + b1 % 64 * 4096 + b2 % 64 * 64 + b3 % 64,4)):=by
  by_cases h0 : b0 < 128
  · exact .inl ⟨h0,by rw [decodeN,if_pos h0]⟩
  by_cases h1 : b0 / 32 = 6 ∧ (1 < n ∧ b1 / 64 = 2)
  · by_cases h2 : b0 % 32 * 64 + b1 % 64 ≥ 128
    · exact .inr (.inr (.inl ⟨h1.1,h1.2.1,h1.2.2,h2,by rw [decodeN,if_neg h0,if_pos h1,if_pos h2]⟩))
    · exact .inr (.inl ⟨by omega,by rw [decodeN,if_neg h0,if_pos h1,if_neg h2]⟩)
  by_cases h2 : b0 / 16 = 14 ∧ (1 < n ∧ b1 / 64 = 2) ∧ (2 < n ∧ b2 / 64 = 2)
  · by_cases h3 : b0 % 16 * 4096 + b1 % 64 * 64 + b2 % 64 ≥ 2048 ∧ (b0 % 16 * 4096 + b1 % 64 * 64 + b2 % 64 < 55296 ∨ (57344 ≤ b0 % 16 * 4096 + b1 % 64 * 64 + b2 % 64 ∧ b0 % 16 * 4096 + b1 % 64 * 64 + b2 % 64 ≤ 1114111))
    · exact .inr (.inr (.inr (.inl ⟨h2.1,h2.2.2.1,h2.2.1.2,h2.2.2.2,h3.1,by rw [decodeN,if_neg h0,if_neg h1,if_pos h2,if_pos h3]⟩)))
    · exact .inr (.inl ⟨by omega,by rw [decodeN,if_neg h0,if_neg h1,if_pos h2,if_neg h3]⟩)
  by_cases h3 : b0 / 8 = 30 ∧ (1 < n ∧ b1 / 64 = 2) ∧ (2 < n ∧ b2 / 64 = 2) ∧ (3 < n ∧ b3 / 64 = 2)
  · by_cases h4 : b0 % 8 * 262144 + b1 % 64 * 4096 + b2 % 64 * 64 + b3 % 64 ≥ 65536 ∧ (b0 % 8 * 262144 + b1 % 64 * 4096 + b2 % 64 * 64 + b3 % 64 < 55296 ∨ (57344 ≤ b0 % 8 * 262144 + b1 % 64 * 4096 + b2 % 64 * 64 + b3 % 64 ∧ b0 % 8 * 262144 + b1 % 64 * 4096 + b2 % 64 * 64 + b3 % 64 ≤ 1114111))
    · exact .inr (.inr (.inr (.inr ⟨h3.1,h3.2.2.2.1,h3.2.1.2,h3.2.2.1.2,h3.2.2.2.2,h4.1,by rw [decodeN,if_neg h0,if_neg h1,if_neg h2,if_pos h3,if_pos h4]⟩)))
    · exact .inr (.inl ⟨by omega,by rw [decodeN,if_neg h0,if_neg h1,if_neg h2,if_pos h3,if_neg h4]⟩)
  · exact .inr (.inl ⟨by omega,by rw [decodeN,if_neg h0,if_neg h1,if_neg h2,if_neg h3]⟩)

/-- The byte at a place (nought beyond the end). -/
def B (s : ByteArray) (i : Nat) : Nat:=(s.data.toList.getD i 0).toNat
theorem decode_B (s : ByteArray) (p : Nat) : Utf8.decode s p = decodeN (s.size - p) (B s p) (B s (p + 1)) (B s (p + 2)) (B s (p + 3)):=by
  rw [decode_N,size_eq];rfl
theorem B_lt (s : ByteArray) (i : Nat) : B s i < 256:=UInt8.toNat_lt _
/-- A rune below 128 is its one byte. -/
theorem small (s : ByteArray) (p : Nat) (h : (Utf8.decode s p).1 < 128) : Utf8.decode s p = (B s p,1) ∧ B s p < 128:=by
  rw [decode_B] at h ⊢
  rcases dn_cases (s.size - p) (B s p) (B s (p + 1)) (B s (p + 2)) (B s (p + 3)) with ⟨h1,e⟩ | ⟨h1,e⟩ | ⟨_,_,_,h1,e⟩ | ⟨_,_,_,_,h1,e⟩ | ⟨_,_,_,_,_,h1,e⟩ <;> rw [e] at h ⊢ <;> simp only at h
  · exact ⟨rfl,h1⟩
  all_goals omega
theorem ascii (s : ByteArray) (p : Nat) (h : B s p < 128) : Utf8.decode s p = (B s p,1):=by
  rw [decode_B];exact decodeN_ascii _ _ _ _ _ h
/-- A rune of one byte that is no ASCII is broken. -/
theorem one (s : ByteArray) (p : Nat) (h : (Utf8.decode s p).2 = 1) (h1 : 128 ≤ (Utf8.decode s p).1) : (Utf8.decode s p).1 = 65533:=by
  rw [decode_B] at h h1 ⊢
  rcases dn_cases (s.size - p) (B s p) (B s (p + 1)) (B s (p + 2)) (B s (p + 3)) with ⟨h2,e⟩ | ⟨h2,e⟩ | ⟨_,_,_,h2,e⟩ | ⟨_,_,_,_,h2,e⟩ | ⟨_,_,_,_,_,h2,e⟩ <;> rw [e] at h h1 ⊢ <;> simp only at h h1 ⊢
  all_goals omega
/-- The last byte of a rune that is no ASCII, and not broken, is beyond ASCII. -/
theorem last (s : ByteArray) (p : Nat) (h : 2 ≤ (Utf8.decode s p).2) : 128 ≤ B s (p + (Utf8.decode s p).2 - 1):=by
  rw [decode_B] at h ⊢
  rcases dn_cases (s.size - p) (B s p) (B s (p + 1)) (B s (p + 2)) (B s (p + 3)) with ⟨h2,e⟩ | ⟨h2,e⟩ | ⟨_,_,_,h2,e⟩ | ⟨_,_,_,_,h2,e⟩ | ⟨_,_,_,_,_,h2,e⟩ <;> rw [e] at h ⊢ <;> simp only at h ⊢
  · omega
  · omega
  · show 128 ≤ B s (p + 1);omega
  · show 128 ≤ B s (p + 2);omega
  · show 128 ≤ B s (p + 3);omega
/-- The rune 65533: broken (one byte), or written out (three). -/
theorem err (s : ByteArray) (p : Nat) (h : (Utf8.decode s p).1 = 65533) : (Utf8.decode s p).2 = 1 ∧ ¬ (B s p = 239 ∧ B s (p + 1) = 191 ∧ B s (p + 2) = 189 ∧ 2 < s.size - p) ∨ (Utf8.decode s p).2 = 3 ∧ B s p = 239 ∧ B s (p + 1) = 191 ∧ B s (p + 2) = 189 ∧ 2 < s.size - p:=by
  have hb0:=B_lt s p
  rw [decode_B] at h ⊢
  have key : B s p = 239 ∧ B s (p + 1) = 191 ∧ B s (p + 2) = 189 ∧ 2 < s.size - p → decodeN (s.size - p) (B s p) (B s (p + 1)) (B s (p + 2)) (B s (p + 3)) = (65533,3):=by
    rintro ⟨e0,e1,e2,e3⟩
    rw [e0,e1,e2,decodeN,if_neg (by decide),if_neg (by omega),if_pos (by omega),if_pos (by decide)]
  by_cases hk : B s p = 239 ∧ B s (p + 1) = 191 ∧ B s (p + 2) = 189 ∧ 2 < s.size - p
  · rw [key hk]
    exact .inr ⟨rfl,hk⟩
  · refine .inl ⟨?_,hk⟩
    rcases dn_cases (s.size - p) (B s p) (B s (p + 1)) (B s (p + 2)) (B s (p + 3)) with ⟨h2,e⟩ | ⟨h2,e⟩ | ⟨_,_,_,h2,e⟩ | ⟨h3,h4,h5,h6,h2,e⟩ | ⟨_,_,_,_,_,h2,e⟩ <;> rw [e] at h ⊢ <;> simp only at h ⊢
    · omega
    · exact absurd ⟨by have:=B_lt s (p + 1);have:=B_lt s (p + 2);omega,by have:=B_lt s (p + 1);have:=B_lt s (p + 2);omega,by have:=B_lt s (p + 1);have:=B_lt s (p + 2);omega,h4⟩ hk
    · omega

/-! ### a text without its trailing dashes -/
/-- How many bytes are left of the first p. -/
def T (s : ByteArray) (p : Nat) : Nat:=(trimRightS (s.data.toList.take p) [45]).length
theorem take_succ_B (s : ByteArray) (p : Nat) (h : p < s.size) : s.data.toList.take (p + 1) = s.data.toList.take p ++ [s.data.toList.getD p 0]:=by
  rw [size_eq] at h
  have e : s.data.toList.getD p 0 = s.data.toList[p]:=by
    show (s.data.toList[p]?).getD 0 = _
    rw [List.getElem?_eq_getElem h];rfl
  rw [List.take_add_one,List.getElem?_eq_getElem h,e]
  rfl
theorem T_dash (s : ByteArray) (p : Nat) (h : p < s.size) (hb : B s p = 45) : T s (p + 1) = T s p:=by
  have e : s.data.toList.getD p 0 = 45:=by
    apply UInt8.toNat_inj.1
    exact hb
  unfold T trimRightS
  rw [take_succ_B s p h,e,List.reverse_append]
  rfl
theorem T_full (s : ByteArray) (p : Nat) (h0 : 0 < p) (h : p ≤ s.size) (hb : B s (p - 1) ≠ 45) : T s p = p:=by
  obtain ⟨q,rfl⟩ : ∃ q,p = q + 1:=⟨p - 1,by omega⟩
  have e : ([45] : List UInt8).contains (s.data.toList.getD q 0) = false:=by
    rw [List.contains_cons,List.contains_nil,Bool.or_false]
    apply beq_eq_false_iff_ne.2
    intro he
    apply hb
    show (s.data.toList.getD (q + 1 - 1) 0).toNat = 45
    rw [Nat.add_sub_cancel,he]
    rfl
  unfold T trimRightS
  rw [take_succ_B s q (by omega),List.reverse_append,List.reverse_singleton,List.singleton_append,List.dropWhile_cons,e]
  simp only [Bool.false_eq_true,if_false]
  have hl:=size_eq s
  simp only [List.length_reverse,List.length_cons,List.length_take]
  omega
/-- Behind a rune that is no dash, nor broken, nothing is cut off. -/
theorem T_rune (s : ByteArray) (p : Nat) (h : p < s.size) (hw : p + (Utf8.decode s p).2 ≤ s.size) (hc : (Utf8.decode s p).1 ≠ 45) (hok : ¬ ((Utf8.decode s p).1 = 65533 ∧ (Utf8.decode s p).2 = 1)) : T s (p + (Utf8.decode s p).2) = p + (Utf8.decode s p).2:=by
  have h1:=width_pos s p
  refine T_full s _ (by omega) hw ?_
  by_cases h2 : (Utf8.decode s p).2 = 1
  · rw [h2,Nat.add_sub_cancel]
    have hlt : (Utf8.decode s p).1 < 128:=by
      have:=one s p h2
      omega
    have:=(small s p hlt).1
    rw [this] at hc
    exact hc
  · have:=last s p (by omega)
    omega

/-! ### a text's beginning -/
theorem B_take (s : ByteArray) (e i : Nat) (he : e ≤ s.size) (h : i < e) : B (s.extract 0 e) i = B s i:=by
  unfold B
  rw [extract_data,List.drop_zero,Nat.sub_zero,getD_takeU _ _ _ h]
theorem take_size (s : ByteArray) (e : Nat) (he : e ≤ s.size) : (s.extract 0 e).size = e:=by rw [ByteArray.size_extract];omega
/-- A rune that is not broken is the same where the text ends behind it. -/
theorem take_decode (s : ByteArray) (e p : Nat) (he : e ≤ s.size) (hw : p + (Utf8.decode s p).2 ≤ e) (hok : ¬ ((Utf8.decode s p).1 = 65533 ∧ (Utf8.decode s p).2 = 1)) : Utf8.decode (s.extract 0 e) p = Utf8.decode s p:=by
  have h1:=width_pos s p
  have hb0:=B_take s e p he (by omega)
  rw [decode_B s p] at hw hok ⊢
  rw [decode_B (s.extract 0 e) p,take_size s e he,hb0]
  generalize hn : s.size - p = n at *
  generalize hn' : e - p = n'
  have hnn : n' ≤ n := by omega
  rcases dn_cases n (B s p) (B s (p + 1)) (B s (p + 2)) (B s (p + 3)) with ⟨h2,q⟩ | ⟨h2,q⟩ | ⟨h3,h4,h5,h2,q⟩ | ⟨h3,h4,h5,h6,h2,q⟩ | ⟨h3,h4,h5,h6,h7,h2,q⟩
  · rw [q,decodeN_ascii _ _ _ _ _ h2]
  · rw [q] at hok
    exact absurd ⟨rfl,rfl⟩ hok
  · rw [q] at hw ⊢
    simp only at hw
    rw [B_take s e (p + 1) he (by omega),decodeN,if_neg (by omega),if_pos ⟨h3,by omega,h5⟩,if_pos h2]
  · have q0:=q
    rw [q] at hw ⊢
    simp only at hw
    rw [decodeN,if_neg (by omega),if_neg (by omega),if_pos ⟨h3,⟨by omega,h5⟩,h4,h6⟩] at q0
    rw [B_take s e (p + 1) he (by omega),B_take s e (p + 2) he (by omega),decodeN,if_neg (by omega),if_neg (by omega),if_pos ⟨h3,⟨by omega,h5⟩,by omega,h6⟩]
    exact q0
  · have q0:=q
    rw [q] at hw ⊢
    simp only at hw
    rw [decodeN,if_neg (by omega),if_neg (by omega),if_neg (by omega),if_pos ⟨h3,⟨by omega,h5⟩,⟨by omega,h6⟩,h4,h7⟩] at q0
    rw [B_take s e (p + 1) he (by omega),B_take s e (p + 2) he (by omega),B_take s e (p + 3) he (by omega),decodeN,if_neg (by omega),if_neg (by omega),if_neg (by omega),if_pos ⟨h3,⟨by omega,h5⟩,⟨by omega,h6⟩,by omega,h7⟩]
    exact q0
end Go.Proofs.YtmgdkkkkanjadaaGreatDoor.ByteS
/-
  The spots of a text over numbers and lists alone: the printed functions scan.mapped, scan.Where and the document's Where come to the plain walk along the runes.
-/
namespace Go.Proofs.YtmgdkkkkanjadaaGreatDoor.PureS
set_option linter.unusedVariables false
set_option linter.unusedSimpArgs false
open Go.RowKit Go.Lib Go.Proofs.YtmgdkkkkanjadaaGreatDoorW.PrintWords Go.Proofs.YtmgdkkkkanjadaaGreatDoorW.PrintLast Go.Proofs.YtmgdkkkkanjadaaGreatDoorW.PrintMore Go.Proofs.YtmgdkkkkanjadaaGreatDoor.X Go.Proofs.YtmgdkkkkanjadaaGreatDoor.HandS Go.Proofs.YtmgdkkkkanjadaaGreatDoor.Iter

theorem wrap_in {n : Int} (h0 : -9223372036854775808 ≤ n) (h1 : n ≤ 9223372036854775807) : wrap64 n = n:=by
  unfold wrap64;omega

/-! ### runes -/
/-- The rune at a place, and its bytes. -/
def C (s : ByteArray) (p : Nat) : Nat:=(Utf8.decode s p).1
def W (s : ByteArray) (p : Nat) : Nat:=(Utf8.decode s p).2
theorem W_pos (s : ByteArray) (p : Nat) : 1 ≤ W s p:=width_pos s p
theorem C_le (s : ByteArray) (p : Nat) : C s p ≤ 1114111:=rune_le s p
theorem decodeGo_extract (s : ByteArray) (pos : Nat) (h : pos < s.size) : decodeGo (s.extract pos s.size) = Utf8.decode s pos:=by
  have hx : (s.extract pos s.size).data.toList = s.data.toList.drop pos:=by
    rw [extract_data,List.take_of_length_le (by rw [List.length_drop,← size_eq];omega)]
  have hsz : (s.extract pos s.size).size ≠ 0:=by rw [size_eq,hx,List.length_drop,← size_eq];omega
  unfold decodeGo
  rw [if_neg hsz,← decodeL_drop s pos,← hx]
  rfl
theorem ext_size (s : ByteArray) (p : Nat) : (s.extract p s.size).size = s.size - p:=by
  rw [ByteArray.size_extract];omega
theorem step_le {s : ByteArray} {p : Nat} (h : p < s.size) : p + W s p ≤ s.size:=by
  have h1:=decodeGo_le_size (s.extract p s.size)
  rw [decodeGo_extract s p h,ext_size] at h1
  unfold W;omega
theorem next_in {s : ByteArray} {p : Nat} (h : p < s.size) : rune_next.f s (p : Int) = some (true,(p : Int),(C s p : Int),((p + W s p : Nat) : Int)):=by
  unfold rune_next.f
  rw [Int.toNat_natCast,if_pos h]
  rfl
theorem next_out {s : ByteArray} {p : Nat} (h : ¬ p < s.size) : rune_next.f s (p : Int) = some (false,0,0,(p : Int)):=by
  unfold rune_next.f
  rw [Int.toNat_natCast,if_neg h]
theorem dec_in {s : ByteArray} {p : Nat} (h : p < s.size) : utf8_DecodeRuneInString.f (s.extract p s.size) = some ((C s p : Int),(W s p : Int)):=by
  unfold utf8_DecodeRuneInString.f
  rw [decodeGo_extract s p h]
  rfl

/-! ### the walk along the runes: each with its place and its spot, and the end -/
def nl (s : ByteArray) (p : Nat) (x : S26) : S26:=if C s p = 10 then ⟨x.f0 + 1,1⟩ else ⟨x.f0,x.f1 + 1⟩
def walk (s : ByteArray) : Nat → Nat → S26 → List (Int × S26)
  | 0,p,x=>[((s.size : Int),x)]
  | n + 1,p,x=>if p < s.size then ((p : Int),x) :: walk s n (p + W s p) (nl s p x) else [((s.size : Int),x)]
theorem walk_head (s : ByteArray) (n p : Nat) (x : S26) (hp : p ≤ s.size) (hn : s.size - p ≤ n) : ∃ r,walk s n p x = ((p : Int),x) :: r:=by
  cases n with
  | zero=>exact ⟨[],by rw [walk,show s.size = p from by omega]⟩
  | succ n =>
    unfold walk
    split
    · exact ⟨_,rfl⟩
    · exact ⟨[],by rw [show s.size = p from by omega]⟩
theorem walk_mem (s : ByteArray) : ∀ n p x,p ≤ s.size → ∀ y ∈ walk s n p x,(p : Int) ≤ y.1
  | 0,p,x,hp,y,hy=>by simp [walk] at hy;subst hy;simp;omega
  | n + 1,p,x,hp,y,hy=>by
    unfold walk at hy
    split at hy
    · rename_i h
      rcases List.mem_cons.1 hy with rfl | hy
      · simp
      · have:=walk_mem s n (p + W s p) (nl s p x) (step_le h) y hy
        omega
    · simp at hy;subst hy;simp;omega
/-- Spots that stay in bounds. -/
def Fits (p : Nat) (x : S26) : Prop:=1 ≤ x.f0 ∧ 1 ≤ x.f1 ∧ x.f0 ≤ (p : Int) + 1 ∧ x.f1 ≤ (p : Int) + 1
theorem Fits.next {s : ByteArray} {p : Nat} {x : S26} (h : Fits p x) : Fits (p + W s p) (nl s p x):=by
  have:=W_pos s p
  unfold Fits at h ⊢
  unfold nl
  split <;> (simp only;omega)

theorem walk_end {s : ByteArray} {n p : Nat} {x : S26} (h : ¬ p < s.size) : walk s n p x = [((s.size : Int),x)]:=by
  cases n with
  | zero=>rfl
  | succ n=>rw [walk,if_neg h]
theorem walk_step {s : ByteArray} {n p : Nat} {x : S26} (h : p < s.size) : walk s (n + 1) p x = ((p : Int),x) :: walk s n (p + W s p) (nl s p x):=by
  rw [walk,if_pos h]
/-- One round of the spots' loop. -/
theorem mapped_round (s : ByteArray) (hs : s.size ≤ 1000000) (k p : Nat) (x : S26) (a : List Int) (b : List S26) (hp : p < s.size) (h4 : Fits p x) (h5 : a.length ≤ p) (h6 : b.length ≤ p) :
    scan_mapped.l0 (k + 1) s a b x.f0 x.f1 (p : Int) s = scan_mapped.l0 k s (a ++ [(p : Int)]) (b ++ [x]) (nl s p x).f0 (nl s p x).f1 ((p + W s p : Nat) : Int) s:=by
  unfold Fits at h4
  simp only [scan_mapped.l0]
  rw [next_in hp]
  simp only [Option.bind_some,if_true]
  rw [if_pos (by simp;omega),if_pos (by simp;omega)]
  try simp only [Option.bind_some]
  by_cases hc : C s p = 10
  · rw [if_pos (by omega),wrap_in (by omega) (by omega),show nl s p x = ⟨x.f0 + 1,1⟩ from by unfold nl;rw [if_pos hc]]
  · rw [if_neg (by omega),wrap_in (by omega) (by omega),show nl s p x = ⟨x.f0,x.f1 + 1⟩ from by unfold nl;rw [if_neg hc]]
theorem mapped_last (s : ByteArray) (hs : s.size ≤ 1000000) (k p : Nat) (x : S26) (a : List Int) (b : List S26) (hp : ¬ p < s.size) (h3 : p ≤ s.size) (h5 : a.length ≤ p) (h6 : b.length ≤ p) :
    scan_mapped.l0 (k + 1) s a b x.f0 x.f1 (p : Int) s = some (a ++ [(s.size : Int)],b ++ [x]):=by
  simp only [scan_mapped.l0]
  rw [next_out hp]
  simp only [Option.bind_some,Bool.false_eq_true,if_false]
  rw [if_pos (by simp;omega),if_pos (by simp;omega)]
theorem mapped_loop (s : ByteArray) (hs : s.size ≤ 1000000) (n : Nat) : ∀ (k p : Nat) (x : S26) (a : List Int) (b : List S26),s.size - p ≤ n → n < k → p ≤ s.size → Fits p x → a.length ≤ p → b.length ≤ p →
    scan_mapped.l0 k s a b x.f0 x.f1 (p : Int) s = some (a ++ (walk s n p x).map Prod.fst,b ++ (walk s n p x).map Prod.snd):=by
  induction n with
  | zero =>
    intro k p x a b h1 h2 h3 h4 h5 h6
    obtain ⟨k,rfl⟩ : ∃ m,k = m + 1:=⟨k - 1,by omega⟩
    rw [mapped_last s hs k p x a b (by omega) h3 h5 h6,walk_end (by omega)]
    rfl
  | succ n ih =>
    intro k p x a b h1 h2 h3 h4 h5 h6
    obtain ⟨k,rfl⟩ : ∃ m,k = m + 1:=⟨k - 1,by omega⟩
    by_cases hp : p < s.size
    · have hw:=W_pos s p
      have hl:=step_le hp
      have:=ih k (p + W s p) (nl s p x) (a ++ [(p : Int)]) (b ++ [x]) (by omega) (by omega) hl h4.next (by rw [List.length_append,List.length_singleton];omega) (by rw [List.length_append,List.length_singleton];omega)
      rw [mapped_round s hs k p x a b hp h4 h5 h6,this,walk_step hp,List.map_cons,List.map_cons,List.append_assoc,List.append_assoc]
      rfl
    · rw [mapped_last s hs k p x a b hp h3 h5 h6,walk_end hp]
      rfl
/-- All spots of a text. -/
def spots (s : ByteArray) : List (Int × S26):=walk s s.size 0 ⟨1,1⟩
theorem mapped (s : ByteArray) (hs : s.size ≤ 1000000) (k : Nat) (hk : s.size < k) : scan_mapped.f k s = some ((spots s).map Prod.fst,(spots s).map Prod.snd):=by
  unfold scan_mapped.f
  have:=mapped_loop s hs s.size k 0 ⟨1,1⟩ [] [] (by omega) hk (by omega) ⟨by decide,by decide,by decide,by decide⟩ (by simp) (by simp)
  simpa [spots] using this

/-! ### the spot of a byte -/
def whereFrom (at_ : Int) : List (Int × S26) → S26
  | []=>z26
  | [x]=>x.2
  | x :: y :: r=>if at_ < y.1 then x.2 else whereFrom at_ (y :: r)
/-- The places rise. -/
theorem walk_rise (s : ByteArray) : ∀ n p x,p ≤ s.size → (walk s n p x).Pairwise (fun a b=>a.1 < b.1)
  | 0,p,x,hp=>by simp [walk]
  | n + 1,p,x,hp=>by
    unfold walk
    split
    · rename_i h
      refine List.pairwise_cons.2 ⟨fun y hy=>?_,walk_rise s n _ _ (step_le h)⟩
      have:=walk_mem s n (p + W s p) (nl s p x) (step_le h) y hy
      have:=W_pos s p
      simp only
      omega
    · simp
theorem whereFrom_at (at_ : Int) : ∀ (l : List (Int × S26)) (m : Nat) (hm : m < l.length),l.Pairwise (fun a b=>a.1 < b.1) → (m = 0 ∨ (l[m]).1 ≤ at_) → (∀ j (hj : j < l.length),m < j → at_ < (l[j]).1) → whereFrom at_ l = (l[m]).2
  | [],m,hm,h1,h2,h3=>by simp at hm
  | [x],m,hm,h1,h2,h3=>by
    have : m = 0:=by simp at hm;omega
    subst this
    rfl
  | x :: y :: r,0,hm,h1,h2,h3=>by
    have:=h3 1 (by simp) (by omega)
    rw [whereFrom,if_pos (by simpa using this)]
    rfl
  | x :: y :: r,m + 1,hm,h1,h2,h3=>by
    have hm' : m < (y :: r).length := by simpa using hm
    have h1' := (List.pairwise_cons.1 h1).2
    have h2' : ((y :: r)[m]).1 ≤ at_ := by
      rcases h2 with h | h
      · omega
      · simpa using h
    have hy : y.1 ≤ ((y :: r)[m]).1:=by
      cases m with
      | zero=>simp
      | succ m =>
        have:=(List.pairwise_cons.1 h1').1 ((y :: r)[m + 1]) (by simp)
        omega
    rw [whereFrom,if_neg (by omega)]
    rw [whereFrom_at at_ (y :: r) m hm' h1' (.inr h2') (fun j hj hmj => by
      have:=h3 (j + 1) (by simp at hj ⊢;omega) (by omega)
      simpa using this)]
    rfl
theorem rd_snd (l : List (Int × S26)) (i : Nat) (h : i < l.length) : rd_T26 (l.map Prod.snd) (i : Int) = (l[i]).2:=by
  unfold rd_T26
  rw [Int.toNat_natCast]
  simp [List.getD,h]
end Go.Proofs.YtmgdkkkkanjadaaGreatDoor.PureS
/-
  Words over numbers and lists alone: scan.word and the document's word come to one plain walk.
-/
namespace Go.Proofs.YtmgdkkkkanjadaaGreatDoor.PureS
set_option linter.unusedVariables false
set_option linter.unusedSimpArgs false
open Go.RowKit Go.Lib Go.Proofs.YtmgdkkkkanjadaaGreatDoorW.PrintWords Go.Proofs.YtmgdkkkkanjadaaGreatDoorW.PrintLast Go.Proofs.YtmgdkkkkanjadaaGreatDoorW.PrintMore Go.Proofs.YtmgdkkkkanjadaaGreatDoor.X Go.Proofs.YtmgdkkkkanjadaaGreatDoor.HandS Go.Proofs.YtmgdkkkkanjadaaGreatDoor.Iter

def L (c : Nat) : Bool:=isLetterU (c : Int)
def D (c : Nat) : Bool:=decide (48 ≤ c ∧ c ≤ 57)
theorem letter (s : ByteArray) (p : Nat) : unicode_IsLetter.f (C s p : Int) = some (L (C s p)):=by
  have:=C_le s p
  unfold unicode_IsLetter.f
  rw [if_pos ⟨by omega,by omega⟩]
  rfl
theorem isDigit (c : Nat) : scan_isDigit.f (c : Int) = some (D c):=by
  unfold scan_isDigit.f D
  by_cases h : 48 ≤ (c : Int)
  · rw [if_pos h]
    congr 1
    exact decide_eq_decide.2 ⟨fun h2=>⟨by omega,by omega⟩,fun h2=>by omega⟩
  · rw [if_neg h,decide_eq_false (by omega)]
theorem wordly (s : ByteArray) (p : Nat) : scan_wordly.f (C s p : Int) = some (C s p == 45 || (D (C s p) || L (C s p))):=by
  unfold scan_wordly.f
  by_cases h : C s p = 45
  · rw [if_pos (by omega),h];rfl
  · rw [if_neg (by omega),beq_eq_false_iff_ne.2 h,isDigit,Option.bind_some,Bool.false_or]
    cases D (C s p) with
    | true=>rw [if_pos rfl];rfl
    | false=>rw [if_neg (by decide),letter,Option.bind_some,Bool.false_or]
/-- Is the rune there broken? -/
def bad (s : ByteArray) (p : Nat) : Bool:=decide (C s p = 65533 ∧ W s p = 1)
theorem B_ext (s : ByteArray) (p : Nat) : (s.extract p s.size).data.toList = s.data.toList.drop p:=by
  rw [extract_data,List.take_of_length_le (by rw [List.length_drop,← size_eq];omega)]
theorem broken (s : ByteArray) (p : Nat) (h : p < s.size) : scan_broken.f s (p : Int) (C s p : Int) = some (bad s p):=by
  unfold scan_broken.f
  by_cases hc : C s p = 65533
  · rw [if_pos (by omega),if_pos (by omega),if_pos (by omega),Int.toNat_natCast]
    unfold strings_HasPrefix.f
    rw [Option.bind_some]
    congr 1
    rw [B_ext]
    have hp : Lib.hasPrefix (s.data.toList.drop p) [239,191,189] = decide (ByteS.B s p = 239 ∧ ByteS.B s (p + 1) = 191 ∧ ByteS.B s (p + 2) = 189 ∧ 2 < s.size - p):=by
      have e : ∀ k,p + k < s.size → (s.data.toList.drop p)[k]? = some (s.data.toList.getD (p + k) 0):=by
        intro k hk
        rw [List.getElem?_drop]
        rw [size_eq] at hk
        show _ = some ((s.data.toList[p + k]?).getD 0)
        rw [List.getElem?_eq_getElem hk];rfl
      have hlen : (s.data.toList.drop p).length = s.size - p:=by rw [List.length_drop,← size_eq]
      have e0:=e 0 (by omega)
      rcases hl : s.data.toList.drop p with _ | ⟨a,_ | ⟨b,_ | ⟨c,r⟩⟩⟩
      · rw [hl] at hlen;simp at hlen;omega
      · rw [hl] at hlen
        rw [decide_eq_false (by simp at hlen;omega)];simp [Lib.hasPrefix,List.isPrefixOf]
      · rw [hl] at hlen
        rw [decide_eq_false (by simp at hlen;omega)];simp [Lib.hasPrefix,List.isPrefixOf]
      · rw [hl] at hlen e
        have h2 : 2 < s.size - p:=by simp at hlen;omega
        have e1:=e 1 (by omega)
        have e2:=e 2 (by omega)
        have e0:=e 0 (by omega)
        simp only [List.getElem?_cons_zero,List.getElem?_cons_succ,Option.some.injEq,Nat.add_zero] at e0 e1 e2
        unfold ByteS.B
        rw [← e0,← e1,← e2]
        have f : ∀ (x : UInt8) (n : Nat) (hn : n < 256),((OfNat.ofNat n : UInt8) == x) = decide (x.toNat = n):=by
          intro x n hn
          by_cases hx : x.toNat = n
          · rw [decide_eq_true hx,beq_iff_eq]
            apply UInt8.toNat_inj.1
            rw [hx]
            simp [UInt8.toNat_ofNat]
            omega
          · rw [decide_eq_false hx,beq_eq_false_iff_ne]
            intro he
            apply hx
            rw [← he]
            simp [UInt8.toNat_ofNat]
            omega
        show (239 == a && (191 == b && (189 == c && true))) = _
        rw [f a 239 (by omega),f b 191 (by omega),f c 189 (by omega)]
        simp [h2]
    have:=ByteS.err s p hc
    show (!Lib.hasPrefix _ [239,191,189]) = _
    rw [hp]
    unfold bad
    rcases this with ⟨h1,h2⟩ | ⟨h1,h2⟩
    · rw [decide_eq_false h2,decide_eq_true ⟨hc,h1⟩];rfl
    · rw [decide_eq_true h2,decide_eq_false (by unfold W;omega)];rfl
  · rw [if_neg (by omega)]
    unfold bad
    rw [decide_eq_false (by omega)]

/-! ### a word: how many bytes, how many runes -/
/-- Does the word end ahead of the rune at p (the first one, if none has come)? -/
def stops (s : ByteArray) (p : Nat) (first : Bool) : Bool:=bad s p || (first && !L (C s p)) || (!(L (C s p) || D (C s p)) && C s p != 45)
def wordL (s : ByteArray) : Nat → Nat → Nat → Nat → Nat → Nat × Nat
  | 0,p,r,e,m=>(e,m)
  | n + 1,p,r,e,m=>if p < s.size ∧ stops s p (r == 0) = false then (if C s p = 45 then wordL s n (p + W s p) (r + 1) e m else wordL s n (p + W s p) (r + 1) (p + W s p) (r + 1)) else (e,m)

/-- The word at the beginning of a text: its bytes, its runes. -/
def wordS (s : ByteArray) : Nat × Nat:=wordL s s.size 0 0 0 0
/-! ### scan.word -/
theorem trimmed (s : ByteArray) (p : Nat) (hp : p ≤ s.size) (hs : s.size ≤ 4611686018427387904) : (strings_TrimRight.f (s.extract 0 p) (⟨#[45]⟩ : ByteArray)).bind (fun t=>some (t.size : Int)) = some ((ByteS.T s p : Nat) : Int):=by
  have hsz : (s.extract 0 p).size = p:=by rw [ByteArray.size_extract];omega
  unfold strings_TrimRight.f
  rw [if_pos ⟨by rw [hsz];omega,by decide,by decide⟩,Option.bind_some,extract_data]
  rfl
theorem wordly_stop (s : ByteArray) (p : Nat) : (C s p == 45 || (D (C s p) || L (C s p))) = !(!(L (C s p) || D (C s p)) && C s p != 45):=by
  cases L (C s p) <;> cases D (C s p) <;> cases h : (C s p == 45) <;> simp [bne,h]
/-- What scan.word does behind its first question: is the word over at p? -/
theorem word_j1 (s : ByteArray) (hs : s.size ≤ 4611686018427387904) (k p : Nat) (hp : p < s.size) (f : Bool) : scan_word.j1 (k + 1) s (p : Int) (C s p : Int) f ((p + W s p : Nat) : Int) s =
    if f = true then some 0 else if (bad s p || (!(L (C s p) || D (C s p)) && C s p != 45)) = true then some ((ByteS.T s p : Nat) : Int) else scan_word.l0 k s ((p + W s p : Nat) : Int) s:=by
  have ht:=trimmed s p (by omega) hs
  rw [scan_word.j1]
  cases f with
  | true=>rfl
  | false =>
    simp only [Bool.false_eq_true,if_false]
    rw [broken s p hp,Option.bind_some]
    cases hb : bad s p with
    | true =>
      simp only [if_true,Bool.true_or]
      rw [if_pos (by omega),if_pos (by omega),Int.toNat_natCast]
      exact ht
    | false =>
      simp only [Bool.false_eq_true,if_false,Bool.false_or]
      rw [wordly,Option.bind_some,wordly_stop]
      cases (!(L (C s p) || D (C s p)) && C s p != 45) with
      | true =>
        simp only [Bool.not_true,Bool.false_eq_true,if_false,if_true]
        rw [if_pos (by omega),if_pos (by omega),Int.toNat_natCast]
        exact ht
      | false=>simp only [Bool.not_false,if_true,Bool.false_eq_true,if_false]
theorem word_l0 (s : ByteArray) (k p : Nat) (hp : p < s.size) : scan_word.l0 (k + 1) s (p : Int) s = scan_word.j1 k s (p : Int) (C s p : Int) (p == 0 && !L (C s p)) ((p + W s p : Nat) : Int) s:=by
  rw [scan_word.l0,next_in hp,Option.bind_some,if_pos rfl]
  by_cases h : p = 0
  · rw [if_pos (show (p : Int) = 0 by omega),letter,Option.bind_some,beq_iff_eq.2 h,Bool.true_and]
  · rw [if_neg (show ¬ (p : Int) = 0 by omega),beq_eq_false_iff_ne.2 h,Bool.false_and]
theorem word_loop (s : ByteArray) (hs : s.size ≤ 4611686018427387904) (n : Nat) : ∀ (k p r m : Nat),s.size - p ≤ n → 2 * n < k → p ≤ s.size → (p = 0 ↔ r = 0) →
    scan_word.l0 k s (p : Int) s = some ((wordL s n p r (ByteS.T s p) m).1 : Int):=by
  induction n with
  | zero =>
    intro k p r m h1 h2 h3 h4
    obtain ⟨k,rfl⟩ : ∃ q,k = q + 1:=⟨k - 1,by omega⟩
    have hpe : p = s.size:=by omega
    have ht:=trimmed s s.size (Nat.le_refl _) hs
    rw [scan_word.l0,next_out (by omega),Option.bind_some,if_neg Bool.false_ne_true]
    rw [show s.extract 0 s.size = s from by simp] at ht
    rw [hpe]
    exact ht
  | succ n ih =>
    intro k p r m h1 h2 h3 h4
    obtain ⟨k,rfl⟩ : ∃ q,k = q + 1 + 1:=⟨k - 2,by omega⟩
    by_cases hp : p < s.size
    · have hl:=step_le hp
      have hw:=W_pos s p
      have hpr : (p == 0) = (r == 0):=by
        by_cases h : p = 0
        · rw [beq_iff_eq.2 h,beq_iff_eq.2 (h4.1 h)]
        · rw [beq_eq_false_iff_ne.2 h,beq_eq_false_iff_ne.2 (fun e=>h (h4.2 e))]
      rw [word_l0 s (k + 1) p hp,word_j1 s hs k p hp,hpr]
      cases hst : stops s p (r == 0) with
      | true =>
        have eW : wordL s (n + 1) p r (ByteS.T s p) m = (ByteS.T s p,m):=by rw [wordL,if_neg (by rw [hst];simp)]
        rw [eW]
        unfold stops at hst
        cases hf : (r == 0 && !L (C s p)) with
        | true =>
          have hp0 : p = 0:=h4.2 (by
            rw [Bool.and_eq_true,beq_iff_eq] at hf
            exact hf.1)
          rw [if_pos rfl,hp0]
          rfl
        | false =>
          rw [hf,Bool.or_false] at hst
          rw [if_neg (by decide),hst,if_pos rfl]
      | false =>
        have eW : wordL s (n + 1) p r (ByteS.T s p) m = if C s p = 45 then wordL s n (p + W s p) (r + 1) (ByteS.T s p) m else wordL s n (p + W s p) (r + 1) (p + W s p) (r + 1):=by rw [wordL,if_pos ⟨hp,hst⟩]
        rw [eW]
        unfold stops at hst
        rw [Bool.or_eq_false_iff,Bool.or_eq_false_iff] at hst
        rw [hst.1.2,hst.1.1,hst.2,if_neg (by decide),if_neg (by decide)]
        have hok : ¬ (C s p = 65533 ∧ W s p = 1):=by
          have:=hst.1.1
          unfold bad at this
          exact of_decide_eq_false this
        by_cases hc : C s p = 45
        · have h1:=ByteS.small s p (by show C s p < 128;omega)
          have hw1 : W s p = 1:=by unfold W;rw [h1.1]
          have hb : ByteS.B s p = 45:=by
            have : C s p = ByteS.B s p:=by unfold C;rw [h1.1]
            omega
          have:=ih k (p + W s p) (r + 1) m (by omega) (by omega) hl ⟨fun h=>by omega,fun h=>by omega⟩
          rw [if_pos hc,this,hw1,ByteS.T_dash s p hp hb]
        · have hT:=ByteS.T_rune s p hp hl hc hok
          have:=ih k (p + W s p) (r + 1) (r + 1) (by omega) (by omega) hl ⟨fun h=>by omega,fun h=>by omega⟩
          rw [if_neg hc,this]
          show some (((wordL s n (p + W s p) (r + 1) (ByteS.T s (p + W s p)) (r + 1)).1 : Nat) : Int) = _
          rw [show ByteS.T s (p + W s p) = p + W s p from hT]
    · have hpe : p = s.size:=by omega
      have ht:=trimmed s s.size (Nat.le_refl _) hs
      rw [scan_word.l0,next_out hp,Option.bind_some,if_neg Bool.false_ne_true,wordL,if_neg (by omega)]
      rw [show s.extract 0 s.size = s from by simp] at ht
      rw [hpe]
      exact ht
theorem word (s : ByteArray) (hs : s.size ≤ 4611686018427387904) (k : Nat) (hk : 2 * s.size < k) : scan_word.f k s = some ((wordS s).1 : Int):=by
  have:=word_loop s hs s.size k 0 0 0 (by omega) hk (by omega) ⟨fun _=>rfl,fun _=>rfl⟩
  exact this
end Go.Proofs.YtmgdkkkkanjadaaGreatDoor.PureS
namespace Go.Proofs.YtmgdkkkkanjadaaGreatDoor.PureS
set_option linter.unusedVariables false
set_option linter.unusedSimpArgs false
open Go.RowKit Go.Lib Go.Proofs.YtmgdkkkkanjadaaGreatDoorW.PrintWords Go.Proofs.YtmgdkkkkanjadaaGreatDoorW.PrintLast Go.Proofs.YtmgdkkkkanjadaaGreatDoorW.PrintMore Go.Proofs.YtmgdkkkkanjadaaGreatDoor.X Go.Proofs.YtmgdkkkkanjadaaGreatDoor.HandS Go.Proofs.YtmgdkkkkanjadaaGreatDoor.Iter

/-- From p to e there are m runes, none of them broken. -/
inductive Runs (s : ByteArray) : Nat → Nat → Nat → Prop
  | nil (p : Nat) : Runs s p p 0
  | cons (p e m : Nat) (hp : p < s.size) (hb : bad s p = false) (h : Runs s (p + W s p) e m) : Runs s p e (m + 1)
theorem Runs.le {s : ByteArray} {p e m : Nat} (h : Runs s p e m) (hp : p ≤ s.size) : p ≤ e ∧ e ≤ s.size ∧ m ≤ e - p:=by
  induction h with
  | nil p=>omega
  | cons p e m h1 h2 h3 ih =>
    have:=ih (step_le h1)
    have:=W_pos s p
    omega
theorem Runs.snoc {s : ByteArray} {p e m : Nat} (h : Runs s p e m) (he : e < s.size) (hb : bad s e = false) : Runs s p (e + W s e) (m + 1):=by
  induction h with
  | nil p=>exact .cons _ _ _ he hb (.nil _)
  | cons p e m h1 h2 h3 ih=>exact .cons _ _ _ h1 h2 (ih he hb)
theorem not_bad {s : ByteArray} {p : Nat} (h : bad s p = false) : ¬ ((Utf8.decode s p).1 = 65533 ∧ (Utf8.decode s p).2 = 1):=of_decide_eq_false h
theorem Runs.count {s : ByteArray} {p e m : Nat} (h : Runs s p e m) : ∀ (hp : p ≤ s.size) (fuel : Nat),m ≤ fuel → runeCountFrom (s.extract 0 e) fuel p = m:=by
  induction h with
  | nil p =>
    intro hp fuel hf
    exact runeCountFrom_end _ _ _ (by rw [ByteS.take_size s p hp];omega)
  | cons p e m h1 h2 h3 ih =>
    intro hp fuel hf
    obtain ⟨f,rfl⟩ : ∃ f,fuel = f + 1:=⟨fuel - 1,by omega⟩
    have hl:=h3.le (step_le h1)
    have hw:=W_pos s p
    rw [runeCountFrom,if_pos (by rw [ByteS.take_size s e hl.2.1];omega),ByteS.take_decode s e p hl.2.1 hl.1 (not_bad h2)]
    have:=ih (step_le h1) f (by omega)
    unfold W at this
    rw [this]
    omega
theorem wordL_runs (s : ByteArray) (n : Nat) : ∀ (p r e m : Nat),p ≤ s.size → Runs s 0 p r → Runs s 0 e m → Runs s 0 (wordL s n p r e m).1 (wordL s n p r e m).2:=by
  induction n with
  | zero=>intro p r e m hp h1 h2;exact h2
  | succ n ih =>
    intro p r e m hp h1 h2
    rw [wordL]
    split
    · rename_i h
      have hb : bad s p = false:=by
        have:=h.2
        unfold stops at this
        rw [Bool.or_eq_false_iff,Bool.or_eq_false_iff] at this
        exact this.1.1
      have h3:=h1.snoc h.1 hb
      split
      · exact ih _ _ _ _ (step_le h.1) h3 h2
      · exact ih _ _ _ _ (step_le h.1) h3 h3
    · exact h2
theorem wordS_runs (s : ByteArray) : Runs s 0 (wordS s).1 (wordS s).2:=wordL_runs s s.size 0 0 0 0 (by omega) (.nil 0) (.nil 0)
theorem wordS_le (s : ByteArray) : (wordS s).1 ≤ s.size:=((wordS_runs s).le (by omega)).2.1
theorem count (s : ByteArray) (hs : s.size ≤ 4611686018427387904) : utf8_RuneCountInString.f (s.extract 0 (wordS s).1) = some ((wordS s).2 : Int):=by
  have hr:=wordS_runs s
  have hl:=hr.le (by omega)
  have hz:=ByteS.take_size s (wordS s).1 hl.2.1
  unfold utf8_RuneCountInString.f
  rw [if_pos (by rw [hz];omega)]
  unfold runeCount
  rw [hr.count (by omega) _ (by rw [hz];omega)]

end Go.Proofs.YtmgdkkkkanjadaaGreatDoor.PureS
