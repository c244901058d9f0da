/-
  The tokens of a text of words and marks of ASCII, each with one blank behind it. Conditions: the words are tokens by themselves.
-/
import Derived.Test.YtmgdkkkkanjadaaGreatDoorLocalS
namespace Go.Proofs.YtmgdkkkkanjadaaGreatDoor.PureS
set_option linter.unusedVariables false
set_option linter.unusedSimpArgs false
open Go.RowKit Go.Lib Go.Proofs.YtmgdkkkkanjadaaGreatDoorW.PrintWords Go.Proofs.YtmgdkkkkanjadaaGreatDoorW.PrintLast Go.Proofs.YtmgdkkkkanjadaaGreatDoorW.PrintMore Go.Proofs.YtmgdkkkkanjadaaGreatDoor.X Go.Proofs.YtmgdkkkkanjadaaGreatDoor.HandS Go.Proofs.YtmgdkkkkanjadaaGreatDoor.Iter

abbrev Wd := Nat × List UInt8
def laid : List Wd → List UInt8
  | [] => []
  | x :: ws => x.2 ++ 32 :: laid ws
def row : Int → List Wd → List S69
  | _, [] => []
  | c, x :: ws => ⟨(x.1 : Int), ⟨x.2.toArray⟩, ⟨1, c⟩⟩ :: row (c + (x.2.length : Int) + 1) ws
def okW (x : Wd) : Bool := decide (tok ⟨x.2.toArray⟩ = (x.1, x.2.length, 0)) && decide (0 < x.2.length) && x.2.all fun b => decide (35 < b.toNat) && decide (b.toNat < 128)
theorem laid_append (a b : List Wd) : laid (a ++ b) = laid a ++ laid b := by
  induction a with
  | nil => rfl
  | cons x a ih => rw [List.cons_append, laid, laid, ih, List.append_assoc, List.cons_append]
theorem okW_tok {x : Wd} (h : okW x = true) : tok ⟨x.2.toArray⟩ = (x.1, x.2.length, 0) := by
  unfold okW at h
  rw [Bool.and_eq_true, Bool.and_eq_true, decide_eq_true_iff, decide_eq_true_iff] at h
  exact h.1.1
theorem okW_pos {x : Wd} (h : okW x = true) : 0 < x.2.length := by
  unfold okW at h
  rw [Bool.and_eq_true, Bool.and_eq_true, decide_eq_true_iff, decide_eq_true_iff] at h
  exact h.1.2
theorem okW_byte {x : Wd} (h : okW x = true) : ∀ b ∈ x.2, 35 < b.toNat ∧ b.toNat < 128 := by
  unfold okW at h
  rw [Bool.and_eq_true, Bool.and_eq_true, List.all_eq_true] at h
  intro b hb
  have := h.2 b hb
  rwa [Bool.and_eq_true, decide_eq_true_iff, decide_eq_true_iff] at this
/-- a byte within a text -/
theorem B_of {s : ByteArray} {pre r : List UInt8} (h : s.data.toList = pre ++ r) (j : Nat) : ByteS.B s (pre.length + j) = (r.getD j 0).toNat := by
  unfold ByteS.B
  rw [h, List.getD_eq_getElem?_getD, List.getElem?_append_right (Nat.le_add_right _ _), Nat.add_sub_cancel_left, ← List.getD_eq_getElem?_getD]
theorem plainC {s : ByteArray} {p : Nat} (h : ByteS.B s p < 128) : C s p = ByteS.B s p ∧ W s p = 1 := by
  have := ByteS.ascii s p h
  unfold C W
  rw [this]
  exact ⟨rfl, rfl⟩
theorem nl_plain {s : ByteArray} {p : Nat} {c : Int} (h : ByteS.B s p < 128) (h1 : ByteS.B s p ≠ 10) : nl s p ⟨1, c⟩ = ⟨1, c + 1⟩ := by
  unfold nl
  rw [if_neg (by rw [(plainC h).1]; exact h1)]
theorem skipA (s : ByteArray) (i : Nat) : ∀ (n p : Nat) (c : Int) (beh : Nat) (l : List S69), (∀ j, j < i → 35 < ByteS.B s (p + j) ∧ ByteS.B s (p + j) < 128) → p + i ≤ s.size → p + i ≤ beh →
    toks s (i + n) p ⟨1, c⟩ false beh l = toks s n (p + i) ⟨1, c + (i : Int)⟩ false beh l := by
  induction i with
  | zero => intro n p c beh l _ _ _; simp
  | succ i ih =>
    intro n p c beh l hB hs hb
    have h0 := hB 0 (Nat.succ_pos _)
    rw [Nat.add_zero] at h0
    have e : i + 1 + n = (i + n) + 1 := by omega
    rw [e, toks_skip (by omega) (by omega), (plainC h0.2).2, nl_plain h0.2 (by omega), ih n (p + 1) (c + 1) beh l (fun j hj => by have := hB (j + 1) (by omega); rwa [show p + 1 + j = p + (j + 1) by omega]) (by omega) (by omega)]
    rw [show p + 1 + i = p + (i + 1) by omega, show c + 1 + (i : Int) = c + ((i + 1 : Nat) : Int) by push_cast; omega]
theorem toks_word {s : ByteArray} {x : Wd} (hx : okW x = true) {pre r : List UInt8} (h : s.data.toList = pre ++ (x.2 ++ 32 :: r)) (n : Nat) (c : Int) (beh : Nat) (l : List S69) (hb : beh ≤ pre.length) :
    toks s (x.2.length + 1 + n) pre.length ⟨1, c⟩ false beh l = toks s n (pre.length + x.2.length + 1) ⟨1, c + (x.2.length : Int) + 1⟩ false (pre.length + x.2.length) (l ++ [⟨(x.1 : Int), ⟨x.2.toArray⟩, ⟨1, c⟩⟩]) := by
  have hpos := okW_pos hx
  have hsz : s.size = pre.length + (x.2.length + (r.length + 1)) := by
    have := congrArg List.length h
    rw [List.length_append, List.length_append, List.length_cons, ← size_eq] at this
    exact this
  have hin : ∀ j, j < x.2.length → 35 < ByteS.B s (pre.length + j) ∧ ByteS.B s (pre.length + j) < 128 := by
    intro j hj
    rw [B_of h j, List.getD_eq_getElem?_getD, List.getElem?_append_left hj, List.getElem?_eq_getElem hj]
    exact okW_byte hx _ (List.getElem_mem hj)
  have hsep : ByteS.B s (pre.length + x.2.length) = 32 := by
    rw [B_of h, List.getD_eq_getElem?_getD, List.getElem?_append_right (Nat.le_refl _), Nat.sub_self]
    rfl
  have hdrop : (s.extract pre.length s.size).data.toList = x.2 ++ 32 :: r := by
    rw [extract_data, h, List.drop_left, hsz]
    exact List.take_of_length_le (by rw [List.length_append, List.length_cons]; omega)
  have ha : (⟨x.2.toArray⟩ : ByteArray).size = x.2.length := by
    show x.2.toArray.size = _
    exact List.size_toArray ..
  have htk : tokAt s pre.length = (x.1, x.2.length, 0) := by
    have ht := okW_tok hx
    have hal : Alike ⟨x.2.toArray⟩ (s.extract pre.length s.size) (tok ⟨x.2.toArray⟩).2.1 := by
      rw [ht]
      refine ⟨ByteArray.ext (Array.toList_inj.1 ?_), Nat.le_of_eq ha.symm, ?_, ?_⟩
      · rw [take_list, take_list, hdrop, List.take_left]
        exact List.take_of_length_le (Nat.le_of_eq (by simp))
      · rw [ext_size, hsz]
        show x.2.length < _
        omega
      · have : ByteS.B (s.extract pre.length s.size) x.2.length = 32 := by
          unfold ByteS.B
          rw [hdrop, List.getD_eq_getElem?_getD, List.getElem?_append_right (Nat.le_refl _), Nat.sub_self]
          rfl
        simp only
        rw [this]
        rfl
    have := tok_local (a := ⟨x.2.toArray⟩) (by rw [ha]; exact hpos) (by rw [ht]) hal
    unfold tokAt
    rw [this, ht]
  have h0 := hin 0 hpos
  rw [Nat.add_zero] at h0
  have hC := plainC h0.2
  have e : x.2.length + 1 + n = ((x.2.length - 1) + (1 + n)) + 1 := by omega
  have hone : oneTok s pre.length ⟨1, c⟩ = ⟨(x.1 : Int), ⟨x.2.toArray⟩, ⟨1, c⟩⟩ := by
    unfold oneTok
    rw [htk]
    simp only
    congr 1
    refine ByteArray.ext (Array.toList_inj.1 ?_)
    rw [extract_data, h, List.drop_left, Nat.add_sub_cancel_left, List.take_left]
  rw [e, toks_tok (by omega) hb (by rw [hC.1]; omega) (not_bad_of_lt _ _ (by rw [hC.1]; omega)) (by rw [hC.1]; unfold blank; simp only [Bool.false_or, Bool.or_eq_false_iff, decide_eq_false_iff_not, beq_eq_false_iff_ne]; omega), htk, if_pos rfl, hC.2, nl_plain h0.2 (by omega), hone]
  simp only
  rw [skipA s (x.2.length - 1) (1 + n) (pre.length + 1) (c + 1) (pre.length + x.2.length) _ (fun j hj => by have := hin (j + 1) (by omega); rwa [show pre.length + 1 + j = pre.length + (j + 1) by omega]) (by omega) (by omega)]
  rw [show pre.length + 1 + (x.2.length - 1) = pre.length + x.2.length by omega, show c + 1 + ((x.2.length - 1 : Nat) : Int) = c + (x.2.length : Int) by omega, Nat.add_comm 1 n]
  have hS := plainC (s := s) (p := pre.length + x.2.length) (by rw [hsep]; decide)
  rw [toks_blank (by omega) (Nat.le_refl _) (by rw [hS.1, hsep]; decide) (not_bad_of_lt _ _ (by rw [hS.1, hsep]; decide)) (by rw [hS.1, hsep]; rfl), hS.2, nl_plain (by rw [hsep]; decide) (by rw [hsep]; decide), hS.1, hsep]
  rfl
theorem toks_laid (s : ByteArray) (ws : List Wd) : ∀ (pre : List UInt8) (c : Int) (beh : Nat) (l : List S69), (∀ x ∈ ws, okW x = true) → s.data.toList = pre ++ laid ws → beh ≤ pre.length →
    toks s (laid ws).length pre.length ⟨1, c⟩ false beh l = fin (l ++ row c ws) ⟨1, c + ((laid ws).length : Int)⟩ := by
  induction ws with
  | nil =>
    intro pre c beh l _ h _
    simp [laid, row, toks]
  | cons x ws ih =>
    intro pre c beh l hok h hb
    have hx := hok x (List.mem_cons_self ..)
    have e : (laid (x :: ws)).length = x.2.length + 1 + (laid ws).length := by rw [laid, List.length_append, List.length_cons]; omega
    rw [e, toks_word hx h _ c beh l hb]
    have h2 : s.data.toList = (pre ++ (x.2 ++ [32])) ++ laid ws := by rw [h, laid]; simp
    have e2 : (pre ++ (x.2 ++ [32])).length = pre.length + x.2.length + 1 := by simp; omega
    have := ih (pre ++ (x.2 ++ [32])) (c + (x.2.length : Int) + 1) (pre.length + x.2.length) (l ++ [⟨(x.1 : Int), ⟨x.2.toArray⟩, ⟨1, c⟩⟩]) (fun y hy => hok y (List.mem_cons_of_mem _ hy)) h2 (by omega)
    rw [e2] at this
    rw [this, row, List.append_assoc]
    congr 2
    push_cast
    omega
def stopT (ws : List Wd) : S69 := ⟨0, ⟨#[]⟩, ⟨1, 1 + ((laid ws).length : Int)⟩⟩
theorem tokens_laid (ws : List Wd) (hok : ∀ x ∈ ws, okW x = true) (hs : (laid ws).length ≤ 65536) (k : Nat) (hk : 900000 < k) : scan_Tokens.f k ⟨(laid ws).toArray⟩ = some (row 1 ws ++ [stopT ws], 0, 0, 0) := by
  have hz : (⟨(laid ws).toArray⟩ : ByteArray).size = (laid ws).length := List.size_toArray ..
  rw [scanTokens _ k (by omega)]
  unfold tokens
  rw [if_neg (by omega), hz]
  have := toks_laid ⟨(laid ws).toArray⟩ ws [] 1 0 [] hok (by simp) (Nat.le_refl _)
  rw [List.length_nil] at this
  rw [this]
  rfl
end Go.Proofs.YtmgdkkkkanjadaaGreatDoor.PureS
