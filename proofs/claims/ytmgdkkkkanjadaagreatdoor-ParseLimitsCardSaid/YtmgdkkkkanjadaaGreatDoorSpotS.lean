/-
  The spots of a text over numbers and lists alone: the printed functions scan.mapped, scan.Where and the document's Where come to the plain walk along the runes.
-/
import Derived.Test.YtmgdkkkkanjadaaGreatDoorX6
import Derived.Lib.RuneCountTail
import Derived.Lib.TrimUEq
import Derived.Shelf.Unicode.DecodeLastEight
namespace Go.Proofs.YtmgdkkkkanjadaaGreatDoor.PureS
set_option linter.unusedVariables false
set_option linter.unusedSimpArgs false
open Go.RowKit Go.Lib Go.Proofs.YtmgdkkkkanjadaaGreatDoorW.PrintWords Go.Proofs.YtmgdkkkkanjadaaGreatDoorW.PrintLast Go.Proofs.YtmgdkkkkanjadaaGreatDoorW.PrintMore Go.Proofs.YtmgdkkkkanjadaaGreatDoor.X Go.Proofs.YtmgdkkkkanjadaaGreatDoor.HandS Go.Proofs.YtmgdkkkkanjadaaGreatDoor.Iter

theorem wrap_in {n : Int} (h0 : -9223372036854775808 ≤ n) (h1 : n ≤ 9223372036854775807) : wrap64 n = n := by
  unfold wrap64; omega

/-! ### runes -/
/-- The rune at a place, and its bytes. -/
def C (s : ByteArray) (p : Nat) : Nat := (Utf8.decode s p).1
def W (s : ByteArray) (p : Nat) : Nat := (Utf8.decode s p).2
theorem W_pos (s : ByteArray) (p : Nat) : 1 ≤ W s p := width_pos s p
theorem C_le (s : ByteArray) (p : Nat) : C s p ≤ 1114111 := rune_le s p
theorem decodeGo_extract (s : ByteArray) (pos : Nat) (h : pos < s.size) : decodeGo (s.extract pos s.size) = Utf8.decode s pos := by
  have hx : (s.extract pos s.size).data.toList = s.data.toList.drop pos := by
    rw [extract_data, List.take_of_length_le (by rw [List.length_drop, ← size_eq]; omega)]
  have hsz : (s.extract pos s.size).size ≠ 0 := by rw [size_eq, hx, List.length_drop, ← size_eq]; omega
  unfold decodeGo
  rw [if_neg hsz, ← decodeL_drop s pos, ← hx]
  rfl
theorem ext_size (s : ByteArray) (p : Nat) : (s.extract p s.size).size = s.size - p := by
  rw [ByteArray.size_extract]; omega
theorem step_le {s : ByteArray} {p : Nat} (h : p < s.size) : p + W s p ≤ s.size := by
  have h1 := decodeGo_le_size (s.extract p s.size)
  rw [decodeGo_extract s p h, ext_size] at h1
  unfold W; omega
theorem next_in {s : ByteArray} {p : Nat} (h : p < s.size) : rune_next.f s (p : Int) = some (true, (p : Int), (C s p : Int), ((p + W s p : Nat) : Int)) := by
  unfold rune_next.f
  rw [Int.toNat_natCast, if_pos h]
  rfl
theorem next_out {s : ByteArray} {p : Nat} (h : ¬ p < s.size) : rune_next.f s (p : Int) = some (false, 0, 0, (p : Int)) := by
  unfold rune_next.f
  rw [Int.toNat_natCast, if_neg h]
theorem dec_in {s : ByteArray} {p : Nat} (h : p < s.size) : utf8_DecodeRuneInString.f (s.extract p s.size) = some ((C s p : Int), (W s p : Int)) := by
  unfold utf8_DecodeRuneInString.f
  rw [decodeGo_extract s p h]
  rfl

/-! ### the walk along the runes: each with its place and its spot, and the end -/
def nl (s : ByteArray) (p : Nat) (x : S26) : S26 := if C s p = 10 then ⟨x.f0 + 1, 1⟩ else ⟨x.f0, x.f1 + 1⟩
def walk (s : ByteArray) : Nat → Nat → S26 → List (Int × S26)
  | 0, p, x => [((s.size : Int), x)]
  | n + 1, p, x => if p < s.size then ((p : Int), x) :: walk s n (p + W s p) (nl s p x) else [((s.size : Int), x)]
theorem walk_ne (s : ByteArray) : ∀ n p x, walk s n p x ≠ []
  | 0, p, x => by simp [walk]
  | n + 1, p, x => by unfold walk; split <;> simp
theorem walk_head (s : ByteArray) (n p : Nat) (x : S26) (hp : p ≤ s.size) (hn : s.size - p ≤ n) : ∃ r, walk s n p x = ((p : Int), x) :: r := by
  cases n with
  | zero => exact ⟨[], by rw [walk, show s.size = p from by omega]⟩
  | succ n =>
    unfold walk
    split
    · exact ⟨_, rfl⟩
    · exact ⟨[], by rw [show s.size = p from by omega]⟩
theorem walk_len (s : ByteArray) : ∀ n p x, (walk s n p x).length ≤ n + 1
  | 0, p, x => by simp [walk]
  | n + 1, p, x => by
    unfold walk
    split
    · have := walk_len s n (p + W s p) (nl s p x)
      simp; omega
    · simp
theorem walk_mem (s : ByteArray) : ∀ n p x, p ≤ s.size → ∀ y ∈ walk s n p x, (p : Int) ≤ y.1
  | 0, p, x, hp, y, hy => by simp [walk] at hy; subst hy; simp; omega
  | n + 1, p, x, hp, y, hy => by
    unfold walk at hy
    split at hy
    · rename_i h
      rcases List.mem_cons.1 hy with rfl | hy
      · simp
      · have := walk_mem s n (p + W s p) (nl s p x) (step_le h) y hy
        omega
    · simp at hy; subst hy; simp; omega
/-- Spots that stay in bounds. -/
def Fits (p : Nat) (x : S26) : Prop := 1 ≤ x.f0 ∧ 1 ≤ x.f1 ∧ x.f0 ≤ (p : Int) + 1 ∧ x.f1 ≤ (p : Int) + 1
theorem Fits.next {s : ByteArray} {p : Nat} {x : S26} (h : Fits p x) : Fits (p + W s p) (nl s p x) := by
  have := W_pos s p
  unfold Fits at h ⊢
  unfold nl
  split <;> (simp only; omega)

theorem walk_end {s : ByteArray} {n p : Nat} {x : S26} (h : ¬ p < s.size) : walk s n p x = [((s.size : Int), x)] := by
  cases n with
  | zero => rfl
  | succ n => rw [walk, if_neg h]
theorem walk_step {s : ByteArray} {n p : Nat} {x : S26} (h : p < s.size) : walk s (n + 1) p x = ((p : Int), x) :: walk s n (p + W s p) (nl s p x) := by
  rw [walk, if_pos h]
/-- One round of the spots' loop. -/
theorem mapped_round (s : ByteArray) (hs : s.size ≤ 1000000) (k p : Nat) (x : S26) (a : List Int) (b : List S26) (hp : p < s.size) (h4 : Fits p x) (h5 : a.length ≤ p) (h6 : b.length ≤ p) :
    scan_mapped.l0 (k + 1) s a b x.f0 x.f1 (p : Int) s = scan_mapped.l0 k s (a ++ [(p : Int)]) (b ++ [x]) (nl s p x).f0 (nl s p x).f1 ((p + W s p : Nat) : Int) s := by
  unfold Fits at h4
  simp only [scan_mapped.l0]
  rw [next_in hp]
  simp only [Option.bind_some, if_true]
  rw [if_pos (by simp; omega), if_pos (by simp; omega)]
  try simp only [Option.bind_some]
  by_cases hc : C s p = 10
  · rw [if_pos (by omega), wrap_in (by omega) (by omega), show nl s p x = ⟨x.f0 + 1, 1⟩ from by unfold nl; rw [if_pos hc]]
  · rw [if_neg (by omega), wrap_in (by omega) (by omega), show nl s p x = ⟨x.f0, x.f1 + 1⟩ from by unfold nl; rw [if_neg hc]]
theorem mapped_last (s : ByteArray) (hs : s.size ≤ 1000000) (k p : Nat) (x : S26) (a : List Int) (b : List S26) (hp : ¬ p < s.size) (h3 : p ≤ s.size) (h5 : a.length ≤ p) (h6 : b.length ≤ p) :
    scan_mapped.l0 (k + 1) s a b x.f0 x.f1 (p : Int) s = some (a ++ [(s.size : Int)], b ++ [x]) := by
  simp only [scan_mapped.l0]
  rw [next_out hp]
  simp only [Option.bind_some, Bool.false_eq_true, if_false]
  rw [if_pos (by simp; omega), if_pos (by simp; omega)]
theorem mapped_loop (s : ByteArray) (hs : s.size ≤ 1000000) (n : Nat) : ∀ (k p : Nat) (x : S26) (a : List Int) (b : List S26), s.size - p ≤ n → n < k → p ≤ s.size → Fits p x → a.length ≤ p → b.length ≤ p →
    scan_mapped.l0 k s a b x.f0 x.f1 (p : Int) s = some (a ++ (walk s n p x).map Prod.fst, b ++ (walk s n p x).map Prod.snd) := by
  induction n with
  | zero =>
    intro k p x a b h1 h2 h3 h4 h5 h6
    obtain ⟨k, rfl⟩ : ∃ m, k = m + 1 := ⟨k - 1, by omega⟩
    rw [mapped_last s hs k p x a b (by omega) h3 h5 h6, walk_end (by omega)]
    rfl
  | succ n ih =>
    intro k p x a b h1 h2 h3 h4 h5 h6
    obtain ⟨k, rfl⟩ : ∃ m, k = m + 1 := ⟨k - 1, by omega⟩
    by_cases hp : p < s.size
    · have hw := W_pos s p
      have hl := step_le hp
      have := ih k (p + W s p) (nl s p x) (a ++ [(p : Int)]) (b ++ [x]) (by omega) (by omega) hl h4.next (by rw [List.length_append, List.length_singleton]; omega) (by rw [List.length_append, List.length_singleton]; omega)
      rw [mapped_round s hs k p x a b hp h4 h5 h6, this, walk_step hp, List.map_cons, List.map_cons, List.append_assoc, List.append_assoc]
      rfl
    · rw [mapped_last s hs k p x a b hp h3 h5 h6, walk_end hp]
      rfl
/-- All spots of a text. -/
def spots (s : ByteArray) : List (Int × S26) := walk s s.size 0 ⟨1, 1⟩
theorem mapped (s : ByteArray) (hs : s.size ≤ 1000000) (k : Nat) (hk : s.size < k) : scan_mapped.f k s = some ((spots s).map Prod.fst, (spots s).map Prod.snd) := by
  unfold scan_mapped.f
  have := mapped_loop s hs s.size k 0 ⟨1, 1⟩ [] [] (by omega) hk (by omega) ⟨by decide, by decide, by decide, by decide⟩ (by simp) (by simp)
  simpa [spots] using this

/-! ### the spot of a byte -/
def whereFrom (at_ : Int) : List (Int × S26) → S26
  | [] => z26
  | [x] => x.2
  | x :: y :: r => if at_ < y.1 then x.2 else whereFrom at_ (y :: r)
/-- The places rise. -/
theorem walk_rise (s : ByteArray) : ∀ n p x, p ≤ s.size → (walk s n p x).Pairwise (fun a b => a.1 < b.1)
  | 0, p, x, hp => by simp [walk]
  | n + 1, p, x, hp => by
    unfold walk
    split
    · rename_i h
      refine List.pairwise_cons.2 ⟨fun y hy => ?_, walk_rise s n _ _ (step_le h)⟩
      have := walk_mem s n (p + W s p) (nl s p x) (step_le h) y hy
      have := W_pos s p
      simp only
      omega
    · simp
theorem whereFrom_at (at_ : Int) : ∀ (l : List (Int × S26)) (m : Nat) (hm : m < l.length), l.Pairwise (fun a b => a.1 < b.1) → (m = 0 ∨ (l[m]).1 ≤ at_) → (∀ j (hj : j < l.length), m < j → at_ < (l[j]).1) → whereFrom at_ l = (l[m]).2
  | [], m, hm, h1, h2, h3 => by simp at hm
  | [x], m, hm, h1, h2, h3 => by
    have : m = 0 := by simp at hm; omega
    subst this
    rfl
  | x :: y :: r, 0, hm, h1, h2, h3 => by
    have := h3 1 (by simp) (by omega)
    rw [whereFrom, if_pos (by simpa using this)]
    rfl
  | x :: y :: r, m + 1, hm, h1, h2, h3 => by
    have hm' : m < (y :: r).length := by simpa using hm
    have h1' := (List.pairwise_cons.1 h1).2
    have h2' : ((y :: r)[m]).1 ≤ at_ := by
      rcases h2 with h | h
      · omega
      · simpa using h
    have hy : y.1 ≤ ((y :: r)[m]).1 := by
      cases m with
      | zero => simp
      | succ m =>
        have := (List.pairwise_cons.1 h1').1 ((y :: r)[m + 1]) (by simp)
        omega
    rw [whereFrom, if_neg (by omega)]
    rw [whereFrom_at at_ (y :: r) m hm' h1' (.inr h2') (fun j hj hmj => by
      have := h3 (j + 1) (by simp at hj ⊢; omega) (by omega)
      simpa using this)]
    rfl
theorem rd_fst (l : List (Int × S26)) (i : Nat) (h : i < l.length) : rd (l.map Prod.fst) (i : Int) = (l[i]).1 := by
  unfold rd
  rw [Int.toNat_natCast]
  simp [List.getD, h]
theorem rd_snd (l : List (Int × S26)) (i : Nat) (h : i < l.length) : rd_T26 (l.map Prod.snd) (i : Int) = (l[i]).2 := by
  unfold rd_T26
  rw [Int.toNat_natCast]
  simp [List.getD, h]
end Go.Proofs.YtmgdkkkkanjadaaGreatDoor.PureS


