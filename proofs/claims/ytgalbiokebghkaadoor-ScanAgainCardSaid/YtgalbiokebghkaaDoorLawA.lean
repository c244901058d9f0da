/-
  ScanAgain over numbers and lists alone: it is true of every text and parts.
-/
import Derived.Test.YtgalbiokebghkaaDoorAgainS
import Derived.Test.YtgalbiokebghkaaDoorLivesS
import Derived.Test.YtgalbiokebghkaaDoorS21
namespace Go.Proofs.YtgalbiokebghkaaDoor.PureS
set_option linter.unusedVariables false
set_option linter.unusedSimpArgs false
open Go.RowKit Go.Lib Go.Proofs.YtgalbiokebghkaaDoorW.PrintWords Go.Proofs.YtgalbiokebghkaaDoorW.PrintLast Go.Proofs.YtgalbiokebghkaaDoorW.PrintMore Go.Proofs.YtgalbiokebghkaaDoor.S Go.Proofs.YtgalbiokebghkaaDoor.HandS Go.Proofs.YtgalbiokebghkaaDoor.Iter

/-! ### lists of the same kinds and texts -/
theorem key_rd (l m : List S48) (h : l.map key = m.map key) (i : Nat) : (rd_T48 l (i : Int)).f0 = (rd_T48 m (i : Int)).f0 ∧ (rd_T48 l (i : Int)).f1 = (rd_T48 m (i : Int)).f1 := by
  have e : ∀ l : List S48, key (rd_T48 l (i : Int)) = ((l.map key)[i]?).getD (key z48) := by
    intro l
    unfold rd_T48
    rw [Int.toNat_natCast, List.getElem?_map]
    show key ((l[i]?).getD z48) = _
    cases l[i]? <;> rfl
  have h2 : key (rd_T48 l (i : Int)) = key (rd_T48 m (i : Int)) := by rw [e, e, h]
  unfold key at h2
  exact ⟨congrArg Prod.fst h2, congrArg Prod.snd h2⟩
theorem keyTokens_loop (l m : List S48) (h : l.map key = m.map key) (hl : l.length ≤ 1000000) (n : Nat) : ∀ (k i : Nat), i + n = l.length → n < k → joustref00_Tokens.l0 k l m true (i : Int) = some true := by
  have hlen : l.length = m.length := by
    have := congrArg List.length h
    rwa [List.length_map, List.length_map] at this
  induction n with
  | zero =>
    intro k i h1 h2
    obtain ⟨k, rfl⟩ : ∃ q, k = q + 1 := ⟨k - 1, by omega⟩
    rw [joustref00_Tokens.l0, if_pos rfl, if_neg (by omega)]
  | succ n ih =>
    intro k i h1 h2
    obtain ⟨k, rfl⟩ : ∃ q, k = q + 1 := ⟨k - 1, by omega⟩
    have e1 : wrap64 ((i : Int) + 1) = ((i + 1 : Nat) : Int) := by rw [wrap_in (by omega) (by omega)]; omega
    have hr := key_rd l m h i
    have := ih k (i + 1) (by omega) (by omega)
    rw [joustref00_Tokens.l0, if_pos rfl, if_pos (by omega), if_pos (by omega), if_pos (by omega), if_pos hr.1, e1, hr.2, beq_self_eq_true]
    exact this
theorem keyTokens (l m : List S48) (h : l.map key = m.map key) (hl : l.length ≤ 1000000) (k : Nat) (hk : l.length < k) : joustref00_Tokens.f k l m = some true := by
  have hlen : l.length = m.length := by
    have := congrArg List.length h
    rwa [List.length_map, List.length_map] at this
  unfold joustref00_Tokens.f
  rw [hlen, beq_self_eq_true]
  exact keyTokens_loop l m h hl l.length k 0 (by omega) hk

/-! ### the text is put together -/
def sepsB : List ByteArray := [(⟨#[32]⟩ : ByteArray), (⟨#[10]⟩ : ByteArray), (⟨#[9, 32]⟩ : ByteArray), (⟨#[13, 10]⟩ : ByteArray), (⟨#[35, 32, 123, 32, 195, 169, 32, 48, 48, 55, 10]⟩ : ByteArray)]
def sepB (l1 : List Int) (i : Nat) : ByteArray := if (i : Int) < (l1.length : Int) then rdOf ByteArray.empty sepsB (Int.tmod (rd l1 (i : Int)) 5) else rdOf ByteArray.empty sepsB ((0 : Int) % 5)
theorem seps_at (j : Int) (h0 : 0 ≤ j) (h1 : j < 5) : (rdOf ByteArray.empty sepsB j).data.toList ∈ sepsL ∧ (rdOf ByteArray.empty sepsB j).size ≤ 11 := by
  have : j = 0 ∨ j = 1 ∨ j = 2 ∨ j = 3 ∨ j = 4 := by omega
  rcases this with rfl | rfl | rfl | rfl | rfl <;> exact ⟨by decide, by decide⟩
theorem rd_pos (l1 : List Int) (h : ∀ x ∈ l1, 0 ≤ x) (i : Nat) : 0 ≤ rd l1 (i : Int) := by
  unfold rd
  rw [Int.toNat_natCast]
  show 0 ≤ (l1[i]?).getD 0
  cases hi : l1[i]? with
  | none => exact Int.le_refl _
  | some x => exact h x (List.mem_of_getElem? hi)
theorem tmod5 (x : Int) (h : 0 ≤ x) : 0 ≤ Int.tmod x 5 ∧ Int.tmod x 5 < 5 := by
  rw [Int.tmod_eq_emod_of_nonneg h]
  omega
theorem sepB_ok (l1 : List Int) (h : ∀ x ∈ l1, 0 ≤ x) (i : Nat) : (sepB l1 i).data.toList ∈ sepsL ∧ (sepB l1 i).size ≤ 11 := by
  unfold sepB
  split
  · have := tmod5 _ (rd_pos l1 h i)
    exact seps_at _ this.1 this.2
  · exact seps_at _ (by decide) (by decide)
def catB (l1 : List Int) : Nat → List S48 → ByteArray → ByteArray
  | _, [], acc => acc
  | i, t :: T, acc => catB l1 (i + 1) T ((acc ++ t.f1) ++ sepB l1 i)
def cat (l1 : List Int) : Nat → List S48 → List UInt8
  | _, [] => []
  | i, t :: T => t.f1.data.toList ++ ((sepB l1 i).data.toList ++ cat l1 (i + 1) T)
theorem append_list (a b : ByteArray) : (a ++ b).data.toList = a.data.toList ++ b.data.toList := by
  rw [ByteArray.data_append, Array.toList_append]
theorem catB_list (l1 : List Int) (T : List S48) : ∀ (i : Nat) (acc : ByteArray), (catB l1 i T acc).data.toList = acc.data.toList ++ cat l1 i T := by
  induction T with
  | nil => intro i acc; rw [catB, cat, List.append_nil]
  | cons t T ih => intro i acc; rw [catB, cat, ih, append_list, append_list, List.append_assoc, List.append_assoc]
theorem cat_laid (l1 : List Int) (h : ∀ x ∈ l1, 0 ≤ x) (e : S37) (T : List S48) (hT : ∀ t ∈ T, Good t) : ∀ i, Laid (cat l1 i (T ++ [stop e])) T := by
  induction T with
  | nil =>
    intro i
    rw [List.nil_append, cat, cat, List.append_nil]
    exact .fin _ (sepB_ok l1 h i).1
  | cons t T ih =>
    intro i
    rw [List.cons_append, cat]
    exact .tok t _ _ T (hT t (List.mem_cons_self ..)) (sepB_ok l1 h i).1 (ih (fun x hx => hT x (List.mem_cons_of_mem _ hx)) (i + 1))
theorem catB_size (l1 : List Int) (h : ∀ x ∈ l1, 0 ≤ x) (T : List S48) : ∀ (i : Nat) (acc : ByteArray), (catB l1 i T acc).size ≤ acc.size + (total T + 11 * T.length) := by
  induction T with
  | nil => intro i acc; rw [catB]; omega
  | cons t T ih =>
    intro i acc
    have h1 := ih (i + 1) ((acc ++ t.f1) ++ sepB l1 i)
    have h2 := (sepB_ok l1 h i).2
    rw [ByteArray.size_append, ByteArray.size_append] at h1
    rw [catB, total, List.length_cons]
    omega
theorem again_round (l1 : List Int) (h : ∀ x ∈ l1, 0 ≤ x) (L : List S48) (k i : Nat) (acc : ByteArray) (hi : i < L.length) (hl : L.length ≤ 1000000) (t : S48) (ht : rd_T48 L (i : Int) = t) (hsz : acc.size + t.f1.size + 11 ≤ 1000000) :
    joustlaw01_ScanAgain.l0 (k + 1) l1 L acc (L.length : Int) (i : Int) = joustlaw01_ScanAgain.l0 k l1 L ((acc ++ t.f1) ++ sepB l1 i) (L.length : Int) ((i + 1 : Nat) : Int) := by
  have e1 : wrap64 ((i : Int) + 1) = ((i + 1 : Nat) : Int) := by rw [wrap_in (by omega) (by omega)]; omega
  have q1 : (i : Int) < (L.length : Int) := by omega
  have q2 : 0 ≤ (i : Int) := by omega
  have q3 : acc.size + t.f1.size ≤ 9223372036854775807 := by omega
  have hsz2 : (acc ++ t.f1).size = acc.size + t.f1.size := ByteArray.size_append
  have hB : ∀ j : Int, 0 ≤ j → j < 5 → (acc ++ t.f1).size + (rdOf ByteArray.empty sepsB j).size ≤ 9223372036854775807 := by
    intro j h0 h1
    have := (seps_at j h0 h1).2
    omega
  have hlen : (sepsB.length : Int) = 5 := rfl
  have key1 : joustlaw01_ScanAgain.l0 (k + 1) l1 L acc (L.length : Int) (i : Int) = if (i : Int) < (l1.length : Int) then (if 0 ≤ Int.tmod (rd l1 (i : Int)) 5 then (if Int.tmod (rd l1 (i : Int)) 5 < (sepsB.length : Int) then (if (acc ++ t.f1).size + (rdOf ByteArray.empty sepsB (Int.tmod (rd l1 (i : Int)) 5)).size ≤ 9223372036854775807 then joustlaw01_ScanAgain.l0 k l1 L ((acc ++ t.f1) ++ rdOf ByteArray.empty sepsB (Int.tmod (rd l1 (i : Int)) 5)) (L.length : Int) ((i + 1 : Nat) : Int) else none) else none) else none)
      else (if 0 ≤ ((0 : Int) % 5) then (if ((0 : Int) % 5) < (sepsB.length : Int) then (if (acc ++ t.f1).size + (rdOf ByteArray.empty sepsB ((0 : Int) % 5)).size ≤ 9223372036854775807 then joustlaw01_ScanAgain.l0 k l1 L ((acc ++ t.f1) ++ rdOf ByteArray.empty sepsB ((0 : Int) % 5)) (L.length : Int) ((i + 1 : Nat) : Int) else none) else none) else none) := by
    by_cases hc : (i : Int) < (l1.length : Int)
    · rw [joustlaw01_ScanAgain.l0, if_pos q1, if_pos hc, if_pos hc, if_pos q2, if_pos q1, ht, if_pos q3, e1, Option.bind_some]
      rfl
    · rw [joustlaw01_ScanAgain.l0, if_pos q1, if_neg hc, if_neg hc, if_pos q2, if_pos q1, ht, if_pos q3, e1, Option.bind_some]
      rfl
  rw [key1]
  unfold sepB
  by_cases hc : (i : Int) < (l1.length : Int)
  · have hm := tmod5 _ (rd_pos l1 h i)
    rw [if_pos hc, if_pos hc, if_pos hm.1, hlen, if_pos hm.2, if_pos (hB _ hm.1 hm.2)]
  · rw [if_neg hc, if_neg hc, if_pos (by decide), hlen, if_pos (by decide), if_pos (hB _ (by decide) (by decide))]
theorem rd_get (L : List S48) (i : Nat) (hi : i < L.length) : rd_T48 L (i : Int) = L[i] := by
  unfold rd_T48
  rw [Int.toNat_natCast]
  show (L[i]?).getD z48 = _
  rw [List.getElem?_eq_getElem hi]; rfl
theorem again_loop (l1 : List Int) (h : ∀ x ∈ l1, 0 ≤ x) (L : List S48) (hl : L.length ≤ 10000) (n : Nat) : ∀ (k i : Nat) (acc : ByteArray), i + n = L.length → acc.size + (total (L.drop i) + 11 * n) ≤ 900000 →
    joustlaw01_ScanAgain.l0 (k + n) l1 L acc (L.length : Int) (i : Int) = joustlaw01_ScanAgain.l0 k l1 L (catB l1 i (L.drop i) acc) (L.length : Int) (L.length : Int) := by
  induction n with
  | zero =>
    intro k i acc h1 h2
    have : i = L.length := by omega
    rw [this, List.drop_length, catB, Nat.add_zero]
  | succ n ih =>
    intro k i acc h1 h2
    have hi : i < L.length := by omega
    have hd : L.drop i = L[i] :: L.drop (i + 1) := List.drop_eq_getElem_cons hi
    have h3 := (sepB_ok l1 h i).2
    rw [hd, total] at h2
    have h4 : ((acc ++ L[i].f1) ++ sepB l1 i).size = acc.size + L[i].f1.size + (sepB l1 i).size := by rw [ByteArray.size_append, ByteArray.size_append]
    have := ih k (i + 1) ((acc ++ L[i].f1) ++ sepB l1 i) (by omega) (by omega)
    rw [← Nat.add_assoc, again_round l1 h L (k + n) i acc hi (by omega) L[i] (rd_get L i hi) (by omega), this, hd, catB]
theorem total_app (T U : List S48) : total (T ++ U) = total T + total U := by
  induction T with
  | nil => rw [List.nil_append, total, Nat.zero_add]
  | cons t T ih => rw [List.cons_append, total, total, ih, Nat.add_assoc]
theorem again_end (l1 : List Int) (L : List S48) (k : Nat) (acc : ByteArray) : joustlaw01_ScanAgain.l0 (k + 1) l1 L acc (L.length : Int) (L.length : Int) = ((scan_Tokens.f k acc).bind fun bt270 => (if bt270.2.1 = 0 then ((joustref00_Tokens.f k L bt270.1).bind fun t277 => (if t277 = true then ((joustlaw01_lives.f k).bind fun t278 => (some t278)) else (some false))) else (some false))) := by
  rw [joustlaw01_ScanAgain.l0, if_neg (by omega)]
theorem lawA (s : ByteArray) (l1 : List Int) (hs : s.size ≤ 4611686018427387904) (h : ∀ x ∈ l1, 0 ≤ x) : ∃ k, joustlaw01_ScanAgain.f k s l1 = some true := by
  by_cases h0 : 3000 < s.size
  · refine ⟨1000000 + 6 * s.size + 1 + 1, ?_⟩
    unfold joustlaw01_ScanAgain.f
    rw [scanTokens s _ (by omega), Option.bind_some, if_pos (show (s.size : Int) > 3000 by omega), joustlaw01_ScanAgain.j0, if_pos rfl, if_pos (show (s.size : Int) > 3000 by omega), lives_true _ (by omega)]
    rfl
  · have h0' : ¬ (s.size : Int) > 3000 := by omega
    by_cases hE : (tokens s).2.1 = 0
    · obtain ⟨T, e, q1, q2, q3, q4⟩ := tokens_good s (by omega) hE
      obtain ⟨L, hL⟩ : ∃ L, (tokens s).1 = L := ⟨_, rfl⟩
      have hLT : L = T ++ [stop e] := by rw [← hL, q1]
      have hlen : L.length = T.length + 1 := by rw [hLT, List.length_append, List.length_singleton]
      have htot : total L = total T := by rw [hLT, total_app]; rfl
      have hempty : (ByteArray.mk #[]).size = 0 := rfl
      have hlaid : Laid (catB l1 0 L (⟨#[]⟩ : ByteArray)).data.toList T := by
        rw [catB_list]
        show Laid ([] ++ cat l1 0 L) T
        rw [List.nil_append, hLT]
        exact cat_laid l1 h e T q2 0
      have hsz := catB_size l1 h L 0 (⟨#[]⟩ : ByteArray)
      rw [hempty, htot, hlen] at hsz
      obtain ⟨s2, hs2⟩ : ∃ s2, catB l1 0 L (⟨#[]⟩ : ByteArray) = s2 := ⟨_, rfl⟩
      rw [hs2] at hlaid hsz
      obtain ⟨T', e', r1, r2⟩ := again_tokens s2 (by omega) T hlaid
      have hkeys : L.map key = (T' ++ [stop e']).map key := by rw [hLT, List.map_append, List.map_append, r2]; rfl
      have hloop := again_loop l1 h L (by omega) L.length (1000000 + 1) 0 (⟨#[]⟩ : ByteArray) (by omega) (by rw [hempty, List.drop_zero, htot, hlen]; omega)
      rw [List.drop_zero, hs2, again_end, scanTokens s2 _ (by omega), Option.bind_some, r1, if_pos rfl, keyTokens L _ hkeys (by omega) _ (by omega), Option.bind_some, if_pos rfl, lives_true _ (by omega), Option.bind_some] at hloop
      refine ⟨1000000 + 1 + L.length + 1, ?_⟩
      unfold joustlaw01_ScanAgain.f
      rw [scanTokens s _ (by omega), Option.bind_some, if_neg h0', hE, hL, joustlaw01_ScanAgain.j0, if_neg (by decide)]
      exact hloop
    · have hE0 : (tokens s).1 = [] := by
        unfold tokens at hE ⊢
        rw [if_neg (by omega)] at hE ⊢
        exact toks_fail s s.size 0 ⟨1, 1⟩ false 0 [] hE
      refine ⟨1000000 + 1 + 1, ?_⟩
      unfold joustlaw01_ScanAgain.f
      rw [scanTokens s _ (by omega), Option.bind_some, if_neg h0', bne_iff_ne.2 hE, hE0, joustlaw01_ScanAgain.j0, if_pos rfl, if_neg h0', lives_true _ (by omega)]
      rfl
end Go.Proofs.YtgalbiokebghkaaDoor.PureS
