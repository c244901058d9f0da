/-
  ParseLimits returns true, whatever the two numbers. Conditions: each is of its kind.
-/
import Derived.Test.YtmgdkkkkanjadaaGreatDoorEvalT
import Derived.Test.YtmgdkkkkanjadaaGreatDoorX11
namespace Go.Proofs.YtmgdkkkkanjadaaGreatDoor.PureS
set_option linter.unusedVariables false
open Go.RowKit Go.Lib Go.Proofs.YtmgdkkkkanjadaaGreatDoorW.PrintWords Go.Proofs.YtmgdkkkkanjadaaGreatDoorW.PrintLast Go.Proofs.YtmgdkkkkanjadaaGreatDoorW.PrintMore Go.Proofs.YtmgdkkkkanjadaaGreatDoor.X Go.Proofs.YtmgdkkkkanjadaaGreatDoor.HandS Go.Proofs.YtmgdkkkkanjadaaGreatDoor.HandA Go.Proofs.YtmgdkkkkanjadaaGreatDoor.HandB Go.Proofs.YtmgdkkkkanjadaaGreatDoor.HandC Go.Proofs.YtmgdkkkkanjadaaGreatDoor.HandD Go.Proofs.YtmgdkkkkanjadaaGreatDoor.HandE Go.Proofs.YtmgdkkkkanjadaaGreatDoor.HandF Go.Proofs.YtmgdkkkkanjadaaGreatDoor.HandG Go.Proofs.YtmgdkkkkanjadaaGreatDoor.HandH Go.Proofs.YtmgdkkkkanjadaaGreatDoor.HandI Go.Proofs.YtmgdkkkkanjadaaGreatDoor.HandJ Go.Proofs.YtmgdkkkkanjadaaGreatDoor.HandK Go.Proofs.YtmgdkkkkanjadaaGreatDoor.HandL Go.Proofs.YtmgdkkkkanjadaaGreatDoor.HandM Go.Proofs.YtmgdkkkkanjadaaGreatDoor.HandN Go.Proofs.YtmgdkkkkanjadaaGreatDoor.HandO
abbrev onesL : List ByteArray := [(⟨#[116, 114, 97, 112, 32, 116, 32, 123, 32, 125, 32]⟩ : ByteArray), (⟨#[112, 108, 97, 121, 32, 58, 32]⟩ : ByteArray), (⟨#[110, 101, 101, 100, 115, 32, 49, 32]⟩ : ByteArray), (⟨#[110, 101, 103, 97, 116, 101, 32, 59, 32]⟩ : ByteArray), (⟨#[40, 32, 110, 111, 116, 32]⟩ : ByteArray), (⟨#[49, 32]⟩ : ByteArray)]
abbrev mostsL : List Int := [64, 4, 6, 6, 5, 6]
abbrev aheadsL : List ByteArray := [(⟨#[]⟩ : ByteArray), (⟨#[116, 114, 97, 112, 32, 116, 32, 123, 32]⟩ : ByteArray), (⟨#[116, 114, 97, 112, 32, 116, 32, 123, 32, 112, 108, 97, 121, 32]⟩ : ByteArray), (⟨#[116, 114, 97, 112, 32, 116, 32, 123, 32, 112, 108, 97, 121, 32, 58, 32]⟩ : ByteArray), (⟨#[]⟩ : ByteArray), (⟨#[]⟩ : ByteArray)]
abbrev behindsL : List ByteArray := [(⟨#[]⟩ : ByteArray), (⟨#[125, 32]⟩ : ByteArray), (⟨#[58, 32, 125, 32]⟩ : ByteArray), (⟨#[125, 32]⟩ : ByteArray), (⟨#[49, 32]⟩ : ByteArray), (⟨#[]⟩ : ByteArray)]
def lb (ws : List Wd) : ByteArray := ⟨(laid ws).toArray⟩
theorem lb_append (a b : List Wd) : lb a ++ lb b = lb (a ++ b) := by
  apply ByteArray.ext
  unfold lb
  rw [laid_append]
  simp
theorem lb_size (a : List Wd) : (lb a).size = (laid a).length := List.size_toArray ..
theorem ones_eq : ∀ k : Nat, k < 6 → rdOf ByteArray.empty onesL (k : Int) = lb (unitK k)
  | 0, _ => rfl
  | 1, _ => rfl
  | 2, _ => rfl
  | 3, _ => rfl
  | 4, _ => rfl
  | 5, _ => rfl
  | n + 6, h => absurd h (by omega)
theorem mosts_eq : ∀ k : Nat, k < 6 → rd mostsL (k : Int) = (mostK k : Int)
  | 0, _ => rfl
  | 1, _ => rfl
  | 2, _ => rfl
  | 3, _ => rfl
  | 4, _ => rfl
  | 5, _ => rfl
  | n + 6, h => absurd h (by omega)
theorem aheads_eq : ∀ k : Nat, k < 6 → rdOf ByteArray.empty aheadsL (k : Int) = lb (aheadK k)
  | 0, _ => rfl
  | 1, _ => rfl
  | 2, _ => rfl
  | 3, _ => rfl
  | 4, _ => rfl
  | 5, _ => rfl
  | n + 6, h => absurd h (by omega)
theorem behinds_eq : ∀ k : Nat, k < 6 → rdOf ByteArray.empty behindsL (k : Int) = lb (behindK k)
  | 0, _ => rfl
  | 1, _ => rfl
  | 2, _ => rfl
  | 3, _ => rfl
  | 4, _ => rfl
  | 5, _ => rfl
  | n + 6, h => absurd h (by omega)
theorem lt_ones {k : Nat} (h : k < 6) : (k : Int) < (onesL.length : Int) := by
  show (k : Int) < ((6 : Nat) : Int)
  omega
theorem lt_mosts {k : Nat} (h : k < 6) : (k : Int) < (mostsL.length : Int) := by
  show (k : Int) < ((6 : Nat) : Int)
  omega
theorem lt_aheads {k : Nat} (h : k < 6) : (k : Int) < (aheadsL.length : Int) := by
  show (k : Int) < ((6 : Nat) : Int)
  omega
theorem lt_behinds {k : Nat} (h : k < 6) : (k : Int) < (behindsL.length : Int) := by
  show (k : Int) < ((6 : Nat) : Int)
  omega
theorem most_le : ∀ k, mostK k ≤ 64 := by
  intro k
  unfold mostK
  split <;> omega
theorem unit_len : ∀ k : Nat, k < 6 → (laid (unitK k)).length ≤ 11
  | 0, _ => by decide
  | 1, _ => by decide
  | 2, _ => by decide
  | 3, _ => by decide
  | 4, _ => by decide
  | 5, _ => by decide
  | n + 6, h => absurd h (by omega)
theorem ahead_len : ∀ k : Nat, k < 6 → (laid (aheadK k)).length ≤ 16
  | 0, _ => by decide
  | 1, _ => by decide
  | 2, _ => by decide
  | 3, _ => by decide
  | 4, _ => by decide
  | 5, _ => by decide
  | n + 6, h => absurd h (by omega)
theorem behind_len : ∀ k : Nat, k < 6 → (laid (behindK k)).length ≤ 4
  | 0, _ => by decide
  | 1, _ => by decide
  | 2, _ => by decide
  | 3, _ => by decide
  | 4, _ => by decide
  | 5, _ => by decide
  | n + 6, h => absurd h (by omega)
theorem rep_len (u : List Wd) (n : Nat) : (laid (rep n u)).length = n * (laid u).length := by
  induction n with
  | zero => simp [rep, laid]
  | succ n ih => rw [rep, laid_append, List.length_append, ih, Nat.succ_mul, Nat.add_comm]
theorem rep_snoc (u : List Wd) (n : Nat) : rep n u ++ u = rep (n + 1) u := by
  induction n with
  | zero => simp [rep]
  | succ n ih =>
    rw [rep, List.append_assoc, ih, rep]
    rfl
theorem ok_all : ∀ k : Nat, k < 6 → ∀ n, n < mostK k + 4 → okK k n = true
  | 0, _, n, h => ok0 n h
  | 1, _, n, h => ok1 ⟨n, h⟩
  | 2, _, n, h => ok2 ⟨n, h⟩
  | 3, _, n, h => ok3 ⟨n, h⟩
  | 4, _, n, h => ok4 ⟨n, h⟩
  | 5, _, n, h => ok5 ⟨n, h⟩
  | m + 6, h, _, _ => absurd h (by omega)
theorem words_len (k n : Nat) (hk : k < 6) (hn : n ≤ 67) : (laid (wordsK k n)).length ≤ 900 := by
  unfold wordsK
  rw [laid_append, laid_append, laid_append, List.length_append, List.length_append, List.length_append, rep_len]
  have h1 := unit_len k hk
  have h2 := ahead_len k hk
  have h3 := behind_len k hk
  have h4 : (laid (if k = 4 then rep n [wEnd] else [])).length ≤ 2 * n := by
    split
    · rw [rep_len]
      have : (laid [wEnd]).length = 2 := rfl
      rw [this]
      omega
    · exact Nat.zero_le _
  have h5 : n * (laid (unitK k)).length ≤ 67 * 11 := Nat.mul_le_mul hn h1
  omega
theorem map_snd {α β : Type} {o : Option (α × β)} {b : β} (h : o.map Prod.snd = some b) : ∃ a, o = some (a, b) := by
  cases o with
  | none => cases h
  | some p => exact ⟨p.1, by injection h with h; rw [← h]⟩
/-- what the reader comes to at such a text -/
theorem reads_ (k n : Nat) (hk : k < 6) (hn : n < mostK k + 4) (K : Nat) (hK : 900000 < K) :
    ∃ c, (k < 4 → parse_Pool.f K (lb (wordsK k n)) = some (c, wantK k n)) ∧ (¬ k < 4 → ∃ y, parse_Pool.f K (lb (wordsK k n)) = some (c, y) ∧ ∃ e, parse_Exprs.f K (lb (wordsK k n)) = some (e, wantK k n)) := by
  have hok := ok_all k hk n hn
  unfold okK at hok
  rw [Bool.and_eq_true, decide_eq_true_iff, List.all_eq_true] at hok
  obtain ⟨ha, hw⟩ := hok
  have hl := most_le k
  have ht := tokens_laid (wordsK k n) hw (by have := words_len k n hk (by omega); omega) K hK
  have hT : 0 < (row 1 (wordsK k n) ++ [stopT (wordsK k n)]).length := by simp
  have hp : parse_Pool.f K (lb (wordsK k n)) = allF cardIs cardS 64 (toksK k n) := pool_of ht hT
  have he : parse_Exprs.f K (lb (wordsK k n)) = allF exprIs valueS 6 (toksK k n) := exprs_of ht hT
  unfold answerK at ha
  by_cases h4 : k < 4
  · rw [if_pos h4] at ha
    obtain ⟨c, hc⟩ := map_snd ha
    exact ⟨c, fun _ => hp.trans hc, fun h => absurd h4 h⟩
  · rw [if_neg h4] at ha
    split at ha
    · next hs =>
      obtain ⟨e, hee⟩ := map_snd ha
      obtain ⟨⟨c, y⟩, hc⟩ := Option.isSome_iff_exists.1 hs
      exact ⟨c, fun h => absurd h h4, fun _ => ⟨y, hp.trans hc, e, he.trans hee⟩⟩
    · cases ha
theorem wrap_ {n : Int} (h0 : 0 ≤ n) (h1 : n ≤ 1000000) : wrap64 n = n := wrap_in (by omega) (by omega)
theorem j3_ok (k n : Nat) (hk : k < 6) (hn : n < mostK k + 4) (K : Nat) : joustlaw02_ParseLimits.j3 (K + 1) onesL mostsL aheadsL k n (wantK k n).1 (wantK k n).2.1 (wantK k n).2.2 = some true := by
  have h1 := unit_len k hk
  have h2 := ahead_len k hk
  have hl := most_le k
  have hm : mostK k * (laid (unitK k)).length ≤ 64 * 11 := Nat.mul_le_mul hl h1
  rw [joustlaw02_ParseLimits.j3]
  rw [if_pos (by omega), if_pos (lt_mosts hk), mosts_eq k hk]
  unfold wantK
  by_cases h : n ≤ mostK k
  · rw [if_pos (by omega), if_pos h]
    rfl
  · rw [if_neg (by omega), if_neg h, if_pos (lt_aheads hk), if_pos (lt_ones hk), aheads_eq k hk, ones_eq k hk, lb_size, lb_size]
    have e1 : wrap64 ((mostK k : Int) * ((laid (unitK k)).length : Int)) = ((mostK k * (laid (unitK k)).length : Nat) : Int) := by
      rw [← Int.natCast_mul]
      exact wrap_ (by omega) (by omega)
    rw [e1, wrap_ (n := ((laid (aheadK k)).length : Int) + ((mostK k * (laid (unitK k)).length : Nat) : Int)) (by omega) (by omega), wrap_ (by omega) (by omega)]
    unfold joustlaw02_at.f
    rw [Option.bind_some, if_pos]
    · rfl
    · simp
theorem j2_ok (k n : Nat) (hk : k < 6) (hn : n < mostK k + 4) (K : Nat) (hK : 1000000 < K) : joustlaw02_ParseLimits.j2 K onesL mostsL aheadsL k n (lb (wordsK k n)) = some true := by
  obtain ⟨K, rfl⟩ : ∃ m, K = m + 1 := ⟨K - 1, by omega⟩
  obtain ⟨c, h1, h2⟩ := reads_ k n hk hn K (by omega)
  obtain ⟨m, rfl⟩ : ∃ m, K = m + 1 := ⟨K - 1, by omega⟩
  rw [joustlaw02_ParseLimits.j2]
  by_cases h4 : k < 4
  · rw [h1 h4, Option.bind_some, if_neg (by omega)]
    exact j3_ok k n hk hn m
  · obtain ⟨y, hy, e, he⟩ := h2 h4
    rw [hy, Option.bind_some, if_pos (by omega), he, Option.bind_some]
    exact j3_ok k n hk hn m
theorem l1_four (n : Nat) (hn : n < mostK 4 + 4) (d : Nat) : ∀ (j K : Nat), j + d = n → 1000001 + d < K →
    joustlaw02_ParseLimits.l1 K onesL mostsL aheadsL (4 : Nat) n (lb (aheadK 4 ++ (rep n (unitK 4) ++ (behindK 4 ++ rep j [wEnd])))) j = some true := by
  induction d with
  | zero =>
    intro j K hj hK
    obtain ⟨K, rfl⟩ : ∃ m, K = m + 1 := ⟨K - 1, by omega⟩
    have e : j = n := by omega
    subst e
    have hm : mostK 4 = 5 := rfl
    rw [joustlaw02_ParseLimits.l1]
    rw [if_neg (by omega)]
    exact j2_ok 4 j (by omega) hn K (by omega)
  | succ d ih =>
    intro j K hj hK
    obtain ⟨K, rfl⟩ : ∃ m, K = m + 1 := ⟨K - 1, by omega⟩
    have hm : mostK 4 = 5 := rfl
    have hz : (lb (aheadK 4 ++ (rep n (unitK 4) ++ (behindK 4 ++ rep j [wEnd])))).size ≤ 900 := by
      rw [lb_size, laid_append, laid_append, laid_append, List.length_append, List.length_append, List.length_append, rep_len, rep_len]
      have h1 : (laid (unitK 4)).length = 6 := rfl
      have h2 : (laid (aheadK 4)).length = 0 := rfl
      have h3 : (laid (behindK 4)).length = 2 := rfl
      have h4 : (laid [wEnd]).length = 2 := rfl
      rw [h1, h2, h3, h4]
      omega
    rw [joustlaw02_ParseLimits.l1]
    rw [if_pos (by omega), if_pos (show ((4 : Nat) : Int) = 4 from rfl), if_pos (by omega), wrap_ (by omega) (by omega)]
    have e : (lb (aheadK 4 ++ (rep n (unitK 4) ++ (behindK 4 ++ rep j [wEnd])))) ++ (⟨#[41, 32]⟩ : ByteArray) = lb (aheadK 4 ++ (rep n (unitK 4) ++ (behindK 4 ++ rep (j + 1) [wEnd]))) := by
      show _ ++ lb [wEnd] = _
      rw [lb_append, List.append_assoc, List.append_assoc, List.append_assoc, rep_snoc]
    rw [e]
    exact ih (j + 1) K (by omega) (by omega)
theorem l1_ok (k n : Nat) (hk : k < 6) (hn : n < mostK k + 4) (K : Nat) (hK : 1000100 < K) : joustlaw02_ParseLimits.l1 K onesL mostsL aheadsL k n (lb (aheadK k ++ (rep n (unitK k) ++ behindK k))) 0 = some true := by
  by_cases h4 : k = 4
  · subst h4
    have hm : mostK 4 = 5 := rfl
    have := l1_four n hn n 0 K (by omega) (by omega)
    rwa [rep, List.append_nil] at this
  · have e : lb (wordsK k n) = lb (aheadK k ++ (rep n (unitK k) ++ behindK k)) := by
      unfold wordsK
      rw [if_neg h4, List.append_nil]
    obtain ⟨K, rfl⟩ : ∃ m, K = m + 1 := ⟨K - 1, by omega⟩
    have := j2_ok k n hk hn K (by omega)
    rw [e] at this
    rw [joustlaw02_ParseLimits.l1]
    by_cases h0 : (0 : Int) < (n : Int)
    · rw [if_pos h0, if_neg (by omega)]
      exact this
    · rw [if_neg h0]
      exact this
theorem l0_ok (k n : Nat) (hk : k < 6) (hn : n < mostK k + 4) (d : Nat) : ∀ (i K : Nat), i + d = n → 1000200 + d < K →
    joustlaw02_ParseLimits.l0 K onesL mostsL aheadsL behindsL k n (lb (aheadK k ++ rep i (unitK k))) i = some true := by
  have hl := most_le k
  have h1 := unit_len k hk
  have h2 := ahead_len k hk
  have h3 := behind_len k hk
  have hz : ∀ i, i ≤ 67 → (lb (aheadK k ++ rep i (unitK k))).size ≤ 900 := by
    intro i hi
    rw [lb_size, laid_append, List.length_append, rep_len]
    have := Nat.mul_le_mul hi h1
    omega
  induction d with
  | zero =>
    intro i K hi hK
    obtain ⟨K, rfl⟩ : ∃ m, K = m + 1 := ⟨K - 1, by omega⟩
    have e : i = n := by omega
    subst e
    have := hz i (by omega)
    rw [joustlaw02_ParseLimits.l0]
    rw [if_neg (by omega), if_pos (by omega), if_pos (lt_behinds hk), behinds_eq k hk, if_pos (by rw [lb_size (behindK k)]; omega), lb_append, List.append_assoc]
    exact l1_ok k i hk hn K (by omega)
  | succ d ih =>
    intro i K hi hK
    obtain ⟨K, rfl⟩ : ∃ m, K = m + 1 := ⟨K - 1, by omega⟩
    have := hz i (by omega)
    rw [joustlaw02_ParseLimits.l0]
    rw [if_pos (by omega), if_pos (by omega), if_pos (lt_ones hk), ones_eq k hk, if_pos (by rw [lb_size (unitK k)]; omega), lb_append, List.append_assoc, rep_snoc, wrap_ (by omega) (by omega)]
    exact ih (i + 1) K (by omega) (by omega)
theorem law (m w : Nat) (hm : m < 256) (hw : w < 256) : joustlaw02_ParseLimits.f 1000500 (m : Int) (w : Int) = some true := by
  have hk : w % 6 < 6 := Nat.mod_lt _ (by omega)
  have hl := most_le (w % 6)
  have e0 : wrap64 (Int.tmod (w : Int) 6) = ((w % 6 : Nat) : Int) := by
    show wrap64 ((w % 6 : Nat) : Int) = _
    exact wrap_ (by omega) (by omega)
  have e1 : wrap64 ((mostK (w % 6) : Int) + 4) = ((mostK (w % 6) + 4 : Nat) : Int) := by
    rw [wrap_ (by omega) (by omega)]
    omega
  have e2 : Int.tmod (wrap64 (m : Int)) ((mostK (w % 6) + 4 : Nat) : Int) = ((m % (mostK (w % 6) + 4) : Nat) : Int) := by
    rw [wrap_ (by omega) (by omega)]
    rfl
  unfold joustlaw02_ParseLimits.f
  rw [Option.bind_some, Option.bind_some, e0, if_pos (by omega), if_pos (lt_mosts hk), mosts_eq _ hk, e1, if_neg (by omega), if_pos (lt_aheads hk), e2, aheads_eq _ hk]
  have := l0_ok (w % 6) (m % (mostK (w % 6) + 4)) hk (Nat.mod_lt _ (by omega)) (m % (mostK (w % 6) + 4)) 0 1000500 (by omega) (by have := Nat.mod_lt m (show 0 < mostK (w % 6) + 4 by omega); omega)
  rw [rep, List.append_nil] at this
  exact this
end Go.Proofs.YtmgdkkkkanjadaaGreatDoor.PureS
