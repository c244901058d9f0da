/-
  ScanSpots over numbers and lists alone: it is true of every text.
-/
import Derived.Test.YtgalbiokebghkaaDoorPathS
import Derived.Test.YtgalbiokebghkaaDoorLivesS
import Derived.Test.YtgalbiokebghkaaDoorNumS
import Derived.Test.YtgalbiokebghkaaDoorS22
namespace Go.Proofs.YtgalbiokebghkaaDoor.PureS
set_option linter.unusedVariables false
set_option linter.unusedSimpArgs false
open Go.RowKit Go.Lib Go.Proofs.YtgalbiokebghkaaDoorW.PrintWords Go.Proofs.YtgalbiokebghkaaDoorW.PrintLast Go.Proofs.YtgalbiokebghkaaDoorW.PrintMore Go.Proofs.YtgalbiokebghkaaDoor.S Go.Proofs.YtgalbiokebghkaaDoor.HandS Go.Proofs.YtgalbiokebghkaaDoor.Iter

/-- True, with enough rounds. -/
def Tr (g : Nat → Option Bool) : Prop := ∃ K, ∀ k, K ≤ k → g k = some true
theorem Tr.step {g g' : Nat → Option Bool} (h : Tr g') (K0 : Nat) (e : ∀ k, K0 ≤ k → g (k + 1) = g' k) : Tr g := by
  obtain ⟨K, hK⟩ := h
  refine ⟨K + K0 + 1, fun k hk => ?_⟩
  obtain ⟨k, rfl⟩ : ∃ q, k = q + 1 := ⟨k - 1, by omega⟩
  rw [e k (by omega), hK k (by omega)]
section
variable (s : ByteArray) (hs : s.size ≤ 600) (X : List S48) (j : Nat)
/-- The byte's own step: is one in a remark behind it? -/
def after (rem : Bool) (b : Nat) : Bool := if b = 10 then false else (rem || decide (b = 35))
abbrev l1 (k : Nat) (q : Nat) (rem : Bool) (t : S48) : Option Bool := joustlaw01_ScanSpots.l1 k s X (q : Int) rem (j : Int) (X.length : Int) (j : Int) t.f0 t.f1 t.f2.f0 t.f2.f1
theorem j4_step (k q : Nat) (hq : q < s.size) (hs2 : s.size ≤ 600) (rem : Bool) (t : S48) (hok : rem = true ∨ ByteS.B s q = 10 ∨ ByteS.B s q = 32 ∨ ByteS.B s q = 9 ∨ ByteS.B s q = 13) :
    joustlaw01_ScanSpots.j4 (k + 1) s X (q : Int) rem (j : Int) (X.length : Int) (j : Int) t.f0 t.f1 t.f2.f0 t.f2.f1 = l1 s X j k (q + 1) (if ByteS.B s q = 10 then false else rem) t := by
  have hb := bt_get s q hq
  have e0 : ((s.data.toList.getD q 0).toNat : Int) = (ByteS.B s q : Int) := rfl
  rw [e0] at hb
  have q1 : 0 ≤ (q : Int) := by omega
  have q2 : (q : Int) < (s.size : Int) := by omega
  have e1 : wrap64 ((q : Int) + 1) = ((q + 1 : Nat) : Int) := by rw [wrap_in (by omega) (by omega)]; omega
  rw [joustlaw01_ScanSpots.j4, if_pos q1, if_pos q2, hb, e1]
  by_cases h10 : ByteS.B s q = 10
  · have r1 : (ByteS.B s q : Int) = 10 := by omega
    have r2 : ¬ (ByteS.B s q : Int) = 32 := by omega
    have r3 : ¬ (ByteS.B s q : Int) = 9 := by omega
    rw [if_pos r1, if_neg r2, if_neg r3, if_pos h10]
  · have r1 : ¬ (ByteS.B s q : Int) = 10 := by omega
    rw [if_neg r1, if_neg h10]
    by_cases hr : rem = true
    · rw [if_pos hr]
    · rw [if_neg hr]
      by_cases h32 : ByteS.B s q = 32
      · have r2 : (ByteS.B s q : Int) = 32 := by omega
        rw [if_pos r2]
      · have r2 : ¬ (ByteS.B s q : Int) = 32 := by omega
        rw [if_neg r2]
        by_cases h9 : ByteS.B s q = 9
        · have r3 : (ByteS.B s q : Int) = 9 := by omega
          rw [if_pos r3]
        · have r3 : ¬ (ByteS.B s q : Int) = 9 := by omega
          have h13 : (ByteS.B s q : Int) = 13 := by
            rcases hok with h | h | h | h | h
            · exact absurd h hr
            · exact absurd h h10
            · exact absurd h h32
            · exact absurd h h9
            · omega
          rw [if_neg r3, if_pos h13]
theorem j3_step (k q : Nat) (hq : q < s.size) (rem : Bool) (t : S48) :
    joustlaw01_ScanSpots.j3 (k + 1) s X (q : Int) rem (j : Int) (X.length : Int) (j : Int) true t.f0 t.f1 t.f2.f0 t.f2.f1 = joustlaw01_ScanSpots.j4 k s X (q : Int) (rem || decide (ByteS.B s q = 35)) (j : Int) (X.length : Int) (j : Int) t.f0 t.f1 t.f2.f0 t.f2.f1 := by
  have hb := bt_get s q hq
  have e0 : ((s.data.toList.getD q 0).toNat : Int) = (ByteS.B s q : Int) := rfl
  rw [e0] at hb
  have q1 : 0 ≤ (q : Int) := by omega
  have q2 : (q : Int) < (s.size : Int) := by omega
  rw [joustlaw01_ScanSpots.j3, if_pos rfl, if_pos q1, if_pos q2, hb]
  by_cases h : ByteS.B s q = 35
  · have r1 : (ByteS.B s q : Int) = 35 := by omega
    rw [if_pos r1, decide_eq_true h, Bool.or_true]
  · have r1 : ¬ (ByteS.B s q : Int) = 35 := by omega
    rw [if_neg r1, decide_eq_false h, Bool.or_false]
include hs in
theorem byte_step (q : Nat) (hq : q < s.size) (rem : Bool) (t : S48) (x : S37) (hx : whereFrom (q : Int) (spots s) = x) (hne : (!(x.f0 == t.f2.f0) || !(x.f1 == t.f2.f1)) = true)
    (hok : (rem || decide (ByteS.B s q = 35)) = true ∨ ByteS.B s q = 10 ∨ ByteS.B s q = 32 ∨ ByteS.B s q = 9 ∨ ByteS.B s q = 13)
    (h : Tr fun k => l1 s X j k (q + 1) (after rem (ByteS.B s q)) t) : Tr fun k => l1 s X j k q rem t := by
  have ha : (if ByteS.B s q = 10 then false else (rem || decide (ByteS.B s q = 35))) = after rem (ByteS.B s q) := rfl
  have h4 : Tr fun k => joustlaw01_ScanSpots.j4 k s X (q : Int) (rem || decide (ByteS.B s q = 35)) (j : Int) (X.length : Int) (j : Int) t.f0 t.f1 t.f2.f0 t.f2.f1 := h.step 0 (fun k _ => by rw [← ha]; exact j4_step s X j k q hq hs _ t hok)
  have h3 : Tr fun k => joustlaw01_ScanSpots.j3 k s X (q : Int) rem (j : Int) (X.length : Int) (j : Int) true t.f0 t.f1 t.f2.f0 t.f2.f1 := h4.step 0 (fun k _ => j3_step s X j k q hq rem t)
  refine h3.step 1000 (fun k hk => ?_)
  have q2 : (q : Int) < (s.size : Int) := by omega
  show joustlaw01_ScanSpots.l1 (k + 1) s X (q : Int) rem (j : Int) (X.length : Int) (j : Int) t.f0 t.f1 t.f2.f0 t.f2.f1 = _
  rw [joustlaw01_ScanSpots.l1, if_pos q2, scanWhere s (by omega) (q : Int) k (by omega), Option.bind_some, hx, if_pos hne]
/-- Over bytes of a remark that are beyond ASCII. -/
theorem high_bytes (x : S37) (t : S48) (hs2 : s.size ≤ 600) (hne : (!(x.f0 == t.f2.f0) || !(x.f1 == t.f2.f1)) = true) (n : Nat) : ∀ q, q + n ≤ s.size → (∀ r, q ≤ r → r < q + n → whereFrom (r : Int) (spots s) = x ∧ 128 ≤ ByteS.B s r) →
    Tr (fun k => l1 s X j k (q + n) true t) → Tr fun k => l1 s X j k q true t := by
  induction n with
  | zero => intro q h1 h2 h3; exact h3
  | succ n ih =>
    intro q h1 h2 h3
    obtain ⟨g1, g2⟩ := h2 q (Nat.le_refl _) (by omega)
    have := ih (q + 1) (by omega) (fun r r1 r2 => h2 r (by omega) (by omega)) (by rw [show q + 1 + n = q + (n + 1) from by omega]; exact h3)
    refine byte_step s hs2 X j q (by omega) true t x g1 hne (.inl (Bool.true_or _)) ?_
    rw [show after true (ByteS.B s q) = true from by unfold after; rw [if_neg (by omega), Bool.true_or]]
    exact this
end
theorem C_B (s : ByteArray) (p : Nat) (h : C s p < 128) : ByteS.B s p = C s p ∧ W s p = 1 := by
  have := (ByteS.small s p h).1
  unfold C W
  rw [this]
  exact ⟨rfl, rfl⟩
/-- From a place on the way on, the statement's loops come to true. -/
theorem spots_run (s : ByteArray) (hs : s.size ≤ 600) (X : List S48) (hX : X.length ≤ 10000) {i n p : Nat} {x : S37} {rem : Bool} {L : List S48} (h : Path s i n p x rem L) :
    ∀ (j : Nat), X.drop j = L → ∀ t L', L = t :: L' → Tr fun k => l1 s X j k p rem t := by
  induction h with
  | fin i n p x rem ha hp =>
    intro j hd t L' e
    obtain ⟨rfl, rfl⟩ := List.cons.inj e
    have hlen := congrArg List.length hd
    rw [List.length_drop, List.length_singleton] at hlen
    have hle := ha.le
    have hpe : p = s.size := by omega
    have q1 : ¬ (p : Int) < (s.size : Int) := by omega
    have q2 : (p : Int) = (s.size : Int) := by omega
    have q3 : (j : Int) = wrap64 ((X.length : Int) - 1) := by rw [wrap_in (by omega) (by omega)]; omega
    have hsp := ha.spot
    refine ⟨2000, fun k hk => ?_⟩
    obtain ⟨k, rfl⟩ : ∃ q, k = q + 1 + 1 := ⟨k - 2, by omega⟩
    show joustlaw01_ScanSpots.l1 (k + 1 + 1) s X (p : Int) rem (j : Int) (X.length : Int) (j : Int) 0 (⟨#[]⟩ : ByteArray) x.f0 x.f1 = some true
    rw [joustlaw01_ScanSpots.l1, if_neg q1, joustlaw01_ScanSpots.j3, if_neg Bool.false_ne_true, if_pos rfl, if_pos q2, if_pos q3, if_pos (show (⟨#[]⟩ : ByteArray).toList = ([] : List UInt8) by rw [ByteArray.toList_eq]), scanWhere s (by omega) (p : Int) k (by omega), Option.bind_some, hsp, beq_self_eq_true, beq_self_eq_true, if_pos (by decide), lives_true k (by omega)]
    rfl
  | line i n p x rem L ha hp hc h ih =>
    intro j hd t L' e
    obtain ⟨t', L'', e', hle⟩ := h.head
    rw [e] at e'
    obtain ⟨rfl, rfl⟩ := List.cons.inj e'
    have hlt := (nl_up s p x).le hle
    obtain ⟨hB, hW⟩ := C_B s p (by omega)
    have := ih j hd t L' e
    rw [hW] at this
    refine byte_step s hs X j p hp rem t x ha.spot hlt.ne (.inr (.inl (by omega))) ?_
    rw [show after rem (ByteS.B s p) = false from by unfold after; rw [if_pos (by omega)]]
    exact this
  | rest i n p x rem L ha hp hc hb h2 h ih =>
    intro j hd t L' e
    obtain ⟨t', L'', e', hle⟩ := h.head
    rw [e] at e'
    obtain ⟨rfl, rfl⟩ := List.cons.inj e'
    have hlt := (nl_up s p x).le hle
    have := ih j hd t L' e
    by_cases hlow : C s p < 128
    · obtain ⟨hB, hW⟩ := C_B s p hlow
      rw [hW] at this
      refine byte_step s hs X j p hp rem t x ha.spot hlt.ne ?_ ?_
      · rw [hB]
        cases h5 : (rem || decide (C s p = 35)) with
        | true => exact .inl rfl
        | false =>
          rw [h5, Bool.false_or] at h2
          unfold blank at h2
          simp only [Bool.or_eq_true, beq_iff_eq] at h2
          rcases h2 with (h2 | h2) | h2
          · exact .inr (.inr (.inl h2))
          · exact .inr (.inr (.inr (.inl h2)))
          · exact .inr (.inr (.inr (.inr h2)))
      · rw [hB, show after rem (C s p) = (rem || decide (C s p = 35)) from by unfold after; rw [if_neg hc]]
        exact this
    · have h35 : decide (C s p = 35) = false := decide_eq_false (by omega)
      have hbl : blank (C s p) = false := by
        unfold blank
        rw [beq_eq_false_iff_ne.2 (by omega), beq_eq_false_iff_ne.2 (by omega), beq_eq_false_iff_ne.2 (by omega)]
        rfl
      rw [h35, hbl, Bool.or_false, Bool.or_false] at h2
      rw [h35, h2, Bool.or_false] at this
      rw [h2]
      exact high_bytes s X j x t hs hlt.ne (W s p) p (step_le hp) (fun r r1 r2 => ⟨ha.spot_in hp r r1 r2, rune_bytes s p r hb (by omega) r1 r2⟩) this
  | tok i n p x L i' n' x' ha hp h0 h ih =>
    intro j hd t L' e
    obtain ⟨rfl, rfl⟩ := List.cons.inj e
    obtain ⟨t2, L2, e2, _⟩ := h.head
    have hdj : X.drop (j + 1) = L := by
      rw [← List.drop_drop, hd]; rfl
    have hrun := ih (j + 1) hdj t2 L2 e2
    have hlen := congrArg List.length hdj
    rw [List.length_drop, e2, List.length_cons] at hlen
    have hj1 : j + 1 < X.length := by omega
    have hrd : rd_T48 X ((j + 1 : Nat) : Int) = t2 := by
      have h1 : X.drop (j + 1) = X[j + 1] :: X.drop (j + 1 + 1) := List.drop_eq_getElem_cons hj1
      rw [hdj, e2] at h1
      unfold rd_T48
      rw [Int.toNat_natCast]
      show (X[j + 1]?).getD z48 = _
      rw [List.getElem?_eq_getElem hj1, (List.cons.inj h1).1]
      rfl
    have hle := tokAt_le s p hp
    have hz0 : 0 < (s.extract p s.size).size := by rw [ext_size]; omega
    have hwd := tok_word (s.extract p s.size) hz0 h0
    have hpos := (tok_runs s p hp h0).2
    have hkd := tok_kind (s.extract p s.size)
    have hm : (tok (s.extract p s.size)).2.1 = (tokAt s p).2.1 := rfl
    rw [hm, drop_take s p _ hle] at hwd
    have hk0 : ¬ ((tokAt s p).1 : Int) = 0 := by
      intro h5
      exact hkd (by show (tokAt s p).1 = 0; omega)
    have hsz : (s.extract p (p + (tokAt s p).2.1)).size = (tokAt s p).2.1 := by rw [ByteArray.size_extract]; omega
    have hsp := ha.spot
    have hle2 := ha.le
    -- the next token's loop, then the next round
    have h1 : Tr fun k => joustlaw01_ScanSpots.l0 k s X ((p + (tokAt s p).2.1 : Nat) : Int) false (X.length : Int) ((j + 1 : Nat) : Int) := by
      refine hrun.step 0 (fun k hk => ?_)
      have r1 : ((j + 1 : Nat) : Int) < (X.length : Int) := by omega
      have r2 : 0 ≤ ((j + 1 : Nat) : Int) := by omega
      rw [joustlaw01_ScanSpots.l0, if_pos r1, if_pos r2, if_pos r1, hrd]
    have h3 : Tr fun k => joustlaw01_ScanSpots.j3 k s X (p : Int) false (j : Int) (X.length : Int) (j : Int) false ((tokAt s p).1 : Int) (s.extract p (p + (tokAt s p).2.1)) x.f0 x.f1 := by
      refine h1.step 3000 (fun k hk => ?_)
      have r1 : ¬ (s.extract p (p + (tokAt s p).2.1)).toList = ([] : List UInt8) := by
        rw [ByteArray.toList_eq]
        intro h5
        have := congrArg List.length h5
        rw [← size_eq, hsz, List.length_nil] at this
        omega
      have r2 : ¬ ((p + (tokAt s p).2.1 : Nat) : Int) > (s.size : Int) := by omega
      have r3 : 0 ≤ (p : Int) := by omega
      have r4 : (p : Int) ≤ ((p + (tokAt s p).2.1 : Nat) : Int) := by omega
      have r5 : ((p + (tokAt s p).2.1 : Nat) : Int) ≤ (s.size : Int) := by omega
      have hW := scanIsWord (s.extract p (p + (tokAt s p).2.1)) (by rw [hsz]; omega) k (by rw [hsz]; omega)
      have hW2 : isWord (s.extract p (p + (tokAt s p).2.1)) = (((tokAt s p).1 : Int) == 1) := hwd
      have e1 : wrap64 ((p : Int) + ((s.extract p (p + (tokAt s p).2.1)).size : Int)) = ((p + (tokAt s p).2.1 : Nat) : Int) := by rw [hsz, wrap_in (by omega) (by omega)]; omega
      have e3 : wrap64 ((j : Int) + 1) = ((j + 1 : Nat) : Int) := by rw [wrap_in (by omega) (by omega)]; omega
      rw [joustlaw01_ScanSpots.j3, if_neg Bool.false_ne_true, if_neg hk0, if_neg r1, e1, if_neg r2, if_pos r3, if_pos r4, if_pos r5, Int.toNat_natCast, Int.toNat_natCast, if_pos rfl, hW, Option.bind_some, hW2, bne_self_eq_false, if_neg Bool.false_ne_true, e3]
    refine h3.step 1000 (fun k hk => ?_)
    have r0 : (p : Int) < (s.size : Int) := by omega
    show joustlaw01_ScanSpots.l1 (k + 1) s X (p : Int) false (j : Int) (X.length : Int) (j : Int) ((tokAt s p).1 : Int) (s.extract p (p + (tokAt s p).2.1)) x.f0 x.f1 = _
    rw [joustlaw01_ScanSpots.l1, if_pos r0, scanWhere s (by omega) (p : Int) k (by omega), Option.bind_some, hsp, beq_self_eq_true, beq_self_eq_true, if_neg (by decide)]
theorem lawZ (s : ByteArray) (hs : s.size ≤ 4611686018427387904) : ∃ k, joustlaw01_ScanSpots.f k s = some true := by
  by_cases h0 : 600 < s.size
  · refine ⟨1000000 + 6 * s.size + 1, ?_⟩
    unfold joustlaw01_ScanSpots.f
    rw [scanTokens s _ (by omega), Option.bind_some, if_pos (show (s.size : Int) > 600 by omega), joustlaw01_ScanSpots.j0, if_pos rfl, lives_true _ (by omega)]
    rfl
  · have h0' : ¬ (s.size : Int) > 600 := by omega
    by_cases hE : (tokens s).2.1 = 0
    · have hP := tokens_path s (by omega) hE
      obtain ⟨T, e0, q1, q2, q3, q4⟩ := tokens_good s (by omega) hE
      have hlen : (tokens s).1.length ≤ 10000 := by
        rw [q1, List.length_append, List.length_singleton]
        omega
      obtain ⟨X, hX⟩ : ∃ X, (tokens s).1 = X := ⟨_, rfl⟩
      rw [hX] at hP hlen
      obtain ⟨t, L', e, _⟩ := hP.head
      have hrun := spots_run s (by omega) X hlen hP 0 (by rw [List.drop_zero]) t L' e
      have hrd : rd_T48 X ((0 : Nat) : Int) = t := by rw [e]; rfl
      have h1 : Tr fun k => joustlaw01_ScanSpots.l0 k s X 0 false (X.length : Int) 0 := by
        refine hrun.step 0 (fun k hk => ?_)
        have r1 : (0 : Int) < (X.length : Int) := by rw [e, List.length_cons]; omega
        have hrd' : rd_T48 X 0 = t := hrd
        rw [joustlaw01_ScanSpots.l0, if_pos r1, if_pos (by decide), if_pos r1, hrd']
        rfl
      obtain ⟨K, hK⟩ := h1
      refine ⟨K + 1000000 + 1, ?_⟩
      unfold joustlaw01_ScanSpots.f
      rw [scanTokens s _ (by omega), Option.bind_some, if_neg h0', hE, hX, joustlaw01_ScanSpots.j0, if_neg (by decide)]
      exact hK _ (by omega)
    · refine ⟨1000000 + 1 + 1, ?_⟩
      unfold joustlaw01_ScanSpots.f
      rw [scanTokens s _ (by omega), Option.bind_some, if_neg h0', bne_iff_ne.2 hE, joustlaw01_ScanSpots.j0, if_pos rfl, lives_true _ (by omega)]
      rfl
end Go.Proofs.YtgalbiokebghkaaDoor.PureS
