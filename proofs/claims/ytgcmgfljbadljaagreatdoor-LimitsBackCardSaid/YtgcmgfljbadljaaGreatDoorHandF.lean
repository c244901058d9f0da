/-
  limits.find: the binary search among a format's limits, by their names; what it returns, of sorted lists and of others. Conditions: fewer than 2^61 limits.
-/
import Derived.Test.YtgcmgfljbadljaaGreatDoorHandS
import Derived.WalkLawsBesides
import Derived.Lib.Hide
namespace Go.Proofs.YtgcmgfljbadljaaGreatDoor.HandF
set_option linter.unusedVariables false
set_option linter.unusedSimpArgs false
open Go.RowKit Go.Shelf Go.Lib Go.Proofs.YtgcmgfljbadljaaGreatDoorW.PrintWords Go.Proofs.YtgcmgfljbadljaaGreatDoorW.PrintLast Go.Proofs.YtgcmgfljbadljaaGreatDoorW.PrintMore Go.Proofs.YtgcmgfljbadljaaGreatDoor.L

theorem isNaN (s : ByteArray) (w : World) : Calls Tryz.prog 95 #[.string s] w fun e w' => e = .returned (.bool false) ∧ w' = w := by
  go_enter Tryz.func95, Tryz.ntmps95
  go_wp2
  go_ret
  exact ⟨by simp, rfl⟩
def cmpF (a x : ByteArray) : Int := if Op.bytesLess a.toList x.toList = true then -1 else if Op.bytesLess x.toList a.toList = true then 1 else 0
theorem compare (a x : ByteArray) (w : World) : Calls Tryz.prog 78 #[.string a, .string x] w fun e w' => e = .returned (.int .i64 (cmpF a x)) ∧ w' = w := by
  unfold cmpF
  cases h1 : Op.bytesLess a.toList x.toList with
  | true =>
    rw [if_pos rfl]
    go_enter Tryz.func78, Tryz.ntmps78
    go_wp2_with (go_at_call 95; refine (isNaN _ _).mono ?_; rintro e w' ⟨rfl, rfl⟩)
    go_ret
    exact ⟨rfl, rfl⟩
  | false =>
    rw [if_neg Bool.false_ne_true]
    cases h2 : Op.bytesLess x.toList a.toList with
    | true =>
      rw [if_pos rfl]
      have h3 : (!(a.toList == x.toList)) = true := by
        cases h4 : (a.toList == x.toList) with
        | false => rfl
        | true =>
          have := beq_iff_eq.1 h4
          rw [this] at h1 h2
          rw [h1] at h2
          cases h2
      go_enter Tryz.func78, Tryz.ntmps78
      go_wp2_with (go_at_call 95; refine (isNaN _ _).mono ?_; rintro e w' ⟨rfl, rfl⟩)
      go_ret
      exact ⟨rfl, rfl⟩
    | false =>
      rw [if_neg Bool.false_ne_true]
      have h3 : (!(a.toList == x.toList)) = false := by
        have h4 := Iter.leq_flip a.toList x.toList
        rw [h1, h2, Bool.false_or] at h4
        rw [h4]; rfl
      go_enter Tryz.func78, Tryz.ntmps78
      go_wp2_with (go_at_call 95; refine (isNaN _ _).mono ?_; rintro e w' ⟨rfl, rfl⟩)
      go_ret
      exact ⟨rfl, rfl⟩
theorem find1 (n x : ByteArray) (m c : Int) (w : World) : Calls Tryz.prog 77 #[.agg #[.string n, .int .i64 m, .int .i64 c], .string x] w fun e w' => e = .returned (.int .i64 (cmpF n x)) ∧ Below w.heap.size w w' := by
  have hu := Tryz.underlying42
  go_enter Tryz.func77, Tryz.ntmps77
  go_wp2_with (go_at_call 78; refine (compare n x _).mono ?_; rintro e w' ⟨rfl, rfl⟩)
  go_ret
  exact ⟨rfl, by repeat (first | exact Below.refl _ _ | apply pw_below_drewN | apply below_drew | apply below_alloc)⟩

/-! ### the binary search -/
def bsG (l : List S42) (x : ByteArray) : Nat → Nat → Nat → Nat
  | 0, lo, _ => lo
  | n + 1, lo, hi => if lo < hi then (if cmpF (rd_T42 l ((lo + hi) / 2 : Nat)).f0 x < 0 then bsG l x n ((lo + hi) / 2 + 1) hi else bsG l x n lo ((lo + hi) / 2)) else lo
theorem bsG_le (l : List S42) (x : ByteArray) (n : Nat) : ∀ lo hi, lo ≤ hi → bsG l x n lo hi ≤ hi := by
  induction n with
  | zero => intro lo hi h; exact h
  | succ n ih =>
    intro lo hi h
    rw [bsG]
    split
    · split
      · exact ih _ _ (by omega)
      · exact Nat.le_trans (ih _ _ (by omega)) (by omega)
    · exact h
/-- Where the search ends. -/
def bsI (l : List S42) (x : ByteArray) : Nat := bsG l x l.length 0 l.length
def isAt (l : List S42) (x : ByteArray) (i : Nat) : Bool := decide (i < l.length) && (cmpF (rd_T42 l (i : Int)).f0 x == 0)
set_option maxHeartbeats 2000000 in
set_option maxRecDepth 100000 in
theorem search (A : Option Addr) (c : Nat) (l : List S42) (x : ByteArray) (w : World) (hr : Kd.C k42 w A l.length l) (hl : l.length < 2305843009213693952) :
    Calls Tryz.prog 76 #[.slice A l.length c, .string x, .func (.func 77) #[] #[]] w fun e w' => e = .returned (.tuple #[.int .i64 (bsI l x : Nat), .bool (isAt l x (bsI l x))]) ∧ Below w.heap.size w w' := by
  have hu := Tryz.underlying42
  have hu2 := Tryz.underlying22
  have hRI : bsI l x ≤ l.length := bsG_le l x _ _ _ (Nat.zero_le _)
  obtain ⟨R, hR⟩ : ∃ R, bsI l x = R := ⟨_, rfl⟩
  rw [hR] at hRI ⊢
  have HR := Aside0.mk hR
  have HC := Aside0.mk hr
  clear hR hr
  go_enter Tryz.func76, Tryz.ntmps76
  go_wp2
  go_loopg [9, 10] l.length (fun g s9 s10 wr => ∃ lo hi : Nat, s9 = .int .i64 (lo : Int) ∧ s10 = .int .i64 (hi : Int) ∧ lo ≤ hi ∧ hi ≤ l.length ∧ Aside0 (bsG l x g lo hi = R) ∧ hi - lo ≤ g ∧ Aside0 (Below w.heap.size w wr))
  case atStart => exact ⟨0, l.length, rfl, rfl, Nat.zero_le _, Nat.le_refl _, HR, by omega, Aside0.mk (Below.refl _ _)⟩
  case round =>
    obtain ⟨lo, hi, rfl, rfl, h1, h2, hb, hg, hB⟩ := hrel
    by_cases hlt : lo < hi
    · have hlt' : decide ((lo : Int) < (hi : Int)) = true := decide_eq_true (by omega)
      obtain ⟨g, rfl⟩ : ∃ g, gk = g + 1 := ⟨gk - 1, by omega⟩
      obtain ⟨ad, hA, e0, e1, e2⟩ := at_T42 HC.out (((lo + hi) / 2 : Nat) : Int) (by omega) (by omega)
      subst hA
      obtain ⟨y, hy⟩ : ∃ y, rd_T42 l (((lo + hi) / 2 : Nat) : Int) = y := ⟨_, rfl⟩
      rw [hy] at e0 e1 e2
      rw [Int.toNat_natCast] at e0 e1 e2
      replace e0 := (hB.out.cell (World.block_lt_of_cell? w _ e0)).trans e0
      replace e1 := (hB.out.cell (World.block_lt_of_cell? w _ e1)).trans e1
      replace e2 := (hB.out.cell (World.block_lt_of_cell? w _ e2)).trans e2
      have hb2 := hb.out
      rw [bsG, if_pos hlt, hy] at hb2
      have Hb2 := Aside0.mk hb2
      clear hb2 hy
      obtain ⟨v, hv⟩ : ∃ v, cmpF y.f0 x = v := ⟨_, rfl⟩
      have hf := find1 y.f0 x y.f1 y.f2 wr
      rw [hv] at hf Hb2
      clear hv
      have Hf := Aside0.mk hf
      clear hf
      by_cases hc : v < 0
      · have hc' : decide (v < 0) = true := decide_eq_true hc
        have Hb3 : Aside0 (bsG l x g ((lo + hi) / 2 + 1) hi = R) := Aside0.mk (by have := Hb2.out; rw [if_pos hc] at this; exact this)
        clear hc Hb2
        go_wp2_with (refine Hf.out.mono ?_; rintro e w2 ⟨rfl, hbw⟩)
        go_roundg g
        case measure => omega
        case rel => exact ⟨(lo + hi) / 2 + 1, hi, by rw [show ((lo : Int) + (hi : Int)) / 2 + 1 = (((lo + hi) / 2 + 1 : Nat) : Int) by omega], rfl, by omega, h2, Hb3, by omega, Aside0.mk (below_step hB.out hbw)⟩
      · have hc' : decide (v < 0) = false := decide_eq_false hc
        have Hb3 : Aside0 (bsG l x g lo ((lo + hi) / 2) = R) := Aside0.mk (by have := Hb2.out; rw [if_neg hc] at this; exact this)
        clear hc Hb2
        go_wp2_with (refine Hf.out.mono ?_; rintro e w2 ⟨rfl, hbw⟩)
        go_roundg g
        case measure => omega
        case rel => exact ⟨lo, (lo + hi) / 2, rfl, by rw [show ((lo : Int) + (hi : Int)) / 2 = (((lo + hi) / 2 : Nat) : Int) by omega], by omega, by omega, Hb3, by omega, Aside0.mk (below_step hB.out hbw)⟩
    · have hlt' : decide ((lo : Int) < (hi : Int)) = false := decide_eq_false (by omega)
      have hlo : lo = R := by
        have h3 := hb.out
        cases gk with
        | zero => exact h3
        | succ g => rw [bsG, if_neg hlt] at h3; exact h3
      subst hlo
      clear hb
      by_cases hn : lo < l.length
      · obtain ⟨ad, hA, e0, e1, e2⟩ := at_T42 HC.out (lo : Int) (by omega) (by omega)
        subst hA
        obtain ⟨y, hy⟩ : ∃ y, rd_T42 l (lo : Int) = y := ⟨_, rfl⟩
        rw [hy] at e0 e1 e2
        rw [Int.toNat_natCast] at e0 e1 e2
        replace e0 := (hB.out.cell (World.block_lt_of_cell? w _ e0)).trans e0
        replace e1 := (hB.out.cell (World.block_lt_of_cell? w _ e1)).trans e1
        replace e2 := (hB.out.cell (World.block_lt_of_cell? w _ e2)).trans e2
        have hfin : isAt l x lo = (cmpF y.f0 x == 0) := by unfold isAt; rw [decide_eq_true hn, hy, Bool.true_and]
        have Hfin := Aside0.mk hfin
        have Hf := Aside0.mk (find1 y.f0 x y.f1 y.f2 wr)
        clear hy hfin
        go_wp2_with (refine Hf.out.mono ?_; rintro e w2 ⟨rfl, hbw⟩)
        go_ret2
        exact ⟨by rw [Hfin.out]; rfl, below_step hB.out hbw⟩
      · have hfin : isAt l x lo = false := by unfold isAt; rw [decide_eq_false hn, Bool.false_and]
        have Hfin := Aside0.mk hfin
        clear hfin
        go_wp2_with fail
        go_ret2
        exact ⟨by rw [Hfin.out]; rfl, hB.out⟩

end Go.Proofs.YtgcmgfljbadljaaGreatDoor.HandF
namespace Go.Proofs.YtgcmgfljbadljaaGreatDoor.HandS
set_option linter.unusedVariables false
set_option linter.unusedSimpArgs false
open Go.RowKit Go.Shelf Go.Lib Go.Proofs.YtgcmgfljbadljaaGreatDoorW.PrintWords Go.Proofs.YtgcmgfljbadljaaGreatDoorW.PrintLast Go.Proofs.YtgcmgfljbadljaaGreatDoorW.PrintMore Go.Proofs.YtgcmgfljbadljaaGreatDoor.L Go.Proofs.YtgcmgfljbadljaaGreatDoor.HandF
def limits_find.f (a0_0 : ByteArray) (a0_1 : Int) (a0_2 : Int) (l0_3 : List (S42)) (a1 : ByteArray) : Option (Int × Bool) :=
  if l0_3.length < 2305843009213693952 then some ((bsI l0_3 a1 : Nat), isAt l0_3 a1 (bsI l0_3 a1)) else none
theorem limits_find.calls (a0_0 : ByteArray) (a0_1 : Int) (a0_2 : Int) (A0_3 : Option Addr) (c0_3 : Nat) (l0_3 : List (S42)) (a1 : ByteArray) (r1 : Int) (r2 : Bool) (w : World) (hr0_3 : Kd.C k42 w A0_3 l0_3.length l0_3) (hc0_3 : l0_3.length ≤ c0_3) (h : limits_find.f a0_0 a0_1 a0_2 l0_3 a1 = some (r1, r2)) :
    Calls Tryz.prog 52 #[.agg #[.string a0_0, .int .i64 a0_1, .int .i64 a0_2, .slice A0_3 l0_3.length c0_3], .string a1] w fun e w' => e = .returned (.tuple #[.int .i64 r1, .bool r2]) ∧ Below w.heap.size w w' := by
  unfold limits_find.f at h
  split at h
  · rename_i hl
    injection h with h
    simp only [Prod.mk.injEq] at h
    obtain ⟨rfl, rfl⟩ := h
    have hS : ∀ W : World, Below w.heap.size w W → Calls Tryz.prog 76 #[.slice A0_3 l0_3.length c0_3, .string a1, .func (.func 77) #[] #[]] W fun e w' => e = .returned (.tuple #[.int .i64 (bsI l0_3 a1 : Nat), .bool (isAt l0_3 a1 (bsI l0_3 a1))]) ∧ Below w.heap.size w w' :=
      fun W hb => (search A0_3 c0_3 l0_3 a1 W (Kd.C_below hr0_3 hb) hl).mono fun e w' h => ⟨h.1, below_step hb h.2⟩
    have HS := Aside0.mk hS
    clear hS hr0_3 hl
    generalize ((bsI l0_3 a1 : Nat) : Int) = i at *
    generalize isAt l0_3 a1 (bsI l0_3 a1) = b at *
    have hu := Tryz.underlying24
    go_enter Tryz.func52, Tryz.ntmps52
    go_wp2_with (go_at_call 76; refine (HS.out _ ?_).mono ?_; (exact below_alloc (Below.refl _ _) _); rintro e w' ⟨rfl, hb⟩)
    go_ret2
    exact ⟨rfl, hb⟩
  · cases h
end Go.Proofs.YtgcmgfljbadljaaGreatDoor.HandS
