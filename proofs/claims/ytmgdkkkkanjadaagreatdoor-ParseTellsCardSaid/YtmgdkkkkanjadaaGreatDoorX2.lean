/- Written by a program of this claim's author (stubprint.py, over the kit's print) out of the translation: Go functions as Lean functions, and that the calls come to them. -/
import Derived.Test.YtmgdkkkkanjadaaGreatDoorX0
import Derived.Test.YtmgdkkkkanjadaaGreatDoorHandS
import Derived.WalkLawsBesides
namespace Go.Proofs.YtmgdkkkkanjadaaGreatDoor.X
open Go.RowKit Go.Proofs.YtmgdkkkkanjadaaGreatDoorW.PrintWords Go.Proofs.YtmgdkkkkanjadaaGreatDoorW.PrintLast Go.Proofs.YtmgdkkkkanjadaaGreatDoorW.PrintMore Go.Proofs.YtmgdkkkkanjadaaGreatDoor.HandS Go.Proofs.YtmgdkkkkanjadaaGreatDoor.Iter
attribute [local go_sem] max2_int min2_int max_two min_two max_three min_three max_four min_four   -- for this text's walks alone
set_option linter.unusedVariables false
set_option linter.unusedSimpArgs false

-- by hand: function 94 (strings_HasPrefix)

/-! ### scan_broken: function 66 -/
def scan_broken.f (a0 : ByteArray) (a1 : Int) (a2 : Int) : Option (Bool):=if a2 = 65533 then (if 0 ≤ a1 then (if a1 ≤ (a0.size : Int) then ((strings_HasPrefix.f (a0.extract (a1 : Int).toNat a0.size) (⟨#[239,191,189]⟩ : ByteArray)).bind fun t132 => (some (!t132))) else (none)) else (none)) else (some false)
set_option maxHeartbeats 8000000 in
set_option maxRecDepth 100000 in
theorem scan_broken.calls (a0 : ByteArray) (a1 : Int) (a2 : Int) (r : Bool) (w : World) (h : scan_broken.f a0 a1 a2 = some r) :
  Calls Tryz.prog 66 #[.string a0,.int .i64 a1,.int .i32 a2] w fun e w' => e = .returned (.bool r) ∧ Below w.heap.size w w':=by
 have HB:=Aside0.mk (Below.refl w.heap.size w);have H : (if a2 = 65533 then (if 0 ≤ a1 then (if a1 ≤ (a0.size : Int) then ((strings_HasPrefix.f (a0.extract (a1 : Int).toNat a0.size) (⟨#[239,191,189]⟩ : ByteArray)).bind fun t132 => (some (!t132))) else (none)) else (none)) else (some false)) = some r:=h;clear h
 by_cases c4 : a2 = 65533
 ·rw [if_pos c4] at H;have c4b0 : (a2 == 65533) = true:=beq_iff_eq.mpr c4;have c4b1 : (a2 != 65533) = false:=bne_eq_false_iff_eq.mpr c4;clear c4
  by_cases c5 : 0 ≤ a1
  ·rw [if_pos c5] at H;have c5b0:=eq_true c5;have c5b1 : decide (0 ≤ a1) = true:=decide_eq_true c5;clear c5
   by_cases c6 : a1 ≤ (a0.size : Int)
   ·rw [if_pos c6] at H;have c6b0:=eq_true c6;have c6b1 : decide (a1 ≤ (a0.size : Int)) = true:=decide_eq_true c6;clear c6;replace H:=Option.bind_eq_some_iff.mp H;obtain ⟨t132,A70,H⟩:=H
    (try dsimp only at H)
    have A7:=Aside0.mk A70;clear A70;obtain rfl:=Option.some.inj H
    go_enter Tryz.func66,Tryz.ntmps66
    go_wp2_with (first | (go_at_call 94;(with_reducible refine (strings_HasPrefix.calls (a0.extract (a1 : Int).toNat a0.size) (⟨#[239,191,189]⟩ : ByteArray) t132 _ A7.out).mono ?_);rintro e w8 ⟨rfl,hb⟩;replace HB:=Aside0.mk (below_step (bl0 HB.out) hb);(try clear hb)))
    go_ret
    exact ⟨by first | rfl | (simp [errW_none,errW_some] <;> rfl) | (simp [*,errW_none,errW_some] <;> rfl),bl0 HB.out⟩
   ·rw [if_neg c6] at H;exact absurd H (by simp)
  ·rw [if_neg c5] at H;exact absurd H (by simp)
 ·rw [if_neg c4] at H;have c4b0 : (a2 == 65533) = false:=beq_eq_false_iff_ne.mpr c4;have c4b1 : (a2 != 65533) = true:=bne_iff_ne.mpr c4;obtain rfl:=Option.some.inj H
  go_enter Tryz.func66,Tryz.ntmps66
  go_wp2
  go_ret
  exact ⟨by first | rfl | (simp [errW_none,errW_some] <;> rfl) | (simp [*,errW_none,errW_some] <;> rfl),bl0 HB.out⟩

-- by hand: function 87 (unicode_IsLetter)

/-! ### scan_isDigit: function 124 -/
def scan_isDigit.f (a0 : Int) : Option (Bool):=if 48 ≤ a0 then (some (decide (a0 ≤ 57))) else (some false)
set_option maxHeartbeats 8000000 in
set_option maxRecDepth 100000 in
theorem scan_isDigit.calls (a0 : Int) (r : Bool) (w : World) (h : scan_isDigit.f a0 = some r) :
  Calls Tryz.prog 124 #[.int .i32 a0] w fun e w' => e = .returned (.bool r) ∧ Drawn0 w w':=by
 have H : (if 48 ≤ a0 then (some (decide (a0 ≤ 57))) else (some false)) = some r:=h;clear h
 by_cases c2 : 48 ≤ a0
 ·rw [if_pos c2] at H;have c2b0 : decide (48 ≤ a0) = true:=decide_eq_true c2;clear c2;obtain rfl:=Option.some.inj H
  go_enter Tryz.func124,Tryz.ntmps124
  go_wp2
  go_ret
  exact ⟨by first | rfl | (simp;done) | (simp [*];done),by repeat (first | exact Drawn0.refl _ | apply Drawn0.step)⟩
 ·rw [if_neg c2] at H;have c2b0 : decide (48 ≤ a0) = false:=decide_eq_false c2;clear c2;obtain rfl:=Option.some.inj H
  go_enter Tryz.func124,Tryz.ntmps124
  go_wp2
  go_ret
  exact ⟨by first | rfl | (simp;done) | (simp [*];done),by repeat (first | exact Drawn0.refl _ | apply Drawn0.step)⟩

/-! ### scan_wordly: function 113 -/
def scan_wordly.f (a0 : Int) : Option (Bool):=if a0 = 45 then (some true) else ((scan_isDigit.f a0).bind fun t133 => (if t133 = true then (some true) else ((unicode_IsLetter.f a0).bind fun t134 => (some t134))))
set_option maxHeartbeats 8000000 in
set_option maxRecDepth 100000 in
theorem scan_wordly.calls (a0 : Int) (r : Bool) (w : World) (hG : Tabs w) (h : scan_wordly.f a0 = some r) :
  Calls Tryz.prog 113 #[.int .i32 a0] w fun e w' => e = .returned (.bool r) ∧ Below w.heap.size w w':=by
 have HG:=Aside0.mk hG;clear hG;have HB:=Aside0.mk (Below.refl w.heap.size w);have H : (if a0 = 45 then (some true) else ((scan_isDigit.f a0).bind fun t133 => (if t133 = true then (some true) else ((unicode_IsLetter.f a0).bind fun t134 => (some t134))))) = some r:=h;clear h
 by_cases c2 : a0 = 45
 ·rw [if_pos c2] at H;have c2b0 : (a0 == 45) = true:=beq_iff_eq.mpr c2;have c2b1 : (a0 != 45) = false:=bne_eq_false_iff_eq.mpr c2;clear c2;obtain rfl:=Option.some.inj H
  go_enter Tryz.func113,Tryz.ntmps113
  go_wp2
  go_ret
  exact ⟨by first | rfl | (simp [errW_none,errW_some] <;> rfl) | (simp [*,errW_none,errW_some] <;> rfl),bl0 HB.out⟩
 ·rw [if_neg c2] at H;have c2b0 : (a0 == 45) = false:=beq_eq_false_iff_ne.mpr c2;have c2b1 : (a0 != 45) = true:=bne_iff_ne.mpr c2;replace H:=Option.bind_eq_some_iff.mp H;obtain ⟨t133,A30,H⟩:=H
  (try dsimp only at H)
  have A3:=Aside0.mk A30;clear A30
  by_cases c4 : t133 = true
  ·subst c4;rw [if_pos rfl] at H;obtain rfl:=Option.some.inj H
   go_enter Tryz.func113,Tryz.ntmps113
   go_wp2_with (first | (go_at_call 124;(with_reducible refine (scan_isDigit.calls a0 true _ A3.out).mono ?_);rintro e w' ⟨rfl,⟨nd,rfl⟩⟩))
   go_ret
   exact ⟨by first | rfl | (simp [errW_none,errW_some] <;> rfl) | (simp [*,errW_none,errW_some] <;> rfl),bl0 HB.out⟩
  ·replace c4:=Bool.eq_false_iff.mpr c4;subst c4;rw [if_neg (show ¬ (false = true) by decide)] at H;replace H:=Option.bind_eq_some_iff.mp H;obtain ⟨t134,A50,H⟩:=H
   (try dsimp only at H)
   have A5:=Aside0.mk A50;clear A50;obtain rfl:=Option.some.inj H
   go_enter Tryz.func113,Tryz.ntmps113
   go_wp2_with (first | (go_at_call 124;(with_reducible refine (scan_isDigit.calls a0 false _ A3.out).mono ?_);rintro e w' ⟨rfl,⟨nd,rfl⟩⟩) | (go_at_call 87;(with_reducible refine (unicode_IsLetter.calls a0 t134 _ ?side1 A5.out).mono ?_);(case side1 => exact Tabs.below HG.out (bl0 HB.out));rintro e w6 ⟨rfl,hb⟩;replace HB:=Aside0.mk (below_step (bl0 HB.out) hb);(try clear hb)))
   go_ret
   exact ⟨by first | rfl | (simp [errW_none,errW_some] <;> rfl) | (simp [*,errW_none,errW_some] <;> rfl),bl0 HB.out⟩

-- by hand: function 114 (strings_TrimRight)

end Go.Proofs.YtmgdkkkkanjadaaGreatDoor.X
