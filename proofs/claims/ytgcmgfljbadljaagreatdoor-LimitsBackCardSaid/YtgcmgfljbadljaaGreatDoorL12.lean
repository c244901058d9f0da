/- Written by a program of this claim's author (stubprint.py, over the kit's print) out of the translation: Go functions as Lean functions, and that the calls come to them. -/
import Derived.Test.YtgcmgfljbadljaaGreatDoorL0
import Derived.Test.YtgcmgfljbadljaaGreatDoorL11
import Derived.Test.YtgcmgfljbadljaaGreatDoorHandS
namespace Go.Proofs.YtgcmgfljbadljaaGreatDoor.L
open Go.RowKit Go.Proofs.YtgcmgfljbadljaaGreatDoorW.PrintWords Go.Proofs.YtgcmgfljbadljaaGreatDoorW.PrintLast Go.Proofs.YtgcmgfljbadljaaGreatDoorW.PrintMore Go.Proofs.YtgcmgfljbadljaaGreatDoor.HandS Go.Proofs.YtgcmgfljbadljaaGreatDoor.Iter
attribute [local go_sem] max2_int min2_int max_two min_two max_three min_three max_four min_four   -- for this text's walks alone
set_option linter.unusedVariables false
set_option linter.unusedSimpArgs false

/-! ### scan_Word: function 28 -/
def scan_Word.f (k : Nat) (a0 : ByteArray) : Option (Bool):=if a0.toList = ([] : List UInt8) then (some false) else ((scan_word.f k a0).bind fun t218 => (if t218 = (a0.size : Int) then ((utf8_RuneCountInString.f a0).bind fun t219 => (some (decide (t219 ≤ 24)))) else (some false)))
theorem scan_Word.mono : ∀ a0 k,LeO (scan_Word.f k a0) (scan_Word.f (k + 1) a0):=by
 intro a0 k
 unfold scan_Word.f
 repeat' first
   | (with_reducible exact scan_word.mono _ _)
   | (with_reducible exact LeO.refl _)
   | (with_reducible exact LeO.none _)
   | (with_reducible refine LeO.ite ?_ ?_)
   | (with_reducible refine LeO.bind ?_ (fun _ => ?_))
   | exact scan_word.mono _ _
   | exact LeO.none _
   | refine LeO.ite ?_ ?_
   | refine LeO.bind ?_ (fun _ => ?_)
set_option maxHeartbeats 8000000 in
set_option maxRecDepth 100000 in
theorem scan_Word.calls (k : Nat) (a0 : ByteArray) (r : Bool) (w : World) (hG : Tabs w) (h : scan_Word.f k a0 = some r) :
  Calls Tryz.prog 28 #[.string a0] w fun e w' => e = .returned (.bool r) ∧ Below w.heap.size w w':=by
 have HG:=Aside0.mk hG;clear hG;have HB:=Aside0.mk (Below.refl w.heap.size w);have H : (if a0.toList = ([] : List UInt8) then (some false) else ((scan_word.f k a0).bind fun t218 => (if t218 = (a0.size : Int) then ((utf8_RuneCountInString.f a0).bind fun t219 => (some (decide (t219 ≤ 24)))) else (some false)))) = some r:=h;clear h
 by_cases c2 : a0.toList = ([] : List UInt8)
 ·rw [if_pos c2] at H;have c2b0 : (a0.toList == ([] : List UInt8)) = true:=beq_iff_eq.mpr c2;have c2b1 : (a0.toList != ([] : List UInt8)) = false:=bne_eq_false_iff_eq.mpr c2;clear c2;obtain rfl:=Option.some.inj H
  go_enter Tryz.func28,Tryz.ntmps28
  go_wp2
  go_ret
  exact ⟨by first | rfl | (simp [errW_none,errW_some] <;> rfl) | (simp [*,errW_none,errW_some] <;> rfl),bl0 HB.out⟩
 ·rw [if_neg c2] at H;have c2b0 : (a0.toList == ([] : List UInt8)) = false:=beq_eq_false_iff_ne.mpr c2;have c2b1 : (a0.toList != ([] : List UInt8)) = true:=bne_iff_ne.mpr c2;replace H:=Option.bind_eq_some_iff.mp H;obtain ⟨t218,A30,H⟩:=H
  (try dsimp only at H)
  have A3:=Aside0.mk A30;clear A30
  by_cases c4 : t218 = (a0.size : Int)
  ·rw [if_pos c4] at H;have c4b0 : (t218 == (a0.size : Int)) = true:=beq_iff_eq.mpr c4;have c4b1 : (t218 != (a0.size : Int)) = false:=bne_eq_false_iff_eq.mpr c4;clear c4;replace H:=Option.bind_eq_some_iff.mp H;obtain ⟨t219,A50,H⟩:=H
   (try dsimp only at H)
   have A5:=Aside0.mk A50;clear A50;obtain rfl:=Option.some.inj H
   go_enter Tryz.func28,Tryz.ntmps28
   go_wp2_with (first | (go_at_call 55;(with_reducible refine (scan_word.calls k a0 t218 _ ?side1 A3.out).mono ?_);(case side1 => exact Tabs.below HG.out (bl0 HB.out));rintro e w6 ⟨rfl,hb⟩;replace HB:=Aside0.mk (below_step (bl0 HB.out) hb);(try clear hb)) | (go_at_call 56;(with_reducible refine (utf8_RuneCountInString.calls a0 t219 _ ?side1 A5.out).mono ?_);(case side1 => exact Tabs.below HG.out (bl0 HB.out));rintro e w7 ⟨rfl,hb⟩;replace HB:=Aside0.mk (below_step (bl0 HB.out) hb);(try clear hb)))
   go_ret
   exact ⟨by first | rfl | (simp [errW_none,errW_some] <;> rfl) | (simp [*,errW_none,errW_some] <;> rfl),bl0 HB.out⟩
  ·rw [if_neg c4] at H;have c4b0 : (t218 == (a0.size : Int)) = false:=beq_eq_false_iff_ne.mpr c4;have c4b1 : (t218 != (a0.size : Int)) = true:=bne_iff_ne.mpr c4;obtain rfl:=Option.some.inj H
   go_enter Tryz.func28,Tryz.ntmps28
   go_wp2_with (first | (go_at_call 55;(with_reducible refine (scan_word.calls k a0 t218 _ ?side1 A3.out).mono ?_);(case side1 => exact Tabs.below HG.out (bl0 HB.out));rintro e w8 ⟨rfl,hb⟩;replace HB:=Aside0.mk (below_step (bl0 HB.out) hb);(try clear hb)))
   go_ret
   exact ⟨by first | rfl | (simp [errW_none,errW_some] <;> rfl) | (simp [*,errW_none,errW_some] <;> rfl),bl0 HB.out⟩

/-! ### limits_within: function 29 -/
def limits_within.f (a0 : Int) (a1 : Int) : Option (Bool):=if a0 ≥ 0 then (some (decide (a0 ≤ a1))) else (some false)
set_option maxHeartbeats 8000000 in
set_option maxRecDepth 100000 in
theorem limits_within.calls (a0 : Int) (a1 : Int) (r : Bool) (w : World) (h : limits_within.f a0 a1 = some r) :
  Calls Tryz.prog 29 #[.int .i64 a0,.int .i64 a1] w fun e w' => e = .returned (.bool r) ∧ Drawn0 w w':=by
 have H : (if a0 ≥ 0 then (some (decide (a0 ≤ a1))) else (some false)) = some r:=h;clear h
 by_cases c3 : a0 ≥ 0
 ·rw [if_pos c3] at H;have c3b0 : decide (0 ≤ a0) = true:=decide_eq_true c3;clear c3;obtain rfl:=Option.some.inj H
  go_enter Tryz.func29,Tryz.ntmps29
  go_wp2
  go_ret
  exact ⟨by first | rfl | (simp;done) | (simp [*];done),by repeat (first | exact Drawn0.refl _ | apply Drawn0.step)⟩
 ·rw [if_neg c3] at H;have c3b0 : decide (0 ≤ a0) = false:=decide_eq_false c3;clear c3;obtain rfl:=Option.some.inj H
  go_enter Tryz.func29,Tryz.ntmps29
  go_wp2
  go_ret
  exact ⟨by first | rfl | (simp;done) | (simp [*];done),by repeat (first | exact Drawn0.refl _ | apply Drawn0.step)⟩

end Go.Proofs.YtgcmgfljbadljaaGreatDoor.L
