/- Written by a program of this claim's author (stubprint.py, over the kit's print) out of the translation: Go functions as Lean functions, and that the calls come to them. -/
import Derived.Test.YtgalbiokebghkaaDoorS0
import Derived.Test.YtgalbiokebghkaaDoorHandS
namespace Go.Proofs.YtgalbiokebghkaaDoor.S
open Go.RowKit Go.Proofs.YtgalbiokebghkaaDoorW.PrintWords Go.Proofs.YtgalbiokebghkaaDoorW.PrintLast Go.Proofs.YtgalbiokebghkaaDoorW.PrintMore Go.Proofs.YtgalbiokebghkaaDoor.HandS Go.Proofs.YtgalbiokebghkaaDoor.Iter
attribute [local go_sem] max2_int min2_int max_two min_two max_three min_three max_four min_four   -- for this text's walks alone
set_option linter.unusedVariables false
set_option linter.unusedSimpArgs false

/-! ### joustref01_mark: function 41 -/
def joustref01_mark.l0 : Nat → Int → Int → Option (Bool)
 | 0,_,_ => none
 | k + 1,x0,x3 => if x3 < 11 then (if 0 ≤ x3 then (if (wrap32 (bt (⟨#[123,125,40,41,58,59,43,42,60,61,45]⟩ : ByteArray) x3)) = x0 then (some true) else (joustref01_mark.l0 k x0 (wrap64 (x3 + 1)))) else (none)) else (some false)
def joustref01_mark.f (k : Nat) (a0 : Int) : Option (Bool):=joustref01_mark.l0 k a0 0
theorem joustref01_mark.mono_l : ∀ k,(∀ y0 y1,LeO (joustref01_mark.l0 k y0 y1) (joustref01_mark.l0 (k + 1) y0 y1))
 | 0 => fun _ _ r h => by simp [joustref01_mark.l0] at h
 | k + 1 => by
  have ih0:=joustref01_mark.mono_l k
  ·intro y0 y1
   unfold joustref01_mark.l0
   repeat' first
   | (with_reducible exact ih0 _ _)
   | (with_reducible exact LeO.refl _)
   | (with_reducible exact LeO.none _)
   | (with_reducible refine LeO.ite ?_ ?_)
   | (with_reducible refine LeO.bind ?_ (fun _ => ?_))
   | exact ih0 _ _
   | exact LeO.none _
   | refine LeO.ite ?_ ?_
   | refine LeO.bind ?_ (fun _ => ?_)
theorem joustref01_mark.mono : ∀ a0 k,LeO (joustref01_mark.f k a0) (joustref01_mark.f (k + 1) a0):=by
 intro a0 k
 have ih0:=joustref01_mark.mono_l k
 unfold joustref01_mark.f
 repeat' first
   | (with_reducible exact ih0 _ _)
   | (with_reducible exact LeO.refl _)
   | (with_reducible exact LeO.none _)
   | (with_reducible refine LeO.ite ?_ ?_)
   | (with_reducible refine LeO.bind ?_ (fun _ => ?_))
   | exact ih0 _ _
   | exact LeO.none _
   | refine LeO.ite ?_ ?_
   | refine LeO.bind ?_ (fun _ => ?_)
set_option maxHeartbeats 8000000 in
set_option maxRecDepth 100000 in
theorem joustref01_mark.calls (k : Nat) (a0 : Int) (r : Bool) (w : World) (h : joustref01_mark.f k a0 = some r) :
  Calls Tryd.prog 41 #[.int .i32 a0] w fun e w' => e = .returned (.bool r) ∧ Drawn0 w w':=by
 have H : (joustref01_mark.l0 k a0 0) = some r:=h
 clear h
 have H':=Aside0.mk H
 clear H
 go_enter Tryd.func41,Tryd.ntmps41
 go_wp2
 (try simp only [Act.put,List.setIfInBounds_toArray,List.set_cons_zero,List.set_cons_succ])
 go_loopg [3] k (fun kq v3 w' => ∃ (x3_1 : Int),v3 = .int .i64 x3_1 ∧ Aside0 (joustref01_mark.l0 kq a0 x3_1 = some r) ∧ Aside0 (kq ≤ k) ∧ Drawn0 w w')
 case atStart => exact ⟨(0),(by first | rfl | (simp;done) | (simp [*];done)),H',⟨Nat.le_refl _⟩,by repeat (first | exact Drawn0.refl _ | apply Drawn0.step)⟩
 case round =>
  clear H'
  obtain ⟨x3_1,rfl,HA,HK1,⟨m1,rfl⟩⟩:=hrel
  cases gk with
  | zero => exact absurd HA.out (by simp [joustref01_mark.l0])
  | succ k1 =>
   have H:=HA.out
   clear HA
   simp only [joustref01_mark.l0] at H
   by_cases c2 : x3_1 < 11
   ·rw [if_pos c2] at H
    have c2b0 : decide (x3_1 < 11) = true:=decide_eq_true c2
    clear c2
    by_cases c3 : 0 ≤ x3_1
    ·rw [if_pos c3] at H
     have c3b0 : decide (0 ≤ x3_1) = true:=decide_eq_true c3
     clear c3
     by_cases c5 : (wrap32 (bt (⟨#[123,125,40,41,58,59,43,42,60,61,45]⟩ : ByteArray) x3_1)) = a0
     ·rw [if_pos c5] at H
      have c5b0 : ((wrap32 (bt (⟨#[123,125,40,41,58,59,43,42,60,61,45]⟩ : ByteArray) x3_1)) == a0) = true:=beq_iff_eq.mpr c5
      have c5b1 : ((wrap32 (bt (⟨#[123,125,40,41,58,59,43,42,60,61,45]⟩ : ByteArray) x3_1)) != a0) = false:=bne_eq_false_iff_eq.mpr c5
      clear c5
      obtain rfl:=Option.some.inj H
      have p4 : 0 ≤ (x3_1 : Int):=of_decide_eq_true (by first | (with_reducible assumption) | assumption)
      have q4 : x3_1 < (11 : Int):=of_decide_eq_true (by first | (with_reducible assumption) | assumption)
      have hx4:=bt_at (⟨#[123,125,40,41,58,59,43,42,60,61,45]⟩ : ByteArray) x3_1
      replace p4:=eq_true p4
      replace q4:=eq_true q4
      go_wp2
      go_ret
      exact ⟨by first | rfl | (simp;done) | (simp [*];done),by repeat (first | exact Drawn0.refl _ | apply Drawn0.step)⟩
     ·rw [if_neg c5] at H
      have c5b0 : ((wrap32 (bt (⟨#[123,125,40,41,58,59,43,42,60,61,45]⟩ : ByteArray) x3_1)) == a0) = false:=beq_eq_false_iff_ne.mpr c5
      have c5b1 : ((wrap32 (bt (⟨#[123,125,40,41,58,59,43,42,60,61,45]⟩ : ByteArray) x3_1)) != a0) = true:=bne_iff_ne.mpr c5
      have H':=Aside0.mk H
      clear H
      have p4 : 0 ≤ (x3_1 : Int):=of_decide_eq_true (by first | (with_reducible assumption) | assumption)
      have q4 : x3_1 < (11 : Int):=of_decide_eq_true (by first | (with_reducible assumption) | assumption)
      have hx4:=bt_at (⟨#[123,125,40,41,58,59,43,42,60,61,45]⟩ : ByteArray) x3_1
      replace p4:=eq_true p4
      replace q4:=eq_true q4
      go_wp2
      go_roundg k1
      case measure => have:=HK1.out;omega
      case rel => exact ⟨(wrap64 (x3_1 + 1)),(by first | rfl | (simp;done) | (simp [*];done)),H',⟨by have:=HK1.out;omega⟩,by repeat (first | exact Drawn0.refl _ | apply Drawn0.step)⟩
    ·rw [if_neg c3] at H
     exact absurd H (by simp)
   ·rw [if_neg c2] at H
    have c2b0 : decide (x3_1 < 11) = false:=decide_eq_false c2
    clear c2
    obtain rfl:=Option.some.inj H
    go_wp2
    go_ret
    exact ⟨by first | rfl | (simp;done) | (simp [*];done),by repeat (first | exact Drawn0.refl _ | apply Drawn0.step)⟩

end Go.Proofs.YtgalbiokebghkaaDoor.S
