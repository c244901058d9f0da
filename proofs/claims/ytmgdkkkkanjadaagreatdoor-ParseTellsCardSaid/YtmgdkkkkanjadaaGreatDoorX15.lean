/- Written by a program of this claim's author (stubprint.py, over the kit's print) out of the translation: Go functions as Lean functions, and that the calls come to them. -/
import Derived.Test.YtmgdkkkkanjadaaGreatDoorX0
import Derived.Test.YtmgdkkkkanjadaaGreatDoorX13
import Derived.Test.YtmgdkkkkanjadaaGreatDoorHandS
import Derived.WalkLawsBesides
namespace Go.Proofs.YtmgdkkkkanjadaaGreatDoor.X
open Go.RowKit Go.Proofs.YtmgdkkkkanjadaaGreatDoorW.PrintWords Go.Proofs.YtmgdkkkkanjadaaGreatDoorW.PrintLast Go.Proofs.YtmgdkkkkanjadaaGreatDoorW.PrintMore Go.Proofs.YtmgdkkkkanjadaaGreatDoor.HandS Go.Proofs.YtmgdkkkkanjadaaGreatDoor.Iter
attribute [local go_sem] max2_int min2_int max_two min_two max_three min_three max_four min_four   -- for this text's walks alone
set_option linter.unusedVariables false
set_option linter.unusedSimpArgs false

/-! ### joustref01_number: function 85 -/
def joustref01_number.l0 : Nat → ByteArray → Int → Option (Int)
 | 0,_,_ => none
 | k + 1,x0,x3 => if x3 < (x0.size : Int) then (if 0 ≤ x3 then ((joustref01_digit.f (wrap32 (bt x0 x3))).bind fun t117 => (if t117 = true then (joustref01_number.l0 k x0 (wrap64 (x3 + 1))) else (some x3))) else (none)) else (some x3)
def joustref01_number.f (k : Nat) (a0 : ByteArray) : Option (Int):=joustref01_number.l0 k a0 0
theorem joustref01_number.mono_l : ∀ k,(∀ y0 y1,LeO (joustref01_number.l0 k y0 y1) (joustref01_number.l0 (k + 1) y0 y1))
 | 0 => fun _ _ r h => by simp [joustref01_number.l0] at h
 | k + 1 => by
  have ih0:=joustref01_number.mono_l k
  ·intro y0 y1
   unfold joustref01_number.l0
   repeat' first
   | (with_reducible exact ih0 _ _)
   | (with_reducible exact LeO.refl _)
   | (with_reducible exact LeO.none _)
   | (with_reducible refine LeO.ite ?_ ?_)
   | (with_reducible refine LeO.bind ?_ (fun _ => ?_))
   | exact ih0 _ _
   | exact LeO.none _
   | refine LeO.ite ?_ ?_
   | refine LeO.bind ?_ (fun _ => ?_)
theorem joustref01_number.mono : ∀ a0 k,LeO (joustref01_number.f k a0) (joustref01_number.f (k + 1) a0):=by
 intro a0 k;have ih0:=joustref01_number.mono_l k
 unfold joustref01_number.f
 repeat' first
   | (with_reducible exact ih0 _ _)
   | (with_reducible exact LeO.refl _)
   | (with_reducible exact LeO.none _)
   | (with_reducible refine LeO.ite ?_ ?_)
   | (with_reducible refine LeO.bind ?_ (fun _ => ?_))
   | exact ih0 _ _
   | exact LeO.none _
   | refine LeO.ite ?_ ?_
   | refine LeO.bind ?_ (fun _ => ?_)
set_option maxHeartbeats 8000000 in
set_option maxRecDepth 100000 in
theorem joustref01_number.calls (k : Nat) (a0 : ByteArray) (r : Int) (w : World) (h : joustref01_number.f k a0 = some r) :
  Calls Tryz.prog 85 #[.string a0] w fun e w' => e = .returned (.int .i64 r) ∧ Drawn0 w w':=by
 have H : (joustref01_number.l0 k a0 0) = some r:=h;clear h;have H':=Aside0.mk H;clear H
 go_enter Tryz.func85,Tryz.ntmps85
 go_wp2
 go_loopg [3] k (fun kq v3 w' => ∃ (x3_1 : Int),v3 = .int .i64 x3_1 ∧ Aside0 (joustref01_number.l0 kq a0 x3_1 = some r) ∧ Aside0 (kq ≤ k) ∧ Drawn0 w w')
 case atStart => exact ⟨(0),(by first | rfl | (simp;done) | (simp [*];done)),H',⟨Nat.le_refl _⟩,by repeat (first | exact Drawn0.refl _ | apply Drawn0.step)⟩
 case round =>
  clear H';obtain ⟨x3_1,rfl,HA,HK1,⟨m1,rfl⟩⟩:=hrel
  cases gk with
  | zero => exact absurd HA.out (by simp [joustref01_number.l0])
  | succ k1 =>
   have H:=HA.out;clear HA;simp only [joustref01_number.l0] at H
   by_cases c2 : x3_1 < (a0.size : Int)
   ·rw [if_pos c2] at H;have c2b0 : decide (x3_1 < (a0.size : Int)) = true:=decide_eq_true c2;clear c2
    by_cases c3 : 0 ≤ x3_1
    ·rw [if_pos c3] at H;have c3b0 : decide (0 ≤ x3_1) = true:=decide_eq_true c3;clear c3;replace H:=Option.bind_eq_some_iff.mp H;obtain ⟨t117,A50,H⟩:=H
     (try dsimp only at H)
     have A5:=Aside0.mk A50;clear A50
     by_cases c6 : t117 = true
     ·subst c6;rw [if_pos rfl] at H;have H':=Aside0.mk H;clear H;have p4 : 0 ≤ (x3_1 : Int):=of_decide_eq_true (by first | (with_reducible assumption) | assumption);have q4 : x3_1 < (a0.size : Int):=of_decide_eq_true (by first | (with_reducible assumption) | assumption);have hx4:=bt_at a0 x3_1;replace p4:=eq_true p4;replace q4:=eq_true q4
      go_wp2_with (first | (go_at_call 84;(with_reducible refine (joustref01_digit.calls (wrap32 (bt a0 x3_1)) true _ A5.out).mono ?_);rintro e w' ⟨rfl,⟨nd,rfl⟩⟩))
      go_roundg k1
      case measure => have:=HK1.out;omega
      case rel => exact ⟨(wrap64 (x3_1 + 1)),(by first | rfl | (simp;done) | (simp [*];done)),H',⟨by have:=HK1.out;omega⟩,by repeat (first | exact Drawn0.refl _ | apply Drawn0.step)⟩
     ·replace c6:=Bool.eq_false_iff.mpr c6;subst c6;rw [if_neg (show ¬ (false = true) by decide)] at H;obtain rfl:=Option.some.inj H;have p4 : 0 ≤ (x3_1 : Int):=of_decide_eq_true (by first | (with_reducible assumption) | assumption);have q4 : x3_1 < (a0.size : Int):=of_decide_eq_true (by first | (with_reducible assumption) | assumption);have hx4:=bt_at a0 x3_1;replace p4:=eq_true p4;replace q4:=eq_true q4
      go_wp2_with (first | (go_at_call 84;(with_reducible refine (joustref01_digit.calls (wrap32 (bt a0 x3_1)) false _ A5.out).mono ?_);rintro e w' ⟨rfl,⟨nd,rfl⟩⟩))
      go_ret
      exact ⟨by first | rfl | (simp;done) | (simp [*];done),by repeat (first | exact Drawn0.refl _ | apply Drawn0.step)⟩
    ·rw [if_neg c3] at H;exact absurd H (by simp)
   ·rw [if_neg c2] at H;have c2b0 : decide (x3_1 < (a0.size : Int)) = false:=decide_eq_false c2;clear c2;obtain rfl:=Option.some.inj H
    go_wp2
    go_ret
    exact ⟨by first | rfl | (simp;done) | (simp [*];done),by repeat (first | exact Drawn0.refl _ | apply Drawn0.step)⟩

/-! ### joustref01_great: function 86 -/
def joustref01_great.l0 : Nat → ByteArray → Int → Int → Option (Bool)
 | 0,_,_,_ => none
 | k + 1,x0,x3,x4 => if x4 < (x0.size : Int) then (if 0 ≤ x4 then (joustref01_great.l0 k x0 (mn (wrap64 ((wrap64 (10 * x3)) + (((bt x0 x4) - 48) % 256))) 100000) (wrap64 (x4 + 1))) else (none)) else (some (decide (x3 > 99999)))
def joustref01_great.f (k : Nat) (a0 : ByteArray) : Option (Bool):=joustref01_great.l0 k a0 0 0
theorem joustref01_great.mono_l : ∀ k,(∀ y0 y1 y2,LeO (joustref01_great.l0 k y0 y1 y2) (joustref01_great.l0 (k + 1) y0 y1 y2))
 | 0 => fun _ _ _ r h => by simp [joustref01_great.l0] at h
 | k + 1 => by
  have ih0:=joustref01_great.mono_l k
  ·intro y0 y1 y2
   unfold joustref01_great.l0
   repeat' first
   | (with_reducible exact ih0 _ _ _)
   | (with_reducible exact LeO.refl _)
   | (with_reducible exact LeO.none _)
   | (with_reducible refine LeO.ite ?_ ?_)
   | (with_reducible refine LeO.bind ?_ (fun _ => ?_))
   | exact ih0 _ _ _
   | exact LeO.none _
   | refine LeO.ite ?_ ?_
   | refine LeO.bind ?_ (fun _ => ?_)
theorem joustref01_great.mono : ∀ a0 k,LeO (joustref01_great.f k a0) (joustref01_great.f (k + 1) a0):=by
 intro a0 k;have ih0:=joustref01_great.mono_l k
 unfold joustref01_great.f
 repeat' first
   | (with_reducible exact ih0 _ _ _)
   | (with_reducible exact LeO.refl _)
   | (with_reducible exact LeO.none _)
   | (with_reducible refine LeO.ite ?_ ?_)
   | (with_reducible refine LeO.bind ?_ (fun _ => ?_))
   | exact ih0 _ _ _
   | exact LeO.none _
   | refine LeO.ite ?_ ?_
   | refine LeO.bind ?_ (fun _ => ?_)
set_option maxHeartbeats 8000000 in
set_option maxRecDepth 100000 in
theorem joustref01_great.calls (k : Nat) (a0 : ByteArray) (r : Bool) (w : World) (h : joustref01_great.f k a0 = some r) :
  Calls Tryz.prog 86 #[.string a0] w fun e w' => e = .returned (.bool r) ∧ Below w.heap.size w w':=by
 have HB:=Aside0.mk (Below.refl w.heap.size w);have H : (joustref01_great.l0 k a0 0 0) = some r:=h;clear h;have H':=Aside0.mk H;clear H
 go_enter Tryz.func86,Tryz.ntmps86
 go_wp2
 go_loopg [3,4] k (fun kq v3 v4 w' => ∃ (x3_1 : Int) (x4_1 : Int),v3 = .int .i64 x3_1 ∧ v4 = .int .i64 x4_1 ∧ Aside0 (joustref01_great.l0 kq a0 x3_1 x4_1 = some r) ∧ Aside0 (kq ≤ k) ∧ Aside0 (Below w.heap.size w w'))
 case atStart => exact ⟨(0),(0),(by first | rfl | (simp;done) | (simp [*];done)),(by first | rfl | (simp;done) | (simp [*];done)),H',⟨Nat.le_refl _⟩,⟨bl0 HB.out⟩⟩
 case round =>
  clear H';obtain ⟨x3_1,x4_1,rfl,rfl,HA,HK1,HB⟩:=hrel
  cases gk with
  | zero => exact absurd HA.out (by simp [joustref01_great.l0])
  | succ k1 =>
   have H:=HA.out;clear HA;simp only [joustref01_great.l0] at H
   by_cases c2 : x4_1 < (a0.size : Int)
   ·rw [if_pos c2] at H;have c2b0 : decide (x4_1 < (a0.size : Int)) = true:=decide_eq_true c2;clear c2
    by_cases c3 : 0 ≤ x4_1
    ·rw [if_pos c3] at H;have c3b0 : decide (0 ≤ x4_1) = true:=decide_eq_true c3;clear c3;obtain ⟨ji5,hji5⟩ : ∃ j_ : Int,(mn (wrap64 ((wrap64 (10 * x3_1)) + (((bt a0 x4_1) - 48) % 256))) 100000) = j_:=⟨_,rfl⟩;replace H : (joustref01_great.l0 k1 a0 ji5 (wrap64 (x4_1 + 1))) = some r:=by first | (rw [hji5] at H;exact H) | (simp only [hji5] at H ⊢;exact H)
     have hji5_ : (if 100000 < (wrap64 ((wrap64 (10 * x3_1)) + (((bt a0 x4_1) - 48) % 256))) then 100000 else (wrap64 ((wrap64 (10 * x3_1)) + (((bt a0 x4_1) - 48) % 256)))) = ji5:=hji5;have H':=Aside0.mk H;clear H;have p4 : 0 ≤ (x4_1 : Int):=of_decide_eq_true (by first | (with_reducible assumption) | assumption);have q4 : x4_1 < (a0.size : Int):=of_decide_eq_true (by first | (with_reducible assumption) | assumption);have hx4:=bt_at a0 x4_1;replace p4:=eq_true p4;replace q4:=eq_true q4
     go_wp2
     go_roundg k1
     case measure => have:=HK1.out;omega
     case rel => exact ⟨(ji5),(wrap64 (x4_1 + 1)),(by first | rfl | (simp;done) | (simp only [← hji5] <;> (first | rfl | simp)) | (simp [*];done)),(by first | rfl | (simp;done) | (simp [*];done)),H',⟨by have:=HK1.out;omega⟩,⟨bl0 HB.out⟩⟩
    ·rw [if_neg c3] at H;exact absurd H (by simp)
   ·rw [if_neg c2] at H;have c2b0 : decide (x4_1 < (a0.size : Int)) = false:=decide_eq_false c2;clear c2;obtain rfl:=Option.some.inj H
    go_wp2
    go_ret
    exact ⟨by first | rfl | (simp [errW_none,errW_some] <;> rfl) | (simp [*,errW_none,errW_some] <;> rfl),bl0 HB.out⟩

/-! ### joustref01_mark: function 88 -/
def joustref01_mark.l0 : Nat → Int → Int → Option (Bool)
 | 0,_,_ => none
 | k + 1,x0,x3 => if x3 < 11 then (if 0 ≤ x3 then (if (wrap32 (bt (⟨#[123,125,40,41,58,59,43,42,60,61,45]⟩ : ByteArray) x3)) = x0 then (some true) else (joustref01_mark.l0 k x0 (wrap64 (x3 + 1)))) else (none)) else (some false)
def joustref01_mark.f (k : Nat) (a0 : Int) : Option (Bool):=joustref01_mark.l0 k a0 0
theorem joustref01_mark.mono_l : ∀ k,(∀ y0 y1,LeO (joustref01_mark.l0 k y0 y1) (joustref01_mark.l0 (k + 1) y0 y1))
 | 0 => fun _ _ r h => by simp [joustref01_mark.l0] at h
 | k + 1 => by
  have ih0:=joustref01_mark.mono_l k
  ·intro y0 y1
   unfold joustref01_mark.l0
   repeat' first
   | (with_reducible exact ih0 _ _)
   | (with_reducible exact LeO.refl _)
   | (with_reducible exact LeO.none _)
   | (with_reducible refine LeO.ite ?_ ?_)
   | (with_reducible refine LeO.bind ?_ (fun _ => ?_))
   | exact ih0 _ _
   | exact LeO.none _
   | refine LeO.ite ?_ ?_
   | refine LeO.bind ?_ (fun _ => ?_)
theorem joustref01_mark.mono : ∀ a0 k,LeO (joustref01_mark.f k a0) (joustref01_mark.f (k + 1) a0):=by
 intro a0 k;have ih0:=joustref01_mark.mono_l k
 unfold joustref01_mark.f
 repeat' first
   | (with_reducible exact ih0 _ _)
   | (with_reducible exact LeO.refl _)
   | (with_reducible exact LeO.none _)
   | (with_reducible refine LeO.ite ?_ ?_)
   | (with_reducible refine LeO.bind ?_ (fun _ => ?_))
   | exact ih0 _ _
   | exact LeO.none _
   | refine LeO.ite ?_ ?_
   | refine LeO.bind ?_ (fun _ => ?_)
set_option maxHeartbeats 8000000 in
set_option maxRecDepth 100000 in
theorem joustref01_mark.calls (k : Nat) (a0 : Int) (r : Bool) (w : World) (h : joustref01_mark.f k a0 = some r) :
  Calls Tryz.prog 88 #[.int .i32 a0] w fun e w' => e = .returned (.bool r) ∧ Drawn0 w w':=by
 have H : (joustref01_mark.l0 k a0 0) = some r:=h;clear h;have H':=Aside0.mk H;clear H
 go_enter Tryz.func88,Tryz.ntmps88
 go_wp2
 go_loopg [3] k (fun kq v3 w' => ∃ (x3_1 : Int),v3 = .int .i64 x3_1 ∧ Aside0 (joustref01_mark.l0 kq a0 x3_1 = some r) ∧ Aside0 (kq ≤ k) ∧ Drawn0 w w')
 case atStart => exact ⟨(0),(by first | rfl | (simp;done) | (simp [*];done)),H',⟨Nat.le_refl _⟩,by repeat (first | exact Drawn0.refl _ | apply Drawn0.step)⟩
 case round =>
  clear H';obtain ⟨x3_1,rfl,HA,HK1,⟨m1,rfl⟩⟩:=hrel
  cases gk with
  | zero => exact absurd HA.out (by simp [joustref01_mark.l0])
  | succ k1 =>
   have H:=HA.out;clear HA;simp only [joustref01_mark.l0] at H
   by_cases c2 : x3_1 < 11
   ·rw [if_pos c2] at H;have c2b0 : decide (x3_1 < 11) = true:=decide_eq_true c2;clear c2
    by_cases c3 : 0 ≤ x3_1
    ·rw [if_pos c3] at H;have c3b0 : decide (0 ≤ x3_1) = true:=decide_eq_true c3;clear c3
     by_cases c5 : (wrap32 (bt (⟨#[123,125,40,41,58,59,43,42,60,61,45]⟩ : ByteArray) x3_1)) = a0
     ·rw [if_pos c5] at H;have c5b0 : ((wrap32 (bt (⟨#[123,125,40,41,58,59,43,42,60,61,45]⟩ : ByteArray) x3_1)) == a0) = true:=beq_iff_eq.mpr c5;have c5b1 : ((wrap32 (bt (⟨#[123,125,40,41,58,59,43,42,60,61,45]⟩ : ByteArray) x3_1)) != a0) = false:=bne_eq_false_iff_eq.mpr c5;clear c5;obtain rfl:=Option.some.inj H;have p4 : 0 ≤ (x3_1 : Int):=of_decide_eq_true (by first | (with_reducible assumption) | assumption);have q4 : x3_1 < (11 : Int):=of_decide_eq_true (by first | (with_reducible assumption) | assumption);have hx4:=bt_at (⟨#[123,125,40,41,58,59,43,42,60,61,45]⟩ : ByteArray) x3_1;replace p4:=eq_true p4;replace q4:=eq_true q4
      go_wp2
      go_ret
      exact ⟨by first | rfl | (simp;done) | (simp [*];done),by repeat (first | exact Drawn0.refl _ | apply Drawn0.step)⟩
     ·rw [if_neg c5] at H;have c5b0 : ((wrap32 (bt (⟨#[123,125,40,41,58,59,43,42,60,61,45]⟩ : ByteArray) x3_1)) == a0) = false:=beq_eq_false_iff_ne.mpr c5;have c5b1 : ((wrap32 (bt (⟨#[123,125,40,41,58,59,43,42,60,61,45]⟩ : ByteArray) x3_1)) != a0) = true:=bne_iff_ne.mpr c5;have H':=Aside0.mk H;clear H;have p4 : 0 ≤ (x3_1 : Int):=of_decide_eq_true (by first | (with_reducible assumption) | assumption);have q4 : x3_1 < (11 : Int):=of_decide_eq_true (by first | (with_reducible assumption) | assumption);have hx4:=bt_at (⟨#[123,125,40,41,58,59,43,42,60,61,45]⟩ : ByteArray) x3_1;replace p4:=eq_true p4;replace q4:=eq_true q4
      go_wp2
      go_roundg k1
      case measure => have:=HK1.out;omega
      case rel => exact ⟨(wrap64 (x3_1 + 1)),(by first | rfl | (simp;done) | (simp [*];done)),H',⟨by have:=HK1.out;omega⟩,by repeat (first | exact Drawn0.refl _ | apply Drawn0.step)⟩
    ·rw [if_neg c3] at H;exact absurd H (by simp)
   ·rw [if_neg c2] at H;have c2b0 : decide (x3_1 < 11) = false:=decide_eq_false c2;clear c2;obtain rfl:=Option.some.inj H
    go_wp2
    go_ret
    exact ⟨by first | rfl | (simp;done) | (simp [*];done),by repeat (first | exact Drawn0.refl _ | apply Drawn0.step)⟩

end Go.Proofs.YtmgdkkkkanjadaaGreatDoor.X
