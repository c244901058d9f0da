/- Written by a program of this claim's author (stubprint.py, over the kit's print) out of the translation: Go functions as Lean functions, and that the calls come to them. -/
import Derived.Test.YtmgdkkkkanjadaaGreatDoorX0
import Derived.Test.YtmgdkkkkanjadaaGreatDoorHandS
import Derived.WalkLawsBesides
namespace Go.Proofs.YtmgdkkkkanjadaaGreatDoor.X
open Go.RowKit Go.Proofs.YtmgdkkkkanjadaaGreatDoorW.PrintWords Go.Proofs.YtmgdkkkkanjadaaGreatDoorW.PrintLast Go.Proofs.YtmgdkkkkanjadaaGreatDoorW.PrintMore Go.Proofs.YtmgdkkkkanjadaaGreatDoor.HandS Go.Proofs.YtmgdkkkkanjadaaGreatDoor.Iter
attribute [local go_sem] max2_int min2_int max_two min_two max_three min_three max_four min_four   -- for this text's walks alone
set_option linter.unusedVariables false
set_option linter.unusedSimpArgs false

/-! ### joustref01_remark: function 82 -/
mutual
def joustref01_remark.l0 : Nat → ByteArray → Int → Option (Int × Int)
 | 0,_,_ => none
 | k + 1,x0,x4 => if x4 < (x0.size : Int) then (if 0 ≤ x4 then (joustref01_remark.j1 k x0 x4 ((bt x0 x4) != 10)) else (none)) else (joustref01_remark.j1 k x0 x4 false)
def joustref01_remark.j1 : Nat → ByteArray → Int → Bool → Option (Int × Int)
 | 0,_,_,_ => none
 | k + 1,x0,x4,x16 => if x16 = true then (if 0 ≤ x4 then (if x4 ≤ (x0.size : Int) then ((utf8_DecodeRuneInString.f (x0.extract (x4 : Int).toNat x0.size)).bind fun bt105 => (if bt105.1 = 65533 then (if bt105.2 = 1 then (some (0,x4)) else (joustref01_remark.l0 k x0 (wrap64 (x4 + bt105.2)))) else (joustref01_remark.l0 k x0 (wrap64 (x4 + bt105.2))))) else (none)) else (none)) else (some (x4,(-1)))
end
def joustref01_remark.f (k : Nat) (a0 : ByteArray) : Option (Int × Int):=joustref01_remark.l0 k a0 0
theorem joustref01_remark.mono_l : ∀ k,(∀ y0 y1,LeO (joustref01_remark.l0 k y0 y1) (joustref01_remark.l0 (k + 1) y0 y1)) ∧ (∀ y0 y1 y2,LeO (joustref01_remark.j1 k y0 y1 y2) (joustref01_remark.j1 (k + 1) y0 y1 y2))
 | 0 => ⟨fun _ _ r h => by simp [joustref01_remark.l0] at h,fun _ _ _ r h => by simp [joustref01_remark.j1] at h⟩
 | k + 1 => by
  obtain ⟨ih0,ih1⟩:=joustref01_remark.mono_l k;refine ⟨?_,?_⟩
  ·intro y0 y1
   unfold joustref01_remark.l0
   repeat' first
   | (with_reducible exact ih0 _ _)
   | (with_reducible exact ih1 _ _ _)
   | (with_reducible exact LeO.refl _)
   | (with_reducible exact LeO.none _)
   | (with_reducible refine LeO.ite ?_ ?_)
   | (with_reducible refine LeO.bind ?_ (fun _ => ?_))
   | exact ih0 _ _
   | exact ih1 _ _ _
   | exact LeO.none _
   | refine LeO.ite ?_ ?_
   | refine LeO.bind ?_ (fun _ => ?_)
  ·intro y0 y1 y2
   unfold joustref01_remark.j1
   repeat' first
   | (with_reducible exact ih0 _ _)
   | (with_reducible exact ih1 _ _ _)
   | (with_reducible exact LeO.refl _)
   | (with_reducible exact LeO.none _)
   | (with_reducible refine LeO.ite ?_ ?_)
   | (with_reducible refine LeO.bind ?_ (fun _ => ?_))
   | exact ih0 _ _
   | exact ih1 _ _ _
   | exact LeO.none _
   | refine LeO.ite ?_ ?_
   | refine LeO.bind ?_ (fun _ => ?_)
theorem joustref01_remark.mono : ∀ a0 k,LeO (joustref01_remark.f k a0) (joustref01_remark.f (k + 1) a0):=by
 intro a0 k;obtain ⟨ih0,ih1⟩:=joustref01_remark.mono_l k
 unfold joustref01_remark.f
 repeat' first
   | (with_reducible exact ih0 _ _)
   | (with_reducible exact ih1 _ _ _)
   | (with_reducible exact LeO.refl _)
   | (with_reducible exact LeO.none _)
   | (with_reducible refine LeO.ite ?_ ?_)
   | (with_reducible refine LeO.bind ?_ (fun _ => ?_))
   | exact ih0 _ _
   | exact ih1 _ _ _
   | exact LeO.none _
   | refine LeO.ite ?_ ?_
   | refine LeO.bind ?_ (fun _ => ?_)
set_option maxHeartbeats 8000000 in
set_option maxRecDepth 100000 in
theorem joustref01_remark.calls (k : Nat) (a0 : ByteArray) (r1 : Int) (r2 : Int) (w : World) (hG : Tabs w) (h : joustref01_remark.f k a0 = some (r1,r2)) :
  Calls Tryz.prog 82 #[.string a0] w fun e w' => e = .returned (.tuple #[.int .i64 r1,.int .i64 r2]) ∧ Below w.heap.size w w':=by
 have HG:=Aside0.mk hG;clear hG;have HB:=Aside0.mk (Below.refl w.heap.size w);have H : (joustref01_remark.l0 k a0 0) = some (r1,r2):=h;clear h;have H':=Aside0.mk H;clear H
 go_enter Tryz.func82,Tryz.ntmps82
 go_wp2
 go_loopg [4] k (fun kq v4 w' => ∃ (x4_1 : Int),v4 = .int .i64 x4_1 ∧ Aside0 (joustref01_remark.l0 kq a0 x4_1 = some (r1,r2)) ∧ Aside0 (kq ≤ k) ∧ Aside0 (Below w.heap.size w w'))
 case atStart => exact ⟨(0),(by first | rfl | (simp;done) | (simp [*];done)),H',⟨Nat.le_refl _⟩,⟨bl0 HB.out⟩⟩
 case round =>
  clear H';obtain ⟨x4_1,rfl,HA,HK1,HB⟩:=hrel
  cases gk with
  | zero => exact absurd HA.out (by simp [joustref01_remark.l0])
  | succ k1 =>
   have H:=HA.out;clear HA;simp only [joustref01_remark.l0] at H;have HC2:=Aside0.mk H;clear H
   go_upto_region 2 with (fail)
   go_cut [16] (fun v16 wc => ∃ (kq : Nat) (x16_1 : Bool),v16 = .bool x16_1 ∧ Aside0 (joustref01_remark.j1 kq a0 x4_1 x16_1 = some (r1,r2)) ∧ Aside0 (kq ≤ k1) ∧ Aside0 (Below w.heap.size w wc))
   case first =>
    have H:=HC2.out;clear HC2
    by_cases c3 : x4_1 < (a0.size : Int)
    ·rw [if_pos c3] at H;have c3b0 : decide (x4_1 < (a0.size : Int)) = true:=decide_eq_true c3;clear c3
     (first | rw [c3b0] | (simp only [i64_w,i32_w];rw [c3b0]) | skip)
     by_cases c4 : 0 ≤ x4_1
     ·rw [if_pos c4] at H;have c4b0 : decide (0 ≤ x4_1) = true:=decide_eq_true c4;clear c4;have H':=Aside0.mk H;clear H;have p5 : 0 ≤ (x4_1 : Int):=of_decide_eq_true (by first | (with_reducible assumption) | assumption);have q5 : x4_1 < (a0.size : Int):=of_decide_eq_true (by first | (with_reducible assumption) | assumption);have hx5:=bt_at a0 x4_1;replace p5:=eq_true p5;replace q5:=eq_true q5
      go_wp2
      go_meet
      case rel => exact ⟨_,(((bt a0 x4_1) != 10)),(by first | rfl | (simp;done) | (simp [*];done)),H',⟨by have:=HK1.out;first | omega | exact Nat.le_refl _⟩,⟨bl0 HB.out⟩⟩
     ·rw [if_neg c4] at H;exact absurd H (by simp)
    ·rw [if_neg c3] at H;have c3b0 : decide (x4_1 < (a0.size : Int)) = false:=decide_eq_false c3;clear c3
     (first | rw [c3b0] | (simp only [i64_w,i32_w];rw [c3b0]) | skip)
     have H':=Aside0.mk H;clear H
     go_wp2
     go_meet
     case rel => exact ⟨_,(false),(by first | rfl | (simp;done) | (simp [*];done)),H',⟨by have:=HK1.out;first | omega | exact Nat.le_refl _⟩,⟨bl0 HB.out⟩⟩
   case rest =>
    clear HC2
    try clear p2
    try clear c3
    try clear c3b0
    try clear c4
    try clear c4b0
    try clear p5
    try clear q5
    try clear hx5
    try clear p5
    try clear q5
    obtain ⟨kq,x16_1,rfl,HA,HJ1,HB⟩:=hcut
    cases kq with
    | zero => exact absurd HA.out (by simp [joustref01_remark.j1])
    | succ kj1 =>
     have H:=HA.out;clear HA;simp only [joustref01_remark.j1] at H
     by_cases c6 : x16_1 = true
     ·subst c6;rw [if_pos rfl] at H
      by_cases c7 : 0 ≤ x4_1
      ·rw [if_pos c7] at H;have c7b0:=eq_true c7;have c7b1 : decide (0 ≤ x4_1) = true:=decide_eq_true c7;clear c7
       by_cases c8 : x4_1 ≤ (a0.size : Int)
       ·rw [if_pos c8] at H;have c8b0:=eq_true c8;have c8b1 : decide (x4_1 ≤ (a0.size : Int)) = true:=decide_eq_true c8;clear c8;replace H:=Option.bind_eq_some_iff.mp H;obtain ⟨⟨t105,t106⟩,A90,H⟩:=H
        (try dsimp only at H)
        have A9:=Aside0.mk A90;clear A90
        by_cases c10 : t105 = 65533
        ·rw [if_pos c10] at H;have c10b0 : (t105 == 65533) = true:=beq_iff_eq.mpr c10;have c10b1 : (t105 != 65533) = false:=bne_eq_false_iff_eq.mpr c10;clear c10
         by_cases c11 : t106 = 1
         ·rw [if_pos c11] at H;have c11b0 : (t106 == 1) = true:=beq_iff_eq.mpr c11;have c11b1 : (t106 != 1) = false:=bne_eq_false_iff_eq.mpr c11;clear c11;simp only [Option.some.injEq,Prod.mk.injEq] at H;obtain ⟨rfl,rfl⟩:=H
          go_wp2_with (first | ((with_reducible refine gate_callee (f:=80) rfl ?_);refine goesL_ (some 21) rfl rfl Tryz.func80 (by kernel_rfl) rfl #[.string (a0.extract (x4_1 : Int).toNat a0.size)] rfl ea ?_;(with_reducible refine (utf8_DecodeRuneInString.calls (a0.extract (x4_1 : Int).toNat a0.size) t105 t106 _ ?side1 A9.out).mono ?_);(case side1 => exact Tabs.below HG.out (bl0 HB.out));rintro e w12 ⟨rfl,hb⟩;refine ⟨_,rfl,?_⟩;replace HB:=Aside0.mk (below_step (bl0 HB.out) hb);(try clear hb)))
          go_ret2
          exact ⟨by first | rfl | (simp [errW_none,errW_some] <;> rfl) | (simp [*,errW_none,errW_some] <;> rfl),bl0 HB.out⟩
         ·rw [if_neg c11] at H;have c11b0 : (t106 == 1) = false:=beq_eq_false_iff_ne.mpr c11;have c11b1 : (t106 != 1) = true:=bne_iff_ne.mpr c11;have H':=Aside0.mk H;clear H
          go_wp2_with (first | ((with_reducible refine gate_callee (f:=80) rfl ?_);refine goesL_ (some 21) rfl rfl Tryz.func80 (by kernel_rfl) rfl #[.string (a0.extract (x4_1 : Int).toNat a0.size)] rfl ea ?_;(with_reducible refine (utf8_DecodeRuneInString.calls (a0.extract (x4_1 : Int).toNat a0.size) t105 t106 _ ?side1 A9.out).mono ?_);(case side1 => exact Tabs.below HG.out (bl0 HB.out));rintro e w13 ⟨rfl,hb⟩;refine ⟨_,rfl,?_⟩;replace HB:=Aside0.mk (below_step (bl0 HB.out) hb);(try clear hb)))
          go_roundg kj1
          case measure => have:=HK1.out;have:=HJ1.out;omega
          case rel => exact ⟨(wrap64 (x4_1 + t106)),(by first | rfl | (simp;done) | (simp [*];done)),H',⟨by have:=HK1.out;have:=HJ1.out;omega⟩,⟨bl0 HB.out⟩⟩
        ·rw [if_neg c10] at H;have c10b0 : (t105 == 65533) = false:=beq_eq_false_iff_ne.mpr c10;have c10b1 : (t105 != 65533) = true:=bne_iff_ne.mpr c10;have H':=Aside0.mk H;clear H
         go_wp2_with (first | ((with_reducible refine gate_callee (f:=80) rfl ?_);refine goesL_ (some 21) rfl rfl Tryz.func80 (by kernel_rfl) rfl #[.string (a0.extract (x4_1 : Int).toNat a0.size)] rfl ea ?_;(with_reducible refine (utf8_DecodeRuneInString.calls (a0.extract (x4_1 : Int).toNat a0.size) t105 t106 _ ?side1 A9.out).mono ?_);(case side1 => exact Tabs.below HG.out (bl0 HB.out));rintro e w14 ⟨rfl,hb⟩;refine ⟨_,rfl,?_⟩;replace HB:=Aside0.mk (below_step (bl0 HB.out) hb);(try clear hb)))
         go_roundg kj1
         case measure => have:=HK1.out;have:=HJ1.out;omega
         case rel => exact ⟨(wrap64 (x4_1 + t106)),(by first | rfl | (simp;done) | (simp [*];done)),H',⟨by have:=HK1.out;have:=HJ1.out;omega⟩,⟨bl0 HB.out⟩⟩
       ·rw [if_neg c8] at H;exact absurd H (by simp)
      ·rw [if_neg c7] at H;exact absurd H (by simp)
     ·replace c6:=Bool.eq_false_iff.mpr c6;subst c6;rw [if_neg (show ¬ (false = true) by decide)] at H;simp only [Option.some.injEq,Prod.mk.injEq] at H;obtain ⟨rfl,rfl⟩:=H
      go_wp2
      go_ret2
      exact ⟨by first | rfl | (simp [errW_none,errW_some] <;> rfl) | (simp [*,errW_none,errW_some] <;> rfl),bl0 HB.out⟩

-- by hand: function 87 (unicode_IsLetter)

/-! ### joustref01_digit: function 84 -/
def joustref01_digit.f (a0 : Int) : Option (Bool):=if a0 ≥ 48 then (some (decide (a0 ≤ 57))) else (some false)
set_option maxHeartbeats 8000000 in
set_option maxRecDepth 100000 in
theorem joustref01_digit.calls (a0 : Int) (r : Bool) (w : World) (h : joustref01_digit.f a0 = some r) :
  Calls Tryz.prog 84 #[.int .i32 a0] w fun e w' => e = .returned (.bool r) ∧ Drawn0 w w':=by
 have H : (if a0 ≥ 48 then (some (decide (a0 ≤ 57))) else (some false)) = some r:=h;clear h
 by_cases c2 : a0 ≥ 48
 ·rw [if_pos c2] at H;have c2b0 : decide (48 ≤ a0) = true:=decide_eq_true c2;clear c2;obtain rfl:=Option.some.inj H
  go_enter Tryz.func84,Tryz.ntmps84
  go_wp2
  go_ret
  exact ⟨by first | rfl | (simp;done) | (simp [*];done),by repeat (first | exact Drawn0.refl _ | apply Drawn0.step)⟩
 ·rw [if_neg c2] at H;have c2b0 : decide (48 ≤ a0) = false:=decide_eq_false c2;clear c2;obtain rfl:=Option.some.inj H
  go_enter Tryz.func84,Tryz.ntmps84
  go_wp2
  go_ret
  exact ⟨by first | rfl | (simp;done) | (simp [*];done),by repeat (first | exact Drawn0.refl _ | apply Drawn0.step)⟩

/-! ### joustref01_inner: function 109 -/
def joustref01_inner.f (a0 : Int) : Option (Bool):=(unicode_IsLetter.f a0).bind fun t107 => (if t107 = true then (some true) else ((joustref01_digit.f a0).bind fun t108 => (some t108)))
set_option maxHeartbeats 8000000 in
set_option maxRecDepth 100000 in
theorem joustref01_inner.calls (a0 : Int) (r : Bool) (w : World) (hG : Tabs w) (h : joustref01_inner.f a0 = some r) :
  Calls Tryz.prog 109 #[.int .i32 a0] w fun e w' => e = .returned (.bool r) ∧ Below w.heap.size w w':=by
 have HG:=Aside0.mk hG;clear hG;have HB:=Aside0.mk (Below.refl w.heap.size w);have H : ((unicode_IsLetter.f a0).bind fun t107 => (if t107 = true then (some true) else ((joustref01_digit.f a0).bind fun t108 => (some t108)))) = some r:=h;clear h;replace H:=Option.bind_eq_some_iff.mp H;obtain ⟨t107,A20,H⟩:=H
 (try dsimp only at H)
 have A2:=Aside0.mk A20;clear A20
 by_cases c3 : t107 = true
 ·subst c3;rw [if_pos rfl] at H;obtain rfl:=Option.some.inj H
  go_enter Tryz.func109,Tryz.ntmps109
  go_wp2_with (first | ((with_reducible refine gate_callee (f:=87) rfl ?_);refine goesL_ (some 4) rfl rfl Tryz.func87 (by kernel_rfl) rfl #[.int .i32 a0] rfl ea ?_;(with_reducible refine (unicode_IsLetter.calls a0 true _ ?side1 A2.out).mono ?_);(case side1 => exact Tabs.below HG.out (bl0 HB.out));rintro e w4 ⟨rfl,hb⟩;refine ⟨_,rfl,?_⟩;replace HB:=Aside0.mk (below_step (bl0 HB.out) hb);(try clear hb)))
  go_ret
  exact ⟨by first | rfl | (simp [errW_none,errW_some] <;> rfl) | (simp [*,errW_none,errW_some] <;> rfl),bl0 HB.out⟩
 ·replace c3:=Bool.eq_false_iff.mpr c3;subst c3;rw [if_neg (show ¬ (false = true) by decide)] at H;replace H:=Option.bind_eq_some_iff.mp H;obtain ⟨t108,A50,H⟩:=H
  (try dsimp only at H)
  have A5:=Aside0.mk A50;clear A50;obtain rfl:=Option.some.inj H
  go_enter Tryz.func109,Tryz.ntmps109
  go_wp2_with (first | ((with_reducible refine gate_callee (f:=87) rfl ?_);refine goesL_ (some 4) rfl rfl Tryz.func87 (by kernel_rfl) rfl #[.int .i32 a0] rfl ea ?_;(with_reducible refine (unicode_IsLetter.calls a0 false _ ?side1 A2.out).mono ?_);(case side1 => exact Tabs.below HG.out (bl0 HB.out));rintro e w6 ⟨rfl,hb⟩;refine ⟨_,rfl,?_⟩;replace HB:=Aside0.mk (below_step (bl0 HB.out) hb);(try clear hb)) | (go_at_call 84;(with_reducible refine (joustref01_digit.calls a0 t108 _ A5.out).mono ?_);rintro e w' ⟨rfl,⟨nd,rfl⟩⟩))
  go_ret
  exact ⟨by first | rfl | (simp [errW_none,errW_some] <;> rfl) | (simp [*,errW_none,errW_some] <;> rfl),bl0 HB.out⟩

end Go.Proofs.YtmgdkkkkanjadaaGreatDoor.X
