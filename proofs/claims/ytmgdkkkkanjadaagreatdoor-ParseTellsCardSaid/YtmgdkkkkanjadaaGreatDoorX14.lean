/- Written by a program of this claim's author (stubprint.py, over the kit's print) out of the translation: Go functions as Lean functions, and that the calls come to them. -/
import Derived.Test.YtmgdkkkkanjadaaGreatDoorX0
import Derived.Test.YtmgdkkkkanjadaaGreatDoorX13
import Derived.Test.YtmgdkkkkanjadaaGreatDoorHandS
import Derived.WalkLawsBesides
namespace Go.Proofs.YtmgdkkkkanjadaaGreatDoor.X
open Go.RowKit Go.Proofs.YtmgdkkkkanjadaaGreatDoorW.PrintWords Go.Proofs.YtmgdkkkkanjadaaGreatDoorW.PrintLast Go.Proofs.YtmgdkkkkanjadaaGreatDoorW.PrintMore Go.Proofs.YtmgdkkkkanjadaaGreatDoor.HandS Go.Proofs.YtmgdkkkkanjadaaGreatDoor.Iter
attribute [local go_sem] max2_int min2_int max_two min_two max_three min_three max_four min_four   -- for this text's walks alone
set_option linter.unusedVariables false
set_option linter.unusedSimpArgs false

/-! ### joustref01_word: function 83 -/
mutual
def joustref01_word.l0 : Nat → ByteArray → Int → Int → Int → Int → Option (Int × Int)
 | 0,_,_,_,_,_ => none
 | k + 1,x0,x4,x5,x6,x7 => if x4 < (x0.size : Int) then (if 0 ≤ x4 then (if x4 ≤ (x0.size : Int) then ((utf8_DecodeRuneInString.f (x0.extract (x4 : Int).toNat x0.size)).bind fun bt109 => (if bt109.1 = 65533 then (if bt109.2 = 1 then (joustref01_word.j1 k x0 x4 x5 x6 x7 bt109.1 bt109.2 true) else (if x5 = 0 then ((unicode_IsLetter.f bt109.1).bind fun t111 => (if t111 = true then ((joustref01_inner.f bt109.1).bind fun t112 => (if t112 = true then (joustref01_word.j1 k x0 x4 x5 x6 x7 bt109.1 bt109.2 false) else (joustref01_word.j1 k x0 x4 x5 x6 x7 bt109.1 bt109.2 (bt109.1 != 45)))) else (joustref01_word.j1 k x0 x4 x5 x6 x7 bt109.1 bt109.2 true))) else ((joustref01_inner.f bt109.1).bind fun t113 => (if t113 = true then (joustref01_word.j1 k x0 x4 x5 x6 x7 bt109.1 bt109.2 false) else (joustref01_word.j1 k x0 x4 x5 x6 x7 bt109.1 bt109.2 (bt109.1 != 45)))))) else (if x5 = 0 then ((unicode_IsLetter.f bt109.1).bind fun t114 => (if t114 = true then ((joustref01_inner.f bt109.1).bind fun t115 => (if t115 = true then (joustref01_word.j1 k x0 x4 x5 x6 x7 bt109.1 bt109.2 false) else (joustref01_word.j1 k x0 x4 x5 x6 x7 bt109.1 bt109.2 (bt109.1 != 45)))) else (joustref01_word.j1 k x0 x4 x5 x6 x7 bt109.1 bt109.2 true))) else ((joustref01_inner.f bt109.1).bind fun t116 => (if t116 = true then (joustref01_word.j1 k x0 x4 x5 x6 x7 bt109.1 bt109.2 false) else (joustref01_word.j1 k x0 x4 x5 x6 x7 bt109.1 bt109.2 (bt109.1 != 45))))))) else (none)) else (none)) else (some (x6,x7))
def joustref01_word.j1 : Nat → ByteArray → Int → Int → Int → Int → Int → Int → Bool → Option (Int × Int)
 | 0,_,_,_,_,_,_,_,_ => none
 | k + 1,x0,x4,x5,x6,x7,x8,x9,x44 => if x44 = true then (some (x6,x7)) else (if x8 = 45 then (joustref01_word.l0 k x0 (wrap64 (x4 + x9)) (wrap64 (x5 + 1)) x6 x7) else (joustref01_word.l0 k x0 (wrap64 (x4 + x9)) (wrap64 (x5 + 1)) (wrap64 (x4 + x9)) (wrap64 (x5 + 1))))
end
def joustref01_word.f (k : Nat) (a0 : ByteArray) : Option (Int × Int):=joustref01_word.l0 k a0 0 0 0 0
theorem joustref01_word.mono_l : ∀ k,(∀ y0 y1 y2 y3 y4,LeO (joustref01_word.l0 k y0 y1 y2 y3 y4) (joustref01_word.l0 (k + 1) y0 y1 y2 y3 y4)) ∧ (∀ y0 y1 y2 y3 y4 y5 y6 y7,LeO (joustref01_word.j1 k y0 y1 y2 y3 y4 y5 y6 y7) (joustref01_word.j1 (k + 1) y0 y1 y2 y3 y4 y5 y6 y7))
 | 0 => ⟨fun _ _ _ _ _ r h => by simp [joustref01_word.l0] at h,fun _ _ _ _ _ _ _ _ r h => by simp [joustref01_word.j1] at h⟩
 | k + 1 => by
  obtain ⟨ih0,ih1⟩:=joustref01_word.mono_l k;refine ⟨?_,?_⟩
  ·intro y0 y1 y2 y3 y4
   unfold joustref01_word.l0
   repeat' first
   | (with_reducible exact ih0 _ _ _ _ _)
   | (with_reducible exact ih1 _ _ _ _ _ _ _ _)
   | (with_reducible exact LeO.refl _)
   | (with_reducible exact LeO.none _)
   | (with_reducible refine LeO.ite ?_ ?_)
   | (with_reducible refine LeO.bind ?_ (fun _ => ?_))
   | exact ih0 _ _ _ _ _
   | exact ih1 _ _ _ _ _ _ _ _
   | exact LeO.none _
   | refine LeO.ite ?_ ?_
   | refine LeO.bind ?_ (fun _ => ?_)
  ·intro y0 y1 y2 y3 y4 y5 y6 y7
   unfold joustref01_word.j1
   repeat' first
   | (with_reducible exact ih0 _ _ _ _ _)
   | (with_reducible exact ih1 _ _ _ _ _ _ _ _)
   | (with_reducible exact LeO.refl _)
   | (with_reducible exact LeO.none _)
   | (with_reducible refine LeO.ite ?_ ?_)
   | (with_reducible refine LeO.bind ?_ (fun _ => ?_))
   | exact ih0 _ _ _ _ _
   | exact ih1 _ _ _ _ _ _ _ _
   | exact LeO.none _
   | refine LeO.ite ?_ ?_
   | refine LeO.bind ?_ (fun _ => ?_)
theorem joustref01_word.mono : ∀ a0 k,LeO (joustref01_word.f k a0) (joustref01_word.f (k + 1) a0):=by
 intro a0 k;obtain ⟨ih0,ih1⟩:=joustref01_word.mono_l k
 unfold joustref01_word.f
 repeat' first
   | (with_reducible exact ih0 _ _ _ _ _)
   | (with_reducible exact ih1 _ _ _ _ _ _ _ _)
   | (with_reducible exact LeO.refl _)
   | (with_reducible exact LeO.none _)
   | (with_reducible refine LeO.ite ?_ ?_)
   | (with_reducible refine LeO.bind ?_ (fun _ => ?_))
   | exact ih0 _ _ _ _ _
   | exact ih1 _ _ _ _ _ _ _ _
   | exact LeO.none _
   | refine LeO.ite ?_ ?_
   | refine LeO.bind ?_ (fun _ => ?_)
set_option maxHeartbeats 8000000 in
set_option maxRecDepth 100000 in
theorem joustref01_word.calls (k : Nat) (a0 : ByteArray) (r1 : Int) (r2 : Int) (w : World) (hG : Tabs w) (h : joustref01_word.f k a0 = some (r1,r2)) :
  Calls Tryz.prog 83 #[.string a0] w fun e w' => e = .returned (.tuple #[.int .i64 r1,.int .i64 r2]) ∧ Below w.heap.size w w':=by
 have HG:=Aside0.mk hG;clear hG;have HB:=Aside0.mk (Below.refl w.heap.size w);have H : (joustref01_word.l0 k a0 0 0 0 0) = some (r1,r2):=h;clear h;have H':=Aside0.mk H;clear H
 go_enter Tryz.func83,Tryz.ntmps83
 go_wp2
 go_loopg [4,5,6,7] k (fun kq v4 v5 v6 v7 w' => ∃ (x4_1 : Int) (x5_1 : Int) (x6_1 : Int) (x7_1 : Int),v4 = .int .i64 x4_1 ∧ v5 = .int .i64 x5_1 ∧ v6 = .int .i64 x6_1 ∧ v7 = .int .i64 x7_1 ∧ Aside0 (joustref01_word.l0 kq a0 x4_1 x5_1 x6_1 x7_1 = some (r1,r2)) ∧ Aside0 (kq ≤ k) ∧ Aside0 (Below w.heap.size w w'))
 case atStart => exact ⟨(0),(0),(0),(0),(by first | rfl | (simp;done) | (simp [*];done)),(by first | rfl | (simp;done) | (simp [*];done)),(by first | rfl | (simp;done) | (simp [*];done)),(by first | rfl | (simp;done) | (simp [*];done)),H',⟨Nat.le_refl _⟩,⟨bl0 HB.out⟩⟩
 case round =>
  clear H';obtain ⟨x4_1,x5_1,x6_1,x7_1,rfl,rfl,rfl,rfl,HA,HK1,HB⟩:=hrel
  cases gk with
  | zero => exact absurd HA.out (by simp [joustref01_word.l0])
  | succ k1 =>
   have H:=HA.out;clear HA;simp only [joustref01_word.l0] at H
   by_cases c2 : x4_1 < (a0.size : Int)
   ·rw [if_pos c2] at H;have c2b0 : decide (x4_1 < (a0.size : Int)) = true:=decide_eq_true c2;clear c2
    by_cases c3 : 0 ≤ x4_1
    ·rw [if_pos c3] at H;have c3b0:=eq_true c3;have c3b1 : decide (0 ≤ x4_1) = true:=decide_eq_true c3;clear c3
     by_cases c4 : x4_1 ≤ (a0.size : Int)
     ·rw [if_pos c4] at H;have c4b0:=eq_true c4;have c4b1 : decide (x4_1 ≤ (a0.size : Int)) = true:=decide_eq_true c4;clear c4;replace H:=Option.bind_eq_some_iff.mp H;obtain ⟨⟨t109,t110⟩,A50,H⟩:=H
      (try dsimp only at H)
      have A5:=Aside0.mk A50;clear A50;have HC6:=Aside0.mk H;clear H
      go_upto_region 4 with (first | ((with_reducible refine gate_callee (f:=80) rfl ?_);refine goesL_ (some 18) rfl rfl Tryz.func80 (by kernel_rfl) rfl #[.string (a0.extract (x4_1 : Int).toNat a0.size)] rfl ea ?_;(with_reducible refine (utf8_DecodeRuneInString.calls (a0.extract (x4_1 : Int).toNat a0.size) t109 t110 _ ?side1 A5.out).mono ?_);(case side1 => exact Tabs.below HG.out (bl0 HB.out));rintro e w7 ⟨rfl,hb⟩;refine ⟨_,rfl,?_⟩;replace HB:=Aside0.mk (below_step (bl0 HB.out) hb);(try clear hb)))
      (try simp only [Act.put,List.setIfInBounds_toArray,List.set_cons_zero,List.set_cons_succ])
      go_cut [44] (fun v44 wc => ∃ (kq : Nat) (x44_5 : Bool),v44 = .bool x44_5 ∧ Aside0 (joustref01_word.j1 kq a0 x4_1 x5_1 x6_1 x7_1 t109 t110 x44_5 = some (r1,r2)) ∧ Aside0 (kq ≤ k1) ∧ Aside0 (Below w.heap.size w wc))
      case first =>
       have H:=HC6.out;clear HC6
       by_cases c8 : t109 = 65533
       ·rw [if_pos c8] at H;have c8b0 : (t109 == 65533) = true:=beq_iff_eq.mpr c8;have c8b1 : (t109 != 65533) = false:=bne_eq_false_iff_eq.mpr c8;clear c8
        (first | rw [c8b0] | (simp only [i64_w,i32_w];rw [c8b0]) | skip)
        by_cases c9 : t110 = 1
        ·rw [if_pos c9] at H;have c9b0 : (t110 == 1) = true:=beq_iff_eq.mpr c9;have c9b1 : (t110 != 1) = false:=bne_eq_false_iff_eq.mpr c9;clear c9;have H':=Aside0.mk H;clear H
         go_wp2
         go_meet
         case rel => exact ⟨_,(true),(by first | rfl | (simp;done) | (simp [*];done)),H',⟨by have:=HK1.out;first | omega | exact Nat.le_refl _⟩,⟨bl0 HB.out⟩⟩
        ·rw [if_neg c9] at H;have c9b0 : (t110 == 1) = false:=beq_eq_false_iff_ne.mpr c9;have c9b1 : (t110 != 1) = true:=bne_iff_ne.mpr c9
         by_cases c10 : x5_1 = 0
         ·rw [if_pos c10] at H;have c10b0 : (x5_1 == 0) = true:=beq_iff_eq.mpr c10;have c10b1 : (x5_1 != 0) = false:=bne_eq_false_iff_eq.mpr c10;clear c10;replace H:=Option.bind_eq_some_iff.mp H;obtain ⟨t111,A110,H⟩:=H
          (try dsimp only at H)
          have A11:=Aside0.mk A110;clear A110
          by_cases c12 : t111 = true
          ·subst c12;rw [if_pos rfl] at H;replace H:=Option.bind_eq_some_iff.mp H;obtain ⟨t112,A130,H⟩:=H
           (try dsimp only at H)
           have A13:=Aside0.mk A130;clear A130
           by_cases c14 : t112 = true
           ·subst c14;rw [if_pos rfl] at H;have H':=Aside0.mk H;clear H
            go_wp2_with (first | (go_at_call 87;(with_reducible refine (unicode_IsLetter.calls t109 true _ ?side1 A11.out).mono ?_);(case side1 => exact Tabs.below HG.out (bl0 HB.out));rintro e w15 ⟨rfl,hb⟩;replace HB:=Aside0.mk (below_step (bl0 HB.out) hb);(try clear hb)) | (go_at_call 109;(with_reducible refine (joustref01_inner.calls t109 true _ ?side1 A13.out).mono ?_);(case side1 => exact Tabs.below HG.out (bl0 HB.out));rintro e w16 ⟨rfl,hb⟩;replace HB:=Aside0.mk (below_step (bl0 HB.out) hb);(try clear hb)))
            go_meet
            case rel => exact ⟨_,(false),(by first | rfl | (simp;done) | (simp [*];done)),H',⟨by have:=HK1.out;first | omega | exact Nat.le_refl _⟩,⟨bl0 HB.out⟩⟩
           ·replace c14:=Bool.eq_false_iff.mpr c14;subst c14;rw [if_neg (show ¬ (false = true) by decide)] at H;have H':=Aside0.mk H;clear H
            go_wp2_with (first | (go_at_call 87;(with_reducible refine (unicode_IsLetter.calls t109 true _ ?side1 A11.out).mono ?_);(case side1 => exact Tabs.below HG.out (bl0 HB.out));rintro e w17 ⟨rfl,hb⟩;replace HB:=Aside0.mk (below_step (bl0 HB.out) hb);(try clear hb)) | (go_at_call 109;(with_reducible refine (joustref01_inner.calls t109 false _ ?side1 A13.out).mono ?_);(case side1 => exact Tabs.below HG.out (bl0 HB.out));rintro e w18 ⟨rfl,hb⟩;replace HB:=Aside0.mk (below_step (bl0 HB.out) hb);(try clear hb)))
            go_meet
            case rel => exact ⟨_,((t109 != 45)),(by first | rfl | (simp;done) | (simp [*];done)),H',⟨by have:=HK1.out;first | omega | exact Nat.le_refl _⟩,⟨bl0 HB.out⟩⟩
          ·replace c12:=Bool.eq_false_iff.mpr c12;subst c12;rw [if_neg (show ¬ (false = true) by decide)] at H;have H':=Aside0.mk H;clear H
           go_wp2_with (first | (go_at_call 87;(with_reducible refine (unicode_IsLetter.calls t109 false _ ?side1 A11.out).mono ?_);(case side1 => exact Tabs.below HG.out (bl0 HB.out));rintro e w19 ⟨rfl,hb⟩;replace HB:=Aside0.mk (below_step (bl0 HB.out) hb);(try clear hb)))
           go_meet
           case rel => exact ⟨_,(true),(by first | rfl | (simp;done) | (simp [*];done)),H',⟨by have:=HK1.out;first | omega | exact Nat.le_refl _⟩,⟨bl0 HB.out⟩⟩
         ·rw [if_neg c10] at H;have c10b0 : (x5_1 == 0) = false:=beq_eq_false_iff_ne.mpr c10;have c10b1 : (x5_1 != 0) = true:=bne_iff_ne.mpr c10;replace H:=Option.bind_eq_some_iff.mp H;obtain ⟨t113,A200,H⟩:=H
          (try dsimp only at H)
          have A20:=Aside0.mk A200;clear A200
          by_cases c21 : t113 = true
          ·subst c21;rw [if_pos rfl] at H;have H':=Aside0.mk H;clear H
           go_wp2_with (first | (go_at_call 109;(with_reducible refine (joustref01_inner.calls t109 true _ ?side1 A20.out).mono ?_);(case side1 => exact Tabs.below HG.out (bl0 HB.out));rintro e w22 ⟨rfl,hb⟩;replace HB:=Aside0.mk (below_step (bl0 HB.out) hb);(try clear hb)))
           go_meet
           case rel => exact ⟨_,(false),(by first | rfl | (simp;done) | (simp [*];done)),H',⟨by have:=HK1.out;first | omega | exact Nat.le_refl _⟩,⟨bl0 HB.out⟩⟩
          ·replace c21:=Bool.eq_false_iff.mpr c21;subst c21;rw [if_neg (show ¬ (false = true) by decide)] at H;have H':=Aside0.mk H;clear H
           go_wp2_with (first | (go_at_call 109;(with_reducible refine (joustref01_inner.calls t109 false _ ?side1 A20.out).mono ?_);(case side1 => exact Tabs.below HG.out (bl0 HB.out));rintro e w23 ⟨rfl,hb⟩;replace HB:=Aside0.mk (below_step (bl0 HB.out) hb);(try clear hb)))
           go_meet
           case rel => exact ⟨_,((t109 != 45)),(by first | rfl | (simp;done) | (simp [*];done)),H',⟨by have:=HK1.out;first | omega | exact Nat.le_refl _⟩,⟨bl0 HB.out⟩⟩
       ·rw [if_neg c8] at H;have c8b0 : (t109 == 65533) = false:=beq_eq_false_iff_ne.mpr c8;have c8b1 : (t109 != 65533) = true:=bne_iff_ne.mpr c8
        (first | rw [c8b0] | (simp only [i64_w,i32_w];rw [c8b0]) | skip)
        by_cases c24 : x5_1 = 0
        ·rw [if_pos c24] at H;have c24b0 : (x5_1 == 0) = true:=beq_iff_eq.mpr c24;have c24b1 : (x5_1 != 0) = false:=bne_eq_false_iff_eq.mpr c24;clear c24;replace H:=Option.bind_eq_some_iff.mp H;obtain ⟨t114,A250,H⟩:=H
         (try dsimp only at H)
         have A25:=Aside0.mk A250;clear A250
         by_cases c26 : t114 = true
         ·subst c26;rw [if_pos rfl] at H;replace H:=Option.bind_eq_some_iff.mp H;obtain ⟨t115,A270,H⟩:=H
          (try dsimp only at H)
          have A27:=Aside0.mk A270;clear A270
          by_cases c28 : t115 = true
          ·subst c28;rw [if_pos rfl] at H;have H':=Aside0.mk H;clear H
           go_wp2_with (first | (go_at_call 87;(with_reducible refine (unicode_IsLetter.calls t109 true _ ?side1 A25.out).mono ?_);(case side1 => exact Tabs.below HG.out (bl0 HB.out));rintro e w29 ⟨rfl,hb⟩;replace HB:=Aside0.mk (below_step (bl0 HB.out) hb);(try clear hb)) | (go_at_call 109;(with_reducible refine (joustref01_inner.calls t109 true _ ?side1 A27.out).mono ?_);(case side1 => exact Tabs.below HG.out (bl0 HB.out));rintro e w30 ⟨rfl,hb⟩;replace HB:=Aside0.mk (below_step (bl0 HB.out) hb);(try clear hb)))
           go_meet
           case rel => exact ⟨_,(false),(by first | rfl | (simp;done) | (simp [*];done)),H',⟨by have:=HK1.out;first | omega | exact Nat.le_refl _⟩,⟨bl0 HB.out⟩⟩
          ·replace c28:=Bool.eq_false_iff.mpr c28;subst c28;rw [if_neg (show ¬ (false = true) by decide)] at H;have H':=Aside0.mk H;clear H
           go_wp2_with (first | (go_at_call 87;(with_reducible refine (unicode_IsLetter.calls t109 true _ ?side1 A25.out).mono ?_);(case side1 => exact Tabs.below HG.out (bl0 HB.out));rintro e w31 ⟨rfl,hb⟩;replace HB:=Aside0.mk (below_step (bl0 HB.out) hb);(try clear hb)) | (go_at_call 109;(with_reducible refine (joustref01_inner.calls t109 false _ ?side1 A27.out).mono ?_);(case side1 => exact Tabs.below HG.out (bl0 HB.out));rintro e w32 ⟨rfl,hb⟩;replace HB:=Aside0.mk (below_step (bl0 HB.out) hb);(try clear hb)))
           go_meet
           case rel => exact ⟨_,((t109 != 45)),(by first | rfl | (simp;done) | (simp [*];done)),H',⟨by have:=HK1.out;first | omega | exact Nat.le_refl _⟩,⟨bl0 HB.out⟩⟩
         ·replace c26:=Bool.eq_false_iff.mpr c26;subst c26;rw [if_neg (show ¬ (false = true) by decide)] at H;have H':=Aside0.mk H;clear H
          go_wp2_with (first | (go_at_call 87;(with_reducible refine (unicode_IsLetter.calls t109 false _ ?side1 A25.out).mono ?_);(case side1 => exact Tabs.below HG.out (bl0 HB.out));rintro e w33 ⟨rfl,hb⟩;replace HB:=Aside0.mk (below_step (bl0 HB.out) hb);(try clear hb)))
          go_meet
          case rel => exact ⟨_,(true),(by first | rfl | (simp;done) | (simp [*];done)),H',⟨by have:=HK1.out;first | omega | exact Nat.le_refl _⟩,⟨bl0 HB.out⟩⟩
        ·rw [if_neg c24] at H;have c24b0 : (x5_1 == 0) = false:=beq_eq_false_iff_ne.mpr c24;have c24b1 : (x5_1 != 0) = true:=bne_iff_ne.mpr c24;replace H:=Option.bind_eq_some_iff.mp H;obtain ⟨t116,A340,H⟩:=H
         (try dsimp only at H)
         have A34:=Aside0.mk A340;clear A340
         by_cases c35 : t116 = true
         ·subst c35;rw [if_pos rfl] at H;have H':=Aside0.mk H;clear H
          go_wp2_with (first | (go_at_call 109;(with_reducible refine (joustref01_inner.calls t109 true _ ?side1 A34.out).mono ?_);(case side1 => exact Tabs.below HG.out (bl0 HB.out));rintro e w36 ⟨rfl,hb⟩;replace HB:=Aside0.mk (below_step (bl0 HB.out) hb);(try clear hb)))
          go_meet
          case rel => exact ⟨_,(false),(by first | rfl | (simp;done) | (simp [*];done)),H',⟨by have:=HK1.out;first | omega | exact Nat.le_refl _⟩,⟨bl0 HB.out⟩⟩
         ·replace c35:=Bool.eq_false_iff.mpr c35;subst c35;rw [if_neg (show ¬ (false = true) by decide)] at H;have H':=Aside0.mk H;clear H
          go_wp2_with (first | (go_at_call 109;(with_reducible refine (joustref01_inner.calls t109 false _ ?side1 A34.out).mono ?_);(case side1 => exact Tabs.below HG.out (bl0 HB.out));rintro e w37 ⟨rfl,hb⟩;replace HB:=Aside0.mk (below_step (bl0 HB.out) hb);(try clear hb)))
          go_meet
          case rel => exact ⟨_,((t109 != 45)),(by first | rfl | (simp;done) | (simp [*];done)),H',⟨by have:=HK1.out;first | omega | exact Nat.le_refl _⟩,⟨bl0 HB.out⟩⟩
      case rest =>
       clear HC6
       try clear c1
       try clear c2
       try clear c2b0
       try clear p2
       try clear c3
       try clear c3b0
       try clear c3b1
       try clear c4
       try clear c4b0
       try clear c4b1
       try clear c8
       try clear c8b0
       try clear c8b1
       try clear c9
       try clear c9b0
       try clear c9b1
       try clear c10
       try clear c10b0
       try clear c10b1
       try clear c12
       try clear c14
       try clear c21
       try clear c24
       try clear c24b0
       try clear c24b1
       try clear c26
       try clear c28
       try clear c35
       obtain ⟨kq,x44_5,rfl,HA,HJ5,HB⟩:=hcut
       cases kq with
       | zero => exact absurd HA.out (by simp [joustref01_word.j1])
       | succ kj5 =>
        have H:=HA.out;clear HA;simp only [joustref01_word.j1] at H
        by_cases c38 : x44_5 = true
        ·subst c38;rw [if_pos rfl] at H;simp only [Option.some.injEq,Prod.mk.injEq] at H;obtain ⟨rfl,rfl⟩:=H
         go_wp2
         go_ret2
         exact ⟨by first | rfl | (simp [errW_none,errW_some] <;> rfl) | (simp [*,errW_none,errW_some] <;> rfl),bl0 HB.out⟩
        ·replace c38:=Bool.eq_false_iff.mpr c38;subst c38;rw [if_neg (show ¬ (false = true) by decide)] at H
         by_cases c39 : t109 = 45
         ·rw [if_pos c39] at H;have c39b0 : (t109 == 45) = true:=beq_iff_eq.mpr c39;have c39b1 : (t109 != 45) = false:=bne_eq_false_iff_eq.mpr c39;clear c39;have H':=Aside0.mk H;clear H
          go_wp2
          go_roundg kj5
          case measure => have:=HK1.out;have:=HJ5.out;omega
          case rel => exact ⟨(wrap64 (x4_1 + t110)),(wrap64 (x5_1 + 1)),(x6_1),(x7_1),(by first | rfl | (simp;done) | (simp [*];done)),(by first | rfl | (simp;done) | (simp [*];done)),(by first | rfl | (simp;done) | (simp [*];done)),(by first | rfl | (simp;done) | (simp [*];done)),H',⟨by have:=HK1.out;have:=HJ5.out;omega⟩,⟨bl0 HB.out⟩⟩
         ·rw [if_neg c39] at H;have c39b0 : (t109 == 45) = false:=beq_eq_false_iff_ne.mpr c39;have c39b1 : (t109 != 45) = true:=bne_iff_ne.mpr c39;have H':=Aside0.mk H;clear H
          go_wp2
          go_roundg kj5
          case measure => have:=HK1.out;have:=HJ5.out;omega
          case rel => exact ⟨(wrap64 (x4_1 + t110)),(wrap64 (x5_1 + 1)),(wrap64 (x4_1 + t110)),(wrap64 (x5_1 + 1)),(by first | rfl | (simp;done) | (simp [*];done)),(by first | rfl | (simp;done) | (simp [*];done)),(by first | rfl | (simp;done) | (simp [*];done)),(by first | rfl | (simp;done) | (simp [*];done)),H',⟨by have:=HK1.out;have:=HJ5.out;omega⟩,⟨bl0 HB.out⟩⟩
     ·rw [if_neg c4] at H;exact absurd H (by simp)
    ·rw [if_neg c3] at H;exact absurd H (by simp)
   ·rw [if_neg c2] at H;have c2b0 : decide (x4_1 < (a0.size : Int)) = false:=decide_eq_false c2;clear c2;simp only [Option.some.injEq,Prod.mk.injEq] at H;obtain ⟨rfl,rfl⟩:=H
    go_wp2
    go_ret2
    exact ⟨by first | rfl | (simp [errW_none,errW_some] <;> rfl) | (simp [*,errW_none,errW_some] <;> rfl),bl0 HB.out⟩

end Go.Proofs.YtmgdkkkkanjadaaGreatDoor.X
