/- Written by a program of this claim's author (stubprint.py, over the kit's print) out of the translation: Go functions as Lean functions, and that the calls come to them. -/
import Derived.Test.YtgalbiokebghkaaDoorS0
import Derived.Test.YtgalbiokebghkaaDoorS14
import Derived.Test.YtgalbiokebghkaaDoorHandS
namespace Go.Proofs.YtgalbiokebghkaaDoor.S
open Go.RowKit Go.Proofs.YtgalbiokebghkaaDoorW.PrintWords Go.Proofs.YtgalbiokebghkaaDoorW.PrintLast Go.Proofs.YtgalbiokebghkaaDoorW.PrintMore Go.Proofs.YtgalbiokebghkaaDoor.HandS Go.Proofs.YtgalbiokebghkaaDoor.Iter
attribute [local go_sem] max2_int min2_int max_two min_two max_three min_three max_four min_four   -- for this text's walks alone
set_option linter.unusedVariables false
set_option linter.unusedSimpArgs false

/-! ### joustref01_word: function 36 -/
mutual
def joustref01_word.l0 : Nat → ByteArray → Int → Int → Int → Int → Option (Int × Int)
 | 0,_,_,_,_,_ => none
 | k + 1,x0,x4,x5,x6,x7 => if x4 < (x0.size : Int) then (if 0 ≤ x4 then (if x4 ≤ (x0.size : Int) then ((utf8_DecodeRuneInString.f (x0.extract (x4 : Int).toNat x0.size)).bind fun bt258 => (if bt258.1 = 65533 then (if bt258.2 = 1 then (joustref01_word.j1 k x0 x4 x5 x6 x7 bt258.1 bt258.2 true) else (if x5 = 0 then ((unicode_IsLetter.f bt258.1).bind fun t260 => (if t260 = true then ((joustref01_inner.f bt258.1).bind fun t261 => (if t261 = true then (joustref01_word.j1 k x0 x4 x5 x6 x7 bt258.1 bt258.2 false) else (joustref01_word.j1 k x0 x4 x5 x6 x7 bt258.1 bt258.2 (bt258.1 != 45)))) else (joustref01_word.j1 k x0 x4 x5 x6 x7 bt258.1 bt258.2 true))) else ((joustref01_inner.f bt258.1).bind fun t262 => (if t262 = true then (joustref01_word.j1 k x0 x4 x5 x6 x7 bt258.1 bt258.2 false) else (joustref01_word.j1 k x0 x4 x5 x6 x7 bt258.1 bt258.2 (bt258.1 != 45)))))) else (if x5 = 0 then ((unicode_IsLetter.f bt258.1).bind fun t263 => (if t263 = true then ((joustref01_inner.f bt258.1).bind fun t264 => (if t264 = true then (joustref01_word.j1 k x0 x4 x5 x6 x7 bt258.1 bt258.2 false) else (joustref01_word.j1 k x0 x4 x5 x6 x7 bt258.1 bt258.2 (bt258.1 != 45)))) else (joustref01_word.j1 k x0 x4 x5 x6 x7 bt258.1 bt258.2 true))) else ((joustref01_inner.f bt258.1).bind fun t265 => (if t265 = true then (joustref01_word.j1 k x0 x4 x5 x6 x7 bt258.1 bt258.2 false) else (joustref01_word.j1 k x0 x4 x5 x6 x7 bt258.1 bt258.2 (bt258.1 != 45))))))) else (none)) else (none)) else (some (x6,x7))
def joustref01_word.j1 : Nat → ByteArray → Int → Int → Int → Int → Int → Int → Bool → Option (Int × Int)
 | 0,_,_,_,_,_,_,_,_ => none
 | k + 1,x0,x4,x5,x6,x7,x8,x9,x44 => if x44 = true then (some (x6,x7)) else (if x8 = 45 then (joustref01_word.l0 k x0 (wrap64 (x4 + x9)) (wrap64 (x5 + 1)) x6 x7) else (joustref01_word.l0 k x0 (wrap64 (x4 + x9)) (wrap64 (x5 + 1)) (wrap64 (x4 + x9)) (wrap64 (x5 + 1))))
end
def joustref01_word.f (k : Nat) (a0 : ByteArray) : Option (Int × Int):=joustref01_word.l0 k a0 0 0 0 0
theorem joustref01_word.mono_l : ∀ k,(∀ y0 y1 y2 y3 y4,LeO (joustref01_word.l0 k y0 y1 y2 y3 y4) (joustref01_word.l0 (k + 1) y0 y1 y2 y3 y4)) ∧ (∀ y0 y1 y2 y3 y4 y5 y6 y7,LeO (joustref01_word.j1 k y0 y1 y2 y3 y4 y5 y6 y7) (joustref01_word.j1 (k + 1) y0 y1 y2 y3 y4 y5 y6 y7))
 | 0 => ⟨fun _ _ _ _ _ r h => by simp [joustref01_word.l0] at h,fun _ _ _ _ _ _ _ _ r h => by simp [joustref01_word.j1] at h⟩
 | k + 1 => by
  obtain ⟨ih0,ih1⟩:=joustref01_word.mono_l k
  refine ⟨?_,?_⟩
  ·intro y0 y1 y2 y3 y4
   unfold joustref01_word.l0
   repeat' first
   | (with_reducible exact ih0 _ _ _ _ _)
   | (with_reducible exact ih1 _ _ _ _ _ _ _ _)
   | (with_reducible exact LeO.refl _)
   | (with_reducible exact LeO.none _)
   | (with_reducible refine LeO.ite ?_ ?_)
   | (with_reducible refine LeO.bind ?_ (fun _ => ?_))
   | exact ih0 _ _ _ _ _
   | exact ih1 _ _ _ _ _ _ _ _
   | exact LeO.none _
   | refine LeO.ite ?_ ?_
   | refine LeO.bind ?_ (fun _ => ?_)
  ·intro y0 y1 y2 y3 y4 y5 y6 y7
   unfold joustref01_word.j1
   repeat' first
   | (with_reducible exact ih0 _ _ _ _ _)
   | (with_reducible exact ih1 _ _ _ _ _ _ _ _)
   | (with_reducible exact LeO.refl _)
   | (with_reducible exact LeO.none _)
   | (with_reducible refine LeO.ite ?_ ?_)
   | (with_reducible refine LeO.bind ?_ (fun _ => ?_))
   | exact ih0 _ _ _ _ _
   | exact ih1 _ _ _ _ _ _ _ _
   | exact LeO.none _
   | refine LeO.ite ?_ ?_
   | refine LeO.bind ?_ (fun _ => ?_)
theorem joustref01_word.mono : ∀ a0 k,LeO (joustref01_word.f k a0) (joustref01_word.f (k + 1) a0):=by
 intro a0 k
 obtain ⟨ih0,ih1⟩:=joustref01_word.mono_l k
 unfold joustref01_word.f
 repeat' first
   | (with_reducible exact ih0 _ _ _ _ _)
   | (with_reducible exact ih1 _ _ _ _ _ _ _ _)
   | (with_reducible exact LeO.refl _)
   | (with_reducible exact LeO.none _)
   | (with_reducible refine LeO.ite ?_ ?_)
   | (with_reducible refine LeO.bind ?_ (fun _ => ?_))
   | exact ih0 _ _ _ _ _
   | exact ih1 _ _ _ _ _ _ _ _
   | exact LeO.none _
   | refine LeO.ite ?_ ?_
   | refine LeO.bind ?_ (fun _ => ?_)
set_option maxHeartbeats 8000000 in
set_option maxRecDepth 100000 in
theorem joustref01_word.calls (k : Nat) (a0 : ByteArray) (r1 : Int) (r2 : Int) (w : World) (hG : Tabs w) (h : joustref01_word.f k a0 = some (r1,r2)) :
  Calls Tryd.prog 36 #[.string a0] w fun e w' => e = .returned (.tuple #[.int .i64 r1,.int .i64 r2]) ∧ Below w.heap.size w w':=by
 have HG:=Aside0.mk hG
 clear hG
 have HB:=Aside0.mk (Below.refl w.heap.size w)
 have H : (joustref01_word.l0 k a0 0 0 0 0) = some (r1,r2):=h
 clear h
 have H':=Aside0.mk H
 clear H
 go_enter Tryd.func36,Tryd.ntmps36
 go_wp2
 (try simp only [Act.put,List.setIfInBounds_toArray,List.set_cons_zero,List.set_cons_succ])
 go_loopg [4,5,6,7] k (fun kq v4 v5 v6 v7 w' => ∃ (x4_1 : Int) (x5_1 : Int) (x6_1 : Int) (x7_1 : Int),v4 = .int .i64 x4_1 ∧ v5 = .int .i64 x5_1 ∧ v6 = .int .i64 x6_1 ∧ v7 = .int .i64 x7_1 ∧ Aside0 (joustref01_word.l0 kq a0 x4_1 x5_1 x6_1 x7_1 = some (r1,r2)) ∧ Aside0 (kq ≤ k) ∧ Aside0 (Below w.heap.size w w'))
 case atStart => exact ⟨(0),(0),(0),(0),(by first | rfl | (simp;done) | (simp [*];done)),(by first | rfl | (simp;done) | (simp [*];done)),(by first | rfl | (simp;done) | (simp [*];done)),(by first | rfl | (simp;done) | (simp [*];done)),H',⟨Nat.le_refl _⟩,⟨by repeat (first | (with_reducible first | exact HB.out | apply below_alloc | apply pw_below_drewN | apply below_drew1) | exact HB.out)⟩⟩
 case round =>
  clear H'
  obtain ⟨x4_1,x5_1,x6_1,x7_1,rfl,rfl,rfl,rfl,HA,HK1,HB⟩:=hrel
  cases gk with
  | zero => exact absurd HA.out (by simp [joustref01_word.l0])
  | succ k1 =>
   have H:=HA.out
   clear HA
   simp only [joustref01_word.l0] at H
   by_cases c2 : x4_1 < (a0.size : Int)
   ·rw [if_pos c2] at H
    have c2b0 : decide (x4_1 < (a0.size : Int)) = true:=decide_eq_true c2
    clear c2
    by_cases c3 : 0 ≤ x4_1
    ·rw [if_pos c3] at H
     have c3b0:=eq_true c3
     have c3b1 : decide (0 ≤ x4_1) = true:=decide_eq_true c3
     clear c3
     by_cases c4 : x4_1 ≤ (a0.size : Int)
     ·rw [if_pos c4] at H
      have c4b0:=eq_true c4
      have c4b1 : decide (x4_1 ≤ (a0.size : Int)) = true:=decide_eq_true c4
      clear c4
      replace H:=Option.bind_eq_some_iff.mp H
      obtain ⟨⟨t258,t259⟩,A50,H⟩:=H
      replace H : (if t258 = 65533 then (if t259 = 1 then (joustref01_word.j1 k1 a0 x4_1 x5_1 x6_1 x7_1 t258 t259 true) else (if x5_1 = 0 then ((unicode_IsLetter.f t258).bind fun t260 => (if t260 = true then ((joustref01_inner.f t258).bind fun t261 => (if t261 = true then (joustref01_word.j1 k1 a0 x4_1 x5_1 x6_1 x7_1 t258 t259 false) else (joustref01_word.j1 k1 a0 x4_1 x5_1 x6_1 x7_1 t258 t259 (t258 != 45)))) else (joustref01_word.j1 k1 a0 x4_1 x5_1 x6_1 x7_1 t258 t259 true))) else ((joustref01_inner.f t258).bind fun t262 => (if t262 = true then (joustref01_word.j1 k1 a0 x4_1 x5_1 x6_1 x7_1 t258 t259 false) else (joustref01_word.j1 k1 a0 x4_1 x5_1 x6_1 x7_1 t258 t259 (t258 != 45)))))) else (if x5_1 = 0 then ((unicode_IsLetter.f t258).bind fun t263 => (if t263 = true then ((joustref01_inner.f t258).bind fun t264 => (if t264 = true then (joustref01_word.j1 k1 a0 x4_1 x5_1 x6_1 x7_1 t258 t259 false) else (joustref01_word.j1 k1 a0 x4_1 x5_1 x6_1 x7_1 t258 t259 (t258 != 45)))) else (joustref01_word.j1 k1 a0 x4_1 x5_1 x6_1 x7_1 t258 t259 true))) else ((joustref01_inner.f t258).bind fun t265 => (if t265 = true then (joustref01_word.j1 k1 a0 x4_1 x5_1 x6_1 x7_1 t258 t259 false) else (joustref01_word.j1 k1 a0 x4_1 x5_1 x6_1 x7_1 t258 t259 (t258 != 45)))))) = some (r1,r2):=H
      have A5:=Aside0.mk A50
      clear A50
      have HC6:=Aside0.mk H
      clear H
      go_upto_region 4 with (first | ((with_reducible refine gate_callee (f:=34) rfl ?_);refine goesL_ (some 18) rfl rfl Tryd.func34 (by kernel_rfl) rfl #[.string (a0.extract (x4_1 : Int).toNat a0.size)] rfl (by (try simp only [List.map_toArray,List.map_cons,List.map_nil]);first | done | rfl | (simp only [List.length_drop,List.length_take];rfl)) ?_;(with_reducible refine (utf8_DecodeRuneInString.calls (a0.extract (x4_1 : Int).toNat a0.size) t258 t259 _ ?side1 A5.out).mono ?_);(case side1 => exact Tabs.below HG.out (by repeat (first | (with_reducible first | exact HB.out | apply below_alloc | apply pw_below_drewN | apply below_drew1) | exact HB.out)));rintro e w7 ⟨rfl,hb⟩;refine ⟨_,rfl,?_⟩;have n0_:=Aside0.mk (below_step (by repeat (first | (with_reducible first | exact HB.out | apply below_alloc | apply pw_below_drewN | apply below_drew1) | exact HB.out)) hb);clear HB;have HB:=n0_;clear n0_;(try clear hb);(try clear hb2);(try clear hk);(try clear hi)))
      (try simp only [Act.put,List.setIfInBounds_toArray,List.set_cons_zero,List.set_cons_succ])
      go_cut [44] (fun v44 wc => ∃ (kq : Nat) (x44_5 : Bool),v44 = .bool x44_5 ∧ Aside0 (joustref01_word.j1 kq a0 x4_1 x5_1 x6_1 x7_1 t258 t259 x44_5 = some (r1,r2)) ∧ Aside0 (kq ≤ k1) ∧ Aside0 (Below w.heap.size w wc))
      case first =>
       have H:=HC6.out
       clear HC6
       by_cases c8 : t258 = 65533
       ·rw [if_pos c8] at H
        have c8b0 : (t258 == 65533) = true:=beq_iff_eq.mpr c8
        have c8b1 : (t258 != 65533) = false:=bne_eq_false_iff_eq.mpr c8
        clear c8
        (first | rw [c8b0] | (simp only [i64_w,i32_w];rw [c8b0]) | skip)
        by_cases c9 : t259 = 1
        ·rw [if_pos c9] at H
         have c9b0 : (t259 == 1) = true:=beq_iff_eq.mpr c9
         have c9b1 : (t259 != 1) = false:=bne_eq_false_iff_eq.mpr c9
         clear c9
         have H':=Aside0.mk H
         clear H
         go_wp2
         go_meet
         case rel => exact ⟨_,(true),(by first | rfl | (simp;done) | (simp [*];done)),H',⟨by have:=HK1.out;first | omega | exact Nat.le_refl _⟩,⟨by repeat (first | (with_reducible first | exact HB.out | apply below_alloc | apply pw_below_drewN | apply below_drew1) | exact HB.out)⟩⟩
        ·rw [if_neg c9] at H
         have c9b0 : (t259 == 1) = false:=beq_eq_false_iff_ne.mpr c9
         have c9b1 : (t259 != 1) = true:=bne_iff_ne.mpr c9
         by_cases c10 : x5_1 = 0
         ·rw [if_pos c10] at H
          have c10b0 : (x5_1 == 0) = true:=beq_iff_eq.mpr c10
          have c10b1 : (x5_1 != 0) = false:=bne_eq_false_iff_eq.mpr c10
          clear c10
          replace H:=Option.bind_eq_some_iff.mp H
          obtain ⟨t260,A110,H⟩:=H
          replace H : (if t260 = true then ((joustref01_inner.f t258).bind fun t261 => (if t261 = true then (joustref01_word.j1 k1 a0 x4_1 x5_1 x6_1 x7_1 t258 t259 false) else (joustref01_word.j1 k1 a0 x4_1 x5_1 x6_1 x7_1 t258 t259 (t258 != 45)))) else (joustref01_word.j1 k1 a0 x4_1 x5_1 x6_1 x7_1 t258 t259 true)) = some (r1,r2):=H
          have A11:=Aside0.mk A110
          clear A110
          by_cases c12 : t260 = true
          ·subst c12
           have H1 : ((joustref01_inner.f t258).bind fun t261 => (if t261 = true then (joustref01_word.j1 k1 a0 x4_1 x5_1 x6_1 x7_1 t258 t259 false) else (joustref01_word.j1 k1 a0 x4_1 x5_1 x6_1 x7_1 t258 t259 (t258 != 45)))) = some (r1,r2):=by rw [if_pos rfl] at H;exact H
           clear H
           have H:=H1
           clear H1
           replace H:=Option.bind_eq_some_iff.mp H
           obtain ⟨t261,A130,H⟩:=H
           replace H : (if t261 = true then (joustref01_word.j1 k1 a0 x4_1 x5_1 x6_1 x7_1 t258 t259 false) else (joustref01_word.j1 k1 a0 x4_1 x5_1 x6_1 x7_1 t258 t259 (t258 != 45))) = some (r1,r2):=H
           have A13:=Aside0.mk A130
           clear A130
           by_cases c14 : t261 = true
           ·subst c14
            have H1 : (joustref01_word.j1 k1 a0 x4_1 x5_1 x6_1 x7_1 t258 t259 false) = some (r1,r2):=by rw [if_pos rfl] at H;exact H
            clear H
            have H:=H1
            clear H1
            have H':=Aside0.mk H
            clear H
            go_wp2_with (first | (go_at_call 40;(with_reducible refine (unicode_IsLetter.calls t258 true _ ?side1 A11.out).mono ?_);(case side1 => exact Tabs.below HG.out (by repeat (first | (with_reducible first | exact HB.out | apply below_alloc | apply pw_below_drewN | apply below_drew1) | exact HB.out)));rintro e w15 ⟨rfl,hb⟩;have n0_:=Aside0.mk (below_step (by repeat (first | (with_reducible first | exact HB.out | apply below_alloc | apply pw_below_drewN | apply below_drew1) | exact HB.out)) hb);clear HB;have HB:=n0_;clear n0_;(try clear hb);(try clear hb2);(try clear hk);(try clear hi)) | (go_at_call 58;(with_reducible refine (joustref01_inner.calls t258 true _ ?side1 A13.out).mono ?_);(case side1 => exact Tabs.below HG.out (by repeat (first | (with_reducible first | exact HB.out | apply below_alloc | apply pw_below_drewN | apply below_drew1) | exact HB.out)));rintro e w16 ⟨rfl,hb⟩;have n0_:=Aside0.mk (below_step (by repeat (first | (with_reducible first | exact HB.out | apply below_alloc | apply pw_below_drewN | apply below_drew1) | exact HB.out)) hb);clear HB;have HB:=n0_;clear n0_;(try clear hb);(try clear hb2);(try clear hk);(try clear hi)))
            go_meet
            case rel => exact ⟨_,(false),(by first | rfl | (simp;done) | (simp [*];done)),H',⟨by have:=HK1.out;first | omega | exact Nat.le_refl _⟩,⟨by repeat (first | (with_reducible first | exact HB.out | apply below_alloc | apply pw_below_drewN | apply below_drew1) | exact HB.out)⟩⟩
           ·replace c14:=Bool.eq_false_iff.mpr c14
            subst c14
            have H1 : (joustref01_word.j1 k1 a0 x4_1 x5_1 x6_1 x7_1 t258 t259 (t258 != 45)) = some (r1,r2):=by rw [if_neg (show ¬ (false = true) by decide)] at H;exact H
            clear H
            have H:=H1
            clear H1
            have H':=Aside0.mk H
            clear H
            go_wp2_with (first | (go_at_call 40;(with_reducible refine (unicode_IsLetter.calls t258 true _ ?side1 A11.out).mono ?_);(case side1 => exact Tabs.below HG.out (by repeat (first | (with_reducible first | exact HB.out | apply below_alloc | apply pw_below_drewN | apply below_drew1) | exact HB.out)));rintro e w17 ⟨rfl,hb⟩;have n0_:=Aside0.mk (below_step (by repeat (first | (with_reducible first | exact HB.out | apply below_alloc | apply pw_below_drewN | apply below_drew1) | exact HB.out)) hb);clear HB;have HB:=n0_;clear n0_;(try clear hb);(try clear hb2);(try clear hk);(try clear hi)) | (go_at_call 58;(with_reducible refine (joustref01_inner.calls t258 false _ ?side1 A13.out).mono ?_);(case side1 => exact Tabs.below HG.out (by repeat (first | (with_reducible first | exact HB.out | apply below_alloc | apply pw_below_drewN | apply below_drew1) | exact HB.out)));rintro e w18 ⟨rfl,hb⟩;have n0_:=Aside0.mk (below_step (by repeat (first | (with_reducible first | exact HB.out | apply below_alloc | apply pw_below_drewN | apply below_drew1) | exact HB.out)) hb);clear HB;have HB:=n0_;clear n0_;(try clear hb);(try clear hb2);(try clear hk);(try clear hi)))
            go_meet
            case rel => exact ⟨_,((t258 != 45)),(by first | rfl | (simp;done) | (simp [*];done)),H',⟨by have:=HK1.out;first | omega | exact Nat.le_refl _⟩,⟨by repeat (first | (with_reducible first | exact HB.out | apply below_alloc | apply pw_below_drewN | apply below_drew1) | exact HB.out)⟩⟩
          ·replace c12:=Bool.eq_false_iff.mpr c12
           subst c12
           have H1 : (joustref01_word.j1 k1 a0 x4_1 x5_1 x6_1 x7_1 t258 t259 true) = some (r1,r2):=by rw [if_neg (show ¬ (false = true) by decide)] at H;exact H
           clear H
           have H:=H1
           clear H1
           have H':=Aside0.mk H
           clear H
           go_wp2_with (first | (go_at_call 40;(with_reducible refine (unicode_IsLetter.calls t258 false _ ?side1 A11.out).mono ?_);(case side1 => exact Tabs.below HG.out (by repeat (first | (with_reducible first | exact HB.out | apply below_alloc | apply pw_below_drewN | apply below_drew1) | exact HB.out)));rintro e w19 ⟨rfl,hb⟩;have n0_:=Aside0.mk (below_step (by repeat (first | (with_reducible first | exact HB.out | apply below_alloc | apply pw_below_drewN | apply below_drew1) | exact HB.out)) hb);clear HB;have HB:=n0_;clear n0_;(try clear hb);(try clear hb2);(try clear hk);(try clear hi)))
           go_meet
           case rel => exact ⟨_,(true),(by first | rfl | (simp;done) | (simp [*];done)),H',⟨by have:=HK1.out;first | omega | exact Nat.le_refl _⟩,⟨by repeat (first | (with_reducible first | exact HB.out | apply below_alloc | apply pw_below_drewN | apply below_drew1) | exact HB.out)⟩⟩
         ·rw [if_neg c10] at H
          have c10b0 : (x5_1 == 0) = false:=beq_eq_false_iff_ne.mpr c10
          have c10b1 : (x5_1 != 0) = true:=bne_iff_ne.mpr c10
          replace H:=Option.bind_eq_some_iff.mp H
          obtain ⟨t262,A200,H⟩:=H
          replace H : (if t262 = true then (joustref01_word.j1 k1 a0 x4_1 x5_1 x6_1 x7_1 t258 t259 false) else (joustref01_word.j1 k1 a0 x4_1 x5_1 x6_1 x7_1 t258 t259 (t258 != 45))) = some (r1,r2):=H
          have A20:=Aside0.mk A200
          clear A200
          by_cases c21 : t262 = true
          ·subst c21
           have H1 : (joustref01_word.j1 k1 a0 x4_1 x5_1 x6_1 x7_1 t258 t259 false) = some (r1,r2):=by rw [if_pos rfl] at H;exact H
           clear H
           have H:=H1
           clear H1
           have H':=Aside0.mk H
           clear H
           go_wp2_with (first | (go_at_call 58;(with_reducible refine (joustref01_inner.calls t258 true _ ?side1 A20.out).mono ?_);(case side1 => exact Tabs.below HG.out (by repeat (first | (with_reducible first | exact HB.out | apply below_alloc | apply pw_below_drewN | apply below_drew1) | exact HB.out)));rintro e w22 ⟨rfl,hb⟩;have n0_:=Aside0.mk (below_step (by repeat (first | (with_reducible first | exact HB.out | apply below_alloc | apply pw_below_drewN | apply below_drew1) | exact HB.out)) hb);clear HB;have HB:=n0_;clear n0_;(try clear hb);(try clear hb2);(try clear hk);(try clear hi)))
           go_meet
           case rel => exact ⟨_,(false),(by first | rfl | (simp;done) | (simp [*];done)),H',⟨by have:=HK1.out;first | omega | exact Nat.le_refl _⟩,⟨by repeat (first | (with_reducible first | exact HB.out | apply below_alloc | apply pw_below_drewN | apply below_drew1) | exact HB.out)⟩⟩
          ·replace c21:=Bool.eq_false_iff.mpr c21
           subst c21
           have H1 : (joustref01_word.j1 k1 a0 x4_1 x5_1 x6_1 x7_1 t258 t259 (t258 != 45)) = some (r1,r2):=by rw [if_neg (show ¬ (false = true) by decide)] at H;exact H
           clear H
           have H:=H1
           clear H1
           have H':=Aside0.mk H
           clear H
           go_wp2_with (first | (go_at_call 58;(with_reducible refine (joustref01_inner.calls t258 false _ ?side1 A20.out).mono ?_);(case side1 => exact Tabs.below HG.out (by repeat (first | (with_reducible first | exact HB.out | apply below_alloc | apply pw_below_drewN | apply below_drew1) | exact HB.out)));rintro e w23 ⟨rfl,hb⟩;have n0_:=Aside0.mk (below_step (by repeat (first | (with_reducible first | exact HB.out | apply below_alloc | apply pw_below_drewN | apply below_drew1) | exact HB.out)) hb);clear HB;have HB:=n0_;clear n0_;(try clear hb);(try clear hb2);(try clear hk);(try clear hi)))
           go_meet
           case rel => exact ⟨_,((t258 != 45)),(by first | rfl | (simp;done) | (simp [*];done)),H',⟨by have:=HK1.out;first | omega | exact Nat.le_refl _⟩,⟨by repeat (first | (with_reducible first | exact HB.out | apply below_alloc | apply pw_below_drewN | apply below_drew1) | exact HB.out)⟩⟩
       ·rw [if_neg c8] at H
        have c8b0 : (t258 == 65533) = false:=beq_eq_false_iff_ne.mpr c8
        have c8b1 : (t258 != 65533) = true:=bne_iff_ne.mpr c8
        (first | rw [c8b0] | (simp only [i64_w,i32_w];rw [c8b0]) | skip)
        by_cases c24 : x5_1 = 0
        ·rw [if_pos c24] at H
         have c24b0 : (x5_1 == 0) = true:=beq_iff_eq.mpr c24
         have c24b1 : (x5_1 != 0) = false:=bne_eq_false_iff_eq.mpr c24
         clear c24
         replace H:=Option.bind_eq_some_iff.mp H
         obtain ⟨t263,A250,H⟩:=H
         replace H : (if t263 = true then ((joustref01_inner.f t258).bind fun t264 => (if t264 = true then (joustref01_word.j1 k1 a0 x4_1 x5_1 x6_1 x7_1 t258 t259 false) else (joustref01_word.j1 k1 a0 x4_1 x5_1 x6_1 x7_1 t258 t259 (t258 != 45)))) else (joustref01_word.j1 k1 a0 x4_1 x5_1 x6_1 x7_1 t258 t259 true)) = some (r1,r2):=H
         have A25:=Aside0.mk A250
         clear A250
         by_cases c26 : t263 = true
         ·subst c26
          have H1 : ((joustref01_inner.f t258).bind fun t264 => (if t264 = true then (joustref01_word.j1 k1 a0 x4_1 x5_1 x6_1 x7_1 t258 t259 false) else (joustref01_word.j1 k1 a0 x4_1 x5_1 x6_1 x7_1 t258 t259 (t258 != 45)))) = some (r1,r2):=by rw [if_pos rfl] at H;exact H
          clear H
          have H:=H1
          clear H1
          replace H:=Option.bind_eq_some_iff.mp H
          obtain ⟨t264,A270,H⟩:=H
          replace H : (if t264 = true then (joustref01_word.j1 k1 a0 x4_1 x5_1 x6_1 x7_1 t258 t259 false) else (joustref01_word.j1 k1 a0 x4_1 x5_1 x6_1 x7_1 t258 t259 (t258 != 45))) = some (r1,r2):=H
          have A27:=Aside0.mk A270
          clear A270
          by_cases c28 : t264 = true
          ·subst c28
           have H1 : (joustref01_word.j1 k1 a0 x4_1 x5_1 x6_1 x7_1 t258 t259 false) = some (r1,r2):=by rw [if_pos rfl] at H;exact H
           clear H
           have H:=H1
           clear H1
           have H':=Aside0.mk H
           clear H
           go_wp2_with (first | (go_at_call 40;(with_reducible refine (unicode_IsLetter.calls t258 true _ ?side1 A25.out).mono ?_);(case side1 => exact Tabs.below HG.out (by repeat (first | (with_reducible first | exact HB.out | apply below_alloc | apply pw_below_drewN | apply below_drew1) | exact HB.out)));rintro e w29 ⟨rfl,hb⟩;have n0_:=Aside0.mk (below_step (by repeat (first | (with_reducible first | exact HB.out | apply below_alloc | apply pw_below_drewN | apply below_drew1) | exact HB.out)) hb);clear HB;have HB:=n0_;clear n0_;(try clear hb);(try clear hb2);(try clear hk);(try clear hi)) | (go_at_call 58;(with_reducible refine (joustref01_inner.calls t258 true _ ?side1 A27.out).mono ?_);(case side1 => exact Tabs.below HG.out (by repeat (first | (with_reducible first | exact HB.out | apply below_alloc | apply pw_below_drewN | apply below_drew1) | exact HB.out)));rintro e w30 ⟨rfl,hb⟩;have n0_:=Aside0.mk (below_step (by repeat (first | (with_reducible first | exact HB.out | apply below_alloc | apply pw_below_drewN | apply below_drew1) | exact HB.out)) hb);clear HB;have HB:=n0_;clear n0_;(try clear hb);(try clear hb2);(try clear hk);(try clear hi)))
           go_meet
           case rel => exact ⟨_,(false),(by first | rfl | (simp;done) | (simp [*];done)),H',⟨by have:=HK1.out;first | omega | exact Nat.le_refl _⟩,⟨by repeat (first | (with_reducible first | exact HB.out | apply below_alloc | apply pw_below_drewN | apply below_drew1) | exact HB.out)⟩⟩
          ·replace c28:=Bool.eq_false_iff.mpr c28
           subst c28
           have H1 : (joustref01_word.j1 k1 a0 x4_1 x5_1 x6_1 x7_1 t258 t259 (t258 != 45)) = some (r1,r2):=by rw [if_neg (show ¬ (false = true) by decide)] at H;exact H
           clear H
           have H:=H1
           clear H1
           have H':=Aside0.mk H
           clear H
           go_wp2_with (first | (go_at_call 40;(with_reducible refine (unicode_IsLetter.calls t258 true _ ?side1 A25.out).mono ?_);(case side1 => exact Tabs.below HG.out (by repeat (first | (with_reducible first | exact HB.out | apply below_alloc | apply pw_below_drewN | apply below_drew1) | exact HB.out)));rintro e w31 ⟨rfl,hb⟩;have n0_:=Aside0.mk (below_step (by repeat (first | (with_reducible first | exact HB.out | apply below_alloc | apply pw_below_drewN | apply below_drew1) | exact HB.out)) hb);clear HB;have HB:=n0_;clear n0_;(try clear hb);(try clear hb2);(try clear hk);(try clear hi)) | (go_at_call 58;(with_reducible refine (joustref01_inner.calls t258 false _ ?side1 A27.out).mono ?_);(case side1 => exact Tabs.below HG.out (by repeat (first | (with_reducible first | exact HB.out | apply below_alloc | apply pw_below_drewN | apply below_drew1) | exact HB.out)));rintro e w32 ⟨rfl,hb⟩;have n0_:=Aside0.mk (below_step (by repeat (first | (with_reducible first | exact HB.out | apply below_alloc | apply pw_below_drewN | apply below_drew1) | exact HB.out)) hb);clear HB;have HB:=n0_;clear n0_;(try clear hb);(try clear hb2);(try clear hk);(try clear hi)))
           go_meet
           case rel => exact ⟨_,((t258 != 45)),(by first | rfl | (simp;done) | (simp [*];done)),H',⟨by have:=HK1.out;first | omega | exact Nat.le_refl _⟩,⟨by repeat (first | (with_reducible first | exact HB.out | apply below_alloc | apply pw_below_drewN | apply below_drew1) | exact HB.out)⟩⟩
         ·replace c26:=Bool.eq_false_iff.mpr c26
          subst c26
          have H1 : (joustref01_word.j1 k1 a0 x4_1 x5_1 x6_1 x7_1 t258 t259 true) = some (r1,r2):=by rw [if_neg (show ¬ (false = true) by decide)] at H;exact H
          clear H
          have H:=H1
          clear H1
          have H':=Aside0.mk H
          clear H
          go_wp2_with (first | (go_at_call 40;(with_reducible refine (unicode_IsLetter.calls t258 false _ ?side1 A25.out).mono ?_);(case side1 => exact Tabs.below HG.out (by repeat (first | (with_reducible first | exact HB.out | apply below_alloc | apply pw_below_drewN | apply below_drew1) | exact HB.out)));rintro e w33 ⟨rfl,hb⟩;have n0_:=Aside0.mk (below_step (by repeat (first | (with_reducible first | exact HB.out | apply below_alloc | apply pw_below_drewN | apply below_drew1) | exact HB.out)) hb);clear HB;have HB:=n0_;clear n0_;(try clear hb);(try clear hb2);(try clear hk);(try clear hi)))
          go_meet
          case rel => exact ⟨_,(true),(by first | rfl | (simp;done) | (simp [*];done)),H',⟨by have:=HK1.out;first | omega | exact Nat.le_refl _⟩,⟨by repeat (first | (with_reducible first | exact HB.out | apply below_alloc | apply pw_below_drewN | apply below_drew1) | exact HB.out)⟩⟩
        ·rw [if_neg c24] at H
         have c24b0 : (x5_1 == 0) = false:=beq_eq_false_iff_ne.mpr c24
         have c24b1 : (x5_1 != 0) = true:=bne_iff_ne.mpr c24
         replace H:=Option.bind_eq_some_iff.mp H
         obtain ⟨t265,A340,H⟩:=H
         replace H : (if t265 = true then (joustref01_word.j1 k1 a0 x4_1 x5_1 x6_1 x7_1 t258 t259 false) else (joustref01_word.j1 k1 a0 x4_1 x5_1 x6_1 x7_1 t258 t259 (t258 != 45))) = some (r1,r2):=H
         have A34:=Aside0.mk A340
         clear A340
         by_cases c35 : t265 = true
         ·subst c35
          have H1 : (joustref01_word.j1 k1 a0 x4_1 x5_1 x6_1 x7_1 t258 t259 false) = some (r1,r2):=by rw [if_pos rfl] at H;exact H
          clear H
          have H:=H1
          clear H1
          have H':=Aside0.mk H
          clear H
          go_wp2_with (first | (go_at_call 58;(with_reducible refine (joustref01_inner.calls t258 true _ ?side1 A34.out).mono ?_);(case side1 => exact Tabs.below HG.out (by repeat (first | (with_reducible first | exact HB.out | apply below_alloc | apply pw_below_drewN | apply below_drew1) | exact HB.out)));rintro e w36 ⟨rfl,hb⟩;have n0_:=Aside0.mk (below_step (by repeat (first | (with_reducible first | exact HB.out | apply below_alloc | apply pw_below_drewN | apply below_drew1) | exact HB.out)) hb);clear HB;have HB:=n0_;clear n0_;(try clear hb);(try clear hb2);(try clear hk);(try clear hi)))
          go_meet
          case rel => exact ⟨_,(false),(by first | rfl | (simp;done) | (simp [*];done)),H',⟨by have:=HK1.out;first | omega | exact Nat.le_refl _⟩,⟨by repeat (first | (with_reducible first | exact HB.out | apply below_alloc | apply pw_below_drewN | apply below_drew1) | exact HB.out)⟩⟩
         ·replace c35:=Bool.eq_false_iff.mpr c35
          subst c35
          have H1 : (joustref01_word.j1 k1 a0 x4_1 x5_1 x6_1 x7_1 t258 t259 (t258 != 45)) = some (r1,r2):=by rw [if_neg (show ¬ (false = true) by decide)] at H;exact H
          clear H
          have H:=H1
          clear H1
          have H':=Aside0.mk H
          clear H
          go_wp2_with (first | (go_at_call 58;(with_reducible refine (joustref01_inner.calls t258 false _ ?side1 A34.out).mono ?_);(case side1 => exact Tabs.below HG.out (by repeat (first | (with_reducible first | exact HB.out | apply below_alloc | apply pw_below_drewN | apply below_drew1) | exact HB.out)));rintro e w37 ⟨rfl,hb⟩;have n0_:=Aside0.mk (below_step (by repeat (first | (with_reducible first | exact HB.out | apply below_alloc | apply pw_below_drewN | apply below_drew1) | exact HB.out)) hb);clear HB;have HB:=n0_;clear n0_;(try clear hb);(try clear hb2);(try clear hk);(try clear hi)))
          go_meet
          case rel => exact ⟨_,((t258 != 45)),(by first | rfl | (simp;done) | (simp [*];done)),H',⟨by have:=HK1.out;first | omega | exact Nat.le_refl _⟩,⟨by repeat (first | (with_reducible first | exact HB.out | apply below_alloc | apply pw_below_drewN | apply below_drew1) | exact HB.out)⟩⟩
      case rest =>
       clear HC6
       try clear c1
       try clear c2
       try clear c2b0
       try clear p2
       try clear c3
       try clear c3b0
       try clear c3b1
       try clear c4
       try clear c4b0
       try clear c4b1
       try clear c8
       try clear c8b0
       try clear c8b1
       try clear c9
       try clear c9b0
       try clear c9b1
       try clear c10
       try clear c10b0
       try clear c10b1
       try clear c12
       try clear c14
       try clear c21
       try clear c24
       try clear c24b0
       try clear c24b1
       try clear c26
       try clear c28
       try clear c34
       try clear c35
       try clear c36
       obtain ⟨kq,x44_5,rfl,HA,HJ5,HB⟩:=hcut
       cases kq with
       | zero => exact absurd HA.out (by simp [joustref01_word.j1])
       | succ kj5 =>
        have H:=HA.out
        clear HA
        simp only [joustref01_word.j1] at H
        by_cases c38 : x44_5 = true
        ·subst c38
         have H1 : (some (x6_1,x7_1)) = some (r1,r2):=by rw [if_pos rfl] at H;exact H
         clear H
         have H:=H1
         clear H1
         simp only [Option.some.injEq,Prod.mk.injEq] at H
         obtain ⟨rfl,rfl⟩:=H
         go_wp2
         go_ret2
         exact ⟨by first | rfl | (simp [errW_none,errW_some] <;> rfl) | (simp [*,errW_none,errW_some] <;> rfl),by repeat (first | (with_reducible first | exact HB.out | apply below_alloc | apply pw_below_drewN | apply below_drew1) | exact HB.out)⟩
        ·replace c38:=Bool.eq_false_iff.mpr c38
         subst c38
         have H1 : (if t258 = 45 then (joustref01_word.l0 kj5 a0 (wrap64 (x4_1 + t259)) (wrap64 (x5_1 + 1)) x6_1 x7_1) else (joustref01_word.l0 kj5 a0 (wrap64 (x4_1 + t259)) (wrap64 (x5_1 + 1)) (wrap64 (x4_1 + t259)) (wrap64 (x5_1 + 1)))) = some (r1,r2):=by rw [if_neg (show ¬ (false = true) by decide)] at H;exact H
         clear H
         have H:=H1
         clear H1
         by_cases c39 : t258 = 45
         ·rw [if_pos c39] at H
          have c39b0 : (t258 == 45) = true:=beq_iff_eq.mpr c39
          have c39b1 : (t258 != 45) = false:=bne_eq_false_iff_eq.mpr c39
          clear c39
          have H':=Aside0.mk H
          clear H
          go_wp2
          go_roundg kj5
          case measure => have:=HK1.out;have:=HJ5.out;omega
          case rel => exact ⟨(wrap64 (x4_1 + t259)),(wrap64 (x5_1 + 1)),(x6_1),(x7_1),(by first | rfl | (simp;done) | (simp [*];done)),(by first | rfl | (simp;done) | (simp [*];done)),(by first | rfl | (simp;done) | (simp [*];done)),(by first | rfl | (simp;done) | (simp [*];done)),H',⟨by have:=HK1.out;have:=HJ5.out;omega⟩,⟨by repeat (first | (with_reducible first | exact HB.out | apply below_alloc | apply pw_below_drewN | apply below_drew1) | exact HB.out)⟩⟩
         ·rw [if_neg c39] at H
          have c39b0 : (t258 == 45) = false:=beq_eq_false_iff_ne.mpr c39
          have c39b1 : (t258 != 45) = true:=bne_iff_ne.mpr c39
          have H':=Aside0.mk H
          clear H
          go_wp2
          go_roundg kj5
          case measure => have:=HK1.out;have:=HJ5.out;omega
          case rel => exact ⟨(wrap64 (x4_1 + t259)),(wrap64 (x5_1 + 1)),(wrap64 (x4_1 + t259)),(wrap64 (x5_1 + 1)),(by first | rfl | (simp;done) | (simp [*];done)),(by first | rfl | (simp;done) | (simp [*];done)),(by first | rfl | (simp;done) | (simp [*];done)),(by first | rfl | (simp;done) | (simp [*];done)),H',⟨by have:=HK1.out;have:=HJ5.out;omega⟩,⟨by repeat (first | (with_reducible first | exact HB.out | apply below_alloc | apply pw_below_drewN | apply below_drew1) | exact HB.out)⟩⟩
     ·rw [if_neg c4] at H
      exact absurd H (by simp)
    ·rw [if_neg c3] at H
     exact absurd H (by simp)
   ·rw [if_neg c2] at H
    have c2b0 : decide (x4_1 < (a0.size : Int)) = false:=decide_eq_false c2
    clear c2
    simp only [Option.some.injEq,Prod.mk.injEq] at H
    obtain ⟨rfl,rfl⟩:=H
    go_wp2
    go_ret2
    exact ⟨by first | rfl | (simp [errW_none,errW_some] <;> rfl) | (simp [*,errW_none,errW_some] <;> rfl),by repeat (first | (with_reducible first | exact HB.out | apply below_alloc | apply pw_below_drewN | apply below_drew1) | exact HB.out)⟩

end Go.Proofs.YtgalbiokebghkaaDoor.S
