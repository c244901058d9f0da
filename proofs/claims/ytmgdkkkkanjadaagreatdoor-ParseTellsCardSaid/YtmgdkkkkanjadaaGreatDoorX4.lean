/- Written by a program of this claim's author (stubprint.py, over the kit's print) out of the translation: Go functions as Lean functions, and that the calls come to them. -/
import Derived.Test.YtmgdkkkkanjadaaGreatDoorX0
import Derived.Test.YtmgdkkkkanjadaaGreatDoorHandS
import Derived.WalkLawsBesides
namespace Go.Proofs.YtmgdkkkkanjadaaGreatDoor.X
open Go.RowKit Go.Proofs.YtmgdkkkkanjadaaGreatDoorW.PrintWords Go.Proofs.YtmgdkkkkanjadaaGreatDoorW.PrintLast Go.Proofs.YtmgdkkkkanjadaaGreatDoorW.PrintMore Go.Proofs.YtmgdkkkkanjadaaGreatDoor.HandS Go.Proofs.YtmgdkkkkanjadaaGreatDoor.Iter
attribute [local go_sem] max2_int min2_int max_two min_two max_three min_three max_four min_four   -- for this text's walks alone
set_option linter.unusedVariables false
set_option linter.unusedSimpArgs false

/-! ### scan_number: function 98 -/
def scan_number.j0 : Nat → ByteArray → ByteArray → Bool → Option (Int)
 | 0,_,_,_ => none
 | k + 1,x0,x1,x19 => if x19 = true then (some 3) else ((utf8_DecodeRuneInString.f x1).bind fun bt150 => (if (x0.size : Int) > 1 then (if 0 < (x0.size : Int) then (if (bt x0 0) = 48 then (some 5) else ((unicode_IsLetter.f bt150.1).bind fun t152 => (if t152 = true then (some 5) else (some 0)))) else (none)) else ((unicode_IsLetter.f bt150.1).bind fun t153 => (if t153 = true then (some 5) else (some 0)))))
def scan_number.f (k : Nat) (a0 : ByteArray) (a1 : ByteArray) : Option (Int):=(strconv_Atoi.f a0).bind fun bt147 => (if bt147.2.isNone = true then (scan_number.j0 k a0 a1 (decide (bt147.1 > 99999))) else (scan_number.j0 k a0 a1 true))
theorem scan_number.mono_l : ∀ k,(∀ y0 y1 y2,LeO (scan_number.j0 k y0 y1 y2) (scan_number.j0 (k + 1) y0 y1 y2))
 | 0 => fun _ _ _ r h => by simp [scan_number.j0] at h
 | k + 1 => by
  have ih0:=scan_number.mono_l k
  ·intro y0 y1 y2
   unfold scan_number.j0
   repeat' first
   | (with_reducible exact ih0 _ _ _)
   | (with_reducible exact LeO.refl _)
   | (with_reducible exact LeO.none _)
   | (with_reducible refine LeO.ite ?_ ?_)
   | (with_reducible refine LeO.bind ?_ (fun _ => ?_))
   | exact ih0 _ _ _
   | exact LeO.none _
   | refine LeO.ite ?_ ?_
   | refine LeO.bind ?_ (fun _ => ?_)
theorem scan_number.mono : ∀ a0 a1 k,LeO (scan_number.f k a0 a1) (scan_number.f (k + 1) a0 a1):=by
 intro a0 a1 k;have ih0:=scan_number.mono_l k
 unfold scan_number.f
 repeat' first
   | (with_reducible exact ih0 _ _ _)
   | (with_reducible exact LeO.refl _)
   | (with_reducible exact LeO.none _)
   | (with_reducible refine LeO.ite ?_ ?_)
   | (with_reducible refine LeO.bind ?_ (fun _ => ?_))
   | exact ih0 _ _ _
   | exact LeO.none _
   | refine LeO.ite ?_ ?_
   | refine LeO.bind ?_ (fun _ => ?_)
set_option maxHeartbeats 8000000 in
set_option maxRecDepth 100000 in
theorem scan_number.calls (k : Nat) (a0 : ByteArray) (a1 : ByteArray) (r : Int) (w : World) (hG : Tabs w) (h : scan_number.f k a0 a1 = some r) :
  Calls Tryz.prog 98 #[.string a0,.string a1] w fun e w' => e = .returned (.int .i64 r) ∧ Below w.heap.size w w':=by
 have hu101:=Tryz.underlying101;have HG:=Aside0.mk hG;clear hG;have HB:=Aside0.mk (Below.refl w.heap.size w);have H : ((strconv_Atoi.f a0).bind fun bt147 => (if bt147.2.isNone = true then (scan_number.j0 k a0 a1 (decide (bt147.1 > 99999))) else (scan_number.j0 k a0 a1 true))) = some r:=h;clear h;replace H:=Option.bind_eq_some_iff.mp H;obtain ⟨⟨t147,t148⟩,A30,H⟩:=H
 (try dsimp only at H)
 have A3:=Aside0.mk A30;clear A30;have HC4:=Aside0.mk H;clear H
 go_enter Tryz.func98,Tryz.ntmps98
 go_upto_region 2 with (first | ((with_reducible refine gate_callee (f:=69) rfl ?_);refine goesL_ (some 11) rfl rfl Tryz.func69 (by kernel_rfl) rfl #[.string a0] rfl ea ?_;(with_reducible refine (strconv_Atoi.calls a0 t147 t148 _ ?side1 A3.out).mono ?_);(case side1 => exact Tabs.below HG.out (bl0 HB.out));rintro e w5 ⟨NE_,rfl,hb⟩;refine ⟨_,rfl,?_⟩;replace HB:=Aside0.mk (below_step (bl0 HB.out) hb);(try clear hb);(try simp only [errW_none,errW_some,errV_none,errV_some])))
 (try simp only [Act.put,List.setIfInBounds_toArray,List.set_cons_zero,List.set_cons_succ])
 go_cut [19] (fun v19 wc => ∃ (kq : Nat) (x19_3 : Bool),v19 = .bool x19_3 ∧ Aside0 (scan_number.j0 kq a0 a1 x19_3 = some r) ∧ Aside0 (kq ≤ k) ∧ Aside0 (Below w.heap.size w wc))
 case first =>
  have H:=HC4.out;clear HC4
  rcases t148 with _ | q149
  ·rw [if_pos (show (none : Option Int).isNone = true by rfl)] at H
   try simp only [errW_none,errW_some,errV_none,errV_some]
   have H':=Aside0.mk H;clear H
   go_wp2
   go_meet
   case rel => exact ⟨_,(decide (t147 > 99999)),(by first | rfl | (simp;done) | (simp [*];done)),H',⟨by first | omega | exact Nat.le_refl _⟩,⟨bl0 HB.out⟩⟩
  ·rw [if_neg (show ¬ (some q149).isNone = true by simp)] at H
   try simp only [errW_none,errW_some,errV_none,errV_some]
   have H':=Aside0.mk H;clear H
   go_wp2
   go_meet
   case rel => exact ⟨_,(true),(by first | rfl | (simp;done) | (simp [*];done)),H',⟨by first | omega | exact Nat.le_refl _⟩,⟨bl0 HB.out⟩⟩
 case rest =>
  clear HC4
  try clear q1
  try clear p2
  try clear q149
  obtain ⟨kq,x19_3,rfl,HA,HJ3,HB⟩:=hcut
  cases kq with
  | zero => exact absurd HA.out (by simp [scan_number.j0])
  | succ kj3 =>
   have H:=HA.out;clear HA;simp only [scan_number.j0] at H
   by_cases c6 : x19_3 = true
   ·subst c6;rw [if_pos rfl] at H;obtain rfl:=Option.some.inj H
    go_wp2
    go_ret
    exact ⟨by first | rfl | (simp [errW_none,errW_some] <;> rfl) | (simp [*,errW_none,errW_some] <;> rfl),bl0 HB.out⟩
   ·replace c6:=Bool.eq_false_iff.mpr c6;subst c6;rw [if_neg (show ¬ (false = true) by decide)] at H;replace H:=Option.bind_eq_some_iff.mp H;obtain ⟨⟨t150,t151⟩,A70,H⟩:=H
    (try dsimp only at H)
    have A7:=Aside0.mk A70;clear A70
    by_cases c8 : (a0.size : Int) > 1
    ·rw [if_pos c8] at H;have c8b0 : decide (1 < (a0.size : Int)) = true:=decide_eq_true c8;have c8b1 : decide (1 < a0.size) = true:=decide_eq_true (by omega);clear c8
     by_cases c9 : 0 < (a0.size : Int)
     ·rw [if_pos c9] at H;have c9b0 : decide (0 < (a0.size : Int)) = true:=decide_eq_true c9;have c9b1 : decide (0 < a0.size) = true:=decide_eq_true (by omega);clear c9
      by_cases c11 : (bt a0 0) = 48
      ·rw [if_pos c11] at H;have c11b0 : ((bt a0 0) == 48) = true:=beq_iff_eq.mpr c11;have c11b1 : ((bt a0 0) != 48) = false:=bne_eq_false_iff_eq.mpr c11;clear c11;obtain rfl:=Option.some.inj H
       go_wp2_with (first | ((with_reducible refine gate_callee (f:=80) rfl ?_);refine goesL_ (some 22) rfl rfl Tryz.func80 (by kernel_rfl) rfl #[.string a1] rfl ea ?_;(with_reducible refine (utf8_DecodeRuneInString.calls a1 t150 t151 _ ?side1 A7.out).mono ?_);(case side1 => exact Tabs.below HG.out (bl0 HB.out));rintro e w12 ⟨rfl,hb⟩;refine ⟨_,rfl,?_⟩;replace HB:=Aside0.mk (below_step (bl0 HB.out) hb);(try clear hb);have p10 : 0 ≤ (0 : Int):=(by omega);have q10 : 0 < a0.size:=(by have : (0 : Int) < (a0.size : Int):=of_decide_eq_true (by first | (with_reducible assumption) | assumption);omega);have hx10 : ∀ h : 0 < a0.size,((a0[0]'h).toNat : Int) = bt a0 0:=bt_at a0 0;clear p10;have qi10 : (0 < (a0.size : Int)) = True:=eq_true (of_decide_eq_true (by first | (with_reducible assumption) | assumption));replace q10:=eq_true q10))
       go_ret
       exact ⟨by first | rfl | (simp [errW_none,errW_some] <;> rfl) | (simp [*,errW_none,errW_some] <;> rfl),bl0 HB.out⟩
      ·rw [if_neg c11] at H;have c11b0 : ((bt a0 0) == 48) = false:=beq_eq_false_iff_ne.mpr c11;have c11b1 : ((bt a0 0) != 48) = true:=bne_iff_ne.mpr c11;replace H:=Option.bind_eq_some_iff.mp H;obtain ⟨t152,A130,H⟩:=H
       (try dsimp only at H)
       have A13:=Aside0.mk A130;clear A130
       by_cases c14 : t152 = true
       ·subst c14;rw [if_pos rfl] at H;obtain rfl:=Option.some.inj H
        go_wp2_with (first | ((with_reducible refine gate_callee (f:=80) rfl ?_);refine goesL_ (some 22) rfl rfl Tryz.func80 (by kernel_rfl) rfl #[.string a1] rfl ea ?_;(with_reducible refine (utf8_DecodeRuneInString.calls a1 t150 t151 _ ?side1 A7.out).mono ?_);(case side1 => exact Tabs.below HG.out (bl0 HB.out));rintro e w15 ⟨rfl,hb⟩;refine ⟨_,rfl,?_⟩;replace HB:=Aside0.mk (below_step (bl0 HB.out) hb);(try clear hb);have p10 : 0 ≤ (0 : Int):=(by omega);have q10 : 0 < a0.size:=(by have : (0 : Int) < (a0.size : Int):=of_decide_eq_true (by first | (with_reducible assumption) | assumption);omega);have hx10 : ∀ h : 0 < a0.size,((a0[0]'h).toNat : Int) = bt a0 0:=bt_at a0 0;clear p10;have qi10 : (0 < (a0.size : Int)) = True:=eq_true (of_decide_eq_true (by first | (with_reducible assumption) | assumption));replace q10:=eq_true q10) | (go_at_call 87;(with_reducible refine (unicode_IsLetter.calls t150 true _ ?side1 A13.out).mono ?_);(case side1 => exact Tabs.below HG.out (bl0 HB.out));rintro e w16 ⟨rfl,hb⟩;replace HB:=Aside0.mk (below_step (bl0 HB.out) hb);(try clear hb)))
        go_ret
        exact ⟨by first | rfl | (simp [errW_none,errW_some] <;> rfl) | (simp [*,errW_none,errW_some] <;> rfl),bl0 HB.out⟩
       ·replace c14:=Bool.eq_false_iff.mpr c14;subst c14;rw [if_neg (show ¬ (false = true) by decide)] at H;obtain rfl:=Option.some.inj H
        go_wp2_with (first | ((with_reducible refine gate_callee (f:=80) rfl ?_);refine goesL_ (some 22) rfl rfl Tryz.func80 (by kernel_rfl) rfl #[.string a1] rfl ea ?_;(with_reducible refine (utf8_DecodeRuneInString.calls a1 t150 t151 _ ?side1 A7.out).mono ?_);(case side1 => exact Tabs.below HG.out (bl0 HB.out));rintro e w17 ⟨rfl,hb⟩;refine ⟨_,rfl,?_⟩;replace HB:=Aside0.mk (below_step (bl0 HB.out) hb);(try clear hb);have p10 : 0 ≤ (0 : Int):=(by omega);have q10 : 0 < a0.size:=(by have : (0 : Int) < (a0.size : Int):=of_decide_eq_true (by first | (with_reducible assumption) | assumption);omega);have hx10 : ∀ h : 0 < a0.size,((a0[0]'h).toNat : Int) = bt a0 0:=bt_at a0 0;clear p10;have qi10 : (0 < (a0.size : Int)) = True:=eq_true (of_decide_eq_true (by first | (with_reducible assumption) | assumption));replace q10:=eq_true q10) | (go_at_call 87;(with_reducible refine (unicode_IsLetter.calls t150 false _ ?side1 A13.out).mono ?_);(case side1 => exact Tabs.below HG.out (bl0 HB.out));rintro e w18 ⟨rfl,hb⟩;replace HB:=Aside0.mk (below_step (bl0 HB.out) hb);(try clear hb)))
        go_ret
        exact ⟨by first | rfl | (simp [errW_none,errW_some] <;> rfl) | (simp [*,errW_none,errW_some] <;> rfl),bl0 HB.out⟩
     ·rw [if_neg c9] at H;exact absurd H (by simp)
    ·rw [if_neg c8] at H;have c8b0 : decide (1 < (a0.size : Int)) = false:=decide_eq_false c8;have c8b1 : decide (1 < a0.size) = false:=decide_eq_false (by omega);clear c8;replace H:=Option.bind_eq_some_iff.mp H;obtain ⟨t153,A190,H⟩:=H
     (try dsimp only at H)
     have A19:=Aside0.mk A190;clear A190
     by_cases c20 : t153 = true
     ·subst c20;rw [if_pos rfl] at H;obtain rfl:=Option.some.inj H
      go_wp2_with (first | ((with_reducible refine gate_callee (f:=80) rfl ?_);refine goesL_ (some 22) rfl rfl Tryz.func80 (by kernel_rfl) rfl #[.string a1] rfl ea ?_;(with_reducible refine (utf8_DecodeRuneInString.calls a1 t150 t151 _ ?side1 A7.out).mono ?_);(case side1 => exact Tabs.below HG.out (bl0 HB.out));rintro e w21 ⟨rfl,hb⟩;refine ⟨_,rfl,?_⟩;replace HB:=Aside0.mk (below_step (bl0 HB.out) hb);(try clear hb)) | (go_at_call 87;(with_reducible refine (unicode_IsLetter.calls t150 true _ ?side1 A19.out).mono ?_);(case side1 => exact Tabs.below HG.out (bl0 HB.out));rintro e w22 ⟨rfl,hb⟩;replace HB:=Aside0.mk (below_step (bl0 HB.out) hb);(try clear hb)))
      go_ret
      exact ⟨by first | rfl | (simp [errW_none,errW_some] <;> rfl) | (simp [*,errW_none,errW_some] <;> rfl),bl0 HB.out⟩
     ·replace c20:=Bool.eq_false_iff.mpr c20;subst c20;rw [if_neg (show ¬ (false = true) by decide)] at H;obtain rfl:=Option.some.inj H
      go_wp2_with (first | ((with_reducible refine gate_callee (f:=80) rfl ?_);refine goesL_ (some 22) rfl rfl Tryz.func80 (by kernel_rfl) rfl #[.string a1] rfl ea ?_;(with_reducible refine (utf8_DecodeRuneInString.calls a1 t150 t151 _ ?side1 A7.out).mono ?_);(case side1 => exact Tabs.below HG.out (bl0 HB.out));rintro e w23 ⟨rfl,hb⟩;refine ⟨_,rfl,?_⟩;replace HB:=Aside0.mk (below_step (bl0 HB.out) hb);(try clear hb)) | (go_at_call 87;(with_reducible refine (unicode_IsLetter.calls t150 false _ ?side1 A19.out).mono ?_);(case side1 => exact Tabs.below HG.out (bl0 HB.out));rintro e w24 ⟨rfl,hb⟩;replace HB:=Aside0.mk (below_step (bl0 HB.out) hb);(try clear hb)))
      go_ret
      exact ⟨by first | rfl | (simp [errW_none,errW_some] <;> rfl) | (simp [*,errW_none,errW_some] <;> rfl),bl0 HB.out⟩

-- by hand: function 99 (strings_ContainsRune)

end Go.Proofs.YtmgdkkkkanjadaaGreatDoor.X
