/- Written by a program of this claim's author (stubprint.py, over the kit's print) out of the translation: Go functions as Lean functions, and that the calls come to them. -/
import Derived.Test.YtmgdkkkkanjadaaGreatDoorX0
import Derived.Test.YtmgdkkkkanjadaaGreatDoorX2
import Derived.Test.YtmgdkkkkanjadaaGreatDoorX3
import Derived.Test.YtmgdkkkkanjadaaGreatDoorX4
import Derived.Test.YtmgdkkkkanjadaaGreatDoorHandS
import Derived.WalkLawsBesides
namespace Go.Proofs.YtmgdkkkkanjadaaGreatDoor.X
open Go.RowKit Go.Proofs.YtmgdkkkkanjadaaGreatDoorW.PrintWords Go.Proofs.YtmgdkkkkanjadaaGreatDoorW.PrintLast Go.Proofs.YtmgdkkkkanjadaaGreatDoorW.PrintMore Go.Proofs.YtmgdkkkkanjadaaGreatDoor.HandS Go.Proofs.YtmgdkkkkanjadaaGreatDoor.Iter
attribute [local go_sem] max2_int min2_int max_two min_two max_three min_three max_four min_four   -- for this text's walks alone
set_option linter.unusedVariables false
set_option linter.unusedSimpArgs false

/-! ### scan_token: function 67 -/
def scan_token.f (k : Nat) (a0 : ByteArray) (a1 : Int) : Option (Int × Int × Int):=(scan_word.f k a0).bind fun t154 => (if t154 > 0 then (if 0 ≤ t154 then (if t154 ≤ (a0.size : Int) then ((utf8_RuneCountInString.f (a0.extract 0 (t154 : Int).toNat)).bind fun t155 => (if t155 > 24 then (some (1,t154,3)) else (some (1,t154,0)))) else (none)) else (none)) else ((scan_numeral.f a0).bind fun t156 => (if t156 > 0 then (if 0 ≤ t156 then (if t156 ≤ (a0.size : Int) then ((scan_number.f k (a0.extract 0 (t156 : Int).toNat) (a0.extract (t156 : Int).toNat a0.size)).bind fun t157 => (some (2,t156,t157))) else (none)) else (none)) else ((strings_ContainsRune.f (⟨#[123,125,40,41,58,59,43,42,60,61,45]⟩ : ByteArray) a1).bind fun t158 => (if t158 = true then ((scan_broken.f a0 0 a1).bind fun t159 => (if t159 = true then (some (3,1,4)) else (some (3,1,0)))) else (some (3,1,4)))))))
theorem scan_token.mono : ∀ a0 a1 k,LeO (scan_token.f k a0 a1) (scan_token.f (k + 1) a0 a1):=by
 intro a0 a1 k
 unfold scan_token.f
 repeat' first
   | (with_reducible exact scan_number.mono _ _ _)
   | (with_reducible exact scan_word.mono _ _)
   | (with_reducible exact LeO.refl _)
   | (with_reducible exact LeO.none _)
   | (with_reducible refine LeO.ite ?_ ?_)
   | (with_reducible refine LeO.bind ?_ (fun _ => ?_))
   | exact scan_number.mono _ _ _
   | exact scan_word.mono _ _
   | exact LeO.none _
   | refine LeO.ite ?_ ?_
   | refine LeO.bind ?_ (fun _ => ?_)
def scan_token.T8 : Bool × List (List Nat × List Nat):=(true,[([],[]),([],[]),([],[]),([1,2],[1,2]),([],[]),([],[]),([4,5],[4,5]),([3,6],[3,6]),([7,2,5],[]),([0,8,0,2,5,8],[0,2,5]),([7,9,0,1,2,3,4,5,6,7,8,9],[7])])
def scan_token.B8 : List Nat:=[0,0,0,6,0,0,48,126,254,511,1023]
theorem scan_token.tab8 : rtab .any (opsOf Tryz.f67 8) = scan_token.T8:=by kernel_rfl
theorem scan_token.bits8 : waitsOk scan_token.T8.2 scan_token.B8 = true:=by kernel_rfl
set_option maxHeartbeats 8000000 in
set_option maxRecDepth 100000 in
theorem scan_token.calls (k : Nat) (a0 : ByteArray) (a1 : Int) (r1 : Int) (r2 : Int) (r3 : Int) (w : World) (hG : Tabs w) (h : scan_token.f k a0 a1 = some (r1,r2,r3)) :
  Calls Tryz.prog 67 #[.string a0,.int .i32 a1] w fun e w' => e = .returned (.tuple #[.int .u8 r1,.int .i64 r2,.int .i64 r3]) ∧ Below w.heap.size w w':=by
 have HG:=Aside0.mk hG;clear hG;have HB:=Aside0.mk (Below.refl w.heap.size w);have H : ((scan_word.f k a0).bind fun t154 => (if t154 > 0 then (if 0 ≤ t154 then (if t154 ≤ (a0.size : Int) then ((utf8_RuneCountInString.f (a0.extract 0 (t154 : Int).toNat)).bind fun t155 => (if t155 > 24 then (some (1,t154,3)) else (some (1,t154,0)))) else (none)) else (none)) else ((scan_numeral.f a0).bind fun t156 => (if t156 > 0 then (if 0 ≤ t156 then (if t156 ≤ (a0.size : Int) then ((scan_number.f k (a0.extract 0 (t156 : Int).toNat) (a0.extract (t156 : Int).toNat a0.size)).bind fun t157 => (some (2,t156,t157))) else (none)) else (none)) else ((strings_ContainsRune.f (⟨#[123,125,40,41,58,59,43,42,60,61,45]⟩ : ByteArray) a1).bind fun t158 => (if t158 = true then ((scan_broken.f a0 0 a1).bind fun t159 => (if t159 = true then (some (3,1,4)) else (some (3,1,0)))) else (some (3,1,4)))))))) = some (r1,r2,r3):=h;clear h;replace H:=Option.bind_eq_some_iff.mp H;obtain ⟨t154,A30,H⟩:=H
 (try dsimp only at H)
 have A3:=Aside0.mk A30;clear A30
 by_cases c4 : t154 > 0
 ·rw [if_pos c4] at H;have c4b0 : decide (0 < t154) = true:=decide_eq_true c4;clear c4
  by_cases c5 : 0 ≤ t154
  ·rw [if_pos c5] at H;have c5b0:=eq_true c5;have c5b1 : decide (0 ≤ t154) = true:=decide_eq_true c5;clear c5
   by_cases c6 : t154 ≤ (a0.size : Int)
   ·rw [if_pos c6] at H;have c6b0:=eq_true c6;have c6b1 : decide (t154 ≤ (a0.size : Int)) = true:=decide_eq_true c6;clear c6;replace H:=Option.bind_eq_some_iff.mp H;obtain ⟨t155,A70,H⟩:=H
    (try dsimp only at H)
    have A7:=Aside0.mk A70;clear A70
    by_cases c8 : t155 > 24
    ·rw [if_pos c8] at H;have c8b0 : decide (24 < t155) = true:=decide_eq_true c8;clear c8;simp only [Option.some.injEq,Prod.mk.injEq] at H;obtain ⟨rfl,rfl,rfl⟩:=H
     go_enter Tryz.func67,Tryz.ntmps67
     go_wp2_with (first | ((with_reducible refine gate_callee (f:=95) rfl ?_);refine goesL_ (some 8) rfl rfl Tryz.func95 (by kernel_rfl) rfl #[.string a0] rfl ea ?_;(with_reducible refine (scan_word.calls k a0 t154 _ ?side1 A3.out).mono ?_);(case side1 => exact Tabs.below HG.out (bl0 HB.out));rintro e w9 ⟨rfl,hb⟩;refine ⟨_,rfl,?_⟩;replace HB:=Aside0.mk (below_step (bl0 HB.out) hb);(try clear hb)) | ((with_reducible refine gate_callee (f:=96) rfl ?_);refine goesL_ (some 14) rfl rfl Tryz.func96 (by kernel_rfl) rfl #[.string (a0.extract 0 (t154 : Int).toNat)] rfl ea ?_;(with_reducible refine (utf8_RuneCountInString.calls (a0.extract 0 (t154 : Int).toNat) t155 _ ?side1 A7.out).mono ?_);(case side1 => exact Tabs.below HG.out (bl0 HB.out));rintro e w10 ⟨rfl,hb⟩;refine ⟨_,rfl,?_⟩;replace HB:=Aside0.mk (below_step (bl0 HB.out) hb);(try clear hb)))
     go_ret3
     exact ⟨by first | rfl | (simp [errW_none,errW_some] <;> rfl) | (simp [*,errW_none,errW_some] <;> rfl),bl0 HB.out⟩
    ·rw [if_neg c8] at H;have c8b0 : decide (24 < t155) = false:=decide_eq_false c8;clear c8;simp only [Option.some.injEq,Prod.mk.injEq] at H;obtain ⟨rfl,rfl,rfl⟩:=H
     go_enter Tryz.func67,Tryz.ntmps67
     go_wp2_with (first | ((with_reducible refine gate_callee (f:=95) rfl ?_);refine goesL_ (some 8) rfl rfl Tryz.func95 (by kernel_rfl) rfl #[.string a0] rfl ea ?_;(with_reducible refine (scan_word.calls k a0 t154 _ ?side1 A3.out).mono ?_);(case side1 => exact Tabs.below HG.out (bl0 HB.out));rintro e w11 ⟨rfl,hb⟩;refine ⟨_,rfl,?_⟩;replace HB:=Aside0.mk (below_step (bl0 HB.out) hb);(try clear hb)) | ((with_reducible refine gate_callee (f:=96) rfl ?_);refine goesL_ (some 14) rfl rfl Tryz.func96 (by kernel_rfl) rfl #[.string (a0.extract 0 (t154 : Int).toNat)] rfl ea ?_;(with_reducible refine (utf8_RuneCountInString.calls (a0.extract 0 (t154 : Int).toNat) t155 _ ?side1 A7.out).mono ?_);(case side1 => exact Tabs.below HG.out (bl0 HB.out));rintro e w12 ⟨rfl,hb⟩;refine ⟨_,rfl,?_⟩;replace HB:=Aside0.mk (below_step (bl0 HB.out) hb);(try clear hb)))
     go_ret3
     exact ⟨by first | rfl | (simp [errW_none,errW_some] <;> rfl) | (simp [*,errW_none,errW_some] <;> rfl),bl0 HB.out⟩
   ·rw [if_neg c6] at H;exact absurd H (by simp)
  ·rw [if_neg c5] at H;exact absurd H (by simp)
 ·rw [if_neg c4] at H;have c4b0 : decide (0 < t154) = false:=decide_eq_false c4;clear c4;replace H:=Option.bind_eq_some_iff.mp H;obtain ⟨t156,A130,H⟩:=H
  (try dsimp only at H)
  have A13:=Aside0.mk A130;clear A130
  by_cases c14 : t156 > 0
  ·rw [if_pos c14] at H;have c14b0 : decide (0 < t156) = true:=decide_eq_true c14;clear c14
   by_cases c15 : 0 ≤ t156
   ·rw [if_pos c15] at H;have c15b0:=eq_true c15;have c15b1 : decide (0 ≤ t156) = true:=decide_eq_true c15;clear c15
    by_cases c16 : t156 ≤ (a0.size : Int)
    ·rw [if_pos c16] at H;have c16b0:=eq_true c16;have c16b1 : decide (t156 ≤ (a0.size : Int)) = true:=decide_eq_true c16;clear c16;have c17b0:=eq_true (of_decide_eq_true (by first | (with_reducible assumption) | assumption) : 0 ≤ t156);have c18b0:=eq_true (of_decide_eq_true (by first | (with_reducible assumption) | assumption) : t156 ≤ (a0.size : Int));replace H:=Option.bind_eq_some_iff.mp H;obtain ⟨t157,A190,H⟩:=H
     (try dsimp only at H)
     have A19:=Aside0.mk A190;clear A190;simp only [Option.some.injEq,Prod.mk.injEq] at H;obtain ⟨rfl,rfl,rfl⟩:=H
     go_enter Tryz.func67,Tryz.ntmps67
     try go_wp2_with (first | ((with_reducible refine gate_callee (f:=95) rfl ?_);refine goesL_ (some 8) rfl rfl Tryz.func95 (by kernel_rfl) rfl #[.string a0] rfl ea ?_;(with_reducible refine (scan_word.calls k a0 t154 _ ?side1 A3.out).mono ?_);(case side1 => exact Tabs.below HG.out (bl0 HB.out));rintro e w20 ⟨rfl,hb⟩;refine ⟨_,rfl,?_⟩;replace HB:=Aside0.mk (below_step (bl0 HB.out) hb);(try clear hb)) | ((with_reducible refine gate_callee (f:=97) rfl ?_);refine goesL_ (some 19) rfl rfl Tryz.func97 (by kernel_rfl) rfl #[.string a0] rfl ea ?_;(with_reducible refine (scan_numeral.calls a0 t156 _ ?side1 A13.out).mono ?_);(case side1 => exact Tabs.below HG.out (bl0 HB.out));rintro e w21 ⟨rfl,hb⟩;refine ⟨_,rfl,?_⟩;replace HB:=Aside0.mk (below_step (bl0 HB.out) hb);(try clear hb)))
     replace HB:=Aside0.mk (below_drew1 HB.out);refine start_ (n:=11) (S:=fun w' => True) (ds:=[]) (pm 0 11) (by kernel_rfl) rfl rfl trivial (fun hHeld => ?_);refine with_tabW scan_token.tab8 scan_token.bits8 (fun HT_ HW_ => ?_);generalize w21.drew = w22 at HB hHeld ⊢;refine pu 0 22 (pm 1 11) rfl rfl HT_.out (fun _ _ _ h => h) ?_;refine pu 1 23 (pm 2 11) rfl rfl HT_.out (fun _ _ _ h => h) ?_;refine pu 2 24 (pm 3 11) rfl rfl HT_.out (fun _ _ _ h => h) ?_;refine pu 3 25 (pm 4 11) rfl rfl HT_.out (fun _ _ _ h => h) ?_;refine pu 4 26 (pm 5 11) rfl rfl HT_.out (fun _ _ _ h => h) ?_;refine pu 5 27 (pm 6 11) rfl rfl HT_.out (fun _ _ _ h => h) ?_;refine pu 6 28 (pm 7 11) rfl rfl HT_.out (fun _ _ _ h => h) ?_;refine one_ (i:=7) (N:=some 29) (pm 8 11) rfl rfl (one_of HT_.out (by kernel_rfl)) (by decide) (fun K hK => ?_);refine goes_ Tryz.func98 (by kernel_rfl) rfl #[.string (a0.extract 0 (t156 : Int).toNat),.string (a0.extract (t156 : Int).toNat a0.size)] (by rfl) rfl rfl ea ?_
     with_reducible refine (scan_number.calls k (a0.extract 0 (t156 : Int).toNat) (a0.extract (t156 : Int).toNat a0.size) t157 _ ?side1 A19.out).mono ?_
     (case side1 => exact Tabs.below HG.out (bl0 HB.out))
     rintro e w23 ⟨rfl,hb⟩;refine ⟨_,rfl,?_⟩;replace HB:=Aside0.mk (below_step (bl0 HB.out) hb);(try clear hb);refine hK.out _ _ trivial (fun hHeld => ?_);clear hK K;refine norm_ (a':=?_) ?_ ?_;rotate_left
     ·show Act.put _ (some 29) _ = _;simp only [Act.put,List.setIfInBounds_toArray,List.set_cons_zero,List.set_cons_succ,i64_w,i32_w];rfl
     refine pu 8 4 (pm 9 11) rfl rfl HT_.out (fun _ _ _ h => h) ?_;refine pu 9 5 (pm 10 11) rfl rfl HT_.out (fun _ _ _ h => h) ?_;refine pu 10 6 (pm 11 11) rfl rfl HT_.out (fun _ _ _ h => h) ?_;refine done_ (done_of HT_.out (by kernel_rfl)) ?_
     try go_wp2
     go_ret3
     exact ⟨by first | rfl | (simp [errW_none,errW_some] <;> rfl) | (simp [*,errW_none,errW_some] <;> rfl),bl0 HB.out⟩
    ·rw [if_neg c16] at H;exact absurd H (by simp)
   ·rw [if_neg c15] at H;exact absurd H (by simp)
  ·rw [if_neg c14] at H;have c14b0 : decide (0 < t156) = false:=decide_eq_false c14;clear c14;replace H:=Option.bind_eq_some_iff.mp H;obtain ⟨t158,A240,H⟩:=H
   (try dsimp only at H)
   have A24:=Aside0.mk A240;clear A240
   by_cases c25 : t158 = true
   ·subst c25;rw [if_pos rfl] at H;replace H:=Option.bind_eq_some_iff.mp H;obtain ⟨t159,A260,H⟩:=H
    (try dsimp only at H)
    have A26:=Aside0.mk A260;clear A260
    by_cases c27 : t159 = true
    ·subst c27;rw [if_pos rfl] at H;simp only [Option.some.injEq,Prod.mk.injEq] at H;obtain ⟨rfl,rfl,rfl⟩:=H
     go_enter Tryz.func67,Tryz.ntmps67
     go_wp2_with (first | ((with_reducible refine gate_callee (f:=95) rfl ?_);refine goesL_ (some 8) rfl rfl Tryz.func95 (by kernel_rfl) rfl #[.string a0] rfl ea ?_;(with_reducible refine (scan_word.calls k a0 t154 _ ?side1 A3.out).mono ?_);(case side1 => exact Tabs.below HG.out (bl0 HB.out));rintro e w28 ⟨rfl,hb⟩;refine ⟨_,rfl,?_⟩;replace HB:=Aside0.mk (below_step (bl0 HB.out) hb);(try clear hb)) | ((with_reducible refine gate_callee (f:=97) rfl ?_);refine goesL_ (some 19) rfl rfl Tryz.func97 (by kernel_rfl) rfl #[.string a0] rfl ea ?_;(with_reducible refine (scan_numeral.calls a0 t156 _ ?side1 A13.out).mono ?_);(case side1 => exact Tabs.below HG.out (bl0 HB.out));rintro e w29 ⟨rfl,hb⟩;refine ⟨_,rfl,?_⟩;replace HB:=Aside0.mk (below_step (bl0 HB.out) hb);(try clear hb)) | ((with_reducible refine gate_callee (f:=99) rfl ?_);refine goesL_ (some 31) rfl rfl Tryz.func99 (by kernel_rfl) rfl #[.string (⟨#[123,125,40,41,58,59,43,42,60,61,45]⟩ : ByteArray),.int .i32 a1] rfl ea ?_;(with_reducible refine (strings_ContainsRune.calls (⟨#[123,125,40,41,58,59,43,42,60,61,45]⟩ : ByteArray) a1 true _ ?side1 A24.out).mono ?_);(case side1 => exact Tabs.below HG.out (bl0 HB.out));rintro e w30 ⟨rfl,hb⟩;refine ⟨_,rfl,?_⟩;replace HB:=Aside0.mk (below_step (bl0 HB.out) hb);(try clear hb)) | (go_at_call 66;(with_reducible refine (scan_broken.calls a0 0 a1 true _ A26.out).mono ?_);rintro e w31 ⟨rfl,hb⟩;replace HB:=Aside0.mk (below_step (bl0 HB.out) hb);(try clear hb)))
     go_ret3
     exact ⟨by first | rfl | (simp [errW_none,errW_some] <;> rfl) | (simp [*,errW_none,errW_some] <;> rfl),bl0 HB.out⟩
    ·replace c27:=Bool.eq_false_iff.mpr c27;subst c27;rw [if_neg (show ¬ (false = true) by decide)] at H;simp only [Option.some.injEq,Prod.mk.injEq] at H;obtain ⟨rfl,rfl,rfl⟩:=H
     go_enter Tryz.func67,Tryz.ntmps67
     go_wp2_with (first | ((with_reducible refine gate_callee (f:=95) rfl ?_);refine goesL_ (some 8) rfl rfl Tryz.func95 (by kernel_rfl) rfl #[.string a0] rfl ea ?_;(with_reducible refine (scan_word.calls k a0 t154 _ ?side1 A3.out).mono ?_);(case side1 => exact Tabs.below HG.out (bl0 HB.out));rintro e w32 ⟨rfl,hb⟩;refine ⟨_,rfl,?_⟩;replace HB:=Aside0.mk (below_step (bl0 HB.out) hb);(try clear hb)) | ((with_reducible refine gate_callee (f:=97) rfl ?_);refine goesL_ (some 19) rfl rfl Tryz.func97 (by kernel_rfl) rfl #[.string a0] rfl ea ?_;(with_reducible refine (scan_numeral.calls a0 t156 _ ?side1 A13.out).mono ?_);(case side1 => exact Tabs.below HG.out (bl0 HB.out));rintro e w33 ⟨rfl,hb⟩;refine ⟨_,rfl,?_⟩;replace HB:=Aside0.mk (below_step (bl0 HB.out) hb);(try clear hb)) | ((with_reducible refine gate_callee (f:=99) rfl ?_);refine goesL_ (some 31) rfl rfl Tryz.func99 (by kernel_rfl) rfl #[.string (⟨#[123,125,40,41,58,59,43,42,60,61,45]⟩ : ByteArray),.int .i32 a1] rfl ea ?_;(with_reducible refine (strings_ContainsRune.calls (⟨#[123,125,40,41,58,59,43,42,60,61,45]⟩ : ByteArray) a1 true _ ?side1 A24.out).mono ?_);(case side1 => exact Tabs.below HG.out (bl0 HB.out));rintro e w34 ⟨rfl,hb⟩;refine ⟨_,rfl,?_⟩;replace HB:=Aside0.mk (below_step (bl0 HB.out) hb);(try clear hb)) | (go_at_call 66;(with_reducible refine (scan_broken.calls a0 0 a1 false _ A26.out).mono ?_);rintro e w35 ⟨rfl,hb⟩;replace HB:=Aside0.mk (below_step (bl0 HB.out) hb);(try clear hb)))
     go_ret3
     exact ⟨by first | rfl | (simp [errW_none,errW_some] <;> rfl) | (simp [*,errW_none,errW_some] <;> rfl),bl0 HB.out⟩
   ·replace c25:=Bool.eq_false_iff.mpr c25;subst c25;rw [if_neg (show ¬ (false = true) by decide)] at H;simp only [Option.some.injEq,Prod.mk.injEq] at H;obtain ⟨rfl,rfl,rfl⟩:=H
    go_enter Tryz.func67,Tryz.ntmps67
    go_wp2_with (first | ((with_reducible refine gate_callee (f:=95) rfl ?_);refine goesL_ (some 8) rfl rfl Tryz.func95 (by kernel_rfl) rfl #[.string a0] rfl ea ?_;(with_reducible refine (scan_word.calls k a0 t154 _ ?side1 A3.out).mono ?_);(case side1 => exact Tabs.below HG.out (bl0 HB.out));rintro e w36 ⟨rfl,hb⟩;refine ⟨_,rfl,?_⟩;replace HB:=Aside0.mk (below_step (bl0 HB.out) hb);(try clear hb)) | ((with_reducible refine gate_callee (f:=97) rfl ?_);refine goesL_ (some 19) rfl rfl Tryz.func97 (by kernel_rfl) rfl #[.string a0] rfl ea ?_;(with_reducible refine (scan_numeral.calls a0 t156 _ ?side1 A13.out).mono ?_);(case side1 => exact Tabs.below HG.out (bl0 HB.out));rintro e w37 ⟨rfl,hb⟩;refine ⟨_,rfl,?_⟩;replace HB:=Aside0.mk (below_step (bl0 HB.out) hb);(try clear hb)) | ((with_reducible refine gate_callee (f:=99) rfl ?_);refine goesL_ (some 31) rfl rfl Tryz.func99 (by kernel_rfl) rfl #[.string (⟨#[123,125,40,41,58,59,43,42,60,61,45]⟩ : ByteArray),.int .i32 a1] rfl ea ?_;(with_reducible refine (strings_ContainsRune.calls (⟨#[123,125,40,41,58,59,43,42,60,61,45]⟩ : ByteArray) a1 false _ ?side1 A24.out).mono ?_);(case side1 => exact Tabs.below HG.out (bl0 HB.out));rintro e w38 ⟨rfl,hb⟩;refine ⟨_,rfl,?_⟩;replace HB:=Aside0.mk (below_step (bl0 HB.out) hb);(try clear hb)))
    go_ret3
    exact ⟨by first | rfl | (simp [errW_none,errW_some] <;> rfl) | (simp [*,errW_none,errW_some] <;> rfl),bl0 HB.out⟩

end Go.Proofs.YtmgdkkkkanjadaaGreatDoor.X
