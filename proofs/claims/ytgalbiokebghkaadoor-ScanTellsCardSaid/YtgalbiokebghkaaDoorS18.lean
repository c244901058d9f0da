/- Written by a program of this claim's author (stubprint.py, over the kit's print) out of the translation: Go functions as Lean functions, and that the calls come to them. -/
import Derived.Test.YtgalbiokebghkaaDoorS0
import Derived.Test.YtgalbiokebghkaaDoorS13
import Derived.Test.YtgalbiokebghkaaDoorS14
import Derived.Test.YtgalbiokebghkaaDoorS15
import Derived.Test.YtgalbiokebghkaaDoorS16
import Derived.Test.YtgalbiokebghkaaDoorS17
import Derived.Test.YtgalbiokebghkaaDoorHandS
namespace Go.Proofs.YtgalbiokebghkaaDoor.S
open Go.RowKit Go.Proofs.YtgalbiokebghkaaDoorW.PrintWords Go.Proofs.YtgalbiokebghkaaDoorW.PrintLast Go.Proofs.YtgalbiokebghkaaDoorW.PrintMore Go.Proofs.YtgalbiokebghkaaDoor.HandS Go.Proofs.YtgalbiokebghkaaDoor.Iter
attribute [local go_sem] max2_int min2_int max_two min_two max_three min_three max_four min_four   -- for this text's walks alone
set_option linter.unusedVariables false
set_option linter.unusedSimpArgs false

/-! ### joustref01_Tokens: function 16 -/
mutual
def joustref01_Tokens.l0 : Nat → ByteArray → List (S48) → Int → Option ((List (S48)) × Int × Int × Int)
 | 0,_,_,_ => none
 | k + 1,x0,x4,x5 => if x5 < (x0.size : Int) then (if 0 ≤ x5 then (if x5 ≤ (x0.size : Int) then ((utf8_DecodeRuneInString.f (x0.extract (x5 : Int).toNat x0.size)).bind fun bt273 => ((joustref01_Where.f k x0 x5).bind fun bt275 => (if bt273.1 = 32 then (joustref01_Tokens.j1 k x0 x4 x5 bt273.1 bt273.2 true bt275.1 bt275.2) else (if bt273.1 = 9 then (joustref01_Tokens.j1 k x0 x4 x5 bt273.1 bt273.2 true bt275.1 bt275.2) else (if bt273.1 = 10 then (joustref01_Tokens.j1 k x0 x4 x5 bt273.1 bt273.2 true bt275.1 bt275.2) else (joustref01_Tokens.j1 k x0 x4 x5 bt273.1 bt273.2 (bt273.1 == 13) bt275.1 bt275.2)))))) else (none)) else (none)) else ((joustref01_Where.f k x0 (x0.size : Int)).bind fun bt268 => (if x4.length < 3518437208883 then (some ((x4 ++ [(⟨0,(⟨#[]⟩ : ByteArray),(⟨bt268.1,bt268.2⟩ : S37)⟩ : S48)]),0,0,0)) else (none)))
def joustref01_Tokens.j1 : Nat → ByteArray → List (S48) → Int → Int → Int → Bool → Int → Int → Option ((List (S48)) × Int × Int × Int)
 | 0,_,_,_,_,_,_,_,_ => none
 | k + 1,x0,x4,x5,x6,x7,x48,x278000,x278001 => if x48 = true then (joustref01_Tokens.l0 k x0 x4 (wrap64 (x5 + 1))) else (if x6 = 35 then (if 0 ≤ x5 then (if x5 ≤ (x0.size : Int) then ((joustref01_remark.f k (x0.extract (x5 : Int).toNat x0.size)).bind fun bt278 => (if bt278.2 ≥ 0 then ((joustref01_Where.f k x0 (wrap64 (x5 + bt278.2))).bind fun bt280 => (some (([] : List (S48)),4,bt280.1,bt280.2))) else (joustref01_Tokens.l0 k x0 x4 (wrap64 (x5 + bt278.1))))) else (none)) else (none)) else (if 0 ≤ x5 then (if x5 ≤ (x0.size : Int) then ((joustref01_word.f k (x0.extract (x5 : Int).toNat x0.size)).bind fun bt282 => (if bt282.1 > 0 then (if bt282.2 > 24 then (some (([] : List (S48)),3,x278000,x278001)) else (if x5 ≤ (wrap64 (x5 + bt282.1)) then (if (wrap64 (x5 + bt282.1)) ≤ (x0.size : Int) then (if x4.length < 3518437208883 then (joustref01_Tokens.l0 k x0 (x4 ++ [(⟨1,x0.extract (x5 : Int).toNat ((wrap64 (x5 + bt282.1)) : Int).toNat,(⟨x278000,x278001⟩ : S37)⟩ : S48)]) (wrap64 (x5 + bt282.1))) else (none)) else (none)) else (none))) else ((joustref01_digit.f x6).bind fun t287 => (if t287 = true then ((joustref01_number.f k (x0.extract (x5 : Int).toNat x0.size)).bind fun t288 => (if x5 ≤ (wrap64 (x5 + t288)) then (if (wrap64 (x5 + t288)) ≤ (x0.size : Int) then ((joustref01_great.f k (x0.extract (x5 : Int).toNat ((wrap64 (x5 + t288)) : Int).toNat)).bind fun t289 => (if t289 = true then (some (([] : List (S48)),3,x278000,x278001)) else (if 0 ≤ (wrap64 (x5 + t288)) then ((utf8_DecodeRuneInString.f (x0.extract ((wrap64 (x5 + t288)) : Int).toNat x0.size)).bind fun bt290 => (if t288 > 1 then (if x6 = 48 then (some (([] : List (S48)),5,x278000,x278001)) else ((unicode_IsLetter.f bt290.1).bind fun t292 => (if t292 = true then (if bt290.2 > 0 then (some (([] : List (S48)),5,x278000,x278001)) else (if x4.length < 3518437208883 then (joustref01_Tokens.l0 k x0 (x4 ++ [(⟨2,x0.extract (x5 : Int).toNat ((wrap64 (x5 + t288)) : Int).toNat,(⟨x278000,x278001⟩ : S37)⟩ : S48)]) (wrap64 (x5 + t288))) else (none))) else (if x4.length < 3518437208883 then (joustref01_Tokens.l0 k x0 (x4 ++ [(⟨2,x0.extract (x5 : Int).toNat ((wrap64 (x5 + t288)) : Int).toNat,(⟨x278000,x278001⟩ : S37)⟩ : S48)]) (wrap64 (x5 + t288))) else (none))))) else ((unicode_IsLetter.f bt290.1).bind fun t299 => (if t299 = true then (if bt290.2 > 0 then (some (([] : List (S48)),5,x278000,x278001)) else (if x4.length < 3518437208883 then (joustref01_Tokens.l0 k x0 (x4 ++ [(⟨2,x0.extract (x5 : Int).toNat ((wrap64 (x5 + t288)) : Int).toNat,(⟨x278000,x278001⟩ : S37)⟩ : S48)]) (wrap64 (x5 + t288))) else (none))) else (if x4.length < 3518437208883 then (joustref01_Tokens.l0 k x0 (x4 ++ [(⟨2,x0.extract (x5 : Int).toNat ((wrap64 (x5 + t288)) : Int).toNat,(⟨x278000,x278001⟩ : S37)⟩ : S48)]) (wrap64 (x5 + t288))) else (none)))))) else (none)))) else (none)) else (none))) else ((joustref01_mark.f k x6).bind fun t306 => (if t306 = true then (if x5 ≤ (wrap64 (x5 + x7)) then (if (wrap64 (x5 + x7)) ≤ (x0.size : Int) then (if x4.length < 3518437208883 then (joustref01_Tokens.l0 k x0 (x4 ++ [(⟨3,x0.extract (x5 : Int).toNat ((wrap64 (x5 + x7)) : Int).toNat,(⟨x278000,x278001⟩ : S37)⟩ : S48)]) (wrap64 (x5 + x7))) else (none)) else (none)) else (none)) else (some (([] : List (S48)),4,x278000,x278001)))))))) else (none)) else (none)))
end
def joustref01_Tokens.f (k : Nat) (a0 : ByteArray) : Option ((List (S48)) × Int × Int × Int):=if (a0.size : Int) > 65536 then (some (([] : List (S48)),3,1,1)) else (joustref01_Tokens.l0 k a0 ([] : List (S48)) 0)
theorem joustref01_Tokens.mono_l : ∀ k,(∀ y0 y1 y2,LeO (joustref01_Tokens.l0 k y0 y1 y2) (joustref01_Tokens.l0 (k + 1) y0 y1 y2)) ∧ (∀ y0 y1 y2 y3 y4 y5 y6 y7,LeO (joustref01_Tokens.j1 k y0 y1 y2 y3 y4 y5 y6 y7) (joustref01_Tokens.j1 (k + 1) y0 y1 y2 y3 y4 y5 y6 y7))
 | 0 => ⟨fun _ _ _ r h => by simp [joustref01_Tokens.l0] at h,fun _ _ _ _ _ _ _ _ r h => by simp [joustref01_Tokens.j1] at h⟩
 | k + 1 => by
  obtain ⟨ih0,ih1⟩:=joustref01_Tokens.mono_l k
  refine ⟨?_,?_⟩
  ·intro y0 y1 y2
   unfold joustref01_Tokens.l0
   repeat' first
   | (with_reducible exact ih0 _ _ _)
   | (with_reducible exact ih1 _ _ _ _ _ _ _ _)
   | (with_reducible exact joustref01_Where.mono _ _ _)
   | (with_reducible exact joustref01_great.mono _ _)
   | (with_reducible exact joustref01_mark.mono _ _)
   | (with_reducible exact joustref01_number.mono _ _)
   | (with_reducible exact joustref01_remark.mono _ _)
   | (with_reducible exact joustref01_word.mono _ _)
   | (with_reducible exact LeO.refl _)
   | (with_reducible exact LeO.none _)
   | (with_reducible refine LeO.ite ?_ ?_)
   | (with_reducible refine LeO.bind ?_ (fun _ => ?_))
   | exact ih0 _ _ _
   | exact ih1 _ _ _ _ _ _ _ _
   | exact joustref01_Where.mono _ _ _
   | exact joustref01_great.mono _ _
   | exact joustref01_mark.mono _ _
   | exact joustref01_number.mono _ _
   | exact joustref01_remark.mono _ _
   | exact joustref01_word.mono _ _
   | exact LeO.none _
   | refine LeO.ite ?_ ?_
   | refine LeO.bind ?_ (fun _ => ?_)
  ·intro y0 y1 y2 y3 y4 y5 y6 y7
   unfold joustref01_Tokens.j1
   repeat' first
   | (with_reducible exact ih0 _ _ _)
   | (with_reducible exact ih1 _ _ _ _ _ _ _ _)
   | (with_reducible exact joustref01_Where.mono _ _ _)
   | (with_reducible exact joustref01_great.mono _ _)
   | (with_reducible exact joustref01_mark.mono _ _)
   | (with_reducible exact joustref01_number.mono _ _)
   | (with_reducible exact joustref01_remark.mono _ _)
   | (with_reducible exact joustref01_word.mono _ _)
   | (with_reducible exact LeO.refl _)
   | (with_reducible exact LeO.none _)
   | (with_reducible refine LeO.ite ?_ ?_)
   | (with_reducible refine LeO.bind ?_ (fun _ => ?_))
   | exact ih0 _ _ _
   | exact ih1 _ _ _ _ _ _ _ _
   | exact joustref01_Where.mono _ _ _
   | exact joustref01_great.mono _ _
   | exact joustref01_mark.mono _ _
   | exact joustref01_number.mono _ _
   | exact joustref01_remark.mono _ _
   | exact joustref01_word.mono _ _
   | exact LeO.none _
   | refine LeO.ite ?_ ?_
   | refine LeO.bind ?_ (fun _ => ?_)
theorem joustref01_Tokens.mono : ∀ a0 k,LeO (joustref01_Tokens.f k a0) (joustref01_Tokens.f (k + 1) a0):=by
 intro a0 k
 obtain ⟨ih0,ih1⟩:=joustref01_Tokens.mono_l k
 unfold joustref01_Tokens.f
 repeat' first
   | (with_reducible exact ih0 _ _ _)
   | (with_reducible exact ih1 _ _ _ _ _ _ _ _)
   | (with_reducible exact joustref01_Where.mono _ _ _)
   | (with_reducible exact joustref01_great.mono _ _)
   | (with_reducible exact joustref01_mark.mono _ _)
   | (with_reducible exact joustref01_number.mono _ _)
   | (with_reducible exact joustref01_remark.mono _ _)
   | (with_reducible exact joustref01_word.mono _ _)
   | (with_reducible exact LeO.refl _)
   | (with_reducible exact LeO.none _)
   | (with_reducible refine LeO.ite ?_ ?_)
   | (with_reducible refine LeO.bind ?_ (fun _ => ?_))
   | exact ih0 _ _ _
   | exact ih1 _ _ _ _ _ _ _ _
   | exact joustref01_Where.mono _ _ _
   | exact joustref01_great.mono _ _
   | exact joustref01_mark.mono _ _
   | exact joustref01_number.mono _ _
   | exact joustref01_remark.mono _ _
   | exact joustref01_word.mono _ _
   | exact LeO.none _
   | refine LeO.ite ?_ ?_
   | refine LeO.bind ?_ (fun _ => ?_)
def joustref01_Tokens.T30 : Bool × List (List Nat × List Nat):=(true,[([],[]),([],[]),([],[]),([],[]),([],[]),([],[]),([4,5],[4,5]),([2,3,6],[2,3,6]),([],[]),([1,7,8],[1,7,8]),([9],[9]),([0,10],[0,10]),([11,11,0,1,2,3,4,5,6,7,8,9,10,11],[0,11])])
def joustref01_Tokens.B30 : List Nat:=[0,0,0,0,0,0,48,124,0,510,1022,2047,4095]
theorem joustref01_Tokens.tab30 : rtab .any (opsOf Tryd.f16 30) = joustref01_Tokens.T30:=by kernel_rfl
theorem joustref01_Tokens.bits30 : waitsOk joustref01_Tokens.T30.2 joustref01_Tokens.B30 = true:=by kernel_rfl
set_option maxHeartbeats 8000000 in
set_option maxRecDepth 100000 in
theorem joustref01_Tokens.calls (k : Nat) (a0 : ByteArray) (r1 : List (S48)) (r2 : Int) (r3 : Int) (r4 : Int) (w : World) (hG : Tabs w) (h : joustref01_Tokens.f k a0 = some (r1,r2,r3,r4)) :
  Calls Tryd.prog 16 #[.string a0] w fun e w' => ∃ v0_ : Value,e = .returned (.tuple #[v0_,.agg #[.int .i64 r2,.int .i64 r3,.int .i64 r4]]) ∧ Kd.R k48 48 w' w.heap.size (fun _ => True) v0_ r1 ∧ Below w.heap.size w w':=by
 have hu39:=Tryd.underlying39
 have hu37:=Tryd.underlying37
 have hu48:=Tryd.underlying48
 have HG:=Aside0.mk hG
 clear hG
 have HB:=Aside0.mk (Below.refl w.heap.size w)
 have H : (if (a0.size : Int) > 65536 then (some (([] : List (S48)),3,1,1)) else (joustref01_Tokens.l0 k a0 ([] : List (S48)) 0)) = some (r1,r2,r3,r4):=h
 clear h
 by_cases c2 : (a0.size : Int) > 65536
 ·rw [if_pos c2] at H
  have c2b0 : decide (65536 < (a0.size : Int)) = true:=decide_eq_true c2
  have c2b1 : decide (65536 < a0.size) = true:=decide_eq_true (by omega)
  clear c2
  simp only [Option.some.injEq,Prod.mk.injEq] at H
  obtain ⟨rfl,rfl,rfl,rfl⟩:=H
  go_enter Tryd.func16,Tryd.ntmps16
  go_wp2_with (first | ((with_reducible refine gate_dst (N:=3) rfl ?_);refine box_event ?hg (N:=3) ?hd (cs:=#[.int .i64 0,.int .i64 0,.int .i64 0]) (t:=39) ?hr ?_;(case hd => rfl);(case hg => rfl);(case hr => first | (go_simp;done) | (go_simp;rfl));intro gb267 hg w3 hbox hb;have n0_:=Aside0.mk (below_step (by repeat (first | (with_reducible first | exact HB.out | apply below_alloc | apply pw_below_drewN | apply below_drew1) | exact HB.out)) hb);have n1_:=Aside0.mk (hbox);have n2_:=Aside0.mk ((by rw [hg];exact (below_size (by repeat (first | (with_reducible first | exact HB.out | apply below_alloc | apply pw_below_drewN | apply below_drew1) | exact HB.out))) : w.heap.size ≤ gb267));have n3_:=Aside0.mk ((by rw [hg];exact (below_size (by repeat (first | (with_reducible first | exact HB.out | apply below_alloc | apply pw_below_drewN | apply below_drew1) | exact HB.out))) : w.heap.size ≤ gb267));clear HB;have HB:=n0_;have BK267:=n1_;have GW267:=n2_;have GE267:=n3_;clear n0_ n1_ n2_ n3_;clear hb hbox hg;have hcz4_0 : w3.cell? ⟨gb267,0,none⟩ = some (.int .i64 0):=(blk_cell BK267.out 0).trans rfl;have hcz4_1 : w3.cell? ⟨gb267,1,none⟩ = some (.int .i64 0):=(blk_cell BK267.out 1).trans rfl;have hcz4_2 : w3.cell? ⟨gb267,2,none⟩ = some (.int .i64 0):=(blk_cell BK267.out 2).trans rfl;have hfz4_0:=blk_frozen BK267.out 0;have hfz4_1:=blk_frozen BK267.out 1;have hfz4_2:=blk_frozen BK267.out 2))
  refine bodyPost_ret (results_tc rfl _ _ gb267 39 #[.int .i64 3,.int .i64 1,.int .i64 1] (0,0) _ rfl (by (with_reducible repeat (first | refine blk_drewN ?_ _ | refine blk_drew ?_ | refine blk_alloc ?_ _));refine blk_put (cs:=#[.int .i64 3,.int .i64 1,.int .i64 0]) ?_ 2 _ rfl;(with_reducible repeat (first | refine blk_drewN ?_ _ | refine blk_drew ?_ | refine blk_alloc ?_ _));refine blk_put (cs:=#[.int .i64 3,.int .i64 0,.int .i64 0]) ?_ 1 _ rfl;(with_reducible repeat (first | refine blk_drewN ?_ _ | refine blk_drew ?_ | refine blk_alloc ?_ _));refine blk_put (cs:=#[.int .i64 0,.int .i64 0,.int .i64 0]) ?_ 0 _ rfl;(with_reducible repeat (first | refine blk_drewN ?_ _ | refine blk_drew ?_ | refine blk_alloc ?_ _));exact BK267.out) Tryd.underlying39 rfl (by kernel_rfl)) rfl ?_
  exact ⟨_,by first | rfl | (simp [errW_none,errW_some] <;> rfl) | (simp [*,errW_none,errW_some] <;> rfl),by first | exact Kd.R_nil _ _ _ _ _ | exact Kd.N_nil _ _ _ _ _ | exact Kd.V_nil _ _ _ _ _ | exact Kd.Q_nil _ _ _ _ _ | exact Kd.S_nil _ _ _ _ _,by repeat (first | (with_reducible first | exact HB.out | apply below_alloc | apply pw_below_drewN | apply below_drew1 | refine below_set ?_ GE267.out) | exact HB.out)⟩
 ·rw [if_neg c2] at H
  have c2b0 : decide (65536 < (a0.size : Int)) = false:=decide_eq_false c2
  have c2b1 : decide (65536 < a0.size) = false:=decide_eq_false (by omega)
  clear c2
  have H':=Aside0.mk H
  clear H
  go_enter Tryd.func16,Tryd.ntmps16
  go_wp2_with (first | ((with_reducible refine gate_dst (N:=3) rfl ?_);refine box_event ?hg (N:=3) ?hd (cs:=#[.int .i64 0,.int .i64 0,.int .i64 0]) (t:=39) ?hr ?_;(case hd => rfl);(case hg => rfl);(case hr => first | (go_simp;done) | (go_simp;rfl));intro gb267 hg w5 hbox hb;have n0_:=Aside0.mk (below_step (by repeat (first | (with_reducible first | exact HB.out | apply below_alloc | apply pw_below_drewN | apply below_drew1) | exact HB.out)) hb);have n1_:=Aside0.mk (hbox);have n2_:=Aside0.mk ((by rw [hg];exact (below_size (by repeat (first | (with_reducible first | exact HB.out | apply below_alloc | apply pw_below_drewN | apply below_drew1) | exact HB.out))) : w.heap.size ≤ gb267));have n3_:=Aside0.mk ((by rw [hg];exact (below_size (by repeat (first | (with_reducible first | exact HB.out | apply below_alloc | apply pw_below_drewN | apply below_drew1) | exact HB.out))) : w.heap.size ≤ gb267));clear HB;have HB:=n0_;have BK267:=n1_;have GW267:=n2_;have GE267:=n3_;clear n0_ n1_ n2_ n3_;clear hb hbox hg))
  (try simp only [Act.put,List.setIfInBounds_toArray,List.set_cons_zero,List.set_cons_succ])
  go_loopg [4,5] k (fun kq v4 v5 w' => ∃ (x4_1 : List (S48)) (x5_1 : Int) (x268000_1 : Int) (x268001_1 : Int) (x268002_1 : Int),v5 = .int .i64 x5_1 ∧ Aside0 (joustref01_Tokens.l0 kq a0 x4_1 x5_1 = some (r1,r2,r3,r4)) ∧ Aside0 (kq ≤ k) ∧ Aside0 (Kd.R k48 48 w' w.heap.size (fun _ => True) v4 x4_1) ∧ Aside0 (w'.heap[gb267]? = some (.cells #[.int .i64 x268000_1,.int .i64 x268001_1,.int .i64 x268002_1] 39 (0,0))) ∧ Aside0 (Below w.heap.size w w'))
  case atStart => exact ⟨(([] : List (S48))),(0),(0),(0),(0),(by first | rfl | (simp;done) | (simp [*];done)),H',⟨Nat.le_refl _⟩,⟨by first | exact Kd.R_nil _ _ _ _ _ | exact Kd.N_nil _ _ _ _ _ | exact Kd.V_nil _ _ _ _ _ | exact Kd.Q_nil _ _ _ _ _ | exact Kd.S_nil _ _ _ _ _⟩,⟨by (with_reducible repeat (first | refine blk_drewN ?_ _ | refine blk_drew ?_ | refine blk_alloc ?_ _));exact BK267.out⟩,⟨by repeat (first | (with_reducible first | exact HB.out | apply below_alloc | apply pw_below_drewN | apply below_drew1 | refine below_set ?_ GE267.out) | exact HB.out)⟩⟩
  case round =>
   clear H'
   try clear c1
   try clear c2
   try clear c2b0
   try clear c2b1
   try clear p2
   try clear hcz4_0
   try clear hcz4_1
   try clear hcz4_2
   try clear hfz4_0
   try clear hfz4_1
   try clear hfz4_2
   obtain ⟨x4_1,x5_1,x268000_1,x268001_1,x268002_1,rfl,HA,HK1,HO_4,BK267,HB⟩:=hrel
   cases gk with
   | zero => exact absurd HA.out (by simp [joustref01_Tokens.l0])
   | succ k1 =>
    have H:=HA.out
    clear HA
    simp only [joustref01_Tokens.l0] at H
    by_cases c6 : x5_1 < (a0.size : Int)
    ·rw [if_pos c6] at H
     have c6b0 : decide (x5_1 < (a0.size : Int)) = true:=decide_eq_true c6
     clear c6
     by_cases c7 : 0 ≤ x5_1
     ·rw [if_pos c7] at H
      have c7b0:=eq_true c7
      have c7b1 : decide (0 ≤ x5_1) = true:=decide_eq_true c7
      clear c7
      by_cases c8 : x5_1 ≤ (a0.size : Int)
      ·rw [if_pos c8] at H
       have c8b0:=eq_true c8
       have c8b1 : decide (x5_1 ≤ (a0.size : Int)) = true:=decide_eq_true c8
       clear c8
       replace H:=Option.bind_eq_some_iff.mp H
       obtain ⟨⟨t273,t274⟩,A90,H⟩:=H
       replace H : ((joustref01_Where.f k1 a0 x5_1).bind fun bt275 => (if t273 = 32 then (joustref01_Tokens.j1 k1 a0 x4_1 x5_1 t273 t274 true bt275.1 bt275.2) else (if t273 = 9 then (joustref01_Tokens.j1 k1 a0 x4_1 x5_1 t273 t274 true bt275.1 bt275.2) else (if t273 = 10 then (joustref01_Tokens.j1 k1 a0 x4_1 x5_1 t273 t274 true bt275.1 bt275.2) else (joustref01_Tokens.j1 k1 a0 x4_1 x5_1 t273 t274 (t273 == 13) bt275.1 bt275.2))))) = some (r1,r2,r3,r4):=H
       have A9:=Aside0.mk A90
       clear A90
       replace H:=Option.bind_eq_some_iff.mp H
       obtain ⟨⟨t275,t276⟩,A100,H⟩:=H
       replace H : (if t273 = 32 then (joustref01_Tokens.j1 k1 a0 x4_1 x5_1 t273 t274 true t275 t276) else (if t273 = 9 then (joustref01_Tokens.j1 k1 a0 x4_1 x5_1 t273 t274 true t275 t276) else (if t273 = 10 then (joustref01_Tokens.j1 k1 a0 x4_1 x5_1 t273 t274 true t275 t276) else (joustref01_Tokens.j1 k1 a0 x4_1 x5_1 t273 t274 (t273 == 13) t275 t276)))) = some (r1,r2,r3,r4):=H
       have A10:=Aside0.mk A100
       clear A100
       have HC11:=Aside0.mk H
       clear H
       go_upto_region 8 with (first | ((with_reducible refine gate_callee (f:=34) rfl ?_);refine goesL_ (some 29) rfl rfl Tryd.func34 (by kernel_rfl) rfl #[.string (a0.extract (x5_1 : Int).toNat a0.size)] rfl (by (try simp only [List.map_toArray,List.map_cons,List.map_nil]);first | done | rfl | (simp only [List.length_drop,List.length_take];rfl)) ?_;(with_reducible refine (utf8_DecodeRuneInString.calls (a0.extract (x5_1 : Int).toNat a0.size) t273 t274 _ ?side1 A9.out).mono ?_);(case side1 => exact Tabs.below HG.out (by repeat (first | (with_reducible first | exact HB.out | apply below_alloc | apply pw_below_drewN | apply below_drew1 | refine below_set ?_ GE267.out) | exact HB.out)));rintro e w12 ⟨rfl,hb⟩;refine ⟨_,rfl,?_⟩;have n0_:=Aside0.mk (Kd.R_below (by (with_reducible repeat (first | apply Kd.R_alloc | apply Kd.R_drewN | apply Kd.R_drew));exact HO_4.out) hb);have n1_:=Aside0.mk (blk_below (g:=gb267) (o:=.cells #[.int .i64 x268000_1,.int .i64 x268001_1,.int .i64 x268002_1] 39 (0,0)) (by (with_reducible repeat (first | refine blk_drewN ?_ _ | refine blk_drew ?_ | refine blk_alloc ?_ _));exact BK267.out) hb);have n2_:=Aside0.mk (below_step (by repeat (first | (with_reducible first | exact HB.out | apply below_alloc | apply pw_below_drewN | apply below_drew1 | refine below_set ?_ GE267.out) | exact HB.out)) hb);clear HO_4;clear BK267;clear HB;have HO_4:=n0_;have BK267:=n1_;have HB:=n2_;clear n0_ n1_ n2_;(try clear hb);(try clear hb2);(try clear hk);(try clear hi)) | ((with_reducible refine gate_callee (f:=22) rfl ?_);refine goesL_ (some 34) rfl rfl Tryd.func22 (by kernel_rfl) rfl #[.string a0,.int .i64 x5_1] rfl (by (try simp only [List.map_toArray,List.map_cons,List.map_nil]);first | done | rfl | (simp only [List.length_drop,List.length_take];rfl)) ?_;(with_reducible refine (joustref01_Where.calls k1 a0 x5_1 t275 t276 _ ?side1 A10.out).mono ?_);(case side1 => exact Tabs.below HG.out (by repeat (first | (with_reducible first | exact HB.out | apply below_alloc | apply pw_below_drewN | apply below_drew1 | refine below_set ?_ GE267.out) | exact HB.out)));rintro e w13 ⟨rfl,hb⟩;refine ⟨_,rfl,?_⟩;have n0_:=Aside0.mk (Kd.R_below (by (with_reducible repeat (first | apply Kd.R_alloc | apply Kd.R_drewN | apply Kd.R_drew));exact HO_4.out) hb);have n1_:=Aside0.mk (blk_below (g:=gb267) (o:=.cells #[.int .i64 x268000_1,.int .i64 x268001_1,.int .i64 x268002_1] 39 (0,0)) (by (with_reducible repeat (first | refine blk_drewN ?_ _ | refine blk_drew ?_ | refine blk_alloc ?_ _));exact BK267.out) hb);have n2_:=Aside0.mk (below_step (by repeat (first | (with_reducible first | exact HB.out | apply below_alloc | apply pw_below_drewN | apply below_drew1 | refine below_set ?_ GE267.out) | exact HB.out)) hb);clear HO_4;clear BK267;clear HB;have HO_4:=n0_;have BK267:=n1_;have HB:=n2_;clear n0_ n1_ n2_;(try clear hb);(try clear hb2);(try clear hk);(try clear hi)) | ((with_reducible refine gate_dst (N:=8) rfl ?_);refine box_event ?hg (N:=8) ?hd (cs:=#[.int .i64 0,.int .i64 0]) (t:=37) ?hr ?_;(case hd => rfl);(case hg => rfl);(case hr => first | (go_simp;done) | (go_simp;rfl));intro gb277 hg w14 hbox hb;have n0_:=Aside0.mk (Kd.R_below (by (with_reducible repeat (first | apply Kd.R_alloc | apply Kd.R_drewN | apply Kd.R_drew));exact HO_4.out) hb);have n1_:=Aside0.mk (blk_below (g:=gb267) (o:=.cells #[.int .i64 x268000_1,.int .i64 x268001_1,.int .i64 x268002_1] 39 (0,0)) (by (with_reducible repeat (first | refine blk_drewN ?_ _ | refine blk_drew ?_ | refine blk_alloc ?_ _));exact BK267.out) hb);have n2_:=Aside0.mk (below_step (by repeat (first | (with_reducible first | exact HB.out | apply below_alloc | apply pw_below_drewN | apply below_drew1 | refine below_set ?_ GE267.out) | exact HB.out)) hb);have n3_:=Aside0.mk (hbox);have n4_:=Aside0.mk ((by rw [hg];exact (below_size (by repeat (first | (with_reducible first | exact HB.out | apply below_alloc | apply pw_below_drewN | apply below_drew1 | refine below_set ?_ GE267.out) | exact HB.out))) : w.heap.size ≤ gb277));have n5_:=Aside0.mk ((by rw [hg];exact (below_size (by repeat (first | (with_reducible first | exact HB.out | apply below_alloc | apply pw_below_drewN | apply below_drew1 | refine below_set ?_ GE267.out) | exact HB.out))) : w.heap.size ≤ gb277));have n6_:=Aside0.mk ((by rw [hg];exact Nat.ne_of_lt (blk_lt (g:=gb267) (o:=.cells #[.int .i64 x268000_1,.int .i64 x268001_1,.int .i64 x268002_1] 39 (0,0)) (by (with_reducible repeat (first | refine blk_drewN ?_ _ | refine blk_drew ?_ | refine blk_alloc ?_ _));exact BK267.out)) : gb267 ≠ gb277));have n7_:=Aside0.mk ((by rw [hg];exact Nat.ne_of_gt (blk_lt (g:=gb267) (o:=.cells #[.int .i64 x268000_1,.int .i64 x268001_1,.int .i64 x268002_1] 39 (0,0)) (by (with_reducible repeat (first | refine blk_drewN ?_ _ | refine blk_drew ?_ | refine blk_alloc ?_ _));exact BK267.out)) : gb277 ≠ gb267));clear HO_4;clear BK267;clear HB;have HO_4:=n0_;have BK267:=n1_;have HB:=n2_;have BK277:=n3_;have GW277:=n4_;have GE277:=n5_;have NB267_277:=n6_;have NB277_267:=n7_;clear n0_ n1_ n2_ n3_ n4_ n5_ n6_ n7_;clear hb hbox hg;have hnb15:=NB277_267.out;have hnc15:=NB267_277.out;have hcz16_0 : w14.cell? ⟨gb277,0,none⟩ = some (.int .i64 0):=(blk_cell BK277.out 0).trans rfl;have hcz16_1 : w14.cell? ⟨gb277,1,none⟩ = some (.int .i64 0):=(blk_cell BK277.out 1).trans rfl;have hfz16_0:=blk_frozen BK277.out 0;have hfz16_1:=blk_frozen BK277.out 1))
       (try simp only [Act.put,List.setIfInBounds_toArray,List.set_cons_zero,List.set_cons_succ])
       go_cut [48] (fun v48 wc => ∃ (kq : Nat) (x48_10 : Bool),v48 = .bool x48_10 ∧ Aside0 (joustref01_Tokens.j1 kq a0 x4_1 x5_1 t273 t274 x48_10 t275 t276 = some (r1,r2,r3,r4)) ∧ Aside0 (kq ≤ k1) ∧ Aside0 (Kd.R k48 48 wc w.heap.size (fun _ => True) u4 x4_1) ∧ Aside0 (wc.heap[gb267]? = some (.cells #[.int .i64 x268000_1,.int .i64 x268001_1,.int .i64 x268002_1] 39 (0,0))) ∧ Aside0 (wc.heap[gb277]? = some (.cells #[.int .i64 t275,.int .i64 t276] 37 (0,0))) ∧ Aside0 (Below w.heap.size w wc))
       case first =>
        have H:=HC11.out
        clear HC11
        by_cases c17 : t273 = 32
        ·rw [if_pos c17] at H
         have c17b0 : (t273 == 32) = true:=beq_iff_eq.mpr c17
         have c17b1 : (t273 != 32) = false:=bne_eq_false_iff_eq.mpr c17
         clear c17
         (first | rw [c17b0] | (simp only [i64_w,i32_w];rw [c17b0]) | skip)
         have H':=Aside0.mk H
         clear H
         go_wp2
         go_meet
         case rel => exact ⟨_,(true),(by first | rfl | (simp;done) | (simp [*];done)),H',⟨by have:=HK1.out;first | omega | exact Nat.le_refl _⟩,⟨by (with_reducible repeat (first | apply Kd.R_alloc | apply Kd.R_drewN | apply Kd.R_drew));exact Kd.R_mono (Kd.R_far (p:=⟨gb277,1,none⟩) (Kd.R_far (p:=⟨gb277,0,none⟩) (Kd.R_types HO_4.out BK277.out (by decide)) (fun _ hk => hk.2) (.int .i64 t275)) (fun _ hk => hk.2) (.int .i64 t276)) (fun _ hk => trivial)⟩,⟨by (with_reducible repeat (first | refine blk_drewN ?_ _ | refine blk_drew ?_ | refine blk_alloc ?_ _));refine blk_far ?_ NB267_277.out _;(with_reducible repeat (first | refine blk_drewN ?_ _ | refine blk_drew ?_ | refine blk_alloc ?_ _));refine blk_far ?_ NB267_277.out _;(with_reducible repeat (first | refine blk_drewN ?_ _ | refine blk_drew ?_ | refine blk_alloc ?_ _));exact BK267.out⟩,⟨by (with_reducible repeat (first | refine blk_drewN ?_ _ | refine blk_drew ?_ | refine blk_alloc ?_ _));refine blk_put (cs:=#[.int .i64 t275,.int .i64 0]) ?_ 1 _ rfl;(with_reducible repeat (first | refine blk_drewN ?_ _ | refine blk_drew ?_ | refine blk_alloc ?_ _));refine blk_put (cs:=#[.int .i64 0,.int .i64 0]) ?_ 0 _ rfl;(with_reducible repeat (first | refine blk_drewN ?_ _ | refine blk_drew ?_ | refine blk_alloc ?_ _));exact BK277.out⟩,⟨by repeat (first | (with_reducible first | exact HB.out | apply below_alloc | apply pw_below_drewN | apply below_drew1 | refine below_set ?_ GE267.out | refine below_set ?_ GE277.out) | exact HB.out)⟩⟩
        ·rw [if_neg c17] at H
         have c17b0 : (t273 == 32) = false:=beq_eq_false_iff_ne.mpr c17
         have c17b1 : (t273 != 32) = true:=bne_iff_ne.mpr c17
         (first | rw [c17b0] | (simp only [i64_w,i32_w];rw [c17b0]) | skip)
         by_cases c18 : t273 = 9
         ·rw [if_pos c18] at H
          have c18b0 : (t273 == 9) = true:=beq_iff_eq.mpr c18
          have c18b1 : (t273 != 9) = false:=bne_eq_false_iff_eq.mpr c18
          clear c18
          have H':=Aside0.mk H
          clear H
          go_wp2
          go_meet
          case rel => exact ⟨_,(true),(by first | rfl | (simp;done) | (simp [*];done)),H',⟨by have:=HK1.out;first | omega | exact Nat.le_refl _⟩,⟨by (with_reducible repeat (first | apply Kd.R_alloc | apply Kd.R_drewN | apply Kd.R_drew));exact Kd.R_mono (Kd.R_far (p:=⟨gb277,1,none⟩) (Kd.R_far (p:=⟨gb277,0,none⟩) (Kd.R_types HO_4.out BK277.out (by decide)) (fun _ hk => hk.2) (.int .i64 t275)) (fun _ hk => hk.2) (.int .i64 t276)) (fun _ hk => trivial)⟩,⟨by (with_reducible repeat (first | refine blk_drewN ?_ _ | refine blk_drew ?_ | refine blk_alloc ?_ _));refine blk_far ?_ NB267_277.out _;(with_reducible repeat (first | refine blk_drewN ?_ _ | refine blk_drew ?_ | refine blk_alloc ?_ _));refine blk_far ?_ NB267_277.out _;(with_reducible repeat (first | refine blk_drewN ?_ _ | refine blk_drew ?_ | refine blk_alloc ?_ _));exact BK267.out⟩,⟨by (with_reducible repeat (first | refine blk_drewN ?_ _ | refine blk_drew ?_ | refine blk_alloc ?_ _));refine blk_put (cs:=#[.int .i64 t275,.int .i64 0]) ?_ 1 _ rfl;(with_reducible repeat (first | refine blk_drewN ?_ _ | refine blk_drew ?_ | refine blk_alloc ?_ _));refine blk_put (cs:=#[.int .i64 0,.int .i64 0]) ?_ 0 _ rfl;(with_reducible repeat (first | refine blk_drewN ?_ _ | refine blk_drew ?_ | refine blk_alloc ?_ _));exact BK277.out⟩,⟨by repeat (first | (with_reducible first | exact HB.out | apply below_alloc | apply pw_below_drewN | apply below_drew1 | refine below_set ?_ GE267.out | refine below_set ?_ GE277.out) | exact HB.out)⟩⟩
         ·rw [if_neg c18] at H
          have c18b0 : (t273 == 9) = false:=beq_eq_false_iff_ne.mpr c18
          have c18b1 : (t273 != 9) = true:=bne_iff_ne.mpr c18
          by_cases c19 : t273 = 10
          ·rw [if_pos c19] at H
           have c19b0 : (t273 == 10) = true:=beq_iff_eq.mpr c19
           have c19b1 : (t273 != 10) = false:=bne_eq_false_iff_eq.mpr c19
           clear c19
           have H':=Aside0.mk H
           clear H
           go_wp2
           go_meet
           case rel => exact ⟨_,(true),(by first | rfl | (simp;done) | (simp [*];done)),H',⟨by have:=HK1.out;first | omega | exact Nat.le_refl _⟩,⟨by (with_reducible repeat (first | apply Kd.R_alloc | apply Kd.R_drewN | apply Kd.R_drew));exact Kd.R_mono (Kd.R_far (p:=⟨gb277,1,none⟩) (Kd.R_far (p:=⟨gb277,0,none⟩) (Kd.R_types HO_4.out BK277.out (by decide)) (fun _ hk => hk.2) (.int .i64 t275)) (fun _ hk => hk.2) (.int .i64 t276)) (fun _ hk => trivial)⟩,⟨by (with_reducible repeat (first | refine blk_drewN ?_ _ | refine blk_drew ?_ | refine blk_alloc ?_ _));refine blk_far ?_ NB267_277.out _;(with_reducible repeat (first | refine blk_drewN ?_ _ | refine blk_drew ?_ | refine blk_alloc ?_ _));refine blk_far ?_ NB267_277.out _;(with_reducible repeat (first | refine blk_drewN ?_ _ | refine blk_drew ?_ | refine blk_alloc ?_ _));exact BK267.out⟩,⟨by (with_reducible repeat (first | refine blk_drewN ?_ _ | refine blk_drew ?_ | refine blk_alloc ?_ _));refine blk_put (cs:=#[.int .i64 t275,.int .i64 0]) ?_ 1 _ rfl;(with_reducible repeat (first | refine blk_drewN ?_ _ | refine blk_drew ?_ | refine blk_alloc ?_ _));refine blk_put (cs:=#[.int .i64 0,.int .i64 0]) ?_ 0 _ rfl;(with_reducible repeat (first | refine blk_drewN ?_ _ | refine blk_drew ?_ | refine blk_alloc ?_ _));exact BK277.out⟩,⟨by repeat (first | (with_reducible first | exact HB.out | apply below_alloc | apply pw_below_drewN | apply below_drew1 | refine below_set ?_ GE267.out | refine below_set ?_ GE277.out) | exact HB.out)⟩⟩
          ·rw [if_neg c19] at H
           have c19b0 : (t273 == 10) = false:=beq_eq_false_iff_ne.mpr c19
           have c19b1 : (t273 != 10) = true:=bne_iff_ne.mpr c19
           have H':=Aside0.mk H
           clear H
           go_wp2
           go_meet
           case rel => exact ⟨_,((t273 == 13)),(by first | rfl | (simp;done) | (simp [*];done)),H',⟨by have:=HK1.out;first | omega | exact Nat.le_refl _⟩,⟨by (with_reducible repeat (first | apply Kd.R_alloc | apply Kd.R_drewN | apply Kd.R_drew));exact Kd.R_mono (Kd.R_far (p:=⟨gb277,1,none⟩) (Kd.R_far (p:=⟨gb277,0,none⟩) (Kd.R_types HO_4.out BK277.out (by decide)) (fun _ hk => hk.2) (.int .i64 t275)) (fun _ hk => hk.2) (.int .i64 t276)) (fun _ hk => trivial)⟩,⟨by (with_reducible repeat (first | refine blk_drewN ?_ _ | refine blk_drew ?_ | refine blk_alloc ?_ _));refine blk_far ?_ NB267_277.out _;(with_reducible repeat (first | refine blk_drewN ?_ _ | refine blk_drew ?_ | refine blk_alloc ?_ _));refine blk_far ?_ NB267_277.out _;(with_reducible repeat (first | refine blk_drewN ?_ _ | refine blk_drew ?_ | refine blk_alloc ?_ _));exact BK267.out⟩,⟨by (with_reducible repeat (first | refine blk_drewN ?_ _ | refine blk_drew ?_ | refine blk_alloc ?_ _));refine blk_put (cs:=#[.int .i64 t275,.int .i64 0]) ?_ 1 _ rfl;(with_reducible repeat (first | refine blk_drewN ?_ _ | refine blk_drew ?_ | refine blk_alloc ?_ _));refine blk_put (cs:=#[.int .i64 0,.int .i64 0]) ?_ 0 _ rfl;(with_reducible repeat (first | refine blk_drewN ?_ _ | refine blk_drew ?_ | refine blk_alloc ?_ _));exact BK277.out⟩,⟨by repeat (first | (with_reducible first | exact HB.out | apply below_alloc | apply pw_below_drewN | apply below_drew1 | refine below_set ?_ GE267.out | refine below_set ?_ GE277.out) | exact HB.out)⟩⟩
       case rest =>
        clear HC11
        try clear c1
        try clear c2
        try clear c2b0
        try clear c2b1
        try clear p2
        try clear c3
        try clear c6
        try clear c6b0
        try clear c7
        try clear c7b0
        try clear c7b1
        try clear c8
        try clear c8b0
        try clear c8b1
        try clear c15
        try clear c16
        try clear c17
        try clear c17b0
        try clear c17b1
        try clear c18
        try clear c18b0
        try clear c18b1
        try clear c19
        try clear c19b0
        try clear c19b1
        try clear hcz16_0
        try clear hcz16_1
        try clear hcz4_0
        try clear hcz4_1
        try clear hcz4_2
        try clear hfz16_0
        try clear hfz16_1
        try clear hfz4_0
        try clear hfz4_1
        try clear hfz4_2
        try clear p2
        obtain ⟨kq,x48_10,rfl,HA,HJ10,HO_4,BK267,BK277,HB⟩:=hcut
        cases kq with
        | zero => exact absurd HA.out (by simp [joustref01_Tokens.j1])
        | succ kj10 =>
         have H:=HA.out
         clear HA
         simp only [joustref01_Tokens.j1] at H
         by_cases c20 : x48_10 = true
         ·subst c20
          have H1 : (joustref01_Tokens.l0 kj10 a0 x4_1 (wrap64 (x5_1 + 1))) = some (r1,r2,r3,r4):=by rw [if_pos rfl] at H;exact H
          clear H
          have H:=H1
          clear H1
          have H':=Aside0.mk H
          clear H
          go_wp2
          go_roundg kj10
          case measure => have:=HK1.out;have:=HJ10.out;omega
          case rel => exact ⟨(x4_1),(wrap64 (x5_1 + 1)),(x268000_1),(x268001_1),(x268002_1),(by first | rfl | (simp;done) | (simp [*];done)),H',⟨by have:=HK1.out;have:=HJ10.out;omega⟩,⟨by (with_reducible repeat (first | apply Kd.R_alloc | apply Kd.R_drewN | apply Kd.R_drew));exact HO_4.out⟩,⟨by (with_reducible repeat (first | refine blk_drewN ?_ _ | refine blk_drew ?_ | refine blk_alloc ?_ _));exact BK267.out⟩,⟨by repeat (first | (with_reducible first | exact HB.out | apply below_alloc | apply pw_below_drewN | apply below_drew1 | refine below_set ?_ GE267.out | refine below_set ?_ GE277.out) | exact HB.out)⟩⟩
         ·replace c20:=Bool.eq_false_iff.mpr c20
          subst c20
          have H1 : (if t273 = 35 then (if 0 ≤ x5_1 then (if x5_1 ≤ (a0.size : Int) then ((joustref01_remark.f kj10 (a0.extract (x5_1 : Int).toNat a0.size)).bind fun bt278 => (if bt278.2 ≥ 0 then ((joustref01_Where.f kj10 a0 (wrap64 (x5_1 + bt278.2))).bind fun bt280 => (some (([] : List (S48)),4,bt280.1,bt280.2))) else (joustref01_Tokens.l0 kj10 a0 x4_1 (wrap64 (x5_1 + bt278.1))))) else (none)) else (none)) else (if 0 ≤ x5_1 then (if x5_1 ≤ (a0.size : Int) then ((joustref01_word.f kj10 (a0.extract (x5_1 : Int).toNat a0.size)).bind fun bt282 => (if bt282.1 > 0 then (if bt282.2 > 24 then (some (([] : List (S48)),3,t275,t276)) else (if x5_1 ≤ (wrap64 (x5_1 + bt282.1)) then (if (wrap64 (x5_1 + bt282.1)) ≤ (a0.size : Int) then (if x4_1.length < 3518437208883 then (joustref01_Tokens.l0 kj10 a0 (x4_1 ++ [(⟨1,a0.extract (x5_1 : Int).toNat ((wrap64 (x5_1 + bt282.1)) : Int).toNat,(⟨t275,t276⟩ : S37)⟩ : S48)]) (wrap64 (x5_1 + bt282.1))) else (none)) else (none)) else (none))) else ((joustref01_digit.f t273).bind fun t287 => (if t287 = true then ((joustref01_number.f kj10 (a0.extract (x5_1 : Int).toNat a0.size)).bind fun t288 => (if x5_1 ≤ (wrap64 (x5_1 + t288)) then (if (wrap64 (x5_1 + t288)) ≤ (a0.size : Int) then ((joustref01_great.f kj10 (a0.extract (x5_1 : Int).toNat ((wrap64 (x5_1 + t288)) : Int).toNat)).bind fun t289 => (if t289 = true then (some (([] : List (S48)),3,t275,t276)) else (if 0 ≤ (wrap64 (x5_1 + t288)) then ((utf8_DecodeRuneInString.f (a0.extract ((wrap64 (x5_1 + t288)) : Int).toNat a0.size)).bind fun bt290 => (if t288 > 1 then (if t273 = 48 then (some (([] : List (S48)),5,t275,t276)) else ((unicode_IsLetter.f bt290.1).bind fun t292 => (if t292 = true then (if bt290.2 > 0 then (some (([] : List (S48)),5,t275,t276)) else (if x4_1.length < 3518437208883 then (joustref01_Tokens.l0 kj10 a0 (x4_1 ++ [(⟨2,a0.extract (x5_1 : Int).toNat ((wrap64 (x5_1 + t288)) : Int).toNat,(⟨t275,t276⟩ : S37)⟩ : S48)]) (wrap64 (x5_1 + t288))) else (none))) else (if x4_1.length < 3518437208883 then (joustref01_Tokens.l0 kj10 a0 (x4_1 ++ [(⟨2,a0.extract (x5_1 : Int).toNat ((wrap64 (x5_1 + t288)) : Int).toNat,(⟨t275,t276⟩ : S37)⟩ : S48)]) (wrap64 (x5_1 + t288))) else (none))))) else ((unicode_IsLetter.f bt290.1).bind fun t299 => (if t299 = true then (if bt290.2 > 0 then (some (([] : List (S48)),5,t275,t276)) else (if x4_1.length < 3518437208883 then (joustref01_Tokens.l0 kj10 a0 (x4_1 ++ [(⟨2,a0.extract (x5_1 : Int).toNat ((wrap64 (x5_1 + t288)) : Int).toNat,(⟨t275,t276⟩ : S37)⟩ : S48)]) (wrap64 (x5_1 + t288))) else (none))) else (if x4_1.length < 3518437208883 then (joustref01_Tokens.l0 kj10 a0 (x4_1 ++ [(⟨2,a0.extract (x5_1 : Int).toNat ((wrap64 (x5_1 + t288)) : Int).toNat,(⟨t275,t276⟩ : S37)⟩ : S48)]) (wrap64 (x5_1 + t288))) else (none)))))) else (none)))) else (none)) else (none))) else ((joustref01_mark.f kj10 t273).bind fun t306 => (if t306 = true then (if x5_1 ≤ (wrap64 (x5_1 + t274)) then (if (wrap64 (x5_1 + t274)) ≤ (a0.size : Int) then (if x4_1.length < 3518437208883 then (joustref01_Tokens.l0 kj10 a0 (x4_1 ++ [(⟨3,a0.extract (x5_1 : Int).toNat ((wrap64 (x5_1 + t274)) : Int).toNat,(⟨t275,t276⟩ : S37)⟩ : S48)]) (wrap64 (x5_1 + t274))) else (none)) else (none)) else (none)) else (some (([] : List (S48)),4,t275,t276)))))))) else (none)) else (none))) = some (r1,r2,r3,r4):=by rw [if_neg (show ¬ (false = true) by decide)] at H;exact H
          clear H
          have H:=H1
          clear H1
          by_cases c21 : t273 = 35
          ·rw [if_pos c21] at H
           have c21b0 : (t273 == 35) = true:=beq_iff_eq.mpr c21
           have c21b1 : (t273 != 35) = false:=bne_eq_false_iff_eq.mpr c21
           clear c21
           by_cases c22 : 0 ≤ x5_1
           ·rw [if_pos c22] at H
            have c22b0:=eq_true c22
            have c22b1 : decide (0 ≤ x5_1) = true:=decide_eq_true c22
            clear c22
            by_cases c23 : x5_1 ≤ (a0.size : Int)
            ·rw [if_pos c23] at H
             have c23b0:=eq_true c23
             have c23b1 : decide (x5_1 ≤ (a0.size : Int)) = true:=decide_eq_true c23
             clear c23
             replace H:=Option.bind_eq_some_iff.mp H
             obtain ⟨⟨t278,t279⟩,A240,H⟩:=H
             replace H : (if t279 ≥ 0 then ((joustref01_Where.f kj10 a0 (wrap64 (x5_1 + t279))).bind fun bt280 => (some (([] : List (S48)),4,bt280.1,bt280.2))) else (joustref01_Tokens.l0 kj10 a0 x4_1 (wrap64 (x5_1 + t278)))) = some (r1,r2,r3,r4):=H
             have A24:=Aside0.mk A240
             clear A240
             by_cases c25 : t279 ≥ 0
             ·rw [if_pos c25] at H
              have c25b0 : decide (0 ≤ t279) = true:=decide_eq_true c25
              clear c25
              replace H:=Option.bind_eq_some_iff.mp H
              obtain ⟨⟨t280,t281⟩,A260,H⟩:=H
              replace H : (some (([] : List (S48)),4,t280,t281)) = some (r1,r2,r3,r4):=H
              have A26:=Aside0.mk A260
              clear A260
              simp only [Option.some.injEq,Prod.mk.injEq] at H
              obtain ⟨rfl,rfl,rfl,rfl⟩:=H
              go_wp2_with (first | ((with_reducible refine gate_callee (f:=35) rfl ?_);refine goesL_ (some 57) rfl rfl Tryd.func35 (by kernel_rfl) rfl #[.string (a0.extract (x5_1 : Int).toNat a0.size)] rfl (by (try simp only [List.map_toArray,List.map_cons,List.map_nil]);first | done | rfl | (simp only [List.length_drop,List.length_take];rfl)) ?_;(with_reducible refine (joustref01_remark.calls kj10 (a0.extract (x5_1 : Int).toNat a0.size) t278 t279 _ ?side1 A24.out).mono ?_);(case side1 => exact Tabs.below HG.out (by repeat (first | (with_reducible first | exact HB.out | apply below_alloc | apply pw_below_drewN | apply below_drew1 | refine below_set ?_ GE267.out | refine below_set ?_ GE277.out) | exact HB.out)));rintro e w27 ⟨rfl,hb⟩;refine ⟨_,rfl,?_⟩;have n0_:=Aside0.mk (Kd.R_below (by (with_reducible repeat (first | apply Kd.R_alloc | apply Kd.R_drewN | apply Kd.R_drew));exact HO_4.out) hb);have n1_:=Aside0.mk (blk_below (g:=gb267) (o:=.cells #[.int .i64 x268000_1,.int .i64 x268001_1,.int .i64 x268002_1] 39 (0,0)) (by (with_reducible repeat (first | refine blk_drewN ?_ _ | refine blk_drew ?_ | refine blk_alloc ?_ _));exact BK267.out) hb);have n2_:=Aside0.mk (blk_below (g:=gb277) (o:=.cells #[.int .i64 t275,.int .i64 t276] 37 (0,0)) (by (with_reducible repeat (first | refine blk_drewN ?_ _ | refine blk_drew ?_ | refine blk_alloc ?_ _));exact BK277.out) hb);have n3_:=Aside0.mk (below_step (by repeat (first | (with_reducible first | exact HB.out | apply below_alloc | apply pw_below_drewN | apply below_drew1 | refine below_set ?_ GE267.out | refine below_set ?_ GE277.out) | exact HB.out)) hb);clear HO_4;clear BK267;clear BK277;clear HB;have HO_4:=n0_;have BK267:=n1_;have BK277:=n2_;have HB:=n3_;clear n0_ n1_ n2_ n3_;(try clear hb);(try clear hb2);(try clear hk);(try clear hi)) | ((with_reducible refine gate_callee (f:=22) rfl ?_);refine goesL_ (some 66) rfl rfl Tryd.func22 (by kernel_rfl) rfl #[.string a0,.int .i64 (wrap64 (x5_1 + t279))] rfl (by (try simp only [List.map_toArray,List.map_cons,List.map_nil]);first | done | rfl | (simp only [List.length_drop,List.length_take];rfl)) ?_;(with_reducible refine (joustref01_Where.calls kj10 a0 (wrap64 (x5_1 + t279)) t280 t281 _ ?side1 A26.out).mono ?_);(case side1 => exact Tabs.below HG.out (by repeat (first | (with_reducible first | exact HB.out | apply below_alloc | apply pw_below_drewN | apply below_drew1 | refine below_set ?_ GE267.out | refine below_set ?_ GE277.out) | exact HB.out)));rintro e w28 ⟨rfl,hb⟩;refine ⟨_,rfl,?_⟩;have n0_:=Aside0.mk (Kd.R_below (by (with_reducible repeat (first | apply Kd.R_alloc | apply Kd.R_drewN | apply Kd.R_drew));exact HO_4.out) hb);have n1_:=Aside0.mk (blk_below (g:=gb267) (o:=.cells #[.int .i64 x268000_1,.int .i64 x268001_1,.int .i64 x268002_1] 39 (0,0)) (by (with_reducible repeat (first | refine blk_drewN ?_ _ | refine blk_drew ?_ | refine blk_alloc ?_ _));exact BK267.out) hb);have n2_:=Aside0.mk (blk_below (g:=gb277) (o:=.cells #[.int .i64 t275,.int .i64 t276] 37 (0,0)) (by (with_reducible repeat (first | refine blk_drewN ?_ _ | refine blk_drew ?_ | refine blk_alloc ?_ _));exact BK277.out) hb);have n3_:=Aside0.mk (below_step (by repeat (first | (with_reducible first | exact HB.out | apply below_alloc | apply pw_below_drewN | apply below_drew1 | refine below_set ?_ GE267.out | refine below_set ?_ GE277.out) | exact HB.out)) hb);clear HO_4;clear BK267;clear BK277;clear HB;have HO_4:=n0_;have BK267:=n1_;have BK277:=n2_;have HB:=n3_;clear n0_ n1_ n2_ n3_;(try clear hb);(try clear hb2);(try clear hk);(try clear hi);have hnb29:=NB267_277.out;have hnc29:=NB277_267.out;have hcz30_0 : w28.cell? ⟨gb267,0,none⟩ = some (.int .i64 x268000_1):=(blk_cell BK267.out 0).trans rfl;have hcz30_1 : w28.cell? ⟨gb267,1,none⟩ = some (.int .i64 x268001_1):=(blk_cell BK267.out 1).trans rfl;have hcz30_2 : w28.cell? ⟨gb267,2,none⟩ = some (.int .i64 x268002_1):=(blk_cell BK267.out 2).trans rfl;have hfz30_0:=blk_frozen BK267.out 0;have hfz30_1:=blk_frozen BK267.out 1;have hfz30_2:=blk_frozen BK267.out 2))
              refine bodyPost_ret (results_tc rfl _ _ gb267 39 #[.int .i64 4,.int .i64 t280,.int .i64 t281] (0,0) _ rfl (by (with_reducible repeat (first | refine blk_drewN ?_ _ | refine blk_drew ?_ | refine blk_alloc ?_ _));refine blk_put (cs:=#[.int .i64 4,.int .i64 t280,.int .i64 x268002_1]) ?_ 2 _ rfl;(with_reducible repeat (first | refine blk_drewN ?_ _ | refine blk_drew ?_ | refine blk_alloc ?_ _));refine blk_put (cs:=#[.int .i64 4,.int .i64 x268001_1,.int .i64 x268002_1]) ?_ 1 _ rfl;(with_reducible repeat (first | refine blk_drewN ?_ _ | refine blk_drew ?_ | refine blk_alloc ?_ _));refine blk_put (cs:=#[.int .i64 x268000_1,.int .i64 x268001_1,.int .i64 x268002_1]) ?_ 0 _ rfl;(with_reducible repeat (first | refine blk_drewN ?_ _ | refine blk_drew ?_ | refine blk_alloc ?_ _));exact BK267.out) Tryd.underlying39 rfl (by kernel_rfl)) rfl ?_
              exact ⟨_,by first | rfl | (simp [errW_none,errW_some] <;> rfl) | (simp [*,errW_none,errW_some] <;> rfl),by first | exact Kd.R_nil _ _ _ _ _ | exact Kd.N_nil _ _ _ _ _ | exact Kd.V_nil _ _ _ _ _ | exact Kd.Q_nil _ _ _ _ _ | exact Kd.S_nil _ _ _ _ _,by repeat (first | (with_reducible first | exact HB.out | apply below_alloc | apply pw_below_drewN | apply below_drew1 | refine below_set ?_ GE267.out | refine below_set ?_ GE277.out) | exact HB.out)⟩
             ·rw [if_neg c25] at H
              have c25b0 : decide (0 ≤ t279) = false:=decide_eq_false c25
              clear c25
              have H':=Aside0.mk H
              clear H
              go_wp2_with (first | ((with_reducible refine gate_callee (f:=35) rfl ?_);refine goesL_ (some 57) rfl rfl Tryd.func35 (by kernel_rfl) rfl #[.string (a0.extract (x5_1 : Int).toNat a0.size)] rfl (by (try simp only [List.map_toArray,List.map_cons,List.map_nil]);first | done | rfl | (simp only [List.length_drop,List.length_take];rfl)) ?_;(with_reducible refine (joustref01_remark.calls kj10 (a0.extract (x5_1 : Int).toNat a0.size) t278 t279 _ ?side1 A24.out).mono ?_);(case side1 => exact Tabs.below HG.out (by repeat (first | (with_reducible first | exact HB.out | apply below_alloc | apply pw_below_drewN | apply below_drew1 | refine below_set ?_ GE267.out | refine below_set ?_ GE277.out) | exact HB.out)));rintro e w31 ⟨rfl,hb⟩;refine ⟨_,rfl,?_⟩;have n0_:=Aside0.mk (Kd.R_below (by (with_reducible repeat (first | apply Kd.R_alloc | apply Kd.R_drewN | apply Kd.R_drew));exact HO_4.out) hb);have n1_:=Aside0.mk (blk_below (g:=gb267) (o:=.cells #[.int .i64 x268000_1,.int .i64 x268001_1,.int .i64 x268002_1] 39 (0,0)) (by (with_reducible repeat (first | refine blk_drewN ?_ _ | refine blk_drew ?_ | refine blk_alloc ?_ _));exact BK267.out) hb);have n2_:=Aside0.mk (blk_below (g:=gb277) (o:=.cells #[.int .i64 t275,.int .i64 t276] 37 (0,0)) (by (with_reducible repeat (first | refine blk_drewN ?_ _ | refine blk_drew ?_ | refine blk_alloc ?_ _));exact BK277.out) hb);have n3_:=Aside0.mk (below_step (by repeat (first | (with_reducible first | exact HB.out | apply below_alloc | apply pw_below_drewN | apply below_drew1 | refine below_set ?_ GE267.out | refine below_set ?_ GE277.out) | exact HB.out)) hb);clear HO_4;clear BK267;clear BK277;clear HB;have HO_4:=n0_;have BK267:=n1_;have BK277:=n2_;have HB:=n3_;clear n0_ n1_ n2_ n3_;(try clear hb);(try clear hb2);(try clear hk);(try clear hi)))
              go_roundg kj10
              case measure => have:=HK1.out;have:=HJ10.out;omega
              case rel => exact ⟨(x4_1),(wrap64 (x5_1 + t278)),(x268000_1),(x268001_1),(x268002_1),(by first | rfl | (simp;done) | (simp [*];done)),H',⟨by have:=HK1.out;have:=HJ10.out;omega⟩,⟨by (with_reducible repeat (first | apply Kd.R_alloc | apply Kd.R_drewN | apply Kd.R_drew));exact HO_4.out⟩,⟨by (with_reducible repeat (first | refine blk_drewN ?_ _ | refine blk_drew ?_ | refine blk_alloc ?_ _));exact BK267.out⟩,⟨by repeat (first | (with_reducible first | exact HB.out | apply below_alloc | apply pw_below_drewN | apply below_drew1 | refine below_set ?_ GE267.out | refine below_set ?_ GE277.out) | exact HB.out)⟩⟩
            ·rw [if_neg c23] at H
             exact absurd H (by simp)
           ·rw [if_neg c22] at H
            exact absurd H (by simp)
          ·rw [if_neg c21] at H
           have c21b0 : (t273 == 35) = false:=beq_eq_false_iff_ne.mpr c21
           have c21b1 : (t273 != 35) = true:=bne_iff_ne.mpr c21
           by_cases c32 : 0 ≤ x5_1
           ·rw [if_pos c32] at H
            have c32b0:=eq_true c32
            have c32b1 : decide (0 ≤ x5_1) = true:=decide_eq_true c32
            clear c32
            by_cases c33 : x5_1 ≤ (a0.size : Int)
            ·rw [if_pos c33] at H
             have c33b0:=eq_true c33
             have c33b1 : decide (x5_1 ≤ (a0.size : Int)) = true:=decide_eq_true c33
             clear c33
             replace H:=Option.bind_eq_some_iff.mp H
             obtain ⟨⟨t282,t283⟩,A340,H⟩:=H
             replace H : (if t282 > 0 then (if t283 > 24 then (some (([] : List (S48)),3,t275,t276)) else (if x5_1 ≤ (wrap64 (x5_1 + t282)) then (if (wrap64 (x5_1 + t282)) ≤ (a0.size : Int) then (if x4_1.length < 3518437208883 then (joustref01_Tokens.l0 kj10 a0 (x4_1 ++ [(⟨1,a0.extract (x5_1 : Int).toNat ((wrap64 (x5_1 + t282)) : Int).toNat,(⟨t275,t276⟩ : S37)⟩ : S48)]) (wrap64 (x5_1 + t282))) else (none)) else (none)) else (none))) else ((joustref01_digit.f t273).bind fun t287 => (if t287 = true then ((joustref01_number.f kj10 (a0.extract (x5_1 : Int).toNat a0.size)).bind fun t288 => (if x5_1 ≤ (wrap64 (x5_1 + t288)) then (if (wrap64 (x5_1 + t288)) ≤ (a0.size : Int) then ((joustref01_great.f kj10 (a0.extract (x5_1 : Int).toNat ((wrap64 (x5_1 + t288)) : Int).toNat)).bind fun t289 => (if t289 = true then (some (([] : List (S48)),3,t275,t276)) else (if 0 ≤ (wrap64 (x5_1 + t288)) then ((utf8_DecodeRuneInString.f (a0.extract ((wrap64 (x5_1 + t288)) : Int).toNat a0.size)).bind fun bt290 => (if t288 > 1 then (if t273 = 48 then (some (([] : List (S48)),5,t275,t276)) else ((unicode_IsLetter.f bt290.1).bind fun t292 => (if t292 = true then (if bt290.2 > 0 then (some (([] : List (S48)),5,t275,t276)) else (if x4_1.length < 3518437208883 then (joustref01_Tokens.l0 kj10 a0 (x4_1 ++ [(⟨2,a0.extract (x5_1 : Int).toNat ((wrap64 (x5_1 + t288)) : Int).toNat,(⟨t275,t276⟩ : S37)⟩ : S48)]) (wrap64 (x5_1 + t288))) else (none))) else (if x4_1.length < 3518437208883 then (joustref01_Tokens.l0 kj10 a0 (x4_1 ++ [(⟨2,a0.extract (x5_1 : Int).toNat ((wrap64 (x5_1 + t288)) : Int).toNat,(⟨t275,t276⟩ : S37)⟩ : S48)]) (wrap64 (x5_1 + t288))) else (none))))) else ((unicode_IsLetter.f bt290.1).bind fun t299 => (if t299 = true then (if bt290.2 > 0 then (some (([] : List (S48)),5,t275,t276)) else (if x4_1.length < 3518437208883 then (joustref01_Tokens.l0 kj10 a0 (x4_1 ++ [(⟨2,a0.extract (x5_1 : Int).toNat ((wrap64 (x5_1 + t288)) : Int).toNat,(⟨t275,t276⟩ : S37)⟩ : S48)]) (wrap64 (x5_1 + t288))) else (none))) else (if x4_1.length < 3518437208883 then (joustref01_Tokens.l0 kj10 a0 (x4_1 ++ [(⟨2,a0.extract (x5_1 : Int).toNat ((wrap64 (x5_1 + t288)) : Int).toNat,(⟨t275,t276⟩ : S37)⟩ : S48)]) (wrap64 (x5_1 + t288))) else (none)))))) else (none)))) else (none)) else (none))) else ((joustref01_mark.f kj10 t273).bind fun t306 => (if t306 = true then (if x5_1 ≤ (wrap64 (x5_1 + t274)) then (if (wrap64 (x5_1 + t274)) ≤ (a0.size : Int) then (if x4_1.length < 3518437208883 then (joustref01_Tokens.l0 kj10 a0 (x4_1 ++ [(⟨3,a0.extract (x5_1 : Int).toNat ((wrap64 (x5_1 + t274)) : Int).toNat,(⟨t275,t276⟩ : S37)⟩ : S48)]) (wrap64 (x5_1 + t274))) else (none)) else (none)) else (none)) else (some (([] : List (S48)),4,t275,t276))))))) = some (r1,r2,r3,r4):=H
             have A34:=Aside0.mk A340
             clear A340
             by_cases c35 : t282 > 0
             ·rw [if_pos c35] at H
              have c35b0 : decide (0 < t282) = true:=decide_eq_true c35
              clear c35
              by_cases c36 : t283 > 24
              ·rw [if_pos c36] at H
               have c36b0 : decide (24 < t283) = true:=decide_eq_true c36
               clear c36
               simp only [Option.some.injEq,Prod.mk.injEq] at H
               obtain ⟨rfl,rfl,rfl,rfl⟩:=H
               try go_wp2_with (first | ((with_reducible refine gate_callee (f:=36) rfl ?_);refine goesL_ (some 75) rfl rfl Tryd.func36 (by kernel_rfl) rfl #[.string (a0.extract (x5_1 : Int).toNat a0.size)] rfl (by (try simp only [List.map_toArray,List.map_cons,List.map_nil]);first | done | rfl | (simp only [List.length_drop,List.length_take];rfl)) ?_;(with_reducible refine (joustref01_word.calls kj10 (a0.extract (x5_1 : Int).toNat a0.size) t282 t283 _ ?side1 A34.out).mono ?_);(case side1 => exact Tabs.below HG.out (by repeat (first | (with_reducible first | exact HB.out | apply below_alloc | apply pw_below_drewN | apply below_drew1 | refine below_set ?_ GE267.out | refine below_set ?_ GE277.out) | exact HB.out)));rintro e w37 ⟨rfl,hb⟩;refine ⟨_,rfl,?_⟩;have n0_:=Aside0.mk (Kd.R_below (by (with_reducible repeat (first | apply Kd.R_alloc | apply Kd.R_drewN | apply Kd.R_drew));exact HO_4.out) hb);have n1_:=Aside0.mk (blk_below (g:=gb267) (o:=.cells #[.int .i64 x268000_1,.int .i64 x268001_1,.int .i64 x268002_1] 39 (0,0)) (by (with_reducible repeat (first | refine blk_drewN ?_ _ | refine blk_drew ?_ | refine blk_alloc ?_ _));exact BK267.out) hb);have n2_:=Aside0.mk (blk_below (g:=gb277) (o:=.cells #[.int .i64 t275,.int .i64 t276] 37 (0,0)) (by (with_reducible repeat (first | refine blk_drewN ?_ _ | refine blk_drew ?_ | refine blk_alloc ?_ _));exact BK277.out) hb);have n3_:=Aside0.mk (below_step (by repeat (first | (with_reducible first | exact HB.out | apply below_alloc | apply pw_below_drewN | apply below_drew1 | refine below_set ?_ GE267.out | refine below_set ?_ GE277.out) | exact HB.out)) hb);clear HO_4;clear BK267;clear BK277;clear HB;have HO_4:=n0_;have BK267:=n1_;have BK277:=n2_;have HB:=n3_;clear n0_ n1_ n2_ n3_;(try clear hb);(try clear hb2);(try clear hk);(try clear hi)))
               have n0_:=Aside0.mk (Kd.R_drew HO_4.out)
               have n1_:=Aside0.mk (blk_drew BK267.out)
               have n2_:=Aside0.mk (blk_drew BK277.out)
               have n3_:=Aside0.mk (below_drew1 HB.out)
               clear HO_4
               clear BK267
               clear BK277
               clear HB
               have HO_4:=n0_
               have BK267:=n1_
               have BK277:=n2_
               have HB:=n3_
               clear n0_ n1_ n2_ n3_
               refine start_ (n:=4) (S:=fun w' => w'.cell? ⟨gb277,0,none⟩ = some (.int .i64 t275) ∧ w'.cell? ⟨gb277,1,none⟩ = some (.int .i64 t276)) (ds:=[]) #[false,false,false,false] (by kernel_rfl) rfl rfl ⟨(blk_cell BK277.out 0).trans rfl,(blk_cell BK277.out 1).trans rfl⟩ (fun hHeld => ?_)
               generalize w37.drew = w38 at HO_4 BK267 BK277 HB hHeld ⊢
               refine pure_ (i:=2) (N:=some 2) (v:=?_) (a':=?_) #[false,false,true,false] rfl rfl (by kernel_rfl) (fun _ _ _ h => h) (Or.inl ⟨by rfl,?_⟩) ?_ ?_
               rotate_left
               ·intro w'
                go_simp
                with_reducible rfl
               rotate_left
               ·simp only [Act.put,List.setIfInBounds_toArray,List.set_cons_zero,List.set_cons_succ,i64_w,i32_w]
                rfl
               refine take_ (i:=0) (N:=some 82) (v:=?_) (a':=?_) #[true,false,true,false] rfl rfl (by kernel_rfl) (fun _ _ _ h => h) (Or.inl ⟨by rfl,?_⟩) hHeld ?_ ?_
               rotate_left
               ·rintro w' ⟨s0,s1⟩
                go_simp
                with_reducible rfl
               rotate_left
               ·simp only [Act.put,List.setIfInBounds_toArray,List.set_cons_zero,List.set_cons_succ,i64_w,i32_w]
                rfl
               refine pure_ (i:=1) (N:=some 83) (v:=?_) (a':=?_) #[true,true,true,false] rfl rfl (by kernel_rfl) (fun _ _ _ h => h) (Or.inl ⟨by rfl,?_⟩) ?_ ?_
               rotate_left
               ·intro w'
                go_simp
                with_reducible rfl
               rotate_left
               ·simp only [Act.put,List.setIfInBounds_toArray,List.set_cons_zero,List.set_cons_succ,i64_w,i32_w]
                rfl
               refine one_ (i:=3) (N:=none) #[true,true,true,true] rfl rfl (by kernel_rfl) (by decide) (fun K hK => ?_)
               have hs39 : w38.cell? ⟨gb267,0,none⟩ = some (.int .i64 x268000_1):=(blk_cell BK267.out 0).trans rfl
               have hfs39:=blk_frozen BK267.out 0
               have hns39_1:=NB277_267.out
               have hms39_1:=NB267_277.out
               have hs40 : w38.cell? ⟨gb267,1,none⟩ = some (.int .i64 x268001_1):=(blk_cell BK267.out 1).trans rfl
               have hfs40:=blk_frozen BK267.out 1
               have hns40_1:=NB277_267.out
               have hms40_1:=NB267_277.out
               have hs41 : w38.cell? ⟨gb267,2,none⟩ = some (.int .i64 x268002_1):=(blk_cell BK267.out 2).trans rfl
               have hfs41:=blk_frozen BK267.out 2
               have hns41_1:=NB277_267.out
               have hms41_1:=NB267_277.out
               refine skip_ (w1:=?_) (by rfl) rfl ?_ ?_
               rotate_left
               ·go_simp
                rfl
               refine hK.out _ _ ⟨((cell_far (p:=⟨gb267,_,none⟩) NB277_267.out _).trans (((cell_far (p:=⟨gb267,_,none⟩) NB277_267.out _).trans (((cell_far (p:=⟨gb267,_,none⟩) NB277_267.out _).trans (hHeld.1)))))),((cell_far (p:=⟨gb267,_,none⟩) NB277_267.out _).trans (((cell_far (p:=⟨gb267,_,none⟩) NB277_267.out _).trans (((cell_far (p:=⟨gb267,_,none⟩) NB277_267.out _).trans (hHeld.2))))))⟩ (fun hHeld => ?_)
               clear hK K
               refine done_ (by kernel_rfl) ?_
               try go_wp2
               refine bodyPost_ret (results_tc rfl _ _ gb267 39 #[.int .i64 3,.int .i64 t275,.int .i64 t276] (0,0) _ rfl (by (with_reducible repeat (first | refine blk_drewN ?_ _ | refine blk_drew ?_ | refine blk_alloc ?_ _));refine blk_put (cs:=#[.int .i64 3,.int .i64 t275,.int .i64 x268002_1]) ?_ 2 _ rfl;(with_reducible repeat (first | refine blk_drewN ?_ _ | refine blk_drew ?_ | refine blk_alloc ?_ _));refine blk_put (cs:=#[.int .i64 3,.int .i64 x268001_1,.int .i64 x268002_1]) ?_ 1 _ rfl;(with_reducible repeat (first | refine blk_drewN ?_ _ | refine blk_drew ?_ | refine blk_alloc ?_ _));refine blk_put (cs:=#[.int .i64 x268000_1,.int .i64 x268001_1,.int .i64 x268002_1]) ?_ 0 _ rfl;(with_reducible repeat (first | refine blk_drewN ?_ _ | refine blk_drew ?_ | refine blk_alloc ?_ _));exact BK267.out) Tryd.underlying39 rfl (by kernel_rfl)) rfl ?_
               exact ⟨_,by first | rfl | (simp [errW_none,errW_some] <;> rfl) | (simp [*,errW_none,errW_some] <;> rfl),by first | exact Kd.R_nil _ _ _ _ _ | exact Kd.N_nil _ _ _ _ _ | exact Kd.V_nil _ _ _ _ _ | exact Kd.Q_nil _ _ _ _ _ | exact Kd.S_nil _ _ _ _ _,by repeat (first | (with_reducible first | exact HB.out | apply below_alloc | apply pw_below_drewN | apply below_drew1 | refine below_set ?_ GE267.out | refine below_set ?_ GE277.out) | exact HB.out)⟩
              ·rw [if_neg c36] at H
               have c36b0 : decide (24 < t283) = false:=decide_eq_false c36
               clear c36
               have c42b0:=eq_true (of_decide_eq_true (by first | (with_reducible assumption) | assumption) : 0 ≤ x5_1)
               by_cases c43 : x5_1 ≤ (wrap64 (x5_1 + t282))
               ·rw [if_pos c43] at H
                have c43b0:=eq_true c43
                have c43b1 : decide (x5_1 ≤ (wrap64 (x5_1 + t282))) = true:=decide_eq_true c43
                by_cases c44 : (wrap64 (x5_1 + t282)) ≤ (a0.size : Int)
                ·rw [if_pos c44] at H
                 have c44b0:=eq_true c44
                 have c44b1 : decide ((wrap64 (x5_1 + t282)) ≤ (a0.size : Int)) = true:=decide_eq_true c44
                 by_cases c45 : x4_1.length < 3518437208883
                 ·rw [if_pos c45] at H
                  have LMc45:=Aside0.mk c45
                  clear c45
                  obtain ⟨y284,hy284⟩ : ∃ y_ : List (S48),y_ = (x4_1 ++ [(⟨1,a0.extract (x5_1 : Int).toNat ((wrap64 (x5_1 + t282)) : Int).toNat,(⟨t275,t276⟩ : S37)⟩ : S48)]):=⟨_,rfl⟩
                  replace H : (joustref01_Tokens.l0 kj10 a0 y284 (wrap64 (x5_1 + t282))) = some (r1,r2,r3,r4):=by first | (rw [hy284];with_reducible exact H) | (have H2_:=(Option.bind_some _ _).symm.trans H;rw [hy284];with_reducible exact H2_) | (have H2_:=(Option.bind_some _ _).symm.trans H;with_reducible exact H2_) | with_reducible exact H | (rw [hy284];exact H) | exact H
                  have Ny284:=Aside0.mk hy284
                  clear hy284
                  have H':=Aside0.mk H
                  clear H
                  try go_wp2_with (first | ((with_reducible refine gate_callee (f:=36) rfl ?_);refine goesL_ (some 75) rfl rfl Tryd.func36 (by kernel_rfl) rfl #[.string (a0.extract (x5_1 : Int).toNat a0.size)] rfl (by (try simp only [List.map_toArray,List.map_cons,List.map_nil]);first | done | rfl | (simp only [List.length_drop,List.length_take];rfl)) ?_;(with_reducible refine (joustref01_word.calls kj10 (a0.extract (x5_1 : Int).toNat a0.size) t282 t283 _ ?side1 A34.out).mono ?_);(case side1 => exact Tabs.below HG.out (by repeat (first | (with_reducible first | exact HB.out | apply below_alloc | apply pw_below_drewN | apply below_drew1 | refine below_set ?_ GE267.out | refine below_set ?_ GE277.out) | exact HB.out)));rintro e w46 ⟨rfl,hb⟩;refine ⟨_,rfl,?_⟩;have n0_:=Aside0.mk (Kd.R_below (by (with_reducible repeat (first | apply Kd.R_alloc | apply Kd.R_drewN | apply Kd.R_drew));exact HO_4.out) hb);have n1_:=Aside0.mk (blk_below (g:=gb267) (o:=.cells #[.int .i64 x268000_1,.int .i64 x268001_1,.int .i64 x268002_1] 39 (0,0)) (by (with_reducible repeat (first | refine blk_drewN ?_ _ | refine blk_drew ?_ | refine blk_alloc ?_ _));exact BK267.out) hb);have n2_:=Aside0.mk (blk_below (g:=gb277) (o:=.cells #[.int .i64 t275,.int .i64 t276] 37 (0,0)) (by (with_reducible repeat (first | refine blk_drewN ?_ _ | refine blk_drew ?_ | refine blk_alloc ?_ _));exact BK277.out) hb);have n3_:=Aside0.mk (below_step (by repeat (first | (with_reducible first | exact HB.out | apply below_alloc | apply pw_below_drewN | apply below_drew1 | refine below_set ?_ GE267.out | refine below_set ?_ GE277.out) | exact HB.out)) hb);clear HO_4;clear BK267;clear BK277;clear HB;have HO_4:=n0_;have BK267:=n1_;have BK277:=n2_;have HB:=n3_;clear n0_ n1_ n2_ n3_;(try clear hb);(try clear hb2);(try clear hk);(try clear hi)))
                  have n0_:=Aside0.mk (Kd.R_drew HO_4.out)
                  have n1_:=Aside0.mk (blk_drew BK267.out)
                  have n2_:=Aside0.mk (blk_drew BK277.out)
                  have n3_:=Aside0.mk (below_drew1 HB.out)
                  clear HO_4
                  clear BK267
                  clear BK277
                  clear HB
                  have HO_4:=n0_
                  have BK267:=n1_
                  have BK277:=n2_
                  have HB:=n3_
                  clear n0_ n1_ n2_ n3_
                  refine start_ (n:=13) (S:=fun w' => w'.cell? ⟨gb277,0,none⟩ = some (.int .i64 t275) ∧ w'.cell? ⟨gb277,1,none⟩ = some (.int .i64 t276)) (ds:=[]) #[false,false,false,false,false,false,false,false,false,false,false,false,false] (by kernel_rfl) rfl rfl ⟨(blk_cell BK277.out 0).trans rfl,(blk_cell BK277.out 1).trans rfl⟩ (fun hHeld => ?_);refine with_tabW joustref01_Tokens.tab30 joustref01_Tokens.bits30 (fun HT_ HW_ => ?_)
                  generalize w46.drew = w47 at HO_4 BK267 BK277 HB hHeld ⊢
                  refine pure_ (i:=0) (N:=some 130) (v:=?_) (a':=?_) #[true,false,false,false,false,false,false,false,false,false,false,false,false] rfl rfl (any_of HT_.out (by kernel_rfl)) (fun _ _ _ h => h) (Or.inl ⟨by rfl,?_⟩) ?_ ?_
                  rotate_left
                  ·intro w'
                   go_simp
                   with_reducible rfl
                  rotate_left
                  ·simp only [Act.put,List.setIfInBounds_toArray,List.set_cons_zero,List.set_cons_succ,i64_w,i32_w]
                   rfl
                  refine pure_ (i:=1) (N:=some 131) (v:=?_) (a':=?_) #[true,true,false,false,false,false,false,false,false,false,false,false,false] rfl rfl (any_of HT_.out (by kernel_rfl)) (fun _ _ _ h => h) (Or.inl ⟨by rfl,?_⟩) ?_ ?_
                  rotate_left
                  ·intro w'
                   go_simp
                   with_reducible rfl
                  rotate_left
                  ·simp only [Act.put,List.setIfInBounds_toArray,List.set_cons_zero,List.set_cons_succ,i64_w,i32_w]
                   rfl
                  refine pure_ (i:=2) (N:=some 132) (v:=?_) (a':=?_) #[true,true,true,false,false,false,false,false,false,false,false,false,false] rfl rfl (any_of HT_.out (by kernel_rfl)) (fun _ _ _ h => h) (Or.inl ⟨by rfl,?_⟩) ?_ ?_
                  rotate_left
                  ·intro w'
                   go_simp
                   with_reducible rfl
                  rotate_left
                  ·simp only [Act.put,List.setIfInBounds_toArray,List.set_cons_zero,List.set_cons_succ,i64_w,i32_w]
                   rfl
                  refine pure_ (i:=3) (N:=some 133) (v:=?_) (a':=?_) #[true,true,true,true,false,false,false,false,false,false,false,false,false] rfl rfl (any_of HT_.out (by kernel_rfl)) (fun _ _ _ h => h) (Or.inl ⟨by rfl,?_⟩) ?_ ?_
                  rotate_left
                  ·intro w'
                   go_simp
                   with_reducible rfl
                  rotate_left
                  ·simp only [Act.put,List.setIfInBounds_toArray,List.set_cons_zero,List.set_cons_succ,i64_w,i32_w]
                   rfl
                  refine pure_ (i:=4) (N:=some 134) (v:=?_) (a':=?_) #[true,true,true,true,true,false,false,false,false,false,false,false,false] rfl rfl (any_of HT_.out (by kernel_rfl)) (fun _ _ _ h => h) (Or.inl ⟨by rfl,?_⟩) ?_ ?_
                  rotate_left
                  ·intro w'
                   go_simp
                   with_reducible rfl
                  rotate_left
                  ·simp only [Act.put,List.setIfInBounds_toArray,List.set_cons_zero,List.set_cons_succ,i64_w,i32_w]
                   rfl
                  refine pure_ (i:=5) (N:=some 135) (v:=?_) (a':=?_) #[true,true,true,true,true,true,false,false,false,false,false,false,false] rfl rfl (any_of HT_.out (by kernel_rfl)) (fun _ _ _ h => h) (Or.inl ⟨by rfl,?_⟩) ?_ ?_
                  rotate_left
                  ·intro w'
                   go_simp
                   with_reducible rfl
                  rotate_left
                  ·simp only [Act.put,List.setIfInBounds_toArray,List.set_cons_zero,List.set_cons_succ,i64_w,i32_w]
                   rfl
                  refine pure_ (i:=6) (N:=some 136) (v:=?_) (a':=?_) #[true,true,true,true,true,true,true,false,false,false,false,false,false] rfl rfl (any_of HT_.out (by kernel_rfl)) (fun _ _ _ h => h) (Or.inl ⟨by rfl,?_⟩) ?_ ?_
                  rotate_left
                  ·intro w'
                   go_simp
                   with_reducible rfl
                  rotate_left
                  ·simp only [Act.put,List.setIfInBounds_toArray,List.set_cons_zero,List.set_cons_succ,i64_w,i32_w]
                   rfl
                  refine pure_ (i:=7) (N:=some 137) (v:=?_) (a':=?_) #[true,true,true,true,true,true,true,true,false,false,false,false,false] rfl rfl (any_of HT_.out (by kernel_rfl)) (fun _ _ _ h => h) (Or.inl ⟨by rfl,?_⟩) ?_ ?_
                  rotate_left
                  ·intro w'
                   go_simp
                   with_reducible rfl
                  rotate_left
                  ·simp only [Act.put,List.setIfInBounds_toArray,List.set_cons_zero,List.set_cons_succ,i64_w,i32_w]
                   rfl
                  refine take_ (i:=8) (N:=some 138) (v:=?_) (a':=?_) #[true,true,true,true,true,true,true,true,true,false,false,false,false] rfl rfl (take_ofW HT_.out HW_.out (by kernel_rfl)) (fun _ _ _ h => h) (Or.inl ⟨by rfl,?_⟩) hHeld ?_ ?_
                  rotate_left
                  ·rintro w' ⟨s0,s1⟩
                   go_simp
                   with_reducible rfl
                  rotate_left
                  ·simp only [Act.put,List.setIfInBounds_toArray,List.set_cons_zero,List.set_cons_succ,i64_w,i32_w]
                   rfl
                  refine pure_ (i:=9) (N:=some 139) (v:=?_) (a':=?_) #[true,true,true,true,true,true,true,true,true,true,false,false,false] rfl rfl (any_of HT_.out (by kernel_rfl)) (fun _ _ _ h => h) (Or.inl ⟨by rfl,?_⟩) ?_ ?_
                  rotate_left
                  ·intro w'
                   go_simp
                   with_reducible rfl
                  rotate_left
                  ·simp only [Act.put,List.setIfInBounds_toArray,List.set_cons_zero,List.set_cons_succ,i64_w,i32_w]
                   rfl
                  refine one_ (i:=10) (N:=some 140) #[true,true,true,true,true,true,true,true,true,true,true,false,false] rfl rfl (one_of HT_.out (by kernel_rfl)) (by decide) (fun K hK => ?_)
                  refine value_ (w1:=?_) (v:=?_) (by rfl) rfl ?_ ?_
                  rotate_left 2
                  ·go_simp
                   constructor
                   ·rfl
                   ·rfl
                  refine hK.out _ _ ⟨(blk_cell (blk_alloc BK277.out _) 0).trans rfl,(blk_cell (blk_alloc BK277.out _) 1).trans rfl⟩ (fun hHeld => ?_)
                  clear hK K
                  refine norm_ (a':=?_) ?_ ?_
                  rotate_left
                  ·show Act.put _ (some 140) _ = _
                   simp only [Act.put,List.setIfInBounds_toArray,List.set_cons_zero,List.set_cons_succ,i64_w,i32_w]
                   rfl
                  refine one_ (i:=11) (N:=some 141) #[true,true,true,true,true,true,true,true,true,true,true,true,false] rfl rfl (one_of HT_.out (by kernel_rfl)) (by decide) (fun K hK => ?_)
                  refine Kd.R_append_step k48 (w0:=w) w.heap.size (by rfl) (.tmp 130) (.tmp 140) 35 48 (.agg #[(.int .u8 0),(.string ⟨#[]⟩),(.int .i64 0),(.int .i64 0)]) 40 rfl Tryd.underlying35 info48 rfl (by decide) (by omega) u4 x4_1 (⟨1,a0.extract (x5_1 : Int).toNat ((wrap64 (x5_1 + t282)) : Int).toNat,(⟨t275,t276⟩ : S37)⟩ : S48) [.int .u8 1,.string (a0.extract (x5_1 : Int).toNat ((wrap64 (x5_1 + t282)) : Int).toNat),.int .i64 t275,.int .i64 t276] (fun _ => True) (fun _ => False) rfl rfl ?aP (fun _ hk => hk.elim) ?aF ?aO ?aB ?aS ?aL ?_
                  (case aP => exact k48_mkM _ _ _ (⟨1,a0.extract (x5_1 : Int).toNat ((wrap64 (x5_1 + t282)) : Int).toNat,(⟨t275,t276⟩ : S37)⟩ : S48))
                  (case aB => exact (by repeat (first | (with_reducible first | exact HB.out | apply below_alloc | apply pw_below_drewN | apply below_drew1 | refine below_set ?_ GE267.out | refine below_set ?_ GE277.out) | exact HB.out)))
                  (case aF => exact (fun _ _ => trivial))
                  (case aO => exact (by (with_reducible repeat (first | apply Kd.R_alloc | apply Kd.R_drewN | apply Kd.R_drew));exact HO_4.out))
                  (case aS => exact (below_size (by repeat (first | (with_reducible first | exact HB.out | apply below_alloc | apply pw_below_drewN | apply below_drew1 | refine below_set ?_ GE267.out | refine below_set ?_ GE277.out) | exact HB.out))))
                  (case aL => have:=LMc45.out;omega)
                  intro v285 w48 ho hb hg hat
                  rw [← Ny284.out] at ho
                  have n0_:=Aside0.mk (blk_grown (g:=gb267) (o:=.cells #[.int .i64 x268000_1,.int .i64 x268001_1,.int .i64 x268002_1] 39 (0,0)) (by (with_reducible repeat (first | refine blk_drewN ?_ _ | refine blk_drew ?_ | refine blk_alloc ?_ _));exact BK267.out) hg (Kd.R_ne HO_4.out BK267.out (by decide)))
                  have n1_:=Aside0.mk (blk_grown (g:=gb277) (o:=.cells #[.int .i64 t275,.int .i64 t276] 37 (0,0)) (by (with_reducible repeat (first | refine blk_drewN ?_ _ | refine blk_drew ?_ | refine blk_alloc ?_ _));exact BK277.out) hg (Kd.R_ne HO_4.out BK277.out (by decide)))
                  have n2_:=Aside0.mk (hb)
                  have n3_:=Aside0.mk (ho)
                  clear BK267
                  clear BK277
                  clear HB
                  clear HO_4
                  have BK267:=n0_
                  have BK277:=n1_
                  have HB:=n2_
                  have HO286:=n3_
                  clear n0_ n1_ n2_ n3_
                  clear ho hb hg hat
                  refine hK.out _ _ ⟨(blk_cell BK277.out 0).trans rfl,(blk_cell BK277.out 1).trans rfl⟩ (fun hHeld => ?_)
                  clear hK K
                  refine norm_ (a':=?_) ?_ ?_
                  rotate_left
                  ·show Act.put _ (some 141) _ = _
                   simp only [Act.put,List.setIfInBounds_toArray,List.set_cons_zero,List.set_cons_succ,i64_w,i32_w]
                   rfl
                  refine pure_ (i:=12) (N:=some 4) (v:=?_) (a':=?_) #[true,true,true,true,true,true,true,true,true,true,true,true,true] rfl rfl (any_of HT_.out (by kernel_rfl)) (fun _ _ _ h => h) (Or.inl ⟨by rfl,?_⟩) ?_ ?_
                  rotate_left
                  ·intro w'
                   go_simp
                   with_reducible rfl
                  rotate_left
                  ·simp only [Act.put,List.setIfInBounds_toArray,List.set_cons_zero,List.set_cons_succ,i64_w,i32_w]
                   rfl
                  refine done_ (done_of HT_.out (by kernel_rfl)) ?_
                  try go_wp2
                  go_roundg kj10
                  case measure => have:=HK1.out;have:=HJ10.out;omega
                  case rel => exact ⟨(y284),(wrap64 (x5_1 + t282)),(x268000_1),(x268001_1),(x268002_1),(by first | rfl | (simp;done) | (simp [*];done)),H',⟨by have:=HK1.out;have:=HJ10.out;omega⟩,⟨by (with_reducible repeat (first | apply Kd.R_alloc | apply Kd.R_drewN | apply Kd.R_drew));exact HO286.out⟩,⟨by (with_reducible repeat (first | refine blk_drewN ?_ _ | refine blk_drew ?_ | refine blk_alloc ?_ _));exact BK267.out⟩,⟨by repeat (first | (with_reducible first | exact HB.out | apply below_alloc | apply pw_below_drewN | apply below_drew1 | refine below_set ?_ GE267.out | refine below_set ?_ GE277.out) | exact HB.out)⟩⟩
                 ·rw [if_neg c45] at H
                  exact absurd H (by simp)
                ·rw [if_neg c44] at H
                 exact absurd H (by simp)
               ·rw [if_neg c43] at H
                exact absurd H (by simp)
             ·rw [if_neg c35] at H
              have c35b0 : decide (0 < t282) = false:=decide_eq_false c35
              clear c35
              replace H:=Option.bind_eq_some_iff.mp H
              obtain ⟨t287,A490,H⟩:=H
              replace H : (if t287 = true then ((joustref01_number.f kj10 (a0.extract (x5_1 : Int).toNat a0.size)).bind fun t288 => (if x5_1 ≤ (wrap64 (x5_1 + t288)) then (if (wrap64 (x5_1 + t288)) ≤ (a0.size : Int) then ((joustref01_great.f kj10 (a0.extract (x5_1 : Int).toNat ((wrap64 (x5_1 + t288)) : Int).toNat)).bind fun t289 => (if t289 = true then (some (([] : List (S48)),3,t275,t276)) else (if 0 ≤ (wrap64 (x5_1 + t288)) then ((utf8_DecodeRuneInString.f (a0.extract ((wrap64 (x5_1 + t288)) : Int).toNat a0.size)).bind fun bt290 => (if t288 > 1 then (if t273 = 48 then (some (([] : List (S48)),5,t275,t276)) else ((unicode_IsLetter.f bt290.1).bind fun t292 => (if t292 = true then (if bt290.2 > 0 then (some (([] : List (S48)),5,t275,t276)) else (if x4_1.length < 3518437208883 then (joustref01_Tokens.l0 kj10 a0 (x4_1 ++ [(⟨2,a0.extract (x5_1 : Int).toNat ((wrap64 (x5_1 + t288)) : Int).toNat,(⟨t275,t276⟩ : S37)⟩ : S48)]) (wrap64 (x5_1 + t288))) else (none))) else (if x4_1.length < 3518437208883 then (joustref01_Tokens.l0 kj10 a0 (x4_1 ++ [(⟨2,a0.extract (x5_1 : Int).toNat ((wrap64 (x5_1 + t288)) : Int).toNat,(⟨t275,t276⟩ : S37)⟩ : S48)]) (wrap64 (x5_1 + t288))) else (none))))) else ((unicode_IsLetter.f bt290.1).bind fun t299 => (if t299 = true then (if bt290.2 > 0 then (some (([] : List (S48)),5,t275,t276)) else (if x4_1.length < 3518437208883 then (joustref01_Tokens.l0 kj10 a0 (x4_1 ++ [(⟨2,a0.extract (x5_1 : Int).toNat ((wrap64 (x5_1 + t288)) : Int).toNat,(⟨t275,t276⟩ : S37)⟩ : S48)]) (wrap64 (x5_1 + t288))) else (none))) else (if x4_1.length < 3518437208883 then (joustref01_Tokens.l0 kj10 a0 (x4_1 ++ [(⟨2,a0.extract (x5_1 : Int).toNat ((wrap64 (x5_1 + t288)) : Int).toNat,(⟨t275,t276⟩ : S37)⟩ : S48)]) (wrap64 (x5_1 + t288))) else (none)))))) else (none)))) else (none)) else (none))) else ((joustref01_mark.f kj10 t273).bind fun t306 => (if t306 = true then (if x5_1 ≤ (wrap64 (x5_1 + t274)) then (if (wrap64 (x5_1 + t274)) ≤ (a0.size : Int) then (if x4_1.length < 3518437208883 then (joustref01_Tokens.l0 kj10 a0 (x4_1 ++ [(⟨3,a0.extract (x5_1 : Int).toNat ((wrap64 (x5_1 + t274)) : Int).toNat,(⟨t275,t276⟩ : S37)⟩ : S48)]) (wrap64 (x5_1 + t274))) else (none)) else (none)) else (none)) else (some (([] : List (S48)),4,t275,t276))))) = some (r1,r2,r3,r4):=H
              have A49:=Aside0.mk A490
              clear A490
              by_cases c50 : t287 = true
              ·subst c50
               have H1 : ((joustref01_number.f kj10 (a0.extract (x5_1 : Int).toNat a0.size)).bind fun t288 => (if x5_1 ≤ (wrap64 (x5_1 + t288)) then (if (wrap64 (x5_1 + t288)) ≤ (a0.size : Int) then ((joustref01_great.f kj10 (a0.extract (x5_1 : Int).toNat ((wrap64 (x5_1 + t288)) : Int).toNat)).bind fun t289 => (if t289 = true then (some (([] : List (S48)),3,t275,t276)) else (if 0 ≤ (wrap64 (x5_1 + t288)) then ((utf8_DecodeRuneInString.f (a0.extract ((wrap64 (x5_1 + t288)) : Int).toNat a0.size)).bind fun bt290 => (if t288 > 1 then (if t273 = 48 then (some (([] : List (S48)),5,t275,t276)) else ((unicode_IsLetter.f bt290.1).bind fun t292 => (if t292 = true then (if bt290.2 > 0 then (some (([] : List (S48)),5,t275,t276)) else (if x4_1.length < 3518437208883 then (joustref01_Tokens.l0 kj10 a0 (x4_1 ++ [(⟨2,a0.extract (x5_1 : Int).toNat ((wrap64 (x5_1 + t288)) : Int).toNat,(⟨t275,t276⟩ : S37)⟩ : S48)]) (wrap64 (x5_1 + t288))) else (none))) else (if x4_1.length < 3518437208883 then (joustref01_Tokens.l0 kj10 a0 (x4_1 ++ [(⟨2,a0.extract (x5_1 : Int).toNat ((wrap64 (x5_1 + t288)) : Int).toNat,(⟨t275,t276⟩ : S37)⟩ : S48)]) (wrap64 (x5_1 + t288))) else (none))))) else ((unicode_IsLetter.f bt290.1).bind fun t299 => (if t299 = true then (if bt290.2 > 0 then (some (([] : List (S48)),5,t275,t276)) else (if x4_1.length < 3518437208883 then (joustref01_Tokens.l0 kj10 a0 (x4_1 ++ [(⟨2,a0.extract (x5_1 : Int).toNat ((wrap64 (x5_1 + t288)) : Int).toNat,(⟨t275,t276⟩ : S37)⟩ : S48)]) (wrap64 (x5_1 + t288))) else (none))) else (if x4_1.length < 3518437208883 then (joustref01_Tokens.l0 kj10 a0 (x4_1 ++ [(⟨2,a0.extract (x5_1 : Int).toNat ((wrap64 (x5_1 + t288)) : Int).toNat,(⟨t275,t276⟩ : S37)⟩ : S48)]) (wrap64 (x5_1 + t288))) else (none)))))) else (none)))) else (none)) else (none))) = some (r1,r2,r3,r4):=by rw [if_pos rfl] at H;exact H
               clear H
               have H:=H1
               clear H1
               have c51b0:=eq_true (of_decide_eq_true (by first | (with_reducible assumption) | assumption) : 0 ≤ x5_1)
               have c52b0:=eq_true (of_decide_eq_true (by first | (with_reducible assumption) | assumption) : x5_1 ≤ (a0.size : Int))
               replace H:=Option.bind_eq_some_iff.mp H
               obtain ⟨t288,A530,H⟩:=H
               replace H : (if x5_1 ≤ (wrap64 (x5_1 + t288)) then (if (wrap64 (x5_1 + t288)) ≤ (a0.size : Int) then ((joustref01_great.f kj10 (a0.extract (x5_1 : Int).toNat ((wrap64 (x5_1 + t288)) : Int).toNat)).bind fun t289 => (if t289 = true then (some (([] : List (S48)),3,t275,t276)) else (if 0 ≤ (wrap64 (x5_1 + t288)) then ((utf8_DecodeRuneInString.f (a0.extract ((wrap64 (x5_1 + t288)) : Int).toNat a0.size)).bind fun bt290 => (if t288 > 1 then (if t273 = 48 then (some (([] : List (S48)),5,t275,t276)) else ((unicode_IsLetter.f bt290.1).bind fun t292 => (if t292 = true then (if bt290.2 > 0 then (some (([] : List (S48)),5,t275,t276)) else (if x4_1.length < 3518437208883 then (joustref01_Tokens.l0 kj10 a0 (x4_1 ++ [(⟨2,a0.extract (x5_1 : Int).toNat ((wrap64 (x5_1 + t288)) : Int).toNat,(⟨t275,t276⟩ : S37)⟩ : S48)]) (wrap64 (x5_1 + t288))) else (none))) else (if x4_1.length < 3518437208883 then (joustref01_Tokens.l0 kj10 a0 (x4_1 ++ [(⟨2,a0.extract (x5_1 : Int).toNat ((wrap64 (x5_1 + t288)) : Int).toNat,(⟨t275,t276⟩ : S37)⟩ : S48)]) (wrap64 (x5_1 + t288))) else (none))))) else ((unicode_IsLetter.f bt290.1).bind fun t299 => (if t299 = true then (if bt290.2 > 0 then (some (([] : List (S48)),5,t275,t276)) else (if x4_1.length < 3518437208883 then (joustref01_Tokens.l0 kj10 a0 (x4_1 ++ [(⟨2,a0.extract (x5_1 : Int).toNat ((wrap64 (x5_1 + t288)) : Int).toNat,(⟨t275,t276⟩ : S37)⟩ : S48)]) (wrap64 (x5_1 + t288))) else (none))) else (if x4_1.length < 3518437208883 then (joustref01_Tokens.l0 kj10 a0 (x4_1 ++ [(⟨2,a0.extract (x5_1 : Int).toNat ((wrap64 (x5_1 + t288)) : Int).toNat,(⟨t275,t276⟩ : S37)⟩ : S48)]) (wrap64 (x5_1 + t288))) else (none)))))) else (none)))) else (none)) else (none)) = some (r1,r2,r3,r4):=H
               have A53:=Aside0.mk A530
               clear A530
               have c54b0:=eq_true (of_decide_eq_true (by first | (with_reducible assumption) | assumption) : 0 ≤ x5_1)
               by_cases c55 : x5_1 ≤ (wrap64 (x5_1 + t288))
               ·rw [if_pos c55] at H
                have c55b0:=eq_true c55
                have c55b1 : decide (x5_1 ≤ (wrap64 (x5_1 + t288))) = true:=decide_eq_true c55
                by_cases c56 : (wrap64 (x5_1 + t288)) ≤ (a0.size : Int)
                ·rw [if_pos c56] at H
                 have c56b0:=eq_true c56
                 have c56b1 : decide ((wrap64 (x5_1 + t288)) ≤ (a0.size : Int)) = true:=decide_eq_true c56
                 replace H:=Option.bind_eq_some_iff.mp H
                 obtain ⟨t289,A570,H⟩:=H
                 replace H : (if t289 = true then (some (([] : List (S48)),3,t275,t276)) else (if 0 ≤ (wrap64 (x5_1 + t288)) then ((utf8_DecodeRuneInString.f (a0.extract ((wrap64 (x5_1 + t288)) : Int).toNat a0.size)).bind fun bt290 => (if t288 > 1 then (if t273 = 48 then (some (([] : List (S48)),5,t275,t276)) else ((unicode_IsLetter.f bt290.1).bind fun t292 => (if t292 = true then (if bt290.2 > 0 then (some (([] : List (S48)),5,t275,t276)) else (if x4_1.length < 3518437208883 then (joustref01_Tokens.l0 kj10 a0 (x4_1 ++ [(⟨2,a0.extract (x5_1 : Int).toNat ((wrap64 (x5_1 + t288)) : Int).toNat,(⟨t275,t276⟩ : S37)⟩ : S48)]) (wrap64 (x5_1 + t288))) else (none))) else (if x4_1.length < 3518437208883 then (joustref01_Tokens.l0 kj10 a0 (x4_1 ++ [(⟨2,a0.extract (x5_1 : Int).toNat ((wrap64 (x5_1 + t288)) : Int).toNat,(⟨t275,t276⟩ : S37)⟩ : S48)]) (wrap64 (x5_1 + t288))) else (none))))) else ((unicode_IsLetter.f bt290.1).bind fun t299 => (if t299 = true then (if bt290.2 > 0 then (some (([] : List (S48)),5,t275,t276)) else (if x4_1.length < 3518437208883 then (joustref01_Tokens.l0 kj10 a0 (x4_1 ++ [(⟨2,a0.extract (x5_1 : Int).toNat ((wrap64 (x5_1 + t288)) : Int).toNat,(⟨t275,t276⟩ : S37)⟩ : S48)]) (wrap64 (x5_1 + t288))) else (none))) else (if x4_1.length < 3518437208883 then (joustref01_Tokens.l0 kj10 a0 (x4_1 ++ [(⟨2,a0.extract (x5_1 : Int).toNat ((wrap64 (x5_1 + t288)) : Int).toNat,(⟨t275,t276⟩ : S37)⟩ : S48)]) (wrap64 (x5_1 + t288))) else (none)))))) else (none))) = some (r1,r2,r3,r4):=H
                 have A57:=Aside0.mk A570
                 clear A570
                 by_cases c58 : t289 = true
                 ·subst c58
                  have H1 : (some (([] : List (S48)),3,t275,t276)) = some (r1,r2,r3,r4):=by rw [if_pos rfl] at H;exact H
                  clear H
                  have H:=H1
                  clear H1
                  simp only [Option.some.injEq,Prod.mk.injEq] at H
                  obtain ⟨rfl,rfl,rfl,rfl⟩:=H
                  try go_wp2_with (first | ((with_reducible refine gate_callee (f:=36) rfl ?_);refine goesL_ (some 75) rfl rfl Tryd.func36 (by kernel_rfl) rfl #[.string (a0.extract (x5_1 : Int).toNat a0.size)] rfl (by (try simp only [List.map_toArray,List.map_cons,List.map_nil]);first | done | rfl | (simp only [List.length_drop,List.length_take];rfl)) ?_;(with_reducible refine (joustref01_word.calls kj10 (a0.extract (x5_1 : Int).toNat a0.size) t282 t283 _ ?side1 A34.out).mono ?_);(case side1 => exact Tabs.below HG.out (by repeat (first | (with_reducible first | exact HB.out | apply below_alloc | apply pw_below_drewN | apply below_drew1 | refine below_set ?_ GE267.out | refine below_set ?_ GE277.out) | exact HB.out)));rintro e w59 ⟨rfl,hb⟩;refine ⟨_,rfl,?_⟩;have n0_:=Aside0.mk (Kd.R_below (by (with_reducible repeat (first | apply Kd.R_alloc | apply Kd.R_drewN | apply Kd.R_drew));exact HO_4.out) hb);have n1_:=Aside0.mk (blk_below (g:=gb267) (o:=.cells #[.int .i64 x268000_1,.int .i64 x268001_1,.int .i64 x268002_1] 39 (0,0)) (by (with_reducible repeat (first | refine blk_drewN ?_ _ | refine blk_drew ?_ | refine blk_alloc ?_ _));exact BK267.out) hb);have n2_:=Aside0.mk (blk_below (g:=gb277) (o:=.cells #[.int .i64 t275,.int .i64 t276] 37 (0,0)) (by (with_reducible repeat (first | refine blk_drewN ?_ _ | refine blk_drew ?_ | refine blk_alloc ?_ _));exact BK277.out) hb);have n3_:=Aside0.mk (below_step (by repeat (first | (with_reducible first | exact HB.out | apply below_alloc | apply pw_below_drewN | apply below_drew1 | refine below_set ?_ GE267.out | refine below_set ?_ GE277.out) | exact HB.out)) hb);clear HO_4;clear BK267;clear BK277;clear HB;have HO_4:=n0_;have BK267:=n1_;have BK277:=n2_;have HB:=n3_;clear n0_ n1_ n2_ n3_;(try clear hb);(try clear hb2);(try clear hk);(try clear hi)) | ((with_reducible refine gate_callee (f:=37) rfl ?_);refine goesL_ (some 86) rfl rfl Tryd.func37 (by kernel_rfl) rfl #[.int .i32 t273] rfl (by (try simp only [List.map_toArray,List.map_cons,List.map_nil]);first | done | rfl | (simp only [List.length_drop,List.length_take];rfl)) ?_;(with_reducible refine (joustref01_digit.calls t273 true _ A49.out).mono ?_);rintro e w' ⟨rfl,⟨nd,rfl⟩⟩;refine ⟨_,rfl,?_⟩;(try (rw [drewN_self w59];generalize hq_ : World.drewN w59 _ = w59;have n0_ : Aside0 (Kd.R k48 48 w59 w.heap.size (fun _ => True) u4 x4_1):=⟨by rw [← hq_];exact (by (with_reducible repeat (first | apply Kd.R_alloc | apply Kd.R_drewN | apply Kd.R_drew));exact HO_4.out)⟩;have n1_ : Aside0 (w59.heap[gb267]? = some (.cells #[.int .i64 x268000_1,.int .i64 x268001_1,.int .i64 x268002_1] 39 (0,0))):=⟨by rw [← hq_];exact (by (with_reducible repeat (first | refine blk_drewN ?_ _ | refine blk_drew ?_ | refine blk_alloc ?_ _));exact BK267.out)⟩;have n2_ : Aside0 (w59.heap[gb277]? = some (.cells #[.int .i64 t275,.int .i64 t276] 37 (0,0))):=⟨by rw [← hq_];exact (by (with_reducible repeat (first | refine blk_drewN ?_ _ | refine blk_drew ?_ | refine blk_alloc ?_ _));exact BK277.out)⟩;have n3_ : Aside0 (Below w.heap.size w w59):=⟨by rw [← hq_];exact (by repeat (first | (with_reducible first | exact HB.out | apply below_alloc | apply pw_below_drewN | apply below_drew1 | refine below_set ?_ GE267.out | refine below_set ?_ GE277.out) | exact HB.out))⟩;clear HO_4 BK267 BK277 HB hq_;have HO_4:=n0_;have BK267:=n1_;have BK277:=n2_;have HB:=n3_;clear n0_ n1_ n2_ n3_))) | ((with_reducible refine gate_callee (f:=38) rfl ?_);refine goesL_ (some 90) rfl rfl Tryd.func38 (by kernel_rfl) rfl #[.string (a0.extract (x5_1 : Int).toNat a0.size)] rfl (by (try simp only [List.map_toArray,List.map_cons,List.map_nil]);first | done | rfl | (simp only [List.length_drop,List.length_take];rfl)) ?_;(with_reducible refine (joustref01_number.calls kj10 (a0.extract (x5_1 : Int).toNat a0.size) t288 _ A53.out).mono ?_);rintro e w' ⟨rfl,⟨nd,rfl⟩⟩;refine ⟨_,rfl,?_⟩;(try (rw [drewN_self w59];generalize hq_ : World.drewN w59 _ = w59;have n0_ : Aside0 (Kd.R k48 48 w59 w.heap.size (fun _ => True) u4 x4_1):=⟨by rw [← hq_];exact (by (with_reducible repeat (first | apply Kd.R_alloc | apply Kd.R_drewN | apply Kd.R_drew));exact HO_4.out)⟩;have n1_ : Aside0 (w59.heap[gb267]? = some (.cells #[.int .i64 x268000_1,.int .i64 x268001_1,.int .i64 x268002_1] 39 (0,0))):=⟨by rw [← hq_];exact (by (with_reducible repeat (first | refine blk_drewN ?_ _ | refine blk_drew ?_ | refine blk_alloc ?_ _));exact BK267.out)⟩;have n2_ : Aside0 (w59.heap[gb277]? = some (.cells #[.int .i64 t275,.int .i64 t276] 37 (0,0))):=⟨by rw [← hq_];exact (by (with_reducible repeat (first | refine blk_drewN ?_ _ | refine blk_drew ?_ | refine blk_alloc ?_ _));exact BK277.out)⟩;have n3_ : Aside0 (Below w.heap.size w w59):=⟨by rw [← hq_];exact (by repeat (first | (with_reducible first | exact HB.out | apply below_alloc | apply pw_below_drewN | apply below_drew1 | refine below_set ?_ GE267.out | refine below_set ?_ GE277.out) | exact HB.out))⟩;clear HO_4 BK267 BK277 HB hq_;have HO_4:=n0_;have BK267:=n1_;have BK277:=n2_;have HB:=n3_;clear n0_ n1_ n2_ n3_))) | ((with_reducible refine gate_callee (f:=39) rfl ?_);refine goesL_ (some 97) rfl rfl Tryd.func39 (by kernel_rfl) rfl #[.string (a0.extract (x5_1 : Int).toNat ((wrap64 (x5_1 + t288)) : Int).toNat)] rfl (by (try simp only [List.map_toArray,List.map_cons,List.map_nil]);first | done | rfl | (simp only [List.length_drop,List.length_take];rfl)) ?_;(with_reducible refine (joustref01_great.calls kj10 (a0.extract (x5_1 : Int).toNat ((wrap64 (x5_1 + t288)) : Int).toNat) true _ A57.out).mono ?_);rintro e w60 ⟨rfl,hb⟩;refine ⟨_,rfl,?_⟩;have n0_:=Aside0.mk (Kd.R_below (by (with_reducible repeat (first | apply Kd.R_alloc | apply Kd.R_drewN | apply Kd.R_drew));exact HO_4.out) hb);have n1_:=Aside0.mk (blk_below (g:=gb267) (o:=.cells #[.int .i64 x268000_1,.int .i64 x268001_1,.int .i64 x268002_1] 39 (0,0)) (by (with_reducible repeat (first | refine blk_drewN ?_ _ | refine blk_drew ?_ | refine blk_alloc ?_ _));exact BK267.out) hb);have n2_:=Aside0.mk (blk_below (g:=gb277) (o:=.cells #[.int .i64 t275,.int .i64 t276] 37 (0,0)) (by (with_reducible repeat (first | refine blk_drewN ?_ _ | refine blk_drew ?_ | refine blk_alloc ?_ _));exact BK277.out) hb);have n3_:=Aside0.mk (below_step (by repeat (first | (with_reducible first | exact HB.out | apply below_alloc | apply pw_below_drewN | apply below_drew1 | refine below_set ?_ GE267.out | refine below_set ?_ GE277.out) | exact HB.out)) hb);clear HO_4;clear BK267;clear BK277;clear HB;have HO_4:=n0_;have BK267:=n1_;have BK277:=n2_;have HB:=n3_;clear n0_ n1_ n2_ n3_;(try clear hb);(try clear hb2);(try clear hk);(try clear hi)))
                  have n0_:=Aside0.mk (Kd.R_drew HO_4.out)
                  have n1_:=Aside0.mk (blk_drew BK267.out)
                  have n2_:=Aside0.mk (blk_drew BK277.out)
                  have n3_:=Aside0.mk (below_drew1 HB.out)
                  clear HO_4
                  clear BK267
                  clear BK277
                  clear HB
                  have HO_4:=n0_
                  have BK267:=n1_
                  have BK277:=n2_
                  have HB:=n3_
                  clear n0_ n1_ n2_ n3_
                  refine start_ (n:=4) (S:=fun w' => w'.cell? ⟨gb277,0,none⟩ = some (.int .i64 t275) ∧ w'.cell? ⟨gb277,1,none⟩ = some (.int .i64 t276)) (ds:=[]) #[false,false,false,false] (by kernel_rfl) rfl rfl ⟨(blk_cell BK277.out 0).trans rfl,(blk_cell BK277.out 1).trans rfl⟩ (fun hHeld => ?_)
                  generalize w60.drew = w61 at HO_4 BK267 BK277 HB hHeld ⊢
                  refine pure_ (i:=2) (N:=some 2) (v:=?_) (a':=?_) #[false,false,true,false] rfl rfl (by kernel_rfl) (fun _ _ _ h => h) (Or.inl ⟨by rfl,?_⟩) ?_ ?_
                  rotate_left
                  ·intro w'
                   go_simp
                   with_reducible rfl
                  rotate_left
                  ·simp only [Act.put,List.setIfInBounds_toArray,List.set_cons_zero,List.set_cons_succ,i64_w,i32_w]
                   rfl
                  refine take_ (i:=0) (N:=some 98) (v:=?_) (a':=?_) #[true,false,true,false] rfl rfl (by kernel_rfl) (fun _ _ _ h => h) (Or.inl ⟨by rfl,?_⟩) hHeld ?_ ?_
                  rotate_left
                  ·rintro w' ⟨s0,s1⟩
                   go_simp
                   with_reducible rfl
                  rotate_left
                  ·simp only [Act.put,List.setIfInBounds_toArray,List.set_cons_zero,List.set_cons_succ,i64_w,i32_w]
                   rfl
                  refine pure_ (i:=1) (N:=some 99) (v:=?_) (a':=?_) #[true,true,true,false] rfl rfl (by kernel_rfl) (fun _ _ _ h => h) (Or.inl ⟨by rfl,?_⟩) ?_ ?_
                  rotate_left
                  ·intro w'
                   go_simp
                   with_reducible rfl
                  rotate_left
                  ·simp only [Act.put,List.setIfInBounds_toArray,List.set_cons_zero,List.set_cons_succ,i64_w,i32_w]
                   rfl
                  refine one_ (i:=3) (N:=none) #[true,true,true,true] rfl rfl (by kernel_rfl) (by decide) (fun K hK => ?_)
                  have hs62 : w61.cell? ⟨gb267,0,none⟩ = some (.int .i64 x268000_1):=(blk_cell BK267.out 0).trans rfl
                  have hfs62:=blk_frozen BK267.out 0
                  have hns62_1:=NB277_267.out
                  have hms62_1:=NB267_277.out
                  have hs63 : w61.cell? ⟨gb267,1,none⟩ = some (.int .i64 x268001_1):=(blk_cell BK267.out 1).trans rfl
                  have hfs63:=blk_frozen BK267.out 1
                  have hns63_1:=NB277_267.out
                  have hms63_1:=NB267_277.out
                  have hs64 : w61.cell? ⟨gb267,2,none⟩ = some (.int .i64 x268002_1):=(blk_cell BK267.out 2).trans rfl
                  have hfs64:=blk_frozen BK267.out 2
                  have hns64_1:=NB277_267.out
                  have hms64_1:=NB267_277.out
                  refine skip_ (w1:=?_) (by rfl) rfl ?_ ?_
                  rotate_left
                  ·go_simp
                   rfl
                  refine hK.out _ _ ⟨((cell_far (p:=⟨gb267,_,none⟩) NB277_267.out _).trans (((cell_far (p:=⟨gb267,_,none⟩) NB277_267.out _).trans (((cell_far (p:=⟨gb267,_,none⟩) NB277_267.out _).trans (hHeld.1)))))),((cell_far (p:=⟨gb267,_,none⟩) NB277_267.out _).trans (((cell_far (p:=⟨gb267,_,none⟩) NB277_267.out _).trans (((cell_far (p:=⟨gb267,_,none⟩) NB277_267.out _).trans (hHeld.2))))))⟩ (fun hHeld => ?_)
                  clear hK K
                  refine done_ (by kernel_rfl) ?_
                  try go_wp2
                  refine bodyPost_ret (results_tc rfl _ _ gb267 39 #[.int .i64 3,.int .i64 t275,.int .i64 t276] (0,0) _ rfl (by (with_reducible repeat (first | refine blk_drewN ?_ _ | refine blk_drew ?_ | refine blk_alloc ?_ _));refine blk_put (cs:=#[.int .i64 3,.int .i64 t275,.int .i64 x268002_1]) ?_ 2 _ rfl;(with_reducible repeat (first | refine blk_drewN ?_ _ | refine blk_drew ?_ | refine blk_alloc ?_ _));refine blk_put (cs:=#[.int .i64 3,.int .i64 x268001_1,.int .i64 x268002_1]) ?_ 1 _ rfl;(with_reducible repeat (first | refine blk_drewN ?_ _ | refine blk_drew ?_ | refine blk_alloc ?_ _));refine blk_put (cs:=#[.int .i64 x268000_1,.int .i64 x268001_1,.int .i64 x268002_1]) ?_ 0 _ rfl;(with_reducible repeat (first | refine blk_drewN ?_ _ | refine blk_drew ?_ | refine blk_alloc ?_ _));exact BK267.out) Tryd.underlying39 rfl (by kernel_rfl)) rfl ?_
                  exact ⟨_,by first | rfl | (simp [errW_none,errW_some] <;> rfl) | (simp [*,errW_none,errW_some] <;> rfl),by first | exact Kd.R_nil _ _ _ _ _ | exact Kd.N_nil _ _ _ _ _ | exact Kd.V_nil _ _ _ _ _ | exact Kd.Q_nil _ _ _ _ _ | exact Kd.S_nil _ _ _ _ _,by repeat (first | (with_reducible first | exact HB.out | apply below_alloc | apply pw_below_drewN | apply below_drew1 | refine below_set ?_ GE267.out | refine below_set ?_ GE277.out) | exact HB.out)⟩
                 ·replace c58:=Bool.eq_false_iff.mpr c58
                  subst c58
                  have H1 : (if 0 ≤ (wrap64 (x5_1 + t288)) then ((utf8_DecodeRuneInString.f (a0.extract ((wrap64 (x5_1 + t288)) : Int).toNat a0.size)).bind fun bt290 => (if t288 > 1 then (if t273 = 48 then (some (([] : List (S48)),5,t275,t276)) else ((unicode_IsLetter.f bt290.1).bind fun t292 => (if t292 = true then (if bt290.2 > 0 then (some (([] : List (S48)),5,t275,t276)) else (if x4_1.length < 3518437208883 then (joustref01_Tokens.l0 kj10 a0 (x4_1 ++ [(⟨2,a0.extract (x5_1 : Int).toNat ((wrap64 (x5_1 + t288)) : Int).toNat,(⟨t275,t276⟩ : S37)⟩ : S48)]) (wrap64 (x5_1 + t288))) else (none))) else (if x4_1.length < 3518437208883 then (joustref01_Tokens.l0 kj10 a0 (x4_1 ++ [(⟨2,a0.extract (x5_1 : Int).toNat ((wrap64 (x5_1 + t288)) : Int).toNat,(⟨t275,t276⟩ : S37)⟩ : S48)]) (wrap64 (x5_1 + t288))) else (none))))) else ((unicode_IsLetter.f bt290.1).bind fun t299 => (if t299 = true then (if bt290.2 > 0 then (some (([] : List (S48)),5,t275,t276)) else (if x4_1.length < 3518437208883 then (joustref01_Tokens.l0 kj10 a0 (x4_1 ++ [(⟨2,a0.extract (x5_1 : Int).toNat ((wrap64 (x5_1 + t288)) : Int).toNat,(⟨t275,t276⟩ : S37)⟩ : S48)]) (wrap64 (x5_1 + t288))) else (none))) else (if x4_1.length < 3518437208883 then (joustref01_Tokens.l0 kj10 a0 (x4_1 ++ [(⟨2,a0.extract (x5_1 : Int).toNat ((wrap64 (x5_1 + t288)) : Int).toNat,(⟨t275,t276⟩ : S37)⟩ : S48)]) (wrap64 (x5_1 + t288))) else (none)))))) else (none)) = some (r1,r2,r3,r4):=by rw [if_neg (show ¬ (false = true) by decide)] at H;exact H
                  clear H
                  have H:=H1
                  clear H1
                  obtain ⟨ji65,hji65⟩ : ∃ j_ : Int,(wrap64 (x5_1 + t288)) = j_:=⟨_,rfl⟩
                  replace H : (if 0 ≤ (ji65) then ((utf8_DecodeRuneInString.f (a0.extract ((ji65) : Int).toNat a0.size)).bind fun bt290 => (if t288 > 1 then (if t273 = 48 then (some (([] : List (S48)),5,t275,t276)) else ((unicode_IsLetter.f bt290.1).bind fun t292 => (if t292 = true then (if bt290.2 > 0 then (some (([] : List (S48)),5,t275,t276)) else (if x4_1.length < 3518437208883 then (joustref01_Tokens.l0 kj10 a0 (x4_1 ++ [(⟨2,a0.extract (x5_1 : Int).toNat ((ji65) : Int).toNat,(⟨t275,t276⟩ : S37)⟩ : S48)]) ji65) else (none))) else (if x4_1.length < 3518437208883 then (joustref01_Tokens.l0 kj10 a0 (x4_1 ++ [(⟨2,a0.extract (x5_1 : Int).toNat ((ji65) : Int).toNat,(⟨t275,t276⟩ : S37)⟩ : S48)]) ji65) else (none))))) else ((unicode_IsLetter.f bt290.1).bind fun t299 => (if t299 = true then (if bt290.2 > 0 then (some (([] : List (S48)),5,t275,t276)) else (if x4_1.length < 3518437208883 then (joustref01_Tokens.l0 kj10 a0 (x4_1 ++ [(⟨2,a0.extract (x5_1 : Int).toNat ((ji65) : Int).toNat,(⟨t275,t276⟩ : S37)⟩ : S48)]) ji65) else (none))) else (if x4_1.length < 3518437208883 then (joustref01_Tokens.l0 kj10 a0 (x4_1 ++ [(⟨2,a0.extract (x5_1 : Int).toNat ((ji65) : Int).toNat,(⟨t275,t276⟩ : S37)⟩ : S48)]) ji65) else (none)))))) else (none)) = some (r1,r2,r3,r4):=by first | (rw [hji65] at H;exact H) | (simp only [hji65] at H ⊢;exact H)
                  (try rw [hji65] at c55b0)
                  (try rw [hji65] at c55b1)
                  (try rw [hji65] at c55)
                  (try rw [hji65] at c56b0)
                  (try rw [hji65] at c56b1)
                  (try rw [hji65] at c56)
                  (try rw [hji65] at A34)
                  (try rw [hji65] at A49)
                  (try rw [hji65] at A53)
                  (try rw [hji65] at A57)
                  have hji65w : (IntKind.i64.wrap (x5_1 + t288)) = ji65:=(i64_w _).trans hji65
                  by_cases c66 : 0 ≤ (ji65)
                  ·rw [if_pos c66] at H
                   have c66b0:=eq_true c66
                   have c66b1 : decide (0 ≤ (ji65)) = true:=decide_eq_true c66
                   clear c66
                   have c67b0:=eq_true (of_decide_eq_true (by first | (with_reducible assumption) | assumption) : (ji65) ≤ (a0.size : Int))
                   replace H:=Option.bind_eq_some_iff.mp H
                   obtain ⟨⟨t290,t291⟩,A680,H⟩:=H
                   replace H : (if t288 > 1 then (if t273 = 48 then (some (([] : List (S48)),5,t275,t276)) else ((unicode_IsLetter.f t290).bind fun t292 => (if t292 = true then (if t291 > 0 then (some (([] : List (S48)),5,t275,t276)) else (if x4_1.length < 3518437208883 then (joustref01_Tokens.l0 kj10 a0 (x4_1 ++ [(⟨2,a0.extract (x5_1 : Int).toNat ((ji65) : Int).toNat,(⟨t275,t276⟩ : S37)⟩ : S48)]) ji65) else (none))) else (if x4_1.length < 3518437208883 then (joustref01_Tokens.l0 kj10 a0 (x4_1 ++ [(⟨2,a0.extract (x5_1 : Int).toNat ((ji65) : Int).toNat,(⟨t275,t276⟩ : S37)⟩ : S48)]) ji65) else (none))))) else ((unicode_IsLetter.f t290).bind fun t299 => (if t299 = true then (if t291 > 0 then (some (([] : List (S48)),5,t275,t276)) else (if x4_1.length < 3518437208883 then (joustref01_Tokens.l0 kj10 a0 (x4_1 ++ [(⟨2,a0.extract (x5_1 : Int).toNat ((ji65) : Int).toNat,(⟨t275,t276⟩ : S37)⟩ : S48)]) ji65) else (none))) else (if x4_1.length < 3518437208883 then (joustref01_Tokens.l0 kj10 a0 (x4_1 ++ [(⟨2,a0.extract (x5_1 : Int).toNat ((ji65) : Int).toNat,(⟨t275,t276⟩ : S37)⟩ : S48)]) ji65) else (none))))) = some (r1,r2,r3,r4):=H
                   have A68:=Aside0.mk A680
                   clear A680
                   by_cases c69 : t288 > 1
                   ·rw [if_pos c69] at H
                    have c69b0 : decide (1 < t288) = true:=decide_eq_true c69
                    clear c69
                    by_cases c70 : t273 = 48
                    ·rw [if_pos c70] at H
                     have c70b0 : (t273 == 48) = true:=beq_iff_eq.mpr c70
                     have c70b1 : (t273 != 48) = false:=bne_eq_false_iff_eq.mpr c70
                     clear c70
                     simp only [Option.some.injEq,Prod.mk.injEq] at H
                     obtain ⟨rfl,rfl,rfl,rfl⟩:=H
                     try go_wp2_with (first | ((with_reducible refine gate_callee (f:=36) rfl ?_);refine goesL_ (some 75) rfl rfl Tryd.func36 (by kernel_rfl) rfl #[.string (a0.extract (x5_1 : Int).toNat a0.size)] rfl (by (try simp only [List.map_toArray,List.map_cons,List.map_nil]);first | done | rfl | (simp only [List.length_drop,List.length_take];rfl)) ?_;(with_reducible refine (joustref01_word.calls kj10 (a0.extract (x5_1 : Int).toNat a0.size) t282 t283 _ ?side1 A34.out).mono ?_);(case side1 => exact Tabs.below HG.out (by repeat (first | (with_reducible first | exact HB.out | apply below_alloc | apply pw_below_drewN | apply below_drew1 | refine below_set ?_ GE267.out | refine below_set ?_ GE277.out) | exact HB.out)));rintro e w71 ⟨rfl,hb⟩;refine ⟨_,rfl,?_⟩;have n0_:=Aside0.mk (Kd.R_below (by (with_reducible repeat (first | apply Kd.R_alloc | apply Kd.R_drewN | apply Kd.R_drew));exact HO_4.out) hb);have n1_:=Aside0.mk (blk_below (g:=gb267) (o:=.cells #[.int .i64 x268000_1,.int .i64 x268001_1,.int .i64 x268002_1] 39 (0,0)) (by (with_reducible repeat (first | refine blk_drewN ?_ _ | refine blk_drew ?_ | refine blk_alloc ?_ _));exact BK267.out) hb);have n2_:=Aside0.mk (blk_below (g:=gb277) (o:=.cells #[.int .i64 t275,.int .i64 t276] 37 (0,0)) (by (with_reducible repeat (first | refine blk_drewN ?_ _ | refine blk_drew ?_ | refine blk_alloc ?_ _));exact BK277.out) hb);have n3_:=Aside0.mk (below_step (by repeat (first | (with_reducible first | exact HB.out | apply below_alloc | apply pw_below_drewN | apply below_drew1 | refine below_set ?_ GE267.out | refine below_set ?_ GE277.out) | exact HB.out)) hb);clear HO_4;clear BK267;clear BK277;clear HB;have HO_4:=n0_;have BK267:=n1_;have BK277:=n2_;have HB:=n3_;clear n0_ n1_ n2_ n3_;(try clear hb);(try clear hb2);(try clear hk);(try clear hi)) | ((with_reducible refine gate_callee (f:=37) rfl ?_);refine goesL_ (some 86) rfl rfl Tryd.func37 (by kernel_rfl) rfl #[.int .i32 t273] rfl (by (try simp only [List.map_toArray,List.map_cons,List.map_nil]);first | done | rfl | (simp only [List.length_drop,List.length_take];rfl)) ?_;(with_reducible refine (joustref01_digit.calls t273 true _ A49.out).mono ?_);rintro e w' ⟨rfl,⟨nd,rfl⟩⟩;refine ⟨_,rfl,?_⟩;(try (rw [drewN_self w71];generalize hq_ : World.drewN w71 _ = w71;have n0_ : Aside0 (Kd.R k48 48 w71 w.heap.size (fun _ => True) u4 x4_1):=⟨by rw [← hq_];exact (by (with_reducible repeat (first | apply Kd.R_alloc | apply Kd.R_drewN | apply Kd.R_drew));exact HO_4.out)⟩;have n1_ : Aside0 (w71.heap[gb267]? = some (.cells #[.int .i64 x268000_1,.int .i64 x268001_1,.int .i64 x268002_1] 39 (0,0))):=⟨by rw [← hq_];exact (by (with_reducible repeat (first | refine blk_drewN ?_ _ | refine blk_drew ?_ | refine blk_alloc ?_ _));exact BK267.out)⟩;have n2_ : Aside0 (w71.heap[gb277]? = some (.cells #[.int .i64 t275,.int .i64 t276] 37 (0,0))):=⟨by rw [← hq_];exact (by (with_reducible repeat (first | refine blk_drewN ?_ _ | refine blk_drew ?_ | refine blk_alloc ?_ _));exact BK277.out)⟩;have n3_ : Aside0 (Below w.heap.size w w71):=⟨by rw [← hq_];exact (by repeat (first | (with_reducible first | exact HB.out | apply below_alloc | apply pw_below_drewN | apply below_drew1 | refine below_set ?_ GE267.out | refine below_set ?_ GE277.out) | exact HB.out))⟩;clear HO_4 BK267 BK277 HB hq_;have HO_4:=n0_;have BK267:=n1_;have BK277:=n2_;have HB:=n3_;clear n0_ n1_ n2_ n3_))) | ((with_reducible refine gate_callee (f:=38) rfl ?_);refine goesL_ (some 90) rfl rfl Tryd.func38 (by kernel_rfl) rfl #[.string (a0.extract (x5_1 : Int).toNat a0.size)] rfl (by (try simp only [List.map_toArray,List.map_cons,List.map_nil]);first | done | rfl | (simp only [List.length_drop,List.length_take];rfl)) ?_;(with_reducible refine (joustref01_number.calls kj10 (a0.extract (x5_1 : Int).toNat a0.size) t288 _ A53.out).mono ?_);rintro e w' ⟨rfl,⟨nd,rfl⟩⟩;refine ⟨_,rfl,?_⟩;(try (rw [drewN_self w71];generalize hq_ : World.drewN w71 _ = w71;have n0_ : Aside0 (Kd.R k48 48 w71 w.heap.size (fun _ => True) u4 x4_1):=⟨by rw [← hq_];exact (by (with_reducible repeat (first | apply Kd.R_alloc | apply Kd.R_drewN | apply Kd.R_drew));exact HO_4.out)⟩;have n1_ : Aside0 (w71.heap[gb267]? = some (.cells #[.int .i64 x268000_1,.int .i64 x268001_1,.int .i64 x268002_1] 39 (0,0))):=⟨by rw [← hq_];exact (by (with_reducible repeat (first | refine blk_drewN ?_ _ | refine blk_drew ?_ | refine blk_alloc ?_ _));exact BK267.out)⟩;have n2_ : Aside0 (w71.heap[gb277]? = some (.cells #[.int .i64 t275,.int .i64 t276] 37 (0,0))):=⟨by rw [← hq_];exact (by (with_reducible repeat (first | refine blk_drewN ?_ _ | refine blk_drew ?_ | refine blk_alloc ?_ _));exact BK277.out)⟩;have n3_ : Aside0 (Below w.heap.size w w71):=⟨by rw [← hq_];exact (by repeat (first | (with_reducible first | exact HB.out | apply below_alloc | apply pw_below_drewN | apply below_drew1 | refine below_set ?_ GE267.out | refine below_set ?_ GE277.out) | exact HB.out))⟩;clear HO_4 BK267 BK277 HB hq_;have HO_4:=n0_;have BK267:=n1_;have BK277:=n2_;have HB:=n3_;clear n0_ n1_ n2_ n3_))) | ((with_reducible refine gate_callee (f:=39) rfl ?_);refine goesL_ (some 97) rfl rfl Tryd.func39 (by kernel_rfl) rfl #[.string (a0.extract (x5_1 : Int).toNat ((ji65) : Int).toNat)] rfl (by (try simp only [List.map_toArray,List.map_cons,List.map_nil]);first | done | (simp only [hji65];rfl) | rfl | (simp only [List.length_drop,List.length_take];rfl)) ?_;(with_reducible refine (joustref01_great.calls kj10 (a0.extract (x5_1 : Int).toNat ((ji65) : Int).toNat) false _ A57.out).mono ?_);rintro e w72 ⟨rfl,hb⟩;refine ⟨_,rfl,?_⟩;have n0_:=Aside0.mk (Kd.R_below (by (with_reducible repeat (first | apply Kd.R_alloc | apply Kd.R_drewN | apply Kd.R_drew));exact HO_4.out) hb);have n1_:=Aside0.mk (blk_below (g:=gb267) (o:=.cells #[.int .i64 x268000_1,.int .i64 x268001_1,.int .i64 x268002_1] 39 (0,0)) (by (with_reducible repeat (first | refine blk_drewN ?_ _ | refine blk_drew ?_ | refine blk_alloc ?_ _));exact BK267.out) hb);have n2_:=Aside0.mk (blk_below (g:=gb277) (o:=.cells #[.int .i64 t275,.int .i64 t276] 37 (0,0)) (by (with_reducible repeat (first | refine blk_drewN ?_ _ | refine blk_drew ?_ | refine blk_alloc ?_ _));exact BK277.out) hb);have n3_:=Aside0.mk (below_step (by repeat (first | (with_reducible first | exact HB.out | apply below_alloc | apply pw_below_drewN | apply below_drew1 | refine below_set ?_ GE267.out | refine below_set ?_ GE277.out) | exact HB.out)) hb);clear HO_4;clear BK267;clear BK277;clear HB;have HO_4:=n0_;have BK267:=n1_;have BK277:=n2_;have HB:=n3_;clear n0_ n1_ n2_ n3_;(try clear hb);(try clear hb2);(try clear hk);(try clear hi)) | ((with_reducible refine gate_callee (f:=34) rfl ?_);refine goesL_ (some 106) rfl rfl Tryd.func34 (by kernel_rfl) rfl #[.string (a0.extract ((ji65) : Int).toNat a0.size)] rfl (by (try simp only [List.map_toArray,List.map_cons,List.map_nil]);first | done | (simp only [hji65];rfl) | rfl | (simp only [List.length_drop,List.length_take];rfl)) ?_;(with_reducible refine (utf8_DecodeRuneInString.calls (a0.extract ((ji65) : Int).toNat a0.size) t290 t291 _ ?side1 A68.out).mono ?_);(case side1 => exact Tabs.below HG.out (by repeat (first | (with_reducible first | exact HB.out | apply below_alloc | apply pw_below_drewN | apply below_drew1 | refine below_set ?_ GE267.out | refine below_set ?_ GE277.out) | exact HB.out)));rintro e w73 ⟨rfl,hb⟩;refine ⟨_,rfl,?_⟩;have n0_:=Aside0.mk (Kd.R_below (by (with_reducible repeat (first | apply Kd.R_alloc | apply Kd.R_drewN | apply Kd.R_drew));exact HO_4.out) hb);have n1_:=Aside0.mk (blk_below (g:=gb267) (o:=.cells #[.int .i64 x268000_1,.int .i64 x268001_1,.int .i64 x268002_1] 39 (0,0)) (by (with_reducible repeat (first | refine blk_drewN ?_ _ | refine blk_drew ?_ | refine blk_alloc ?_ _));exact BK267.out) hb);have n2_:=Aside0.mk (blk_below (g:=gb277) (o:=.cells #[.int .i64 t275,.int .i64 t276] 37 (0,0)) (by (with_reducible repeat (first | refine blk_drewN ?_ _ | refine blk_drew ?_ | refine blk_alloc ?_ _));exact BK277.out) hb);have n3_:=Aside0.mk (below_step (by repeat (first | (with_reducible first | exact HB.out | apply below_alloc | apply pw_below_drewN | apply below_drew1 | refine below_set ?_ GE267.out | refine below_set ?_ GE277.out) | exact HB.out)) hb);clear HO_4;clear BK267;clear BK277;clear HB;have HO_4:=n0_;have BK267:=n1_;have BK277:=n2_;have HB:=n3_;clear n0_ n1_ n2_ n3_;(try clear hb);(try clear hb2);(try clear hk);(try clear hi)))
                     have n0_:=Aside0.mk (Kd.R_drew HO_4.out)
                     have n1_:=Aside0.mk (blk_drew BK267.out)
                     have n2_:=Aside0.mk (blk_drew BK277.out)
                     have n3_:=Aside0.mk (below_drew1 HB.out)
                     clear HO_4
                     clear BK267
                     clear BK277
                     clear HB
                     have HO_4:=n0_
                     have BK267:=n1_
                     have BK277:=n2_
                     have HB:=n3_
                     clear n0_ n1_ n2_ n3_
                     refine start_ (n:=4) (S:=fun w' => w'.cell? ⟨gb277,0,none⟩ = some (.int .i64 t275) ∧ w'.cell? ⟨gb277,1,none⟩ = some (.int .i64 t276)) (ds:=[]) #[false,false,false,false] (by kernel_rfl) rfl rfl ⟨(blk_cell BK277.out 0).trans rfl,(blk_cell BK277.out 1).trans rfl⟩ (fun hHeld => ?_)
                     generalize w73.drew = w74 at HO_4 BK267 BK277 HB hHeld ⊢
                     refine pure_ (i:=2) (N:=some 2) (v:=?_) (a':=?_) #[false,false,true,false] rfl rfl (by kernel_rfl) (fun _ _ _ h => h) (Or.inl ⟨by rfl,?_⟩) ?_ ?_
                     rotate_left
                     ·intro w'
                      go_simp
                      with_reducible rfl
                     rotate_left
                     ·simp only [Act.put,List.setIfInBounds_toArray,List.set_cons_zero,List.set_cons_succ,i64_w,i32_w]
                      rfl
                     refine take_ (i:=0) (N:=some 123) (v:=?_) (a':=?_) #[true,false,true,false] rfl rfl (by kernel_rfl) (fun _ _ _ h => h) (Or.inl ⟨by rfl,?_⟩) hHeld ?_ ?_
                     rotate_left
                     ·rintro w' ⟨s0,s1⟩
                      go_simp
                      with_reducible rfl
                     rotate_left
                     ·simp only [Act.put,List.setIfInBounds_toArray,List.set_cons_zero,List.set_cons_succ,i64_w,i32_w]
                      rfl
                     refine pure_ (i:=1) (N:=some 124) (v:=?_) (a':=?_) #[true,true,true,false] rfl rfl (by kernel_rfl) (fun _ _ _ h => h) (Or.inl ⟨by rfl,?_⟩) ?_ ?_
                     rotate_left
                     ·intro w'
                      go_simp
                      with_reducible rfl
                     rotate_left
                     ·simp only [Act.put,List.setIfInBounds_toArray,List.set_cons_zero,List.set_cons_succ,i64_w,i32_w]
                      rfl
                     refine one_ (i:=3) (N:=none) #[true,true,true,true] rfl rfl (by kernel_rfl) (by decide) (fun K hK => ?_)
                     have hs75 : w74.cell? ⟨gb267,0,none⟩ = some (.int .i64 x268000_1):=(blk_cell BK267.out 0).trans rfl
                     have hfs75:=blk_frozen BK267.out 0
                     have hns75_1:=NB277_267.out
                     have hms75_1:=NB267_277.out
                     have hs76 : w74.cell? ⟨gb267,1,none⟩ = some (.int .i64 x268001_1):=(blk_cell BK267.out 1).trans rfl
                     have hfs76:=blk_frozen BK267.out 1
                     have hns76_1:=NB277_267.out
                     have hms76_1:=NB267_277.out
                     have hs77 : w74.cell? ⟨gb267,2,none⟩ = some (.int .i64 x268002_1):=(blk_cell BK267.out 2).trans rfl
                     have hfs77:=blk_frozen BK267.out 2
                     have hns77_1:=NB277_267.out
                     have hms77_1:=NB267_277.out
                     refine skip_ (w1:=?_) (by rfl) rfl ?_ ?_
                     rotate_left
                     ·go_simp
                      rfl
                     refine hK.out _ _ ⟨((cell_far (p:=⟨gb267,_,none⟩) NB277_267.out _).trans (((cell_far (p:=⟨gb267,_,none⟩) NB277_267.out _).trans (((cell_far (p:=⟨gb267,_,none⟩) NB277_267.out _).trans (hHeld.1)))))),((cell_far (p:=⟨gb267,_,none⟩) NB277_267.out _).trans (((cell_far (p:=⟨gb267,_,none⟩) NB277_267.out _).trans (((cell_far (p:=⟨gb267,_,none⟩) NB277_267.out _).trans (hHeld.2))))))⟩ (fun hHeld => ?_)
                     clear hK K
                     refine done_ (by kernel_rfl) ?_
                     try go_wp2
                     refine bodyPost_ret (results_tc rfl _ _ gb267 39 #[.int .i64 5,.int .i64 t275,.int .i64 t276] (0,0) _ rfl (by (with_reducible repeat (first | refine blk_drewN ?_ _ | refine blk_drew ?_ | refine blk_alloc ?_ _));refine blk_put (cs:=#[.int .i64 5,.int .i64 t275,.int .i64 x268002_1]) ?_ 2 _ rfl;(with_reducible repeat (first | refine blk_drewN ?_ _ | refine blk_drew ?_ | refine blk_alloc ?_ _));refine blk_put (cs:=#[.int .i64 5,.int .i64 x268001_1,.int .i64 x268002_1]) ?_ 1 _ rfl;(with_reducible repeat (first | refine blk_drewN ?_ _ | refine blk_drew ?_ | refine blk_alloc ?_ _));refine blk_put (cs:=#[.int .i64 x268000_1,.int .i64 x268001_1,.int .i64 x268002_1]) ?_ 0 _ rfl;(with_reducible repeat (first | refine blk_drewN ?_ _ | refine blk_drew ?_ | refine blk_alloc ?_ _));exact BK267.out) Tryd.underlying39 rfl (by kernel_rfl)) rfl ?_
                     exact ⟨_,by first | rfl | (simp [errW_none,errW_some] <;> rfl) | (simp only [← hji65];first | rfl | (simp [errW_none,errW_some] <;> rfl)) | (simp [*,errW_none,errW_some] <;> rfl),by first | exact Kd.R_nil _ _ _ _ _ | exact Kd.N_nil _ _ _ _ _ | exact Kd.V_nil _ _ _ _ _ | exact Kd.Q_nil _ _ _ _ _ | exact Kd.S_nil _ _ _ _ _,by repeat (first | (with_reducible first | exact HB.out | apply below_alloc | apply pw_below_drewN | apply below_drew1 | refine below_set ?_ GE267.out | refine below_set ?_ GE277.out) | exact HB.out)⟩
                    ·rw [if_neg c70] at H
                     have c70b0 : (t273 == 48) = false:=beq_eq_false_iff_ne.mpr c70
                     have c70b1 : (t273 != 48) = true:=bne_iff_ne.mpr c70
                     replace H:=Option.bind_eq_some_iff.mp H
                     obtain ⟨t292,A780,H⟩:=H
                     replace H : (if t292 = true then (if t291 > 0 then (some (([] : List (S48)),5,t275,t276)) else (if x4_1.length < 3518437208883 then (joustref01_Tokens.l0 kj10 a0 (x4_1 ++ [(⟨2,a0.extract (x5_1 : Int).toNat ((ji65) : Int).toNat,(⟨t275,t276⟩ : S37)⟩ : S48)]) ji65) else (none))) else (if x4_1.length < 3518437208883 then (joustref01_Tokens.l0 kj10 a0 (x4_1 ++ [(⟨2,a0.extract (x5_1 : Int).toNat ((ji65) : Int).toNat,(⟨t275,t276⟩ : S37)⟩ : S48)]) ji65) else (none))) = some (r1,r2,r3,r4):=H
                     have A78:=Aside0.mk A780
                     clear A780
                     by_cases c79 : t292 = true
                     ·subst c79
                      have H1 : (if t291 > 0 then (some (([] : List (S48)),5,t275,t276)) else (if x4_1.length < 3518437208883 then (joustref01_Tokens.l0 kj10 a0 (x4_1 ++ [(⟨2,a0.extract (x5_1 : Int).toNat ((ji65) : Int).toNat,(⟨t275,t276⟩ : S37)⟩ : S48)]) ji65) else (none))) = some (r1,r2,r3,r4):=by rw [if_pos rfl] at H;exact H
                      clear H
                      have H:=H1
                      clear H1
                      by_cases c80 : t291 > 0
                      ·rw [if_pos c80] at H
                       have c80b0 : decide (0 < t291) = true:=decide_eq_true c80
                       clear c80
                       simp only [Option.some.injEq,Prod.mk.injEq] at H
                       obtain ⟨rfl,rfl,rfl,rfl⟩:=H
                       try go_wp2_with (first | ((with_reducible refine gate_callee (f:=36) rfl ?_);refine goesL_ (some 75) rfl rfl Tryd.func36 (by kernel_rfl) rfl #[.string (a0.extract (x5_1 : Int).toNat a0.size)] rfl (by (try simp only [List.map_toArray,List.map_cons,List.map_nil]);first | done | rfl | (simp only [List.length_drop,List.length_take];rfl)) ?_;(with_reducible refine (joustref01_word.calls kj10 (a0.extract (x5_1 : Int).toNat a0.size) t282 t283 _ ?side1 A34.out).mono ?_);(case side1 => exact Tabs.below HG.out (by repeat (first | (with_reducible first | exact HB.out | apply below_alloc | apply pw_below_drewN | apply below_drew1 | refine below_set ?_ GE267.out | refine below_set ?_ GE277.out) | exact HB.out)));rintro e w81 ⟨rfl,hb⟩;refine ⟨_,rfl,?_⟩;have n0_:=Aside0.mk (Kd.R_below (by (with_reducible repeat (first | apply Kd.R_alloc | apply Kd.R_drewN | apply Kd.R_drew));exact HO_4.out) hb);have n1_:=Aside0.mk (blk_below (g:=gb267) (o:=.cells #[.int .i64 x268000_1,.int .i64 x268001_1,.int .i64 x268002_1] 39 (0,0)) (by (with_reducible repeat (first | refine blk_drewN ?_ _ | refine blk_drew ?_ | refine blk_alloc ?_ _));exact BK267.out) hb);have n2_:=Aside0.mk (blk_below (g:=gb277) (o:=.cells #[.int .i64 t275,.int .i64 t276] 37 (0,0)) (by (with_reducible repeat (first | refine blk_drewN ?_ _ | refine blk_drew ?_ | refine blk_alloc ?_ _));exact BK277.out) hb);have n3_:=Aside0.mk (below_step (by repeat (first | (with_reducible first | exact HB.out | apply below_alloc | apply pw_below_drewN | apply below_drew1 | refine below_set ?_ GE267.out | refine below_set ?_ GE277.out) | exact HB.out)) hb);clear HO_4;clear BK267;clear BK277;clear HB;have HO_4:=n0_;have BK267:=n1_;have BK277:=n2_;have HB:=n3_;clear n0_ n1_ n2_ n3_;(try clear hb);(try clear hb2);(try clear hk);(try clear hi)) | ((with_reducible refine gate_callee (f:=37) rfl ?_);refine goesL_ (some 86) rfl rfl Tryd.func37 (by kernel_rfl) rfl #[.int .i32 t273] rfl (by (try simp only [List.map_toArray,List.map_cons,List.map_nil]);first | done | rfl | (simp only [List.length_drop,List.length_take];rfl)) ?_;(with_reducible refine (joustref01_digit.calls t273 true _ A49.out).mono ?_);rintro e w' ⟨rfl,⟨nd,rfl⟩⟩;refine ⟨_,rfl,?_⟩;(try (rw [drewN_self w81];generalize hq_ : World.drewN w81 _ = w81;have n0_ : Aside0 (Kd.R k48 48 w81 w.heap.size (fun _ => True) u4 x4_1):=⟨by rw [← hq_];exact (by (with_reducible repeat (first | apply Kd.R_alloc | apply Kd.R_drewN | apply Kd.R_drew));exact HO_4.out)⟩;have n1_ : Aside0 (w81.heap[gb267]? = some (.cells #[.int .i64 x268000_1,.int .i64 x268001_1,.int .i64 x268002_1] 39 (0,0))):=⟨by rw [← hq_];exact (by (with_reducible repeat (first | refine blk_drewN ?_ _ | refine blk_drew ?_ | refine blk_alloc ?_ _));exact BK267.out)⟩;have n2_ : Aside0 (w81.heap[gb277]? = some (.cells #[.int .i64 t275,.int .i64 t276] 37 (0,0))):=⟨by rw [← hq_];exact (by (with_reducible repeat (first | refine blk_drewN ?_ _ | refine blk_drew ?_ | refine blk_alloc ?_ _));exact BK277.out)⟩;have n3_ : Aside0 (Below w.heap.size w w81):=⟨by rw [← hq_];exact (by repeat (first | (with_reducible first | exact HB.out | apply below_alloc | apply pw_below_drewN | apply below_drew1 | refine below_set ?_ GE267.out | refine below_set ?_ GE277.out) | exact HB.out))⟩;clear HO_4 BK267 BK277 HB hq_;have HO_4:=n0_;have BK267:=n1_;have BK277:=n2_;have HB:=n3_;clear n0_ n1_ n2_ n3_))) | ((with_reducible refine gate_callee (f:=38) rfl ?_);refine goesL_ (some 90) rfl rfl Tryd.func38 (by kernel_rfl) rfl #[.string (a0.extract (x5_1 : Int).toNat a0.size)] rfl (by (try simp only [List.map_toArray,List.map_cons,List.map_nil]);first | done | rfl | (simp only [List.length_drop,List.length_take];rfl)) ?_;(with_reducible refine (joustref01_number.calls kj10 (a0.extract (x5_1 : Int).toNat a0.size) t288 _ A53.out).mono ?_);rintro e w' ⟨rfl,⟨nd,rfl⟩⟩;refine ⟨_,rfl,?_⟩;(try (rw [drewN_self w81];generalize hq_ : World.drewN w81 _ = w81;have n0_ : Aside0 (Kd.R k48 48 w81 w.heap.size (fun _ => True) u4 x4_1):=⟨by rw [← hq_];exact (by (with_reducible repeat (first | apply Kd.R_alloc | apply Kd.R_drewN | apply Kd.R_drew));exact HO_4.out)⟩;have n1_ : Aside0 (w81.heap[gb267]? = some (.cells #[.int .i64 x268000_1,.int .i64 x268001_1,.int .i64 x268002_1] 39 (0,0))):=⟨by rw [← hq_];exact (by (with_reducible repeat (first | refine blk_drewN ?_ _ | refine blk_drew ?_ | refine blk_alloc ?_ _));exact BK267.out)⟩;have n2_ : Aside0 (w81.heap[gb277]? = some (.cells #[.int .i64 t275,.int .i64 t276] 37 (0,0))):=⟨by rw [← hq_];exact (by (with_reducible repeat (first | refine blk_drewN ?_ _ | refine blk_drew ?_ | refine blk_alloc ?_ _));exact BK277.out)⟩;have n3_ : Aside0 (Below w.heap.size w w81):=⟨by rw [← hq_];exact (by repeat (first | (with_reducible first | exact HB.out | apply below_alloc | apply pw_below_drewN | apply below_drew1 | refine below_set ?_ GE267.out | refine below_set ?_ GE277.out) | exact HB.out))⟩;clear HO_4 BK267 BK277 HB hq_;have HO_4:=n0_;have BK267:=n1_;have BK277:=n2_;have HB:=n3_;clear n0_ n1_ n2_ n3_))) | ((with_reducible refine gate_callee (f:=39) rfl ?_);refine goesL_ (some 97) rfl rfl Tryd.func39 (by kernel_rfl) rfl #[.string (a0.extract (x5_1 : Int).toNat ((ji65) : Int).toNat)] rfl (by (try simp only [List.map_toArray,List.map_cons,List.map_nil]);first | done | (simp only [hji65];rfl) | rfl | (simp only [List.length_drop,List.length_take];rfl)) ?_;(with_reducible refine (joustref01_great.calls kj10 (a0.extract (x5_1 : Int).toNat ((ji65) : Int).toNat) false _ A57.out).mono ?_);rintro e w82 ⟨rfl,hb⟩;refine ⟨_,rfl,?_⟩;have n0_:=Aside0.mk (Kd.R_below (by (with_reducible repeat (first | apply Kd.R_alloc | apply Kd.R_drewN | apply Kd.R_drew));exact HO_4.out) hb);have n1_:=Aside0.mk (blk_below (g:=gb267) (o:=.cells #[.int .i64 x268000_1,.int .i64 x268001_1,.int .i64 x268002_1] 39 (0,0)) (by (with_reducible repeat (first | refine blk_drewN ?_ _ | refine blk_drew ?_ | refine blk_alloc ?_ _));exact BK267.out) hb);have n2_:=Aside0.mk (blk_below (g:=gb277) (o:=.cells #[.int .i64 t275,.int .i64 t276] 37 (0,0)) (by (with_reducible repeat (first | refine blk_drewN ?_ _ | refine blk_drew ?_ | refine blk_alloc ?_ _));exact BK277.out) hb);have n3_:=Aside0.mk (below_step (by repeat (first | (with_reducible first | exact HB.out | apply below_alloc | apply pw_below_drewN | apply below_drew1 | refine below_set ?_ GE267.out | refine below_set ?_ GE277.out) | exact HB.out)) hb);clear HO_4;clear BK267;clear BK277;clear HB;have HO_4:=n0_;have BK267:=n1_;have BK277:=n2_;have HB:=n3_;clear n0_ n1_ n2_ n3_;(try clear hb);(try clear hb2);(try clear hk);(try clear hi)) | ((with_reducible refine gate_callee (f:=34) rfl ?_);refine goesL_ (some 106) rfl rfl Tryd.func34 (by kernel_rfl) rfl #[.string (a0.extract ((ji65) : Int).toNat a0.size)] rfl (by (try simp only [List.map_toArray,List.map_cons,List.map_nil]);first | done | (simp only [hji65];rfl) | rfl | (simp only [List.length_drop,List.length_take];rfl)) ?_;(with_reducible refine (utf8_DecodeRuneInString.calls (a0.extract ((ji65) : Int).toNat a0.size) t290 t291 _ ?side1 A68.out).mono ?_);(case side1 => exact Tabs.below HG.out (by repeat (first | (with_reducible first | exact HB.out | apply below_alloc | apply pw_below_drewN | apply below_drew1 | refine below_set ?_ GE267.out | refine below_set ?_ GE277.out) | exact HB.out)));rintro e w83 ⟨rfl,hb⟩;refine ⟨_,rfl,?_⟩;have n0_:=Aside0.mk (Kd.R_below (by (with_reducible repeat (first | apply Kd.R_alloc | apply Kd.R_drewN | apply Kd.R_drew));exact HO_4.out) hb);have n1_:=Aside0.mk (blk_below (g:=gb267) (o:=.cells #[.int .i64 x268000_1,.int .i64 x268001_1,.int .i64 x268002_1] 39 (0,0)) (by (with_reducible repeat (first | refine blk_drewN ?_ _ | refine blk_drew ?_ | refine blk_alloc ?_ _));exact BK267.out) hb);have n2_:=Aside0.mk (blk_below (g:=gb277) (o:=.cells #[.int .i64 t275,.int .i64 t276] 37 (0,0)) (by (with_reducible repeat (first | refine blk_drewN ?_ _ | refine blk_drew ?_ | refine blk_alloc ?_ _));exact BK277.out) hb);have n3_:=Aside0.mk (below_step (by repeat (first | (with_reducible first | exact HB.out | apply below_alloc | apply pw_below_drewN | apply below_drew1 | refine below_set ?_ GE267.out | refine below_set ?_ GE277.out) | exact HB.out)) hb);clear HO_4;clear BK267;clear BK277;clear HB;have HO_4:=n0_;have BK267:=n1_;have BK277:=n2_;have HB:=n3_;clear n0_ n1_ n2_ n3_;(try clear hb);(try clear hb2);(try clear hk);(try clear hi)) | (go_at_call 40;(with_reducible refine (unicode_IsLetter.calls t290 true _ ?side1 A78.out).mono ?_);(case side1 => exact Tabs.below HG.out (by repeat (first | (with_reducible first | exact HB.out | apply below_alloc | apply pw_below_drewN | apply below_drew1 | refine below_set ?_ GE267.out | refine below_set ?_ GE277.out) | exact HB.out)));rintro e w84 ⟨rfl,hb⟩;have n0_:=Aside0.mk (Kd.R_below (by (with_reducible repeat (first | apply Kd.R_alloc | apply Kd.R_drewN | apply Kd.R_drew));exact HO_4.out) hb);have n1_:=Aside0.mk (blk_below (g:=gb267) (o:=.cells #[.int .i64 x268000_1,.int .i64 x268001_1,.int .i64 x268002_1] 39 (0,0)) (by (with_reducible repeat (first | refine blk_drewN ?_ _ | refine blk_drew ?_ | refine blk_alloc ?_ _));exact BK267.out) hb);have n2_:=Aside0.mk (blk_below (g:=gb277) (o:=.cells #[.int .i64 t275,.int .i64 t276] 37 (0,0)) (by (with_reducible repeat (first | refine blk_drewN ?_ _ | refine blk_drew ?_ | refine blk_alloc ?_ _));exact BK277.out) hb);have n3_:=Aside0.mk (below_step (by repeat (first | (with_reducible first | exact HB.out | apply below_alloc | apply pw_below_drewN | apply below_drew1 | refine below_set ?_ GE267.out | refine below_set ?_ GE277.out) | exact HB.out)) hb);clear HO_4;clear BK267;clear BK277;clear HB;have HO_4:=n0_;have BK267:=n1_;have BK277:=n2_;have HB:=n3_;clear n0_ n1_ n2_ n3_;(try clear hb);(try clear hb2);(try clear hk);(try clear hi)))
                       have n0_:=Aside0.mk (Kd.R_drew HO_4.out)
                       have n1_:=Aside0.mk (blk_drew BK267.out)
                       have n2_:=Aside0.mk (blk_drew BK277.out)
                       have n3_:=Aside0.mk (below_drew1 HB.out)
                       clear HO_4
                       clear BK267
                       clear BK277
                       clear HB
                       have HO_4:=n0_
                       have BK267:=n1_
                       have BK277:=n2_
                       have HB:=n3_
                       clear n0_ n1_ n2_ n3_
                       refine start_ (n:=4) (S:=fun w' => w'.cell? ⟨gb277,0,none⟩ = some (.int .i64 t275) ∧ w'.cell? ⟨gb277,1,none⟩ = some (.int .i64 t276)) (ds:=[]) #[false,false,false,false] (by kernel_rfl) rfl rfl ⟨(blk_cell BK277.out 0).trans rfl,(blk_cell BK277.out 1).trans rfl⟩ (fun hHeld => ?_)
                       generalize w84.drew = w85 at HO_4 BK267 BK277 HB hHeld ⊢
                       refine pure_ (i:=2) (N:=some 2) (v:=?_) (a':=?_) #[false,false,true,false] rfl rfl (by kernel_rfl) (fun _ _ _ h => h) (Or.inl ⟨by rfl,?_⟩) ?_ ?_
                       rotate_left
                       ·intro w'
                        go_simp
                        with_reducible rfl
                       rotate_left
                       ·simp only [Act.put,List.setIfInBounds_toArray,List.set_cons_zero,List.set_cons_succ,i64_w,i32_w]
                        rfl
                       refine take_ (i:=0) (N:=some 123) (v:=?_) (a':=?_) #[true,false,true,false] rfl rfl (by kernel_rfl) (fun _ _ _ h => h) (Or.inl ⟨by rfl,?_⟩) hHeld ?_ ?_
                       rotate_left
                       ·rintro w' ⟨s0,s1⟩
                        go_simp
                        with_reducible rfl
                       rotate_left
                       ·simp only [Act.put,List.setIfInBounds_toArray,List.set_cons_zero,List.set_cons_succ,i64_w,i32_w]
                        rfl
                       refine pure_ (i:=1) (N:=some 124) (v:=?_) (a':=?_) #[true,true,true,false] rfl rfl (by kernel_rfl) (fun _ _ _ h => h) (Or.inl ⟨by rfl,?_⟩) ?_ ?_
                       rotate_left
                       ·intro w'
                        go_simp
                        with_reducible rfl
                       rotate_left
                       ·simp only [Act.put,List.setIfInBounds_toArray,List.set_cons_zero,List.set_cons_succ,i64_w,i32_w]
                        rfl
                       refine one_ (i:=3) (N:=none) #[true,true,true,true] rfl rfl (by kernel_rfl) (by decide) (fun K hK => ?_)
                       have hs86 : w85.cell? ⟨gb267,0,none⟩ = some (.int .i64 x268000_1):=(blk_cell BK267.out 0).trans rfl
                       have hfs86:=blk_frozen BK267.out 0
                       have hns86_1:=NB277_267.out
                       have hms86_1:=NB267_277.out
                       have hs87 : w85.cell? ⟨gb267,1,none⟩ = some (.int .i64 x268001_1):=(blk_cell BK267.out 1).trans rfl
                       have hfs87:=blk_frozen BK267.out 1
                       have hns87_1:=NB277_267.out
                       have hms87_1:=NB267_277.out
                       have hs88 : w85.cell? ⟨gb267,2,none⟩ = some (.int .i64 x268002_1):=(blk_cell BK267.out 2).trans rfl
                       have hfs88:=blk_frozen BK267.out 2
                       have hns88_1:=NB277_267.out
                       have hms88_1:=NB267_277.out
                       refine skip_ (w1:=?_) (by rfl) rfl ?_ ?_
                       rotate_left
                       ·go_simp
                        rfl
                       refine hK.out _ _ ⟨((cell_far (p:=⟨gb267,_,none⟩) NB277_267.out _).trans (((cell_far (p:=⟨gb267,_,none⟩) NB277_267.out _).trans (((cell_far (p:=⟨gb267,_,none⟩) NB277_267.out _).trans (hHeld.1)))))),((cell_far (p:=⟨gb267,_,none⟩) NB277_267.out _).trans (((cell_far (p:=⟨gb267,_,none⟩) NB277_267.out _).trans (((cell_far (p:=⟨gb267,_,none⟩) NB277_267.out _).trans (hHeld.2))))))⟩ (fun hHeld => ?_)
                       clear hK K
                       refine done_ (by kernel_rfl) ?_
                       try go_wp2
                       refine bodyPost_ret (results_tc rfl _ _ gb267 39 #[.int .i64 5,.int .i64 t275,.int .i64 t276] (0,0) _ rfl (by (with_reducible repeat (first | refine blk_drewN ?_ _ | refine blk_drew ?_ | refine blk_alloc ?_ _));refine blk_put (cs:=#[.int .i64 5,.int .i64 t275,.int .i64 x268002_1]) ?_ 2 _ rfl;(with_reducible repeat (first | refine blk_drewN ?_ _ | refine blk_drew ?_ | refine blk_alloc ?_ _));refine blk_put (cs:=#[.int .i64 5,.int .i64 x268001_1,.int .i64 x268002_1]) ?_ 1 _ rfl;(with_reducible repeat (first | refine blk_drewN ?_ _ | refine blk_drew ?_ | refine blk_alloc ?_ _));refine blk_put (cs:=#[.int .i64 x268000_1,.int .i64 x268001_1,.int .i64 x268002_1]) ?_ 0 _ rfl;(with_reducible repeat (first | refine blk_drewN ?_ _ | refine blk_drew ?_ | refine blk_alloc ?_ _));exact BK267.out) Tryd.underlying39 rfl (by kernel_rfl)) rfl ?_
                       exact ⟨_,by first | rfl | (simp [errW_none,errW_some] <;> rfl) | (simp only [← hji65];first | rfl | (simp [errW_none,errW_some] <;> rfl)) | (simp [*,errW_none,errW_some] <;> rfl),by first | exact Kd.R_nil _ _ _ _ _ | exact Kd.N_nil _ _ _ _ _ | exact Kd.V_nil _ _ _ _ _ | exact Kd.Q_nil _ _ _ _ _ | exact Kd.S_nil _ _ _ _ _,by repeat (first | (with_reducible first | exact HB.out | apply below_alloc | apply pw_below_drewN | apply below_drew1 | refine below_set ?_ GE267.out | refine below_set ?_ GE277.out) | exact HB.out)⟩
                      ·rw [if_neg c80] at H
                       have c80b0 : decide (0 < t291) = false:=decide_eq_false c80
                       clear c80
                       have c89b0:=eq_true (of_decide_eq_true (by first | (with_reducible assumption) | assumption) : 0 ≤ x5_1)
                       have c90b0:=eq_true (of_decide_eq_true (by first | (with_reducible assumption) | assumption) : x5_1 ≤ (ji65))
                       have c91b0:=eq_true (of_decide_eq_true (by first | (with_reducible assumption) | assumption) : (ji65) ≤ (a0.size : Int))
                       by_cases c92 : x4_1.length < 3518437208883
                       ·rw [if_pos c92] at H
                        have LMc92:=Aside0.mk c92
                        clear c92
                        obtain ⟨y293,hy293⟩ : ∃ y_ : List (S48),y_ = (x4_1 ++ [(⟨2,a0.extract (x5_1 : Int).toNat ((ji65) : Int).toNat,(⟨t275,t276⟩ : S37)⟩ : S48)]):=⟨_,rfl⟩
                        replace H : (joustref01_Tokens.l0 kj10 a0 y293 ji65) = some (r1,r2,r3,r4):=by first | (rw [hy293];with_reducible exact H) | (have H2_:=(Option.bind_some _ _).symm.trans H;rw [hy293];with_reducible exact H2_) | (have H2_:=(Option.bind_some _ _).symm.trans H;with_reducible exact H2_) | with_reducible exact H | (rw [hy293];exact H) | exact H
                        have Ny293:=Aside0.mk hy293
                        clear hy293
                        have H':=Aside0.mk H
                        clear H
                        try go_wp2_with (first | ((with_reducible refine gate_callee (f:=36) rfl ?_);refine goesL_ (some 75) rfl rfl Tryd.func36 (by kernel_rfl) rfl #[.string (a0.extract (x5_1 : Int).toNat a0.size)] rfl (by (try simp only [List.map_toArray,List.map_cons,List.map_nil]);first | done | rfl | (simp only [List.length_drop,List.length_take];rfl)) ?_;(with_reducible refine (joustref01_word.calls kj10 (a0.extract (x5_1 : Int).toNat a0.size) t282 t283 _ ?side1 A34.out).mono ?_);(case side1 => exact Tabs.below HG.out (by repeat (first | (with_reducible first | exact HB.out | apply below_alloc | apply pw_below_drewN | apply below_drew1 | refine below_set ?_ GE267.out | refine below_set ?_ GE277.out) | exact HB.out)));rintro e w93 ⟨rfl,hb⟩;refine ⟨_,rfl,?_⟩;have n0_:=Aside0.mk (Kd.R_below (by (with_reducible repeat (first | apply Kd.R_alloc | apply Kd.R_drewN | apply Kd.R_drew));exact HO_4.out) hb);have n1_:=Aside0.mk (blk_below (g:=gb267) (o:=.cells #[.int .i64 x268000_1,.int .i64 x268001_1,.int .i64 x268002_1] 39 (0,0)) (by (with_reducible repeat (first | refine blk_drewN ?_ _ | refine blk_drew ?_ | refine blk_alloc ?_ _));exact BK267.out) hb);have n2_:=Aside0.mk (blk_below (g:=gb277) (o:=.cells #[.int .i64 t275,.int .i64 t276] 37 (0,0)) (by (with_reducible repeat (first | refine blk_drewN ?_ _ | refine blk_drew ?_ | refine blk_alloc ?_ _));exact BK277.out) hb);have n3_:=Aside0.mk (below_step (by repeat (first | (with_reducible first | exact HB.out | apply below_alloc | apply pw_below_drewN | apply below_drew1 | refine below_set ?_ GE267.out | refine below_set ?_ GE277.out) | exact HB.out)) hb);clear HO_4;clear BK267;clear BK277;clear HB;have HO_4:=n0_;have BK267:=n1_;have BK277:=n2_;have HB:=n3_;clear n0_ n1_ n2_ n3_;(try clear hb);(try clear hb2);(try clear hk);(try clear hi)) | ((with_reducible refine gate_callee (f:=37) rfl ?_);refine goesL_ (some 86) rfl rfl Tryd.func37 (by kernel_rfl) rfl #[.int .i32 t273] rfl (by (try simp only [List.map_toArray,List.map_cons,List.map_nil]);first | done | rfl | (simp only [List.length_drop,List.length_take];rfl)) ?_;(with_reducible refine (joustref01_digit.calls t273 true _ A49.out).mono ?_);rintro e w' ⟨rfl,⟨nd,rfl⟩⟩;refine ⟨_,rfl,?_⟩) | ((with_reducible refine gate_callee (f:=38) rfl ?_);refine goesL_ (some 90) rfl rfl Tryd.func38 (by kernel_rfl) rfl #[.string (a0.extract (x5_1 : Int).toNat a0.size)] rfl (by (try simp only [List.map_toArray,List.map_cons,List.map_nil]);first | done | rfl | (simp only [List.length_drop,List.length_take];rfl)) ?_;(with_reducible refine (joustref01_number.calls kj10 (a0.extract (x5_1 : Int).toNat a0.size) t288 _ A53.out).mono ?_);rintro e w' ⟨rfl,⟨nd,rfl⟩⟩;refine ⟨_,rfl,?_⟩) | ((with_reducible refine gate_callee (f:=39) rfl ?_);refine goesL_ (some 97) rfl rfl Tryd.func39 (by kernel_rfl) rfl #[.string (a0.extract (x5_1 : Int).toNat ((ji65) : Int).toNat)] rfl (by (try simp only [List.map_toArray,List.map_cons,List.map_nil]);first | done | (simp only [hji65];rfl) | rfl | (simp only [List.length_drop,List.length_take];rfl)) ?_;(with_reducible refine (joustref01_great.calls kj10 (a0.extract (x5_1 : Int).toNat ((ji65) : Int).toNat) false _ A57.out).mono ?_);rintro e w94 ⟨rfl,hb⟩;refine ⟨_,rfl,?_⟩;have n0_:=Aside0.mk (Kd.R_below (by (with_reducible repeat (first | apply Kd.R_alloc | apply Kd.R_drewN | apply Kd.R_drew));exact HO_4.out) hb);have n1_:=Aside0.mk (blk_below (g:=gb267) (o:=.cells #[.int .i64 x268000_1,.int .i64 x268001_1,.int .i64 x268002_1] 39 (0,0)) (by (with_reducible repeat (first | refine blk_drewN ?_ _ | refine blk_drew ?_ | refine blk_alloc ?_ _));exact BK267.out) hb);have n2_:=Aside0.mk (blk_below (g:=gb277) (o:=.cells #[.int .i64 t275,.int .i64 t276] 37 (0,0)) (by (with_reducible repeat (first | refine blk_drewN ?_ _ | refine blk_drew ?_ | refine blk_alloc ?_ _));exact BK277.out) hb);have n3_:=Aside0.mk (below_step (by repeat (first | (with_reducible first | exact HB.out | apply below_alloc | apply pw_below_drewN | apply below_drew1 | refine below_set ?_ GE267.out | refine below_set ?_ GE277.out) | exact HB.out)) hb);clear HO_4;clear BK267;clear BK277;clear HB;have HO_4:=n0_;have BK267:=n1_;have BK277:=n2_;have HB:=n3_;clear n0_ n1_ n2_ n3_;(try clear hb);(try clear hb2);(try clear hk);(try clear hi)) | ((with_reducible refine gate_callee (f:=34) rfl ?_);refine goesL_ (some 106) rfl rfl Tryd.func34 (by kernel_rfl) rfl #[.string (a0.extract ((ji65) : Int).toNat a0.size)] rfl (by (try simp only [List.map_toArray,List.map_cons,List.map_nil]);first | done | (simp only [hji65];rfl) | rfl | (simp only [List.length_drop,List.length_take];rfl)) ?_;(with_reducible refine (utf8_DecodeRuneInString.calls (a0.extract ((ji65) : Int).toNat a0.size) t290 t291 _ ?side1 A68.out).mono ?_);(case side1 => exact Tabs.below HG.out (by repeat (first | (with_reducible first | exact HB.out | apply below_alloc | apply pw_below_drewN | apply below_drew1 | refine below_set ?_ GE267.out | refine below_set ?_ GE277.out) | exact HB.out)));rintro e w95 ⟨rfl,hb⟩;refine ⟨_,rfl,?_⟩;have n0_:=Aside0.mk (Kd.R_below (by (with_reducible repeat (first | apply Kd.R_alloc | apply Kd.R_drewN | apply Kd.R_drew));exact HO_4.out) hb);have n1_:=Aside0.mk (blk_below (g:=gb267) (o:=.cells #[.int .i64 x268000_1,.int .i64 x268001_1,.int .i64 x268002_1] 39 (0,0)) (by (with_reducible repeat (first | refine blk_drewN ?_ _ | refine blk_drew ?_ | refine blk_alloc ?_ _));exact BK267.out) hb);have n2_:=Aside0.mk (blk_below (g:=gb277) (o:=.cells #[.int .i64 t275,.int .i64 t276] 37 (0,0)) (by (with_reducible repeat (first | refine blk_drewN ?_ _ | refine blk_drew ?_ | refine blk_alloc ?_ _));exact BK277.out) hb);have n3_:=Aside0.mk (below_step (by repeat (first | (with_reducible first | exact HB.out | apply below_alloc | apply pw_below_drewN | apply below_drew1 | refine below_set ?_ GE267.out | refine below_set ?_ GE277.out) | exact HB.out)) hb);clear HO_4;clear BK267;clear BK277;clear HB;have HO_4:=n0_;have BK267:=n1_;have BK277:=n2_;have HB:=n3_;clear n0_ n1_ n2_ n3_;(try clear hb);(try clear hb2);(try clear hk);(try clear hi)) | (go_at_call 40;(with_reducible refine (unicode_IsLetter.calls t290 true _ ?side1 A78.out).mono ?_);(case side1 => exact Tabs.below HG.out (by repeat (first | (with_reducible first | exact HB.out | apply below_alloc | apply pw_below_drewN | apply below_drew1 | refine below_set ?_ GE267.out | refine below_set ?_ GE277.out) | exact HB.out)));rintro e w96 ⟨rfl,hb⟩;have n0_:=Aside0.mk (Kd.R_below (by (with_reducible repeat (first | apply Kd.R_alloc | apply Kd.R_drewN | apply Kd.R_drew));exact HO_4.out) hb);have n1_:=Aside0.mk (blk_below (g:=gb267) (o:=.cells #[.int .i64 x268000_1,.int .i64 x268001_1,.int .i64 x268002_1] 39 (0,0)) (by (with_reducible repeat (first | refine blk_drewN ?_ _ | refine blk_drew ?_ | refine blk_alloc ?_ _));exact BK267.out) hb);have n2_:=Aside0.mk (blk_below (g:=gb277) (o:=.cells #[.int .i64 t275,.int .i64 t276] 37 (0,0)) (by (with_reducible repeat (first | refine blk_drewN ?_ _ | refine blk_drew ?_ | refine blk_alloc ?_ _));exact BK277.out) hb);have n3_:=Aside0.mk (below_step (by repeat (first | (with_reducible first | exact HB.out | apply below_alloc | apply pw_below_drewN | apply below_drew1 | refine below_set ?_ GE267.out | refine below_set ?_ GE277.out) | exact HB.out)) hb);clear HO_4;clear BK267;clear BK277;clear HB;have HO_4:=n0_;have BK267:=n1_;have BK277:=n2_;have HB:=n3_;clear n0_ n1_ n2_ n3_;(try clear hb);(try clear hb2);(try clear hk);(try clear hi)))
                        have n0_:=Aside0.mk (Kd.R_drew HO_4.out)
                        have n1_:=Aside0.mk (blk_drew BK267.out)
                        have n2_:=Aside0.mk (blk_drew BK277.out)
                        have n3_:=Aside0.mk (below_drew1 HB.out)
                        clear HO_4
                        clear BK267
                        clear BK277
                        clear HB
                        have HO_4:=n0_
                        have BK267:=n1_
                        have BK277:=n2_
                        have HB:=n3_
                        clear n0_ n1_ n2_ n3_
                        refine start_ (n:=13) (S:=fun w' => w'.cell? ⟨gb277,0,none⟩ = some (.int .i64 t275) ∧ w'.cell? ⟨gb277,1,none⟩ = some (.int .i64 t276)) (ds:=[]) #[false,false,false,false,false,false,false,false,false,false,false,false,false] (by kernel_rfl) rfl rfl ⟨(blk_cell BK277.out 0).trans rfl,(blk_cell BK277.out 1).trans rfl⟩ (fun hHeld => ?_);refine with_tabW joustref01_Tokens.tab30 joustref01_Tokens.bits30 (fun HT_ HW_ => ?_)
                        generalize w96.drew = w97 at HO_4 BK267 BK277 HB hHeld ⊢
                        refine pure_ (i:=0) (N:=some 130) (v:=?_) (a':=?_) #[true,false,false,false,false,false,false,false,false,false,false,false,false] rfl rfl (any_of HT_.out (by kernel_rfl)) (fun _ _ _ h => h) (Or.inl ⟨by rfl,?_⟩) ?_ ?_
                        rotate_left
                        ·intro w'
                         go_simp
                         with_reducible rfl
                        rotate_left
                        ·simp only [Act.put,List.setIfInBounds_toArray,List.set_cons_zero,List.set_cons_succ,i64_w,i32_w]
                         rfl
                        refine pure_ (i:=1) (N:=some 131) (v:=?_) (a':=?_) #[true,true,false,false,false,false,false,false,false,false,false,false,false] rfl rfl (any_of HT_.out (by kernel_rfl)) (fun _ _ _ h => h) (Or.inl ⟨by rfl,?_⟩) ?_ ?_
                        rotate_left
                        ·intro w'
                         go_simp
                         with_reducible rfl
                        rotate_left
                        ·simp only [Act.put,List.setIfInBounds_toArray,List.set_cons_zero,List.set_cons_succ,i64_w,i32_w]
                         rfl
                        refine pure_ (i:=2) (N:=some 132) (v:=?_) (a':=?_) #[true,true,true,false,false,false,false,false,false,false,false,false,false] rfl rfl (any_of HT_.out (by kernel_rfl)) (fun _ _ _ h => h) (Or.inl ⟨by rfl,?_⟩) ?_ ?_
                        rotate_left
                        ·intro w'
                         go_simp
                         with_reducible rfl
                        rotate_left
                        ·simp only [Act.put,List.setIfInBounds_toArray,List.set_cons_zero,List.set_cons_succ,i64_w,i32_w]
                         rfl
                        refine pure_ (i:=3) (N:=some 133) (v:=?_) (a':=?_) #[true,true,true,true,false,false,false,false,false,false,false,false,false] rfl rfl (any_of HT_.out (by kernel_rfl)) (fun _ _ _ h => h) (Or.inl ⟨by rfl,?_⟩) ?_ ?_
                        rotate_left
                        ·intro w'
                         go_simp
                         with_reducible rfl
                        rotate_left
                        ·simp only [Act.put,List.setIfInBounds_toArray,List.set_cons_zero,List.set_cons_succ,i64_w,i32_w]
                         rfl
                        refine pure_ (i:=4) (N:=some 134) (v:=?_) (a':=?_) #[true,true,true,true,true,false,false,false,false,false,false,false,false] rfl rfl (any_of HT_.out (by kernel_rfl)) (fun _ _ _ h => h) (Or.inl ⟨by rfl,?_⟩) ?_ ?_
                        rotate_left
                        ·intro w'
                         go_simp
                         with_reducible rfl
                        rotate_left
                        ·simp only [Act.put,List.setIfInBounds_toArray,List.set_cons_zero,List.set_cons_succ,i64_w,i32_w]
                         rfl
                        refine pure_ (i:=5) (N:=some 135) (v:=?_) (a':=?_) #[true,true,true,true,true,true,false,false,false,false,false,false,false] rfl rfl (any_of HT_.out (by kernel_rfl)) (fun _ _ _ h => h) (Or.inl ⟨by rfl,?_⟩) ?_ ?_
                        rotate_left
                        ·intro w'
                         go_simp
                         with_reducible rfl
                        rotate_left
                        ·simp only [Act.put,List.setIfInBounds_toArray,List.set_cons_zero,List.set_cons_succ,i64_w,i32_w]
                         rfl
                        refine pure_ (i:=6) (N:=some 136) (v:=?_) (a':=?_) #[true,true,true,true,true,true,true,false,false,false,false,false,false] rfl rfl (any_of HT_.out (by kernel_rfl)) (fun _ _ _ h => h) (Or.inl ⟨by rfl,?_⟩) ?_ ?_
                        rotate_left
                        ·intro w'
                         go_simp
                         with_reducible rfl
                        rotate_left
                        ·simp only [Act.put,List.setIfInBounds_toArray,List.set_cons_zero,List.set_cons_succ,i64_w,i32_w]
                         rfl
                        refine pure_ (i:=7) (N:=some 137) (v:=?_) (a':=?_) #[true,true,true,true,true,true,true,true,false,false,false,false,false] rfl rfl (any_of HT_.out (by kernel_rfl)) (fun _ _ _ h => h) (Or.inl ⟨by rfl,?_⟩) ?_ ?_
                        rotate_left
                        ·intro w'
                         go_simp
                         with_reducible rfl
                        rotate_left
                        ·simp only [Act.put,List.setIfInBounds_toArray,List.set_cons_zero,List.set_cons_succ,i64_w,i32_w]
                         rfl
                        refine take_ (i:=8) (N:=some 138) (v:=?_) (a':=?_) #[true,true,true,true,true,true,true,true,true,false,false,false,false] rfl rfl (take_ofW HT_.out HW_.out (by kernel_rfl)) (fun _ _ _ h => h) (Or.inl ⟨by rfl,?_⟩) hHeld ?_ ?_
                        rotate_left
                        ·rintro w' ⟨s0,s1⟩
                         go_simp
                         with_reducible rfl
                        rotate_left
                        ·simp only [Act.put,List.setIfInBounds_toArray,List.set_cons_zero,List.set_cons_succ,i64_w,i32_w]
                         rfl
                        refine pure_ (i:=9) (N:=some 139) (v:=?_) (a':=?_) #[true,true,true,true,true,true,true,true,true,true,false,false,false] rfl rfl (any_of HT_.out (by kernel_rfl)) (fun _ _ _ h => h) (Or.inl ⟨by rfl,?_⟩) ?_ ?_
                        rotate_left
                        ·intro w'
                         go_simp
                         with_reducible rfl
                        rotate_left
                        ·simp only [Act.put,List.setIfInBounds_toArray,List.set_cons_zero,List.set_cons_succ,i64_w,i32_w]
                         rfl
                        refine one_ (i:=10) (N:=some 140) #[true,true,true,true,true,true,true,true,true,true,true,false,false] rfl rfl (one_of HT_.out (by kernel_rfl)) (by decide) (fun K hK => ?_)
                        refine value_ (w1:=?_) (v:=?_) (by rfl) rfl ?_ ?_
                        rotate_left 2
                        ·go_simp
                         constructor
                         ·rfl
                         ·rfl
                        refine hK.out _ _ ⟨(blk_cell (blk_alloc BK277.out _) 0).trans rfl,(blk_cell (blk_alloc BK277.out _) 1).trans rfl⟩ (fun hHeld => ?_)
                        clear hK K
                        refine norm_ (a':=?_) ?_ ?_
                        rotate_left
                        ·show Act.put _ (some 140) _ = _
                         simp only [Act.put,List.setIfInBounds_toArray,List.set_cons_zero,List.set_cons_succ,i64_w,i32_w]
                         rfl
                        refine one_ (i:=11) (N:=some 141) #[true,true,true,true,true,true,true,true,true,true,true,true,false] rfl rfl (one_of HT_.out (by kernel_rfl)) (by decide) (fun K hK => ?_)
                        refine Kd.R_append_step k48 (w0:=w) w.heap.size (by rfl) (.tmp 130) (.tmp 140) 35 48 (.agg #[(.int .u8 0),(.string ⟨#[]⟩),(.int .i64 0),(.int .i64 0)]) 40 rfl Tryd.underlying35 info48 rfl (by decide) (by omega) u4 x4_1 (⟨2,a0.extract (x5_1 : Int).toNat ((ji65) : Int).toNat,(⟨t275,t276⟩ : S37)⟩ : S48) [.int .u8 2,.string (a0.extract (x5_1 : Int).toNat ((ji65) : Int).toNat),.int .i64 t275,.int .i64 t276] (fun _ => True) (fun _ => False) rfl rfl ?aP (fun _ hk => hk.elim) ?aF ?aO ?aB ?aS ?aL ?_
                        (case aP => exact k48_mkM _ _ _ (⟨2,a0.extract (x5_1 : Int).toNat ((ji65) : Int).toNat,(⟨t275,t276⟩ : S37)⟩ : S48))
                        (case aB => exact (by repeat (first | (with_reducible first | exact HB.out | apply below_alloc | apply pw_below_drewN | apply below_drew1 | refine below_set ?_ GE267.out | refine below_set ?_ GE277.out) | exact HB.out)))
                        (case aF => exact (fun _ _ => trivial))
                        (case aO => exact (by (with_reducible repeat (first | apply Kd.R_alloc | apply Kd.R_drewN | apply Kd.R_drew));exact HO_4.out))
                        (case aS => exact (below_size (by repeat (first | (with_reducible first | exact HB.out | apply below_alloc | apply pw_below_drewN | apply below_drew1 | refine below_set ?_ GE267.out | refine below_set ?_ GE277.out) | exact HB.out))))
                        (case aL => have:=LMc92.out;omega)
                        intro v294 w98 ho hb hg hat
                        rw [← Ny293.out] at ho
                        have n0_:=Aside0.mk (blk_grown (g:=gb267) (o:=.cells #[.int .i64 x268000_1,.int .i64 x268001_1,.int .i64 x268002_1] 39 (0,0)) (by (with_reducible repeat (first | refine blk_drewN ?_ _ | refine blk_drew ?_ | refine blk_alloc ?_ _));exact BK267.out) hg (Kd.R_ne HO_4.out BK267.out (by decide)))
                        have n1_:=Aside0.mk (blk_grown (g:=gb277) (o:=.cells #[.int .i64 t275,.int .i64 t276] 37 (0,0)) (by (with_reducible repeat (first | refine blk_drewN ?_ _ | refine blk_drew ?_ | refine blk_alloc ?_ _));exact BK277.out) hg (Kd.R_ne HO_4.out BK277.out (by decide)))
                        have n2_:=Aside0.mk (hb)
                        have n3_:=Aside0.mk (ho)
                        clear BK267
                        clear BK277
                        clear HB
                        clear HO_4
                        have BK267:=n0_
                        have BK277:=n1_
                        have HB:=n2_
                        have HO295:=n3_
                        clear n0_ n1_ n2_ n3_
                        clear ho hb hg hat
                        refine hK.out _ _ ⟨(blk_cell BK277.out 0).trans rfl,(blk_cell BK277.out 1).trans rfl⟩ (fun hHeld => ?_)
                        clear hK K
                        refine norm_ (a':=?_) ?_ ?_
                        rotate_left
                        ·show Act.put _ (some 141) _ = _
                         simp only [Act.put,List.setIfInBounds_toArray,List.set_cons_zero,List.set_cons_succ,i64_w,i32_w]
                         rfl
                        refine pure_ (i:=12) (N:=some 4) (v:=?_) (a':=?_) #[true,true,true,true,true,true,true,true,true,true,true,true,true] rfl rfl (any_of HT_.out (by kernel_rfl)) (fun _ _ _ h => h) (Or.inl ⟨by rfl,?_⟩) ?_ ?_
                        rotate_left
                        ·intro w'
                         go_simp
                         with_reducible rfl
                        rotate_left
                        ·simp only [Act.put,List.setIfInBounds_toArray,List.set_cons_zero,List.set_cons_succ,i64_w,i32_w]
                         rfl
                        refine done_ (done_of HT_.out (by kernel_rfl)) ?_
                        try go_wp2
                        go_roundg kj10
                        case measure => have:=HK1.out;have:=HJ10.out;omega
                        case rel => exact ⟨(y293),(ji65),(x268000_1),(x268001_1),(x268002_1),(by first | rfl | (simp;done) | (simp only [← hji65] <;> (first | rfl | simp)) | (simp [*];done)),H',⟨by have:=HK1.out;have:=HJ10.out;omega⟩,⟨by (with_reducible repeat (first | apply Kd.R_alloc | apply Kd.R_drewN | apply Kd.R_drew));exact HO295.out⟩,⟨by (with_reducible repeat (first | refine blk_drewN ?_ _ | refine blk_drew ?_ | refine blk_alloc ?_ _));exact BK267.out⟩,⟨by repeat (first | (with_reducible first | exact HB.out | apply below_alloc | apply pw_below_drewN | apply below_drew1 | refine below_set ?_ GE267.out | refine below_set ?_ GE277.out) | exact HB.out)⟩⟩
                       ·rw [if_neg c92] at H
                        exact absurd H (by simp)
                     ·replace c79:=Bool.eq_false_iff.mpr c79
                      subst c79
                      have H1 : (if x4_1.length < 3518437208883 then (joustref01_Tokens.l0 kj10 a0 (x4_1 ++ [(⟨2,a0.extract (x5_1 : Int).toNat ((ji65) : Int).toNat,(⟨t275,t276⟩ : S37)⟩ : S48)]) ji65) else (none)) = some (r1,r2,r3,r4):=by rw [if_neg (show ¬ (false = true) by decide)] at H;exact H
                      clear H
                      have H:=H1
                      clear H1
                      have c99b0:=eq_true (of_decide_eq_true (by first | (with_reducible assumption) | assumption) : 0 ≤ x5_1)
                      have c100b0:=eq_true (of_decide_eq_true (by first | (with_reducible assumption) | assumption) : x5_1 ≤ (ji65))
                      have c101b0:=eq_true (of_decide_eq_true (by first | (with_reducible assumption) | assumption) : (ji65) ≤ (a0.size : Int))
                      by_cases c102 : x4_1.length < 3518437208883
                      ·rw [if_pos c102] at H
                       have LMc102:=Aside0.mk c102
                       clear c102
                       obtain ⟨y296,hy296⟩ : ∃ y_ : List (S48),y_ = (x4_1 ++ [(⟨2,a0.extract (x5_1 : Int).toNat ((ji65) : Int).toNat,(⟨t275,t276⟩ : S37)⟩ : S48)]):=⟨_,rfl⟩
                       replace H : (joustref01_Tokens.l0 kj10 a0 y296 ji65) = some (r1,r2,r3,r4):=by first | (rw [hy296];with_reducible exact H) | (have H2_:=(Option.bind_some _ _).symm.trans H;rw [hy296];with_reducible exact H2_) | (have H2_:=(Option.bind_some _ _).symm.trans H;with_reducible exact H2_) | with_reducible exact H | (rw [hy296];exact H) | exact H
                       have Ny296:=Aside0.mk hy296
                       clear hy296
                       have H':=Aside0.mk H
                       clear H
                       try go_wp2_with (first | ((with_reducible refine gate_callee (f:=36) rfl ?_);refine goesL_ (some 75) rfl rfl Tryd.func36 (by kernel_rfl) rfl #[.string (a0.extract (x5_1 : Int).toNat a0.size)] rfl (by (try simp only [List.map_toArray,List.map_cons,List.map_nil]);first | done | rfl | (simp only [List.length_drop,List.length_take];rfl)) ?_;(with_reducible refine (joustref01_word.calls kj10 (a0.extract (x5_1 : Int).toNat a0.size) t282 t283 _ ?side1 A34.out).mono ?_);(case side1 => exact Tabs.below HG.out (by repeat (first | (with_reducible first | exact HB.out | apply below_alloc | apply pw_below_drewN | apply below_drew1 | refine below_set ?_ GE267.out | refine below_set ?_ GE277.out) | exact HB.out)));rintro e w103 ⟨rfl,hb⟩;refine ⟨_,rfl,?_⟩;have n0_:=Aside0.mk (Kd.R_below (by (with_reducible repeat (first | apply Kd.R_alloc | apply Kd.R_drewN | apply Kd.R_drew));exact HO_4.out) hb);have n1_:=Aside0.mk (blk_below (g:=gb267) (o:=.cells #[.int .i64 x268000_1,.int .i64 x268001_1,.int .i64 x268002_1] 39 (0,0)) (by (with_reducible repeat (first | refine blk_drewN ?_ _ | refine blk_drew ?_ | refine blk_alloc ?_ _));exact BK267.out) hb);have n2_:=Aside0.mk (blk_below (g:=gb277) (o:=.cells #[.int .i64 t275,.int .i64 t276] 37 (0,0)) (by (with_reducible repeat (first | refine blk_drewN ?_ _ | refine blk_drew ?_ | refine blk_alloc ?_ _));exact BK277.out) hb);have n3_:=Aside0.mk (below_step (by repeat (first | (with_reducible first | exact HB.out | apply below_alloc | apply pw_below_drewN | apply below_drew1 | refine below_set ?_ GE267.out | refine below_set ?_ GE277.out) | exact HB.out)) hb);clear HO_4;clear BK267;clear BK277;clear HB;have HO_4:=n0_;have BK267:=n1_;have BK277:=n2_;have HB:=n3_;clear n0_ n1_ n2_ n3_;(try clear hb);(try clear hb2);(try clear hk);(try clear hi)) | ((with_reducible refine gate_callee (f:=37) rfl ?_);refine goesL_ (some 86) rfl rfl Tryd.func37 (by kernel_rfl) rfl #[.int .i32 t273] rfl (by (try simp only [List.map_toArray,List.map_cons,List.map_nil]);first | done | rfl | (simp only [List.length_drop,List.length_take];rfl)) ?_;(with_reducible refine (joustref01_digit.calls t273 true _ A49.out).mono ?_);rintro e w' ⟨rfl,⟨nd,rfl⟩⟩;refine ⟨_,rfl,?_⟩) | ((with_reducible refine gate_callee (f:=38) rfl ?_);refine goesL_ (some 90) rfl rfl Tryd.func38 (by kernel_rfl) rfl #[.string (a0.extract (x5_1 : Int).toNat a0.size)] rfl (by (try simp only [List.map_toArray,List.map_cons,List.map_nil]);first | done | rfl | (simp only [List.length_drop,List.length_take];rfl)) ?_;(with_reducible refine (joustref01_number.calls kj10 (a0.extract (x5_1 : Int).toNat a0.size) t288 _ A53.out).mono ?_);rintro e w' ⟨rfl,⟨nd,rfl⟩⟩;refine ⟨_,rfl,?_⟩) | ((with_reducible refine gate_callee (f:=39) rfl ?_);refine goesL_ (some 97) rfl rfl Tryd.func39 (by kernel_rfl) rfl #[.string (a0.extract (x5_1 : Int).toNat ((ji65) : Int).toNat)] rfl (by (try simp only [List.map_toArray,List.map_cons,List.map_nil]);first | done | (simp only [hji65];rfl) | rfl | (simp only [List.length_drop,List.length_take];rfl)) ?_;(with_reducible refine (joustref01_great.calls kj10 (a0.extract (x5_1 : Int).toNat ((ji65) : Int).toNat) false _ A57.out).mono ?_);rintro e w104 ⟨rfl,hb⟩;refine ⟨_,rfl,?_⟩;have n0_:=Aside0.mk (Kd.R_below (by (with_reducible repeat (first | apply Kd.R_alloc | apply Kd.R_drewN | apply Kd.R_drew));exact HO_4.out) hb);have n1_:=Aside0.mk (blk_below (g:=gb267) (o:=.cells #[.int .i64 x268000_1,.int .i64 x268001_1,.int .i64 x268002_1] 39 (0,0)) (by (with_reducible repeat (first | refine blk_drewN ?_ _ | refine blk_drew ?_ | refine blk_alloc ?_ _));exact BK267.out) hb);have n2_:=Aside0.mk (blk_below (g:=gb277) (o:=.cells #[.int .i64 t275,.int .i64 t276] 37 (0,0)) (by (with_reducible repeat (first | refine blk_drewN ?_ _ | refine blk_drew ?_ | refine blk_alloc ?_ _));exact BK277.out) hb);have n3_:=Aside0.mk (below_step (by repeat (first | (with_reducible first | exact HB.out | apply below_alloc | apply pw_below_drewN | apply below_drew1 | refine below_set ?_ GE267.out | refine below_set ?_ GE277.out) | exact HB.out)) hb);clear HO_4;clear BK267;clear BK277;clear HB;have HO_4:=n0_;have BK267:=n1_;have BK277:=n2_;have HB:=n3_;clear n0_ n1_ n2_ n3_;(try clear hb);(try clear hb2);(try clear hk);(try clear hi)) | ((with_reducible refine gate_callee (f:=34) rfl ?_);refine goesL_ (some 106) rfl rfl Tryd.func34 (by kernel_rfl) rfl #[.string (a0.extract ((ji65) : Int).toNat a0.size)] rfl (by (try simp only [List.map_toArray,List.map_cons,List.map_nil]);first | done | (simp only [hji65];rfl) | rfl | (simp only [List.length_drop,List.length_take];rfl)) ?_;(with_reducible refine (utf8_DecodeRuneInString.calls (a0.extract ((ji65) : Int).toNat a0.size) t290 t291 _ ?side1 A68.out).mono ?_);(case side1 => exact Tabs.below HG.out (by repeat (first | (with_reducible first | exact HB.out | apply below_alloc | apply pw_below_drewN | apply below_drew1 | refine below_set ?_ GE267.out | refine below_set ?_ GE277.out) | exact HB.out)));rintro e w105 ⟨rfl,hb⟩;refine ⟨_,rfl,?_⟩;have n0_:=Aside0.mk (Kd.R_below (by (with_reducible repeat (first | apply Kd.R_alloc | apply Kd.R_drewN | apply Kd.R_drew));exact HO_4.out) hb);have n1_:=Aside0.mk (blk_below (g:=gb267) (o:=.cells #[.int .i64 x268000_1,.int .i64 x268001_1,.int .i64 x268002_1] 39 (0,0)) (by (with_reducible repeat (first | refine blk_drewN ?_ _ | refine blk_drew ?_ | refine blk_alloc ?_ _));exact BK267.out) hb);have n2_:=Aside0.mk (blk_below (g:=gb277) (o:=.cells #[.int .i64 t275,.int .i64 t276] 37 (0,0)) (by (with_reducible repeat (first | refine blk_drewN ?_ _ | refine blk_drew ?_ | refine blk_alloc ?_ _));exact BK277.out) hb);have n3_:=Aside0.mk (below_step (by repeat (first | (with_reducible first | exact HB.out | apply below_alloc | apply pw_below_drewN | apply below_drew1 | refine below_set ?_ GE267.out | refine below_set ?_ GE277.out) | exact HB.out)) hb);clear HO_4;clear BK267;clear BK277;clear HB;have HO_4:=n0_;have BK267:=n1_;have BK277:=n2_;have HB:=n3_;clear n0_ n1_ n2_ n3_;(try clear hb);(try clear hb2);(try clear hk);(try clear hi)) | (go_at_call 40;(with_reducible refine (unicode_IsLetter.calls t290 false _ ?side1 A78.out).mono ?_);(case side1 => exact Tabs.below HG.out (by repeat (first | (with_reducible first | exact HB.out | apply below_alloc | apply pw_below_drewN | apply below_drew1 | refine below_set ?_ GE267.out | refine below_set ?_ GE277.out) | exact HB.out)));rintro e w106 ⟨rfl,hb⟩;have n0_:=Aside0.mk (Kd.R_below (by (with_reducible repeat (first | apply Kd.R_alloc | apply Kd.R_drewN | apply Kd.R_drew));exact HO_4.out) hb);have n1_:=Aside0.mk (blk_below (g:=gb267) (o:=.cells #[.int .i64 x268000_1,.int .i64 x268001_1,.int .i64 x268002_1] 39 (0,0)) (by (with_reducible repeat (first | refine blk_drewN ?_ _ | refine blk_drew ?_ | refine blk_alloc ?_ _));exact BK267.out) hb);have n2_:=Aside0.mk (blk_below (g:=gb277) (o:=.cells #[.int .i64 t275,.int .i64 t276] 37 (0,0)) (by (with_reducible repeat (first | refine blk_drewN ?_ _ | refine blk_drew ?_ | refine blk_alloc ?_ _));exact BK277.out) hb);have n3_:=Aside0.mk (below_step (by repeat (first | (with_reducible first | exact HB.out | apply below_alloc | apply pw_below_drewN | apply below_drew1 | refine below_set ?_ GE267.out | refine below_set ?_ GE277.out) | exact HB.out)) hb);clear HO_4;clear BK267;clear BK277;clear HB;have HO_4:=n0_;have BK267:=n1_;have BK277:=n2_;have HB:=n3_;clear n0_ n1_ n2_ n3_;(try clear hb);(try clear hb2);(try clear hk);(try clear hi)))
                       have n0_:=Aside0.mk (Kd.R_drew HO_4.out)
                       have n1_:=Aside0.mk (blk_drew BK267.out)
                       have n2_:=Aside0.mk (blk_drew BK277.out)
                       have n3_:=Aside0.mk (below_drew1 HB.out)
                       clear HO_4
                       clear BK267
                       clear BK277
                       clear HB
                       have HO_4:=n0_
                       have BK267:=n1_
                       have BK277:=n2_
                       have HB:=n3_
                       clear n0_ n1_ n2_ n3_
                       refine start_ (n:=13) (S:=fun w' => w'.cell? ⟨gb277,0,none⟩ = some (.int .i64 t275) ∧ w'.cell? ⟨gb277,1,none⟩ = some (.int .i64 t276)) (ds:=[]) #[false,false,false,false,false,false,false,false,false,false,false,false,false] (by kernel_rfl) rfl rfl ⟨(blk_cell BK277.out 0).trans rfl,(blk_cell BK277.out 1).trans rfl⟩ (fun hHeld => ?_);refine with_tabW joustref01_Tokens.tab30 joustref01_Tokens.bits30 (fun HT_ HW_ => ?_)
                       generalize w106.drew = w107 at HO_4 BK267 BK277 HB hHeld ⊢
                       refine pure_ (i:=0) (N:=some 130) (v:=?_) (a':=?_) #[true,false,false,false,false,false,false,false,false,false,false,false,false] rfl rfl (any_of HT_.out (by kernel_rfl)) (fun _ _ _ h => h) (Or.inl ⟨by rfl,?_⟩) ?_ ?_
                       rotate_left
                       ·intro w'
                        go_simp
                        with_reducible rfl
                       rotate_left
                       ·simp only [Act.put,List.setIfInBounds_toArray,List.set_cons_zero,List.set_cons_succ,i64_w,i32_w]
                        rfl
                       refine pure_ (i:=1) (N:=some 131) (v:=?_) (a':=?_) #[true,true,false,false,false,false,false,false,false,false,false,false,false] rfl rfl (any_of HT_.out (by kernel_rfl)) (fun _ _ _ h => h) (Or.inl ⟨by rfl,?_⟩) ?_ ?_
                       rotate_left
                       ·intro w'
                        go_simp
                        with_reducible rfl
                       rotate_left
                       ·simp only [Act.put,List.setIfInBounds_toArray,List.set_cons_zero,List.set_cons_succ,i64_w,i32_w]
                        rfl
                       refine pure_ (i:=2) (N:=some 132) (v:=?_) (a':=?_) #[true,true,true,false,false,false,false,false,false,false,false,false,false] rfl rfl (any_of HT_.out (by kernel_rfl)) (fun _ _ _ h => h) (Or.inl ⟨by rfl,?_⟩) ?_ ?_
                       rotate_left
                       ·intro w'
                        go_simp
                        with_reducible rfl
                       rotate_left
                       ·simp only [Act.put,List.setIfInBounds_toArray,List.set_cons_zero,List.set_cons_succ,i64_w,i32_w]
                        rfl
                       refine pure_ (i:=3) (N:=some 133) (v:=?_) (a':=?_) #[true,true,true,true,false,false,false,false,false,false,false,false,false] rfl rfl (any_of HT_.out (by kernel_rfl)) (fun _ _ _ h => h) (Or.inl ⟨by rfl,?_⟩) ?_ ?_
                       rotate_left
                       ·intro w'
                        go_simp
                        with_reducible rfl
                       rotate_left
                       ·simp only [Act.put,List.setIfInBounds_toArray,List.set_cons_zero,List.set_cons_succ,i64_w,i32_w]
                        rfl
                       refine pure_ (i:=4) (N:=some 134) (v:=?_) (a':=?_) #[true,true,true,true,true,false,false,false,false,false,false,false,false] rfl rfl (any_of HT_.out (by kernel_rfl)) (fun _ _ _ h => h) (Or.inl ⟨by rfl,?_⟩) ?_ ?_
                       rotate_left
                       ·intro w'
                        go_simp
                        with_reducible rfl
                       rotate_left
                       ·simp only [Act.put,List.setIfInBounds_toArray,List.set_cons_zero,List.set_cons_succ,i64_w,i32_w]
                        rfl
                       refine pure_ (i:=5) (N:=some 135) (v:=?_) (a':=?_) #[true,true,true,true,true,true,false,false,false,false,false,false,false] rfl rfl (any_of HT_.out (by kernel_rfl)) (fun _ _ _ h => h) (Or.inl ⟨by rfl,?_⟩) ?_ ?_
                       rotate_left
                       ·intro w'
                        go_simp
                        with_reducible rfl
                       rotate_left
                       ·simp only [Act.put,List.setIfInBounds_toArray,List.set_cons_zero,List.set_cons_succ,i64_w,i32_w]
                        rfl
                       refine pure_ (i:=6) (N:=some 136) (v:=?_) (a':=?_) #[true,true,true,true,true,true,true,false,false,false,false,false,false] rfl rfl (any_of HT_.out (by kernel_rfl)) (fun _ _ _ h => h) (Or.inl ⟨by rfl,?_⟩) ?_ ?_
                       rotate_left
                       ·intro w'
                        go_simp
                        with_reducible rfl
                       rotate_left
                       ·simp only [Act.put,List.setIfInBounds_toArray,List.set_cons_zero,List.set_cons_succ,i64_w,i32_w]
                        rfl
                       refine pure_ (i:=7) (N:=some 137) (v:=?_) (a':=?_) #[true,true,true,true,true,true,true,true,false,false,false,false,false] rfl rfl (any_of HT_.out (by kernel_rfl)) (fun _ _ _ h => h) (Or.inl ⟨by rfl,?_⟩) ?_ ?_
                       rotate_left
                       ·intro w'
                        go_simp
                        with_reducible rfl
                       rotate_left
                       ·simp only [Act.put,List.setIfInBounds_toArray,List.set_cons_zero,List.set_cons_succ,i64_w,i32_w]
                        rfl
                       refine take_ (i:=8) (N:=some 138) (v:=?_) (a':=?_) #[true,true,true,true,true,true,true,true,true,false,false,false,false] rfl rfl (take_ofW HT_.out HW_.out (by kernel_rfl)) (fun _ _ _ h => h) (Or.inl ⟨by rfl,?_⟩) hHeld ?_ ?_
                       rotate_left
                       ·rintro w' ⟨s0,s1⟩
                        go_simp
                        with_reducible rfl
                       rotate_left
                       ·simp only [Act.put,List.setIfInBounds_toArray,List.set_cons_zero,List.set_cons_succ,i64_w,i32_w]
                        rfl
                       refine pure_ (i:=9) (N:=some 139) (v:=?_) (a':=?_) #[true,true,true,true,true,true,true,true,true,true,false,false,false] rfl rfl (any_of HT_.out (by kernel_rfl)) (fun _ _ _ h => h) (Or.inl ⟨by rfl,?_⟩) ?_ ?_
                       rotate_left
                       ·intro w'
                        go_simp
                        with_reducible rfl
                       rotate_left
                       ·simp only [Act.put,List.setIfInBounds_toArray,List.set_cons_zero,List.set_cons_succ,i64_w,i32_w]
                        rfl
                       refine one_ (i:=10) (N:=some 140) #[true,true,true,true,true,true,true,true,true,true,true,false,false] rfl rfl (one_of HT_.out (by kernel_rfl)) (by decide) (fun K hK => ?_)
                       refine value_ (w1:=?_) (v:=?_) (by rfl) rfl ?_ ?_
                       rotate_left 2
                       ·go_simp
                        constructor
                        ·rfl
                        ·rfl
                       refine hK.out _ _ ⟨(blk_cell (blk_alloc BK277.out _) 0).trans rfl,(blk_cell (blk_alloc BK277.out _) 1).trans rfl⟩ (fun hHeld => ?_)
                       clear hK K
                       refine norm_ (a':=?_) ?_ ?_
                       rotate_left
                       ·show Act.put _ (some 140) _ = _
                        simp only [Act.put,List.setIfInBounds_toArray,List.set_cons_zero,List.set_cons_succ,i64_w,i32_w]
                        rfl
                       refine one_ (i:=11) (N:=some 141) #[true,true,true,true,true,true,true,true,true,true,true,true,false] rfl rfl (one_of HT_.out (by kernel_rfl)) (by decide) (fun K hK => ?_)
                       refine Kd.R_append_step k48 (w0:=w) w.heap.size (by rfl) (.tmp 130) (.tmp 140) 35 48 (.agg #[(.int .u8 0),(.string ⟨#[]⟩),(.int .i64 0),(.int .i64 0)]) 40 rfl Tryd.underlying35 info48 rfl (by decide) (by omega) u4 x4_1 (⟨2,a0.extract (x5_1 : Int).toNat ((ji65) : Int).toNat,(⟨t275,t276⟩ : S37)⟩ : S48) [.int .u8 2,.string (a0.extract (x5_1 : Int).toNat ((ji65) : Int).toNat),.int .i64 t275,.int .i64 t276] (fun _ => True) (fun _ => False) rfl rfl ?aP (fun _ hk => hk.elim) ?aF ?aO ?aB ?aS ?aL ?_
                       (case aP => exact k48_mkM _ _ _ (⟨2,a0.extract (x5_1 : Int).toNat ((ji65) : Int).toNat,(⟨t275,t276⟩ : S37)⟩ : S48))
                       (case aB => exact (by repeat (first | (with_reducible first | exact HB.out | apply below_alloc | apply pw_below_drewN | apply below_drew1 | refine below_set ?_ GE267.out | refine below_set ?_ GE277.out) | exact HB.out)))
                       (case aF => exact (fun _ _ => trivial))
                       (case aO => exact (by (with_reducible repeat (first | apply Kd.R_alloc | apply Kd.R_drewN | apply Kd.R_drew));exact HO_4.out))
                       (case aS => exact (below_size (by repeat (first | (with_reducible first | exact HB.out | apply below_alloc | apply pw_below_drewN | apply below_drew1 | refine below_set ?_ GE267.out | refine below_set ?_ GE277.out) | exact HB.out))))
                       (case aL => have:=LMc102.out;omega)
                       intro v297 w108 ho hb hg hat
                       rw [← Ny296.out] at ho
                       have n0_:=Aside0.mk (blk_grown (g:=gb267) (o:=.cells #[.int .i64 x268000_1,.int .i64 x268001_1,.int .i64 x268002_1] 39 (0,0)) (by (with_reducible repeat (first | refine blk_drewN ?_ _ | refine blk_drew ?_ | refine blk_alloc ?_ _));exact BK267.out) hg (Kd.R_ne HO_4.out BK267.out (by decide)))
                       have n1_:=Aside0.mk (blk_grown (g:=gb277) (o:=.cells #[.int .i64 t275,.int .i64 t276] 37 (0,0)) (by (with_reducible repeat (first | refine blk_drewN ?_ _ | refine blk_drew ?_ | refine blk_alloc ?_ _));exact BK277.out) hg (Kd.R_ne HO_4.out BK277.out (by decide)))
                       have n2_:=Aside0.mk (hb)
                       have n3_:=Aside0.mk (ho)
                       clear BK267
                       clear BK277
                       clear HB
                       clear HO_4
                       have BK267:=n0_
                       have BK277:=n1_
                       have HB:=n2_
                       have HO298:=n3_
                       clear n0_ n1_ n2_ n3_
                       clear ho hb hg hat
                       refine hK.out _ _ ⟨(blk_cell BK277.out 0).trans rfl,(blk_cell BK277.out 1).trans rfl⟩ (fun hHeld => ?_)
                       clear hK K
                       refine norm_ (a':=?_) ?_ ?_
                       rotate_left
                       ·show Act.put _ (some 141) _ = _
                        simp only [Act.put,List.setIfInBounds_toArray,List.set_cons_zero,List.set_cons_succ,i64_w,i32_w]
                        rfl
                       refine pure_ (i:=12) (N:=some 4) (v:=?_) (a':=?_) #[true,true,true,true,true,true,true,true,true,true,true,true,true] rfl rfl (any_of HT_.out (by kernel_rfl)) (fun _ _ _ h => h) (Or.inl ⟨by rfl,?_⟩) ?_ ?_
                       rotate_left
                       ·intro w'
                        go_simp
                        with_reducible rfl
                       rotate_left
                       ·simp only [Act.put,List.setIfInBounds_toArray,List.set_cons_zero,List.set_cons_succ,i64_w,i32_w]
                        rfl
                       refine done_ (done_of HT_.out (by kernel_rfl)) ?_
                       try go_wp2
                       go_roundg kj10
                       case measure => have:=HK1.out;have:=HJ10.out;omega
                       case rel => exact ⟨(y296),(ji65),(x268000_1),(x268001_1),(x268002_1),(by first | rfl | (simp;done) | (simp only [← hji65] <;> (first | rfl | simp)) | (simp [*];done)),H',⟨by have:=HK1.out;have:=HJ10.out;omega⟩,⟨by (with_reducible repeat (first | apply Kd.R_alloc | apply Kd.R_drewN | apply Kd.R_drew));exact HO298.out⟩,⟨by (with_reducible repeat (first | refine blk_drewN ?_ _ | refine blk_drew ?_ | refine blk_alloc ?_ _));exact BK267.out⟩,⟨by repeat (first | (with_reducible first | exact HB.out | apply below_alloc | apply pw_below_drewN | apply below_drew1 | refine below_set ?_ GE267.out | refine below_set ?_ GE277.out) | exact HB.out)⟩⟩
                      ·rw [if_neg c102] at H
                       exact absurd H (by simp)
                   ·rw [if_neg c69] at H
                    have c69b0 : decide (1 < t288) = false:=decide_eq_false c69
                    clear c69
                    replace H:=Option.bind_eq_some_iff.mp H
                    obtain ⟨t299,A1090,H⟩:=H
                    replace H : (if t299 = true then (if t291 > 0 then (some (([] : List (S48)),5,t275,t276)) else (if x4_1.length < 3518437208883 then (joustref01_Tokens.l0 kj10 a0 (x4_1 ++ [(⟨2,a0.extract (x5_1 : Int).toNat ((ji65) : Int).toNat,(⟨t275,t276⟩ : S37)⟩ : S48)]) ji65) else (none))) else (if x4_1.length < 3518437208883 then (joustref01_Tokens.l0 kj10 a0 (x4_1 ++ [(⟨2,a0.extract (x5_1 : Int).toNat ((ji65) : Int).toNat,(⟨t275,t276⟩ : S37)⟩ : S48)]) ji65) else (none))) = some (r1,r2,r3,r4):=H
                    have A109:=Aside0.mk A1090
                    clear A1090
                    by_cases c110 : t299 = true
                    ·subst c110
                     have H1 : (if t291 > 0 then (some (([] : List (S48)),5,t275,t276)) else (if x4_1.length < 3518437208883 then (joustref01_Tokens.l0 kj10 a0 (x4_1 ++ [(⟨2,a0.extract (x5_1 : Int).toNat ((ji65) : Int).toNat,(⟨t275,t276⟩ : S37)⟩ : S48)]) ji65) else (none))) = some (r1,r2,r3,r4):=by rw [if_pos rfl] at H;exact H
                     clear H
                     have H:=H1
                     clear H1
                     by_cases c111 : t291 > 0
                     ·rw [if_pos c111] at H
                      have c111b0 : decide (0 < t291) = true:=decide_eq_true c111
                      clear c111
                      simp only [Option.some.injEq,Prod.mk.injEq] at H
                      obtain ⟨rfl,rfl,rfl,rfl⟩:=H
                      try go_wp2_with (first | ((with_reducible refine gate_callee (f:=36) rfl ?_);refine goesL_ (some 75) rfl rfl Tryd.func36 (by kernel_rfl) rfl #[.string (a0.extract (x5_1 : Int).toNat a0.size)] rfl (by (try simp only [List.map_toArray,List.map_cons,List.map_nil]);first | done | rfl | (simp only [List.length_drop,List.length_take];rfl)) ?_;(with_reducible refine (joustref01_word.calls kj10 (a0.extract (x5_1 : Int).toNat a0.size) t282 t283 _ ?side1 A34.out).mono ?_);(case side1 => exact Tabs.below HG.out (by repeat (first | (with_reducible first | exact HB.out | apply below_alloc | apply pw_below_drewN | apply below_drew1 | refine below_set ?_ GE267.out | refine below_set ?_ GE277.out) | exact HB.out)));rintro e w112 ⟨rfl,hb⟩;refine ⟨_,rfl,?_⟩;have n0_:=Aside0.mk (Kd.R_below (by (with_reducible repeat (first | apply Kd.R_alloc | apply Kd.R_drewN | apply Kd.R_drew));exact HO_4.out) hb);have n1_:=Aside0.mk (blk_below (g:=gb267) (o:=.cells #[.int .i64 x268000_1,.int .i64 x268001_1,.int .i64 x268002_1] 39 (0,0)) (by (with_reducible repeat (first | refine blk_drewN ?_ _ | refine blk_drew ?_ | refine blk_alloc ?_ _));exact BK267.out) hb);have n2_:=Aside0.mk (blk_below (g:=gb277) (o:=.cells #[.int .i64 t275,.int .i64 t276] 37 (0,0)) (by (with_reducible repeat (first | refine blk_drewN ?_ _ | refine blk_drew ?_ | refine blk_alloc ?_ _));exact BK277.out) hb);have n3_:=Aside0.mk (below_step (by repeat (first | (with_reducible first | exact HB.out | apply below_alloc | apply pw_below_drewN | apply below_drew1 | refine below_set ?_ GE267.out | refine below_set ?_ GE277.out) | exact HB.out)) hb);clear HO_4;clear BK267;clear BK277;clear HB;have HO_4:=n0_;have BK267:=n1_;have BK277:=n2_;have HB:=n3_;clear n0_ n1_ n2_ n3_;(try clear hb);(try clear hb2);(try clear hk);(try clear hi)) | ((with_reducible refine gate_callee (f:=37) rfl ?_);refine goesL_ (some 86) rfl rfl Tryd.func37 (by kernel_rfl) rfl #[.int .i32 t273] rfl (by (try simp only [List.map_toArray,List.map_cons,List.map_nil]);first | done | rfl | (simp only [List.length_drop,List.length_take];rfl)) ?_;(with_reducible refine (joustref01_digit.calls t273 true _ A49.out).mono ?_);rintro e w' ⟨rfl,⟨nd,rfl⟩⟩;refine ⟨_,rfl,?_⟩;(try (rw [drewN_self w112];generalize hq_ : World.drewN w112 _ = w112;have n0_ : Aside0 (Kd.R k48 48 w112 w.heap.size (fun _ => True) u4 x4_1):=⟨by rw [← hq_];exact (by (with_reducible repeat (first | apply Kd.R_alloc | apply Kd.R_drewN | apply Kd.R_drew));exact HO_4.out)⟩;have n1_ : Aside0 (w112.heap[gb267]? = some (.cells #[.int .i64 x268000_1,.int .i64 x268001_1,.int .i64 x268002_1] 39 (0,0))):=⟨by rw [← hq_];exact (by (with_reducible repeat (first | refine blk_drewN ?_ _ | refine blk_drew ?_ | refine blk_alloc ?_ _));exact BK267.out)⟩;have n2_ : Aside0 (w112.heap[gb277]? = some (.cells #[.int .i64 t275,.int .i64 t276] 37 (0,0))):=⟨by rw [← hq_];exact (by (with_reducible repeat (first | refine blk_drewN ?_ _ | refine blk_drew ?_ | refine blk_alloc ?_ _));exact BK277.out)⟩;have n3_ : Aside0 (Below w.heap.size w w112):=⟨by rw [← hq_];exact (by repeat (first | (with_reducible first | exact HB.out | apply below_alloc | apply pw_below_drewN | apply below_drew1 | refine below_set ?_ GE267.out | refine below_set ?_ GE277.out) | exact HB.out))⟩;clear HO_4 BK267 BK277 HB hq_;have HO_4:=n0_;have BK267:=n1_;have BK277:=n2_;have HB:=n3_;clear n0_ n1_ n2_ n3_))) | ((with_reducible refine gate_callee (f:=38) rfl ?_);refine goesL_ (some 90) rfl rfl Tryd.func38 (by kernel_rfl) rfl #[.string (a0.extract (x5_1 : Int).toNat a0.size)] rfl (by (try simp only [List.map_toArray,List.map_cons,List.map_nil]);first | done | rfl | (simp only [List.length_drop,List.length_take];rfl)) ?_;(with_reducible refine (joustref01_number.calls kj10 (a0.extract (x5_1 : Int).toNat a0.size) t288 _ A53.out).mono ?_);rintro e w' ⟨rfl,⟨nd,rfl⟩⟩;refine ⟨_,rfl,?_⟩;(try (rw [drewN_self w112];generalize hq_ : World.drewN w112 _ = w112;have n0_ : Aside0 (Kd.R k48 48 w112 w.heap.size (fun _ => True) u4 x4_1):=⟨by rw [← hq_];exact (by (with_reducible repeat (first | apply Kd.R_alloc | apply Kd.R_drewN | apply Kd.R_drew));exact HO_4.out)⟩;have n1_ : Aside0 (w112.heap[gb267]? = some (.cells #[.int .i64 x268000_1,.int .i64 x268001_1,.int .i64 x268002_1] 39 (0,0))):=⟨by rw [← hq_];exact (by (with_reducible repeat (first | refine blk_drewN ?_ _ | refine blk_drew ?_ | refine blk_alloc ?_ _));exact BK267.out)⟩;have n2_ : Aside0 (w112.heap[gb277]? = some (.cells #[.int .i64 t275,.int .i64 t276] 37 (0,0))):=⟨by rw [← hq_];exact (by (with_reducible repeat (first | refine blk_drewN ?_ _ | refine blk_drew ?_ | refine blk_alloc ?_ _));exact BK277.out)⟩;have n3_ : Aside0 (Below w.heap.size w w112):=⟨by rw [← hq_];exact (by repeat (first | (with_reducible first | exact HB.out | apply below_alloc | apply pw_below_drewN | apply below_drew1 | refine below_set ?_ GE267.out | refine below_set ?_ GE277.out) | exact HB.out))⟩;clear HO_4 BK267 BK277 HB hq_;have HO_4:=n0_;have BK267:=n1_;have BK277:=n2_;have HB:=n3_;clear n0_ n1_ n2_ n3_))) | ((with_reducible refine gate_callee (f:=39) rfl ?_);refine goesL_ (some 97) rfl rfl Tryd.func39 (by kernel_rfl) rfl #[.string (a0.extract (x5_1 : Int).toNat ((ji65) : Int).toNat)] rfl (by (try simp only [List.map_toArray,List.map_cons,List.map_nil]);first | done | (simp only [hji65];rfl) | rfl | (simp only [List.length_drop,List.length_take];rfl)) ?_;(with_reducible refine (joustref01_great.calls kj10 (a0.extract (x5_1 : Int).toNat ((ji65) : Int).toNat) false _ A57.out).mono ?_);rintro e w113 ⟨rfl,hb⟩;refine ⟨_,rfl,?_⟩;have n0_:=Aside0.mk (Kd.R_below (by (with_reducible repeat (first | apply Kd.R_alloc | apply Kd.R_drewN | apply Kd.R_drew));exact HO_4.out) hb);have n1_:=Aside0.mk (blk_below (g:=gb267) (o:=.cells #[.int .i64 x268000_1,.int .i64 x268001_1,.int .i64 x268002_1] 39 (0,0)) (by (with_reducible repeat (first | refine blk_drewN ?_ _ | refine blk_drew ?_ | refine blk_alloc ?_ _));exact BK267.out) hb);have n2_:=Aside0.mk (blk_below (g:=gb277) (o:=.cells #[.int .i64 t275,.int .i64 t276] 37 (0,0)) (by (with_reducible repeat (first | refine blk_drewN ?_ _ | refine blk_drew ?_ | refine blk_alloc ?_ _));exact BK277.out) hb);have n3_:=Aside0.mk (below_step (by repeat (first | (with_reducible first | exact HB.out | apply below_alloc | apply pw_below_drewN | apply below_drew1 | refine below_set ?_ GE267.out | refine below_set ?_ GE277.out) | exact HB.out)) hb);clear HO_4;clear BK267;clear BK277;clear HB;have HO_4:=n0_;have BK267:=n1_;have BK277:=n2_;have HB:=n3_;clear n0_ n1_ n2_ n3_;(try clear hb);(try clear hb2);(try clear hk);(try clear hi)) | ((with_reducible refine gate_callee (f:=34) rfl ?_);refine goesL_ (some 106) rfl rfl Tryd.func34 (by kernel_rfl) rfl #[.string (a0.extract ((ji65) : Int).toNat a0.size)] rfl (by (try simp only [List.map_toArray,List.map_cons,List.map_nil]);first | done | (simp only [hji65];rfl) | rfl | (simp only [List.length_drop,List.length_take];rfl)) ?_;(with_reducible refine (utf8_DecodeRuneInString.calls (a0.extract ((ji65) : Int).toNat a0.size) t290 t291 _ ?side1 A68.out).mono ?_);(case side1 => exact Tabs.below HG.out (by repeat (first | (with_reducible first | exact HB.out | apply below_alloc | apply pw_below_drewN | apply below_drew1 | refine below_set ?_ GE267.out | refine below_set ?_ GE277.out) | exact HB.out)));rintro e w114 ⟨rfl,hb⟩;refine ⟨_,rfl,?_⟩;have n0_:=Aside0.mk (Kd.R_below (by (with_reducible repeat (first | apply Kd.R_alloc | apply Kd.R_drewN | apply Kd.R_drew));exact HO_4.out) hb);have n1_:=Aside0.mk (blk_below (g:=gb267) (o:=.cells #[.int .i64 x268000_1,.int .i64 x268001_1,.int .i64 x268002_1] 39 (0,0)) (by (with_reducible repeat (first | refine blk_drewN ?_ _ | refine blk_drew ?_ | refine blk_alloc ?_ _));exact BK267.out) hb);have n2_:=Aside0.mk (blk_below (g:=gb277) (o:=.cells #[.int .i64 t275,.int .i64 t276] 37 (0,0)) (by (with_reducible repeat (first | refine blk_drewN ?_ _ | refine blk_drew ?_ | refine blk_alloc ?_ _));exact BK277.out) hb);have n3_:=Aside0.mk (below_step (by repeat (first | (with_reducible first | exact HB.out | apply below_alloc | apply pw_below_drewN | apply below_drew1 | refine below_set ?_ GE267.out | refine below_set ?_ GE277.out) | exact HB.out)) hb);clear HO_4;clear BK267;clear BK277;clear HB;have HO_4:=n0_;have BK267:=n1_;have BK277:=n2_;have HB:=n3_;clear n0_ n1_ n2_ n3_;(try clear hb);(try clear hb2);(try clear hk);(try clear hi)) | (go_at_call 40;(with_reducible refine (unicode_IsLetter.calls t290 true _ ?side1 A109.out).mono ?_);(case side1 => exact Tabs.below HG.out (by repeat (first | (with_reducible first | exact HB.out | apply below_alloc | apply pw_below_drewN | apply below_drew1 | refine below_set ?_ GE267.out | refine below_set ?_ GE277.out) | exact HB.out)));rintro e w115 ⟨rfl,hb⟩;have n0_:=Aside0.mk (Kd.R_below (by (with_reducible repeat (first | apply Kd.R_alloc | apply Kd.R_drewN | apply Kd.R_drew));exact HO_4.out) hb);have n1_:=Aside0.mk (blk_below (g:=gb267) (o:=.cells #[.int .i64 x268000_1,.int .i64 x268001_1,.int .i64 x268002_1] 39 (0,0)) (by (with_reducible repeat (first | refine blk_drewN ?_ _ | refine blk_drew ?_ | refine blk_alloc ?_ _));exact BK267.out) hb);have n2_:=Aside0.mk (blk_below (g:=gb277) (o:=.cells #[.int .i64 t275,.int .i64 t276] 37 (0,0)) (by (with_reducible repeat (first | refine blk_drewN ?_ _ | refine blk_drew ?_ | refine blk_alloc ?_ _));exact BK277.out) hb);have n3_:=Aside0.mk (below_step (by repeat (first | (with_reducible first | exact HB.out | apply below_alloc | apply pw_below_drewN | apply below_drew1 | refine below_set ?_ GE267.out | refine below_set ?_ GE277.out) | exact HB.out)) hb);clear HO_4;clear BK267;clear BK277;clear HB;have HO_4:=n0_;have BK267:=n1_;have BK277:=n2_;have HB:=n3_;clear n0_ n1_ n2_ n3_;(try clear hb);(try clear hb2);(try clear hk);(try clear hi)))
                      have n0_:=Aside0.mk (Kd.R_drew HO_4.out)
                      have n1_:=Aside0.mk (blk_drew BK267.out)
                      have n2_:=Aside0.mk (blk_drew BK277.out)
                      have n3_:=Aside0.mk (below_drew1 HB.out)
                      clear HO_4
                      clear BK267
                      clear BK277
                      clear HB
                      have HO_4:=n0_
                      have BK267:=n1_
                      have BK277:=n2_
                      have HB:=n3_
                      clear n0_ n1_ n2_ n3_
                      refine start_ (n:=4) (S:=fun w' => w'.cell? ⟨gb277,0,none⟩ = some (.int .i64 t275) ∧ w'.cell? ⟨gb277,1,none⟩ = some (.int .i64 t276)) (ds:=[]) #[false,false,false,false] (by kernel_rfl) rfl rfl ⟨(blk_cell BK277.out 0).trans rfl,(blk_cell BK277.out 1).trans rfl⟩ (fun hHeld => ?_)
                      generalize w115.drew = w116 at HO_4 BK267 BK277 HB hHeld ⊢
                      refine pure_ (i:=2) (N:=some 2) (v:=?_) (a':=?_) #[false,false,true,false] rfl rfl (by kernel_rfl) (fun _ _ _ h => h) (Or.inl ⟨by rfl,?_⟩) ?_ ?_
                      rotate_left
                      ·intro w'
                       go_simp
                       with_reducible rfl
                      rotate_left
                      ·simp only [Act.put,List.setIfInBounds_toArray,List.set_cons_zero,List.set_cons_succ,i64_w,i32_w]
                       rfl
                      refine take_ (i:=0) (N:=some 123) (v:=?_) (a':=?_) #[true,false,true,false] rfl rfl (by kernel_rfl) (fun _ _ _ h => h) (Or.inl ⟨by rfl,?_⟩) hHeld ?_ ?_
                      rotate_left
                      ·rintro w' ⟨s0,s1⟩
                       go_simp
                       with_reducible rfl
                      rotate_left
                      ·simp only [Act.put,List.setIfInBounds_toArray,List.set_cons_zero,List.set_cons_succ,i64_w,i32_w]
                       rfl
                      refine pure_ (i:=1) (N:=some 124) (v:=?_) (a':=?_) #[true,true,true,false] rfl rfl (by kernel_rfl) (fun _ _ _ h => h) (Or.inl ⟨by rfl,?_⟩) ?_ ?_
                      rotate_left
                      ·intro w'
                       go_simp
                       with_reducible rfl
                      rotate_left
                      ·simp only [Act.put,List.setIfInBounds_toArray,List.set_cons_zero,List.set_cons_succ,i64_w,i32_w]
                       rfl
                      refine one_ (i:=3) (N:=none) #[true,true,true,true] rfl rfl (by kernel_rfl) (by decide) (fun K hK => ?_)
                      have hs117 : w116.cell? ⟨gb267,0,none⟩ = some (.int .i64 x268000_1):=(blk_cell BK267.out 0).trans rfl
                      have hfs117:=blk_frozen BK267.out 0
                      have hns117_1:=NB277_267.out
                      have hms117_1:=NB267_277.out
                      have hs118 : w116.cell? ⟨gb267,1,none⟩ = some (.int .i64 x268001_1):=(blk_cell BK267.out 1).trans rfl
                      have hfs118:=blk_frozen BK267.out 1
                      have hns118_1:=NB277_267.out
                      have hms118_1:=NB267_277.out
                      have hs119 : w116.cell? ⟨gb267,2,none⟩ = some (.int .i64 x268002_1):=(blk_cell BK267.out 2).trans rfl
                      have hfs119:=blk_frozen BK267.out 2
                      have hns119_1:=NB277_267.out
                      have hms119_1:=NB267_277.out
                      refine skip_ (w1:=?_) (by rfl) rfl ?_ ?_
                      rotate_left
                      ·go_simp
                       rfl
                      refine hK.out _ _ ⟨((cell_far (p:=⟨gb267,_,none⟩) NB277_267.out _).trans (((cell_far (p:=⟨gb267,_,none⟩) NB277_267.out _).trans (((cell_far (p:=⟨gb267,_,none⟩) NB277_267.out _).trans (hHeld.1)))))),((cell_far (p:=⟨gb267,_,none⟩) NB277_267.out _).trans (((cell_far (p:=⟨gb267,_,none⟩) NB277_267.out _).trans (((cell_far (p:=⟨gb267,_,none⟩) NB277_267.out _).trans (hHeld.2))))))⟩ (fun hHeld => ?_)
                      clear hK K
                      refine done_ (by kernel_rfl) ?_
                      try go_wp2
                      refine bodyPost_ret (results_tc rfl _ _ gb267 39 #[.int .i64 5,.int .i64 t275,.int .i64 t276] (0,0) _ rfl (by (with_reducible repeat (first | refine blk_drewN ?_ _ | refine blk_drew ?_ | refine blk_alloc ?_ _));refine blk_put (cs:=#[.int .i64 5,.int .i64 t275,.int .i64 x268002_1]) ?_ 2 _ rfl;(with_reducible repeat (first | refine blk_drewN ?_ _ | refine blk_drew ?_ | refine blk_alloc ?_ _));refine blk_put (cs:=#[.int .i64 5,.int .i64 x268001_1,.int .i64 x268002_1]) ?_ 1 _ rfl;(with_reducible repeat (first | refine blk_drewN ?_ _ | refine blk_drew ?_ | refine blk_alloc ?_ _));refine blk_put (cs:=#[.int .i64 x268000_1,.int .i64 x268001_1,.int .i64 x268002_1]) ?_ 0 _ rfl;(with_reducible repeat (first | refine blk_drewN ?_ _ | refine blk_drew ?_ | refine blk_alloc ?_ _));exact BK267.out) Tryd.underlying39 rfl (by kernel_rfl)) rfl ?_
                      exact ⟨_,by first | rfl | (simp [errW_none,errW_some] <;> rfl) | (simp only [← hji65];first | rfl | (simp [errW_none,errW_some] <;> rfl)) | (simp [*,errW_none,errW_some] <;> rfl),by first | exact Kd.R_nil _ _ _ _ _ | exact Kd.N_nil _ _ _ _ _ | exact Kd.V_nil _ _ _ _ _ | exact Kd.Q_nil _ _ _ _ _ | exact Kd.S_nil _ _ _ _ _,by repeat (first | (with_reducible first | exact HB.out | apply below_alloc | apply pw_below_drewN | apply below_drew1 | refine below_set ?_ GE267.out | refine below_set ?_ GE277.out) | exact HB.out)⟩
                     ·rw [if_neg c111] at H
                      have c111b0 : decide (0 < t291) = false:=decide_eq_false c111
                      clear c111
                      have c120b0:=eq_true (of_decide_eq_true (by first | (with_reducible assumption) | assumption) : 0 ≤ x5_1)
                      have c121b0:=eq_true (of_decide_eq_true (by first | (with_reducible assumption) | assumption) : x5_1 ≤ (ji65))
                      have c122b0:=eq_true (of_decide_eq_true (by first | (with_reducible assumption) | assumption) : (ji65) ≤ (a0.size : Int))
                      by_cases c123 : x4_1.length < 3518437208883
                      ·rw [if_pos c123] at H
                       have LMc123:=Aside0.mk c123
                       clear c123
                       obtain ⟨y300,hy300⟩ : ∃ y_ : List (S48),y_ = (x4_1 ++ [(⟨2,a0.extract (x5_1 : Int).toNat ((ji65) : Int).toNat,(⟨t275,t276⟩ : S37)⟩ : S48)]):=⟨_,rfl⟩
                       replace H : (joustref01_Tokens.l0 kj10 a0 y300 ji65) = some (r1,r2,r3,r4):=by first | (rw [hy300];with_reducible exact H) | (have H2_:=(Option.bind_some _ _).symm.trans H;rw [hy300];with_reducible exact H2_) | (have H2_:=(Option.bind_some _ _).symm.trans H;with_reducible exact H2_) | with_reducible exact H | (rw [hy300];exact H) | exact H
                       have Ny300:=Aside0.mk hy300
                       clear hy300
                       have H':=Aside0.mk H
                       clear H
                       try go_wp2_with (first | ((with_reducible refine gate_callee (f:=36) rfl ?_);refine goesL_ (some 75) rfl rfl Tryd.func36 (by kernel_rfl) rfl #[.string (a0.extract (x5_1 : Int).toNat a0.size)] rfl (by (try simp only [List.map_toArray,List.map_cons,List.map_nil]);first | done | rfl | (simp only [List.length_drop,List.length_take];rfl)) ?_;(with_reducible refine (joustref01_word.calls kj10 (a0.extract (x5_1 : Int).toNat a0.size) t282 t283 _ ?side1 A34.out).mono ?_);(case side1 => exact Tabs.below HG.out (by repeat (first | (with_reducible first | exact HB.out | apply below_alloc | apply pw_below_drewN | apply below_drew1 | refine below_set ?_ GE267.out | refine below_set ?_ GE277.out) | exact HB.out)));rintro e w124 ⟨rfl,hb⟩;refine ⟨_,rfl,?_⟩;have n0_:=Aside0.mk (Kd.R_below (by (with_reducible repeat (first | apply Kd.R_alloc | apply Kd.R_drewN | apply Kd.R_drew));exact HO_4.out) hb);have n1_:=Aside0.mk (blk_below (g:=gb267) (o:=.cells #[.int .i64 x268000_1,.int .i64 x268001_1,.int .i64 x268002_1] 39 (0,0)) (by (with_reducible repeat (first | refine blk_drewN ?_ _ | refine blk_drew ?_ | refine blk_alloc ?_ _));exact BK267.out) hb);have n2_:=Aside0.mk (blk_below (g:=gb277) (o:=.cells #[.int .i64 t275,.int .i64 t276] 37 (0,0)) (by (with_reducible repeat (first | refine blk_drewN ?_ _ | refine blk_drew ?_ | refine blk_alloc ?_ _));exact BK277.out) hb);have n3_:=Aside0.mk (below_step (by repeat (first | (with_reducible first | exact HB.out | apply below_alloc | apply pw_below_drewN | apply below_drew1 | refine below_set ?_ GE267.out | refine below_set ?_ GE277.out) | exact HB.out)) hb);clear HO_4;clear BK267;clear BK277;clear HB;have HO_4:=n0_;have BK267:=n1_;have BK277:=n2_;have HB:=n3_;clear n0_ n1_ n2_ n3_;(try clear hb);(try clear hb2);(try clear hk);(try clear hi)) | ((with_reducible refine gate_callee (f:=37) rfl ?_);refine goesL_ (some 86) rfl rfl Tryd.func37 (by kernel_rfl) rfl #[.int .i32 t273] rfl (by (try simp only [List.map_toArray,List.map_cons,List.map_nil]);first | done | rfl | (simp only [List.length_drop,List.length_take];rfl)) ?_;(with_reducible refine (joustref01_digit.calls t273 true _ A49.out).mono ?_);rintro e w' ⟨rfl,⟨nd,rfl⟩⟩;refine ⟨_,rfl,?_⟩) | ((with_reducible refine gate_callee (f:=38) rfl ?_);refine goesL_ (some 90) rfl rfl Tryd.func38 (by kernel_rfl) rfl #[.string (a0.extract (x5_1 : Int).toNat a0.size)] rfl (by (try simp only [List.map_toArray,List.map_cons,List.map_nil]);first | done | rfl | (simp only [List.length_drop,List.length_take];rfl)) ?_;(with_reducible refine (joustref01_number.calls kj10 (a0.extract (x5_1 : Int).toNat a0.size) t288 _ A53.out).mono ?_);rintro e w' ⟨rfl,⟨nd,rfl⟩⟩;refine ⟨_,rfl,?_⟩) | ((with_reducible refine gate_callee (f:=39) rfl ?_);refine goesL_ (some 97) rfl rfl Tryd.func39 (by kernel_rfl) rfl #[.string (a0.extract (x5_1 : Int).toNat ((ji65) : Int).toNat)] rfl (by (try simp only [List.map_toArray,List.map_cons,List.map_nil]);first | done | (simp only [hji65];rfl) | rfl | (simp only [List.length_drop,List.length_take];rfl)) ?_;(with_reducible refine (joustref01_great.calls kj10 (a0.extract (x5_1 : Int).toNat ((ji65) : Int).toNat) false _ A57.out).mono ?_);rintro e w125 ⟨rfl,hb⟩;refine ⟨_,rfl,?_⟩;have n0_:=Aside0.mk (Kd.R_below (by (with_reducible repeat (first | apply Kd.R_alloc | apply Kd.R_drewN | apply Kd.R_drew));exact HO_4.out) hb);have n1_:=Aside0.mk (blk_below (g:=gb267) (o:=.cells #[.int .i64 x268000_1,.int .i64 x268001_1,.int .i64 x268002_1] 39 (0,0)) (by (with_reducible repeat (first | refine blk_drewN ?_ _ | refine blk_drew ?_ | refine blk_alloc ?_ _));exact BK267.out) hb);have n2_:=Aside0.mk (blk_below (g:=gb277) (o:=.cells #[.int .i64 t275,.int .i64 t276] 37 (0,0)) (by (with_reducible repeat (first | refine blk_drewN ?_ _ | refine blk_drew ?_ | refine blk_alloc ?_ _));exact BK277.out) hb);have n3_:=Aside0.mk (below_step (by repeat (first | (with_reducible first | exact HB.out | apply below_alloc | apply pw_below_drewN | apply below_drew1 | refine below_set ?_ GE267.out | refine below_set ?_ GE277.out) | exact HB.out)) hb);clear HO_4;clear BK267;clear BK277;clear HB;have HO_4:=n0_;have BK267:=n1_;have BK277:=n2_;have HB:=n3_;clear n0_ n1_ n2_ n3_;(try clear hb);(try clear hb2);(try clear hk);(try clear hi)) | ((with_reducible refine gate_callee (f:=34) rfl ?_);refine goesL_ (some 106) rfl rfl Tryd.func34 (by kernel_rfl) rfl #[.string (a0.extract ((ji65) : Int).toNat a0.size)] rfl (by (try simp only [List.map_toArray,List.map_cons,List.map_nil]);first | done | (simp only [hji65];rfl) | rfl | (simp only [List.length_drop,List.length_take];rfl)) ?_;(with_reducible refine (utf8_DecodeRuneInString.calls (a0.extract ((ji65) : Int).toNat a0.size) t290 t291 _ ?side1 A68.out).mono ?_);(case side1 => exact Tabs.below HG.out (by repeat (first | (with_reducible first | exact HB.out | apply below_alloc | apply pw_below_drewN | apply below_drew1 | refine below_set ?_ GE267.out | refine below_set ?_ GE277.out) | exact HB.out)));rintro e w126 ⟨rfl,hb⟩;refine ⟨_,rfl,?_⟩;have n0_:=Aside0.mk (Kd.R_below (by (with_reducible repeat (first | apply Kd.R_alloc | apply Kd.R_drewN | apply Kd.R_drew));exact HO_4.out) hb);have n1_:=Aside0.mk (blk_below (g:=gb267) (o:=.cells #[.int .i64 x268000_1,.int .i64 x268001_1,.int .i64 x268002_1] 39 (0,0)) (by (with_reducible repeat (first | refine blk_drewN ?_ _ | refine blk_drew ?_ | refine blk_alloc ?_ _));exact BK267.out) hb);have n2_:=Aside0.mk (blk_below (g:=gb277) (o:=.cells #[.int .i64 t275,.int .i64 t276] 37 (0,0)) (by (with_reducible repeat (first | refine blk_drewN ?_ _ | refine blk_drew ?_ | refine blk_alloc ?_ _));exact BK277.out) hb);have n3_:=Aside0.mk (below_step (by repeat (first | (with_reducible first | exact HB.out | apply below_alloc | apply pw_below_drewN | apply below_drew1 | refine below_set ?_ GE267.out | refine below_set ?_ GE277.out) | exact HB.out)) hb);clear HO_4;clear BK267;clear BK277;clear HB;have HO_4:=n0_;have BK267:=n1_;have BK277:=n2_;have HB:=n3_;clear n0_ n1_ n2_ n3_;(try clear hb);(try clear hb2);(try clear hk);(try clear hi)) | (go_at_call 40;(with_reducible refine (unicode_IsLetter.calls t290 true _ ?side1 A109.out).mono ?_);(case side1 => exact Tabs.below HG.out (by repeat (first | (with_reducible first | exact HB.out | apply below_alloc | apply pw_below_drewN | apply below_drew1 | refine below_set ?_ GE267.out | refine below_set ?_ GE277.out) | exact HB.out)));rintro e w127 ⟨rfl,hb⟩;have n0_:=Aside0.mk (Kd.R_below (by (with_reducible repeat (first | apply Kd.R_alloc | apply Kd.R_drewN | apply Kd.R_drew));exact HO_4.out) hb);have n1_:=Aside0.mk (blk_below (g:=gb267) (o:=.cells #[.int .i64 x268000_1,.int .i64 x268001_1,.int .i64 x268002_1] 39 (0,0)) (by (with_reducible repeat (first | refine blk_drewN ?_ _ | refine blk_drew ?_ | refine blk_alloc ?_ _));exact BK267.out) hb);have n2_:=Aside0.mk (blk_below (g:=gb277) (o:=.cells #[.int .i64 t275,.int .i64 t276] 37 (0,0)) (by (with_reducible repeat (first | refine blk_drewN ?_ _ | refine blk_drew ?_ | refine blk_alloc ?_ _));exact BK277.out) hb);have n3_:=Aside0.mk (below_step (by repeat (first | (with_reducible first | exact HB.out | apply below_alloc | apply pw_below_drewN | apply below_drew1 | refine below_set ?_ GE267.out | refine below_set ?_ GE277.out) | exact HB.out)) hb);clear HO_4;clear BK267;clear BK277;clear HB;have HO_4:=n0_;have BK267:=n1_;have BK277:=n2_;have HB:=n3_;clear n0_ n1_ n2_ n3_;(try clear hb);(try clear hb2);(try clear hk);(try clear hi)))
                       have n0_:=Aside0.mk (Kd.R_drew HO_4.out)
                       have n1_:=Aside0.mk (blk_drew BK267.out)
                       have n2_:=Aside0.mk (blk_drew BK277.out)
                       have n3_:=Aside0.mk (below_drew1 HB.out)
                       clear HO_4
                       clear BK267
                       clear BK277
                       clear HB
                       have HO_4:=n0_
                       have BK267:=n1_
                       have BK277:=n2_
                       have HB:=n3_
                       clear n0_ n1_ n2_ n3_
                       refine start_ (n:=13) (S:=fun w' => w'.cell? ⟨gb277,0,none⟩ = some (.int .i64 t275) ∧ w'.cell? ⟨gb277,1,none⟩ = some (.int .i64 t276)) (ds:=[]) #[false,false,false,false,false,false,false,false,false,false,false,false,false] (by kernel_rfl) rfl rfl ⟨(blk_cell BK277.out 0).trans rfl,(blk_cell BK277.out 1).trans rfl⟩ (fun hHeld => ?_);refine with_tabW joustref01_Tokens.tab30 joustref01_Tokens.bits30 (fun HT_ HW_ => ?_)
                       generalize w127.drew = w128 at HO_4 BK267 BK277 HB hHeld ⊢
                       refine pure_ (i:=0) (N:=some 130) (v:=?_) (a':=?_) #[true,false,false,false,false,false,false,false,false,false,false,false,false] rfl rfl (any_of HT_.out (by kernel_rfl)) (fun _ _ _ h => h) (Or.inl ⟨by rfl,?_⟩) ?_ ?_
                       rotate_left
                       ·intro w'
                        go_simp
                        with_reducible rfl
                       rotate_left
                       ·simp only [Act.put,List.setIfInBounds_toArray,List.set_cons_zero,List.set_cons_succ,i64_w,i32_w]
                        rfl
                       refine pure_ (i:=1) (N:=some 131) (v:=?_) (a':=?_) #[true,true,false,false,false,false,false,false,false,false,false,false,false] rfl rfl (any_of HT_.out (by kernel_rfl)) (fun _ _ _ h => h) (Or.inl ⟨by rfl,?_⟩) ?_ ?_
                       rotate_left
                       ·intro w'
                        go_simp
                        with_reducible rfl
                       rotate_left
                       ·simp only [Act.put,List.setIfInBounds_toArray,List.set_cons_zero,List.set_cons_succ,i64_w,i32_w]
                        rfl
                       refine pure_ (i:=2) (N:=some 132) (v:=?_) (a':=?_) #[true,true,true,false,false,false,false,false,false,false,false,false,false] rfl rfl (any_of HT_.out (by kernel_rfl)) (fun _ _ _ h => h) (Or.inl ⟨by rfl,?_⟩) ?_ ?_
                       rotate_left
                       ·intro w'
                        go_simp
                        with_reducible rfl
                       rotate_left
                       ·simp only [Act.put,List.setIfInBounds_toArray,List.set_cons_zero,List.set_cons_succ,i64_w,i32_w]
                        rfl
                       refine pure_ (i:=3) (N:=some 133) (v:=?_) (a':=?_) #[true,true,true,true,false,false,false,false,false,false,false,false,false] rfl rfl (any_of HT_.out (by kernel_rfl)) (fun _ _ _ h => h) (Or.inl ⟨by rfl,?_⟩) ?_ ?_
                       rotate_left
                       ·intro w'
                        go_simp
                        with_reducible rfl
                       rotate_left
                       ·simp only [Act.put,List.setIfInBounds_toArray,List.set_cons_zero,List.set_cons_succ,i64_w,i32_w]
                        rfl
                       refine pure_ (i:=4) (N:=some 134) (v:=?_) (a':=?_) #[true,true,true,true,true,false,false,false,false,false,false,false,false] rfl rfl (any_of HT_.out (by kernel_rfl)) (fun _ _ _ h => h) (Or.inl ⟨by rfl,?_⟩) ?_ ?_
                       rotate_left
                       ·intro w'
                        go_simp
                        with_reducible rfl
                       rotate_left
                       ·simp only [Act.put,List.setIfInBounds_toArray,List.set_cons_zero,List.set_cons_succ,i64_w,i32_w]
                        rfl
                       refine pure_ (i:=5) (N:=some 135) (v:=?_) (a':=?_) #[true,true,true,true,true,true,false,false,false,false,false,false,false] rfl rfl (any_of HT_.out (by kernel_rfl)) (fun _ _ _ h => h) (Or.inl ⟨by rfl,?_⟩) ?_ ?_
                       rotate_left
                       ·intro w'
                        go_simp
                        with_reducible rfl
                       rotate_left
                       ·simp only [Act.put,List.setIfInBounds_toArray,List.set_cons_zero,List.set_cons_succ,i64_w,i32_w]
                        rfl
                       refine pure_ (i:=6) (N:=some 136) (v:=?_) (a':=?_) #[true,true,true,true,true,true,true,false,false,false,false,false,false] rfl rfl (any_of HT_.out (by kernel_rfl)) (fun _ _ _ h => h) (Or.inl ⟨by rfl,?_⟩) ?_ ?_
                       rotate_left
                       ·intro w'
                        go_simp
                        with_reducible rfl
                       rotate_left
                       ·simp only [Act.put,List.setIfInBounds_toArray,List.set_cons_zero,List.set_cons_succ,i64_w,i32_w]
                        rfl
                       refine pure_ (i:=7) (N:=some 137) (v:=?_) (a':=?_) #[true,true,true,true,true,true,true,true,false,false,false,false,false] rfl rfl (any_of HT_.out (by kernel_rfl)) (fun _ _ _ h => h) (Or.inl ⟨by rfl,?_⟩) ?_ ?_
                       rotate_left
                       ·intro w'
                        go_simp
                        with_reducible rfl
                       rotate_left
                       ·simp only [Act.put,List.setIfInBounds_toArray,List.set_cons_zero,List.set_cons_succ,i64_w,i32_w]
                        rfl
                       refine take_ (i:=8) (N:=some 138) (v:=?_) (a':=?_) #[true,true,true,true,true,true,true,true,true,false,false,false,false] rfl rfl (take_ofW HT_.out HW_.out (by kernel_rfl)) (fun _ _ _ h => h) (Or.inl ⟨by rfl,?_⟩) hHeld ?_ ?_
                       rotate_left
                       ·rintro w' ⟨s0,s1⟩
                        go_simp
                        with_reducible rfl
                       rotate_left
                       ·simp only [Act.put,List.setIfInBounds_toArray,List.set_cons_zero,List.set_cons_succ,i64_w,i32_w]
                        rfl
                       refine pure_ (i:=9) (N:=some 139) (v:=?_) (a':=?_) #[true,true,true,true,true,true,true,true,true,true,false,false,false] rfl rfl (any_of HT_.out (by kernel_rfl)) (fun _ _ _ h => h) (Or.inl ⟨by rfl,?_⟩) ?_ ?_
                       rotate_left
                       ·intro w'
                        go_simp
                        with_reducible rfl
                       rotate_left
                       ·simp only [Act.put,List.setIfInBounds_toArray,List.set_cons_zero,List.set_cons_succ,i64_w,i32_w]
                        rfl
                       refine one_ (i:=10) (N:=some 140) #[true,true,true,true,true,true,true,true,true,true,true,false,false] rfl rfl (one_of HT_.out (by kernel_rfl)) (by decide) (fun K hK => ?_)
                       refine value_ (w1:=?_) (v:=?_) (by rfl) rfl ?_ ?_
                       rotate_left 2
                       ·go_simp
                        constructor
                        ·rfl
                        ·rfl
                       refine hK.out _ _ ⟨(blk_cell (blk_alloc BK277.out _) 0).trans rfl,(blk_cell (blk_alloc BK277.out _) 1).trans rfl⟩ (fun hHeld => ?_)
                       clear hK K
                       refine norm_ (a':=?_) ?_ ?_
                       rotate_left
                       ·show Act.put _ (some 140) _ = _
                        simp only [Act.put,List.setIfInBounds_toArray,List.set_cons_zero,List.set_cons_succ,i64_w,i32_w]
                        rfl
                       refine one_ (i:=11) (N:=some 141) #[true,true,true,true,true,true,true,true,true,true,true,true,false] rfl rfl (one_of HT_.out (by kernel_rfl)) (by decide) (fun K hK => ?_)
                       refine Kd.R_append_step k48 (w0:=w) w.heap.size (by rfl) (.tmp 130) (.tmp 140) 35 48 (.agg #[(.int .u8 0),(.string ⟨#[]⟩),(.int .i64 0),(.int .i64 0)]) 40 rfl Tryd.underlying35 info48 rfl (by decide) (by omega) u4 x4_1 (⟨2,a0.extract (x5_1 : Int).toNat ((ji65) : Int).toNat,(⟨t275,t276⟩ : S37)⟩ : S48) [.int .u8 2,.string (a0.extract (x5_1 : Int).toNat ((ji65) : Int).toNat),.int .i64 t275,.int .i64 t276] (fun _ => True) (fun _ => False) rfl rfl ?aP (fun _ hk => hk.elim) ?aF ?aO ?aB ?aS ?aL ?_
                       (case aP => exact k48_mkM _ _ _ (⟨2,a0.extract (x5_1 : Int).toNat ((ji65) : Int).toNat,(⟨t275,t276⟩ : S37)⟩ : S48))
                       (case aB => exact (by repeat (first | (with_reducible first | exact HB.out | apply below_alloc | apply pw_below_drewN | apply below_drew1 | refine below_set ?_ GE267.out | refine below_set ?_ GE277.out) | exact HB.out)))
                       (case aF => exact (fun _ _ => trivial))
                       (case aO => exact (by (with_reducible repeat (first | apply Kd.R_alloc | apply Kd.R_drewN | apply Kd.R_drew));exact HO_4.out))
                       (case aS => exact (below_size (by repeat (first | (with_reducible first | exact HB.out | apply below_alloc | apply pw_below_drewN | apply below_drew1 | refine below_set ?_ GE267.out | refine below_set ?_ GE277.out) | exact HB.out))))
                       (case aL => have:=LMc123.out;omega)
                       intro v301 w129 ho hb hg hat
                       rw [← Ny300.out] at ho
                       have n0_:=Aside0.mk (blk_grown (g:=gb267) (o:=.cells #[.int .i64 x268000_1,.int .i64 x268001_1,.int .i64 x268002_1] 39 (0,0)) (by (with_reducible repeat (first | refine blk_drewN ?_ _ | refine blk_drew ?_ | refine blk_alloc ?_ _));exact BK267.out) hg (Kd.R_ne HO_4.out BK267.out (by decide)))
                       have n1_:=Aside0.mk (blk_grown (g:=gb277) (o:=.cells #[.int .i64 t275,.int .i64 t276] 37 (0,0)) (by (with_reducible repeat (first | refine blk_drewN ?_ _ | refine blk_drew ?_ | refine blk_alloc ?_ _));exact BK277.out) hg (Kd.R_ne HO_4.out BK277.out (by decide)))
                       have n2_:=Aside0.mk (hb)
                       have n3_:=Aside0.mk (ho)
                       clear BK267
                       clear BK277
                       clear HB
                       clear HO_4
                       have BK267:=n0_
                       have BK277:=n1_
                       have HB:=n2_
                       have HO302:=n3_
                       clear n0_ n1_ n2_ n3_
                       clear ho hb hg hat
                       refine hK.out _ _ ⟨(blk_cell BK277.out 0).trans rfl,(blk_cell BK277.out 1).trans rfl⟩ (fun hHeld => ?_)
                       clear hK K
                       refine norm_ (a':=?_) ?_ ?_
                       rotate_left
                       ·show Act.put _ (some 141) _ = _
                        simp only [Act.put,List.setIfInBounds_toArray,List.set_cons_zero,List.set_cons_succ,i64_w,i32_w]
                        rfl
                       refine pure_ (i:=12) (N:=some 4) (v:=?_) (a':=?_) #[true,true,true,true,true,true,true,true,true,true,true,true,true] rfl rfl (any_of HT_.out (by kernel_rfl)) (fun _ _ _ h => h) (Or.inl ⟨by rfl,?_⟩) ?_ ?_
                       rotate_left
                       ·intro w'
                        go_simp
                        with_reducible rfl
                       rotate_left
                       ·simp only [Act.put,List.setIfInBounds_toArray,List.set_cons_zero,List.set_cons_succ,i64_w,i32_w]
                        rfl
                       refine done_ (done_of HT_.out (by kernel_rfl)) ?_
                       try go_wp2
                       go_roundg kj10
                       case measure => have:=HK1.out;have:=HJ10.out;omega
                       case rel => exact ⟨(y300),(ji65),(x268000_1),(x268001_1),(x268002_1),(by first | rfl | (simp;done) | (simp only [← hji65] <;> (first | rfl | simp)) | (simp [*];done)),H',⟨by have:=HK1.out;have:=HJ10.out;omega⟩,⟨by (with_reducible repeat (first | apply Kd.R_alloc | apply Kd.R_drewN | apply Kd.R_drew));exact HO302.out⟩,⟨by (with_reducible repeat (first | refine blk_drewN ?_ _ | refine blk_drew ?_ | refine blk_alloc ?_ _));exact BK267.out⟩,⟨by repeat (first | (with_reducible first | exact HB.out | apply below_alloc | apply pw_below_drewN | apply below_drew1 | refine below_set ?_ GE267.out | refine below_set ?_ GE277.out) | exact HB.out)⟩⟩
                      ·rw [if_neg c123] at H
                       exact absurd H (by simp)
                    ·replace c110:=Bool.eq_false_iff.mpr c110
                     subst c110
                     have H1 : (if x4_1.length < 3518437208883 then (joustref01_Tokens.l0 kj10 a0 (x4_1 ++ [(⟨2,a0.extract (x5_1 : Int).toNat ((ji65) : Int).toNat,(⟨t275,t276⟩ : S37)⟩ : S48)]) ji65) else (none)) = some (r1,r2,r3,r4):=by rw [if_neg (show ¬ (false = true) by decide)] at H;exact H
                     clear H
                     have H:=H1
                     clear H1
                     have c130b0:=eq_true (of_decide_eq_true (by first | (with_reducible assumption) | assumption) : 0 ≤ x5_1)
                     have c131b0:=eq_true (of_decide_eq_true (by first | (with_reducible assumption) | assumption) : x5_1 ≤ (ji65))
                     have c132b0:=eq_true (of_decide_eq_true (by first | (with_reducible assumption) | assumption) : (ji65) ≤ (a0.size : Int))
                     by_cases c133 : x4_1.length < 3518437208883
                     ·rw [if_pos c133] at H
                      have LMc133:=Aside0.mk c133
                      clear c133
                      obtain ⟨y303,hy303⟩ : ∃ y_ : List (S48),y_ = (x4_1 ++ [(⟨2,a0.extract (x5_1 : Int).toNat ((ji65) : Int).toNat,(⟨t275,t276⟩ : S37)⟩ : S48)]):=⟨_,rfl⟩
                      replace H : (joustref01_Tokens.l0 kj10 a0 y303 ji65) = some (r1,r2,r3,r4):=by first | (rw [hy303];with_reducible exact H) | (have H2_:=(Option.bind_some _ _).symm.trans H;rw [hy303];with_reducible exact H2_) | (have H2_:=(Option.bind_some _ _).symm.trans H;with_reducible exact H2_) | with_reducible exact H | (rw [hy303];exact H) | exact H
                      have Ny303:=Aside0.mk hy303
                      clear hy303
                      have H':=Aside0.mk H
                      clear H
                      try go_wp2_with (first | ((with_reducible refine gate_callee (f:=36) rfl ?_);refine goesL_ (some 75) rfl rfl Tryd.func36 (by kernel_rfl) rfl #[.string (a0.extract (x5_1 : Int).toNat a0.size)] rfl (by (try simp only [List.map_toArray,List.map_cons,List.map_nil]);first | done | rfl | (simp only [List.length_drop,List.length_take];rfl)) ?_;(with_reducible refine (joustref01_word.calls kj10 (a0.extract (x5_1 : Int).toNat a0.size) t282 t283 _ ?side1 A34.out).mono ?_);(case side1 => exact Tabs.below HG.out (by repeat (first | (with_reducible first | exact HB.out | apply below_alloc | apply pw_below_drewN | apply below_drew1 | refine below_set ?_ GE267.out | refine below_set ?_ GE277.out) | exact HB.out)));rintro e w134 ⟨rfl,hb⟩;refine ⟨_,rfl,?_⟩;have n0_:=Aside0.mk (Kd.R_below (by (with_reducible repeat (first | apply Kd.R_alloc | apply Kd.R_drewN | apply Kd.R_drew));exact HO_4.out) hb);have n1_:=Aside0.mk (blk_below (g:=gb267) (o:=.cells #[.int .i64 x268000_1,.int .i64 x268001_1,.int .i64 x268002_1] 39 (0,0)) (by (with_reducible repeat (first | refine blk_drewN ?_ _ | refine blk_drew ?_ | refine blk_alloc ?_ _));exact BK267.out) hb);have n2_:=Aside0.mk (blk_below (g:=gb277) (o:=.cells #[.int .i64 t275,.int .i64 t276] 37 (0,0)) (by (with_reducible repeat (first | refine blk_drewN ?_ _ | refine blk_drew ?_ | refine blk_alloc ?_ _));exact BK277.out) hb);have n3_:=Aside0.mk (below_step (by repeat (first | (with_reducible first | exact HB.out | apply below_alloc | apply pw_below_drewN | apply below_drew1 | refine below_set ?_ GE267.out | refine below_set ?_ GE277.out) | exact HB.out)) hb);clear HO_4;clear BK267;clear BK277;clear HB;have HO_4:=n0_;have BK267:=n1_;have BK277:=n2_;have HB:=n3_;clear n0_ n1_ n2_ n3_;(try clear hb);(try clear hb2);(try clear hk);(try clear hi)) | ((with_reducible refine gate_callee (f:=37) rfl ?_);refine goesL_ (some 86) rfl rfl Tryd.func37 (by kernel_rfl) rfl #[.int .i32 t273] rfl (by (try simp only [List.map_toArray,List.map_cons,List.map_nil]);first | done | rfl | (simp only [List.length_drop,List.length_take];rfl)) ?_;(with_reducible refine (joustref01_digit.calls t273 true _ A49.out).mono ?_);rintro e w' ⟨rfl,⟨nd,rfl⟩⟩;refine ⟨_,rfl,?_⟩) | ((with_reducible refine gate_callee (f:=38) rfl ?_);refine goesL_ (some 90) rfl rfl Tryd.func38 (by kernel_rfl) rfl #[.string (a0.extract (x5_1 : Int).toNat a0.size)] rfl (by (try simp only [List.map_toArray,List.map_cons,List.map_nil]);first | done | rfl | (simp only [List.length_drop,List.length_take];rfl)) ?_;(with_reducible refine (joustref01_number.calls kj10 (a0.extract (x5_1 : Int).toNat a0.size) t288 _ A53.out).mono ?_);rintro e w' ⟨rfl,⟨nd,rfl⟩⟩;refine ⟨_,rfl,?_⟩) | ((with_reducible refine gate_callee (f:=39) rfl ?_);refine goesL_ (some 97) rfl rfl Tryd.func39 (by kernel_rfl) rfl #[.string (a0.extract (x5_1 : Int).toNat ((ji65) : Int).toNat)] rfl (by (try simp only [List.map_toArray,List.map_cons,List.map_nil]);first | done | (simp only [hji65];rfl) | rfl | (simp only [List.length_drop,List.length_take];rfl)) ?_;(with_reducible refine (joustref01_great.calls kj10 (a0.extract (x5_1 : Int).toNat ((ji65) : Int).toNat) false _ A57.out).mono ?_);rintro e w135 ⟨rfl,hb⟩;refine ⟨_,rfl,?_⟩;have n0_:=Aside0.mk (Kd.R_below (by (with_reducible repeat (first | apply Kd.R_alloc | apply Kd.R_drewN | apply Kd.R_drew));exact HO_4.out) hb);have n1_:=Aside0.mk (blk_below (g:=gb267) (o:=.cells #[.int .i64 x268000_1,.int .i64 x268001_1,.int .i64 x268002_1] 39 (0,0)) (by (with_reducible repeat (first | refine blk_drewN ?_ _ | refine blk_drew ?_ | refine blk_alloc ?_ _));exact BK267.out) hb);have n2_:=Aside0.mk (blk_below (g:=gb277) (o:=.cells #[.int .i64 t275,.int .i64 t276] 37 (0,0)) (by (with_reducible repeat (first | refine blk_drewN ?_ _ | refine blk_drew ?_ | refine blk_alloc ?_ _));exact BK277.out) hb);have n3_:=Aside0.mk (below_step (by repeat (first | (with_reducible first | exact HB.out | apply below_alloc | apply pw_below_drewN | apply below_drew1 | refine below_set ?_ GE267.out | refine below_set ?_ GE277.out) | exact HB.out)) hb);clear HO_4;clear BK267;clear BK277;clear HB;have HO_4:=n0_;have BK267:=n1_;have BK277:=n2_;have HB:=n3_;clear n0_ n1_ n2_ n3_;(try clear hb);(try clear hb2);(try clear hk);(try clear hi)) | ((with_reducible refine gate_callee (f:=34) rfl ?_);refine goesL_ (some 106) rfl rfl Tryd.func34 (by kernel_rfl) rfl #[.string (a0.extract ((ji65) : Int).toNat a0.size)] rfl (by (try simp only [List.map_toArray,List.map_cons,List.map_nil]);first | done | (simp only [hji65];rfl) | rfl | (simp only [List.length_drop,List.length_take];rfl)) ?_;(with_reducible refine (utf8_DecodeRuneInString.calls (a0.extract ((ji65) : Int).toNat a0.size) t290 t291 _ ?side1 A68.out).mono ?_);(case side1 => exact Tabs.below HG.out (by repeat (first | (with_reducible first | exact HB.out | apply below_alloc | apply pw_below_drewN | apply below_drew1 | refine below_set ?_ GE267.out | refine below_set ?_ GE277.out) | exact HB.out)));rintro e w136 ⟨rfl,hb⟩;refine ⟨_,rfl,?_⟩;have n0_:=Aside0.mk (Kd.R_below (by (with_reducible repeat (first | apply Kd.R_alloc | apply Kd.R_drewN | apply Kd.R_drew));exact HO_4.out) hb);have n1_:=Aside0.mk (blk_below (g:=gb267) (o:=.cells #[.int .i64 x268000_1,.int .i64 x268001_1,.int .i64 x268002_1] 39 (0,0)) (by (with_reducible repeat (first | refine blk_drewN ?_ _ | refine blk_drew ?_ | refine blk_alloc ?_ _));exact BK267.out) hb);have n2_:=Aside0.mk (blk_below (g:=gb277) (o:=.cells #[.int .i64 t275,.int .i64 t276] 37 (0,0)) (by (with_reducible repeat (first | refine blk_drewN ?_ _ | refine blk_drew ?_ | refine blk_alloc ?_ _));exact BK277.out) hb);have n3_:=Aside0.mk (below_step (by repeat (first | (with_reducible first | exact HB.out | apply below_alloc | apply pw_below_drewN | apply below_drew1 | refine below_set ?_ GE267.out | refine below_set ?_ GE277.out) | exact HB.out)) hb);clear HO_4;clear BK267;clear BK277;clear HB;have HO_4:=n0_;have BK267:=n1_;have BK277:=n2_;have HB:=n3_;clear n0_ n1_ n2_ n3_;(try clear hb);(try clear hb2);(try clear hk);(try clear hi)) | (go_at_call 40;(with_reducible refine (unicode_IsLetter.calls t290 false _ ?side1 A109.out).mono ?_);(case side1 => exact Tabs.below HG.out (by repeat (first | (with_reducible first | exact HB.out | apply below_alloc | apply pw_below_drewN | apply below_drew1 | refine below_set ?_ GE267.out | refine below_set ?_ GE277.out) | exact HB.out)));rintro e w137 ⟨rfl,hb⟩;have n0_:=Aside0.mk (Kd.R_below (by (with_reducible repeat (first | apply Kd.R_alloc | apply Kd.R_drewN | apply Kd.R_drew));exact HO_4.out) hb);have n1_:=Aside0.mk (blk_below (g:=gb267) (o:=.cells #[.int .i64 x268000_1,.int .i64 x268001_1,.int .i64 x268002_1] 39 (0,0)) (by (with_reducible repeat (first | refine blk_drewN ?_ _ | refine blk_drew ?_ | refine blk_alloc ?_ _));exact BK267.out) hb);have n2_:=Aside0.mk (blk_below (g:=gb277) (o:=.cells #[.int .i64 t275,.int .i64 t276] 37 (0,0)) (by (with_reducible repeat (first | refine blk_drewN ?_ _ | refine blk_drew ?_ | refine blk_alloc ?_ _));exact BK277.out) hb);have n3_:=Aside0.mk (below_step (by repeat (first | (with_reducible first | exact HB.out | apply below_alloc | apply pw_below_drewN | apply below_drew1 | refine below_set ?_ GE267.out | refine below_set ?_ GE277.out) | exact HB.out)) hb);clear HO_4;clear BK267;clear BK277;clear HB;have HO_4:=n0_;have BK267:=n1_;have BK277:=n2_;have HB:=n3_;clear n0_ n1_ n2_ n3_;(try clear hb);(try clear hb2);(try clear hk);(try clear hi)))
                      have n0_:=Aside0.mk (Kd.R_drew HO_4.out)
                      have n1_:=Aside0.mk (blk_drew BK267.out)
                      have n2_:=Aside0.mk (blk_drew BK277.out)
                      have n3_:=Aside0.mk (below_drew1 HB.out)
                      clear HO_4
                      clear BK267
                      clear BK277
                      clear HB
                      have HO_4:=n0_
                      have BK267:=n1_
                      have BK277:=n2_
                      have HB:=n3_
                      clear n0_ n1_ n2_ n3_
                      refine start_ (n:=13) (S:=fun w' => w'.cell? ⟨gb277,0,none⟩ = some (.int .i64 t275) ∧ w'.cell? ⟨gb277,1,none⟩ = some (.int .i64 t276)) (ds:=[]) #[false,false,false,false,false,false,false,false,false,false,false,false,false] (by kernel_rfl) rfl rfl ⟨(blk_cell BK277.out 0).trans rfl,(blk_cell BK277.out 1).trans rfl⟩ (fun hHeld => ?_);refine with_tabW joustref01_Tokens.tab30 joustref01_Tokens.bits30 (fun HT_ HW_ => ?_)
                      generalize w137.drew = w138 at HO_4 BK267 BK277 HB hHeld ⊢
                      refine pure_ (i:=0) (N:=some 130) (v:=?_) (a':=?_) #[true,false,false,false,false,false,false,false,false,false,false,false,false] rfl rfl (any_of HT_.out (by kernel_rfl)) (fun _ _ _ h => h) (Or.inl ⟨by rfl,?_⟩) ?_ ?_
                      rotate_left
                      ·intro w'
                       go_simp
                       with_reducible rfl
                      rotate_left
                      ·simp only [Act.put,List.setIfInBounds_toArray,List.set_cons_zero,List.set_cons_succ,i64_w,i32_w]
                       rfl
                      refine pure_ (i:=1) (N:=some 131) (v:=?_) (a':=?_) #[true,true,false,false,false,false,false,false,false,false,false,false,false] rfl rfl (any_of HT_.out (by kernel_rfl)) (fun _ _ _ h => h) (Or.inl ⟨by rfl,?_⟩) ?_ ?_
                      rotate_left
                      ·intro w'
                       go_simp
                       with_reducible rfl
                      rotate_left
                      ·simp only [Act.put,List.setIfInBounds_toArray,List.set_cons_zero,List.set_cons_succ,i64_w,i32_w]
                       rfl
                      refine pure_ (i:=2) (N:=some 132) (v:=?_) (a':=?_) #[true,true,true,false,false,false,false,false,false,false,false,false,false] rfl rfl (any_of HT_.out (by kernel_rfl)) (fun _ _ _ h => h) (Or.inl ⟨by rfl,?_⟩) ?_ ?_
                      rotate_left
                      ·intro w'
                       go_simp
                       with_reducible rfl
                      rotate_left
                      ·simp only [Act.put,List.setIfInBounds_toArray,List.set_cons_zero,List.set_cons_succ,i64_w,i32_w]
                       rfl
                      refine pure_ (i:=3) (N:=some 133) (v:=?_) (a':=?_) #[true,true,true,true,false,false,false,false,false,false,false,false,false] rfl rfl (any_of HT_.out (by kernel_rfl)) (fun _ _ _ h => h) (Or.inl ⟨by rfl,?_⟩) ?_ ?_
                      rotate_left
                      ·intro w'
                       go_simp
                       with_reducible rfl
                      rotate_left
                      ·simp only [Act.put,List.setIfInBounds_toArray,List.set_cons_zero,List.set_cons_succ,i64_w,i32_w]
                       rfl
                      refine pure_ (i:=4) (N:=some 134) (v:=?_) (a':=?_) #[true,true,true,true,true,false,false,false,false,false,false,false,false] rfl rfl (any_of HT_.out (by kernel_rfl)) (fun _ _ _ h => h) (Or.inl ⟨by rfl,?_⟩) ?_ ?_
                      rotate_left
                      ·intro w'
                       go_simp
                       with_reducible rfl
                      rotate_left
                      ·simp only [Act.put,List.setIfInBounds_toArray,List.set_cons_zero,List.set_cons_succ,i64_w,i32_w]
                       rfl
                      refine pure_ (i:=5) (N:=some 135) (v:=?_) (a':=?_) #[true,true,true,true,true,true,false,false,false,false,false,false,false] rfl rfl (any_of HT_.out (by kernel_rfl)) (fun _ _ _ h => h) (Or.inl ⟨by rfl,?_⟩) ?_ ?_
                      rotate_left
                      ·intro w'
                       go_simp
                       with_reducible rfl
                      rotate_left
                      ·simp only [Act.put,List.setIfInBounds_toArray,List.set_cons_zero,List.set_cons_succ,i64_w,i32_w]
                       rfl
                      refine pure_ (i:=6) (N:=some 136) (v:=?_) (a':=?_) #[true,true,true,true,true,true,true,false,false,false,false,false,false] rfl rfl (any_of HT_.out (by kernel_rfl)) (fun _ _ _ h => h) (Or.inl ⟨by rfl,?_⟩) ?_ ?_
                      rotate_left
                      ·intro w'
                       go_simp
                       with_reducible rfl
                      rotate_left
                      ·simp only [Act.put,List.setIfInBounds_toArray,List.set_cons_zero,List.set_cons_succ,i64_w,i32_w]
                       rfl
                      refine pure_ (i:=7) (N:=some 137) (v:=?_) (a':=?_) #[true,true,true,true,true,true,true,true,false,false,false,false,false] rfl rfl (any_of HT_.out (by kernel_rfl)) (fun _ _ _ h => h) (Or.inl ⟨by rfl,?_⟩) ?_ ?_
                      rotate_left
                      ·intro w'
                       go_simp
                       with_reducible rfl
                      rotate_left
                      ·simp only [Act.put,List.setIfInBounds_toArray,List.set_cons_zero,List.set_cons_succ,i64_w,i32_w]
                       rfl
                      refine take_ (i:=8) (N:=some 138) (v:=?_) (a':=?_) #[true,true,true,true,true,true,true,true,true,false,false,false,false] rfl rfl (take_ofW HT_.out HW_.out (by kernel_rfl)) (fun _ _ _ h => h) (Or.inl ⟨by rfl,?_⟩) hHeld ?_ ?_
                      rotate_left
                      ·rintro w' ⟨s0,s1⟩
                       go_simp
                       with_reducible rfl
                      rotate_left
                      ·simp only [Act.put,List.setIfInBounds_toArray,List.set_cons_zero,List.set_cons_succ,i64_w,i32_w]
                       rfl
                      refine pure_ (i:=9) (N:=some 139) (v:=?_) (a':=?_) #[true,true,true,true,true,true,true,true,true,true,false,false,false] rfl rfl (any_of HT_.out (by kernel_rfl)) (fun _ _ _ h => h) (Or.inl ⟨by rfl,?_⟩) ?_ ?_
                      rotate_left
                      ·intro w'
                       go_simp
                       with_reducible rfl
                      rotate_left
                      ·simp only [Act.put,List.setIfInBounds_toArray,List.set_cons_zero,List.set_cons_succ,i64_w,i32_w]
                       rfl
                      refine one_ (i:=10) (N:=some 140) #[true,true,true,true,true,true,true,true,true,true,true,false,false] rfl rfl (one_of HT_.out (by kernel_rfl)) (by decide) (fun K hK => ?_)
                      refine value_ (w1:=?_) (v:=?_) (by rfl) rfl ?_ ?_
                      rotate_left 2
                      ·go_simp
                       constructor
                       ·rfl
                       ·rfl
                      refine hK.out _ _ ⟨(blk_cell (blk_alloc BK277.out _) 0).trans rfl,(blk_cell (blk_alloc BK277.out _) 1).trans rfl⟩ (fun hHeld => ?_)
                      clear hK K
                      refine norm_ (a':=?_) ?_ ?_
                      rotate_left
                      ·show Act.put _ (some 140) _ = _
                       simp only [Act.put,List.setIfInBounds_toArray,List.set_cons_zero,List.set_cons_succ,i64_w,i32_w]
                       rfl
                      refine one_ (i:=11) (N:=some 141) #[true,true,true,true,true,true,true,true,true,true,true,true,false] rfl rfl (one_of HT_.out (by kernel_rfl)) (by decide) (fun K hK => ?_)
                      refine Kd.R_append_step k48 (w0:=w) w.heap.size (by rfl) (.tmp 130) (.tmp 140) 35 48 (.agg #[(.int .u8 0),(.string ⟨#[]⟩),(.int .i64 0),(.int .i64 0)]) 40 rfl Tryd.underlying35 info48 rfl (by decide) (by omega) u4 x4_1 (⟨2,a0.extract (x5_1 : Int).toNat ((ji65) : Int).toNat,(⟨t275,t276⟩ : S37)⟩ : S48) [.int .u8 2,.string (a0.extract (x5_1 : Int).toNat ((ji65) : Int).toNat),.int .i64 t275,.int .i64 t276] (fun _ => True) (fun _ => False) rfl rfl ?aP (fun _ hk => hk.elim) ?aF ?aO ?aB ?aS ?aL ?_
                      (case aP => exact k48_mkM _ _ _ (⟨2,a0.extract (x5_1 : Int).toNat ((ji65) : Int).toNat,(⟨t275,t276⟩ : S37)⟩ : S48))
                      (case aB => exact (by repeat (first | (with_reducible first | exact HB.out | apply below_alloc | apply pw_below_drewN | apply below_drew1 | refine below_set ?_ GE267.out | refine below_set ?_ GE277.out) | exact HB.out)))
                      (case aF => exact (fun _ _ => trivial))
                      (case aO => exact (by (with_reducible repeat (first | apply Kd.R_alloc | apply Kd.R_drewN | apply Kd.R_drew));exact HO_4.out))
                      (case aS => exact (below_size (by repeat (first | (with_reducible first | exact HB.out | apply below_alloc | apply pw_below_drewN | apply below_drew1 | refine below_set ?_ GE267.out | refine below_set ?_ GE277.out) | exact HB.out))))
                      (case aL => have:=LMc133.out;omega)
                      intro v304 w139 ho hb hg hat
                      rw [← Ny303.out] at ho
                      have n0_:=Aside0.mk (blk_grown (g:=gb267) (o:=.cells #[.int .i64 x268000_1,.int .i64 x268001_1,.int .i64 x268002_1] 39 (0,0)) (by (with_reducible repeat (first | refine blk_drewN ?_ _ | refine blk_drew ?_ | refine blk_alloc ?_ _));exact BK267.out) hg (Kd.R_ne HO_4.out BK267.out (by decide)))
                      have n1_:=Aside0.mk (blk_grown (g:=gb277) (o:=.cells #[.int .i64 t275,.int .i64 t276] 37 (0,0)) (by (with_reducible repeat (first | refine blk_drewN ?_ _ | refine blk_drew ?_ | refine blk_alloc ?_ _));exact BK277.out) hg (Kd.R_ne HO_4.out BK277.out (by decide)))
                      have n2_:=Aside0.mk (hb)
                      have n3_:=Aside0.mk (ho)
                      clear BK267
                      clear BK277
                      clear HB
                      clear HO_4
                      have BK267:=n0_
                      have BK277:=n1_
                      have HB:=n2_
                      have HO305:=n3_
                      clear n0_ n1_ n2_ n3_
                      clear ho hb hg hat
                      refine hK.out _ _ ⟨(blk_cell BK277.out 0).trans rfl,(blk_cell BK277.out 1).trans rfl⟩ (fun hHeld => ?_)
                      clear hK K
                      refine norm_ (a':=?_) ?_ ?_
                      rotate_left
                      ·show Act.put _ (some 141) _ = _
                       simp only [Act.put,List.setIfInBounds_toArray,List.set_cons_zero,List.set_cons_succ,i64_w,i32_w]
                       rfl
                      refine pure_ (i:=12) (N:=some 4) (v:=?_) (a':=?_) #[true,true,true,true,true,true,true,true,true,true,true,true,true] rfl rfl (any_of HT_.out (by kernel_rfl)) (fun _ _ _ h => h) (Or.inl ⟨by rfl,?_⟩) ?_ ?_
                      rotate_left
                      ·intro w'
                       go_simp
                       with_reducible rfl
                      rotate_left
                      ·simp only [Act.put,List.setIfInBounds_toArray,List.set_cons_zero,List.set_cons_succ,i64_w,i32_w]
                       rfl
                      refine done_ (done_of HT_.out (by kernel_rfl)) ?_
                      try go_wp2
                      go_roundg kj10
                      case measure => have:=HK1.out;have:=HJ10.out;omega
                      case rel => exact ⟨(y303),(ji65),(x268000_1),(x268001_1),(x268002_1),(by first | rfl | (simp;done) | (simp only [← hji65] <;> (first | rfl | simp)) | (simp [*];done)),H',⟨by have:=HK1.out;have:=HJ10.out;omega⟩,⟨by (with_reducible repeat (first | apply Kd.R_alloc | apply Kd.R_drewN | apply Kd.R_drew));exact HO305.out⟩,⟨by (with_reducible repeat (first | refine blk_drewN ?_ _ | refine blk_drew ?_ | refine blk_alloc ?_ _));exact BK267.out⟩,⟨by repeat (first | (with_reducible first | exact HB.out | apply below_alloc | apply pw_below_drewN | apply below_drew1 | refine below_set ?_ GE267.out | refine below_set ?_ GE277.out) | exact HB.out)⟩⟩
                     ·rw [if_neg c133] at H
                      exact absurd H (by simp)
                  ·rw [if_neg c66] at H
                   exact absurd H (by simp)
                ·rw [if_neg c56] at H
                 exact absurd H (by simp)
               ·rw [if_neg c55] at H
                exact absurd H (by simp)
              ·replace c50:=Bool.eq_false_iff.mpr c50
               subst c50
               have H1 : ((joustref01_mark.f kj10 t273).bind fun t306 => (if t306 = true then (if x5_1 ≤ (wrap64 (x5_1 + t274)) then (if (wrap64 (x5_1 + t274)) ≤ (a0.size : Int) then (if x4_1.length < 3518437208883 then (joustref01_Tokens.l0 kj10 a0 (x4_1 ++ [(⟨3,a0.extract (x5_1 : Int).toNat ((wrap64 (x5_1 + t274)) : Int).toNat,(⟨t275,t276⟩ : S37)⟩ : S48)]) (wrap64 (x5_1 + t274))) else (none)) else (none)) else (none)) else (some (([] : List (S48)),4,t275,t276)))) = some (r1,r2,r3,r4):=by rw [if_neg (show ¬ (false = true) by decide)] at H;exact H
               clear H
               have H:=H1
               clear H1
               replace H:=Option.bind_eq_some_iff.mp H
               obtain ⟨t306,A1400,H⟩:=H
               replace H : (if t306 = true then (if x5_1 ≤ (wrap64 (x5_1 + t274)) then (if (wrap64 (x5_1 + t274)) ≤ (a0.size : Int) then (if x4_1.length < 3518437208883 then (joustref01_Tokens.l0 kj10 a0 (x4_1 ++ [(⟨3,a0.extract (x5_1 : Int).toNat ((wrap64 (x5_1 + t274)) : Int).toNat,(⟨t275,t276⟩ : S37)⟩ : S48)]) (wrap64 (x5_1 + t274))) else (none)) else (none)) else (none)) else (some (([] : List (S48)),4,t275,t276))) = some (r1,r2,r3,r4):=H
               have A140:=Aside0.mk A1400
               clear A1400
               by_cases c141 : t306 = true
               ·subst c141
                have H1 : (if x5_1 ≤ (wrap64 (x5_1 + t274)) then (if (wrap64 (x5_1 + t274)) ≤ (a0.size : Int) then (if x4_1.length < 3518437208883 then (joustref01_Tokens.l0 kj10 a0 (x4_1 ++ [(⟨3,a0.extract (x5_1 : Int).toNat ((wrap64 (x5_1 + t274)) : Int).toNat,(⟨t275,t276⟩ : S37)⟩ : S48)]) (wrap64 (x5_1 + t274))) else (none)) else (none)) else (none)) = some (r1,r2,r3,r4):=by rw [if_pos rfl] at H;exact H
                clear H
                have H:=H1
                clear H1
                have c142b0:=eq_true (of_decide_eq_true (by first | (with_reducible assumption) | assumption) : 0 ≤ x5_1)
                by_cases c143 : x5_1 ≤ (wrap64 (x5_1 + t274))
                ·rw [if_pos c143] at H
                 have c143b0:=eq_true c143
                 have c143b1 : decide (x5_1 ≤ (wrap64 (x5_1 + t274))) = true:=decide_eq_true c143
                 by_cases c144 : (wrap64 (x5_1 + t274)) ≤ (a0.size : Int)
                 ·rw [if_pos c144] at H
                  have c144b0:=eq_true c144
                  have c144b1 : decide ((wrap64 (x5_1 + t274)) ≤ (a0.size : Int)) = true:=decide_eq_true c144
                  by_cases c145 : x4_1.length < 3518437208883
                  ·rw [if_pos c145] at H
                   have LMc145:=Aside0.mk c145
                   clear c145
                   obtain ⟨y307,hy307⟩ : ∃ y_ : List (S48),y_ = (x4_1 ++ [(⟨3,a0.extract (x5_1 : Int).toNat ((wrap64 (x5_1 + t274)) : Int).toNat,(⟨t275,t276⟩ : S37)⟩ : S48)]):=⟨_,rfl⟩
                   replace H : (joustref01_Tokens.l0 kj10 a0 y307 (wrap64 (x5_1 + t274))) = some (r1,r2,r3,r4):=by first | (rw [hy307];with_reducible exact H) | (have H2_:=(Option.bind_some _ _).symm.trans H;rw [hy307];with_reducible exact H2_) | (have H2_:=(Option.bind_some _ _).symm.trans H;with_reducible exact H2_) | with_reducible exact H | (rw [hy307];exact H) | exact H
                   have Ny307:=Aside0.mk hy307
                   clear hy307
                   have H':=Aside0.mk H
                   clear H
                   try go_wp2_with (first | ((with_reducible refine gate_callee (f:=36) rfl ?_);refine goesL_ (some 75) rfl rfl Tryd.func36 (by kernel_rfl) rfl #[.string (a0.extract (x5_1 : Int).toNat a0.size)] rfl (by (try simp only [List.map_toArray,List.map_cons,List.map_nil]);first | done | rfl | (simp only [List.length_drop,List.length_take];rfl)) ?_;(with_reducible refine (joustref01_word.calls kj10 (a0.extract (x5_1 : Int).toNat a0.size) t282 t283 _ ?side1 A34.out).mono ?_);(case side1 => exact Tabs.below HG.out (by repeat (first | (with_reducible first | exact HB.out | apply below_alloc | apply pw_below_drewN | apply below_drew1 | refine below_set ?_ GE267.out | refine below_set ?_ GE277.out) | exact HB.out)));rintro e w146 ⟨rfl,hb⟩;refine ⟨_,rfl,?_⟩;have n0_:=Aside0.mk (Kd.R_below (by (with_reducible repeat (first | apply Kd.R_alloc | apply Kd.R_drewN | apply Kd.R_drew));exact HO_4.out) hb);have n1_:=Aside0.mk (blk_below (g:=gb267) (o:=.cells #[.int .i64 x268000_1,.int .i64 x268001_1,.int .i64 x268002_1] 39 (0,0)) (by (with_reducible repeat (first | refine blk_drewN ?_ _ | refine blk_drew ?_ | refine blk_alloc ?_ _));exact BK267.out) hb);have n2_:=Aside0.mk (blk_below (g:=gb277) (o:=.cells #[.int .i64 t275,.int .i64 t276] 37 (0,0)) (by (with_reducible repeat (first | refine blk_drewN ?_ _ | refine blk_drew ?_ | refine blk_alloc ?_ _));exact BK277.out) hb);have n3_:=Aside0.mk (below_step (by repeat (first | (with_reducible first | exact HB.out | apply below_alloc | apply pw_below_drewN | apply below_drew1 | refine below_set ?_ GE267.out | refine below_set ?_ GE277.out) | exact HB.out)) hb);clear HO_4;clear BK267;clear BK277;clear HB;have HO_4:=n0_;have BK267:=n1_;have BK277:=n2_;have HB:=n3_;clear n0_ n1_ n2_ n3_;(try clear hb);(try clear hb2);(try clear hk);(try clear hi)) | ((with_reducible refine gate_callee (f:=37) rfl ?_);refine goesL_ (some 86) rfl rfl Tryd.func37 (by kernel_rfl) rfl #[.int .i32 t273] rfl (by (try simp only [List.map_toArray,List.map_cons,List.map_nil]);first | done | rfl | (simp only [List.length_drop,List.length_take];rfl)) ?_;(with_reducible refine (joustref01_digit.calls t273 false _ A49.out).mono ?_);rintro e w' ⟨rfl,⟨nd,rfl⟩⟩;refine ⟨_,rfl,?_⟩) | ((with_reducible refine gate_callee (f:=41) rfl ?_);refine goesL_ (some 126) rfl rfl Tryd.func41 (by kernel_rfl) rfl #[.int .i32 t273] rfl (by (try simp only [List.map_toArray,List.map_cons,List.map_nil]);first | done | rfl | (simp only [List.length_drop,List.length_take];rfl)) ?_;(with_reducible refine (joustref01_mark.calls kj10 t273 true _ A140.out).mono ?_);rintro e w' ⟨rfl,⟨nd,rfl⟩⟩;refine ⟨_,rfl,?_⟩))
                   (try (rw [drewN_self w146];generalize hq_ : World.drewN w146 _ = w146;have n0_ : Aside0 (Kd.R k48 48 w146 w.heap.size (fun _ => True) u4 x4_1):=⟨by rw [← hq_];exact (by (with_reducible repeat (first | apply Kd.R_alloc | apply Kd.R_drewN | apply Kd.R_drew));exact HO_4.out)⟩;have n1_ : Aside0 (w146.heap[gb267]? = some (.cells #[.int .i64 x268000_1,.int .i64 x268001_1,.int .i64 x268002_1] 39 (0,0))):=⟨by rw [← hq_];exact (by (with_reducible repeat (first | refine blk_drewN ?_ _ | refine blk_drew ?_ | refine blk_alloc ?_ _));exact BK267.out)⟩;have n2_ : Aside0 (w146.heap[gb277]? = some (.cells #[.int .i64 t275,.int .i64 t276] 37 (0,0))):=⟨by rw [← hq_];exact (by (with_reducible repeat (first | refine blk_drewN ?_ _ | refine blk_drew ?_ | refine blk_alloc ?_ _));exact BK277.out)⟩;have n3_ : Aside0 (Below w.heap.size w w146):=⟨by rw [← hq_];exact (by repeat (first | (with_reducible first | exact HB.out | apply below_alloc | apply pw_below_drewN | apply below_drew1 | refine below_set ?_ GE267.out | refine below_set ?_ GE277.out) | exact HB.out))⟩;clear HO_4 BK267 BK277 HB hq_;have HO_4:=n0_;have BK267:=n1_;have BK277:=n2_;have HB:=n3_;clear n0_ n1_ n2_ n3_))
                   have n0_:=Aside0.mk (Kd.R_drew HO_4.out)
                   have n1_:=Aside0.mk (blk_drew BK267.out)
                   have n2_:=Aside0.mk (blk_drew BK277.out)
                   have n3_:=Aside0.mk (below_drew1 HB.out)
                   clear HO_4
                   clear BK267
                   clear BK277
                   clear HB
                   have HO_4:=n0_
                   have BK267:=n1_
                   have BK277:=n2_
                   have HB:=n3_
                   clear n0_ n1_ n2_ n3_
                   refine start_ (n:=13) (S:=fun w' => w'.cell? ⟨gb277,0,none⟩ = some (.int .i64 t275) ∧ w'.cell? ⟨gb277,1,none⟩ = some (.int .i64 t276)) (ds:=[]) #[false,false,false,false,false,false,false,false,false,false,false,false,false] (by kernel_rfl) rfl rfl ⟨(blk_cell BK277.out 0).trans rfl,(blk_cell BK277.out 1).trans rfl⟩ (fun hHeld => ?_);refine with_tabW joustref01_Tokens.tab30 joustref01_Tokens.bits30 (fun HT_ HW_ => ?_)
                   generalize w146.drew = w147 at HO_4 BK267 BK277 HB hHeld ⊢
                   refine pure_ (i:=0) (N:=some 130) (v:=?_) (a':=?_) #[true,false,false,false,false,false,false,false,false,false,false,false,false] rfl rfl (any_of HT_.out (by kernel_rfl)) (fun _ _ _ h => h) (Or.inl ⟨by rfl,?_⟩) ?_ ?_
                   rotate_left
                   ·intro w'
                    go_simp
                    with_reducible rfl
                   rotate_left
                   ·simp only [Act.put,List.setIfInBounds_toArray,List.set_cons_zero,List.set_cons_succ,i64_w,i32_w]
                    rfl
                   refine pure_ (i:=1) (N:=some 131) (v:=?_) (a':=?_) #[true,true,false,false,false,false,false,false,false,false,false,false,false] rfl rfl (any_of HT_.out (by kernel_rfl)) (fun _ _ _ h => h) (Or.inl ⟨by rfl,?_⟩) ?_ ?_
                   rotate_left
                   ·intro w'
                    go_simp
                    with_reducible rfl
                   rotate_left
                   ·simp only [Act.put,List.setIfInBounds_toArray,List.set_cons_zero,List.set_cons_succ,i64_w,i32_w]
                    rfl
                   refine pure_ (i:=2) (N:=some 132) (v:=?_) (a':=?_) #[true,true,true,false,false,false,false,false,false,false,false,false,false] rfl rfl (any_of HT_.out (by kernel_rfl)) (fun _ _ _ h => h) (Or.inl ⟨by rfl,?_⟩) ?_ ?_
                   rotate_left
                   ·intro w'
                    go_simp
                    with_reducible rfl
                   rotate_left
                   ·simp only [Act.put,List.setIfInBounds_toArray,List.set_cons_zero,List.set_cons_succ,i64_w,i32_w]
                    rfl
                   refine pure_ (i:=3) (N:=some 133) (v:=?_) (a':=?_) #[true,true,true,true,false,false,false,false,false,false,false,false,false] rfl rfl (any_of HT_.out (by kernel_rfl)) (fun _ _ _ h => h) (Or.inl ⟨by rfl,?_⟩) ?_ ?_
                   rotate_left
                   ·intro w'
                    go_simp
                    with_reducible rfl
                   rotate_left
                   ·simp only [Act.put,List.setIfInBounds_toArray,List.set_cons_zero,List.set_cons_succ,i64_w,i32_w]
                    rfl
                   refine pure_ (i:=4) (N:=some 134) (v:=?_) (a':=?_) #[true,true,true,true,true,false,false,false,false,false,false,false,false] rfl rfl (any_of HT_.out (by kernel_rfl)) (fun _ _ _ h => h) (Or.inl ⟨by rfl,?_⟩) ?_ ?_
                   rotate_left
                   ·intro w'
                    go_simp
                    with_reducible rfl
                   rotate_left
                   ·simp only [Act.put,List.setIfInBounds_toArray,List.set_cons_zero,List.set_cons_succ,i64_w,i32_w]
                    rfl
                   refine pure_ (i:=5) (N:=some 135) (v:=?_) (a':=?_) #[true,true,true,true,true,true,false,false,false,false,false,false,false] rfl rfl (any_of HT_.out (by kernel_rfl)) (fun _ _ _ h => h) (Or.inl ⟨by rfl,?_⟩) ?_ ?_
                   rotate_left
                   ·intro w'
                    go_simp
                    with_reducible rfl
                   rotate_left
                   ·simp only [Act.put,List.setIfInBounds_toArray,List.set_cons_zero,List.set_cons_succ,i64_w,i32_w]
                    rfl
                   refine pure_ (i:=6) (N:=some 136) (v:=?_) (a':=?_) #[true,true,true,true,true,true,true,false,false,false,false,false,false] rfl rfl (any_of HT_.out (by kernel_rfl)) (fun _ _ _ h => h) (Or.inl ⟨by rfl,?_⟩) ?_ ?_
                   rotate_left
                   ·intro w'
                    go_simp
                    with_reducible rfl
                   rotate_left
                   ·simp only [Act.put,List.setIfInBounds_toArray,List.set_cons_zero,List.set_cons_succ,i64_w,i32_w]
                    rfl
                   refine pure_ (i:=7) (N:=some 137) (v:=?_) (a':=?_) #[true,true,true,true,true,true,true,true,false,false,false,false,false] rfl rfl (any_of HT_.out (by kernel_rfl)) (fun _ _ _ h => h) (Or.inl ⟨by rfl,?_⟩) ?_ ?_
                   rotate_left
                   ·intro w'
                    go_simp
                    with_reducible rfl
                   rotate_left
                   ·simp only [Act.put,List.setIfInBounds_toArray,List.set_cons_zero,List.set_cons_succ,i64_w,i32_w]
                    rfl
                   refine take_ (i:=8) (N:=some 138) (v:=?_) (a':=?_) #[true,true,true,true,true,true,true,true,true,false,false,false,false] rfl rfl (take_ofW HT_.out HW_.out (by kernel_rfl)) (fun _ _ _ h => h) (Or.inl ⟨by rfl,?_⟩) hHeld ?_ ?_
                   rotate_left
                   ·rintro w' ⟨s0,s1⟩
                    go_simp
                    with_reducible rfl
                   rotate_left
                   ·simp only [Act.put,List.setIfInBounds_toArray,List.set_cons_zero,List.set_cons_succ,i64_w,i32_w]
                    rfl
                   refine pure_ (i:=9) (N:=some 139) (v:=?_) (a':=?_) #[true,true,true,true,true,true,true,true,true,true,false,false,false] rfl rfl (any_of HT_.out (by kernel_rfl)) (fun _ _ _ h => h) (Or.inl ⟨by rfl,?_⟩) ?_ ?_
                   rotate_left
                   ·intro w'
                    go_simp
                    with_reducible rfl
                   rotate_left
                   ·simp only [Act.put,List.setIfInBounds_toArray,List.set_cons_zero,List.set_cons_succ,i64_w,i32_w]
                    rfl
                   refine one_ (i:=10) (N:=some 140) #[true,true,true,true,true,true,true,true,true,true,true,false,false] rfl rfl (one_of HT_.out (by kernel_rfl)) (by decide) (fun K hK => ?_)
                   refine value_ (w1:=?_) (v:=?_) (by rfl) rfl ?_ ?_
                   rotate_left 2
                   ·go_simp
                    constructor
                    ·rfl
                    ·rfl
                   refine hK.out _ _ ⟨(blk_cell (blk_alloc BK277.out _) 0).trans rfl,(blk_cell (blk_alloc BK277.out _) 1).trans rfl⟩ (fun hHeld => ?_)
                   clear hK K
                   refine norm_ (a':=?_) ?_ ?_
                   rotate_left
                   ·show Act.put _ (some 140) _ = _
                    simp only [Act.put,List.setIfInBounds_toArray,List.set_cons_zero,List.set_cons_succ,i64_w,i32_w]
                    rfl
                   refine one_ (i:=11) (N:=some 141) #[true,true,true,true,true,true,true,true,true,true,true,true,false] rfl rfl (one_of HT_.out (by kernel_rfl)) (by decide) (fun K hK => ?_)
                   refine Kd.R_append_step k48 (w0:=w) w.heap.size (by rfl) (.tmp 130) (.tmp 140) 35 48 (.agg #[(.int .u8 0),(.string ⟨#[]⟩),(.int .i64 0),(.int .i64 0)]) 40 rfl Tryd.underlying35 info48 rfl (by decide) (by omega) u4 x4_1 (⟨3,a0.extract (x5_1 : Int).toNat ((wrap64 (x5_1 + t274)) : Int).toNat,(⟨t275,t276⟩ : S37)⟩ : S48) [.int .u8 3,.string (a0.extract (x5_1 : Int).toNat ((wrap64 (x5_1 + t274)) : Int).toNat),.int .i64 t275,.int .i64 t276] (fun _ => True) (fun _ => False) rfl rfl ?aP (fun _ hk => hk.elim) ?aF ?aO ?aB ?aS ?aL ?_
                   (case aP => exact k48_mkM _ _ _ (⟨3,a0.extract (x5_1 : Int).toNat ((wrap64 (x5_1 + t274)) : Int).toNat,(⟨t275,t276⟩ : S37)⟩ : S48))
                   (case aB => exact (by repeat (first | (with_reducible first | exact HB.out | apply below_alloc | apply pw_below_drewN | apply below_drew1 | refine below_set ?_ GE267.out | refine below_set ?_ GE277.out) | exact HB.out)))
                   (case aF => exact (fun _ _ => trivial))
                   (case aO => exact (by (with_reducible repeat (first | apply Kd.R_alloc | apply Kd.R_drewN | apply Kd.R_drew));exact HO_4.out))
                   (case aS => exact (below_size (by repeat (first | (with_reducible first | exact HB.out | apply below_alloc | apply pw_below_drewN | apply below_drew1 | refine below_set ?_ GE267.out | refine below_set ?_ GE277.out) | exact HB.out))))
                   (case aL => have:=LMc145.out;omega)
                   intro v308 w148 ho hb hg hat
                   rw [← Ny307.out] at ho
                   have n0_:=Aside0.mk (blk_grown (g:=gb267) (o:=.cells #[.int .i64 x268000_1,.int .i64 x268001_1,.int .i64 x268002_1] 39 (0,0)) (by (with_reducible repeat (first | refine blk_drewN ?_ _ | refine blk_drew ?_ | refine blk_alloc ?_ _));exact BK267.out) hg (Kd.R_ne HO_4.out BK267.out (by decide)))
                   have n1_:=Aside0.mk (blk_grown (g:=gb277) (o:=.cells #[.int .i64 t275,.int .i64 t276] 37 (0,0)) (by (with_reducible repeat (first | refine blk_drewN ?_ _ | refine blk_drew ?_ | refine blk_alloc ?_ _));exact BK277.out) hg (Kd.R_ne HO_4.out BK277.out (by decide)))
                   have n2_:=Aside0.mk (hb)
                   have n3_:=Aside0.mk (ho)
                   clear BK267
                   clear BK277
                   clear HB
                   clear HO_4
                   have BK267:=n0_
                   have BK277:=n1_
                   have HB:=n2_
                   have HO309:=n3_
                   clear n0_ n1_ n2_ n3_
                   clear ho hb hg hat
                   refine hK.out _ _ ⟨(blk_cell BK277.out 0).trans rfl,(blk_cell BK277.out 1).trans rfl⟩ (fun hHeld => ?_)
                   clear hK K
                   refine norm_ (a':=?_) ?_ ?_
                   rotate_left
                   ·show Act.put _ (some 141) _ = _
                    simp only [Act.put,List.setIfInBounds_toArray,List.set_cons_zero,List.set_cons_succ,i64_w,i32_w]
                    rfl
                   refine pure_ (i:=12) (N:=some 4) (v:=?_) (a':=?_) #[true,true,true,true,true,true,true,true,true,true,true,true,true] rfl rfl (any_of HT_.out (by kernel_rfl)) (fun _ _ _ h => h) (Or.inl ⟨by rfl,?_⟩) ?_ ?_
                   rotate_left
                   ·intro w'
                    go_simp
                    with_reducible rfl
                   rotate_left
                   ·simp only [Act.put,List.setIfInBounds_toArray,List.set_cons_zero,List.set_cons_succ,i64_w,i32_w]
                    rfl
                   refine done_ (done_of HT_.out (by kernel_rfl)) ?_
                   try go_wp2
                   go_roundg kj10
                   case measure => have:=HK1.out;have:=HJ10.out;omega
                   case rel => exact ⟨(y307),(wrap64 (x5_1 + t274)),(x268000_1),(x268001_1),(x268002_1),(by first | rfl | (simp;done) | (simp [*];done)),H',⟨by have:=HK1.out;have:=HJ10.out;omega⟩,⟨by (with_reducible repeat (first | apply Kd.R_alloc | apply Kd.R_drewN | apply Kd.R_drew));exact HO309.out⟩,⟨by (with_reducible repeat (first | refine blk_drewN ?_ _ | refine blk_drew ?_ | refine blk_alloc ?_ _));exact BK267.out⟩,⟨by repeat (first | (with_reducible first | exact HB.out | apply below_alloc | apply pw_below_drewN | apply below_drew1 | refine below_set ?_ GE267.out | refine below_set ?_ GE277.out) | exact HB.out)⟩⟩
                  ·rw [if_neg c145] at H
                   exact absurd H (by simp)
                 ·rw [if_neg c144] at H
                  exact absurd H (by simp)
                ·rw [if_neg c143] at H
                 exact absurd H (by simp)
               ·replace c141:=Bool.eq_false_iff.mpr c141
                subst c141
                have H1 : (some (([] : List (S48)),4,t275,t276)) = some (r1,r2,r3,r4):=by rw [if_neg (show ¬ (false = true) by decide)] at H;exact H
                clear H
                have H:=H1
                clear H1
                simp only [Option.some.injEq,Prod.mk.injEq] at H
                obtain ⟨rfl,rfl,rfl,rfl⟩:=H
                try go_wp2_with (first | ((with_reducible refine gate_callee (f:=36) rfl ?_);refine goesL_ (some 75) rfl rfl Tryd.func36 (by kernel_rfl) rfl #[.string (a0.extract (x5_1 : Int).toNat a0.size)] rfl (by (try simp only [List.map_toArray,List.map_cons,List.map_nil]);first | done | rfl | (simp only [List.length_drop,List.length_take];rfl)) ?_;(with_reducible refine (joustref01_word.calls kj10 (a0.extract (x5_1 : Int).toNat a0.size) t282 t283 _ ?side1 A34.out).mono ?_);(case side1 => exact Tabs.below HG.out (by repeat (first | (with_reducible first | exact HB.out | apply below_alloc | apply pw_below_drewN | apply below_drew1 | refine below_set ?_ GE267.out | refine below_set ?_ GE277.out) | exact HB.out)));rintro e w149 ⟨rfl,hb⟩;refine ⟨_,rfl,?_⟩;have n0_:=Aside0.mk (Kd.R_below (by (with_reducible repeat (first | apply Kd.R_alloc | apply Kd.R_drewN | apply Kd.R_drew));exact HO_4.out) hb);have n1_:=Aside0.mk (blk_below (g:=gb267) (o:=.cells #[.int .i64 x268000_1,.int .i64 x268001_1,.int .i64 x268002_1] 39 (0,0)) (by (with_reducible repeat (first | refine blk_drewN ?_ _ | refine blk_drew ?_ | refine blk_alloc ?_ _));exact BK267.out) hb);have n2_:=Aside0.mk (blk_below (g:=gb277) (o:=.cells #[.int .i64 t275,.int .i64 t276] 37 (0,0)) (by (with_reducible repeat (first | refine blk_drewN ?_ _ | refine blk_drew ?_ | refine blk_alloc ?_ _));exact BK277.out) hb);have n3_:=Aside0.mk (below_step (by repeat (first | (with_reducible first | exact HB.out | apply below_alloc | apply pw_below_drewN | apply below_drew1 | refine below_set ?_ GE267.out | refine below_set ?_ GE277.out) | exact HB.out)) hb);clear HO_4;clear BK267;clear BK277;clear HB;have HO_4:=n0_;have BK267:=n1_;have BK277:=n2_;have HB:=n3_;clear n0_ n1_ n2_ n3_;(try clear hb);(try clear hb2);(try clear hk);(try clear hi)) | ((with_reducible refine gate_callee (f:=37) rfl ?_);refine goesL_ (some 86) rfl rfl Tryd.func37 (by kernel_rfl) rfl #[.int .i32 t273] rfl (by (try simp only [List.map_toArray,List.map_cons,List.map_nil]);first | done | rfl | (simp only [List.length_drop,List.length_take];rfl)) ?_;(with_reducible refine (joustref01_digit.calls t273 false _ A49.out).mono ?_);rintro e w' ⟨rfl,⟨nd,rfl⟩⟩;refine ⟨_,rfl,?_⟩;(try (rw [drewN_self w149];generalize hq_ : World.drewN w149 _ = w149;have n0_ : Aside0 (Kd.R k48 48 w149 w.heap.size (fun _ => True) u4 x4_1):=⟨by rw [← hq_];exact (by (with_reducible repeat (first | apply Kd.R_alloc | apply Kd.R_drewN | apply Kd.R_drew));exact HO_4.out)⟩;have n1_ : Aside0 (w149.heap[gb267]? = some (.cells #[.int .i64 x268000_1,.int .i64 x268001_1,.int .i64 x268002_1] 39 (0,0))):=⟨by rw [← hq_];exact (by (with_reducible repeat (first | refine blk_drewN ?_ _ | refine blk_drew ?_ | refine blk_alloc ?_ _));exact BK267.out)⟩;have n2_ : Aside0 (w149.heap[gb277]? = some (.cells #[.int .i64 t275,.int .i64 t276] 37 (0,0))):=⟨by rw [← hq_];exact (by (with_reducible repeat (first | refine blk_drewN ?_ _ | refine blk_drew ?_ | refine blk_alloc ?_ _));exact BK277.out)⟩;have n3_ : Aside0 (Below w.heap.size w w149):=⟨by rw [← hq_];exact (by repeat (first | (with_reducible first | exact HB.out | apply below_alloc | apply pw_below_drewN | apply below_drew1 | refine below_set ?_ GE267.out | refine below_set ?_ GE277.out) | exact HB.out))⟩;clear HO_4 BK267 BK277 HB hq_;have HO_4:=n0_;have BK267:=n1_;have BK277:=n2_;have HB:=n3_;clear n0_ n1_ n2_ n3_))) | ((with_reducible refine gate_callee (f:=41) rfl ?_);refine goesL_ (some 126) rfl rfl Tryd.func41 (by kernel_rfl) rfl #[.int .i32 t273] rfl (by (try simp only [List.map_toArray,List.map_cons,List.map_nil]);first | done | rfl | (simp only [List.length_drop,List.length_take];rfl)) ?_;(with_reducible refine (joustref01_mark.calls kj10 t273 false _ A140.out).mono ?_);rintro e w' ⟨rfl,⟨nd,rfl⟩⟩;refine ⟨_,rfl,?_⟩;(try (rw [drewN_self w149];generalize hq_ : World.drewN w149 _ = w149;have n0_ : Aside0 (Kd.R k48 48 w149 w.heap.size (fun _ => True) u4 x4_1):=⟨by rw [← hq_];exact (by (with_reducible repeat (first | apply Kd.R_alloc | apply Kd.R_drewN | apply Kd.R_drew));exact HO_4.out)⟩;have n1_ : Aside0 (w149.heap[gb267]? = some (.cells #[.int .i64 x268000_1,.int .i64 x268001_1,.int .i64 x268002_1] 39 (0,0))):=⟨by rw [← hq_];exact (by (with_reducible repeat (first | refine blk_drewN ?_ _ | refine blk_drew ?_ | refine blk_alloc ?_ _));exact BK267.out)⟩;have n2_ : Aside0 (w149.heap[gb277]? = some (.cells #[.int .i64 t275,.int .i64 t276] 37 (0,0))):=⟨by rw [← hq_];exact (by (with_reducible repeat (first | refine blk_drewN ?_ _ | refine blk_drew ?_ | refine blk_alloc ?_ _));exact BK277.out)⟩;have n3_ : Aside0 (Below w.heap.size w w149):=⟨by rw [← hq_];exact (by repeat (first | (with_reducible first | exact HB.out | apply below_alloc | apply pw_below_drewN | apply below_drew1 | refine below_set ?_ GE267.out | refine below_set ?_ GE277.out) | exact HB.out))⟩;clear HO_4 BK267 BK277 HB hq_;have HO_4:=n0_;have BK267:=n1_;have BK277:=n2_;have HB:=n3_;clear n0_ n1_ n2_ n3_))))
                have n0_:=Aside0.mk (Kd.R_drew HO_4.out)
                have n1_:=Aside0.mk (blk_drew BK267.out)
                have n2_:=Aside0.mk (blk_drew BK277.out)
                have n3_:=Aside0.mk (below_drew1 HB.out)
                clear HO_4
                clear BK267
                clear BK277
                clear HB
                have HO_4:=n0_
                have BK267:=n1_
                have BK277:=n2_
                have HB:=n3_
                clear n0_ n1_ n2_ n3_
                refine start_ (n:=4) (S:=fun w' => w'.cell? ⟨gb277,0,none⟩ = some (.int .i64 t275) ∧ w'.cell? ⟨gb277,1,none⟩ = some (.int .i64 t276)) (ds:=[]) #[false,false,false,false] (by kernel_rfl) rfl rfl ⟨(blk_cell BK277.out 0).trans rfl,(blk_cell BK277.out 1).trans rfl⟩ (fun hHeld => ?_)
                generalize w149.drew = w150 at HO_4 BK267 BK277 HB hHeld ⊢
                refine pure_ (i:=2) (N:=some 2) (v:=?_) (a':=?_) #[false,false,true,false] rfl rfl (by kernel_rfl) (fun _ _ _ h => h) (Or.inl ⟨by rfl,?_⟩) ?_ ?_
                rotate_left
                ·intro w'
                 go_simp
                 with_reducible rfl
                rotate_left
                ·simp only [Act.put,List.setIfInBounds_toArray,List.set_cons_zero,List.set_cons_succ,i64_w,i32_w]
                 rfl
                refine take_ (i:=0) (N:=some 128) (v:=?_) (a':=?_) #[true,false,true,false] rfl rfl (by kernel_rfl) (fun _ _ _ h => h) (Or.inl ⟨by rfl,?_⟩) hHeld ?_ ?_
                rotate_left
                ·rintro w' ⟨s0,s1⟩
                 go_simp
                 with_reducible rfl
                rotate_left
                ·simp only [Act.put,List.setIfInBounds_toArray,List.set_cons_zero,List.set_cons_succ,i64_w,i32_w]
                 rfl
                refine pure_ (i:=1) (N:=some 129) (v:=?_) (a':=?_) #[true,true,true,false] rfl rfl (by kernel_rfl) (fun _ _ _ h => h) (Or.inl ⟨by rfl,?_⟩) ?_ ?_
                rotate_left
                ·intro w'
                 go_simp
                 with_reducible rfl
                rotate_left
                ·simp only [Act.put,List.setIfInBounds_toArray,List.set_cons_zero,List.set_cons_succ,i64_w,i32_w]
                 rfl
                refine one_ (i:=3) (N:=none) #[true,true,true,true] rfl rfl (by kernel_rfl) (by decide) (fun K hK => ?_)
                have hs151 : w150.cell? ⟨gb267,0,none⟩ = some (.int .i64 x268000_1):=(blk_cell BK267.out 0).trans rfl
                have hfs151:=blk_frozen BK267.out 0
                have hns151_1:=NB277_267.out
                have hms151_1:=NB267_277.out
                have hs152 : w150.cell? ⟨gb267,1,none⟩ = some (.int .i64 x268001_1):=(blk_cell BK267.out 1).trans rfl
                have hfs152:=blk_frozen BK267.out 1
                have hns152_1:=NB277_267.out
                have hms152_1:=NB267_277.out
                have hs153 : w150.cell? ⟨gb267,2,none⟩ = some (.int .i64 x268002_1):=(blk_cell BK267.out 2).trans rfl
                have hfs153:=blk_frozen BK267.out 2
                have hns153_1:=NB277_267.out
                have hms153_1:=NB267_277.out
                refine skip_ (w1:=?_) (by rfl) rfl ?_ ?_
                rotate_left
                ·go_simp
                 rfl
                refine hK.out _ _ ⟨((cell_far (p:=⟨gb267,_,none⟩) NB277_267.out _).trans (((cell_far (p:=⟨gb267,_,none⟩) NB277_267.out _).trans (((cell_far (p:=⟨gb267,_,none⟩) NB277_267.out _).trans (hHeld.1)))))),((cell_far (p:=⟨gb267,_,none⟩) NB277_267.out _).trans (((cell_far (p:=⟨gb267,_,none⟩) NB277_267.out _).trans (((cell_far (p:=⟨gb267,_,none⟩) NB277_267.out _).trans (hHeld.2))))))⟩ (fun hHeld => ?_)
                clear hK K
                refine done_ (by kernel_rfl) ?_
                try go_wp2
                refine bodyPost_ret (results_tc rfl _ _ gb267 39 #[.int .i64 4,.int .i64 t275,.int .i64 t276] (0,0) _ rfl (by (with_reducible repeat (first | refine blk_drewN ?_ _ | refine blk_drew ?_ | refine blk_alloc ?_ _));refine blk_put (cs:=#[.int .i64 4,.int .i64 t275,.int .i64 x268002_1]) ?_ 2 _ rfl;(with_reducible repeat (first | refine blk_drewN ?_ _ | refine blk_drew ?_ | refine blk_alloc ?_ _));refine blk_put (cs:=#[.int .i64 4,.int .i64 x268001_1,.int .i64 x268002_1]) ?_ 1 _ rfl;(with_reducible repeat (first | refine blk_drewN ?_ _ | refine blk_drew ?_ | refine blk_alloc ?_ _));refine blk_put (cs:=#[.int .i64 x268000_1,.int .i64 x268001_1,.int .i64 x268002_1]) ?_ 0 _ rfl;(with_reducible repeat (first | refine blk_drewN ?_ _ | refine blk_drew ?_ | refine blk_alloc ?_ _));exact BK267.out) Tryd.underlying39 rfl (by kernel_rfl)) rfl ?_
                exact ⟨_,by first | rfl | (simp [errW_none,errW_some] <;> rfl) | (simp [*,errW_none,errW_some] <;> rfl),by first | exact Kd.R_nil _ _ _ _ _ | exact Kd.N_nil _ _ _ _ _ | exact Kd.V_nil _ _ _ _ _ | exact Kd.Q_nil _ _ _ _ _ | exact Kd.S_nil _ _ _ _ _,by repeat (first | (with_reducible first | exact HB.out | apply below_alloc | apply pw_below_drewN | apply below_drew1 | refine below_set ?_ GE267.out | refine below_set ?_ GE277.out) | exact HB.out)⟩
            ·rw [if_neg c33] at H
             exact absurd H (by simp)
           ·rw [if_neg c32] at H
            exact absurd H (by simp)
      ·rw [if_neg c8] at H
       exact absurd H (by simp)
     ·rw [if_neg c7] at H
      exact absurd H (by simp)
    ·rw [if_neg c6] at H
     have c6b0 : decide (x5_1 < (a0.size : Int)) = false:=decide_eq_false c6
     clear c6
     replace H:=Option.bind_eq_some_iff.mp H
     obtain ⟨⟨t268,t269⟩,A1540,H⟩:=H
     replace H : (if x4_1.length < 3518437208883 then (some ((x4_1 ++ [(⟨0,(⟨#[]⟩ : ByteArray),(⟨t268,t269⟩ : S37)⟩ : S48)]),0,0,0)) else (none)) = some (r1,r2,r3,r4):=H
     have A154:=Aside0.mk A1540
     clear A1540
     by_cases c155 : x4_1.length < 3518437208883
     ·rw [if_pos c155] at H
      have LMc155:=Aside0.mk c155
      clear c155
      obtain ⟨y270,hy270⟩ : ∃ y_ : List (S48),y_ = (x4_1 ++ [(⟨0,(⟨#[]⟩ : ByteArray),(⟨t268,t269⟩ : S37)⟩ : S48)]):=⟨_,rfl⟩
      replace H : (some (y270,0,0,0)) = some (r1,r2,r3,r4):=by first | (rw [hy270];with_reducible exact H) | (have H2_:=(Option.bind_some _ _).symm.trans H;rw [hy270];with_reducible exact H2_) | (have H2_:=(Option.bind_some _ _).symm.trans H;with_reducible exact H2_) | with_reducible exact H | (rw [hy270];exact H) | exact H
      have Ny270:=Aside0.mk hy270
      clear hy270
      simp only [Option.some.injEq,Prod.mk.injEq] at H
      obtain ⟨rfl,rfl,rfl,rfl⟩:=H
      go_wp2_with (first | ((with_reducible refine gate_callee (f:=22) rfl ?_);refine goesL_ (some 149) rfl rfl Tryd.func22 (by kernel_rfl) rfl #[.string a0,.int .i64 (a0.size : Int)] rfl (by (try simp only [List.map_toArray,List.map_cons,List.map_nil]);first | done | rfl | (simp only [List.length_drop,List.length_take];rfl)) ?_;(with_reducible refine (joustref01_Where.calls k1 a0 (a0.size : Int) t268 t269 _ ?side1 A154.out).mono ?_);(case side1 => exact Tabs.below HG.out (by repeat (first | (with_reducible first | exact HB.out | apply below_alloc | apply pw_below_drewN | apply below_drew1 | refine below_set ?_ GE267.out) | exact HB.out)));rintro e w156 ⟨rfl,hb⟩;refine ⟨_,rfl,?_⟩;have n0_:=Aside0.mk (Kd.R_below (by (with_reducible repeat (first | apply Kd.R_alloc | apply Kd.R_drewN | apply Kd.R_drew));exact HO_4.out) hb);have n1_:=Aside0.mk (blk_below (g:=gb267) (o:=.cells #[.int .i64 x268000_1,.int .i64 x268001_1,.int .i64 x268002_1] 39 (0,0)) (by (with_reducible repeat (first | refine blk_drewN ?_ _ | refine blk_drew ?_ | refine blk_alloc ?_ _));exact BK267.out) hb);have n2_:=Aside0.mk (below_step (by repeat (first | (with_reducible first | exact HB.out | apply below_alloc | apply pw_below_drewN | apply below_drew1 | refine below_set ?_ GE267.out) | exact HB.out)) hb);clear HO_4;clear BK267;clear HB;have HO_4:=n0_;have BK267:=n1_;have HB:=n2_;clear n0_ n1_ n2_;(try clear hb);(try clear hb2);(try clear hk);(try clear hi)) | ((with_reducible refine gate_builtin (b:=.append) (xs:=#[.tmp 145,.tmp 151]) rfl ?_);at_builtin;refine Kd.R_append k48 (w0:=w) w.heap.size rfl (.tmp 145) (.tmp 151) 35 48 (.agg #[(.int .u8 0),(.string ⟨#[]⟩),(.int .i64 0),(.int .i64 0)]) 40 rfl Tryd.underlying35 info48 rfl (by decide) (by omega) u4 x4_1 (⟨0,(⟨#[]⟩ : ByteArray),(⟨t268,t269⟩ : S37)⟩ : S48) [.int .u8 0,.string (⟨#[]⟩ : ByteArray),.int .i64 t268,.int .i64 t269] (fun _ => True) (fun _ => False) rfl rfl ?aP (fun _ hk => hk.elim) ?aF ?aO ?aB ?aS ?aL ?_;(case aP => exact k48_mkM _ _ _ (⟨0,(⟨#[]⟩ : ByteArray),(⟨t268,t269⟩ : S37)⟩ : S48));(case aB => exact (by repeat (first | (with_reducible first | exact HB.out | apply below_alloc | apply pw_below_drewN | apply below_drew1 | refine below_set ?_ GE267.out) | exact HB.out)));(case aF => exact (fun _ _ => trivial));(case aO => exact (by (with_reducible repeat (first | apply Kd.R_alloc | apply Kd.R_drewN | apply Kd.R_drew));exact HO_4.out));(case aS => exact (below_size (by repeat (first | (with_reducible first | exact HB.out | apply below_alloc | apply pw_below_drewN | apply below_drew1 | refine below_set ?_ GE267.out) | exact HB.out))));(case aL => have:=LMc155.out;omega);intro v271 w157 ho hb hg hat;rw [← Ny270.out] at ho;have n0_:=Aside0.mk (blk_grown (g:=gb267) (o:=.cells #[.int .i64 x268000_1,.int .i64 x268001_1,.int .i64 x268002_1] 39 (0,0)) (by (with_reducible repeat (first | refine blk_drewN ?_ _ | refine blk_drew ?_ | refine blk_alloc ?_ _));exact BK267.out) hg (Kd.R_ne HO_4.out BK267.out (by decide)));have n1_:=Aside0.mk (hb);have n2_:=Aside0.mk (ho);clear BK267;clear HB;clear HO_4;have BK267:=n0_;have HB:=n1_;have HO272:=n2_;clear n0_ n1_ n2_;clear ho hb hg hat;have hcz158_0 : w157.cell? ⟨gb267,0,none⟩ = some (.int .i64 x268000_1):=(blk_cell BK267.out 0).trans rfl;have hcz158_1 : w157.cell? ⟨gb267,1,none⟩ = some (.int .i64 x268001_1):=(blk_cell BK267.out 1).trans rfl;have hcz158_2 : w157.cell? ⟨gb267,2,none⟩ = some (.int .i64 x268002_1):=(blk_cell BK267.out 2).trans rfl;have hfz158_0:=blk_frozen BK267.out 0;have hfz158_1:=blk_frozen BK267.out 1;have hfz158_2:=blk_frozen BK267.out 2))
      refine bodyPost_ret (results_tc rfl _ _ gb267 39 #[.int .i64 0,.int .i64 0,.int .i64 0] (0,0) _ rfl (by (with_reducible repeat (first | refine blk_drewN ?_ _ | refine blk_drew ?_ | refine blk_alloc ?_ _));refine blk_put (cs:=#[.int .i64 0,.int .i64 0,.int .i64 x268002_1]) ?_ 2 _ rfl;(with_reducible repeat (first | refine blk_drewN ?_ _ | refine blk_drew ?_ | refine blk_alloc ?_ _));refine blk_put (cs:=#[.int .i64 0,.int .i64 x268001_1,.int .i64 x268002_1]) ?_ 1 _ rfl;(with_reducible repeat (first | refine blk_drewN ?_ _ | refine blk_drew ?_ | refine blk_alloc ?_ _));refine blk_put (cs:=#[.int .i64 x268000_1,.int .i64 x268001_1,.int .i64 x268002_1]) ?_ 0 _ rfl;(with_reducible repeat (first | refine blk_drewN ?_ _ | refine blk_drew ?_ | refine blk_alloc ?_ _));exact BK267.out) Tryd.underlying39 rfl (by kernel_rfl)) rfl ?_
      exact ⟨_,by first | rfl | (simp [errW_none,errW_some] <;> rfl) | (simp [*,errW_none,errW_some] <;> rfl),by (with_reducible repeat (first | apply Kd.R_alloc | apply Kd.R_drewN | apply Kd.R_drew));exact Kd.R_mono (Kd.R_far (p:=⟨gb267,2,none⟩) (Kd.R_far (p:=⟨gb267,1,none⟩) (Kd.R_far (p:=⟨gb267,0,none⟩) (Kd.R_types HO272.out BK267.out (by decide)) (fun _ hk => hk.2) (.int .i64 0)) (fun _ hk => hk.2) (.int .i64 0)) (fun _ hk => hk.2) (.int .i64 0)) (fun _ hk => trivial),by repeat (first | (with_reducible first | exact HB.out | apply below_alloc | apply pw_below_drewN | apply below_drew1 | refine below_set ?_ GE267.out) | exact HB.out)⟩
     ·rw [if_neg c155] at H
      exact absurd H (by simp)

end Go.Proofs.YtgalbiokebghkaaDoor.S
