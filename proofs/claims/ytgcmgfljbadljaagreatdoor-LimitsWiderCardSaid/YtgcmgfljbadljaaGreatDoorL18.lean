/- Written by a program of this claim's author (stubprint.py, over the kit's print) out of the translation: Go functions as Lean functions, and that the calls come to them. -/
import Derived.Test.YtgcmgfljbadljaaGreatDoorL0
import Derived.Test.YtgcmgfljbadljaaGreatDoorL3
import Derived.Test.YtgcmgfljbadljaaGreatDoorL5
import Derived.Test.YtgcmgfljbadljaaGreatDoorL8
import Derived.Test.YtgcmgfljbadljaaGreatDoorL9
import Derived.Test.YtgcmgfljbadljaaGreatDoorL10
import Derived.Test.YtgcmgfljbadljaaGreatDoorL13
import Derived.Test.YtgcmgfljbadljaaGreatDoorHandS
namespace Go.Proofs.YtgcmgfljbadljaaGreatDoor.L
open Go.RowKit Go.Proofs.YtgcmgfljbadljaaGreatDoorW.PrintWords Go.Proofs.YtgcmgfljbadljaaGreatDoorW.PrintLast Go.Proofs.YtgcmgfljbadljaaGreatDoorW.PrintMore Go.Proofs.YtgcmgfljbadljaaGreatDoor.HandS Go.Proofs.YtgcmgfljbadljaaGreatDoor.Iter
attribute [local go_sem] max2_int min2_int max_two min_two max_three min_three max_four min_four   -- for this text's walks alone
set_option linter.unusedVariables false
set_option linter.unusedSimpArgs false

/-! ### joustlaw30_LimitsWider: function 4 -/
mutual
def joustlaw30_LimitsWider.j0 : Nat → List (S47) → List Int → Int → Int → Bool → ByteArray → Int → Int → List (S42) → Option (Bool)
 | 0,_,_,_,_,_,_,_,_,_ => none
 | k + 1,x1,x2,x3,x4,x26,x296000,x296001,x296002,x296003 => if x26 = true then ((joustlaw30_lives.f k).bind fun t298 => (some t298)) else ((some (([] : List (S42)) : List (S42))).bind fun y300 => (if y300.length + x296003.length < 4398046511104 then ((some (y300 ++ x296003 : List (S42))).bind fun y303 => (if (y303.length : Int) > 0 then (if (y303.length : Int) = 0 then (none) else (if 0 ≤ (Int.tmod (wrap64 (x4)) (y303.length : Int)) then (if (Int.tmod (wrap64 (x4)) (y303.length : Int)) < (y303.length : Int) then (joustlaw30_LimitsWider.j1 k x1 x2 x296000 x296001 x296002 x296003 x296000 (mn (wrap64 (x296001 + (wrap64 (x3)))) 4000) (mx (wrap64 (x296002 - (wrap64 (x3)))) 0) (y303.set ((Int.tmod (wrap64 (x4)) (y303.length : Int)) : Int).toNat (⟨(rd_T42 y303 (Int.tmod (wrap64 (x4)) (y303.length : Int))).f0,mn (wrap64 (((rd_T42 y303 (Int.tmod (wrap64 (x4)) (y303.length : Int))).f1) + (wrap64 (x3)))) 3,(rd_T42 y303 (Int.tmod (wrap64 (x4)) (y303.length : Int))).f2⟩ : S42))) else (none)) else (none))) else (joustlaw30_LimitsWider.j1 k x1 x2 x296000 x296001 x296002 x296003 x296000 (mn (wrap64 (x296001 + (wrap64 (x3)))) 4000) (mx (wrap64 (x296002 - (wrap64 (x3)))) 0) y303))) else (none)))
def joustlaw30_LimitsWider.j1 : Nat → List (S47) → List Int → ByteArray → Int → Int → List (S42) → ByteArray → Int → Int → List (S42) → Option (Bool)
 | 0,_,_,_,_,_,_,_,_,_,_ => none
 | k + 1,x1,x2,x296000,x296001,x296002,x296003,x300000,x300001,x300002,x300003 => (limits_Check.f k x296000 x296001 x296002 x296003 x1 x2).bind fun bt308 => ((limits_Check.f k x300000 x300001 x300002 x300003 x1 x2).bind fun bt312 => (if bt308.2 = bt312.2 then ((limits_May.f k x300000 x300001 x300002 x300003).bind fun t316 => (joustlaw30_LimitsWider.j2 k bt308.1 bt312.1 (!t316))) else (joustlaw30_LimitsWider.j2 k bt308.1 bt312.1 true)))
def joustlaw30_LimitsWider.j2 : Nat → List (S35) → List (S35) → Bool → Option (Bool)
 | 0,_,_,_ => none
 | k + 1,x13,x15,x94 => if x94 = true then (some false) else (joustlaw30_LimitsWider.l0 k x13 x15 (x15.length : Int) 0)
def joustlaw30_LimitsWider.l0 : Nat → List (S35) → List (S35) → Int → Int → Option (Bool)
 | 0,_,_,_,_ => none
 | k + 1,x13,x15,x96,x97 => if x97 < x96 then (if 0 ≤ x97 then (if x97 < (x15.length : Int) then ((joustlaw30_in.f k x13 ((rd_T35 x15 x97).f0) ((rd_T35 x15 x97).f1)).bind fun t318 => (if t318 = true then (joustlaw30_LimitsWider.l0 k x13 x15 x96 (wrap64 (x97 + 1))) else (some false))) else (none)) else (none)) else ((joustlaw30_lives.f k).bind fun t319 => (some t319))
end
def joustlaw30_LimitsWider.f (k : Nat) (a0_0 : ByteArray) (a0_1 : Int) (a0_2 : Int) (l0_3 : List (S42)) (l1 : List (S47)) (l2 : List Int) (a3 : Int) (a4 : Int) : Option (Bool):=(joustlaw30_great.f a0_0 a0_1 a0_2 l0_3 l1 l2).bind fun t296 => (if t296 = true then (joustlaw30_LimitsWider.j0 k l1 l2 a3 a4 true a0_0 a0_1 a0_2 l0_3) else ((limits_May.f k a0_0 a0_1 a0_2 l0_3).bind fun t297 => (joustlaw30_LimitsWider.j0 k l1 l2 a3 a4 (!t297) a0_0 a0_1 a0_2 l0_3)))
theorem joustlaw30_LimitsWider.mono_l : ∀ k,(∀ y0 y1 y2 y3 y4 y5 y6 y7 y8,LeO (joustlaw30_LimitsWider.j0 k y0 y1 y2 y3 y4 y5 y6 y7 y8) (joustlaw30_LimitsWider.j0 (k + 1) y0 y1 y2 y3 y4 y5 y6 y7 y8)) ∧ (∀ y0 y1 y2 y3 y4 y5 y6 y7 y8 y9,LeO (joustlaw30_LimitsWider.j1 k y0 y1 y2 y3 y4 y5 y6 y7 y8 y9) (joustlaw30_LimitsWider.j1 (k + 1) y0 y1 y2 y3 y4 y5 y6 y7 y8 y9)) ∧ (∀ y0 y1 y2,LeO (joustlaw30_LimitsWider.j2 k y0 y1 y2) (joustlaw30_LimitsWider.j2 (k + 1) y0 y1 y2)) ∧ (∀ y0 y1 y2 y3,LeO (joustlaw30_LimitsWider.l0 k y0 y1 y2 y3) (joustlaw30_LimitsWider.l0 (k + 1) y0 y1 y2 y3))
 | 0 => ⟨fun _ _ _ _ _ _ _ _ _ r h => by simp [joustlaw30_LimitsWider.j0] at h,fun _ _ _ _ _ _ _ _ _ _ r h => by simp [joustlaw30_LimitsWider.j1] at h,fun _ _ _ r h => by simp [joustlaw30_LimitsWider.j2] at h,fun _ _ _ _ r h => by simp [joustlaw30_LimitsWider.l0] at h⟩
 | k + 1 => by
  obtain ⟨ih0,ih1,ih2,ih3⟩:=joustlaw30_LimitsWider.mono_l k;refine ⟨?_,?_,?_,?_⟩
  ·intro y0 y1 y2 y3 y4 y5 y6 y7 y8
   unfold joustlaw30_LimitsWider.j0
   repeat' first
   | (with_reducible exact ih0 _ _ _ _ _ _ _ _ _)
   | (with_reducible exact ih1 _ _ _ _ _ _ _ _ _ _)
   | (with_reducible exact ih2 _ _ _)
   | (with_reducible exact ih3 _ _ _ _)
   | (with_reducible exact joustlaw30_in.mono _ _ _ _)
   | (with_reducible exact joustlaw30_lives.mono _)
   | (with_reducible exact limits_Check.mono _ _ _ _ _ _ _)
   | (with_reducible exact limits_May.mono _ _ _ _ _)
   | (with_reducible exact LeO.refl _)
   | (with_reducible exact LeO.none _)
   | (with_reducible refine LeO.ite ?_ ?_)
   | (with_reducible refine LeO.bind ?_ (fun _ => ?_))
   | exact ih0 _ _ _ _ _ _ _ _ _
   | exact ih1 _ _ _ _ _ _ _ _ _ _
   | exact ih2 _ _ _
   | exact ih3 _ _ _ _
   | exact joustlaw30_in.mono _ _ _ _
   | exact joustlaw30_lives.mono _
   | exact limits_Check.mono _ _ _ _ _ _ _
   | exact limits_May.mono _ _ _ _ _
   | exact LeO.none _
   | refine LeO.ite ?_ ?_
   | refine LeO.bind ?_ (fun _ => ?_)
  ·intro y0 y1 y2 y3 y4 y5 y6 y7 y8 y9
   unfold joustlaw30_LimitsWider.j1
   repeat' first
   | (with_reducible exact ih0 _ _ _ _ _ _ _ _ _)
   | (with_reducible exact ih1 _ _ _ _ _ _ _ _ _ _)
   | (with_reducible exact ih2 _ _ _)
   | (with_reducible exact ih3 _ _ _ _)
   | (with_reducible exact joustlaw30_in.mono _ _ _ _)
   | (with_reducible exact joustlaw30_lives.mono _)
   | (with_reducible exact limits_Check.mono _ _ _ _ _ _ _)
   | (with_reducible exact limits_May.mono _ _ _ _ _)
   | (with_reducible exact LeO.refl _)
   | (with_reducible exact LeO.none _)
   | (with_reducible refine LeO.ite ?_ ?_)
   | (with_reducible refine LeO.bind ?_ (fun _ => ?_))
   | exact ih0 _ _ _ _ _ _ _ _ _
   | exact ih1 _ _ _ _ _ _ _ _ _ _
   | exact ih2 _ _ _
   | exact ih3 _ _ _ _
   | exact joustlaw30_in.mono _ _ _ _
   | exact joustlaw30_lives.mono _
   | exact limits_Check.mono _ _ _ _ _ _ _
   | exact limits_May.mono _ _ _ _ _
   | exact LeO.none _
   | refine LeO.ite ?_ ?_
   | refine LeO.bind ?_ (fun _ => ?_)
  ·intro y0 y1 y2
   unfold joustlaw30_LimitsWider.j2
   repeat' first
   | (with_reducible exact ih0 _ _ _ _ _ _ _ _ _)
   | (with_reducible exact ih1 _ _ _ _ _ _ _ _ _ _)
   | (with_reducible exact ih2 _ _ _)
   | (with_reducible exact ih3 _ _ _ _)
   | (with_reducible exact joustlaw30_in.mono _ _ _ _)
   | (with_reducible exact joustlaw30_lives.mono _)
   | (with_reducible exact limits_Check.mono _ _ _ _ _ _ _)
   | (with_reducible exact limits_May.mono _ _ _ _ _)
   | (with_reducible exact LeO.refl _)
   | (with_reducible exact LeO.none _)
   | (with_reducible refine LeO.ite ?_ ?_)
   | (with_reducible refine LeO.bind ?_ (fun _ => ?_))
   | exact ih0 _ _ _ _ _ _ _ _ _
   | exact ih1 _ _ _ _ _ _ _ _ _ _
   | exact ih2 _ _ _
   | exact ih3 _ _ _ _
   | exact joustlaw30_in.mono _ _ _ _
   | exact joustlaw30_lives.mono _
   | exact limits_Check.mono _ _ _ _ _ _ _
   | exact limits_May.mono _ _ _ _ _
   | exact LeO.none _
   | refine LeO.ite ?_ ?_
   | refine LeO.bind ?_ (fun _ => ?_)
  ·intro y0 y1 y2 y3
   unfold joustlaw30_LimitsWider.l0
   repeat' first
   | (with_reducible exact ih0 _ _ _ _ _ _ _ _ _)
   | (with_reducible exact ih1 _ _ _ _ _ _ _ _ _ _)
   | (with_reducible exact ih2 _ _ _)
   | (with_reducible exact ih3 _ _ _ _)
   | (with_reducible exact joustlaw30_in.mono _ _ _ _)
   | (with_reducible exact joustlaw30_lives.mono _)
   | (with_reducible exact limits_Check.mono _ _ _ _ _ _ _)
   | (with_reducible exact limits_May.mono _ _ _ _ _)
   | (with_reducible exact LeO.refl _)
   | (with_reducible exact LeO.none _)
   | (with_reducible refine LeO.ite ?_ ?_)
   | (with_reducible refine LeO.bind ?_ (fun _ => ?_))
   | exact ih0 _ _ _ _ _ _ _ _ _
   | exact ih1 _ _ _ _ _ _ _ _ _ _
   | exact ih2 _ _ _
   | exact ih3 _ _ _ _
   | exact joustlaw30_in.mono _ _ _ _
   | exact joustlaw30_lives.mono _
   | exact limits_Check.mono _ _ _ _ _ _ _
   | exact limits_May.mono _ _ _ _ _
   | exact LeO.none _
   | refine LeO.ite ?_ ?_
   | refine LeO.bind ?_ (fun _ => ?_)
theorem joustlaw30_LimitsWider.mono : ∀ a0 a1 a2 a3 a4 a5 a6 a7 k,LeO (joustlaw30_LimitsWider.f k a0 a1 a2 a3 a4 a5 a6 a7) (joustlaw30_LimitsWider.f (k + 1) a0 a1 a2 a3 a4 a5 a6 a7):=by
 intro a0 a1 a2 a3 a4 a5 a6 a7 k;obtain ⟨ih0,ih1,ih2,ih3⟩:=joustlaw30_LimitsWider.mono_l k
 unfold joustlaw30_LimitsWider.f
 repeat' first
   | (with_reducible exact ih0 _ _ _ _ _ _ _ _ _)
   | (with_reducible exact ih1 _ _ _ _ _ _ _ _ _ _)
   | (with_reducible exact ih2 _ _ _)
   | (with_reducible exact ih3 _ _ _ _)
   | (with_reducible exact joustlaw30_in.mono _ _ _ _)
   | (with_reducible exact joustlaw30_lives.mono _)
   | (with_reducible exact limits_Check.mono _ _ _ _ _ _ _)
   | (with_reducible exact limits_May.mono _ _ _ _ _)
   | (with_reducible exact LeO.refl _)
   | (with_reducible exact LeO.none _)
   | (with_reducible refine LeO.ite ?_ ?_)
   | (with_reducible refine LeO.bind ?_ (fun _ => ?_))
   | exact ih0 _ _ _ _ _ _ _ _ _
   | exact ih1 _ _ _ _ _ _ _ _ _ _
   | exact ih2 _ _ _
   | exact ih3 _ _ _ _
   | exact joustlaw30_in.mono _ _ _ _
   | exact joustlaw30_lives.mono _
   | exact limits_Check.mono _ _ _ _ _ _ _
   | exact limits_May.mono _ _ _ _ _
   | exact LeO.none _
   | refine LeO.ite ?_ ?_
   | refine LeO.bind ?_ (fun _ => ?_)
def joustlaw30_LimitsWider.T9 : Bool × List (List Nat × List Nat):=(true,[([],[]),([0],[0]),([],[]),([],[]),([3],[3]),([],[]),([4,5],[4,5]),([6],[6]),([7],[7]),([],[]),([9],[9]),([8,10],[8,10]),([11],[11]),([1,2,0,1,2,3,4,5,6,7,8,9,10,11,12],[1,2]),([13,0,1,2,3,4,5,6,7,8,9,10,11,12],[13]),([14,12,0,1,2,3,4,5,6,7,8,9,10,11,12],[12,14])])
def joustlaw30_LimitsWider.B9 : List Nat:=[0,1,0,0,8,0,56,120,248,0,512,2040,4088,8191,16383,32767]
theorem joustlaw30_LimitsWider.tab9 : rtab .any (opsOf Tryz.f4 9) = joustlaw30_LimitsWider.T9:=by kernel_rfl
theorem joustlaw30_LimitsWider.bits9 : waitsOk joustlaw30_LimitsWider.T9.2 joustlaw30_LimitsWider.B9 = true:=by kernel_rfl
set_option maxHeartbeats 8000000 in
set_option maxRecDepth 100000 in
theorem joustlaw30_LimitsWider.calls_true (k : Nat) (a0_0 : ByteArray) (a0_1 : Int) (a0_2 : Int) (A0_3 : Option Addr) (c0_3 : Nat) (l0_3 : List (S42)) (A1 : Option Addr) (c1 : Nat) (l1 : List (S47)) (A2 : Option Addr) (c2 : Nat) (l2 : List Int) (a3 : Int) (a4 : Int) (w : World) (hr0_3 : Kd.C k42 w A0_3 l0_3.length l0_3) (hc0_3 : l0_3.length ≤ c0_3) (hr1 : Kd.C k47 w A1 l1.length l1) (hc1 : l1.length ≤ c1) (hr2 : Kd.C (Kd.int .i64) w A2 l2.length l2) (hc2 : l2.length ≤ c2) (hG : Tabs w) (h : joustlaw30_LimitsWider.f k a0_0 a0_1 a0_2 l0_3 l1 l2 a3 a4 = some true) :
  Calls Tryz.prog 4 #[.agg #[.string a0_0,.int .i64 a0_1,.int .i64 a0_2,.slice A0_3 l0_3.length c0_3],.slice A1 l1.length c1,.slice A2 l2.length c2,.int .u8 a3,.int .u8 a4] w fun e w' => e = .returned (.bool true) ∧ Below w.heap.size w w':=by
 have hu24:=Tryz.underlying24;have hu35:=Tryz.underlying35;have HG:=Aside0.mk hG;clear hG;have HR0_3:=Aside0.mk hr0_3;have HC0_3:=Aside0.mk hc0_3;clear hr0_3 hc0_3;have HR1:=Aside0.mk hr1;have HC1:=Aside0.mk hc1;clear hr1 hc1;have HR2:=Aside0.mk hr2;have HC2:=Aside0.mk hc2;clear hr2 hc2;have HB:=Aside0.mk (Below.refl w.heap.size w);have H : ((joustlaw30_great.f a0_0 a0_1 a0_2 l0_3 l1 l2).bind fun t296 => (if t296 = true then (joustlaw30_LimitsWider.j0 k l1 l2 a3 a4 true a0_0 a0_1 a0_2 l0_3) else ((limits_May.f k a0_0 a0_1 a0_2 l0_3).bind fun t297 => (joustlaw30_LimitsWider.j0 k l1 l2 a3 a4 (!t297) a0_0 a0_1 a0_2 l0_3)))) = some true:=h;clear h;have HC6:=Aside0.mk H;clear H
 go_enter Tryz.func4,Tryz.ntmps4
 go_upto_region 1 with (first | ((with_reducible refine gate_dst (N:=5) rfl ?_);refine box_event ?hg (N:=5) ?hd (cs:=#[.string a0_0,.int .i64 a0_1,.int .i64 a0_2,.slice A0_3 l0_3.length c0_3]) (t:=24) ?hr ?_;(case hd => rfl);(case hg => rfl);(case hr => first | (go_simp;done) | (go_simp;rfl));intro gb295 hg w7 hbox hb;have n0_:=Aside0.mk (below_step (bl0 HB.out) hb);have n1_:=Aside0.mk (hbox);have n2_:=Aside0.mk ((by rw [hg];exact (below_size (bl0 HB.out)) : w.heap.size ≤ gb295));have n3_:=Aside0.mk ((by rw [hg];exact (below_size (bl0 HB.out)) : w.heap.size ≤ gb295));clear HB;have HB:=n0_;have BK295:=n1_;have GW295:=n2_;have GE295:=n3_;clear n0_ n1_ n2_ n3_;clear hb hbox hg))
 (try simp only [Act.put,List.setIfInBounds_toArray,List.set_cons_zero,List.set_cons_succ])
 go_cut [26] (fun v26 wc => ∃ (kq : Nat) (x26_5 : Bool),v26 = .bool x26_5 ∧ Aside0 (joustlaw30_LimitsWider.j0 kq l1 l2 a3 a4 x26_5 a0_0 a0_1 a0_2 l0_3 = some true) ∧ Aside0 (kq ≤ k) ∧ Aside0 (wc.heap[gb295]? = some (.cells #[.string a0_0,.int .i64 a0_1,.int .i64 a0_2,(.slice A0_3 l0_3.length c0_3)] 24 (0,0))) ∧ Aside0 (Below w.heap.size w wc))
 case first =>
  have H:=HC6.out;clear HC6;replace H:=Option.bind_eq_some_iff.mp H;obtain ⟨t296,A80,H⟩:=H;replace H : (if t296 = true then (joustlaw30_LimitsWider.j0 k l1 l2 a3 a4 true a0_0 a0_1 a0_2 l0_3) else ((limits_May.f k a0_0 a0_1 a0_2 l0_3).bind fun t297 => (joustlaw30_LimitsWider.j0 k l1 l2 a3 a4 (!t297) a0_0 a0_1 a0_2 l0_3))) = some true:=H;have A8:=Aside0.mk A80;clear A80
  by_cases c9 : t296 = true
  ·subst c9;have H1 : (joustlaw30_LimitsWider.j0 k l1 l2 a3 a4 true a0_0 a0_1 a0_2 l0_3) = some true:=by rw [if_pos rfl] at H;exact H
   clear H;have H:=H1;clear H1;have H':=Aside0.mk H;clear H;have hcz10_0 : w7.cell? ⟨gb295,0,none⟩ = some (.string a0_0):=(blk_cell BK295.out 0).trans rfl;have hcz10_1 : w7.cell? ⟨gb295,1,none⟩ = some (.int .i64 a0_1):=(blk_cell BK295.out 1).trans rfl;have hcz10_2 : w7.cell? ⟨gb295,2,none⟩ = some (.int .i64 a0_2):=(blk_cell BK295.out 2).trans rfl;have hcz10_3 : w7.cell? ⟨gb295,3,none⟩ = some (.slice A0_3 l0_3.length c0_3):=(blk_cell BK295.out 3).trans rfl;have hfz10_0:=blk_frozen BK295.out 0;have hfz10_1:=blk_frozen BK295.out 1;have hfz10_2:=blk_frozen BK295.out 2;have hfz10_3:=blk_frozen BK295.out 3
   go_wp2_with (first | ((with_reducible refine gate_callee (f:=8) rfl ?_);refine goesL_ (some 21) rfl rfl Tryz.func8 (by kernel_rfl) rfl #[.agg #[.string a0_0,.int .i64 a0_1,.int .i64 a0_2,.slice A0_3 l0_3.length c0_3],.slice A1 l1.length c1,.slice A2 l2.length c2] rfl (by (try simp only [List.map_toArray,List.map_cons,List.map_nil]);first | done | rfl | (simp only [List.length_drop,List.length_take];rfl)) ?_;(with_reducible refine (joustlaw30_great.calls a0_0 a0_1 a0_2 _ _ l0_3 _ _ l1 _ _ l2 true _ ?side1 ?side2 ?side3 ?side4 ?side5 ?side6 A8.out).mono ?_);(case side1 => repeat (first | exact (Kd.C_below HR0_3.out HB.out) | (with_reducible refine Kd.C_alloc ?_ _) | (with_reducible refine Kd.C_drewN ?_ _) | (with_reducible refine Kd.C_drew ?_)));(case side2 => exact HC0_3.out);(case side3 => repeat (first | exact (Kd.C_below HR1.out HB.out) | (with_reducible refine Kd.C_alloc ?_ _) | (with_reducible refine Kd.C_drewN ?_ _) | (with_reducible refine Kd.C_drew ?_)));(case side4 => exact HC1.out);(case side5 => repeat (first | exact (Kd.C_below HR2.out HB.out) | (with_reducible refine Kd.C_alloc ?_ _) | (with_reducible refine Kd.C_drewN ?_ _) | (with_reducible refine Kd.C_drew ?_)));(case side6 => exact HC2.out);rintro e w11 ⟨rfl,hb⟩;refine ⟨_,rfl,?_⟩;replace BK295:=Aside0.mk (blk_below (g:=gb295) (o:=.cells #[.string a0_0,.int .i64 a0_1,.int .i64 a0_2,.slice A0_3 l0_3.length c0_3] 24 (0,0)) (bk BK295.out) hb);replace HB:=Aside0.mk (below_step (bl1 HB.out GE295.out) hb);(try clear hb);(try clear hk)))
   go_meet
   case rel => exact ⟨_,(true),(by first | rfl | (simp;done) | (simp [*];done)),H',⟨by first | omega | exact Nat.le_refl _⟩,⟨bk BK295.out⟩,⟨bl1 HB.out GE295.out⟩⟩
  ·replace c9:=Bool.eq_false_iff.mpr c9;subst c9;have H1 : ((limits_May.f k a0_0 a0_1 a0_2 l0_3).bind fun t297 => (joustlaw30_LimitsWider.j0 k l1 l2 a3 a4 (!t297) a0_0 a0_1 a0_2 l0_3)) = some true:=by rw [if_neg (show ¬ (false = true) by decide)] at H;exact H
   clear H;have H:=H1;clear H1;replace H:=Option.bind_eq_some_iff.mp H;obtain ⟨t297,A120,H⟩:=H;replace H : (joustlaw30_LimitsWider.j0 k l1 l2 a3 a4 (!t297) a0_0 a0_1 a0_2 l0_3) = some true:=H;have A12:=Aside0.mk A120;clear A120;have H':=Aside0.mk H;clear H;have hcz13_0 : w7.cell? ⟨gb295,0,none⟩ = some (.string a0_0):=(blk_cell BK295.out 0).trans rfl;have hcz13_1 : w7.cell? ⟨gb295,1,none⟩ = some (.int .i64 a0_1):=(blk_cell BK295.out 1).trans rfl;have hcz13_2 : w7.cell? ⟨gb295,2,none⟩ = some (.int .i64 a0_2):=(blk_cell BK295.out 2).trans rfl;have hcz13_3 : w7.cell? ⟨gb295,3,none⟩ = some (.slice A0_3 l0_3.length c0_3):=(blk_cell BK295.out 3).trans rfl;have hfz13_0:=blk_frozen BK295.out 0;have hfz13_1:=blk_frozen BK295.out 1;have hfz13_2:=blk_frozen BK295.out 2;have hfz13_3:=blk_frozen BK295.out 3
   go_wp2_with (first | ((with_reducible refine gate_callee (f:=8) rfl ?_);refine goesL_ (some 21) rfl rfl Tryz.func8 (by kernel_rfl) rfl #[.agg #[.string a0_0,.int .i64 a0_1,.int .i64 a0_2,.slice A0_3 l0_3.length c0_3],.slice A1 l1.length c1,.slice A2 l2.length c2] rfl (by (try simp only [List.map_toArray,List.map_cons,List.map_nil]);first | done | rfl | (simp only [List.length_drop,List.length_take];rfl)) ?_;(with_reducible refine (joustlaw30_great.calls a0_0 a0_1 a0_2 _ _ l0_3 _ _ l1 _ _ l2 false _ ?side1 ?side2 ?side3 ?side4 ?side5 ?side6 A8.out).mono ?_);(case side1 => repeat (first | exact (Kd.C_below HR0_3.out HB.out) | (with_reducible refine Kd.C_alloc ?_ _) | (with_reducible refine Kd.C_drewN ?_ _) | (with_reducible refine Kd.C_drew ?_)));(case side2 => exact HC0_3.out);(case side3 => repeat (first | exact (Kd.C_below HR1.out HB.out) | (with_reducible refine Kd.C_alloc ?_ _) | (with_reducible refine Kd.C_drewN ?_ _) | (with_reducible refine Kd.C_drew ?_)));(case side4 => exact HC1.out);(case side5 => repeat (first | exact (Kd.C_below HR2.out HB.out) | (with_reducible refine Kd.C_alloc ?_ _) | (with_reducible refine Kd.C_drewN ?_ _) | (with_reducible refine Kd.C_drew ?_)));(case side6 => exact HC2.out);rintro e w14 ⟨rfl,hb⟩;refine ⟨_,rfl,?_⟩;replace BK295:=Aside0.mk (blk_below (g:=gb295) (o:=.cells #[.string a0_0,.int .i64 a0_1,.int .i64 a0_2,.slice A0_3 l0_3.length c0_3] 24 (0,0)) (bk BK295.out) hb);replace HB:=Aside0.mk (below_step (bl1 HB.out GE295.out) hb);(try clear hb);(try clear hk);have hcz15_0 : w14.cell? ⟨gb295,0,none⟩ = some (.string a0_0):=(blk_cell BK295.out 0).trans rfl;have hcz15_1 : w14.cell? ⟨gb295,1,none⟩ = some (.int .i64 a0_1):=(blk_cell BK295.out 1).trans rfl;have hcz15_2 : w14.cell? ⟨gb295,2,none⟩ = some (.int .i64 a0_2):=(blk_cell BK295.out 2).trans rfl;have hcz15_3 : w14.cell? ⟨gb295,3,none⟩ = some (.slice A0_3 l0_3.length c0_3):=(blk_cell BK295.out 3).trans rfl;have hfz15_0:=blk_frozen BK295.out 0;have hfz15_1:=blk_frozen BK295.out 1;have hfz15_2:=blk_frozen BK295.out 2;have hfz15_3:=blk_frozen BK295.out 3) | (go_at_call 14;(with_reducible refine (limits_May.calls k a0_0 a0_1 a0_2 _ _ l0_3 t297 _ ?side1 ?side2 ?side3 A12.out).mono ?_);(case side1 => repeat (first | exact (Kd.C_below HR0_3.out HB.out) | (with_reducible refine Kd.C_alloc ?_ _) | (with_reducible refine Kd.C_drewN ?_ _) | (with_reducible refine Kd.C_drew ?_)));(case side2 => exact HC0_3.out);(case side3 => exact Tabs.below HG.out (bl1 HB.out GE295.out));rintro e w16 ⟨rfl,hb⟩;replace BK295:=Aside0.mk (blk_below (g:=gb295) (o:=.cells #[.string a0_0,.int .i64 a0_1,.int .i64 a0_2,.slice A0_3 l0_3.length c0_3] 24 (0,0)) (bk BK295.out) hb);replace HB:=Aside0.mk (below_step (bl1 HB.out GE295.out) hb);(try clear hb);(try clear hk)))
   go_meet
   case rel => exact ⟨_,(!t297),(by first | rfl | (simp;done) | (simp [*];done)),H',⟨by first | omega | exact Nat.le_refl _⟩,⟨bk BK295.out⟩,⟨bl1 HB.out GE295.out⟩⟩
 case rest =>
  clear HC6
  try clear c1
  try clear c2
  try clear p2
  try clear c4
  try clear c8
  try clear c9
  try clear hcz10_0
  try clear hcz10_1
  try clear hcz10_2
  try clear hcz10_3
  try clear hcz13_0
  try clear hcz13_1
  try clear hcz13_2
  try clear hcz13_3
  try clear hcz15_0
  try clear hcz15_1
  try clear hcz15_2
  try clear hcz15_3
  try clear hfz10_0
  try clear hfz10_1
  try clear hfz10_2
  try clear hfz10_3
  try clear hfz13_0
  try clear hfz13_1
  try clear hfz13_2
  try clear hfz13_3
  try clear hfz15_0
  try clear hfz15_1
  try clear hfz15_2
  try clear hfz15_3
  obtain ⟨kq,x26_5,rfl,HA,HJ5,BK295,HB⟩:=hcut
  cases kq with
  | zero => exact absurd HA.out (by simp [joustlaw30_LimitsWider.j0])
  | succ kj5 =>
   have H:=HA.out;clear HA;simp only [joustlaw30_LimitsWider.j0] at H
   by_cases c17 : x26_5 = true
   ·subst c17;have H1 : ((joustlaw30_lives.f kj5).bind fun t298 => (some t298)) = some true:=by rw [if_pos rfl] at H;exact H
    clear H;have H:=H1;clear H1;replace H:=Option.bind_eq_some_iff.mp H;obtain ⟨t298,A180,H⟩:=H;replace H : (some t298) = some true:=H;have A18:=Aside0.mk A180;clear A180;have hT_:=Option.some.inj H
    go_wp2_with (first | ((with_reducible refine gate_callee (f:=9) rfl ?_);refine goesL_ (some 27) rfl rfl Tryz.func9 (by kernel_rfl) rfl #[] rfl (by (try simp only [List.map_toArray,List.map_cons,List.map_nil]);first | done | rfl | (simp only [List.length_drop,List.length_take];rfl)) ?_;(with_reducible refine (joustlaw30_lives.calls kj5  t298 _ ?side1 A18.out).mono ?_);(case side1 => exact Tabs.below HG.out (bl1 HB.out GE295.out));rintro e w19 ⟨rfl,hb⟩;refine ⟨_,rfl,?_⟩;replace BK295:=Aside0.mk (blk_below (g:=gb295) (o:=.cells #[.string a0_0,.int .i64 a0_1,.int .i64 a0_2,.slice A0_3 l0_3.length c0_3] 24 (0,0)) (bk BK295.out) hb);replace HB:=Aside0.mk (below_step (bl1 HB.out GE295.out) hb);(try clear hb);(try clear hk)))
    go_ret
    exact ⟨by first | rfl | (simp [errW_none,errW_some] <;> rfl) | (simp [*,errW_none,errW_some] <;> rfl),bl1 HB.out GE295.out⟩
   ·replace c17:=Bool.eq_false_iff.mpr c17;subst c17;have H1 : ((some (([] : List (S42)) : List (S42))).bind fun y300 => (if y300.length + l0_3.length < 4398046511104 then ((some (y300 ++ l0_3 : List (S42))).bind fun y303 => (if (y303.length : Int) > 0 then (if (y303.length : Int) = 0 then (none) else (if 0 ≤ (Int.tmod (wrap64 (a4)) (y303.length : Int)) then (if (Int.tmod (wrap64 (a4)) (y303.length : Int)) < (y303.length : Int) then (joustlaw30_LimitsWider.j1 kj5 l1 l2 a0_0 a0_1 a0_2 l0_3 a0_0 (mn (wrap64 (a0_1 + (wrap64 (a3)))) 4000) (mx (wrap64 (a0_2 - (wrap64 (a3)))) 0) (y303.set ((Int.tmod (wrap64 (a4)) (y303.length : Int)) : Int).toNat (⟨(rd_T42 y303 (Int.tmod (wrap64 (a4)) (y303.length : Int))).f0,mn (wrap64 (((rd_T42 y303 (Int.tmod (wrap64 (a4)) (y303.length : Int))).f1) + (wrap64 (a3)))) 3,(rd_T42 y303 (Int.tmod (wrap64 (a4)) (y303.length : Int))).f2⟩ : S42))) else (none)) else (none))) else (joustlaw30_LimitsWider.j1 kj5 l1 l2 a0_0 a0_1 a0_2 l0_3 a0_0 (mn (wrap64 (a0_1 + (wrap64 (a3)))) 4000) (mx (wrap64 (a0_2 - (wrap64 (a3)))) 0) y303))) else (none))) = some true:=by rw [if_neg (show ¬ (false = true) by decide)] at H;exact H
    clear H;have H:=H1;clear H1;obtain ⟨ji20,hji20⟩ : ∃ j_ : Int,(mn (wrap64 (a0_1 + (wrap64 (a3)))) 4000) = j_:=⟨_,rfl⟩;replace H : ((some (([] : List (S42)) : List (S42))).bind fun y300 => (if y300.length + l0_3.length < 4398046511104 then ((some (y300 ++ l0_3 : List (S42))).bind fun y303 => (if (y303.length : Int) > 0 then (if (y303.length : Int) = 0 then (none) else (if 0 ≤ (Int.tmod (wrap64 (a4)) (y303.length : Int)) then (if (Int.tmod (wrap64 (a4)) (y303.length : Int)) < (y303.length : Int) then (joustlaw30_LimitsWider.j1 kj5 l1 l2 a0_0 a0_1 a0_2 l0_3 a0_0 ji20 (mx (wrap64 (a0_2 - (wrap64 (a3)))) 0) (y303.set ((Int.tmod (wrap64 (a4)) (y303.length : Int)) : Int).toNat (⟨(rd_T42 y303 (Int.tmod (wrap64 (a4)) (y303.length : Int))).f0,mn (wrap64 (((rd_T42 y303 (Int.tmod (wrap64 (a4)) (y303.length : Int))).f1) + (wrap64 (a3)))) 3,(rd_T42 y303 (Int.tmod (wrap64 (a4)) (y303.length : Int))).f2⟩ : S42))) else (none)) else (none))) else (joustlaw30_LimitsWider.j1 kj5 l1 l2 a0_0 a0_1 a0_2 l0_3 a0_0 ji20 (mx (wrap64 (a0_2 - (wrap64 (a3)))) 0) y303))) else (none))) = some true:=by first | (rw [hji20] at H;exact H) | (simp only [hji20] at H ⊢;exact H)
    have hji20_ : (if 4000 < (wrap64 (a0_1 + (wrap64 (a3)))) then 4000 else (wrap64 (a0_1 + (wrap64 (a3))))) = ji20:=hji20;obtain ⟨ji21,hji21⟩ : ∃ j_ : Int,(mx (wrap64 (a0_2 - (wrap64 (a3)))) 0) = j_:=⟨_,rfl⟩;replace H : ((some (([] : List (S42)) : List (S42))).bind fun y300 => (if y300.length + l0_3.length < 4398046511104 then ((some (y300 ++ l0_3 : List (S42))).bind fun y303 => (if (y303.length : Int) > 0 then (if (y303.length : Int) = 0 then (none) else (if 0 ≤ (Int.tmod (wrap64 (a4)) (y303.length : Int)) then (if (Int.tmod (wrap64 (a4)) (y303.length : Int)) < (y303.length : Int) then (joustlaw30_LimitsWider.j1 kj5 l1 l2 a0_0 a0_1 a0_2 l0_3 a0_0 ji20 ji21 (y303.set ((Int.tmod (wrap64 (a4)) (y303.length : Int)) : Int).toNat (⟨(rd_T42 y303 (Int.tmod (wrap64 (a4)) (y303.length : Int))).f0,mn (wrap64 (((rd_T42 y303 (Int.tmod (wrap64 (a4)) (y303.length : Int))).f1) + (wrap64 (a3)))) 3,(rd_T42 y303 (Int.tmod (wrap64 (a4)) (y303.length : Int))).f2⟩ : S42))) else (none)) else (none))) else (joustlaw30_LimitsWider.j1 kj5 l1 l2 a0_0 a0_1 a0_2 l0_3 a0_0 ji20 ji21 y303))) else (none))) = some true:=by first | (rw [hji21] at H;exact H) | (simp only [hji21] at H ⊢;exact H)
    have hji21_ : (if (wrap64 (a0_2 - (wrap64 (a3)))) < 0 then 0 else (wrap64 (a0_2 - (wrap64 (a3))))) = ji21:=hji21;obtain ⟨y300,hy300⟩ : ∃ y_ : List (S42),y_ = (([] : List (S42))):=⟨_,rfl⟩;replace H : (if y300.length + l0_3.length < 4398046511104 then ((some (y300 ++ l0_3 : List (S42))).bind fun y303 => (if (y303.length : Int) > 0 then (if (y303.length : Int) = 0 then (none) else (if 0 ≤ (Int.tmod (wrap64 (a4)) (y303.length : Int)) then (if (Int.tmod (wrap64 (a4)) (y303.length : Int)) < (y303.length : Int) then (joustlaw30_LimitsWider.j1 kj5 l1 l2 a0_0 a0_1 a0_2 l0_3 a0_0 ji20 ji21 (y303.set ((Int.tmod (wrap64 (a4)) (y303.length : Int)) : Int).toNat (⟨(rd_T42 y303 (Int.tmod (wrap64 (a4)) (y303.length : Int))).f0,mn (wrap64 (((rd_T42 y303 (Int.tmod (wrap64 (a4)) (y303.length : Int))).f1) + (wrap64 (a3)))) 3,(rd_T42 y303 (Int.tmod (wrap64 (a4)) (y303.length : Int))).f2⟩ : S42))) else (none)) else (none))) else (joustlaw30_LimitsWider.j1 kj5 l1 l2 a0_0 a0_1 a0_2 l0_3 a0_0 ji20 ji21 y303))) else (none)) = some true:=by first | (rw [hy300];with_reducible exact H) | (have H2_:=(Option.bind_some _ _).symm.trans H;rw [hy300];with_reducible exact H2_) | (have H2_:=(Option.bind_some _ _).symm.trans H;with_reducible exact H2_) | with_reducible exact H | (rw [hy300];exact H) | exact H
    have Ny300:=Aside0.mk hy300;clear hy300
    by_cases c22 : y300.length + l0_3.length < 4398046511104
    ·rw [if_pos c22] at H;have LMc22:=Aside0.mk c22;clear c22;obtain ⟨y303,hy303⟩ : ∃ y_ : List (S42),y_ = (y300 ++ l0_3):=⟨_,rfl⟩;replace H : (if (y303.length : Int) > 0 then (if (y303.length : Int) = 0 then (none) else (if 0 ≤ (Int.tmod (wrap64 (a4)) (y303.length : Int)) then (if (Int.tmod (wrap64 (a4)) (y303.length : Int)) < (y303.length : Int) then (joustlaw30_LimitsWider.j1 kj5 l1 l2 a0_0 a0_1 a0_2 l0_3 a0_0 ji20 ji21 (y303.set ((Int.tmod (wrap64 (a4)) (y303.length : Int)) : Int).toNat (⟨(rd_T42 y303 (Int.tmod (wrap64 (a4)) (y303.length : Int))).f0,mn (wrap64 (((rd_T42 y303 (Int.tmod (wrap64 (a4)) (y303.length : Int))).f1) + (wrap64 (a3)))) 3,(rd_T42 y303 (Int.tmod (wrap64 (a4)) (y303.length : Int))).f2⟩ : S42))) else (none)) else (none))) else (joustlaw30_LimitsWider.j1 kj5 l1 l2 a0_0 a0_1 a0_2 l0_3 a0_0 ji20 ji21 y303)) = some true:=by first | (rw [hy303];with_reducible exact H) | (have H2_:=(Option.bind_some _ _).symm.trans H;rw [hy303];with_reducible exact H2_) | (have H2_:=(Option.bind_some _ _).symm.trans H;with_reducible exact H2_) | with_reducible exact H | (rw [hy303];exact H) | exact H
     have Ny303:=Aside0.mk hy303;clear hy303;have HC23:=Aside0.mk H;clear H;have hcz24_0 : wc.cell? ⟨gb295,0,none⟩ = some (.string a0_0):=(blk_cell BK295.out 0).trans rfl;have hcz24_1 : wc.cell? ⟨gb295,1,none⟩ = some (.int .i64 a0_1):=(blk_cell BK295.out 1).trans rfl;have hcz24_2 : wc.cell? ⟨gb295,2,none⟩ = some (.int .i64 a0_2):=(blk_cell BK295.out 2).trans rfl;have hcz24_3 : wc.cell? ⟨gb295,3,none⟩ = some (.slice A0_3 l0_3.length c0_3):=(blk_cell BK295.out 3).trans rfl;have hfz24_0:=blk_frozen BK295.out 0;have hfz24_1:=blk_frozen BK295.out 1;have hfz24_2:=blk_frozen BK295.out 2;have hfz24_3:=blk_frozen BK295.out 3
     go_upto_if 51 with (first | ((with_reducible refine gate_dst (N:=11) rfl ?_);refine box_event ?hg (N:=11) ?hd (cs:=#[.string (⟨#[]⟩ : ByteArray),.int .i64 0,.int .i64 0,.slice none 0 0]) (t:=24) ?hr ?_;(case hd => rfl);(case hg => rfl);(case hr => first | (go_simp;done) | (go_simp;rfl));intro gb299 hg w25 hbox hb;have n0_:=Aside0.mk (blk_below (g:=gb295) (o:=.cells #[.string a0_0,.int .i64 a0_1,.int .i64 a0_2,.slice A0_3 l0_3.length c0_3] 24 (0,0)) (bk BK295.out) hb);have n1_:=Aside0.mk (below_step (bl1 HB.out GE295.out) hb);have n2_:=Aside0.mk (hbox);have n3_:=Aside0.mk ((by rw [hg];exact (below_size (bl1 HB.out GE295.out)) : w.heap.size ≤ gb299));have n4_:=Aside0.mk ((by rw [hg];exact (below_size (bl1 HB.out GE295.out)) : w.heap.size ≤ gb299));have n5_:=Aside0.mk ((by rw [hg];exact Nat.ne_of_lt (blk_lt (g:=gb295) (o:=.cells #[.string a0_0,.int .i64 a0_1,.int .i64 a0_2,.slice A0_3 l0_3.length c0_3] 24 (0,0)) (bk BK295.out)) : gb295 ≠ gb299));have n6_:=Aside0.mk ((by rw [hg];exact Nat.ne_of_gt (blk_lt (g:=gb295) (o:=.cells #[.string a0_0,.int .i64 a0_1,.int .i64 a0_2,.slice A0_3 l0_3.length c0_3] 24 (0,0)) (bk BK295.out)) : gb299 ≠ gb295));clear BK295;clear HB;have BK295:=n0_;have HB:=n1_;have BK299:=n2_;have GW299:=n3_;have GE299:=n4_;have NB295_299:=n5_;have NB299_295:=n6_;clear n0_ n1_ n2_ n3_ n4_ n5_ n6_;clear hb hbox hg;have hnb26:=NB299_295.out;have hnc26:=NB295_299.out;have hcz27_0 : w25.cell? ⟨gb299,0,none⟩ = some (.string (⟨#[]⟩ : ByteArray)):=(blk_cell BK299.out 0).trans rfl;have hcz27_1 : w25.cell? ⟨gb299,1,none⟩ = some (.int .i64 0):=(blk_cell BK299.out 1).trans rfl;have hcz27_2 : w25.cell? ⟨gb299,2,none⟩ = some (.int .i64 0):=(blk_cell BK299.out 2).trans rfl;have hcz27_3 : w25.cell? ⟨gb299,3,none⟩ = some (.slice none 0 0):=(blk_cell BK299.out 3).trans rfl;have hfz27_0:=blk_frozen BK299.out 0;have hfz27_1:=blk_frozen BK299.out 1;have hfz27_2:=blk_frozen BK299.out 2;have hfz27_3:=blk_frozen BK299.out 3;have hcz28_0 : w25.cell? ⟨gb295,0,none⟩ = some (.string a0_0):=(blk_cell BK295.out 0).trans rfl;have hcz28_1 : w25.cell? ⟨gb295,1,none⟩ = some (.int .i64 a0_1):=(blk_cell BK295.out 1).trans rfl;have hcz28_2 : w25.cell? ⟨gb295,2,none⟩ = some (.int .i64 a0_2):=(blk_cell BK295.out 2).trans rfl;have hcz28_3 : w25.cell? ⟨gb295,3,none⟩ = some (.slice A0_3 l0_3.length c0_3):=(blk_cell BK295.out 3).trans rfl;have hfz28_0:=blk_frozen BK295.out 0;have hfz28_1:=blk_frozen BK295.out 1;have hfz28_2:=blk_frozen BK295.out 2;have hfz28_3:=blk_frozen BK295.out 3) | ((with_reducible refine gate_dst (N:=43) rfl ?_);refine Kd.R_lit k42 _ 42 ?hg (N:=43) ?hd (xs:=([] : List (S42))) (inner:=[]) (ok:=fun _ => True) (okp:=fun _ => True) ?hr ?hp (fun _ hk => hk) trivial (Below.refl _ _) (Nat.le_refl _) (by simp) ?_;(case hd => rfl);(case hg => rfl);(case hr => first | (go_simp;done) | (go_simp;rfl));(case hp => exact (Reps.none _ _));intro v301 w29 ho30 hb hg_ hnew_;clear hg_ hnew_;(first | rw [← Ny300.out] at ho30 | (simp only [Int.reduceToNat] at ho30;rw [← Ny300.out] at ho30));have n0_:=Aside0.mk (Kd.R_lower ho30 (below_size (bl2 HB.out GE295.out GE299.out)));have n1_:=Aside0.mk (blk_below (g:=gb295) (o:=.cells #[.string a0_0,.int .i64 a0_1,.int .i64 a0_2,.slice A0_3 l0_3.length c0_3] 24 (0,0)) (by (with_reducible repeat (first | refine blk_drewN ?_ _ | refine blk_drew ?_ | refine blk_alloc ?_ _));refine blk_far ?_ NB295_299.out _;(with_reducible repeat (first | refine blk_drewN ?_ _ | refine blk_drew ?_ | refine blk_alloc ?_ _));refine blk_far ?_ NB295_299.out _;(with_reducible repeat (first | refine blk_drewN ?_ _ | refine blk_drew ?_ | refine blk_alloc ?_ _));refine blk_far ?_ NB295_299.out _;(with_reducible repeat (first | refine blk_drewN ?_ _ | refine blk_drew ?_ | refine blk_alloc ?_ _));refine blk_far ?_ NB295_299.out _;(with_reducible repeat (first | refine blk_drewN ?_ _ | refine blk_drew ?_ | refine blk_alloc ?_ _));refine blk_far ?_ NB295_299.out _;(with_reducible repeat (first | refine blk_drewN ?_ _ | refine blk_drew ?_ | refine blk_alloc ?_ _));refine blk_far ?_ NB295_299.out _;(with_reducible repeat (first | refine blk_drewN ?_ _ | refine blk_drew ?_ | refine blk_alloc ?_ _));exact BK295.out) hb);have n2_:=Aside0.mk (blk_below (g:=gb299) (o:=.cells #[.string a0_0,.int .i64 ji20,.int .i64 ji21,.slice A0_3 l0_3.length c0_3] 24 (0,0)) (by (with_reducible repeat (first | refine blk_drewN ?_ _ | refine blk_drew ?_ | refine blk_alloc ?_ _));refine blk_put (cs:=#[.string a0_0,.int .i64 ji20,.int .i64 a0_2,.slice A0_3 l0_3.length c0_3]) ?_ 2 _ rfl;(with_reducible repeat (first | refine blk_drewN ?_ _ | refine blk_drew ?_ | refine blk_alloc ?_ _));refine blk_put (cs:=#[.string a0_0,.int .i64 a0_1,.int .i64 a0_2,.slice A0_3 l0_3.length c0_3]) ?_ 1 _ rfl;(with_reducible repeat (first | refine blk_drewN ?_ _ | refine blk_drew ?_ | refine blk_alloc ?_ _));refine blk_put (cs:=#[.string a0_0,.int .i64 a0_1,.int .i64 a0_2,.slice none 0 0]) ?_ 3 _ rfl;(with_reducible repeat (first | refine blk_drewN ?_ _ | refine blk_drew ?_ | refine blk_alloc ?_ _));refine blk_put (cs:=#[.string a0_0,.int .i64 a0_1,.int .i64 0,.slice none 0 0]) ?_ 2 _ rfl;(with_reducible repeat (first | refine blk_drewN ?_ _ | refine blk_drew ?_ | refine blk_alloc ?_ _));refine blk_put (cs:=#[.string a0_0,.int .i64 0,.int .i64 0,.slice none 0 0]) ?_ 1 _ rfl;(with_reducible repeat (first | refine blk_drewN ?_ _ | refine blk_drew ?_ | refine blk_alloc ?_ _));refine blk_put (cs:=#[.string (⟨#[]⟩ : ByteArray),.int .i64 0,.int .i64 0,.slice none 0 0]) ?_ 0 _ rfl;(with_reducible repeat (first | refine blk_drewN ?_ _ | refine blk_drew ?_ | refine blk_alloc ?_ _));exact BK299.out) hb);have n3_:=Aside0.mk (below_step (bl2 HB.out GE295.out GE299.out) hb);clear BK295;clear BK299;clear HB;have HO302:=n0_;have BK295:=n1_;have BK299:=n2_;have HB:=n3_;clear n0_ n1_ n2_ n3_;clear hb ho30;have hcz31_0 : w29.cell? ⟨gb295,0,none⟩ = some (.string a0_0):=(blk_cell BK295.out 0).trans rfl;have hcz31_1 : w29.cell? ⟨gb295,1,none⟩ = some (.int .i64 a0_1):=(blk_cell BK295.out 1).trans rfl;have hcz31_2 : w29.cell? ⟨gb295,2,none⟩ = some (.int .i64 a0_2):=(blk_cell BK295.out 2).trans rfl;have hcz31_3 : w29.cell? ⟨gb295,3,none⟩ = some (.slice A0_3 l0_3.length c0_3):=(blk_cell BK295.out 3).trans rfl;have hfz31_0:=blk_frozen BK295.out 0;have hfz31_1:=blk_frozen BK295.out 1;have hfz31_2:=blk_frozen BK295.out 2;have hfz31_3:=blk_frozen BK295.out 3) | ((with_reducible refine gate_builtin (b:=.append) (xs:=#[.tmp 43,.tmp 45]) rfl ?_);at_builtin;refine Kd.R_append_rows k42 (w0:=w) w.heap.size rfl (.tmp 43) (.tmp 45) 22 42 (.agg #[(.string ⟨#[]⟩),(.int .i64 0),(.int .i64 0)]) 32 rfl Tryz.underlying22 info42 rfl (by decide) (by omega) v301 y300 l0_3 _ _ _ (fun _ => True) (fun _ => False) rfl rfl ?aO ?aR (fun _ _ h => h) (fun _ h => h.elim) ?aF ?aB ?aS ?aL ?_;(case aR => repeat (first | exact (Kd.C_below HR0_3.out HB.out) | (with_reducible refine Kd.C_alloc ?_ _) | (with_reducible refine Kd.C_drewN ?_ _) | (with_reducible refine Kd.C_drew ?_)));(case aB => exact (bl2 HB.out GE295.out GE299.out));(case aF => exact (fun _ _ => trivial));(case aO => exact (by (with_reducible repeat (first | apply Kd.R_alloc | apply Kd.R_drewN | apply Kd.R_drew));exact HO302.out));(case aS => exact (below_size (bl2 HB.out GE295.out GE299.out)));(case aL => have:=LMc22.out;omega);intro v304 w32 ho hb hg hat;rw [← Ny303.out] at ho;have n0_:=Aside0.mk (blk_grown (g:=gb295) (o:=.cells #[.string a0_0,.int .i64 a0_1,.int .i64 a0_2,.slice A0_3 l0_3.length c0_3] 24 (0,0)) (bk BK295.out) hg (Kd.R_ne HO302.out BK295.out (by decide)));have n1_:=Aside0.mk (blk_grown (g:=gb299) (o:=.cells #[.string a0_0,.int .i64 ji20,.int .i64 ji21,.slice A0_3 l0_3.length c0_3] 24 (0,0)) (bk BK299.out) hg (Kd.R_ne HO302.out BK299.out (by decide)));have n2_:=Aside0.mk (hb);have n3_:=Aside0.mk (ho);clear BK295;clear BK299;clear HB;clear HO302;have BK295:=n0_;have BK299:=n1_;have HB:=n2_;have HO305:=n3_;clear n0_ n1_ n2_ n3_;clear ho hb hg hat;obtain ⟨Ao33,co33,eo33⟩:=Kd.R_slice HO305.out;subst eo33;have hcz34_0 : w32.cell? ⟨gb299,0,none⟩ = some (.string a0_0):=(blk_cell BK299.out 0).trans rfl;have hcz34_1 : w32.cell? ⟨gb299,1,none⟩ = some (.int .i64 ji20):=(blk_cell BK299.out 1).trans rfl;have hcz34_2 : w32.cell? ⟨gb299,2,none⟩ = some (.int .i64 ji21):=(blk_cell BK299.out 2).trans rfl;have hcz34_3 : w32.cell? ⟨gb299,3,none⟩ = some (.slice A0_3 l0_3.length c0_3):=(blk_cell BK299.out 3).trans rfl;have hfz34_0:=blk_frozen BK299.out 0;have hfz34_1:=blk_frozen BK299.out 1;have hfz34_2:=blk_frozen BK299.out 2;have hfz34_3:=blk_frozen BK299.out 3))
     (try simp only [Act.put,List.setIfInBounds_toArray,List.set_cons_zero,List.set_cons_succ])
     go_cut [] (fun wc => ∃ (kq : Nat) (x300003_22 : List (S42)) (u300003 : Value),Aside0 (joustlaw30_LimitsWider.j1 kq l1 l2 a0_0 a0_1 a0_2 l0_3 a0_0 ji20 ji21 x300003_22 = some true) ∧ Aside0 (kq ≤ kj5) ∧ Aside0 (Kd.R k42 42 wc w.heap.size (fun _ => True) u300003 x300003_22) ∧ Aside0 (wc.heap[gb295]? = some (.cells #[.string a0_0,.int .i64 a0_1,.int .i64 a0_2,(.slice A0_3 l0_3.length c0_3)] 24 (0,0))) ∧ Aside0 (wc.heap[gb299]? = some (.cells #[.string a0_0,.int .i64 ji20,.int .i64 ji21,u300003] 24 (0,0))) ∧ Aside0 (Below w.heap.size w wc))
     case first =>
      have H:=HC23.out;clear HC23
      by_cases c35 : (y303.length : Int) > 0
      ·rw [if_pos c35] at H;have c35b0 : decide (0 < (y303.length : Int)) = true:=decide_eq_true c35;have c35b1 : decide (0 < y303.length) = true:=decide_eq_true (by omega);clear c35
       (first | rw [c35b0] | (simp only [i64_w,i32_w];rw [c35b0]) | rw [c35b1] | skip)
       by_cases c36 : (y303.length : Int) = 0
       ·rw [if_pos c36] at H;exact absurd H (by simp)
       ·rw [if_neg c36] at H;have c36b0 : ((y303.length : Int) == 0) = false:=beq_eq_false_iff_ne.mpr c36;have c36b1 : ((y303.length : Int) != 0) = true:=bne_iff_ne.mpr c36;have c36b2 : ¬ (y303 = []):=fun h_ => c36 (by rw [h_];rfl)
        obtain ⟨ji37,hji37⟩ : ∃ j_ : Int,(Int.tmod (wrap64 (a4)) (y303.length : Int)) = j_:=⟨_,rfl⟩;replace H : (if 0 ≤ (ji37) then (if (ji37) < (y303.length : Int) then (joustlaw30_LimitsWider.j1 kj5 l1 l2 a0_0 a0_1 a0_2 l0_3 a0_0 ji20 ji21 (y303.set ((ji37) : Int).toNat (⟨(rd_T42 y303 (ji37)).f0,mn (wrap64 (((rd_T42 y303 (ji37)).f1) + (wrap64 (a3)))) 3,(rd_T42 y303 (ji37)).f2⟩ : S42))) else (none)) else (none)) = some true:=by first | (rw [hji37] at H;exact H) | (simp only [hji37] at H ⊢;exact H)
        by_cases c38 : 0 ≤ (ji37)
        ·rw [if_pos c38] at H;have c38b0 : decide (0 ≤ (ji37)) = true:=decide_eq_true c38;clear c38
         by_cases c39 : (ji37) < (y303.length : Int)
         ·rw [if_pos c39] at H;have c39b0 : decide ((ji37) < (y303.length : Int)) = true:=decide_eq_true c39;clear c39;obtain ⟨ji40,hji40⟩ : ∃ j_ : Int,(mn (wrap64 (((rd_T42 y303 (ji37)).f1) + (wrap64 (a3)))) 3) = j_:=⟨_,rfl⟩;replace H : (joustlaw30_LimitsWider.j1 kj5 l1 l2 a0_0 a0_1 a0_2 l0_3 a0_0 ji20 ji21 (y303.set ((ji37) : Int).toNat (⟨(rd_T42 y303 (ji37)).f0,ji40,(rd_T42 y303 (ji37)).f2⟩ : S42))) = some true:=by first | (rw [hji40] at H;exact H) | (simp only [hji40] at H ⊢;exact H)
          have hji40_ : (if 3 < (wrap64 (((rd_T42 y303 (ji37)).f1) + (wrap64 (a3)))) then 3 else (wrap64 (((rd_T42 y303 (ji37)).f1) + (wrap64 (a3))))) = ji40:=hji40;obtain ⟨y307,hy307⟩ : ∃ y_ : List (S42),y_ = (y303.set ((ji37) : Int).toNat (⟨(rd_T42 y303 (ji37)).f0,ji40,(rd_T42 y303 (ji37)).f2⟩ : S42)):=⟨_,rfl⟩;replace H : (joustlaw30_LimitsWider.j1 kj5 l1 l2 a0_0 a0_1 a0_2 l0_3 a0_0 ji20 ji21 y307) = some true:=by first | (rw [hy307];with_reducible exact H) | (have H2_:=(Option.bind_some _ _).symm.trans H;rw [hy307];with_reducible exact H2_) | (have H2_:=(Option.bind_some _ _).symm.trans H;with_reducible exact H2_) | with_reducible exact H | (rw [hy307];exact H) | exact H
          have Ny307:=Aside0.mk hy307;clear hy307;have H':=Aside0.mk H;clear H;have hnb42:=NB299_295.out;have hnc42:=NB295_299.out;have hcz43_0 : w32.cell? ⟨gb299,0,none⟩ = some (.string a0_0):=(blk_cell BK299.out 0).trans rfl;have hcz43_1 : w32.cell? ⟨gb299,1,none⟩ = some (.int .i64 ji20):=(blk_cell BK299.out 1).trans rfl;have hcz43_2 : w32.cell? ⟨gb299,2,none⟩ = some (.int .i64 ji21):=(blk_cell BK299.out 2).trans rfl;have hcz43_3 : w32.cell? ⟨gb299,3,none⟩ = some (.slice A0_3 l0_3.length c0_3):=(blk_cell BK299.out 3).trans rfl;have hfz43_0:=blk_frozen BK299.out 0;have hfz43_1:=blk_frozen BK299.out 1;have hfz43_2:=blk_frozen BK299.out 2;have hfz43_3:=blk_frozen BK299.out 3
          try go_wp2
          have n0_ : Aside0 (Kd.R k42 42 (w32.setCell ⟨gb299,3,none⟩ (.slice Ao33 y303.length co33)) w.heap.size (fun _ => True) (.slice Ao33 y303.length co33) y303):=⟨by (with_reducible repeat (first | apply Kd.R_alloc | apply Kd.R_drewN | apply Kd.R_drew));exact Kd.R_mono (Kd.R_far (p:=⟨gb299,3,none⟩) (Kd.R_types HO305.out BK299.out (by decide)) (fun _ hk => hk.2) (.slice Ao33 y303.length co33)) (fun _ hk => trivial)⟩;have n1_ : Aside0 ((w32.setCell ⟨gb299,3,none⟩ (.slice Ao33 y303.length co33)).heap[gb295]? = some (.cells #[.string a0_0,.int .i64 a0_1,.int .i64 a0_2,.slice A0_3 l0_3.length c0_3] 24 (0,0))):=⟨by (with_reducible repeat (first | refine blk_drewN ?_ _ | refine blk_drew ?_ | refine blk_alloc ?_ _));refine blk_far ?_ NB295_299.out _;(with_reducible repeat (first | refine blk_drewN ?_ _ | refine blk_drew ?_ | refine blk_alloc ?_ _));exact BK295.out⟩;have n2_ : Aside0 ((w32.setCell ⟨gb299,3,none⟩ (.slice Ao33 y303.length co33)).heap[gb299]? = some (.cells #[.string a0_0,.int .i64 ji20,.int .i64 ji21,.slice Ao33 y303.length co33] 24 (0,0))):=⟨by (with_reducible repeat (first | refine blk_drewN ?_ _ | refine blk_drew ?_ | refine blk_alloc ?_ _));refine blk_put (cs:=#[.string a0_0,.int .i64 ji20,.int .i64 ji21,.slice A0_3 l0_3.length c0_3]) ?_ 3 _ rfl;(with_reducible repeat (first | refine blk_drewN ?_ _ | refine blk_drew ?_ | refine blk_alloc ?_ _));exact BK299.out⟩;have n3_ : Aside0 (Below w.heap.size w (w32.setCell ⟨gb299,3,none⟩ (.slice Ao33 y303.length co33))):=⟨bl2 HB.out GE295.out GE299.out⟩;(try clear HO305);(try clear BK295);(try clear BK299);(try clear HB);generalize (w32.setCell ⟨gb299,3,none⟩ (.slice Ao33 y303.length co33)) = w44 at n0_ n1_ n2_ n3_ ⊢;have HO305:=n0_;have BK295:=n1_;have BK299:=n2_;have HB:=n3_;clear n0_ n1_ n2_ n3_;replace HO305:=Aside0.mk (Kd.R_drew HO305.out);replace BK295:=Aside0.mk (blk_drew BK295.out);replace BK299:=Aside0.mk (blk_drew BK299.out);replace HB:=Aside0.mk (below_drew1 HB.out);have p306 : 0 ≤ ((ji37) : Int):=of_decide_eq_true (by first | (with_reducible assumption) | assumption);have q306 : (ji37) < (y303.length : Int):=of_decide_eq_true (by first | (with_reducible assumption) | assumption);obtain ⟨ad306,e306,hx306_0,hx306_1,hx306_2⟩:=at_T42 (Kd.R_reads' HO305.out).2.2 (ji37) p306 q306
          cases e306
          replace p306:=eq_true p306;replace q306:=eq_true q306;have p41 : 0 ≤ ((ji37) : Int):=of_decide_eq_true (by first | (with_reducible assumption) | assumption);have q41 : ((ji37) : Int) < ((y303.length : Int) : Int):=of_decide_eq_true (by first | (with_reducible assumption) | assumption);obtain ⟨go41,co41,eo41,gb41,gl41,cl41,HG41⟩:=Kd.R_form HO305.out (by omega)
          (first | cases eo41 | (injection eo41 with ea_ en_ ec_;(first | subst ea_ | (injection ea_ with ea_;subst ea_));subst ec_;clear en_))
          have GB41:=Aside0.mk gb41;have GG41:=Aside0.mk HG41;clear gb41 gl41 HG41
          (first | simp only [add_plain] at hx306_0 | skip)
          (first | simp only [add_plain] at hx306_1 | skip)
          (first | simp only [add_plain] at hx306_2 | skip)
          obtain ⟨ce41,hcl41,hM41,hcc41,hfr41⟩:=Kd.R_elem HO305.out z42 ((ji37) : Int) p41 q41;obtain rfl:=k42_openM hM41;have hx41_0 : World.cell? _ ⟨go41,((ji37) : Int).toNat * 3,none⟩ = some (.string ((rd_T42 y303 (ji37)).f0)):=hcc41 0 _ rfl;have hx41_1 : World.cell? _ ⟨go41,((ji37) : Int).toNat * 3 + 1,none⟩ = some (.int .i64 ((rd_T42 y303 (ji37)).f1)):=hcc41 1 _ rfl;have hx41_2 : World.cell? _ ⟨go41,((ji37) : Int).toNat * 3 + 2,none⟩ = some (.int .i64 ((rd_T42 y303 (ji37)).f2)):=hcc41 2 _ rfl;have hf41_0 : World.frozen? _ ⟨go41,((ji37) : Int).toNat * 3,none⟩ = false:=hfr41 0;have hf41_1 : World.frozen? _ ⟨go41,((ji37) : Int).toNat * 3 + 1,none⟩ = false:=hfr41 1;have hf41_2 : World.frozen? _ ⟨go41,((ji37) : Int).toNat * 3 + 2,none⟩ = false:=hfr41 2;clear hcl41 hcc41 hfr41 hM41;replace p41:=eq_true p41;replace q41:=eq_true q41;obtain ⟨ce46,hcl46,hM46,hcc46,hfr46⟩:=Kd.R_elem HO305.out z42 ((ji37) : Int) (of_decide_eq_true (by first | (with_reducible assumption) | assumption)) (by have h_ : ((ji37) : Int) < ((y303.length : Int) : Int):=of_decide_eq_true (by first | (with_reducible assumption) | assumption);first | exact h_ | (have e_:=(Kd.R_reads' HO305.out).1;omega) | simpa using h_);obtain rfl:=k42_openM hM46;have HP46:=(Kd.R_seg HO305.out ((ji37) : Int) (of_decide_eq_true (by first | (with_reducible assumption) | assumption)) (by have h_ : ((ji37) : Int) < ((y303.length : Int) : Int):=of_decide_eq_true (by first | (with_reducible assumption) | assumption);first | exact h_ | (have e_:=(Kd.R_reads' HO305.out).1;omega) | simpa using h_) (seg:=[.int .i64 ji40]) (j:=1) hcl46 hcc46 (show 2 ≤ 3 from by decide) (x':=(⟨(rd_T42 y303 (ji37)).f0,ji40,(rd_T42 y303 (ji37)).f2⟩ : S42)) (k42_mkM _ _ _ (⟨(rd_T42 y303 (ji37)).f0,ji40,(rd_T42 y303 (ji37)).f2⟩ : S42) ) (fun _ hk => hk)).1;rw [← Ny307.out] at HP46;have HQ46:=Aside0.mk HP46;clear hcl46 hcc46 hfr46 hM46 HP46;refine start_ (n:=16) (S:=fun w' => w'.cell? ⟨gb299,0,none⟩ = some (.string a0_0) ∧ w'.cell? ⟨gb299,1,none⟩ = some (.int .i64 ji20) ∧ w'.cell? ⟨gb299,2,none⟩ = some (.int .i64 ji21) ∧ w'.cell? ⟨gb299,3,none⟩ = some (.slice (some ⟨go41,0,none⟩) y303.length co33) ∧ w'.cell? ⟨go41,((ji37) : Int).toNat * 3,none⟩ = some (.string ((rd_T42 y303 (ji37)).f0)) ∧ w'.cell? ⟨go41,((ji37) : Int).toNat * 3 + 1,none⟩ = some (.int .i64 ((rd_T42 y303 (ji37)).f1)) ∧ w'.cell? ⟨go41,((ji37) : Int).toNat * 3 + 2,none⟩ = some (.int .i64 ((rd_T42 y303 (ji37)).f2))) (ds:=[15]) (pm 0 16) (by kernel_rfl) rfl rfl ⟨(blk_cell BK299.out 0).trans rfl,(blk_cell BK299.out 1).trans rfl,(blk_cell BK299.out 2).trans rfl,(blk_cell BK299.out 3).trans rfl,hx41_0,hx41_1,hx41_2⟩ (fun hHeld => ?_);refine with_tabW joustlaw30_LimitsWider.tab9 joustlaw30_LimitsWider.bits9 (fun HT_ HW_ => ?_);generalize w44.drew = w45 at HO305 BK295 BK299 HB GG41 HQ46 hf41_0 hf41_1 hf41_2 hx306_0 hx306_1 hx306_2 hx41_0 hx41_1 hx41_2 hHeld ⊢
          refine pure_ (i:=0) (N:=some 58) (v:=?_) (a':=?_) (pm 1 16) rfl rfl (any_of HT_.out (by kernel_rfl)) (fun _ _ _ h => h) (Or.inl ⟨by rfl,?_⟩) ?_ ?_;rotate_left
          ·intro w';go_simp;with_reducible rfl
          rotate_left
          ·simp only [Act.put,List.setIfInBounds_toArray,List.set_cons_zero,List.set_cons_succ,i64_w,i32_w];rfl
          refine pure_ (i:=2) (N:=some 60) (v:=?_) (a':=?_) #[true,false,true,false,false,false,false,false,false,false,false,false,false,false,false,false] rfl rfl (any_of HT_.out (by kernel_rfl)) (fun _ _ _ h => h) (Or.inl ⟨by rfl,?_⟩) ?_ ?_;rotate_left
          ·intro w';go_simp;with_reducible rfl
          rotate_left
          ·simp only [Act.put,List.setIfInBounds_toArray,List.set_cons_zero,List.set_cons_succ,i64_w,i32_w];rfl
          refine pure_ (i:=3) (N:=some 61) (v:=?_) (a':=?_) #[true,false,true,true,false,false,false,false,false,false,false,false,false,false,false,false] rfl rfl (any_of HT_.out (by kernel_rfl)) (fun _ _ _ h => h) (Or.inl ⟨by rfl,?_⟩) ?_ ?_;rotate_left
          ·intro w';go_simp;with_reducible rfl
          rotate_left
          ·simp only [Act.put,List.setIfInBounds_toArray,List.set_cons_zero,List.set_cons_succ,i64_w,i32_w];rfl
          refine pure_ (i:=5) (N:=some 63) (v:=?_) (a':=?_) #[true,false,true,true,false,true,false,false,false,false,false,false,false,false,false,false] rfl rfl (any_of HT_.out (by kernel_rfl)) (fun _ _ _ h => h) (Or.inl ⟨by rfl,?_⟩) ?_ ?_;rotate_left
          ·intro w';go_simp;with_reducible rfl
          rotate_left
          ·simp only [Act.put,List.setIfInBounds_toArray,List.set_cons_zero,List.set_cons_succ,i64_w,i32_w];rfl
          refine pure_ (i:=9) (N:=some 67) (v:=?_) (a':=?_) #[true,false,true,true,false,true,false,false,false,true,false,false,false,false,false,false] rfl rfl (any_of HT_.out (by kernel_rfl)) (fun _ _ _ h => h) (Or.inl ⟨by rfl,?_⟩) ?_ ?_;rotate_left
          ·intro w';go_simp;with_reducible rfl
          rotate_left
          ·simp only [Act.put,List.setIfInBounds_toArray,List.set_cons_zero,List.set_cons_succ,i64_w,i32_w];rfl
          refine pure_ (i:=10) (N:=some 68) (v:=?_) (a':=?_) #[true,false,true,true,false,true,false,false,false,true,true,false,false,false,false,false] rfl rfl (any_of HT_.out (by kernel_rfl)) (fun _ _ _ h => h) (Or.inl ⟨by rfl,?_⟩) ?_ ?_;rotate_left
          ·intro w';go_simp;with_reducible rfl
          rotate_left
          ·simp only [Act.put,List.setIfInBounds_toArray,List.set_cons_zero,List.set_cons_succ,i64_w,i32_w];rfl
          refine take_ (i:=1) (N:=some 59) (v:=?_) (a':=?_) #[true,true,true,true,false,true,false,false,false,true,true,false,false,false,false,false] rfl rfl (take_ofW HT_.out HW_.out (by kernel_rfl)) (fun _ _ _ h => h) (Or.inl ⟨by rfl,?_⟩) hHeld ?_ ?_;rotate_left
          ·rintro w' ⟨s0,s1,s2,s3,s4,s5,s6⟩;go_simp;with_reducible rfl
          rotate_left
          ·simp only [Act.put,List.setIfInBounds_toArray,List.set_cons_zero,List.set_cons_succ,i64_w,i32_w];rfl
          refine take_ (i:=4) (N:=some 62) (v:=?_) (a':=?_) #[true,true,true,true,true,true,false,false,false,true,true,false,false,false,false,false] rfl rfl (take_ofW HT_.out HW_.out (by kernel_rfl)) (fun _ _ _ h => h) (Or.inl ⟨by rfl,?_⟩) hHeld ?_ ?_;rotate_left
          ·rintro w' ⟨s0,s1,s2,s3,s4,s5,s6⟩;go_simp;with_reducible rfl
          rotate_left
          ·simp only [Act.put,List.setIfInBounds_toArray,List.set_cons_zero,List.set_cons_succ,i64_w,i32_w];rfl
          refine pure_ (i:=6) (N:=some 64) (v:=?_) (a':=?_) #[true,true,true,true,true,true,true,false,false,true,true,false,false,false,false,false] rfl rfl (any_of HT_.out (by kernel_rfl)) (fun _ _ _ h => h) (Or.inl ⟨by rfl,?_⟩) ?_ ?_;rotate_left
          ·intro w';go_simp;with_reducible rfl
          rotate_left
          ·simp only [Act.put,List.setIfInBounds_toArray,List.set_cons_zero,List.set_cons_succ,i64_w,i32_w];rfl
          refine pure_ (i:=7) (N:=some 65) (v:=?_) (a':=?_) #[true,true,true,true,true,true,true,true,false,true,true,false,false,false,false,false] rfl rfl (any_of HT_.out (by kernel_rfl)) (fun _ _ _ h => h) (Or.inl ⟨by rfl,?_⟩) ?_ ?_;rotate_left
          ·intro w';go_simp;with_reducible rfl
          rotate_left
          ·simp only [Act.put,List.setIfInBounds_toArray,List.set_cons_zero,List.set_cons_succ,i64_w,i32_w];rfl
          refine take_ (i:=8) (N:=some 66) (v:=?_) (a':=?_) (pm 11 16) rfl rfl (take_ofW HT_.out HW_.out (by kernel_rfl)) (fun _ _ _ h => h) (Or.inl ⟨by rfl,?_⟩) hHeld ?_ ?_;rotate_left
          ·rintro w' ⟨s0,s1,s2,s3,s4,s5,s6⟩;go_simp;with_reducible rfl
          rotate_left
          ·simp only [Act.put,List.setIfInBounds_toArray,List.set_cons_zero,List.set_cons_succ,i64_w,i32_w];rfl
          refine pure_ (i:=11) (N:=some 69) (v:=?_) (a':=?_) (pm 12 16) rfl rfl (any_of HT_.out (by kernel_rfl)) (fun _ _ _ h => h) (Or.inl ⟨by rfl,?_⟩) ?_ ?_;rotate_left
          ·intro w';go_simp;with_reducible rfl
          rotate_left
          ·simp only [Act.put,List.setIfInBounds_toArray,List.set_cons_zero,List.set_cons_succ,i64_w,i32_w];rfl
          refine pure_ (i:=12) (N:=some 70) (v:=?_) (a':=?_) (pm 13 16) rfl rfl (any_of HT_.out (by kernel_rfl)) (fun _ _ _ h => h) (Or.inl ⟨by rfl,?_⟩) ?_ ?_;rotate_left
          ·intro w';go_simp;with_reducible rfl
          rotate_left
          ·simp only [Act.put,List.setIfInBounds_toArray,List.set_cons_zero,List.set_cons_succ,i64_w,i32_w];rfl
          refine pure_ (i:=13) (N:=some 71) (v:=?_) (a':=?_) (pm 14 16) rfl rfl (any_of HT_.out (by kernel_rfl)) (fun _ _ _ h => h) (Or.inl ⟨by rfl,?_⟩) ?_ ?_;rotate_left
          ·intro w';go_simp;with_reducible rfl
          rotate_left
          ·simp only [Act.put,List.setIfInBounds_toArray,List.set_cons_zero,List.set_cons_succ,i64_w,i32_w];rfl
          refine pure_ (i:=14) (N:=some 72) (v:=?_) (a':=?_) (pm 15 16) rfl rfl (any_of HT_.out (by kernel_rfl)) (fun _ _ _ h => h) (Or.inl ⟨by rfl,?_⟩) ?_ ?_;rotate_left
          ·intro w';go_simp;with_reducible rfl
          rotate_left
          ·simp only [Act.put,List.setIfInBounds_toArray,List.set_cons_zero,List.set_cons_succ,i64_w,i32_w];rfl
          refine last_ (i:=15) (N:=none) (pm 16 16) rfl rfl (one_of HT_.out (by kernel_rfl)) (by decide) (fun K hK => ?_);refine skip_ (w1:=?_) (by rfl) rfl ?_ ?_;rotate_left
          ·go_simp;rfl
          refine hK.out _ _ ?_;clear hK K;refine done_ (done_of HT_.out (by kernel_rfl)) ?_
          try go_wp2
          go_meet
          case rel => exact ⟨_,(y307),(.slice (some ⟨go41,0,none⟩) y303.length co33),H',⟨by have:=HJ5.out;first | omega | exact Nat.le_refl _⟩,⟨by (with_reducible repeat (first | apply Kd.R_alloc | apply Kd.R_drewN | apply Kd.R_drew));exact HQ46.out⟩,⟨by (with_reducible repeat (first | refine blk_drewN ?_ _ | refine blk_drew ?_ | refine blk_alloc ?_ _));refine blk_far ?_ (by have h_:=Kd.R_ne HO305.out BK295.out (by decide);intro e_;exact h_ (by rw [e_];rfl)) _;(with_reducible repeat (first | refine blk_drewN ?_ _ | refine blk_drew ?_ | refine blk_alloc ?_ _));exact BK295.out⟩,⟨by (with_reducible repeat (first | refine blk_drewN ?_ _ | refine blk_drew ?_ | refine blk_alloc ?_ _));refine blk_far ?_ (by have h_:=Kd.R_ne HO305.out BK299.out (by decide);intro e_;exact h_ (by rw [e_];rfl)) _;(with_reducible repeat (first | refine blk_drewN ?_ _ | refine blk_drew ?_ | refine blk_alloc ?_ _));exact BK299.out⟩,⟨bl3 HB.out GB41.out GE295.out GE299.out⟩⟩
         ·rw [if_neg c39] at H;exact absurd H (by simp)
        ·rw [if_neg c38] at H;exact absurd H (by simp)
      ·rw [if_neg c35] at H;have c35b0 : decide (0 < (y303.length : Int)) = false:=decide_eq_false c35;have c35b1 : decide (0 < y303.length) = false:=decide_eq_false (by omega);clear c35
       (first | rw [c35b0] | (simp only [i64_w,i32_w];rw [c35b0]) | rw [c35b1] | skip)
       have H':=Aside0.mk H;clear H
       go_wp2
       go_meet
       case rel => exact ⟨_,(y303),(.slice Ao33 y303.length co33),H',⟨by have:=HJ5.out;first | omega | exact Nat.le_refl _⟩,⟨by (with_reducible repeat (first | apply Kd.R_alloc | apply Kd.R_drewN | apply Kd.R_drew));exact Kd.R_mono (Kd.R_far (p:=⟨gb299,3,none⟩) (Kd.R_types HO305.out BK299.out (by decide)) (fun _ hk => hk.2) (.slice Ao33 y303.length co33)) (fun _ hk => trivial)⟩,⟨by (with_reducible repeat (first | refine blk_drewN ?_ _ | refine blk_drew ?_ | refine blk_alloc ?_ _));refine blk_far ?_ NB295_299.out _;(with_reducible repeat (first | refine blk_drewN ?_ _ | refine blk_drew ?_ | refine blk_alloc ?_ _));exact BK295.out⟩,⟨by (with_reducible repeat (first | refine blk_drewN ?_ _ | refine blk_drew ?_ | refine blk_alloc ?_ _));refine blk_put (cs:=#[.string a0_0,.int .i64 ji20,.int .i64 ji21,.slice A0_3 l0_3.length c0_3]) ?_ 3 _ rfl;(with_reducible repeat (first | refine blk_drewN ?_ _ | refine blk_drew ?_ | refine blk_alloc ?_ _));exact BK299.out⟩,⟨bl2 HB.out GE295.out GE299.out⟩⟩
     case rest =>
      clear HC23
      try clear c1
      try clear c2
      try clear p2
      try clear c3
      try clear p3
      try clear q3
      try clear hx3
      try clear c4
      try clear p4
      try clear q4
      try clear hx4
      try clear p6
      try clear c8
      try clear c9
      try clear c17
      try clear c22
      try clear c26
      try clear p30
      try clear q30
      try clear hx30
      try clear c35
      try clear c35b0
      try clear c35b1
      try clear c36
      try clear c36b0
      try clear c36b1
      try clear c36b2
      try clear c38
      try clear c38b0
      try clear c39
      try clear c39b0
      try clear c41
      try clear p41
      try clear q41
      try clear hx41
      try clear hf41
      try clear c42
      try clear c46
      try clear hcz10_0
      try clear hcz10_1
      try clear hcz10_2
      try clear hcz10_3
      try clear hcz13_0
      try clear hcz13_1
      try clear hcz13_2
      try clear hcz13_3
      try clear hcz15_0
      try clear hcz15_1
      try clear hcz15_2
      try clear hcz15_3
      try clear hcz24_0
      try clear hcz24_1
      try clear hcz24_2
      try clear hcz24_3
      try clear hcz27_0
      try clear hcz27_1
      try clear hcz27_2
      try clear hcz27_3
      try clear hcz28_0
      try clear hcz28_1
      try clear hcz28_2
      try clear hcz28_3
      try clear hcz31_0
      try clear hcz31_1
      try clear hcz31_2
      try clear hcz31_3
      try clear hcz34_0
      try clear hcz34_1
      try clear hcz34_2
      try clear hcz34_3
      try clear hcz43_0
      try clear hcz43_1
      try clear hcz43_2
      try clear hcz43_3
      try clear hfz10_0
      try clear hfz10_1
      try clear hfz10_2
      try clear hfz10_3
      try clear hfz13_0
      try clear hfz13_1
      try clear hfz13_2
      try clear hfz13_3
      try clear hfz15_0
      try clear hfz15_1
      try clear hfz15_2
      try clear hfz15_3
      try clear hfz24_0
      try clear hfz24_1
      try clear hfz24_2
      try clear hfz24_3
      try clear hfz27_0
      try clear hfz27_1
      try clear hfz27_2
      try clear hfz27_3
      try clear hfz28_0
      try clear hfz28_1
      try clear hfz28_2
      try clear hfz28_3
      try clear hfz31_0
      try clear hfz31_1
      try clear hfz31_2
      try clear hfz31_3
      try clear hfz34_0
      try clear hfz34_1
      try clear hfz34_2
      try clear hfz34_3
      try clear hfz43_0
      try clear hfz43_1
      try clear hfz43_2
      try clear hfz43_3
      try clear hx306_0
      try clear hx306_1
      try clear hx306_2
      try clear hx41_0
      try clear hx41_1
      try clear hx41_2
      try clear p2
      try clear p306
      try clear p41
      try clear q306
      try clear q41
      obtain ⟨kq,x300003_22,u300003,HA,HJ22,HO_300003,BK295,BK299,HB⟩:=hcut
      cases kq with
      | zero => exact absurd HA.out (by simp [joustlaw30_LimitsWider.j1])
      | succ kj22 =>
       have H:=HA.out;clear HA;simp only [joustlaw30_LimitsWider.j1] at H;replace H:=Option.bind_eq_some_iff.mp H;obtain ⟨⟨t308,t311⟩,A470,H⟩:=H;replace H : ((limits_Check.f kj22 a0_0 ji20 ji21 x300003_22 l1 l2).bind fun bt312 => (if t311 = bt312.2 then ((limits_May.f kj22 a0_0 ji20 ji21 x300003_22).bind fun t316 => (joustlaw30_LimitsWider.j2 kj22 t308 bt312.1 (!t316))) else (joustlaw30_LimitsWider.j2 kj22 t308 bt312.1 true))) = some true:=H;have A47:=Aside0.mk A470;clear A470;replace H:=Option.bind_eq_some_iff.mp H;obtain ⟨⟨t312,t315⟩,A480,H⟩:=H;replace H : (if t311 = t315 then ((limits_May.f kj22 a0_0 ji20 ji21 x300003_22).bind fun t316 => (joustlaw30_LimitsWider.j2 kj22 t308 t312 (!t316))) else (joustlaw30_LimitsWider.j2 kj22 t308 t312 true)) = some true:=H;have A48:=Aside0.mk A480;clear A480;have HC49:=Aside0.mk H;clear H;have hnb50:=NB295_299.out;have hnc50:=NB299_295.out;have hcz51_0 : wc.cell? ⟨gb295,0,none⟩ = some (.string a0_0):=(blk_cell BK295.out 0).trans rfl;have hcz51_1 : wc.cell? ⟨gb295,1,none⟩ = some (.int .i64 a0_1):=(blk_cell BK295.out 1).trans rfl;have hcz51_2 : wc.cell? ⟨gb295,2,none⟩ = some (.int .i64 a0_2):=(blk_cell BK295.out 2).trans rfl;have hcz51_3 : wc.cell? ⟨gb295,3,none⟩ = some (.slice A0_3 l0_3.length c0_3):=(blk_cell BK295.out 3).trans rfl;have hfz51_0:=blk_frozen BK295.out 0;have hfz51_1:=blk_frozen BK295.out 1;have hfz51_2:=blk_frozen BK295.out 2;have hfz51_3:=blk_frozen BK295.out 3
       go_upto_region 12 with (first | ((with_reducible refine gate_callee (f:=10) rfl ?_);refine goesL_ (some 77) rfl rfl Tryz.func10 (by kernel_rfl) rfl #[.agg #[.string a0_0,.int .i64 a0_1,.int .i64 a0_2,.slice A0_3 l0_3.length c0_3],.slice A1 l1.length c1,.slice A2 l2.length c2] rfl (by (try simp only [List.map_toArray,List.map_cons,List.map_nil]);first | done | rfl | (simp only [List.length_drop,List.length_take];rfl)) ?_;(with_reducible refine (limits_Check.calls kj22 a0_0 a0_1 a0_2 _ _ l0_3 _ _ l1 _ _ l2 t308 t311 _ ?side1 ?side2 ?side3 ?side4 ?side5 ?side6 ?side7 A47.out).mono ?_);(case side1 => repeat (first | exact (Kd.C_below HR0_3.out HB.out) | (with_reducible refine Kd.C_alloc ?_ _) | (with_reducible refine Kd.C_drewN ?_ _) | (with_reducible refine Kd.C_drew ?_)));(case side2 => exact HC0_3.out);(case side3 => repeat (first | exact (Kd.C_below HR1.out HB.out) | (with_reducible refine Kd.C_alloc ?_ _) | (with_reducible refine Kd.C_drewN ?_ _) | (with_reducible refine Kd.C_drew ?_)));(case side4 => exact HC1.out);(case side5 => repeat (first | exact (Kd.C_below HR2.out HB.out) | (with_reducible refine Kd.C_alloc ?_ _) | (with_reducible refine Kd.C_drewN ?_ _) | (with_reducible refine Kd.C_drew ?_)));(case side6 => exact HC2.out);(case side7 => exact Tabs.below HG.out (bl2 HB.out GE295.out GE299.out));rintro e w52 ⟨v309,rfl,ho0,hb⟩;refine ⟨_,rfl,?_⟩;have n0_:=Aside0.mk (Kd.R_below (by (with_reducible repeat (first | apply Kd.R_alloc | apply Kd.R_drewN | apply Kd.R_drew));exact HO_300003.out) hb);have n1_:=Aside0.mk (Kd.R_lower ho0 (below_size (bl2 HB.out GE295.out GE299.out)));have n2_:=Aside0.mk (blk_below (g:=gb295) (o:=.cells #[.string a0_0,.int .i64 a0_1,.int .i64 a0_2,.slice A0_3 l0_3.length c0_3] 24 (0,0)) (bk BK295.out) hb);have n3_:=Aside0.mk (blk_below (g:=gb299) (o:=.cells #[.string a0_0,.int .i64 ji20,.int .i64 ji21,u300003] 24 (0,0)) (bk BK299.out) hb);have n4_:=Aside0.mk (below_step (bl2 HB.out GE295.out GE299.out) hb);clear HO_300003;clear BK295;clear BK299;clear HB;have HO_300003:=n0_;have HO310:=n1_;have BK295:=n2_;have BK299:=n3_;have HB:=n4_;clear n0_ n1_ n2_ n3_ n4_;(try clear hb);(try clear hk);(try clear ho0);have hcz53_0 : w52.cell? ⟨gb299,0,none⟩ = some (.string a0_0):=(blk_cell BK299.out 0).trans rfl;have hcz53_1 : w52.cell? ⟨gb299,1,none⟩ = some (.int .i64 ji20):=(blk_cell BK299.out 1).trans rfl;have hcz53_2 : w52.cell? ⟨gb299,2,none⟩ = some (.int .i64 ji21):=(blk_cell BK299.out 2).trans rfl;have hcz53_3 : w52.cell? ⟨gb299,3,none⟩ = some (u300003):=(blk_cell BK299.out 3).trans rfl;have hfz53_0:=blk_frozen BK299.out 0;have hfz53_1:=blk_frozen BK299.out 1;have hfz53_2:=blk_frozen BK299.out 2;have hfz53_3:=blk_frozen BK299.out 3;obtain ⟨Ao54,co54,eo54⟩:=Kd.R_slice HO_300003.out;subst eo54) | ((with_reducible refine gate_callee (f:=10) rfl ?_);refine goesL_ (some 84) rfl rfl Tryz.func10 (by kernel_rfl) rfl #[.agg #[.string a0_0,.int .i64 ji20,.int .i64 ji21,.slice Ao54 x300003_22.length co54],.slice A1 l1.length c1,.slice A2 l2.length c2] rfl (by (try simp only [List.map_toArray,List.map_cons,List.map_nil]);first | done | (simp only [hji20,hji21];rfl) | rfl | (simp only [List.length_drop,List.length_take];rfl)) ?_;(with_reducible refine (limits_Check.calls kj22 a0_0 ji20 ji21 _ _ x300003_22 _ _ l1 _ _ l2 t312 t315 _ ?side1 ?side2 ?side3 ?side4 ?side5 ?side6 ?side7 A48.out).mono ?_);(case side1 => repeat (first | exact (Kd.R_reads' HO_300003.out).2.2 | (with_reducible refine Kd.C_alloc ?_ _) | (with_reducible refine Kd.C_drewN ?_ _) | (with_reducible refine Kd.C_drew ?_)));(case side2 => exact (Kd.R_reads' HO_300003.out).2.1);(case side3 => repeat (first | exact (Kd.C_below HR1.out HB.out) | (with_reducible refine Kd.C_alloc ?_ _) | (with_reducible refine Kd.C_drewN ?_ _) | (with_reducible refine Kd.C_drew ?_)));(case side4 => exact HC1.out);(case side5 => repeat (first | exact (Kd.C_below HR2.out HB.out) | (with_reducible refine Kd.C_alloc ?_ _) | (with_reducible refine Kd.C_drewN ?_ _) | (with_reducible refine Kd.C_drew ?_)));(case side6 => exact HC2.out);(case side7 => exact Tabs.below HG.out (bl2 HB.out GE295.out GE299.out));rintro e w55 ⟨v313,rfl,ho0,hb⟩;refine ⟨_,rfl,?_⟩;have n0_:=Aside0.mk (Kd.R_below (by (with_reducible repeat (first | apply Kd.R_alloc | apply Kd.R_drewN | apply Kd.R_drew));exact HO_300003.out) hb);have n1_:=Aside0.mk (Kd.R_elder' (by (with_reducible repeat (first | apply Kd.R_alloc | apply Kd.R_drewN | apply Kd.R_drew));exact HO310.out) (Kd.R_base ho0) hb);have n2_:=Aside0.mk (Kd.R_lower (Kd.R_new' ho0 (Kd.R_lt (by (with_reducible repeat (first | apply Kd.R_alloc | apply Kd.R_drewN | apply Kd.R_drew));exact HO310.out))) (below_size (bl2 HB.out GE295.out GE299.out)));have n3_:=Aside0.mk (blk_below (g:=gb295) (o:=.cells #[.string a0_0,.int .i64 a0_1,.int .i64 a0_2,.slice A0_3 l0_3.length c0_3] 24 (0,0)) (bk BK295.out) hb);have n4_:=Aside0.mk (blk_below (g:=gb299) (o:=.cells #[.string a0_0,.int .i64 ji20,.int .i64 ji21,.slice Ao54 x300003_22.length co54] 24 (0,0)) (bk BK299.out) hb);have n5_:=Aside0.mk (below_step (bl2 HB.out GE295.out GE299.out) hb);clear HO_300003;clear HO310;clear BK295;clear BK299;clear HB;have HO_300003:=n0_;have HO310:=n1_;have HO314:=n2_;have BK295:=n3_;have BK299:=n4_;have HB:=n5_;clear n0_ n1_ n2_ n3_ n4_ n5_;(try clear hb);(try clear hk);(try clear ho0)))
       (try simp only [Act.put,List.setIfInBounds_toArray,List.set_cons_zero,List.set_cons_succ])
       go_cut [94] (fun v94 wc => ∃ (kq : Nat) (x94_48 : Bool),v94 = .bool x94_48 ∧ Aside0 (joustlaw30_LimitsWider.j2 kq t308 t312 x94_48 = some true) ∧ Aside0 (kq ≤ kj22) ∧ Aside0 (Kd.R k35 35 wc w.heap.size (fun k_ => some k_ ≠ (v313 : Value).ownBlock) v309 t308) ∧ Aside0 (Kd.R k35 35 wc w.heap.size (fun k_ => some k_ ≠ (v309 : Value).ownBlock) v313 t312) ∧ Aside0 (Kd.R k42 42 wc w.heap.size (fun _ => True) (.slice Ao54 x300003_22.length co54) x300003_22) ∧ Aside0 (wc.heap[gb295]? = some (.cells #[.string a0_0,.int .i64 a0_1,.int .i64 a0_2,(.slice A0_3 l0_3.length c0_3)] 24 (0,0))) ∧ Aside0 (wc.heap[gb299]? = some (.cells #[.string a0_0,.int .i64 ji20,.int .i64 ji21,(.slice Ao54 x300003_22.length co54)] 24 (0,0))) ∧ Aside0 (Below w.heap.size w wc))
       case first =>
        have H:=HC49.out;clear HC49
        by_cases c56 : t311 = t315
        ·rw [if_pos c56] at H;have c56b0 : (t311 == t315) = true:=beq_iff_eq.mpr c56;have c56b1 : (t311 != t315) = false:=bne_eq_false_iff_eq.mpr c56;clear c56
         (first | rw [c56b0] | (simp only [i64_w,i32_w];rw [c56b0]) | skip)
         replace H:=Option.bind_eq_some_iff.mp H;obtain ⟨t316,A570,H⟩:=H;replace H : (joustlaw30_LimitsWider.j2 kj22 t308 t312 (!t316)) = some true:=H;have A57:=Aside0.mk A570;clear A570;have H':=Aside0.mk H;clear H;have hnb58:=NB299_295.out;have hnc58:=NB295_299.out;have hcz59_0 : w55.cell? ⟨gb299,0,none⟩ = some (.string a0_0):=(blk_cell BK299.out 0).trans rfl;have hcz59_1 : w55.cell? ⟨gb299,1,none⟩ = some (.int .i64 ji20):=(blk_cell BK299.out 1).trans rfl;have hcz59_2 : w55.cell? ⟨gb299,2,none⟩ = some (.int .i64 ji21):=(blk_cell BK299.out 2).trans rfl;have hcz59_3 : w55.cell? ⟨gb299,3,none⟩ = some (.slice Ao54 x300003_22.length co54):=(blk_cell BK299.out 3).trans rfl;have hfz59_0:=blk_frozen BK299.out 0;have hfz59_1:=blk_frozen BK299.out 1;have hfz59_2:=blk_frozen BK299.out 2;have hfz59_3:=blk_frozen BK299.out 3
         go_wp2_with (first | (go_at_call 14;(with_reducible refine (limits_May.calls kj22 a0_0 ji20 ji21 _ _ x300003_22 t316 _ ?side1 ?side2 ?side3 A57.out).mono ?_);(case side1 => repeat (first | exact (Kd.R_reads' HO_300003.out).2.2 | (with_reducible refine Kd.C_alloc ?_ _) | (with_reducible refine Kd.C_drewN ?_ _) | (with_reducible refine Kd.C_drew ?_)));(case side2 => exact (Kd.R_reads' HO_300003.out).2.1);(case side3 => exact Tabs.below HG.out (bl2 HB.out GE295.out GE299.out));rintro e w60 ⟨rfl,hb⟩;replace HO_300003:=Aside0.mk (Kd.R_below (by (with_reducible repeat (first | apply Kd.R_alloc | apply Kd.R_drewN | apply Kd.R_drew));exact HO_300003.out) hb);replace HO310:=Aside0.mk (Kd.R_below (by (with_reducible repeat (first | apply Kd.R_alloc | apply Kd.R_drewN | apply Kd.R_drew));exact HO310.out) hb);replace HO314:=Aside0.mk (Kd.R_below (by (with_reducible repeat (first | apply Kd.R_alloc | apply Kd.R_drewN | apply Kd.R_drew));exact HO314.out) hb);replace BK295:=Aside0.mk (blk_below (g:=gb295) (o:=.cells #[.string a0_0,.int .i64 a0_1,.int .i64 a0_2,.slice A0_3 l0_3.length c0_3] 24 (0,0)) (bk BK295.out) hb);replace BK299:=Aside0.mk (blk_below (g:=gb299) (o:=.cells #[.string a0_0,.int .i64 ji20,.int .i64 ji21,.slice Ao54 x300003_22.length co54] 24 (0,0)) (bk BK299.out) hb);replace HB:=Aside0.mk (below_step (bl2 HB.out GE295.out GE299.out) hb);(try clear hb);(try clear hk)))
         go_meet
         case rel => exact ⟨_,(!t316),(by first | rfl | (simp;done) | (simp [*];done)),H',⟨by have:=HJ5.out;have:=HJ22.out;first | omega | exact Nat.le_refl _⟩,⟨by (with_reducible repeat (first | apply Kd.R_alloc | apply Kd.R_drewN | apply Kd.R_drew));exact Kd.R_mono HO310.out (fun _ hk => hk.2)⟩,⟨by (with_reducible repeat (first | apply Kd.R_alloc | apply Kd.R_drewN | apply Kd.R_drew));exact Kd.R_mono HO314.out (fun _ hk => hk.2)⟩,⟨by (with_reducible repeat (first | apply Kd.R_alloc | apply Kd.R_drewN | apply Kd.R_drew));exact HO_300003.out⟩,⟨bk BK295.out⟩,⟨bk BK299.out⟩,⟨bl2 HB.out GE295.out GE299.out⟩⟩
        ·rw [if_neg c56] at H;have c56b0 : (t311 == t315) = false:=beq_eq_false_iff_ne.mpr c56;have c56b1 : (t311 != t315) = true:=bne_iff_ne.mpr c56
         (first | rw [c56b0] | (simp only [i64_w,i32_w];rw [c56b0]) | skip)
         have H':=Aside0.mk H;clear H
         go_wp2
         go_meet
         case rel => exact ⟨_,(true),(by first | rfl | (simp;done) | (simp [*];done)),H',⟨by have:=HJ5.out;have:=HJ22.out;first | omega | exact Nat.le_refl _⟩,⟨by (with_reducible repeat (first | apply Kd.R_alloc | apply Kd.R_drewN | apply Kd.R_drew));exact Kd.R_mono HO310.out (fun _ hk => hk.2)⟩,⟨by (with_reducible repeat (first | apply Kd.R_alloc | apply Kd.R_drewN | apply Kd.R_drew));exact Kd.R_mono HO314.out (fun _ hk => hk.2)⟩,⟨by (with_reducible repeat (first | apply Kd.R_alloc | apply Kd.R_drewN | apply Kd.R_drew));exact HO_300003.out⟩,⟨bk BK295.out⟩,⟨bk BK299.out⟩,⟨bl2 HB.out GE295.out GE299.out⟩⟩
       case rest =>
        clear HC49
        try clear c1
        try clear c2
        try clear p2
        try clear c3
        try clear p3
        try clear q3
        try clear hx3
        try clear c4
        try clear p4
        try clear q4
        try clear hx4
        try clear c5
        try clear p6
        try clear c8
        try clear c9
        try clear c10
        try clear c17
        try clear c22
        try clear c26
        try clear p30
        try clear q30
        try clear hx30
        try clear c35
        try clear c35b0
        try clear c35b1
        try clear c36
        try clear c36b0
        try clear c36b1
        try clear c36b2
        try clear c38
        try clear c38b0
        try clear c39
        try clear c39b0
        try clear c41
        try clear p41
        try clear q41
        try clear hx41
        try clear hf41
        try clear c42
        try clear c46
        try clear c50
        try clear c56
        try clear c56b0
        try clear c56b1
        try clear c58
        try clear hcz10_0
        try clear hcz10_1
        try clear hcz10_2
        try clear hcz10_3
        try clear hcz13_0
        try clear hcz13_1
        try clear hcz13_2
        try clear hcz13_3
        try clear hcz15_0
        try clear hcz15_1
        try clear hcz15_2
        try clear hcz15_3
        try clear hcz24_0
        try clear hcz24_1
        try clear hcz24_2
        try clear hcz24_3
        try clear hcz27_0
        try clear hcz27_1
        try clear hcz27_2
        try clear hcz27_3
        try clear hcz28_0
        try clear hcz28_1
        try clear hcz28_2
        try clear hcz28_3
        try clear hcz31_0
        try clear hcz31_1
        try clear hcz31_2
        try clear hcz31_3
        try clear hcz34_0
        try clear hcz34_1
        try clear hcz34_2
        try clear hcz34_3
        try clear hcz43_0
        try clear hcz43_1
        try clear hcz43_2
        try clear hcz43_3
        try clear hcz51_0
        try clear hcz51_1
        try clear hcz51_2
        try clear hcz51_3
        try clear hcz53_0
        try clear hcz53_1
        try clear hcz53_2
        try clear hcz53_3
        try clear hcz59_0
        try clear hcz59_1
        try clear hcz59_2
        try clear hcz59_3
        try clear hfz10_0
        try clear hfz10_1
        try clear hfz10_2
        try clear hfz10_3
        try clear hfz13_0
        try clear hfz13_1
        try clear hfz13_2
        try clear hfz13_3
        try clear hfz15_0
        try clear hfz15_1
        try clear hfz15_2
        try clear hfz15_3
        try clear hfz24_0
        try clear hfz24_1
        try clear hfz24_2
        try clear hfz24_3
        try clear hfz27_0
        try clear hfz27_1
        try clear hfz27_2
        try clear hfz27_3
        try clear hfz28_0
        try clear hfz28_1
        try clear hfz28_2
        try clear hfz28_3
        try clear hfz31_0
        try clear hfz31_1
        try clear hfz31_2
        try clear hfz31_3
        try clear hfz34_0
        try clear hfz34_1
        try clear hfz34_2
        try clear hfz34_3
        try clear hfz43_0
        try clear hfz43_1
        try clear hfz43_2
        try clear hfz43_3
        try clear hfz51_0
        try clear hfz51_1
        try clear hfz51_2
        try clear hfz51_3
        try clear hfz53_0
        try clear hfz53_1
        try clear hfz53_2
        try clear hfz53_3
        try clear hfz59_0
        try clear hfz59_1
        try clear hfz59_2
        try clear hfz59_3
        try clear hx306_0
        try clear hx306_1
        try clear hx306_2
        try clear hx41_0
        try clear hx41_1
        try clear hx41_2
        try clear p2
        try clear p3
        try clear p30
        try clear p306
        try clear p4
        try clear p41
        try clear p6
        try clear q3
        try clear q30
        try clear q306
        try clear q4
        try clear q41
        obtain ⟨kq,x94_48,rfl,HA,HJ48,HO_13,HO_15,HO_300003,BK295,BK299,HB⟩:=hcut
        cases kq with
        | zero => exact absurd HA.out (by simp [joustlaw30_LimitsWider.j2])
        | succ kj48 =>
         have H:=HA.out;clear HA;simp only [joustlaw30_LimitsWider.j2] at H
         by_cases c61 : x94_48 = true
         ·subst c61;have H1 : (some false) = some true:=by rw [if_pos rfl] at H;exact H
          clear H;have H:=H1;clear H1;exact absurd H (by simp)
         ·replace c61:=Bool.eq_false_iff.mpr c61;subst c61;have H1 : (joustlaw30_LimitsWider.l0 kj48 t308 t312 (t312.length : Int) 0) = some true:=by rw [if_neg (show ¬ (false = true) by decide)] at H;exact H
          clear H;have H:=H1;clear H1;have H':=Aside0.mk H;clear H;obtain ⟨Ao62,co62,eo62⟩:=Kd.R_slice HO_15.out;subst eo62
          go_wp2
          (try simp only [Act.put,List.setIfInBounds_toArray,List.set_cons_zero,List.set_cons_succ])
          go_loopg [97] kj48 (fun kq v97 w' => ∃ (x97_4 : Int),v97 = .int .i64 x97_4 ∧ Aside0 (joustlaw30_LimitsWider.l0 kq t308 t312 (t312.length : Int) x97_4 = some true) ∧ Aside0 (kq ≤ kj48) ∧ Aside0 (Kd.R k35 35 w' w.heap.size (fun k_ => some k_ ≠ ((.slice Ao62 t312.length co62) : Value).ownBlock) v309 t308) ∧ Aside0 (Kd.R k35 35 w' w.heap.size (fun k_ => some k_ ≠ (v309 : Value).ownBlock) (.slice Ao62 t312.length co62) t312) ∧ Aside0 (Kd.R k42 42 w' w.heap.size (fun _ => True) (.slice Ao54 x300003_22.length co54) x300003_22) ∧ Aside0 (w'.heap[gb295]? = some (.cells #[.string a0_0,.int .i64 a0_1,.int .i64 a0_2,(.slice A0_3 l0_3.length c0_3)] 24 (0,0))) ∧ Aside0 (w'.heap[gb299]? = some (.cells #[.string a0_0,.int .i64 ji20,.int .i64 ji21,(.slice Ao54 x300003_22.length co54)] 24 (0,0))) ∧ Aside0 (Below w.heap.size w w'))
          case atStart => exact ⟨(0),(by first | rfl | (simp;done) | (simp [*];done)),H',⟨Nat.le_refl _⟩,⟨by (with_reducible repeat (first | apply Kd.R_alloc | apply Kd.R_drewN | apply Kd.R_drew));exact HO_13.out⟩,⟨by (with_reducible repeat (first | apply Kd.R_alloc | apply Kd.R_drewN | apply Kd.R_drew));exact HO_15.out⟩,⟨by (with_reducible repeat (first | apply Kd.R_alloc | apply Kd.R_drewN | apply Kd.R_drew));exact HO_300003.out⟩,⟨bk BK295.out⟩,⟨bk BK299.out⟩,⟨bl2 HB.out GE295.out GE299.out⟩⟩
          case round =>
           clear H'
           try clear c1
           try clear c2
           try clear p2
           try clear c3
           try clear p3
           try clear q3
           try clear hx3
           try clear c4
           try clear p4
           try clear q4
           try clear hx4
           try clear c5
           try clear c6
           try clear p6
           try clear c8
           try clear c9
           try clear c10
           try clear c17
           try clear c22
           try clear c26
           try clear p30
           try clear q30
           try clear hx30
           try clear c35
           try clear c35b0
           try clear c35b1
           try clear c36
           try clear c36b0
           try clear c36b1
           try clear c36b2
           try clear c38
           try clear c38b0
           try clear c39
           try clear c39b0
           try clear c41
           try clear p41
           try clear q41
           try clear hx41
           try clear hf41
           try clear c42
           try clear c46
           try clear c50
           try clear c56
           try clear c56b0
           try clear c56b1
           try clear c58
           try clear c61
           try clear hcz10_0
           try clear hcz10_1
           try clear hcz10_2
           try clear hcz10_3
           try clear hcz13_0
           try clear hcz13_1
           try clear hcz13_2
           try clear hcz13_3
           try clear hcz15_0
           try clear hcz15_1
           try clear hcz15_2
           try clear hcz15_3
           try clear hcz24_0
           try clear hcz24_1
           try clear hcz24_2
           try clear hcz24_3
           try clear hcz27_0
           try clear hcz27_1
           try clear hcz27_2
           try clear hcz27_3
           try clear hcz28_0
           try clear hcz28_1
           try clear hcz28_2
           try clear hcz28_3
           try clear hcz31_0
           try clear hcz31_1
           try clear hcz31_2
           try clear hcz31_3
           try clear hcz34_0
           try clear hcz34_1
           try clear hcz34_2
           try clear hcz34_3
           try clear hcz43_0
           try clear hcz43_1
           try clear hcz43_2
           try clear hcz43_3
           try clear hcz51_0
           try clear hcz51_1
           try clear hcz51_2
           try clear hcz51_3
           try clear hcz53_0
           try clear hcz53_1
           try clear hcz53_2
           try clear hcz53_3
           try clear hcz59_0
           try clear hcz59_1
           try clear hcz59_2
           try clear hcz59_3
           try clear hfz10_0
           try clear hfz10_1
           try clear hfz10_2
           try clear hfz10_3
           try clear hfz13_0
           try clear hfz13_1
           try clear hfz13_2
           try clear hfz13_3
           try clear hfz15_0
           try clear hfz15_1
           try clear hfz15_2
           try clear hfz15_3
           try clear hfz24_0
           try clear hfz24_1
           try clear hfz24_2
           try clear hfz24_3
           try clear hfz27_0
           try clear hfz27_1
           try clear hfz27_2
           try clear hfz27_3
           try clear hfz28_0
           try clear hfz28_1
           try clear hfz28_2
           try clear hfz28_3
           try clear hfz31_0
           try clear hfz31_1
           try clear hfz31_2
           try clear hfz31_3
           try clear hfz34_0
           try clear hfz34_1
           try clear hfz34_2
           try clear hfz34_3
           try clear hfz43_0
           try clear hfz43_1
           try clear hfz43_2
           try clear hfz43_3
           try clear hfz51_0
           try clear hfz51_1
           try clear hfz51_2
           try clear hfz51_3
           try clear hfz53_0
           try clear hfz53_1
           try clear hfz53_2
           try clear hfz53_3
           try clear hfz59_0
           try clear hfz59_1
           try clear hfz59_2
           try clear hfz59_3
           try clear hx306_0
           try clear hx306_1
           try clear hx306_2
           try clear hx41_0
           try clear hx41_1
           try clear hx41_2
           try clear p2
           try clear p3
           try clear p30
           try clear p306
           try clear p4
           try clear p41
           try clear p6
           try clear q3
           try clear q30
           try clear q306
           try clear q4
           try clear q41
           obtain ⟨x97_4,rfl,HA,HK4,HO_13,HO_15,HO_300003,BK295,BK299,HB⟩:=hrel
           cases gk with
           | zero => exact absurd HA.out (by simp [joustlaw30_LimitsWider.l0])
           | succ k4 =>
            have H:=HA.out;clear HA;simp only [joustlaw30_LimitsWider.l0] at H
            by_cases c63 : x97_4 < (t312.length : Int)
            ·rw [if_pos c63] at H;have c63b0 : decide (x97_4 < (t312.length : Int)) = true:=decide_eq_true c63;clear c63
             by_cases c64 : 0 ≤ x97_4
             ·rw [if_pos c64] at H;have c64b0 : decide (0 ≤ x97_4) = true:=decide_eq_true c64;clear c64
              by_cases c65 : x97_4 < (t312.length : Int)
              ·rw [if_pos c65] at H;have c65b0 : decide (x97_4 < (t312.length : Int)) = true:=decide_eq_true c65;clear c65;replace H:=Option.bind_eq_some_iff.mp H;obtain ⟨t318,A660,H⟩:=H;replace H : (if t318 = true then (joustlaw30_LimitsWider.l0 k4 t308 t312 (t312.length : Int) (wrap64 (x97_4 + 1))) else (some false)) = some true:=H;have A66:=Aside0.mk A660;clear A660
               by_cases c67 : t318 = true
               ·subst c67;have H1 : (joustlaw30_LimitsWider.l0 k4 t308 t312 (t312.length : Int) (wrap64 (x97_4 + 1))) = some true:=by rw [if_pos rfl] at H;exact H
                clear H;have H:=H1;clear H1;have H':=Aside0.mk H;clear H;have p317 : 0 ≤ (x97_4 : Int):=of_decide_eq_true (by first | (with_reducible assumption) | assumption);have q317 : x97_4 < (t312.length : Int):=of_decide_eq_true (by first | (with_reducible assumption) | assumption);obtain ⟨ad317,e317,hx317_0,hx317_1⟩:=at_T35 (Kd.R_reads' HO_15.out).2.2 x97_4 p317 q317
                cases e317
                replace p317:=eq_true p317;replace q317:=eq_true q317;obtain ⟨Ao68,co68,eo68⟩:=Kd.R_slice HO_13.out;subst eo68
                go_wp2_with (first | ((with_reducible refine gate_callee (f:=12) rfl ?_);refine goesL_ (some 105) rfl rfl Tryz.func12 (by kernel_rfl) rfl #[.slice Ao68 t308.length co68,.agg #[.int .u8 ((rd_T35 t312 x97_4).f0),.int .i64 ((rd_T35 t312 x97_4).f1)]] rfl (by (try simp only [List.map_toArray,List.map_cons,List.map_nil]);first | done | rfl | (simp only [List.length_drop,List.length_take];rfl)) ?_;(with_reducible refine (joustlaw30_in.calls k4 _ _ t308 ((rd_T35 t312 x97_4).f0) ((rd_T35 t312 x97_4).f1) true _ ?side1 ?side2 A66.out).mono ?_);(case side1 => repeat (first | exact (Kd.R_reads' HO_13.out).2.2 | (with_reducible refine Kd.C_alloc ?_ _) | (with_reducible refine Kd.C_drewN ?_ _) | (with_reducible refine Kd.C_drew ?_)));(case side2 => exact (Kd.R_reads' HO_13.out).2.1);rintro e w69 ⟨rfl,hb⟩;refine ⟨_,rfl,?_⟩;replace HO_13:=Aside0.mk (Kd.R_below (by (with_reducible repeat (first | apply Kd.R_alloc | apply Kd.R_drewN | apply Kd.R_drew));exact HO_13.out) hb);replace HO_15:=Aside0.mk (Kd.R_below (by (with_reducible repeat (first | apply Kd.R_alloc | apply Kd.R_drewN | apply Kd.R_drew));exact HO_15.out) hb);replace HO_300003:=Aside0.mk (Kd.R_below (by (with_reducible repeat (first | apply Kd.R_alloc | apply Kd.R_drewN | apply Kd.R_drew));exact HO_300003.out) hb);replace BK295:=Aside0.mk (blk_below (g:=gb295) (o:=.cells #[.string a0_0,.int .i64 a0_1,.int .i64 a0_2,.slice A0_3 l0_3.length c0_3] 24 (0,0)) (bk BK295.out) hb);replace BK299:=Aside0.mk (blk_below (g:=gb299) (o:=.cells #[.string a0_0,.int .i64 ji20,.int .i64 ji21,.slice Ao54 x300003_22.length co54] 24 (0,0)) (bk BK299.out) hb);replace HB:=Aside0.mk (below_step (bl2 HB.out GE295.out GE299.out) hb);(try clear hb);(try clear hk)))
                go_roundg k4
                case measure => have:=HJ5.out;have:=HJ22.out;have:=HJ48.out;have:=HK4.out;omega
                case rel => exact ⟨(wrap64 (x97_4 + 1)),(by first | rfl | (simp;done) | (simp [*];done)),H',⟨by have:=HJ5.out;have:=HJ22.out;have:=HJ48.out;have:=HK4.out;omega⟩,⟨by (with_reducible repeat (first | apply Kd.R_alloc | apply Kd.R_drewN | apply Kd.R_drew));exact HO_13.out⟩,⟨by (with_reducible repeat (first | apply Kd.R_alloc | apply Kd.R_drewN | apply Kd.R_drew));exact HO_15.out⟩,⟨by (with_reducible repeat (first | apply Kd.R_alloc | apply Kd.R_drewN | apply Kd.R_drew));exact HO_300003.out⟩,⟨bk BK295.out⟩,⟨bk BK299.out⟩,⟨bl2 HB.out GE295.out GE299.out⟩⟩
               ·replace c67:=Bool.eq_false_iff.mpr c67;subst c67;have H1 : (some false) = some true:=by rw [if_neg (show ¬ (false = true) by decide)] at H;exact H
                clear H;have H:=H1;clear H1;exact absurd H (by simp)
              ·rw [if_neg c65] at H;exact absurd H (by simp)
             ·rw [if_neg c64] at H;exact absurd H (by simp)
            ·rw [if_neg c63] at H;have c63b0 : decide (x97_4 < (t312.length : Int)) = false:=decide_eq_false c63;clear c63;replace H:=Option.bind_eq_some_iff.mp H;obtain ⟨t319,A700,H⟩:=H;replace H : (some t319) = some true:=H;have A70:=Aside0.mk A700;clear A700;have hT_:=Option.some.inj H
             go_wp2_with (first | ((with_reducible refine gate_callee (f:=9) rfl ?_);refine goesL_ (some 108) rfl rfl Tryz.func9 (by kernel_rfl) rfl #[] rfl (by (try simp only [List.map_toArray,List.map_cons,List.map_nil]);first | done | rfl | (simp only [List.length_drop,List.length_take];rfl)) ?_;(with_reducible refine (joustlaw30_lives.calls k4  t319 _ ?side1 A70.out).mono ?_);(case side1 => exact Tabs.below HG.out (bl2 HB.out GE295.out GE299.out));rintro e w71 ⟨rfl,hb⟩;refine ⟨_,rfl,?_⟩;replace HO_13:=Aside0.mk (Kd.R_below (by (with_reducible repeat (first | apply Kd.R_alloc | apply Kd.R_drewN | apply Kd.R_drew));exact HO_13.out) hb);replace HO_15:=Aside0.mk (Kd.R_below (by (with_reducible repeat (first | apply Kd.R_alloc | apply Kd.R_drewN | apply Kd.R_drew));exact HO_15.out) hb);replace HO_300003:=Aside0.mk (Kd.R_below (by (with_reducible repeat (first | apply Kd.R_alloc | apply Kd.R_drewN | apply Kd.R_drew));exact HO_300003.out) hb);replace BK295:=Aside0.mk (blk_below (g:=gb295) (o:=.cells #[.string a0_0,.int .i64 a0_1,.int .i64 a0_2,.slice A0_3 l0_3.length c0_3] 24 (0,0)) (bk BK295.out) hb);replace BK299:=Aside0.mk (blk_below (g:=gb299) (o:=.cells #[.string a0_0,.int .i64 ji20,.int .i64 ji21,.slice Ao54 x300003_22.length co54] 24 (0,0)) (bk BK299.out) hb);replace HB:=Aside0.mk (below_step (bl2 HB.out GE295.out GE299.out) hb);(try clear hb);(try clear hk)))
             go_ret
             exact ⟨by first | rfl | (simp [errW_none,errW_some] <;> rfl) | (simp only [← hji20,← hji21];first | rfl | (simp [errW_none,errW_some] <;> rfl)) | (simp [*,errW_none,errW_some] <;> rfl),bl2 HB.out GE295.out GE299.out⟩
    ·rw [if_neg c22] at H;exact absurd H (by simp)

end Go.Proofs.YtgcmgfljbadljaaGreatDoor.L
