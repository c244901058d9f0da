/- Written by a program of this claim's author (stubprint.py, over the kit's print) out of the translation: Go functions as Lean functions, and that the calls come to them. -/
import Derived.Test.YtgcmgfljbadljaaGreatDoorL0
import Derived.Test.YtgcmgfljbadljaaGreatDoorL3
import Derived.Test.YtgcmgfljbadljaaGreatDoorL5
import Derived.Test.YtgcmgfljbadljaaGreatDoorL8
import Derived.Test.YtgcmgfljbadljaaGreatDoorL9
import Derived.Test.YtgcmgfljbadljaaGreatDoorL10
import Derived.Test.YtgcmgfljbadljaaGreatDoorL13
import Derived.Test.YtgcmgfljbadljaaGreatDoorHandS
import Derived.Test.YtgcmgfljbadljaaGreatDoorHandE
namespace Go.Proofs.YtgcmgfljbadljaaGreatDoor.L
open Go.RowKit Go.Proofs.YtgcmgfljbadljaaGreatDoorW.PrintWords Go.Proofs.YtgcmgfljbadljaaGreatDoorW.PrintLast Go.Proofs.YtgcmgfljbadljaaGreatDoorW.PrintMore Go.Proofs.YtgcmgfljbadljaaGreatDoor.HandS Go.Proofs.YtgcmgfljbadljaaGreatDoor.Iter
attribute [local go_sem] max2_int min2_int max_two min_two max_three min_three max_four min_four   -- for this text's walks alone
set_option linter.unusedVariables false
set_option linter.unusedSimpArgs false

/-! ### joustlaw30_LimitsBest: function 5 -/
mutual
def joustlaw30_LimitsBest.j0 : Nat → List (S47) → Int → Bool → ByteArray → Int → Int → List (S42) → Option (Bool)
 | 0,_,_,_,_,_,_,_ => none
 | k + 1,x1,x2,x28,x231000,x231001,x231002,x231003 => if x28 = true then ((joustlaw30_lives.f k).bind fun t233 => (some t233)) else (if (x1.length : Int) = 0 then (none) else (if 0 ≤ (Int.tmod (wrap64 (x2)) (x1.length : Int)) then (if (Int.tmod (wrap64 (x2)) (x1.length : Int)) < (x1.length : Int) then ((limits_Best.f k x231000 x231001 x231002 x231003 x1 ((rd_T47 x1 (Int.tmod (wrap64 (x2)) (x1.length : Int))).f0)).bind fun t235 => (if t235 < 0 then (joustlaw30_LimitsBest.j1 k x1 (Int.tmod (wrap64 (x2)) (x1.length : Int)) t235 true x231000 x231001 x231002 x231003) else (joustlaw30_LimitsBest.j1 k x1 (Int.tmod (wrap64 (x2)) (x1.length : Int)) t235 (decide (t235 > 3)) x231000 x231001 x231002 x231003))) else (none)) else (none)))
def joustlaw30_LimitsBest.j1 : Nat → List (S47) → Int → Int → Bool → ByteArray → Int → Int → List (S42) → Option (Bool)
 | 0,_,_,_,_,_,_,_,_ => none
 | k + 1,x1,x7,x8,x48,x231000,x231001,x231002,x231003 => if x48 = true then (some false) else (joustlaw30_LimitsBest.l0 k x1 x7 ([] : List Int) x8 0 x231000 x231001 x231002 x231003)
def joustlaw30_LimitsBest.l0 : Nat → List (S47) → Int → List Int → Int → Int → ByteArray → Int → Int → List (S42) → Option (Bool)
 | 0,_,_,_,_,_,_,_,_,_ => none
 | k + 1,x1,x7,x9,x49,x50,x231000,x231001,x231002,x231003 => if x50 < x49 then (if x9.length < 17592186044416 then (joustlaw30_LimitsBest.l0 k x1 x7 (x9 ++ [x7]) x49 (wrap64 (x50 + 1)) x231000 x231001 x231002 x231003) else (none)) else ((limits_Check.f k x231000 x231001 x231002 x231003 x1 x9).bind fun bt239 => (if x9.length < 17592186044416 then ((limits_Check.f k x231000 x231001 x231002 x231003 x1 (x9 ++ [x7])).bind fun bt246 => (if bt239.2 = 0 then (if bt246.2 = 0 then ((joustlaw30_in.f k bt239.1 1 x7).bind fun t252 => (if t252 = true then (joustlaw30_LimitsBest.j3 k bt246.1 true 1 x7 3 (-1)) else ((joustlaw30_in.f k bt239.1 3 (-1)).bind fun t253 => (joustlaw30_LimitsBest.j3 k bt246.1 t253 1 x7 3 (-1))))) else (joustlaw30_LimitsBest.j3 k bt246.1 true 1 x7 3 (-1))) else (joustlaw30_LimitsBest.j3 k bt246.1 true 1 x7 3 (-1)))) else (none)))
def joustlaw30_LimitsBest.j3 : Nat → List (S35) → Bool → Int → Int → Int → Int → Option (Bool)
 | 0,_,_,_,_,_,_ => none
 | k + 1,x12,x92,x251000,x251001,x252000,x252001 => if x92 = true then (some false) else ((joustlaw30_in.f k x12 x251000 x251001).bind fun t254 => (if t254 = true then ((joustlaw30_lives.f k).bind fun t255 => (some t255)) else ((joustlaw30_in.f k x12 x252000 x252001).bind fun t256 => (if t256 = true then ((joustlaw30_lives.f k).bind fun t257 => (some t257)) else (some false)))))
end
def joustlaw30_LimitsBest.f (k : Nat) (a0_0 : ByteArray) (a0_1 : Int) (a0_2 : Int) (l0_3 : List (S42)) (l1 : List (S47)) (a2 : Int) : Option (Bool):=(joustlaw30_great.f a0_0 a0_1 a0_2 l0_3 l1 ([] : List Int)).bind fun t231 => (if t231 = true then (joustlaw30_LimitsBest.j0 k l1 a2 true a0_0 a0_1 a0_2 l0_3) else ((limits_May.f k a0_0 a0_1 a0_2 l0_3).bind fun t232 => (if t232 = true then (joustlaw30_LimitsBest.j0 k l1 a2 ((l1.length : Int) == 0) a0_0 a0_1 a0_2 l0_3) else (joustlaw30_LimitsBest.j0 k l1 a2 true a0_0 a0_1 a0_2 l0_3))))
theorem joustlaw30_LimitsBest.mono_l : ∀ k,(∀ y0 y1 y2 y3 y4 y5 y6,LeO (joustlaw30_LimitsBest.j0 k y0 y1 y2 y3 y4 y5 y6) (joustlaw30_LimitsBest.j0 (k + 1) y0 y1 y2 y3 y4 y5 y6)) ∧ (∀ y0 y1 y2 y3 y4 y5 y6 y7,LeO (joustlaw30_LimitsBest.j1 k y0 y1 y2 y3 y4 y5 y6 y7) (joustlaw30_LimitsBest.j1 (k + 1) y0 y1 y2 y3 y4 y5 y6 y7)) ∧ (∀ y0 y1 y2 y3 y4 y5 y6 y7 y8,LeO (joustlaw30_LimitsBest.l0 k y0 y1 y2 y3 y4 y5 y6 y7 y8) (joustlaw30_LimitsBest.l0 (k + 1) y0 y1 y2 y3 y4 y5 y6 y7 y8)) ∧ (∀ y0 y1 y2 y3 y4 y5,LeO (joustlaw30_LimitsBest.j3 k y0 y1 y2 y3 y4 y5) (joustlaw30_LimitsBest.j3 (k + 1) y0 y1 y2 y3 y4 y5))
 | 0 => ⟨fun _ _ _ _ _ _ _ r h => by simp [joustlaw30_LimitsBest.j0] at h,fun _ _ _ _ _ _ _ _ r h => by simp [joustlaw30_LimitsBest.j1] at h,fun _ _ _ _ _ _ _ _ _ r h => by simp [joustlaw30_LimitsBest.l0] at h,fun _ _ _ _ _ _ r h => by simp [joustlaw30_LimitsBest.j3] at h⟩
 | k + 1 => by
  obtain ⟨ih0,ih1,ih2,ih3⟩:=joustlaw30_LimitsBest.mono_l k;refine ⟨?_,?_,?_,?_⟩
  ·intro y0 y1 y2 y3 y4 y5 y6
   unfold joustlaw30_LimitsBest.j0
   repeat' first
   | (with_reducible exact ih0 _ _ _ _ _ _ _)
   | (with_reducible exact ih1 _ _ _ _ _ _ _ _)
   | (with_reducible exact ih2 _ _ _ _ _ _ _ _ _)
   | (with_reducible exact ih3 _ _ _ _ _ _)
   | (with_reducible exact joustlaw30_in.mono _ _ _ _)
   | (with_reducible exact joustlaw30_lives.mono _)
   | (with_reducible exact limits_Best.mono _ _ _ _ _ _ _)
   | (with_reducible exact limits_Check.mono _ _ _ _ _ _ _)
   | (with_reducible exact limits_May.mono _ _ _ _ _)
   | (with_reducible exact LeO.refl _)
   | (with_reducible exact LeO.none _)
   | (with_reducible refine LeO.ite ?_ ?_)
   | (with_reducible refine LeO.bind ?_ (fun _ => ?_))
   | exact ih0 _ _ _ _ _ _ _
   | exact ih1 _ _ _ _ _ _ _ _
   | exact ih2 _ _ _ _ _ _ _ _ _
   | exact ih3 _ _ _ _ _ _
   | exact joustlaw30_in.mono _ _ _ _
   | exact joustlaw30_lives.mono _
   | exact limits_Best.mono _ _ _ _ _ _ _
   | exact limits_Check.mono _ _ _ _ _ _ _
   | exact limits_May.mono _ _ _ _ _
   | exact LeO.none _
   | refine LeO.ite ?_ ?_
   | refine LeO.bind ?_ (fun _ => ?_)
  ·intro y0 y1 y2 y3 y4 y5 y6 y7
   unfold joustlaw30_LimitsBest.j1
   repeat' first
   | (with_reducible exact ih0 _ _ _ _ _ _ _)
   | (with_reducible exact ih1 _ _ _ _ _ _ _ _)
   | (with_reducible exact ih2 _ _ _ _ _ _ _ _ _)
   | (with_reducible exact ih3 _ _ _ _ _ _)
   | (with_reducible exact joustlaw30_in.mono _ _ _ _)
   | (with_reducible exact joustlaw30_lives.mono _)
   | (with_reducible exact limits_Best.mono _ _ _ _ _ _ _)
   | (with_reducible exact limits_Check.mono _ _ _ _ _ _ _)
   | (with_reducible exact limits_May.mono _ _ _ _ _)
   | (with_reducible exact LeO.refl _)
   | (with_reducible exact LeO.none _)
   | (with_reducible refine LeO.ite ?_ ?_)
   | (with_reducible refine LeO.bind ?_ (fun _ => ?_))
   | exact ih0 _ _ _ _ _ _ _
   | exact ih1 _ _ _ _ _ _ _ _
   | exact ih2 _ _ _ _ _ _ _ _ _
   | exact ih3 _ _ _ _ _ _
   | exact joustlaw30_in.mono _ _ _ _
   | exact joustlaw30_lives.mono _
   | exact limits_Best.mono _ _ _ _ _ _ _
   | exact limits_Check.mono _ _ _ _ _ _ _
   | exact limits_May.mono _ _ _ _ _
   | exact LeO.none _
   | refine LeO.ite ?_ ?_
   | refine LeO.bind ?_ (fun _ => ?_)
  ·intro y0 y1 y2 y3 y4 y5 y6 y7 y8
   unfold joustlaw30_LimitsBest.l0
   repeat' first
   | (with_reducible exact ih0 _ _ _ _ _ _ _)
   | (with_reducible exact ih1 _ _ _ _ _ _ _ _)
   | (with_reducible exact ih2 _ _ _ _ _ _ _ _ _)
   | (with_reducible exact ih3 _ _ _ _ _ _)
   | (with_reducible exact joustlaw30_in.mono _ _ _ _)
   | (with_reducible exact joustlaw30_lives.mono _)
   | (with_reducible exact limits_Best.mono _ _ _ _ _ _ _)
   | (with_reducible exact limits_Check.mono _ _ _ _ _ _ _)
   | (with_reducible exact limits_May.mono _ _ _ _ _)
   | (with_reducible exact LeO.refl _)
   | (with_reducible exact LeO.none _)
   | (with_reducible refine LeO.ite ?_ ?_)
   | (with_reducible refine LeO.bind ?_ (fun _ => ?_))
   | exact ih0 _ _ _ _ _ _ _
   | exact ih1 _ _ _ _ _ _ _ _
   | exact ih2 _ _ _ _ _ _ _ _ _
   | exact ih3 _ _ _ _ _ _
   | exact joustlaw30_in.mono _ _ _ _
   | exact joustlaw30_lives.mono _
   | exact limits_Best.mono _ _ _ _ _ _ _
   | exact limits_Check.mono _ _ _ _ _ _ _
   | exact limits_May.mono _ _ _ _ _
   | exact LeO.none _
   | refine LeO.ite ?_ ?_
   | refine LeO.bind ?_ (fun _ => ?_)
  ·intro y0 y1 y2 y3 y4 y5
   unfold joustlaw30_LimitsBest.j3
   repeat' first
   | (with_reducible exact ih0 _ _ _ _ _ _ _)
   | (with_reducible exact ih1 _ _ _ _ _ _ _ _)
   | (with_reducible exact ih2 _ _ _ _ _ _ _ _ _)
   | (with_reducible exact ih3 _ _ _ _ _ _)
   | (with_reducible exact joustlaw30_in.mono _ _ _ _)
   | (with_reducible exact joustlaw30_lives.mono _)
   | (with_reducible exact limits_Best.mono _ _ _ _ _ _ _)
   | (with_reducible exact limits_Check.mono _ _ _ _ _ _ _)
   | (with_reducible exact limits_May.mono _ _ _ _ _)
   | (with_reducible exact LeO.refl _)
   | (with_reducible exact LeO.none _)
   | (with_reducible refine LeO.ite ?_ ?_)
   | (with_reducible refine LeO.bind ?_ (fun _ => ?_))
   | exact ih0 _ _ _ _ _ _ _
   | exact ih1 _ _ _ _ _ _ _ _
   | exact ih2 _ _ _ _ _ _ _ _ _
   | exact ih3 _ _ _ _ _ _
   | exact joustlaw30_in.mono _ _ _ _
   | exact joustlaw30_lives.mono _
   | exact limits_Best.mono _ _ _ _ _ _ _
   | exact limits_Check.mono _ _ _ _ _ _ _
   | exact limits_May.mono _ _ _ _ _
   | exact LeO.none _
   | refine LeO.ite ?_ ?_
   | refine LeO.bind ?_ (fun _ => ?_)
theorem joustlaw30_LimitsBest.mono : ∀ a0 a1 a2 a3 a4 a5 k,LeO (joustlaw30_LimitsBest.f k a0 a1 a2 a3 a4 a5) (joustlaw30_LimitsBest.f (k + 1) a0 a1 a2 a3 a4 a5):=by
 intro a0 a1 a2 a3 a4 a5 k;obtain ⟨ih0,ih1,ih2,ih3⟩:=joustlaw30_LimitsBest.mono_l k
 unfold joustlaw30_LimitsBest.f
 repeat' first
   | (with_reducible exact ih0 _ _ _ _ _ _ _)
   | (with_reducible exact ih1 _ _ _ _ _ _ _ _)
   | (with_reducible exact ih2 _ _ _ _ _ _ _ _ _)
   | (with_reducible exact ih3 _ _ _ _ _ _)
   | (with_reducible exact joustlaw30_in.mono _ _ _ _)
   | (with_reducible exact joustlaw30_lives.mono _)
   | (with_reducible exact limits_Best.mono _ _ _ _ _ _ _)
   | (with_reducible exact limits_Check.mono _ _ _ _ _ _ _)
   | (with_reducible exact limits_May.mono _ _ _ _ _)
   | (with_reducible exact LeO.refl _)
   | (with_reducible exact LeO.none _)
   | (with_reducible refine LeO.ite ?_ ?_)
   | (with_reducible refine LeO.bind ?_ (fun _ => ?_))
   | exact ih0 _ _ _ _ _ _ _
   | exact ih1 _ _ _ _ _ _ _ _
   | exact ih2 _ _ _ _ _ _ _ _ _
   | exact ih3 _ _ _ _ _ _
   | exact joustlaw30_in.mono _ _ _ _
   | exact joustlaw30_lives.mono _
   | exact limits_Best.mono _ _ _ _ _ _ _
   | exact limits_Check.mono _ _ _ _ _ _ _
   | exact limits_May.mono _ _ _ _ _
   | exact LeO.none _
   | refine LeO.ite ?_ ?_
   | refine LeO.bind ?_ (fun _ => ?_)
def joustlaw30_LimitsBest.T4 : Bool × List (List Nat × List Nat):=(true,[([],[]),([],[]),([],[]),([],[]),([2,3],[2,3]),([4],[4]),([5],[5]),([0,1,6],[0,1,6]),([7,7,0,1,2,3,4,5,6,7],[7])])
def joustlaw30_LimitsBest.B4 : List Nat:=[0,0,0,0,12,28,60,127,255]
theorem joustlaw30_LimitsBest.tab4 : rtab .any (opsOf Tryz.f5 4) = joustlaw30_LimitsBest.T4:=by kernel_rfl
theorem joustlaw30_LimitsBest.bits4 : waitsOk joustlaw30_LimitsBest.T4.2 joustlaw30_LimitsBest.B4 = true:=by kernel_rfl
def joustlaw30_LimitsBest.T13 : Bool × List (List Nat × List Nat):=(true,[([],[]),([],[]),([],[]),([],[]),([3],[3]),([2,4],[2,4]),([0,1,5,5],[0,1,5]),([6],[6]),([7],[7]),([7],[7]),([8,6,0,1,2,3,4,5,6,7,8],[8]),([9,10,0,1,2,3,4,5,6,7,8,9,10],[9])])
def joustlaw30_LimitsBest.B13 : List Nat:=[0,0,0,0,8,28,63,127,255,255,511,2047]
theorem joustlaw30_LimitsBest.tab13 : rtab .any (opsOf Tryz.f5 13) = joustlaw30_LimitsBest.T13:=by kernel_rfl
theorem joustlaw30_LimitsBest.bits13 : waitsOk joustlaw30_LimitsBest.T13.2 joustlaw30_LimitsBest.B13 = true:=by kernel_rfl
set_option maxHeartbeats 8000000 in
set_option maxRecDepth 100000 in
theorem joustlaw30_LimitsBest.calls_true (k : Nat) (a0_0 : ByteArray) (a0_1 : Int) (a0_2 : Int) (A0_3 : Option Addr) (c0_3 : Nat) (l0_3 : List (S42)) (A1 : Option Addr) (c1 : Nat) (l1 : List (S47)) (a2 : Int) (w : World) (hr0_3 : Kd.C k42 w A0_3 l0_3.length l0_3) (hc0_3 : l0_3.length ≤ c0_3) (hr1 : Kd.C k47 w A1 l1.length l1) (hc1 : l1.length ≤ c1) (hG : Tabs w) (h : joustlaw30_LimitsBest.f k a0_0 a0_1 a0_2 l0_3 l1 a2 = some true) :
  Calls Tryz.prog 5 #[.agg #[.string a0_0,.int .i64 a0_1,.int .i64 a0_2,.slice A0_3 l0_3.length c0_3],.slice A1 l1.length c1,.int .u8 a2] w fun e w' => e = .returned (.bool true) ∧ Below w.heap.size w w':=by
 have hu24:=Tryz.underlying24;have hu35:=Tryz.underlying35;have HG:=Aside0.mk hG;clear hG;have HR0_3:=Aside0.mk hr0_3;have HC0_3:=Aside0.mk hc0_3;clear hr0_3 hc0_3;have HR1:=Aside0.mk hr1;have HC1:=Aside0.mk hc1;clear hr1 hc1;have HB:=Aside0.mk (Below.refl w.heap.size w);have H : ((joustlaw30_great.f a0_0 a0_1 a0_2 l0_3 l1 ([] : List Int)).bind fun t231 => (if t231 = true then (joustlaw30_LimitsBest.j0 k l1 a2 true a0_0 a0_1 a0_2 l0_3) else ((limits_May.f k a0_0 a0_1 a0_2 l0_3).bind fun t232 => (if t232 = true then (joustlaw30_LimitsBest.j0 k l1 a2 ((l1.length : Int) == 0) a0_0 a0_1 a0_2 l0_3) else (joustlaw30_LimitsBest.j0 k l1 a2 true a0_0 a0_1 a0_2 l0_3))))) = some true:=h;clear h;have HC4:=Aside0.mk H;clear H
 go_enter Tryz.func5,Tryz.ntmps5
 go_upto_region 1 with (first | ((with_reducible refine gate_dst (N:=3) rfl ?_);(try (refine gate_guard (by rfl) ?_;dsimp only));refine box_event ?hg (N:=3) ?hd (cs:=#[.string a0_0,.int .i64 a0_1,.int .i64 a0_2,.slice A0_3 l0_3.length c0_3]) (t:=24) ?hr ?_;(case hd => rfl);(case hg => rfl);(case hr => first | (go_simp;done) | (go_simp;rfl));intro gb230 hg w5 hbox hb;have n0_:=Aside0.mk (below_step (bl0 HB.out) hb);have n1_:=Aside0.mk (hbox);have n2_:=Aside0.mk ((by rw [hg];exact (below_size (bl0 HB.out)) : w.heap.size ≤ gb230));have n3_:=Aside0.mk ((by rw [hg];exact (below_size (bl0 HB.out)) : w.heap.size ≤ gb230));clear HB;have HB:=n0_;have BK230:=n1_;have GW230:=n2_;have GE230:=n3_;clear n0_ n1_ n2_ n3_;clear hb hbox hg))
 (try simp only [Act.put,List.setIfInBounds_toArray,List.set_cons_zero,List.set_cons_succ])
 go_cut [28] (fun v28 wc => ∃ (kq : Nat) (x28_3 : Bool),v28 = .bool x28_3 ∧ Aside0 (joustlaw30_LimitsBest.j0 kq l1 a2 x28_3 a0_0 a0_1 a0_2 l0_3 = some true) ∧ Aside0 (kq ≤ k) ∧ Aside0 (wc.heap[gb230]? = some (.cells #[.string a0_0,.int .i64 a0_1,.int .i64 a0_2,(.slice A0_3 l0_3.length c0_3)] 24 (0,0))) ∧ Aside0 (Below w.heap.size w wc))
 case first =>
  have H:=HC4.out;clear HC4;replace H:=Option.bind_eq_some_iff.mp H;obtain ⟨t231,A60,H⟩:=H;replace H : (if t231 = true then (joustlaw30_LimitsBest.j0 k l1 a2 true a0_0 a0_1 a0_2 l0_3) else ((limits_May.f k a0_0 a0_1 a0_2 l0_3).bind fun t232 => (if t232 = true then (joustlaw30_LimitsBest.j0 k l1 a2 ((l1.length : Int) == 0) a0_0 a0_1 a0_2 l0_3) else (joustlaw30_LimitsBest.j0 k l1 a2 true a0_0 a0_1 a0_2 l0_3)))) = some true:=H;have A6:=Aside0.mk A60;clear A60
  by_cases c7 : t231 = true
  ·subst c7;have H1 : (joustlaw30_LimitsBest.j0 k l1 a2 true a0_0 a0_1 a0_2 l0_3) = some true:=by rw [if_pos rfl] at H;exact H
   clear H;have H:=H1;clear H1;have H':=Aside0.mk H;clear H;have hcz8_0 : w5.cell? ⟨gb230,0,none⟩ = some (.string a0_0):=(blk_cell BK230.out 0).trans rfl;have hcz8_1 : w5.cell? ⟨gb230,1,none⟩ = some (.int .i64 a0_1):=(blk_cell BK230.out 1).trans rfl;have hcz8_2 : w5.cell? ⟨gb230,2,none⟩ = some (.int .i64 a0_2):=(blk_cell BK230.out 2).trans rfl;have hcz8_3 : w5.cell? ⟨gb230,3,none⟩ = some (.slice A0_3 l0_3.length c0_3):=(blk_cell BK230.out 3).trans rfl;have hfz8_0:=blk_frozen BK230.out 0;have hfz8_1:=blk_frozen BK230.out 1;have hfz8_2:=blk_frozen BK230.out 2;have hfz8_3:=blk_frozen BK230.out 3
   go_wp2_with (first | ((with_reducible refine gate_callee (f:=8) rfl ?_);refine goesL_ (some 18) rfl rfl Tryz.func8 (by kernel_rfl) rfl #[.agg #[.string a0_0,.int .i64 a0_1,.int .i64 a0_2,.slice A0_3 l0_3.length c0_3],.slice A1 l1.length c1,.slice none 0 0] rfl (by (try simp only [List.map_toArray,List.map_cons,List.map_nil]);first | done | rfl | (simp only [List.length_drop,List.length_take];rfl)) ?_;(refine (joustlaw30_great.calls a0_0 a0_1 a0_2 _ _ l0_3 _ _ l1 _ _ ([] : List Int) true _ ?side1 ?side2 ?side3 ?side4 ?side5 ?side6 A6.out).mono ?_);(case side1 => repeat (first | exact (Kd.C_below HR0_3.out HB.out) | (with_reducible refine Kd.C_alloc ?_ _) | (with_reducible refine Kd.C_drewN ?_ _) | (with_reducible refine Kd.C_drew ?_)));(case side2 => exact HC0_3.out);(case side3 => repeat (first | exact (Kd.C_below HR1.out HB.out) | (with_reducible refine Kd.C_alloc ?_ _) | (with_reducible refine Kd.C_drewN ?_ _) | (with_reducible refine Kd.C_drew ?_)));(case side4 => exact HC1.out);(case side5 => exact Kd.C_nil _ _);(case side6 => exact Nat.le_refl _);rintro e w9 ⟨rfl,hb⟩;refine ⟨_,rfl,?_⟩;replace BK230:=Aside0.mk (blk_below (g:=gb230) (o:=.cells #[.string a0_0,.int .i64 a0_1,.int .i64 a0_2,.slice A0_3 l0_3.length c0_3] 24 (0,0)) (bk BK230.out) hb);replace HB:=Aside0.mk (below_step (bl1 HB.out GE230.out) hb);(try clear hb);(try clear hk)))
   go_meet
   case rel => exact ⟨_,(true),(by first | rfl | (simp;done) | (simp [*];done)),H',⟨by first | omega | exact Nat.le_refl _⟩,⟨bk BK230.out⟩,⟨bl1 HB.out GE230.out⟩⟩
  ·replace c7:=Bool.eq_false_iff.mpr c7;subst c7;have H1 : ((limits_May.f k a0_0 a0_1 a0_2 l0_3).bind fun t232 => (if t232 = true then (joustlaw30_LimitsBest.j0 k l1 a2 ((l1.length : Int) == 0) a0_0 a0_1 a0_2 l0_3) else (joustlaw30_LimitsBest.j0 k l1 a2 true a0_0 a0_1 a0_2 l0_3))) = some true:=by rw [if_neg (show ¬ (false = true) by decide)] at H;exact H
   clear H;have H:=H1;clear H1;replace H:=Option.bind_eq_some_iff.mp H;obtain ⟨t232,A100,H⟩:=H;replace H : (if t232 = true then (joustlaw30_LimitsBest.j0 k l1 a2 ((l1.length : Int) == 0) a0_0 a0_1 a0_2 l0_3) else (joustlaw30_LimitsBest.j0 k l1 a2 true a0_0 a0_1 a0_2 l0_3)) = some true:=H;have A10:=Aside0.mk A100;clear A100
   by_cases c11 : t232 = true
   ·subst c11;have H1 : (joustlaw30_LimitsBest.j0 k l1 a2 ((l1.length : Int) == 0) a0_0 a0_1 a0_2 l0_3) = some true:=by rw [if_pos rfl] at H;exact H
    clear H;have H:=H1;clear H1;have H':=Aside0.mk H;clear H;have hcz12_0 : w5.cell? ⟨gb230,0,none⟩ = some (.string a0_0):=(blk_cell BK230.out 0).trans rfl;have hcz12_1 : w5.cell? ⟨gb230,1,none⟩ = some (.int .i64 a0_1):=(blk_cell BK230.out 1).trans rfl;have hcz12_2 : w5.cell? ⟨gb230,2,none⟩ = some (.int .i64 a0_2):=(blk_cell BK230.out 2).trans rfl;have hcz12_3 : w5.cell? ⟨gb230,3,none⟩ = some (.slice A0_3 l0_3.length c0_3):=(blk_cell BK230.out 3).trans rfl;have hfz12_0:=blk_frozen BK230.out 0;have hfz12_1:=blk_frozen BK230.out 1;have hfz12_2:=blk_frozen BK230.out 2;have hfz12_3:=blk_frozen BK230.out 3
    go_wp2_with (first | ((with_reducible refine gate_callee (f:=8) rfl ?_);refine goesL_ (some 18) rfl rfl Tryz.func8 (by kernel_rfl) rfl #[.agg #[.string a0_0,.int .i64 a0_1,.int .i64 a0_2,.slice A0_3 l0_3.length c0_3],.slice A1 l1.length c1,.slice none 0 0] rfl (by (try simp only [List.map_toArray,List.map_cons,List.map_nil]);first | done | rfl | (simp only [List.length_drop,List.length_take];rfl)) ?_;(refine (joustlaw30_great.calls a0_0 a0_1 a0_2 _ _ l0_3 _ _ l1 _ _ ([] : List Int) false _ ?side1 ?side2 ?side3 ?side4 ?side5 ?side6 A6.out).mono ?_);(case side1 => repeat (first | exact (Kd.C_below HR0_3.out HB.out) | (with_reducible refine Kd.C_alloc ?_ _) | (with_reducible refine Kd.C_drewN ?_ _) | (with_reducible refine Kd.C_drew ?_)));(case side2 => exact HC0_3.out);(case side3 => repeat (first | exact (Kd.C_below HR1.out HB.out) | (with_reducible refine Kd.C_alloc ?_ _) | (with_reducible refine Kd.C_drewN ?_ _) | (with_reducible refine Kd.C_drew ?_)));(case side4 => exact HC1.out);(case side5 => exact Kd.C_nil _ _);(case side6 => exact Nat.le_refl _);rintro e w13 ⟨rfl,hb⟩;refine ⟨_,rfl,?_⟩;replace BK230:=Aside0.mk (blk_below (g:=gb230) (o:=.cells #[.string a0_0,.int .i64 a0_1,.int .i64 a0_2,.slice A0_3 l0_3.length c0_3] 24 (0,0)) (bk BK230.out) hb);replace HB:=Aside0.mk (below_step (bl1 HB.out GE230.out) hb);(try clear hb);(try clear hk);have hcz14_0 : w13.cell? ⟨gb230,0,none⟩ = some (.string a0_0):=(blk_cell BK230.out 0).trans rfl;have hcz14_1 : w13.cell? ⟨gb230,1,none⟩ = some (.int .i64 a0_1):=(blk_cell BK230.out 1).trans rfl;have hcz14_2 : w13.cell? ⟨gb230,2,none⟩ = some (.int .i64 a0_2):=(blk_cell BK230.out 2).trans rfl;have hcz14_3 : w13.cell? ⟨gb230,3,none⟩ = some (.slice A0_3 l0_3.length c0_3):=(blk_cell BK230.out 3).trans rfl;have hfz14_0:=blk_frozen BK230.out 0;have hfz14_1:=blk_frozen BK230.out 1;have hfz14_2:=blk_frozen BK230.out 2;have hfz14_3:=blk_frozen BK230.out 3) | (go_at_call 14;(with_reducible refine (limits_May.calls k a0_0 a0_1 a0_2 _ _ l0_3 true _ ?side1 ?side2 ?side3 A10.out).mono ?_);(case side1 => repeat (first | exact (Kd.C_below HR0_3.out HB.out) | (with_reducible refine Kd.C_alloc ?_ _) | (with_reducible refine Kd.C_drewN ?_ _) | (with_reducible refine Kd.C_drew ?_)));(case side2 => exact HC0_3.out);(case side3 => exact Tabs.below HG.out (bl1 HB.out GE230.out));rintro e w15 ⟨rfl,hb⟩;replace BK230:=Aside0.mk (blk_below (g:=gb230) (o:=.cells #[.string a0_0,.int .i64 a0_1,.int .i64 a0_2,.slice A0_3 l0_3.length c0_3] 24 (0,0)) (bk BK230.out) hb);replace HB:=Aside0.mk (below_step (bl1 HB.out GE230.out) hb);(try clear hb);(try clear hk)))
    go_meet
    case rel => exact ⟨_,(((l1.length : Int) == 0)),(by first | rfl | (simp;done) | (simp [*];done)),H',⟨by first | omega | exact Nat.le_refl _⟩,⟨bk BK230.out⟩,⟨bl1 HB.out GE230.out⟩⟩
   ·replace c11:=Bool.eq_false_iff.mpr c11;subst c11;have H1 : (joustlaw30_LimitsBest.j0 k l1 a2 true a0_0 a0_1 a0_2 l0_3) = some true:=by rw [if_neg (show ¬ (false = true) by decide)] at H;exact H
    clear H;have H:=H1;clear H1;have H':=Aside0.mk H;clear H;have hcz16_0 : w5.cell? ⟨gb230,0,none⟩ = some (.string a0_0):=(blk_cell BK230.out 0).trans rfl;have hcz16_1 : w5.cell? ⟨gb230,1,none⟩ = some (.int .i64 a0_1):=(blk_cell BK230.out 1).trans rfl;have hcz16_2 : w5.cell? ⟨gb230,2,none⟩ = some (.int .i64 a0_2):=(blk_cell BK230.out 2).trans rfl;have hcz16_3 : w5.cell? ⟨gb230,3,none⟩ = some (.slice A0_3 l0_3.length c0_3):=(blk_cell BK230.out 3).trans rfl;have hfz16_0:=blk_frozen BK230.out 0;have hfz16_1:=blk_frozen BK230.out 1;have hfz16_2:=blk_frozen BK230.out 2;have hfz16_3:=blk_frozen BK230.out 3
    go_wp2_with (first | ((with_reducible refine gate_callee (f:=8) rfl ?_);refine goesL_ (some 18) rfl rfl Tryz.func8 (by kernel_rfl) rfl #[.agg #[.string a0_0,.int .i64 a0_1,.int .i64 a0_2,.slice A0_3 l0_3.length c0_3],.slice A1 l1.length c1,.slice none 0 0] rfl (by (try simp only [List.map_toArray,List.map_cons,List.map_nil]);first | done | rfl | (simp only [List.length_drop,List.length_take];rfl)) ?_;(refine (joustlaw30_great.calls a0_0 a0_1 a0_2 _ _ l0_3 _ _ l1 _ _ ([] : List Int) false _ ?side1 ?side2 ?side3 ?side4 ?side5 ?side6 A6.out).mono ?_);(case side1 => repeat (first | exact (Kd.C_below HR0_3.out HB.out) | (with_reducible refine Kd.C_alloc ?_ _) | (with_reducible refine Kd.C_drewN ?_ _) | (with_reducible refine Kd.C_drew ?_)));(case side2 => exact HC0_3.out);(case side3 => repeat (first | exact (Kd.C_below HR1.out HB.out) | (with_reducible refine Kd.C_alloc ?_ _) | (with_reducible refine Kd.C_drewN ?_ _) | (with_reducible refine Kd.C_drew ?_)));(case side4 => exact HC1.out);(case side5 => exact Kd.C_nil _ _);(case side6 => exact Nat.le_refl _);rintro e w17 ⟨rfl,hb⟩;refine ⟨_,rfl,?_⟩;replace BK230:=Aside0.mk (blk_below (g:=gb230) (o:=.cells #[.string a0_0,.int .i64 a0_1,.int .i64 a0_2,.slice A0_3 l0_3.length c0_3] 24 (0,0)) (bk BK230.out) hb);replace HB:=Aside0.mk (below_step (bl1 HB.out GE230.out) hb);(try clear hb);(try clear hk);have hcz18_0 : w17.cell? ⟨gb230,0,none⟩ = some (.string a0_0):=(blk_cell BK230.out 0).trans rfl;have hcz18_1 : w17.cell? ⟨gb230,1,none⟩ = some (.int .i64 a0_1):=(blk_cell BK230.out 1).trans rfl;have hcz18_2 : w17.cell? ⟨gb230,2,none⟩ = some (.int .i64 a0_2):=(blk_cell BK230.out 2).trans rfl;have hcz18_3 : w17.cell? ⟨gb230,3,none⟩ = some (.slice A0_3 l0_3.length c0_3):=(blk_cell BK230.out 3).trans rfl;have hfz18_0:=blk_frozen BK230.out 0;have hfz18_1:=blk_frozen BK230.out 1;have hfz18_2:=blk_frozen BK230.out 2;have hfz18_3:=blk_frozen BK230.out 3) | (go_at_call 14;(with_reducible refine (limits_May.calls k a0_0 a0_1 a0_2 _ _ l0_3 false _ ?side1 ?side2 ?side3 A10.out).mono ?_);(case side1 => repeat (first | exact (Kd.C_below HR0_3.out HB.out) | (with_reducible refine Kd.C_alloc ?_ _) | (with_reducible refine Kd.C_drewN ?_ _) | (with_reducible refine Kd.C_drew ?_)));(case side2 => exact HC0_3.out);(case side3 => exact Tabs.below HG.out (bl1 HB.out GE230.out));rintro e w19 ⟨rfl,hb⟩;replace BK230:=Aside0.mk (blk_below (g:=gb230) (o:=.cells #[.string a0_0,.int .i64 a0_1,.int .i64 a0_2,.slice A0_3 l0_3.length c0_3] 24 (0,0)) (bk BK230.out) hb);replace HB:=Aside0.mk (below_step (bl1 HB.out GE230.out) hb);(try clear hb);(try clear hk)))
    go_meet
    case rel => exact ⟨_,(true),(by first | rfl | (simp;done) | (simp [*];done)),H',⟨by first | omega | exact Nat.le_refl _⟩,⟨bk BK230.out⟩,⟨bl1 HB.out GE230.out⟩⟩
 case rest =>
  clear HC4
  try clear c1
  try clear p2
  try clear c5
  try clear c7
  try clear c8
  try clear c11
  try clear hcz12_0
  try clear hcz12_1
  try clear hcz12_2
  try clear hcz12_3
  try clear hcz14_0
  try clear hcz14_1
  try clear hcz14_2
  try clear hcz14_3
  try clear hcz16_0
  try clear hcz16_1
  try clear hcz16_2
  try clear hcz16_3
  try clear hcz18_0
  try clear hcz18_1
  try clear hcz18_2
  try clear hcz18_3
  try clear hcz8_0
  try clear hcz8_1
  try clear hcz8_2
  try clear hcz8_3
  try clear hfz12_0
  try clear hfz12_1
  try clear hfz12_2
  try clear hfz12_3
  try clear hfz14_0
  try clear hfz14_1
  try clear hfz14_2
  try clear hfz14_3
  try clear hfz16_0
  try clear hfz16_1
  try clear hfz16_2
  try clear hfz16_3
  try clear hfz18_0
  try clear hfz18_1
  try clear hfz18_2
  try clear hfz18_3
  try clear hfz8_0
  try clear hfz8_1
  try clear hfz8_2
  try clear hfz8_3
  obtain ⟨kq,x28_3,rfl,HA,HJ3,BK230,HB⟩:=hcut
  cases kq with
  | zero => exact absurd HA.out (by simp [joustlaw30_LimitsBest.j0])
  | succ kj3 =>
   have H:=HA.out;clear HA;simp only [joustlaw30_LimitsBest.j0] at H
   by_cases c20 : x28_3 = true
   ·subst c20;have H1 : ((joustlaw30_lives.f kj3).bind fun t233 => (some t233)) = some true:=by rw [if_pos rfl] at H;exact H
    clear H;have H:=H1;clear H1;replace H:=Option.bind_eq_some_iff.mp H;obtain ⟨t233,A210,H⟩:=H;replace H : (some t233) = some true:=H;have A21:=Aside0.mk A210;clear A210;have hT_:=Option.some.inj H
    go_wp2_with (first | ((with_reducible refine gate_callee (f:=9) rfl ?_);refine goesL_ (some 29) rfl rfl Tryz.func9 (by kernel_rfl) rfl #[] rfl (by (try simp only [List.map_toArray,List.map_cons,List.map_nil]);first | done | rfl | (simp only [List.length_drop,List.length_take];rfl)) ?_;(with_reducible refine (joustlaw30_lives.calls kj3  t233 _ ?side1 A21.out).mono ?_);(case side1 => exact Tabs.below HG.out (bl1 HB.out GE230.out));rintro e w22 ⟨rfl,hb⟩;refine ⟨_,rfl,?_⟩;replace BK230:=Aside0.mk (blk_below (g:=gb230) (o:=.cells #[.string a0_0,.int .i64 a0_1,.int .i64 a0_2,.slice A0_3 l0_3.length c0_3] 24 (0,0)) (bk BK230.out) hb);replace HB:=Aside0.mk (below_step (bl1 HB.out GE230.out) hb);(try clear hb);(try clear hk)))
    go_ret
    exact ⟨by first | rfl | (simp [errW_none,errW_some] <;> rfl) | (simp [*,errW_none,errW_some] <;> rfl),bl1 HB.out GE230.out⟩
   ·replace c20:=Bool.eq_false_iff.mpr c20;subst c20;have H1 : (if (l1.length : Int) = 0 then (none) else (if 0 ≤ (Int.tmod (wrap64 (a2)) (l1.length : Int)) then (if (Int.tmod (wrap64 (a2)) (l1.length : Int)) < (l1.length : Int) then ((limits_Best.f kj3 a0_0 a0_1 a0_2 l0_3 l1 ((rd_T47 l1 (Int.tmod (wrap64 (a2)) (l1.length : Int))).f0)).bind fun t235 => (if t235 < 0 then (joustlaw30_LimitsBest.j1 kj3 l1 (Int.tmod (wrap64 (a2)) (l1.length : Int)) t235 true a0_0 a0_1 a0_2 l0_3) else (joustlaw30_LimitsBest.j1 kj3 l1 (Int.tmod (wrap64 (a2)) (l1.length : Int)) t235 (decide (t235 > 3)) a0_0 a0_1 a0_2 l0_3))) else (none)) else (none))) = some true:=by rw [if_neg (show ¬ (false = true) by decide)] at H;exact H
    clear H;have H:=H1;clear H1
    by_cases c23 : (l1.length : Int) = 0
    ·rw [if_pos c23] at H;exact absurd H (by simp)
    ·rw [if_neg c23] at H;have c23b0 : ((l1.length : Int) == 0) = false:=beq_eq_false_iff_ne.mpr c23;have c23b1 : ((l1.length : Int) != 0) = true:=bne_iff_ne.mpr c23;have c23b2 : ¬ (l1 = []):=fun h_ => c23 (by rw [h_];rfl)
     obtain ⟨ji24,hji24⟩ : ∃ j_ : Int,(Int.tmod (wrap64 (a2)) (l1.length : Int)) = j_:=⟨_,rfl⟩;replace H : (if 0 ≤ (ji24) then (if (ji24) < (l1.length : Int) then ((limits_Best.f kj3 a0_0 a0_1 a0_2 l0_3 l1 ((rd_T47 l1 (ji24)).f0)).bind fun t235 => (if t235 < 0 then (joustlaw30_LimitsBest.j1 kj3 l1 ji24 t235 true a0_0 a0_1 a0_2 l0_3) else (joustlaw30_LimitsBest.j1 kj3 l1 ji24 t235 (decide (t235 > 3)) a0_0 a0_1 a0_2 l0_3))) else (none)) else (none)) = some true:=by first | (rw [hji24] at H;exact H) | (simp only [hji24] at H ⊢;exact H)
     by_cases c25 : 0 ≤ (ji24)
     ·rw [if_pos c25] at H;have c25b0 : decide (0 ≤ (ji24)) = true:=decide_eq_true c25;clear c25
      by_cases c26 : (ji24) < (l1.length : Int)
      ·rw [if_pos c26] at H;have c26b0 : decide ((ji24) < (l1.length : Int)) = true:=decide_eq_true c26;clear c26;replace H:=Option.bind_eq_some_iff.mp H;obtain ⟨t235,A270,H⟩:=H;replace H : (if t235 < 0 then (joustlaw30_LimitsBest.j1 kj3 l1 ji24 t235 true a0_0 a0_1 a0_2 l0_3) else (joustlaw30_LimitsBest.j1 kj3 l1 ji24 t235 (decide (t235 > 3)) a0_0 a0_1 a0_2 l0_3)) = some true:=H;have A27:=Aside0.mk A270;clear A270;have HC28:=Aside0.mk H;clear H
       try go_wp2
       replace BK230:=Aside0.mk (blk_drew BK230.out);replace HB:=Aside0.mk (below_drew1 HB.out);have p234 : 0 ≤ ((ji24) : Int):=of_decide_eq_true (by first | (with_reducible assumption) | assumption);have q234 : (ji24) < (l1.length : Int):=of_decide_eq_true (by first | (with_reducible assumption) | assumption);obtain ⟨ad234,A234_5,c234_5,e234,hx234_0,hx234_1,hx234_2,hx234_3,hx234_4,hx234_5,hl234_5,hi234_5⟩:=at_T47 HR1.out (ji24) p234 q234;have hw234_5:=hx234_5;have hw234_4:=hx234_4;have hw234_3:=hx234_3;have hw234_2:=hx234_2;have hw234_1:=hx234_1;have hw234_0:=hx234_0
       cases e234
       replace hx234_0:=(HB.out.cell (World.block_lt_of_cell? w _ hx234_0)).trans hx234_0;replace hx234_1:=(HB.out.cell (World.block_lt_of_cell? w _ hx234_1)).trans hx234_1;replace hx234_2:=(HB.out.cell (World.block_lt_of_cell? w _ hx234_2)).trans hx234_2;replace hx234_3:=(HB.out.cell (World.block_lt_of_cell? w _ hx234_3)).trans hx234_3;replace hx234_4:=(HB.out.cell (World.block_lt_of_cell? w _ hx234_4)).trans hx234_4;replace hx234_5:=(HB.out.cell (World.block_lt_of_cell? w _ hx234_5)).trans hx234_5;have HR234_5:=Aside0.mk hi234_5;have HC234_5:=Aside0.mk hl234_5;clear hi234_5 hl234_5;replace p234:=eq_true p234;replace q234:=eq_true q234;refine start_ (n:=9) (S:=fun w' => w'.cell? ⟨gb230,0,none⟩ = some (.string a0_0) ∧ w'.cell? ⟨gb230,1,none⟩ = some (.int .i64 a0_1) ∧ w'.cell? ⟨gb230,2,none⟩ = some (.int .i64 a0_2) ∧ w'.cell? ⟨gb230,3,none⟩ = some (.slice A0_3 l0_3.length c0_3) ∧ w'.cell? (ad234.add (((ji24)).toNat * 6)) = some (.string ((rd_T47 l1 (ji24)).f0)) ∧ w'.cell? ⟨(ad234.add (((ji24)).toNat * 6)).block,(ad234.add (((ji24)).toNat * 6)).off + 1,none⟩ = some (.int .u8 ((rd_T47 l1 (ji24)).f1)) ∧ w'.cell? ⟨(ad234.add (((ji24)).toNat * 6)).block,(ad234.add (((ji24)).toNat * 6)).off + 2,none⟩ = some (.int .i64 ((rd_T47 l1 (ji24)).f2)) ∧ w'.cell? ⟨(ad234.add (((ji24)).toNat * 6)).block,(ad234.add (((ji24)).toNat * 6)).off + 3,none⟩ = some (.int .i64 ((rd_T47 l1 (ji24)).f3)) ∧ w'.cell? ⟨(ad234.add (((ji24)).toNat * 6)).block,(ad234.add (((ji24)).toNat * 6)).off + 4,none⟩ = some (.int .i64 ((rd_T47 l1 (ji24)).f4)) ∧ w'.cell? ⟨(ad234.add (((ji24)).toNat * 6)).block,(ad234.add (((ji24)).toNat * 6)).off + 5,none⟩ = some (.slice A234_5 ((rd_T47 l1 (ji24)).f5).length c234_5)) (ds:=[]) (pm 0 9) (by kernel_rfl) rfl rfl ⟨(blk_cell BK230.out 0).trans rfl,(blk_cell BK230.out 1).trans rfl,(blk_cell BK230.out 2).trans rfl,(blk_cell BK230.out 3).trans rfl,((HB.out.cell (World.block_lt_of_cell? w _ hw234_0)).trans hw234_0),((HB.out.cell (World.block_lt_of_cell? w _ hw234_1)).trans hw234_1),((HB.out.cell (World.block_lt_of_cell? w _ hw234_2)).trans hw234_2),((HB.out.cell (World.block_lt_of_cell? w _ hw234_3)).trans hw234_3),((HB.out.cell (World.block_lt_of_cell? w _ hw234_4)).trans hw234_4),((HB.out.cell (World.block_lt_of_cell? w _ hw234_5)).trans hw234_5)⟩ (fun hHeld => ?_);refine with_tabW joustlaw30_LimitsBest.tab4 joustlaw30_LimitsBest.bits4 (fun HT_ HW_ => ?_);generalize wc.drew = w29 at BK230 HB HR234_5 hx234_0 hx234_1 hx234_2 hx234_3 hx234_4 hx234_5 hHeld ⊢;refine pure_ (i:=1) (N:=some 36) (v:=?_) (a':=?_) #[false,true,false,false,false,false,false,false,false] rfl rfl (any_of HT_.out (by kernel_rfl)) (fun _ _ _ h => h) (Or.inl ⟨by rfl,?_⟩) ?_ ?_;rotate_left
       ·intro w';go_simp;with_reducible rfl
       rotate_left
       ·simp only [Act.put,List.setIfInBounds_toArray,List.set_cons_zero,List.set_cons_succ,i64_w,i32_w];rfl
       refine pure_ (i:=2) (N:=some 37) (v:=?_) (a':=?_) #[false,true,true,false,false,false,false,false,false] rfl rfl (any_of HT_.out (by kernel_rfl)) (fun _ _ _ h => h) (Or.inl ⟨by rfl,?_⟩) ?_ ?_;rotate_left
       ·intro w';go_simp;with_reducible rfl
       rotate_left
       ·simp only [Act.put,List.setIfInBounds_toArray,List.set_cons_zero,List.set_cons_succ,i64_w,i32_w];rfl
       refine pure_ (i:=3) (N:=some 38) (v:=?_) (a':=?_) #[false,true,true,true,false,false,false,false,false] rfl rfl (any_of HT_.out (by kernel_rfl)) (fun _ _ _ h => h) (Or.inl ⟨by rfl,?_⟩) ?_ ?_;rotate_left
       ·intro w';go_simp;with_reducible rfl
       rotate_left
       ·simp only [Act.put,List.setIfInBounds_toArray,List.set_cons_zero,List.set_cons_succ,i64_w,i32_w];rfl
       refine pure_ (i:=4) (N:=some 39) (v:=?_) (a':=?_) #[false,true,true,true,true,false,false,false,false] rfl rfl (any_of HT_.out (by kernel_rfl)) (fun _ _ _ h => h) (Or.inl ⟨by rfl,?_⟩) ?_ ?_;rotate_left
       ·intro w';go_simp;with_reducible rfl
       rotate_left
       ·simp only [Act.put,List.setIfInBounds_toArray,List.set_cons_zero,List.set_cons_succ,i64_w,i32_w];rfl
       refine pure_ (i:=5) (N:=some 40) (v:=?_) (a':=?_) #[false,true,true,true,true,true,false,false,false] rfl rfl (any_of HT_.out (by kernel_rfl)) (fun _ _ _ h => h) (Or.inl ⟨by rfl,?_⟩) ?_ ?_;rotate_left
       ·intro w';go_simp;with_reducible rfl
       rotate_left
       ·simp only [Act.put,List.setIfInBounds_toArray,List.set_cons_zero,List.set_cons_succ,i64_w,i32_w];rfl
       refine take_ (i:=0) (N:=some 35) (v:=?_) (a':=?_) (pm 6 9) rfl rfl (take_ofW HT_.out HW_.out (by kernel_rfl)) (fun _ _ _ h => h) (Or.inl ⟨by rfl,?_⟩) hHeld ?_ ?_;rotate_left
       ·rintro w' ⟨s0,s1,s2,s3,s4,s5,s6,s7,s8,s9⟩;go_simp;with_reducible rfl
       rotate_left
       ·simp only [Act.put,List.setIfInBounds_toArray,List.set_cons_zero,List.set_cons_succ,i64_w,i32_w];rfl
       refine take_ (i:=6) (N:=some 41) (v:=?_) (a':=?_) (pm 7 9) rfl rfl (take_ofW HT_.out HW_.out (by kernel_rfl)) (fun _ _ _ h => h) (Or.inl ⟨by rfl,?_⟩) hHeld ?_ ?_;rotate_left
       ·rintro w' ⟨s0,s1,s2,s3,s4,s5,s6,s7,s8,s9⟩;go_simp;with_reducible rfl
       rotate_left
       ·simp only [Act.put,List.setIfInBounds_toArray,List.set_cons_zero,List.set_cons_succ,i64_w,i32_w];rfl
       refine one_ (i:=7) (N:=some 42) (pm 8 9) rfl rfl (one_of HT_.out (by kernel_rfl)) (by decide) (fun K hK => ?_);refine goes_ Tryz.func15 (by kernel_rfl) rfl #[.agg #[.string a0_0,.int .i64 a0_1,.int .i64 a0_2,.slice A0_3 l0_3.length c0_3],.slice (some ad234) l1.length c1,.string ((rd_T47 l1 (ji24)).f0)] (by rfl) rfl rfl (by (try simp only [List.map_toArray,List.map_cons,List.map_nil]);first | done | (simp only [hji24];rfl) | rfl | (simp only [List.length_drop,List.length_take];rfl)) ?_
       with_reducible refine (limits_Best.calls kj3 a0_0 a0_1 a0_2 _ _ l0_3 _ _ l1 ((rd_T47 l1 (ji24)).f0) t235 _ ?side1 ?side2 ?side3 ?side4 ?side5 A27.out).mono ?_
       (case side1 => repeat (first | exact (Kd.C_below HR0_3.out HB.out) | (with_reducible refine Kd.C_alloc ?_ _) | (with_reducible refine Kd.C_drewN ?_ _) | (with_reducible refine Kd.C_drew ?_)))
       (case side2 => exact HC0_3.out)
       (case side3 => repeat (first | exact (Kd.C_below HR1.out HB.out) | (with_reducible refine Kd.C_alloc ?_ _) | (with_reducible refine Kd.C_drewN ?_ _) | (with_reducible refine Kd.C_drew ?_)))
       (case side4 => exact HC1.out)
       (case side5 => exact Tabs.below HG.out (bl1 HB.out GE230.out))
       rintro e w30 ⟨rfl,hb⟩;refine ⟨_,rfl,?_⟩;replace BK230:=Aside0.mk (blk_below (g:=gb230) (o:=.cells #[.string a0_0,.int .i64 a0_1,.int .i64 a0_2,.slice A0_3 l0_3.length c0_3] 24 (0,0)) (bk BK230.out) hb);replace HB:=Aside0.mk (below_step (bl1 HB.out GE230.out) hb);(try clear hb);(try clear hk);refine hK.out _ _ ⟨(blk_cell BK230.out 0).trans rfl,(blk_cell BK230.out 1).trans rfl,(blk_cell BK230.out 2).trans rfl,(blk_cell BK230.out 3).trans rfl,((HB.out.cell (World.block_lt_of_cell? w _ hw234_0)).trans hw234_0),((HB.out.cell (World.block_lt_of_cell? w _ hw234_1)).trans hw234_1),((HB.out.cell (World.block_lt_of_cell? w _ hw234_2)).trans hw234_2),((HB.out.cell (World.block_lt_of_cell? w _ hw234_3)).trans hw234_3),((HB.out.cell (World.block_lt_of_cell? w _ hw234_4)).trans hw234_4),((HB.out.cell (World.block_lt_of_cell? w _ hw234_5)).trans hw234_5)⟩ (fun hHeld => ?_);clear hK K;refine norm_ (a':=?_) ?_ ?_;rotate_left
       ·show Act.put _ (some 42) _ = _;simp only [Act.put,List.setIfInBounds_toArray,List.set_cons_zero,List.set_cons_succ,i64_w,i32_w];rfl
       refine pure_ (i:=8) (N:=some 8) (v:=?_) (a':=?_) (pm 9 9) rfl rfl (any_of HT_.out (by kernel_rfl)) (fun _ _ _ h => h) (Or.inl ⟨by rfl,?_⟩) ?_ ?_;rotate_left
       ·intro w';go_simp;with_reducible rfl
       rotate_left
       ·simp only [Act.put,List.setIfInBounds_toArray,List.set_cons_zero,List.set_cons_succ,i64_w,i32_w];rfl
       refine done_ (done_of HT_.out (by kernel_rfl)) ?_
       go_upto_region 5 with (fail)
       go_cut [48] (fun v48 wc => ∃ (kq : Nat) (x48_27 : Bool),v48 = .bool x48_27 ∧ Aside0 (joustlaw30_LimitsBest.j1 kq l1 ji24 t235 x48_27 a0_0 a0_1 a0_2 l0_3 = some true) ∧ Aside0 (kq ≤ kj3) ∧ Aside0 (wc.heap[gb230]? = some (.cells #[.string a0_0,.int .i64 a0_1,.int .i64 a0_2,(.slice A0_3 l0_3.length c0_3)] 24 (0,0))) ∧ Aside0 (Below w.heap.size w wc))
       case first =>
        have H:=HC28.out;clear HC28
        by_cases c31 : t235 < 0
        ·rw [if_pos c31] at H;have c31b0 : decide (t235 < 0) = true:=decide_eq_true c31;clear c31
         (first | rw [c31b0] | (simp only [i64_w,i32_w];rw [c31b0]) | skip)
         have H':=Aside0.mk H;clear H
         go_wp2
         go_meet
         case rel => exact ⟨_,(true),(by first | rfl | (simp;done) | (simp [*];done)),H',⟨by have:=HJ3.out;first | omega | exact Nat.le_refl _⟩,⟨bk BK230.out⟩,⟨bl1 HB.out GE230.out⟩⟩
        ·rw [if_neg c31] at H;have c31b0 : decide (t235 < 0) = false:=decide_eq_false c31;clear c31
         (first | rw [c31b0] | (simp only [i64_w,i32_w];rw [c31b0]) | skip)
         have H':=Aside0.mk H;clear H
         go_wp2
         go_meet
         case rel => exact ⟨_,(decide (t235 > 3)),(by first | rfl | (simp;done) | (simp [*];done)),H',⟨by have:=HJ3.out;first | omega | exact Nat.le_refl _⟩,⟨bk BK230.out⟩,⟨bl1 HB.out GE230.out⟩⟩
       case rest =>
        clear HC28
        try clear c1
        try clear c2
        try clear p2
        try clear q2
        try clear hx2
        try clear c3
        try clear c5
        try clear p6
        try clear c7
        try clear c8
        try clear c9
        try clear c11
        try clear c15
        try clear c20
        try clear c23
        try clear c23b0
        try clear c23b1
        try clear c23b2
        try clear p23
        try clear q23
        try clear hx23
        try clear c25
        try clear c25b0
        try clear c26
        try clear c26b0
        try clear c31
        try clear c31b0
        try clear hcz12_0
        try clear hcz12_1
        try clear hcz12_2
        try clear hcz12_3
        try clear hcz14_0
        try clear hcz14_1
        try clear hcz14_2
        try clear hcz14_3
        try clear hcz16_0
        try clear hcz16_1
        try clear hcz16_2
        try clear hcz16_3
        try clear hcz18_0
        try clear hcz18_1
        try clear hcz18_2
        try clear hcz18_3
        try clear hcz8_0
        try clear hcz8_1
        try clear hcz8_2
        try clear hcz8_3
        try clear hfz12_0
        try clear hfz12_1
        try clear hfz12_2
        try clear hfz12_3
        try clear hfz14_0
        try clear hfz14_1
        try clear hfz14_2
        try clear hfz14_3
        try clear hfz16_0
        try clear hfz16_1
        try clear hfz16_2
        try clear hfz16_3
        try clear hfz18_0
        try clear hfz18_1
        try clear hfz18_2
        try clear hfz18_3
        try clear hfz8_0
        try clear hfz8_1
        try clear hfz8_2
        try clear hfz8_3
        try clear hx234_0
        try clear hx234_1
        try clear hx234_2
        try clear hx234_3
        try clear hx234_4
        try clear hx234_5
        try clear p2
        try clear p234
        try clear q234
        obtain ⟨kq,x48_27,rfl,HA,HJ27,BK230,HB⟩:=hcut
        cases kq with
        | zero => exact absurd HA.out (by simp [joustlaw30_LimitsBest.j1])
        | succ kj27 =>
         have H:=HA.out;clear HA;simp only [joustlaw30_LimitsBest.j1] at H
         by_cases c32 : x48_27 = true
         ·subst c32;have H1 : (some false) = some true:=by rw [if_pos rfl] at H;exact H
          clear H;have H:=H1;clear H1;exact absurd H (by simp)
         ·replace c32:=Bool.eq_false_iff.mpr c32;subst c32;have H1 : (joustlaw30_LimitsBest.l0 kj27 l1 ji24 ([] : List Int) t235 0 a0_0 a0_1 a0_2 l0_3) = some true:=by rw [if_neg (show ¬ (false = true) by decide)] at H;exact H
          clear H;have H:=H1;clear H1;have H':=Aside0.mk H;clear H
          go_wp2
          (try simp only [Act.put,List.setIfInBounds_toArray,List.set_cons_zero,List.set_cons_succ])
          go_loopg [9,50] kj27 (fun kq v9 v50 w' => ∃ (x9_3 : List Int) (x50_3 : Int),v50 = .int .i64 x50_3 ∧ Aside0 (joustlaw30_LimitsBest.l0 kq l1 ji24 x9_3 t235 x50_3 a0_0 a0_1 a0_2 l0_3 = some true) ∧ Aside0 (kq ≤ kj27) ∧ Aside0 (Kd.R (Kd.int .i64) 3 w' w.heap.size (fun _ => True) v9 x9_3) ∧ Aside0 (w'.heap[gb230]? = some (.cells #[.string a0_0,.int .i64 a0_1,.int .i64 a0_2,(.slice A0_3 l0_3.length c0_3)] 24 (0,0))) ∧ Aside0 (Below w.heap.size w w'))
          case atStart => exact ⟨(([] : List Int)),(0),(by first | rfl | (simp;done) | (simp [*];done)),H',⟨Nat.le_refl _⟩,⟨by first | exact Kd.R_nil _ _ _ _ _ | exact Kd.N_nil _ _ _ _ _ | exact Kd.V_nil _ _ _ _ _ | exact Kd.Q_nil _ _ _ _ _ | exact Kd.S_nil _ _ _ _ _⟩,⟨bk BK230.out⟩,⟨bl1 HB.out GE230.out⟩⟩
          case round =>
           clear H'
           try clear c1
           try clear c2
           try clear p2
           try clear q2
           try clear hx2
           try clear c3
           try clear c5
           try clear p6
           try clear c7
           try clear c8
           try clear c9
           try clear c11
           try clear c15
           try clear c20
           try clear c23
           try clear c23b0
           try clear c23b1
           try clear c23b2
           try clear p23
           try clear q23
           try clear hx23
           try clear c25
           try clear c25b0
           try clear c26
           try clear c26b0
           try clear c31
           try clear c31b0
           try clear c32
           try clear hcz12_0
           try clear hcz12_1
           try clear hcz12_2
           try clear hcz12_3
           try clear hcz14_0
           try clear hcz14_1
           try clear hcz14_2
           try clear hcz14_3
           try clear hcz16_0
           try clear hcz16_1
           try clear hcz16_2
           try clear hcz16_3
           try clear hcz18_0
           try clear hcz18_1
           try clear hcz18_2
           try clear hcz18_3
           try clear hcz8_0
           try clear hcz8_1
           try clear hcz8_2
           try clear hcz8_3
           try clear hfz12_0
           try clear hfz12_1
           try clear hfz12_2
           try clear hfz12_3
           try clear hfz14_0
           try clear hfz14_1
           try clear hfz14_2
           try clear hfz14_3
           try clear hfz16_0
           try clear hfz16_1
           try clear hfz16_2
           try clear hfz16_3
           try clear hfz18_0
           try clear hfz18_1
           try clear hfz18_2
           try clear hfz18_3
           try clear hfz8_0
           try clear hfz8_1
           try clear hfz8_2
           try clear hfz8_3
           try clear hx234_0
           try clear hx234_1
           try clear hx234_2
           try clear hx234_3
           try clear hx234_4
           try clear hx234_5
           try clear p2
           try clear p23
           try clear p234
           try clear p6
           try clear q2
           try clear q23
           try clear q234
           obtain ⟨x9_3,x50_3,rfl,HA,HK3,HO_9,BK230,HB⟩:=hrel
           cases gk with
           | zero => exact absurd HA.out (by simp [joustlaw30_LimitsBest.l0])
           | succ k3 =>
            have H:=HA.out;clear HA;simp only [joustlaw30_LimitsBest.l0] at H
            by_cases c33 : x50_3 < t235
            ·rw [if_pos c33] at H;have c33b0 : decide (x50_3 < t235) = true:=decide_eq_true c33;clear c33
             by_cases c34 : x9_3.length < 17592186044416
             ·rw [if_pos c34] at H;have LMc34:=Aside0.mk c34;clear c34;obtain ⟨y236,hy236⟩ : ∃ y_ : List Int,y_ = (x9_3 ++ [ji24]):=⟨_,rfl⟩;replace H : (joustlaw30_LimitsBest.l0 k3 l1 ji24 y236 t235 (wrap64 (x50_3 + 1)) a0_0 a0_1 a0_2 l0_3) = some true:=by first | (rw [hy236];with_reducible exact H) | (have H2_:=(Option.bind_some _ _).symm.trans H;rw [hy236];with_reducible exact H2_) | (have H2_:=(Option.bind_some _ _).symm.trans H;with_reducible exact H2_) | with_reducible exact H | (rw [hy236];exact H) | exact H
              have Ny236:=Aside0.mk hy236;clear hy236;have H':=Aside0.mk H;clear H
              go_wp2_with (first | ((with_reducible refine gate_builtin (b:=.append) (xs:=#[.tmp 52,.tmp 54]) rfl ?_);(try (refine gate_guard (by rfl) ?_;dsimp only));at_builtin;refine Kd.R_append (Kd.int .i64) (w0:=w) w.heap.size rfl (.tmp 52) (.tmp 54) 26 3 (.int .i64 0) 8 rfl Tryz.underlying26 info3 rfl (by decide) (by omega) u9 x9_3 ji24 [.int .i64 ji24] (fun _ => True) (fun _ => False) rfl rfl ?aP (fun _ hk => hk.elim) ?aF ?aO ?aB ?aS ?aL ?_;(case aP => exact rfl);(case aB => exact (bl1 HB.out GE230.out));(case aF => exact (fun _ _ => trivial));(case aO => exact (by (with_reducible repeat (first | apply Kd.R_alloc | apply Kd.R_drewN | apply Kd.R_drew));exact HO_9.out));(case aS => exact (below_size (bl1 HB.out GE230.out)));(case aL => have:=LMc34.out;omega);intro v237 w35 ho hb hg hat;rw [← Ny236.out] at ho;have n0_:=Aside0.mk (blk_grown (g:=gb230) (o:=.cells #[.string a0_0,.int .i64 a0_1,.int .i64 a0_2,.slice A0_3 l0_3.length c0_3] 24 (0,0)) (bk BK230.out) hg (Kd.R_ne HO_9.out BK230.out (by decide)));have n1_:=Aside0.mk (hb);have n2_:=Aside0.mk (ho);clear BK230;clear HB;clear HO_9;have BK230:=n0_;have HB:=n1_;have HO238:=n2_;clear n0_ n1_ n2_;clear ho hb hg hat))
              go_roundg k3
              case measure => have:=HJ3.out;have:=HJ27.out;have:=HK3.out;omega
              case rel => exact ⟨(y236),(wrap64 (x50_3 + 1)),(by first | rfl | (simp;done) | (simp [*];done)),H',⟨by have:=HJ3.out;have:=HJ27.out;have:=HK3.out;omega⟩,⟨by (with_reducible repeat (first | apply Kd.R_alloc | apply Kd.R_drewN | apply Kd.R_drew));exact HO238.out⟩,⟨bk BK230.out⟩,⟨bl1 HB.out GE230.out⟩⟩
             ·rw [if_neg c34] at H;exact absurd H (by simp)
            ·rw [if_neg c33] at H;have c33b0 : decide (x50_3 < t235) = false:=decide_eq_false c33;clear c33;replace H:=Option.bind_eq_some_iff.mp H;obtain ⟨⟨t239,t242⟩,A360,H⟩:=H;replace H : (if x9_3.length < 17592186044416 then ((limits_Check.f k3 a0_0 a0_1 a0_2 l0_3 l1 (x9_3 ++ [ji24])).bind fun bt246 => (if t242 = 0 then (if bt246.2 = 0 then ((joustlaw30_in.f k3 t239 1 ji24).bind fun t252 => (if t252 = true then (joustlaw30_LimitsBest.j3 k3 bt246.1 true 1 ji24 3 (-1)) else ((joustlaw30_in.f k3 t239 3 (-1)).bind fun t253 => (joustlaw30_LimitsBest.j3 k3 bt246.1 t253 1 ji24 3 (-1))))) else (joustlaw30_LimitsBest.j3 k3 bt246.1 true 1 ji24 3 (-1))) else (joustlaw30_LimitsBest.j3 k3 bt246.1 true 1 ji24 3 (-1)))) else (none)) = some true:=H;have A36:=Aside0.mk A360;clear A360
             by_cases c37 : x9_3.length < 17592186044416
             ·rw [if_pos c37] at H;have LMc37:=Aside0.mk c37;clear c37;obtain ⟨y243,hy243⟩ : ∃ y_ : List Int,y_ = (x9_3 ++ [ji24]):=⟨_,rfl⟩;replace H : ((limits_Check.f k3 a0_0 a0_1 a0_2 l0_3 l1 y243).bind fun bt246 => (if t242 = 0 then (if bt246.2 = 0 then ((joustlaw30_in.f k3 t239 1 ji24).bind fun t252 => (if t252 = true then (joustlaw30_LimitsBest.j3 k3 bt246.1 true 1 ji24 3 (-1)) else ((joustlaw30_in.f k3 t239 3 (-1)).bind fun t253 => (joustlaw30_LimitsBest.j3 k3 bt246.1 t253 1 ji24 3 (-1))))) else (joustlaw30_LimitsBest.j3 k3 bt246.1 true 1 ji24 3 (-1))) else (joustlaw30_LimitsBest.j3 k3 bt246.1 true 1 ji24 3 (-1)))) = some true:=by first | (rw [hy243];with_reducible exact H) | (have H2_:=(Option.bind_some _ _).symm.trans H;rw [hy243];with_reducible exact H2_) | (have H2_:=(Option.bind_some _ _).symm.trans H;with_reducible exact H2_) | with_reducible exact H | (rw [hy243];exact H) | exact H
              have Ny243:=Aside0.mk hy243;clear hy243;replace H:=Option.bind_eq_some_iff.mp H;obtain ⟨⟨t246,t249⟩,A380,H⟩:=H;replace H : (if t242 = 0 then (if t249 = 0 then ((joustlaw30_in.f k3 t239 1 ji24).bind fun t252 => (if t252 = true then (joustlaw30_LimitsBest.j3 k3 t246 true 1 ji24 3 (-1)) else ((joustlaw30_in.f k3 t239 3 (-1)).bind fun t253 => (joustlaw30_LimitsBest.j3 k3 t246 t253 1 ji24 3 (-1))))) else (joustlaw30_LimitsBest.j3 k3 t246 true 1 ji24 3 (-1))) else (joustlaw30_LimitsBest.j3 k3 t246 true 1 ji24 3 (-1))) = some true:=H;have A38:=Aside0.mk A380;clear A380;have HC39:=Aside0.mk H;clear H;have hcz40_0 : wr.cell? ⟨gb230,0,none⟩ = some (.string a0_0):=(blk_cell BK230.out 0).trans rfl;have hcz40_1 : wr.cell? ⟨gb230,1,none⟩ = some (.int .i64 a0_1):=(blk_cell BK230.out 1).trans rfl;have hcz40_2 : wr.cell? ⟨gb230,2,none⟩ = some (.int .i64 a0_2):=(blk_cell BK230.out 2).trans rfl;have hcz40_3 : wr.cell? ⟨gb230,3,none⟩ = some (.slice A0_3 l0_3.length c0_3):=(blk_cell BK230.out 3).trans rfl;have hfz40_0:=blk_frozen BK230.out 0;have hfz40_1:=blk_frozen BK230.out 1;have hfz40_2:=blk_frozen BK230.out 2;have hfz40_3:=blk_frozen BK230.out 3;obtain ⟨Ao41,co41,eo41⟩:=Kd.R_slice HO_9.out;subst eo41
              try go_wp2_with (first | ((with_reducible refine gate_callee (f:=10) rfl ?_);refine goesL_ (some 61) rfl rfl Tryz.func10 (by kernel_rfl) rfl #[.agg #[.string a0_0,.int .i64 a0_1,.int .i64 a0_2,.slice A0_3 l0_3.length c0_3],.slice (some ad234) l1.length c1,.slice Ao41 x9_3.length co41] rfl (by (try simp only [List.map_toArray,List.map_cons,List.map_nil]);first | done | rfl | (simp only [List.length_drop,List.length_take];rfl)) ?_;(with_reducible refine (limits_Check.calls k3 a0_0 a0_1 a0_2 _ _ l0_3 _ _ l1 _ _ x9_3 t239 t242 _ ?side1 ?side2 ?side3 ?side4 ?side5 ?side6 ?side7 A36.out).mono ?_);(case side1 => repeat (first | exact (Kd.C_below HR0_3.out HB.out) | (with_reducible refine Kd.C_alloc ?_ _) | (with_reducible refine Kd.C_drewN ?_ _) | (with_reducible refine Kd.C_drew ?_)));(case side2 => exact HC0_3.out);(case side3 => repeat (first | exact (Kd.C_below HR1.out HB.out) | (with_reducible refine Kd.C_alloc ?_ _) | (with_reducible refine Kd.C_drewN ?_ _) | (with_reducible refine Kd.C_drew ?_)));(case side4 => exact HC1.out);(case side5 => repeat (first | exact (Kd.R_reads' HO_9.out).2.2 | (with_reducible refine Kd.C_alloc ?_ _) | (with_reducible refine Kd.C_drewN ?_ _) | (with_reducible refine Kd.C_drew ?_)));(case side6 => exact (Kd.R_reads' HO_9.out).2.1);(case side7 => exact Tabs.below HG.out (bl1 HB.out GE230.out));rintro e w42 ⟨v240,rfl,ho0,hb⟩;refine ⟨_,rfl,?_⟩;have n0_:=Aside0.mk (Kd.R_below (by (with_reducible repeat (first | apply Kd.R_alloc | apply Kd.R_drewN | apply Kd.R_drew));exact HO_9.out) hb);have n1_:=Aside0.mk (Kd.R_lower ho0 (below_size (bl1 HB.out GE230.out)));have n2_:=Aside0.mk (blk_below (g:=gb230) (o:=.cells #[.string a0_0,.int .i64 a0_1,.int .i64 a0_2,.slice A0_3 l0_3.length c0_3] 24 (0,0)) (bk BK230.out) hb);have n3_:=Aside0.mk (below_step (bl1 HB.out GE230.out) hb);clear HO_9;clear BK230;clear HB;have HO_9:=n0_;have HO241:=n1_;have BK230:=n2_;have HB:=n3_;clear n0_ n1_ n2_ n3_;(try clear hb);(try clear hk);(try clear ho0)))
              replace HO_9:=Aside0.mk (Kd.R_drew HO_9.out);replace HO241:=Aside0.mk (Kd.R_drew HO241.out);replace BK230:=Aside0.mk (blk_drew BK230.out);replace HB:=Aside0.mk (below_drew1 HB.out);refine start_ (n:=12) (S:=fun w' => w'.cell? ⟨gb230,0,none⟩ = some (.string a0_0) ∧ w'.cell? ⟨gb230,1,none⟩ = some (.int .i64 a0_1) ∧ w'.cell? ⟨gb230,2,none⟩ = some (.int .i64 a0_2) ∧ w'.cell? ⟨gb230,3,none⟩ = some (.slice A0_3 l0_3.length c0_3)) (ds:=[]) (pm 0 12) (by kernel_rfl) rfl rfl ⟨(blk_cell BK230.out 0).trans rfl,(blk_cell BK230.out 1).trans rfl,(blk_cell BK230.out 2).trans rfl,(blk_cell BK230.out 3).trans rfl⟩ (fun hHeld => ?_);refine with_tabW joustlaw30_LimitsBest.tab13 joustlaw30_LimitsBest.bits13 (fun HT_ HW_ => ?_);generalize w42.drew = w43 at HO_9 HO241 BK230 HB hHeld ⊢;refine pure_ (i:=1) (N:=some 66) (v:=?_) (a':=?_) #[false,true,false,false,false,false,false,false,false,false,false,false] rfl rfl (any_of HT_.out (by kernel_rfl)) (fun _ _ _ h => h) (Or.inl ⟨by rfl,?_⟩) ?_ ?_;rotate_left
              ·intro w';go_simp;with_reducible rfl
              rotate_left
              ·simp only [Act.put,List.setIfInBounds_toArray,List.set_cons_zero,List.set_cons_succ,i64_w,i32_w];rfl
              refine pure_ (i:=2) (N:=some 67) (v:=?_) (a':=?_) #[false,true,true,false,false,false,false,false,false,false,false,false] rfl rfl (any_of HT_.out (by kernel_rfl)) (fun _ _ _ h => h) (Or.inl ⟨by rfl,?_⟩) ?_ ?_;rotate_left
              ·intro w';go_simp;with_reducible rfl
              rotate_left
              ·simp only [Act.put,List.setIfInBounds_toArray,List.set_cons_zero,List.set_cons_succ,i64_w,i32_w];rfl
              refine pure_ (i:=3) (N:=some 68) (v:=?_) (a':=?_) #[false,true,true,true,false,false,false,false,false,false,false,false] rfl rfl (any_of HT_.out (by kernel_rfl)) (fun _ _ _ h => h) (Or.inl ⟨by rfl,?_⟩) ?_ ?_;rotate_left
              ·intro w';go_simp;with_reducible rfl
              rotate_left
              ·simp only [Act.put,List.setIfInBounds_toArray,List.set_cons_zero,List.set_cons_succ,i64_w,i32_w];rfl
              refine take_ (i:=0) (N:=some 65) (v:=?_) (a':=?_) (pm 4 12) rfl rfl (take_ofW HT_.out HW_.out (by kernel_rfl)) (fun _ _ _ h => h) (Or.inl ⟨by rfl,?_⟩) hHeld ?_ ?_;rotate_left
              ·rintro w' ⟨s0,s1,s2,s3⟩;go_simp;with_reducible rfl
              rotate_left
              ·simp only [Act.put,List.setIfInBounds_toArray,List.set_cons_zero,List.set_cons_succ,i64_w,i32_w];rfl
              refine one_ (i:=4) (N:=some 69) (pm 5 12) rfl rfl (one_of HT_.out (by kernel_rfl)) (by decide) (fun K hK => ?_);refine value_ (w1:=?_) (v:=?_) (by rfl) rfl ?_ ?_;rotate_left 2
              ·go_simp
               constructor
               ·rfl
               ·rfl
              refine hK.out _ _ ⟨(blk_cell (blk_alloc BK230.out _) 0).trans rfl,(blk_cell (blk_alloc BK230.out _) 1).trans rfl,(blk_cell (blk_alloc BK230.out _) 2).trans rfl,(blk_cell (blk_alloc BK230.out _) 3).trans rfl⟩ (fun hHeld => ?_);clear hK K;refine norm_ (a':=?_) ?_ ?_;rotate_left
              ·show Act.put _ (some 69) _ = _;simp only [Act.put,List.setIfInBounds_toArray,List.set_cons_zero,List.set_cons_succ,i64_w,i32_w];rfl
              refine one_ (i:=5) (N:=some 70) (pm 6 12) rfl rfl (one_of HT_.out (by kernel_rfl)) (by decide) (fun K hK => ?_);refine Kd.R_append_step (Kd.int .i64) (w0:=w) w.heap.size (by rfl) (.tmp 67) (.tmp 69) 26 3 (.int .i64 0) 8 rfl Tryz.underlying26 info3 rfl (by decide) (by omega) (.slice Ao41 x9_3.length co41) x9_3 ji24 [.int .i64 ji24] (fun _ => True) (fun _ => False) rfl rfl ?aP (fun _ hk => hk.elim) ?aF ?aO ?aB ?aS ?aL ?_
              (case aP => exact rfl)
              (case aB => exact (bl1 HB.out GE230.out))
              (case aF => exact (fun _ _ => trivial))
              (case aO => exact (by (with_reducible repeat (first | apply Kd.R_alloc | apply Kd.R_drewN | apply Kd.R_drew));exact HO_9.out))
              (case aS => exact (below_size (bl1 HB.out GE230.out)))
              (case aL => have:=LMc37.out;omega)
              intro v244 w44 ho hb hg hat;rw [← Ny243.out] at ho;have n0_:=Aside0.mk (blk_grown (g:=gb230) (o:=.cells #[.string a0_0,.int .i64 a0_1,.int .i64 a0_2,.slice A0_3 l0_3.length c0_3] 24 (0,0)) (bk BK230.out) hg (Kd.R_ne HO_9.out BK230.out (by decide)));have n1_:=Aside0.mk (Kd.R_over' (by (with_reducible repeat (first | apply Kd.R_alloc | apply Kd.R_drewN | apply Kd.R_drew));exact HO241.out) (Kd.R_typed (by (with_reducible repeat (first | apply Kd.R_alloc | apply Kd.R_drewN | apply Kd.R_drew));exact HO_9.out)) (by decide) hg);have n2_:=Aside0.mk (hb);have n3_:=Aside0.mk (ho);clear BK230;clear HO241;clear HB;clear HO_9;have BK230:=n0_;have HO241:=n1_;have HB:=n2_;have HO245:=n3_;clear n0_ n1_ n2_ n3_;clear ho hb hg hat;obtain ⟨Ao45,co45,eo45⟩:=Kd.R_slice HO245.out
              (first | subst eo45 | (injection eo45 with f1_ f2_ f3_;have f4_:=f1_.symm;have f5_:=f3_.symm;clear f1_ f2_ f3_;subst f4_;subst f5_))
              refine hK.out _ _ ⟨(blk_cell BK230.out 0).trans rfl,(blk_cell BK230.out 1).trans rfl,(blk_cell BK230.out 2).trans rfl,(blk_cell BK230.out 3).trans rfl⟩ (fun hHeld => ?_);clear hK K;refine norm_ (a':=?_) ?_ ?_;rotate_left
              ·show Act.put _ (some 70) _ = _;simp only [Act.put,List.setIfInBounds_toArray,List.set_cons_zero,List.set_cons_succ,i64_w,i32_w];rfl
              refine one_ (i:=6) (N:=some 71) (pm 7 12) rfl rfl (one_of HT_.out (by kernel_rfl)) (by decide) (fun K hK => ?_);refine goes_ Tryz.func10 (by kernel_rfl) rfl #[.agg #[.string a0_0,.int .i64 a0_1,.int .i64 a0_2,.slice A0_3 l0_3.length c0_3],.slice (some ad234) l1.length c1,.slice Ao45 y243.length co45] (by rfl) rfl rfl (by (try simp only [List.map_toArray,List.map_cons,List.map_nil]);first | done | rfl | (simp only [List.length_drop,List.length_take];rfl)) ?_
              with_reducible refine (limits_Check.calls k3 a0_0 a0_1 a0_2 _ _ l0_3 _ _ l1 _ _ y243 t246 t249 _ ?side1 ?side2 ?side3 ?side4 ?side5 ?side6 ?side7 A38.out).mono ?_
              (case side1 => repeat (first | exact (Kd.C_below HR0_3.out HB.out) | (with_reducible refine Kd.C_alloc ?_ _) | (with_reducible refine Kd.C_drewN ?_ _) | (with_reducible refine Kd.C_drew ?_)))
              (case side2 => exact HC0_3.out)
              (case side3 => repeat (first | exact (Kd.C_below HR1.out HB.out) | (with_reducible refine Kd.C_alloc ?_ _) | (with_reducible refine Kd.C_drewN ?_ _) | (with_reducible refine Kd.C_drew ?_)))
              (case side4 => exact HC1.out)
              (case side5 => repeat (first | exact (Kd.R_reads' HO245.out).2.2 | (with_reducible refine Kd.C_alloc ?_ _) | (with_reducible refine Kd.C_drewN ?_ _) | (with_reducible refine Kd.C_drew ?_)))
              (case side6 => exact (Kd.R_reads' HO245.out).2.1)
              (case side7 => exact Tabs.below HG.out (bl1 HB.out GE230.out))
              rintro e w46 ⟨v247,rfl,ho0,hb⟩;refine ⟨_,rfl,?_⟩;have n0_:=Aside0.mk (Kd.R_elder' (by (with_reducible repeat (first | apply Kd.R_alloc | apply Kd.R_drewN | apply Kd.R_drew));exact HO241.out) (Kd.R_base ho0) hb);have n1_:=Aside0.mk (Kd.R_below (by (with_reducible repeat (first | apply Kd.R_alloc | apply Kd.R_drewN | apply Kd.R_drew));exact HO245.out) hb);have n2_:=Aside0.mk (Kd.R_lower (Kd.R_new' ho0 (Kd.R_lt (by (with_reducible repeat (first | apply Kd.R_alloc | apply Kd.R_drewN | apply Kd.R_drew));exact HO241.out))) (below_size (bl1 HB.out GE230.out)));have n3_:=Aside0.mk (blk_below (g:=gb230) (o:=.cells #[.string a0_0,.int .i64 a0_1,.int .i64 a0_2,.slice A0_3 l0_3.length c0_3] 24 (0,0)) (bk BK230.out) hb);have n4_:=Aside0.mk (below_step (bl1 HB.out GE230.out) hb);clear HO241;clear HO245;clear BK230;clear HB;have HO241:=n0_;have HO245:=n1_;have HO248:=n2_;have BK230:=n3_;have HB:=n4_;clear n0_ n1_ n2_ n3_ n4_;(try clear hb);(try clear hk);(try clear ho0);refine hK.out _ _ ⟨(blk_cell BK230.out 0).trans rfl,(blk_cell BK230.out 1).trans rfl,(blk_cell BK230.out 2).trans rfl,(blk_cell BK230.out 3).trans rfl⟩ (fun hHeld => ?_);clear hK K;refine norm_ (a':=?_) ?_ ?_;rotate_left
              ·show Act.put _ (some 71) _ = _;simp only [Act.put,List.setIfInBounds_toArray,List.set_cons_zero,List.set_cons_succ,i64_w,i32_w];rfl
              refine pure_ (i:=7) (N:=some 64) (v:=?_) (a':=?_) (pm 8 12) rfl rfl (any_of HT_.out (by kernel_rfl)) (fun _ _ _ h => h) (Or.inl ⟨by rfl,?_⟩) ?_ ?_;rotate_left
              ·intro w';go_simp;with_reducible rfl
              rotate_left
              ·simp only [Act.put,List.setIfInBounds_toArray,List.set_cons_zero,List.set_cons_succ,i64_w,i32_w];rfl
              refine pure_ (i:=8) (N:=some 72) (v:=?_) (a':=?_) (pm 9 12) rfl rfl (any_of HT_.out (by kernel_rfl)) (fun _ _ _ h => h) (Or.inl ⟨by rfl,?_⟩) ?_ ?_;rotate_left
              ·intro w';go_simp;with_reducible rfl
              rotate_left
              ·simp only [Act.put,List.setIfInBounds_toArray,List.set_cons_zero,List.set_cons_succ,i64_w,i32_w];rfl
              refine pure_ (i:=9) (N:=some 73) (v:=?_) (a':=?_) (pm 10 12) rfl rfl (any_of HT_.out (by kernel_rfl)) (fun _ _ _ h => h) (Or.inl ⟨by rfl,?_⟩) ?_ ?_;rotate_left
              ·intro w';go_simp;with_reducible rfl
              rotate_left
              ·simp only [Act.put,List.setIfInBounds_toArray,List.set_cons_zero,List.set_cons_succ,i64_w,i32_w];rfl
              refine pure_ (i:=10) (N:=some 12) (v:=?_) (a':=?_) (pm 11 12) rfl rfl (any_of HT_.out (by kernel_rfl)) (fun _ _ _ h => h) (Or.inl ⟨by rfl,?_⟩) ?_ ?_;rotate_left
              ·intro w';go_simp;with_reducible rfl
              rotate_left
              ·simp only [Act.put,List.setIfInBounds_toArray,List.set_cons_zero,List.set_cons_succ,i64_w,i32_w];rfl
              refine pure_ (i:=11) (N:=some 13) (v:=?_) (a':=?_) (pm 12 12) rfl rfl (any_of HT_.out (by kernel_rfl)) (fun _ _ _ h => h) (Or.inl ⟨by rfl,?_⟩) ?_ ?_;rotate_left
              ·intro w';go_simp;with_reducible rfl
              rotate_left
              ·simp only [Act.put,List.setIfInBounds_toArray,List.set_cons_zero,List.set_cons_succ,i64_w,i32_w];rfl
              refine done_ (done_of HT_.out (by kernel_rfl)) ?_
              go_upto_region 15 with (first | ((with_reducible refine gate_dst (N:=14) rfl ?_);(try (refine gate_guard (by rfl) ?_;dsimp only));refine box_event ?hg (N:=14) ?hd (cs:=#[.int .u8 0,.int .i64 0]) (t:=35) ?hr ?_;(case hd => rfl);(case hg => rfl);(case hr => first | (go_simp;done) | (go_simp;rfl));intro gb250 hg w47 hbox hb;have n0_:=Aside0.mk (Kd.R_below (Kd.R_elderB (by (with_reducible repeat (first | apply Kd.R_alloc | apply Kd.R_drewN | apply Kd.R_drew));exact HO241.out) gb250 (Nat.le_of_eq hg.symm)) hb);have n1_:=Aside0.mk (Kd.R_below (by (with_reducible repeat (first | apply Kd.R_alloc | apply Kd.R_drewN | apply Kd.R_drew));exact HO245.out) hb);have n2_:=Aside0.mk (Kd.R_below (Kd.R_elderB (by (with_reducible repeat (first | apply Kd.R_alloc | apply Kd.R_drewN | apply Kd.R_drew));exact HO248.out) gb250 (Nat.le_of_eq hg.symm)) hb);have n3_:=Aside0.mk (blk_below (g:=gb230) (o:=.cells #[.string a0_0,.int .i64 a0_1,.int .i64 a0_2,.slice A0_3 l0_3.length c0_3] 24 (0,0)) (bk BK230.out) hb);have n4_:=Aside0.mk (below_step (bl1 HB.out GE230.out) hb);have n5_:=Aside0.mk (hbox);have n6_:=Aside0.mk ((by rw [hg];exact (below_size (bl1 HB.out GE230.out)) : w.heap.size ≤ gb250));have n7_:=Aside0.mk ((by rw [hg];exact (below_size (bl1 HB.out GE230.out)) : w.heap.size ≤ gb250));have n8_:=Aside0.mk ((by rw [hg];exact Nat.ne_of_lt (blk_lt (g:=gb230) (o:=.cells #[.string a0_0,.int .i64 a0_1,.int .i64 a0_2,.slice A0_3 l0_3.length c0_3] 24 (0,0)) (bk BK230.out)) : gb230 ≠ gb250));have n9_:=Aside0.mk ((by rw [hg];exact Nat.ne_of_gt (blk_lt (g:=gb230) (o:=.cells #[.string a0_0,.int .i64 a0_1,.int .i64 a0_2,.slice A0_3 l0_3.length c0_3] 24 (0,0)) (bk BK230.out)) : gb250 ≠ gb230));clear HO241;clear HO245;clear HO248;clear BK230;clear HB;have HO241:=n0_;have HO245:=n1_;have HO248:=n2_;have BK230:=n3_;have HB:=n4_;have BK250:=n5_;have GW250:=n6_;have GE250:=n7_;have NB230_250:=n8_;have NB250_230:=n9_;clear n0_ n1_ n2_ n3_ n4_ n5_ n6_ n7_ n8_ n9_;clear hb hbox hg) | ((with_reducible refine gate_dst (N:=15) rfl ?_);(try (refine gate_guard (by rfl) ?_;dsimp only));refine box_event ?hg (N:=15) ?hd (cs:=#[.int .u8 0,.int .i64 0]) (t:=35) ?hr ?_;(case hd => rfl);(case hg => rfl);(case hr => first | (go_simp;done) | (go_simp;rfl));intro gb251 hg w48 hbox hb;have n0_:=Aside0.mk (Kd.R_below (Kd.R_elderB (by (with_reducible repeat (first | apply Kd.R_alloc | apply Kd.R_drewN | apply Kd.R_drew));exact HO241.out) gb251 (Nat.le_of_eq hg.symm)) hb);have n1_:=Aside0.mk (Kd.R_below (by (with_reducible repeat (first | apply Kd.R_alloc | apply Kd.R_drewN | apply Kd.R_drew));exact HO245.out) hb);have n2_:=Aside0.mk (Kd.R_below (Kd.R_elderB (by (with_reducible repeat (first | apply Kd.R_alloc | apply Kd.R_drewN | apply Kd.R_drew));exact HO248.out) gb251 (Nat.le_of_eq hg.symm)) hb);have n3_:=Aside0.mk (blk_below (g:=gb230) (o:=.cells #[.string a0_0,.int .i64 a0_1,.int .i64 a0_2,.slice A0_3 l0_3.length c0_3] 24 (0,0)) (bk BK230.out) hb);have n4_:=Aside0.mk (blk_below (g:=gb250) (o:=.cells #[.int .u8 0,.int .i64 0] 35 (0,0)) (bk BK250.out) hb);have n5_:=Aside0.mk (below_step (bl2 HB.out GE230.out GE250.out) hb);have n6_:=Aside0.mk (hbox);have n7_:=Aside0.mk ((by rw [hg];exact (below_size (bl2 HB.out GE230.out GE250.out)) : w.heap.size ≤ gb251));have n8_:=Aside0.mk ((by rw [hg];exact (below_size (bl2 HB.out GE230.out GE250.out)) : w.heap.size ≤ gb251));have n9_:=Aside0.mk ((by rw [hg];exact Nat.ne_of_lt (blk_lt (g:=gb230) (o:=.cells #[.string a0_0,.int .i64 a0_1,.int .i64 a0_2,.slice A0_3 l0_3.length c0_3] 24 (0,0)) (bk BK230.out)) : gb230 ≠ gb251));have n10_:=Aside0.mk ((by rw [hg];exact Nat.ne_of_gt (blk_lt (g:=gb230) (o:=.cells #[.string a0_0,.int .i64 a0_1,.int .i64 a0_2,.slice A0_3 l0_3.length c0_3] 24 (0,0)) (bk BK230.out)) : gb251 ≠ gb230));have n11_:=Aside0.mk ((by rw [hg];exact Nat.ne_of_lt (blk_lt (g:=gb250) (o:=.cells #[.int .u8 0,.int .i64 0] 35 (0,0)) (bk BK250.out)) : gb250 ≠ gb251));have n12_:=Aside0.mk ((by rw [hg];exact Nat.ne_of_gt (blk_lt (g:=gb250) (o:=.cells #[.int .u8 0,.int .i64 0] 35 (0,0)) (bk BK250.out)) : gb251 ≠ gb250));clear HO241;clear HO245;clear HO248;clear BK230;clear BK250;clear HB;have HO241:=n0_;have HO245:=n1_;have HO248:=n2_;have BK230:=n3_;have BK250:=n4_;have HB:=n5_;have BK251:=n6_;have GW251:=n7_;have GE251:=n8_;have NB230_251:=n9_;have NB251_230:=n10_;have NB250_251:=n11_;have NB251_250:=n12_;clear n0_ n1_ n2_ n3_ n4_ n5_ n6_ n7_ n8_ n9_ n10_ n11_ n12_;clear hb hbox hg;have hnb49:=NB250_230.out;have hnc49:=NB230_250.out;have hnb50:=NB250_251.out;have hnc50:=NB251_250.out;have hcz51_0 : w48.cell? ⟨gb250,0,none⟩ = some (.int .u8 0):=(blk_cell BK250.out 0).trans rfl;have hcz51_1 : w48.cell? ⟨gb250,1,none⟩ = some (.int .i64 0):=(blk_cell BK250.out 1).trans rfl;have hfz51_0:=blk_frozen BK250.out 0;have hfz51_1:=blk_frozen BK250.out 1;have hnb52:=NB251_230.out;have hnc52:=NB230_251.out;have hcz53_0 : w48.cell? ⟨gb251,0,none⟩ = some (.int .u8 0):=(blk_cell BK251.out 0).trans rfl;have hcz53_1 : w48.cell? ⟨gb251,1,none⟩ = some (.int .i64 0):=(blk_cell BK251.out 1).trans rfl;have hfz53_0:=blk_frozen BK251.out 0;have hfz53_1:=blk_frozen BK251.out 1))
              (try simp only [Act.put,List.setIfInBounds_toArray,List.set_cons_zero,List.set_cons_succ])
              go_cut [92] (fun v92 wc => ∃ (kq : Nat) (x92_38 : Bool),v92 = .bool x92_38 ∧ Aside0 (joustlaw30_LimitsBest.j3 kq t246 x92_38 1 ji24 3 (-1) = some true) ∧ Aside0 (kq ≤ k3) ∧ Aside0 (Kd.R k35 35 wc w.heap.size (fun k_ => k_ ≠ gb250 ∧ k_ ≠ gb251) v247 t246) ∧ Aside0 (wc.heap[gb230]? = some (.cells #[.string a0_0,.int .i64 a0_1,.int .i64 a0_2,(.slice A0_3 l0_3.length c0_3)] 24 (0,0))) ∧ Aside0 (wc.heap[gb250]? = some (.cells #[.int .u8 1,.int .i64 ji24] 35 (0,0))) ∧ Aside0 (wc.heap[gb251]? = some (.cells #[.int .u8 3,.int .i64 (-1)] 35 (0,0))) ∧ Aside0 (Below w.heap.size w wc))
              case first =>
               have H:=HC39.out;clear HC39
               by_cases c54 : t242 = 0
               ·rw [if_pos c54] at H;have c54b0 : (t242 == 0) = true:=beq_iff_eq.mpr c54;have c54b1 : (t242 != 0) = false:=bne_eq_false_iff_eq.mpr c54;clear c54
                (first | rw [c54b0] | (simp only [i64_w,i32_w];rw [c54b0]) | skip)
                by_cases c55 : t249 = 0
                ·rw [if_pos c55] at H;have c55b0 : (t249 == 0) = true:=beq_iff_eq.mpr c55;have c55b1 : (t249 != 0) = false:=bne_eq_false_iff_eq.mpr c55;clear c55;replace H:=Option.bind_eq_some_iff.mp H;obtain ⟨t252,A560,H⟩:=H;replace H : (if t252 = true then (joustlaw30_LimitsBest.j3 k3 t246 true 1 ji24 3 (-1)) else ((joustlaw30_in.f k3 t239 3 (-1)).bind fun t253 => (joustlaw30_LimitsBest.j3 k3 t246 t253 1 ji24 3 (-1)))) = some true:=H;have A56:=Aside0.mk A560;clear A560
                 by_cases c57 : t252 = true
                 ·subst c57;have H1 : (joustlaw30_LimitsBest.j3 k3 t246 true 1 ji24 3 (-1)) = some true:=by rw [if_pos rfl] at H;exact H
                  clear H;have H:=H1;clear H1;have H':=Aside0.mk H;clear H;have hnb58:=NB250_230.out;have hnc58:=NB230_250.out;have hnb59:=NB250_251.out;have hnc59:=NB251_250.out;have hcz60_0 : w48.cell? ⟨gb250,0,none⟩ = some (.int .u8 0):=(blk_cell BK250.out 0).trans rfl;have hcz60_1 : w48.cell? ⟨gb250,1,none⟩ = some (.int .i64 0):=(blk_cell BK250.out 1).trans rfl;have hfz60_0:=blk_frozen BK250.out 0;have hfz60_1:=blk_frozen BK250.out 1;obtain ⟨Ao61,co61,eo61⟩:=Kd.R_slice HO241.out;subst eo61
                  go_wp2_with (first | (go_at_call 12;(with_reducible refine (joustlaw30_in.calls k3 _ _ t239 1 ji24 true _ ?side1 ?side2 A56.out).mono ?_);(case side1 => refine (Kd.R_reads' (e:=35) (base:=w.heap.size) (ok:=fun k_ => (((True ∧ some k_ ≠ (v247 : Value).ownBlock) ∧ k_ ≠ gb250) ∧ k_ ≠ gb251)) (n:=t239.length) (c:=co61) ?_).2.2;exact (by (with_reducible repeat (first | apply Kd.R_alloc | apply Kd.R_drewN | apply Kd.R_drew));exact (Kd.R_mono (Kd.R_mono (Kd.R_far (p:=⟨gb251,1,none⟩) (Kd.R_far (p:=⟨gb251,0,none⟩) (Kd.R_far (p:=⟨gb250,1,none⟩) (Kd.R_far (p:=⟨gb250,0,none⟩) (Kd.R_mono (Kd.R_mono HO241.out (fun k_ hk => (⟨hk,hk.1.2⟩ : _ ∧ k_ ≠ gb250))) (fun k_ hk => (⟨hk,hk.1.2⟩ : _ ∧ k_ ≠ gb251))) (fun _ hk => hk.1.2) (.int .u8 1)) (fun _ hk => hk.1.2) (.int .i64 ji24)) (fun _ hk => hk.2) (.int .u8 3)) (fun _ hk => hk.2) (.int .i64 (-1))) (fun _ h_ => h_.1)) (fun _ h_ => h_.1))));(case side2 => exact (Kd.R_reads' HO241.out).2.1);rintro e w62 ⟨rfl,hb⟩;replace HO241:=Aside0.mk (Kd.R_below (by (with_reducible repeat (first | apply Kd.R_alloc | apply Kd.R_drewN | apply Kd.R_drew));exact (Kd.R_mono (Kd.R_mono (Kd.R_far (p:=⟨gb251,1,none⟩) (Kd.R_far (p:=⟨gb251,0,none⟩) (Kd.R_far (p:=⟨gb250,1,none⟩) (Kd.R_far (p:=⟨gb250,0,none⟩) (Kd.R_mono (Kd.R_mono HO241.out (fun k_ hk => (⟨hk,hk.1.2⟩ : _ ∧ k_ ≠ gb250))) (fun k_ hk => (⟨hk,hk.1.2⟩ : _ ∧ k_ ≠ gb251))) (fun _ hk => hk.1.2) (.int .u8 1)) (fun _ hk => hk.1.2) (.int .i64 ji24)) (fun _ hk => hk.2) (.int .u8 3)) (fun _ hk => hk.2) (.int .i64 (-1))) (fun _ h_ => h_.1)) (fun _ h_ => h_.1))) hb);replace HO245:=Aside0.mk (Kd.R_below (by (with_reducible repeat (first | apply Kd.R_alloc | apply Kd.R_drewN | apply Kd.R_drew));exact (Kd.R_mono (Kd.R_mono (Kd.R_far (p:=⟨gb251,1,none⟩) (Kd.R_far (p:=⟨gb251,0,none⟩) (Kd.R_far (p:=⟨gb250,1,none⟩) (Kd.R_far (p:=⟨gb250,0,none⟩) (Kd.R_types (Kd.R_types HO245.out BK250.out (by decide)) BK251.out (by decide)) (fun _ hk => hk.1.2) (.int .u8 1)) (fun _ hk => hk.1.2) (.int .i64 ji24)) (fun _ hk => hk.2) (.int .u8 3)) (fun _ hk => hk.2) (.int .i64 (-1))) (fun _ h_ => h_.1)) (fun _ h_ => h_.1))) hb);replace HO248:=Aside0.mk (Kd.R_below (by (with_reducible repeat (first | apply Kd.R_alloc | apply Kd.R_drewN | apply Kd.R_drew));exact (Kd.R_mono (Kd.R_mono (Kd.R_far (p:=⟨gb251,1,none⟩) (Kd.R_far (p:=⟨gb251,0,none⟩) (Kd.R_far (p:=⟨gb250,1,none⟩) (Kd.R_far (p:=⟨gb250,0,none⟩) (Kd.R_mono (Kd.R_mono HO248.out (fun k_ hk => (⟨hk,hk.1.2⟩ : _ ∧ k_ ≠ gb250))) (fun k_ hk => (⟨hk,hk.1.2⟩ : _ ∧ k_ ≠ gb251))) (fun _ hk => hk.1.2) (.int .u8 1)) (fun _ hk => hk.1.2) (.int .i64 ji24)) (fun _ hk => hk.2) (.int .u8 3)) (fun _ hk => hk.2) (.int .i64 (-1))) (fun _ h_ => h_.1)) (fun _ h_ => h_.1))) hb);replace BK230:=Aside0.mk (blk_below (g:=gb230) (o:=.cells #[.string a0_0,.int .i64 a0_1,.int .i64 a0_2,.slice A0_3 l0_3.length c0_3] 24 (0,0)) (by (with_reducible repeat (first | refine blk_drewN ?_ _ | refine blk_drew ?_ | refine blk_alloc ?_ _));refine blk_far ?_ NB230_251.out _;(with_reducible repeat (first | refine blk_drewN ?_ _ | refine blk_drew ?_ | refine blk_alloc ?_ _));refine blk_far ?_ NB230_251.out _;(with_reducible repeat (first | refine blk_drewN ?_ _ | refine blk_drew ?_ | refine blk_alloc ?_ _));refine blk_far ?_ NB230_250.out _;(with_reducible repeat (first | refine blk_drewN ?_ _ | refine blk_drew ?_ | refine blk_alloc ?_ _));refine blk_far ?_ NB230_250.out _;(with_reducible repeat (first | refine blk_drewN ?_ _ | refine blk_drew ?_ | refine blk_alloc ?_ _));exact BK230.out) hb);replace BK250:=Aside0.mk (blk_below (g:=gb250) (o:=.cells #[.int .u8 1,.int .i64 ji24] 35 (0,0)) (by (with_reducible repeat (first | refine blk_drewN ?_ _ | refine blk_drew ?_ | refine blk_alloc ?_ _));refine blk_far ?_ NB250_251.out _;(with_reducible repeat (first | refine blk_drewN ?_ _ | refine blk_drew ?_ | refine blk_alloc ?_ _));refine blk_far ?_ NB250_251.out _;(with_reducible repeat (first | refine blk_drewN ?_ _ | refine blk_drew ?_ | refine blk_alloc ?_ _));refine blk_put (cs:=#[.int .u8 1,.int .i64 0]) ?_ 1 _ rfl;(with_reducible repeat (first | refine blk_drewN ?_ _ | refine blk_drew ?_ | refine blk_alloc ?_ _));refine blk_put (cs:=#[.int .u8 0,.int .i64 0]) ?_ 0 _ rfl;(with_reducible repeat (first | refine blk_drewN ?_ _ | refine blk_drew ?_ | refine blk_alloc ?_ _));exact BK250.out) hb);replace BK251:=Aside0.mk (blk_below (g:=gb251) (o:=.cells #[.int .u8 3,.int .i64 (-1)] 35 (0,0)) (by (with_reducible repeat (first | refine blk_drewN ?_ _ | refine blk_drew ?_ | refine blk_alloc ?_ _));refine blk_put (cs:=#[.int .u8 3,.int .i64 0]) ?_ 1 _ rfl;(with_reducible repeat (first | refine blk_drewN ?_ _ | refine blk_drew ?_ | refine blk_alloc ?_ _));refine blk_put (cs:=#[.int .u8 0,.int .i64 0]) ?_ 0 _ rfl;(with_reducible repeat (first | refine blk_drewN ?_ _ | refine blk_drew ?_ | refine blk_alloc ?_ _));refine blk_far ?_ NB251_250.out _;(with_reducible repeat (first | refine blk_drewN ?_ _ | refine blk_drew ?_ | refine blk_alloc ?_ _));refine blk_far ?_ NB251_250.out _;(with_reducible repeat (first | refine blk_drewN ?_ _ | refine blk_drew ?_ | refine blk_alloc ?_ _));exact BK251.out) hb);replace HB:=Aside0.mk (below_step (bl3 HB.out GE230.out GE250.out GE251.out) hb);(try clear hb);(try clear hk)))
                  go_meet
                  case rel => exact ⟨_,(true),(by first | rfl | (simp;done) | (simp [*];done)),H',⟨by have:=HJ3.out;have:=HJ27.out;have:=HK3.out;first | omega | exact Nat.le_refl _⟩,⟨by (with_reducible repeat (first | apply Kd.R_alloc | apply Kd.R_drewN | apply Kd.R_drew));exact Kd.R_mono HO248.out (fun _ hk => ⟨hk.1.2,hk.2⟩)⟩,⟨bk BK230.out⟩,⟨bk BK250.out⟩,⟨bk BK251.out⟩,⟨bl3 HB.out GE230.out GE250.out GE251.out⟩⟩
                 ·replace c57:=Bool.eq_false_iff.mpr c57;subst c57;have H1 : ((joustlaw30_in.f k3 t239 3 (-1)).bind fun t253 => (joustlaw30_LimitsBest.j3 k3 t246 t253 1 ji24 3 (-1))) = some true:=by rw [if_neg (show ¬ (false = true) by decide)] at H;exact H
                  clear H;have H:=H1;clear H1;replace H:=Option.bind_eq_some_iff.mp H;obtain ⟨t253,A630,H⟩:=H;replace H : (joustlaw30_LimitsBest.j3 k3 t246 t253 1 ji24 3 (-1)) = some true:=H;have A63:=Aside0.mk A630;clear A630;have H':=Aside0.mk H;clear H;have hnb64:=NB250_230.out;have hnc64:=NB230_250.out;have hnb65:=NB250_251.out;have hnc65:=NB251_250.out;have hcz66_0 : w48.cell? ⟨gb250,0,none⟩ = some (.int .u8 0):=(blk_cell BK250.out 0).trans rfl;have hcz66_1 : w48.cell? ⟨gb250,1,none⟩ = some (.int .i64 0):=(blk_cell BK250.out 1).trans rfl;have hfz66_0:=blk_frozen BK250.out 0;have hfz66_1:=blk_frozen BK250.out 1;obtain ⟨Ao67,co67,eo67⟩:=Kd.R_slice HO241.out;subst eo67
                  go_wp2_with (first | (go_at_call 12;(with_reducible refine (joustlaw30_in.calls k3 _ _ t239 1 ji24 false _ ?side1 ?side2 A56.out).mono ?_);(case side1 => refine (Kd.R_reads' (e:=35) (base:=w.heap.size) (ok:=fun k_ => (((True ∧ some k_ ≠ (v247 : Value).ownBlock) ∧ k_ ≠ gb250) ∧ k_ ≠ gb251)) (n:=t239.length) (c:=co67) ?_).2.2;exact (by (with_reducible repeat (first | apply Kd.R_alloc | apply Kd.R_drewN | apply Kd.R_drew));exact (Kd.R_mono (Kd.R_mono (Kd.R_far (p:=⟨gb251,1,none⟩) (Kd.R_far (p:=⟨gb251,0,none⟩) (Kd.R_far (p:=⟨gb250,1,none⟩) (Kd.R_far (p:=⟨gb250,0,none⟩) (Kd.R_mono (Kd.R_mono HO241.out (fun k_ hk => (⟨hk,hk.1.2⟩ : _ ∧ k_ ≠ gb250))) (fun k_ hk => (⟨hk,hk.1.2⟩ : _ ∧ k_ ≠ gb251))) (fun _ hk => hk.1.2) (.int .u8 1)) (fun _ hk => hk.1.2) (.int .i64 ji24)) (fun _ hk => hk.2) (.int .u8 3)) (fun _ hk => hk.2) (.int .i64 (-1))) (fun _ h_ => h_.1)) (fun _ h_ => h_.1))));(case side2 => exact (Kd.R_reads' HO241.out).2.1);rintro e w68 ⟨rfl,hb⟩;replace HO241:=Aside0.mk (Kd.R_below (by (with_reducible repeat (first | apply Kd.R_alloc | apply Kd.R_drewN | apply Kd.R_drew));exact (Kd.R_mono (Kd.R_mono (Kd.R_far (p:=⟨gb251,1,none⟩) (Kd.R_far (p:=⟨gb251,0,none⟩) (Kd.R_far (p:=⟨gb250,1,none⟩) (Kd.R_far (p:=⟨gb250,0,none⟩) (Kd.R_mono (Kd.R_mono HO241.out (fun k_ hk => (⟨hk,hk.1.2⟩ : _ ∧ k_ ≠ gb250))) (fun k_ hk => (⟨hk,hk.1.2⟩ : _ ∧ k_ ≠ gb251))) (fun _ hk => hk.1.2) (.int .u8 1)) (fun _ hk => hk.1.2) (.int .i64 ji24)) (fun _ hk => hk.2) (.int .u8 3)) (fun _ hk => hk.2) (.int .i64 (-1))) (fun _ h_ => h_.1)) (fun _ h_ => h_.1))) hb);replace HO245:=Aside0.mk (Kd.R_below (by (with_reducible repeat (first | apply Kd.R_alloc | apply Kd.R_drewN | apply Kd.R_drew));exact (Kd.R_mono (Kd.R_mono (Kd.R_far (p:=⟨gb251,1,none⟩) (Kd.R_far (p:=⟨gb251,0,none⟩) (Kd.R_far (p:=⟨gb250,1,none⟩) (Kd.R_far (p:=⟨gb250,0,none⟩) (Kd.R_types (Kd.R_types HO245.out BK250.out (by decide)) BK251.out (by decide)) (fun _ hk => hk.1.2) (.int .u8 1)) (fun _ hk => hk.1.2) (.int .i64 ji24)) (fun _ hk => hk.2) (.int .u8 3)) (fun _ hk => hk.2) (.int .i64 (-1))) (fun _ h_ => h_.1)) (fun _ h_ => h_.1))) hb);replace HO248:=Aside0.mk (Kd.R_below (by (with_reducible repeat (first | apply Kd.R_alloc | apply Kd.R_drewN | apply Kd.R_drew));exact (Kd.R_mono (Kd.R_mono (Kd.R_far (p:=⟨gb251,1,none⟩) (Kd.R_far (p:=⟨gb251,0,none⟩) (Kd.R_far (p:=⟨gb250,1,none⟩) (Kd.R_far (p:=⟨gb250,0,none⟩) (Kd.R_mono (Kd.R_mono HO248.out (fun k_ hk => (⟨hk,hk.1.2⟩ : _ ∧ k_ ≠ gb250))) (fun k_ hk => (⟨hk,hk.1.2⟩ : _ ∧ k_ ≠ gb251))) (fun _ hk => hk.1.2) (.int .u8 1)) (fun _ hk => hk.1.2) (.int .i64 ji24)) (fun _ hk => hk.2) (.int .u8 3)) (fun _ hk => hk.2) (.int .i64 (-1))) (fun _ h_ => h_.1)) (fun _ h_ => h_.1))) hb);replace BK230:=Aside0.mk (blk_below (g:=gb230) (o:=.cells #[.string a0_0,.int .i64 a0_1,.int .i64 a0_2,.slice A0_3 l0_3.length c0_3] 24 (0,0)) (by (with_reducible repeat (first | refine blk_drewN ?_ _ | refine blk_drew ?_ | refine blk_alloc ?_ _));refine blk_far ?_ NB230_251.out _;(with_reducible repeat (first | refine blk_drewN ?_ _ | refine blk_drew ?_ | refine blk_alloc ?_ _));refine blk_far ?_ NB230_251.out _;(with_reducible repeat (first | refine blk_drewN ?_ _ | refine blk_drew ?_ | refine blk_alloc ?_ _));refine blk_far ?_ NB230_250.out _;(with_reducible repeat (first | refine blk_drewN ?_ _ | refine blk_drew ?_ | refine blk_alloc ?_ _));refine blk_far ?_ NB230_250.out _;(with_reducible repeat (first | refine blk_drewN ?_ _ | refine blk_drew ?_ | refine blk_alloc ?_ _));exact BK230.out) hb);replace BK250:=Aside0.mk (blk_below (g:=gb250) (o:=.cells #[.int .u8 1,.int .i64 ji24] 35 (0,0)) (by (with_reducible repeat (first | refine blk_drewN ?_ _ | refine blk_drew ?_ | refine blk_alloc ?_ _));refine blk_far ?_ NB250_251.out _;(with_reducible repeat (first | refine blk_drewN ?_ _ | refine blk_drew ?_ | refine blk_alloc ?_ _));refine blk_far ?_ NB250_251.out _;(with_reducible repeat (first | refine blk_drewN ?_ _ | refine blk_drew ?_ | refine blk_alloc ?_ _));refine blk_put (cs:=#[.int .u8 1,.int .i64 0]) ?_ 1 _ rfl;(with_reducible repeat (first | refine blk_drewN ?_ _ | refine blk_drew ?_ | refine blk_alloc ?_ _));refine blk_put (cs:=#[.int .u8 0,.int .i64 0]) ?_ 0 _ rfl;(with_reducible repeat (first | refine blk_drewN ?_ _ | refine blk_drew ?_ | refine blk_alloc ?_ _));exact BK250.out) hb);replace BK251:=Aside0.mk (blk_below (g:=gb251) (o:=.cells #[.int .u8 3,.int .i64 (-1)] 35 (0,0)) (by (with_reducible repeat (first | refine blk_drewN ?_ _ | refine blk_drew ?_ | refine blk_alloc ?_ _));refine blk_put (cs:=#[.int .u8 3,.int .i64 0]) ?_ 1 _ rfl;(with_reducible repeat (first | refine blk_drewN ?_ _ | refine blk_drew ?_ | refine blk_alloc ?_ _));refine blk_put (cs:=#[.int .u8 0,.int .i64 0]) ?_ 0 _ rfl;(with_reducible repeat (first | refine blk_drewN ?_ _ | refine blk_drew ?_ | refine blk_alloc ?_ _));refine blk_far ?_ NB251_250.out _;(with_reducible repeat (first | refine blk_drewN ?_ _ | refine blk_drew ?_ | refine blk_alloc ?_ _));refine blk_far ?_ NB251_250.out _;(with_reducible repeat (first | refine blk_drewN ?_ _ | refine blk_drew ?_ | refine blk_alloc ?_ _));exact BK251.out) hb);replace HB:=Aside0.mk (below_step (bl3 HB.out GE230.out GE250.out GE251.out) hb);(try clear hb);(try clear hk);have hnb69:=NB251_230.out;have hnc69:=NB230_251.out;have hcz70_0 : w68.cell? ⟨gb251,0,none⟩ = some (.int .u8 3):=(blk_cell BK251.out 0).trans rfl;have hcz70_1 : w68.cell? ⟨gb251,1,none⟩ = some (.int .i64 (-1)):=(blk_cell BK251.out 1).trans rfl;have hfz70_0:=blk_frozen BK251.out 0;have hfz70_1:=blk_frozen BK251.out 1) | (go_at_call 12;(with_reducible refine (joustlaw30_in.calls k3 _ _ t239 3 (-1) t253 _ ?side1 ?side2 A63.out).mono ?_);(case side1 => repeat (first | exact (Kd.R_reads' HO241.out).2.2 | (with_reducible refine Kd.C_alloc ?_ _) | (with_reducible refine Kd.C_drewN ?_ _) | (with_reducible refine Kd.C_drew ?_)));(case side2 => exact (Kd.R_reads' HO241.out).2.1);rintro e w71 ⟨rfl,hb⟩;replace HO241:=Aside0.mk (Kd.R_below (by (with_reducible repeat (first | apply Kd.R_alloc | apply Kd.R_drewN | apply Kd.R_drew));exact HO241.out) hb);replace HO245:=Aside0.mk (Kd.R_below (by (with_reducible repeat (first | apply Kd.R_alloc | apply Kd.R_drewN | apply Kd.R_drew));exact HO245.out) hb);replace HO248:=Aside0.mk (Kd.R_below (by (with_reducible repeat (first | apply Kd.R_alloc | apply Kd.R_drewN | apply Kd.R_drew));exact HO248.out) hb);replace BK230:=Aside0.mk (blk_below (g:=gb230) (o:=.cells #[.string a0_0,.int .i64 a0_1,.int .i64 a0_2,.slice A0_3 l0_3.length c0_3] 24 (0,0)) (bk BK230.out) hb);replace BK250:=Aside0.mk (blk_below (g:=gb250) (o:=.cells #[.int .u8 1,.int .i64 ji24] 35 (0,0)) (bk BK250.out) hb);replace BK251:=Aside0.mk (blk_below (g:=gb251) (o:=.cells #[.int .u8 3,.int .i64 (-1)] 35 (0,0)) (bk BK251.out) hb);replace HB:=Aside0.mk (below_step (bl3 HB.out GE230.out GE250.out GE251.out) hb);(try clear hb);(try clear hk)))
                  go_meet
                  case rel => exact ⟨_,(t253),(by first | rfl | (simp;done) | (simp [*];done)),H',⟨by have:=HJ3.out;have:=HJ27.out;have:=HK3.out;first | omega | exact Nat.le_refl _⟩,⟨by (with_reducible repeat (first | apply Kd.R_alloc | apply Kd.R_drewN | apply Kd.R_drew));exact Kd.R_mono HO248.out (fun _ hk => ⟨hk.1.2,hk.2⟩)⟩,⟨bk BK230.out⟩,⟨bk BK250.out⟩,⟨bk BK251.out⟩,⟨bl3 HB.out GE230.out GE250.out GE251.out⟩⟩
                ·rw [if_neg c55] at H;have c55b0 : (t249 == 0) = false:=beq_eq_false_iff_ne.mpr c55;have c55b1 : (t249 != 0) = true:=bne_iff_ne.mpr c55;have H':=Aside0.mk H;clear H
                 go_wp2
                 go_meet
                 case rel => exact ⟨_,(true),(by first | rfl | (simp;done) | (simp [*];done)),H',⟨by have:=HJ3.out;have:=HJ27.out;have:=HK3.out;first | omega | exact Nat.le_refl _⟩,⟨by (with_reducible repeat (first | apply Kd.R_alloc | apply Kd.R_drewN | apply Kd.R_drew));exact Kd.R_mono (Kd.R_far (p:=⟨gb251,1,none⟩) (Kd.R_far (p:=⟨gb251,0,none⟩) (Kd.R_far (p:=⟨gb250,1,none⟩) (Kd.R_far (p:=⟨gb250,0,none⟩) (Kd.R_mono (Kd.R_mono HO248.out (fun k_ hk => (⟨hk,hk.1.2⟩ : _ ∧ k_ ≠ gb250))) (fun k_ hk => (⟨hk,hk.1.2⟩ : _ ∧ k_ ≠ gb251))) (fun _ hk => hk.1.2) (.int .u8 1)) (fun _ hk => hk.1.2) (.int .i64 ji24)) (fun _ hk => hk.2) (.int .u8 3)) (fun _ hk => hk.2) (.int .i64 (-1))) (fun _ hk => ⟨hk.1.1.1.2,hk.1.1.2⟩)⟩,⟨by (with_reducible repeat (first | refine blk_drewN ?_ _ | refine blk_drew ?_ | refine blk_alloc ?_ _));refine blk_far ?_ NB230_251.out _;(with_reducible repeat (first | refine blk_drewN ?_ _ | refine blk_drew ?_ | refine blk_alloc ?_ _));refine blk_far ?_ NB230_251.out _;(with_reducible repeat (first | refine blk_drewN ?_ _ | refine blk_drew ?_ | refine blk_alloc ?_ _));refine blk_far ?_ NB230_250.out _;(with_reducible repeat (first | refine blk_drewN ?_ _ | refine blk_drew ?_ | refine blk_alloc ?_ _));refine blk_far ?_ NB230_250.out _;(with_reducible repeat (first | refine blk_drewN ?_ _ | refine blk_drew ?_ | refine blk_alloc ?_ _));exact BK230.out⟩,⟨by (with_reducible repeat (first | refine blk_drewN ?_ _ | refine blk_drew ?_ | refine blk_alloc ?_ _));refine blk_far ?_ NB250_251.out _;(with_reducible repeat (first | refine blk_drewN ?_ _ | refine blk_drew ?_ | refine blk_alloc ?_ _));refine blk_far ?_ NB250_251.out _;(with_reducible repeat (first | refine blk_drewN ?_ _ | refine blk_drew ?_ | refine blk_alloc ?_ _));refine blk_put (cs:=#[.int .u8 1,.int .i64 0]) ?_ 1 _ rfl;(with_reducible repeat (first | refine blk_drewN ?_ _ | refine blk_drew ?_ | refine blk_alloc ?_ _));refine blk_put (cs:=#[.int .u8 0,.int .i64 0]) ?_ 0 _ rfl;(with_reducible repeat (first | refine blk_drewN ?_ _ | refine blk_drew ?_ | refine blk_alloc ?_ _));exact BK250.out⟩,⟨by (with_reducible repeat (first | refine blk_drewN ?_ _ | refine blk_drew ?_ | refine blk_alloc ?_ _));refine blk_put (cs:=#[.int .u8 3,.int .i64 0]) ?_ 1 _ rfl;(with_reducible repeat (first | refine blk_drewN ?_ _ | refine blk_drew ?_ | refine blk_alloc ?_ _));refine blk_put (cs:=#[.int .u8 0,.int .i64 0]) ?_ 0 _ rfl;(with_reducible repeat (first | refine blk_drewN ?_ _ | refine blk_drew ?_ | refine blk_alloc ?_ _));refine blk_far ?_ NB251_250.out _;(with_reducible repeat (first | refine blk_drewN ?_ _ | refine blk_drew ?_ | refine blk_alloc ?_ _));refine blk_far ?_ NB251_250.out _;(with_reducible repeat (first | refine blk_drewN ?_ _ | refine blk_drew ?_ | refine blk_alloc ?_ _));exact BK251.out⟩,⟨bl3 HB.out GE230.out GE250.out GE251.out⟩⟩
               ·rw [if_neg c54] at H;have c54b0 : (t242 == 0) = false:=beq_eq_false_iff_ne.mpr c54;have c54b1 : (t242 != 0) = true:=bne_iff_ne.mpr c54
                (first | rw [c54b0] | (simp only [i64_w,i32_w];rw [c54b0]) | skip)
                have H':=Aside0.mk H;clear H
                go_wp2
                go_meet
                case rel => exact ⟨_,(true),(by first | rfl | (simp;done) | (simp [*];done)),H',⟨by have:=HJ3.out;have:=HJ27.out;have:=HK3.out;first | omega | exact Nat.le_refl _⟩,⟨by (with_reducible repeat (first | apply Kd.R_alloc | apply Kd.R_drewN | apply Kd.R_drew));exact Kd.R_mono (Kd.R_far (p:=⟨gb251,1,none⟩) (Kd.R_far (p:=⟨gb251,0,none⟩) (Kd.R_far (p:=⟨gb250,1,none⟩) (Kd.R_far (p:=⟨gb250,0,none⟩) (Kd.R_mono (Kd.R_mono HO248.out (fun k_ hk => (⟨hk,hk.1.2⟩ : _ ∧ k_ ≠ gb250))) (fun k_ hk => (⟨hk,hk.1.2⟩ : _ ∧ k_ ≠ gb251))) (fun _ hk => hk.1.2) (.int .u8 1)) (fun _ hk => hk.1.2) (.int .i64 ji24)) (fun _ hk => hk.2) (.int .u8 3)) (fun _ hk => hk.2) (.int .i64 (-1))) (fun _ hk => ⟨hk.1.1.1.2,hk.1.1.2⟩)⟩,⟨by (with_reducible repeat (first | refine blk_drewN ?_ _ | refine blk_drew ?_ | refine blk_alloc ?_ _));refine blk_far ?_ NB230_251.out _;(with_reducible repeat (first | refine blk_drewN ?_ _ | refine blk_drew ?_ | refine blk_alloc ?_ _));refine blk_far ?_ NB230_251.out _;(with_reducible repeat (first | refine blk_drewN ?_ _ | refine blk_drew ?_ | refine blk_alloc ?_ _));refine blk_far ?_ NB230_250.out _;(with_reducible repeat (first | refine blk_drewN ?_ _ | refine blk_drew ?_ | refine blk_alloc ?_ _));refine blk_far ?_ NB230_250.out _;(with_reducible repeat (first | refine blk_drewN ?_ _ | refine blk_drew ?_ | refine blk_alloc ?_ _));exact BK230.out⟩,⟨by (with_reducible repeat (first | refine blk_drewN ?_ _ | refine blk_drew ?_ | refine blk_alloc ?_ _));refine blk_far ?_ NB250_251.out _;(with_reducible repeat (first | refine blk_drewN ?_ _ | refine blk_drew ?_ | refine blk_alloc ?_ _));refine blk_far ?_ NB250_251.out _;(with_reducible repeat (first | refine blk_drewN ?_ _ | refine blk_drew ?_ | refine blk_alloc ?_ _));refine blk_put (cs:=#[.int .u8 1,.int .i64 0]) ?_ 1 _ rfl;(with_reducible repeat (first | refine blk_drewN ?_ _ | refine blk_drew ?_ | refine blk_alloc ?_ _));refine blk_put (cs:=#[.int .u8 0,.int .i64 0]) ?_ 0 _ rfl;(with_reducible repeat (first | refine blk_drewN ?_ _ | refine blk_drew ?_ | refine blk_alloc ?_ _));exact BK250.out⟩,⟨by (with_reducible repeat (first | refine blk_drewN ?_ _ | refine blk_drew ?_ | refine blk_alloc ?_ _));refine blk_put (cs:=#[.int .u8 3,.int .i64 0]) ?_ 1 _ rfl;(with_reducible repeat (first | refine blk_drewN ?_ _ | refine blk_drew ?_ | refine blk_alloc ?_ _));refine blk_put (cs:=#[.int .u8 0,.int .i64 0]) ?_ 0 _ rfl;(with_reducible repeat (first | refine blk_drewN ?_ _ | refine blk_drew ?_ | refine blk_alloc ?_ _));refine blk_far ?_ NB251_250.out _;(with_reducible repeat (first | refine blk_drewN ?_ _ | refine blk_drew ?_ | refine blk_alloc ?_ _));refine blk_far ?_ NB251_250.out _;(with_reducible repeat (first | refine blk_drewN ?_ _ | refine blk_drew ?_ | refine blk_alloc ?_ _));exact BK251.out⟩,⟨bl3 HB.out GE230.out GE250.out GE251.out⟩⟩
              case rest =>
               clear HC39
               try clear c1
               try clear c2
               try clear p2
               try clear q2
               try clear hx2
               try clear c3
               try clear c4
               try clear c5
               try clear c6
               try clear p6
               try clear c7
               try clear c8
               try clear c9
               try clear c10
               try clear c11
               try clear c15
               try clear c20
               try clear c23
               try clear c23b0
               try clear c23b1
               try clear c23b2
               try clear p23
               try clear q23
               try clear hx23
               try clear c25
               try clear c25b0
               try clear c26
               try clear c26b0
               try clear c31
               try clear c31b0
               try clear c32
               try clear c33
               try clear c33b0
               try clear c34
               try clear c37
               try clear c49
               try clear c50
               try clear c52
               try clear c54
               try clear c54b0
               try clear c54b1
               try clear c55
               try clear c55b0
               try clear c55b1
               try clear c57
               try clear c58
               try clear c59
               try clear c64
               try clear p64
               try clear c65
               try clear c69
               try clear hcz12_0
               try clear hcz12_1
               try clear hcz12_2
               try clear hcz12_3
               try clear hcz14_0
               try clear hcz14_1
               try clear hcz14_2
               try clear hcz14_3
               try clear hcz16_0
               try clear hcz16_1
               try clear hcz16_2
               try clear hcz16_3
               try clear hcz18_0
               try clear hcz18_1
               try clear hcz18_2
               try clear hcz18_3
               try clear hcz40_0
               try clear hcz40_1
               try clear hcz40_2
               try clear hcz40_3
               try clear hcz51_0
               try clear hcz51_1
               try clear hcz53_0
               try clear hcz53_1
               try clear hcz60_0
               try clear hcz60_1
               try clear hcz66_0
               try clear hcz66_1
               try clear hcz70_0
               try clear hcz70_1
               try clear hcz8_0
               try clear hcz8_1
               try clear hcz8_2
               try clear hcz8_3
               try clear hfz12_0
               try clear hfz12_1
               try clear hfz12_2
               try clear hfz12_3
               try clear hfz14_0
               try clear hfz14_1
               try clear hfz14_2
               try clear hfz14_3
               try clear hfz16_0
               try clear hfz16_1
               try clear hfz16_2
               try clear hfz16_3
               try clear hfz18_0
               try clear hfz18_1
               try clear hfz18_2
               try clear hfz18_3
               try clear hfz40_0
               try clear hfz40_1
               try clear hfz40_2
               try clear hfz40_3
               try clear hfz51_0
               try clear hfz51_1
               try clear hfz53_0
               try clear hfz53_1
               try clear hfz60_0
               try clear hfz60_1
               try clear hfz66_0
               try clear hfz66_1
               try clear hfz70_0
               try clear hfz70_1
               try clear hfz8_0
               try clear hfz8_1
               try clear hfz8_2
               try clear hfz8_3
               try clear hx234_0
               try clear hx234_1
               try clear hx234_2
               try clear hx234_3
               try clear hx234_4
               try clear hx234_5
               try clear p2
               try clear p23
               try clear p234
               try clear p6
               try clear q2
               try clear q23
               try clear q234
               obtain ⟨kq,x92_38,rfl,HA,HJ38,HO_12,BK230,BK250,BK251,HB⟩:=hcut
               cases kq with
               | zero => exact absurd HA.out (by simp [joustlaw30_LimitsBest.j3])
               | succ kj38 =>
                have H:=HA.out;clear HA;simp only [joustlaw30_LimitsBest.j3] at H
                by_cases c72 : x92_38 = true
                ·subst c72;have H1 : (some false) = some true:=by rw [if_pos rfl] at H;exact H
                 clear H;have H:=H1;clear H1;exact absurd H (by simp)
                ·replace c72:=Bool.eq_false_iff.mpr c72;subst c72;have H1 : ((joustlaw30_in.f kj38 t246 1 ji24).bind fun t254 => (if t254 = true then ((joustlaw30_lives.f kj38).bind fun t255 => (some t255)) else ((joustlaw30_in.f kj38 t246 3 (-1)).bind fun t256 => (if t256 = true then ((joustlaw30_lives.f kj38).bind fun t257 => (some t257)) else (some false))))) = some true:=by rw [if_neg (show ¬ (false = true) by decide)] at H;exact H
                 clear H;have H:=H1;clear H1;replace H:=Option.bind_eq_some_iff.mp H;obtain ⟨t254,A730,H⟩:=H;replace H : (if t254 = true then ((joustlaw30_lives.f kj38).bind fun t255 => (some t255)) else ((joustlaw30_in.f kj38 t246 3 (-1)).bind fun t256 => (if t256 = true then ((joustlaw30_lives.f kj38).bind fun t257 => (some t257)) else (some false)))) = some true:=H;have A73:=Aside0.mk A730;clear A730
                 by_cases c74 : t254 = true
                 ·subst c74;have H1 : ((joustlaw30_lives.f kj38).bind fun t255 => (some t255)) = some true:=by rw [if_pos rfl] at H;exact H
                  clear H;have H:=H1;clear H1;replace H:=Option.bind_eq_some_iff.mp H;obtain ⟨t255,A750,H⟩:=H;replace H : (some t255) = some true:=H;have A75:=Aside0.mk A750;clear A750;have hT_:=Option.some.inj H;have hnb76:=NB250_230.out;have hnc76:=NB230_250.out;have hnb77:=NB250_251.out;have hnc77:=NB251_250.out;have hcz78_0 : wc.cell? ⟨gb250,0,none⟩ = some (.int .u8 1):=(blk_cell BK250.out 0).trans rfl;have hcz78_1 : wc.cell? ⟨gb250,1,none⟩ = some (.int .i64 ji24):=(blk_cell BK250.out 1).trans rfl;have hfz78_0:=blk_frozen BK250.out 0;have hfz78_1:=blk_frozen BK250.out 1;obtain ⟨Ao79,co79,eo79⟩:=Kd.R_slice HO_12.out;subst eo79
                  go_wp2_with (first | ((with_reducible refine gate_callee (f:=12) rfl ?_);refine goesL_ (some 95) rfl rfl Tryz.func12 (by kernel_rfl) rfl #[.slice Ao79 t246.length co79,.agg #[.int .u8 1,.int .i64 ji24]] rfl (by (try simp only [List.map_toArray,List.map_cons,List.map_nil]);first | done | (simp only [hji24];rfl) | rfl | (simp only [List.length_drop,List.length_take];rfl)) ?_;(with_reducible refine (joustlaw30_in.calls kj38 _ _ t246 1 ji24 true _ ?side1 ?side2 A73.out).mono ?_);(case side1 => repeat (first | exact (Kd.R_reads' HO_12.out).2.2 | (with_reducible refine Kd.C_alloc ?_ _) | (with_reducible refine Kd.C_drewN ?_ _) | (with_reducible refine Kd.C_drew ?_)));(case side2 => exact (Kd.R_reads' HO_12.out).2.1);rintro e w80 ⟨rfl,hb⟩;refine ⟨_,rfl,?_⟩;replace HO_12:=Aside0.mk (Kd.R_below (by (with_reducible repeat (first | apply Kd.R_alloc | apply Kd.R_drewN | apply Kd.R_drew));exact HO_12.out) hb);replace BK230:=Aside0.mk (blk_below (g:=gb230) (o:=.cells #[.string a0_0,.int .i64 a0_1,.int .i64 a0_2,.slice A0_3 l0_3.length c0_3] 24 (0,0)) (bk BK230.out) hb);replace BK250:=Aside0.mk (blk_below (g:=gb250) (o:=.cells #[.int .u8 1,.int .i64 ji24] 35 (0,0)) (bk BK250.out) hb);replace BK251:=Aside0.mk (blk_below (g:=gb251) (o:=.cells #[.int .u8 3,.int .i64 (-1)] 35 (0,0)) (bk BK251.out) hb);replace HB:=Aside0.mk (below_step (bl3 HB.out GE230.out GE250.out GE251.out) hb);(try clear hb);(try clear hk)) | (go_at_call 9;(with_reducible refine (joustlaw30_lives.calls kj38  t255 _ ?side1 A75.out).mono ?_);(case side1 => exact Tabs.below HG.out (bl3 HB.out GE230.out GE250.out GE251.out));rintro e w81 ⟨rfl,hb⟩;replace HO_12:=Aside0.mk (Kd.R_below (by (with_reducible repeat (first | apply Kd.R_alloc | apply Kd.R_drewN | apply Kd.R_drew));exact HO_12.out) hb);replace BK230:=Aside0.mk (blk_below (g:=gb230) (o:=.cells #[.string a0_0,.int .i64 a0_1,.int .i64 a0_2,.slice A0_3 l0_3.length c0_3] 24 (0,0)) (bk BK230.out) hb);replace BK250:=Aside0.mk (blk_below (g:=gb250) (o:=.cells #[.int .u8 1,.int .i64 ji24] 35 (0,0)) (bk BK250.out) hb);replace BK251:=Aside0.mk (blk_below (g:=gb251) (o:=.cells #[.int .u8 3,.int .i64 (-1)] 35 (0,0)) (bk BK251.out) hb);replace HB:=Aside0.mk (below_step (bl3 HB.out GE230.out GE250.out GE251.out) hb);(try clear hb);(try clear hk)))
                  go_ret
                  exact ⟨by first | rfl | (simp [errW_none,errW_some] <;> rfl) | (simp only [← hji24];first | rfl | (simp [errW_none,errW_some] <;> rfl)) | (simp [*,errW_none,errW_some] <;> rfl),bl3 HB.out GE230.out GE250.out GE251.out⟩
                 ·replace c74:=Bool.eq_false_iff.mpr c74;subst c74;have H1 : ((joustlaw30_in.f kj38 t246 3 (-1)).bind fun t256 => (if t256 = true then ((joustlaw30_lives.f kj38).bind fun t257 => (some t257)) else (some false))) = some true:=by rw [if_neg (show ¬ (false = true) by decide)] at H;exact H
                  clear H;have H:=H1;clear H1;replace H:=Option.bind_eq_some_iff.mp H;obtain ⟨t256,A820,H⟩:=H;replace H : (if t256 = true then ((joustlaw30_lives.f kj38).bind fun t257 => (some t257)) else (some false)) = some true:=H;have A82:=Aside0.mk A820;clear A820
                  by_cases c83 : t256 = true
                  ·subst c83;have H1 : ((joustlaw30_lives.f kj38).bind fun t257 => (some t257)) = some true:=by rw [if_pos rfl] at H;exact H
                   clear H;have H:=H1;clear H1;replace H:=Option.bind_eq_some_iff.mp H;obtain ⟨t257,A840,H⟩:=H;replace H : (some t257) = some true:=H;have A84:=Aside0.mk A840;clear A840;have hT_:=Option.some.inj H;have hnb85:=NB250_230.out;have hnc85:=NB230_250.out;have hnb86:=NB250_251.out;have hnc86:=NB251_250.out;have hcz87_0 : wc.cell? ⟨gb250,0,none⟩ = some (.int .u8 1):=(blk_cell BK250.out 0).trans rfl;have hcz87_1 : wc.cell? ⟨gb250,1,none⟩ = some (.int .i64 ji24):=(blk_cell BK250.out 1).trans rfl;have hfz87_0:=blk_frozen BK250.out 0;have hfz87_1:=blk_frozen BK250.out 1;obtain ⟨Ao88,co88,eo88⟩:=Kd.R_slice HO_12.out;subst eo88
                   go_wp2_with (first | ((with_reducible refine gate_callee (f:=12) rfl ?_);refine goesL_ (some 95) rfl rfl Tryz.func12 (by kernel_rfl) rfl #[.slice Ao88 t246.length co88,.agg #[.int .u8 1,.int .i64 ji24]] rfl (by (try simp only [List.map_toArray,List.map_cons,List.map_nil]);first | done | (simp only [hji24];rfl) | rfl | (simp only [List.length_drop,List.length_take];rfl)) ?_;(with_reducible refine (joustlaw30_in.calls kj38 _ _ t246 1 ji24 false _ ?side1 ?side2 A73.out).mono ?_);(case side1 => repeat (first | exact (Kd.R_reads' HO_12.out).2.2 | (with_reducible refine Kd.C_alloc ?_ _) | (with_reducible refine Kd.C_drewN ?_ _) | (with_reducible refine Kd.C_drew ?_)));(case side2 => exact (Kd.R_reads' HO_12.out).2.1);rintro e w89 ⟨rfl,hb⟩;refine ⟨_,rfl,?_⟩;replace HO_12:=Aside0.mk (Kd.R_below (by (with_reducible repeat (first | apply Kd.R_alloc | apply Kd.R_drewN | apply Kd.R_drew));exact HO_12.out) hb);replace BK230:=Aside0.mk (blk_below (g:=gb230) (o:=.cells #[.string a0_0,.int .i64 a0_1,.int .i64 a0_2,.slice A0_3 l0_3.length c0_3] 24 (0,0)) (bk BK230.out) hb);replace BK250:=Aside0.mk (blk_below (g:=gb250) (o:=.cells #[.int .u8 1,.int .i64 ji24] 35 (0,0)) (bk BK250.out) hb);replace BK251:=Aside0.mk (blk_below (g:=gb251) (o:=.cells #[.int .u8 3,.int .i64 (-1)] 35 (0,0)) (bk BK251.out) hb);replace HB:=Aside0.mk (below_step (bl3 HB.out GE230.out GE250.out GE251.out) hb);(try clear hb);(try clear hk);have hnb90:=NB251_230.out;have hnc90:=NB230_251.out;have hcz91_0 : w89.cell? ⟨gb251,0,none⟩ = some (.int .u8 3):=(blk_cell BK251.out 0).trans rfl;have hcz91_1 : w89.cell? ⟨gb251,1,none⟩ = some (.int .i64 (-1)):=(blk_cell BK251.out 1).trans rfl;have hfz91_0:=blk_frozen BK251.out 0;have hfz91_1:=blk_frozen BK251.out 1) | (go_at_call 12;(with_reducible refine (joustlaw30_in.calls kj38 _ _ t246 3 (-1) true _ ?side1 ?side2 A82.out).mono ?_);(case side1 => repeat (first | exact (Kd.R_reads' HO_12.out).2.2 | (with_reducible refine Kd.C_alloc ?_ _) | (with_reducible refine Kd.C_drewN ?_ _) | (with_reducible refine Kd.C_drew ?_)));(case side2 => exact (Kd.R_reads' HO_12.out).2.1);rintro e w92 ⟨rfl,hb⟩;replace HO_12:=Aside0.mk (Kd.R_below (by (with_reducible repeat (first | apply Kd.R_alloc | apply Kd.R_drewN | apply Kd.R_drew));exact HO_12.out) hb);replace BK230:=Aside0.mk (blk_below (g:=gb230) (o:=.cells #[.string a0_0,.int .i64 a0_1,.int .i64 a0_2,.slice A0_3 l0_3.length c0_3] 24 (0,0)) (bk BK230.out) hb);replace BK250:=Aside0.mk (blk_below (g:=gb250) (o:=.cells #[.int .u8 1,.int .i64 ji24] 35 (0,0)) (bk BK250.out) hb);replace BK251:=Aside0.mk (blk_below (g:=gb251) (o:=.cells #[.int .u8 3,.int .i64 (-1)] 35 (0,0)) (bk BK251.out) hb);replace HB:=Aside0.mk (below_step (bl3 HB.out GE230.out GE250.out GE251.out) hb);(try clear hb);(try clear hk)) | (go_at_call 9;(with_reducible refine (joustlaw30_lives.calls kj38  t257 _ ?side1 A84.out).mono ?_);(case side1 => exact Tabs.below HG.out (bl3 HB.out GE230.out GE250.out GE251.out));rintro e w93 ⟨rfl,hb⟩;replace HO_12:=Aside0.mk (Kd.R_below (by (with_reducible repeat (first | apply Kd.R_alloc | apply Kd.R_drewN | apply Kd.R_drew));exact HO_12.out) hb);replace BK230:=Aside0.mk (blk_below (g:=gb230) (o:=.cells #[.string a0_0,.int .i64 a0_1,.int .i64 a0_2,.slice A0_3 l0_3.length c0_3] 24 (0,0)) (bk BK230.out) hb);replace BK250:=Aside0.mk (blk_below (g:=gb250) (o:=.cells #[.int .u8 1,.int .i64 ji24] 35 (0,0)) (bk BK250.out) hb);replace BK251:=Aside0.mk (blk_below (g:=gb251) (o:=.cells #[.int .u8 3,.int .i64 (-1)] 35 (0,0)) (bk BK251.out) hb);replace HB:=Aside0.mk (below_step (bl3 HB.out GE230.out GE250.out GE251.out) hb);(try clear hb);(try clear hk)))
                   go_ret
                   exact ⟨by first | rfl | (simp [errW_none,errW_some] <;> rfl) | (simp only [← hji24];first | rfl | (simp [errW_none,errW_some] <;> rfl)) | (simp [*,errW_none,errW_some] <;> rfl),bl3 HB.out GE230.out GE250.out GE251.out⟩
                  ·replace c83:=Bool.eq_false_iff.mpr c83;subst c83;have H1 : (some false) = some true:=by rw [if_neg (show ¬ (false = true) by decide)] at H;exact H
                   clear H;have H:=H1;clear H1;exact absurd H (by simp)
             ·rw [if_neg c37] at H;exact absurd H (by simp)
      ·rw [if_neg c26] at H;exact absurd H (by simp)
     ·rw [if_neg c25] at H;exact absurd H (by simp)

end Go.Proofs.YtgcmgfljbadljaaGreatDoor.L
