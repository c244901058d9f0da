/- Written by a program of this claim's author (stubprint.py, over the kit's print) out of the translation: Go functions as Lean functions, and that the calls come to them. -/
import Derived.Test.YtgcmgfljbadljaaGreatDoorL0
import Derived.Test.YtgcmgfljbadljaaGreatDoorL3
import Derived.Test.YtgcmgfljbadljaaGreatDoorL4
import Derived.Test.YtgcmgfljbadljaaGreatDoorL5
import Derived.Test.YtgcmgfljbadljaaGreatDoorL6
import Derived.Test.YtgcmgfljbadljaaGreatDoorL8
import Derived.Test.YtgcmgfljbadljaaGreatDoorL9
import Derived.Test.YtgcmgfljbadljaaGreatDoorL10
import Derived.Test.YtgcmgfljbadljaaGreatDoorHandS
namespace Go.Proofs.YtgcmgfljbadljaaGreatDoor.L
open Go.RowKit Go.Proofs.YtgcmgfljbadljaaGreatDoorW.PrintWords Go.Proofs.YtgcmgfljbadljaaGreatDoorW.PrintLast Go.Proofs.YtgcmgfljbadljaaGreatDoorW.PrintMore Go.Proofs.YtgcmgfljbadljaaGreatDoor.HandS Go.Proofs.YtgcmgfljbadljaaGreatDoor.Iter
attribute [local go_sem] max2_int min2_int max_two min_two max_three min_three max_four min_four   -- for this text's walks alone
set_option linter.unusedVariables false
set_option linter.unusedSimpArgs false

/-! ### joustlaw30_LimitsFewer: function 3 -/
mutual
def joustlaw30_LimitsFewer.j0 : Nat → List (S47) → List Int → Int → Bool → ByteArray → Int → Int → List (S42) → Option (Bool)
 | 0,_,_,_,_,_,_,_,_ => none
 | k + 1,x1,x2,x3,x32,x259000,x259001,x259002,x259003 => if x32 = true then ((joustlaw30_lives.f k).bind fun t260 => (some t260)) else ((limits_Check.f k x259000 x259001 x259002 x259003 x1 x2).bind fun bt261 => (if (x2.length : Int) = 0 then (none) else (if 0 ≤ (Int.tmod (wrap64 (x3)) (x2.length : Int)) then (if (Int.tmod (wrap64 (x3)) (x2.length : Int)) ≤ (x2.length : Int) then (if ([] : List Int).length + (x2.take ((Int.tmod (wrap64 (x3)) (x2.length : Int)) : Int).toNat).length < 17592186044416 then ((some (([] : List Int) ++ (x2.take ((Int.tmod (wrap64 (x3)) (x2.length : Int)) : Int).toNat) : List Int)).bind fun y266 => (if 0 ≤ (wrap64 ((Int.tmod (wrap64 (x3)) (x2.length : Int)) + 1)) then (if (wrap64 ((Int.tmod (wrap64 (x3)) (x2.length : Int)) + 1)) ≤ (x2.length : Int) then (if y266.length + (x2.drop ((wrap64 ((Int.tmod (wrap64 (x3)) (x2.length : Int)) + 1)) : Int).toNat).length < 17592186044416 then (joustlaw30_LimitsFewer.l0 k x1 x2 bt261.1 bt261.2 (y266 ++ (x2.drop ((wrap64 ((Int.tmod (wrap64 (x3)) (x2.length : Int)) + 1)) : Int).toNat)) ([] : List Int) (wrap64 ((x2.length : Int) - 1)) x259000 x259001 x259002 x259003) else (none)) else (none)) else (none))) else (none)) else (none)) else (none))))
def joustlaw30_LimitsFewer.l0 : Nat → List (S47) → List Int → List (S35) → Int → List Int → List Int → Int → ByteArray → Int → Int → List (S42) → Option (Bool)
 | 0,_,_,_,_,_,_,_,_,_,_,_ => none
 | k + 1,x1,x2,x9,x10,x12,x13,x14,x259000,x259001,x259002,x259003 => if x14 ≥ 0 then (if 0 ≤ x14 then (if x14 < (x2.length : Int) then (if x13.length < 17592186044416 then (joustlaw30_LimitsFewer.l0 k x1 x2 x9 x10 x12 (x13 ++ [rd x2 x14]) (wrap64 (x14 - 1)) x259000 x259001 x259002 x259003) else (none)) else (none)) else (none)) else ((limits_Check.f k x259000 x259001 x259002 x259003 x1 x12).bind fun bt277 => ((limits_Check.f k x259000 x259001 x259002 x259003 x1 x13).bind fun bt281 => (if x10 = 0 then (if bt277.2 = 0 then (if bt281.2 = 0 then ((joustref30_Breaches.f k x9 bt281.1).bind fun t286 => (joustlaw30_LimitsFewer.j2 k x1 x2 x9 x12 bt277.1 (!t286) x259000 x259001 x259002 x259003)) else (joustlaw30_LimitsFewer.j2 k x1 x2 x9 x12 bt277.1 true x259000 x259001 x259002 x259003)) else (joustlaw30_LimitsFewer.j2 k x1 x2 x9 x12 bt277.1 true x259000 x259001 x259002 x259003)) else (if (x9.length : Int) = 0 then (if bt281.2 = x10 then ((joustlaw30_lives.f k).bind fun t285 => (some t285)) else (some false)) else (some false)))))
def joustlaw30_LimitsFewer.j2 : Nat → List (S47) → List Int → List (S35) → List Int → List (S35) → Bool → ByteArray → Int → Int → List (S42) → Option (Bool)
 | 0,_,_,_,_,_,_,_,_,_,_ => none
 | k + 1,x1,x2,x9,x12,x15,x108,x259000,x259001,x259002,x259003 => if x108 = true then (some false) else (joustlaw30_LimitsFewer.l1 k x1 x2 x9 x12 x15 (x15.length : Int) 0 x259000 x259001 x259002 x259003)
def joustlaw30_LimitsFewer.l1 : Nat → List (S47) → List Int → List (S35) → List Int → List (S35) → Int → Int → ByteArray → Int → Int → List (S42) → Option (Bool)
 | 0,_,_,_,_,_,_,_,_,_,_,_ => none
 | k + 1,x1,x2,x9,x12,x15,x110,x111,x259000,x259001,x259002,x259003 => if x111 < x110 then (if 0 ≤ x111 then (if x111 < (x15.length : Int) then (if ((rd_T35 x15 x111).f0) = 2 then (joustlaw30_LimitsFewer.l1 k x1 x2 x9 x12 x15 x110 (wrap64 (x111 + 1)) x259000 x259001 x259002 x259003) else ((joustlaw30_in.f k x9 ((rd_T35 x15 x111).f0) ((rd_T35 x15 x111).f1)).bind fun t289 => (if t289 = true then (joustlaw30_LimitsFewer.l1 k x1 x2 x9 x12 x15 x110 (wrap64 (x111 + 1)) x259000 x259001 x259002 x259003) else (some false)))) else (none)) else (none)) else ((limits_Cost.f k x259000 x259001 x259002 x259003 x1 x2).bind fun bt290 => ((limits_Cost.f k x259000 x259001 x259002 x259003 x1 x12).bind fun bt292 => (if bt290.1 ≥ bt292.1 then ((joustlaw30_lives.f k).bind fun t294 => (some t294)) else (some false))))
end
def joustlaw30_LimitsFewer.f (k : Nat) (a0_0 : ByteArray) (a0_1 : Int) (a0_2 : Int) (l0_3 : List (S42)) (l1 : List (S47)) (l2 : List Int) (a3 : Int) : Option (Bool):=(joustlaw30_great.f a0_0 a0_1 a0_2 l0_3 l1 l2).bind fun t259 => (if t259 = true then (joustlaw30_LimitsFewer.j0 k l1 l2 a3 true a0_0 a0_1 a0_2 l0_3) else (joustlaw30_LimitsFewer.j0 k l1 l2 a3 ((l2.length : Int) == 0) a0_0 a0_1 a0_2 l0_3))
theorem joustlaw30_LimitsFewer.mono_l : ∀ k,(∀ y0 y1 y2 y3 y4 y5 y6 y7,LeO (joustlaw30_LimitsFewer.j0 k y0 y1 y2 y3 y4 y5 y6 y7) (joustlaw30_LimitsFewer.j0 (k + 1) y0 y1 y2 y3 y4 y5 y6 y7)) ∧ (∀ y0 y1 y2 y3 y4 y5 y6 y7 y8 y9 y10,LeO (joustlaw30_LimitsFewer.l0 k y0 y1 y2 y3 y4 y5 y6 y7 y8 y9 y10) (joustlaw30_LimitsFewer.l0 (k + 1) y0 y1 y2 y3 y4 y5 y6 y7 y8 y9 y10)) ∧ (∀ y0 y1 y2 y3 y4 y5 y6 y7 y8 y9,LeO (joustlaw30_LimitsFewer.j2 k y0 y1 y2 y3 y4 y5 y6 y7 y8 y9) (joustlaw30_LimitsFewer.j2 (k + 1) y0 y1 y2 y3 y4 y5 y6 y7 y8 y9)) ∧ (∀ y0 y1 y2 y3 y4 y5 y6 y7 y8 y9 y10,LeO (joustlaw30_LimitsFewer.l1 k y0 y1 y2 y3 y4 y5 y6 y7 y8 y9 y10) (joustlaw30_LimitsFewer.l1 (k + 1) y0 y1 y2 y3 y4 y5 y6 y7 y8 y9 y10))
 | 0 => ⟨fun _ _ _ _ _ _ _ _ r h => by simp [joustlaw30_LimitsFewer.j0] at h,fun _ _ _ _ _ _ _ _ _ _ _ r h => by simp [joustlaw30_LimitsFewer.l0] at h,fun _ _ _ _ _ _ _ _ _ _ r h => by simp [joustlaw30_LimitsFewer.j2] at h,fun _ _ _ _ _ _ _ _ _ _ _ r h => by simp [joustlaw30_LimitsFewer.l1] at h⟩
 | k + 1 => by
  obtain ⟨ih0,ih1,ih2,ih3⟩:=joustlaw30_LimitsFewer.mono_l k;refine ⟨?_,?_,?_,?_⟩
  ·intro y0 y1 y2 y3 y4 y5 y6 y7
   unfold joustlaw30_LimitsFewer.j0
   repeat' first
   | (with_reducible exact ih0 _ _ _ _ _ _ _ _)
   | (with_reducible exact ih1 _ _ _ _ _ _ _ _ _ _ _)
   | (with_reducible exact ih2 _ _ _ _ _ _ _ _ _ _)
   | (with_reducible exact ih3 _ _ _ _ _ _ _ _ _ _ _)
   | (with_reducible exact joustlaw30_in.mono _ _ _ _)
   | (with_reducible exact joustlaw30_lives.mono _)
   | (with_reducible exact joustref30_Breaches.mono _ _ _)
   | (with_reducible exact limits_Check.mono _ _ _ _ _ _ _)
   | (with_reducible exact limits_Cost.mono _ _ _ _ _ _ _)
   | (with_reducible exact LeO.refl _)
   | (with_reducible exact LeO.none _)
   | (with_reducible refine LeO.ite ?_ ?_)
   | (with_reducible refine LeO.bind ?_ (fun _ => ?_))
   | exact ih0 _ _ _ _ _ _ _ _
   | exact ih1 _ _ _ _ _ _ _ _ _ _ _
   | exact ih2 _ _ _ _ _ _ _ _ _ _
   | exact ih3 _ _ _ _ _ _ _ _ _ _ _
   | exact joustlaw30_in.mono _ _ _ _
   | exact joustlaw30_lives.mono _
   | exact joustref30_Breaches.mono _ _ _
   | exact limits_Check.mono _ _ _ _ _ _ _
   | exact limits_Cost.mono _ _ _ _ _ _ _
   | exact LeO.none _
   | refine LeO.ite ?_ ?_
   | refine LeO.bind ?_ (fun _ => ?_)
  ·intro y0 y1 y2 y3 y4 y5 y6 y7 y8 y9 y10
   unfold joustlaw30_LimitsFewer.l0
   repeat' first
   | (with_reducible exact ih0 _ _ _ _ _ _ _ _)
   | (with_reducible exact ih1 _ _ _ _ _ _ _ _ _ _ _)
   | (with_reducible exact ih2 _ _ _ _ _ _ _ _ _ _)
   | (with_reducible exact ih3 _ _ _ _ _ _ _ _ _ _ _)
   | (with_reducible exact joustlaw30_in.mono _ _ _ _)
   | (with_reducible exact joustlaw30_lives.mono _)
   | (with_reducible exact joustref30_Breaches.mono _ _ _)
   | (with_reducible exact limits_Check.mono _ _ _ _ _ _ _)
   | (with_reducible exact limits_Cost.mono _ _ _ _ _ _ _)
   | (with_reducible exact LeO.refl _)
   | (with_reducible exact LeO.none _)
   | (with_reducible refine LeO.ite ?_ ?_)
   | (with_reducible refine LeO.bind ?_ (fun _ => ?_))
   | exact ih0 _ _ _ _ _ _ _ _
   | exact ih1 _ _ _ _ _ _ _ _ _ _ _
   | exact ih2 _ _ _ _ _ _ _ _ _ _
   | exact ih3 _ _ _ _ _ _ _ _ _ _ _
   | exact joustlaw30_in.mono _ _ _ _
   | exact joustlaw30_lives.mono _
   | exact joustref30_Breaches.mono _ _ _
   | exact limits_Check.mono _ _ _ _ _ _ _
   | exact limits_Cost.mono _ _ _ _ _ _ _
   | exact LeO.none _
   | refine LeO.ite ?_ ?_
   | refine LeO.bind ?_ (fun _ => ?_)
  ·intro y0 y1 y2 y3 y4 y5 y6 y7 y8 y9
   unfold joustlaw30_LimitsFewer.j2
   repeat' first
   | (with_reducible exact ih0 _ _ _ _ _ _ _ _)
   | (with_reducible exact ih1 _ _ _ _ _ _ _ _ _ _ _)
   | (with_reducible exact ih2 _ _ _ _ _ _ _ _ _ _)
   | (with_reducible exact ih3 _ _ _ _ _ _ _ _ _ _ _)
   | (with_reducible exact joustlaw30_in.mono _ _ _ _)
   | (with_reducible exact joustlaw30_lives.mono _)
   | (with_reducible exact joustref30_Breaches.mono _ _ _)
   | (with_reducible exact limits_Check.mono _ _ _ _ _ _ _)
   | (with_reducible exact limits_Cost.mono _ _ _ _ _ _ _)
   | (with_reducible exact LeO.refl _)
   | (with_reducible exact LeO.none _)
   | (with_reducible refine LeO.ite ?_ ?_)
   | (with_reducible refine LeO.bind ?_ (fun _ => ?_))
   | exact ih0 _ _ _ _ _ _ _ _
   | exact ih1 _ _ _ _ _ _ _ _ _ _ _
   | exact ih2 _ _ _ _ _ _ _ _ _ _
   | exact ih3 _ _ _ _ _ _ _ _ _ _ _
   | exact joustlaw30_in.mono _ _ _ _
   | exact joustlaw30_lives.mono _
   | exact joustref30_Breaches.mono _ _ _
   | exact limits_Check.mono _ _ _ _ _ _ _
   | exact limits_Cost.mono _ _ _ _ _ _ _
   | exact LeO.none _
   | refine LeO.ite ?_ ?_
   | refine LeO.bind ?_ (fun _ => ?_)
  ·intro y0 y1 y2 y3 y4 y5 y6 y7 y8 y9 y10
   unfold joustlaw30_LimitsFewer.l1
   repeat' first
   | (with_reducible exact ih0 _ _ _ _ _ _ _ _)
   | (with_reducible exact ih1 _ _ _ _ _ _ _ _ _ _ _)
   | (with_reducible exact ih2 _ _ _ _ _ _ _ _ _ _)
   | (with_reducible exact ih3 _ _ _ _ _ _ _ _ _ _ _)
   | (with_reducible exact joustlaw30_in.mono _ _ _ _)
   | (with_reducible exact joustlaw30_lives.mono _)
   | (with_reducible exact joustref30_Breaches.mono _ _ _)
   | (with_reducible exact limits_Check.mono _ _ _ _ _ _ _)
   | (with_reducible exact limits_Cost.mono _ _ _ _ _ _ _)
   | (with_reducible exact LeO.refl _)
   | (with_reducible exact LeO.none _)
   | (with_reducible refine LeO.ite ?_ ?_)
   | (with_reducible refine LeO.bind ?_ (fun _ => ?_))
   | exact ih0 _ _ _ _ _ _ _ _
   | exact ih1 _ _ _ _ _ _ _ _ _ _ _
   | exact ih2 _ _ _ _ _ _ _ _ _ _
   | exact ih3 _ _ _ _ _ _ _ _ _ _ _
   | exact joustlaw30_in.mono _ _ _ _
   | exact joustlaw30_lives.mono _
   | exact joustref30_Breaches.mono _ _ _
   | exact limits_Check.mono _ _ _ _ _ _ _
   | exact limits_Cost.mono _ _ _ _ _ _ _
   | exact LeO.none _
   | refine LeO.ite ?_ ?_
   | refine LeO.bind ?_ (fun _ => ?_)
theorem joustlaw30_LimitsFewer.mono : ∀ a0 a1 a2 a3 a4 a5 a6 k,LeO (joustlaw30_LimitsFewer.f k a0 a1 a2 a3 a4 a5 a6) (joustlaw30_LimitsFewer.f (k + 1) a0 a1 a2 a3 a4 a5 a6):=by
 intro a0 a1 a2 a3 a4 a5 a6 k;obtain ⟨ih0,ih1,ih2,ih3⟩:=joustlaw30_LimitsFewer.mono_l k
 unfold joustlaw30_LimitsFewer.f
 repeat' first
   | (with_reducible exact ih0 _ _ _ _ _ _ _ _)
   | (with_reducible exact ih1 _ _ _ _ _ _ _ _ _ _ _)
   | (with_reducible exact ih2 _ _ _ _ _ _ _ _ _ _)
   | (with_reducible exact ih3 _ _ _ _ _ _ _ _ _ _ _)
   | (with_reducible exact joustlaw30_in.mono _ _ _ _)
   | (with_reducible exact joustlaw30_lives.mono _)
   | (with_reducible exact joustref30_Breaches.mono _ _ _)
   | (with_reducible exact limits_Check.mono _ _ _ _ _ _ _)
   | (with_reducible exact limits_Cost.mono _ _ _ _ _ _ _)
   | (with_reducible exact LeO.refl _)
   | (with_reducible exact LeO.none _)
   | (with_reducible refine LeO.ite ?_ ?_)
   | (with_reducible refine LeO.bind ?_ (fun _ => ?_))
   | exact ih0 _ _ _ _ _ _ _ _
   | exact ih1 _ _ _ _ _ _ _ _ _ _ _
   | exact ih2 _ _ _ _ _ _ _ _ _ _
   | exact ih3 _ _ _ _ _ _ _ _ _ _ _
   | exact joustlaw30_in.mono _ _ _ _
   | exact joustlaw30_lives.mono _
   | exact joustref30_Breaches.mono _ _ _
   | exact limits_Check.mono _ _ _ _ _ _ _
   | exact limits_Cost.mono _ _ _ _ _ _ _
   | exact LeO.none _
   | refine LeO.ite ?_ ?_
   | refine LeO.bind ?_ (fun _ => ?_)
def joustlaw30_LimitsFewer.T6 : Bool × List (List Nat × List Nat):=(true,[([],[]),([],[]),([],[]),([1,2],[1,2]),([0,3],[0,3]),([],[]),([],[]),([6],[6]),([5,7],[5,7]),([4,8,4],[4,8]),([9,9,0,1,2,3,4,5,6,7,8,9],[0,9])])
def joustlaw30_LimitsFewer.B6 : List Nat:=[0,0,0,6,15,0,0,64,224,511,1023]
theorem joustlaw30_LimitsFewer.tab6 : rtab .any (opsOf Tryz.f3 6) = joustlaw30_LimitsFewer.T6:=by kernel_rfl
theorem joustlaw30_LimitsFewer.bits6 : waitsOk joustlaw30_LimitsFewer.T6.2 joustlaw30_LimitsFewer.B6 = true:=by kernel_rfl
set_option maxHeartbeats 8000000 in
set_option maxRecDepth 100000 in
theorem joustlaw30_LimitsFewer.calls_true (k : Nat) (a0_0 : ByteArray) (a0_1 : Int) (a0_2 : Int) (A0_3 : Option Addr) (c0_3 : Nat) (l0_3 : List (S42)) (A1 : Option Addr) (c1 : Nat) (l1 : List (S47)) (A2 : Option Addr) (c2 : Nat) (l2 : List Int) (a3 : Int) (w : World) (hr0_3 : Kd.C k42 w A0_3 l0_3.length l0_3) (hc0_3 : l0_3.length ≤ c0_3) (hr1 : Kd.C k47 w A1 l1.length l1) (hc1 : l1.length ≤ c1) (hr2 : Kd.C (Kd.int .i64) w A2 l2.length l2) (hc2 : l2.length ≤ c2) (hG : Tabs w) (h : joustlaw30_LimitsFewer.f k a0_0 a0_1 a0_2 l0_3 l1 l2 a3 = some true) :
  Calls Tryz.prog 3 #[.agg #[.string a0_0,.int .i64 a0_1,.int .i64 a0_2,.slice A0_3 l0_3.length c0_3],.slice A1 l1.length c1,.slice A2 l2.length c2,.int .u8 a3] w fun e w' => e = .returned (.bool true) ∧ Below w.heap.size w w':=by
 have hu24:=Tryz.underlying24;have hu35:=Tryz.underlying35;have HG:=Aside0.mk hG;clear hG;have HR0_3:=Aside0.mk hr0_3;have HC0_3:=Aside0.mk hc0_3;clear hr0_3 hc0_3;have HR1:=Aside0.mk hr1;have HC1:=Aside0.mk hc1;clear hr1 hc1;have HR2:=Aside0.mk hr2;have HC2:=Aside0.mk hc2;clear hr2 hc2;have HB:=Aside0.mk (Below.refl w.heap.size w);have H : ((joustlaw30_great.f a0_0 a0_1 a0_2 l0_3 l1 l2).bind fun t259 => (if t259 = true then (joustlaw30_LimitsFewer.j0 k l1 l2 a3 true a0_0 a0_1 a0_2 l0_3) else (joustlaw30_LimitsFewer.j0 k l1 l2 a3 ((l2.length : Int) == 0) a0_0 a0_1 a0_2 l0_3))) = some true:=h;clear h;have HC5:=Aside0.mk H;clear H
 go_enter Tryz.func3,Tryz.ntmps3
 go_upto_region 1 with (first | ((with_reducible refine gate_dst (N:=4) rfl ?_);(try (refine gate_guard (by rfl) ?_;dsimp only));refine box_event ?hg (N:=4) ?hd (cs:=#[.string a0_0,.int .i64 a0_1,.int .i64 a0_2,.slice A0_3 l0_3.length c0_3]) (t:=24) ?hr ?_;(case hd => rfl);(case hg => rfl);(case hr => first | (go_simp;done) | (go_simp;rfl));intro gb258 hg w6 hbox hb;have n0_:=Aside0.mk (below_step (bl0 HB.out) hb);have n1_:=Aside0.mk (hbox);have n2_:=Aside0.mk ((by rw [hg];exact (below_size (bl0 HB.out)) : w.heap.size ≤ gb258));have n3_:=Aside0.mk ((by rw [hg];exact (below_size (bl0 HB.out)) : w.heap.size ≤ gb258));clear HB;have HB:=n0_;have BK258:=n1_;have GW258:=n2_;have GE258:=n3_;clear n0_ n1_ n2_ n3_;clear hb hbox hg))
 (try simp only [Act.put,List.setIfInBounds_toArray,List.set_cons_zero,List.set_cons_succ])
 go_cut [32] (fun v32 wc => ∃ (kq : Nat) (x32_4 : Bool),v32 = .bool x32_4 ∧ Aside0 (joustlaw30_LimitsFewer.j0 kq l1 l2 a3 x32_4 a0_0 a0_1 a0_2 l0_3 = some true) ∧ Aside0 (kq ≤ k) ∧ Aside0 (wc.heap[gb258]? = some (.cells #[.string a0_0,.int .i64 a0_1,.int .i64 a0_2,(.slice A0_3 l0_3.length c0_3)] 24 (0,0))) ∧ Aside0 (Below w.heap.size w wc))
 case first =>
  have H:=HC5.out;clear HC5;replace H:=Option.bind_eq_some_iff.mp H;obtain ⟨t259,A70,H⟩:=H;replace H : (if t259 = true then (joustlaw30_LimitsFewer.j0 k l1 l2 a3 true a0_0 a0_1 a0_2 l0_3) else (joustlaw30_LimitsFewer.j0 k l1 l2 a3 ((l2.length : Int) == 0) a0_0 a0_1 a0_2 l0_3)) = some true:=H;have A7:=Aside0.mk A70;clear A70
  by_cases c8 : t259 = true
  ·subst c8;have H1 : (joustlaw30_LimitsFewer.j0 k l1 l2 a3 true a0_0 a0_1 a0_2 l0_3) = some true:=by rw [if_pos rfl] at H;exact H
   clear H;have H:=H1;clear H1;have H':=Aside0.mk H;clear H;have hcz9_0 : w6.cell? ⟨gb258,0,none⟩ = some (.string a0_0):=(blk_cell BK258.out 0).trans rfl;have hcz9_1 : w6.cell? ⟨gb258,1,none⟩ = some (.int .i64 a0_1):=(blk_cell BK258.out 1).trans rfl;have hcz9_2 : w6.cell? ⟨gb258,2,none⟩ = some (.int .i64 a0_2):=(blk_cell BK258.out 2).trans rfl;have hcz9_3 : w6.cell? ⟨gb258,3,none⟩ = some (.slice A0_3 l0_3.length c0_3):=(blk_cell BK258.out 3).trans rfl;have hfz9_0:=blk_frozen BK258.out 0;have hfz9_1:=blk_frozen BK258.out 1;have hfz9_2:=blk_frozen BK258.out 2;have hfz9_3:=blk_frozen BK258.out 3
   go_wp2_with (first | ((with_reducible refine gate_callee (f:=8) rfl ?_);refine goesL_ (some 27) rfl rfl Tryz.func8 (by kernel_rfl) rfl #[.agg #[.string a0_0,.int .i64 a0_1,.int .i64 a0_2,.slice A0_3 l0_3.length c0_3],.slice A1 l1.length c1,.slice A2 l2.length c2] rfl (by (try simp only [List.map_toArray,List.map_cons,List.map_nil]);first | done | rfl | (simp only [List.length_drop,List.length_take];rfl)) ?_;(with_reducible refine (joustlaw30_great.calls a0_0 a0_1 a0_2 _ _ l0_3 _ _ l1 _ _ l2 true _ ?side1 ?side2 ?side3 ?side4 ?side5 ?side6 A7.out).mono ?_);(case side1 => repeat (first | exact (Kd.C_below HR0_3.out HB.out) | (with_reducible refine Kd.C_alloc ?_ _) | (with_reducible refine Kd.C_drewN ?_ _) | (with_reducible refine Kd.C_drew ?_)));(case side2 => exact HC0_3.out);(case side3 => repeat (first | exact (Kd.C_below HR1.out HB.out) | (with_reducible refine Kd.C_alloc ?_ _) | (with_reducible refine Kd.C_drewN ?_ _) | (with_reducible refine Kd.C_drew ?_)));(case side4 => exact HC1.out);(case side5 => repeat (first | exact (Kd.C_below HR2.out HB.out) | (with_reducible refine Kd.C_alloc ?_ _) | (with_reducible refine Kd.C_drewN ?_ _) | (with_reducible refine Kd.C_drew ?_)));(case side6 => exact HC2.out);rintro e w10 ⟨rfl,hb⟩;refine ⟨_,rfl,?_⟩;replace BK258:=Aside0.mk (blk_below (g:=gb258) (o:=.cells #[.string a0_0,.int .i64 a0_1,.int .i64 a0_2,.slice A0_3 l0_3.length c0_3] 24 (0,0)) (bk BK258.out) hb);replace HB:=Aside0.mk (below_step (bl1 HB.out GE258.out) hb);(try clear hb);(try clear hk)))
   go_meet
   case rel => exact ⟨_,(true),(by first | rfl | (simp;done) | (simp [*];done)),H',⟨by first | omega | exact Nat.le_refl _⟩,⟨bk BK258.out⟩,⟨bl1 HB.out GE258.out⟩⟩
  ·replace c8:=Bool.eq_false_iff.mpr c8;subst c8;have H1 : (joustlaw30_LimitsFewer.j0 k l1 l2 a3 ((l2.length : Int) == 0) a0_0 a0_1 a0_2 l0_3) = some true:=by rw [if_neg (show ¬ (false = true) by decide)] at H;exact H
   clear H;have H:=H1;clear H1;have H':=Aside0.mk H;clear H;have hcz11_0 : w6.cell? ⟨gb258,0,none⟩ = some (.string a0_0):=(blk_cell BK258.out 0).trans rfl;have hcz11_1 : w6.cell? ⟨gb258,1,none⟩ = some (.int .i64 a0_1):=(blk_cell BK258.out 1).trans rfl;have hcz11_2 : w6.cell? ⟨gb258,2,none⟩ = some (.int .i64 a0_2):=(blk_cell BK258.out 2).trans rfl;have hcz11_3 : w6.cell? ⟨gb258,3,none⟩ = some (.slice A0_3 l0_3.length c0_3):=(blk_cell BK258.out 3).trans rfl;have hfz11_0:=blk_frozen BK258.out 0;have hfz11_1:=blk_frozen BK258.out 1;have hfz11_2:=blk_frozen BK258.out 2;have hfz11_3:=blk_frozen BK258.out 3
   go_wp2_with (first | ((with_reducible refine gate_callee (f:=8) rfl ?_);refine goesL_ (some 27) rfl rfl Tryz.func8 (by kernel_rfl) rfl #[.agg #[.string a0_0,.int .i64 a0_1,.int .i64 a0_2,.slice A0_3 l0_3.length c0_3],.slice A1 l1.length c1,.slice A2 l2.length c2] rfl (by (try simp only [List.map_toArray,List.map_cons,List.map_nil]);first | done | rfl | (simp only [List.length_drop,List.length_take];rfl)) ?_;(with_reducible refine (joustlaw30_great.calls a0_0 a0_1 a0_2 _ _ l0_3 _ _ l1 _ _ l2 false _ ?side1 ?side2 ?side3 ?side4 ?side5 ?side6 A7.out).mono ?_);(case side1 => repeat (first | exact (Kd.C_below HR0_3.out HB.out) | (with_reducible refine Kd.C_alloc ?_ _) | (with_reducible refine Kd.C_drewN ?_ _) | (with_reducible refine Kd.C_drew ?_)));(case side2 => exact HC0_3.out);(case side3 => repeat (first | exact (Kd.C_below HR1.out HB.out) | (with_reducible refine Kd.C_alloc ?_ _) | (with_reducible refine Kd.C_drewN ?_ _) | (with_reducible refine Kd.C_drew ?_)));(case side4 => exact HC1.out);(case side5 => repeat (first | exact (Kd.C_below HR2.out HB.out) | (with_reducible refine Kd.C_alloc ?_ _) | (with_reducible refine Kd.C_drewN ?_ _) | (with_reducible refine Kd.C_drew ?_)));(case side6 => exact HC2.out);rintro e w12 ⟨rfl,hb⟩;refine ⟨_,rfl,?_⟩;replace BK258:=Aside0.mk (blk_below (g:=gb258) (o:=.cells #[.string a0_0,.int .i64 a0_1,.int .i64 a0_2,.slice A0_3 l0_3.length c0_3] 24 (0,0)) (bk BK258.out) hb);replace HB:=Aside0.mk (below_step (bl1 HB.out GE258.out) hb);(try clear hb);(try clear hk)))
   go_meet
   case rel => exact ⟨_,(((l2.length : Int) == 0)),(by first | rfl | (simp;done) | (simp [*];done)),H',⟨by first | omega | exact Nat.le_refl _⟩,⟨bk BK258.out⟩,⟨bl1 HB.out GE258.out⟩⟩
 case rest =>
  clear HC5
  try clear c1
  try clear c2
  try clear p2
  try clear c3
  try clear c8
  try clear hcz11_0
  try clear hcz11_1
  try clear hcz11_2
  try clear hcz11_3
  try clear hcz9_0
  try clear hcz9_1
  try clear hcz9_2
  try clear hcz9_3
  try clear hfz11_0
  try clear hfz11_1
  try clear hfz11_2
  try clear hfz11_3
  try clear hfz9_0
  try clear hfz9_1
  try clear hfz9_2
  try clear hfz9_3
  obtain ⟨kq,x32_4,rfl,HA,HJ4,BK258,HB⟩:=hcut
  cases kq with
  | zero => exact absurd HA.out (by simp [joustlaw30_LimitsFewer.j0])
  | succ kj4 =>
   have H:=HA.out;clear HA;simp only [joustlaw30_LimitsFewer.j0] at H
   by_cases c13 : x32_4 = true
   ·subst c13;have H1 : ((joustlaw30_lives.f kj4).bind fun t260 => (some t260)) = some true:=by rw [if_pos rfl] at H;exact H
    clear H;have H:=H1;clear H1;replace H:=Option.bind_eq_some_iff.mp H;obtain ⟨t260,A140,H⟩:=H;replace H : (some t260) = some true:=H;have A14:=Aside0.mk A140;clear A140;have hT_:=Option.some.inj H
    go_wp2_with (first | ((with_reducible refine gate_callee (f:=9) rfl ?_);refine goesL_ (some 33) rfl rfl Tryz.func9 (by kernel_rfl) rfl #[] rfl (by (try simp only [List.map_toArray,List.map_cons,List.map_nil]);first | done | rfl | (simp only [List.length_drop,List.length_take];rfl)) ?_;(with_reducible refine (joustlaw30_lives.calls kj4  t260 _ ?side1 A14.out).mono ?_);(case side1 => exact Tabs.below HG.out (bl1 HB.out GE258.out));rintro e w15 ⟨rfl,hb⟩;refine ⟨_,rfl,?_⟩;replace BK258:=Aside0.mk (blk_below (g:=gb258) (o:=.cells #[.string a0_0,.int .i64 a0_1,.int .i64 a0_2,.slice A0_3 l0_3.length c0_3] 24 (0,0)) (bk BK258.out) hb);replace HB:=Aside0.mk (below_step (bl1 HB.out GE258.out) hb);(try clear hb);(try clear hk)))
    go_ret
    exact ⟨by first | rfl | (simp [errW_none,errW_some] <;> rfl) | (simp [*,errW_none,errW_some] <;> rfl),bl1 HB.out GE258.out⟩
   ·replace c13:=Bool.eq_false_iff.mpr c13;subst c13;have H1 : ((limits_Check.f kj4 a0_0 a0_1 a0_2 l0_3 l1 l2).bind fun bt261 => (if (l2.length : Int) = 0 then (none) else (if 0 ≤ (Int.tmod (wrap64 (a3)) (l2.length : Int)) then (if (Int.tmod (wrap64 (a3)) (l2.length : Int)) ≤ (l2.length : Int) then (if ([] : List Int).length + (l2.take ((Int.tmod (wrap64 (a3)) (l2.length : Int)) : Int).toNat).length < 17592186044416 then ((some (([] : List Int) ++ (l2.take ((Int.tmod (wrap64 (a3)) (l2.length : Int)) : Int).toNat) : List Int)).bind fun y266 => (if 0 ≤ (wrap64 ((Int.tmod (wrap64 (a3)) (l2.length : Int)) + 1)) then (if (wrap64 ((Int.tmod (wrap64 (a3)) (l2.length : Int)) + 1)) ≤ (l2.length : Int) then (if y266.length + (l2.drop ((wrap64 ((Int.tmod (wrap64 (a3)) (l2.length : Int)) + 1)) : Int).toNat).length < 17592186044416 then (joustlaw30_LimitsFewer.l0 kj4 l1 l2 bt261.1 bt261.2 (y266 ++ (l2.drop ((wrap64 ((Int.tmod (wrap64 (a3)) (l2.length : Int)) + 1)) : Int).toNat)) ([] : List Int) (wrap64 ((l2.length : Int) - 1)) a0_0 a0_1 a0_2 l0_3) else (none)) else (none)) else (none))) else (none)) else (none)) else (none)))) = some true:=by rw [if_neg (show ¬ (false = true) by decide)] at H;exact H
    clear H;have H:=H1;clear H1;replace H:=Option.bind_eq_some_iff.mp H;obtain ⟨⟨t261,t264⟩,A160,H⟩:=H;replace H : (if (l2.length : Int) = 0 then (none) else (if 0 ≤ (Int.tmod (wrap64 (a3)) (l2.length : Int)) then (if (Int.tmod (wrap64 (a3)) (l2.length : Int)) ≤ (l2.length : Int) then (if ([] : List Int).length + (l2.take ((Int.tmod (wrap64 (a3)) (l2.length : Int)) : Int).toNat).length < 17592186044416 then ((some (([] : List Int) ++ (l2.take ((Int.tmod (wrap64 (a3)) (l2.length : Int)) : Int).toNat) : List Int)).bind fun y266 => (if 0 ≤ (wrap64 ((Int.tmod (wrap64 (a3)) (l2.length : Int)) + 1)) then (if (wrap64 ((Int.tmod (wrap64 (a3)) (l2.length : Int)) + 1)) ≤ (l2.length : Int) then (if y266.length + (l2.drop ((wrap64 ((Int.tmod (wrap64 (a3)) (l2.length : Int)) + 1)) : Int).toNat).length < 17592186044416 then (joustlaw30_LimitsFewer.l0 kj4 l1 l2 t261 t264 (y266 ++ (l2.drop ((wrap64 ((Int.tmod (wrap64 (a3)) (l2.length : Int)) + 1)) : Int).toNat)) ([] : List Int) (wrap64 ((l2.length : Int) - 1)) a0_0 a0_1 a0_2 l0_3) else (none)) else (none)) else (none))) else (none)) else (none)) else (none))) = some true:=H;have A16:=Aside0.mk A160;clear A160
    by_cases c17 : (l2.length : Int) = 0
    ·rw [if_pos c17] at H;exact absurd H (by simp)
    ·rw [if_neg c17] at H;have c17b0 : ((l2.length : Int) == 0) = false:=beq_eq_false_iff_ne.mpr c17;have c17b1 : ((l2.length : Int) != 0) = true:=bne_iff_ne.mpr c17;have c17b2 : ¬ (l2 = []):=fun h_ => c17 (by rw [h_];rfl)
     obtain ⟨ji18,hji18⟩ : ∃ j_ : Int,(Int.tmod (wrap64 (a3)) (l2.length : Int)) = j_:=⟨_,rfl⟩;replace H : (if 0 ≤ (ji18) then (if (ji18) ≤ (l2.length : Int) then (if ([] : List Int).length + (l2.take ((ji18) : Int).toNat).length < 17592186044416 then ((some (([] : List Int) ++ (l2.take ((ji18) : Int).toNat) : List Int)).bind fun y266 => (if 0 ≤ (wrap64 ((ji18) + 1)) then (if (wrap64 ((ji18) + 1)) ≤ (l2.length : Int) then (if y266.length + (l2.drop ((wrap64 ((ji18) + 1)) : Int).toNat).length < 17592186044416 then (joustlaw30_LimitsFewer.l0 kj4 l1 l2 t261 t264 (y266 ++ (l2.drop ((wrap64 ((ji18) + 1)) : Int).toNat)) ([] : List Int) (wrap64 ((l2.length : Int) - 1)) a0_0 a0_1 a0_2 l0_3) else (none)) else (none)) else (none))) else (none)) else (none)) else (none)) = some true:=by first | (rw [hji18] at H;exact H) | (simp only [hji18] at H ⊢;exact H)
     (try rw [hji18] at A16)
     by_cases c19 : 0 ≤ (ji18)
     ·rw [if_pos c19] at H;have c19b0:=eq_true c19;have c19b1 : decide (0 ≤ (ji18)) = true:=decide_eq_true c19;clear c19
      by_cases c20 : (ji18) ≤ (l2.length : Int)
      ·rw [if_pos c20] at H;have c20b0:=eq_true c20;have c20b1 : decide ((ji18) ≤ (l2.length : Int)) = true:=decide_eq_true c20;clear c20
       by_cases c21 : ([] : List Int).length + (l2.take ((ji18) : Int).toNat).length < 17592186044416
       ·rw [if_pos c21] at H;have LMc21:=Aside0.mk c21;clear c21;obtain ⟨y266,hy266⟩ : ∃ y_ : List Int,y_ = (([] : List Int) ++ (l2.take ((ji18) : Int).toNat)):=⟨_,rfl⟩;replace H : (if 0 ≤ (wrap64 ((ji18) + 1)) then (if (wrap64 ((ji18) + 1)) ≤ (l2.length : Int) then (if y266.length + (l2.drop ((wrap64 ((ji18) + 1)) : Int).toNat).length < 17592186044416 then (joustlaw30_LimitsFewer.l0 kj4 l1 l2 t261 t264 (y266 ++ (l2.drop ((wrap64 ((ji18) + 1)) : Int).toNat)) ([] : List Int) (wrap64 ((l2.length : Int) - 1)) a0_0 a0_1 a0_2 l0_3) else (none)) else (none)) else (none)) = some true:=by first | (rw [hy266];with_reducible exact H) | (have H2_:=(Option.bind_some _ _).symm.trans H;rw [hy266];with_reducible exact H2_) | (have H2_:=(Option.bind_some _ _).symm.trans H;with_reducible exact H2_) | with_reducible exact H | (rw [hy266];exact H) | exact H
        have Ny266:=Aside0.mk hy266;clear hy266;obtain ⟨ji22,hji22⟩ : ∃ j_ : Int,(wrap64 ((ji18) + 1)) = j_:=⟨_,rfl⟩;replace H : (if 0 ≤ (ji22) then (if (ji22) ≤ (l2.length : Int) then (if y266.length + (l2.drop ((ji22) : Int).toNat).length < 17592186044416 then (joustlaw30_LimitsFewer.l0 kj4 l1 l2 t261 t264 (y266 ++ (l2.drop ((ji22) : Int).toNat)) ([] : List Int) (wrap64 ((l2.length : Int) - 1)) a0_0 a0_1 a0_2 l0_3) else (none)) else (none)) else (none)) = some true:=by first | (rw [hji22] at H;exact H) | (simp only [hji22] at H ⊢;exact H)
        (try rw [hji22] at A16)
        have hji22w : (IntKind.i64.wrap ((ji18) + 1)) = ji22:=(i64_w _).trans hji22
        by_cases c23 : 0 ≤ (ji22)
        ·rw [if_pos c23] at H;have c23b0:=eq_true c23;have c23b1 : decide (0 ≤ (ji22)) = true:=decide_eq_true c23;clear c23
         by_cases c24 : (ji22) ≤ (l2.length : Int)
         ·rw [if_pos c24] at H;have c24b0:=eq_true c24;have c24b1 : decide ((ji22) ≤ (l2.length : Int)) = true:=decide_eq_true c24;clear c24
          by_cases c25 : y266.length + (l2.drop ((ji22) : Int).toNat).length < 17592186044416
          ·rw [if_pos c25] at H;have LMc25:=Aside0.mk c25;clear c25;obtain ⟨y270,hy270⟩ : ∃ y_ : List Int,y_ = (y266 ++ (l2.drop ((ji22) : Int).toNat)):=⟨_,rfl⟩;replace H : (joustlaw30_LimitsFewer.l0 kj4 l1 l2 t261 t264 y270 ([] : List Int) (wrap64 ((l2.length : Int) - 1)) a0_0 a0_1 a0_2 l0_3) = some true:=by first | (rw [hy270];with_reducible exact H) | (have H2_:=(Option.bind_some _ _).symm.trans H;rw [hy270];with_reducible exact H2_) | (have H2_:=(Option.bind_some _ _).symm.trans H;with_reducible exact H2_) | with_reducible exact H | (rw [hy270];exact H) | exact H
           have Ny270:=Aside0.mk hy270;clear hy270;have H':=Aside0.mk H;clear H;have hcz26_0 : wc.cell? ⟨gb258,0,none⟩ = some (.string a0_0):=(blk_cell BK258.out 0).trans rfl;have hcz26_1 : wc.cell? ⟨gb258,1,none⟩ = some (.int .i64 a0_1):=(blk_cell BK258.out 1).trans rfl;have hcz26_2 : wc.cell? ⟨gb258,2,none⟩ = some (.int .i64 a0_2):=(blk_cell BK258.out 2).trans rfl;have hcz26_3 : wc.cell? ⟨gb258,3,none⟩ = some (.slice A0_3 l0_3.length c0_3):=(blk_cell BK258.out 3).trans rfl;have hfz26_0:=blk_frozen BK258.out 0;have hfz26_1:=blk_frozen BK258.out 1;have hfz26_2:=blk_frozen BK258.out 2;have hfz26_3:=blk_frozen BK258.out 3
           try go_wp2_with (first | ((with_reducible refine gate_callee (f:=10) rfl ?_);refine goesL_ (some 38) rfl rfl Tryz.func10 (by kernel_rfl) rfl #[.agg #[.string a0_0,.int .i64 a0_1,.int .i64 a0_2,.slice A0_3 l0_3.length c0_3],.slice A1 l1.length c1,.slice A2 l2.length c2] rfl (by (try simp only [List.map_toArray,List.map_cons,List.map_nil]);first | done | rfl | (simp only [List.length_drop,List.length_take];rfl)) ?_;(with_reducible refine (limits_Check.calls kj4 a0_0 a0_1 a0_2 _ _ l0_3 _ _ l1 _ _ l2 t261 t264 _ ?side1 ?side2 ?side3 ?side4 ?side5 ?side6 ?side7 A16.out).mono ?_);(case side1 => repeat (first | exact (Kd.C_below HR0_3.out HB.out) | (with_reducible refine Kd.C_alloc ?_ _) | (with_reducible refine Kd.C_drewN ?_ _) | (with_reducible refine Kd.C_drew ?_)));(case side2 => exact HC0_3.out);(case side3 => repeat (first | exact (Kd.C_below HR1.out HB.out) | (with_reducible refine Kd.C_alloc ?_ _) | (with_reducible refine Kd.C_drewN ?_ _) | (with_reducible refine Kd.C_drew ?_)));(case side4 => exact HC1.out);(case side5 => repeat (first | exact (Kd.C_below HR2.out HB.out) | (with_reducible refine Kd.C_alloc ?_ _) | (with_reducible refine Kd.C_drewN ?_ _) | (with_reducible refine Kd.C_drew ?_)));(case side6 => exact HC2.out);(case side7 => exact Tabs.below HG.out (bl1 HB.out GE258.out));rintro e w27 ⟨v262,rfl,ho0,hb⟩;refine ⟨_,rfl,?_⟩;have n0_:=Aside0.mk (Kd.R_lower ho0 (below_size (bl1 HB.out GE258.out)));have n1_:=Aside0.mk (blk_below (g:=gb258) (o:=.cells #[.string a0_0,.int .i64 a0_1,.int .i64 a0_2,.slice A0_3 l0_3.length c0_3] 24 (0,0)) (bk BK258.out) hb);have n2_:=Aside0.mk (below_step (bl1 HB.out GE258.out) hb);clear BK258;clear HB;have HO263:=n0_;have BK258:=n1_;have HB:=n2_;clear n0_ n1_ n2_;(try clear hb);(try clear hk);(try clear ho0)))
           replace HO263:=Aside0.mk (Kd.R_drew HO263.out);replace BK258:=Aside0.mk (blk_drew BK258.out);replace HB:=Aside0.mk (below_drew1 HB.out);obtain ⟨i029,hi029,_,hsz29,_⟩:=info_parts info3;obtain ⟨hcut29,hA29,hC29⟩:=print_take_of (P:=Tryz.prog) (Value.int .i64) 0 26 3 .i64 Tryz.underlying26 hi029 hsz29 A2 c2 l2 (ji18) (of_decide_eq_true (by first | (with_reducible assumption) | assumption)) (of_decide_eq_true (by first | (with_reducible assumption) | assumption)) HC2.out;have HR265:=Aside0.mk (Kd.C_of_reads (h1:=fun _ => rfl) (hA29 _ (Kd.reads_of_C HR2.out)));have HC265:=Aside0.mk hC29;clear hA29 hC29 hi029 hsz29;obtain ⟨i030,hi030,_,hsz30,_⟩:=info_parts info3;obtain ⟨A30,hcut30,hA30,hC30⟩:=print_drop_of (P:=Tryz.prog) (Value.int .i64) 0 26 3 .i64 Tryz.underlying26 hi030 hsz30 A2 c2 l2 (ji22) (of_decide_eq_true (by first | (with_reducible assumption) | assumption)) (of_decide_eq_true (by first | (with_reducible assumption) | assumption)) HC2.out;have HR269:=Aside0.mk (Kd.C_of_reads (h1:=fun _ => rfl) (hA30 _ (Kd.reads_of_C HR2.out)));have HC269:=Aside0.mk hC30;clear hA30 hC30 hi030 hsz30;refine start_ (n:=11) (S:=fun w' => True) (ds:=[]) (pm 0 11) (by kernel_rfl) rfl rfl trivial (fun hHeld => ?_);refine with_tabW joustlaw30_LimitsFewer.tab6 joustlaw30_LimitsFewer.bits6 (fun HT_ HW_ => ?_);generalize w27.drew = w28 at HO263 BK258 HB HR265 HR269 hHeld ⊢;refine pure_ (i:=0) (N:=some 46) (v:=?_) (a':=?_) (pm 1 11) rfl rfl (any_of HT_.out (by kernel_rfl)) (fun _ _ _ h => h) (Or.inl ⟨by rfl,?_⟩) ?_ ?_;rotate_left
           ·intro w';go_simp;with_reducible rfl
           rotate_left
           ·simp only [Act.put,List.setIfInBounds_toArray,List.set_cons_zero,List.set_cons_succ,i64_w,i32_w];rfl
           refine pure_ (i:=1) (N:=some 47) (v:=?_) (a':=?_) (pm 2 11) rfl rfl (any_of HT_.out (by kernel_rfl)) (fun _ _ _ h => h) (Or.inl ⟨by rfl,?_⟩) ?_ ?_;rotate_left
           ·intro w';go_simp;with_reducible rfl
           rotate_left
           ·simp only [Act.put,List.setIfInBounds_toArray,List.set_cons_zero,List.set_cons_succ,i64_w,i32_w];rfl
           refine pure_ (i:=2) (N:=some 48) (v:=?_) (a':=?_) (pm 3 11) rfl rfl (any_of HT_.out (by kernel_rfl)) (fun _ _ _ h => h) (Or.inl ⟨by rfl,?_⟩) ?_ ?_;rotate_left
           ·intro w';go_simp;with_reducible rfl
           rotate_left
           ·simp only [Act.put,List.setIfInBounds_toArray,List.set_cons_zero,List.set_cons_succ,i64_w,i32_w];rfl
           refine pure_ (i:=3) (N:=some 49) (v:=?_) (a':=?_) (pm 4 11) rfl rfl (any_of HT_.out (by kernel_rfl)) (fun _ _ _ h => h) (Or.inl ⟨by rfl,?_⟩) ?_ ?_;rotate_left
           ·intro w';go_simp;with_reducible rfl
           rotate_left
           ·simp only [Act.put,List.setIfInBounds_toArray,List.set_cons_zero,List.set_cons_succ,i64_w,i32_w];rfl
           refine pure_ (i:=5) (N:=some 51) (v:=?_) (a':=?_) #[true,true,true,true,false,true,false,false,false,false,false] rfl rfl (any_of HT_.out (by kernel_rfl)) (fun _ _ _ h => h) (Or.inl ⟨by rfl,?_⟩) ?_ ?_;rotate_left
           ·intro w';go_simp;with_reducible rfl
           rotate_left
           ·simp only [Act.put,List.setIfInBounds_toArray,List.set_cons_zero,List.set_cons_succ,i64_w,i32_w];rfl
           refine pure_ (i:=6) (N:=some 52) (v:=?_) (a':=?_) #[true,true,true,true,false,true,true,false,false,false,false] rfl rfl (any_of HT_.out (by kernel_rfl)) (fun _ _ _ h => h) (Or.inl ⟨by rfl,?_⟩) ?_ ?_;rotate_left
           ·intro w';go_simp;with_reducible rfl
           rotate_left
           ·simp only [Act.put,List.setIfInBounds_toArray,List.set_cons_zero,List.set_cons_succ,i64_w,i32_w];rfl
           refine pure_ (i:=7) (N:=some 53) (v:=?_) (a':=?_) #[true,true,true,true,false,true,true,true,false,false,false] rfl rfl (any_of HT_.out (by kernel_rfl)) (fun _ _ _ h => h) (Or.inl ⟨by rfl,?_⟩) ?_ ?_;rotate_left
           ·intro w';go_simp;with_reducible rfl
           rotate_left
           ·simp only [Act.put,List.setIfInBounds_toArray,List.set_cons_zero,List.set_cons_succ,i64_w,i32_w];rfl
           refine pure_ (i:=8) (N:=some 54) (v:=?_) (a':=?_) #[true,true,true,true,false,true,true,true,true,false,false] rfl rfl (any_of HT_.out (by kernel_rfl)) (fun _ _ _ h => h) (Or.inl ⟨by rfl,?_⟩) ?_ ?_;rotate_left
           ·intro w';go_simp;with_reducible rfl
           rotate_left
           ·simp only [Act.put,List.setIfInBounds_toArray,List.set_cons_zero,List.set_cons_succ,i64_w,i32_w];rfl
           refine one_ (i:=4) (N:=some 50) (pm 9 11) rfl rfl (one_of HT_.out (by kernel_rfl)) (by decide) (fun K hK => ?_);refine Kd.R_append_rows_step (Kd.int .i64) (w0:=w) w.heap.size (by rfl) (.tmp 46) (.tmp 49) 26 3 (.int .i64 0) 8 rfl Tryz.underlying26 info3 rfl (by decide) (by omega) (.slice none 0 0) ([] : List Int) (l2.take ((ji18) : Int).toNat) _ _ _ (fun _ => True) (fun _ => False) rfl rfl ?aO ?aR (fun _ _ h => h) (fun _ h => h.elim) ?aF ?aB ?aS ?aL ?_
           (case aR => first | (have hx_:=Kd.C_below HR265.out HB.out;rw [show (l2.take ((ji18) : Int).toNat).length = (ji18).toNat from (by rw [List.length_take];have h_ : ((ji18) : Int) ≤ (l2.length : Int):=of_decide_eq_true (by first | (with_reducible assumption) | assumption);omega)] at hx_;exact hx_) | (rw [← show (l2.take ((ji18) : Int).toNat).length = (ji18).toNat from (by rw [List.length_take];have h_ : ((ji18) : Int) ≤ (l2.length : Int):=of_decide_eq_true (by first | (with_reducible assumption) | assumption);omega)];repeat (first | exact (Kd.C_below HR265.out HB.out) | (with_reducible refine Kd.C_alloc ?_ _) | (with_reducible refine Kd.C_drewN ?_ _) | (with_reducible refine Kd.C_drew ?_))))
           (case aB => exact (bl1 HB.out GE258.out))
           (case aF => exact (fun _ _ => trivial))
           (case aO => exact ((Kd.R_nil _ _ _ _ (fun _ => True))))
           (case aS => exact (below_size (bl1 HB.out GE258.out)))
           (case aL => have:=LMc21.out;have hlx_:=(show (l2.take ((ji18) : Int).toNat).length = (ji18).toNat from (by rw [List.length_take];have h_ : ((ji18) : Int) ≤ (l2.length : Int):=of_decide_eq_true (by first | (with_reducible assumption) | assumption);omega));omega)
           intro v267 w31 ho hb hg hat;rw [← Ny266.out] at ho;have n0_:=Aside0.mk (blk_grown (g:=gb258) (o:=.cells #[.string a0_0,.int .i64 a0_1,.int .i64 a0_2,.slice A0_3 l0_3.length c0_3] 24 (0,0)) (bk BK258.out) hg (by simp [Value.ownBlock]));have n1_:=Aside0.mk (Kd.R_grown (by (with_reducible repeat (first | apply Kd.R_alloc | apply Kd.R_drewN | apply Kd.R_drew));exact HO263.out) hg (fun _ _ => by simp [Value.ownBlock]));have n2_:=Aside0.mk (hb);have n3_:=Aside0.mk (ho);clear BK258;clear HO263;clear HB;have BK258:=n0_;have HO263:=n1_;have HB:=n2_;have HO268:=n3_;clear n0_ n1_ n2_ n3_;clear ho hb hg hat;refine hK.out _ _ trivial (fun hHeld => ?_);clear hK K;refine norm_ (a':=?_) ?_ ?_;rotate_left
           ·show Act.put _ (some 50) _ = _;simp only [Act.put,List.setIfInBounds_toArray,List.set_cons_zero,List.set_cons_succ,i64_w,i32_w];rfl
           refine one_ (i:=9) (N:=some 55) (pm 10 11) rfl rfl (one_of HT_.out (by kernel_rfl)) (by decide) (fun K hK => ?_);refine Kd.R_append_rows_step (Kd.int .i64) (w0:=w) w.heap.size (by rfl) (.tmp 50) (.tmp 54) 26 3 (.int .i64 0) 8 rfl Tryz.underlying26 info3 rfl (by decide) (by omega) v267 y266 (l2.drop ((ji22) : Int).toNat) _ _ _ (fun _ => True) (fun _ => False) rfl rfl ?aO ?aR (fun _ _ h => h) (fun _ h => h.elim) ?aF ?aB ?aS ?aL ?_
           (case aR => first | (have hx_:=Kd.C_below HR269.out HB.out;rw [show (l2.drop ((ji22) : Int).toNat).length = (l2.length - (ji22).toNat) from List.length_drop] at hx_;exact hx_) | (rw [← show (l2.drop ((ji22) : Int).toNat).length = (l2.length - (ji22).toNat) from List.length_drop];repeat (first | exact (Kd.C_below HR269.out HB.out) | (with_reducible refine Kd.C_alloc ?_ _) | (with_reducible refine Kd.C_drewN ?_ _) | (with_reducible refine Kd.C_drew ?_))))
           (case aB => exact (bl1 HB.out GE258.out))
           (case aF => exact (fun _ _ => trivial))
           (case aO => exact (by (with_reducible repeat (first | apply Kd.R_alloc | apply Kd.R_drewN | apply Kd.R_drew));exact HO268.out))
           (case aS => exact (below_size (bl1 HB.out GE258.out)))
           (case aL => have:=LMc25.out;have hlx_:=(show (l2.drop ((ji22) : Int).toNat).length = (l2.length - (ji22).toNat) from List.length_drop);omega)
           intro v271 w32 ho hb hg hat;rw [← Ny270.out] at ho;have n0_:=Aside0.mk (blk_grown (g:=gb258) (o:=.cells #[.string a0_0,.int .i64 a0_1,.int .i64 a0_2,.slice A0_3 l0_3.length c0_3] 24 (0,0)) (bk BK258.out) hg (Kd.R_ne HO268.out BK258.out (by decide)));have n1_:=Aside0.mk (Kd.R_over' (by (with_reducible repeat (first | apply Kd.R_alloc | apply Kd.R_drewN | apply Kd.R_drew));exact HO263.out) (Kd.R_typed (by (with_reducible repeat (first | apply Kd.R_alloc | apply Kd.R_drewN | apply Kd.R_drew));exact HO268.out)) (by decide) hg);have n2_:=Aside0.mk (hb);have n3_:=Aside0.mk (ho);clear BK258;clear HO263;clear HB;clear HO268;have BK258:=n0_;have HO263:=n1_;have HB:=n2_;have HO272:=n3_;clear n0_ n1_ n2_ n3_;clear ho hb hg hat;refine hK.out _ _ trivial (fun hHeld => ?_);clear hK K;refine norm_ (a':=?_) ?_ ?_;rotate_left
           ·show Act.put _ (some 55) _ = _;simp only [Act.put,List.setIfInBounds_toArray,List.set_cons_zero,List.set_cons_succ,i64_w,i32_w];rfl
           refine pure_ (i:=10) (N:=some 12) (v:=?_) (a':=?_) (pm 11 11) rfl rfl (any_of HT_.out (by kernel_rfl)) (fun _ _ _ h => h) (Or.inl ⟨by rfl,?_⟩) ?_ ?_;rotate_left
           ·intro w';go_simp;with_reducible rfl
           rotate_left
           ·simp only [Act.put,List.setIfInBounds_toArray,List.set_cons_zero,List.set_cons_succ,i64_w,i32_w];rfl
           refine done_ (done_of HT_.out (by kernel_rfl)) ?_
           try go_wp2
           (try simp only [Act.put,List.setIfInBounds_toArray,List.set_cons_zero,List.set_cons_succ])
           go_loopg [13,14] kj4 (fun kq v13 v14 w' => ∃ (x13_2 : List Int) (x14_2 : Int),v14 = .int .i64 x14_2 ∧ Aside0 (joustlaw30_LimitsFewer.l0 kq l1 l2 t261 t264 y270 x13_2 x14_2 a0_0 a0_1 a0_2 l0_3 = some true) ∧ Aside0 (kq ≤ kj4) ∧ Aside0 (Kd.R k35 35 w' w.heap.size (fun _ => True) v262 t261) ∧ Aside0 (Kd.R (Kd.int .i64) 3 w' w.heap.size (fun k_ => some k_ ≠ (v13 : Value).ownBlock) v271 y270) ∧ Aside0 (Kd.R (Kd.int .i64) 3 w' w.heap.size (fun k_ => some k_ ≠ (v271 : Value).ownBlock) v13 x13_2) ∧ Aside0 (w'.heap[gb258]? = some (.cells #[.string a0_0,.int .i64 a0_1,.int .i64 a0_2,(.slice A0_3 l0_3.length c0_3)] 24 (0,0))) ∧ Aside0 (Below w.heap.size w w'))
           case atStart => exact ⟨(([] : List Int)),(wrap64 ((l2.length : Int) - 1)),(by first | rfl | (simp;done) | (simp [*];done)),H',⟨Nat.le_refl _⟩,⟨by (with_reducible repeat (first | apply Kd.R_alloc | apply Kd.R_drewN | apply Kd.R_drew));exact HO263.out⟩,⟨by (with_reducible repeat (first | apply Kd.R_alloc | apply Kd.R_drewN | apply Kd.R_drew));exact Kd.R_mono HO272.out (fun _ hk => (by simp [Value.ownBlock]))⟩,⟨by first | exact Kd.R_nil _ _ _ _ _ | exact Kd.N_nil _ _ _ _ _ | exact Kd.V_nil _ _ _ _ _ | exact Kd.Q_nil _ _ _ _ _ | exact Kd.S_nil _ _ _ _ _⟩,⟨bk BK258.out⟩,⟨bl1 HB.out GE258.out⟩⟩
           case round =>
            clear H'
            try clear c1
            try clear c2
            try clear p2
            try clear c3
            try clear p6
            try clear c8
            try clear c9
            try clear c10
            try clear c13
            try clear c17
            try clear c17b0
            try clear c17b1
            try clear c17b2
            try clear c19
            try clear c19b0
            try clear c19b1
            try clear c20
            try clear c20b0
            try clear c20b1
            try clear c21
            try clear c23
            try clear c23b0
            try clear c23b1
            try clear c24
            try clear c24b0
            try clear c24b1
            try clear c25
            try clear hcz11_0
            try clear hcz11_1
            try clear hcz11_2
            try clear hcz11_3
            try clear hcz26_0
            try clear hcz26_1
            try clear hcz26_2
            try clear hcz26_3
            try clear hcz9_0
            try clear hcz9_1
            try clear hcz9_2
            try clear hcz9_3
            try clear hfz11_0
            try clear hfz11_1
            try clear hfz11_2
            try clear hfz11_3
            try clear hfz26_0
            try clear hfz26_1
            try clear hfz26_2
            try clear hfz26_3
            try clear hfz9_0
            try clear hfz9_1
            try clear hfz9_2
            try clear hfz9_3
            try clear p2
            obtain ⟨x13_2,x14_2,rfl,HA,HK2,HO_9,HO_12,HO_13,BK258,HB⟩:=hrel
            cases gk with
            | zero => exact absurd HA.out (by simp [joustlaw30_LimitsFewer.l0])
            | succ k2 =>
             have H:=HA.out;clear HA;simp only [joustlaw30_LimitsFewer.l0] at H
             by_cases c33 : x14_2 ≥ 0
             ·rw [if_pos c33] at H;have c33b0 : decide (0 ≤ x14_2) = true:=decide_eq_true c33;clear c33
              by_cases c34 : 0 ≤ x14_2
              ·rw [if_pos c34] at H;have c34b0 : decide (0 ≤ x14_2) = true:=decide_eq_true c34;clear c34
               by_cases c35 : x14_2 < (l2.length : Int)
               ·rw [if_pos c35] at H;have c35b0 : decide (x14_2 < (l2.length : Int)) = true:=decide_eq_true c35;clear c35
                by_cases c36 : x13_2.length < 17592186044416
                ·rw [if_pos c36] at H;have LMc36:=Aside0.mk c36;clear c36;obtain ⟨y274,hy274⟩ : ∃ y_ : List Int,y_ = (x13_2 ++ [rd l2 x14_2]):=⟨_,rfl⟩;replace H : (joustlaw30_LimitsFewer.l0 k2 l1 l2 t261 t264 y270 y274 (wrap64 (x14_2 - 1)) a0_0 a0_1 a0_2 l0_3) = some true:=by first | (rw [hy274];with_reducible exact H) | (have H2_:=(Option.bind_some _ _).symm.trans H;rw [hy274];with_reducible exact H2_) | (have H2_:=(Option.bind_some _ _).symm.trans H;with_reducible exact H2_) | with_reducible exact H | (rw [hy274];exact H) | exact H
                 have Ny274:=Aside0.mk hy274;clear hy274;have H':=Aside0.mk H;clear H;have p273 : 0 ≤ (x14_2 : Int):=of_decide_eq_true (by first | (with_reducible assumption) | assumption);have q273 : x14_2 < (l2.length : Int):=of_decide_eq_true (by first | (with_reducible assumption) | assumption);obtain ⟨ad273,e273,hx273_0⟩:=Kd.at_int HR2.out x14_2 p273 q273
                 cases e273
                 replace hx273_0:=(HB.out.cell (World.block_lt_of_cell? w _ hx273_0)).trans hx273_0;replace p273:=eq_true p273;replace q273:=eq_true q273
                 go_wp2_with (first | ((with_reducible refine gate_builtin (b:=.append) (xs:=#[.tmp 63,.tmp 68]) rfl ?_);(try (refine gate_guard (by rfl) ?_;dsimp only));at_builtin;refine Kd.R_append (Kd.int .i64) (w0:=w) w.heap.size rfl (.tmp 63) (.tmp 68) 26 3 (.int .i64 0) 8 rfl Tryz.underlying26 info3 rfl (by decide) (by omega) u13 x13_2 (rd l2 x14_2) [.int .i64 (rd l2 x14_2)] (fun k_ => some k_ ≠ (v271 : Value).ownBlock) (fun _ => False) rfl rfl ?aP (fun _ hk => hk.elim) ?aF ?aO ?aB ?aS ?aL ?_;(case aP => exact rfl);(case aB => exact (bl1 HB.out GE258.out));(case aF => exact (fun k_ hk => Kd.fresh' (Kd.R_lt (by (with_reducible repeat (first | apply Kd.R_alloc | apply Kd.R_drewN | apply Kd.R_drew));exact HO_12.out)) k_ hk));(case aO => exact (by (with_reducible repeat (first | apply Kd.R_alloc | apply Kd.R_drewN | apply Kd.R_drew));exact HO_13.out));(case aS => exact (below_size (bl1 HB.out GE258.out)));(case aL => have:=LMc36.out;omega);intro v275 w37 ho hb hg hat;rw [← Ny274.out] at ho;have n0_:=Aside0.mk (Kd.R_over' (by (with_reducible repeat (first | apply Kd.R_alloc | apply Kd.R_drewN | apply Kd.R_drew));exact HO_9.out) (Kd.R_typed (by (with_reducible repeat (first | apply Kd.R_alloc | apply Kd.R_drewN | apply Kd.R_drew));exact HO_13.out)) (by decide) hg);have n1_:=Aside0.mk (Kd.R_after (ok:=(fun _ => True)) (by (with_reducible repeat (first | apply Kd.R_alloc | apply Kd.R_drewN | apply Kd.R_drew));exact Kd.R_mono HO_12.out (fun _ hk => ⟨trivial,hk⟩)) hg hat);have n2_:=Aside0.mk (blk_grown (g:=gb258) (o:=.cells #[.string a0_0,.int .i64 a0_1,.int .i64 a0_2,.slice A0_3 l0_3.length c0_3] 24 (0,0)) (bk BK258.out) hg (Kd.R_ne HO_13.out BK258.out (by decide)));have n3_:=Aside0.mk (hb);have n4_:=Aside0.mk (ho);clear HO_9;clear HO_12;clear BK258;clear HB;clear HO_13;have HO_9:=n0_;have HO_12:=n1_;have BK258:=n2_;have HB:=n3_;have HO276:=n4_;clear n0_ n1_ n2_ n3_ n4_;clear ho hb hg hat))
                 go_roundg k2
                 case measure => have:=HJ4.out;have:=HK2.out;omega
                 case rel => exact ⟨(y274),(wrap64 (x14_2 - 1)),(by first | rfl | (simp;done) | (simp [*];done)),H',⟨by have:=HJ4.out;have:=HK2.out;omega⟩,⟨by (with_reducible repeat (first | apply Kd.R_alloc | apply Kd.R_drewN | apply Kd.R_drew));exact HO_9.out⟩,⟨by (with_reducible repeat (first | apply Kd.R_alloc | apply Kd.R_drewN | apply Kd.R_drew));exact Kd.R_mono HO_12.out (fun _ hk => hk.2)⟩,⟨by (with_reducible repeat (first | apply Kd.R_alloc | apply Kd.R_drewN | apply Kd.R_drew));exact HO276.out⟩,⟨bk BK258.out⟩,⟨bl1 HB.out GE258.out⟩⟩
                ·rw [if_neg c36] at H;exact absurd H (by simp)
               ·rw [if_neg c35] at H;exact absurd H (by simp)
              ·rw [if_neg c34] at H;exact absurd H (by simp)
             ·rw [if_neg c33] at H;have c33b0 : decide (0 ≤ x14_2) = false:=decide_eq_false c33;clear c33;replace H:=Option.bind_eq_some_iff.mp H;obtain ⟨⟨t277,t280⟩,A380,H⟩:=H;replace H : ((limits_Check.f k2 a0_0 a0_1 a0_2 l0_3 l1 x13_2).bind fun bt281 => (if t264 = 0 then (if t280 = 0 then (if bt281.2 = 0 then ((joustref30_Breaches.f k2 t261 bt281.1).bind fun t286 => (joustlaw30_LimitsFewer.j2 k2 l1 l2 t261 y270 t277 (!t286) a0_0 a0_1 a0_2 l0_3)) else (joustlaw30_LimitsFewer.j2 k2 l1 l2 t261 y270 t277 true a0_0 a0_1 a0_2 l0_3)) else (joustlaw30_LimitsFewer.j2 k2 l1 l2 t261 y270 t277 true a0_0 a0_1 a0_2 l0_3)) else (if (t261.length : Int) = 0 then (if bt281.2 = t264 then ((joustlaw30_lives.f k2).bind fun t285 => (some t285)) else (some false)) else (some false)))) = some true:=H;have A38:=Aside0.mk A380;clear A380;replace H:=Option.bind_eq_some_iff.mp H;obtain ⟨⟨t281,t284⟩,A390,H⟩:=H;replace H : (if t264 = 0 then (if t280 = 0 then (if t284 = 0 then ((joustref30_Breaches.f k2 t261 t281).bind fun t286 => (joustlaw30_LimitsFewer.j2 k2 l1 l2 t261 y270 t277 (!t286) a0_0 a0_1 a0_2 l0_3)) else (joustlaw30_LimitsFewer.j2 k2 l1 l2 t261 y270 t277 true a0_0 a0_1 a0_2 l0_3)) else (joustlaw30_LimitsFewer.j2 k2 l1 l2 t261 y270 t277 true a0_0 a0_1 a0_2 l0_3)) else (if (t261.length : Int) = 0 then (if t284 = t264 then ((joustlaw30_lives.f k2).bind fun t285 => (some t285)) else (some false)) else (some false))) = some true:=H;have A39:=Aside0.mk A390;clear A390
              by_cases c40 : t264 = 0
              ·rw [if_pos c40] at H;have c40b0 : (t264 == 0) = true:=beq_iff_eq.mpr c40;have c40b1 : (t264 != 0) = false:=bne_eq_false_iff_eq.mpr c40;clear c40;have HC41:=Aside0.mk H;clear H;have hcz42_0 : wr.cell? ⟨gb258,0,none⟩ = some (.string a0_0):=(blk_cell BK258.out 0).trans rfl;have hcz42_1 : wr.cell? ⟨gb258,1,none⟩ = some (.int .i64 a0_1):=(blk_cell BK258.out 1).trans rfl;have hcz42_2 : wr.cell? ⟨gb258,2,none⟩ = some (.int .i64 a0_2):=(blk_cell BK258.out 2).trans rfl;have hcz42_3 : wr.cell? ⟨gb258,3,none⟩ = some (.slice A0_3 l0_3.length c0_3):=(blk_cell BK258.out 3).trans rfl;have hfz42_0:=blk_frozen BK258.out 0;have hfz42_1:=blk_frozen BK258.out 1;have hfz42_2:=blk_frozen BK258.out 2;have hfz42_3:=blk_frozen BK258.out 3;obtain ⟨Ao43,co43,eo43⟩:=Kd.R_slice HO_12.out;subst eo43
               go_upto_region 15 with (first | ((with_reducible refine gate_callee (f:=10) rfl ?_);refine goesL_ (some 74) rfl rfl Tryz.func10 (by kernel_rfl) rfl #[.agg #[.string a0_0,.int .i64 a0_1,.int .i64 a0_2,.slice A0_3 l0_3.length c0_3],.slice A1 l1.length c1,.slice Ao43 y270.length co43] rfl (by (try simp only [List.map_toArray,List.map_cons,List.map_nil]);first | done | rfl | (simp only [List.length_drop,List.length_take];rfl)) ?_;(with_reducible refine (limits_Check.calls k2 a0_0 a0_1 a0_2 _ _ l0_3 _ _ l1 _ _ y270 t277 t280 _ ?side1 ?side2 ?side3 ?side4 ?side5 ?side6 ?side7 A38.out).mono ?_);(case side1 => repeat (first | exact (Kd.C_below HR0_3.out HB.out) | (with_reducible refine Kd.C_alloc ?_ _) | (with_reducible refine Kd.C_drewN ?_ _) | (with_reducible refine Kd.C_drew ?_)));(case side2 => exact HC0_3.out);(case side3 => repeat (first | exact (Kd.C_below HR1.out HB.out) | (with_reducible refine Kd.C_alloc ?_ _) | (with_reducible refine Kd.C_drewN ?_ _) | (with_reducible refine Kd.C_drew ?_)));(case side4 => exact HC1.out);(case side5 => repeat (first | exact (Kd.R_reads' HO_12.out).2.2 | (with_reducible refine Kd.C_alloc ?_ _) | (with_reducible refine Kd.C_drewN ?_ _) | (with_reducible refine Kd.C_drew ?_)));(case side6 => exact (Kd.R_reads' HO_12.out).2.1);(case side7 => exact Tabs.below HG.out (bl1 HB.out GE258.out));rintro e w44 ⟨v278,rfl,ho0,hb⟩;refine ⟨_,rfl,?_⟩;have n0_:=Aside0.mk (Kd.R_elder' (by (with_reducible repeat (first | apply Kd.R_alloc | apply Kd.R_drewN | apply Kd.R_drew));exact HO_9.out) (Kd.R_base ho0) hb);have n1_:=Aside0.mk (Kd.R_below (by (with_reducible repeat (first | apply Kd.R_alloc | apply Kd.R_drewN | apply Kd.R_drew));exact HO_12.out) hb);have n2_:=Aside0.mk (Kd.R_below (by (with_reducible repeat (first | apply Kd.R_alloc | apply Kd.R_drewN | apply Kd.R_drew));exact HO_13.out) hb);have n3_:=Aside0.mk (Kd.R_lower (Kd.R_new' ho0 (Kd.R_lt (by (with_reducible repeat (first | apply Kd.R_alloc | apply Kd.R_drewN | apply Kd.R_drew));exact HO_9.out))) (below_size (bl1 HB.out GE258.out)));have n4_:=Aside0.mk (blk_below (g:=gb258) (o:=.cells #[.string a0_0,.int .i64 a0_1,.int .i64 a0_2,.slice A0_3 l0_3.length c0_3] 24 (0,0)) (bk BK258.out) hb);have n5_:=Aside0.mk (below_step (bl1 HB.out GE258.out) hb);clear HO_9;clear HO_12;clear HO_13;clear BK258;clear HB;have HO_9:=n0_;have HO_12:=n1_;have HO_13:=n2_;have HO279:=n3_;have BK258:=n4_;have HB:=n5_;clear n0_ n1_ n2_ n3_ n4_ n5_;(try clear hb);(try clear hk);(try clear ho0);have hcz45_0 : w44.cell? ⟨gb258,0,none⟩ = some (.string a0_0):=(blk_cell BK258.out 0).trans rfl;have hcz45_1 : w44.cell? ⟨gb258,1,none⟩ = some (.int .i64 a0_1):=(blk_cell BK258.out 1).trans rfl;have hcz45_2 : w44.cell? ⟨gb258,2,none⟩ = some (.int .i64 a0_2):=(blk_cell BK258.out 2).trans rfl;have hcz45_3 : w44.cell? ⟨gb258,3,none⟩ = some (.slice A0_3 l0_3.length c0_3):=(blk_cell BK258.out 3).trans rfl;have hfz45_0:=blk_frozen BK258.out 0;have hfz45_1:=blk_frozen BK258.out 1;have hfz45_2:=blk_frozen BK258.out 2;have hfz45_3:=blk_frozen BK258.out 3;obtain ⟨Ao46,co46,eo46⟩:=Kd.R_slice HO_13.out;subst eo46) | ((with_reducible refine gate_callee (f:=10) rfl ?_);refine goesL_ (some 81) rfl rfl Tryz.func10 (by kernel_rfl) rfl #[.agg #[.string a0_0,.int .i64 a0_1,.int .i64 a0_2,.slice A0_3 l0_3.length c0_3],.slice A1 l1.length c1,.slice Ao46 x13_2.length co46] rfl (by (try simp only [List.map_toArray,List.map_cons,List.map_nil]);first | done | rfl | (simp only [List.length_drop,List.length_take];rfl)) ?_;(with_reducible refine (limits_Check.calls k2 a0_0 a0_1 a0_2 _ _ l0_3 _ _ l1 _ _ x13_2 t281 t284 _ ?side1 ?side2 ?side3 ?side4 ?side5 ?side6 ?side7 A39.out).mono ?_);(case side1 => repeat (first | exact (Kd.C_below HR0_3.out HB.out) | (with_reducible refine Kd.C_alloc ?_ _) | (with_reducible refine Kd.C_drewN ?_ _) | (with_reducible refine Kd.C_drew ?_)));(case side2 => exact HC0_3.out);(case side3 => repeat (first | exact (Kd.C_below HR1.out HB.out) | (with_reducible refine Kd.C_alloc ?_ _) | (with_reducible refine Kd.C_drewN ?_ _) | (with_reducible refine Kd.C_drew ?_)));(case side4 => exact HC1.out);(case side5 => repeat (first | exact (Kd.R_reads' HO_13.out).2.2 | (with_reducible refine Kd.C_alloc ?_ _) | (with_reducible refine Kd.C_drewN ?_ _) | (with_reducible refine Kd.C_drew ?_)));(case side6 => exact (Kd.R_reads' HO_13.out).2.1);(case side7 => exact Tabs.below HG.out (bl1 HB.out GE258.out));rintro e w47 ⟨v282,rfl,ho0,hb⟩;refine ⟨_,rfl,?_⟩;have n0_:=Aside0.mk (Kd.R_elder' (by (with_reducible repeat (first | apply Kd.R_alloc | apply Kd.R_drewN | apply Kd.R_drew));exact HO_9.out) (Kd.R_base ho0) hb);have n1_:=Aside0.mk (Kd.R_below (by (with_reducible repeat (first | apply Kd.R_alloc | apply Kd.R_drewN | apply Kd.R_drew));exact HO_12.out) hb);have n2_:=Aside0.mk (Kd.R_below (by (with_reducible repeat (first | apply Kd.R_alloc | apply Kd.R_drewN | apply Kd.R_drew));exact HO_13.out) hb);have n3_:=Aside0.mk (Kd.R_elder' (by (with_reducible repeat (first | apply Kd.R_alloc | apply Kd.R_drewN | apply Kd.R_drew));exact HO279.out) (Kd.R_base ho0) hb);have n4_:=Aside0.mk (Kd.R_lower (Kd.R_new' (Kd.R_new' ho0 (Kd.R_lt (by (with_reducible repeat (first | apply Kd.R_alloc | apply Kd.R_drewN | apply Kd.R_drew));exact HO_9.out))) (Kd.R_lt (by (with_reducible repeat (first | apply Kd.R_alloc | apply Kd.R_drewN | apply Kd.R_drew));exact HO279.out))) (below_size (bl1 HB.out GE258.out)));have n5_:=Aside0.mk (blk_below (g:=gb258) (o:=.cells #[.string a0_0,.int .i64 a0_1,.int .i64 a0_2,.slice A0_3 l0_3.length c0_3] 24 (0,0)) (bk BK258.out) hb);have n6_:=Aside0.mk (below_step (bl1 HB.out GE258.out) hb);clear HO_9;clear HO_12;clear HO_13;clear HO279;clear BK258;clear HB;have HO_9:=n0_;have HO_12:=n1_;have HO_13:=n2_;have HO279:=n3_;have HO283:=n4_;have BK258:=n5_;have HB:=n6_;clear n0_ n1_ n2_ n3_ n4_ n5_ n6_;(try clear hb);(try clear hk);(try clear ho0)))
               (try simp only [Act.put,List.setIfInBounds_toArray,List.set_cons_zero,List.set_cons_succ])
               go_cut [108] (fun v108 wc => ∃ (kq : Nat) (x108_40 : Bool),v108 = .bool x108_40 ∧ Aside0 (joustlaw30_LimitsFewer.j2 kq l1 l2 t261 y270 t277 x108_40 a0_0 a0_1 a0_2 l0_3 = some true) ∧ Aside0 (kq ≤ k2) ∧ Aside0 (Kd.R k35 35 wc w.heap.size (fun k_ => some k_ ≠ (v278 : Value).ownBlock) v262 t261) ∧ Aside0 (Kd.R (Kd.int .i64) 3 wc w.heap.size (fun _ => True) (.slice Ao43 y270.length co43) y270) ∧ Aside0 (Kd.R k35 35 wc w.heap.size (fun k_ => some k_ ≠ (v262 : Value).ownBlock) v278 t277) ∧ Aside0 (wc.heap[gb258]? = some (.cells #[.string a0_0,.int .i64 a0_1,.int .i64 a0_2,(.slice A0_3 l0_3.length c0_3)] 24 (0,0))) ∧ Aside0 (Below w.heap.size w wc))
               case first =>
                have H:=HC41.out;clear HC41
                by_cases c48 : t280 = 0
                ·rw [if_pos c48] at H;have c48b0 : (t280 == 0) = true:=beq_iff_eq.mpr c48;have c48b1 : (t280 != 0) = false:=bne_eq_false_iff_eq.mpr c48;clear c48
                 (first | rw [c48b0] | (simp only [i64_w,i32_w];rw [c48b0]) | skip)
                 by_cases c49 : t284 = 0
                 ·rw [if_pos c49] at H;have c49b0 : (t284 == 0) = true:=beq_iff_eq.mpr c49;have c49b1 : (t284 != 0) = false:=bne_eq_false_iff_eq.mpr c49;clear c49;replace H:=Option.bind_eq_some_iff.mp H;obtain ⟨t286,A500,H⟩:=H;replace H : (joustlaw30_LimitsFewer.j2 k2 l1 l2 t261 y270 t277 (!t286) a0_0 a0_1 a0_2 l0_3) = some true:=H;have A50:=Aside0.mk A500;clear A500;have H':=Aside0.mk H;clear H;obtain ⟨Ao51,co51,eo51⟩:=Kd.R_slice HO_9.out;subst eo51;obtain ⟨Ao52,co52,eo52⟩:=Kd.R_slice HO283.out;subst eo52
                  go_wp2_with (first | (go_at_call 11;(with_reducible refine (joustref30_Breaches.calls k2 _ _ t261 _ _ t281 t286 _ ?side1 ?side2 ?side3 ?side4 A50.out).mono ?_);(case side1 => repeat (first | exact (Kd.R_reads' HO_9.out).2.2 | (with_reducible refine Kd.C_alloc ?_ _) | (with_reducible refine Kd.C_drewN ?_ _) | (with_reducible refine Kd.C_drew ?_)));(case side2 => exact (Kd.R_reads' HO_9.out).2.1);(case side3 => repeat (first | exact (Kd.R_reads' HO283.out).2.2 | (with_reducible refine Kd.C_alloc ?_ _) | (with_reducible refine Kd.C_drewN ?_ _) | (with_reducible refine Kd.C_drew ?_)));(case side4 => exact (Kd.R_reads' HO283.out).2.1);rintro e w' ⟨rfl,⟨nd,rfl⟩⟩))
                  go_meet
                  case rel => exact ⟨_,(!t286),(by first | rfl | (simp;done) | (simp [*];done)),H',⟨by have:=HJ4.out;have:=HK2.out;first | omega | exact Nat.le_refl _⟩,⟨by (with_reducible repeat (first | apply Kd.R_alloc | apply Kd.R_drewN | apply Kd.R_drew));exact Kd.R_mono HO_9.out (fun _ hk => hk.1.2)⟩,⟨by (with_reducible repeat (first | apply Kd.R_alloc | apply Kd.R_drewN | apply Kd.R_drew));exact Kd.R_mono HO_12.out (fun _ hk => trivial)⟩,⟨by (with_reducible repeat (first | apply Kd.R_alloc | apply Kd.R_drewN | apply Kd.R_drew));exact Kd.R_mono HO279.out (fun _ hk => hk.1.2)⟩,⟨bk BK258.out⟩,⟨bl1 HB.out GE258.out⟩⟩
                 ·rw [if_neg c49] at H;have c49b0 : (t284 == 0) = false:=beq_eq_false_iff_ne.mpr c49;have c49b1 : (t284 != 0) = true:=bne_iff_ne.mpr c49;have H':=Aside0.mk H;clear H
                  go_wp2
                  go_meet
                  case rel => exact ⟨_,(true),(by first | rfl | (simp;done) | (simp [*];done)),H',⟨by have:=HJ4.out;have:=HK2.out;first | omega | exact Nat.le_refl _⟩,⟨by (with_reducible repeat (first | apply Kd.R_alloc | apply Kd.R_drewN | apply Kd.R_drew));exact Kd.R_mono HO_9.out (fun _ hk => hk.1.2)⟩,⟨by (with_reducible repeat (first | apply Kd.R_alloc | apply Kd.R_drewN | apply Kd.R_drew));exact Kd.R_mono HO_12.out (fun _ hk => trivial)⟩,⟨by (with_reducible repeat (first | apply Kd.R_alloc | apply Kd.R_drewN | apply Kd.R_drew));exact Kd.R_mono HO279.out (fun _ hk => hk.1.2)⟩,⟨bk BK258.out⟩,⟨bl1 HB.out GE258.out⟩⟩
                ·rw [if_neg c48] at H;have c48b0 : (t280 == 0) = false:=beq_eq_false_iff_ne.mpr c48;have c48b1 : (t280 != 0) = true:=bne_iff_ne.mpr c48
                 (first | rw [c48b0] | (simp only [i64_w,i32_w];rw [c48b0]) | skip)
                 have H':=Aside0.mk H;clear H
                 go_wp2
                 go_meet
                 case rel => exact ⟨_,(true),(by first | rfl | (simp;done) | (simp [*];done)),H',⟨by have:=HJ4.out;have:=HK2.out;first | omega | exact Nat.le_refl _⟩,⟨by (with_reducible repeat (first | apply Kd.R_alloc | apply Kd.R_drewN | apply Kd.R_drew));exact Kd.R_mono HO_9.out (fun _ hk => hk.1.2)⟩,⟨by (with_reducible repeat (first | apply Kd.R_alloc | apply Kd.R_drewN | apply Kd.R_drew));exact Kd.R_mono HO_12.out (fun _ hk => trivial)⟩,⟨by (with_reducible repeat (first | apply Kd.R_alloc | apply Kd.R_drewN | apply Kd.R_drew));exact Kd.R_mono HO279.out (fun _ hk => hk.1.2)⟩,⟨bk BK258.out⟩,⟨bl1 HB.out GE258.out⟩⟩
               case rest =>
                clear HC41
                try clear c1
                try clear c2
                try clear p2
                try clear q2
                try clear hx2
                try clear c3
                try clear c4
                try clear p6
                try clear c8
                try clear c9
                try clear c10
                try clear c13
                try clear c17
                try clear c17b0
                try clear c17b1
                try clear c17b2
                try clear c19
                try clear c19b0
                try clear c19b1
                try clear c20
                try clear c20b0
                try clear c20b1
                try clear c21
                try clear c23
                try clear c23b0
                try clear c23b1
                try clear c24
                try clear c24b0
                try clear c24b1
                try clear c25
                try clear p27
                try clear q27
                try clear hx27
                try clear c33
                try clear c33b0
                try clear c34
                try clear c34b0
                try clear c35
                try clear c35b0
                try clear c36
                try clear c40
                try clear c40b0
                try clear c40b1
                try clear c48
                try clear c48b0
                try clear c48b1
                try clear c49
                try clear c49b0
                try clear c49b1
                try clear hcz11_0
                try clear hcz11_1
                try clear hcz11_2
                try clear hcz11_3
                try clear hcz26_0
                try clear hcz26_1
                try clear hcz26_2
                try clear hcz26_3
                try clear hcz42_0
                try clear hcz42_1
                try clear hcz42_2
                try clear hcz42_3
                try clear hcz45_0
                try clear hcz45_1
                try clear hcz45_2
                try clear hcz45_3
                try clear hcz9_0
                try clear hcz9_1
                try clear hcz9_2
                try clear hcz9_3
                try clear hfz11_0
                try clear hfz11_1
                try clear hfz11_2
                try clear hfz11_3
                try clear hfz26_0
                try clear hfz26_1
                try clear hfz26_2
                try clear hfz26_3
                try clear hfz42_0
                try clear hfz42_1
                try clear hfz42_2
                try clear hfz42_3
                try clear hfz45_0
                try clear hfz45_1
                try clear hfz45_2
                try clear hfz45_3
                try clear hfz9_0
                try clear hfz9_1
                try clear hfz9_2
                try clear hfz9_3
                try clear hx273_0
                try clear p2
                try clear p273
                try clear p6
                try clear q273
                obtain ⟨kq,x108_40,rfl,HA,HJ40,HO_9,HO_12,HO_15,BK258,HB⟩:=hcut
                cases kq with
                | zero => exact absurd HA.out (by simp [joustlaw30_LimitsFewer.j2])
                | succ kj40 =>
                 have H:=HA.out;clear HA;simp only [joustlaw30_LimitsFewer.j2] at H
                 by_cases c53 : x108_40 = true
                 ·subst c53;have H1 : (some false) = some true:=by rw [if_pos rfl] at H;exact H
                  clear H;have H:=H1;clear H1;exact absurd H (by simp)
                 ·replace c53:=Bool.eq_false_iff.mpr c53;subst c53;have H1 : (joustlaw30_LimitsFewer.l1 kj40 l1 l2 t261 y270 t277 (t277.length : Int) 0 a0_0 a0_1 a0_2 l0_3) = some true:=by rw [if_neg (show ¬ (false = true) by decide)] at H;exact H
                  clear H;have H:=H1;clear H1;have H':=Aside0.mk H;clear H;obtain ⟨Ao54,co54,eo54⟩:=Kd.R_slice HO_15.out;subst eo54
                  go_wp2
                  (try simp only [Act.put,List.setIfInBounds_toArray,List.set_cons_zero,List.set_cons_succ])
                  go_loopg [111] kj40 (fun kq v111 w' => ∃ (x111_4 : Int),v111 = .int .i64 x111_4 ∧ Aside0 (joustlaw30_LimitsFewer.l1 kq l1 l2 t261 y270 t277 (t277.length : Int) x111_4 a0_0 a0_1 a0_2 l0_3 = some true) ∧ Aside0 (kq ≤ kj40) ∧ Aside0 (Kd.R k35 35 w' w.heap.size (fun k_ => some k_ ≠ ((.slice Ao54 t277.length co54) : Value).ownBlock) v262 t261) ∧ Aside0 (Kd.R (Kd.int .i64) 3 w' w.heap.size (fun _ => True) (.slice Ao43 y270.length co43) y270) ∧ Aside0 (Kd.R k35 35 w' w.heap.size (fun k_ => some k_ ≠ (v262 : Value).ownBlock) (.slice Ao54 t277.length co54) t277) ∧ Aside0 (w'.heap[gb258]? = some (.cells #[.string a0_0,.int .i64 a0_1,.int .i64 a0_2,(.slice A0_3 l0_3.length c0_3)] 24 (0,0))) ∧ Aside0 (Below w.heap.size w w'))
                  case atStart => exact ⟨(0),(by first | rfl | (simp;done) | (simp [*];done)),H',⟨Nat.le_refl _⟩,⟨by (with_reducible repeat (first | apply Kd.R_alloc | apply Kd.R_drewN | apply Kd.R_drew));exact HO_9.out⟩,⟨by (with_reducible repeat (first | apply Kd.R_alloc | apply Kd.R_drewN | apply Kd.R_drew));exact HO_12.out⟩,⟨by (with_reducible repeat (first | apply Kd.R_alloc | apply Kd.R_drewN | apply Kd.R_drew));exact HO_15.out⟩,⟨bk BK258.out⟩,⟨bl1 HB.out GE258.out⟩⟩
                  case round =>
                   clear H'
                   try clear c1
                   try clear c2
                   try clear p2
                   try clear q2
                   try clear hx2
                   try clear c3
                   try clear c4
                   try clear c5
                   try clear p6
                   try clear c8
                   try clear c9
                   try clear c10
                   try clear c13
                   try clear c17
                   try clear c17b0
                   try clear c17b1
                   try clear c17b2
                   try clear c19
                   try clear c19b0
                   try clear c19b1
                   try clear c20
                   try clear c20b0
                   try clear c20b1
                   try clear c21
                   try clear c23
                   try clear c23b0
                   try clear c23b1
                   try clear c24
                   try clear c24b0
                   try clear c24b1
                   try clear c25
                   try clear p27
                   try clear q27
                   try clear hx27
                   try clear c33
                   try clear c33b0
                   try clear c34
                   try clear c34b0
                   try clear c35
                   try clear c35b0
                   try clear c36
                   try clear c40
                   try clear c40b0
                   try clear c40b1
                   try clear c48
                   try clear c48b0
                   try clear c48b1
                   try clear c49
                   try clear c49b0
                   try clear c49b1
                   try clear c53
                   try clear hcz11_0
                   try clear hcz11_1
                   try clear hcz11_2
                   try clear hcz11_3
                   try clear hcz26_0
                   try clear hcz26_1
                   try clear hcz26_2
                   try clear hcz26_3
                   try clear hcz42_0
                   try clear hcz42_1
                   try clear hcz42_2
                   try clear hcz42_3
                   try clear hcz45_0
                   try clear hcz45_1
                   try clear hcz45_2
                   try clear hcz45_3
                   try clear hcz9_0
                   try clear hcz9_1
                   try clear hcz9_2
                   try clear hcz9_3
                   try clear hfz11_0
                   try clear hfz11_1
                   try clear hfz11_2
                   try clear hfz11_3
                   try clear hfz26_0
                   try clear hfz26_1
                   try clear hfz26_2
                   try clear hfz26_3
                   try clear hfz42_0
                   try clear hfz42_1
                   try clear hfz42_2
                   try clear hfz42_3
                   try clear hfz45_0
                   try clear hfz45_1
                   try clear hfz45_2
                   try clear hfz45_3
                   try clear hfz9_0
                   try clear hfz9_1
                   try clear hfz9_2
                   try clear hfz9_3
                   try clear hx273_0
                   try clear p2
                   try clear p27
                   try clear p273
                   try clear p6
                   try clear q2
                   try clear q27
                   try clear q273
                   obtain ⟨x111_4,rfl,HA,HK4,HO_9,HO_12,HO_15,BK258,HB⟩:=hrel
                   cases gk with
                   | zero => exact absurd HA.out (by simp [joustlaw30_LimitsFewer.l1])
                   | succ k4 =>
                    have H:=HA.out;clear HA;simp only [joustlaw30_LimitsFewer.l1] at H
                    by_cases c55 : x111_4 < (t277.length : Int)
                    ·rw [if_pos c55] at H;have c55b0 : decide (x111_4 < (t277.length : Int)) = true:=decide_eq_true c55;clear c55
                     by_cases c56 : 0 ≤ x111_4
                     ·rw [if_pos c56] at H;have c56b0 : decide (0 ≤ x111_4) = true:=decide_eq_true c56;clear c56
                      by_cases c57 : x111_4 < (t277.length : Int)
                      ·rw [if_pos c57] at H;have c57b0 : decide (x111_4 < (t277.length : Int)) = true:=decide_eq_true c57;clear c57
                       by_cases c58 : ((rd_T35 t277 x111_4).f0) = 2
                       ·rw [if_pos c58] at H;have c58b0 : (((rd_T35 t277 x111_4).f0) == 2) = true:=beq_iff_eq.mpr c58;have c58b1 : (((rd_T35 t277 x111_4).f0) != 2) = false:=bne_eq_false_iff_eq.mpr c58;clear c58;have H':=Aside0.mk H;clear H;have p287 : 0 ≤ (x111_4 : Int):=of_decide_eq_true (by first | (with_reducible assumption) | assumption);have q287 : x111_4 < (t277.length : Int):=of_decide_eq_true (by first | (with_reducible assumption) | assumption);obtain ⟨ad287,e287,hx287_0,hx287_1⟩:=at_T35 (Kd.R_reads' HO_15.out).2.2 x111_4 p287 q287
                        cases e287
                        replace p287:=eq_true p287;replace q287:=eq_true q287
                        go_wp2
                        go_roundg k4
                        case measure => have:=HJ4.out;have:=HK2.out;have:=HJ40.out;have:=HK4.out;omega
                        case rel => exact ⟨(wrap64 (x111_4 + 1)),(by first | rfl | (simp;done) | (simp [*];done)),H',⟨by have:=HJ4.out;have:=HK2.out;have:=HJ40.out;have:=HK4.out;omega⟩,⟨by (with_reducible repeat (first | apply Kd.R_alloc | apply Kd.R_drewN | apply Kd.R_drew));exact HO_9.out⟩,⟨by (with_reducible repeat (first | apply Kd.R_alloc | apply Kd.R_drewN | apply Kd.R_drew));exact HO_12.out⟩,⟨by (with_reducible repeat (first | apply Kd.R_alloc | apply Kd.R_drewN | apply Kd.R_drew));exact HO_15.out⟩,⟨bk BK258.out⟩,⟨bl1 HB.out GE258.out⟩⟩
                       ·rw [if_neg c58] at H;have c58b0 : (((rd_T35 t277 x111_4).f0) == 2) = false:=beq_eq_false_iff_ne.mpr c58;have c58b1 : (((rd_T35 t277 x111_4).f0) != 2) = true:=bne_iff_ne.mpr c58;replace H:=Option.bind_eq_some_iff.mp H;obtain ⟨t289,A590,H⟩:=H;replace H : (if t289 = true then (joustlaw30_LimitsFewer.l1 k4 l1 l2 t261 y270 t277 (t277.length : Int) (wrap64 (x111_4 + 1)) a0_0 a0_1 a0_2 l0_3) else (some false)) = some true:=H;have A59:=Aside0.mk A590;clear A590
                        by_cases c60 : t289 = true
                        ·subst c60;have H1 : (joustlaw30_LimitsFewer.l1 k4 l1 l2 t261 y270 t277 (t277.length : Int) (wrap64 (x111_4 + 1)) a0_0 a0_1 a0_2 l0_3) = some true:=by rw [if_pos rfl] at H;exact H
                         clear H;have H:=H1;clear H1;have H':=Aside0.mk H;clear H;have p287 : 0 ≤ (x111_4 : Int):=of_decide_eq_true (by first | (with_reducible assumption) | assumption);have q287 : x111_4 < (t277.length : Int):=of_decide_eq_true (by first | (with_reducible assumption) | assumption);obtain ⟨ad287,e287,hx287_0,hx287_1⟩:=at_T35 (Kd.R_reads' HO_15.out).2.2 x111_4 p287 q287
                         cases e287
                         replace p287:=eq_true p287;replace q287:=eq_true q287;have p288 : 0 ≤ (x111_4 : Int):=of_decide_eq_true (by first | (with_reducible assumption) | assumption);have q288 : x111_4 < (t277.length : Int):=of_decide_eq_true (by first | (with_reducible assumption) | assumption);obtain ⟨ad288,e288,hx288_0,hx288_1⟩:=at_T35 (Kd.R_reads' HO_15.out).2.2 x111_4 p288 q288;obtain rfl : ad287 = ad288:=(by injection e288);replace p288:=eq_true p288;replace q288:=eq_true q288;obtain ⟨Ao61,co61,eo61⟩:=Kd.R_slice HO_9.out;subst eo61
                         go_wp2_with (first | (go_at_call 12;(with_reducible refine (joustlaw30_in.calls k4 _ _ t261 ((rd_T35 t277 x111_4).f0) ((rd_T35 t277 x111_4).f1) true _ ?side1 ?side2 A59.out).mono ?_);(case side1 => repeat (first | exact (Kd.R_reads' HO_9.out).2.2 | (with_reducible refine Kd.C_alloc ?_ _) | (with_reducible refine Kd.C_drewN ?_ _) | (with_reducible refine Kd.C_drew ?_)));(case side2 => exact (Kd.R_reads' HO_9.out).2.1);rintro e w62 ⟨rfl,hb⟩;replace HO_9:=Aside0.mk (Kd.R_below (by (with_reducible repeat (first | apply Kd.R_alloc | apply Kd.R_drewN | apply Kd.R_drew));exact HO_9.out) hb);replace HO_12:=Aside0.mk (Kd.R_below (by (with_reducible repeat (first | apply Kd.R_alloc | apply Kd.R_drewN | apply Kd.R_drew));exact HO_12.out) hb);replace HO_15:=Aside0.mk (Kd.R_below (by (with_reducible repeat (first | apply Kd.R_alloc | apply Kd.R_drewN | apply Kd.R_drew));exact HO_15.out) hb);replace BK258:=Aside0.mk (blk_below (g:=gb258) (o:=.cells #[.string a0_0,.int .i64 a0_1,.int .i64 a0_2,.slice A0_3 l0_3.length c0_3] 24 (0,0)) (bk BK258.out) hb);replace HB:=Aside0.mk (below_step (bl1 HB.out GE258.out) hb);(try clear hb);(try clear hk)))
                         go_roundg k4
                         case measure => have:=HJ4.out;have:=HK2.out;have:=HJ40.out;have:=HK4.out;omega
                         case rel => exact ⟨(wrap64 (x111_4 + 1)),(by first | rfl | (simp;done) | (simp [*];done)),H',⟨by have:=HJ4.out;have:=HK2.out;have:=HJ40.out;have:=HK4.out;omega⟩,⟨by (with_reducible repeat (first | apply Kd.R_alloc | apply Kd.R_drewN | apply Kd.R_drew));exact HO_9.out⟩,⟨by (with_reducible repeat (first | apply Kd.R_alloc | apply Kd.R_drewN | apply Kd.R_drew));exact HO_12.out⟩,⟨by (with_reducible repeat (first | apply Kd.R_alloc | apply Kd.R_drewN | apply Kd.R_drew));exact HO_15.out⟩,⟨bk BK258.out⟩,⟨bl1 HB.out GE258.out⟩⟩
                        ·replace c60:=Bool.eq_false_iff.mpr c60;subst c60;have H1 : (some false) = some true:=by rw [if_neg (show ¬ (false = true) by decide)] at H;exact H
                         clear H;have H:=H1;clear H1;exact absurd H (by simp)
                      ·rw [if_neg c57] at H;exact absurd H (by simp)
                     ·rw [if_neg c56] at H;exact absurd H (by simp)
                    ·rw [if_neg c55] at H;have c55b0 : decide (x111_4 < (t277.length : Int)) = false:=decide_eq_false c55;clear c55;replace H:=Option.bind_eq_some_iff.mp H;obtain ⟨⟨t290,t291⟩,A630,H⟩:=H;replace H : ((limits_Cost.f k4 a0_0 a0_1 a0_2 l0_3 l1 y270).bind fun bt292 => (if t290 ≥ bt292.1 then ((joustlaw30_lives.f k4).bind fun t294 => (some t294)) else (some false))) = some true:=H;have A63:=Aside0.mk A630;clear A630;replace H:=Option.bind_eq_some_iff.mp H;obtain ⟨⟨t292,t293⟩,A640,H⟩:=H;replace H : (if t290 ≥ t292 then ((joustlaw30_lives.f k4).bind fun t294 => (some t294)) else (some false)) = some true:=H;have A64:=Aside0.mk A640;clear A640
                     by_cases c65 : t290 ≥ t292
                     ·rw [if_pos c65] at H;have c65b0 : decide (t292 ≤ t290) = true:=decide_eq_true c65;clear c65;replace H:=Option.bind_eq_some_iff.mp H;obtain ⟨t294,A660,H⟩:=H;replace H : (some t294) = some true:=H;have A66:=Aside0.mk A660;clear A660;have hT_:=Option.some.inj H;have hcz67_0 : wr.cell? ⟨gb258,0,none⟩ = some (.string a0_0):=(blk_cell BK258.out 0).trans rfl;have hcz67_1 : wr.cell? ⟨gb258,1,none⟩ = some (.int .i64 a0_1):=(blk_cell BK258.out 1).trans rfl;have hcz67_2 : wr.cell? ⟨gb258,2,none⟩ = some (.int .i64 a0_2):=(blk_cell BK258.out 2).trans rfl;have hcz67_3 : wr.cell? ⟨gb258,3,none⟩ = some (.slice A0_3 l0_3.length c0_3):=(blk_cell BK258.out 3).trans rfl;have hfz67_0:=blk_frozen BK258.out 0;have hfz67_1:=blk_frozen BK258.out 1;have hfz67_2:=blk_frozen BK258.out 2;have hfz67_3:=blk_frozen BK258.out 3
                      go_wp2_with (first | ((with_reducible refine gate_callee (f:=13) rfl ?_);refine goesL_ (some 134) rfl rfl Tryz.func13 (by kernel_rfl) rfl #[.agg #[.string a0_0,.int .i64 a0_1,.int .i64 a0_2,.slice A0_3 l0_3.length c0_3],.slice A1 l1.length c1,.slice A2 l2.length c2] rfl (by (try simp only [List.map_toArray,List.map_cons,List.map_nil]);first | done | rfl | (simp only [List.length_drop,List.length_take];rfl)) ?_;(with_reducible refine (limits_Cost.calls k4 a0_0 a0_1 a0_2 _ _ l0_3 _ _ l1 _ _ l2 t290 t291 _ ?side1 ?side2 ?side3 ?side4 ?side5 ?side6 ?side7 A63.out).mono ?_);(case side1 => repeat (first | exact (Kd.C_below HR0_3.out HB.out) | (with_reducible refine Kd.C_alloc ?_ _) | (with_reducible refine Kd.C_drewN ?_ _) | (with_reducible refine Kd.C_drew ?_)));(case side2 => exact HC0_3.out);(case side3 => repeat (first | exact (Kd.C_below HR1.out HB.out) | (with_reducible refine Kd.C_alloc ?_ _) | (with_reducible refine Kd.C_drewN ?_ _) | (with_reducible refine Kd.C_drew ?_)));(case side4 => exact HC1.out);(case side5 => repeat (first | exact (Kd.C_below HR2.out HB.out) | (with_reducible refine Kd.C_alloc ?_ _) | (with_reducible refine Kd.C_drewN ?_ _) | (with_reducible refine Kd.C_drew ?_)));(case side6 => exact HC2.out);(case side7 => exact Tabs.below HG.out (bl1 HB.out GE258.out));rintro e w68 ⟨rfl,hb⟩;refine ⟨_,rfl,?_⟩;replace HO_9:=Aside0.mk (Kd.R_below (by (with_reducible repeat (first | apply Kd.R_alloc | apply Kd.R_drewN | apply Kd.R_drew));exact HO_9.out) hb);replace HO_12:=Aside0.mk (Kd.R_below (by (with_reducible repeat (first | apply Kd.R_alloc | apply Kd.R_drewN | apply Kd.R_drew));exact HO_12.out) hb);replace HO_15:=Aside0.mk (Kd.R_below (by (with_reducible repeat (first | apply Kd.R_alloc | apply Kd.R_drewN | apply Kd.R_drew));exact HO_15.out) hb);replace BK258:=Aside0.mk (blk_below (g:=gb258) (o:=.cells #[.string a0_0,.int .i64 a0_1,.int .i64 a0_2,.slice A0_3 l0_3.length c0_3] 24 (0,0)) (bk BK258.out) hb);replace HB:=Aside0.mk (below_step (bl1 HB.out GE258.out) hb);(try clear hb);(try clear hk);have hcz69_0 : w68.cell? ⟨gb258,0,none⟩ = some (.string a0_0):=(blk_cell BK258.out 0).trans rfl;have hcz69_1 : w68.cell? ⟨gb258,1,none⟩ = some (.int .i64 a0_1):=(blk_cell BK258.out 1).trans rfl;have hcz69_2 : w68.cell? ⟨gb258,2,none⟩ = some (.int .i64 a0_2):=(blk_cell BK258.out 2).trans rfl;have hcz69_3 : w68.cell? ⟨gb258,3,none⟩ = some (.slice A0_3 l0_3.length c0_3):=(blk_cell BK258.out 3).trans rfl;have hfz69_0:=blk_frozen BK258.out 0;have hfz69_1:=blk_frozen BK258.out 1;have hfz69_2:=blk_frozen BK258.out 2;have hfz69_3:=blk_frozen BK258.out 3) | ((with_reducible refine gate_callee (f:=13) rfl ?_);refine goesL_ (some 141) rfl rfl Tryz.func13 (by kernel_rfl) rfl #[.agg #[.string a0_0,.int .i64 a0_1,.int .i64 a0_2,.slice A0_3 l0_3.length c0_3],.slice A1 l1.length c1,.slice Ao43 y270.length co43] rfl (by (try simp only [List.map_toArray,List.map_cons,List.map_nil]);first | done | rfl | (simp only [List.length_drop,List.length_take];rfl)) ?_;(with_reducible refine (limits_Cost.calls k4 a0_0 a0_1 a0_2 _ _ l0_3 _ _ l1 _ _ y270 t292 t293 _ ?side1 ?side2 ?side3 ?side4 ?side5 ?side6 ?side7 A64.out).mono ?_);(case side1 => repeat (first | exact (Kd.C_below HR0_3.out HB.out) | (with_reducible refine Kd.C_alloc ?_ _) | (with_reducible refine Kd.C_drewN ?_ _) | (with_reducible refine Kd.C_drew ?_)));(case side2 => exact HC0_3.out);(case side3 => repeat (first | exact (Kd.C_below HR1.out HB.out) | (with_reducible refine Kd.C_alloc ?_ _) | (with_reducible refine Kd.C_drewN ?_ _) | (with_reducible refine Kd.C_drew ?_)));(case side4 => exact HC1.out);(case side5 => repeat (first | exact (Kd.R_reads' HO_12.out).2.2 | (with_reducible refine Kd.C_alloc ?_ _) | (with_reducible refine Kd.C_drewN ?_ _) | (with_reducible refine Kd.C_drew ?_)));(case side6 => exact (Kd.R_reads' HO_12.out).2.1);(case side7 => exact Tabs.below HG.out (bl1 HB.out GE258.out));rintro e w70 ⟨rfl,hb⟩;refine ⟨_,rfl,?_⟩;replace HO_9:=Aside0.mk (Kd.R_below (by (with_reducible repeat (first | apply Kd.R_alloc | apply Kd.R_drewN | apply Kd.R_drew));exact HO_9.out) hb);replace HO_12:=Aside0.mk (Kd.R_below (by (with_reducible repeat (first | apply Kd.R_alloc | apply Kd.R_drewN | apply Kd.R_drew));exact HO_12.out) hb);replace HO_15:=Aside0.mk (Kd.R_below (by (with_reducible repeat (first | apply Kd.R_alloc | apply Kd.R_drewN | apply Kd.R_drew));exact HO_15.out) hb);replace BK258:=Aside0.mk (blk_below (g:=gb258) (o:=.cells #[.string a0_0,.int .i64 a0_1,.int .i64 a0_2,.slice A0_3 l0_3.length c0_3] 24 (0,0)) (bk BK258.out) hb);replace HB:=Aside0.mk (below_step (bl1 HB.out GE258.out) hb);(try clear hb);(try clear hk)) | (go_at_call 9;(with_reducible refine (joustlaw30_lives.calls k4  t294 _ ?side1 A66.out).mono ?_);(case side1 => exact Tabs.below HG.out (bl1 HB.out GE258.out));rintro e w71 ⟨rfl,hb⟩;replace HO_9:=Aside0.mk (Kd.R_below (by (with_reducible repeat (first | apply Kd.R_alloc | apply Kd.R_drewN | apply Kd.R_drew));exact HO_9.out) hb);replace HO_12:=Aside0.mk (Kd.R_below (by (with_reducible repeat (first | apply Kd.R_alloc | apply Kd.R_drewN | apply Kd.R_drew));exact HO_12.out) hb);replace HO_15:=Aside0.mk (Kd.R_below (by (with_reducible repeat (first | apply Kd.R_alloc | apply Kd.R_drewN | apply Kd.R_drew));exact HO_15.out) hb);replace BK258:=Aside0.mk (blk_below (g:=gb258) (o:=.cells #[.string a0_0,.int .i64 a0_1,.int .i64 a0_2,.slice A0_3 l0_3.length c0_3] 24 (0,0)) (bk BK258.out) hb);replace HB:=Aside0.mk (below_step (bl1 HB.out GE258.out) hb);(try clear hb);(try clear hk)))
                      go_ret
                      exact ⟨by first | rfl | (simp [errW_none,errW_some] <;> rfl) | (simp only [← hji18,← hji22];first | rfl | (simp [errW_none,errW_some] <;> rfl)) | (simp [*,errW_none,errW_some] <;> rfl),bl1 HB.out GE258.out⟩
                     ·rw [if_neg c65] at H;have c65b0 : decide (t292 ≤ t290) = false:=decide_eq_false c65;clear c65;exact absurd H (by simp)
              ·rw [if_neg c40] at H;have c40b0 : (t264 == 0) = false:=beq_eq_false_iff_ne.mpr c40;have c40b1 : (t264 != 0) = true:=bne_iff_ne.mpr c40
               by_cases c72 : (t261.length : Int) = 0
               ·rw [if_pos c72] at H;have c72b0 : ((t261.length : Int) == 0) = true:=beq_iff_eq.mpr c72;have c72b1 : ((t261.length : Int) != 0) = false:=bne_eq_false_iff_eq.mpr c72;clear c72
                by_cases c73 : t284 = t264
                ·rw [if_pos c73] at H;have c73b0 : (t284 == t264) = true:=beq_iff_eq.mpr c73;have c73b1 : (t284 != t264) = false:=bne_eq_false_iff_eq.mpr c73;clear c73;replace H:=Option.bind_eq_some_iff.mp H;obtain ⟨t285,A740,H⟩:=H;replace H : (some t285) = some true:=H;have A74:=Aside0.mk A740;clear A740;have hT_:=Option.some.inj H;have hcz75_0 : wr.cell? ⟨gb258,0,none⟩ = some (.string a0_0):=(blk_cell BK258.out 0).trans rfl;have hcz75_1 : wr.cell? ⟨gb258,1,none⟩ = some (.int .i64 a0_1):=(blk_cell BK258.out 1).trans rfl;have hcz75_2 : wr.cell? ⟨gb258,2,none⟩ = some (.int .i64 a0_2):=(blk_cell BK258.out 2).trans rfl;have hcz75_3 : wr.cell? ⟨gb258,3,none⟩ = some (.slice A0_3 l0_3.length c0_3):=(blk_cell BK258.out 3).trans rfl;have hfz75_0:=blk_frozen BK258.out 0;have hfz75_1:=blk_frozen BK258.out 1;have hfz75_2:=blk_frozen BK258.out 2;have hfz75_3:=blk_frozen BK258.out 3;obtain ⟨Ao76,co76,eo76⟩:=Kd.R_slice HO_12.out;subst eo76
                 go_wp2_with (first | ((with_reducible refine gate_callee (f:=10) rfl ?_);refine goesL_ (some 74) rfl rfl Tryz.func10 (by kernel_rfl) rfl #[.agg #[.string a0_0,.int .i64 a0_1,.int .i64 a0_2,.slice A0_3 l0_3.length c0_3],.slice A1 l1.length c1,.slice Ao76 y270.length co76] rfl (by (try simp only [List.map_toArray,List.map_cons,List.map_nil]);first | done | rfl | (simp only [List.length_drop,List.length_take];rfl)) ?_;(with_reducible refine (limits_Check.calls k2 a0_0 a0_1 a0_2 _ _ l0_3 _ _ l1 _ _ y270 t277 t280 _ ?side1 ?side2 ?side3 ?side4 ?side5 ?side6 ?side7 A38.out).mono ?_);(case side1 => repeat (first | exact (Kd.C_below HR0_3.out HB.out) | (with_reducible refine Kd.C_alloc ?_ _) | (with_reducible refine Kd.C_drewN ?_ _) | (with_reducible refine Kd.C_drew ?_)));(case side2 => exact HC0_3.out);(case side3 => repeat (first | exact (Kd.C_below HR1.out HB.out) | (with_reducible refine Kd.C_alloc ?_ _) | (with_reducible refine Kd.C_drewN ?_ _) | (with_reducible refine Kd.C_drew ?_)));(case side4 => exact HC1.out);(case side5 => repeat (first | exact (Kd.R_reads' HO_12.out).2.2 | (with_reducible refine Kd.C_alloc ?_ _) | (with_reducible refine Kd.C_drewN ?_ _) | (with_reducible refine Kd.C_drew ?_)));(case side6 => exact (Kd.R_reads' HO_12.out).2.1);(case side7 => exact Tabs.below HG.out (bl1 HB.out GE258.out));rintro e w77 ⟨v278,rfl,ho0,hb⟩;refine ⟨_,rfl,?_⟩;have n0_:=Aside0.mk (Kd.R_elder' (by (with_reducible repeat (first | apply Kd.R_alloc | apply Kd.R_drewN | apply Kd.R_drew));exact HO_9.out) (Kd.R_base ho0) hb);have n1_:=Aside0.mk (Kd.R_below (by (with_reducible repeat (first | apply Kd.R_alloc | apply Kd.R_drewN | apply Kd.R_drew));exact HO_12.out) hb);have n2_:=Aside0.mk (Kd.R_below (by (with_reducible repeat (first | apply Kd.R_alloc | apply Kd.R_drewN | apply Kd.R_drew));exact HO_13.out) hb);have n3_:=Aside0.mk (Kd.R_lower (Kd.R_new' ho0 (Kd.R_lt (by (with_reducible repeat (first | apply Kd.R_alloc | apply Kd.R_drewN | apply Kd.R_drew));exact HO_9.out))) (below_size (bl1 HB.out GE258.out)));have n4_:=Aside0.mk (blk_below (g:=gb258) (o:=.cells #[.string a0_0,.int .i64 a0_1,.int .i64 a0_2,.slice A0_3 l0_3.length c0_3] 24 (0,0)) (bk BK258.out) hb);have n5_:=Aside0.mk (below_step (bl1 HB.out GE258.out) hb);clear HO_9;clear HO_12;clear HO_13;clear BK258;clear HB;have HO_9:=n0_;have HO_12:=n1_;have HO_13:=n2_;have HO279:=n3_;have BK258:=n4_;have HB:=n5_;clear n0_ n1_ n2_ n3_ n4_ n5_;(try clear hb);(try clear hk);(try clear ho0);have hcz78_0 : w77.cell? ⟨gb258,0,none⟩ = some (.string a0_0):=(blk_cell BK258.out 0).trans rfl;have hcz78_1 : w77.cell? ⟨gb258,1,none⟩ = some (.int .i64 a0_1):=(blk_cell BK258.out 1).trans rfl;have hcz78_2 : w77.cell? ⟨gb258,2,none⟩ = some (.int .i64 a0_2):=(blk_cell BK258.out 2).trans rfl;have hcz78_3 : w77.cell? ⟨gb258,3,none⟩ = some (.slice A0_3 l0_3.length c0_3):=(blk_cell BK258.out 3).trans rfl;have hfz78_0:=blk_frozen BK258.out 0;have hfz78_1:=blk_frozen BK258.out 1;have hfz78_2:=blk_frozen BK258.out 2;have hfz78_3:=blk_frozen BK258.out 3;obtain ⟨Ao79,co79,eo79⟩:=Kd.R_slice HO_13.out;subst eo79) | ((with_reducible refine gate_callee (f:=10) rfl ?_);refine goesL_ (some 81) rfl rfl Tryz.func10 (by kernel_rfl) rfl #[.agg #[.string a0_0,.int .i64 a0_1,.int .i64 a0_2,.slice A0_3 l0_3.length c0_3],.slice A1 l1.length c1,.slice Ao79 x13_2.length co79] rfl (by (try simp only [List.map_toArray,List.map_cons,List.map_nil]);first | done | rfl | (simp only [List.length_drop,List.length_take];rfl)) ?_;(with_reducible refine (limits_Check.calls k2 a0_0 a0_1 a0_2 _ _ l0_3 _ _ l1 _ _ x13_2 t281 t284 _ ?side1 ?side2 ?side3 ?side4 ?side5 ?side6 ?side7 A39.out).mono ?_);(case side1 => repeat (first | exact (Kd.C_below HR0_3.out HB.out) | (with_reducible refine Kd.C_alloc ?_ _) | (with_reducible refine Kd.C_drewN ?_ _) | (with_reducible refine Kd.C_drew ?_)));(case side2 => exact HC0_3.out);(case side3 => repeat (first | exact (Kd.C_below HR1.out HB.out) | (with_reducible refine Kd.C_alloc ?_ _) | (with_reducible refine Kd.C_drewN ?_ _) | (with_reducible refine Kd.C_drew ?_)));(case side4 => exact HC1.out);(case side5 => repeat (first | exact (Kd.R_reads' HO_13.out).2.2 | (with_reducible refine Kd.C_alloc ?_ _) | (with_reducible refine Kd.C_drewN ?_ _) | (with_reducible refine Kd.C_drew ?_)));(case side6 => exact (Kd.R_reads' HO_13.out).2.1);(case side7 => exact Tabs.below HG.out (bl1 HB.out GE258.out));rintro e w80 ⟨v282,rfl,ho0,hb⟩;refine ⟨_,rfl,?_⟩;have n0_:=Aside0.mk (Kd.R_elder' (by (with_reducible repeat (first | apply Kd.R_alloc | apply Kd.R_drewN | apply Kd.R_drew));exact HO_9.out) (Kd.R_base ho0) hb);have n1_:=Aside0.mk (Kd.R_below (by (with_reducible repeat (first | apply Kd.R_alloc | apply Kd.R_drewN | apply Kd.R_drew));exact HO_12.out) hb);have n2_:=Aside0.mk (Kd.R_below (by (with_reducible repeat (first | apply Kd.R_alloc | apply Kd.R_drewN | apply Kd.R_drew));exact HO_13.out) hb);have n3_:=Aside0.mk (Kd.R_elder' (by (with_reducible repeat (first | apply Kd.R_alloc | apply Kd.R_drewN | apply Kd.R_drew));exact HO279.out) (Kd.R_base ho0) hb);have n4_:=Aside0.mk (Kd.R_lower (Kd.R_new' (Kd.R_new' ho0 (Kd.R_lt (by (with_reducible repeat (first | apply Kd.R_alloc | apply Kd.R_drewN | apply Kd.R_drew));exact HO_9.out))) (Kd.R_lt (by (with_reducible repeat (first | apply Kd.R_alloc | apply Kd.R_drewN | apply Kd.R_drew));exact HO279.out))) (below_size (bl1 HB.out GE258.out)));have n5_:=Aside0.mk (blk_below (g:=gb258) (o:=.cells #[.string a0_0,.int .i64 a0_1,.int .i64 a0_2,.slice A0_3 l0_3.length c0_3] 24 (0,0)) (bk BK258.out) hb);have n6_:=Aside0.mk (below_step (bl1 HB.out GE258.out) hb);clear HO_9;clear HO_12;clear HO_13;clear HO279;clear BK258;clear HB;have HO_9:=n0_;have HO_12:=n1_;have HO_13:=n2_;have HO279:=n3_;have HO283:=n4_;have BK258:=n5_;have HB:=n6_;clear n0_ n1_ n2_ n3_ n4_ n5_ n6_;(try clear hb);(try clear hk);(try clear ho0);obtain ⟨Ao81,co81,eo81⟩:=Kd.R_slice HO_9.out;subst eo81) | (go_at_call 9;(with_reducible refine (joustlaw30_lives.calls k2  t285 _ ?side1 A74.out).mono ?_);(case side1 => exact Tabs.below HG.out (bl1 HB.out GE258.out));rintro e w82 ⟨rfl,hb⟩;replace HO_9:=Aside0.mk (Kd.R_below (by (with_reducible repeat (first | apply Kd.R_alloc | apply Kd.R_drewN | apply Kd.R_drew));exact HO_9.out) hb);replace HO_12:=Aside0.mk (Kd.R_below (by (with_reducible repeat (first | apply Kd.R_alloc | apply Kd.R_drewN | apply Kd.R_drew));exact HO_12.out) hb);replace HO_13:=Aside0.mk (Kd.R_below (by (with_reducible repeat (first | apply Kd.R_alloc | apply Kd.R_drewN | apply Kd.R_drew));exact HO_13.out) hb);replace HO279:=Aside0.mk (Kd.R_below (by (with_reducible repeat (first | apply Kd.R_alloc | apply Kd.R_drewN | apply Kd.R_drew));exact HO279.out) hb);replace HO283:=Aside0.mk (Kd.R_below (by (with_reducible repeat (first | apply Kd.R_alloc | apply Kd.R_drewN | apply Kd.R_drew));exact HO283.out) hb);replace BK258:=Aside0.mk (blk_below (g:=gb258) (o:=.cells #[.string a0_0,.int .i64 a0_1,.int .i64 a0_2,.slice A0_3 l0_3.length c0_3] 24 (0,0)) (bk BK258.out) hb);replace HB:=Aside0.mk (below_step (bl1 HB.out GE258.out) hb);(try clear hb);(try clear hk)))
                 go_ret
                 exact ⟨by first | rfl | (simp [errW_none,errW_some] <;> rfl) | (simp only [← hji18,← hji22];first | rfl | (simp [errW_none,errW_some] <;> rfl)) | (simp [*,errW_none,errW_some] <;> rfl),bl1 HB.out GE258.out⟩
                ·rw [if_neg c73] at H;have c73b0 : (t284 == t264) = false:=beq_eq_false_iff_ne.mpr c73;have c73b1 : (t284 != t264) = true:=bne_iff_ne.mpr c73;exact absurd H (by simp)
               ·rw [if_neg c72] at H;have c72b0 : ((t261.length : Int) == 0) = false:=beq_eq_false_iff_ne.mpr c72;have c72b1 : ((t261.length : Int) != 0) = true:=bne_iff_ne.mpr c72;have c72b2 : ¬ (t261 = []):=fun h_ => c72 (by rw [h_];rfl)
                exact absurd H (by simp)
          ·rw [if_neg c25] at H;exact absurd H (by simp)
         ·rw [if_neg c24] at H;exact absurd H (by simp)
        ·rw [if_neg c23] at H;exact absurd H (by simp)
       ·rw [if_neg c21] at H;exact absurd H (by simp)
      ·rw [if_neg c20] at H;exact absurd H (by simp)
     ·rw [if_neg c19] at H;exact absurd H (by simp)

end Go.Proofs.YtgcmgfljbadljaaGreatDoor.L
