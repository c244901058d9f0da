/- Written by a program of this claim's author (stubprint.py, over the kit's print) out of the translation: Go functions as Lean functions, and that the calls come to them. -/
import Derived.Test.YtgcmgfljbadljaaGreatDoorL0
import Derived.Test.YtgcmgfljbadljaaGreatDoorL3
import Derived.Test.YtgcmgfljbadljaaGreatDoorL4
import Derived.Test.YtgcmgfljbadljaaGreatDoorHandS
namespace Go.Proofs.YtgcmgfljbadljaaGreatDoor.L
open Go.RowKit Go.Proofs.YtgcmgfljbadljaaGreatDoorW.PrintWords Go.Proofs.YtgcmgfljbadljaaGreatDoorW.PrintLast Go.Proofs.YtgcmgfljbadljaaGreatDoorW.PrintMore Go.Proofs.YtgcmgfljbadljaaGreatDoor.HandS Go.Proofs.YtgcmgfljbadljaaGreatDoor.Iter
attribute [local go_sem] max2_int min2_int max_two min_two max_three min_three max_four min_four   -- for this text's walks alone
set_option linter.unusedVariables false
set_option linter.unusedSimpArgs false

/-! ### limits_Check: function 10 -/
mutual
def limits_Check.l0 : Nat → List (S47) → Int → List Int → Int → List Int → Int → Int → ByteArray → Int → Int → List (S42) → Option ((List (S35)) × Int)
 | 0,_,_,_,_,_,_,_,_,_,_,_ => none
 | k + 1,x1,x8,x9,x10,x28,x29,x30,x115000,x115001,x115002,x115003 => if x30 < x29 then (if 0 ≤ x30 then (if x30 < (x28.length : Int) then (if 0 ≤ (rd x28 x30) then (if (rd x28 x30) < (x9.length : Int) then ((some (x9.set ((rd x28 x30) : Int).toNat (wrap64 ((rd x9 (rd x28 x30)) + 1)) : List Int)).bind fun y122 => (if (rd x28 x30) < (x1.length : Int) then (if ((rd_T47 x1 (rd x28 x30)).f1) = 0 then (limits_Check.l0 k x1 x8 y122 (wrap64 (x10 + 1)) x28 x29 (wrap64 (x30 + 1)) x115000 x115001 x115002 x115003) else (limits_Check.l0 k x1 x8 y122 x10 x28 x29 (wrap64 (x30 + 1)) x115000 x115001 x115002 x115003)) else (none))) else (none)) else (none)) else (none)) else (none)) else (limits_Check.l1 k x1 ([] : List (S35)) x8 x10 x9 (x9.length : Int) 0 x115000 x115001 x115002 x115003)
def limits_Check.l1 : Nat → List (S47) → List (S35) → Int → Int → List Int → Int → Int → ByteArray → Int → Int → List (S42) → Option ((List (S35)) × Int)
 | 0,_,_,_,_,_,_,_,_,_,_,_ => none
 | k + 1,x1,x6,x8,x10,x49,x50,x51,x115000,x115001,x115002,x115003 => if x51 < x50 then (if 0 ≤ x51 then (if x51 < (x49.length : Int) then (if x51 < (x1.length : Int) then ((limits_of.f x115000 x115001 x115002 x115003 ((rd_T47 x1 x51).f0)).bind fun bt126 => (if (rd x49 x51) > bt126.2.1 then (if x6.length < 8796093022208 then (limits_Check.l1 k x1 (x6 ++ [(⟨1,x51⟩ : S35)]) x8 x10 x49 x50 (wrap64 (x51 + 1)) x115000 x115001 x115002 x115003) else (none)) else (limits_Check.l1 k x1 x6 x8 x10 x49 x50 (wrap64 (x51 + 1)) x115000 x115001 x115002 x115003))) else (none)) else (none)) else (none)) else (if x10 < x115002 then (if x6.length < 8796093022208 then ((some (x6 ++ [(⟨2,(-1)⟩ : S35)] : List (S35))).bind fun y132 => (if x8 > x115001 then (if y132.length < 8796093022208 then (some ((y132 ++ [(⟨3,(-1)⟩ : S35)]),0)) else (none)) else (some (y132,0)))) else (none)) else (if x8 > x115001 then (if x6.length < 8796093022208 then (some ((x6 ++ [(⟨3,(-1)⟩ : S35)]),0)) else (none)) else (some (x6,0))))
end
def limits_Check.f (k : Nat) (a0_0 : ByteArray) (a0_1 : Int) (a0_2 : Int) (l0_3 : List (S42)) (l1 : List (S47)) (l2 : List Int) : Option ((List (S35)) × Int):=(limits_Cost.f k a0_0 a0_1 a0_2 l0_3 l1 l2).bind fun bt115 => (if bt115.2 = 0 then (if 0 ≤ (l1.length : Int) then (if ((l1.length : Int) : Int).toNat ≤ 35184372088832 then (limits_Check.l0 k l1 bt115.1 (List.replicate ((l1.length : Int) : Int).toNat 0) 0 l2 (l2.length : Int) 0 a0_0 a0_1 a0_2 l0_3) else (none)) else (none)) else (some (([] : List (S35)),bt115.2)))
theorem limits_Check.mono_l : ∀ k,(∀ y0 y1 y2 y3 y4 y5 y6 y7 y8 y9 y10,LeO (limits_Check.l0 k y0 y1 y2 y3 y4 y5 y6 y7 y8 y9 y10) (limits_Check.l0 (k + 1) y0 y1 y2 y3 y4 y5 y6 y7 y8 y9 y10)) ∧ (∀ y0 y1 y2 y3 y4 y5 y6 y7 y8 y9 y10,LeO (limits_Check.l1 k y0 y1 y2 y3 y4 y5 y6 y7 y8 y9 y10) (limits_Check.l1 (k + 1) y0 y1 y2 y3 y4 y5 y6 y7 y8 y9 y10))
 | 0 => ⟨fun _ _ _ _ _ _ _ _ _ _ _ r h => by simp [limits_Check.l0] at h,fun _ _ _ _ _ _ _ _ _ _ _ r h => by simp [limits_Check.l1] at h⟩
 | k + 1 => by
  obtain ⟨ih0,ih1⟩:=limits_Check.mono_l k;refine ⟨?_,?_⟩
  ·intro y0 y1 y2 y3 y4 y5 y6 y7 y8 y9 y10
   unfold limits_Check.l0
   repeat' first
   | (with_reducible exact ih0 _ _ _ _ _ _ _ _ _ _ _)
   | (with_reducible exact ih1 _ _ _ _ _ _ _ _ _ _ _)
   | (with_reducible exact limits_Cost.mono _ _ _ _ _ _ _)
   | (with_reducible exact LeO.refl _)
   | (with_reducible exact LeO.none _)
   | (with_reducible refine LeO.ite ?_ ?_)
   | (with_reducible refine LeO.bind ?_ (fun _ => ?_))
   | exact ih0 _ _ _ _ _ _ _ _ _ _ _
   | exact ih1 _ _ _ _ _ _ _ _ _ _ _
   | exact limits_Cost.mono _ _ _ _ _ _ _
   | exact LeO.none _
   | refine LeO.ite ?_ ?_
   | refine LeO.bind ?_ (fun _ => ?_)
  ·intro y0 y1 y2 y3 y4 y5 y6 y7 y8 y9 y10
   unfold limits_Check.l1
   repeat' first
   | (with_reducible exact ih0 _ _ _ _ _ _ _ _ _ _ _)
   | (with_reducible exact ih1 _ _ _ _ _ _ _ _ _ _ _)
   | (with_reducible exact limits_Cost.mono _ _ _ _ _ _ _)
   | (with_reducible exact LeO.refl _)
   | (with_reducible exact LeO.none _)
   | (with_reducible refine LeO.ite ?_ ?_)
   | (with_reducible refine LeO.bind ?_ (fun _ => ?_))
   | exact ih0 _ _ _ _ _ _ _ _ _ _ _
   | exact ih1 _ _ _ _ _ _ _ _ _ _ _
   | exact limits_Cost.mono _ _ _ _ _ _ _
   | exact LeO.none _
   | refine LeO.ite ?_ ?_
   | refine LeO.bind ?_ (fun _ => ?_)
theorem limits_Check.mono : ∀ a0 a1 a2 a3 a4 a5 k,LeO (limits_Check.f k a0 a1 a2 a3 a4 a5) (limits_Check.f (k + 1) a0 a1 a2 a3 a4 a5):=by
 intro a0 a1 a2 a3 a4 a5 k;obtain ⟨ih0,ih1⟩:=limits_Check.mono_l k
 unfold limits_Check.f
 repeat' first
   | (with_reducible exact ih0 _ _ _ _ _ _ _ _ _ _ _)
   | (with_reducible exact ih1 _ _ _ _ _ _ _ _ _ _ _)
   | (with_reducible exact limits_Cost.mono _ _ _ _ _ _ _)
   | (with_reducible exact LeO.refl _)
   | (with_reducible exact LeO.none _)
   | (with_reducible refine LeO.ite ?_ ?_)
   | (with_reducible refine LeO.bind ?_ (fun _ => ?_))
   | exact ih0 _ _ _ _ _ _ _ _ _ _ _
   | exact ih1 _ _ _ _ _ _ _ _ _ _ _
   | exact limits_Cost.mono _ _ _ _ _ _ _
   | exact LeO.none _
   | refine LeO.ite ?_ ?_
   | refine LeO.bind ?_ (fun _ => ?_)
def limits_Check.T16 : Bool × List (List Nat × List Nat):=(true,[([],[]),([],[]),([],[]),([],[]),([2,3],[2,3]),([4],[4]),([5],[5]),([1,6],[1,6]),([7],[7]),([0,8],[0,8])])
def limits_Check.B16 : List Nat:=[0,0,0,0,12,28,60,126,254,511]
theorem limits_Check.tab16 : rtab .any (opsOf Tryz.f10 16) = limits_Check.T16:=by kernel_rfl
theorem limits_Check.bits16 : waitsOk limits_Check.T16.2 limits_Check.B16 = true:=by kernel_rfl
set_option maxHeartbeats 8000000 in
set_option maxRecDepth 100000 in
theorem limits_Check.calls (k : Nat) (a0_0 : ByteArray) (a0_1 : Int) (a0_2 : Int) (A0_3 : Option Addr) (c0_3 : Nat) (l0_3 : List (S42)) (A1 : Option Addr) (c1 : Nat) (l1 : List (S47)) (A2 : Option Addr) (c2 : Nat) (l2 : List Int) (r1 : List (S35)) (r2 : Int) (w : World) (hr0_3 : Kd.C k42 w A0_3 l0_3.length l0_3) (hc0_3 : l0_3.length ≤ c0_3) (hr1 : Kd.C k47 w A1 l1.length l1) (hc1 : l1.length ≤ c1) (hr2 : Kd.C (Kd.int .i64) w A2 l2.length l2) (hc2 : l2.length ≤ c2) (hG : Tabs w) (h : limits_Check.f k a0_0 a0_1 a0_2 l0_3 l1 l2 = some (r1,r2)) :
  Calls Tryz.prog 10 #[.agg #[.string a0_0,.int .i64 a0_1,.int .i64 a0_2,.slice A0_3 l0_3.length c0_3],.slice A1 l1.length c1,.slice A2 l2.length c2] w fun e w' => ∃ v0_ : Value,e = .returned (.tuple #[v0_,.int .i64 r2]) ∧ Kd.R k35 35 w' w.heap.size (fun _ => True) v0_ r1 ∧ Below w.heap.size w w':=by
 have hu24:=Tryz.underlying24;have hu35:=Tryz.underlying35;have HG:=Aside0.mk hG;clear hG;have HR0_3:=Aside0.mk hr0_3;have HC0_3:=Aside0.mk hc0_3;clear hr0_3 hc0_3;have HR1:=Aside0.mk hr1;have HC1:=Aside0.mk hc1;clear hr1 hc1;have HR2:=Aside0.mk hr2;have HC2:=Aside0.mk hc2;clear hr2 hc2;have HB:=Aside0.mk (Below.refl w.heap.size w);have H : ((limits_Cost.f k a0_0 a0_1 a0_2 l0_3 l1 l2).bind fun bt115 => (if bt115.2 = 0 then (if 0 ≤ (l1.length : Int) then (if ((l1.length : Int) : Int).toNat ≤ 35184372088832 then (limits_Check.l0 k l1 bt115.1 (List.replicate ((l1.length : Int) : Int).toNat 0) 0 l2 (l2.length : Int) 0 a0_0 a0_1 a0_2 l0_3) else (none)) else (none)) else (some (([] : List (S35)),bt115.2)))) = some (r1,r2):=h;clear h;replace H:=Option.bind_eq_some_iff.mp H;obtain ⟨⟨t115,t116⟩,A40,H⟩:=H
 (try dsimp only at H)
 have A4:=Aside0.mk A40;clear A40
 by_cases c5 : t116 = 0
 ·rw [if_pos c5] at H;have c5b0 : (t116 == 0) = true:=beq_iff_eq.mpr c5;have c5b1 : (t116 != 0) = false:=bne_eq_false_iff_eq.mpr c5;clear c5
  by_cases c6 : 0 ≤ (l1.length : Int)
  ·rw [if_pos c6] at H;have c6b0:=eq_true c6;have c6b1 : decide (0 ≤ (l1.length : Int)) = true:=decide_eq_true c6;clear c6
   by_cases c7 : ((l1.length : Int) : Int).toNat ≤ 35184372088832
   ·rw [if_pos c7] at H;have c7b0:=eq_true c7;have c7b1 : decide (((l1.length : Int) : Int).toNat ≤ 35184372088832) = true:=decide_eq_true c7;clear c7;obtain ⟨y117,hy117⟩ : ∃ y_ : List Int,y_ = (List.replicate ((l1.length : Int) : Int).toNat 0):=⟨_,rfl⟩;replace H : (limits_Check.l0 k l1 t115 y117 0 l2 (l2.length : Int) 0 a0_0 a0_1 a0_2 l0_3) = some (r1,r2):=by first | (rw [hy117];with_reducible exact H) | (have H2_:=(Option.bind_some _ _).symm.trans H;rw [hy117];with_reducible exact H2_) | (have H2_:=(Option.bind_some _ _).symm.trans H;with_reducible exact H2_) | with_reducible exact H | (rw [hy117];exact H) | exact H
    have Ny117:=Aside0.mk hy117;clear hy117;have H':=Aside0.mk H;clear H
    go_enter Tryz.func10,Tryz.ntmps10
    go_wp2_with (first | ((with_reducible refine gate_dst (N:=3) rfl ?_);refine box_event ?hg (N:=3) ?hd (cs:=#[.string a0_0,.int .i64 a0_1,.int .i64 a0_2,.slice A0_3 l0_3.length c0_3]) (t:=24) ?hr ?_;(case hd => rfl);(case hg => rfl);(case hr => first | (go_simp;done) | (go_simp;rfl));intro gb114 hg w8 hbox hb;have n0_:=Aside0.mk (below_step (bl0 HB.out) hb);have n1_:=Aside0.mk (hbox);have n2_:=Aside0.mk ((by rw [hg];exact (below_size (bl0 HB.out)) : w.heap.size ≤ gb114));have n3_:=Aside0.mk ((by rw [hg];exact (below_size (bl0 HB.out)) : w.heap.size ≤ gb114));clear HB;have HB:=n0_;have BK114:=n1_;have GW114:=n2_;have GE114:=n3_;clear n0_ n1_ n2_ n3_;clear hb hbox hg;have hcz9_0:=bc BK114.out 0 (.string a0_0) rfl;have hcz9_1:=bc BK114.out 1 (.int .i64 a0_1) rfl;have hcz9_2:=bc BK114.out 2 (.int .i64 a0_2) rfl;have hcz9_3:=bc BK114.out 3 (.slice A0_3 l0_3.length c0_3) rfl;have hfz9_0:=blk_frozen BK114.out 0;have hfz9_1:=blk_frozen BK114.out 1;have hfz9_2:=blk_frozen BK114.out 2;have hfz9_3:=blk_frozen BK114.out 3) | ((with_reducible refine gate_callee (f:=13) rfl ?_);refine goesL_ (some 19) rfl rfl Tryz.func13 (by kernel_rfl) rfl #[.agg #[.string a0_0,.int .i64 a0_1,.int .i64 a0_2,.slice A0_3 l0_3.length c0_3],.slice A1 l1.length c1,.slice A2 l2.length c2] rfl ea ?_;(with_reducible refine (limits_Cost.calls k a0_0 a0_1 a0_2 _ _ l0_3 _ _ l1 _ _ l2 t115 t116 _ ?side1 ?side2 ?side3 ?side4 ?side5 ?side6 ?side7 A4.out).mono ?_);(case side1 => exact kc (Kd.C_below HR0_3.out HB.out));(case side2 => exact HC0_3.out);(case side3 => exact kc (Kd.C_below HR1.out HB.out));(case side4 => exact HC1.out);(case side5 => exact kc (Kd.C_below HR2.out HB.out));(case side6 => exact HC2.out);(case side7 => exact Tabs.below HG.out (bl1 HB.out GE114.out));rintro e w10 ⟨rfl,hb⟩;refine ⟨_,rfl,?_⟩;replace BK114:=Aside0.mk (blk_below (g:=gb114) (o:=.cells #[.string a0_0,.int .i64 a0_1,.int .i64 a0_2,.slice A0_3 l0_3.length c0_3] 24 (0,0)) (bk BK114.out) hb);replace HB:=Aside0.mk (below_step (bl1 HB.out GE114.out) hb);(try clear hb);(try clear hk)) | ((with_reducible refine gate_dst (N:=27) rfl ?_);refine Kd.R_make (Kd.int .i64) _ 3 rfl (N:=27) rfl 26 _ _ rfl (l1.length : Int) rfl rfl Tryz.underlying26 (.int .i64 0) 8 info3 rfl (by decide) (by omega) 0 (ok:=fun _ => True) (okp:=fun _ => True) rfl (fun _ hk => hk) trivial (of_decide_eq_true (by first | (with_reducible assumption) | assumption)) (Nat.le_trans (Nat.mul_le_mul_right _ (of_decide_eq_true (by first | (with_reducible assumption) | assumption) : (l1.length : Int).toNat ≤ 35184372088832)) (by omega)) (Below.refl _ _) (Nat.le_refl _) ?_;intro v118 w11 ho12 hb hg_ hnew_;clear hg_ hnew_;(first | rw [← Ny117.out] at ho12 | (simp only [Int.reduceToNat] at ho12;rw [← Ny117.out] at ho12));have n0_:=Aside0.mk (Kd.R_lower ho12 (below_size (bl1 HB.out GE114.out)));have n1_:=Aside0.mk (blk_below (g:=gb114) (o:=.cells #[.string a0_0,.int .i64 a0_1,.int .i64 a0_2,.slice A0_3 l0_3.length c0_3] 24 (0,0)) (bk BK114.out) hb);have n2_:=Aside0.mk (below_step (bl1 HB.out GE114.out) hb);clear BK114;clear HB;have HO119:=n0_;have BK114:=n1_;have HB:=n2_;clear n0_ n1_ n2_;clear hb ho12))
    go_loopg [10,30] k (fun kq v10 v30 w' => ∃ (x9_1 : List Int) (x10_1 : Int) (x30_1 : Int),v10 = .int .i64 x10_1 ∧ v30 = .int .i64 x30_1 ∧ Aside0 (limits_Check.l0 kq l1 t115 x9_1 x10_1 l2 (l2.length : Int) x30_1 a0_0 a0_1 a0_2 l0_3 = some (r1,r2)) ∧ Aside0 (kq ≤ k) ∧ Aside0 (Kd.R (Kd.int .i64) 3 w' w.heap.size (fun _ => True) v118 x9_1) ∧ Aside0 (w'.heap[gb114]? = some (.cells #[.string a0_0,.int .i64 a0_1,.int .i64 a0_2,(.slice A0_3 l0_3.length c0_3)] 24 (0,0))) ∧ Aside0 (Below w.heap.size w w'))
    case atStart => exact ⟨(y117),(0),(0),(by first | rfl | (simp;done) | (simp [*];done)),(by first | rfl | (simp;done) | (simp [*];done)),H',⟨Nat.le_refl _⟩,⟨by (with_reducible repeat (first | apply Kd.R_alloc | apply Kd.R_drewN | apply Kd.R_drew));exact HO119.out⟩,⟨bk BK114.out⟩,⟨bl1 HB.out GE114.out⟩⟩
    case round =>
     clear H'
     try clear c1
     try clear c2
     try clear p2
     try clear c5
     try clear c5b0
     try clear c5b1
     try clear c6
     try clear c6b0
     try clear c6b1
     try clear c7
     try clear c7b0
     try clear c7b1
     try clear c10
     obtain ⟨x9_1,x10_1,x30_1,rfl,rfl,HA,HK1,HO_9,BK114,HB⟩:=hrel
     cases gk with
     | zero => exact absurd HA.out (by simp [limits_Check.l0])
     | succ k1 =>
      have H:=HA.out;clear HA;simp only [limits_Check.l0] at H
      by_cases c13 : x30_1 < (l2.length : Int)
      ·rw [if_pos c13] at H;have c13b0 : decide (x30_1 < (l2.length : Int)) = true:=decide_eq_true c13;clear c13
       by_cases c14 : 0 ≤ x30_1
       ·rw [if_pos c14] at H;have c14b0 : decide (0 ≤ x30_1) = true:=decide_eq_true c14;clear c14
        by_cases c15 : x30_1 < (l2.length : Int)
        ·rw [if_pos c15] at H;have c15b0 : decide (x30_1 < (l2.length : Int)) = true:=decide_eq_true c15;clear c15
         by_cases c16 : 0 ≤ (rd l2 x30_1)
         ·rw [if_pos c16] at H;have c16b0 : decide (0 ≤ (rd l2 x30_1)) = true:=decide_eq_true c16;clear c16
          by_cases c17 : (rd l2 x30_1) < (x9_1.length : Int)
          ·rw [if_pos c17] at H;have c17b0 : decide ((rd l2 x30_1) < (x9_1.length : Int)) = true:=decide_eq_true c17;clear c17;obtain ⟨y122,hy122⟩ : ∃ y_ : List Int,y_ = (x9_1.set ((rd l2 x30_1) : Int).toNat (wrap64 ((rd x9_1 (rd l2 x30_1)) + 1))):=⟨_,rfl⟩;replace H : (if (rd l2 x30_1) < (l1.length : Int) then (if ((rd_T47 l1 (rd l2 x30_1)).f1) = 0 then (limits_Check.l0 k1 l1 t115 y122 (wrap64 (x10_1 + 1)) l2 (l2.length : Int) (wrap64 (x30_1 + 1)) a0_0 a0_1 a0_2 l0_3) else (limits_Check.l0 k1 l1 t115 y122 x10_1 l2 (l2.length : Int) (wrap64 (x30_1 + 1)) a0_0 a0_1 a0_2 l0_3)) else (none)) = some (r1,r2):=by first | (rw [hy122];with_reducible exact H) | (have H2_:=(Option.bind_some _ _).symm.trans H;rw [hy122];with_reducible exact H2_) | (have H2_:=(Option.bind_some _ _).symm.trans H;with_reducible exact H2_) | with_reducible exact H | (rw [hy122];exact H) | exact H
           have Ny122:=Aside0.mk hy122;clear hy122
           by_cases c19 : (rd l2 x30_1) < (l1.length : Int)
           ·rw [if_pos c19] at H;have c19b0 : decide ((rd l2 x30_1) < (l1.length : Int)) = true:=decide_eq_true c19;clear c19
            by_cases c20 : ((rd_T47 l1 (rd l2 x30_1)).f1) = 0
            ·rw [if_pos c20] at H;have c20b0 : (((rd_T47 l1 (rd l2 x30_1)).f1) == 0) = true:=beq_iff_eq.mpr c20;have c20b1 : (((rd_T47 l1 (rd l2 x30_1)).f1) != 0) = false:=bne_eq_false_iff_eq.mpr c20;clear c20;have H':=Aside0.mk H;clear H;have p120 : 0 ≤ (x30_1 : Int):=of_decide_eq_true (by first | (with_reducible assumption) | assumption);have q120 : x30_1 < (l2.length : Int):=of_decide_eq_true (by first | (with_reducible assumption) | assumption);obtain ⟨ad120,e120,hx120_0⟩:=Kd.at_int HR2.out x30_1 p120 q120
             cases e120
             replace hx120_0:=(HB.out.cell (World.block_lt_of_cell? w _ hx120_0)).trans hx120_0;replace p120:=eq_true p120;replace q120:=eq_true q120;obtain ⟨Ao21,co21,eo21⟩:=Kd.R_slice HO_9.out;subst eo21;have p121 : 0 ≤ ((rd l2 x30_1) : Int):=of_decide_eq_true (by first | (with_reducible assumption) | assumption);have q121 : (rd l2 x30_1) < (x9_1.length : Int):=of_decide_eq_true (by first | (with_reducible assumption) | assumption);obtain ⟨ad121,e121,hx121_0⟩:=Kd.at_int (Kd.R_reads' HO_9.out).2.2 (rd l2 x30_1) p121 q121
             cases e121
             replace p121:=eq_true p121;replace q121:=eq_true q121;have p18 : 0 ≤ ((rd l2 x30_1) : Int):=of_decide_eq_true (by first | (with_reducible assumption) | assumption);have q18 : ((rd l2 x30_1) : Int) < ((x9_1.length : Int) : Int):=of_decide_eq_true (by first | (with_reducible assumption) | assumption);obtain ⟨go18,co18,eo18,gb18,gl18,cl18,HG18⟩:=Kd.R_form HO_9.out (by omega)
             (first | cases eo18 | (injection eo18 with ea_ en_ ec_;(first | subst ea_ | (injection ea_ with ea_;subst ea_));subst ec_;clear en_))
             have GB18:=Aside0.mk gb18;have GG18:=Aside0.mk HG18;clear gb18 gl18 HG18
             (first | simp only [add_plain] at hx121_0 | skip)
             obtain ⟨hx18_0,hf18_0⟩:=Kd.R_celln 0 HO_9.out ((rd l2 x30_1) : Int) p18 q18;replace p18:=eq_true p18;replace q18:=eq_true q18;have HP22:=Kd.R_putg HO_9.out ((rd l2 x30_1) : Int) (wrap64 ((rd x9_1 (rd l2 x30_1)) + 1))
             go_wp2_with (first | ((with_reducible refine gate_store (t:=3) (p:=39) rfl ?_);refine store_event (t:=3) (p:=39) (v:=?vo_w23) (w1:=(wr.setCell ⟨go18,((rd l2 x30_1) : Int).toNat,none⟩ (.int .i64 (wrap64 ((rd x9_1 (rd l2 x30_1)) + 1))))) ?hg ?ho ?hn ?hr ?_;(case ho => rfl);(case hg => rfl);(case hn => rfl);(case hr => first | (go_simp;done) | (go_simp;rfl));intro w23 hw;have hg : wr.grownBy w23 (some go18):=(by rw [hw];exact HP22.2);have hp_ : Kd.R (Kd.int .i64) 3 w23 w.heap.size (fun _ => True) (.slice (some ⟨go18,0,none⟩) x9_1.length co21) y122:=(by rw [hw,Ny122.out];exact HP22.1);clear HP22;have n0_:=Aside0.mk (hp_);have n1_:=Aside0.mk (blk_grown (g:=gb114) (o:=.cells #[.string a0_0,.int .i64 a0_1,.int .i64 a0_2,.slice A0_3 l0_3.length c0_3] 24 (0,0)) (bk BK114.out) hg (Kd.R_ne HO_9.out BK114.out (by decide)));have n2_:=Aside0.mk ((by rw [hw];exact below_set (HB.out) GB18.out : Below w.heap.size w w23));clear HO_9;clear BK114;clear HB;have HO_9:=n0_;have BK114:=n1_;have HB:=n2_;clear n0_ n1_ n2_;clear hg hw hp_;have p123 : 0 ≤ ((rd l2 x30_1) : Int):=of_decide_eq_true (by first | (with_reducible assumption) | assumption);have q123 : (rd l2 x30_1) < (l1.length : Int):=of_decide_eq_true (by first | (with_reducible assumption) | assumption);obtain ⟨ad123,A123_5,c123_5,e123,hx123_0,hx123_1,hx123_2,hx123_3,hx123_4,hx123_5,hl123_5,hi123_5⟩:=at_T47 HR1.out (rd l2 x30_1) p123 q123;cases e123;replace hx123_0:=(HB.out.cell (World.block_lt_of_cell? w _ hx123_0)).trans hx123_0;replace hx123_1:=(HB.out.cell (World.block_lt_of_cell? w _ hx123_1)).trans hx123_1;replace hx123_2:=(HB.out.cell (World.block_lt_of_cell? w _ hx123_2)).trans hx123_2;replace hx123_3:=(HB.out.cell (World.block_lt_of_cell? w _ hx123_3)).trans hx123_3;replace hx123_4:=(HB.out.cell (World.block_lt_of_cell? w _ hx123_4)).trans hx123_4;replace hx123_5:=(HB.out.cell (World.block_lt_of_cell? w _ hx123_5)).trans hx123_5;have HR123_5:=Aside0.mk hi123_5;have HC123_5:=Aside0.mk hl123_5;clear hi123_5 hl123_5;replace p123:=eq_true p123;replace q123:=eq_true q123))
             go_roundg k1
             case measure => have:=HK1.out;omega
             case rel => exact ⟨(y122),(wrap64 (x10_1 + 1)),(wrap64 (x30_1 + 1)),(by first | rfl | (simp;done) | (simp [*];done)),(by first | rfl | (simp;done) | (simp [*];done)),H',⟨by have:=HK1.out;omega⟩,⟨by (with_reducible repeat (first | apply Kd.R_alloc | apply Kd.R_drewN | apply Kd.R_drew));exact HO_9.out⟩,⟨bk BK114.out⟩,⟨bl1 HB.out GE114.out⟩⟩
            ·rw [if_neg c20] at H;have c20b0 : (((rd_T47 l1 (rd l2 x30_1)).f1) == 0) = false:=beq_eq_false_iff_ne.mpr c20;have c20b1 : (((rd_T47 l1 (rd l2 x30_1)).f1) != 0) = true:=bne_iff_ne.mpr c20;have H':=Aside0.mk H;clear H;have p120 : 0 ≤ (x30_1 : Int):=of_decide_eq_true (by first | (with_reducible assumption) | assumption);have q120 : x30_1 < (l2.length : Int):=of_decide_eq_true (by first | (with_reducible assumption) | assumption);obtain ⟨ad120,e120,hx120_0⟩:=Kd.at_int HR2.out x30_1 p120 q120
             cases e120
             replace hx120_0:=(HB.out.cell (World.block_lt_of_cell? w _ hx120_0)).trans hx120_0;replace p120:=eq_true p120;replace q120:=eq_true q120;obtain ⟨Ao24,co24,eo24⟩:=Kd.R_slice HO_9.out;subst eo24;have p121 : 0 ≤ ((rd l2 x30_1) : Int):=of_decide_eq_true (by first | (with_reducible assumption) | assumption);have q121 : (rd l2 x30_1) < (x9_1.length : Int):=of_decide_eq_true (by first | (with_reducible assumption) | assumption);obtain ⟨ad121,e121,hx121_0⟩:=Kd.at_int (Kd.R_reads' HO_9.out).2.2 (rd l2 x30_1) p121 q121
             cases e121
             replace p121:=eq_true p121;replace q121:=eq_true q121;have p18 : 0 ≤ ((rd l2 x30_1) : Int):=of_decide_eq_true (by first | (with_reducible assumption) | assumption);have q18 : ((rd l2 x30_1) : Int) < ((x9_1.length : Int) : Int):=of_decide_eq_true (by first | (with_reducible assumption) | assumption);obtain ⟨go18,co18,eo18,gb18,gl18,cl18,HG18⟩:=Kd.R_form HO_9.out (by omega)
             (first | cases eo18 | (injection eo18 with ea_ en_ ec_;(first | subst ea_ | (injection ea_ with ea_;subst ea_));subst ec_;clear en_))
             have GB18:=Aside0.mk gb18;have GG18:=Aside0.mk HG18;clear gb18 gl18 HG18
             (first | simp only [add_plain] at hx121_0 | skip)
             obtain ⟨hx18_0,hf18_0⟩:=Kd.R_celln 0 HO_9.out ((rd l2 x30_1) : Int) p18 q18;replace p18:=eq_true p18;replace q18:=eq_true q18;have HP25:=Kd.R_putg HO_9.out ((rd l2 x30_1) : Int) (wrap64 ((rd x9_1 (rd l2 x30_1)) + 1))
             go_wp2_with (first | ((with_reducible refine gate_store (t:=3) (p:=39) rfl ?_);refine store_event (t:=3) (p:=39) (v:=?vo_w26) (w1:=(wr.setCell ⟨go18,((rd l2 x30_1) : Int).toNat,none⟩ (.int .i64 (wrap64 ((rd x9_1 (rd l2 x30_1)) + 1))))) ?hg ?ho ?hn ?hr ?_;(case ho => rfl);(case hg => rfl);(case hn => rfl);(case hr => first | (go_simp;done) | (go_simp;rfl));intro w26 hw;have hg : wr.grownBy w26 (some go18):=(by rw [hw];exact HP25.2);have hp_ : Kd.R (Kd.int .i64) 3 w26 w.heap.size (fun _ => True) (.slice (some ⟨go18,0,none⟩) x9_1.length co24) y122:=(by rw [hw,Ny122.out];exact HP25.1);clear HP25;have n0_:=Aside0.mk (hp_);have n1_:=Aside0.mk (blk_grown (g:=gb114) (o:=.cells #[.string a0_0,.int .i64 a0_1,.int .i64 a0_2,.slice A0_3 l0_3.length c0_3] 24 (0,0)) (bk BK114.out) hg (Kd.R_ne HO_9.out BK114.out (by decide)));have n2_:=Aside0.mk ((by rw [hw];exact below_set (HB.out) GB18.out : Below w.heap.size w w26));clear HO_9;clear BK114;clear HB;have HO_9:=n0_;have BK114:=n1_;have HB:=n2_;clear n0_ n1_ n2_;clear hg hw hp_;have p123 : 0 ≤ ((rd l2 x30_1) : Int):=of_decide_eq_true (by first | (with_reducible assumption) | assumption);have q123 : (rd l2 x30_1) < (l1.length : Int):=of_decide_eq_true (by first | (with_reducible assumption) | assumption);obtain ⟨ad123,A123_5,c123_5,e123,hx123_0,hx123_1,hx123_2,hx123_3,hx123_4,hx123_5,hl123_5,hi123_5⟩:=at_T47 HR1.out (rd l2 x30_1) p123 q123;cases e123;replace hx123_0:=(HB.out.cell (World.block_lt_of_cell? w _ hx123_0)).trans hx123_0;replace hx123_1:=(HB.out.cell (World.block_lt_of_cell? w _ hx123_1)).trans hx123_1;replace hx123_2:=(HB.out.cell (World.block_lt_of_cell? w _ hx123_2)).trans hx123_2;replace hx123_3:=(HB.out.cell (World.block_lt_of_cell? w _ hx123_3)).trans hx123_3;replace hx123_4:=(HB.out.cell (World.block_lt_of_cell? w _ hx123_4)).trans hx123_4;replace hx123_5:=(HB.out.cell (World.block_lt_of_cell? w _ hx123_5)).trans hx123_5;have HR123_5:=Aside0.mk hi123_5;have HC123_5:=Aside0.mk hl123_5;clear hi123_5 hl123_5;replace p123:=eq_true p123;replace q123:=eq_true q123))
             go_roundg k1
             case measure => have:=HK1.out;omega
             case rel => exact ⟨(y122),(x10_1),(wrap64 (x30_1 + 1)),(by first | rfl | (simp;done) | (simp [*];done)),(by first | rfl | (simp;done) | (simp [*];done)),H',⟨by have:=HK1.out;omega⟩,⟨by (with_reducible repeat (first | apply Kd.R_alloc | apply Kd.R_drewN | apply Kd.R_drew));exact HO_9.out⟩,⟨bk BK114.out⟩,⟨bl1 HB.out GE114.out⟩⟩
           ·rw [if_neg c19] at H;exact absurd H (by simp)
          ·rw [if_neg c17] at H;exact absurd H (by simp)
         ·rw [if_neg c16] at H;exact absurd H (by simp)
        ·rw [if_neg c15] at H;exact absurd H (by simp)
       ·rw [if_neg c14] at H;exact absurd H (by simp)
      ·rw [if_neg c13] at H;have c13b0 : decide (x30_1 < (l2.length : Int)) = false:=decide_eq_false c13;clear c13;have H':=Aside0.mk H;clear H;obtain ⟨Ao27,co27,eo27⟩:=Kd.R_slice HO_9.out;subst eo27
       go_wp2
       go_loopg [6,51] k1 (fun kq v6 v51 w' => ∃ (x6_2 : List (S35)) (x51_2 : Int),v51 = .int .i64 x51_2 ∧ Aside0 (limits_Check.l1 kq l1 x6_2 t115 x10_1 x9_1 (x9_1.length : Int) x51_2 a0_0 a0_1 a0_2 l0_3 = some (r1,r2)) ∧ Aside0 (kq ≤ k1) ∧ Aside0 (Kd.R k35 35 w' w.heap.size (fun _ => True) v6 x6_2) ∧ Aside0 (Kd.R (Kd.int .i64) 3 w' w.heap.size (fun _ => True) (.slice Ao27 x9_1.length co27) x9_1) ∧ Aside0 (w'.heap[gb114]? = some (.cells #[.string a0_0,.int .i64 a0_1,.int .i64 a0_2,(.slice A0_3 l0_3.length c0_3)] 24 (0,0))) ∧ Aside0 (Below w.heap.size w w'))
       case atStart => exact ⟨(([] : List (S35))),(0),(by first | rfl | (simp;done) | (simp [*];done)),H',⟨Nat.le_refl _⟩,⟨by first | exact Kd.R_nil _ _ _ _ _ | exact Kd.N_nil _ _ _ _ _ | exact Kd.V_nil _ _ _ _ _ | exact Kd.Q_nil _ _ _ _ _ | exact Kd.S_nil _ _ _ _ _⟩,⟨by (with_reducible repeat (first | apply Kd.R_alloc | apply Kd.R_drewN | apply Kd.R_drew));exact HO_9.out⟩,⟨bk BK114.out⟩,⟨bl1 HB.out GE114.out⟩⟩
       case round =>
        clear H'
        try clear c1
        try clear p1
        try clear q1
        try clear hx1
        try clear c2
        try clear p2
        try clear c5
        try clear c5b0
        try clear c5b1
        try clear c6
        try clear c6b0
        try clear c6b1
        try clear p6
        try clear c7
        try clear c7b0
        try clear c7b1
        try clear c10
        try clear c12
        try clear p12
        try clear q12
        try clear hx12
        try clear c13
        try clear c13b0
        try clear c14
        try clear c14b0
        try clear c15
        try clear c15b0
        try clear c16
        try clear c16b0
        try clear c17
        try clear c17b0
        try clear p18
        try clear q18
        try clear hx18
        try clear hf18
        try clear c19
        try clear c19b0
        try clear c20
        try clear c20b0
        try clear c20b1
        try clear hx120_0
        try clear hx121_0
        try clear hx123_0
        try clear hx123_1
        try clear hx123_2
        try clear hx123_3
        try clear hx123_4
        try clear hx123_5
        try clear hx18_0
        try clear p120
        try clear p121
        try clear p123
        try clear p18
        try clear p2
        try clear q120
        try clear q121
        try clear q123
        try clear q18
        obtain ⟨x6_2,x51_2,rfl,HA,HK2,HO_6,HO_49,BK114,HB⟩:=hrel
        cases gk with
        | zero => exact absurd HA.out (by simp [limits_Check.l1])
        | succ k2 =>
         have H:=HA.out;clear HA;simp only [limits_Check.l1] at H
         by_cases c28 : x51_2 < (x9_1.length : Int)
         ·rw [if_pos c28] at H;have c28b0 : decide (x51_2 < (x9_1.length : Int)) = true:=decide_eq_true c28;clear c28
          by_cases c29 : 0 ≤ x51_2
          ·rw [if_pos c29] at H;have c29b0 : decide (0 ≤ x51_2) = true:=decide_eq_true c29;clear c29
           by_cases c30 : x51_2 < (x9_1.length : Int)
           ·rw [if_pos c30] at H;have c30b0 : decide (x51_2 < (x9_1.length : Int)) = true:=decide_eq_true c30;clear c30
            by_cases c31 : x51_2 < (l1.length : Int)
            ·rw [if_pos c31] at H;have c31b0 : decide (x51_2 < (l1.length : Int)) = true:=decide_eq_true c31;clear c31;replace H:=Option.bind_eq_some_iff.mp H;obtain ⟨⟨t126,t127,t128⟩,A320,H⟩:=H
             (try dsimp only at H)
             have A32:=Aside0.mk A320;clear A320
             by_cases c33 : (rd x9_1 x51_2) > t127
             ·rw [if_pos c33] at H;have c33b0 : decide (t127 < (rd x9_1 x51_2)) = true:=decide_eq_true c33;clear c33
              by_cases c34 : x6_2.length < 8796093022208
              ·rw [if_pos c34] at H;have LMc34:=Aside0.mk c34;clear c34;obtain ⟨y129,hy129⟩ : ∃ y_ : List (S35),y_ = (x6_2 ++ [(⟨1,x51_2⟩ : S35)]):=⟨_,rfl⟩;replace H : (limits_Check.l1 k2 l1 y129 t115 x10_1 x9_1 (x9_1.length : Int) (wrap64 (x51_2 + 1)) a0_0 a0_1 a0_2 l0_3) = some (r1,r2):=by first | (rw [hy129];with_reducible exact H) | (have H2_:=(Option.bind_some _ _).symm.trans H;rw [hy129];with_reducible exact H2_) | (have H2_:=(Option.bind_some _ _).symm.trans H;with_reducible exact H2_) | with_reducible exact H | (rw [hy129];exact H) | exact H
               have Ny129:=Aside0.mk hy129;clear hy129;have H':=Aside0.mk H;clear H;have p124 : 0 ≤ (x51_2 : Int):=of_decide_eq_true (by first | (with_reducible assumption) | assumption);have q124 : x51_2 < (x9_1.length : Int):=of_decide_eq_true (by first | (with_reducible assumption) | assumption);obtain ⟨ad124,e124,hx124_0⟩:=Kd.at_int (Kd.R_reads' HO_49.out).2.2 x51_2 p124 q124
               cases e124
               replace p124:=eq_true p124;replace q124:=eq_true q124
               try go_wp2
               replace HO_6:=Aside0.mk (Kd.R_drew HO_6.out);replace HO_49:=Aside0.mk (Kd.R_drew HO_49.out);replace BK114:=Aside0.mk (blk_drew BK114.out);replace HB:=Aside0.mk (below_drew1 HB.out);have p125 : 0 ≤ (x51_2 : Int):=of_decide_eq_true (by first | (with_reducible assumption) | assumption);have q125 : x51_2 < (l1.length : Int):=of_decide_eq_true (by first | (with_reducible assumption) | assumption);obtain ⟨ad125,A125_5,c125_5,e125,hx125_0,hx125_1,hx125_2,hx125_3,hx125_4,hx125_5,hl125_5,hi125_5⟩:=at_T47 HR1.out x51_2 p125 q125;have hw125_5:=hx125_5;have hw125_4:=hx125_4;have hw125_3:=hx125_3;have hw125_2:=hx125_2;have hw125_1:=hx125_1;have hw125_0:=hx125_0
               cases e125
               replace hx125_0:=(HB.out.cell (World.block_lt_of_cell? w _ hx125_0)).trans hx125_0;replace hx125_1:=(HB.out.cell (World.block_lt_of_cell? w _ hx125_1)).trans hx125_1;replace hx125_2:=(HB.out.cell (World.block_lt_of_cell? w _ hx125_2)).trans hx125_2;replace hx125_3:=(HB.out.cell (World.block_lt_of_cell? w _ hx125_3)).trans hx125_3;replace hx125_4:=(HB.out.cell (World.block_lt_of_cell? w _ hx125_4)).trans hx125_4;replace hx125_5:=(HB.out.cell (World.block_lt_of_cell? w _ hx125_5)).trans hx125_5;have HR125_5:=Aside0.mk hi125_5;have HC125_5:=Aside0.mk hl125_5;clear hi125_5 hl125_5;replace p125:=eq_true p125;replace q125:=eq_true q125;refine start_ (n:=10) (S:=fun w' => w'.cell? ⟨gb114,0,none⟩ = some (.string a0_0) ∧ w'.cell? ⟨gb114,1,none⟩ = some (.int .i64 a0_1) ∧ w'.cell? ⟨gb114,2,none⟩ = some (.int .i64 a0_2) ∧ w'.cell? ⟨gb114,3,none⟩ = some (.slice A0_3 l0_3.length c0_3) ∧ w'.cell? (ad125.add ((x51_2).toNat * 6)) = some (.string ((rd_T47 l1 x51_2).f0)) ∧ w'.cell? ⟨(ad125.add ((x51_2).toNat * 6)).block,(ad125.add ((x51_2).toNat * 6)).off + 1,none⟩ = some (.int .u8 ((rd_T47 l1 x51_2).f1)) ∧ w'.cell? ⟨(ad125.add ((x51_2).toNat * 6)).block,(ad125.add ((x51_2).toNat * 6)).off + 2,none⟩ = some (.int .i64 ((rd_T47 l1 x51_2).f2)) ∧ w'.cell? ⟨(ad125.add ((x51_2).toNat * 6)).block,(ad125.add ((x51_2).toNat * 6)).off + 3,none⟩ = some (.int .i64 ((rd_T47 l1 x51_2).f3)) ∧ w'.cell? ⟨(ad125.add ((x51_2).toNat * 6)).block,(ad125.add ((x51_2).toNat * 6)).off + 4,none⟩ = some (.int .i64 ((rd_T47 l1 x51_2).f4)) ∧ w'.cell? ⟨(ad125.add ((x51_2).toNat * 6)).block,(ad125.add ((x51_2).toNat * 6)).off + 5,none⟩ = some (.slice A125_5 ((rd_T47 l1 x51_2).f5).length c125_5)) (ds:=[]) (pm 0 10) (by kernel_rfl) rfl rfl ⟨bc BK114.out 0 _ rfl,bc BK114.out 1 _ rfl,bc BK114.out 2 _ rfl,bc BK114.out 3 _ rfl,((HB.out.cell (World.block_lt_of_cell? w _ hw125_0)).trans hw125_0),((HB.out.cell (World.block_lt_of_cell? w _ hw125_1)).trans hw125_1),((HB.out.cell (World.block_lt_of_cell? w _ hw125_2)).trans hw125_2),((HB.out.cell (World.block_lt_of_cell? w _ hw125_3)).trans hw125_3),((HB.out.cell (World.block_lt_of_cell? w _ hw125_4)).trans hw125_4),((HB.out.cell (World.block_lt_of_cell? w _ hw125_5)).trans hw125_5)⟩ (fun hHeld => ?_);refine with_tabW limits_Check.tab16 limits_Check.bits16 (fun HT_ HW_ => ?_);generalize wr.drew = w35 at HO_6 HO_49 BK114 HB HR125_5 hx125_0 hx125_1 hx125_2 hx125_3 hx125_4 hx125_5 hHeld ⊢;refine pu 0 56 (pm 1 10) rfl rfl HT_.out (fun _ _ _ h => h) ?_;refine pu 2 58 #[true,false,true,false,false,false,false,false,false,false] rfl rfl HT_.out (fun _ _ _ h => h) ?_;refine pu 3 59 #[true,false,true,true,false,false,false,false,false,false] rfl rfl HT_.out (fun _ _ _ h => h) ?_;refine pu 4 60 #[true,false,true,true,true,false,false,false,false,false] rfl rfl HT_.out (fun _ _ _ h => h) ?_;refine pu 5 61 #[true,false,true,true,true,true,false,false,false,false] rfl rfl HT_.out (fun _ _ _ h => h) ?_;refine take_ (i:=1) (N:=some 57) (v:=?_) (a':=?_) (pm 6 10) rfl rfl (take_ofW HT_.out HW_.out (by kernel_rfl)) (fun _ _ _ h => h) (Or.inl ⟨by rfl,?_⟩) hHeld ?_ ?_;rotate_left
               ·rintro w' ⟨s0,s1,s2,s3,s4,s5,s6,s7,s8,s9⟩;go_simp;with_reducible rfl
               rotate_left
               ·simp only [Act.put,List.setIfInBounds_toArray,List.set_cons_zero,List.set_cons_succ,i64_w,i32_w];rfl
               refine take_ (i:=6) (N:=some 62) (v:=?_) (a':=?_) (pm 7 10) rfl rfl (take_ofW HT_.out HW_.out (by kernel_rfl)) (fun _ _ _ h => h) (Or.inl ⟨by rfl,?_⟩) hHeld ?_ ?_;rotate_left
               ·rintro w' ⟨s0,s1,s2,s3,s4,s5,s6,s7,s8,s9⟩;go_simp;with_reducible rfl
               rotate_left
               ·simp only [Act.put,List.setIfInBounds_toArray,List.set_cons_zero,List.set_cons_succ,i64_w,i32_w];rfl
               refine one_ (i:=7) (N:=some 63) (pm 8 10) rfl rfl (one_of HT_.out (by kernel_rfl)) (by decide) (fun K hK => ?_);refine goes_ Tryz.func26 (by kernel_rfl) rfl #[.agg #[.string a0_0,.int .i64 a0_1,.int .i64 a0_2,.slice A0_3 l0_3.length c0_3],.string ((rd_T47 l1 x51_2).f0)] (by rfl) rfl rfl ea ?_
               with_reducible refine (limits_of.calls a0_0 a0_1 a0_2 _ _ l0_3 ((rd_T47 l1 x51_2).f0) t126 t127 t128 _ ?side1 ?side2 A32.out).mono ?_
               (case side1 => exact kc (Kd.C_below HR0_3.out HB.out))
               (case side2 => exact HC0_3.out)
               rintro e w36 ⟨rfl,hb⟩;refine ⟨_,rfl,?_⟩;replace HO_6:=Aside0.mk (Kd.R_below (by (with_reducible repeat (first | apply Kd.R_alloc | apply Kd.R_drewN | apply Kd.R_drew));exact HO_6.out) hb);replace HO_49:=Aside0.mk (Kd.R_below (by (with_reducible repeat (first | apply Kd.R_alloc | apply Kd.R_drewN | apply Kd.R_drew));exact HO_49.out) hb);replace BK114:=Aside0.mk (blk_below (g:=gb114) (o:=.cells #[.string a0_0,.int .i64 a0_1,.int .i64 a0_2,.slice A0_3 l0_3.length c0_3] 24 (0,0)) (bk BK114.out) hb);replace HB:=Aside0.mk (below_step (bl1 HB.out GE114.out) hb);(try clear hb);(try clear hk);refine hK.out _ _ ⟨bc BK114.out 0 _ rfl,bc BK114.out 1 _ rfl,bc BK114.out 2 _ rfl,bc BK114.out 3 _ rfl,((HB.out.cell (World.block_lt_of_cell? w _ hw125_0)).trans hw125_0),((HB.out.cell (World.block_lt_of_cell? w _ hw125_1)).trans hw125_1),((HB.out.cell (World.block_lt_of_cell? w _ hw125_2)).trans hw125_2),((HB.out.cell (World.block_lt_of_cell? w _ hw125_3)).trans hw125_3),((HB.out.cell (World.block_lt_of_cell? w _ hw125_4)).trans hw125_4),((HB.out.cell (World.block_lt_of_cell? w _ hw125_5)).trans hw125_5)⟩ (fun hHeld => ?_);clear hK K;refine norm_ (a':=?_) ?_ ?_;rotate_left
               ·show Act.put _ (some 63) _ = _;simp only [Act.put,List.setIfInBounds_toArray,List.set_cons_zero,List.set_cons_succ,i64_w,i32_w];rfl
               refine pu 8 64 (pm 9 10) rfl rfl HT_.out (fun _ _ _ h => h) ?_;refine pu 9 65 (pm 10 10) rfl rfl HT_.out (fun _ _ _ h => h) ?_;refine done_ (done_of HT_.out (by kernel_rfl)) ?_
               try go_wp2_with (first | ((with_reducible refine gate_builtin (b:=.append) (xs:=#[.tmp 66,.tmp 69]) rfl ?_);at_builtin;refine Kd.R_append k35 (w0:=w) w.heap.size rfl (.tmp 66) (.tmp 69) 29 35 (.agg #[(.int .u8 0),(.int .i64 0)]) 16 rfl Tryz.underlying29 info35 rfl (by decide) (by omega) u6 x6_2 (⟨1,x51_2⟩ : S35) [.int .u8 1,.int .i64 x51_2] (fun _ => True) (fun _ => False) rfl rfl ?aP (fun _ hk => hk.elim) ?aF ?aO ?aB ?aS ?aL ?_;(case aP => exact k35_mkM _ _ _ (⟨1,x51_2⟩ : S35));(case aB => exact (bl1 HB.out GE114.out));(case aF => exact (fun _ _ => trivial));(case aO => exact (by (with_reducible repeat (first | apply Kd.R_alloc | apply Kd.R_drewN | apply Kd.R_drew));exact HO_6.out));(case aS => exact (below_size (bl1 HB.out GE114.out)));(case aL => have:=LMc34.out;omega);intro v130 w37 ho hb hg hat;rw [← Ny129.out] at ho;have n0_:=Aside0.mk (Kd.R_over' (by (with_reducible repeat (first | apply Kd.R_alloc | apply Kd.R_drewN | apply Kd.R_drew));exact HO_49.out) (Kd.R_typed (by (with_reducible repeat (first | apply Kd.R_alloc | apply Kd.R_drewN | apply Kd.R_drew));exact HO_6.out)) (by decide) hg);have n1_:=Aside0.mk (blk_grown (g:=gb114) (o:=.cells #[.string a0_0,.int .i64 a0_1,.int .i64 a0_2,.slice A0_3 l0_3.length c0_3] 24 (0,0)) (bk BK114.out) hg (Kd.R_ne HO_6.out BK114.out (by decide)));have n2_:=Aside0.mk (hb);have n3_:=Aside0.mk (ho);clear HO_49;clear BK114;clear HB;clear HO_6;have HO_49:=n0_;have BK114:=n1_;have HB:=n2_;have HO131:=n3_;clear n0_ n1_ n2_ n3_;clear ho hb hg hat))
               go_roundg k2
               case measure => have:=HK1.out;have:=HK2.out;omega
               case rel => exact ⟨(y129),(wrap64 (x51_2 + 1)),(by first | rfl | (simp;done) | (simp [*];done)),H',⟨by have:=HK1.out;have:=HK2.out;omega⟩,⟨by (with_reducible repeat (first | apply Kd.R_alloc | apply Kd.R_drewN | apply Kd.R_drew));exact HO131.out⟩,⟨by (with_reducible repeat (first | apply Kd.R_alloc | apply Kd.R_drewN | apply Kd.R_drew));exact HO_49.out⟩,⟨bk BK114.out⟩,⟨bl1 HB.out GE114.out⟩⟩
              ·rw [if_neg c34] at H;exact absurd H (by simp)
             ·rw [if_neg c33] at H;have c33b0 : decide (t127 < (rd x9_1 x51_2)) = false:=decide_eq_false c33;clear c33;have H':=Aside0.mk H;clear H;have p124 : 0 ≤ (x51_2 : Int):=of_decide_eq_true (by first | (with_reducible assumption) | assumption);have q124 : x51_2 < (x9_1.length : Int):=of_decide_eq_true (by first | (with_reducible assumption) | assumption);obtain ⟨ad124,e124,hx124_0⟩:=Kd.at_int (Kd.R_reads' HO_49.out).2.2 x51_2 p124 q124
              cases e124
              replace p124:=eq_true p124;replace q124:=eq_true q124
              try go_wp2
              replace HO_6:=Aside0.mk (Kd.R_drew HO_6.out);replace HO_49:=Aside0.mk (Kd.R_drew HO_49.out);replace BK114:=Aside0.mk (blk_drew BK114.out);replace HB:=Aside0.mk (below_drew1 HB.out);have p125 : 0 ≤ (x51_2 : Int):=of_decide_eq_true (by first | (with_reducible assumption) | assumption);have q125 : x51_2 < (l1.length : Int):=of_decide_eq_true (by first | (with_reducible assumption) | assumption);obtain ⟨ad125,A125_5,c125_5,e125,hx125_0,hx125_1,hx125_2,hx125_3,hx125_4,hx125_5,hl125_5,hi125_5⟩:=at_T47 HR1.out x51_2 p125 q125;have hw125_5:=hx125_5;have hw125_4:=hx125_4;have hw125_3:=hx125_3;have hw125_2:=hx125_2;have hw125_1:=hx125_1;have hw125_0:=hx125_0
              cases e125
              replace hx125_0:=(HB.out.cell (World.block_lt_of_cell? w _ hx125_0)).trans hx125_0;replace hx125_1:=(HB.out.cell (World.block_lt_of_cell? w _ hx125_1)).trans hx125_1;replace hx125_2:=(HB.out.cell (World.block_lt_of_cell? w _ hx125_2)).trans hx125_2;replace hx125_3:=(HB.out.cell (World.block_lt_of_cell? w _ hx125_3)).trans hx125_3;replace hx125_4:=(HB.out.cell (World.block_lt_of_cell? w _ hx125_4)).trans hx125_4;replace hx125_5:=(HB.out.cell (World.block_lt_of_cell? w _ hx125_5)).trans hx125_5;have HR125_5:=Aside0.mk hi125_5;have HC125_5:=Aside0.mk hl125_5;clear hi125_5 hl125_5;replace p125:=eq_true p125;replace q125:=eq_true q125;refine start_ (n:=10) (S:=fun w' => w'.cell? ⟨gb114,0,none⟩ = some (.string a0_0) ∧ w'.cell? ⟨gb114,1,none⟩ = some (.int .i64 a0_1) ∧ w'.cell? ⟨gb114,2,none⟩ = some (.int .i64 a0_2) ∧ w'.cell? ⟨gb114,3,none⟩ = some (.slice A0_3 l0_3.length c0_3) ∧ w'.cell? (ad125.add ((x51_2).toNat * 6)) = some (.string ((rd_T47 l1 x51_2).f0)) ∧ w'.cell? ⟨(ad125.add ((x51_2).toNat * 6)).block,(ad125.add ((x51_2).toNat * 6)).off + 1,none⟩ = some (.int .u8 ((rd_T47 l1 x51_2).f1)) ∧ w'.cell? ⟨(ad125.add ((x51_2).toNat * 6)).block,(ad125.add ((x51_2).toNat * 6)).off + 2,none⟩ = some (.int .i64 ((rd_T47 l1 x51_2).f2)) ∧ w'.cell? ⟨(ad125.add ((x51_2).toNat * 6)).block,(ad125.add ((x51_2).toNat * 6)).off + 3,none⟩ = some (.int .i64 ((rd_T47 l1 x51_2).f3)) ∧ w'.cell? ⟨(ad125.add ((x51_2).toNat * 6)).block,(ad125.add ((x51_2).toNat * 6)).off + 4,none⟩ = some (.int .i64 ((rd_T47 l1 x51_2).f4)) ∧ w'.cell? ⟨(ad125.add ((x51_2).toNat * 6)).block,(ad125.add ((x51_2).toNat * 6)).off + 5,none⟩ = some (.slice A125_5 ((rd_T47 l1 x51_2).f5).length c125_5)) (ds:=[]) (pm 0 10) (by kernel_rfl) rfl rfl ⟨bc BK114.out 0 _ rfl,bc BK114.out 1 _ rfl,bc BK114.out 2 _ rfl,bc BK114.out 3 _ rfl,((HB.out.cell (World.block_lt_of_cell? w _ hw125_0)).trans hw125_0),((HB.out.cell (World.block_lt_of_cell? w _ hw125_1)).trans hw125_1),((HB.out.cell (World.block_lt_of_cell? w _ hw125_2)).trans hw125_2),((HB.out.cell (World.block_lt_of_cell? w _ hw125_3)).trans hw125_3),((HB.out.cell (World.block_lt_of_cell? w _ hw125_4)).trans hw125_4),((HB.out.cell (World.block_lt_of_cell? w _ hw125_5)).trans hw125_5)⟩ (fun hHeld => ?_);refine with_tabW limits_Check.tab16 limits_Check.bits16 (fun HT_ HW_ => ?_);generalize wr.drew = w38 at HO_6 HO_49 BK114 HB HR125_5 hx125_0 hx125_1 hx125_2 hx125_3 hx125_4 hx125_5 hHeld ⊢;refine pu 0 56 (pm 1 10) rfl rfl HT_.out (fun _ _ _ h => h) ?_;refine pu 2 58 #[true,false,true,false,false,false,false,false,false,false] rfl rfl HT_.out (fun _ _ _ h => h) ?_;refine pu 3 59 #[true,false,true,true,false,false,false,false,false,false] rfl rfl HT_.out (fun _ _ _ h => h) ?_;refine pu 4 60 #[true,false,true,true,true,false,false,false,false,false] rfl rfl HT_.out (fun _ _ _ h => h) ?_;refine pu 5 61 #[true,false,true,true,true,true,false,false,false,false] rfl rfl HT_.out (fun _ _ _ h => h) ?_;refine take_ (i:=1) (N:=some 57) (v:=?_) (a':=?_) (pm 6 10) rfl rfl (take_ofW HT_.out HW_.out (by kernel_rfl)) (fun _ _ _ h => h) (Or.inl ⟨by rfl,?_⟩) hHeld ?_ ?_;rotate_left
              ·rintro w' ⟨s0,s1,s2,s3,s4,s5,s6,s7,s8,s9⟩;go_simp;with_reducible rfl
              rotate_left
              ·simp only [Act.put,List.setIfInBounds_toArray,List.set_cons_zero,List.set_cons_succ,i64_w,i32_w];rfl
              refine take_ (i:=6) (N:=some 62) (v:=?_) (a':=?_) (pm 7 10) rfl rfl (take_ofW HT_.out HW_.out (by kernel_rfl)) (fun _ _ _ h => h) (Or.inl ⟨by rfl,?_⟩) hHeld ?_ ?_;rotate_left
              ·rintro w' ⟨s0,s1,s2,s3,s4,s5,s6,s7,s8,s9⟩;go_simp;with_reducible rfl
              rotate_left
              ·simp only [Act.put,List.setIfInBounds_toArray,List.set_cons_zero,List.set_cons_succ,i64_w,i32_w];rfl
              refine one_ (i:=7) (N:=some 63) (pm 8 10) rfl rfl (one_of HT_.out (by kernel_rfl)) (by decide) (fun K hK => ?_);refine goes_ Tryz.func26 (by kernel_rfl) rfl #[.agg #[.string a0_0,.int .i64 a0_1,.int .i64 a0_2,.slice A0_3 l0_3.length c0_3],.string ((rd_T47 l1 x51_2).f0)] (by rfl) rfl rfl ea ?_
              with_reducible refine (limits_of.calls a0_0 a0_1 a0_2 _ _ l0_3 ((rd_T47 l1 x51_2).f0) t126 t127 t128 _ ?side1 ?side2 A32.out).mono ?_
              (case side1 => exact kc (Kd.C_below HR0_3.out HB.out))
              (case side2 => exact HC0_3.out)
              rintro e w39 ⟨rfl,hb⟩;refine ⟨_,rfl,?_⟩;replace HO_6:=Aside0.mk (Kd.R_below (by (with_reducible repeat (first | apply Kd.R_alloc | apply Kd.R_drewN | apply Kd.R_drew));exact HO_6.out) hb);replace HO_49:=Aside0.mk (Kd.R_below (by (with_reducible repeat (first | apply Kd.R_alloc | apply Kd.R_drewN | apply Kd.R_drew));exact HO_49.out) hb);replace BK114:=Aside0.mk (blk_below (g:=gb114) (o:=.cells #[.string a0_0,.int .i64 a0_1,.int .i64 a0_2,.slice A0_3 l0_3.length c0_3] 24 (0,0)) (bk BK114.out) hb);replace HB:=Aside0.mk (below_step (bl1 HB.out GE114.out) hb);(try clear hb);(try clear hk);refine hK.out _ _ ⟨bc BK114.out 0 _ rfl,bc BK114.out 1 _ rfl,bc BK114.out 2 _ rfl,bc BK114.out 3 _ rfl,((HB.out.cell (World.block_lt_of_cell? w _ hw125_0)).trans hw125_0),((HB.out.cell (World.block_lt_of_cell? w _ hw125_1)).trans hw125_1),((HB.out.cell (World.block_lt_of_cell? w _ hw125_2)).trans hw125_2),((HB.out.cell (World.block_lt_of_cell? w _ hw125_3)).trans hw125_3),((HB.out.cell (World.block_lt_of_cell? w _ hw125_4)).trans hw125_4),((HB.out.cell (World.block_lt_of_cell? w _ hw125_5)).trans hw125_5)⟩ (fun hHeld => ?_);clear hK K;refine norm_ (a':=?_) ?_ ?_;rotate_left
              ·show Act.put _ (some 63) _ = _;simp only [Act.put,List.setIfInBounds_toArray,List.set_cons_zero,List.set_cons_succ,i64_w,i32_w];rfl
              refine pu 8 64 (pm 9 10) rfl rfl HT_.out (fun _ _ _ h => h) ?_;refine pu 9 65 (pm 10 10) rfl rfl HT_.out (fun _ _ _ h => h) ?_;refine done_ (done_of HT_.out (by kernel_rfl)) ?_
              try go_wp2
              go_roundg k2
              case measure => have:=HK1.out;have:=HK2.out;omega
              case rel => exact ⟨(x6_2),(wrap64 (x51_2 + 1)),(by first | rfl | (simp;done) | (simp [*];done)),H',⟨by have:=HK1.out;have:=HK2.out;omega⟩,⟨by (with_reducible repeat (first | apply Kd.R_alloc | apply Kd.R_drewN | apply Kd.R_drew));exact HO_6.out⟩,⟨by (with_reducible repeat (first | apply Kd.R_alloc | apply Kd.R_drewN | apply Kd.R_drew));exact HO_49.out⟩,⟨bk BK114.out⟩,⟨bl1 HB.out GE114.out⟩⟩
            ·rw [if_neg c31] at H;exact absurd H (by simp)
           ·rw [if_neg c30] at H;exact absurd H (by simp)
          ·rw [if_neg c29] at H;exact absurd H (by simp)
         ·rw [if_neg c28] at H;have c28b0 : decide (x51_2 < (x9_1.length : Int)) = false:=decide_eq_false c28;clear c28
          by_cases c40 : x10_1 < a0_2
          ·rw [if_pos c40] at H;have c40b0 : decide (x10_1 < a0_2) = true:=decide_eq_true c40;clear c40
           by_cases c41 : x6_2.length < 8796093022208
           ·rw [if_pos c41] at H;have LMc41:=Aside0.mk c41;clear c41;obtain ⟨y132,hy132⟩ : ∃ y_ : List (S35),y_ = (x6_2 ++ [(⟨2,(-1)⟩ : S35)]):=⟨_,rfl⟩;replace H : (if t115 > a0_1 then (if y132.length < 8796093022208 then (some ((y132 ++ [(⟨3,(-1)⟩ : S35)]),0)) else (none)) else (some (y132,0))) = some (r1,r2):=by first | (rw [hy132];with_reducible exact H) | (have H2_:=(Option.bind_some _ _).symm.trans H;rw [hy132];with_reducible exact H2_) | (have H2_:=(Option.bind_some _ _).symm.trans H;with_reducible exact H2_) | with_reducible exact H | (rw [hy132];exact H) | exact H
            have Ny132:=Aside0.mk hy132;clear hy132
            by_cases c42 : t115 > a0_1
            ·rw [if_pos c42] at H;have c42b0 : decide (a0_1 < t115) = true:=decide_eq_true c42;clear c42
             by_cases c43 : y132.length < 8796093022208
             ·rw [if_pos c43] at H;have LMc43:=Aside0.mk c43;clear c43;obtain ⟨y135,hy135⟩ : ∃ y_ : List (S35),y_ = (y132 ++ [(⟨3,(-1)⟩ : S35)]):=⟨_,rfl⟩;replace H : (some (y135,0)) = some (r1,r2):=by first | (rw [hy135];with_reducible exact H) | (have H2_:=(Option.bind_some _ _).symm.trans H;rw [hy135];with_reducible exact H2_) | (have H2_:=(Option.bind_some _ _).symm.trans H;with_reducible exact H2_) | with_reducible exact H | (rw [hy135];exact H) | exact H
              have Ny135:=Aside0.mk hy135;clear hy135;simp only [Option.some.injEq,Prod.mk.injEq] at H;obtain ⟨rfl,rfl⟩:=H;have hcz44_0:=bc BK114.out 0 (.string a0_0) rfl;have hcz44_1:=bc BK114.out 1 (.int .i64 a0_1) rfl;have hcz44_2:=bc BK114.out 2 (.int .i64 a0_2) rfl;have hcz44_3:=bc BK114.out 3 (.slice A0_3 l0_3.length c0_3) rfl;have hfz44_0:=blk_frozen BK114.out 0;have hfz44_1:=blk_frozen BK114.out 1;have hfz44_2:=blk_frozen BK114.out 2;have hfz44_3:=blk_frozen BK114.out 3
              go_wp2_with (first | ((with_reducible refine gate_builtin (b:=.append) (xs:=#[.tmp 76,.tmp 78]) rfl ?_);at_builtin;refine Kd.R_append k35 (w0:=w) w.heap.size rfl (.tmp 76) (.tmp 78) 29 35 (.agg #[(.int .u8 0),(.int .i64 0)]) 16 rfl Tryz.underlying29 info35 rfl (by decide) (by omega) u6 x6_2 (⟨2,(-1)⟩ : S35) [.int .u8 2,.int .i64 (-1)] (fun _ => True) (fun _ => False) rfl rfl ?aP (fun _ hk => hk.elim) ?aF ?aO ?aB ?aS ?aL ?_;(case aP => exact k35_mkM _ _ _ (⟨2,(-1)⟩ : S35));(case aB => exact (bl1 HB.out GE114.out));(case aF => exact (fun _ _ => trivial));(case aO => exact (by (with_reducible repeat (first | apply Kd.R_alloc | apply Kd.R_drewN | apply Kd.R_drew));exact HO_6.out));(case aS => exact (below_size (bl1 HB.out GE114.out)));(case aL => have:=LMc41.out;omega);intro v133 w45 ho hb hg hat;rw [← Ny132.out] at ho;have n0_:=Aside0.mk (Kd.R_over' (by (with_reducible repeat (first | apply Kd.R_alloc | apply Kd.R_drewN | apply Kd.R_drew));exact HO_49.out) (Kd.R_typed (by (with_reducible repeat (first | apply Kd.R_alloc | apply Kd.R_drewN | apply Kd.R_drew));exact HO_6.out)) (by decide) hg);have n1_:=Aside0.mk (blk_grown (g:=gb114) (o:=.cells #[.string a0_0,.int .i64 a0_1,.int .i64 a0_2,.slice A0_3 l0_3.length c0_3] 24 (0,0)) (bk BK114.out) hg (Kd.R_ne HO_6.out BK114.out (by decide)));have n2_:=Aside0.mk (hb);have n3_:=Aside0.mk (ho);clear HO_49;clear BK114;clear HB;clear HO_6;have HO_49:=n0_;have BK114:=n1_;have HB:=n2_;have HO134:=n3_;clear n0_ n1_ n2_ n3_;clear ho hb hg hat;have hcz46_0:=bc BK114.out 0 (.string a0_0) rfl;have hcz46_1:=bc BK114.out 1 (.int .i64 a0_1) rfl;have hcz46_2:=bc BK114.out 2 (.int .i64 a0_2) rfl;have hcz46_3:=bc BK114.out 3 (.slice A0_3 l0_3.length c0_3) rfl;have hfz46_0:=blk_frozen BK114.out 0;have hfz46_1:=blk_frozen BK114.out 1;have hfz46_2:=blk_frozen BK114.out 2;have hfz46_3:=blk_frozen BK114.out 3) | ((with_reducible refine gate_builtin (b:=.append) (xs:=#[.tmp 84,.tmp 86]) rfl ?_);at_builtin;refine Kd.R_append k35 (w0:=w) w.heap.size rfl (.tmp 84) (.tmp 86) 29 35 (.agg #[(.int .u8 0),(.int .i64 0)]) 16 rfl Tryz.underlying29 info35 rfl (by decide) (by omega) v133 y132 (⟨3,(-1)⟩ : S35) [.int .u8 3,.int .i64 (-1)] (fun _ => True) (fun _ => False) rfl rfl ?aP (fun _ hk => hk.elim) ?aF ?aO ?aB ?aS ?aL ?_;(case aP => exact k35_mkM _ _ _ (⟨3,(-1)⟩ : S35));(case aB => exact (bl1 HB.out GE114.out));(case aF => exact (fun _ _ => trivial));(case aO => exact (by (with_reducible repeat (first | apply Kd.R_alloc | apply Kd.R_drewN | apply Kd.R_drew));exact HO134.out));(case aS => exact (below_size (bl1 HB.out GE114.out)));(case aL => have:=LMc43.out;omega);intro v136 w47 ho hb hg hat;rw [← Ny135.out] at ho;have n0_:=Aside0.mk (Kd.R_over' (by (with_reducible repeat (first | apply Kd.R_alloc | apply Kd.R_drewN | apply Kd.R_drew));exact HO_49.out) (Kd.R_typed (by (with_reducible repeat (first | apply Kd.R_alloc | apply Kd.R_drewN | apply Kd.R_drew));exact HO134.out)) (by decide) hg);have n1_:=Aside0.mk (blk_grown (g:=gb114) (o:=.cells #[.string a0_0,.int .i64 a0_1,.int .i64 a0_2,.slice A0_3 l0_3.length c0_3] 24 (0,0)) (bk BK114.out) hg (Kd.R_ne HO134.out BK114.out (by decide)));have n2_:=Aside0.mk (hb);have n3_:=Aside0.mk (ho);clear HO_49;clear BK114;clear HB;clear HO134;have HO_49:=n0_;have BK114:=n1_;have HB:=n2_;have HO137:=n3_;clear n0_ n1_ n2_ n3_;clear ho hb hg hat))
              go_ret2
              exact ⟨_,by first | rfl | (simp [errW_none,errW_some] <;> rfl) | (simp [*,errW_none,errW_some] <;> rfl),by (with_reducible repeat (first | apply Kd.R_alloc | apply Kd.R_drewN | apply Kd.R_drew));exact HO137.out,bl1 HB.out GE114.out⟩
             ·rw [if_neg c43] at H;exact absurd H (by simp)
            ·rw [if_neg c42] at H;have c42b0 : decide (a0_1 < t115) = false:=decide_eq_false c42;clear c42;simp only [Option.some.injEq,Prod.mk.injEq] at H;obtain ⟨rfl,rfl⟩:=H;have hcz48_0:=bc BK114.out 0 (.string a0_0) rfl;have hcz48_1:=bc BK114.out 1 (.int .i64 a0_1) rfl;have hcz48_2:=bc BK114.out 2 (.int .i64 a0_2) rfl;have hcz48_3:=bc BK114.out 3 (.slice A0_3 l0_3.length c0_3) rfl;have hfz48_0:=blk_frozen BK114.out 0;have hfz48_1:=blk_frozen BK114.out 1;have hfz48_2:=blk_frozen BK114.out 2;have hfz48_3:=blk_frozen BK114.out 3
             go_wp2_with (first | ((with_reducible refine gate_builtin (b:=.append) (xs:=#[.tmp 76,.tmp 78]) rfl ?_);at_builtin;refine Kd.R_append k35 (w0:=w) w.heap.size rfl (.tmp 76) (.tmp 78) 29 35 (.agg #[(.int .u8 0),(.int .i64 0)]) 16 rfl Tryz.underlying29 info35 rfl (by decide) (by omega) u6 x6_2 (⟨2,(-1)⟩ : S35) [.int .u8 2,.int .i64 (-1)] (fun _ => True) (fun _ => False) rfl rfl ?aP (fun _ hk => hk.elim) ?aF ?aO ?aB ?aS ?aL ?_;(case aP => exact k35_mkM _ _ _ (⟨2,(-1)⟩ : S35));(case aB => exact (bl1 HB.out GE114.out));(case aF => exact (fun _ _ => trivial));(case aO => exact (by (with_reducible repeat (first | apply Kd.R_alloc | apply Kd.R_drewN | apply Kd.R_drew));exact HO_6.out));(case aS => exact (below_size (bl1 HB.out GE114.out)));(case aL => have:=LMc41.out;omega);intro v133 w49 ho hb hg hat;rw [← Ny132.out] at ho;have n0_:=Aside0.mk (Kd.R_over' (by (with_reducible repeat (first | apply Kd.R_alloc | apply Kd.R_drewN | apply Kd.R_drew));exact HO_49.out) (Kd.R_typed (by (with_reducible repeat (first | apply Kd.R_alloc | apply Kd.R_drewN | apply Kd.R_drew));exact HO_6.out)) (by decide) hg);have n1_:=Aside0.mk (blk_grown (g:=gb114) (o:=.cells #[.string a0_0,.int .i64 a0_1,.int .i64 a0_2,.slice A0_3 l0_3.length c0_3] 24 (0,0)) (bk BK114.out) hg (Kd.R_ne HO_6.out BK114.out (by decide)));have n2_:=Aside0.mk (hb);have n3_:=Aside0.mk (ho);clear HO_49;clear BK114;clear HB;clear HO_6;have HO_49:=n0_;have BK114:=n1_;have HB:=n2_;have HO134:=n3_;clear n0_ n1_ n2_ n3_;clear ho hb hg hat;have hcz50_0:=bc BK114.out 0 (.string a0_0) rfl;have hcz50_1:=bc BK114.out 1 (.int .i64 a0_1) rfl;have hcz50_2:=bc BK114.out 2 (.int .i64 a0_2) rfl;have hcz50_3:=bc BK114.out 3 (.slice A0_3 l0_3.length c0_3) rfl;have hfz50_0:=blk_frozen BK114.out 0;have hfz50_1:=blk_frozen BK114.out 1;have hfz50_2:=blk_frozen BK114.out 2;have hfz50_3:=blk_frozen BK114.out 3))
             go_ret2
             exact ⟨_,by first | rfl | (simp [errW_none,errW_some] <;> rfl) | (simp [*,errW_none,errW_some] <;> rfl),by (with_reducible repeat (first | apply Kd.R_alloc | apply Kd.R_drewN | apply Kd.R_drew));exact HO134.out,bl1 HB.out GE114.out⟩
           ·rw [if_neg c41] at H;exact absurd H (by simp)
          ·rw [if_neg c40] at H;have c40b0 : decide (x10_1 < a0_2) = false:=decide_eq_false c40;clear c40
           by_cases c51 : t115 > a0_1
           ·rw [if_pos c51] at H;have c51b0 : decide (a0_1 < t115) = true:=decide_eq_true c51;clear c51
            by_cases c52 : x6_2.length < 8796093022208
            ·rw [if_pos c52] at H;have LMc52:=Aside0.mk c52;clear c52;obtain ⟨y138,hy138⟩ : ∃ y_ : List (S35),y_ = (x6_2 ++ [(⟨3,(-1)⟩ : S35)]):=⟨_,rfl⟩;replace H : (some (y138,0)) = some (r1,r2):=by first | (rw [hy138];with_reducible exact H) | (have H2_:=(Option.bind_some _ _).symm.trans H;rw [hy138];with_reducible exact H2_) | (have H2_:=(Option.bind_some _ _).symm.trans H;with_reducible exact H2_) | with_reducible exact H | (rw [hy138];exact H) | exact H
             have Ny138:=Aside0.mk hy138;clear hy138;simp only [Option.some.injEq,Prod.mk.injEq] at H;obtain ⟨rfl,rfl⟩:=H;have hcz53_0:=bc BK114.out 0 (.string a0_0) rfl;have hcz53_1:=bc BK114.out 1 (.int .i64 a0_1) rfl;have hcz53_2:=bc BK114.out 2 (.int .i64 a0_2) rfl;have hcz53_3:=bc BK114.out 3 (.slice A0_3 l0_3.length c0_3) rfl;have hfz53_0:=blk_frozen BK114.out 0;have hfz53_1:=blk_frozen BK114.out 1;have hfz53_2:=blk_frozen BK114.out 2;have hfz53_3:=blk_frozen BK114.out 3
             go_wp2_with (first | ((with_reducible refine gate_builtin (b:=.append) (xs:=#[.tmp 84,.tmp 86]) rfl ?_);at_builtin;refine Kd.R_append k35 (w0:=w) w.heap.size rfl (.tmp 84) (.tmp 86) 29 35 (.agg #[(.int .u8 0),(.int .i64 0)]) 16 rfl Tryz.underlying29 info35 rfl (by decide) (by omega) u6 x6_2 (⟨3,(-1)⟩ : S35) [.int .u8 3,.int .i64 (-1)] (fun _ => True) (fun _ => False) rfl rfl ?aP (fun _ hk => hk.elim) ?aF ?aO ?aB ?aS ?aL ?_;(case aP => exact k35_mkM _ _ _ (⟨3,(-1)⟩ : S35));(case aB => exact (bl1 HB.out GE114.out));(case aF => exact (fun _ _ => trivial));(case aO => exact (by (with_reducible repeat (first | apply Kd.R_alloc | apply Kd.R_drewN | apply Kd.R_drew));exact HO_6.out));(case aS => exact (below_size (bl1 HB.out GE114.out)));(case aL => have:=LMc52.out;omega);intro v139 w54 ho hb hg hat;rw [← Ny138.out] at ho;have n0_:=Aside0.mk (Kd.R_over' (by (with_reducible repeat (first | apply Kd.R_alloc | apply Kd.R_drewN | apply Kd.R_drew));exact HO_49.out) (Kd.R_typed (by (with_reducible repeat (first | apply Kd.R_alloc | apply Kd.R_drewN | apply Kd.R_drew));exact HO_6.out)) (by decide) hg);have n1_:=Aside0.mk (blk_grown (g:=gb114) (o:=.cells #[.string a0_0,.int .i64 a0_1,.int .i64 a0_2,.slice A0_3 l0_3.length c0_3] 24 (0,0)) (bk BK114.out) hg (Kd.R_ne HO_6.out BK114.out (by decide)));have n2_:=Aside0.mk (hb);have n3_:=Aside0.mk (ho);clear HO_49;clear BK114;clear HB;clear HO_6;have HO_49:=n0_;have BK114:=n1_;have HB:=n2_;have HO140:=n3_;clear n0_ n1_ n2_ n3_;clear ho hb hg hat))
             go_ret2
             exact ⟨_,by first | rfl | (simp [errW_none,errW_some] <;> rfl) | (simp [*,errW_none,errW_some] <;> rfl),by (with_reducible repeat (first | apply Kd.R_alloc | apply Kd.R_drewN | apply Kd.R_drew));exact HO140.out,bl1 HB.out GE114.out⟩
            ·rw [if_neg c52] at H;exact absurd H (by simp)
           ·rw [if_neg c51] at H;have c51b0 : decide (a0_1 < t115) = false:=decide_eq_false c51;clear c51;simp only [Option.some.injEq,Prod.mk.injEq] at H;obtain ⟨rfl,rfl⟩:=H;have hcz55_0:=bc BK114.out 0 (.string a0_0) rfl;have hcz55_1:=bc BK114.out 1 (.int .i64 a0_1) rfl;have hcz55_2:=bc BK114.out 2 (.int .i64 a0_2) rfl;have hcz55_3:=bc BK114.out 3 (.slice A0_3 l0_3.length c0_3) rfl;have hfz55_0:=blk_frozen BK114.out 0;have hfz55_1:=blk_frozen BK114.out 1;have hfz55_2:=blk_frozen BK114.out 2;have hfz55_3:=blk_frozen BK114.out 3
            go_wp2
            go_ret2
            exact ⟨_,by first | rfl | (simp [errW_none,errW_some] <;> rfl) | (simp [*,errW_none,errW_some] <;> rfl),by (with_reducible repeat (first | apply Kd.R_alloc | apply Kd.R_drewN | apply Kd.R_drew));exact HO_6.out,bl1 HB.out GE114.out⟩
   ·rw [if_neg c7] at H;exact absurd H (by simp)
  ·rw [if_neg c6] at H;exact absurd H (by simp)
 ·rw [if_neg c5] at H;have c5b0 : (t116 == 0) = false:=beq_eq_false_iff_ne.mpr c5;have c5b1 : (t116 != 0) = true:=bne_iff_ne.mpr c5;simp only [Option.some.injEq,Prod.mk.injEq] at H;obtain ⟨rfl,rfl⟩:=H
  go_enter Tryz.func10,Tryz.ntmps10
  go_wp2_with (first | ((with_reducible refine gate_dst (N:=3) rfl ?_);refine box_event ?hg (N:=3) ?hd (cs:=#[.string a0_0,.int .i64 a0_1,.int .i64 a0_2,.slice A0_3 l0_3.length c0_3]) (t:=24) ?hr ?_;(case hd => rfl);(case hg => rfl);(case hr => first | (go_simp;done) | (go_simp;rfl));intro gb114 hg w56 hbox hb;have n0_:=Aside0.mk (below_step (bl0 HB.out) hb);have n1_:=Aside0.mk (hbox);have n2_:=Aside0.mk ((by rw [hg];exact (below_size (bl0 HB.out)) : w.heap.size ≤ gb114));have n3_:=Aside0.mk ((by rw [hg];exact (below_size (bl0 HB.out)) : w.heap.size ≤ gb114));clear HB;have HB:=n0_;have BK114:=n1_;have GW114:=n2_;have GE114:=n3_;clear n0_ n1_ n2_ n3_;clear hb hbox hg;have hcz57_0:=bc BK114.out 0 (.string a0_0) rfl;have hcz57_1:=bc BK114.out 1 (.int .i64 a0_1) rfl;have hcz57_2:=bc BK114.out 2 (.int .i64 a0_2) rfl;have hcz57_3:=bc BK114.out 3 (.slice A0_3 l0_3.length c0_3) rfl;have hfz57_0:=blk_frozen BK114.out 0;have hfz57_1:=blk_frozen BK114.out 1;have hfz57_2:=blk_frozen BK114.out 2;have hfz57_3:=blk_frozen BK114.out 3) | ((with_reducible refine gate_callee (f:=13) rfl ?_);refine goesL_ (some 19) rfl rfl Tryz.func13 (by kernel_rfl) rfl #[.agg #[.string a0_0,.int .i64 a0_1,.int .i64 a0_2,.slice A0_3 l0_3.length c0_3],.slice A1 l1.length c1,.slice A2 l2.length c2] rfl ea ?_;(with_reducible refine (limits_Cost.calls k a0_0 a0_1 a0_2 _ _ l0_3 _ _ l1 _ _ l2 t115 t116 _ ?side1 ?side2 ?side3 ?side4 ?side5 ?side6 ?side7 A4.out).mono ?_);(case side1 => exact kc (Kd.C_below HR0_3.out HB.out));(case side2 => exact HC0_3.out);(case side3 => exact kc (Kd.C_below HR1.out HB.out));(case side4 => exact HC1.out);(case side5 => exact kc (Kd.C_below HR2.out HB.out));(case side6 => exact HC2.out);(case side7 => exact Tabs.below HG.out (bl1 HB.out GE114.out));rintro e w58 ⟨rfl,hb⟩;refine ⟨_,rfl,?_⟩;replace BK114:=Aside0.mk (blk_below (g:=gb114) (o:=.cells #[.string a0_0,.int .i64 a0_1,.int .i64 a0_2,.slice A0_3 l0_3.length c0_3] 24 (0,0)) (bk BK114.out) hb);replace HB:=Aside0.mk (below_step (bl1 HB.out GE114.out) hb);(try clear hb);(try clear hk)))
  go_ret2
  exact ⟨_,by first | rfl | (simp [errW_none,errW_some] <;> rfl) | (simp [*,errW_none,errW_some] <;> rfl),by first | exact Kd.R_nil _ _ _ _ _ | exact Kd.N_nil _ _ _ _ _ | exact Kd.V_nil _ _ _ _ _ | exact Kd.Q_nil _ _ _ _ _ | exact Kd.S_nil _ _ _ _ _,bl1 HB.out GE114.out⟩

end Go.Proofs.YtgcmgfljbadljaaGreatDoor.L
