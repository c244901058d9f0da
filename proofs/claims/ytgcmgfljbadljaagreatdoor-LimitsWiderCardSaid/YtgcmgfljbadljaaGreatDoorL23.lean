/- Written by a program of this claim's author (stubprint.py, over the kit's print) out of the translation: Go functions as Lean functions, and that the calls come to them. -/
import Derived.Test.YtgcmgfljbadljaaGreatDoorL0
import Derived.Test.YtgcmgfljbadljaaGreatDoorL10
import Derived.Test.YtgcmgfljbadljaaGreatDoorL20
import Derived.Test.YtgcmgfljbadljaaGreatDoorL22
import Derived.Test.YtgcmgfljbadljaaGreatDoorHandS
namespace Go.Proofs.YtgcmgfljbadljaaGreatDoor.L
open Go.RowKit Go.Proofs.YtgcmgfljbadljaaGreatDoorW.PrintWords Go.Proofs.YtgcmgfljbadljaaGreatDoorW.PrintLast Go.Proofs.YtgcmgfljbadljaaGreatDoorW.PrintMore Go.Proofs.YtgcmgfljbadljaaGreatDoor.HandS Go.Proofs.YtgcmgfljbadljaaGreatDoor.Iter
attribute [local go_sem] max2_int min2_int max_two min_two max_three min_three max_four min_four   -- for this text's walks alone
set_option linter.unusedVariables false
set_option linter.unusedSimpArgs false

/-! ### scan_Tokens: function 32 -/
mutual
def scan_Tokens.l0 : Nat → ByteArray → List (S74) → Bool → Int → Int → List Int → List (S50) → Int → ByteArray → Option ((List (S74)) × Int × Int × Int)
 | 0,_,_,_,_,_,_,_,_,_ => none
 | k + 1,x0,x4,x6,x7,x8,x373000,x373001,x374000,x374001 => (rune_next.f x374001 x374000).bind fun bt374 => (if bt374.1 = true then (if 0 ≤ x8 then (if x8 < (x373001.length : Int) then (if bt374.2.1 < x7 then (scan_Tokens.l0 k x0 x4 x6 x7 (wrap64 (x8 + 1)) x373000 x373001 bt374.2.2.2 x374001) else (if bt374.2.2.1 = 10 then (scan_Tokens.l0 k x0 x4 false x7 (wrap64 (x8 + 1)) x373000 x373001 bt374.2.2.2 x374001) else ((scan_broken.f x0 bt374.2.1 bt374.2.2.1).bind fun t380 => (if t380 = true then (some (([] : List (S74)),4,(rd_T50 x373001 x8).f0,(rd_T50 x373001 x8).f1)) else (if bt374.2.2.1 = 35 then (scan_Tokens.j1 k x0 x4 true x7 (wrap64 (x8 + 1)) bt374.2.1 bt374.2.2.1 x373000 x373001 bt374.2.2.2 x374001 ((rd_T50 x373001 x8).f0) ((rd_T50 x373001 x8).f1)) else (scan_Tokens.j1 k x0 x4 x6 x7 (wrap64 (x8 + 1)) bt374.2.1 bt374.2.2.1 x373000 x373001 bt374.2.2.2 x374001 ((rd_T50 x373001 x8).f0) ((rd_T50 x373001 x8).f1))))))) else (none)) else (none)) else (if 0 ≤ (wrap64 ((x373001.length : Int) - 1)) then (if (wrap64 ((x373001.length : Int) - 1)) < (x373001.length : Int) then (if x4.length < 3518437208883 then (some ((x4 ++ [(⟨0,(⟨#[]⟩ : ByteArray),(⟨(rd_T50 x373001 (wrap64 ((x373001.length : Int) - 1))).f0,(rd_T50 x373001 (wrap64 ((x373001.length : Int) - 1))).f1⟩ : S50)⟩ : S74)]),0,0,0)) else (none)) else (none)) else (none)))
def scan_Tokens.j1 : Nat → ByteArray → List (S74) → Bool → Int → Int → Int → Int → List Int → List (S50) → Int → ByteArray → Int → Int → Option ((List (S74)) × Int × Int × Int)
 | 0,_,_,_,_,_,_,_,_,_,_,_,_,_ => none
 | k + 1,x0,x4,x6,x7,x8,x9,x10,x373000,x373001,x374000,x374001,x380000,x380001 => if x6 = true then (scan_Tokens.j2 k x0 x4 x6 x7 x8 x9 x10 true x373000 x373001 x374000 x374001 x380000 x380001) else (if x10 = 32 then (scan_Tokens.j2 k x0 x4 x6 x7 x8 x9 x10 true x373000 x373001 x374000 x374001 x380000 x380001) else (if x10 = 9 then (scan_Tokens.j2 k x0 x4 x6 x7 x8 x9 x10 true x373000 x373001 x374000 x374001 x380000 x380001) else (scan_Tokens.j2 k x0 x4 x6 x7 x8 x9 x10 (x10 == 13) x373000 x373001 x374000 x374001 x380000 x380001)))
def scan_Tokens.j2 : Nat → ByteArray → List (S74) → Bool → Int → Int → Int → Int → Bool → List Int → List (S50) → Int → ByteArray → Int → Int → Option ((List (S74)) × Int × Int × Int)
 | 0,_,_,_,_,_,_,_,_,_,_,_,_,_,_ => none
 | k + 1,x0,x4,x6,x7,x8,x9,x10,x64,x373000,x373001,x374000,x374001,x380000,x380001 => if x64 = true then (scan_Tokens.l0 k x0 x4 x6 x7 x8 x373000 x373001 x374000 x374001) else (if 0 ≤ x9 then (if x9 ≤ (x0.size : Int) then ((scan_token.f k (x0.extract (x9 : Int).toNat x0.size) x10).bind fun bt381 => (if bt381.2.2 = 0 then (if x9 ≤ (wrap64 (x9 + bt381.2.1)) then (if (wrap64 (x9 + bt381.2.1)) ≤ (x0.size : Int) then (if x4.length < 3518437208883 then (scan_Tokens.l0 k x0 (x4 ++ [(⟨bt381.1,x0.extract (x9 : Int).toNat ((wrap64 (x9 + bt381.2.1)) : Int).toNat,(⟨x380000,x380001⟩ : S50)⟩ : S74)]) x6 (wrap64 (x9 + bt381.2.1)) x8 x373000 x373001 x374000 x374001) else (none)) else (none)) else (none)) else (some (([] : List (S74)),bt381.2.2,x380000,x380001)))) else (none)) else (none))
end
def scan_Tokens.f (k : Nat) (a0 : ByteArray) : Option ((List (S74)) × Int × Int × Int):=if (a0.size : Int) > 65536 then (some (([] : List (S74)),3,1,1)) else ((scan_mapped.f k a0).bind fun bt366 => (scan_Tokens.l0 k a0 ([] : List (S74)) false 0 0 bt366.1 bt366.2 0 a0))
theorem scan_Tokens.mono_l : ∀ k,(∀ y0 y1 y2 y3 y4 y5 y6 y7 y8,LeO (scan_Tokens.l0 k y0 y1 y2 y3 y4 y5 y6 y7 y8) (scan_Tokens.l0 (k + 1) y0 y1 y2 y3 y4 y5 y6 y7 y8)) ∧ (∀ y0 y1 y2 y3 y4 y5 y6 y7 y8 y9 y10 y11 y12,LeO (scan_Tokens.j1 k y0 y1 y2 y3 y4 y5 y6 y7 y8 y9 y10 y11 y12) (scan_Tokens.j1 (k + 1) y0 y1 y2 y3 y4 y5 y6 y7 y8 y9 y10 y11 y12)) ∧ (∀ y0 y1 y2 y3 y4 y5 y6 y7 y8 y9 y10 y11 y12 y13,LeO (scan_Tokens.j2 k y0 y1 y2 y3 y4 y5 y6 y7 y8 y9 y10 y11 y12 y13) (scan_Tokens.j2 (k + 1) y0 y1 y2 y3 y4 y5 y6 y7 y8 y9 y10 y11 y12 y13))
 | 0 => ⟨fun _ _ _ _ _ _ _ _ _ r h => by simp [scan_Tokens.l0] at h,fun _ _ _ _ _ _ _ _ _ _ _ _ _ r h => by simp [scan_Tokens.j1] at h,fun _ _ _ _ _ _ _ _ _ _ _ _ _ _ r h => by simp [scan_Tokens.j2] at h⟩
 | k + 1 => by
  obtain ⟨ih0,ih1,ih2⟩:=scan_Tokens.mono_l k;refine ⟨?_,?_,?_⟩
  ·intro y0 y1 y2 y3 y4 y5 y6 y7 y8
   unfold scan_Tokens.l0
   repeat' first
   | (with_reducible exact ih0 _ _ _ _ _ _ _ _ _)
   | (with_reducible exact ih1 _ _ _ _ _ _ _ _ _ _ _ _ _)
   | (with_reducible exact ih2 _ _ _ _ _ _ _ _ _ _ _ _ _ _)
   | (with_reducible exact scan_mapped.mono _ _)
   | (with_reducible exact scan_token.mono _ _ _)
   | (with_reducible exact LeO.refl _)
   | (with_reducible exact LeO.none _)
   | (with_reducible refine LeO.ite ?_ ?_)
   | (with_reducible refine LeO.bind ?_ (fun _ => ?_))
   | exact ih0 _ _ _ _ _ _ _ _ _
   | exact ih1 _ _ _ _ _ _ _ _ _ _ _ _ _
   | exact ih2 _ _ _ _ _ _ _ _ _ _ _ _ _ _
   | exact scan_mapped.mono _ _
   | exact scan_token.mono _ _ _
   | exact LeO.none _
   | refine LeO.ite ?_ ?_
   | refine LeO.bind ?_ (fun _ => ?_)
  ·intro y0 y1 y2 y3 y4 y5 y6 y7 y8 y9 y10 y11 y12
   unfold scan_Tokens.j1
   repeat' first
   | (with_reducible exact ih0 _ _ _ _ _ _ _ _ _)
   | (with_reducible exact ih1 _ _ _ _ _ _ _ _ _ _ _ _ _)
   | (with_reducible exact ih2 _ _ _ _ _ _ _ _ _ _ _ _ _ _)
   | (with_reducible exact scan_mapped.mono _ _)
   | (with_reducible exact scan_token.mono _ _ _)
   | (with_reducible exact LeO.refl _)
   | (with_reducible exact LeO.none _)
   | (with_reducible refine LeO.ite ?_ ?_)
   | (with_reducible refine LeO.bind ?_ (fun _ => ?_))
   | exact ih0 _ _ _ _ _ _ _ _ _
   | exact ih1 _ _ _ _ _ _ _ _ _ _ _ _ _
   | exact ih2 _ _ _ _ _ _ _ _ _ _ _ _ _ _
   | exact scan_mapped.mono _ _
   | exact scan_token.mono _ _ _
   | exact LeO.none _
   | refine LeO.ite ?_ ?_
   | refine LeO.bind ?_ (fun _ => ?_)
  ·intro y0 y1 y2 y3 y4 y5 y6 y7 y8 y9 y10 y11 y12 y13
   unfold scan_Tokens.j2
   repeat' first
   | (with_reducible exact ih0 _ _ _ _ _ _ _ _ _)
   | (with_reducible exact ih1 _ _ _ _ _ _ _ _ _ _ _ _ _)
   | (with_reducible exact ih2 _ _ _ _ _ _ _ _ _ _ _ _ _ _)
   | (with_reducible exact scan_mapped.mono _ _)
   | (with_reducible exact scan_token.mono _ _ _)
   | (with_reducible exact LeO.refl _)
   | (with_reducible exact LeO.none _)
   | (with_reducible refine LeO.ite ?_ ?_)
   | (with_reducible refine LeO.bind ?_ (fun _ => ?_))
   | exact ih0 _ _ _ _ _ _ _ _ _
   | exact ih1 _ _ _ _ _ _ _ _ _ _ _ _ _
   | exact ih2 _ _ _ _ _ _ _ _ _ _ _ _ _ _
   | exact scan_mapped.mono _ _
   | exact scan_token.mono _ _ _
   | exact LeO.none _
   | refine LeO.ite ?_ ?_
   | refine LeO.bind ?_ (fun _ => ?_)
theorem scan_Tokens.mono : ∀ a0 k,LeO (scan_Tokens.f k a0) (scan_Tokens.f (k + 1) a0):=by
 intro a0 k;obtain ⟨ih0,ih1,ih2⟩:=scan_Tokens.mono_l k
 unfold scan_Tokens.f
 repeat' first
   | (with_reducible exact ih0 _ _ _ _ _ _ _ _ _)
   | (with_reducible exact ih1 _ _ _ _ _ _ _ _ _ _ _ _ _)
   | (with_reducible exact ih2 _ _ _ _ _ _ _ _ _ _ _ _ _ _)
   | (with_reducible exact scan_mapped.mono _ _)
   | (with_reducible exact scan_token.mono _ _ _)
   | (with_reducible exact LeO.refl _)
   | (with_reducible exact LeO.none _)
   | (with_reducible refine LeO.ite ?_ ?_)
   | (with_reducible refine LeO.bind ?_ (fun _ => ?_))
   | exact ih0 _ _ _ _ _ _ _ _ _
   | exact ih1 _ _ _ _ _ _ _ _ _ _ _ _ _
   | exact ih2 _ _ _ _ _ _ _ _ _ _ _ _ _ _
   | exact scan_mapped.mono _ _
   | exact scan_token.mono _ _ _
   | exact LeO.none _
   | refine LeO.ite ?_ ?_
   | refine LeO.bind ?_ (fun _ => ?_)
def scan_Tokens.T22 : Bool × List (List Nat × List Nat):=(true,[([],[]),([],[]),([],[]),([],[]),([],[]),([],[]),([4,5],[4,5]),([2,3,6],[2,3,6]),([],[]),([1,7,8],[1,7,8]),([9],[9]),([0,10],[0,10]),([11,11,0,1,2,3,4,5,6,7,8,9,10,11],[0,11])])
def scan_Tokens.B22 : List Nat:=[0,0,0,0,0,0,48,124,0,510,1022,2047,4095]
theorem scan_Tokens.tab22 : rtab .any (opsOf Tryz.f32 22) = scan_Tokens.T22:=by kernel_rfl
theorem scan_Tokens.bits22 : waitsOk scan_Tokens.T22.2 scan_Tokens.B22 = true:=by kernel_rfl
set_option maxHeartbeats 8000000 in
set_option maxRecDepth 100000 in
theorem scan_Tokens.calls (k : Nat) (a0 : ByteArray) (r1 : List (S74)) (r2 : Int) (r3 : Int) (r4 : Int) (w : World) (hG : Tabs w) (h : scan_Tokens.f k a0 = some (r1,r2,r3,r4)) :
  Calls Tryz.prog 32 #[.string a0] w fun e w' => ∃ v0_ : Value,e = .returned (.tuple #[v0_,.agg #[.int .i64 r2,.int .i64 r3,.int .i64 r4]]) ∧ Kd.R k74 74 w' w.heap.size (fun _ => True) v0_ r1 ∧ Below w.heap.size w w':=by
 have hu52:=Tryz.underlying52;have hu50:=Tryz.underlying50;have hu106:=Tryz.underlying106;have hu74:=Tryz.underlying74;have HG:=Aside0.mk hG;clear hG;have HB:=Aside0.mk (Below.refl w.heap.size w);have H : (if (a0.size : Int) > 65536 then (some (([] : List (S74)),3,1,1)) else ((scan_mapped.f k a0).bind fun bt366 => (scan_Tokens.l0 k a0 ([] : List (S74)) false 0 0 bt366.1 bt366.2 0 a0))) = some (r1,r2,r3,r4):=h;clear h
 by_cases c2 : (a0.size : Int) > 65536
 ·rw [if_pos c2] at H;have c2b0 : decide (65536 < (a0.size : Int)) = true:=decide_eq_true c2;have c2b1 : decide (65536 < a0.size) = true:=decide_eq_true (by omega);clear c2;simp only [Option.some.injEq,Prod.mk.injEq] at H;obtain ⟨rfl,rfl,rfl,rfl⟩:=H
  go_enter Tryz.func32,Tryz.ntmps32
  go_wp2_with (first | ((with_reducible refine gate_dst (N:=3) rfl ?_);refine box_event ?hg (N:=3) ?hd (cs:=#[.int .i64 0,.int .i64 0,.int .i64 0]) (t:=52) ?hr ?_;(case hd => rfl);(case hg => rfl);(case hr => first | (go_simp;done) | (go_simp;rfl));intro gb365 hg w3 hbox hb;have n0_:=Aside0.mk (below_step (bl0 HB.out) hb);have n1_:=Aside0.mk (hbox);have n2_:=Aside0.mk ((by rw [hg];exact (below_size (bl0 HB.out)) : w.heap.size ≤ gb365));have n3_:=Aside0.mk ((by rw [hg];exact (below_size (bl0 HB.out)) : w.heap.size ≤ gb365));clear HB;have HB:=n0_;have BK365:=n1_;have GW365:=n2_;have GE365:=n3_;clear n0_ n1_ n2_ n3_;clear hb hbox hg;have hcz4_0 : w3.cell? ⟨gb365,0,none⟩ = some (.int .i64 0):=(blk_cell BK365.out 0).trans rfl;have hcz4_1 : w3.cell? ⟨gb365,1,none⟩ = some (.int .i64 0):=(blk_cell BK365.out 1).trans rfl;have hcz4_2 : w3.cell? ⟨gb365,2,none⟩ = some (.int .i64 0):=(blk_cell BK365.out 2).trans rfl;have hfz4_0:=blk_frozen BK365.out 0;have hfz4_1:=blk_frozen BK365.out 1;have hfz4_2:=blk_frozen BK365.out 2))
  refine bodyPost_ret (results_tc rfl _ _ gb365 52 #[.int .i64 3,.int .i64 1,.int .i64 1] (0,0) _ rfl (by (with_reducible repeat (first | refine blk_drewN ?_ _ | refine blk_drew ?_ | refine blk_alloc ?_ _));refine blk_put (cs:=#[.int .i64 3,.int .i64 1,.int .i64 0]) ?_ 2 _ rfl;(with_reducible repeat (first | refine blk_drewN ?_ _ | refine blk_drew ?_ | refine blk_alloc ?_ _));refine blk_put (cs:=#[.int .i64 3,.int .i64 0,.int .i64 0]) ?_ 1 _ rfl;(with_reducible repeat (first | refine blk_drewN ?_ _ | refine blk_drew ?_ | refine blk_alloc ?_ _));refine blk_put (cs:=#[.int .i64 0,.int .i64 0,.int .i64 0]) ?_ 0 _ rfl;(with_reducible repeat (first | refine blk_drewN ?_ _ | refine blk_drew ?_ | refine blk_alloc ?_ _));exact BK365.out) Tryz.underlying52 rfl (by kernel_rfl)) rfl ?_;exact ⟨_,by first | rfl | (simp [errW_none,errW_some] <;> rfl) | (simp [*,errW_none,errW_some] <;> rfl),by first | exact Kd.R_nil _ _ _ _ _ | exact Kd.N_nil _ _ _ _ _ | exact Kd.V_nil _ _ _ _ _ | exact Kd.Q_nil _ _ _ _ _ | exact Kd.S_nil _ _ _ _ _,bl1 HB.out GE365.out⟩
 ·rw [if_neg c2] at H;have c2b0 : decide (65536 < (a0.size : Int)) = false:=decide_eq_false c2;have c2b1 : decide (65536 < a0.size) = false:=decide_eq_false (by omega);clear c2;replace H:=Option.bind_eq_some_iff.mp H;obtain ⟨⟨t366,t369⟩,A50,H⟩:=H;replace H : (scan_Tokens.l0 k a0 ([] : List (S74)) false 0 0 t366 t369 0 a0) = some (r1,r2,r3,r4):=H;have A5:=Aside0.mk A50;clear A50;have H':=Aside0.mk H;clear H
  go_enter Tryz.func32,Tryz.ntmps32
  go_wp2_with (first | ((with_reducible refine gate_dst (N:=3) rfl ?_);refine box_event ?hg (N:=3) ?hd (cs:=#[.int .i64 0,.int .i64 0,.int .i64 0]) (t:=52) ?hr ?_;(case hd => rfl);(case hg => rfl);(case hr => first | (go_simp;done) | (go_simp;rfl));intro gb365 hg w6 hbox hb;have n0_:=Aside0.mk (below_step (bl0 HB.out) hb);have n1_:=Aside0.mk (hbox);have n2_:=Aside0.mk ((by rw [hg];exact (below_size (bl0 HB.out)) : w.heap.size ≤ gb365));have n3_:=Aside0.mk ((by rw [hg];exact (below_size (bl0 HB.out)) : w.heap.size ≤ gb365));clear HB;have HB:=n0_;have BK365:=n1_;have GW365:=n2_;have GE365:=n3_;clear n0_ n1_ n2_ n3_;clear hb hbox hg) | ((with_reducible refine gate_callee (f:=58) rfl ?_);refine goesL_ (some 21) rfl rfl Tryz.func58 (by kernel_rfl) rfl #[.string a0] rfl (by (try simp only [List.map_toArray,List.map_cons,List.map_nil]);first | done | rfl | (simp only [List.length_drop,List.length_take];rfl)) ?_;(with_reducible refine (scan_mapped.calls k a0 t366 t369 _ A5.out).mono ?_);rintro e w7 ⟨v367,v370,rfl,ho0,ho1,hb⟩;refine ⟨_,rfl,?_⟩;have n0_:=Aside0.mk (Kd.R_lower ho0 (below_size (bl1 HB.out GE365.out)));have n1_:=Aside0.mk (Kd.R_lower ho1 (below_size (bl1 HB.out GE365.out)));have n2_:=Aside0.mk (blk_below (g:=gb365) (o:=.cells #[.int .i64 0,.int .i64 0,.int .i64 0] 52 (0,0)) (bk BK365.out) hb);have n3_:=Aside0.mk (below_step (bl1 HB.out GE365.out) hb);clear BK365;clear HB;have HO368:=n0_;have HO371:=n1_;have BK365:=n2_;have HB:=n3_;clear n0_ n1_ n2_ n3_;(try clear hb);(try clear hk);(try clear ho0);(try clear ho1)) | ((with_reducible refine gate_dst (N:=5) rfl ?_);refine box_event ?hg (N:=5) ?hd (cs:=#[.slice none 0 0,.slice none 0 0]) (t:=106) ?hr ?_;(case hd => rfl);(case hg => rfl);(case hr => first | (go_simp;done) | (go_simp;rfl));intro gb372 hg w8 hbox hb;have n0_:=Aside0.mk (Kd.R_below (by (with_reducible repeat (first | apply Kd.R_alloc | apply Kd.R_drewN | apply Kd.R_drew));exact HO368.out) hb);have n1_:=Aside0.mk (Kd.R_below (by (with_reducible repeat (first | apply Kd.R_alloc | apply Kd.R_drewN | apply Kd.R_drew));exact HO371.out) hb);have n2_:=Aside0.mk (blk_below (g:=gb365) (o:=.cells #[.int .i64 0,.int .i64 0,.int .i64 0] 52 (0,0)) (bk BK365.out) hb);have n3_:=Aside0.mk (below_step (bl1 HB.out GE365.out) hb);have n4_:=Aside0.mk (hbox);have n5_:=Aside0.mk ((by rw [hg];exact (below_size (bl1 HB.out GE365.out)) : w.heap.size ≤ gb372));have n6_:=Aside0.mk ((by rw [hg];exact (below_size (bl1 HB.out GE365.out)) : w.heap.size ≤ gb372));have n7_:=Aside0.mk ((by rw [hg];exact Nat.ne_of_lt (blk_lt (g:=gb365) (o:=.cells #[.int .i64 0,.int .i64 0,.int .i64 0] 52 (0,0)) (bk BK365.out)) : gb365 ≠ gb372));have n8_:=Aside0.mk ((by rw [hg];exact Nat.ne_of_gt (blk_lt (g:=gb365) (o:=.cells #[.int .i64 0,.int .i64 0,.int .i64 0] 52 (0,0)) (bk BK365.out)) : gb372 ≠ gb365));clear HO368;clear HO371;clear BK365;clear HB;have HO368:=n0_;have HO371:=n1_;have BK365:=n2_;have HB:=n3_;have BK372:=n4_;have GW372:=n5_;have GE372:=n6_;have NB365_372:=n7_;have NB372_365:=n8_;clear n0_ n1_ n2_ n3_ n4_ n5_ n6_ n7_ n8_;clear hb hbox hg;obtain ⟨Ao9,co9,eo9⟩:=Kd.R_slice HO368.out;subst eo9;have hnb10:=NB372_365.out;have hnc10:=NB365_372.out;have hcz11_0 : w8.cell? ⟨gb372,0,none⟩ = some (.slice none 0 0):=(blk_cell BK372.out 0).trans rfl;have hcz11_1 : w8.cell? ⟨gb372,1,none⟩ = some (.slice none 0 0):=(blk_cell BK372.out 1).trans rfl;have hfz11_0:=blk_frozen BK372.out 0;have hfz11_1:=blk_frozen BK372.out 1;obtain ⟨Ao12,co12,eo12⟩:=Kd.R_slice HO371.out;subst eo12) | ((with_reducible refine gate_dst (N:=23) rfl ?_);refine range_event ?hg (N:=23) ?hd (s:=a0) ?hr ?_;(case hd => rfl);(case hg => rfl);(case hr => first | (go_simp;done) | (go_simp;rfl));intro gb373 hg w13 hbox hb;have n0_:=Aside0.mk (Kd.R_below (by (with_reducible repeat (first | apply Kd.R_alloc | apply Kd.R_drewN | apply Kd.R_drew));exact (Kd.R_mono (Kd.R_far (p:=⟨gb372,1,none⟩) (Kd.R_far (p:=⟨gb372,0,none⟩) (Kd.R_types HO368.out BK372.out (by decide)) (fun _ hk => hk.2) (.slice Ao9 t366.length co9)) (fun _ hk => hk.2) (.slice Ao12 t369.length co12)) (fun _ h_ => h_.1))) hb);have n1_:=Aside0.mk (Kd.R_below (by (with_reducible repeat (first | apply Kd.R_alloc | apply Kd.R_drewN | apply Kd.R_drew));exact (Kd.R_mono (Kd.R_far (p:=⟨gb372,1,none⟩) (Kd.R_far (p:=⟨gb372,0,none⟩) (Kd.R_types HO371.out BK372.out (by decide)) (fun _ hk => hk.2) (.slice Ao9 t366.length co9)) (fun _ hk => hk.2) (.slice Ao12 t369.length co12)) (fun _ h_ => h_.1))) hb);have n2_:=Aside0.mk (blk_below (g:=gb365) (o:=.cells #[.int .i64 0,.int .i64 0,.int .i64 0] 52 (0,0)) (by (with_reducible repeat (first | refine blk_drewN ?_ _ | refine blk_drew ?_ | refine blk_alloc ?_ _));refine blk_far ?_ NB365_372.out _;(with_reducible repeat (first | refine blk_drewN ?_ _ | refine blk_drew ?_ | refine blk_alloc ?_ _));refine blk_far ?_ NB365_372.out _;(with_reducible repeat (first | refine blk_drewN ?_ _ | refine blk_drew ?_ | refine blk_alloc ?_ _));exact BK365.out) hb);have n3_:=Aside0.mk (blk_below (g:=gb372) (o:=.cells #[.slice Ao9 t366.length co9,.slice Ao12 t369.length co12] 106 (0,0)) (by (with_reducible repeat (first | refine blk_drewN ?_ _ | refine blk_drew ?_ | refine blk_alloc ?_ _));refine blk_put (cs:=#[.slice Ao9 t366.length co9,.slice none 0 0]) ?_ 1 _ rfl;(with_reducible repeat (first | refine blk_drewN ?_ _ | refine blk_drew ?_ | refine blk_alloc ?_ _));refine blk_put (cs:=#[.slice none 0 0,.slice none 0 0]) ?_ 0 _ rfl;(with_reducible repeat (first | refine blk_drewN ?_ _ | refine blk_drew ?_ | refine blk_alloc ?_ _));exact BK372.out) hb);have n4_:=Aside0.mk (below_step (bl2 HB.out GE365.out GE372.out) hb);have n5_:=Aside0.mk (hbox);have n6_:=Aside0.mk ((by rw [hg];exact (below_size (bl2 HB.out GE365.out GE372.out)) : w.heap.size ≤ gb373));have n7_:=Aside0.mk ((by rw [hg];exact (below_size (bl2 HB.out GE365.out GE372.out)) : w.heap.size ≤ gb373));have n8_:=Aside0.mk ((by rw [hg];exact Nat.ne_of_lt (blk_lt (g:=gb365) (o:=.cells #[.int .i64 0,.int .i64 0,.int .i64 0] 52 (0,0)) (by (with_reducible repeat (first | refine blk_drewN ?_ _ | refine blk_drew ?_ | refine blk_alloc ?_ _));refine blk_far ?_ NB365_372.out _;(with_reducible repeat (first | refine blk_drewN ?_ _ | refine blk_drew ?_ | refine blk_alloc ?_ _));refine blk_far ?_ NB365_372.out _;(with_reducible repeat (first | refine blk_drewN ?_ _ | refine blk_drew ?_ | refine blk_alloc ?_ _));exact BK365.out)) : gb365 ≠ gb373));have n9_:=Aside0.mk ((by rw [hg];exact Nat.ne_of_gt (blk_lt (g:=gb365) (o:=.cells #[.int .i64 0,.int .i64 0,.int .i64 0] 52 (0,0)) (by (with_reducible repeat (first | refine blk_drewN ?_ _ | refine blk_drew ?_ | refine blk_alloc ?_ _));refine blk_far ?_ NB365_372.out _;(with_reducible repeat (first | refine blk_drewN ?_ _ | refine blk_drew ?_ | refine blk_alloc ?_ _));refine blk_far ?_ NB365_372.out _;(with_reducible repeat (first | refine blk_drewN ?_ _ | refine blk_drew ?_ | refine blk_alloc ?_ _));exact BK365.out)) : gb373 ≠ gb365));have n10_:=Aside0.mk ((by rw [hg];exact Nat.ne_of_lt (blk_lt (g:=gb372) (o:=.cells #[.slice Ao9 t366.length co9,.slice Ao12 t369.length co12] 106 (0,0)) (by (with_reducible repeat (first | refine blk_drewN ?_ _ | refine blk_drew ?_ | refine blk_alloc ?_ _));refine blk_put (cs:=#[.slice Ao9 t366.length co9,.slice none 0 0]) ?_ 1 _ rfl;(with_reducible repeat (first | refine blk_drewN ?_ _ | refine blk_drew ?_ | refine blk_alloc ?_ _));refine blk_put (cs:=#[.slice none 0 0,.slice none 0 0]) ?_ 0 _ rfl;(with_reducible repeat (first | refine blk_drewN ?_ _ | refine blk_drew ?_ | refine blk_alloc ?_ _));exact BK372.out)) : gb372 ≠ gb373));have n11_:=Aside0.mk ((by rw [hg];exact Nat.ne_of_gt (blk_lt (g:=gb372) (o:=.cells #[.slice Ao9 t366.length co9,.slice Ao12 t369.length co12] 106 (0,0)) (by (with_reducible repeat (first | refine blk_drewN ?_ _ | refine blk_drew ?_ | refine blk_alloc ?_ _));refine blk_put (cs:=#[.slice Ao9 t366.length co9,.slice none 0 0]) ?_ 1 _ rfl;(with_reducible repeat (first | refine blk_drewN ?_ _ | refine blk_drew ?_ | refine blk_alloc ?_ _));refine blk_put (cs:=#[.slice none 0 0,.slice none 0 0]) ?_ 0 _ rfl;(with_reducible repeat (first | refine blk_drewN ?_ _ | refine blk_drew ?_ | refine blk_alloc ?_ _));exact BK372.out)) : gb373 ≠ gb372));clear HO368;clear HO371;clear BK365;clear BK372;clear HB;have HO368:=n0_;have HO371:=n1_;have BK365:=n2_;have BK372:=n3_;have HB:=n4_;have BK373:=n5_;have GW373:=n6_;have GE373:=n7_;have NB365_373:=n8_;have NB373_365:=n9_;have NB372_373:=n10_;have NB373_372:=n11_;clear n0_ n1_ n2_ n3_ n4_ n5_ n6_ n7_ n8_ n9_ n10_ n11_;clear hb hbox hg))
  (try simp only [Act.put,List.setIfInBounds_toArray,List.set_cons_zero,List.set_cons_succ])
  go_loopg [4,6,7,8] k (fun kq v4 v6 v7 v8 w' => ∃ (x4_1 : List (S74)) (x6_1 : Bool) (x7_1 : Int) (x8_1 : Int) (x366000_1 : Int) (x366001_1 : Int) (x366002_1 : Int) (x374000_1 : Int),v6 = .bool x6_1 ∧ v7 = .int .i64 x7_1 ∧ v8 = .int .i64 x8_1 ∧ Aside0 (scan_Tokens.l0 kq a0 x4_1 x6_1 x7_1 x8_1 t366 t369 x374000_1 a0 = some (r1,r2,r3,r4)) ∧ Aside0 (kq ≤ k) ∧ Aside0 (Kd.R k74 74 w' w.heap.size (fun _ => True) v4 x4_1) ∧ Aside0 (Kd.R (Kd.int .i64) 3 w' w.heap.size (fun _ => True) (.slice Ao9 t366.length co9) t366) ∧ Aside0 (Kd.R k50 50 w' w.heap.size (fun _ => True) (.slice Ao12 t369.length co12) t369) ∧ Aside0 (w'.heap[gb365]? = some (.cells #[.int .i64 x366000_1,.int .i64 x366001_1,.int .i64 x366002_1] 52 (0,0))) ∧ Aside0 (w'.heap[gb372]? = some (.cells #[(.slice Ao9 t366.length co9),(.slice Ao12 t369.length co12)] 106 (0,0))) ∧ Aside0 (w'.heap[gb373]? = some (.stringIter a0 (Int.toNat x374000_1))) ∧ Aside0 (Below w.heap.size w w'))
  case atStart => exact ⟨(([] : List (S74))),(false),(0),(0),(0),(0),(0),(0),(by first | rfl | (simp;done) | (simp [*];done)),(by first | rfl | (simp;done) | (simp [*];done)),(by first | rfl | (simp;done) | (simp [*];done)),H',⟨Nat.le_refl _⟩,⟨by first | exact Kd.R_nil _ _ _ _ _ | exact Kd.N_nil _ _ _ _ _ | exact Kd.V_nil _ _ _ _ _ | exact Kd.Q_nil _ _ _ _ _ | exact Kd.S_nil _ _ _ _ _⟩,⟨by (with_reducible repeat (first | apply Kd.R_alloc | apply Kd.R_drewN | apply Kd.R_drew));exact HO368.out⟩,⟨by (with_reducible repeat (first | apply Kd.R_alloc | apply Kd.R_drewN | apply Kd.R_drew));exact HO371.out⟩,⟨bk BK365.out⟩,⟨bk BK372.out⟩,⟨bk BK373.out⟩,⟨bl3 HB.out GE365.out GE372.out GE373.out⟩⟩
  case round =>
   clear H'
   try clear c1
   try clear c2
   try clear c2b0
   try clear c2b1
   try clear p2
   try clear c3
   try clear c5
   try clear c10
   try clear hcz11_0
   try clear hcz11_1
   try clear hcz4_0
   try clear hcz4_1
   try clear hcz4_2
   try clear hfz11_0
   try clear hfz11_1
   try clear hfz4_0
   try clear hfz4_1
   try clear hfz4_2
   obtain ⟨x4_1,x6_1,x7_1,x8_1,x366000_1,x366001_1,x366002_1,x374000_1,rfl,rfl,rfl,HA,HK1,HO_4,HO_373000,HO_373001,BK365,BK372,BK373,HB⟩:=hrel
   cases gk with
   | zero => exact absurd HA.out (by simp [scan_Tokens.l0])
   | succ k1 =>
    have H:=HA.out;clear HA;simp only [scan_Tokens.l0] at H;replace H:=Option.bind_eq_some_iff.mp H;obtain ⟨⟨t374,t375,t376,t377⟩,A140,H⟩:=H;replace H : (if t374 = true then (if 0 ≤ x8_1 then (if x8_1 < (t369.length : Int) then (if t375 < x7_1 then (scan_Tokens.l0 k1 a0 x4_1 x6_1 x7_1 (wrap64 (x8_1 + 1)) t366 t369 t377 a0) else (if t376 = 10 then (scan_Tokens.l0 k1 a0 x4_1 false x7_1 (wrap64 (x8_1 + 1)) t366 t369 t377 a0) else ((scan_broken.f a0 t375 t376).bind fun t380 => (if t380 = true then (some (([] : List (S74)),4,(rd_T50 t369 x8_1).f0,(rd_T50 t369 x8_1).f1)) else (if t376 = 35 then (scan_Tokens.j1 k1 a0 x4_1 true x7_1 (wrap64 (x8_1 + 1)) t375 t376 t366 t369 t377 a0 ((rd_T50 t369 x8_1).f0) ((rd_T50 t369 x8_1).f1)) else (scan_Tokens.j1 k1 a0 x4_1 x6_1 x7_1 (wrap64 (x8_1 + 1)) t375 t376 t366 t369 t377 a0 ((rd_T50 t369 x8_1).f0) ((rd_T50 t369 x8_1).f1))))))) else (none)) else (none)) else (if 0 ≤ (wrap64 ((t369.length : Int) - 1)) then (if (wrap64 ((t369.length : Int) - 1)) < (t369.length : Int) then (if x4_1.length < 3518437208883 then (some ((x4_1 ++ [(⟨0,(⟨#[]⟩ : ByteArray),(⟨(rd_T50 t369 (wrap64 ((t369.length : Int) - 1))).f0,(rd_T50 t369 (wrap64 ((t369.length : Int) - 1))).f1⟩ : S50)⟩ : S74)]),0,0,0)) else (none)) else (none)) else (none))) = some (r1,r2,r3,r4):=H;have A14:=Aside0.mk A140;clear A140
    by_cases c15 : t374 = true
    ·subst c15;have H1 : (if 0 ≤ x8_1 then (if x8_1 < (t369.length : Int) then (if t375 < x7_1 then (scan_Tokens.l0 k1 a0 x4_1 x6_1 x7_1 (wrap64 (x8_1 + 1)) t366 t369 t377 a0) else (if t376 = 10 then (scan_Tokens.l0 k1 a0 x4_1 false x7_1 (wrap64 (x8_1 + 1)) t366 t369 t377 a0) else ((scan_broken.f a0 t375 t376).bind fun t380 => (if t380 = true then (some (([] : List (S74)),4,(rd_T50 t369 x8_1).f0,(rd_T50 t369 x8_1).f1)) else (if t376 = 35 then (scan_Tokens.j1 k1 a0 x4_1 true x7_1 (wrap64 (x8_1 + 1)) t375 t376 t366 t369 t377 a0 ((rd_T50 t369 x8_1).f0) ((rd_T50 t369 x8_1).f1)) else (scan_Tokens.j1 k1 a0 x4_1 x6_1 x7_1 (wrap64 (x8_1 + 1)) t375 t376 t366 t369 t377 a0 ((rd_T50 t369 x8_1).f0) ((rd_T50 t369 x8_1).f1))))))) else (none)) else (none)) = some (r1,r2,r3,r4):=by rw [if_pos rfl] at H;exact H
     clear H;have H:=H1;clear H1
     by_cases c16 : 0 ≤ x8_1
     ·rw [if_pos c16] at H;have c16b0 : decide (0 ≤ x8_1) = true:=decide_eq_true c16;clear c16
      by_cases c17 : x8_1 < (t369.length : Int)
      ·rw [if_pos c17] at H;have c17b0 : decide (x8_1 < (t369.length : Int)) = true:=decide_eq_true c17;clear c17;have HC18:=Aside0.mk H;clear H
       go_upto_block 2 with (first | ((with_reducible refine gate_dst (N:=24) rfl ?_);have hnx_:=fun ty => (run_next_t (P:=Tryz.prog) (k:=gb373) (s:=a0) (p:=x374000_1) (a0:=t375) (c:=t376) (q:=t377) ty (bk BK373.out) A14.out);refine next_event_t ?hg (N:=24) ?hd (k:=gb373) (s:=a0) (p:=x374000_1) (a0:=t375) (c:=t376) (q:=t377) (bk BK373.out) A14.out ?hr ?_;(case hd => rfl);(case hg => rfl);(case hr => first | (go_simp;done) | (go_simp;rfl));clear hnx_;intro w19 hg hbox;replace HO_4:=Aside0.mk (itR (by (with_reducible repeat (first | apply Kd.R_alloc | apply Kd.R_drewN | apply Kd.R_drew));exact HO_4.out) (bk BK373.out) hg);replace HO_373000:=Aside0.mk (itR (by (with_reducible repeat (first | apply Kd.R_alloc | apply Kd.R_drewN | apply Kd.R_drew));exact HO_373000.out) (bk BK373.out) hg);replace HO_373001:=Aside0.mk (itR (by (with_reducible repeat (first | apply Kd.R_alloc | apply Kd.R_drewN | apply Kd.R_drew));exact HO_373001.out) (bk BK373.out) hg);replace BK365:=Aside0.mk (blk_grown (g:=gb365) (o:=.cells #[.int .i64 x366000_1,.int .i64 x366001_1,.int .i64 x366002_1] 52 (0,0)) (bk BK365.out) hg (by have h_:=NB365_373.out;intro e_;injection e_ with e_;exact h_ e_));replace BK372:=Aside0.mk (blk_grown (g:=gb372) (o:=.cells #[.slice Ao9 t366.length co9,.slice Ao12 t369.length co12] 106 (0,0)) (bk BK372.out) hg (by have h_:=NB372_373.out;intro e_;injection e_ with e_;exact h_ e_));replace BK373:=Aside0.mk (hbox);replace HB:=Aside0.mk (pw_below_grown (bl3 HB.out GE365.out GE372.out GE373.out) (some gb373) (below_size (bl3 HB.out GE365.out GE372.out GE373.out)) hg (fun _ e_ => by cases e_;exact GW373.out));clear hg hbox;have hnb20:=NB372_365.out;have hnc20:=NB365_372.out;have hnb21:=NB372_373.out;have hnc21:=NB373_372.out;have hcz22_0 : w19.cell? ⟨gb372,0,none⟩ = some (.slice Ao9 t366.length co9):=(blk_cell BK372.out 0).trans rfl;have hcz22_1 : w19.cell? ⟨gb372,1,none⟩ = some (.slice Ao12 t369.length co12):=(blk_cell BK372.out 1).trans rfl;have hfz22_0:=blk_frozen BK372.out 0;have hfz22_1:=blk_frozen BK372.out 1;have p378 : 0 ≤ (x8_1 : Int):=of_decide_eq_true (by first | (with_reducible assumption) | assumption);have q378 : x8_1 < (t369.length : Int):=of_decide_eq_true (by first | (with_reducible assumption) | assumption);obtain ⟨ad378,e378,hx378_0,hx378_1⟩:=at_T50 (Kd.R_reads' HO_373001.out).2.2 x8_1 p378 q378;cases e378;replace p378:=eq_true p378;replace q378:=eq_true q378) | ((with_reducible refine gate_dst (N:=11) rfl ?_);refine box_event ?hg (N:=11) ?hd (cs:=#[.int .i64 0,.int .i64 0]) (t:=50) ?hr ?_;(case hd => rfl);(case hg => rfl);(case hr => first | (go_simp;done) | (go_simp;rfl));intro gb379 hg w23 hbox hb;have n0_:=Aside0.mk (Kd.R_below (by (with_reducible repeat (first | apply Kd.R_alloc | apply Kd.R_drewN | apply Kd.R_drew));exact HO_4.out) hb);have n1_:=Aside0.mk (Kd.R_below (by (with_reducible repeat (first | apply Kd.R_alloc | apply Kd.R_drewN | apply Kd.R_drew));exact HO_373000.out) hb);have n2_:=Aside0.mk (Kd.R_below (Kd.R_elderB (by (with_reducible repeat (first | apply Kd.R_alloc | apply Kd.R_drewN | apply Kd.R_drew));exact HO_373001.out) gb379 (Nat.le_of_eq hg.symm)) hb);have n3_:=Aside0.mk (blk_below (g:=gb365) (o:=.cells #[.int .i64 x366000_1,.int .i64 x366001_1,.int .i64 x366002_1] 52 (0,0)) (bk BK365.out) hb);have n4_:=Aside0.mk (blk_below (g:=gb372) (o:=.cells #[.slice Ao9 t366.length co9,.slice (some ad378) t369.length co12] 106 (0,0)) (bk BK372.out) hb);have n5_:=Aside0.mk (blk_below (g:=gb373) (o:=.stringIter a0 (Int.toNat t377)) (bk BK373.out) hb);have n6_:=Aside0.mk (below_step (bl3 HB.out GE365.out GE372.out GE373.out) hb);have n7_:=Aside0.mk (hbox);have n8_:=Aside0.mk ((by rw [hg];exact (below_size (bl3 HB.out GE365.out GE372.out GE373.out)) : w.heap.size ≤ gb379));have n9_:=Aside0.mk ((by rw [hg];exact (below_size (bl3 HB.out GE365.out GE372.out GE373.out)) : w.heap.size ≤ gb379));have n10_:=Aside0.mk ((by rw [hg];exact Nat.ne_of_lt (blk_lt (g:=gb365) (o:=.cells #[.int .i64 x366000_1,.int .i64 x366001_1,.int .i64 x366002_1] 52 (0,0)) (bk BK365.out)) : gb365 ≠ gb379));have n11_:=Aside0.mk ((by rw [hg];exact Nat.ne_of_gt (blk_lt (g:=gb365) (o:=.cells #[.int .i64 x366000_1,.int .i64 x366001_1,.int .i64 x366002_1] 52 (0,0)) (bk BK365.out)) : gb379 ≠ gb365));have n12_:=Aside0.mk ((by rw [hg];exact Nat.ne_of_lt (blk_lt (g:=gb372) (o:=.cells #[.slice Ao9 t366.length co9,.slice (some ad378) t369.length co12] 106 (0,0)) (bk BK372.out)) : gb372 ≠ gb379));have n13_:=Aside0.mk ((by rw [hg];exact Nat.ne_of_gt (blk_lt (g:=gb372) (o:=.cells #[.slice Ao9 t366.length co9,.slice (some ad378) t369.length co12] 106 (0,0)) (bk BK372.out)) : gb379 ≠ gb372));have n14_:=Aside0.mk ((by rw [hg];exact Nat.ne_of_lt (blk_lt (g:=gb373) (o:=.stringIter a0 (Int.toNat t377)) (bk BK373.out)) : gb373 ≠ gb379));have n15_:=Aside0.mk ((by rw [hg];exact Nat.ne_of_gt (blk_lt (g:=gb373) (o:=.stringIter a0 (Int.toNat t377)) (bk BK373.out)) : gb379 ≠ gb373));clear HO_4;clear HO_373000;clear HO_373001;clear BK365;clear BK372;clear BK373;clear HB;have HO_4:=n0_;have HO_373000:=n1_;have HO_373001:=n2_;have BK365:=n3_;have BK372:=n4_;have BK373:=n5_;have HB:=n6_;have BK379:=n7_;have GW379:=n8_;have GE379:=n9_;have NB365_379:=n10_;have NB379_365:=n11_;have NB372_379:=n12_;have NB379_372:=n13_;have NB373_379:=n14_;have NB379_373:=n15_;clear n0_ n1_ n2_ n3_ n4_ n5_ n6_ n7_ n8_ n9_ n10_ n11_ n12_ n13_ n14_ n15_;clear hb hbox hg;have hnb24:=NB379_365.out;have hnc24:=NB365_379.out;have hnb25:=NB379_372.out;have hnc25:=NB372_379.out;have hnb26:=NB379_373.out;have hnc26:=NB373_379.out;have hcz27_0 : w23.cell? ⟨gb379,0,none⟩ = some (.int .i64 0):=(blk_cell BK379.out 0).trans rfl;have hcz27_1 : w23.cell? ⟨gb379,1,none⟩ = some (.int .i64 0):=(blk_cell BK379.out 1).trans rfl;have hfz27_0:=blk_frozen BK379.out 0;have hfz27_1:=blk_frozen BK379.out 1))
       (try simp only [Act.put,List.setIfInBounds_toArray,List.set_cons_zero,List.set_cons_succ])
       go_cut [6] (fun v6 wc => ∃ (kq : Nat) (x6_17 : Bool) (x366000_17 : Int) (x366001_17 : Int) (x366002_17 : Int),v6 = .bool x6_17 ∧ Aside0 (scan_Tokens.j1 kq a0 x4_1 x6_17 x7_1 (wrap64 (x8_1 + 1)) t375 t376 t366 t369 t377 a0 ((rd_T50 t369 x8_1).f0) ((rd_T50 t369 x8_1).f1) = some (r1,r2,r3,r4)) ∧ Aside0 (kq ≤ k1) ∧ Aside0 (Kd.R k74 74 wc w.heap.size (fun _ => True) u4 x4_1) ∧ Aside0 (Kd.R (Kd.int .i64) 3 wc w.heap.size (fun _ => True) (.slice Ao9 t366.length co9) t366) ∧ Aside0 (Kd.R k50 50 wc w.heap.size (fun k_ => k_ ≠ gb379) (.slice (some ad378) t369.length co12) t369) ∧ Aside0 (wc.heap[gb365]? = some (.cells #[.int .i64 x366000_17,.int .i64 x366001_17,.int .i64 x366002_17] 52 (0,0))) ∧ Aside0 (wc.heap[gb372]? = some (.cells #[(.slice Ao9 t366.length co9),(.slice (some ad378) t369.length co12)] 106 (0,0))) ∧ Aside0 (wc.heap[gb373]? = some (.stringIter a0 (Int.toNat t377))) ∧ Aside0 (wc.heap[gb379]? = some (.cells #[.int .i64 ((rd_T50 t369 x8_1).f0),.int .i64 ((rd_T50 t369 x8_1).f1)] 50 (0,0))) ∧ Aside0 (Below w.heap.size w wc))
       case first =>
        have H:=HC18.out;clear HC18
        by_cases c28 : t375 < x7_1
        ·rw [if_pos c28] at H;have c28b0 : decide (t375 < x7_1) = true:=decide_eq_true c28;clear c28
         (first | rw [c28b0] | (simp only [i64_w,i32_w];rw [c28b0]) | skip)
         have H':=Aside0.mk H;clear H
         go_wp2
         go_roundg k1
         case measure => have:=HK1.out;omega
         case rel => exact ⟨(x4_1),(x6_1),(x7_1),(wrap64 (x8_1 + 1)),(x366000_1),(x366001_1),(x366002_1),(t377),(by first | rfl | (simp;done) | (simp [*];done)),(by first | rfl | (simp;done) | (simp [*];done)),(by first | rfl | (simp;done) | (simp [*];done)),H',⟨by have:=HK1.out;omega⟩,⟨by (with_reducible repeat (first | apply Kd.R_alloc | apply Kd.R_drewN | apply Kd.R_drew));exact Kd.R_mono (Kd.R_far (p:=⟨gb379,1,none⟩) (Kd.R_far (p:=⟨gb379,0,none⟩) (Kd.R_types HO_4.out BK379.out (by decide)) (fun _ hk => hk.2) (.int .i64 ((rd_T50 t369 x8_1).f0))) (fun _ hk => hk.2) (.int .i64 ((rd_T50 t369 x8_1).f1))) (fun _ hk => trivial)⟩,⟨by (with_reducible repeat (first | apply Kd.R_alloc | apply Kd.R_drewN | apply Kd.R_drew));exact Kd.R_mono (Kd.R_far (p:=⟨gb379,1,none⟩) (Kd.R_far (p:=⟨gb379,0,none⟩) (Kd.R_types HO_373000.out BK379.out (by decide)) (fun _ hk => hk.2) (.int .i64 ((rd_T50 t369 x8_1).f0))) (fun _ hk => hk.2) (.int .i64 ((rd_T50 t369 x8_1).f1))) (fun _ hk => trivial)⟩,⟨by (with_reducible repeat (first | apply Kd.R_alloc | apply Kd.R_drewN | apply Kd.R_drew));exact Kd.R_mono (Kd.R_far (p:=⟨gb379,1,none⟩) (Kd.R_far (p:=⟨gb379,0,none⟩) (Kd.R_mono HO_373001.out (fun k_ hk => (⟨hk,hk.2⟩ : _ ∧ k_ ≠ gb379))) (fun _ hk => hk.2) (.int .i64 ((rd_T50 t369 x8_1).f0))) (fun _ hk => hk.2) (.int .i64 ((rd_T50 t369 x8_1).f1))) (fun _ hk => trivial)⟩,⟨by (with_reducible repeat (first | refine blk_drewN ?_ _ | refine blk_drew ?_ | refine blk_alloc ?_ _));refine blk_far ?_ NB365_379.out _;(with_reducible repeat (first | refine blk_drewN ?_ _ | refine blk_drew ?_ | refine blk_alloc ?_ _));refine blk_far ?_ NB365_379.out _;(with_reducible repeat (first | refine blk_drewN ?_ _ | refine blk_drew ?_ | refine blk_alloc ?_ _));exact BK365.out⟩,⟨by (with_reducible repeat (first | refine blk_drewN ?_ _ | refine blk_drew ?_ | refine blk_alloc ?_ _));refine blk_far ?_ NB372_379.out _;(with_reducible repeat (first | refine blk_drewN ?_ _ | refine blk_drew ?_ | refine blk_alloc ?_ _));refine blk_far ?_ NB372_379.out _;(with_reducible repeat (first | refine blk_drewN ?_ _ | refine blk_drew ?_ | refine blk_alloc ?_ _));exact BK372.out⟩,⟨by (with_reducible repeat (first | refine blk_drewN ?_ _ | refine blk_drew ?_ | refine blk_alloc ?_ _));refine it_far ?_ NB373_379.out _;(with_reducible repeat (first | refine blk_drewN ?_ _ | refine blk_drew ?_ | refine blk_alloc ?_ _));refine it_far ?_ NB373_379.out _;(with_reducible repeat (first | refine blk_drewN ?_ _ | refine blk_drew ?_ | refine blk_alloc ?_ _));exact BK373.out⟩,⟨bl4 HB.out GE365.out GE372.out GE373.out GE379.out⟩⟩
        ·rw [if_neg c28] at H;have c28b0 : decide (t375 < x7_1) = false:=decide_eq_false c28;clear c28
         (first | rw [c28b0] | (simp only [i64_w,i32_w];rw [c28b0]) | skip)
         by_cases c29 : t376 = 10
         ·rw [if_pos c29] at H;have c29b0 : (t376 == 10) = true:=beq_iff_eq.mpr c29;have c29b1 : (t376 != 10) = false:=bne_eq_false_iff_eq.mpr c29;clear c29;have H':=Aside0.mk H;clear H
          go_wp2
          go_roundg k1
          case measure => have:=HK1.out;omega
          case rel => exact ⟨(x4_1),(false),(x7_1),(wrap64 (x8_1 + 1)),(x366000_1),(x366001_1),(x366002_1),(t377),(by first | rfl | (simp;done) | (simp [*];done)),(by first | rfl | (simp;done) | (simp [*];done)),(by first | rfl | (simp;done) | (simp [*];done)),H',⟨by have:=HK1.out;omega⟩,⟨by (with_reducible repeat (first | apply Kd.R_alloc | apply Kd.R_drewN | apply Kd.R_drew));exact Kd.R_mono (Kd.R_far (p:=⟨gb379,1,none⟩) (Kd.R_far (p:=⟨gb379,0,none⟩) (Kd.R_types HO_4.out BK379.out (by decide)) (fun _ hk => hk.2) (.int .i64 ((rd_T50 t369 x8_1).f0))) (fun _ hk => hk.2) (.int .i64 ((rd_T50 t369 x8_1).f1))) (fun _ hk => trivial)⟩,⟨by (with_reducible repeat (first | apply Kd.R_alloc | apply Kd.R_drewN | apply Kd.R_drew));exact Kd.R_mono (Kd.R_far (p:=⟨gb379,1,none⟩) (Kd.R_far (p:=⟨gb379,0,none⟩) (Kd.R_types HO_373000.out BK379.out (by decide)) (fun _ hk => hk.2) (.int .i64 ((rd_T50 t369 x8_1).f0))) (fun _ hk => hk.2) (.int .i64 ((rd_T50 t369 x8_1).f1))) (fun _ hk => trivial)⟩,⟨by (with_reducible repeat (first | apply Kd.R_alloc | apply Kd.R_drewN | apply Kd.R_drew));exact Kd.R_mono (Kd.R_far (p:=⟨gb379,1,none⟩) (Kd.R_far (p:=⟨gb379,0,none⟩) (Kd.R_mono HO_373001.out (fun k_ hk => (⟨hk,hk.2⟩ : _ ∧ k_ ≠ gb379))) (fun _ hk => hk.2) (.int .i64 ((rd_T50 t369 x8_1).f0))) (fun _ hk => hk.2) (.int .i64 ((rd_T50 t369 x8_1).f1))) (fun _ hk => trivial)⟩,⟨by (with_reducible repeat (first | refine blk_drewN ?_ _ | refine blk_drew ?_ | refine blk_alloc ?_ _));refine blk_far ?_ NB365_379.out _;(with_reducible repeat (first | refine blk_drewN ?_ _ | refine blk_drew ?_ | refine blk_alloc ?_ _));refine blk_far ?_ NB365_379.out _;(with_reducible repeat (first | refine blk_drewN ?_ _ | refine blk_drew ?_ | refine blk_alloc ?_ _));exact BK365.out⟩,⟨by (with_reducible repeat (first | refine blk_drewN ?_ _ | refine blk_drew ?_ | refine blk_alloc ?_ _));refine blk_far ?_ NB372_379.out _;(with_reducible repeat (first | refine blk_drewN ?_ _ | refine blk_drew ?_ | refine blk_alloc ?_ _));refine blk_far ?_ NB372_379.out _;(with_reducible repeat (first | refine blk_drewN ?_ _ | refine blk_drew ?_ | refine blk_alloc ?_ _));exact BK372.out⟩,⟨by (with_reducible repeat (first | refine blk_drewN ?_ _ | refine blk_drew ?_ | refine blk_alloc ?_ _));refine it_far ?_ NB373_379.out _;(with_reducible repeat (first | refine blk_drewN ?_ _ | refine blk_drew ?_ | refine blk_alloc ?_ _));refine it_far ?_ NB373_379.out _;(with_reducible repeat (first | refine blk_drewN ?_ _ | refine blk_drew ?_ | refine blk_alloc ?_ _));exact BK373.out⟩,⟨bl4 HB.out GE365.out GE372.out GE373.out GE379.out⟩⟩
         ·rw [if_neg c29] at H;have c29b0 : (t376 == 10) = false:=beq_eq_false_iff_ne.mpr c29;have c29b1 : (t376 != 10) = true:=bne_iff_ne.mpr c29;replace H:=Option.bind_eq_some_iff.mp H;obtain ⟨t380,A300,H⟩:=H;replace H : (if t380 = true then (some (([] : List (S74)),4,(rd_T50 t369 x8_1).f0,(rd_T50 t369 x8_1).f1)) else (if t376 = 35 then (scan_Tokens.j1 k1 a0 x4_1 true x7_1 (wrap64 (x8_1 + 1)) t375 t376 t366 t369 t377 a0 ((rd_T50 t369 x8_1).f0) ((rd_T50 t369 x8_1).f1)) else (scan_Tokens.j1 k1 a0 x4_1 x6_1 x7_1 (wrap64 (x8_1 + 1)) t375 t376 t366 t369 t377 a0 ((rd_T50 t369 x8_1).f0) ((rd_T50 t369 x8_1).f1)))) = some (r1,r2,r3,r4):=H;have A30:=Aside0.mk A300;clear A300
          by_cases c31 : t380 = true
          ·subst c31;have H1 : (some (([] : List (S74)),4,(rd_T50 t369 x8_1).f0,(rd_T50 t369 x8_1).f1)) = some (r1,r2,r3,r4):=by rw [if_pos rfl] at H;exact H
           clear H;have H:=H1;clear H1;simp only [Option.some.injEq,Prod.mk.injEq] at H;obtain ⟨rfl,rfl,rfl,rfl⟩:=H
           try go_wp2_with (first | ((with_reducible refine gate_callee (f:=59) rfl ?_);refine goesL_ (some 46) rfl rfl Tryz.func59 (by kernel_rfl) rfl #[.string a0,.int .i64 t375,.int .i32 t376] rfl (by (try simp only [List.map_toArray,List.map_cons,List.map_nil]);first | done | rfl | (simp only [List.length_drop,List.length_take];rfl)) ?_;(with_reducible refine (scan_broken.calls a0 t375 t376 true _ A30.out).mono ?_);rintro e w32 ⟨rfl,hb⟩;refine ⟨_,rfl,?_⟩;replace HO_4:=Aside0.mk (Kd.R_below (by (with_reducible repeat (first | apply Kd.R_alloc | apply Kd.R_drewN | apply Kd.R_drew));exact (Kd.R_mono (Kd.R_far (p:=⟨gb379,1,none⟩) (Kd.R_far (p:=⟨gb379,0,none⟩) (Kd.R_types HO_4.out BK379.out (by decide)) (fun _ hk => hk.2) (.int .i64 ((rd_T50 t369 x8_1).f0))) (fun _ hk => hk.2) (.int .i64 ((rd_T50 t369 x8_1).f1))) (fun _ h_ => h_.1))) hb);replace HO_373000:=Aside0.mk (Kd.R_below (by (with_reducible repeat (first | apply Kd.R_alloc | apply Kd.R_drewN | apply Kd.R_drew));exact (Kd.R_mono (Kd.R_far (p:=⟨gb379,1,none⟩) (Kd.R_far (p:=⟨gb379,0,none⟩) (Kd.R_types HO_373000.out BK379.out (by decide)) (fun _ hk => hk.2) (.int .i64 ((rd_T50 t369 x8_1).f0))) (fun _ hk => hk.2) (.int .i64 ((rd_T50 t369 x8_1).f1))) (fun _ h_ => h_.1))) hb);replace HO_373001:=Aside0.mk (Kd.R_below (by (with_reducible repeat (first | apply Kd.R_alloc | apply Kd.R_drewN | apply Kd.R_drew));exact (Kd.R_mono (Kd.R_far (p:=⟨gb379,1,none⟩) (Kd.R_far (p:=⟨gb379,0,none⟩) (Kd.R_mono HO_373001.out (fun k_ hk => (⟨hk,hk.2⟩ : _ ∧ k_ ≠ gb379))) (fun _ hk => hk.2) (.int .i64 ((rd_T50 t369 x8_1).f0))) (fun _ hk => hk.2) (.int .i64 ((rd_T50 t369 x8_1).f1))) (fun _ h_ => h_.1))) hb);replace BK365:=Aside0.mk (blk_below (g:=gb365) (o:=.cells #[.int .i64 x366000_1,.int .i64 x366001_1,.int .i64 x366002_1] 52 (0,0)) (by (with_reducible repeat (first | refine blk_drewN ?_ _ | refine blk_drew ?_ | refine blk_alloc ?_ _));refine blk_far ?_ NB365_379.out _;(with_reducible repeat (first | refine blk_drewN ?_ _ | refine blk_drew ?_ | refine blk_alloc ?_ _));refine blk_far ?_ NB365_379.out _;(with_reducible repeat (first | refine blk_drewN ?_ _ | refine blk_drew ?_ | refine blk_alloc ?_ _));exact BK365.out) hb);replace BK372:=Aside0.mk (blk_below (g:=gb372) (o:=.cells #[.slice Ao9 t366.length co9,.slice (some ad378) t369.length co12] 106 (0,0)) (by (with_reducible repeat (first | refine blk_drewN ?_ _ | refine blk_drew ?_ | refine blk_alloc ?_ _));refine blk_far ?_ NB372_379.out _;(with_reducible repeat (first | refine blk_drewN ?_ _ | refine blk_drew ?_ | refine blk_alloc ?_ _));refine blk_far ?_ NB372_379.out _;(with_reducible repeat (first | refine blk_drewN ?_ _ | refine blk_drew ?_ | refine blk_alloc ?_ _));exact BK372.out) hb);replace BK373:=Aside0.mk (blk_below (g:=gb373) (o:=.stringIter a0 (Int.toNat t377)) (by (with_reducible repeat (first | refine blk_drewN ?_ _ | refine blk_drew ?_ | refine blk_alloc ?_ _));refine it_far ?_ NB373_379.out _;(with_reducible repeat (first | refine blk_drewN ?_ _ | refine blk_drew ?_ | refine blk_alloc ?_ _));refine it_far ?_ NB373_379.out _;(with_reducible repeat (first | refine blk_drewN ?_ _ | refine blk_drew ?_ | refine blk_alloc ?_ _));exact BK373.out) hb);replace BK379:=Aside0.mk (blk_below (g:=gb379) (o:=.cells #[.int .i64 ((rd_T50 t369 x8_1).f0),.int .i64 ((rd_T50 t369 x8_1).f1)] 50 (0,0)) (by (with_reducible repeat (first | refine blk_drewN ?_ _ | refine blk_drew ?_ | refine blk_alloc ?_ _));refine blk_put (cs:=#[.int .i64 ((rd_T50 t369 x8_1).f0),.int .i64 0]) ?_ 1 _ rfl;(with_reducible repeat (first | refine blk_drewN ?_ _ | refine blk_drew ?_ | refine blk_alloc ?_ _));refine blk_put (cs:=#[.int .i64 0,.int .i64 0]) ?_ 0 _ rfl;(with_reducible repeat (first | refine blk_drewN ?_ _ | refine blk_drew ?_ | refine blk_alloc ?_ _));exact BK379.out) hb);replace HB:=Aside0.mk (below_step (bl4 HB.out GE365.out GE372.out GE373.out GE379.out) hb);(try clear hb);(try clear hk)))
           replace HO_4:=Aside0.mk (Kd.R_drew HO_4.out);replace HO_373000:=Aside0.mk (Kd.R_drew HO_373000.out);replace HO_373001:=Aside0.mk (Kd.R_drew HO_373001.out);replace BK365:=Aside0.mk (blk_drew BK365.out);replace BK372:=Aside0.mk (blk_drew BK372.out);replace BK373:=Aside0.mk (blk_drew BK373.out);replace BK379:=Aside0.mk (blk_drew BK379.out);replace HB:=Aside0.mk (below_drew1 HB.out);refine start_ (n:=4) (S:=fun w' => w'.cell? ⟨gb379,0,none⟩ = some (.int .i64 ((rd_T50 t369 x8_1).f0)) ∧ w'.cell? ⟨gb379,1,none⟩ = some (.int .i64 ((rd_T50 t369 x8_1).f1))) (ds:=[]) (pm 0 4) (by kernel_rfl) rfl rfl ⟨(blk_cell BK379.out 0).trans rfl,(blk_cell BK379.out 1).trans rfl⟩ (fun hHeld => ?_);generalize w32.drew = w33 at HO_4 HO_373000 HO_373001 BK365 BK372 BK373 BK379 HB hHeld ⊢;refine pure_ (i:=2) (N:=some 2) (v:=?_) (a':=?_) #[false,false,true,false] rfl rfl (by kernel_rfl) (fun _ _ _ h => h) (Or.inl ⟨by rfl,?_⟩) ?_ ?_;rotate_left
           ·intro w';go_simp;with_reducible rfl
           rotate_left
           ·simp only [Act.put,List.setIfInBounds_toArray,List.set_cons_zero,List.set_cons_succ,i64_w,i32_w];rfl
           refine take_ (i:=0) (N:=some 47) (v:=?_) (a':=?_) #[true,false,true,false] rfl rfl (by kernel_rfl) (fun _ _ _ h => h) (Or.inl ⟨by rfl,?_⟩) hHeld ?_ ?_;rotate_left
           ·rintro w' ⟨s0,s1⟩;go_simp;with_reducible rfl
           rotate_left
           ·simp only [Act.put,List.setIfInBounds_toArray,List.set_cons_zero,List.set_cons_succ,i64_w,i32_w];rfl
           refine pure_ (i:=1) (N:=some 48) (v:=?_) (a':=?_) (pm 3 4) rfl rfl (by kernel_rfl) (fun _ _ _ h => h) (Or.inl ⟨by rfl,?_⟩) ?_ ?_;rotate_left
           ·intro w';go_simp;with_reducible rfl
           rotate_left
           ·simp only [Act.put,List.setIfInBounds_toArray,List.set_cons_zero,List.set_cons_succ,i64_w,i32_w];rfl
           refine one_ (i:=3) (N:=none) (pm 4 4) rfl rfl (by kernel_rfl) (by decide) (fun K hK => ?_);have hs34 : w33.cell? ⟨gb365,0,none⟩ = some (.int .i64 x366000_1):=(blk_cell BK365.out 0).trans rfl;have hfs34:=blk_frozen BK365.out 0;have hns34_1:=NB372_365.out;have hns34_2:=NB373_365.out;have hns34_3:=NB379_365.out;have hms34_1:=NB365_372.out;have hms34_2:=NB365_373.out;have hms34_3:=NB365_379.out;have hs35 : w33.cell? ⟨gb365,1,none⟩ = some (.int .i64 x366001_1):=(blk_cell BK365.out 1).trans rfl;have hfs35:=blk_frozen BK365.out 1;have hns35_1:=NB372_365.out;have hns35_2:=NB373_365.out;have hns35_3:=NB379_365.out;have hms35_1:=NB365_372.out;have hms35_2:=NB365_373.out;have hms35_3:=NB365_379.out;have hs36 : w33.cell? ⟨gb365,2,none⟩ = some (.int .i64 x366002_1):=(blk_cell BK365.out 2).trans rfl;have hfs36:=blk_frozen BK365.out 2;have hns36_1:=NB372_365.out;have hns36_2:=NB373_365.out;have hns36_3:=NB379_365.out;have hms36_1:=NB365_372.out;have hms36_2:=NB365_373.out;have hms36_3:=NB365_379.out;refine skip_ (w1:=?_) (by rfl) rfl ?_ ?_;rotate_left
           ·go_simp;rfl
           refine hK.out _ _ ⟨((cell_far (p:=⟨gb365,_,none⟩) NB379_365.out _).trans (((cell_far (p:=⟨gb365,_,none⟩) NB379_365.out _).trans (((cell_far (p:=⟨gb365,_,none⟩) NB379_365.out _).trans (hHeld.1)))))),((cell_far (p:=⟨gb365,_,none⟩) NB379_365.out _).trans (((cell_far (p:=⟨gb365,_,none⟩) NB379_365.out _).trans (((cell_far (p:=⟨gb365,_,none⟩) NB379_365.out _).trans (hHeld.2))))))⟩ (fun hHeld => ?_);clear hK K;refine done_ (by kernel_rfl) ?_
           try go_wp2
           refine bodyPost_ret (results_tc rfl _ _ gb365 52 #[.int .i64 4,.int .i64 ((rd_T50 t369 x8_1).f0),.int .i64 ((rd_T50 t369 x8_1).f1)] (0,0) _ rfl (by (with_reducible repeat (first | refine blk_drewN ?_ _ | refine blk_drew ?_ | refine blk_alloc ?_ _));refine blk_put (cs:=#[.int .i64 4,.int .i64 ((rd_T50 t369 x8_1).f0),.int .i64 x366002_1]) ?_ 2 _ rfl;(with_reducible repeat (first | refine blk_drewN ?_ _ | refine blk_drew ?_ | refine blk_alloc ?_ _));refine blk_put (cs:=#[.int .i64 4,.int .i64 x366001_1,.int .i64 x366002_1]) ?_ 1 _ rfl;(with_reducible repeat (first | refine blk_drewN ?_ _ | refine blk_drew ?_ | refine blk_alloc ?_ _));refine blk_put (cs:=#[.int .i64 x366000_1,.int .i64 x366001_1,.int .i64 x366002_1]) ?_ 0 _ rfl;(with_reducible repeat (first | refine blk_drewN ?_ _ | refine blk_drew ?_ | refine blk_alloc ?_ _));exact BK365.out) Tryz.underlying52 rfl (by kernel_rfl)) rfl ?_;exact ⟨_,by first | rfl | (simp [errW_none,errW_some] <;> rfl) | (simp [*,errW_none,errW_some] <;> rfl),by first | exact Kd.R_nil _ _ _ _ _ | exact Kd.N_nil _ _ _ _ _ | exact Kd.V_nil _ _ _ _ _ | exact Kd.Q_nil _ _ _ _ _ | exact Kd.S_nil _ _ _ _ _,bl4 HB.out GE365.out GE372.out GE373.out GE379.out⟩
          ·replace c31:=Bool.eq_false_iff.mpr c31;subst c31;have H1 : (if t376 = 35 then (scan_Tokens.j1 k1 a0 x4_1 true x7_1 (wrap64 (x8_1 + 1)) t375 t376 t366 t369 t377 a0 ((rd_T50 t369 x8_1).f0) ((rd_T50 t369 x8_1).f1)) else (scan_Tokens.j1 k1 a0 x4_1 x6_1 x7_1 (wrap64 (x8_1 + 1)) t375 t376 t366 t369 t377 a0 ((rd_T50 t369 x8_1).f0) ((rd_T50 t369 x8_1).f1))) = some (r1,r2,r3,r4):=by rw [if_neg (show ¬ (false = true) by decide)] at H;exact H
           clear H;have H:=H1;clear H1
           by_cases c37 : t376 = 35
           ·rw [if_pos c37] at H;have c37b0 : (t376 == 35) = true:=beq_iff_eq.mpr c37;have c37b1 : (t376 != 35) = false:=bne_eq_false_iff_eq.mpr c37;clear c37;have H':=Aside0.mk H;clear H
            go_wp2_with (first | ((with_reducible refine gate_callee (f:=59) rfl ?_);refine goesL_ (some 46) rfl rfl Tryz.func59 (by kernel_rfl) rfl #[.string a0,.int .i64 t375,.int .i32 t376] rfl (by (try simp only [List.map_toArray,List.map_cons,List.map_nil]);first | done | rfl | (simp only [List.length_drop,List.length_take];rfl)) ?_;(with_reducible refine (scan_broken.calls a0 t375 t376 false _ A30.out).mono ?_);rintro e w38 ⟨rfl,hb⟩;refine ⟨_,rfl,?_⟩;replace HO_4:=Aside0.mk (Kd.R_below (by (with_reducible repeat (first | apply Kd.R_alloc | apply Kd.R_drewN | apply Kd.R_drew));exact (Kd.R_mono (Kd.R_far (p:=⟨gb379,1,none⟩) (Kd.R_far (p:=⟨gb379,0,none⟩) (Kd.R_types HO_4.out BK379.out (by decide)) (fun _ hk => hk.2) (.int .i64 ((rd_T50 t369 x8_1).f0))) (fun _ hk => hk.2) (.int .i64 ((rd_T50 t369 x8_1).f1))) (fun _ h_ => h_.1))) hb);replace HO_373000:=Aside0.mk (Kd.R_below (by (with_reducible repeat (first | apply Kd.R_alloc | apply Kd.R_drewN | apply Kd.R_drew));exact (Kd.R_mono (Kd.R_far (p:=⟨gb379,1,none⟩) (Kd.R_far (p:=⟨gb379,0,none⟩) (Kd.R_types HO_373000.out BK379.out (by decide)) (fun _ hk => hk.2) (.int .i64 ((rd_T50 t369 x8_1).f0))) (fun _ hk => hk.2) (.int .i64 ((rd_T50 t369 x8_1).f1))) (fun _ h_ => h_.1))) hb);replace HO_373001:=Aside0.mk (Kd.R_below (by (with_reducible repeat (first | apply Kd.R_alloc | apply Kd.R_drewN | apply Kd.R_drew));exact (Kd.R_mono (Kd.R_far (p:=⟨gb379,1,none⟩) (Kd.R_far (p:=⟨gb379,0,none⟩) (Kd.R_mono HO_373001.out (fun k_ hk => (⟨hk,hk.2⟩ : _ ∧ k_ ≠ gb379))) (fun _ hk => hk.2) (.int .i64 ((rd_T50 t369 x8_1).f0))) (fun _ hk => hk.2) (.int .i64 ((rd_T50 t369 x8_1).f1))) (fun _ h_ => h_.1))) hb);replace BK365:=Aside0.mk (blk_below (g:=gb365) (o:=.cells #[.int .i64 x366000_1,.int .i64 x366001_1,.int .i64 x366002_1] 52 (0,0)) (by (with_reducible repeat (first | refine blk_drewN ?_ _ | refine blk_drew ?_ | refine blk_alloc ?_ _));refine blk_far ?_ NB365_379.out _;(with_reducible repeat (first | refine blk_drewN ?_ _ | refine blk_drew ?_ | refine blk_alloc ?_ _));refine blk_far ?_ NB365_379.out _;(with_reducible repeat (first | refine blk_drewN ?_ _ | refine blk_drew ?_ | refine blk_alloc ?_ _));exact BK365.out) hb);replace BK372:=Aside0.mk (blk_below (g:=gb372) (o:=.cells #[.slice Ao9 t366.length co9,.slice (some ad378) t369.length co12] 106 (0,0)) (by (with_reducible repeat (first | refine blk_drewN ?_ _ | refine blk_drew ?_ | refine blk_alloc ?_ _));refine blk_far ?_ NB372_379.out _;(with_reducible repeat (first | refine blk_drewN ?_ _ | refine blk_drew ?_ | refine blk_alloc ?_ _));refine blk_far ?_ NB372_379.out _;(with_reducible repeat (first | refine blk_drewN ?_ _ | refine blk_drew ?_ | refine blk_alloc ?_ _));exact BK372.out) hb);replace BK373:=Aside0.mk (blk_below (g:=gb373) (o:=.stringIter a0 (Int.toNat t377)) (by (with_reducible repeat (first | refine blk_drewN ?_ _ | refine blk_drew ?_ | refine blk_alloc ?_ _));refine it_far ?_ NB373_379.out _;(with_reducible repeat (first | refine blk_drewN ?_ _ | refine blk_drew ?_ | refine blk_alloc ?_ _));refine it_far ?_ NB373_379.out _;(with_reducible repeat (first | refine blk_drewN ?_ _ | refine blk_drew ?_ | refine blk_alloc ?_ _));exact BK373.out) hb);replace BK379:=Aside0.mk (blk_below (g:=gb379) (o:=.cells #[.int .i64 ((rd_T50 t369 x8_1).f0),.int .i64 ((rd_T50 t369 x8_1).f1)] 50 (0,0)) (by (with_reducible repeat (first | refine blk_drewN ?_ _ | refine blk_drew ?_ | refine blk_alloc ?_ _));refine blk_put (cs:=#[.int .i64 ((rd_T50 t369 x8_1).f0),.int .i64 0]) ?_ 1 _ rfl;(with_reducible repeat (first | refine blk_drewN ?_ _ | refine blk_drew ?_ | refine blk_alloc ?_ _));refine blk_put (cs:=#[.int .i64 0,.int .i64 0]) ?_ 0 _ rfl;(with_reducible repeat (first | refine blk_drewN ?_ _ | refine blk_drew ?_ | refine blk_alloc ?_ _));exact BK379.out) hb);replace HB:=Aside0.mk (below_step (bl4 HB.out GE365.out GE372.out GE373.out GE379.out) hb);(try clear hb);(try clear hk)))
            go_meet
            case rel => exact ⟨_,(true),(x366000_1),(x366001_1),(x366002_1),(by first | rfl | (simp;done) | (simp [*];done)),H',⟨by have:=HK1.out;first | omega | exact Nat.le_refl _⟩,⟨by (with_reducible repeat (first | apply Kd.R_alloc | apply Kd.R_drewN | apply Kd.R_drew));exact HO_4.out⟩,⟨by (with_reducible repeat (first | apply Kd.R_alloc | apply Kd.R_drewN | apply Kd.R_drew));exact HO_373000.out⟩,⟨by (with_reducible repeat (first | apply Kd.R_alloc | apply Kd.R_drewN | apply Kd.R_drew));exact Kd.R_mono HO_373001.out (fun _ hk => hk.2)⟩,⟨bk BK365.out⟩,⟨bk BK372.out⟩,⟨bk BK373.out⟩,⟨bk BK379.out⟩,⟨bl4 HB.out GE365.out GE372.out GE373.out GE379.out⟩⟩
           ·rw [if_neg c37] at H;have c37b0 : (t376 == 35) = false:=beq_eq_false_iff_ne.mpr c37;have c37b1 : (t376 != 35) = true:=bne_iff_ne.mpr c37;have H':=Aside0.mk H;clear H
            go_wp2_with (first | ((with_reducible refine gate_callee (f:=59) rfl ?_);refine goesL_ (some 46) rfl rfl Tryz.func59 (by kernel_rfl) rfl #[.string a0,.int .i64 t375,.int .i32 t376] rfl (by (try simp only [List.map_toArray,List.map_cons,List.map_nil]);first | done | rfl | (simp only [List.length_drop,List.length_take];rfl)) ?_;(with_reducible refine (scan_broken.calls a0 t375 t376 false _ A30.out).mono ?_);rintro e w39 ⟨rfl,hb⟩;refine ⟨_,rfl,?_⟩;replace HO_4:=Aside0.mk (Kd.R_below (by (with_reducible repeat (first | apply Kd.R_alloc | apply Kd.R_drewN | apply Kd.R_drew));exact (Kd.R_mono (Kd.R_far (p:=⟨gb379,1,none⟩) (Kd.R_far (p:=⟨gb379,0,none⟩) (Kd.R_types HO_4.out BK379.out (by decide)) (fun _ hk => hk.2) (.int .i64 ((rd_T50 t369 x8_1).f0))) (fun _ hk => hk.2) (.int .i64 ((rd_T50 t369 x8_1).f1))) (fun _ h_ => h_.1))) hb);replace HO_373000:=Aside0.mk (Kd.R_below (by (with_reducible repeat (first | apply Kd.R_alloc | apply Kd.R_drewN | apply Kd.R_drew));exact (Kd.R_mono (Kd.R_far (p:=⟨gb379,1,none⟩) (Kd.R_far (p:=⟨gb379,0,none⟩) (Kd.R_types HO_373000.out BK379.out (by decide)) (fun _ hk => hk.2) (.int .i64 ((rd_T50 t369 x8_1).f0))) (fun _ hk => hk.2) (.int .i64 ((rd_T50 t369 x8_1).f1))) (fun _ h_ => h_.1))) hb);replace HO_373001:=Aside0.mk (Kd.R_below (by (with_reducible repeat (first | apply Kd.R_alloc | apply Kd.R_drewN | apply Kd.R_drew));exact (Kd.R_mono (Kd.R_far (p:=⟨gb379,1,none⟩) (Kd.R_far (p:=⟨gb379,0,none⟩) (Kd.R_mono HO_373001.out (fun k_ hk => (⟨hk,hk.2⟩ : _ ∧ k_ ≠ gb379))) (fun _ hk => hk.2) (.int .i64 ((rd_T50 t369 x8_1).f0))) (fun _ hk => hk.2) (.int .i64 ((rd_T50 t369 x8_1).f1))) (fun _ h_ => h_.1))) hb);replace BK365:=Aside0.mk (blk_below (g:=gb365) (o:=.cells #[.int .i64 x366000_1,.int .i64 x366001_1,.int .i64 x366002_1] 52 (0,0)) (by (with_reducible repeat (first | refine blk_drewN ?_ _ | refine blk_drew ?_ | refine blk_alloc ?_ _));refine blk_far ?_ NB365_379.out _;(with_reducible repeat (first | refine blk_drewN ?_ _ | refine blk_drew ?_ | refine blk_alloc ?_ _));refine blk_far ?_ NB365_379.out _;(with_reducible repeat (first | refine blk_drewN ?_ _ | refine blk_drew ?_ | refine blk_alloc ?_ _));exact BK365.out) hb);replace BK372:=Aside0.mk (blk_below (g:=gb372) (o:=.cells #[.slice Ao9 t366.length co9,.slice (some ad378) t369.length co12] 106 (0,0)) (by (with_reducible repeat (first | refine blk_drewN ?_ _ | refine blk_drew ?_ | refine blk_alloc ?_ _));refine blk_far ?_ NB372_379.out _;(with_reducible repeat (first | refine blk_drewN ?_ _ | refine blk_drew ?_ | refine blk_alloc ?_ _));refine blk_far ?_ NB372_379.out _;(with_reducible repeat (first | refine blk_drewN ?_ _ | refine blk_drew ?_ | refine blk_alloc ?_ _));exact BK372.out) hb);replace BK373:=Aside0.mk (blk_below (g:=gb373) (o:=.stringIter a0 (Int.toNat t377)) (by (with_reducible repeat (first | refine blk_drewN ?_ _ | refine blk_drew ?_ | refine blk_alloc ?_ _));refine it_far ?_ NB373_379.out _;(with_reducible repeat (first | refine blk_drewN ?_ _ | refine blk_drew ?_ | refine blk_alloc ?_ _));refine it_far ?_ NB373_379.out _;(with_reducible repeat (first | refine blk_drewN ?_ _ | refine blk_drew ?_ | refine blk_alloc ?_ _));exact BK373.out) hb);replace BK379:=Aside0.mk (blk_below (g:=gb379) (o:=.cells #[.int .i64 ((rd_T50 t369 x8_1).f0),.int .i64 ((rd_T50 t369 x8_1).f1)] 50 (0,0)) (by (with_reducible repeat (first | refine blk_drewN ?_ _ | refine blk_drew ?_ | refine blk_alloc ?_ _));refine blk_put (cs:=#[.int .i64 ((rd_T50 t369 x8_1).f0),.int .i64 0]) ?_ 1 _ rfl;(with_reducible repeat (first | refine blk_drewN ?_ _ | refine blk_drew ?_ | refine blk_alloc ?_ _));refine blk_put (cs:=#[.int .i64 0,.int .i64 0]) ?_ 0 _ rfl;(with_reducible repeat (first | refine blk_drewN ?_ _ | refine blk_drew ?_ | refine blk_alloc ?_ _));exact BK379.out) hb);replace HB:=Aside0.mk (below_step (bl4 HB.out GE365.out GE372.out GE373.out GE379.out) hb);(try clear hb);(try clear hk)))
            go_meet
            case rel => exact ⟨_,(x6_1),(x366000_1),(x366001_1),(x366002_1),(by first | rfl | (simp;done) | (simp [*];done)),H',⟨by have:=HK1.out;first | omega | exact Nat.le_refl _⟩,⟨by (with_reducible repeat (first | apply Kd.R_alloc | apply Kd.R_drewN | apply Kd.R_drew));exact HO_4.out⟩,⟨by (with_reducible repeat (first | apply Kd.R_alloc | apply Kd.R_drewN | apply Kd.R_drew));exact HO_373000.out⟩,⟨by (with_reducible repeat (first | apply Kd.R_alloc | apply Kd.R_drewN | apply Kd.R_drew));exact Kd.R_mono HO_373001.out (fun _ hk => hk.2)⟩,⟨bk BK365.out⟩,⟨bk BK372.out⟩,⟨bk BK373.out⟩,⟨bk BK379.out⟩,⟨bl4 HB.out GE365.out GE372.out GE373.out GE379.out⟩⟩
       case rest =>
        clear HC18
        try clear c1
        try clear c2
        try clear c2b0
        try clear c2b1
        try clear p2
        try clear c3
        try clear p3
        try clear q3
        try clear hx3
        try clear c5
        try clear p6
        try clear c10
        try clear c15
        try clear c16
        try clear c16b0
        try clear c17
        try clear c17b0
        try clear c20
        try clear c21
        try clear c24
        try clear c25
        try clear c26
        try clear c28
        try clear c28b0
        try clear c29
        try clear c29b0
        try clear c29b1
        try clear c31
        try clear c32
        try clear c37
        try clear c37b0
        try clear c37b1
        try clear p37
        try clear q37
        try clear hx37
        try clear hcz11_0
        try clear hcz11_1
        try clear hcz22_0
        try clear hcz22_1
        try clear hcz27_0
        try clear hcz27_1
        try clear hcz4_0
        try clear hcz4_1
        try clear hcz4_2
        try clear hfz11_0
        try clear hfz11_1
        try clear hfz22_0
        try clear hfz22_1
        try clear hfz27_0
        try clear hfz27_1
        try clear hfz4_0
        try clear hfz4_1
        try clear hfz4_2
        try clear hx378_0
        try clear hx378_1
        try clear p2
        try clear p378
        try clear q378
        obtain ⟨kq,x6_17,x366000_17,x366001_17,x366002_17,rfl,HA,HJ17,HO_4,HO_373000,HO_373001,BK365,BK372,BK373,BK379,HB⟩:=hcut
        cases kq with
        | zero => exact absurd HA.out (by simp [scan_Tokens.j1])
        | succ kj17 =>
         have H:=HA.out;clear HA;simp only [scan_Tokens.j1] at H;have HC40:=Aside0.mk H;clear H
         go_upto_region 18 with (fail)
         go_cut [64] (fun v64 wc => ∃ (kq : Nat) (x64_39 : Bool),v64 = .bool x64_39 ∧ Aside0 (scan_Tokens.j2 kq a0 x4_1 x6_17 x7_1 (wrap64 (x8_1 + 1)) t375 t376 x64_39 t366 t369 t377 a0 ((rd_T50 t369 x8_1).f0) ((rd_T50 t369 x8_1).f1) = some (r1,r2,r3,r4)) ∧ Aside0 (kq ≤ kj17) ∧ Aside0 (Kd.R k74 74 wc w.heap.size (fun _ => True) u4 x4_1) ∧ Aside0 (Kd.R (Kd.int .i64) 3 wc w.heap.size (fun _ => True) (.slice Ao9 t366.length co9) t366) ∧ Aside0 (Kd.R k50 50 wc w.heap.size (fun k_ => k_ ≠ gb379) (.slice (some ad378) t369.length co12) t369) ∧ Aside0 (wc.heap[gb365]? = some (.cells #[.int .i64 x366000_17,.int .i64 x366001_17,.int .i64 x366002_17] 52 (0,0))) ∧ Aside0 (wc.heap[gb372]? = some (.cells #[(.slice Ao9 t366.length co9),(.slice (some ad378) t369.length co12)] 106 (0,0))) ∧ Aside0 (wc.heap[gb373]? = some (.stringIter a0 (Int.toNat t377))) ∧ Aside0 (wc.heap[gb379]? = some (.cells #[.int .i64 ((rd_T50 t369 x8_1).f0),.int .i64 ((rd_T50 t369 x8_1).f1)] 50 (0,0))) ∧ Aside0 (Below w.heap.size w wc))
         case first =>
          have H:=HC40.out;clear HC40
          by_cases c41 : x6_17 = true
          ·subst c41;have H1 : (scan_Tokens.j2 kj17 a0 x4_1 true x7_1 (wrap64 (x8_1 + 1)) t375 t376 true t366 t369 t377 a0 ((rd_T50 t369 x8_1).f0) ((rd_T50 t369 x8_1).f1)) = some (r1,r2,r3,r4):=by rw [if_pos rfl] at H;exact H
           clear H;have H:=H1;clear H1;have H':=Aside0.mk H;clear H
           go_wp2
           go_meet
           case rel => exact ⟨_,(true),(by first | rfl | (simp;done) | (simp [*];done)),H',⟨by have:=HK1.out;have:=HJ17.out;first | omega | exact Nat.le_refl _⟩,⟨by (with_reducible repeat (first | apply Kd.R_alloc | apply Kd.R_drewN | apply Kd.R_drew));exact HO_4.out⟩,⟨by (with_reducible repeat (first | apply Kd.R_alloc | apply Kd.R_drewN | apply Kd.R_drew));exact HO_373000.out⟩,⟨by (with_reducible repeat (first | apply Kd.R_alloc | apply Kd.R_drewN | apply Kd.R_drew));exact HO_373001.out⟩,⟨bk BK365.out⟩,⟨bk BK372.out⟩,⟨bk BK373.out⟩,⟨bk BK379.out⟩,⟨bl4 HB.out GE365.out GE372.out GE373.out GE379.out⟩⟩
          ·replace c41:=Bool.eq_false_iff.mpr c41;subst c41;have H1 : (if t376 = 32 then (scan_Tokens.j2 kj17 a0 x4_1 false x7_1 (wrap64 (x8_1 + 1)) t375 t376 true t366 t369 t377 a0 ((rd_T50 t369 x8_1).f0) ((rd_T50 t369 x8_1).f1)) else (if t376 = 9 then (scan_Tokens.j2 kj17 a0 x4_1 false x7_1 (wrap64 (x8_1 + 1)) t375 t376 true t366 t369 t377 a0 ((rd_T50 t369 x8_1).f0) ((rd_T50 t369 x8_1).f1)) else (scan_Tokens.j2 kj17 a0 x4_1 false x7_1 (wrap64 (x8_1 + 1)) t375 t376 (t376 == 13) t366 t369 t377 a0 ((rd_T50 t369 x8_1).f0) ((rd_T50 t369 x8_1).f1)))) = some (r1,r2,r3,r4):=by rw [if_neg (show ¬ (false = true) by decide)] at H;exact H
           clear H;have H:=H1;clear H1
           by_cases c42 : t376 = 32
           ·rw [if_pos c42] at H;have c42b0 : (t376 == 32) = true:=beq_iff_eq.mpr c42;have c42b1 : (t376 != 32) = false:=bne_eq_false_iff_eq.mpr c42;clear c42
            (first | rw [c42b0] | (simp only [i64_w,i32_w];rw [c42b0]) | skip)
            have H':=Aside0.mk H;clear H
            go_wp2
            go_meet
            case rel => exact ⟨_,(true),(by first | rfl | (simp;done) | (simp [*];done)),H',⟨by have:=HK1.out;have:=HJ17.out;first | omega | exact Nat.le_refl _⟩,⟨by (with_reducible repeat (first | apply Kd.R_alloc | apply Kd.R_drewN | apply Kd.R_drew));exact HO_4.out⟩,⟨by (with_reducible repeat (first | apply Kd.R_alloc | apply Kd.R_drewN | apply Kd.R_drew));exact HO_373000.out⟩,⟨by (with_reducible repeat (first | apply Kd.R_alloc | apply Kd.R_drewN | apply Kd.R_drew));exact HO_373001.out⟩,⟨bk BK365.out⟩,⟨bk BK372.out⟩,⟨bk BK373.out⟩,⟨bk BK379.out⟩,⟨bl4 HB.out GE365.out GE372.out GE373.out GE379.out⟩⟩
           ·rw [if_neg c42] at H;have c42b0 : (t376 == 32) = false:=beq_eq_false_iff_ne.mpr c42;have c42b1 : (t376 != 32) = true:=bne_iff_ne.mpr c42
            (first | rw [c42b0] | (simp only [i64_w,i32_w];rw [c42b0]) | skip)
            by_cases c43 : t376 = 9
            ·rw [if_pos c43] at H;have c43b0 : (t376 == 9) = true:=beq_iff_eq.mpr c43;have c43b1 : (t376 != 9) = false:=bne_eq_false_iff_eq.mpr c43;clear c43;have H':=Aside0.mk H;clear H
             go_wp2
             go_meet
             case rel => exact ⟨_,(true),(by first | rfl | (simp;done) | (simp [*];done)),H',⟨by have:=HK1.out;have:=HJ17.out;first | omega | exact Nat.le_refl _⟩,⟨by (with_reducible repeat (first | apply Kd.R_alloc | apply Kd.R_drewN | apply Kd.R_drew));exact HO_4.out⟩,⟨by (with_reducible repeat (first | apply Kd.R_alloc | apply Kd.R_drewN | apply Kd.R_drew));exact HO_373000.out⟩,⟨by (with_reducible repeat (first | apply Kd.R_alloc | apply Kd.R_drewN | apply Kd.R_drew));exact HO_373001.out⟩,⟨bk BK365.out⟩,⟨bk BK372.out⟩,⟨bk BK373.out⟩,⟨bk BK379.out⟩,⟨bl4 HB.out GE365.out GE372.out GE373.out GE379.out⟩⟩
            ·rw [if_neg c43] at H;have c43b0 : (t376 == 9) = false:=beq_eq_false_iff_ne.mpr c43;have c43b1 : (t376 != 9) = true:=bne_iff_ne.mpr c43;have H':=Aside0.mk H;clear H
             go_wp2
             go_meet
             case rel => exact ⟨_,((t376 == 13)),(by first | rfl | (simp;done) | (simp [*];done)),H',⟨by have:=HK1.out;have:=HJ17.out;first | omega | exact Nat.le_refl _⟩,⟨by (with_reducible repeat (first | apply Kd.R_alloc | apply Kd.R_drewN | apply Kd.R_drew));exact HO_4.out⟩,⟨by (with_reducible repeat (first | apply Kd.R_alloc | apply Kd.R_drewN | apply Kd.R_drew));exact HO_373000.out⟩,⟨by (with_reducible repeat (first | apply Kd.R_alloc | apply Kd.R_drewN | apply Kd.R_drew));exact HO_373001.out⟩,⟨bk BK365.out⟩,⟨bk BK372.out⟩,⟨bk BK373.out⟩,⟨bk BK379.out⟩,⟨bl4 HB.out GE365.out GE372.out GE373.out GE379.out⟩⟩
         case rest =>
          clear HC40
          try clear c1
          try clear c2
          try clear c2b0
          try clear c2b1
          try clear p2
          try clear c3
          try clear p3
          try clear q3
          try clear hx3
          try clear c4
          try clear c5
          try clear p6
          try clear c10
          try clear c15
          try clear c16
          try clear c16b0
          try clear c17
          try clear c17b0
          try clear c20
          try clear c21
          try clear c24
          try clear c25
          try clear c26
          try clear c28
          try clear c28b0
          try clear c29
          try clear c29b0
          try clear c29b1
          try clear c31
          try clear c32
          try clear c37
          try clear c37b0
          try clear c37b1
          try clear p37
          try clear q37
          try clear hx37
          try clear c41
          try clear c42
          try clear c42b0
          try clear c42b1
          try clear c43
          try clear c43b0
          try clear c43b1
          try clear hcz11_0
          try clear hcz11_1
          try clear hcz22_0
          try clear hcz22_1
          try clear hcz27_0
          try clear hcz27_1
          try clear hcz4_0
          try clear hcz4_1
          try clear hcz4_2
          try clear hfz11_0
          try clear hfz11_1
          try clear hfz22_0
          try clear hfz22_1
          try clear hfz27_0
          try clear hfz27_1
          try clear hfz4_0
          try clear hfz4_1
          try clear hfz4_2
          try clear hx378_0
          try clear hx378_1
          try clear p2
          try clear p3
          try clear p37
          try clear p378
          try clear p6
          try clear q3
          try clear q37
          try clear q378
          obtain ⟨kq,x64_39,rfl,HA,HJ39,HO_4,HO_373000,HO_373001,BK365,BK372,BK373,BK379,HB⟩:=hcut
          cases kq with
          | zero => exact absurd HA.out (by simp [scan_Tokens.j2])
          | succ kj39 =>
           have H:=HA.out;clear HA;simp only [scan_Tokens.j2] at H
           by_cases c44 : x64_39 = true
           ·subst c44;have H1 : (scan_Tokens.l0 kj39 a0 x4_1 x6_17 x7_1 (wrap64 (x8_1 + 1)) t366 t369 t377 a0) = some (r1,r2,r3,r4):=by rw [if_pos rfl] at H;exact H
            clear H;have H:=H1;clear H1;have H':=Aside0.mk H;clear H
            go_wp2
            go_roundg kj39
            case measure => have:=HK1.out;have:=HJ17.out;have:=HJ39.out;omega
            case rel => exact ⟨(x4_1),(x6_17),(x7_1),((wrap64 (x8_1 + 1))),(x366000_17),(x366001_17),(x366002_17),(t377),(by first | rfl | (simp;done) | (simp [*];done)),(by first | rfl | (simp;done) | (simp [*];done)),(by first | rfl | (simp;done) | (simp [*];done)),H',⟨by have:=HK1.out;have:=HJ17.out;have:=HJ39.out;omega⟩,⟨by (with_reducible repeat (first | apply Kd.R_alloc | apply Kd.R_drewN | apply Kd.R_drew));exact HO_4.out⟩,⟨by (with_reducible repeat (first | apply Kd.R_alloc | apply Kd.R_drewN | apply Kd.R_drew));exact HO_373000.out⟩,⟨by (with_reducible repeat (first | apply Kd.R_alloc | apply Kd.R_drewN | apply Kd.R_drew));exact Kd.R_mono HO_373001.out (fun _ hk => trivial)⟩,⟨bk BK365.out⟩,⟨bk BK372.out⟩,⟨bk BK373.out⟩,⟨bl4 HB.out GE365.out GE372.out GE373.out GE379.out⟩⟩
           ·replace c44:=Bool.eq_false_iff.mpr c44;subst c44;have H1 : (if 0 ≤ t375 then (if t375 ≤ (a0.size : Int) then ((scan_token.f kj39 (a0.extract (t375 : Int).toNat a0.size) t376).bind fun bt381 => (if bt381.2.2 = 0 then (if t375 ≤ (wrap64 (t375 + bt381.2.1)) then (if (wrap64 (t375 + bt381.2.1)) ≤ (a0.size : Int) then (if x4_1.length < 3518437208883 then (scan_Tokens.l0 kj39 a0 (x4_1 ++ [(⟨bt381.1,a0.extract (t375 : Int).toNat ((wrap64 (t375 + bt381.2.1)) : Int).toNat,(⟨((rd_T50 t369 x8_1).f0),((rd_T50 t369 x8_1).f1)⟩ : S50)⟩ : S74)]) x6_17 (wrap64 (t375 + bt381.2.1)) (wrap64 (x8_1 + 1)) t366 t369 t377 a0) else (none)) else (none)) else (none)) else (some (([] : List (S74)),bt381.2.2,((rd_T50 t369 x8_1).f0),((rd_T50 t369 x8_1).f1))))) else (none)) else (none)) = some (r1,r2,r3,r4):=by rw [if_neg (show ¬ (false = true) by decide)] at H;exact H
            clear H;have H:=H1;clear H1
            by_cases c45 : 0 ≤ t375
            ·rw [if_pos c45] at H;have c45b0:=eq_true c45;have c45b1 : decide (0 ≤ t375) = true:=decide_eq_true c45;clear c45
             by_cases c46 : t375 ≤ (a0.size : Int)
             ·rw [if_pos c46] at H;have c46b0:=eq_true c46;have c46b1 : decide (t375 ≤ (a0.size : Int)) = true:=decide_eq_true c46;clear c46;replace H:=Option.bind_eq_some_iff.mp H;obtain ⟨⟨t381,t382,t383⟩,A470,H⟩:=H;replace H : (if t383 = 0 then (if t375 ≤ (wrap64 (t375 + t382)) then (if (wrap64 (t375 + t382)) ≤ (a0.size : Int) then (if x4_1.length < 3518437208883 then (scan_Tokens.l0 kj39 a0 (x4_1 ++ [(⟨t381,a0.extract (t375 : Int).toNat ((wrap64 (t375 + t382)) : Int).toNat,(⟨((rd_T50 t369 x8_1).f0),((rd_T50 t369 x8_1).f1)⟩ : S50)⟩ : S74)]) x6_17 (wrap64 (t375 + t382)) (wrap64 (x8_1 + 1)) t366 t369 t377 a0) else (none)) else (none)) else (none)) else (some (([] : List (S74)),t383,((rd_T50 t369 x8_1).f0),((rd_T50 t369 x8_1).f1)))) = some (r1,r2,r3,r4):=H;have A47:=Aside0.mk A470;clear A470
              by_cases c48 : t383 = 0
              ·rw [if_pos c48] at H;have c48b0 : (t383 == 0) = true:=beq_iff_eq.mpr c48;have c48b1 : (t383 != 0) = false:=bne_eq_false_iff_eq.mpr c48;clear c48;have c49b0:=eq_true (of_decide_eq_true (by first | (with_reducible assumption) | assumption) : 0 ≤ t375)
               by_cases c50 : t375 ≤ (wrap64 (t375 + t382))
               ·rw [if_pos c50] at H;have c50b0:=eq_true c50;have c50b1 : decide (t375 ≤ (wrap64 (t375 + t382))) = true:=decide_eq_true c50
                by_cases c51 : (wrap64 (t375 + t382)) ≤ (a0.size : Int)
                ·rw [if_pos c51] at H;have c51b0:=eq_true c51;have c51b1 : decide ((wrap64 (t375 + t382)) ≤ (a0.size : Int)) = true:=decide_eq_true c51
                 by_cases c52 : x4_1.length < 3518437208883
                 ·rw [if_pos c52] at H;have LMc52:=Aside0.mk c52;clear c52;obtain ⟨y384,hy384⟩ : ∃ y_ : List (S74),y_ = (x4_1 ++ [(⟨t381,a0.extract (t375 : Int).toNat ((wrap64 (t375 + t382)) : Int).toNat,(⟨((rd_T50 t369 x8_1).f0),((rd_T50 t369 x8_1).f1)⟩ : S50)⟩ : S74)]):=⟨_,rfl⟩;replace H : (scan_Tokens.l0 kj39 a0 y384 x6_17 (wrap64 (t375 + t382)) (wrap64 (x8_1 + 1)) t366 t369 t377 a0) = some (r1,r2,r3,r4):=by first | (rw [hy384];with_reducible exact H) | (have H2_:=(Option.bind_some _ _).symm.trans H;rw [hy384];with_reducible exact H2_) | (have H2_:=(Option.bind_some _ _).symm.trans H;with_reducible exact H2_) | with_reducible exact H | (rw [hy384];exact H) | exact H
                  have Ny384:=Aside0.mk hy384;clear hy384;have H':=Aside0.mk H;clear H
                  try go_wp2_with (first | ((with_reducible refine gate_callee (f:=60) rfl ?_);refine goesL_ (some 70) rfl rfl Tryz.func60 (by kernel_rfl) rfl #[.string (a0.extract (t375 : Int).toNat a0.size),.int .i32 t376] rfl (by (try simp only [List.map_toArray,List.map_cons,List.map_nil]);first | done | rfl | (simp only [List.length_drop,List.length_take];rfl)) ?_;(with_reducible refine (scan_token.calls kj39 (a0.extract (t375 : Int).toNat a0.size) t376 t381 t382 t383 _ ?side1 A47.out).mono ?_);(case side1 => exact Tabs.below HG.out (bl4 HB.out GE365.out GE372.out GE373.out GE379.out));rintro e w53 ⟨rfl,hb⟩;refine ⟨_,rfl,?_⟩;replace HO_4:=Aside0.mk (Kd.R_below (by (with_reducible repeat (first | apply Kd.R_alloc | apply Kd.R_drewN | apply Kd.R_drew));exact HO_4.out) hb);replace HO_373000:=Aside0.mk (Kd.R_below (by (with_reducible repeat (first | apply Kd.R_alloc | apply Kd.R_drewN | apply Kd.R_drew));exact HO_373000.out) hb);replace HO_373001:=Aside0.mk (Kd.R_below (by (with_reducible repeat (first | apply Kd.R_alloc | apply Kd.R_drewN | apply Kd.R_drew));exact HO_373001.out) hb);replace BK365:=Aside0.mk (blk_below (g:=gb365) (o:=.cells #[.int .i64 x366000_17,.int .i64 x366001_17,.int .i64 x366002_17] 52 (0,0)) (bk BK365.out) hb);replace BK372:=Aside0.mk (blk_below (g:=gb372) (o:=.cells #[.slice Ao9 t366.length co9,.slice (some ad378) t369.length co12] 106 (0,0)) (bk BK372.out) hb);replace BK373:=Aside0.mk (blk_below (g:=gb373) (o:=.stringIter a0 (Int.toNat t377)) (bk BK373.out) hb);replace BK379:=Aside0.mk (blk_below (g:=gb379) (o:=.cells #[.int .i64 ((rd_T50 t369 x8_1).f0),.int .i64 ((rd_T50 t369 x8_1).f1)] 50 (0,0)) (bk BK379.out) hb);replace HB:=Aside0.mk (below_step (bl4 HB.out GE365.out GE372.out GE373.out GE379.out) hb);(try clear hb);(try clear hk)))
                  replace HO_4:=Aside0.mk (Kd.R_drew HO_4.out);replace HO_373000:=Aside0.mk (Kd.R_drew HO_373000.out);replace HO_373001:=Aside0.mk (Kd.R_drew HO_373001.out);replace BK365:=Aside0.mk (blk_drew BK365.out);replace BK372:=Aside0.mk (blk_drew BK372.out);replace BK373:=Aside0.mk (blk_drew BK373.out);replace BK379:=Aside0.mk (blk_drew BK379.out);replace HB:=Aside0.mk (below_drew1 HB.out);refine start_ (n:=13) (S:=fun w' => w'.cell? ⟨gb379,0,none⟩ = some (.int .i64 ((rd_T50 t369 x8_1).f0)) ∧ w'.cell? ⟨gb379,1,none⟩ = some (.int .i64 ((rd_T50 t369 x8_1).f1))) (ds:=[]) (pm 0 13) (by kernel_rfl) rfl rfl ⟨(blk_cell BK379.out 0).trans rfl,(blk_cell BK379.out 1).trans rfl⟩ (fun hHeld => ?_);refine with_tabW scan_Tokens.tab22 scan_Tokens.bits22 (fun HT_ HW_ => ?_);generalize w53.drew = w54 at HO_4 HO_373000 HO_373001 BK365 BK372 BK373 BK379 HB hHeld ⊢;refine pure_ (i:=0) (N:=some 79) (v:=?_) (a':=?_) (pm 1 13) rfl rfl (any_of HT_.out (by kernel_rfl)) (fun _ _ _ h => h) (Or.inl ⟨by rfl,?_⟩) ?_ ?_;rotate_left
                  ·intro w';go_simp;with_reducible rfl
                  rotate_left
                  ·simp only [Act.put,List.setIfInBounds_toArray,List.set_cons_zero,List.set_cons_succ,i64_w,i32_w];rfl
                  refine pure_ (i:=1) (N:=some 80) (v:=?_) (a':=?_) (pm 2 13) rfl rfl (any_of HT_.out (by kernel_rfl)) (fun _ _ _ h => h) (Or.inl ⟨by rfl,?_⟩) ?_ ?_;rotate_left
                  ·intro w';go_simp;with_reducible rfl
                  rotate_left
                  ·simp only [Act.put,List.setIfInBounds_toArray,List.set_cons_zero,List.set_cons_succ,i64_w,i32_w];rfl
                  refine pure_ (i:=2) (N:=some 81) (v:=?_) (a':=?_) (pm 3 13) rfl rfl (any_of HT_.out (by kernel_rfl)) (fun _ _ _ h => h) (Or.inl ⟨by rfl,?_⟩) ?_ ?_;rotate_left
                  ·intro w';go_simp;with_reducible rfl
                  rotate_left
                  ·simp only [Act.put,List.setIfInBounds_toArray,List.set_cons_zero,List.set_cons_succ,i64_w,i32_w];rfl
                  refine pure_ (i:=3) (N:=some 82) (v:=?_) (a':=?_) (pm 4 13) rfl rfl (any_of HT_.out (by kernel_rfl)) (fun _ _ _ h => h) (Or.inl ⟨by rfl,?_⟩) ?_ ?_;rotate_left
                  ·intro w';go_simp;with_reducible rfl
                  rotate_left
                  ·simp only [Act.put,List.setIfInBounds_toArray,List.set_cons_zero,List.set_cons_succ,i64_w,i32_w];rfl
                  refine pure_ (i:=4) (N:=some 83) (v:=?_) (a':=?_) (pm 5 13) rfl rfl (any_of HT_.out (by kernel_rfl)) (fun _ _ _ h => h) (Or.inl ⟨by rfl,?_⟩) ?_ ?_;rotate_left
                  ·intro w';go_simp;with_reducible rfl
                  rotate_left
                  ·simp only [Act.put,List.setIfInBounds_toArray,List.set_cons_zero,List.set_cons_succ,i64_w,i32_w];rfl
                  refine pure_ (i:=5) (N:=some 84) (v:=?_) (a':=?_) (pm 6 13) rfl rfl (any_of HT_.out (by kernel_rfl)) (fun _ _ _ h => h) (Or.inl ⟨by rfl,?_⟩) ?_ ?_;rotate_left
                  ·intro w';go_simp;with_reducible rfl
                  rotate_left
                  ·simp only [Act.put,List.setIfInBounds_toArray,List.set_cons_zero,List.set_cons_succ,i64_w,i32_w];rfl
                  refine pure_ (i:=6) (N:=some 85) (v:=?_) (a':=?_) (pm 7 13) rfl rfl (any_of HT_.out (by kernel_rfl)) (fun _ _ _ h => h) (Or.inl ⟨by rfl,?_⟩) ?_ ?_;rotate_left
                  ·intro w';go_simp;with_reducible rfl
                  rotate_left
                  ·simp only [Act.put,List.setIfInBounds_toArray,List.set_cons_zero,List.set_cons_succ,i64_w,i32_w];rfl
                  refine pure_ (i:=7) (N:=some 86) (v:=?_) (a':=?_) (pm 8 13) rfl rfl (any_of HT_.out (by kernel_rfl)) (fun _ _ _ h => h) (Or.inl ⟨by rfl,?_⟩) ?_ ?_;rotate_left
                  ·intro w';go_simp;with_reducible rfl
                  rotate_left
                  ·simp only [Act.put,List.setIfInBounds_toArray,List.set_cons_zero,List.set_cons_succ,i64_w,i32_w];rfl
                  refine take_ (i:=8) (N:=some 87) (v:=?_) (a':=?_) (pm 9 13) rfl rfl (take_ofW HT_.out HW_.out (by kernel_rfl)) (fun _ _ _ h => h) (Or.inl ⟨by rfl,?_⟩) hHeld ?_ ?_;rotate_left
                  ·rintro w' ⟨s0,s1⟩;go_simp;with_reducible rfl
                  rotate_left
                  ·simp only [Act.put,List.setIfInBounds_toArray,List.set_cons_zero,List.set_cons_succ,i64_w,i32_w];rfl
                  refine pure_ (i:=9) (N:=some 88) (v:=?_) (a':=?_) (pm 10 13) rfl rfl (any_of HT_.out (by kernel_rfl)) (fun _ _ _ h => h) (Or.inl ⟨by rfl,?_⟩) ?_ ?_;rotate_left
                  ·intro w';go_simp;with_reducible rfl
                  rotate_left
                  ·simp only [Act.put,List.setIfInBounds_toArray,List.set_cons_zero,List.set_cons_succ,i64_w,i32_w];rfl
                  refine one_ (i:=10) (N:=some 89) (pm 11 13) rfl rfl (one_of HT_.out (by kernel_rfl)) (by decide) (fun K hK => ?_);refine value_ (w1:=?_) (v:=?_) (by rfl) rfl ?_ ?_;rotate_left 2
                  ·go_simp
                   constructor
                   ·rfl
                   ·rfl
                  refine hK.out _ _ ⟨(blk_cell (blk_alloc BK379.out _) 0).trans rfl,(blk_cell (blk_alloc BK379.out _) 1).trans rfl⟩ (fun hHeld => ?_);clear hK K;refine norm_ (a':=?_) ?_ ?_;rotate_left
                  ·show Act.put _ (some 89) _ = _;simp only [Act.put,List.setIfInBounds_toArray,List.set_cons_zero,List.set_cons_succ,i64_w,i32_w];rfl
                  refine one_ (i:=11) (N:=some 90) (pm 12 13) rfl rfl (one_of HT_.out (by kernel_rfl)) (by decide) (fun K hK => ?_);refine Kd.R_append_step k74 (w0:=w) w.heap.size (by rfl) (.tmp 79) (.tmp 89) 67 74 (.agg #[(.int .u8 0),(.string ⟨#[]⟩),(.int .i64 0),(.int .i64 0)]) 40 rfl Tryz.underlying67 info74 rfl (by decide) (by omega) u4 x4_1 (⟨t381,a0.extract (t375 : Int).toNat ((wrap64 (t375 + t382)) : Int).toNat,(⟨((rd_T50 t369 x8_1).f0),((rd_T50 t369 x8_1).f1)⟩ : S50)⟩ : S74) [.int .u8 t381,.string (a0.extract (t375 : Int).toNat ((wrap64 (t375 + t382)) : Int).toNat),.int .i64 ((rd_T50 t369 x8_1).f0),.int .i64 ((rd_T50 t369 x8_1).f1)] (fun _ => True) (fun _ => False) rfl rfl ?aP (fun _ hk => hk.elim) ?aF ?aO ?aB ?aS ?aL ?_
                  (case aP => exact k74_mkM _ _ _ (⟨t381,a0.extract (t375 : Int).toNat ((wrap64 (t375 + t382)) : Int).toNat,(⟨((rd_T50 t369 x8_1).f0),((rd_T50 t369 x8_1).f1)⟩ : S50)⟩ : S74))
                  (case aB => exact (bl4 HB.out GE365.out GE372.out GE373.out GE379.out))
                  (case aF => exact (fun _ _ => trivial))
                  (case aO => exact (by (with_reducible repeat (first | apply Kd.R_alloc | apply Kd.R_drewN | apply Kd.R_drew));exact HO_4.out))
                  (case aS => exact (below_size (bl4 HB.out GE365.out GE372.out GE373.out GE379.out)))
                  (case aL => have:=LMc52.out;omega)
                  intro v385 w55 ho hb hg hat;rw [← Ny384.out] at ho;have n0_:=Aside0.mk (Kd.R_over' (by (with_reducible repeat (first | apply Kd.R_alloc | apply Kd.R_drewN | apply Kd.R_drew));exact HO_373000.out) (Kd.R_typed (by (with_reducible repeat (first | apply Kd.R_alloc | apply Kd.R_drewN | apply Kd.R_drew));exact HO_4.out)) (by decide) hg);have n1_:=Aside0.mk (Kd.R_over' (by (with_reducible repeat (first | apply Kd.R_alloc | apply Kd.R_drewN | apply Kd.R_drew));exact HO_373001.out) (Kd.R_typed (by (with_reducible repeat (first | apply Kd.R_alloc | apply Kd.R_drewN | apply Kd.R_drew));exact HO_4.out)) (by decide) hg);have n2_:=Aside0.mk (blk_grown (g:=gb365) (o:=.cells #[.int .i64 x366000_17,.int .i64 x366001_17,.int .i64 x366002_17] 52 (0,0)) (bk BK365.out) hg (Kd.R_ne HO_4.out BK365.out (by decide)));have n3_:=Aside0.mk (blk_grown (g:=gb372) (o:=.cells #[.slice Ao9 t366.length co9,.slice (some ad378) t369.length co12] 106 (0,0)) (bk BK372.out) hg (Kd.R_ne HO_4.out BK372.out (by decide)));have n4_:=Aside0.mk (blk_grown (g:=gb373) (o:=.stringIter a0 (Int.toNat t377)) (bk BK373.out) hg (neR_it HO_4.out BK373.out));have n5_:=Aside0.mk (blk_grown (g:=gb379) (o:=.cells #[.int .i64 ((rd_T50 t369 x8_1).f0),.int .i64 ((rd_T50 t369 x8_1).f1)] 50 (0,0)) (bk BK379.out) hg (Kd.R_ne HO_4.out BK379.out (by decide)));have n6_:=Aside0.mk (hb);have n7_:=Aside0.mk (ho);clear HO_373000;clear HO_373001;clear BK365;clear BK372;clear BK373;clear BK379;clear HB;clear HO_4;have HO_373000:=n0_;have HO_373001:=n1_;have BK365:=n2_;have BK372:=n3_;have BK373:=n4_;have BK379:=n5_;have HB:=n6_;have HO386:=n7_;clear n0_ n1_ n2_ n3_ n4_ n5_ n6_ n7_;clear ho hb hg hat;refine hK.out _ _ ⟨(blk_cell BK379.out 0).trans rfl,(blk_cell BK379.out 1).trans rfl⟩ (fun hHeld => ?_);clear hK K;refine norm_ (a':=?_) ?_ ?_;rotate_left
                  ·show Act.put _ (some 90) _ = _;simp only [Act.put,List.setIfInBounds_toArray,List.set_cons_zero,List.set_cons_succ,i64_w,i32_w];rfl
                  refine pure_ (i:=12) (N:=some 4) (v:=?_) (a':=?_) (pm 13 13) rfl rfl (any_of HT_.out (by kernel_rfl)) (fun _ _ _ h => h) (Or.inl ⟨by rfl,?_⟩) ?_ ?_;rotate_left
                  ·intro w';go_simp;with_reducible rfl
                  rotate_left
                  ·simp only [Act.put,List.setIfInBounds_toArray,List.set_cons_zero,List.set_cons_succ,i64_w,i32_w];rfl
                  refine done_ (done_of HT_.out (by kernel_rfl)) ?_
                  try go_wp2
                  go_roundg kj39
                  case measure => have:=HK1.out;have:=HJ17.out;have:=HJ39.out;omega
                  case rel => exact ⟨(y384),(x6_17),(wrap64 (t375 + t382)),((wrap64 (x8_1 + 1))),(x366000_17),(x366001_17),(x366002_17),(t377),(by first | rfl | (simp;done) | (simp [*];done)),(by first | rfl | (simp;done) | (simp [*];done)),(by first | rfl | (simp;done) | (simp [*];done)),H',⟨by have:=HK1.out;have:=HJ17.out;have:=HJ39.out;omega⟩,⟨by (with_reducible repeat (first | apply Kd.R_alloc | apply Kd.R_drewN | apply Kd.R_drew));exact HO386.out⟩,⟨by (with_reducible repeat (first | apply Kd.R_alloc | apply Kd.R_drewN | apply Kd.R_drew));exact HO_373000.out⟩,⟨by (with_reducible repeat (first | apply Kd.R_alloc | apply Kd.R_drewN | apply Kd.R_drew));exact Kd.R_mono HO_373001.out (fun _ hk => trivial)⟩,⟨bk BK365.out⟩,⟨bk BK372.out⟩,⟨bk BK373.out⟩,⟨bl4 HB.out GE365.out GE372.out GE373.out GE379.out⟩⟩
                 ·rw [if_neg c52] at H;exact absurd H (by simp)
                ·rw [if_neg c51] at H;exact absurd H (by simp)
               ·rw [if_neg c50] at H;exact absurd H (by simp)
              ·rw [if_neg c48] at H;have c48b0 : (t383 == 0) = false:=beq_eq_false_iff_ne.mpr c48;have c48b1 : (t383 != 0) = true:=bne_iff_ne.mpr c48;simp only [Option.some.injEq,Prod.mk.injEq] at H;obtain ⟨rfl,rfl,rfl,rfl⟩:=H
               try go_wp2_with (first | ((with_reducible refine gate_callee (f:=60) rfl ?_);refine goesL_ (some 70) rfl rfl Tryz.func60 (by kernel_rfl) rfl #[.string (a0.extract (t375 : Int).toNat a0.size),.int .i32 t376] rfl (by (try simp only [List.map_toArray,List.map_cons,List.map_nil]);first | done | rfl | (simp only [List.length_drop,List.length_take];rfl)) ?_;(with_reducible refine (scan_token.calls kj39 (a0.extract (t375 : Int).toNat a0.size) t376 t381 t382 t383 _ ?side1 A47.out).mono ?_);(case side1 => exact Tabs.below HG.out (bl4 HB.out GE365.out GE372.out GE373.out GE379.out));rintro e w56 ⟨rfl,hb⟩;refine ⟨_,rfl,?_⟩;replace HO_4:=Aside0.mk (Kd.R_below (by (with_reducible repeat (first | apply Kd.R_alloc | apply Kd.R_drewN | apply Kd.R_drew));exact HO_4.out) hb);replace HO_373000:=Aside0.mk (Kd.R_below (by (with_reducible repeat (first | apply Kd.R_alloc | apply Kd.R_drewN | apply Kd.R_drew));exact HO_373000.out) hb);replace HO_373001:=Aside0.mk (Kd.R_below (by (with_reducible repeat (first | apply Kd.R_alloc | apply Kd.R_drewN | apply Kd.R_drew));exact HO_373001.out) hb);replace BK365:=Aside0.mk (blk_below (g:=gb365) (o:=.cells #[.int .i64 x366000_17,.int .i64 x366001_17,.int .i64 x366002_17] 52 (0,0)) (bk BK365.out) hb);replace BK372:=Aside0.mk (blk_below (g:=gb372) (o:=.cells #[.slice Ao9 t366.length co9,.slice (some ad378) t369.length co12] 106 (0,0)) (bk BK372.out) hb);replace BK373:=Aside0.mk (blk_below (g:=gb373) (o:=.stringIter a0 (Int.toNat t377)) (bk BK373.out) hb);replace BK379:=Aside0.mk (blk_below (g:=gb379) (o:=.cells #[.int .i64 ((rd_T50 t369 x8_1).f0),.int .i64 ((rd_T50 t369 x8_1).f1)] 50 (0,0)) (bk BK379.out) hb);replace HB:=Aside0.mk (below_step (bl4 HB.out GE365.out GE372.out GE373.out GE379.out) hb);(try clear hb);(try clear hk)))
               replace HO_4:=Aside0.mk (Kd.R_drew HO_4.out);replace HO_373000:=Aside0.mk (Kd.R_drew HO_373000.out);replace HO_373001:=Aside0.mk (Kd.R_drew HO_373001.out);replace BK365:=Aside0.mk (blk_drew BK365.out);replace BK372:=Aside0.mk (blk_drew BK372.out);replace BK373:=Aside0.mk (blk_drew BK373.out);replace BK379:=Aside0.mk (blk_drew BK379.out);replace HB:=Aside0.mk (below_drew1 HB.out);refine start_ (n:=5) (S:=fun w' => w'.cell? ⟨gb379,0,none⟩ = some (.int .i64 ((rd_T50 t369 x8_1).f0)) ∧ w'.cell? ⟨gb379,1,none⟩ = some (.int .i64 ((rd_T50 t369 x8_1).f1))) (ds:=[]) (pm 0 5) (by kernel_rfl) rfl rfl ⟨(blk_cell BK379.out 0).trans rfl,(blk_cell BK379.out 1).trans rfl⟩ (fun hHeld => ?_);generalize w56.drew = w57 at HO_4 HO_373000 HO_373001 BK365 BK372 BK373 BK379 HB hHeld ⊢;refine pure_ (i:=0) (N:=some 76) (v:=?_) (a':=?_) (pm 1 5) rfl rfl (by kernel_rfl) (fun _ _ _ h => h) (Or.inl ⟨by rfl,?_⟩) ?_ ?_;rotate_left
               ·intro w';go_simp;with_reducible rfl
               rotate_left
               ·simp only [Act.put,List.setIfInBounds_toArray,List.set_cons_zero,List.set_cons_succ,i64_w,i32_w];rfl
               refine pure_ (i:=3) (N:=some 2) (v:=?_) (a':=?_) #[true,false,false,true,false] rfl rfl (by kernel_rfl) (fun _ _ _ h => h) (Or.inl ⟨by rfl,?_⟩) ?_ ?_;rotate_left
               ·intro w';go_simp;with_reducible rfl
               rotate_left
               ·simp only [Act.put,List.setIfInBounds_toArray,List.set_cons_zero,List.set_cons_succ,i64_w,i32_w];rfl
               refine take_ (i:=1) (N:=some 77) (v:=?_) (a':=?_) #[true,true,false,true,false] rfl rfl (by kernel_rfl) (fun _ _ _ h => h) (Or.inl ⟨by rfl,?_⟩) hHeld ?_ ?_;rotate_left
               ·rintro w' ⟨s0,s1⟩;go_simp;with_reducible rfl
               rotate_left
               ·simp only [Act.put,List.setIfInBounds_toArray,List.set_cons_zero,List.set_cons_succ,i64_w,i32_w];rfl
               refine pure_ (i:=2) (N:=some 78) (v:=?_) (a':=?_) (pm 4 5) rfl rfl (by kernel_rfl) (fun _ _ _ h => h) (Or.inl ⟨by rfl,?_⟩) ?_ ?_;rotate_left
               ·intro w';go_simp;with_reducible rfl
               rotate_left
               ·simp only [Act.put,List.setIfInBounds_toArray,List.set_cons_zero,List.set_cons_succ,i64_w,i32_w];rfl
               refine one_ (i:=4) (N:=none) (pm 5 5) rfl rfl (by kernel_rfl) (by decide) (fun K hK => ?_);have hs58 : w57.cell? ⟨gb365,0,none⟩ = some (.int .i64 x366000_17):=(blk_cell BK365.out 0).trans rfl;have hfs58:=blk_frozen BK365.out 0;have hns58_1:=NB372_365.out;have hns58_2:=NB373_365.out;have hns58_3:=NB379_365.out;have hms58_1:=NB365_372.out;have hms58_2:=NB365_373.out;have hms58_3:=NB365_379.out;have hs59 : w57.cell? ⟨gb365,1,none⟩ = some (.int .i64 x366001_17):=(blk_cell BK365.out 1).trans rfl;have hfs59:=blk_frozen BK365.out 1;have hns59_1:=NB372_365.out;have hns59_2:=NB373_365.out;have hns59_3:=NB379_365.out;have hms59_1:=NB365_372.out;have hms59_2:=NB365_373.out;have hms59_3:=NB365_379.out;have hs60 : w57.cell? ⟨gb365,2,none⟩ = some (.int .i64 x366002_17):=(blk_cell BK365.out 2).trans rfl;have hfs60:=blk_frozen BK365.out 2;have hns60_1:=NB372_365.out;have hns60_2:=NB373_365.out;have hns60_3:=NB379_365.out;have hms60_1:=NB365_372.out;have hms60_2:=NB365_373.out;have hms60_3:=NB365_379.out;refine skip_ (w1:=?_) (by rfl) rfl ?_ ?_;rotate_left
               ·go_simp;rfl
               refine hK.out _ _ ⟨((cell_far (p:=⟨gb365,_,none⟩) NB379_365.out _).trans (((cell_far (p:=⟨gb365,_,none⟩) NB379_365.out _).trans (((cell_far (p:=⟨gb365,_,none⟩) NB379_365.out _).trans (hHeld.1)))))),((cell_far (p:=⟨gb365,_,none⟩) NB379_365.out _).trans (((cell_far (p:=⟨gb365,_,none⟩) NB379_365.out _).trans (((cell_far (p:=⟨gb365,_,none⟩) NB379_365.out _).trans (hHeld.2))))))⟩ (fun hHeld => ?_);clear hK K;refine done_ (by kernel_rfl) ?_
               try go_wp2
               refine bodyPost_ret (results_tc rfl _ _ gb365 52 #[.int .i64 t383,.int .i64 ((rd_T50 t369 x8_1).f0),.int .i64 ((rd_T50 t369 x8_1).f1)] (0,0) _ rfl (by (with_reducible repeat (first | refine blk_drewN ?_ _ | refine blk_drew ?_ | refine blk_alloc ?_ _));refine blk_put (cs:=#[.int .i64 t383,.int .i64 ((rd_T50 t369 x8_1).f0),.int .i64 x366002_17]) ?_ 2 _ rfl;(with_reducible repeat (first | refine blk_drewN ?_ _ | refine blk_drew ?_ | refine blk_alloc ?_ _));refine blk_put (cs:=#[.int .i64 t383,.int .i64 x366001_17,.int .i64 x366002_17]) ?_ 1 _ rfl;(with_reducible repeat (first | refine blk_drewN ?_ _ | refine blk_drew ?_ | refine blk_alloc ?_ _));refine blk_put (cs:=#[.int .i64 x366000_17,.int .i64 x366001_17,.int .i64 x366002_17]) ?_ 0 _ rfl;(with_reducible repeat (first | refine blk_drewN ?_ _ | refine blk_drew ?_ | refine blk_alloc ?_ _));exact BK365.out) Tryz.underlying52 rfl (by kernel_rfl)) rfl ?_;exact ⟨_,by first | rfl | (simp [errW_none,errW_some] <;> rfl) | (simp [*,errW_none,errW_some] <;> rfl),by first | exact Kd.R_nil _ _ _ _ _ | exact Kd.N_nil _ _ _ _ _ | exact Kd.V_nil _ _ _ _ _ | exact Kd.Q_nil _ _ _ _ _ | exact Kd.S_nil _ _ _ _ _,bl4 HB.out GE365.out GE372.out GE373.out GE379.out⟩
             ·rw [if_neg c46] at H;exact absurd H (by simp)
            ·rw [if_neg c45] at H;exact absurd H (by simp)
      ·rw [if_neg c17] at H;exact absurd H (by simp)
     ·rw [if_neg c16] at H;exact absurd H (by simp)
    ·replace c15:=Bool.eq_false_iff.mpr c15;subst c15;have H1 : (if 0 ≤ (wrap64 ((t369.length : Int) - 1)) then (if (wrap64 ((t369.length : Int) - 1)) < (t369.length : Int) then (if x4_1.length < 3518437208883 then (some ((x4_1 ++ [(⟨0,(⟨#[]⟩ : ByteArray),(⟨(rd_T50 t369 (wrap64 ((t369.length : Int) - 1))).f0,(rd_T50 t369 (wrap64 ((t369.length : Int) - 1))).f1⟩ : S50)⟩ : S74)]),0,0,0)) else (none)) else (none)) else (none)) = some (r1,r2,r3,r4):=by rw [if_neg (show ¬ (false = true) by decide)] at H;exact H
     clear H;have H:=H1;clear H1;obtain ⟨ji61,hji61⟩ : ∃ j_ : Int,(wrap64 ((t369.length : Int) - 1)) = j_:=⟨_,rfl⟩;replace H : (if 0 ≤ (ji61) then (if (ji61) < (t369.length : Int) then (if x4_1.length < 3518437208883 then (some ((x4_1 ++ [(⟨0,(⟨#[]⟩ : ByteArray),(⟨(rd_T50 t369 (ji61)).f0,(rd_T50 t369 (ji61)).f1⟩ : S50)⟩ : S74)]),0,0,0)) else (none)) else (none)) else (none)) = some (r1,r2,r3,r4):=by first | (rw [hji61] at H;exact H) | (simp only [hji61] at H ⊢;exact H)
     (try rw [hji61] at A14)
     have hji61w : (IntKind.i64.wrap ((t369.length : Int) - 1)) = ji61:=(i64_w _).trans hji61
     by_cases c62 : 0 ≤ (ji61)
     ·rw [if_pos c62] at H;have c62b0 : decide (0 ≤ (ji61)) = true:=decide_eq_true c62;clear c62
      by_cases c63 : (ji61) < (t369.length : Int)
      ·rw [if_pos c63] at H;have c63b0 : decide ((ji61) < (t369.length : Int)) = true:=decide_eq_true c63;clear c63
       by_cases c64 : x4_1.length < 3518437208883
       ·rw [if_pos c64] at H;have LMc64:=Aside0.mk c64;clear c64;obtain ⟨y388,hy388⟩ : ∃ y_ : List (S74),y_ = (x4_1 ++ [(⟨0,(⟨#[]⟩ : ByteArray),(⟨(rd_T50 t369 (ji61)).f0,(rd_T50 t369 (ji61)).f1⟩ : S50)⟩ : S74)]):=⟨_,rfl⟩;replace H : (some (y388,0,0,0)) = some (r1,r2,r3,r4):=by first | (rw [hy388];with_reducible exact H) | (have H2_:=(Option.bind_some _ _).symm.trans H;rw [hy388];with_reducible exact H2_) | (have H2_:=(Option.bind_some _ _).symm.trans H;with_reducible exact H2_) | with_reducible exact H | (rw [hy388];exact H) | exact H
        have Ny388:=Aside0.mk hy388;clear hy388;simp only [Option.some.injEq,Prod.mk.injEq] at H;obtain ⟨rfl,rfl,rfl,rfl⟩:=H
        go_wp2_with (first | ((with_reducible refine gate_dst (N:=24) rfl ?_);have hnx_:=fun ty => (run_next_f (P:=Tryz.prog) (k:=gb373) (s:=a0) (p:=x374000_1) (a0:=t375) (c:=t376) (q:=t377) ty (bk BK373.out) A14.out).1;refine next_event_f ?hg (N:=24) ?hd (k:=gb373) (s:=a0) (p:=x374000_1) (a0:=t375) (c:=t376) (q:=t377) (bk BK373.out) A14.out ?hr ?_;(case hd => rfl);(case hg => rfl);(case hr => first | (go_simp;done) | (go_simp;rfl));clear hnx_;intro w65 hg hbox;replace HO_4:=Aside0.mk (itR (by (with_reducible repeat (first | apply Kd.R_alloc | apply Kd.R_drewN | apply Kd.R_drew));exact HO_4.out) (bk BK373.out) hg);replace HO_373000:=Aside0.mk (itR (by (with_reducible repeat (first | apply Kd.R_alloc | apply Kd.R_drewN | apply Kd.R_drew));exact HO_373000.out) (bk BK373.out) hg);replace HO_373001:=Aside0.mk (itR (by (with_reducible repeat (first | apply Kd.R_alloc | apply Kd.R_drewN | apply Kd.R_drew));exact HO_373001.out) (bk BK373.out) hg);replace BK365:=Aside0.mk (blk_grown (g:=gb365) (o:=.cells #[.int .i64 x366000_1,.int .i64 x366001_1,.int .i64 x366002_1] 52 (0,0)) (bk BK365.out) hg (by have h_:=NB365_373.out;intro e_;injection e_ with e_;exact h_ e_));replace BK372:=Aside0.mk (blk_grown (g:=gb372) (o:=.cells #[.slice Ao9 t366.length co9,.slice Ao12 t369.length co12] 106 (0,0)) (bk BK372.out) hg (by have h_:=NB372_373.out;intro e_;injection e_ with e_;exact h_ e_));replace BK373:=Aside0.mk (hbox);replace HB:=Aside0.mk (pw_below_grown (bl3 HB.out GE365.out GE372.out GE373.out) (some gb373) (below_size (bl3 HB.out GE365.out GE372.out GE373.out)) hg (fun _ e_ => by cases e_;exact GW373.out));clear hg hbox;have hnb66:=NB372_365.out;have hnc66:=NB365_372.out;have hnb67:=NB372_373.out;have hnc67:=NB373_372.out;have hcz68_0 : w65.cell? ⟨gb372,0,none⟩ = some (.slice Ao9 t366.length co9):=(blk_cell BK372.out 0).trans rfl;have hcz68_1 : w65.cell? ⟨gb372,1,none⟩ = some (.slice Ao12 t369.length co12):=(blk_cell BK372.out 1).trans rfl;have hfz68_0:=blk_frozen BK372.out 0;have hfz68_1:=blk_frozen BK372.out 1;have p387 : 0 ≤ ((ji61) : Int):=of_decide_eq_true (by first | (with_reducible assumption) | assumption);have q387 : (ji61) < (t369.length : Int):=of_decide_eq_true (by first | (with_reducible assumption) | assumption);obtain ⟨ad387,e387,hx387_0,hx387_1⟩:=at_T50 (Kd.R_reads' HO_373001.out).2.2 (ji61) p387 q387;cases e387;replace p387:=eq_true p387;replace q387:=eq_true q387) | ((with_reducible refine gate_builtin (b:=.append) (xs:=#[.tmp 94,.tmp 104]) rfl ?_);at_builtin;refine Kd.R_append k74 (w0:=w) w.heap.size rfl (.tmp 94) (.tmp 104) 67 74 (.agg #[(.int .u8 0),(.string ⟨#[]⟩),(.int .i64 0),(.int .i64 0)]) 40 rfl Tryz.underlying67 info74 rfl (by decide) (by omega) u4 x4_1 (⟨0,(⟨#[]⟩ : ByteArray),(⟨(rd_T50 t369 (ji61)).f0,(rd_T50 t369 (ji61)).f1⟩ : S50)⟩ : S74) [.int .u8 0,.string (⟨#[]⟩ : ByteArray),.int .i64 ((rd_T50 t369 (ji61)).f0),.int .i64 ((rd_T50 t369 (ji61)).f1)] (fun _ => True) (fun _ => False) rfl rfl ?aP (fun _ hk => hk.elim) ?aF ?aO ?aB ?aS ?aL ?_;(case aP => exact k74_mkM _ _ _ (⟨0,(⟨#[]⟩ : ByteArray),(⟨(rd_T50 t369 (ji61)).f0,(rd_T50 t369 (ji61)).f1⟩ : S50)⟩ : S74));(case aB => exact (bl3 HB.out GE365.out GE372.out GE373.out));(case aF => exact (fun _ _ => trivial));(case aO => exact (by (with_reducible repeat (first | apply Kd.R_alloc | apply Kd.R_drewN | apply Kd.R_drew));exact HO_4.out));(case aS => exact (below_size (bl3 HB.out GE365.out GE372.out GE373.out)));(case aL => have:=LMc64.out;omega);intro v389 w69 ho hb hg hat;rw [← Ny388.out] at ho;have n0_:=Aside0.mk (Kd.R_over' (by (with_reducible repeat (first | apply Kd.R_alloc | apply Kd.R_drewN | apply Kd.R_drew));exact HO_373000.out) (Kd.R_typed (by (with_reducible repeat (first | apply Kd.R_alloc | apply Kd.R_drewN | apply Kd.R_drew));exact HO_4.out)) (by decide) hg);have n1_:=Aside0.mk (Kd.R_over' (by (with_reducible repeat (first | apply Kd.R_alloc | apply Kd.R_drewN | apply Kd.R_drew));exact HO_373001.out) (Kd.R_typed (by (with_reducible repeat (first | apply Kd.R_alloc | apply Kd.R_drewN | apply Kd.R_drew));exact HO_4.out)) (by decide) hg);have n2_:=Aside0.mk (blk_grown (g:=gb365) (o:=.cells #[.int .i64 x366000_1,.int .i64 x366001_1,.int .i64 x366002_1] 52 (0,0)) (bk BK365.out) hg (Kd.R_ne HO_4.out BK365.out (by decide)));have n3_:=Aside0.mk (blk_grown (g:=gb372) (o:=.cells #[.slice Ao9 t366.length co9,.slice (some ad387) t369.length co12] 106 (0,0)) (bk BK372.out) hg (Kd.R_ne HO_4.out BK372.out (by decide)));have n4_:=Aside0.mk (blk_grown (g:=gb373) (o:=.stringIter a0 (Int.toNat t377)) (bk BK373.out) hg (neR_it HO_4.out BK373.out));have n5_:=Aside0.mk (hb);have n6_:=Aside0.mk (ho);clear HO_373000;clear HO_373001;clear BK365;clear BK372;clear BK373;clear HB;clear HO_4;have HO_373000:=n0_;have HO_373001:=n1_;have BK365:=n2_;have BK372:=n3_;have BK373:=n4_;have HB:=n5_;have HO390:=n6_;clear n0_ n1_ n2_ n3_ n4_ n5_ n6_;clear ho hb hg hat;have hnb70:=NB365_373.out;have hnc70:=NB373_365.out;have hcz71_0 : w69.cell? ⟨gb365,0,none⟩ = some (.int .i64 x366000_1):=(blk_cell BK365.out 0).trans rfl;have hcz71_1 : w69.cell? ⟨gb365,1,none⟩ = some (.int .i64 x366001_1):=(blk_cell BK365.out 1).trans rfl;have hcz71_2 : w69.cell? ⟨gb365,2,none⟩ = some (.int .i64 x366002_1):=(blk_cell BK365.out 2).trans rfl;have hfz71_0:=blk_frozen BK365.out 0;have hfz71_1:=blk_frozen BK365.out 1;have hfz71_2:=blk_frozen BK365.out 2))
        refine bodyPost_ret (results_tc rfl _ _ gb365 52 #[.int .i64 0,.int .i64 0,.int .i64 0] (0,0) _ rfl (by (with_reducible repeat (first | refine blk_drewN ?_ _ | refine blk_drew ?_ | refine blk_alloc ?_ _));refine blk_put (cs:=#[.int .i64 0,.int .i64 0,.int .i64 x366002_1]) ?_ 2 _ rfl;(with_reducible repeat (first | refine blk_drewN ?_ _ | refine blk_drew ?_ | refine blk_alloc ?_ _));refine blk_put (cs:=#[.int .i64 0,.int .i64 x366001_1,.int .i64 x366002_1]) ?_ 1 _ rfl;(with_reducible repeat (first | refine blk_drewN ?_ _ | refine blk_drew ?_ | refine blk_alloc ?_ _));refine blk_put (cs:=#[.int .i64 x366000_1,.int .i64 x366001_1,.int .i64 x366002_1]) ?_ 0 _ rfl;(with_reducible repeat (first | refine blk_drewN ?_ _ | refine blk_drew ?_ | refine blk_alloc ?_ _));exact BK365.out) Tryz.underlying52 rfl (by kernel_rfl)) rfl ?_;exact ⟨_,by first | rfl | (simp [errW_none,errW_some] <;> rfl) | (simp only [← hji61];first | rfl | (simp [errW_none,errW_some] <;> rfl)) | (simp [*,errW_none,errW_some] <;> rfl),by (with_reducible repeat (first | apply Kd.R_alloc | apply Kd.R_drewN | apply Kd.R_drew));exact Kd.R_mono (Kd.R_far (p:=⟨gb365,2,none⟩) (Kd.R_far (p:=⟨gb365,1,none⟩) (Kd.R_far (p:=⟨gb365,0,none⟩) (Kd.R_types HO390.out BK365.out (by decide)) (fun _ hk => hk.2) (.int .i64 0)) (fun _ hk => hk.2) (.int .i64 0)) (fun _ hk => hk.2) (.int .i64 0)) (fun _ hk => trivial),bl3 HB.out GE365.out GE372.out GE373.out⟩
       ·rw [if_neg c64] at H;exact absurd H (by simp)
      ·rw [if_neg c63] at H;exact absurd H (by simp)
     ·rw [if_neg c62] at H;exact absurd H (by simp)

end Go.Proofs.YtgcmgfljbadljaaGreatDoor.L
