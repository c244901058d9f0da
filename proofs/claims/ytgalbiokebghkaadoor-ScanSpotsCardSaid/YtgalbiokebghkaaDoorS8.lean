/- Written by a program of this claim's author (stubprint.py, over the kit's print) out of the translation: Go functions as Lean functions, and that the calls come to them. -/
import Derived.Test.YtgalbiokebghkaaDoorS0
import Derived.Test.YtgalbiokebghkaaDoorS3
import Derived.Test.YtgalbiokebghkaaDoorS4
import Derived.Test.YtgalbiokebghkaaDoorS7
import Derived.Test.YtgalbiokebghkaaDoorHandS
namespace Go.Proofs.YtgalbiokebghkaaDoor.S
open Go.RowKit Go.Proofs.YtgalbiokebghkaaDoorW.PrintWords Go.Proofs.YtgalbiokebghkaaDoorW.PrintLast Go.Proofs.YtgalbiokebghkaaDoorW.PrintMore Go.Proofs.YtgalbiokebghkaaDoor.HandS Go.Proofs.YtgalbiokebghkaaDoor.Iter
attribute [local go_sem] max2_int min2_int max_two min_two max_three min_three max_four min_four   -- for this text's walks alone
set_option linter.unusedVariables false
set_option linter.unusedSimpArgs false

/-! ### scan_Tokens: function 15 -/
mutual
def scan_Tokens.l0 : Nat → ByteArray → List (S48) → Bool → Int → Int → List Int → List (S37) → Int → ByteArray → Option ((List (S48)) × Int × Int × Int)
 | 0,_,_,_,_,_,_,_,_,_ => none
 | k + 1,x0,x4,x6,x7,x8,x168000,x168001,x169000,x169001 => (rune_next.f x169001 x169000).bind fun bt169 => (if bt169.1 = true then (if 0 ≤ x8 then (if x8 < (x168001.length : Int) then (if bt169.2.1 < x7 then (scan_Tokens.l0 k x0 x4 x6 x7 (wrap64 (x8 + 1)) x168000 x168001 bt169.2.2.2 x169001) else (if bt169.2.2.1 = 10 then (scan_Tokens.l0 k x0 x4 false x7 (wrap64 (x8 + 1)) x168000 x168001 bt169.2.2.2 x169001) else ((scan_broken.f x0 bt169.2.1 bt169.2.2.1).bind fun t175 => (if t175 = true then (some (([] : List (S48)),4,(rd_T37 x168001 x8).f0,(rd_T37 x168001 x8).f1)) else (if bt169.2.2.1 = 35 then (scan_Tokens.j1 k x0 x4 true x7 (wrap64 (x8 + 1)) bt169.2.1 bt169.2.2.1 x168000 x168001 bt169.2.2.2 x169001 ((rd_T37 x168001 x8).f0) ((rd_T37 x168001 x8).f1)) else (scan_Tokens.j1 k x0 x4 x6 x7 (wrap64 (x8 + 1)) bt169.2.1 bt169.2.2.1 x168000 x168001 bt169.2.2.2 x169001 ((rd_T37 x168001 x8).f0) ((rd_T37 x168001 x8).f1))))))) else (none)) else (none)) else (if 0 ≤ (wrap64 ((x168001.length : Int) - 1)) then (if (wrap64 ((x168001.length : Int) - 1)) < (x168001.length : Int) then (if x4.length < 3518437208883 then (some ((x4 ++ [(⟨0,(⟨#[]⟩ : ByteArray),(⟨(rd_T37 x168001 (wrap64 ((x168001.length : Int) - 1))).f0,(rd_T37 x168001 (wrap64 ((x168001.length : Int) - 1))).f1⟩ : S37)⟩ : S48)]),0,0,0)) else (none)) else (none)) else (none)))
def scan_Tokens.j1 : Nat → ByteArray → List (S48) → Bool → Int → Int → Int → Int → List Int → List (S37) → Int → ByteArray → Int → Int → Option ((List (S48)) × Int × Int × Int)
 | 0,_,_,_,_,_,_,_,_,_,_,_,_,_ => none
 | k + 1,x0,x4,x6,x7,x8,x9,x10,x168000,x168001,x169000,x169001,x175000,x175001 => if x6 = true then (scan_Tokens.j2 k x0 x4 x6 x7 x8 x9 x10 true x168000 x168001 x169000 x169001 x175000 x175001) else (if x10 = 32 then (scan_Tokens.j2 k x0 x4 x6 x7 x8 x9 x10 true x168000 x168001 x169000 x169001 x175000 x175001) else (if x10 = 9 then (scan_Tokens.j2 k x0 x4 x6 x7 x8 x9 x10 true x168000 x168001 x169000 x169001 x175000 x175001) else (scan_Tokens.j2 k x0 x4 x6 x7 x8 x9 x10 (x10 == 13) x168000 x168001 x169000 x169001 x175000 x175001)))
def scan_Tokens.j2 : Nat → ByteArray → List (S48) → Bool → Int → Int → Int → Int → Bool → List Int → List (S37) → Int → ByteArray → Int → Int → Option ((List (S48)) × Int × Int × Int)
 | 0,_,_,_,_,_,_,_,_,_,_,_,_,_,_ => none
 | k + 1,x0,x4,x6,x7,x8,x9,x10,x64,x168000,x168001,x169000,x169001,x175000,x175001 => if x64 = true then (scan_Tokens.l0 k x0 x4 x6 x7 x8 x168000 x168001 x169000 x169001) else (if 0 ≤ x9 then (if x9 ≤ (x0.size : Int) then ((scan_token.f k (x0.extract (x9 : Int).toNat x0.size) x10).bind fun bt176 => (if bt176.2.2 = 0 then (if x9 ≤ (wrap64 (x9 + bt176.2.1)) then (if (wrap64 (x9 + bt176.2.1)) ≤ (x0.size : Int) then (if x4.length < 3518437208883 then (scan_Tokens.l0 k x0 (x4 ++ [(⟨bt176.1,x0.extract (x9 : Int).toNat ((wrap64 (x9 + bt176.2.1)) : Int).toNat,(⟨x175000,x175001⟩ : S37)⟩ : S48)]) x6 (wrap64 (x9 + bt176.2.1)) x8 x168000 x168001 x169000 x169001) else (none)) else (none)) else (none)) else (some (([] : List (S48)),bt176.2.2,x175000,x175001)))) else (none)) else (none))
end
def scan_Tokens.f (k : Nat) (a0 : ByteArray) : Option ((List (S48)) × Int × Int × Int):=if (a0.size : Int) > 65536 then (some (([] : List (S48)),3,1,1)) else ((scan_mapped.f k a0).bind fun bt161 => (scan_Tokens.l0 k a0 ([] : List (S48)) false 0 0 bt161.1 bt161.2 0 a0))
theorem scan_Tokens.mono_l : ∀ k,(∀ y0 y1 y2 y3 y4 y5 y6 y7 y8,LeO (scan_Tokens.l0 k y0 y1 y2 y3 y4 y5 y6 y7 y8) (scan_Tokens.l0 (k + 1) y0 y1 y2 y3 y4 y5 y6 y7 y8)) ∧ (∀ y0 y1 y2 y3 y4 y5 y6 y7 y8 y9 y10 y11 y12,LeO (scan_Tokens.j1 k y0 y1 y2 y3 y4 y5 y6 y7 y8 y9 y10 y11 y12) (scan_Tokens.j1 (k + 1) y0 y1 y2 y3 y4 y5 y6 y7 y8 y9 y10 y11 y12)) ∧ (∀ y0 y1 y2 y3 y4 y5 y6 y7 y8 y9 y10 y11 y12 y13,LeO (scan_Tokens.j2 k y0 y1 y2 y3 y4 y5 y6 y7 y8 y9 y10 y11 y12 y13) (scan_Tokens.j2 (k + 1) y0 y1 y2 y3 y4 y5 y6 y7 y8 y9 y10 y11 y12 y13))
 | 0 => ⟨fun _ _ _ _ _ _ _ _ _ r h => by simp [scan_Tokens.l0] at h,fun _ _ _ _ _ _ _ _ _ _ _ _ _ r h => by simp [scan_Tokens.j1] at h,fun _ _ _ _ _ _ _ _ _ _ _ _ _ _ r h => by simp [scan_Tokens.j2] at h⟩
 | k + 1 => by
  obtain ⟨ih0,ih1,ih2⟩:=scan_Tokens.mono_l k
  refine ⟨?_,?_,?_⟩
  ·intro y0 y1 y2 y3 y4 y5 y6 y7 y8
   unfold scan_Tokens.l0
   repeat' first
   | (with_reducible exact ih0 _ _ _ _ _ _ _ _ _)
   | (with_reducible exact ih1 _ _ _ _ _ _ _ _ _ _ _ _ _)
   | (with_reducible exact ih2 _ _ _ _ _ _ _ _ _ _ _ _ _ _)
   | (with_reducible exact scan_mapped.mono _ _)
   | (with_reducible exact scan_token.mono _ _ _)
   | (with_reducible exact LeO.refl _)
   | (with_reducible exact LeO.none _)
   | (with_reducible refine LeO.ite ?_ ?_)
   | (with_reducible refine LeO.bind ?_ (fun _ => ?_))
   | exact ih0 _ _ _ _ _ _ _ _ _
   | exact ih1 _ _ _ _ _ _ _ _ _ _ _ _ _
   | exact ih2 _ _ _ _ _ _ _ _ _ _ _ _ _ _
   | exact scan_mapped.mono _ _
   | exact scan_token.mono _ _ _
   | exact LeO.none _
   | refine LeO.ite ?_ ?_
   | refine LeO.bind ?_ (fun _ => ?_)
  ·intro y0 y1 y2 y3 y4 y5 y6 y7 y8 y9 y10 y11 y12
   unfold scan_Tokens.j1
   repeat' first
   | (with_reducible exact ih0 _ _ _ _ _ _ _ _ _)
   | (with_reducible exact ih1 _ _ _ _ _ _ _ _ _ _ _ _ _)
   | (with_reducible exact ih2 _ _ _ _ _ _ _ _ _ _ _ _ _ _)
   | (with_reducible exact scan_mapped.mono _ _)
   | (with_reducible exact scan_token.mono _ _ _)
   | (with_reducible exact LeO.refl _)
   | (with_reducible exact LeO.none _)
   | (with_reducible refine LeO.ite ?_ ?_)
   | (with_reducible refine LeO.bind ?_ (fun _ => ?_))
   | exact ih0 _ _ _ _ _ _ _ _ _
   | exact ih1 _ _ _ _ _ _ _ _ _ _ _ _ _
   | exact ih2 _ _ _ _ _ _ _ _ _ _ _ _ _ _
   | exact scan_mapped.mono _ _
   | exact scan_token.mono _ _ _
   | exact LeO.none _
   | refine LeO.ite ?_ ?_
   | refine LeO.bind ?_ (fun _ => ?_)
  ·intro y0 y1 y2 y3 y4 y5 y6 y7 y8 y9 y10 y11 y12 y13
   unfold scan_Tokens.j2
   repeat' first
   | (with_reducible exact ih0 _ _ _ _ _ _ _ _ _)
   | (with_reducible exact ih1 _ _ _ _ _ _ _ _ _ _ _ _ _)
   | (with_reducible exact ih2 _ _ _ _ _ _ _ _ _ _ _ _ _ _)
   | (with_reducible exact scan_mapped.mono _ _)
   | (with_reducible exact scan_token.mono _ _ _)
   | (with_reducible exact LeO.refl _)
   | (with_reducible exact LeO.none _)
   | (with_reducible refine LeO.ite ?_ ?_)
   | (with_reducible refine LeO.bind ?_ (fun _ => ?_))
   | exact ih0 _ _ _ _ _ _ _ _ _
   | exact ih1 _ _ _ _ _ _ _ _ _ _ _ _ _
   | exact ih2 _ _ _ _ _ _ _ _ _ _ _ _ _ _
   | exact scan_mapped.mono _ _
   | exact scan_token.mono _ _ _
   | exact LeO.none _
   | refine LeO.ite ?_ ?_
   | refine LeO.bind ?_ (fun _ => ?_)
theorem scan_Tokens.mono : ∀ a0 k,LeO (scan_Tokens.f k a0) (scan_Tokens.f (k + 1) a0):=by
 intro a0 k
 obtain ⟨ih0,ih1,ih2⟩:=scan_Tokens.mono_l k
 unfold scan_Tokens.f
 repeat' first
   | (with_reducible exact ih0 _ _ _ _ _ _ _ _ _)
   | (with_reducible exact ih1 _ _ _ _ _ _ _ _ _ _ _ _ _)
   | (with_reducible exact ih2 _ _ _ _ _ _ _ _ _ _ _ _ _ _)
   | (with_reducible exact scan_mapped.mono _ _)
   | (with_reducible exact scan_token.mono _ _ _)
   | (with_reducible exact LeO.refl _)
   | (with_reducible exact LeO.none _)
   | (with_reducible refine LeO.ite ?_ ?_)
   | (with_reducible refine LeO.bind ?_ (fun _ => ?_))
   | exact ih0 _ _ _ _ _ _ _ _ _
   | exact ih1 _ _ _ _ _ _ _ _ _ _ _ _ _
   | exact ih2 _ _ _ _ _ _ _ _ _ _ _ _ _ _
   | exact scan_mapped.mono _ _
   | exact scan_token.mono _ _ _
   | exact LeO.none _
   | refine LeO.ite ?_ ?_
   | refine LeO.bind ?_ (fun _ => ?_)
def scan_Tokens.T22 : Bool × List (List Nat × List Nat):=(true,[([],[]),([],[]),([],[]),([],[]),([],[]),([],[]),([4,5],[4,5]),([2,3,6],[2,3,6]),([],[]),([1,7,8],[1,7,8]),([9],[9]),([0,10],[0,10]),([11,11,0,1,2,3,4,5,6,7,8,9,10,11],[0,11])])
def scan_Tokens.B22 : List Nat:=[0,0,0,0,0,0,48,124,0,510,1022,2047,4095]
theorem scan_Tokens.tab22 : rtab .any (opsOf Tryd.f15 22) = scan_Tokens.T22:=by kernel_rfl
theorem scan_Tokens.bits22 : waitsOk scan_Tokens.T22.2 scan_Tokens.B22 = true:=by kernel_rfl
set_option maxHeartbeats 8000000 in
set_option maxRecDepth 100000 in
theorem scan_Tokens.calls (k : Nat) (a0 : ByteArray) (r1 : List (S48)) (r2 : Int) (r3 : Int) (r4 : Int) (w : World) (hG : Tabs w) (h : scan_Tokens.f k a0 = some (r1,r2,r3,r4)) :
  Calls Tryd.prog 15 #[.string a0] w fun e w' => ∃ v0_ : Value,e = .returned (.tuple #[v0_,.agg #[.int .i64 r2,.int .i64 r3,.int .i64 r4]]) ∧ Kd.R k48 48 w' w.heap.size (fun _ => True) v0_ r1 ∧ Below w.heap.size w w':=by
 have hu39:=Tryd.underlying39
 have hu37:=Tryd.underlying37
 have hu63:=Tryd.underlying63
 have hu48:=Tryd.underlying48
 have HG:=Aside0.mk hG
 clear hG
 have HB:=Aside0.mk (Below.refl w.heap.size w)
 have H : (if (a0.size : Int) > 65536 then (some (([] : List (S48)),3,1,1)) else ((scan_mapped.f k a0).bind fun bt161 => (scan_Tokens.l0 k a0 ([] : List (S48)) false 0 0 bt161.1 bt161.2 0 a0))) = some (r1,r2,r3,r4):=h
 clear h
 by_cases c2 : (a0.size : Int) > 65536
 ·rw [if_pos c2] at H
  have c2b0 : decide (65536 < (a0.size : Int)) = true:=decide_eq_true c2
  have c2b1 : decide (65536 < a0.size) = true:=decide_eq_true (by omega)
  clear c2
  simp only [Option.some.injEq,Prod.mk.injEq] at H
  obtain ⟨rfl,rfl,rfl,rfl⟩:=H
  go_enter Tryd.func15,Tryd.ntmps15
  go_wp2_with (first | ((with_reducible refine gate_dst (N:=3) rfl ?_);refine box_event ?hg (N:=3) ?hd (cs:=#[.int .i64 0,.int .i64 0,.int .i64 0]) (t:=39) ?hr ?_;(case hd => rfl);(case hg => rfl);(case hr => first | (go_simp;done) | (go_simp;rfl));intro gb160 hg w3 hbox hb;have n0_:=Aside0.mk (below_step (by repeat (first | (with_reducible first | exact HB.out | apply below_alloc | apply pw_below_drewN | apply below_drew1) | exact HB.out)) hb);have n1_:=Aside0.mk (hbox);have n2_:=Aside0.mk ((by rw [hg];exact (below_size (by repeat (first | (with_reducible first | exact HB.out | apply below_alloc | apply pw_below_drewN | apply below_drew1) | exact HB.out))) : w.heap.size ≤ gb160));have n3_:=Aside0.mk ((by rw [hg];exact (below_size (by repeat (first | (with_reducible first | exact HB.out | apply below_alloc | apply pw_below_drewN | apply below_drew1) | exact HB.out))) : w.heap.size ≤ gb160));clear HB;have HB:=n0_;have BK160:=n1_;have GW160:=n2_;have GE160:=n3_;clear n0_ n1_ n2_ n3_;clear hb hbox hg;have hcz4_0 : w3.cell? ⟨gb160,0,none⟩ = some (.int .i64 0):=(blk_cell BK160.out 0).trans rfl;have hcz4_1 : w3.cell? ⟨gb160,1,none⟩ = some (.int .i64 0):=(blk_cell BK160.out 1).trans rfl;have hcz4_2 : w3.cell? ⟨gb160,2,none⟩ = some (.int .i64 0):=(blk_cell BK160.out 2).trans rfl;have hfz4_0:=blk_frozen BK160.out 0;have hfz4_1:=blk_frozen BK160.out 1;have hfz4_2:=blk_frozen BK160.out 2))
  refine bodyPost_ret (results_tc rfl _ _ gb160 39 #[.int .i64 3,.int .i64 1,.int .i64 1] (0,0) _ rfl (by (with_reducible repeat (first | refine blk_drewN ?_ _ | refine blk_drew ?_ | refine blk_alloc ?_ _));refine blk_put (cs:=#[.int .i64 3,.int .i64 1,.int .i64 0]) ?_ 2 _ rfl;(with_reducible repeat (first | refine blk_drewN ?_ _ | refine blk_drew ?_ | refine blk_alloc ?_ _));refine blk_put (cs:=#[.int .i64 3,.int .i64 0,.int .i64 0]) ?_ 1 _ rfl;(with_reducible repeat (first | refine blk_drewN ?_ _ | refine blk_drew ?_ | refine blk_alloc ?_ _));refine blk_put (cs:=#[.int .i64 0,.int .i64 0,.int .i64 0]) ?_ 0 _ rfl;(with_reducible repeat (first | refine blk_drewN ?_ _ | refine blk_drew ?_ | refine blk_alloc ?_ _));exact BK160.out) Tryd.underlying39 rfl (by kernel_rfl)) rfl ?_
  exact ⟨_,by first | rfl | (simp [errW_none,errW_some] <;> rfl) | (simp [*,errW_none,errW_some] <;> rfl),by first | exact Kd.R_nil _ _ _ _ _ | exact Kd.N_nil _ _ _ _ _ | exact Kd.V_nil _ _ _ _ _ | exact Kd.Q_nil _ _ _ _ _ | exact Kd.S_nil _ _ _ _ _,by repeat (first | (with_reducible first | exact HB.out | apply below_alloc | apply pw_below_drewN | apply below_drew1 | refine below_set ?_ GE160.out) | exact HB.out)⟩
 ·rw [if_neg c2] at H
  have c2b0 : decide (65536 < (a0.size : Int)) = false:=decide_eq_false c2
  have c2b1 : decide (65536 < a0.size) = false:=decide_eq_false (by omega)
  clear c2
  replace H:=Option.bind_eq_some_iff.mp H
  obtain ⟨⟨t161,t164⟩,A50,H⟩:=H
  replace H : (scan_Tokens.l0 k a0 ([] : List (S48)) false 0 0 t161 t164 0 a0) = some (r1,r2,r3,r4):=H
  have A5:=Aside0.mk A50
  clear A50
  have H':=Aside0.mk H
  clear H
  go_enter Tryd.func15,Tryd.ntmps15
  go_wp2_with (first | ((with_reducible refine gate_dst (N:=3) rfl ?_);refine box_event ?hg (N:=3) ?hd (cs:=#[.int .i64 0,.int .i64 0,.int .i64 0]) (t:=39) ?hr ?_;(case hd => rfl);(case hg => rfl);(case hr => first | (go_simp;done) | (go_simp;rfl));intro gb160 hg w6 hbox hb;have n0_:=Aside0.mk (below_step (by repeat (first | (with_reducible first | exact HB.out | apply below_alloc | apply pw_below_drewN | apply below_drew1) | exact HB.out)) hb);have n1_:=Aside0.mk (hbox);have n2_:=Aside0.mk ((by rw [hg];exact (below_size (by repeat (first | (with_reducible first | exact HB.out | apply below_alloc | apply pw_below_drewN | apply below_drew1) | exact HB.out))) : w.heap.size ≤ gb160));have n3_:=Aside0.mk ((by rw [hg];exact (below_size (by repeat (first | (with_reducible first | exact HB.out | apply below_alloc | apply pw_below_drewN | apply below_drew1) | exact HB.out))) : w.heap.size ≤ gb160));clear HB;have HB:=n0_;have BK160:=n1_;have GW160:=n2_;have GE160:=n3_;clear n0_ n1_ n2_ n3_;clear hb hbox hg) | ((with_reducible refine gate_callee (f:=31) rfl ?_);refine goesL_ (some 21) rfl rfl Tryd.func31 (by kernel_rfl) rfl #[.string a0] rfl (by (try simp only [List.map_toArray,List.map_cons,List.map_nil]);first | done | rfl | (simp only [List.length_drop,List.length_take];rfl)) ?_;(with_reducible refine (scan_mapped.calls k a0 t161 t164 _ A5.out).mono ?_);rintro e w7 ⟨v162,v165,rfl,ho0,ho1,hb⟩;refine ⟨_,rfl,?_⟩;have n0_:=Aside0.mk (Kd.R_lower ho0 (below_size (by repeat (first | (with_reducible first | exact HB.out | apply below_alloc | apply pw_below_drewN | apply below_drew1 | refine below_set ?_ GE160.out) | exact HB.out))));have n1_:=Aside0.mk (Kd.R_lower ho1 (below_size (by repeat (first | (with_reducible first | exact HB.out | apply below_alloc | apply pw_below_drewN | apply below_drew1 | refine below_set ?_ GE160.out) | exact HB.out))));have n2_:=Aside0.mk (blk_below (g:=gb160) (o:=.cells #[.int .i64 0,.int .i64 0,.int .i64 0] 39 (0,0)) (by (with_reducible repeat (first | refine blk_drewN ?_ _ | refine blk_drew ?_ | refine blk_alloc ?_ _));exact BK160.out) hb);have n3_:=Aside0.mk (below_step (by repeat (first | (with_reducible first | exact HB.out | apply below_alloc | apply pw_below_drewN | apply below_drew1 | refine below_set ?_ GE160.out) | exact HB.out)) hb);clear BK160;clear HB;have HO163:=n0_;have HO166:=n1_;have BK160:=n2_;have HB:=n3_;clear n0_ n1_ n2_ n3_;(try clear hb);(try clear hb2);(try clear hk);(try clear hi);(try clear ho0);(try clear ho1)) | ((with_reducible refine gate_dst (N:=5) rfl ?_);refine box_event ?hg (N:=5) ?hd (cs:=#[.slice none 0 0,.slice none 0 0]) (t:=63) ?hr ?_;(case hd => rfl);(case hg => rfl);(case hr => first | (go_simp;done) | (go_simp;rfl));intro gb167 hg w8 hbox hb;have n0_:=Aside0.mk (Kd.R_below (by (with_reducible repeat (first | apply Kd.R_alloc | apply Kd.R_drewN | apply Kd.R_drew));exact HO163.out) hb);have n1_:=Aside0.mk (Kd.R_below (by (with_reducible repeat (first | apply Kd.R_alloc | apply Kd.R_drewN | apply Kd.R_drew));exact HO166.out) hb);have n2_:=Aside0.mk (blk_below (g:=gb160) (o:=.cells #[.int .i64 0,.int .i64 0,.int .i64 0] 39 (0,0)) (by (with_reducible repeat (first | refine blk_drewN ?_ _ | refine blk_drew ?_ | refine blk_alloc ?_ _));exact BK160.out) hb);have n3_:=Aside0.mk (below_step (by repeat (first | (with_reducible first | exact HB.out | apply below_alloc | apply pw_below_drewN | apply below_drew1 | refine below_set ?_ GE160.out) | exact HB.out)) hb);have n4_:=Aside0.mk (hbox);have n5_:=Aside0.mk ((by rw [hg];exact (below_size (by repeat (first | (with_reducible first | exact HB.out | apply below_alloc | apply pw_below_drewN | apply below_drew1 | refine below_set ?_ GE160.out) | exact HB.out))) : w.heap.size ≤ gb167));have n6_:=Aside0.mk ((by rw [hg];exact (below_size (by repeat (first | (with_reducible first | exact HB.out | apply below_alloc | apply pw_below_drewN | apply below_drew1 | refine below_set ?_ GE160.out) | exact HB.out))) : w.heap.size ≤ gb167));have n7_:=Aside0.mk ((by rw [hg];exact Nat.ne_of_lt (blk_lt (g:=gb160) (o:=.cells #[.int .i64 0,.int .i64 0,.int .i64 0] 39 (0,0)) (by (with_reducible repeat (first | refine blk_drewN ?_ _ | refine blk_drew ?_ | refine blk_alloc ?_ _));exact BK160.out)) : gb160 ≠ gb167));have n8_:=Aside0.mk ((by rw [hg];exact Nat.ne_of_gt (blk_lt (g:=gb160) (o:=.cells #[.int .i64 0,.int .i64 0,.int .i64 0] 39 (0,0)) (by (with_reducible repeat (first | refine blk_drewN ?_ _ | refine blk_drew ?_ | refine blk_alloc ?_ _));exact BK160.out)) : gb167 ≠ gb160));clear HO163;clear HO166;clear BK160;clear HB;have HO163:=n0_;have HO166:=n1_;have BK160:=n2_;have HB:=n3_;have BK167:=n4_;have GW167:=n5_;have GE167:=n6_;have NB160_167:=n7_;have NB167_160:=n8_;clear n0_ n1_ n2_ n3_ n4_ n5_ n6_ n7_ n8_;clear hb hbox hg;obtain ⟨Ao9,co9,eo9⟩:=Kd.R_slice HO163.out;subst eo9;have hnb10:=NB167_160.out;have hnc10:=NB160_167.out;have hcz11_0 : w8.cell? ⟨gb167,0,none⟩ = some (.slice none 0 0):=(blk_cell BK167.out 0).trans rfl;have hcz11_1 : w8.cell? ⟨gb167,1,none⟩ = some (.slice none 0 0):=(blk_cell BK167.out 1).trans rfl;have hfz11_0:=blk_frozen BK167.out 0;have hfz11_1:=blk_frozen BK167.out 1;obtain ⟨Ao12,co12,eo12⟩:=Kd.R_slice HO166.out;subst eo12) | ((with_reducible refine gate_dst (N:=23) rfl ?_);refine range_event ?hg (N:=23) ?hd (s:=a0) ?hr ?_;(case hd => rfl);(case hg => rfl);(case hr => first | (go_simp;done) | (go_simp;rfl));intro gb168 hg w13 hbox hb;have n0_:=Aside0.mk (Kd.R_below (by (with_reducible repeat (first | apply Kd.R_alloc | apply Kd.R_drewN | apply Kd.R_drew));exact (Kd.R_mono (Kd.R_far (p:=⟨gb167,1,none⟩) (Kd.R_far (p:=⟨gb167,0,none⟩) (Kd.R_types HO163.out BK167.out (by decide)) (fun _ hk => hk.2) (.slice Ao9 t161.length co9)) (fun _ hk => hk.2) (.slice Ao12 t164.length co12)) (fun _ h_ => h_.1))) hb);have n1_:=Aside0.mk (Kd.R_below (by (with_reducible repeat (first | apply Kd.R_alloc | apply Kd.R_drewN | apply Kd.R_drew));exact (Kd.R_mono (Kd.R_far (p:=⟨gb167,1,none⟩) (Kd.R_far (p:=⟨gb167,0,none⟩) (Kd.R_types HO166.out BK167.out (by decide)) (fun _ hk => hk.2) (.slice Ao9 t161.length co9)) (fun _ hk => hk.2) (.slice Ao12 t164.length co12)) (fun _ h_ => h_.1))) hb);have n2_:=Aside0.mk (blk_below (g:=gb160) (o:=.cells #[.int .i64 0,.int .i64 0,.int .i64 0] 39 (0,0)) (by (with_reducible repeat (first | refine blk_drewN ?_ _ | refine blk_drew ?_ | refine blk_alloc ?_ _));refine blk_far ?_ NB160_167.out _;(with_reducible repeat (first | refine blk_drewN ?_ _ | refine blk_drew ?_ | refine blk_alloc ?_ _));refine blk_far ?_ NB160_167.out _;(with_reducible repeat (first | refine blk_drewN ?_ _ | refine blk_drew ?_ | refine blk_alloc ?_ _));exact BK160.out) hb);have n3_:=Aside0.mk (blk_below (g:=gb167) (o:=.cells #[.slice Ao9 t161.length co9,.slice Ao12 t164.length co12] 63 (0,0)) (by (with_reducible repeat (first | refine blk_drewN ?_ _ | refine blk_drew ?_ | refine blk_alloc ?_ _));refine blk_put (cs:=#[.slice Ao9 t161.length co9,.slice none 0 0]) ?_ 1 _ rfl;(with_reducible repeat (first | refine blk_drewN ?_ _ | refine blk_drew ?_ | refine blk_alloc ?_ _));refine blk_put (cs:=#[.slice none 0 0,.slice none 0 0]) ?_ 0 _ rfl;(with_reducible repeat (first | refine blk_drewN ?_ _ | refine blk_drew ?_ | refine blk_alloc ?_ _));exact BK167.out) hb);have n4_:=Aside0.mk (below_step (by repeat (first | (with_reducible first | exact HB.out | apply below_alloc | apply pw_below_drewN | apply below_drew1 | refine below_set ?_ GE160.out | refine below_set ?_ GE167.out) | exact HB.out)) hb);have n5_:=Aside0.mk (hbox);have n6_:=Aside0.mk ((by rw [hg];exact (below_size (by repeat (first | (with_reducible first | exact HB.out | apply below_alloc | apply pw_below_drewN | apply below_drew1 | refine below_set ?_ GE160.out | refine below_set ?_ GE167.out) | exact HB.out))) : w.heap.size ≤ gb168));have n7_:=Aside0.mk ((by rw [hg];exact (below_size (by repeat (first | (with_reducible first | exact HB.out | apply below_alloc | apply pw_below_drewN | apply below_drew1 | refine below_set ?_ GE160.out | refine below_set ?_ GE167.out) | exact HB.out))) : w.heap.size ≤ gb168));have n8_:=Aside0.mk ((by rw [hg];exact Nat.ne_of_lt (blk_lt (g:=gb160) (o:=.cells #[.int .i64 0,.int .i64 0,.int .i64 0] 39 (0,0)) (by (with_reducible repeat (first | refine blk_drewN ?_ _ | refine blk_drew ?_ | refine blk_alloc ?_ _));refine blk_far ?_ NB160_167.out _;(with_reducible repeat (first | refine blk_drewN ?_ _ | refine blk_drew ?_ | refine blk_alloc ?_ _));refine blk_far ?_ NB160_167.out _;(with_reducible repeat (first | refine blk_drewN ?_ _ | refine blk_drew ?_ | refine blk_alloc ?_ _));exact BK160.out)) : gb160 ≠ gb168));have n9_:=Aside0.mk ((by rw [hg];exact Nat.ne_of_gt (blk_lt (g:=gb160) (o:=.cells #[.int .i64 0,.int .i64 0,.int .i64 0] 39 (0,0)) (by (with_reducible repeat (first | refine blk_drewN ?_ _ | refine blk_drew ?_ | refine blk_alloc ?_ _));refine blk_far ?_ NB160_167.out _;(with_reducible repeat (first | refine blk_drewN ?_ _ | refine blk_drew ?_ | refine blk_alloc ?_ _));refine blk_far ?_ NB160_167.out _;(with_reducible repeat (first | refine blk_drewN ?_ _ | refine blk_drew ?_ | refine blk_alloc ?_ _));exact BK160.out)) : gb168 ≠ gb160));have n10_:=Aside0.mk ((by rw [hg];exact Nat.ne_of_lt (blk_lt (g:=gb167) (o:=.cells #[.slice Ao9 t161.length co9,.slice Ao12 t164.length co12] 63 (0,0)) (by (with_reducible repeat (first | refine blk_drewN ?_ _ | refine blk_drew ?_ | refine blk_alloc ?_ _));refine blk_put (cs:=#[.slice Ao9 t161.length co9,.slice none 0 0]) ?_ 1 _ rfl;(with_reducible repeat (first | refine blk_drewN ?_ _ | refine blk_drew ?_ | refine blk_alloc ?_ _));refine blk_put (cs:=#[.slice none 0 0,.slice none 0 0]) ?_ 0 _ rfl;(with_reducible repeat (first | refine blk_drewN ?_ _ | refine blk_drew ?_ | refine blk_alloc ?_ _));exact BK167.out)) : gb167 ≠ gb168));have n11_:=Aside0.mk ((by rw [hg];exact Nat.ne_of_gt (blk_lt (g:=gb167) (o:=.cells #[.slice Ao9 t161.length co9,.slice Ao12 t164.length co12] 63 (0,0)) (by (with_reducible repeat (first | refine blk_drewN ?_ _ | refine blk_drew ?_ | refine blk_alloc ?_ _));refine blk_put (cs:=#[.slice Ao9 t161.length co9,.slice none 0 0]) ?_ 1 _ rfl;(with_reducible repeat (first | refine blk_drewN ?_ _ | refine blk_drew ?_ | refine blk_alloc ?_ _));refine blk_put (cs:=#[.slice none 0 0,.slice none 0 0]) ?_ 0 _ rfl;(with_reducible repeat (first | refine blk_drewN ?_ _ | refine blk_drew ?_ | refine blk_alloc ?_ _));exact BK167.out)) : gb168 ≠ gb167));clear HO163;clear HO166;clear BK160;clear BK167;clear HB;have HO163:=n0_;have HO166:=n1_;have BK160:=n2_;have BK167:=n3_;have HB:=n4_;have BK168:=n5_;have GW168:=n6_;have GE168:=n7_;have NB160_168:=n8_;have NB168_160:=n9_;have NB167_168:=n10_;have NB168_167:=n11_;clear n0_ n1_ n2_ n3_ n4_ n5_ n6_ n7_ n8_ n9_ n10_ n11_;clear hb hbox hg))
  (try simp only [Act.put,List.setIfInBounds_toArray,List.set_cons_zero,List.set_cons_succ])
  go_loopg [4,6,7,8] k (fun kq v4 v6 v7 v8 w' => ∃ (x4_1 : List (S48)) (x6_1 : Bool) (x7_1 : Int) (x8_1 : Int) (x161000_1 : Int) (x161001_1 : Int) (x161002_1 : Int) (x169000_1 : Int),v6 = .bool x6_1 ∧ v7 = .int .i64 x7_1 ∧ v8 = .int .i64 x8_1 ∧ Aside0 (scan_Tokens.l0 kq a0 x4_1 x6_1 x7_1 x8_1 t161 t164 x169000_1 a0 = some (r1,r2,r3,r4)) ∧ Aside0 (kq ≤ k) ∧ Aside0 (Kd.R k48 48 w' w.heap.size (fun _ => True) v4 x4_1) ∧ Aside0 (Kd.R (Kd.int .i64) 3 w' w.heap.size (fun _ => True) (.slice Ao9 t161.length co9) t161) ∧ Aside0 (Kd.R k37 37 w' w.heap.size (fun _ => True) (.slice Ao12 t164.length co12) t164) ∧ Aside0 (w'.heap[gb160]? = some (.cells #[.int .i64 x161000_1,.int .i64 x161001_1,.int .i64 x161002_1] 39 (0,0))) ∧ Aside0 (w'.heap[gb167]? = some (.cells #[(.slice Ao9 t161.length co9),(.slice Ao12 t164.length co12)] 63 (0,0))) ∧ Aside0 (w'.heap[gb168]? = some (.stringIter a0 (Int.toNat x169000_1))) ∧ Aside0 (Below w.heap.size w w'))
  case atStart => exact ⟨(([] : List (S48))),(false),(0),(0),(0),(0),(0),(0),(by first | rfl | (simp;done) | (simp [*];done)),(by first | rfl | (simp;done) | (simp [*];done)),(by first | rfl | (simp;done) | (simp [*];done)),H',⟨Nat.le_refl _⟩,⟨by first | exact Kd.R_nil _ _ _ _ _ | exact Kd.N_nil _ _ _ _ _ | exact Kd.V_nil _ _ _ _ _ | exact Kd.Q_nil _ _ _ _ _ | exact Kd.S_nil _ _ _ _ _⟩,⟨by (with_reducible repeat (first | apply Kd.R_alloc | apply Kd.R_drewN | apply Kd.R_drew));exact HO163.out⟩,⟨by (with_reducible repeat (first | apply Kd.R_alloc | apply Kd.R_drewN | apply Kd.R_drew));exact HO166.out⟩,⟨by (with_reducible repeat (first | refine blk_drewN ?_ _ | refine blk_drew ?_ | refine blk_alloc ?_ _));exact BK160.out⟩,⟨by (with_reducible repeat (first | refine blk_drewN ?_ _ | refine blk_drew ?_ | refine blk_alloc ?_ _));exact BK167.out⟩,⟨by (with_reducible repeat (first | refine blk_drewN ?_ _ | refine blk_drew ?_ | refine blk_alloc ?_ _));exact BK168.out⟩,⟨by repeat (first | (with_reducible first | exact HB.out | apply below_alloc | apply pw_below_drewN | apply below_drew1 | refine below_set ?_ GE160.out | refine below_set ?_ GE167.out | refine below_set ?_ GE168.out) | exact HB.out)⟩⟩
  case round =>
   clear H'
   try clear c1
   try clear c2
   try clear c2b0
   try clear c2b1
   try clear p2
   try clear c3
   try clear c10
   try clear hcz11_0
   try clear hcz11_1
   try clear hcz4_0
   try clear hcz4_1
   try clear hcz4_2
   try clear hfz11_0
   try clear hfz11_1
   try clear hfz4_0
   try clear hfz4_1
   try clear hfz4_2
   obtain ⟨x4_1,x6_1,x7_1,x8_1,x161000_1,x161001_1,x161002_1,x169000_1,rfl,rfl,rfl,HA,HK1,HO_4,HO_168000,HO_168001,BK160,BK167,BK168,HB⟩:=hrel
   cases gk with
   | zero => exact absurd HA.out (by simp [scan_Tokens.l0])
   | succ k1 =>
    have H:=HA.out
    clear HA
    simp only [scan_Tokens.l0] at H
    replace H:=Option.bind_eq_some_iff.mp H
    obtain ⟨⟨t169,t170,t171,t172⟩,A140,H⟩:=H
    replace H : (if t169 = true then (if 0 ≤ x8_1 then (if x8_1 < (t164.length : Int) then (if t170 < x7_1 then (scan_Tokens.l0 k1 a0 x4_1 x6_1 x7_1 (wrap64 (x8_1 + 1)) t161 t164 t172 a0) else (if t171 = 10 then (scan_Tokens.l0 k1 a0 x4_1 false x7_1 (wrap64 (x8_1 + 1)) t161 t164 t172 a0) else ((scan_broken.f a0 t170 t171).bind fun t175 => (if t175 = true then (some (([] : List (S48)),4,(rd_T37 t164 x8_1).f0,(rd_T37 t164 x8_1).f1)) else (if t171 = 35 then (scan_Tokens.j1 k1 a0 x4_1 true x7_1 (wrap64 (x8_1 + 1)) t170 t171 t161 t164 t172 a0 ((rd_T37 t164 x8_1).f0) ((rd_T37 t164 x8_1).f1)) else (scan_Tokens.j1 k1 a0 x4_1 x6_1 x7_1 (wrap64 (x8_1 + 1)) t170 t171 t161 t164 t172 a0 ((rd_T37 t164 x8_1).f0) ((rd_T37 t164 x8_1).f1))))))) else (none)) else (none)) else (if 0 ≤ (wrap64 ((t164.length : Int) - 1)) then (if (wrap64 ((t164.length : Int) - 1)) < (t164.length : Int) then (if x4_1.length < 3518437208883 then (some ((x4_1 ++ [(⟨0,(⟨#[]⟩ : ByteArray),(⟨(rd_T37 t164 (wrap64 ((t164.length : Int) - 1))).f0,(rd_T37 t164 (wrap64 ((t164.length : Int) - 1))).f1⟩ : S37)⟩ : S48)]),0,0,0)) else (none)) else (none)) else (none))) = some (r1,r2,r3,r4):=H
    have A14:=Aside0.mk A140
    clear A140
    by_cases c15 : t169 = true
    ·subst c15
     have H1 : (if 0 ≤ x8_1 then (if x8_1 < (t164.length : Int) then (if t170 < x7_1 then (scan_Tokens.l0 k1 a0 x4_1 x6_1 x7_1 (wrap64 (x8_1 + 1)) t161 t164 t172 a0) else (if t171 = 10 then (scan_Tokens.l0 k1 a0 x4_1 false x7_1 (wrap64 (x8_1 + 1)) t161 t164 t172 a0) else ((scan_broken.f a0 t170 t171).bind fun t175 => (if t175 = true then (some (([] : List (S48)),4,(rd_T37 t164 x8_1).f0,(rd_T37 t164 x8_1).f1)) else (if t171 = 35 then (scan_Tokens.j1 k1 a0 x4_1 true x7_1 (wrap64 (x8_1 + 1)) t170 t171 t161 t164 t172 a0 ((rd_T37 t164 x8_1).f0) ((rd_T37 t164 x8_1).f1)) else (scan_Tokens.j1 k1 a0 x4_1 x6_1 x7_1 (wrap64 (x8_1 + 1)) t170 t171 t161 t164 t172 a0 ((rd_T37 t164 x8_1).f0) ((rd_T37 t164 x8_1).f1))))))) else (none)) else (none)) = some (r1,r2,r3,r4):=by rw [if_pos rfl] at H;exact H
     clear H
     have H:=H1
     clear H1
     by_cases c16 : 0 ≤ x8_1
     ·rw [if_pos c16] at H
      have c16b0 : decide (0 ≤ x8_1) = true:=decide_eq_true c16
      clear c16
      by_cases c17 : x8_1 < (t164.length : Int)
      ·rw [if_pos c17] at H
       have c17b0 : decide (x8_1 < (t164.length : Int)) = true:=decide_eq_true c17
       clear c17
       have HC18:=Aside0.mk H
       clear H
       go_upto_block 2 with (first | ((with_reducible refine gate_dst (N:=24) rfl ?_);have hnx_:=fun ty => (run_next_t (P:=Tryd.prog) (k:=gb168) (s:=a0) (p:=x169000_1) (a0:=t170) (c:=t171) (q:=t172) ty (by (with_reducible repeat (first | refine blk_drewN ?_ _ | refine blk_drew ?_ | refine blk_alloc ?_ _));exact BK168.out) A14.out);refine next_event_t ?hg (N:=24) ?hd (k:=gb168) (s:=a0) (p:=x169000_1) (a0:=t170) (c:=t171) (q:=t172) (by (with_reducible repeat (first | refine blk_drewN ?_ _ | refine blk_drew ?_ | refine blk_alloc ?_ _));exact BK168.out) A14.out ?hr ?_;(case hd => rfl);(case hg => rfl);(case hr => first | (go_simp;done) | (go_simp;rfl));clear hnx_;intro w19 hg hbox;have n0_:=Aside0.mk (itR (by (with_reducible repeat (first | apply Kd.R_alloc | apply Kd.R_drewN | apply Kd.R_drew));exact HO_4.out) (by (with_reducible repeat (first | refine blk_drewN ?_ _ | refine blk_drew ?_ | refine blk_alloc ?_ _));exact BK168.out) hg);have n1_:=Aside0.mk (itR (by (with_reducible repeat (first | apply Kd.R_alloc | apply Kd.R_drewN | apply Kd.R_drew));exact HO_168000.out) (by (with_reducible repeat (first | refine blk_drewN ?_ _ | refine blk_drew ?_ | refine blk_alloc ?_ _));exact BK168.out) hg);have n2_:=Aside0.mk (itR (by (with_reducible repeat (first | apply Kd.R_alloc | apply Kd.R_drewN | apply Kd.R_drew));exact HO_168001.out) (by (with_reducible repeat (first | refine blk_drewN ?_ _ | refine blk_drew ?_ | refine blk_alloc ?_ _));exact BK168.out) hg);have n3_:=Aside0.mk (blk_grown (g:=gb160) (o:=.cells #[.int .i64 x161000_1,.int .i64 x161001_1,.int .i64 x161002_1] 39 (0,0)) (by (with_reducible repeat (first | refine blk_drewN ?_ _ | refine blk_drew ?_ | refine blk_alloc ?_ _));exact BK160.out) hg (by have h_:=NB160_168.out;intro e_;injection e_ with e_;exact h_ e_));have n4_:=Aside0.mk (blk_grown (g:=gb167) (o:=.cells #[.slice Ao9 t161.length co9,.slice Ao12 t164.length co12] 63 (0,0)) (by (with_reducible repeat (first | refine blk_drewN ?_ _ | refine blk_drew ?_ | refine blk_alloc ?_ _));exact BK167.out) hg (by have h_:=NB167_168.out;intro e_;injection e_ with e_;exact h_ e_));have n5_:=Aside0.mk (hbox);have n6_:=Aside0.mk (pw_below_grown (by repeat (first | (with_reducible first | exact HB.out | apply below_alloc | apply pw_below_drewN | apply below_drew1 | refine below_set ?_ GE160.out | refine below_set ?_ GE167.out | refine below_set ?_ GE168.out) | exact HB.out)) (some gb168) (below_size (by repeat (first | (with_reducible first | exact HB.out | apply below_alloc | apply pw_below_drewN | apply below_drew1 | refine below_set ?_ GE160.out | refine below_set ?_ GE167.out | refine below_set ?_ GE168.out) | exact HB.out))) hg (fun _ e_ => by cases e_;exact GW168.out));clear HO_4;clear HO_168000;clear HO_168001;clear BK160;clear BK167;clear BK168;clear HB;have HO_4:=n0_;have HO_168000:=n1_;have HO_168001:=n2_;have BK160:=n3_;have BK167:=n4_;have BK168:=n5_;have HB:=n6_;clear n0_ n1_ n2_ n3_ n4_ n5_ n6_;clear hg hbox;have hnb20:=NB167_160.out;have hnc20:=NB160_167.out;have hnb21:=NB167_168.out;have hnc21:=NB168_167.out;have hcz22_0 : w19.cell? ⟨gb167,0,none⟩ = some (.slice Ao9 t161.length co9):=(blk_cell BK167.out 0).trans rfl;have hcz22_1 : w19.cell? ⟨gb167,1,none⟩ = some (.slice Ao12 t164.length co12):=(blk_cell BK167.out 1).trans rfl;have hfz22_0:=blk_frozen BK167.out 0;have hfz22_1:=blk_frozen BK167.out 1;have p173 : 0 ≤ (x8_1 : Int):=of_decide_eq_true (by first | (with_reducible assumption) | assumption);have q173 : x8_1 < (t164.length : Int):=of_decide_eq_true (by first | (with_reducible assumption) | assumption);obtain ⟨ad173,e173,hx173_0,hx173_1⟩:=at_T37 (Kd.R_reads' HO_168001.out).2.2 x8_1 p173 q173;cases e173;replace p173:=eq_true p173;replace q173:=eq_true q173) | ((with_reducible refine gate_dst (N:=11) rfl ?_);refine box_event ?hg (N:=11) ?hd (cs:=#[.int .i64 0,.int .i64 0]) (t:=37) ?hr ?_;(case hd => rfl);(case hg => rfl);(case hr => first | (go_simp;done) | (go_simp;rfl));intro gb174 hg w23 hbox hb;have n0_:=Aside0.mk (Kd.R_below (by (with_reducible repeat (first | apply Kd.R_alloc | apply Kd.R_drewN | apply Kd.R_drew));exact HO_4.out) hb);have n1_:=Aside0.mk (Kd.R_below (by (with_reducible repeat (first | apply Kd.R_alloc | apply Kd.R_drewN | apply Kd.R_drew));exact HO_168000.out) hb);have n2_:=Aside0.mk (Kd.R_below (Kd.R_elderB (by (with_reducible repeat (first | apply Kd.R_alloc | apply Kd.R_drewN | apply Kd.R_drew));exact HO_168001.out) gb174 (Nat.le_of_eq hg.symm)) hb);have n3_:=Aside0.mk (blk_below (g:=gb160) (o:=.cells #[.int .i64 x161000_1,.int .i64 x161001_1,.int .i64 x161002_1] 39 (0,0)) (by (with_reducible repeat (first | refine blk_drewN ?_ _ | refine blk_drew ?_ | refine blk_alloc ?_ _));exact BK160.out) hb);have n4_:=Aside0.mk (blk_below (g:=gb167) (o:=.cells #[.slice Ao9 t161.length co9,.slice (some ad173) t164.length co12] 63 (0,0)) (by (with_reducible repeat (first | refine blk_drewN ?_ _ | refine blk_drew ?_ | refine blk_alloc ?_ _));exact BK167.out) hb);have n5_:=Aside0.mk (blk_below (g:=gb168) (o:=.stringIter a0 (Int.toNat t172)) (by (with_reducible repeat (first | refine blk_drewN ?_ _ | refine blk_drew ?_ | refine blk_alloc ?_ _));exact BK168.out) hb);have n6_:=Aside0.mk (below_step (by repeat (first | (with_reducible first | exact HB.out | apply below_alloc | apply pw_below_drewN | apply below_drew1 | refine below_set ?_ GE160.out | refine below_set ?_ GE167.out | refine below_set ?_ GE168.out) | exact HB.out)) hb);have n7_:=Aside0.mk (hbox);have n8_:=Aside0.mk ((by rw [hg];exact (below_size (by repeat (first | (with_reducible first | exact HB.out | apply below_alloc | apply pw_below_drewN | apply below_drew1 | refine below_set ?_ GE160.out | refine below_set ?_ GE167.out | refine below_set ?_ GE168.out) | exact HB.out))) : w.heap.size ≤ gb174));have n9_:=Aside0.mk ((by rw [hg];exact (below_size (by repeat (first | (with_reducible first | exact HB.out | apply below_alloc | apply pw_below_drewN | apply below_drew1 | refine below_set ?_ GE160.out | refine below_set ?_ GE167.out | refine below_set ?_ GE168.out) | exact HB.out))) : w.heap.size ≤ gb174));have n10_:=Aside0.mk ((by rw [hg];exact Nat.ne_of_lt (blk_lt (g:=gb160) (o:=.cells #[.int .i64 x161000_1,.int .i64 x161001_1,.int .i64 x161002_1] 39 (0,0)) (by (with_reducible repeat (first | refine blk_drewN ?_ _ | refine blk_drew ?_ | refine blk_alloc ?_ _));exact BK160.out)) : gb160 ≠ gb174));have n11_:=Aside0.mk ((by rw [hg];exact Nat.ne_of_gt (blk_lt (g:=gb160) (o:=.cells #[.int .i64 x161000_1,.int .i64 x161001_1,.int .i64 x161002_1] 39 (0,0)) (by (with_reducible repeat (first | refine blk_drewN ?_ _ | refine blk_drew ?_ | refine blk_alloc ?_ _));exact BK160.out)) : gb174 ≠ gb160));have n12_:=Aside0.mk ((by rw [hg];exact Nat.ne_of_lt (blk_lt (g:=gb167) (o:=.cells #[.slice Ao9 t161.length co9,.slice (some ad173) t164.length co12] 63 (0,0)) (by (with_reducible repeat (first | refine blk_drewN ?_ _ | refine blk_drew ?_ | refine blk_alloc ?_ _));exact BK167.out)) : gb167 ≠ gb174));have n13_:=Aside0.mk ((by rw [hg];exact Nat.ne_of_gt (blk_lt (g:=gb167) (o:=.cells #[.slice Ao9 t161.length co9,.slice (some ad173) t164.length co12] 63 (0,0)) (by (with_reducible repeat (first | refine blk_drewN ?_ _ | refine blk_drew ?_ | refine blk_alloc ?_ _));exact BK167.out)) : gb174 ≠ gb167));have n14_:=Aside0.mk ((by rw [hg];exact Nat.ne_of_lt (blk_lt (g:=gb168) (o:=.stringIter a0 (Int.toNat t172)) (by (with_reducible repeat (first | refine blk_drewN ?_ _ | refine blk_drew ?_ | refine blk_alloc ?_ _));exact BK168.out)) : gb168 ≠ gb174));have n15_:=Aside0.mk ((by rw [hg];exact Nat.ne_of_gt (blk_lt (g:=gb168) (o:=.stringIter a0 (Int.toNat t172)) (by (with_reducible repeat (first | refine blk_drewN ?_ _ | refine blk_drew ?_ | refine blk_alloc ?_ _));exact BK168.out)) : gb174 ≠ gb168));clear HO_4;clear HO_168000;clear HO_168001;clear BK160;clear BK167;clear BK168;clear HB;have HO_4:=n0_;have HO_168000:=n1_;have HO_168001:=n2_;have BK160:=n3_;have BK167:=n4_;have BK168:=n5_;have HB:=n6_;have BK174:=n7_;have GW174:=n8_;have GE174:=n9_;have NB160_174:=n10_;have NB174_160:=n11_;have NB167_174:=n12_;have NB174_167:=n13_;have NB168_174:=n14_;have NB174_168:=n15_;clear n0_ n1_ n2_ n3_ n4_ n5_ n6_ n7_ n8_ n9_ n10_ n11_ n12_ n13_ n14_ n15_;clear hb hbox hg;have hnb24:=NB174_160.out;have hnc24:=NB160_174.out;have hnb25:=NB174_167.out;have hnc25:=NB167_174.out;have hnb26:=NB174_168.out;have hnc26:=NB168_174.out;have hcz27_0 : w23.cell? ⟨gb174,0,none⟩ = some (.int .i64 0):=(blk_cell BK174.out 0).trans rfl;have hcz27_1 : w23.cell? ⟨gb174,1,none⟩ = some (.int .i64 0):=(blk_cell BK174.out 1).trans rfl;have hfz27_0:=blk_frozen BK174.out 0;have hfz27_1:=blk_frozen BK174.out 1))
       (try simp only [Act.put,List.setIfInBounds_toArray,List.set_cons_zero,List.set_cons_succ])
       go_cut [6] (fun v6 wc => ∃ (kq : Nat) (x6_17 : Bool) (x161000_17 : Int) (x161001_17 : Int) (x161002_17 : Int),v6 = .bool x6_17 ∧ Aside0 (scan_Tokens.j1 kq a0 x4_1 x6_17 x7_1 (wrap64 (x8_1 + 1)) t170 t171 t161 t164 t172 a0 ((rd_T37 t164 x8_1).f0) ((rd_T37 t164 x8_1).f1) = some (r1,r2,r3,r4)) ∧ Aside0 (kq ≤ k1) ∧ Aside0 (Kd.R k48 48 wc w.heap.size (fun _ => True) u4 x4_1) ∧ Aside0 (Kd.R (Kd.int .i64) 3 wc w.heap.size (fun _ => True) (.slice Ao9 t161.length co9) t161) ∧ Aside0 (Kd.R k37 37 wc w.heap.size (fun k_ => k_ ≠ gb174) (.slice (some ad173) t164.length co12) t164) ∧ Aside0 (wc.heap[gb160]? = some (.cells #[.int .i64 x161000_17,.int .i64 x161001_17,.int .i64 x161002_17] 39 (0,0))) ∧ Aside0 (wc.heap[gb167]? = some (.cells #[(.slice Ao9 t161.length co9),(.slice (some ad173) t164.length co12)] 63 (0,0))) ∧ Aside0 (wc.heap[gb168]? = some (.stringIter a0 (Int.toNat t172))) ∧ Aside0 (wc.heap[gb174]? = some (.cells #[.int .i64 ((rd_T37 t164 x8_1).f0),.int .i64 ((rd_T37 t164 x8_1).f1)] 37 (0,0))) ∧ Aside0 (Below w.heap.size w wc))
       case first =>
        have H:=HC18.out
        clear HC18
        by_cases c28 : t170 < x7_1
        ·rw [if_pos c28] at H
         have c28b0 : decide (t170 < x7_1) = true:=decide_eq_true c28
         clear c28
         (first | rw [c28b0] | (simp only [i64_w,i32_w];rw [c28b0]) | skip)
         have H':=Aside0.mk H
         clear H
         go_wp2
         go_roundg k1
         case measure => have:=HK1.out;omega
         case rel => exact ⟨(x4_1),(x6_1),(x7_1),(wrap64 (x8_1 + 1)),(x161000_1),(x161001_1),(x161002_1),(t172),(by first | rfl | (simp;done) | (simp [*];done)),(by first | rfl | (simp;done) | (simp [*];done)),(by first | rfl | (simp;done) | (simp [*];done)),H',⟨by have:=HK1.out;omega⟩,⟨by (with_reducible repeat (first | apply Kd.R_alloc | apply Kd.R_drewN | apply Kd.R_drew));exact Kd.R_mono (Kd.R_far (p:=⟨gb174,1,none⟩) (Kd.R_far (p:=⟨gb174,0,none⟩) (Kd.R_types HO_4.out BK174.out (by decide)) (fun _ hk => hk.2) (.int .i64 ((rd_T37 t164 x8_1).f0))) (fun _ hk => hk.2) (.int .i64 ((rd_T37 t164 x8_1).f1))) (fun _ hk => trivial)⟩,⟨by (with_reducible repeat (first | apply Kd.R_alloc | apply Kd.R_drewN | apply Kd.R_drew));exact Kd.R_mono (Kd.R_far (p:=⟨gb174,1,none⟩) (Kd.R_far (p:=⟨gb174,0,none⟩) (Kd.R_types HO_168000.out BK174.out (by decide)) (fun _ hk => hk.2) (.int .i64 ((rd_T37 t164 x8_1).f0))) (fun _ hk => hk.2) (.int .i64 ((rd_T37 t164 x8_1).f1))) (fun _ hk => trivial)⟩,⟨by (with_reducible repeat (first | apply Kd.R_alloc | apply Kd.R_drewN | apply Kd.R_drew));exact Kd.R_mono (Kd.R_far (p:=⟨gb174,1,none⟩) (Kd.R_far (p:=⟨gb174,0,none⟩) (Kd.R_mono HO_168001.out (fun k_ hk => (⟨hk,hk.2⟩ : _ ∧ k_ ≠ gb174))) (fun _ hk => hk.2) (.int .i64 ((rd_T37 t164 x8_1).f0))) (fun _ hk => hk.2) (.int .i64 ((rd_T37 t164 x8_1).f1))) (fun _ hk => trivial)⟩,⟨by (with_reducible repeat (first | refine blk_drewN ?_ _ | refine blk_drew ?_ | refine blk_alloc ?_ _));refine blk_far ?_ NB160_174.out _;(with_reducible repeat (first | refine blk_drewN ?_ _ | refine blk_drew ?_ | refine blk_alloc ?_ _));refine blk_far ?_ NB160_174.out _;(with_reducible repeat (first | refine blk_drewN ?_ _ | refine blk_drew ?_ | refine blk_alloc ?_ _));exact BK160.out⟩,⟨by (with_reducible repeat (first | refine blk_drewN ?_ _ | refine blk_drew ?_ | refine blk_alloc ?_ _));refine blk_far ?_ NB167_174.out _;(with_reducible repeat (first | refine blk_drewN ?_ _ | refine blk_drew ?_ | refine blk_alloc ?_ _));refine blk_far ?_ NB167_174.out _;(with_reducible repeat (first | refine blk_drewN ?_ _ | refine blk_drew ?_ | refine blk_alloc ?_ _));exact BK167.out⟩,⟨by (with_reducible repeat (first | refine blk_drewN ?_ _ | refine blk_drew ?_ | refine blk_alloc ?_ _));refine it_far ?_ NB168_174.out _;(with_reducible repeat (first | refine blk_drewN ?_ _ | refine blk_drew ?_ | refine blk_alloc ?_ _));refine it_far ?_ NB168_174.out _;(with_reducible repeat (first | refine blk_drewN ?_ _ | refine blk_drew ?_ | refine blk_alloc ?_ _));exact BK168.out⟩,⟨by repeat (first | (with_reducible first | exact HB.out | apply below_alloc | apply pw_below_drewN | apply below_drew1 | refine below_set ?_ GE160.out | refine below_set ?_ GE167.out | refine below_set ?_ GE168.out | refine below_set ?_ GE174.out) | exact HB.out)⟩⟩
        ·rw [if_neg c28] at H
         have c28b0 : decide (t170 < x7_1) = false:=decide_eq_false c28
         clear c28
         (first | rw [c28b0] | (simp only [i64_w,i32_w];rw [c28b0]) | skip)
         by_cases c29 : t171 = 10
         ·rw [if_pos c29] at H
          have c29b0 : (t171 == 10) = true:=beq_iff_eq.mpr c29
          have c29b1 : (t171 != 10) = false:=bne_eq_false_iff_eq.mpr c29
          clear c29
          have H':=Aside0.mk H
          clear H
          go_wp2
          go_roundg k1
          case measure => have:=HK1.out;omega
          case rel => exact ⟨(x4_1),(false),(x7_1),(wrap64 (x8_1 + 1)),(x161000_1),(x161001_1),(x161002_1),(t172),(by first | rfl | (simp;done) | (simp [*];done)),(by first | rfl | (simp;done) | (simp [*];done)),(by first | rfl | (simp;done) | (simp [*];done)),H',⟨by have:=HK1.out;omega⟩,⟨by (with_reducible repeat (first | apply Kd.R_alloc | apply Kd.R_drewN | apply Kd.R_drew));exact Kd.R_mono (Kd.R_far (p:=⟨gb174,1,none⟩) (Kd.R_far (p:=⟨gb174,0,none⟩) (Kd.R_types HO_4.out BK174.out (by decide)) (fun _ hk => hk.2) (.int .i64 ((rd_T37 t164 x8_1).f0))) (fun _ hk => hk.2) (.int .i64 ((rd_T37 t164 x8_1).f1))) (fun _ hk => trivial)⟩,⟨by (with_reducible repeat (first | apply Kd.R_alloc | apply Kd.R_drewN | apply Kd.R_drew));exact Kd.R_mono (Kd.R_far (p:=⟨gb174,1,none⟩) (Kd.R_far (p:=⟨gb174,0,none⟩) (Kd.R_types HO_168000.out BK174.out (by decide)) (fun _ hk => hk.2) (.int .i64 ((rd_T37 t164 x8_1).f0))) (fun _ hk => hk.2) (.int .i64 ((rd_T37 t164 x8_1).f1))) (fun _ hk => trivial)⟩,⟨by (with_reducible repeat (first | apply Kd.R_alloc | apply Kd.R_drewN | apply Kd.R_drew));exact Kd.R_mono (Kd.R_far (p:=⟨gb174,1,none⟩) (Kd.R_far (p:=⟨gb174,0,none⟩) (Kd.R_mono HO_168001.out (fun k_ hk => (⟨hk,hk.2⟩ : _ ∧ k_ ≠ gb174))) (fun _ hk => hk.2) (.int .i64 ((rd_T37 t164 x8_1).f0))) (fun _ hk => hk.2) (.int .i64 ((rd_T37 t164 x8_1).f1))) (fun _ hk => trivial)⟩,⟨by (with_reducible repeat (first | refine blk_drewN ?_ _ | refine blk_drew ?_ | refine blk_alloc ?_ _));refine blk_far ?_ NB160_174.out _;(with_reducible repeat (first | refine blk_drewN ?_ _ | refine blk_drew ?_ | refine blk_alloc ?_ _));refine blk_far ?_ NB160_174.out _;(with_reducible repeat (first | refine blk_drewN ?_ _ | refine blk_drew ?_ | refine blk_alloc ?_ _));exact BK160.out⟩,⟨by (with_reducible repeat (first | refine blk_drewN ?_ _ | refine blk_drew ?_ | refine blk_alloc ?_ _));refine blk_far ?_ NB167_174.out _;(with_reducible repeat (first | refine blk_drewN ?_ _ | refine blk_drew ?_ | refine blk_alloc ?_ _));refine blk_far ?_ NB167_174.out _;(with_reducible repeat (first | refine blk_drewN ?_ _ | refine blk_drew ?_ | refine blk_alloc ?_ _));exact BK167.out⟩,⟨by (with_reducible repeat (first | refine blk_drewN ?_ _ | refine blk_drew ?_ | refine blk_alloc ?_ _));refine it_far ?_ NB168_174.out _;(with_reducible repeat (first | refine blk_drewN ?_ _ | refine blk_drew ?_ | refine blk_alloc ?_ _));refine it_far ?_ NB168_174.out _;(with_reducible repeat (first | refine blk_drewN ?_ _ | refine blk_drew ?_ | refine blk_alloc ?_ _));exact BK168.out⟩,⟨by repeat (first | (with_reducible first | exact HB.out | apply below_alloc | apply pw_below_drewN | apply below_drew1 | refine below_set ?_ GE160.out | refine below_set ?_ GE167.out | refine below_set ?_ GE168.out | refine below_set ?_ GE174.out) | exact HB.out)⟩⟩
         ·rw [if_neg c29] at H
          have c29b0 : (t171 == 10) = false:=beq_eq_false_iff_ne.mpr c29
          have c29b1 : (t171 != 10) = true:=bne_iff_ne.mpr c29
          replace H:=Option.bind_eq_some_iff.mp H
          obtain ⟨t175,A300,H⟩:=H
          replace H : (if t175 = true then (some (([] : List (S48)),4,(rd_T37 t164 x8_1).f0,(rd_T37 t164 x8_1).f1)) else (if t171 = 35 then (scan_Tokens.j1 k1 a0 x4_1 true x7_1 (wrap64 (x8_1 + 1)) t170 t171 t161 t164 t172 a0 ((rd_T37 t164 x8_1).f0) ((rd_T37 t164 x8_1).f1)) else (scan_Tokens.j1 k1 a0 x4_1 x6_1 x7_1 (wrap64 (x8_1 + 1)) t170 t171 t161 t164 t172 a0 ((rd_T37 t164 x8_1).f0) ((rd_T37 t164 x8_1).f1)))) = some (r1,r2,r3,r4):=H
          have A30:=Aside0.mk A300
          clear A300
          by_cases c31 : t175 = true
          ·subst c31
           have H1 : (some (([] : List (S48)),4,(rd_T37 t164 x8_1).f0,(rd_T37 t164 x8_1).f1)) = some (r1,r2,r3,r4):=by rw [if_pos rfl] at H;exact H
           clear H
           have H:=H1
           clear H1
           simp only [Option.some.injEq,Prod.mk.injEq] at H
           obtain ⟨rfl,rfl,rfl,rfl⟩:=H
           try go_wp2_with (first | ((with_reducible refine gate_callee (f:=32) rfl ?_);refine goesL_ (some 46) rfl rfl Tryd.func32 (by kernel_rfl) rfl #[.string a0,.int .i64 t170,.int .i32 t171] rfl (by (try simp only [List.map_toArray,List.map_cons,List.map_nil]);first | done | rfl | (simp only [List.length_drop,List.length_take];rfl)) ?_;(with_reducible refine (scan_broken.calls a0 t170 t171 true _ A30.out).mono ?_);rintro e w32 ⟨rfl,hb⟩;refine ⟨_,rfl,?_⟩;have n0_:=Aside0.mk (Kd.R_below (by (with_reducible repeat (first | apply Kd.R_alloc | apply Kd.R_drewN | apply Kd.R_drew));exact (Kd.R_mono (Kd.R_far (p:=⟨gb174,1,none⟩) (Kd.R_far (p:=⟨gb174,0,none⟩) (Kd.R_types HO_4.out BK174.out (by decide)) (fun _ hk => hk.2) (.int .i64 ((rd_T37 t164 x8_1).f0))) (fun _ hk => hk.2) (.int .i64 ((rd_T37 t164 x8_1).f1))) (fun _ h_ => h_.1))) hb);have n1_:=Aside0.mk (Kd.R_below (by (with_reducible repeat (first | apply Kd.R_alloc | apply Kd.R_drewN | apply Kd.R_drew));exact (Kd.R_mono (Kd.R_far (p:=⟨gb174,1,none⟩) (Kd.R_far (p:=⟨gb174,0,none⟩) (Kd.R_types HO_168000.out BK174.out (by decide)) (fun _ hk => hk.2) (.int .i64 ((rd_T37 t164 x8_1).f0))) (fun _ hk => hk.2) (.int .i64 ((rd_T37 t164 x8_1).f1))) (fun _ h_ => h_.1))) hb);have n2_:=Aside0.mk (Kd.R_below (by (with_reducible repeat (first | apply Kd.R_alloc | apply Kd.R_drewN | apply Kd.R_drew));exact (Kd.R_mono (Kd.R_far (p:=⟨gb174,1,none⟩) (Kd.R_far (p:=⟨gb174,0,none⟩) (Kd.R_mono HO_168001.out (fun k_ hk => (⟨hk,hk.2⟩ : _ ∧ k_ ≠ gb174))) (fun _ hk => hk.2) (.int .i64 ((rd_T37 t164 x8_1).f0))) (fun _ hk => hk.2) (.int .i64 ((rd_T37 t164 x8_1).f1))) (fun _ h_ => h_.1))) hb);have n3_:=Aside0.mk (blk_below (g:=gb160) (o:=.cells #[.int .i64 x161000_1,.int .i64 x161001_1,.int .i64 x161002_1] 39 (0,0)) (by (with_reducible repeat (first | refine blk_drewN ?_ _ | refine blk_drew ?_ | refine blk_alloc ?_ _));refine blk_far ?_ NB160_174.out _;(with_reducible repeat (first | refine blk_drewN ?_ _ | refine blk_drew ?_ | refine blk_alloc ?_ _));refine blk_far ?_ NB160_174.out _;(with_reducible repeat (first | refine blk_drewN ?_ _ | refine blk_drew ?_ | refine blk_alloc ?_ _));exact BK160.out) hb);have n4_:=Aside0.mk (blk_below (g:=gb167) (o:=.cells #[.slice Ao9 t161.length co9,.slice (some ad173) t164.length co12] 63 (0,0)) (by (with_reducible repeat (first | refine blk_drewN ?_ _ | refine blk_drew ?_ | refine blk_alloc ?_ _));refine blk_far ?_ NB167_174.out _;(with_reducible repeat (first | refine blk_drewN ?_ _ | refine blk_drew ?_ | refine blk_alloc ?_ _));refine blk_far ?_ NB167_174.out _;(with_reducible repeat (first | refine blk_drewN ?_ _ | refine blk_drew ?_ | refine blk_alloc ?_ _));exact BK167.out) hb);have n5_:=Aside0.mk (blk_below (g:=gb168) (o:=.stringIter a0 (Int.toNat t172)) (by (with_reducible repeat (first | refine blk_drewN ?_ _ | refine blk_drew ?_ | refine blk_alloc ?_ _));refine it_far ?_ NB168_174.out _;(with_reducible repeat (first | refine blk_drewN ?_ _ | refine blk_drew ?_ | refine blk_alloc ?_ _));refine it_far ?_ NB168_174.out _;(with_reducible repeat (first | refine blk_drewN ?_ _ | refine blk_drew ?_ | refine blk_alloc ?_ _));exact BK168.out) hb);have n6_:=Aside0.mk (blk_below (g:=gb174) (o:=.cells #[.int .i64 ((rd_T37 t164 x8_1).f0),.int .i64 ((rd_T37 t164 x8_1).f1)] 37 (0,0)) (by (with_reducible repeat (first | refine blk_drewN ?_ _ | refine blk_drew ?_ | refine blk_alloc ?_ _));refine blk_put (cs:=#[.int .i64 ((rd_T37 t164 x8_1).f0),.int .i64 0]) ?_ 1 _ rfl;(with_reducible repeat (first | refine blk_drewN ?_ _ | refine blk_drew ?_ | refine blk_alloc ?_ _));refine blk_put (cs:=#[.int .i64 0,.int .i64 0]) ?_ 0 _ rfl;(with_reducible repeat (first | refine blk_drewN ?_ _ | refine blk_drew ?_ | refine blk_alloc ?_ _));exact BK174.out) hb);have n7_:=Aside0.mk (below_step (by repeat (first | (with_reducible first | exact HB.out | apply below_alloc | apply pw_below_drewN | apply below_drew1 | refine below_set ?_ GE160.out | refine below_set ?_ GE167.out | refine below_set ?_ GE168.out | refine below_set ?_ GE174.out) | exact HB.out)) hb);clear HO_4;clear HO_168000;clear HO_168001;clear BK160;clear BK167;clear BK168;clear BK174;clear HB;have HO_4:=n0_;have HO_168000:=n1_;have HO_168001:=n2_;have BK160:=n3_;have BK167:=n4_;have BK168:=n5_;have BK174:=n6_;have HB:=n7_;clear n0_ n1_ n2_ n3_ n4_ n5_ n6_ n7_;(try clear hb);(try clear hb2);(try clear hk);(try clear hi)))
           have n0_:=Aside0.mk (Kd.R_drew HO_4.out)
           have n1_:=Aside0.mk (Kd.R_drew HO_168000.out)
           have n2_:=Aside0.mk (Kd.R_drew HO_168001.out)
           have n3_:=Aside0.mk (blk_drew BK160.out)
           have n4_:=Aside0.mk (blk_drew BK167.out)
           have n5_:=Aside0.mk (blk_drew BK168.out)
           have n6_:=Aside0.mk (blk_drew BK174.out)
           have n7_:=Aside0.mk (below_drew1 HB.out)
           clear HO_4
           clear HO_168000
           clear HO_168001
           clear BK160
           clear BK167
           clear BK168
           clear BK174
           clear HB
           have HO_4:=n0_
           have HO_168000:=n1_
           have HO_168001:=n2_
           have BK160:=n3_
           have BK167:=n4_
           have BK168:=n5_
           have BK174:=n6_
           have HB:=n7_
           clear n0_ n1_ n2_ n3_ n4_ n5_ n6_ n7_
           refine start_ (n:=4) (S:=fun w' => w'.cell? ⟨gb174,0,none⟩ = some (.int .i64 ((rd_T37 t164 x8_1).f0)) ∧ w'.cell? ⟨gb174,1,none⟩ = some (.int .i64 ((rd_T37 t164 x8_1).f1))) (ds:=[]) #[false,false,false,false] (by kernel_rfl) rfl rfl ⟨(blk_cell BK174.out 0).trans rfl,(blk_cell BK174.out 1).trans rfl⟩ (fun hHeld => ?_)
           generalize w32.drew = w33 at HO_4 HO_168000 HO_168001 BK160 BK167 BK168 BK174 HB hHeld ⊢
           refine pure_ (i:=2) (N:=some 2) (v:=?_) (a':=?_) #[false,false,true,false] rfl rfl (by kernel_rfl) (fun _ _ _ h => h) (Or.inl ⟨by rfl,?_⟩) ?_ ?_
           rotate_left
           ·intro w'
            go_simp
            with_reducible rfl
           rotate_left
           ·simp only [Act.put,List.setIfInBounds_toArray,List.set_cons_zero,List.set_cons_succ,i64_w,i32_w]
            rfl
           refine take_ (i:=0) (N:=some 47) (v:=?_) (a':=?_) #[true,false,true,false] rfl rfl (by kernel_rfl) (fun _ _ _ h => h) (Or.inl ⟨by rfl,?_⟩) hHeld ?_ ?_
           rotate_left
           ·rintro w' ⟨s0,s1⟩
            go_simp
            with_reducible rfl
           rotate_left
           ·simp only [Act.put,List.setIfInBounds_toArray,List.set_cons_zero,List.set_cons_succ,i64_w,i32_w]
            rfl
           refine pure_ (i:=1) (N:=some 48) (v:=?_) (a':=?_) #[true,true,true,false] rfl rfl (by kernel_rfl) (fun _ _ _ h => h) (Or.inl ⟨by rfl,?_⟩) ?_ ?_
           rotate_left
           ·intro w'
            go_simp
            with_reducible rfl
           rotate_left
           ·simp only [Act.put,List.setIfInBounds_toArray,List.set_cons_zero,List.set_cons_succ,i64_w,i32_w]
            rfl
           refine one_ (i:=3) (N:=none) #[true,true,true,true] rfl rfl (by kernel_rfl) (by decide) (fun K hK => ?_)
           have hs34 : w33.cell? ⟨gb160,0,none⟩ = some (.int .i64 x161000_1):=(blk_cell BK160.out 0).trans rfl
           have hfs34:=blk_frozen BK160.out 0
           have hns34_1:=NB167_160.out
           have hns34_2:=NB168_160.out
           have hns34_3:=NB174_160.out
           have hms34_1:=NB160_167.out
           have hms34_2:=NB160_168.out
           have hms34_3:=NB160_174.out
           have hs35 : w33.cell? ⟨gb160,1,none⟩ = some (.int .i64 x161001_1):=(blk_cell BK160.out 1).trans rfl
           have hfs35:=blk_frozen BK160.out 1
           have hns35_1:=NB167_160.out
           have hns35_2:=NB168_160.out
           have hns35_3:=NB174_160.out
           have hms35_1:=NB160_167.out
           have hms35_2:=NB160_168.out
           have hms35_3:=NB160_174.out
           have hs36 : w33.cell? ⟨gb160,2,none⟩ = some (.int .i64 x161002_1):=(blk_cell BK160.out 2).trans rfl
           have hfs36:=blk_frozen BK160.out 2
           have hns36_1:=NB167_160.out
           have hns36_2:=NB168_160.out
           have hns36_3:=NB174_160.out
           have hms36_1:=NB160_167.out
           have hms36_2:=NB160_168.out
           have hms36_3:=NB160_174.out
           refine skip_ (w1:=?_) (by rfl) rfl ?_ ?_
           rotate_left
           ·go_simp
            rfl
           refine hK.out _ _ ⟨((cell_far (p:=⟨gb160,_,none⟩) NB174_160.out _).trans (((cell_far (p:=⟨gb160,_,none⟩) NB174_160.out _).trans (((cell_far (p:=⟨gb160,_,none⟩) NB174_160.out _).trans (hHeld.1)))))),((cell_far (p:=⟨gb160,_,none⟩) NB174_160.out _).trans (((cell_far (p:=⟨gb160,_,none⟩) NB174_160.out _).trans (((cell_far (p:=⟨gb160,_,none⟩) NB174_160.out _).trans (hHeld.2))))))⟩ (fun hHeld => ?_)
           clear hK K
           refine done_ (by kernel_rfl) ?_
           try go_wp2
           refine bodyPost_ret (results_tc rfl _ _ gb160 39 #[.int .i64 4,.int .i64 ((rd_T37 t164 x8_1).f0),.int .i64 ((rd_T37 t164 x8_1).f1)] (0,0) _ rfl (by (with_reducible repeat (first | refine blk_drewN ?_ _ | refine blk_drew ?_ | refine blk_alloc ?_ _));refine blk_put (cs:=#[.int .i64 4,.int .i64 ((rd_T37 t164 x8_1).f0),.int .i64 x161002_1]) ?_ 2 _ rfl;(with_reducible repeat (first | refine blk_drewN ?_ _ | refine blk_drew ?_ | refine blk_alloc ?_ _));refine blk_put (cs:=#[.int .i64 4,.int .i64 x161001_1,.int .i64 x161002_1]) ?_ 1 _ rfl;(with_reducible repeat (first | refine blk_drewN ?_ _ | refine blk_drew ?_ | refine blk_alloc ?_ _));refine blk_put (cs:=#[.int .i64 x161000_1,.int .i64 x161001_1,.int .i64 x161002_1]) ?_ 0 _ rfl;(with_reducible repeat (first | refine blk_drewN ?_ _ | refine blk_drew ?_ | refine blk_alloc ?_ _));exact BK160.out) Tryd.underlying39 rfl (by kernel_rfl)) rfl ?_
           exact ⟨_,by first | rfl | (simp [errW_none,errW_some] <;> rfl) | (simp [*,errW_none,errW_some] <;> rfl),by first | exact Kd.R_nil _ _ _ _ _ | exact Kd.N_nil _ _ _ _ _ | exact Kd.V_nil _ _ _ _ _ | exact Kd.Q_nil _ _ _ _ _ | exact Kd.S_nil _ _ _ _ _,by repeat (first | (with_reducible first | exact HB.out | apply below_alloc | apply pw_below_drewN | apply below_drew1 | refine below_set ?_ GE160.out | refine below_set ?_ GE167.out | refine below_set ?_ GE168.out | refine below_set ?_ GE174.out) | exact HB.out)⟩
          ·replace c31:=Bool.eq_false_iff.mpr c31
           subst c31
           have H1 : (if t171 = 35 then (scan_Tokens.j1 k1 a0 x4_1 true x7_1 (wrap64 (x8_1 + 1)) t170 t171 t161 t164 t172 a0 ((rd_T37 t164 x8_1).f0) ((rd_T37 t164 x8_1).f1)) else (scan_Tokens.j1 k1 a0 x4_1 x6_1 x7_1 (wrap64 (x8_1 + 1)) t170 t171 t161 t164 t172 a0 ((rd_T37 t164 x8_1).f0) ((rd_T37 t164 x8_1).f1))) = some (r1,r2,r3,r4):=by rw [if_neg (show ¬ (false = true) by decide)] at H;exact H
           clear H
           have H:=H1
           clear H1
           by_cases c37 : t171 = 35
           ·rw [if_pos c37] at H
            have c37b0 : (t171 == 35) = true:=beq_iff_eq.mpr c37
            have c37b1 : (t171 != 35) = false:=bne_eq_false_iff_eq.mpr c37
            clear c37
            have H':=Aside0.mk H
            clear H
            go_wp2_with (first | ((with_reducible refine gate_callee (f:=32) rfl ?_);refine goesL_ (some 46) rfl rfl Tryd.func32 (by kernel_rfl) rfl #[.string a0,.int .i64 t170,.int .i32 t171] rfl (by (try simp only [List.map_toArray,List.map_cons,List.map_nil]);first | done | rfl | (simp only [List.length_drop,List.length_take];rfl)) ?_;(with_reducible refine (scan_broken.calls a0 t170 t171 false _ A30.out).mono ?_);rintro e w38 ⟨rfl,hb⟩;refine ⟨_,rfl,?_⟩;have n0_:=Aside0.mk (Kd.R_below (by (with_reducible repeat (first | apply Kd.R_alloc | apply Kd.R_drewN | apply Kd.R_drew));exact (Kd.R_mono (Kd.R_far (p:=⟨gb174,1,none⟩) (Kd.R_far (p:=⟨gb174,0,none⟩) (Kd.R_types HO_4.out BK174.out (by decide)) (fun _ hk => hk.2) (.int .i64 ((rd_T37 t164 x8_1).f0))) (fun _ hk => hk.2) (.int .i64 ((rd_T37 t164 x8_1).f1))) (fun _ h_ => h_.1))) hb);have n1_:=Aside0.mk (Kd.R_below (by (with_reducible repeat (first | apply Kd.R_alloc | apply Kd.R_drewN | apply Kd.R_drew));exact (Kd.R_mono (Kd.R_far (p:=⟨gb174,1,none⟩) (Kd.R_far (p:=⟨gb174,0,none⟩) (Kd.R_types HO_168000.out BK174.out (by decide)) (fun _ hk => hk.2) (.int .i64 ((rd_T37 t164 x8_1).f0))) (fun _ hk => hk.2) (.int .i64 ((rd_T37 t164 x8_1).f1))) (fun _ h_ => h_.1))) hb);have n2_:=Aside0.mk (Kd.R_below (by (with_reducible repeat (first | apply Kd.R_alloc | apply Kd.R_drewN | apply Kd.R_drew));exact (Kd.R_mono (Kd.R_far (p:=⟨gb174,1,none⟩) (Kd.R_far (p:=⟨gb174,0,none⟩) (Kd.R_mono HO_168001.out (fun k_ hk => (⟨hk,hk.2⟩ : _ ∧ k_ ≠ gb174))) (fun _ hk => hk.2) (.int .i64 ((rd_T37 t164 x8_1).f0))) (fun _ hk => hk.2) (.int .i64 ((rd_T37 t164 x8_1).f1))) (fun _ h_ => h_.1))) hb);have n3_:=Aside0.mk (blk_below (g:=gb160) (o:=.cells #[.int .i64 x161000_1,.int .i64 x161001_1,.int .i64 x161002_1] 39 (0,0)) (by (with_reducible repeat (first | refine blk_drewN ?_ _ | refine blk_drew ?_ | refine blk_alloc ?_ _));refine blk_far ?_ NB160_174.out _;(with_reducible repeat (first | refine blk_drewN ?_ _ | refine blk_drew ?_ | refine blk_alloc ?_ _));refine blk_far ?_ NB160_174.out _;(with_reducible repeat (first | refine blk_drewN ?_ _ | refine blk_drew ?_ | refine blk_alloc ?_ _));exact BK160.out) hb);have n4_:=Aside0.mk (blk_below (g:=gb167) (o:=.cells #[.slice Ao9 t161.length co9,.slice (some ad173) t164.length co12] 63 (0,0)) (by (with_reducible repeat (first | refine blk_drewN ?_ _ | refine blk_drew ?_ | refine blk_alloc ?_ _));refine blk_far ?_ NB167_174.out _;(with_reducible repeat (first | refine blk_drewN ?_ _ | refine blk_drew ?_ | refine blk_alloc ?_ _));refine blk_far ?_ NB167_174.out _;(with_reducible repeat (first | refine blk_drewN ?_ _ | refine blk_drew ?_ | refine blk_alloc ?_ _));exact BK167.out) hb);have n5_:=Aside0.mk (blk_below (g:=gb168) (o:=.stringIter a0 (Int.toNat t172)) (by (with_reducible repeat (first | refine blk_drewN ?_ _ | refine blk_drew ?_ | refine blk_alloc ?_ _));refine it_far ?_ NB168_174.out _;(with_reducible repeat (first | refine blk_drewN ?_ _ | refine blk_drew ?_ | refine blk_alloc ?_ _));refine it_far ?_ NB168_174.out _;(with_reducible repeat (first | refine blk_drewN ?_ _ | refine blk_drew ?_ | refine blk_alloc ?_ _));exact BK168.out) hb);have n6_:=Aside0.mk (blk_below (g:=gb174) (o:=.cells #[.int .i64 ((rd_T37 t164 x8_1).f0),.int .i64 ((rd_T37 t164 x8_1).f1)] 37 (0,0)) (by (with_reducible repeat (first | refine blk_drewN ?_ _ | refine blk_drew ?_ | refine blk_alloc ?_ _));refine blk_put (cs:=#[.int .i64 ((rd_T37 t164 x8_1).f0),.int .i64 0]) ?_ 1 _ rfl;(with_reducible repeat (first | refine blk_drewN ?_ _ | refine blk_drew ?_ | refine blk_alloc ?_ _));refine blk_put (cs:=#[.int .i64 0,.int .i64 0]) ?_ 0 _ rfl;(with_reducible repeat (first | refine blk_drewN ?_ _ | refine blk_drew ?_ | refine blk_alloc ?_ _));exact BK174.out) hb);have n7_:=Aside0.mk (below_step (by repeat (first | (with_reducible first | exact HB.out | apply below_alloc | apply pw_below_drewN | apply below_drew1 | refine below_set ?_ GE160.out | refine below_set ?_ GE167.out | refine below_set ?_ GE168.out | refine below_set ?_ GE174.out) | exact HB.out)) hb);clear HO_4;clear HO_168000;clear HO_168001;clear BK160;clear BK167;clear BK168;clear BK174;clear HB;have HO_4:=n0_;have HO_168000:=n1_;have HO_168001:=n2_;have BK160:=n3_;have BK167:=n4_;have BK168:=n5_;have BK174:=n6_;have HB:=n7_;clear n0_ n1_ n2_ n3_ n4_ n5_ n6_ n7_;(try clear hb);(try clear hb2);(try clear hk);(try clear hi)))
            go_meet
            case rel => exact ⟨_,(true),(x161000_1),(x161001_1),(x161002_1),(by first | rfl | (simp;done) | (simp [*];done)),H',⟨by have:=HK1.out;first | omega | exact Nat.le_refl _⟩,⟨by (with_reducible repeat (first | apply Kd.R_alloc | apply Kd.R_drewN | apply Kd.R_drew));exact HO_4.out⟩,⟨by (with_reducible repeat (first | apply Kd.R_alloc | apply Kd.R_drewN | apply Kd.R_drew));exact HO_168000.out⟩,⟨by (with_reducible repeat (first | apply Kd.R_alloc | apply Kd.R_drewN | apply Kd.R_drew));exact Kd.R_mono HO_168001.out (fun _ hk => hk.2)⟩,⟨by (with_reducible repeat (first | refine blk_drewN ?_ _ | refine blk_drew ?_ | refine blk_alloc ?_ _));exact BK160.out⟩,⟨by (with_reducible repeat (first | refine blk_drewN ?_ _ | refine blk_drew ?_ | refine blk_alloc ?_ _));exact BK167.out⟩,⟨by (with_reducible repeat (first | refine blk_drewN ?_ _ | refine blk_drew ?_ | refine blk_alloc ?_ _));exact BK168.out⟩,⟨by (with_reducible repeat (first | refine blk_drewN ?_ _ | refine blk_drew ?_ | refine blk_alloc ?_ _));exact BK174.out⟩,⟨by repeat (first | (with_reducible first | exact HB.out | apply below_alloc | apply pw_below_drewN | apply below_drew1 | refine below_set ?_ GE160.out | refine below_set ?_ GE167.out | refine below_set ?_ GE168.out | refine below_set ?_ GE174.out) | exact HB.out)⟩⟩
           ·rw [if_neg c37] at H
            have c37b0 : (t171 == 35) = false:=beq_eq_false_iff_ne.mpr c37
            have c37b1 : (t171 != 35) = true:=bne_iff_ne.mpr c37
            have H':=Aside0.mk H
            clear H
            go_wp2_with (first | ((with_reducible refine gate_callee (f:=32) rfl ?_);refine goesL_ (some 46) rfl rfl Tryd.func32 (by kernel_rfl) rfl #[.string a0,.int .i64 t170,.int .i32 t171] rfl (by (try simp only [List.map_toArray,List.map_cons,List.map_nil]);first | done | rfl | (simp only [List.length_drop,List.length_take];rfl)) ?_;(with_reducible refine (scan_broken.calls a0 t170 t171 false _ A30.out).mono ?_);rintro e w39 ⟨rfl,hb⟩;refine ⟨_,rfl,?_⟩;have n0_:=Aside0.mk (Kd.R_below (by (with_reducible repeat (first | apply Kd.R_alloc | apply Kd.R_drewN | apply Kd.R_drew));exact (Kd.R_mono (Kd.R_far (p:=⟨gb174,1,none⟩) (Kd.R_far (p:=⟨gb174,0,none⟩) (Kd.R_types HO_4.out BK174.out (by decide)) (fun _ hk => hk.2) (.int .i64 ((rd_T37 t164 x8_1).f0))) (fun _ hk => hk.2) (.int .i64 ((rd_T37 t164 x8_1).f1))) (fun _ h_ => h_.1))) hb);have n1_:=Aside0.mk (Kd.R_below (by (with_reducible repeat (first | apply Kd.R_alloc | apply Kd.R_drewN | apply Kd.R_drew));exact (Kd.R_mono (Kd.R_far (p:=⟨gb174,1,none⟩) (Kd.R_far (p:=⟨gb174,0,none⟩) (Kd.R_types HO_168000.out BK174.out (by decide)) (fun _ hk => hk.2) (.int .i64 ((rd_T37 t164 x8_1).f0))) (fun _ hk => hk.2) (.int .i64 ((rd_T37 t164 x8_1).f1))) (fun _ h_ => h_.1))) hb);have n2_:=Aside0.mk (Kd.R_below (by (with_reducible repeat (first | apply Kd.R_alloc | apply Kd.R_drewN | apply Kd.R_drew));exact (Kd.R_mono (Kd.R_far (p:=⟨gb174,1,none⟩) (Kd.R_far (p:=⟨gb174,0,none⟩) (Kd.R_mono HO_168001.out (fun k_ hk => (⟨hk,hk.2⟩ : _ ∧ k_ ≠ gb174))) (fun _ hk => hk.2) (.int .i64 ((rd_T37 t164 x8_1).f0))) (fun _ hk => hk.2) (.int .i64 ((rd_T37 t164 x8_1).f1))) (fun _ h_ => h_.1))) hb);have n3_:=Aside0.mk (blk_below (g:=gb160) (o:=.cells #[.int .i64 x161000_1,.int .i64 x161001_1,.int .i64 x161002_1] 39 (0,0)) (by (with_reducible repeat (first | refine blk_drewN ?_ _ | refine blk_drew ?_ | refine blk_alloc ?_ _));refine blk_far ?_ NB160_174.out _;(with_reducible repeat (first | refine blk_drewN ?_ _ | refine blk_drew ?_ | refine blk_alloc ?_ _));refine blk_far ?_ NB160_174.out _;(with_reducible repeat (first | refine blk_drewN ?_ _ | refine blk_drew ?_ | refine blk_alloc ?_ _));exact BK160.out) hb);have n4_:=Aside0.mk (blk_below (g:=gb167) (o:=.cells #[.slice Ao9 t161.length co9,.slice (some ad173) t164.length co12] 63 (0,0)) (by (with_reducible repeat (first | refine blk_drewN ?_ _ | refine blk_drew ?_ | refine blk_alloc ?_ _));refine blk_far ?_ NB167_174.out _;(with_reducible repeat (first | refine blk_drewN ?_ _ | refine blk_drew ?_ | refine blk_alloc ?_ _));refine blk_far ?_ NB167_174.out _;(with_reducible repeat (first | refine blk_drewN ?_ _ | refine blk_drew ?_ | refine blk_alloc ?_ _));exact BK167.out) hb);have n5_:=Aside0.mk (blk_below (g:=gb168) (o:=.stringIter a0 (Int.toNat t172)) (by (with_reducible repeat (first | refine blk_drewN ?_ _ | refine blk_drew ?_ | refine blk_alloc ?_ _));refine it_far ?_ NB168_174.out _;(with_reducible repeat (first | refine blk_drewN ?_ _ | refine blk_drew ?_ | refine blk_alloc ?_ _));refine it_far ?_ NB168_174.out _;(with_reducible repeat (first | refine blk_drewN ?_ _ | refine blk_drew ?_ | refine blk_alloc ?_ _));exact BK168.out) hb);have n6_:=Aside0.mk (blk_below (g:=gb174) (o:=.cells #[.int .i64 ((rd_T37 t164 x8_1).f0),.int .i64 ((rd_T37 t164 x8_1).f1)] 37 (0,0)) (by (with_reducible repeat (first | refine blk_drewN ?_ _ | refine blk_drew ?_ | refine blk_alloc ?_ _));refine blk_put (cs:=#[.int .i64 ((rd_T37 t164 x8_1).f0),.int .i64 0]) ?_ 1 _ rfl;(with_reducible repeat (first | refine blk_drewN ?_ _ | refine blk_drew ?_ | refine blk_alloc ?_ _));refine blk_put (cs:=#[.int .i64 0,.int .i64 0]) ?_ 0 _ rfl;(with_reducible repeat (first | refine blk_drewN ?_ _ | refine blk_drew ?_ | refine blk_alloc ?_ _));exact BK174.out) hb);have n7_:=Aside0.mk (below_step (by repeat (first | (with_reducible first | exact HB.out | apply below_alloc | apply pw_below_drewN | apply below_drew1 | refine below_set ?_ GE160.out | refine below_set ?_ GE167.out | refine below_set ?_ GE168.out | refine below_set ?_ GE174.out) | exact HB.out)) hb);clear HO_4;clear HO_168000;clear HO_168001;clear BK160;clear BK167;clear BK168;clear BK174;clear HB;have HO_4:=n0_;have HO_168000:=n1_;have HO_168001:=n2_;have BK160:=n3_;have BK167:=n4_;have BK168:=n5_;have BK174:=n6_;have HB:=n7_;clear n0_ n1_ n2_ n3_ n4_ n5_ n6_ n7_;(try clear hb);(try clear hb2);(try clear hk);(try clear hi)))
            go_meet
            case rel => exact ⟨_,(x6_1),(x161000_1),(x161001_1),(x161002_1),(by first | rfl | (simp;done) | (simp [*];done)),H',⟨by have:=HK1.out;first | omega | exact Nat.le_refl _⟩,⟨by (with_reducible repeat (first | apply Kd.R_alloc | apply Kd.R_drewN | apply Kd.R_drew));exact HO_4.out⟩,⟨by (with_reducible repeat (first | apply Kd.R_alloc | apply Kd.R_drewN | apply Kd.R_drew));exact HO_168000.out⟩,⟨by (with_reducible repeat (first | apply Kd.R_alloc | apply Kd.R_drewN | apply Kd.R_drew));exact Kd.R_mono HO_168001.out (fun _ hk => hk.2)⟩,⟨by (with_reducible repeat (first | refine blk_drewN ?_ _ | refine blk_drew ?_ | refine blk_alloc ?_ _));exact BK160.out⟩,⟨by (with_reducible repeat (first | refine blk_drewN ?_ _ | refine blk_drew ?_ | refine blk_alloc ?_ _));exact BK167.out⟩,⟨by (with_reducible repeat (first | refine blk_drewN ?_ _ | refine blk_drew ?_ | refine blk_alloc ?_ _));exact BK168.out⟩,⟨by (with_reducible repeat (first | refine blk_drewN ?_ _ | refine blk_drew ?_ | refine blk_alloc ?_ _));exact BK174.out⟩,⟨by repeat (first | (with_reducible first | exact HB.out | apply below_alloc | apply pw_below_drewN | apply below_drew1 | refine below_set ?_ GE160.out | refine below_set ?_ GE167.out | refine below_set ?_ GE168.out | refine below_set ?_ GE174.out) | exact HB.out)⟩⟩
       case rest =>
        clear HC18
        try clear c1
        try clear p1
        try clear q1
        try clear hx1
        try clear c2
        try clear c2b0
        try clear c2b1
        try clear p2
        try clear c3
        try clear p6
        try clear c10
        try clear c15
        try clear c16
        try clear c16b0
        try clear c17
        try clear c17b0
        try clear p17
        try clear q17
        try clear hx17
        try clear c20
        try clear c21
        try clear c24
        try clear c25
        try clear c26
        try clear c28
        try clear c28b0
        try clear c29
        try clear c29b0
        try clear c29b1
        try clear c31
        try clear c32
        try clear c37
        try clear c37b0
        try clear c37b1
        try clear hcz11_0
        try clear hcz11_1
        try clear hcz22_0
        try clear hcz22_1
        try clear hcz27_0
        try clear hcz27_1
        try clear hcz4_0
        try clear hcz4_1
        try clear hcz4_2
        try clear hfz11_0
        try clear hfz11_1
        try clear hfz22_0
        try clear hfz22_1
        try clear hfz27_0
        try clear hfz27_1
        try clear hfz4_0
        try clear hfz4_1
        try clear hfz4_2
        try clear hx173_0
        try clear hx173_1
        try clear p173
        try clear p2
        try clear q173
        obtain ⟨kq,x6_17,x161000_17,x161001_17,x161002_17,rfl,HA,HJ17,HO_4,HO_168000,HO_168001,BK160,BK167,BK168,BK174,HB⟩:=hcut
        cases kq with
        | zero => exact absurd HA.out (by simp [scan_Tokens.j1])
        | succ kj17 =>
         have H:=HA.out
         clear HA
         simp only [scan_Tokens.j1] at H
         have HC40:=Aside0.mk H
         clear H
         go_upto_region 18 with (fail)
         go_cut [64] (fun v64 wc => ∃ (kq : Nat) (x64_39 : Bool),v64 = .bool x64_39 ∧ Aside0 (scan_Tokens.j2 kq a0 x4_1 x6_17 x7_1 (wrap64 (x8_1 + 1)) t170 t171 x64_39 t161 t164 t172 a0 ((rd_T37 t164 x8_1).f0) ((rd_T37 t164 x8_1).f1) = some (r1,r2,r3,r4)) ∧ Aside0 (kq ≤ kj17) ∧ Aside0 (Kd.R k48 48 wc w.heap.size (fun _ => True) u4 x4_1) ∧ Aside0 (Kd.R (Kd.int .i64) 3 wc w.heap.size (fun _ => True) (.slice Ao9 t161.length co9) t161) ∧ Aside0 (Kd.R k37 37 wc w.heap.size (fun k_ => k_ ≠ gb174) (.slice (some ad173) t164.length co12) t164) ∧ Aside0 (wc.heap[gb160]? = some (.cells #[.int .i64 x161000_17,.int .i64 x161001_17,.int .i64 x161002_17] 39 (0,0))) ∧ Aside0 (wc.heap[gb167]? = some (.cells #[(.slice Ao9 t161.length co9),(.slice (some ad173) t164.length co12)] 63 (0,0))) ∧ Aside0 (wc.heap[gb168]? = some (.stringIter a0 (Int.toNat t172))) ∧ Aside0 (wc.heap[gb174]? = some (.cells #[.int .i64 ((rd_T37 t164 x8_1).f0),.int .i64 ((rd_T37 t164 x8_1).f1)] 37 (0,0))) ∧ Aside0 (Below w.heap.size w wc))
         case first =>
          have H:=HC40.out
          clear HC40
          by_cases c41 : x6_17 = true
          ·subst c41
           have H1 : (scan_Tokens.j2 kj17 a0 x4_1 true x7_1 (wrap64 (x8_1 + 1)) t170 t171 true t161 t164 t172 a0 ((rd_T37 t164 x8_1).f0) ((rd_T37 t164 x8_1).f1)) = some (r1,r2,r3,r4):=by rw [if_pos rfl] at H;exact H
           clear H
           have H:=H1
           clear H1
           have H':=Aside0.mk H
           clear H
           go_wp2
           go_meet
           case rel => exact ⟨_,(true),(by first | rfl | (simp;done) | (simp [*];done)),H',⟨by have:=HK1.out;have:=HJ17.out;first | omega | exact Nat.le_refl _⟩,⟨by (with_reducible repeat (first | apply Kd.R_alloc | apply Kd.R_drewN | apply Kd.R_drew));exact HO_4.out⟩,⟨by (with_reducible repeat (first | apply Kd.R_alloc | apply Kd.R_drewN | apply Kd.R_drew));exact HO_168000.out⟩,⟨by (with_reducible repeat (first | apply Kd.R_alloc | apply Kd.R_drewN | apply Kd.R_drew));exact HO_168001.out⟩,⟨by (with_reducible repeat (first | refine blk_drewN ?_ _ | refine blk_drew ?_ | refine blk_alloc ?_ _));exact BK160.out⟩,⟨by (with_reducible repeat (first | refine blk_drewN ?_ _ | refine blk_drew ?_ | refine blk_alloc ?_ _));exact BK167.out⟩,⟨by (with_reducible repeat (first | refine blk_drewN ?_ _ | refine blk_drew ?_ | refine blk_alloc ?_ _));exact BK168.out⟩,⟨by (with_reducible repeat (first | refine blk_drewN ?_ _ | refine blk_drew ?_ | refine blk_alloc ?_ _));exact BK174.out⟩,⟨by repeat (first | (with_reducible first | exact HB.out | apply below_alloc | apply pw_below_drewN | apply below_drew1 | refine below_set ?_ GE160.out | refine below_set ?_ GE167.out | refine below_set ?_ GE168.out | refine below_set ?_ GE174.out) | exact HB.out)⟩⟩
          ·replace c41:=Bool.eq_false_iff.mpr c41
           subst c41
           have H1 : (if t171 = 32 then (scan_Tokens.j2 kj17 a0 x4_1 false x7_1 (wrap64 (x8_1 + 1)) t170 t171 true t161 t164 t172 a0 ((rd_T37 t164 x8_1).f0) ((rd_T37 t164 x8_1).f1)) else (if t171 = 9 then (scan_Tokens.j2 kj17 a0 x4_1 false x7_1 (wrap64 (x8_1 + 1)) t170 t171 true t161 t164 t172 a0 ((rd_T37 t164 x8_1).f0) ((rd_T37 t164 x8_1).f1)) else (scan_Tokens.j2 kj17 a0 x4_1 false x7_1 (wrap64 (x8_1 + 1)) t170 t171 (t171 == 13) t161 t164 t172 a0 ((rd_T37 t164 x8_1).f0) ((rd_T37 t164 x8_1).f1)))) = some (r1,r2,r3,r4):=by rw [if_neg (show ¬ (false = true) by decide)] at H;exact H
           clear H
           have H:=H1
           clear H1
           by_cases c42 : t171 = 32
           ·rw [if_pos c42] at H
            have c42b0 : (t171 == 32) = true:=beq_iff_eq.mpr c42
            have c42b1 : (t171 != 32) = false:=bne_eq_false_iff_eq.mpr c42
            clear c42
            (first | rw [c42b0] | (simp only [i64_w,i32_w];rw [c42b0]) | skip)
            have H':=Aside0.mk H
            clear H
            go_wp2
            go_meet
            case rel => exact ⟨_,(true),(by first | rfl | (simp;done) | (simp [*];done)),H',⟨by have:=HK1.out;have:=HJ17.out;first | omega | exact Nat.le_refl _⟩,⟨by (with_reducible repeat (first | apply Kd.R_alloc | apply Kd.R_drewN | apply Kd.R_drew));exact HO_4.out⟩,⟨by (with_reducible repeat (first | apply Kd.R_alloc | apply Kd.R_drewN | apply Kd.R_drew));exact HO_168000.out⟩,⟨by (with_reducible repeat (first | apply Kd.R_alloc | apply Kd.R_drewN | apply Kd.R_drew));exact HO_168001.out⟩,⟨by (with_reducible repeat (first | refine blk_drewN ?_ _ | refine blk_drew ?_ | refine blk_alloc ?_ _));exact BK160.out⟩,⟨by (with_reducible repeat (first | refine blk_drewN ?_ _ | refine blk_drew ?_ | refine blk_alloc ?_ _));exact BK167.out⟩,⟨by (with_reducible repeat (first | refine blk_drewN ?_ _ | refine blk_drew ?_ | refine blk_alloc ?_ _));exact BK168.out⟩,⟨by (with_reducible repeat (first | refine blk_drewN ?_ _ | refine blk_drew ?_ | refine blk_alloc ?_ _));exact BK174.out⟩,⟨by repeat (first | (with_reducible first | exact HB.out | apply below_alloc | apply pw_below_drewN | apply below_drew1 | refine below_set ?_ GE160.out | refine below_set ?_ GE167.out | refine below_set ?_ GE168.out | refine below_set ?_ GE174.out) | exact HB.out)⟩⟩
           ·rw [if_neg c42] at H
            have c42b0 : (t171 == 32) = false:=beq_eq_false_iff_ne.mpr c42
            have c42b1 : (t171 != 32) = true:=bne_iff_ne.mpr c42
            (first | rw [c42b0] | (simp only [i64_w,i32_w];rw [c42b0]) | skip)
            by_cases c43 : t171 = 9
            ·rw [if_pos c43] at H
             have c43b0 : (t171 == 9) = true:=beq_iff_eq.mpr c43
             have c43b1 : (t171 != 9) = false:=bne_eq_false_iff_eq.mpr c43
             clear c43
             have H':=Aside0.mk H
             clear H
             go_wp2
             go_meet
             case rel => exact ⟨_,(true),(by first | rfl | (simp;done) | (simp [*];done)),H',⟨by have:=HK1.out;have:=HJ17.out;first | omega | exact Nat.le_refl _⟩,⟨by (with_reducible repeat (first | apply Kd.R_alloc | apply Kd.R_drewN | apply Kd.R_drew));exact HO_4.out⟩,⟨by (with_reducible repeat (first | apply Kd.R_alloc | apply Kd.R_drewN | apply Kd.R_drew));exact HO_168000.out⟩,⟨by (with_reducible repeat (first | apply Kd.R_alloc | apply Kd.R_drewN | apply Kd.R_drew));exact HO_168001.out⟩,⟨by (with_reducible repeat (first | refine blk_drewN ?_ _ | refine blk_drew ?_ | refine blk_alloc ?_ _));exact BK160.out⟩,⟨by (with_reducible repeat (first | refine blk_drewN ?_ _ | refine blk_drew ?_ | refine blk_alloc ?_ _));exact BK167.out⟩,⟨by (with_reducible repeat (first | refine blk_drewN ?_ _ | refine blk_drew ?_ | refine blk_alloc ?_ _));exact BK168.out⟩,⟨by (with_reducible repeat (first | refine blk_drewN ?_ _ | refine blk_drew ?_ | refine blk_alloc ?_ _));exact BK174.out⟩,⟨by repeat (first | (with_reducible first | exact HB.out | apply below_alloc | apply pw_below_drewN | apply below_drew1 | refine below_set ?_ GE160.out | refine below_set ?_ GE167.out | refine below_set ?_ GE168.out | refine below_set ?_ GE174.out) | exact HB.out)⟩⟩
            ·rw [if_neg c43] at H
             have c43b0 : (t171 == 9) = false:=beq_eq_false_iff_ne.mpr c43
             have c43b1 : (t171 != 9) = true:=bne_iff_ne.mpr c43
             have H':=Aside0.mk H
             clear H
             go_wp2
             go_meet
             case rel => exact ⟨_,((t171 == 13)),(by first | rfl | (simp;done) | (simp [*];done)),H',⟨by have:=HK1.out;have:=HJ17.out;first | omega | exact Nat.le_refl _⟩,⟨by (with_reducible repeat (first | apply Kd.R_alloc | apply Kd.R_drewN | apply Kd.R_drew));exact HO_4.out⟩,⟨by (with_reducible repeat (first | apply Kd.R_alloc | apply Kd.R_drewN | apply Kd.R_drew));exact HO_168000.out⟩,⟨by (with_reducible repeat (first | apply Kd.R_alloc | apply Kd.R_drewN | apply Kd.R_drew));exact HO_168001.out⟩,⟨by (with_reducible repeat (first | refine blk_drewN ?_ _ | refine blk_drew ?_ | refine blk_alloc ?_ _));exact BK160.out⟩,⟨by (with_reducible repeat (first | refine blk_drewN ?_ _ | refine blk_drew ?_ | refine blk_alloc ?_ _));exact BK167.out⟩,⟨by (with_reducible repeat (first | refine blk_drewN ?_ _ | refine blk_drew ?_ | refine blk_alloc ?_ _));exact BK168.out⟩,⟨by (with_reducible repeat (first | refine blk_drewN ?_ _ | refine blk_drew ?_ | refine blk_alloc ?_ _));exact BK174.out⟩,⟨by repeat (first | (with_reducible first | exact HB.out | apply below_alloc | apply pw_below_drewN | apply below_drew1 | refine below_set ?_ GE160.out | refine below_set ?_ GE167.out | refine below_set ?_ GE168.out | refine below_set ?_ GE174.out) | exact HB.out)⟩⟩
         case rest =>
          clear HC40
          try clear c1
          try clear p1
          try clear q1
          try clear hx1
          try clear c2
          try clear c2b0
          try clear c2b1
          try clear p2
          try clear c3
          try clear c4
          try clear p6
          try clear c10
          try clear c15
          try clear c16
          try clear c16b0
          try clear c17
          try clear c17b0
          try clear p17
          try clear q17
          try clear hx17
          try clear c20
          try clear c21
          try clear c24
          try clear c25
          try clear c26
          try clear c28
          try clear c28b0
          try clear c29
          try clear c29b0
          try clear c29b1
          try clear c31
          try clear c32
          try clear c37
          try clear c37b0
          try clear c37b1
          try clear c41
          try clear c42
          try clear c42b0
          try clear c42b1
          try clear c43
          try clear c43b0
          try clear c43b1
          try clear hcz11_0
          try clear hcz11_1
          try clear hcz22_0
          try clear hcz22_1
          try clear hcz27_0
          try clear hcz27_1
          try clear hcz4_0
          try clear hcz4_1
          try clear hcz4_2
          try clear hfz11_0
          try clear hfz11_1
          try clear hfz22_0
          try clear hfz22_1
          try clear hfz27_0
          try clear hfz27_1
          try clear hfz4_0
          try clear hfz4_1
          try clear hfz4_2
          try clear hx173_0
          try clear hx173_1
          try clear p1
          try clear p17
          try clear p173
          try clear p2
          try clear p6
          try clear q1
          try clear q17
          try clear q173
          obtain ⟨kq,x64_39,rfl,HA,HJ39,HO_4,HO_168000,HO_168001,BK160,BK167,BK168,BK174,HB⟩:=hcut
          cases kq with
          | zero => exact absurd HA.out (by simp [scan_Tokens.j2])
          | succ kj39 =>
           have H:=HA.out
           clear HA
           simp only [scan_Tokens.j2] at H
           by_cases c44 : x64_39 = true
           ·subst c44
            have H1 : (scan_Tokens.l0 kj39 a0 x4_1 x6_17 x7_1 (wrap64 (x8_1 + 1)) t161 t164 t172 a0) = some (r1,r2,r3,r4):=by rw [if_pos rfl] at H;exact H
            clear H
            have H:=H1
            clear H1
            have H':=Aside0.mk H
            clear H
            go_wp2
            go_roundg kj39
            case measure => have:=HK1.out;have:=HJ17.out;have:=HJ39.out;omega
            case rel => exact ⟨(x4_1),(x6_17),(x7_1),((wrap64 (x8_1 + 1))),(x161000_17),(x161001_17),(x161002_17),(t172),(by first | rfl | (simp;done) | (simp [*];done)),(by first | rfl | (simp;done) | (simp [*];done)),(by first | rfl | (simp;done) | (simp [*];done)),H',⟨by have:=HK1.out;have:=HJ17.out;have:=HJ39.out;omega⟩,⟨by (with_reducible repeat (first | apply Kd.R_alloc | apply Kd.R_drewN | apply Kd.R_drew));exact HO_4.out⟩,⟨by (with_reducible repeat (first | apply Kd.R_alloc | apply Kd.R_drewN | apply Kd.R_drew));exact HO_168000.out⟩,⟨by (with_reducible repeat (first | apply Kd.R_alloc | apply Kd.R_drewN | apply Kd.R_drew));exact Kd.R_mono HO_168001.out (fun _ hk => trivial)⟩,⟨by (with_reducible repeat (first | refine blk_drewN ?_ _ | refine blk_drew ?_ | refine blk_alloc ?_ _));exact BK160.out⟩,⟨by (with_reducible repeat (first | refine blk_drewN ?_ _ | refine blk_drew ?_ | refine blk_alloc ?_ _));exact BK167.out⟩,⟨by (with_reducible repeat (first | refine blk_drewN ?_ _ | refine blk_drew ?_ | refine blk_alloc ?_ _));exact BK168.out⟩,⟨by repeat (first | (with_reducible first | exact HB.out | apply below_alloc | apply pw_below_drewN | apply below_drew1 | refine below_set ?_ GE160.out | refine below_set ?_ GE167.out | refine below_set ?_ GE168.out | refine below_set ?_ GE174.out) | exact HB.out)⟩⟩
           ·replace c44:=Bool.eq_false_iff.mpr c44
            subst c44
            have H1 : (if 0 ≤ t170 then (if t170 ≤ (a0.size : Int) then ((scan_token.f kj39 (a0.extract (t170 : Int).toNat a0.size) t171).bind fun bt176 => (if bt176.2.2 = 0 then (if t170 ≤ (wrap64 (t170 + bt176.2.1)) then (if (wrap64 (t170 + bt176.2.1)) ≤ (a0.size : Int) then (if x4_1.length < 3518437208883 then (scan_Tokens.l0 kj39 a0 (x4_1 ++ [(⟨bt176.1,a0.extract (t170 : Int).toNat ((wrap64 (t170 + bt176.2.1)) : Int).toNat,(⟨((rd_T37 t164 x8_1).f0),((rd_T37 t164 x8_1).f1)⟩ : S37)⟩ : S48)]) x6_17 (wrap64 (t170 + bt176.2.1)) (wrap64 (x8_1 + 1)) t161 t164 t172 a0) else (none)) else (none)) else (none)) else (some (([] : List (S48)),bt176.2.2,((rd_T37 t164 x8_1).f0),((rd_T37 t164 x8_1).f1))))) else (none)) else (none)) = some (r1,r2,r3,r4):=by rw [if_neg (show ¬ (false = true) by decide)] at H;exact H
            clear H
            have H:=H1
            clear H1
            by_cases c45 : 0 ≤ t170
            ·rw [if_pos c45] at H
             have c45b0:=eq_true c45
             have c45b1 : decide (0 ≤ t170) = true:=decide_eq_true c45
             clear c45
             by_cases c46 : t170 ≤ (a0.size : Int)
             ·rw [if_pos c46] at H
              have c46b0:=eq_true c46
              have c46b1 : decide (t170 ≤ (a0.size : Int)) = true:=decide_eq_true c46
              clear c46
              replace H:=Option.bind_eq_some_iff.mp H
              obtain ⟨⟨t176,t177,t178⟩,A470,H⟩:=H
              replace H : (if t178 = 0 then (if t170 ≤ (wrap64 (t170 + t177)) then (if (wrap64 (t170 + t177)) ≤ (a0.size : Int) then (if x4_1.length < 3518437208883 then (scan_Tokens.l0 kj39 a0 (x4_1 ++ [(⟨t176,a0.extract (t170 : Int).toNat ((wrap64 (t170 + t177)) : Int).toNat,(⟨((rd_T37 t164 x8_1).f0),((rd_T37 t164 x8_1).f1)⟩ : S37)⟩ : S48)]) x6_17 (wrap64 (t170 + t177)) (wrap64 (x8_1 + 1)) t161 t164 t172 a0) else (none)) else (none)) else (none)) else (some (([] : List (S48)),t178,((rd_T37 t164 x8_1).f0),((rd_T37 t164 x8_1).f1)))) = some (r1,r2,r3,r4):=H
              have A47:=Aside0.mk A470
              clear A470
              by_cases c48 : t178 = 0
              ·rw [if_pos c48] at H
               have c48b0 : (t178 == 0) = true:=beq_iff_eq.mpr c48
               have c48b1 : (t178 != 0) = false:=bne_eq_false_iff_eq.mpr c48
               clear c48
               have c49b0:=eq_true (of_decide_eq_true (by first | (with_reducible assumption) | assumption) : 0 ≤ t170)
               by_cases c50 : t170 ≤ (wrap64 (t170 + t177))
               ·rw [if_pos c50] at H
                have c50b0:=eq_true c50
                have c50b1 : decide (t170 ≤ (wrap64 (t170 + t177))) = true:=decide_eq_true c50
                by_cases c51 : (wrap64 (t170 + t177)) ≤ (a0.size : Int)
                ·rw [if_pos c51] at H
                 have c51b0:=eq_true c51
                 have c51b1 : decide ((wrap64 (t170 + t177)) ≤ (a0.size : Int)) = true:=decide_eq_true c51
                 by_cases c52 : x4_1.length < 3518437208883
                 ·rw [if_pos c52] at H
                  have LMc52:=Aside0.mk c52
                  clear c52
                  obtain ⟨y179,hy179⟩ : ∃ y_ : List (S48),y_ = (x4_1 ++ [(⟨t176,a0.extract (t170 : Int).toNat ((wrap64 (t170 + t177)) : Int).toNat,(⟨((rd_T37 t164 x8_1).f0),((rd_T37 t164 x8_1).f1)⟩ : S37)⟩ : S48)]):=⟨_,rfl⟩
                  replace H : (scan_Tokens.l0 kj39 a0 y179 x6_17 (wrap64 (t170 + t177)) (wrap64 (x8_1 + 1)) t161 t164 t172 a0) = some (r1,r2,r3,r4):=by first | (rw [hy179];with_reducible exact H) | (have H2_:=(Option.bind_some _ _).symm.trans H;rw [hy179];with_reducible exact H2_) | (have H2_:=(Option.bind_some _ _).symm.trans H;with_reducible exact H2_) | with_reducible exact H | (rw [hy179];exact H) | exact H
                  have Ny179:=Aside0.mk hy179
                  clear hy179
                  have H':=Aside0.mk H
                  clear H
                  try go_wp2_with (first | ((with_reducible refine gate_callee (f:=33) rfl ?_);refine goesL_ (some 70) rfl rfl Tryd.func33 (by kernel_rfl) rfl #[.string (a0.extract (t170 : Int).toNat a0.size),.int .i32 t171] rfl (by (try simp only [List.map_toArray,List.map_cons,List.map_nil]);first | done | rfl | (simp only [List.length_drop,List.length_take];rfl)) ?_;(with_reducible refine (scan_token.calls kj39 (a0.extract (t170 : Int).toNat a0.size) t171 t176 t177 t178 _ ?side1 A47.out).mono ?_);(case side1 => exact Tabs.below HG.out (by repeat (first | (with_reducible first | exact HB.out | apply below_alloc | apply pw_below_drewN | apply below_drew1 | refine below_set ?_ GE160.out | refine below_set ?_ GE167.out | refine below_set ?_ GE168.out | refine below_set ?_ GE174.out) | exact HB.out)));rintro e w53 ⟨rfl,hb⟩;refine ⟨_,rfl,?_⟩;have n0_:=Aside0.mk (Kd.R_below (by (with_reducible repeat (first | apply Kd.R_alloc | apply Kd.R_drewN | apply Kd.R_drew));exact HO_4.out) hb);have n1_:=Aside0.mk (Kd.R_below (by (with_reducible repeat (first | apply Kd.R_alloc | apply Kd.R_drewN | apply Kd.R_drew));exact HO_168000.out) hb);have n2_:=Aside0.mk (Kd.R_below (by (with_reducible repeat (first | apply Kd.R_alloc | apply Kd.R_drewN | apply Kd.R_drew));exact HO_168001.out) hb);have n3_:=Aside0.mk (blk_below (g:=gb160) (o:=.cells #[.int .i64 x161000_17,.int .i64 x161001_17,.int .i64 x161002_17] 39 (0,0)) (by (with_reducible repeat (first | refine blk_drewN ?_ _ | refine blk_drew ?_ | refine blk_alloc ?_ _));exact BK160.out) hb);have n4_:=Aside0.mk (blk_below (g:=gb167) (o:=.cells #[.slice Ao9 t161.length co9,.slice (some ad173) t164.length co12] 63 (0,0)) (by (with_reducible repeat (first | refine blk_drewN ?_ _ | refine blk_drew ?_ | refine blk_alloc ?_ _));exact BK167.out) hb);have n5_:=Aside0.mk (blk_below (g:=gb168) (o:=.stringIter a0 (Int.toNat t172)) (by (with_reducible repeat (first | refine blk_drewN ?_ _ | refine blk_drew ?_ | refine blk_alloc ?_ _));exact BK168.out) hb);have n6_:=Aside0.mk (blk_below (g:=gb174) (o:=.cells #[.int .i64 ((rd_T37 t164 x8_1).f0),.int .i64 ((rd_T37 t164 x8_1).f1)] 37 (0,0)) (by (with_reducible repeat (first | refine blk_drewN ?_ _ | refine blk_drew ?_ | refine blk_alloc ?_ _));exact BK174.out) hb);have n7_:=Aside0.mk (below_step (by repeat (first | (with_reducible first | exact HB.out | apply below_alloc | apply pw_below_drewN | apply below_drew1 | refine below_set ?_ GE160.out | refine below_set ?_ GE167.out | refine below_set ?_ GE168.out | refine below_set ?_ GE174.out) | exact HB.out)) hb);clear HO_4;clear HO_168000;clear HO_168001;clear BK160;clear BK167;clear BK168;clear BK174;clear HB;have HO_4:=n0_;have HO_168000:=n1_;have HO_168001:=n2_;have BK160:=n3_;have BK167:=n4_;have BK168:=n5_;have BK174:=n6_;have HB:=n7_;clear n0_ n1_ n2_ n3_ n4_ n5_ n6_ n7_;(try clear hb);(try clear hb2);(try clear hk);(try clear hi)))
                  have n0_:=Aside0.mk (Kd.R_drew HO_4.out)
                  have n1_:=Aside0.mk (Kd.R_drew HO_168000.out)
                  have n2_:=Aside0.mk (Kd.R_drew HO_168001.out)
                  have n3_:=Aside0.mk (blk_drew BK160.out)
                  have n4_:=Aside0.mk (blk_drew BK167.out)
                  have n5_:=Aside0.mk (blk_drew BK168.out)
                  have n6_:=Aside0.mk (blk_drew BK174.out)
                  have n7_:=Aside0.mk (below_drew1 HB.out)
                  clear HO_4
                  clear HO_168000
                  clear HO_168001
                  clear BK160
                  clear BK167
                  clear BK168
                  clear BK174
                  clear HB
                  have HO_4:=n0_
                  have HO_168000:=n1_
                  have HO_168001:=n2_
                  have BK160:=n3_
                  have BK167:=n4_
                  have BK168:=n5_
                  have BK174:=n6_
                  have HB:=n7_
                  clear n0_ n1_ n2_ n3_ n4_ n5_ n6_ n7_
                  refine start_ (n:=13) (S:=fun w' => w'.cell? ⟨gb174,0,none⟩ = some (.int .i64 ((rd_T37 t164 x8_1).f0)) ∧ w'.cell? ⟨gb174,1,none⟩ = some (.int .i64 ((rd_T37 t164 x8_1).f1))) (ds:=[]) #[false,false,false,false,false,false,false,false,false,false,false,false,false] (by kernel_rfl) rfl rfl ⟨(blk_cell BK174.out 0).trans rfl,(blk_cell BK174.out 1).trans rfl⟩ (fun hHeld => ?_);refine with_tabW scan_Tokens.tab22 scan_Tokens.bits22 (fun HT_ HW_ => ?_)
                  generalize w53.drew = w54 at HO_4 HO_168000 HO_168001 BK160 BK167 BK168 BK174 HB hHeld ⊢
                  refine pure_ (i:=0) (N:=some 79) (v:=?_) (a':=?_) #[true,false,false,false,false,false,false,false,false,false,false,false,false] rfl rfl (any_of HT_.out (by kernel_rfl)) (fun _ _ _ h => h) (Or.inl ⟨by rfl,?_⟩) ?_ ?_
                  rotate_left
                  ·intro w'
                   go_simp
                   with_reducible rfl
                  rotate_left
                  ·simp only [Act.put,List.setIfInBounds_toArray,List.set_cons_zero,List.set_cons_succ,i64_w,i32_w]
                   rfl
                  refine pure_ (i:=1) (N:=some 80) (v:=?_) (a':=?_) #[true,true,false,false,false,false,false,false,false,false,false,false,false] rfl rfl (any_of HT_.out (by kernel_rfl)) (fun _ _ _ h => h) (Or.inl ⟨by rfl,?_⟩) ?_ ?_
                  rotate_left
                  ·intro w'
                   go_simp
                   with_reducible rfl
                  rotate_left
                  ·simp only [Act.put,List.setIfInBounds_toArray,List.set_cons_zero,List.set_cons_succ,i64_w,i32_w]
                   rfl
                  refine pure_ (i:=2) (N:=some 81) (v:=?_) (a':=?_) #[true,true,true,false,false,false,false,false,false,false,false,false,false] rfl rfl (any_of HT_.out (by kernel_rfl)) (fun _ _ _ h => h) (Or.inl ⟨by rfl,?_⟩) ?_ ?_
                  rotate_left
                  ·intro w'
                   go_simp
                   with_reducible rfl
                  rotate_left
                  ·simp only [Act.put,List.setIfInBounds_toArray,List.set_cons_zero,List.set_cons_succ,i64_w,i32_w]
                   rfl
                  refine pure_ (i:=3) (N:=some 82) (v:=?_) (a':=?_) #[true,true,true,true,false,false,false,false,false,false,false,false,false] rfl rfl (any_of HT_.out (by kernel_rfl)) (fun _ _ _ h => h) (Or.inl ⟨by rfl,?_⟩) ?_ ?_
                  rotate_left
                  ·intro w'
                   go_simp
                   with_reducible rfl
                  rotate_left
                  ·simp only [Act.put,List.setIfInBounds_toArray,List.set_cons_zero,List.set_cons_succ,i64_w,i32_w]
                   rfl
                  refine pure_ (i:=4) (N:=some 83) (v:=?_) (a':=?_) #[true,true,true,true,true,false,false,false,false,false,false,false,false] rfl rfl (any_of HT_.out (by kernel_rfl)) (fun _ _ _ h => h) (Or.inl ⟨by rfl,?_⟩) ?_ ?_
                  rotate_left
                  ·intro w'
                   go_simp
                   with_reducible rfl
                  rotate_left
                  ·simp only [Act.put,List.setIfInBounds_toArray,List.set_cons_zero,List.set_cons_succ,i64_w,i32_w]
                   rfl
                  refine pure_ (i:=5) (N:=some 84) (v:=?_) (a':=?_) #[true,true,true,true,true,true,false,false,false,false,false,false,false] rfl rfl (any_of HT_.out (by kernel_rfl)) (fun _ _ _ h => h) (Or.inl ⟨by rfl,?_⟩) ?_ ?_
                  rotate_left
                  ·intro w'
                   go_simp
                   with_reducible rfl
                  rotate_left
                  ·simp only [Act.put,List.setIfInBounds_toArray,List.set_cons_zero,List.set_cons_succ,i64_w,i32_w]
                   rfl
                  refine pure_ (i:=6) (N:=some 85) (v:=?_) (a':=?_) #[true,true,true,true,true,true,true,false,false,false,false,false,false] rfl rfl (any_of HT_.out (by kernel_rfl)) (fun _ _ _ h => h) (Or.inl ⟨by rfl,?_⟩) ?_ ?_
                  rotate_left
                  ·intro w'
                   go_simp
                   with_reducible rfl
                  rotate_left
                  ·simp only [Act.put,List.setIfInBounds_toArray,List.set_cons_zero,List.set_cons_succ,i64_w,i32_w]
                   rfl
                  refine pure_ (i:=7) (N:=some 86) (v:=?_) (a':=?_) #[true,true,true,true,true,true,true,true,false,false,false,false,false] rfl rfl (any_of HT_.out (by kernel_rfl)) (fun _ _ _ h => h) (Or.inl ⟨by rfl,?_⟩) ?_ ?_
                  rotate_left
                  ·intro w'
                   go_simp
                   with_reducible rfl
                  rotate_left
                  ·simp only [Act.put,List.setIfInBounds_toArray,List.set_cons_zero,List.set_cons_succ,i64_w,i32_w]
                   rfl
                  refine take_ (i:=8) (N:=some 87) (v:=?_) (a':=?_) #[true,true,true,true,true,true,true,true,true,false,false,false,false] rfl rfl (take_ofW HT_.out HW_.out (by kernel_rfl)) (fun _ _ _ h => h) (Or.inl ⟨by rfl,?_⟩) hHeld ?_ ?_
                  rotate_left
                  ·rintro w' ⟨s0,s1⟩
                   go_simp
                   with_reducible rfl
                  rotate_left
                  ·simp only [Act.put,List.setIfInBounds_toArray,List.set_cons_zero,List.set_cons_succ,i64_w,i32_w]
                   rfl
                  refine pure_ (i:=9) (N:=some 88) (v:=?_) (a':=?_) #[true,true,true,true,true,true,true,true,true,true,false,false,false] rfl rfl (any_of HT_.out (by kernel_rfl)) (fun _ _ _ h => h) (Or.inl ⟨by rfl,?_⟩) ?_ ?_
                  rotate_left
                  ·intro w'
                   go_simp
                   with_reducible rfl
                  rotate_left
                  ·simp only [Act.put,List.setIfInBounds_toArray,List.set_cons_zero,List.set_cons_succ,i64_w,i32_w]
                   rfl
                  refine one_ (i:=10) (N:=some 89) #[true,true,true,true,true,true,true,true,true,true,true,false,false] rfl rfl (one_of HT_.out (by kernel_rfl)) (by decide) (fun K hK => ?_)
                  refine value_ (w1:=?_) (v:=?_) (by rfl) rfl ?_ ?_
                  rotate_left 2
                  ·go_simp
                   constructor
                   ·rfl
                   ·rfl
                  refine hK.out _ _ ⟨(blk_cell (blk_alloc BK174.out _) 0).trans rfl,(blk_cell (blk_alloc BK174.out _) 1).trans rfl⟩ (fun hHeld => ?_)
                  clear hK K
                  refine norm_ (a':=?_) ?_ ?_
                  rotate_left
                  ·show Act.put _ (some 89) _ = _
                   simp only [Act.put,List.setIfInBounds_toArray,List.set_cons_zero,List.set_cons_succ,i64_w,i32_w]
                   rfl
                  refine one_ (i:=11) (N:=some 90) #[true,true,true,true,true,true,true,true,true,true,true,true,false] rfl rfl (one_of HT_.out (by kernel_rfl)) (by decide) (fun K hK => ?_)
                  refine Kd.R_append_step k48 (w0:=w) w.heap.size (by rfl) (.tmp 79) (.tmp 89) 35 48 (.agg #[(.int .u8 0),(.string ⟨#[]⟩),(.int .i64 0),(.int .i64 0)]) 40 rfl Tryd.underlying35 info48 rfl (by decide) (by omega) u4 x4_1 (⟨t176,a0.extract (t170 : Int).toNat ((wrap64 (t170 + t177)) : Int).toNat,(⟨((rd_T37 t164 x8_1).f0),((rd_T37 t164 x8_1).f1)⟩ : S37)⟩ : S48) [.int .u8 t176,.string (a0.extract (t170 : Int).toNat ((wrap64 (t170 + t177)) : Int).toNat),.int .i64 ((rd_T37 t164 x8_1).f0),.int .i64 ((rd_T37 t164 x8_1).f1)] (fun _ => True) (fun _ => False) rfl rfl ?aP (fun _ hk => hk.elim) ?aF ?aO ?aB ?aS ?aL ?_
                  (case aP => exact k48_mkM _ _ _ (⟨t176,a0.extract (t170 : Int).toNat ((wrap64 (t170 + t177)) : Int).toNat,(⟨((rd_T37 t164 x8_1).f0),((rd_T37 t164 x8_1).f1)⟩ : S37)⟩ : S48))
                  (case aB => exact (by repeat (first | (with_reducible first | exact HB.out | apply below_alloc | apply pw_below_drewN | apply below_drew1 | refine below_set ?_ GE160.out | refine below_set ?_ GE167.out | refine below_set ?_ GE168.out | refine below_set ?_ GE174.out) | exact HB.out)))
                  (case aF => exact (fun _ _ => trivial))
                  (case aO => exact (by (with_reducible repeat (first | apply Kd.R_alloc | apply Kd.R_drewN | apply Kd.R_drew));exact HO_4.out))
                  (case aS => exact (below_size (by repeat (first | (with_reducible first | exact HB.out | apply below_alloc | apply pw_below_drewN | apply below_drew1 | refine below_set ?_ GE160.out | refine below_set ?_ GE167.out | refine below_set ?_ GE168.out | refine below_set ?_ GE174.out) | exact HB.out))))
                  (case aL => have:=LMc52.out;omega)
                  intro v180 w55 ho hb hg hat
                  rw [← Ny179.out] at ho
                  have n0_:=Aside0.mk (Kd.R_over' (by (with_reducible repeat (first | apply Kd.R_alloc | apply Kd.R_drewN | apply Kd.R_drew));exact HO_168000.out) (Kd.R_typed (by (with_reducible repeat (first | apply Kd.R_alloc | apply Kd.R_drewN | apply Kd.R_drew));exact HO_4.out)) (by decide) hg)
                  have n1_:=Aside0.mk (Kd.R_over' (by (with_reducible repeat (first | apply Kd.R_alloc | apply Kd.R_drewN | apply Kd.R_drew));exact HO_168001.out) (Kd.R_typed (by (with_reducible repeat (first | apply Kd.R_alloc | apply Kd.R_drewN | apply Kd.R_drew));exact HO_4.out)) (by decide) hg)
                  have n2_:=Aside0.mk (blk_grown (g:=gb160) (o:=.cells #[.int .i64 x161000_17,.int .i64 x161001_17,.int .i64 x161002_17] 39 (0,0)) (by (with_reducible repeat (first | refine blk_drewN ?_ _ | refine blk_drew ?_ | refine blk_alloc ?_ _));exact BK160.out) hg (Kd.R_ne HO_4.out BK160.out (by decide)))
                  have n3_:=Aside0.mk (blk_grown (g:=gb167) (o:=.cells #[.slice Ao9 t161.length co9,.slice (some ad173) t164.length co12] 63 (0,0)) (by (with_reducible repeat (first | refine blk_drewN ?_ _ | refine blk_drew ?_ | refine blk_alloc ?_ _));exact BK167.out) hg (Kd.R_ne HO_4.out BK167.out (by decide)))
                  have n4_:=Aside0.mk (blk_grown (g:=gb168) (o:=.stringIter a0 (Int.toNat t172)) (by (with_reducible repeat (first | refine blk_drewN ?_ _ | refine blk_drew ?_ | refine blk_alloc ?_ _));exact BK168.out) hg (neR_it HO_4.out BK168.out))
                  have n5_:=Aside0.mk (blk_grown (g:=gb174) (o:=.cells #[.int .i64 ((rd_T37 t164 x8_1).f0),.int .i64 ((rd_T37 t164 x8_1).f1)] 37 (0,0)) (by (with_reducible repeat (first | refine blk_drewN ?_ _ | refine blk_drew ?_ | refine blk_alloc ?_ _));exact BK174.out) hg (Kd.R_ne HO_4.out BK174.out (by decide)))
                  have n6_:=Aside0.mk (hb)
                  have n7_:=Aside0.mk (ho)
                  clear HO_168000
                  clear HO_168001
                  clear BK160
                  clear BK167
                  clear BK168
                  clear BK174
                  clear HB
                  clear HO_4
                  have HO_168000:=n0_
                  have HO_168001:=n1_
                  have BK160:=n2_
                  have BK167:=n3_
                  have BK168:=n4_
                  have BK174:=n5_
                  have HB:=n6_
                  have HO181:=n7_
                  clear n0_ n1_ n2_ n3_ n4_ n5_ n6_ n7_
                  clear ho hb hg hat
                  refine hK.out _ _ ⟨(blk_cell BK174.out 0).trans rfl,(blk_cell BK174.out 1).trans rfl⟩ (fun hHeld => ?_)
                  clear hK K
                  refine norm_ (a':=?_) ?_ ?_
                  rotate_left
                  ·show Act.put _ (some 90) _ = _
                   simp only [Act.put,List.setIfInBounds_toArray,List.set_cons_zero,List.set_cons_succ,i64_w,i32_w]
                   rfl
                  refine pure_ (i:=12) (N:=some 4) (v:=?_) (a':=?_) #[true,true,true,true,true,true,true,true,true,true,true,true,true] rfl rfl (any_of HT_.out (by kernel_rfl)) (fun _ _ _ h => h) (Or.inl ⟨by rfl,?_⟩) ?_ ?_
                  rotate_left
                  ·intro w'
                   go_simp
                   with_reducible rfl
                  rotate_left
                  ·simp only [Act.put,List.setIfInBounds_toArray,List.set_cons_zero,List.set_cons_succ,i64_w,i32_w]
                   rfl
                  refine done_ (done_of HT_.out (by kernel_rfl)) ?_
                  try go_wp2
                  go_roundg kj39
                  case measure => have:=HK1.out;have:=HJ17.out;have:=HJ39.out;omega
                  case rel => exact ⟨(y179),(x6_17),(wrap64 (t170 + t177)),((wrap64 (x8_1 + 1))),(x161000_17),(x161001_17),(x161002_17),(t172),(by first | rfl | (simp;done) | (simp [*];done)),(by first | rfl | (simp;done) | (simp [*];done)),(by first | rfl | (simp;done) | (simp [*];done)),H',⟨by have:=HK1.out;have:=HJ17.out;have:=HJ39.out;omega⟩,⟨by (with_reducible repeat (first | apply Kd.R_alloc | apply Kd.R_drewN | apply Kd.R_drew));exact HO181.out⟩,⟨by (with_reducible repeat (first | apply Kd.R_alloc | apply Kd.R_drewN | apply Kd.R_drew));exact HO_168000.out⟩,⟨by (with_reducible repeat (first | apply Kd.R_alloc | apply Kd.R_drewN | apply Kd.R_drew));exact Kd.R_mono HO_168001.out (fun _ hk => trivial)⟩,⟨by (with_reducible repeat (first | refine blk_drewN ?_ _ | refine blk_drew ?_ | refine blk_alloc ?_ _));exact BK160.out⟩,⟨by (with_reducible repeat (first | refine blk_drewN ?_ _ | refine blk_drew ?_ | refine blk_alloc ?_ _));exact BK167.out⟩,⟨by (with_reducible repeat (first | refine blk_drewN ?_ _ | refine blk_drew ?_ | refine blk_alloc ?_ _));exact BK168.out⟩,⟨by repeat (first | (with_reducible first | exact HB.out | apply below_alloc | apply pw_below_drewN | apply below_drew1 | refine below_set ?_ GE160.out | refine below_set ?_ GE167.out | refine below_set ?_ GE168.out | refine below_set ?_ GE174.out) | exact HB.out)⟩⟩
                 ·rw [if_neg c52] at H
                  exact absurd H (by simp)
                ·rw [if_neg c51] at H
                 exact absurd H (by simp)
               ·rw [if_neg c50] at H
                exact absurd H (by simp)
              ·rw [if_neg c48] at H
               have c48b0 : (t178 == 0) = false:=beq_eq_false_iff_ne.mpr c48
               have c48b1 : (t178 != 0) = true:=bne_iff_ne.mpr c48
               simp only [Option.some.injEq,Prod.mk.injEq] at H
               obtain ⟨rfl,rfl,rfl,rfl⟩:=H
               try go_wp2_with (first | ((with_reducible refine gate_callee (f:=33) rfl ?_);refine goesL_ (some 70) rfl rfl Tryd.func33 (by kernel_rfl) rfl #[.string (a0.extract (t170 : Int).toNat a0.size),.int .i32 t171] rfl (by (try simp only [List.map_toArray,List.map_cons,List.map_nil]);first | done | rfl | (simp only [List.length_drop,List.length_take];rfl)) ?_;(with_reducible refine (scan_token.calls kj39 (a0.extract (t170 : Int).toNat a0.size) t171 t176 t177 t178 _ ?side1 A47.out).mono ?_);(case side1 => exact Tabs.below HG.out (by repeat (first | (with_reducible first | exact HB.out | apply below_alloc | apply pw_below_drewN | apply below_drew1 | refine below_set ?_ GE160.out | refine below_set ?_ GE167.out | refine below_set ?_ GE168.out | refine below_set ?_ GE174.out) | exact HB.out)));rintro e w56 ⟨rfl,hb⟩;refine ⟨_,rfl,?_⟩;have n0_:=Aside0.mk (Kd.R_below (by (with_reducible repeat (first | apply Kd.R_alloc | apply Kd.R_drewN | apply Kd.R_drew));exact HO_4.out) hb);have n1_:=Aside0.mk (Kd.R_below (by (with_reducible repeat (first | apply Kd.R_alloc | apply Kd.R_drewN | apply Kd.R_drew));exact HO_168000.out) hb);have n2_:=Aside0.mk (Kd.R_below (by (with_reducible repeat (first | apply Kd.R_alloc | apply Kd.R_drewN | apply Kd.R_drew));exact HO_168001.out) hb);have n3_:=Aside0.mk (blk_below (g:=gb160) (o:=.cells #[.int .i64 x161000_17,.int .i64 x161001_17,.int .i64 x161002_17] 39 (0,0)) (by (with_reducible repeat (first | refine blk_drewN ?_ _ | refine blk_drew ?_ | refine blk_alloc ?_ _));exact BK160.out) hb);have n4_:=Aside0.mk (blk_below (g:=gb167) (o:=.cells #[.slice Ao9 t161.length co9,.slice (some ad173) t164.length co12] 63 (0,0)) (by (with_reducible repeat (first | refine blk_drewN ?_ _ | refine blk_drew ?_ | refine blk_alloc ?_ _));exact BK167.out) hb);have n5_:=Aside0.mk (blk_below (g:=gb168) (o:=.stringIter a0 (Int.toNat t172)) (by (with_reducible repeat (first | refine blk_drewN ?_ _ | refine blk_drew ?_ | refine blk_alloc ?_ _));exact BK168.out) hb);have n6_:=Aside0.mk (blk_below (g:=gb174) (o:=.cells #[.int .i64 ((rd_T37 t164 x8_1).f0),.int .i64 ((rd_T37 t164 x8_1).f1)] 37 (0,0)) (by (with_reducible repeat (first | refine blk_drewN ?_ _ | refine blk_drew ?_ | refine blk_alloc ?_ _));exact BK174.out) hb);have n7_:=Aside0.mk (below_step (by repeat (first | (with_reducible first | exact HB.out | apply below_alloc | apply pw_below_drewN | apply below_drew1 | refine below_set ?_ GE160.out | refine below_set ?_ GE167.out | refine below_set ?_ GE168.out | refine below_set ?_ GE174.out) | exact HB.out)) hb);clear HO_4;clear HO_168000;clear HO_168001;clear BK160;clear BK167;clear BK168;clear BK174;clear HB;have HO_4:=n0_;have HO_168000:=n1_;have HO_168001:=n2_;have BK160:=n3_;have BK167:=n4_;have BK168:=n5_;have BK174:=n6_;have HB:=n7_;clear n0_ n1_ n2_ n3_ n4_ n5_ n6_ n7_;(try clear hb);(try clear hb2);(try clear hk);(try clear hi)))
               have n0_:=Aside0.mk (Kd.R_drew HO_4.out)
               have n1_:=Aside0.mk (Kd.R_drew HO_168000.out)
               have n2_:=Aside0.mk (Kd.R_drew HO_168001.out)
               have n3_:=Aside0.mk (blk_drew BK160.out)
               have n4_:=Aside0.mk (blk_drew BK167.out)
               have n5_:=Aside0.mk (blk_drew BK168.out)
               have n6_:=Aside0.mk (blk_drew BK174.out)
               have n7_:=Aside0.mk (below_drew1 HB.out)
               clear HO_4
               clear HO_168000
               clear HO_168001
               clear BK160
               clear BK167
               clear BK168
               clear BK174
               clear HB
               have HO_4:=n0_
               have HO_168000:=n1_
               have HO_168001:=n2_
               have BK160:=n3_
               have BK167:=n4_
               have BK168:=n5_
               have BK174:=n6_
               have HB:=n7_
               clear n0_ n1_ n2_ n3_ n4_ n5_ n6_ n7_
               refine start_ (n:=5) (S:=fun w' => w'.cell? ⟨gb174,0,none⟩ = some (.int .i64 ((rd_T37 t164 x8_1).f0)) ∧ w'.cell? ⟨gb174,1,none⟩ = some (.int .i64 ((rd_T37 t164 x8_1).f1))) (ds:=[]) #[false,false,false,false,false] (by kernel_rfl) rfl rfl ⟨(blk_cell BK174.out 0).trans rfl,(blk_cell BK174.out 1).trans rfl⟩ (fun hHeld => ?_)
               generalize w56.drew = w57 at HO_4 HO_168000 HO_168001 BK160 BK167 BK168 BK174 HB hHeld ⊢
               refine pure_ (i:=0) (N:=some 76) (v:=?_) (a':=?_) #[true,false,false,false,false] rfl rfl (by kernel_rfl) (fun _ _ _ h => h) (Or.inl ⟨by rfl,?_⟩) ?_ ?_
               rotate_left
               ·intro w'
                go_simp
                with_reducible rfl
               rotate_left
               ·simp only [Act.put,List.setIfInBounds_toArray,List.set_cons_zero,List.set_cons_succ,i64_w,i32_w]
                rfl
               refine pure_ (i:=3) (N:=some 2) (v:=?_) (a':=?_) #[true,false,false,true,false] rfl rfl (by kernel_rfl) (fun _ _ _ h => h) (Or.inl ⟨by rfl,?_⟩) ?_ ?_
               rotate_left
               ·intro w'
                go_simp
                with_reducible rfl
               rotate_left
               ·simp only [Act.put,List.setIfInBounds_toArray,List.set_cons_zero,List.set_cons_succ,i64_w,i32_w]
                rfl
               refine take_ (i:=1) (N:=some 77) (v:=?_) (a':=?_) #[true,true,false,true,false] rfl rfl (by kernel_rfl) (fun _ _ _ h => h) (Or.inl ⟨by rfl,?_⟩) hHeld ?_ ?_
               rotate_left
               ·rintro w' ⟨s0,s1⟩
                go_simp
                with_reducible rfl
               rotate_left
               ·simp only [Act.put,List.setIfInBounds_toArray,List.set_cons_zero,List.set_cons_succ,i64_w,i32_w]
                rfl
               refine pure_ (i:=2) (N:=some 78) (v:=?_) (a':=?_) #[true,true,true,true,false] rfl rfl (by kernel_rfl) (fun _ _ _ h => h) (Or.inl ⟨by rfl,?_⟩) ?_ ?_
               rotate_left
               ·intro w'
                go_simp
                with_reducible rfl
               rotate_left
               ·simp only [Act.put,List.setIfInBounds_toArray,List.set_cons_zero,List.set_cons_succ,i64_w,i32_w]
                rfl
               refine one_ (i:=4) (N:=none) #[true,true,true,true,true] rfl rfl (by kernel_rfl) (by decide) (fun K hK => ?_)
               have hs58 : w57.cell? ⟨gb160,0,none⟩ = some (.int .i64 x161000_17):=(blk_cell BK160.out 0).trans rfl
               have hfs58:=blk_frozen BK160.out 0
               have hns58_1:=NB167_160.out
               have hns58_2:=NB168_160.out
               have hns58_3:=NB174_160.out
               have hms58_1:=NB160_167.out
               have hms58_2:=NB160_168.out
               have hms58_3:=NB160_174.out
               have hs59 : w57.cell? ⟨gb160,1,none⟩ = some (.int .i64 x161001_17):=(blk_cell BK160.out 1).trans rfl
               have hfs59:=blk_frozen BK160.out 1
               have hns59_1:=NB167_160.out
               have hns59_2:=NB168_160.out
               have hns59_3:=NB174_160.out
               have hms59_1:=NB160_167.out
               have hms59_2:=NB160_168.out
               have hms59_3:=NB160_174.out
               have hs60 : w57.cell? ⟨gb160,2,none⟩ = some (.int .i64 x161002_17):=(blk_cell BK160.out 2).trans rfl
               have hfs60:=blk_frozen BK160.out 2
               have hns60_1:=NB167_160.out
               have hns60_2:=NB168_160.out
               have hns60_3:=NB174_160.out
               have hms60_1:=NB160_167.out
               have hms60_2:=NB160_168.out
               have hms60_3:=NB160_174.out
               refine skip_ (w1:=?_) (by rfl) rfl ?_ ?_
               rotate_left
               ·go_simp
                rfl
               refine hK.out _ _ ⟨((cell_far (p:=⟨gb160,_,none⟩) NB174_160.out _).trans (((cell_far (p:=⟨gb160,_,none⟩) NB174_160.out _).trans (((cell_far (p:=⟨gb160,_,none⟩) NB174_160.out _).trans (hHeld.1)))))),((cell_far (p:=⟨gb160,_,none⟩) NB174_160.out _).trans (((cell_far (p:=⟨gb160,_,none⟩) NB174_160.out _).trans (((cell_far (p:=⟨gb160,_,none⟩) NB174_160.out _).trans (hHeld.2))))))⟩ (fun hHeld => ?_)
               clear hK K
               refine done_ (by kernel_rfl) ?_
               try go_wp2
               refine bodyPost_ret (results_tc rfl _ _ gb160 39 #[.int .i64 t178,.int .i64 ((rd_T37 t164 x8_1).f0),.int .i64 ((rd_T37 t164 x8_1).f1)] (0,0) _ rfl (by (with_reducible repeat (first | refine blk_drewN ?_ _ | refine blk_drew ?_ | refine blk_alloc ?_ _));refine blk_put (cs:=#[.int .i64 t178,.int .i64 ((rd_T37 t164 x8_1).f0),.int .i64 x161002_17]) ?_ 2 _ rfl;(with_reducible repeat (first | refine blk_drewN ?_ _ | refine blk_drew ?_ | refine blk_alloc ?_ _));refine blk_put (cs:=#[.int .i64 t178,.int .i64 x161001_17,.int .i64 x161002_17]) ?_ 1 _ rfl;(with_reducible repeat (first | refine blk_drewN ?_ _ | refine blk_drew ?_ | refine blk_alloc ?_ _));refine blk_put (cs:=#[.int .i64 x161000_17,.int .i64 x161001_17,.int .i64 x161002_17]) ?_ 0 _ rfl;(with_reducible repeat (first | refine blk_drewN ?_ _ | refine blk_drew ?_ | refine blk_alloc ?_ _));exact BK160.out) Tryd.underlying39 rfl (by kernel_rfl)) rfl ?_
               exact ⟨_,by first | rfl | (simp [errW_none,errW_some] <;> rfl) | (simp [*,errW_none,errW_some] <;> rfl),by first | exact Kd.R_nil _ _ _ _ _ | exact Kd.N_nil _ _ _ _ _ | exact Kd.V_nil _ _ _ _ _ | exact Kd.Q_nil _ _ _ _ _ | exact Kd.S_nil _ _ _ _ _,by repeat (first | (with_reducible first | exact HB.out | apply below_alloc | apply pw_below_drewN | apply below_drew1 | refine below_set ?_ GE160.out | refine below_set ?_ GE167.out | refine below_set ?_ GE168.out | refine below_set ?_ GE174.out) | exact HB.out)⟩
             ·rw [if_neg c46] at H
              exact absurd H (by simp)
            ·rw [if_neg c45] at H
             exact absurd H (by simp)
      ·rw [if_neg c17] at H
       exact absurd H (by simp)
     ·rw [if_neg c16] at H
      exact absurd H (by simp)
    ·replace c15:=Bool.eq_false_iff.mpr c15
     subst c15
     have H1 : (if 0 ≤ (wrap64 ((t164.length : Int) - 1)) then (if (wrap64 ((t164.length : Int) - 1)) < (t164.length : Int) then (if x4_1.length < 3518437208883 then (some ((x4_1 ++ [(⟨0,(⟨#[]⟩ : ByteArray),(⟨(rd_T37 t164 (wrap64 ((t164.length : Int) - 1))).f0,(rd_T37 t164 (wrap64 ((t164.length : Int) - 1))).f1⟩ : S37)⟩ : S48)]),0,0,0)) else (none)) else (none)) else (none)) = some (r1,r2,r3,r4):=by rw [if_neg (show ¬ (false = true) by decide)] at H;exact H
     clear H
     have H:=H1
     clear H1
     obtain ⟨ji61,hji61⟩ : ∃ j_ : Int,(wrap64 ((t164.length : Int) - 1)) = j_:=⟨_,rfl⟩
     replace H : (if 0 ≤ (ji61) then (if (ji61) < (t164.length : Int) then (if x4_1.length < 3518437208883 then (some ((x4_1 ++ [(⟨0,(⟨#[]⟩ : ByteArray),(⟨(rd_T37 t164 (ji61)).f0,(rd_T37 t164 (ji61)).f1⟩ : S37)⟩ : S48)]),0,0,0)) else (none)) else (none)) else (none)) = some (r1,r2,r3,r4):=by first | (rw [hji61] at H;exact H) | (simp only [hji61] at H ⊢;exact H)
     (try rw [hji61] at A14)
     have hji61w : (IntKind.i64.wrap ((t164.length : Int) - 1)) = ji61:=(i64_w _).trans hji61
     by_cases c62 : 0 ≤ (ji61)
     ·rw [if_pos c62] at H
      have c62b0 : decide (0 ≤ (ji61)) = true:=decide_eq_true c62
      clear c62
      by_cases c63 : (ji61) < (t164.length : Int)
      ·rw [if_pos c63] at H
       have c63b0 : decide ((ji61) < (t164.length : Int)) = true:=decide_eq_true c63
       clear c63
       by_cases c64 : x4_1.length < 3518437208883
       ·rw [if_pos c64] at H
        have LMc64:=Aside0.mk c64
        clear c64
        obtain ⟨y183,hy183⟩ : ∃ y_ : List (S48),y_ = (x4_1 ++ [(⟨0,(⟨#[]⟩ : ByteArray),(⟨(rd_T37 t164 (ji61)).f0,(rd_T37 t164 (ji61)).f1⟩ : S37)⟩ : S48)]):=⟨_,rfl⟩
        replace H : (some (y183,0,0,0)) = some (r1,r2,r3,r4):=by first | (rw [hy183];with_reducible exact H) | (have H2_:=(Option.bind_some _ _).symm.trans H;rw [hy183];with_reducible exact H2_) | (have H2_:=(Option.bind_some _ _).symm.trans H;with_reducible exact H2_) | with_reducible exact H | (rw [hy183];exact H) | exact H
        have Ny183:=Aside0.mk hy183
        clear hy183
        simp only [Option.some.injEq,Prod.mk.injEq] at H
        obtain ⟨rfl,rfl,rfl,rfl⟩:=H
        go_wp2_with (first | ((with_reducible refine gate_dst (N:=24) rfl ?_);have hnx_:=fun ty => (run_next_f (P:=Tryd.prog) (k:=gb168) (s:=a0) (p:=x169000_1) (a0:=t170) (c:=t171) (q:=t172) ty (by (with_reducible repeat (first | refine blk_drewN ?_ _ | refine blk_drew ?_ | refine blk_alloc ?_ _));exact BK168.out) A14.out).1;refine next_event_f ?hg (N:=24) ?hd (k:=gb168) (s:=a0) (p:=x169000_1) (a0:=t170) (c:=t171) (q:=t172) (by (with_reducible repeat (first | refine blk_drewN ?_ _ | refine blk_drew ?_ | refine blk_alloc ?_ _));exact BK168.out) A14.out ?hr ?_;(case hd => rfl);(case hg => rfl);(case hr => first | (go_simp;done) | (go_simp;rfl));clear hnx_;intro w65 hg hbox;have n0_:=Aside0.mk (itR (by (with_reducible repeat (first | apply Kd.R_alloc | apply Kd.R_drewN | apply Kd.R_drew));exact HO_4.out) (by (with_reducible repeat (first | refine blk_drewN ?_ _ | refine blk_drew ?_ | refine blk_alloc ?_ _));exact BK168.out) hg);have n1_:=Aside0.mk (itR (by (with_reducible repeat (first | apply Kd.R_alloc | apply Kd.R_drewN | apply Kd.R_drew));exact HO_168000.out) (by (with_reducible repeat (first | refine blk_drewN ?_ _ | refine blk_drew ?_ | refine blk_alloc ?_ _));exact BK168.out) hg);have n2_:=Aside0.mk (itR (by (with_reducible repeat (first | apply Kd.R_alloc | apply Kd.R_drewN | apply Kd.R_drew));exact HO_168001.out) (by (with_reducible repeat (first | refine blk_drewN ?_ _ | refine blk_drew ?_ | refine blk_alloc ?_ _));exact BK168.out) hg);have n3_:=Aside0.mk (blk_grown (g:=gb160) (o:=.cells #[.int .i64 x161000_1,.int .i64 x161001_1,.int .i64 x161002_1] 39 (0,0)) (by (with_reducible repeat (first | refine blk_drewN ?_ _ | refine blk_drew ?_ | refine blk_alloc ?_ _));exact BK160.out) hg (by have h_:=NB160_168.out;intro e_;injection e_ with e_;exact h_ e_));have n4_:=Aside0.mk (blk_grown (g:=gb167) (o:=.cells #[.slice Ao9 t161.length co9,.slice Ao12 t164.length co12] 63 (0,0)) (by (with_reducible repeat (first | refine blk_drewN ?_ _ | refine blk_drew ?_ | refine blk_alloc ?_ _));exact BK167.out) hg (by have h_:=NB167_168.out;intro e_;injection e_ with e_;exact h_ e_));have n5_:=Aside0.mk (hbox);have n6_:=Aside0.mk (pw_below_grown (by repeat (first | (with_reducible first | exact HB.out | apply below_alloc | apply pw_below_drewN | apply below_drew1 | refine below_set ?_ GE160.out | refine below_set ?_ GE167.out | refine below_set ?_ GE168.out) | exact HB.out)) (some gb168) (below_size (by repeat (first | (with_reducible first | exact HB.out | apply below_alloc | apply pw_below_drewN | apply below_drew1 | refine below_set ?_ GE160.out | refine below_set ?_ GE167.out | refine below_set ?_ GE168.out) | exact HB.out))) hg (fun _ e_ => by cases e_;exact GW168.out));clear HO_4;clear HO_168000;clear HO_168001;clear BK160;clear BK167;clear BK168;clear HB;have HO_4:=n0_;have HO_168000:=n1_;have HO_168001:=n2_;have BK160:=n3_;have BK167:=n4_;have BK168:=n5_;have HB:=n6_;clear n0_ n1_ n2_ n3_ n4_ n5_ n6_;clear hg hbox;have hnb66:=NB167_160.out;have hnc66:=NB160_167.out;have hnb67:=NB167_168.out;have hnc67:=NB168_167.out;have hcz68_0 : w65.cell? ⟨gb167,0,none⟩ = some (.slice Ao9 t161.length co9):=(blk_cell BK167.out 0).trans rfl;have hcz68_1 : w65.cell? ⟨gb167,1,none⟩ = some (.slice Ao12 t164.length co12):=(blk_cell BK167.out 1).trans rfl;have hfz68_0:=blk_frozen BK167.out 0;have hfz68_1:=blk_frozen BK167.out 1;have p182 : 0 ≤ ((ji61) : Int):=of_decide_eq_true (by first | (with_reducible assumption) | assumption);have q182 : (ji61) < (t164.length : Int):=of_decide_eq_true (by first | (with_reducible assumption) | assumption);obtain ⟨ad182,e182,hx182_0,hx182_1⟩:=at_T37 (Kd.R_reads' HO_168001.out).2.2 (ji61) p182 q182;cases e182;replace p182:=eq_true p182;replace q182:=eq_true q182) | ((with_reducible refine gate_builtin (b:=.append) (xs:=#[.tmp 94,.tmp 104]) rfl ?_);at_builtin;refine Kd.R_append k48 (w0:=w) w.heap.size rfl (.tmp 94) (.tmp 104) 35 48 (.agg #[(.int .u8 0),(.string ⟨#[]⟩),(.int .i64 0),(.int .i64 0)]) 40 rfl Tryd.underlying35 info48 rfl (by decide) (by omega) u4 x4_1 (⟨0,(⟨#[]⟩ : ByteArray),(⟨(rd_T37 t164 (ji61)).f0,(rd_T37 t164 (ji61)).f1⟩ : S37)⟩ : S48) [.int .u8 0,.string (⟨#[]⟩ : ByteArray),.int .i64 ((rd_T37 t164 (ji61)).f0),.int .i64 ((rd_T37 t164 (ji61)).f1)] (fun _ => True) (fun _ => False) rfl rfl ?aP (fun _ hk => hk.elim) ?aF ?aO ?aB ?aS ?aL ?_;(case aP => exact k48_mkM _ _ _ (⟨0,(⟨#[]⟩ : ByteArray),(⟨(rd_T37 t164 (ji61)).f0,(rd_T37 t164 (ji61)).f1⟩ : S37)⟩ : S48));(case aB => exact (by repeat (first | (with_reducible first | exact HB.out | apply below_alloc | apply pw_below_drewN | apply below_drew1 | refine below_set ?_ GE160.out | refine below_set ?_ GE167.out | refine below_set ?_ GE168.out) | exact HB.out)));(case aF => exact (fun _ _ => trivial));(case aO => exact (by (with_reducible repeat (first | apply Kd.R_alloc | apply Kd.R_drewN | apply Kd.R_drew));exact HO_4.out));(case aS => exact (below_size (by repeat (first | (with_reducible first | exact HB.out | apply below_alloc | apply pw_below_drewN | apply below_drew1 | refine below_set ?_ GE160.out | refine below_set ?_ GE167.out | refine below_set ?_ GE168.out) | exact HB.out))));(case aL => have:=LMc64.out;omega);intro v184 w69 ho hb hg hat;rw [← Ny183.out] at ho;have n0_:=Aside0.mk (Kd.R_over' (by (with_reducible repeat (first | apply Kd.R_alloc | apply Kd.R_drewN | apply Kd.R_drew));exact HO_168000.out) (Kd.R_typed (by (with_reducible repeat (first | apply Kd.R_alloc | apply Kd.R_drewN | apply Kd.R_drew));exact HO_4.out)) (by decide) hg);have n1_:=Aside0.mk (Kd.R_over' (by (with_reducible repeat (first | apply Kd.R_alloc | apply Kd.R_drewN | apply Kd.R_drew));exact HO_168001.out) (Kd.R_typed (by (with_reducible repeat (first | apply Kd.R_alloc | apply Kd.R_drewN | apply Kd.R_drew));exact HO_4.out)) (by decide) hg);have n2_:=Aside0.mk (blk_grown (g:=gb160) (o:=.cells #[.int .i64 x161000_1,.int .i64 x161001_1,.int .i64 x161002_1] 39 (0,0)) (by (with_reducible repeat (first | refine blk_drewN ?_ _ | refine blk_drew ?_ | refine blk_alloc ?_ _));exact BK160.out) hg (Kd.R_ne HO_4.out BK160.out (by decide)));have n3_:=Aside0.mk (blk_grown (g:=gb167) (o:=.cells #[.slice Ao9 t161.length co9,.slice (some ad182) t164.length co12] 63 (0,0)) (by (with_reducible repeat (first | refine blk_drewN ?_ _ | refine blk_drew ?_ | refine blk_alloc ?_ _));exact BK167.out) hg (Kd.R_ne HO_4.out BK167.out (by decide)));have n4_:=Aside0.mk (blk_grown (g:=gb168) (o:=.stringIter a0 (Int.toNat t172)) (by (with_reducible repeat (first | refine blk_drewN ?_ _ | refine blk_drew ?_ | refine blk_alloc ?_ _));exact BK168.out) hg (neR_it HO_4.out BK168.out));have n5_:=Aside0.mk (hb);have n6_:=Aside0.mk (ho);clear HO_168000;clear HO_168001;clear BK160;clear BK167;clear BK168;clear HB;clear HO_4;have HO_168000:=n0_;have HO_168001:=n1_;have BK160:=n2_;have BK167:=n3_;have BK168:=n4_;have HB:=n5_;have HO185:=n6_;clear n0_ n1_ n2_ n3_ n4_ n5_ n6_;clear ho hb hg hat;have hnb70:=NB160_168.out;have hnc70:=NB168_160.out;have hcz71_0 : w69.cell? ⟨gb160,0,none⟩ = some (.int .i64 x161000_1):=(blk_cell BK160.out 0).trans rfl;have hcz71_1 : w69.cell? ⟨gb160,1,none⟩ = some (.int .i64 x161001_1):=(blk_cell BK160.out 1).trans rfl;have hcz71_2 : w69.cell? ⟨gb160,2,none⟩ = some (.int .i64 x161002_1):=(blk_cell BK160.out 2).trans rfl;have hfz71_0:=blk_frozen BK160.out 0;have hfz71_1:=blk_frozen BK160.out 1;have hfz71_2:=blk_frozen BK160.out 2))
        refine bodyPost_ret (results_tc rfl _ _ gb160 39 #[.int .i64 0,.int .i64 0,.int .i64 0] (0,0) _ rfl (by (with_reducible repeat (first | refine blk_drewN ?_ _ | refine blk_drew ?_ | refine blk_alloc ?_ _));refine blk_put (cs:=#[.int .i64 0,.int .i64 0,.int .i64 x161002_1]) ?_ 2 _ rfl;(with_reducible repeat (first | refine blk_drewN ?_ _ | refine blk_drew ?_ | refine blk_alloc ?_ _));refine blk_put (cs:=#[.int .i64 0,.int .i64 x161001_1,.int .i64 x161002_1]) ?_ 1 _ rfl;(with_reducible repeat (first | refine blk_drewN ?_ _ | refine blk_drew ?_ | refine blk_alloc ?_ _));refine blk_put (cs:=#[.int .i64 x161000_1,.int .i64 x161001_1,.int .i64 x161002_1]) ?_ 0 _ rfl;(with_reducible repeat (first | refine blk_drewN ?_ _ | refine blk_drew ?_ | refine blk_alloc ?_ _));exact BK160.out) Tryd.underlying39 rfl (by kernel_rfl)) rfl ?_
        exact ⟨_,by first | rfl | (simp [errW_none,errW_some] <;> rfl) | (simp only [← hji61];first | rfl | (simp [errW_none,errW_some] <;> rfl)) | (simp [*,errW_none,errW_some] <;> rfl),by (with_reducible repeat (first | apply Kd.R_alloc | apply Kd.R_drewN | apply Kd.R_drew));exact Kd.R_mono (Kd.R_far (p:=⟨gb160,2,none⟩) (Kd.R_far (p:=⟨gb160,1,none⟩) (Kd.R_far (p:=⟨gb160,0,none⟩) (Kd.R_types HO185.out BK160.out (by decide)) (fun _ hk => hk.2) (.int .i64 0)) (fun _ hk => hk.2) (.int .i64 0)) (fun _ hk => hk.2) (.int .i64 0)) (fun _ hk => trivial),by repeat (first | (with_reducible first | exact HB.out | apply below_alloc | apply pw_below_drewN | apply below_drew1 | refine below_set ?_ GE160.out | refine below_set ?_ GE167.out | refine below_set ?_ GE168.out) | exact HB.out)⟩
       ·rw [if_neg c64] at H
        exact absurd H (by simp)
      ·rw [if_neg c63] at H
       exact absurd H (by simp)
     ·rw [if_neg c62] at H
      exact absurd H (by simp)

end Go.Proofs.YtgalbiokebghkaaDoor.S
