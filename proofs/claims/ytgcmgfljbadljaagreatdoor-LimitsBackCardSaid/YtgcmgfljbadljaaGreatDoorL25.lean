/- Written by a program of this claim's author (stubprint.py, over the kit's print) out of the translation: Go functions as Lean functions, and that the calls come to them. -/
import Derived.Test.YtgcmgfljbadljaaGreatDoorL0
import Derived.Test.YtgcmgfljbadljaaGreatDoorL24
import Derived.Test.YtgcmgfljbadljaaGreatDoorHandS
import Derived.WalkLawsBesides
namespace Go.Proofs.YtgcmgfljbadljaaGreatDoor.L
open Go.RowKit Go.Proofs.YtgcmgfljbadljaaGreatDoorW.PrintWords Go.Proofs.YtgcmgfljbadljaaGreatDoorW.PrintLast Go.Proofs.YtgcmgfljbadljaaGreatDoorW.PrintMore Go.Proofs.YtgcmgfljbadljaaGreatDoor.HandS Go.Proofs.YtgcmgfljbadljaaGreatDoor.Iter
attribute [local go_sem] max2_int min2_int max_two min_two max_three min_three max_four min_four   -- for this text's walks alone
set_option linter.unusedVariables false
set_option linter.unusedSimpArgs false

attribute [local go_sem high] eqA42
/-! ### joustref30_Same: function 20 -/
mutual
def joustref30_Same.j0 : Nat → Bool → ByteArray → Int → Int → List (S42) → ByteArray → Int → Int → List (S42) → Option (Bool)
 | 0,_,_,_,_,_,_,_,_,_ => none
 | k + 1,x33,x229000,x229001,x229002,x229003,x230000,x230001,x230002,x230003 => if x33 = true then (some false) else (joustref30_Same.l0 k 0 x229000 x229001 x229002 x229003 x230000 x230001 x230002 x230003)
def joustref30_Same.l0 : Nat → Int → ByteArray → Int → Int → List (S42) → ByteArray → Int → Int → List (S42) → Option (Bool)
 | 0,_,_,_,_,_,_,_,_,_ => none
 | k + 1,x5,x229000,x229001,x229002,x229003,x230000,x230001,x230002,x230003 => if x5 < (x229003.length : Int) then (if 0 ≤ x5 then (if x5 < (x230003.length : Int) then (if (!((((rd_T42 x229003 x5).f0).toList) == (((rd_T42 x230003 x5).f0).toList)) || (!(((rd_T42 x229003 x5).f1) == ((rd_T42 x230003 x5).f1)) || (!(((rd_T42 x229003 x5).f2) == ((rd_T42 x230003 x5).f2))))) = true then (some false) else (joustref30_Same.l0 k (wrap64 (x5 + 1)) x229000 x229001 x229002 x229003 x230000 x230001 x230002 x230003)) else (none)) else (none)) else (some true)
end
def joustref30_Same.f (k : Nat) (a0_0 : ByteArray) (a0_1 : Int) (a0_2 : Int) (l0_3 : List (S42)) (a1_0 : ByteArray) (a1_1 : Int) (a1_2 : Int) (l1_3 : List (S42)) : Option (Bool):=if a0_0.toList = a1_0.toList then (if a0_1 = a1_1 then (if a0_2 = a1_2 then (joustref30_Same.j0 k ((l0_3.length : Int) != (l1_3.length : Int)) a0_0 a0_1 a0_2 l0_3 a1_0 a1_1 a1_2 l1_3) else (joustref30_Same.j0 k true a0_0 a0_1 a0_2 l0_3 a1_0 a1_1 a1_2 l1_3)) else (joustref30_Same.j0 k true a0_0 a0_1 a0_2 l0_3 a1_0 a1_1 a1_2 l1_3)) else (joustref30_Same.j0 k true a0_0 a0_1 a0_2 l0_3 a1_0 a1_1 a1_2 l1_3)
theorem joustref30_Same.mono_l : ∀ k,(∀ y0 y1 y2 y3 y4 y5 y6 y7 y8,LeO (joustref30_Same.j0 k y0 y1 y2 y3 y4 y5 y6 y7 y8) (joustref30_Same.j0 (k + 1) y0 y1 y2 y3 y4 y5 y6 y7 y8)) ∧ (∀ y0 y1 y2 y3 y4 y5 y6 y7 y8,LeO (joustref30_Same.l0 k y0 y1 y2 y3 y4 y5 y6 y7 y8) (joustref30_Same.l0 (k + 1) y0 y1 y2 y3 y4 y5 y6 y7 y8))
 | 0 => ⟨fun _ _ _ _ _ _ _ _ _ r h => by simp [joustref30_Same.j0] at h,fun _ _ _ _ _ _ _ _ _ r h => by simp [joustref30_Same.l0] at h⟩
 | k + 1 => by
  obtain ⟨ih0,ih1⟩:=joustref30_Same.mono_l k;refine ⟨?_,?_⟩
  ·intro y0 y1 y2 y3 y4 y5 y6 y7 y8
   unfold joustref30_Same.j0
   repeat' first
   | (with_reducible exact ih0 _ _ _ _ _ _ _ _ _)
   | (with_reducible exact ih1 _ _ _ _ _ _ _ _ _)
   | (with_reducible exact LeO.refl _)
   | (with_reducible exact LeO.none _)
   | (with_reducible refine LeO.ite ?_ ?_)
   | (with_reducible refine LeO.bind ?_ (fun _ => ?_))
   | exact ih0 _ _ _ _ _ _ _ _ _
   | exact ih1 _ _ _ _ _ _ _ _ _
   | exact LeO.none _
   | refine LeO.ite ?_ ?_
   | refine LeO.bind ?_ (fun _ => ?_)
  ·intro y0 y1 y2 y3 y4 y5 y6 y7 y8
   unfold joustref30_Same.l0
   repeat' first
   | (with_reducible exact ih0 _ _ _ _ _ _ _ _ _)
   | (with_reducible exact ih1 _ _ _ _ _ _ _ _ _)
   | (with_reducible exact LeO.refl _)
   | (with_reducible exact LeO.none _)
   | (with_reducible refine LeO.ite ?_ ?_)
   | (with_reducible refine LeO.bind ?_ (fun _ => ?_))
   | exact ih0 _ _ _ _ _ _ _ _ _
   | exact ih1 _ _ _ _ _ _ _ _ _
   | exact LeO.none _
   | refine LeO.ite ?_ ?_
   | refine LeO.bind ?_ (fun _ => ?_)
theorem joustref30_Same.mono : ∀ a0 a1 a2 a3 a4 a5 a6 a7 k,LeO (joustref30_Same.f k a0 a1 a2 a3 a4 a5 a6 a7) (joustref30_Same.f (k + 1) a0 a1 a2 a3 a4 a5 a6 a7):=by
 intro a0 a1 a2 a3 a4 a5 a6 a7 k;obtain ⟨ih0,ih1⟩:=joustref30_Same.mono_l k
 unfold joustref30_Same.f
 repeat' first
   | (with_reducible exact ih0 _ _ _ _ _ _ _ _ _)
   | (with_reducible exact ih1 _ _ _ _ _ _ _ _ _)
   | (with_reducible exact LeO.refl _)
   | (with_reducible exact LeO.none _)
   | (with_reducible refine LeO.ite ?_ ?_)
   | (with_reducible refine LeO.bind ?_ (fun _ => ?_))
   | exact ih0 _ _ _ _ _ _ _ _ _
   | exact ih1 _ _ _ _ _ _ _ _ _
   | exact LeO.none _
   | refine LeO.ite ?_ ?_
   | refine LeO.bind ?_ (fun _ => ?_)
set_option maxHeartbeats 8000000 in
set_option maxRecDepth 100000 in
theorem joustref30_Same.calls (k : Nat) (a0_0 : ByteArray) (a0_1 : Int) (a0_2 : Int) (A0_3 : Option Addr) (c0_3 : Nat) (l0_3 : List (S42)) (a1_0 : ByteArray) (a1_1 : Int) (a1_2 : Int) (A1_3 : Option Addr) (c1_3 : Nat) (l1_3 : List (S42)) (r : Bool) (w : World) (hr0_3 : Kd.C k42 w A0_3 l0_3.length l0_3) (hc0_3 : l0_3.length ≤ c0_3) (hr1_3 : Kd.C k42 w A1_3 l1_3.length l1_3) (hc1_3 : l1_3.length ≤ c1_3) (h : joustref30_Same.f k a0_0 a0_1 a0_2 l0_3 a1_0 a1_1 a1_2 l1_3 = some r) :
  Calls Tryz.prog 20 #[.agg #[.string a0_0,.int .i64 a0_1,.int .i64 a0_2,.slice A0_3 l0_3.length c0_3],.agg #[.string a1_0,.int .i64 a1_1,.int .i64 a1_2,.slice A1_3 l1_3.length c1_3]] w fun e w' => e = .returned (.bool r) ∧ Below w.heap.size w w':=by
 have hu24:=Tryz.underlying24;have hu42:=Tryz.underlying42;have HR0_3:=Aside0.mk hr0_3;have HC0_3:=Aside0.mk hc0_3;clear hr0_3 hc0_3;have HR1_3:=Aside0.mk hr1_3;have HC1_3:=Aside0.mk hc1_3;clear hr1_3 hc1_3;have HB:=Aside0.mk (Below.refl w.heap.size w);have H : (if a0_0.toList = a1_0.toList then (if a0_1 = a1_1 then (if a0_2 = a1_2 then (joustref30_Same.j0 k ((l0_3.length : Int) != (l1_3.length : Int)) a0_0 a0_1 a0_2 l0_3 a1_0 a1_1 a1_2 l1_3) else (joustref30_Same.j0 k true a0_0 a0_1 a0_2 l0_3 a1_0 a1_1 a1_2 l1_3)) else (joustref30_Same.j0 k true a0_0 a0_1 a0_2 l0_3 a1_0 a1_1 a1_2 l1_3)) else (joustref30_Same.j0 k true a0_0 a0_1 a0_2 l0_3 a1_0 a1_1 a1_2 l1_3)) = some r:=h;clear h;have HC3:=Aside0.mk H;clear H
 go_enter Tryz.func20,Tryz.ntmps20
 go_upto_region 1 with (first | ((with_reducible refine gate_dst (N:=2) rfl ?_);(try (refine gate_guard (by rfl) ?_;dsimp only));refine box_event ?hg (N:=2) ?hd (cs:=#[.string a0_0,.int .i64 a0_1,.int .i64 a0_2,.slice A0_3 l0_3.length c0_3]) (t:=24) ?hr ?_;(case hd => rfl);(case hg => rfl);(case hr => first | (go_simp;done) | (go_simp;rfl));intro gb228 hg w4 hbox hb;have n0_:=Aside0.mk (below_step (bl0 HB.out) hb);have n1_:=Aside0.mk (hbox);have n2_:=Aside0.mk ((by rw [hg];exact (below_size (bl0 HB.out)) : w.heap.size ≤ gb228));have n3_:=Aside0.mk ((by rw [hg];exact (below_size (bl0 HB.out)) : w.heap.size ≤ gb228));clear HB;have HB:=n0_;have BK228:=n1_;have GW228:=n2_;have GE228:=n3_;clear n0_ n1_ n2_ n3_;clear hb hbox hg) | ((with_reducible refine gate_dst (N:=3) rfl ?_);(try (refine gate_guard (by rfl) ?_;dsimp only));refine box_event ?hg (N:=3) ?hd (cs:=#[.string a1_0,.int .i64 a1_1,.int .i64 a1_2,.slice A1_3 l1_3.length c1_3]) (t:=24) ?hr ?_;(case hd => rfl);(case hg => rfl);(case hr => first | (go_simp;done) | (go_simp;rfl));intro gb229 hg w5 hbox hb;have n0_:=Aside0.mk (blk_below (g:=gb228) (o:=.cells #[.string a0_0,.int .i64 a0_1,.int .i64 a0_2,.slice A0_3 l0_3.length c0_3] 24 (0,0)) (bk BK228.out) hb);have n1_:=Aside0.mk (below_step (bl1 HB.out GE228.out) hb);have n2_:=Aside0.mk (hbox);have n3_:=Aside0.mk ((by rw [hg];exact (below_size (bl1 HB.out GE228.out)) : w.heap.size ≤ gb229));have n4_:=Aside0.mk ((by rw [hg];exact (below_size (bl1 HB.out GE228.out)) : w.heap.size ≤ gb229));have n5_:=Aside0.mk ((by rw [hg];exact Nat.ne_of_lt (blk_lt (g:=gb228) (o:=.cells #[.string a0_0,.int .i64 a0_1,.int .i64 a0_2,.slice A0_3 l0_3.length c0_3] 24 (0,0)) (bk BK228.out)) : gb228 ≠ gb229));have n6_:=Aside0.mk ((by rw [hg];exact Nat.ne_of_gt (blk_lt (g:=gb228) (o:=.cells #[.string a0_0,.int .i64 a0_1,.int .i64 a0_2,.slice A0_3 l0_3.length c0_3] 24 (0,0)) (bk BK228.out)) : gb229 ≠ gb228));clear BK228;clear HB;have BK228:=n0_;have HB:=n1_;have BK229:=n2_;have GW229:=n3_;have GE229:=n4_;have NB228_229:=n5_;have NB229_228:=n6_;clear n0_ n1_ n2_ n3_ n4_ n5_ n6_;clear hb hbox hg))
 repeat (go_quiet (first | ((with_reducible refine gate_dst (N:=2) rfl ?_);(try (refine gate_guard (by rfl) ?_;dsimp only));refine box_event ?hg (N:=2) ?hd (cs:=#[.string a0_0,.int .i64 a0_1,.int .i64 a0_2,.slice A0_3 l0_3.length c0_3]) (t:=24) ?hr ?_;(case hd => rfl);(case hg => rfl);(case hr => first | (go_simp;done) | (go_simp;rfl));intro gb228 hg w4 hbox hb;have n0_:=Aside0.mk (below_step (bl0 HB.out) hb);have n1_:=Aside0.mk (hbox);have n2_:=Aside0.mk ((by rw [hg];exact (below_size (bl0 HB.out)) : w.heap.size ≤ gb228));have n3_:=Aside0.mk ((by rw [hg];exact (below_size (bl0 HB.out)) : w.heap.size ≤ gb228));clear HB;have HB:=n0_;have BK228:=n1_;have GW228:=n2_;have GE228:=n3_;clear n0_ n1_ n2_ n3_;clear hb hbox hg) | ((with_reducible refine gate_dst (N:=3) rfl ?_);(try (refine gate_guard (by rfl) ?_;dsimp only));refine box_event ?hg (N:=3) ?hd (cs:=#[.string a1_0,.int .i64 a1_1,.int .i64 a1_2,.slice A1_3 l1_3.length c1_3]) (t:=24) ?hr ?_;(case hd => rfl);(case hg => rfl);(case hr => first | (go_simp;done) | (go_simp;rfl));intro gb229 hg w5 hbox hb;have n0_:=Aside0.mk (blk_below (g:=gb228) (o:=.cells #[.string a0_0,.int .i64 a0_1,.int .i64 a0_2,.slice A0_3 l0_3.length c0_3] 24 (0,0)) (bk BK228.out) hb);have n1_:=Aside0.mk (below_step (bl1 HB.out GE228.out) hb);have n2_:=Aside0.mk (hbox);have n3_:=Aside0.mk ((by rw [hg];exact (below_size (bl1 HB.out GE228.out)) : w.heap.size ≤ gb229));have n4_:=Aside0.mk ((by rw [hg];exact (below_size (bl1 HB.out GE228.out)) : w.heap.size ≤ gb229));have n5_:=Aside0.mk ((by rw [hg];exact Nat.ne_of_lt (blk_lt (g:=gb228) (o:=.cells #[.string a0_0,.int .i64 a0_1,.int .i64 a0_2,.slice A0_3 l0_3.length c0_3] 24 (0,0)) (bk BK228.out)) : gb228 ≠ gb229));have n6_:=Aside0.mk ((by rw [hg];exact Nat.ne_of_gt (blk_lt (g:=gb228) (o:=.cells #[.string a0_0,.int .i64 a0_1,.int .i64 a0_2,.slice A0_3 l0_3.length c0_3] 24 (0,0)) (bk BK228.out)) : gb229 ≠ gb228));clear BK228;clear HB;have BK228:=n0_;have HB:=n1_;have BK229:=n2_;have GW229:=n3_;have GE229:=n4_;have NB228_229:=n5_;have NB229_228:=n6_;clear n0_ n1_ n2_ n3_ n4_ n5_ n6_;clear hb hbox hg));go_upto_region 1 with (first | ((with_reducible refine gate_dst (N:=2) rfl ?_);(try (refine gate_guard (by rfl) ?_;dsimp only));refine box_event ?hg (N:=2) ?hd (cs:=#[.string a0_0,.int .i64 a0_1,.int .i64 a0_2,.slice A0_3 l0_3.length c0_3]) (t:=24) ?hr ?_;(case hd => rfl);(case hg => rfl);(case hr => first | (go_simp;done) | (go_simp;rfl));intro gb228 hg w4 hbox hb;have n0_:=Aside0.mk (below_step (bl0 HB.out) hb);have n1_:=Aside0.mk (hbox);have n2_:=Aside0.mk ((by rw [hg];exact (below_size (bl0 HB.out)) : w.heap.size ≤ gb228));have n3_:=Aside0.mk ((by rw [hg];exact (below_size (bl0 HB.out)) : w.heap.size ≤ gb228));clear HB;have HB:=n0_;have BK228:=n1_;have GW228:=n2_;have GE228:=n3_;clear n0_ n1_ n2_ n3_;clear hb hbox hg) | ((with_reducible refine gate_dst (N:=3) rfl ?_);(try (refine gate_guard (by rfl) ?_;dsimp only));refine box_event ?hg (N:=3) ?hd (cs:=#[.string a1_0,.int .i64 a1_1,.int .i64 a1_2,.slice A1_3 l1_3.length c1_3]) (t:=24) ?hr ?_;(case hd => rfl);(case hg => rfl);(case hr => first | (go_simp;done) | (go_simp;rfl));intro gb229 hg w5 hbox hb;have n0_:=Aside0.mk (blk_below (g:=gb228) (o:=.cells #[.string a0_0,.int .i64 a0_1,.int .i64 a0_2,.slice A0_3 l0_3.length c0_3] 24 (0,0)) (bk BK228.out) hb);have n1_:=Aside0.mk (below_step (bl1 HB.out GE228.out) hb);have n2_:=Aside0.mk (hbox);have n3_:=Aside0.mk ((by rw [hg];exact (below_size (bl1 HB.out GE228.out)) : w.heap.size ≤ gb229));have n4_:=Aside0.mk ((by rw [hg];exact (below_size (bl1 HB.out GE228.out)) : w.heap.size ≤ gb229));have n5_:=Aside0.mk ((by rw [hg];exact Nat.ne_of_lt (blk_lt (g:=gb228) (o:=.cells #[.string a0_0,.int .i64 a0_1,.int .i64 a0_2,.slice A0_3 l0_3.length c0_3] 24 (0,0)) (bk BK228.out)) : gb228 ≠ gb229));have n6_:=Aside0.mk ((by rw [hg];exact Nat.ne_of_gt (blk_lt (g:=gb228) (o:=.cells #[.string a0_0,.int .i64 a0_1,.int .i64 a0_2,.slice A0_3 l0_3.length c0_3] 24 (0,0)) (bk BK228.out)) : gb229 ≠ gb228));clear BK228;clear HB;have BK228:=n0_;have HB:=n1_;have BK229:=n2_;have GW229:=n3_;have GE229:=n4_;have NB228_229:=n5_;have NB229_228:=n6_;clear n0_ n1_ n2_ n3_ n4_ n5_ n6_;clear hb hbox hg)))
 (try simp only [Act.put,List.setIfInBounds_toArray,List.set_cons_zero,List.set_cons_succ])
 go_cut [33] (fun v33 wc => ∃ (kq : Nat) (x33_2 : Bool),v33 = .bool x33_2 ∧ Aside0 (joustref30_Same.j0 kq x33_2 a0_0 a0_1 a0_2 l0_3 a1_0 a1_1 a1_2 l1_3 = some r) ∧ Aside0 (kq ≤ k) ∧ Aside0 (wc.heap[gb228]? = some (.cells #[.string a0_0,.int .i64 a0_1,.int .i64 a0_2,(.slice A0_3 l0_3.length c0_3)] 24 (0,0))) ∧ Aside0 (wc.heap[gb229]? = some (.cells #[.string a1_0,.int .i64 a1_1,.int .i64 a1_2,(.slice A1_3 l1_3.length c1_3)] 24 (0,0))) ∧ Aside0 (Below w.heap.size w wc))
 case first =>
  have H:=HC3.out;clear HC3
  by_cases c6 : a0_0.toList = a1_0.toList
  ·rw [if_pos c6] at H;have c6b0 : (a0_0.toList == a1_0.toList) = true:=beq_iff_eq.mpr c6;have c6b1 : (a0_0.toList != a1_0.toList) = false:=bne_eq_false_iff_eq.mpr c6;clear c6
   (first | rw [c6b0] | (simp only [i64_w,i32_w];rw [c6b0]) | skip)
   by_cases c7 : a0_1 = a1_1
   ·rw [if_pos c7] at H;have c7b0 : (a0_1 == a1_1) = true:=beq_iff_eq.mpr c7;have c7b1 : (a0_1 != a1_1) = false:=bne_eq_false_iff_eq.mpr c7;clear c7
    by_cases c8 : a0_2 = a1_2
    ·rw [if_pos c8] at H;have c8b0 : (a0_2 == a1_2) = true:=beq_iff_eq.mpr c8;have c8b1 : (a0_2 != a1_2) = false:=bne_eq_false_iff_eq.mpr c8;clear c8;have H':=Aside0.mk H;clear H;have hnb9:=NB228_229.out;have hnc9:=NB229_228.out;have hcz10_0:=bc BK228.out 0 (.string a0_0) rfl;have hcz10_1:=bc BK228.out 1 (.int .i64 a0_1) rfl;have hcz10_2:=bc BK228.out 2 (.int .i64 a0_2) rfl;have hcz10_3:=bc BK228.out 3 (.slice A0_3 l0_3.length c0_3) rfl;have hfz10_0:=blk_frozen BK228.out 0;have hfz10_1:=blk_frozen BK228.out 1;have hfz10_2:=blk_frozen BK228.out 2;have hfz10_3:=blk_frozen BK228.out 3;have hcz11_0:=bc BK229.out 0 (.string a1_0) rfl;have hcz11_1:=bc BK229.out 1 (.int .i64 a1_1) rfl;have hcz11_2:=bc BK229.out 2 (.int .i64 a1_2) rfl;have hcz11_3:=bc BK229.out 3 (.slice A1_3 l1_3.length c1_3) rfl;have hfz11_0:=blk_frozen BK229.out 0;have hfz11_1:=blk_frozen BK229.out 1;have hfz11_2:=blk_frozen BK229.out 2;have hfz11_3:=blk_frozen BK229.out 3
     go_wp2
     repeat (go_quiet (fail);try go_wp2)
     go_meet
     case rel => exact ⟨_,(((l0_3.length : Int) != (l1_3.length : Int))),(by first | rfl | (simp;done) | (simp [*];done)),H',⟨by first | omega | exact Nat.le_refl _⟩,⟨bk BK228.out⟩,⟨bk BK229.out⟩,⟨bl2 HB.out GE228.out GE229.out⟩⟩
    ·rw [if_neg c8] at H;have c8b0 : (a0_2 == a1_2) = false:=beq_eq_false_iff_ne.mpr c8;have c8b1 : (a0_2 != a1_2) = true:=bne_iff_ne.mpr c8;have H':=Aside0.mk H;clear H;have hnb12:=NB228_229.out;have hnc12:=NB229_228.out;have hcz13_0:=bc BK228.out 0 (.string a0_0) rfl;have hcz13_1:=bc BK228.out 1 (.int .i64 a0_1) rfl;have hcz13_2:=bc BK228.out 2 (.int .i64 a0_2) rfl;have hcz13_3:=bc BK228.out 3 (.slice A0_3 l0_3.length c0_3) rfl;have hfz13_0:=blk_frozen BK228.out 0;have hfz13_1:=blk_frozen BK228.out 1;have hfz13_2:=blk_frozen BK228.out 2;have hfz13_3:=blk_frozen BK228.out 3;have hcz14_0:=bc BK229.out 0 (.string a1_0) rfl;have hcz14_1:=bc BK229.out 1 (.int .i64 a1_1) rfl;have hcz14_2:=bc BK229.out 2 (.int .i64 a1_2) rfl;have hcz14_3:=bc BK229.out 3 (.slice A1_3 l1_3.length c1_3) rfl;have hfz14_0:=blk_frozen BK229.out 0;have hfz14_1:=blk_frozen BK229.out 1;have hfz14_2:=blk_frozen BK229.out 2;have hfz14_3:=blk_frozen BK229.out 3
     go_wp2
     repeat (go_quiet (fail);try go_wp2)
     go_meet
     case rel => exact ⟨_,(true),(by first | rfl | (simp;done) | (simp [*];done)),H',⟨by first | omega | exact Nat.le_refl _⟩,⟨bk BK228.out⟩,⟨bk BK229.out⟩,⟨bl2 HB.out GE228.out GE229.out⟩⟩
   ·rw [if_neg c7] at H;have c7b0 : (a0_1 == a1_1) = false:=beq_eq_false_iff_ne.mpr c7;have c7b1 : (a0_1 != a1_1) = true:=bne_iff_ne.mpr c7;have H':=Aside0.mk H;clear H;have hnb15:=NB228_229.out;have hnc15:=NB229_228.out;have hcz16_0:=bc BK228.out 0 (.string a0_0) rfl;have hcz16_1:=bc BK228.out 1 (.int .i64 a0_1) rfl;have hcz16_2:=bc BK228.out 2 (.int .i64 a0_2) rfl;have hcz16_3:=bc BK228.out 3 (.slice A0_3 l0_3.length c0_3) rfl;have hfz16_0:=blk_frozen BK228.out 0;have hfz16_1:=blk_frozen BK228.out 1;have hfz16_2:=blk_frozen BK228.out 2;have hfz16_3:=blk_frozen BK228.out 3;have hcz17_0:=bc BK229.out 0 (.string a1_0) rfl;have hcz17_1:=bc BK229.out 1 (.int .i64 a1_1) rfl;have hcz17_2:=bc BK229.out 2 (.int .i64 a1_2) rfl;have hcz17_3:=bc BK229.out 3 (.slice A1_3 l1_3.length c1_3) rfl;have hfz17_0:=blk_frozen BK229.out 0;have hfz17_1:=blk_frozen BK229.out 1;have hfz17_2:=blk_frozen BK229.out 2;have hfz17_3:=blk_frozen BK229.out 3
    go_wp2
    repeat (go_quiet (fail);try go_wp2)
    go_meet
    case rel => exact ⟨_,(true),(by first | rfl | (simp;done) | (simp [*];done)),H',⟨by first | omega | exact Nat.le_refl _⟩,⟨bk BK228.out⟩,⟨bk BK229.out⟩,⟨bl2 HB.out GE228.out GE229.out⟩⟩
  ·rw [if_neg c6] at H;have c6b0 : (a0_0.toList == a1_0.toList) = false:=beq_eq_false_iff_ne.mpr c6;have c6b1 : (a0_0.toList != a1_0.toList) = true:=bne_iff_ne.mpr c6
   (first | rw [c6b0] | (simp only [i64_w,i32_w];rw [c6b0]) | skip)
   have H':=Aside0.mk H;clear H;have hnb18:=NB228_229.out;have hnc18:=NB229_228.out;have hcz19_0:=bc BK228.out 0 (.string a0_0) rfl;have hcz19_1:=bc BK228.out 1 (.int .i64 a0_1) rfl;have hcz19_2:=bc BK228.out 2 (.int .i64 a0_2) rfl;have hcz19_3:=bc BK228.out 3 (.slice A0_3 l0_3.length c0_3) rfl;have hfz19_0:=blk_frozen BK228.out 0;have hfz19_1:=blk_frozen BK228.out 1;have hfz19_2:=blk_frozen BK228.out 2;have hfz19_3:=blk_frozen BK228.out 3;have hcz20_0:=bc BK229.out 0 (.string a1_0) rfl;have hcz20_1:=bc BK229.out 1 (.int .i64 a1_1) rfl;have hcz20_2:=bc BK229.out 2 (.int .i64 a1_2) rfl;have hcz20_3:=bc BK229.out 3 (.slice A1_3 l1_3.length c1_3) rfl;have hfz20_0:=blk_frozen BK229.out 0;have hfz20_1:=blk_frozen BK229.out 1;have hfz20_2:=blk_frozen BK229.out 2;have hfz20_3:=blk_frozen BK229.out 3
   go_wp2
   repeat (go_quiet (fail);try go_wp2)
   go_meet
   case rel => exact ⟨_,(true),(by first | rfl | (simp;done) | (simp [*];done)),H',⟨by first | omega | exact Nat.le_refl _⟩,⟨bk BK228.out⟩,⟨bk BK229.out⟩,⟨bl2 HB.out GE228.out GE229.out⟩⟩
 case rest =>
  clear HC3
  try clear c1
  try clear c2
  try clear p2
  try clear c6
  try clear c6b0
  try clear c6b1
  try clear c7
  try clear c7b0
  try clear c7b1
  try clear c8
  try clear c8b0
  try clear c8b1
  try clear c9
  try clear c12
  try clear c15
  try clear c18
  try clear c20
  obtain ⟨kq,x33_2,rfl,HA,HJ2,BK228,BK229,HB⟩:=hcut
  cases kq with
  | zero => exact absurd HA.out (by simp [joustref30_Same.j0])
  | succ kj2 =>
   have H:=HA.out;clear HA;simp only [joustref30_Same.j0] at H
   by_cases c21 : x33_2 = true
   ·subst c21;rw [if_pos rfl] at H;obtain rfl:=Option.some.inj H
    go_wp2
    repeat (go_quiet (fail);try go_wp2)
    go_ret
    exact ⟨by first | rfl | (simp [errW_none,errW_some] <;> rfl) | (simp [*,errW_none,errW_some] <;> rfl),bl2 HB.out GE228.out GE229.out⟩
   ·replace c21:=Bool.eq_false_iff.mpr c21;subst c21;rw [if_neg (show ¬ (false = true) by decide)] at H;have H':=Aside0.mk H;clear H
    go_wp2
    repeat (go_quiet (fail);try go_wp2)
    (try simp only [Act.put,List.setIfInBounds_toArray,List.set_cons_zero,List.set_cons_succ])
    go_loopg [5] kj2 (fun kq v5 w' => ∃ (x5_2 : Int),v5 = .int .i64 x5_2 ∧ Aside0 (joustref30_Same.l0 kq x5_2 a0_0 a0_1 a0_2 l0_3 a1_0 a1_1 a1_2 l1_3 = some r) ∧ Aside0 (kq ≤ kj2) ∧ Aside0 (w'.heap[gb228]? = some (.cells #[.string a0_0,.int .i64 a0_1,.int .i64 a0_2,(.slice A0_3 l0_3.length c0_3)] 24 (0,0))) ∧ Aside0 (w'.heap[gb229]? = some (.cells #[.string a1_0,.int .i64 a1_1,.int .i64 a1_2,(.slice A1_3 l1_3.length c1_3)] 24 (0,0))) ∧ Aside0 (Below w.heap.size w w'))
    case atStart => exact ⟨(0),(by first | rfl | (simp;done) | (simp [*];done)),H',⟨Nat.le_refl _⟩,⟨bk BK228.out⟩,⟨bk BK229.out⟩,⟨bl2 HB.out GE228.out GE229.out⟩⟩
    case round =>
     clear H'
     try clear c1
     try clear c2
     try clear p2
     try clear c6
     try clear c6b0
     try clear c6b1
     try clear c7
     try clear c7b0
     try clear c7b1
     try clear c8
     try clear c8b0
     try clear c8b1
     try clear c9
     try clear c12
     try clear c15
     try clear c18
     try clear c20
     try clear c21
     try clear p2
     obtain ⟨x5_2,rfl,HA,HK2,BK228,BK229,HB⟩:=hrel
     cases gk with
     | zero => exact absurd HA.out (by simp [joustref30_Same.l0])
     | succ k2 =>
      have H:=HA.out;clear HA;simp only [joustref30_Same.l0] at H
      by_cases c22 : x5_2 < (l0_3.length : Int)
      ·rw [if_pos c22] at H;have c22b0 : decide (x5_2 < (l0_3.length : Int)) = true:=decide_eq_true c22;clear c22
       by_cases c23 : 0 ≤ x5_2
       ·rw [if_pos c23] at H;have c23b0 : decide (0 ≤ x5_2) = true:=decide_eq_true c23;clear c23
        by_cases c24 : x5_2 < (l1_3.length : Int)
        ·rw [if_pos c24] at H;have c24b0 : decide (x5_2 < (l1_3.length : Int)) = true:=decide_eq_true c24;clear c24
         by_cases c25 : (!((((rd_T42 l0_3 x5_2).f0).toList) == (((rd_T42 l1_3 x5_2).f0).toList)) || (!(((rd_T42 l0_3 x5_2).f1) == ((rd_T42 l1_3 x5_2).f1)) || (!(((rd_T42 l0_3 x5_2).f2) == ((rd_T42 l1_3 x5_2).f2))))) = true
         ·rw [if_pos c25] at H;have c25b0 : (!((((rd_T42 l0_3 x5_2).f0).toList) == (((rd_T42 l1_3 x5_2).f0).toList)) || (!(((rd_T42 l0_3 x5_2).f1) == ((rd_T42 l1_3 x5_2).f1)) || (!(((rd_T42 l0_3 x5_2).f2) == ((rd_T42 l1_3 x5_2).f2))))) = true:=c25;clear c25;obtain rfl:=Option.some.inj H;have hnb26:=NB228_229.out;have hnc26:=NB229_228.out;have hcz27_0:=bc BK228.out 0 (.string a0_0) rfl;have hcz27_1:=bc BK228.out 1 (.int .i64 a0_1) rfl;have hcz27_2:=bc BK228.out 2 (.int .i64 a0_2) rfl;have hcz27_3:=bc BK228.out 3 (.slice A0_3 l0_3.length c0_3) rfl;have hfz27_0:=blk_frozen BK228.out 0;have hfz27_1:=blk_frozen BK228.out 1;have hfz27_2:=blk_frozen BK228.out 2;have hfz27_3:=blk_frozen BK228.out 3;have p230 : 0 ≤ (x5_2 : Int):=of_decide_eq_true (by first | (with_reducible assumption) | assumption);have q230 : x5_2 < (l0_3.length : Int):=of_decide_eq_true (by first | (with_reducible assumption) | assumption);obtain ⟨ad230,e230,hx230_0,hx230_1,hx230_2⟩:=at_T42 HR0_3.out x5_2 p230 q230
          cases e230
          replace hx230_0:=(HB.out.cell (World.block_lt_of_cell? w _ hx230_0)).trans hx230_0;replace hx230_1:=(HB.out.cell (World.block_lt_of_cell? w _ hx230_1)).trans hx230_1;replace hx230_2:=(HB.out.cell (World.block_lt_of_cell? w _ hx230_2)).trans hx230_2;replace p230:=eq_true p230;replace q230:=eq_true q230;have hcz28_0:=bc BK229.out 0 (.string a1_0) rfl;have hcz28_1:=bc BK229.out 1 (.int .i64 a1_1) rfl;have hcz28_2:=bc BK229.out 2 (.int .i64 a1_2) rfl;have hcz28_3:=bc BK229.out 3 (.slice A1_3 l1_3.length c1_3) rfl;have hfz28_0:=blk_frozen BK229.out 0;have hfz28_1:=blk_frozen BK229.out 1;have hfz28_2:=blk_frozen BK229.out 2;have hfz28_3:=blk_frozen BK229.out 3;have p231 : 0 ≤ (x5_2 : Int):=of_decide_eq_true (by first | (with_reducible assumption) | assumption);have q231 : x5_2 < (l1_3.length : Int):=of_decide_eq_true (by first | (with_reducible assumption) | assumption);obtain ⟨ad231,e231,hx231_0,hx231_1,hx231_2⟩:=at_T42 HR1_3.out x5_2 p231 q231
          cases e231
          replace hx231_0:=(HB.out.cell (World.block_lt_of_cell? w _ hx231_0)).trans hx231_0;replace hx231_1:=(HB.out.cell (World.block_lt_of_cell? w _ hx231_1)).trans hx231_1;replace hx231_2:=(HB.out.cell (World.block_lt_of_cell? w _ hx231_2)).trans hx231_2;replace p231:=eq_true p231;replace q231:=eq_true q231
          go_wp2
          repeat (go_quiet (fail);try go_wp2)
          go_ret
          exact ⟨by first | rfl | (simp [errW_none,errW_some] <;> rfl) | (simp [*,errW_none,errW_some] <;> rfl),bl2 HB.out GE228.out GE229.out⟩
         ·rw [if_neg c25] at H;have c25b0 : (!((((rd_T42 l0_3 x5_2).f0).toList) == (((rd_T42 l1_3 x5_2).f0).toList)) || (!(((rd_T42 l0_3 x5_2).f1) == ((rd_T42 l1_3 x5_2).f1)) || (!(((rd_T42 l0_3 x5_2).f2) == ((rd_T42 l1_3 x5_2).f2))))) = false:=by simpa using c25
          clear c25;have H':=Aside0.mk H;clear H;have hnb29:=NB228_229.out;have hnc29:=NB229_228.out;have hcz30_0:=bc BK228.out 0 (.string a0_0) rfl;have hcz30_1:=bc BK228.out 1 (.int .i64 a0_1) rfl;have hcz30_2:=bc BK228.out 2 (.int .i64 a0_2) rfl;have hcz30_3:=bc BK228.out 3 (.slice A0_3 l0_3.length c0_3) rfl;have hfz30_0:=blk_frozen BK228.out 0;have hfz30_1:=blk_frozen BK228.out 1;have hfz30_2:=blk_frozen BK228.out 2;have hfz30_3:=blk_frozen BK228.out 3;have p230 : 0 ≤ (x5_2 : Int):=of_decide_eq_true (by first | (with_reducible assumption) | assumption);have q230 : x5_2 < (l0_3.length : Int):=of_decide_eq_true (by first | (with_reducible assumption) | assumption);obtain ⟨ad230,e230,hx230_0,hx230_1,hx230_2⟩:=at_T42 HR0_3.out x5_2 p230 q230
          cases e230
          replace hx230_0:=(HB.out.cell (World.block_lt_of_cell? w _ hx230_0)).trans hx230_0;replace hx230_1:=(HB.out.cell (World.block_lt_of_cell? w _ hx230_1)).trans hx230_1;replace hx230_2:=(HB.out.cell (World.block_lt_of_cell? w _ hx230_2)).trans hx230_2;replace p230:=eq_true p230;replace q230:=eq_true q230;have hcz31_0:=bc BK229.out 0 (.string a1_0) rfl;have hcz31_1:=bc BK229.out 1 (.int .i64 a1_1) rfl;have hcz31_2:=bc BK229.out 2 (.int .i64 a1_2) rfl;have hcz31_3:=bc BK229.out 3 (.slice A1_3 l1_3.length c1_3) rfl;have hfz31_0:=blk_frozen BK229.out 0;have hfz31_1:=blk_frozen BK229.out 1;have hfz31_2:=blk_frozen BK229.out 2;have hfz31_3:=blk_frozen BK229.out 3;have p231 : 0 ≤ (x5_2 : Int):=of_decide_eq_true (by first | (with_reducible assumption) | assumption);have q231 : x5_2 < (l1_3.length : Int):=of_decide_eq_true (by first | (with_reducible assumption) | assumption);obtain ⟨ad231,e231,hx231_0,hx231_1,hx231_2⟩:=at_T42 HR1_3.out x5_2 p231 q231
          cases e231
          replace hx231_0:=(HB.out.cell (World.block_lt_of_cell? w _ hx231_0)).trans hx231_0;replace hx231_1:=(HB.out.cell (World.block_lt_of_cell? w _ hx231_1)).trans hx231_1;replace hx231_2:=(HB.out.cell (World.block_lt_of_cell? w _ hx231_2)).trans hx231_2;replace p231:=eq_true p231;replace q231:=eq_true q231
          go_wp2
          repeat (go_quiet (fail);try go_wp2)
          go_roundg k2
          case measure => have:=HJ2.out;have:=HK2.out;omega
          case rel => exact ⟨(wrap64 (x5_2 + 1)),(by first | rfl | (simp;done) | (simp [*];done)),H',⟨by have:=HJ2.out;have:=HK2.out;omega⟩,⟨bk BK228.out⟩,⟨bk BK229.out⟩,⟨bl2 HB.out GE228.out GE229.out⟩⟩
        ·rw [if_neg c24] at H;exact absurd H (by simp)
       ·rw [if_neg c23] at H;exact absurd H (by simp)
      ·rw [if_neg c22] at H;have c22b0 : decide (x5_2 < (l0_3.length : Int)) = false:=decide_eq_false c22;clear c22;obtain rfl:=Option.some.inj H;have hnb32:=NB228_229.out;have hnc32:=NB229_228.out;have hcz33_0:=bc BK228.out 0 (.string a0_0) rfl;have hcz33_1:=bc BK228.out 1 (.int .i64 a0_1) rfl;have hcz33_2:=bc BK228.out 2 (.int .i64 a0_2) rfl;have hcz33_3:=bc BK228.out 3 (.slice A0_3 l0_3.length c0_3) rfl;have hfz33_0:=blk_frozen BK228.out 0;have hfz33_1:=blk_frozen BK228.out 1;have hfz33_2:=blk_frozen BK228.out 2;have hfz33_3:=blk_frozen BK228.out 3
       go_wp2
       repeat (go_quiet (fail);try go_wp2)
       go_ret
       exact ⟨by first | rfl | (simp [errW_none,errW_some] <;> rfl) | (simp [*,errW_none,errW_some] <;> rfl),bl2 HB.out GE228.out GE229.out⟩

end Go.Proofs.YtgcmgfljbadljaaGreatDoor.L
