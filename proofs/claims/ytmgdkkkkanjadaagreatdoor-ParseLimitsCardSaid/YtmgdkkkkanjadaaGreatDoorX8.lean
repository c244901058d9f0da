/- Written by a program of this claim's author (stubprint.py, over the kit's print) out of the translation: Go functions as Lean functions, and that the calls come to them. -/
import Derived.Test.YtmgdkkkkanjadaaGreatDoorX0
import Derived.Test.YtmgdkkkkanjadaaGreatDoorHandS
import Derived.WalkLawsBesides
import Derived.Test.YtmgdkkkkanjadaaGreatDoorHandV
namespace Go.Proofs.YtmgdkkkkanjadaaGreatDoor.X
open Go.RowKit Go.Proofs.YtmgdkkkkanjadaaGreatDoorW.PrintWords Go.Proofs.YtmgdkkkkanjadaaGreatDoorW.PrintLast Go.Proofs.YtmgdkkkkanjadaaGreatDoorW.PrintMore Go.Proofs.YtmgdkkkkanjadaaGreatDoor.HandS Go.Proofs.YtmgdkkkkanjadaaGreatDoor.Iter
attribute [local go_sem] max2_int min2_int max_two min_two max_three min_three max_four min_four   -- for this text's walks alone
set_option linter.unusedVariables false
set_option linter.unusedSimpArgs false

/-! ### joustref00_Card: function 29 -/
mutual
def joustref00_Card.j0 : Nat → Bool → ByteArray → Int → Int → Int → Int → List (S43) → ByteArray → Int → Int → Int → Int → List (S43) → Option (Bool)
 | 0,_,_,_,_,_,_,_,_,_,_,_,_,_ => none
 | k + 1,x5,x187000,x187001,x187002,x187003,x187004,x187005,x188000,x188001,x188002,x188003,x188004,x188005 => joustref00_Card.l0 k x5 0 x187000 x187001 x187002 x187003 x187004 x187005 x188000 x188001 x188002 x188003 x188004 x188005
def joustref00_Card.l0 : Nat → Bool → Int → ByteArray → Int → Int → Int → Int → List (S43) → ByteArray → Int → Int → Int → Int → List (S43) → Option (Bool)
 | 0,_,_,_,_,_,_,_,_,_,_,_,_,_,_ => none
 | k + 1,x5,x6,x187000,x187001,x187002,x187003,x187004,x187005,x188000,x188001,x188002,x188003,x188004,x188005 => if x5 = true then (if x6 < (x187005.length : Int) then (if 0 ≤ x6 then (if x6 < (x188005.length : Int) then ((joustref00_Effect.f ((rd_T43 x187005 x6).f0) ((rd_T43 x187005 x6).f1) ((rd_T43 x187005 x6).f2) ((rd_T43 x187005 x6).f3) ((rd_T43 x187005 x6).f4) ((rd_T43 x187005 x6).f5) ((rd_T43 x187005 x6).f6) ((rd_T43 x187005 x6).f7) ((rd_T43 x187005 x6).f8.f0) ((rd_T43 x187005 x6).f8.f1) ((rd_T43 x187005 x6).f8.f2) ((rd_T43 x187005 x6).f9) ((rd_T43 x188005 x6).f0) ((rd_T43 x188005 x6).f1) ((rd_T43 x188005 x6).f2) ((rd_T43 x188005 x6).f3) ((rd_T43 x188005 x6).f4) ((rd_T43 x188005 x6).f5) ((rd_T43 x188005 x6).f6) ((rd_T43 x188005 x6).f7) ((rd_T43 x188005 x6).f8.f0) ((rd_T43 x188005 x6).f8.f1) ((rd_T43 x188005 x6).f8.f2) ((rd_T43 x188005 x6).f9)).bind fun t190 => (joustref00_Card.l0 k t190 (wrap64 (x6 + 1)) x187000 x187001 x187002 x187003 x187004 x187005 x188000 x188001 x188002 x188003 x188004 x188005)) else (none)) else (none)) else (some x5)) else (some x5)
end
def joustref00_Card.f (k : Nat) (a0_0 : ByteArray) (a0_1 : Int) (a0_2 : Int) (a0_3 : Int) (a0_4 : Int) (l0_5 : List (S43)) (a1_0 : ByteArray) (a1_1 : Int) (a1_2 : Int) (a1_3 : Int) (a1_4 : Int) (l1_5 : List (S43)) : Option (Bool):=if a0_0.toList = a1_0.toList then (if a0_1 = a1_1 then (if a0_2 = a1_2 then (if a0_3 = a1_3 then (if a0_4 = a1_4 then (joustref00_Card.j0 k ((l0_5.length : Int) == (l1_5.length : Int)) a0_0 a0_1 a0_2 a0_3 a0_4 l0_5 a1_0 a1_1 a1_2 a1_3 a1_4 l1_5) else (joustref00_Card.j0 k false a0_0 a0_1 a0_2 a0_3 a0_4 l0_5 a1_0 a1_1 a1_2 a1_3 a1_4 l1_5)) else (joustref00_Card.j0 k false a0_0 a0_1 a0_2 a0_3 a0_4 l0_5 a1_0 a1_1 a1_2 a1_3 a1_4 l1_5)) else (joustref00_Card.j0 k false a0_0 a0_1 a0_2 a0_3 a0_4 l0_5 a1_0 a1_1 a1_2 a1_3 a1_4 l1_5)) else (joustref00_Card.j0 k false a0_0 a0_1 a0_2 a0_3 a0_4 l0_5 a1_0 a1_1 a1_2 a1_3 a1_4 l1_5)) else (joustref00_Card.j0 k false a0_0 a0_1 a0_2 a0_3 a0_4 l0_5 a1_0 a1_1 a1_2 a1_3 a1_4 l1_5)
theorem joustref00_Card.mono_l : ∀ k,(∀ y0 y1 y2 y3 y4 y5 y6 y7 y8 y9 y10 y11 y12,LeO (joustref00_Card.j0 k y0 y1 y2 y3 y4 y5 y6 y7 y8 y9 y10 y11 y12) (joustref00_Card.j0 (k + 1) y0 y1 y2 y3 y4 y5 y6 y7 y8 y9 y10 y11 y12)) ∧ (∀ y0 y1 y2 y3 y4 y5 y6 y7 y8 y9 y10 y11 y12 y13,LeO (joustref00_Card.l0 k y0 y1 y2 y3 y4 y5 y6 y7 y8 y9 y10 y11 y12 y13) (joustref00_Card.l0 (k + 1) y0 y1 y2 y3 y4 y5 y6 y7 y8 y9 y10 y11 y12 y13))
 | 0 => ⟨fun _ _ _ _ _ _ _ _ _ _ _ _ _ r h => by simp [joustref00_Card.j0] at h,fun _ _ _ _ _ _ _ _ _ _ _ _ _ _ r h => by simp [joustref00_Card.l0] at h⟩
 | k + 1 => by
  obtain ⟨ih0,ih1⟩:=joustref00_Card.mono_l k;refine ⟨?_,?_⟩
  ·intro y0 y1 y2 y3 y4 y5 y6 y7 y8 y9 y10 y11 y12
   unfold joustref00_Card.j0
   repeat' first
   | (with_reducible exact ih0 _ _ _ _ _ _ _ _ _ _ _ _ _)
   | (with_reducible exact ih1 _ _ _ _ _ _ _ _ _ _ _ _ _ _)
   | (with_reducible exact LeO.refl _)
   | (with_reducible exact LeO.none _)
   | (with_reducible refine LeO.ite ?_ ?_)
   | (with_reducible refine LeO.bind ?_ (fun _ => ?_))
   | exact ih0 _ _ _ _ _ _ _ _ _ _ _ _ _
   | exact ih1 _ _ _ _ _ _ _ _ _ _ _ _ _ _
   | exact LeO.none _
   | refine LeO.ite ?_ ?_
   | refine LeO.bind ?_ (fun _ => ?_)
  ·intro y0 y1 y2 y3 y4 y5 y6 y7 y8 y9 y10 y11 y12 y13
   unfold joustref00_Card.l0
   repeat' first
   | (with_reducible exact ih0 _ _ _ _ _ _ _ _ _ _ _ _ _)
   | (with_reducible exact ih1 _ _ _ _ _ _ _ _ _ _ _ _ _ _)
   | (with_reducible exact LeO.refl _)
   | (with_reducible exact LeO.none _)
   | (with_reducible refine LeO.ite ?_ ?_)
   | (with_reducible refine LeO.bind ?_ (fun _ => ?_))
   | exact ih0 _ _ _ _ _ _ _ _ _ _ _ _ _
   | exact ih1 _ _ _ _ _ _ _ _ _ _ _ _ _ _
   | exact LeO.none _
   | refine LeO.ite ?_ ?_
   | refine LeO.bind ?_ (fun _ => ?_)
theorem joustref00_Card.mono : ∀ a0 a1 a2 a3 a4 a5 a6 a7 a8 a9 a10 a11 k,LeO (joustref00_Card.f k a0 a1 a2 a3 a4 a5 a6 a7 a8 a9 a10 a11) (joustref00_Card.f (k + 1) a0 a1 a2 a3 a4 a5 a6 a7 a8 a9 a10 a11):=by
 intro a0 a1 a2 a3 a4 a5 a6 a7 a8 a9 a10 a11 k;obtain ⟨ih0,ih1⟩:=joustref00_Card.mono_l k
 unfold joustref00_Card.f
 repeat' first
   | (with_reducible exact ih0 _ _ _ _ _ _ _ _ _ _ _ _ _)
   | (with_reducible exact ih1 _ _ _ _ _ _ _ _ _ _ _ _ _ _)
   | (with_reducible exact LeO.refl _)
   | (with_reducible exact LeO.none _)
   | (with_reducible refine LeO.ite ?_ ?_)
   | (with_reducible refine LeO.bind ?_ (fun _ => ?_))
   | exact ih0 _ _ _ _ _ _ _ _ _ _ _ _ _
   | exact ih1 _ _ _ _ _ _ _ _ _ _ _ _ _ _
   | exact LeO.none _
   | refine LeO.ite ?_ ?_
   | refine LeO.bind ?_ (fun _ => ?_)
def joustref00_Card.T5 : Bool × List (List Nat × List Nat):=(true,[([],[]),([0],[0]),([],[]),([1,2],[1,2]),([3],[3]),([],[]),([5],[5]),([],[]),([6,7],[6,7]),([8],[8]),([4,9],[4,9]),([10,10,0,1,2,3,4,5,6,7,8,9,10],[10])])
def joustref00_Card.B5 : List Nat:=[0,1,0,7,15,0,32,0,224,480,1023,2047]
theorem joustref00_Card.tab5 : rtab .any (opsOf Tryz.f29 5) = joustref00_Card.T5:=by kernel_rfl
theorem joustref00_Card.bits5 : waitsOk joustref00_Card.T5.2 joustref00_Card.B5 = true:=by kernel_rfl
set_option maxHeartbeats 8000000 in
set_option maxRecDepth 100000 in
theorem joustref00_Card.calls (k : Nat) (a0_0 : ByteArray) (a0_1 : Int) (a0_2 : Int) (a0_3 : Int) (a0_4 : Int) (A0_5 : Option Addr) (c0_5 : Nat) (l0_5 : List (S43)) (a1_0 : ByteArray) (a1_1 : Int) (a1_2 : Int) (a1_3 : Int) (a1_4 : Int) (A1_5 : Option Addr) (c1_5 : Nat) (l1_5 : List (S43)) (r : Bool) (w : World) (hr0_5 : Kd.C k43 w A0_5 l0_5.length l0_5) (hc0_5 : l0_5.length ≤ c0_5) (hr1_5 : Kd.C k43 w A1_5 l1_5.length l1_5) (hc1_5 : l1_5.length ≤ c1_5) (h : joustref00_Card.f k a0_0 a0_1 a0_2 a0_3 a0_4 l0_5 a1_0 a1_1 a1_2 a1_3 a1_4 l1_5 = some r) :
  Calls Tryz.prog 29 #[.agg #[.string a0_0,.int .u8 a0_1,.int .i64 a0_2,.int .i64 a0_3,.int .i64 a0_4,.slice A0_5 l0_5.length c0_5],.agg #[.string a1_0,.int .u8 a1_1,.int .i64 a1_2,.int .i64 a1_3,.int .i64 a1_4,.slice A1_5 l1_5.length c1_5]] w fun e w' => e = .returned (.bool r) ∧ Below w.heap.size w w':=by
 have hu38:=Tryz.underlying38;have hu43:=Tryz.underlying43;have HR0_5:=Aside0.mk hr0_5;have HC0_5:=Aside0.mk hc0_5;clear hr0_5 hc0_5;have HR1_5:=Aside0.mk hr1_5;have HC1_5:=Aside0.mk hc1_5;clear hr1_5 hc1_5;have HB:=Aside0.mk (Below.refl w.heap.size w);have H : (if a0_0.toList = a1_0.toList then (if a0_1 = a1_1 then (if a0_2 = a1_2 then (if a0_3 = a1_3 then (if a0_4 = a1_4 then (joustref00_Card.j0 k ((l0_5.length : Int) == (l1_5.length : Int)) a0_0 a0_1 a0_2 a0_3 a0_4 l0_5 a1_0 a1_1 a1_2 a1_3 a1_4 l1_5) else (joustref00_Card.j0 k false a0_0 a0_1 a0_2 a0_3 a0_4 l0_5 a1_0 a1_1 a1_2 a1_3 a1_4 l1_5)) else (joustref00_Card.j0 k false a0_0 a0_1 a0_2 a0_3 a0_4 l0_5 a1_0 a1_1 a1_2 a1_3 a1_4 l1_5)) else (joustref00_Card.j0 k false a0_0 a0_1 a0_2 a0_3 a0_4 l0_5 a1_0 a1_1 a1_2 a1_3 a1_4 l1_5)) else (joustref00_Card.j0 k false a0_0 a0_1 a0_2 a0_3 a0_4 l0_5 a1_0 a1_1 a1_2 a1_3 a1_4 l1_5)) else (joustref00_Card.j0 k false a0_0 a0_1 a0_2 a0_3 a0_4 l0_5 a1_0 a1_1 a1_2 a1_3 a1_4 l1_5)) = some r:=h;clear h;have HC3:=Aside0.mk H;clear H
 go_enter Tryz.func29,Tryz.ntmps29
 go_upto_region 1 with (first | ((with_reducible refine gate_dst (N:=2) rfl ?_);(try (refine gate_guard (by rfl) ?_;dsimp only));refine box_event ?hg (N:=2) ?hd (cs:=#[.string a0_0,.int .u8 a0_1,.int .i64 a0_2,.int .i64 a0_3,.int .i64 a0_4,.slice A0_5 l0_5.length c0_5]) (t:=38) ?hr ?_;(case hd => rfl);(case hg => rfl);(case hr => first | (go_simp;done) | (go_simp;rfl));intro gb186 hg w4 hbox hb;have n0_:=Aside0.mk (below_step (bl0 HB.out) hb);have n1_:=Aside0.mk (hbox);have n2_:=Aside0.mk ((by rw [hg];exact (below_size (bl0 HB.out)) : w.heap.size ≤ gb186));have n3_:=Aside0.mk ((by rw [hg];exact (below_size (bl0 HB.out)) : w.heap.size ≤ gb186));clear HB;have HB:=n0_;have BK186:=n1_;have GW186:=n2_;have GE186:=n3_;clear n0_ n1_ n2_ n3_;clear hb hbox hg) | ((with_reducible refine gate_dst (N:=3) rfl ?_);(try (refine gate_guard (by rfl) ?_;dsimp only));refine box_event ?hg (N:=3) ?hd (cs:=#[.string a1_0,.int .u8 a1_1,.int .i64 a1_2,.int .i64 a1_3,.int .i64 a1_4,.slice A1_5 l1_5.length c1_5]) (t:=38) ?hr ?_;(case hd => rfl);(case hg => rfl);(case hr => first | (go_simp;done) | (go_simp;rfl));intro gb187 hg w5 hbox hb;have n0_:=Aside0.mk (blk_below (g:=gb186) (o:=.cells #[.string a0_0,.int .u8 a0_1,.int .i64 a0_2,.int .i64 a0_3,.int .i64 a0_4,.slice A0_5 l0_5.length c0_5] 38 (0,0)) (bk BK186.out) hb);have n1_:=Aside0.mk (below_step (bl1 HB.out GE186.out) hb);have n2_:=Aside0.mk (hbox);have n3_:=Aside0.mk ((by rw [hg];exact (below_size (bl1 HB.out GE186.out)) : w.heap.size ≤ gb187));have n4_:=Aside0.mk ((by rw [hg];exact (below_size (bl1 HB.out GE186.out)) : w.heap.size ≤ gb187));have n5_:=Aside0.mk ((by rw [hg];exact Nat.ne_of_lt (blk_lt (g:=gb186) (o:=.cells #[.string a0_0,.int .u8 a0_1,.int .i64 a0_2,.int .i64 a0_3,.int .i64 a0_4,.slice A0_5 l0_5.length c0_5] 38 (0,0)) (bk BK186.out)) : gb186 ≠ gb187));have n6_:=Aside0.mk ((by rw [hg];exact Nat.ne_of_gt (blk_lt (g:=gb186) (o:=.cells #[.string a0_0,.int .u8 a0_1,.int .i64 a0_2,.int .i64 a0_3,.int .i64 a0_4,.slice A0_5 l0_5.length c0_5] 38 (0,0)) (bk BK186.out)) : gb187 ≠ gb186));clear BK186;clear HB;have BK186:=n0_;have HB:=n1_;have BK187:=n2_;have GW187:=n3_;have GE187:=n4_;have NB186_187:=n5_;have NB187_186:=n6_;clear n0_ n1_ n2_ n3_ n4_ n5_ n6_;clear hb hbox hg))
 (try simp only [Act.put,List.setIfInBounds_toArray,List.set_cons_zero,List.set_cons_succ])
 go_cut [5] (fun v5 wc => ∃ (kq : Nat) (x5_2 : Bool),v5 = .bool x5_2 ∧ Aside0 (joustref00_Card.j0 kq x5_2 a0_0 a0_1 a0_2 a0_3 a0_4 l0_5 a1_0 a1_1 a1_2 a1_3 a1_4 l1_5 = some r) ∧ Aside0 (kq ≤ k) ∧ Aside0 (wc.heap[gb186]? = some (.cells #[.string a0_0,.int .u8 a0_1,.int .i64 a0_2,.int .i64 a0_3,.int .i64 a0_4,(.slice A0_5 l0_5.length c0_5)] 38 (0,0))) ∧ Aside0 (wc.heap[gb187]? = some (.cells #[.string a1_0,.int .u8 a1_1,.int .i64 a1_2,.int .i64 a1_3,.int .i64 a1_4,(.slice A1_5 l1_5.length c1_5)] 38 (0,0))) ∧ Aside0 (Below w.heap.size w wc))
 case first =>
  have H:=HC3.out;clear HC3
  by_cases c6 : a0_0.toList = a1_0.toList
  ·rw [if_pos c6] at H;have c6b0 : (a0_0.toList == a1_0.toList) = true:=beq_iff_eq.mpr c6;have c6b1 : (a0_0.toList != a1_0.toList) = false:=bne_eq_false_iff_eq.mpr c6;clear c6
   (first | rw [c6b0] | (simp only [i64_w,i32_w];rw [c6b0]) | skip)
   by_cases c7 : a0_1 = a1_1
   ·rw [if_pos c7] at H;have c7b0 : (a0_1 == a1_1) = true:=beq_iff_eq.mpr c7;have c7b1 : (a0_1 != a1_1) = false:=bne_eq_false_iff_eq.mpr c7;clear c7
    by_cases c8 : a0_2 = a1_2
    ·rw [if_pos c8] at H;have c8b0 : (a0_2 == a1_2) = true:=beq_iff_eq.mpr c8;have c8b1 : (a0_2 != a1_2) = false:=bne_eq_false_iff_eq.mpr c8;clear c8
     by_cases c9 : a0_3 = a1_3
     ·rw [if_pos c9] at H;have c9b0 : (a0_3 == a1_3) = true:=beq_iff_eq.mpr c9;have c9b1 : (a0_3 != a1_3) = false:=bne_eq_false_iff_eq.mpr c9;clear c9
      by_cases c10 : a0_4 = a1_4
      ·rw [if_pos c10] at H;have c10b0 : (a0_4 == a1_4) = true:=beq_iff_eq.mpr c10;have c10b1 : (a0_4 != a1_4) = false:=bne_eq_false_iff_eq.mpr c10;clear c10;have H':=Aside0.mk H;clear H;have hnb11:=NB186_187.out;have hnc11:=NB187_186.out;have hcz12_0:=bc BK186.out 0 (.string a0_0) rfl;have hcz12_1:=bc BK186.out 1 (.int .u8 a0_1) rfl;have hcz12_2:=bc BK186.out 2 (.int .i64 a0_2) rfl;have hcz12_3:=bc BK186.out 3 (.int .i64 a0_3) rfl;have hcz12_4:=bc BK186.out 4 (.int .i64 a0_4) rfl;have hcz12_5:=bc BK186.out 5 (.slice A0_5 l0_5.length c0_5) rfl;have hfz12_0:=blk_frozen BK186.out 0;have hfz12_1:=blk_frozen BK186.out 1;have hfz12_2:=blk_frozen BK186.out 2;have hfz12_3:=blk_frozen BK186.out 3;have hfz12_4:=blk_frozen BK186.out 4;have hfz12_5:=blk_frozen BK186.out 5;have hcz13_0:=bc BK187.out 0 (.string a1_0) rfl;have hcz13_1:=bc BK187.out 1 (.int .u8 a1_1) rfl;have hcz13_2:=bc BK187.out 2 (.int .i64 a1_2) rfl;have hcz13_3:=bc BK187.out 3 (.int .i64 a1_3) rfl;have hcz13_4:=bc BK187.out 4 (.int .i64 a1_4) rfl;have hcz13_5:=bc BK187.out 5 (.slice A1_5 l1_5.length c1_5) rfl;have hfz13_0:=blk_frozen BK187.out 0;have hfz13_1:=blk_frozen BK187.out 1;have hfz13_2:=blk_frozen BK187.out 2;have hfz13_3:=blk_frozen BK187.out 3;have hfz13_4:=blk_frozen BK187.out 4;have hfz13_5:=blk_frozen BK187.out 5
       go_wp2
       go_meet
       case rel => exact ⟨_,(((l0_5.length : Int) == (l1_5.length : Int))),(by first | rfl | (simp;done) | (simp [*];done)),H',⟨by first | omega | exact Nat.le_refl _⟩,⟨bk BK186.out⟩,⟨bk BK187.out⟩,⟨bl2 HB.out GE186.out GE187.out⟩⟩
      ·rw [if_neg c10] at H;have c10b0 : (a0_4 == a1_4) = false:=beq_eq_false_iff_ne.mpr c10;have c10b1 : (a0_4 != a1_4) = true:=bne_iff_ne.mpr c10;have H':=Aside0.mk H;clear H;have hnb14:=NB186_187.out;have hnc14:=NB187_186.out;have hcz15_0:=bc BK186.out 0 (.string a0_0) rfl;have hcz15_1:=bc BK186.out 1 (.int .u8 a0_1) rfl;have hcz15_2:=bc BK186.out 2 (.int .i64 a0_2) rfl;have hcz15_3:=bc BK186.out 3 (.int .i64 a0_3) rfl;have hcz15_4:=bc BK186.out 4 (.int .i64 a0_4) rfl;have hcz15_5:=bc BK186.out 5 (.slice A0_5 l0_5.length c0_5) rfl;have hfz15_0:=blk_frozen BK186.out 0;have hfz15_1:=blk_frozen BK186.out 1;have hfz15_2:=blk_frozen BK186.out 2;have hfz15_3:=blk_frozen BK186.out 3;have hfz15_4:=blk_frozen BK186.out 4;have hfz15_5:=blk_frozen BK186.out 5;have hcz16_0:=bc BK187.out 0 (.string a1_0) rfl;have hcz16_1:=bc BK187.out 1 (.int .u8 a1_1) rfl;have hcz16_2:=bc BK187.out 2 (.int .i64 a1_2) rfl;have hcz16_3:=bc BK187.out 3 (.int .i64 a1_3) rfl;have hcz16_4:=bc BK187.out 4 (.int .i64 a1_4) rfl;have hcz16_5:=bc BK187.out 5 (.slice A1_5 l1_5.length c1_5) rfl;have hfz16_0:=blk_frozen BK187.out 0;have hfz16_1:=blk_frozen BK187.out 1;have hfz16_2:=blk_frozen BK187.out 2;have hfz16_3:=blk_frozen BK187.out 3;have hfz16_4:=blk_frozen BK187.out 4;have hfz16_5:=blk_frozen BK187.out 5
       go_wp2
       go_meet
       case rel => exact ⟨_,(false),(by first | rfl | (simp;done) | (simp [*];done)),H',⟨by first | omega | exact Nat.le_refl _⟩,⟨bk BK186.out⟩,⟨bk BK187.out⟩,⟨bl2 HB.out GE186.out GE187.out⟩⟩
     ·rw [if_neg c9] at H;have c9b0 : (a0_3 == a1_3) = false:=beq_eq_false_iff_ne.mpr c9;have c9b1 : (a0_3 != a1_3) = true:=bne_iff_ne.mpr c9;have H':=Aside0.mk H;clear H;have hnb17:=NB186_187.out;have hnc17:=NB187_186.out;have hcz18_0:=bc BK186.out 0 (.string a0_0) rfl;have hcz18_1:=bc BK186.out 1 (.int .u8 a0_1) rfl;have hcz18_2:=bc BK186.out 2 (.int .i64 a0_2) rfl;have hcz18_3:=bc BK186.out 3 (.int .i64 a0_3) rfl;have hcz18_4:=bc BK186.out 4 (.int .i64 a0_4) rfl;have hcz18_5:=bc BK186.out 5 (.slice A0_5 l0_5.length c0_5) rfl;have hfz18_0:=blk_frozen BK186.out 0;have hfz18_1:=blk_frozen BK186.out 1;have hfz18_2:=blk_frozen BK186.out 2;have hfz18_3:=blk_frozen BK186.out 3;have hfz18_4:=blk_frozen BK186.out 4;have hfz18_5:=blk_frozen BK186.out 5;have hcz19_0:=bc BK187.out 0 (.string a1_0) rfl;have hcz19_1:=bc BK187.out 1 (.int .u8 a1_1) rfl;have hcz19_2:=bc BK187.out 2 (.int .i64 a1_2) rfl;have hcz19_3:=bc BK187.out 3 (.int .i64 a1_3) rfl;have hcz19_4:=bc BK187.out 4 (.int .i64 a1_4) rfl;have hcz19_5:=bc BK187.out 5 (.slice A1_5 l1_5.length c1_5) rfl;have hfz19_0:=blk_frozen BK187.out 0;have hfz19_1:=blk_frozen BK187.out 1;have hfz19_2:=blk_frozen BK187.out 2;have hfz19_3:=blk_frozen BK187.out 3;have hfz19_4:=blk_frozen BK187.out 4;have hfz19_5:=blk_frozen BK187.out 5
      go_wp2
      go_meet
      case rel => exact ⟨_,(false),(by first | rfl | (simp;done) | (simp [*];done)),H',⟨by first | omega | exact Nat.le_refl _⟩,⟨bk BK186.out⟩,⟨bk BK187.out⟩,⟨bl2 HB.out GE186.out GE187.out⟩⟩
    ·rw [if_neg c8] at H;have c8b0 : (a0_2 == a1_2) = false:=beq_eq_false_iff_ne.mpr c8;have c8b1 : (a0_2 != a1_2) = true:=bne_iff_ne.mpr c8;have H':=Aside0.mk H;clear H;have hnb20:=NB186_187.out;have hnc20:=NB187_186.out;have hcz21_0:=bc BK186.out 0 (.string a0_0) rfl;have hcz21_1:=bc BK186.out 1 (.int .u8 a0_1) rfl;have hcz21_2:=bc BK186.out 2 (.int .i64 a0_2) rfl;have hcz21_3:=bc BK186.out 3 (.int .i64 a0_3) rfl;have hcz21_4:=bc BK186.out 4 (.int .i64 a0_4) rfl;have hcz21_5:=bc BK186.out 5 (.slice A0_5 l0_5.length c0_5) rfl;have hfz21_0:=blk_frozen BK186.out 0;have hfz21_1:=blk_frozen BK186.out 1;have hfz21_2:=blk_frozen BK186.out 2;have hfz21_3:=blk_frozen BK186.out 3;have hfz21_4:=blk_frozen BK186.out 4;have hfz21_5:=blk_frozen BK186.out 5;have hcz22_0:=bc BK187.out 0 (.string a1_0) rfl;have hcz22_1:=bc BK187.out 1 (.int .u8 a1_1) rfl;have hcz22_2:=bc BK187.out 2 (.int .i64 a1_2) rfl;have hcz22_3:=bc BK187.out 3 (.int .i64 a1_3) rfl;have hcz22_4:=bc BK187.out 4 (.int .i64 a1_4) rfl;have hcz22_5:=bc BK187.out 5 (.slice A1_5 l1_5.length c1_5) rfl;have hfz22_0:=blk_frozen BK187.out 0;have hfz22_1:=blk_frozen BK187.out 1;have hfz22_2:=blk_frozen BK187.out 2;have hfz22_3:=blk_frozen BK187.out 3;have hfz22_4:=blk_frozen BK187.out 4;have hfz22_5:=blk_frozen BK187.out 5
     go_wp2
     go_meet
     case rel => exact ⟨_,(false),(by first | rfl | (simp;done) | (simp [*];done)),H',⟨by first | omega | exact Nat.le_refl _⟩,⟨bk BK186.out⟩,⟨bk BK187.out⟩,⟨bl2 HB.out GE186.out GE187.out⟩⟩
   ·rw [if_neg c7] at H;have c7b0 : (a0_1 == a1_1) = false:=beq_eq_false_iff_ne.mpr c7;have c7b1 : (a0_1 != a1_1) = true:=bne_iff_ne.mpr c7;have H':=Aside0.mk H;clear H;have hnb23:=NB186_187.out;have hnc23:=NB187_186.out;have hcz24_0:=bc BK186.out 0 (.string a0_0) rfl;have hcz24_1:=bc BK186.out 1 (.int .u8 a0_1) rfl;have hcz24_2:=bc BK186.out 2 (.int .i64 a0_2) rfl;have hcz24_3:=bc BK186.out 3 (.int .i64 a0_3) rfl;have hcz24_4:=bc BK186.out 4 (.int .i64 a0_4) rfl;have hcz24_5:=bc BK186.out 5 (.slice A0_5 l0_5.length c0_5) rfl;have hfz24_0:=blk_frozen BK186.out 0;have hfz24_1:=blk_frozen BK186.out 1;have hfz24_2:=blk_frozen BK186.out 2;have hfz24_3:=blk_frozen BK186.out 3;have hfz24_4:=blk_frozen BK186.out 4;have hfz24_5:=blk_frozen BK186.out 5;have hcz25_0:=bc BK187.out 0 (.string a1_0) rfl;have hcz25_1:=bc BK187.out 1 (.int .u8 a1_1) rfl;have hcz25_2:=bc BK187.out 2 (.int .i64 a1_2) rfl;have hcz25_3:=bc BK187.out 3 (.int .i64 a1_3) rfl;have hcz25_4:=bc BK187.out 4 (.int .i64 a1_4) rfl;have hcz25_5:=bc BK187.out 5 (.slice A1_5 l1_5.length c1_5) rfl;have hfz25_0:=blk_frozen BK187.out 0;have hfz25_1:=blk_frozen BK187.out 1;have hfz25_2:=blk_frozen BK187.out 2;have hfz25_3:=blk_frozen BK187.out 3;have hfz25_4:=blk_frozen BK187.out 4;have hfz25_5:=blk_frozen BK187.out 5
    go_wp2
    go_meet
    case rel => exact ⟨_,(false),(by first | rfl | (simp;done) | (simp [*];done)),H',⟨by first | omega | exact Nat.le_refl _⟩,⟨bk BK186.out⟩,⟨bk BK187.out⟩,⟨bl2 HB.out GE186.out GE187.out⟩⟩
  ·rw [if_neg c6] at H;have c6b0 : (a0_0.toList == a1_0.toList) = false:=beq_eq_false_iff_ne.mpr c6;have c6b1 : (a0_0.toList != a1_0.toList) = true:=bne_iff_ne.mpr c6
   (first | rw [c6b0] | (simp only [i64_w,i32_w];rw [c6b0]) | skip)
   have H':=Aside0.mk H;clear H;have hnb26:=NB186_187.out;have hnc26:=NB187_186.out;have hcz27_0:=bc BK186.out 0 (.string a0_0) rfl;have hcz27_1:=bc BK186.out 1 (.int .u8 a0_1) rfl;have hcz27_2:=bc BK186.out 2 (.int .i64 a0_2) rfl;have hcz27_3:=bc BK186.out 3 (.int .i64 a0_3) rfl;have hcz27_4:=bc BK186.out 4 (.int .i64 a0_4) rfl;have hcz27_5:=bc BK186.out 5 (.slice A0_5 l0_5.length c0_5) rfl;have hfz27_0:=blk_frozen BK186.out 0;have hfz27_1:=blk_frozen BK186.out 1;have hfz27_2:=blk_frozen BK186.out 2;have hfz27_3:=blk_frozen BK186.out 3;have hfz27_4:=blk_frozen BK186.out 4;have hfz27_5:=blk_frozen BK186.out 5;have hcz28_0:=bc BK187.out 0 (.string a1_0) rfl;have hcz28_1:=bc BK187.out 1 (.int .u8 a1_1) rfl;have hcz28_2:=bc BK187.out 2 (.int .i64 a1_2) rfl;have hcz28_3:=bc BK187.out 3 (.int .i64 a1_3) rfl;have hcz28_4:=bc BK187.out 4 (.int .i64 a1_4) rfl;have hcz28_5:=bc BK187.out 5 (.slice A1_5 l1_5.length c1_5) rfl;have hfz28_0:=blk_frozen BK187.out 0;have hfz28_1:=blk_frozen BK187.out 1;have hfz28_2:=blk_frozen BK187.out 2;have hfz28_3:=blk_frozen BK187.out 3;have hfz28_4:=blk_frozen BK187.out 4;have hfz28_5:=blk_frozen BK187.out 5
   go_wp2
   go_meet
   case rel => exact ⟨_,(false),(by first | rfl | (simp;done) | (simp [*];done)),H',⟨by first | omega | exact Nat.le_refl _⟩,⟨bk BK186.out⟩,⟨bk BK187.out⟩,⟨bl2 HB.out GE186.out GE187.out⟩⟩
 case rest =>
  clear HC3
  try clear c1
  try clear c2
  try clear p2
  try clear c6
  try clear c6b0
  try clear c6b1
  try clear c7
  try clear c7b0
  try clear c7b1
  try clear c8
  try clear c8b0
  try clear c8b1
  try clear c9
  try clear c9b0
  try clear c9b1
  try clear c10
  try clear c10b0
  try clear c10b1
  try clear c11
  try clear c14
  try clear c17
  try clear c20
  try clear c23
  try clear c26
  obtain ⟨kq,x5_2,rfl,HA,HJ2,BK186,BK187,HB⟩:=hcut
  cases kq with
  | zero => exact absurd HA.out (by simp [joustref00_Card.j0])
  | succ kj2 =>
   have H:=HA.out;clear HA;simp only [joustref00_Card.j0] at H;have H':=Aside0.mk H;clear H
   go_wp2
   (try simp only [Act.put,List.setIfInBounds_toArray,List.set_cons_zero,List.set_cons_succ])
   go_loopg [5,6] kj2 (fun kq v5 v6 w' => ∃ (x5_2 : Bool) (x6_2 : Int),v5 = .bool x5_2 ∧ v6 = .int .i64 x6_2 ∧ Aside0 (joustref00_Card.l0 kq x5_2 x6_2 a0_0 a0_1 a0_2 a0_3 a0_4 l0_5 a1_0 a1_1 a1_2 a1_3 a1_4 l1_5 = some r) ∧ Aside0 (kq ≤ kj2) ∧ Aside0 (w'.heap[gb186]? = some (.cells #[.string a0_0,.int .u8 a0_1,.int .i64 a0_2,.int .i64 a0_3,.int .i64 a0_4,(.slice A0_5 l0_5.length c0_5)] 38 (0,0))) ∧ Aside0 (w'.heap[gb187]? = some (.cells #[.string a1_0,.int .u8 a1_1,.int .i64 a1_2,.int .i64 a1_3,.int .i64 a1_4,(.slice A1_5 l1_5.length c1_5)] 38 (0,0))) ∧ Aside0 (Below w.heap.size w w'))
   case atStart => exact ⟨(x5_2),(0),(by first | rfl | (simp;done) | (simp [*];done)),(by first | rfl | (simp;done) | (simp [*];done)),H',⟨Nat.le_refl _⟩,⟨bk BK186.out⟩,⟨bk BK187.out⟩,⟨bl2 HB.out GE186.out GE187.out⟩⟩
   case round =>
    clear H'
    try clear c1
    try clear c2
    try clear p2
    try clear c6
    try clear c6b0
    try clear c6b1
    try clear c7
    try clear c7b0
    try clear c7b1
    try clear c8
    try clear c8b0
    try clear c8b1
    try clear c9
    try clear c9b0
    try clear c9b1
    try clear c10
    try clear c10b0
    try clear c10b1
    try clear c11
    try clear c14
    try clear c17
    try clear c20
    try clear c23
    try clear c26
    try clear p2
    obtain ⟨x5_2,x6_2,rfl,rfl,HA,HK2,BK186,BK187,HB⟩:=hrel
    cases gk with
    | zero => exact absurd HA.out (by simp [joustref00_Card.l0])
    | succ k2 =>
     have H:=HA.out;clear HA;simp only [joustref00_Card.l0] at H
     by_cases c29 : x5_2 = true
     ·subst c29;rw [if_pos rfl] at H
      by_cases c30 : x6_2 < (l0_5.length : Int)
      ·rw [if_pos c30] at H;have c30b0 : decide (x6_2 < (l0_5.length : Int)) = true:=decide_eq_true c30;clear c30
       by_cases c31 : 0 ≤ x6_2
       ·rw [if_pos c31] at H;have c31b0 : decide (0 ≤ x6_2) = true:=decide_eq_true c31;clear c31
        by_cases c32 : x6_2 < (l1_5.length : Int)
        ·rw [if_pos c32] at H;have c32b0 : decide (x6_2 < (l1_5.length : Int)) = true:=decide_eq_true c32;clear c32;replace H:=Option.bind_eq_some_iff.mp H;obtain ⟨t190,A330,H⟩:=H
         (try dsimp only at H)
         have A33:=Aside0.mk A330;clear A330;have H':=Aside0.mk H;clear H;have hnb34:=NB186_187.out;have hnc34:=NB187_186.out;have hcz35_0:=bc BK186.out 0 (.string a0_0) rfl;have hcz35_1:=bc BK186.out 1 (.int .u8 a0_1) rfl;have hcz35_2:=bc BK186.out 2 (.int .i64 a0_2) rfl;have hcz35_3:=bc BK186.out 3 (.int .i64 a0_3) rfl;have hcz35_4:=bc BK186.out 4 (.int .i64 a0_4) rfl;have hcz35_5:=bc BK186.out 5 (.slice A0_5 l0_5.length c0_5) rfl;have hfz35_0:=blk_frozen BK186.out 0;have hfz35_1:=blk_frozen BK186.out 1;have hfz35_2:=blk_frozen BK186.out 2;have hfz35_3:=blk_frozen BK186.out 3;have hfz35_4:=blk_frozen BK186.out 4;have hfz35_5:=blk_frozen BK186.out 5
         try go_wp2
         replace BK186:=Aside0.mk (blk_drew BK186.out);replace BK187:=Aside0.mk (blk_drew BK187.out);replace HB:=Aside0.mk (below_drew1 HB.out);have p188 : 0 ≤ (x6_2 : Int):=of_decide_eq_true (by first | (with_reducible assumption) | assumption);have q188 : x6_2 < (l0_5.length : Int):=of_decide_eq_true (by first | (with_reducible assumption) | assumption);obtain ⟨ad188,A188_3,c188_3,A188_11,c188_11,e188,hx188_0,hx188_1,hx188_2,hx188_3,hx188_4,hx188_5,hx188_6,hx188_7,hx188_8,hx188_9,hx188_10,hx188_11,hl188_3,hi188_3,hl188_11,hi188_11⟩:=at_T43 HR0_5.out x6_2 p188 q188;have hw188_11:=hx188_11;have hw188_10:=hx188_10;have hw188_9:=hx188_9;have hw188_8:=hx188_8;have hw188_7:=hx188_7;have hw188_6:=hx188_6;have hw188_5:=hx188_5;have hw188_4:=hx188_4;have hw188_3:=hx188_3;have hw188_2:=hx188_2;have hw188_1:=hx188_1;have hw188_0:=hx188_0
         cases e188
         replace hx188_0:=(HB.out.cell (World.block_lt_of_cell? w _ hx188_0)).trans hx188_0;replace hx188_1:=(HB.out.cell (World.block_lt_of_cell? w _ hx188_1)).trans hx188_1;replace hx188_2:=(HB.out.cell (World.block_lt_of_cell? w _ hx188_2)).trans hx188_2;replace hx188_3:=(HB.out.cell (World.block_lt_of_cell? w _ hx188_3)).trans hx188_3;replace hx188_4:=(HB.out.cell (World.block_lt_of_cell? w _ hx188_4)).trans hx188_4;replace hx188_5:=(HB.out.cell (World.block_lt_of_cell? w _ hx188_5)).trans hx188_5;replace hx188_6:=(HB.out.cell (World.block_lt_of_cell? w _ hx188_6)).trans hx188_6;replace hx188_7:=(HB.out.cell (World.block_lt_of_cell? w _ hx188_7)).trans hx188_7;replace hx188_8:=(HB.out.cell (World.block_lt_of_cell? w _ hx188_8)).trans hx188_8;replace hx188_9:=(HB.out.cell (World.block_lt_of_cell? w _ hx188_9)).trans hx188_9;replace hx188_10:=(HB.out.cell (World.block_lt_of_cell? w _ hx188_10)).trans hx188_10;replace hx188_11:=(HB.out.cell (World.block_lt_of_cell? w _ hx188_11)).trans hx188_11;have HR188_3:=Aside0.mk hi188_3;have HC188_3:=Aside0.mk hl188_3;clear hi188_3 hl188_3;have HR188_11:=Aside0.mk hi188_11;have HC188_11:=Aside0.mk hl188_11;clear hi188_11 hl188_11;replace p188:=eq_true p188;replace q188:=eq_true q188;have p189 : 0 ≤ (x6_2 : Int):=of_decide_eq_true (by first | (with_reducible assumption) | assumption);have q189 : x6_2 < (l1_5.length : Int):=of_decide_eq_true (by first | (with_reducible assumption) | assumption);obtain ⟨ad189,A189_3,c189_3,A189_11,c189_11,e189,hx189_0,hx189_1,hx189_2,hx189_3,hx189_4,hx189_5,hx189_6,hx189_7,hx189_8,hx189_9,hx189_10,hx189_11,hl189_3,hi189_3,hl189_11,hi189_11⟩:=at_T43 HR1_5.out x6_2 p189 q189;have hw189_11:=hx189_11;have hw189_10:=hx189_10;have hw189_9:=hx189_9;have hw189_8:=hx189_8;have hw189_7:=hx189_7;have hw189_6:=hx189_6;have hw189_5:=hx189_5;have hw189_4:=hx189_4;have hw189_3:=hx189_3;have hw189_2:=hx189_2;have hw189_1:=hx189_1;have hw189_0:=hx189_0
         cases e189
         replace hx189_0:=(HB.out.cell (World.block_lt_of_cell? w _ hx189_0)).trans hx189_0;replace hx189_1:=(HB.out.cell (World.block_lt_of_cell? w _ hx189_1)).trans hx189_1;replace hx189_2:=(HB.out.cell (World.block_lt_of_cell? w _ hx189_2)).trans hx189_2;replace hx189_3:=(HB.out.cell (World.block_lt_of_cell? w _ hx189_3)).trans hx189_3;replace hx189_4:=(HB.out.cell (World.block_lt_of_cell? w _ hx189_4)).trans hx189_4;replace hx189_5:=(HB.out.cell (World.block_lt_of_cell? w _ hx189_5)).trans hx189_5;replace hx189_6:=(HB.out.cell (World.block_lt_of_cell? w _ hx189_6)).trans hx189_6;replace hx189_7:=(HB.out.cell (World.block_lt_of_cell? w _ hx189_7)).trans hx189_7;replace hx189_8:=(HB.out.cell (World.block_lt_of_cell? w _ hx189_8)).trans hx189_8;replace hx189_9:=(HB.out.cell (World.block_lt_of_cell? w _ hx189_9)).trans hx189_9;replace hx189_10:=(HB.out.cell (World.block_lt_of_cell? w _ hx189_10)).trans hx189_10;replace hx189_11:=(HB.out.cell (World.block_lt_of_cell? w _ hx189_11)).trans hx189_11;have HR189_3:=Aside0.mk hi189_3;have HC189_3:=Aside0.mk hl189_3;clear hi189_3 hl189_3;have HR189_11:=Aside0.mk hi189_11;have HC189_11:=Aside0.mk hl189_11;clear hi189_11 hl189_11;replace p189:=eq_true p189;replace q189:=eq_true q189
         refine start_ (n:=12) (S:=fun w' => w'.cell? ⟨gb186,0,none⟩ = some (.string a0_0) ∧ w'.cell? ⟨gb186,1,none⟩ = some (.int .u8 a0_1) ∧ w'.cell? ⟨gb186,2,none⟩ = some (.int .i64 a0_2) ∧ w'.cell? ⟨gb186,3,none⟩ = some (.int .i64 a0_3) ∧ w'.cell? ⟨gb186,4,none⟩ = some (.int .i64 a0_4) ∧ w'.cell? ⟨gb186,5,none⟩ = some (.slice (some ad188) l0_5.length c0_5) ∧ w'.cell? ⟨gb187,0,none⟩ = some (.string a1_0) ∧ w'.cell? ⟨gb187,1,none⟩ = some (.int .u8 a1_1) ∧ w'.cell? ⟨gb187,2,none⟩ = some (.int .i64 a1_2) ∧ w'.cell? ⟨gb187,3,none⟩ = some (.int .i64 a1_3) ∧ w'.cell? ⟨gb187,4,none⟩ = some (.int .i64 a1_4) ∧ w'.cell? ⟨gb187,5,none⟩ = some (.slice (some ad189) l1_5.length c1_5) ∧ w'.cell? (ad188.add ((x6_2).toNat * 12)) = some (.int .u8 ((rd_T43 l0_5 x6_2).f0)) ∧ w'.cell? ⟨(ad188.add ((x6_2).toNat * 12)).block,(ad188.add ((x6_2).toNat * 12)).off + 1,none⟩ = some (.int .u8 ((rd_T43 l0_5 x6_2).f1)) ∧ w'.cell? ⟨(ad188.add ((x6_2).toNat * 12)).block,(ad188.add ((x6_2).toNat * 12)).off + 2,none⟩ = some (.int .u8 ((rd_T43 l0_5 x6_2).f2)) ∧ w'.cell? ⟨(ad188.add ((x6_2).toNat * 12)).block,(ad188.add ((x6_2).toNat * 12)).off + 3,none⟩ = some (.slice A188_3 ((rd_T43 l0_5 x6_2).f3).length c188_3) ∧ w'.cell? ⟨(ad188.add ((x6_2).toNat * 12)).block,(ad188.add ((x6_2).toNat * 12)).off + 4,none⟩ = some (.int .i64 ((rd_T43 l0_5 x6_2).f4)) ∧ w'.cell? ⟨(ad188.add ((x6_2).toNat * 12)).block,(ad188.add ((x6_2).toNat * 12)).off + 5,none⟩ = some (.int .i64 ((rd_T43 l0_5 x6_2).f5)) ∧ w'.cell? ⟨(ad188.add ((x6_2).toNat * 12)).block,(ad188.add ((x6_2).toNat * 12)).off + 6,none⟩ = some (.bool ((rd_T43 l0_5 x6_2).f6)) ∧ w'.cell? ⟨(ad188.add ((x6_2).toNat * 12)).block,(ad188.add ((x6_2).toNat * 12)).off + 7,none⟩ = some (.int .i64 ((rd_T43 l0_5 x6_2).f7)) ∧ w'.cell? ⟨(ad188.add ((x6_2).toNat * 12)).block,(ad188.add ((x6_2).toNat * 12)).off + 8,none⟩ = some (.int .u8 ((rd_T43 l0_5 x6_2).f8.f0)) ∧ w'.cell? ⟨(ad188.add ((x6_2).toNat * 12)).block,(ad188.add ((x6_2).toNat * 12)).off + 9,none⟩ = some (.int .u8 ((rd_T43 l0_5 x6_2).f8.f1)) ∧ w'.cell? ⟨(ad188.add ((x6_2).toNat * 12)).block,(ad188.add ((x6_2).toNat * 12)).off + 10,none⟩ = some (.int .u8 ((rd_T43 l0_5 x6_2).f8.f2)) ∧ w'.cell? ⟨(ad188.add ((x6_2).toNat * 12)).block,(ad188.add ((x6_2).toNat * 12)).off + 11,none⟩ = some (.slice A188_11 ((rd_T43 l0_5 x6_2).f9).length c188_11) ∧ w'.cell? (ad189.add ((x6_2).toNat * 12)) = some (.int .u8 ((rd_T43 l1_5 x6_2).f0)) ∧ w'.cell? ⟨(ad189.add ((x6_2).toNat * 12)).block,(ad189.add ((x6_2).toNat * 12)).off + 1,none⟩ = some (.int .u8 ((rd_T43 l1_5 x6_2).f1)) ∧ w'.cell? ⟨(ad189.add ((x6_2).toNat * 12)).block,(ad189.add ((x6_2).toNat * 12)).off + 2,none⟩ = some (.int .u8 ((rd_T43 l1_5 x6_2).f2)) ∧ w'.cell? ⟨(ad189.add ((x6_2).toNat * 12)).block,(ad189.add ((x6_2).toNat * 12)).off + 3,none⟩ = some (.slice A189_3 ((rd_T43 l1_5 x6_2).f3).length c189_3) ∧ w'.cell? ⟨(ad189.add ((x6_2).toNat * 12)).block,(ad189.add ((x6_2).toNat * 12)).off + 4,none⟩ = some (.int .i64 ((rd_T43 l1_5 x6_2).f4)) ∧ w'.cell? ⟨(ad189.add ((x6_2).toNat * 12)).block,(ad189.add ((x6_2).toNat * 12)).off + 5,none⟩ = some (.int .i64 ((rd_T43 l1_5 x6_2).f5)) ∧ w'.cell? ⟨(ad189.add ((x6_2).toNat * 12)).block,(ad189.add ((x6_2).toNat * 12)).off + 6,none⟩ = some (.bool ((rd_T43 l1_5 x6_2).f6)) ∧ w'.cell? ⟨(ad189.add ((x6_2).toNat * 12)).block,(ad189.add ((x6_2).toNat * 12)).off + 7,none⟩ = some (.int .i64 ((rd_T43 l1_5 x6_2).f7)) ∧ w'.cell? ⟨(ad189.add ((x6_2).toNat * 12)).block,(ad189.add ((x6_2).toNat * 12)).off + 8,none⟩ = some (.int .u8 ((rd_T43 l1_5 x6_2).f8.f0)) ∧ w'.cell? ⟨(ad189.add ((x6_2).toNat * 12)).block,(ad189.add ((x6_2).toNat * 12)).off + 9,none⟩ = some (.int .u8 ((rd_T43 l1_5 x6_2).f8.f1)) ∧ w'.cell? ⟨(ad189.add ((x6_2).toNat * 12)).block,(ad189.add ((x6_2).toNat * 12)).off + 10,none⟩ = some (.int .u8 ((rd_T43 l1_5 x6_2).f8.f2)) ∧ w'.cell? ⟨(ad189.add ((x6_2).toNat * 12)).block,(ad189.add ((x6_2).toNat * 12)).off + 11,none⟩ = some (.slice A189_11 ((rd_T43 l1_5 x6_2).f9).length c189_11)) (ds:=[]) (pm 0 12) (by kernel_rfl) rfl rfl ⟨bc BK186.out 0 _ rfl,bc BK186.out 1 _ rfl,bc BK186.out 2 _ rfl,bc BK186.out 3 _ rfl,bc BK186.out 4 _ rfl,bc BK186.out 5 _ rfl,bc BK187.out 0 _ rfl,bc BK187.out 1 _ rfl,bc BK187.out 2 _ rfl,bc BK187.out 3 _ rfl,bc BK187.out 4 _ rfl,bc BK187.out 5 _ rfl,((HB.out.cell (World.block_lt_of_cell? w _ hw188_0)).trans hw188_0),((HB.out.cell (World.block_lt_of_cell? w _ hw188_1)).trans hw188_1),((HB.out.cell (World.block_lt_of_cell? w _ hw188_2)).trans hw188_2),((HB.out.cell (World.block_lt_of_cell? w _ hw188_3)).trans hw188_3),((HB.out.cell (World.block_lt_of_cell? w _ hw188_4)).trans hw188_4),((HB.out.cell (World.block_lt_of_cell? w _ hw188_5)).trans hw188_5),((HB.out.cell (World.block_lt_of_cell? w _ hw188_6)).trans hw188_6),((HB.out.cell (World.block_lt_of_cell? w _ hw188_7)).trans hw188_7),((HB.out.cell (World.block_lt_of_cell? w _ hw188_8)).trans hw188_8),((HB.out.cell (World.block_lt_of_cell? w _ hw188_9)).trans hw188_9),((HB.out.cell (World.block_lt_of_cell? w _ hw188_10)).trans hw188_10),((HB.out.cell (World.block_lt_of_cell? w _ hw188_11)).trans hw188_11),((HB.out.cell (World.block_lt_of_cell? w _ hw189_0)).trans hw189_0),((HB.out.cell (World.block_lt_of_cell? w _ hw189_1)).trans hw189_1),((HB.out.cell (World.block_lt_of_cell? w _ hw189_2)).trans hw189_2),((HB.out.cell (World.block_lt_of_cell? w _ hw189_3)).trans hw189_3),((HB.out.cell (World.block_lt_of_cell? w _ hw189_4)).trans hw189_4),((HB.out.cell (World.block_lt_of_cell? w _ hw189_5)).trans hw189_5),((HB.out.cell (World.block_lt_of_cell? w _ hw189_6)).trans hw189_6),((HB.out.cell (World.block_lt_of_cell? w _ hw189_7)).trans hw189_7),((HB.out.cell (World.block_lt_of_cell? w _ hw189_8)).trans hw189_8),((HB.out.cell (World.block_lt_of_cell? w _ hw189_9)).trans hw189_9),((HB.out.cell (World.block_lt_of_cell? w _ hw189_10)).trans hw189_10),((HB.out.cell (World.block_lt_of_cell? w _ hw189_11)).trans hw189_11)⟩ (fun hHeld => ?_);refine with_tabW joustref00_Card.tab5 joustref00_Card.bits5 (fun HT_ HW_ => ?_)
         generalize wr.drew = w36 at BK186 BK187 HB HR188_11 HR188_3 HR189_11 HR189_3 hx188_0 hx188_1 hx188_10 hx188_11 hx188_2 hx188_3 hx188_4 hx188_5 hx188_6 hx188_7 hx188_8 hx188_9 hx189_0 hx189_1 hx189_10 hx189_11 hx189_2 hx189_3 hx189_4 hx189_5 hx189_6 hx189_7 hx189_8 hx189_9 hHeld ⊢;refine pu 0 59 (pm 1 12) rfl rfl HT_.out (fun _ _ _ h => h) ?_;refine pu 2 61 #[true,false,true,false,false,false,false,false,false,false,false,false] rfl rfl HT_.out (fun _ _ _ h => h) ?_;refine pu 5 64 #[true,false,true,false,false,true,false,false,false,false,false,false] rfl rfl HT_.out (fun _ _ _ h => h) ?_;refine pu 7 66 #[true,false,true,false,false,true,false,true,false,false,false,false] rfl rfl HT_.out (fun _ _ _ h => h) ?_;refine take_ (i:=1) (N:=some 60) (v:=?_) (a':=?_) #[true,true,true,false,false,true,false,true,false,false,false,false] rfl rfl (take_ofW HT_.out HW_.out (by kernel_rfl)) (fun _ _ _ h => h) (Or.inl ⟨by rfl,?_⟩) hHeld ?_ ?_;rotate_left
         ·rintro w' ⟨s0,s1,s2,s3,s4,s5,s6,s7,s8,s9,s10,s11,s12,s13,s14,s15,s16,s17,s18,s19,s20,s21,s22,s23,s24,s25,s26,s27,s28,s29,s30,s31,s32,s33,s34,s35⟩;go_simp;with_reducible rfl
         rotate_left
         ·simp only [Act.put,List.setIfInBounds_toArray,List.set_cons_zero,List.set_cons_succ,i64_w,i32_w];rfl
         refine pu 3 62 #[true,true,true,true,false,true,false,true,false,false,false,false] rfl rfl HT_.out (fun _ _ _ h => h) ?_;refine take_ (i:=4) (N:=some 63) (v:=?_) (a':=?_) #[true,true,true,true,true,true,false,true,false,false,false,false] rfl rfl (take_ofW HT_.out HW_.out (by kernel_rfl)) (fun _ _ _ h => h) (Or.inl ⟨by rfl,?_⟩) hHeld ?_ ?_;rotate_left
         ·rintro w' ⟨s0,s1,s2,s3,s4,s5,s6,s7,s8,s9,s10,s11,s12,s13,s14,s15,s16,s17,s18,s19,s20,s21,s22,s23,s24,s25,s26,s27,s28,s29,s30,s31,s32,s33,s34,s35⟩;go_simp;with_reducible rfl
         rotate_left
         ·simp only [Act.put,List.setIfInBounds_toArray,List.set_cons_zero,List.set_cons_succ,i64_w,i32_w];rfl
         refine take_ (i:=6) (N:=some 65) (v:=?_) (a':=?_) (pm 8 12) rfl rfl (take_ofW HT_.out HW_.out (by kernel_rfl)) (fun _ _ _ h => h) (Or.inl ⟨by rfl,?_⟩) hHeld ?_ ?_;rotate_left
         ·rintro w' ⟨s0,s1,s2,s3,s4,s5,s6,s7,s8,s9,s10,s11,s12,s13,s14,s15,s16,s17,s18,s19,s20,s21,s22,s23,s24,s25,s26,s27,s28,s29,s30,s31,s32,s33,s34,s35⟩;go_simp;with_reducible rfl
         rotate_left
         ·simp only [Act.put,List.setIfInBounds_toArray,List.set_cons_zero,List.set_cons_succ,i64_w,i32_w];rfl
         refine pu 8 67 (pm 9 12) rfl rfl HT_.out (fun _ _ _ h => h) ?_;refine take_ (i:=9) (N:=some 68) (v:=?_) (a':=?_) (pm 10 12) rfl rfl (take_ofW HT_.out HW_.out (by kernel_rfl)) (fun _ _ _ h => h) (Or.inl ⟨by rfl,?_⟩) hHeld ?_ ?_;rotate_left
         ·rintro w' ⟨s0,s1,s2,s3,s4,s5,s6,s7,s8,s9,s10,s11,s12,s13,s14,s15,s16,s17,s18,s19,s20,s21,s22,s23,s24,s25,s26,s27,s28,s29,s30,s31,s32,s33,s34,s35⟩;go_simp;with_reducible rfl
         rotate_left
         ·simp only [Act.put,List.setIfInBounds_toArray,List.set_cons_zero,List.set_cons_succ,i64_w,i32_w];rfl
         refine one_ (i:=10) (N:=some 69) (pm 11 12) rfl rfl (one_of HT_.out (by kernel_rfl)) (by decide) (fun K hK => ?_);refine goes_ Tryz.func64 (by kernel_rfl) rfl #[.agg #[.int .u8 ((rd_T43 l0_5 x6_2).f0),.int .u8 ((rd_T43 l0_5 x6_2).f1),.int .u8 ((rd_T43 l0_5 x6_2).f2),.slice A188_3 ((rd_T43 l0_5 x6_2).f3).length c188_3,.int .i64 ((rd_T43 l0_5 x6_2).f4),.int .i64 ((rd_T43 l0_5 x6_2).f5),.bool ((rd_T43 l0_5 x6_2).f6),.int .i64 ((rd_T43 l0_5 x6_2).f7),.int .u8 ((rd_T43 l0_5 x6_2).f8.f0),.int .u8 ((rd_T43 l0_5 x6_2).f8.f1),.int .u8 ((rd_T43 l0_5 x6_2).f8.f2),.slice A188_11 ((rd_T43 l0_5 x6_2).f9).length c188_11],.agg #[.int .u8 ((rd_T43 l1_5 x6_2).f0),.int .u8 ((rd_T43 l1_5 x6_2).f1),.int .u8 ((rd_T43 l1_5 x6_2).f2),.slice A189_3 ((rd_T43 l1_5 x6_2).f3).length c189_3,.int .i64 ((rd_T43 l1_5 x6_2).f4),.int .i64 ((rd_T43 l1_5 x6_2).f5),.bool ((rd_T43 l1_5 x6_2).f6),.int .i64 ((rd_T43 l1_5 x6_2).f7),.int .u8 ((rd_T43 l1_5 x6_2).f8.f0),.int .u8 ((rd_T43 l1_5 x6_2).f8.f1),.int .u8 ((rd_T43 l1_5 x6_2).f8.f2),.slice A189_11 ((rd_T43 l1_5 x6_2).f9).length c189_11]] (by rfl) rfl rfl ea ?_
         with_reducible refine (joustref00_Effect.calls ((rd_T43 l0_5 x6_2).f0) ((rd_T43 l0_5 x6_2).f1) ((rd_T43 l0_5 x6_2).f2) _ _ ((rd_T43 l0_5 x6_2).f3) ((rd_T43 l0_5 x6_2).f4) ((rd_T43 l0_5 x6_2).f5) ((rd_T43 l0_5 x6_2).f6) ((rd_T43 l0_5 x6_2).f7) ((rd_T43 l0_5 x6_2).f8.f0) ((rd_T43 l0_5 x6_2).f8.f1) ((rd_T43 l0_5 x6_2).f8.f2) _ _ ((rd_T43 l0_5 x6_2).f9) ((rd_T43 l1_5 x6_2).f0) ((rd_T43 l1_5 x6_2).f1) ((rd_T43 l1_5 x6_2).f2) _ _ ((rd_T43 l1_5 x6_2).f3) ((rd_T43 l1_5 x6_2).f4) ((rd_T43 l1_5 x6_2).f5) ((rd_T43 l1_5 x6_2).f6) ((rd_T43 l1_5 x6_2).f7) ((rd_T43 l1_5 x6_2).f8.f0) ((rd_T43 l1_5 x6_2).f8.f1) ((rd_T43 l1_5 x6_2).f8.f2) _ _ ((rd_T43 l1_5 x6_2).f9) t190 _ ?side1 ?side2 ?side3 ?side4 ?side5 ?side6 ?side7 ?side8 A33.out).mono ?_
         (case side1 => exact kc (Kd.C_below HR188_3.out HB.out))
         (case side2 => exact HC188_3.out)
         (case side3 => exact kc (Kd.C_below HR188_11.out HB.out))
         (case side4 => exact HC188_11.out)
         (case side5 => exact kc (Kd.C_below HR189_3.out HB.out))
         (case side6 => exact HC189_3.out)
         (case side7 => exact kc (Kd.C_below HR189_11.out HB.out))
         (case side8 => exact HC189_11.out)
         rintro e w37 ⟨rfl,hb⟩;refine ⟨_,rfl,?_⟩;replace BK186:=Aside0.mk (blk_below (g:=gb186) (o:=.cells #[.string a0_0,.int .u8 a0_1,.int .i64 a0_2,.int .i64 a0_3,.int .i64 a0_4,.slice (some ad188) l0_5.length c0_5] 38 (0,0)) (bk BK186.out) hb);replace BK187:=Aside0.mk (blk_below (g:=gb187) (o:=.cells #[.string a1_0,.int .u8 a1_1,.int .i64 a1_2,.int .i64 a1_3,.int .i64 a1_4,.slice (some ad189) l1_5.length c1_5] 38 (0,0)) (bk BK187.out) hb);replace HB:=Aside0.mk (below_step (bl2 HB.out GE186.out GE187.out) hb);(try clear hb);refine hK.out _ _ ⟨bc BK186.out 0 _ rfl,bc BK186.out 1 _ rfl,bc BK186.out 2 _ rfl,bc BK186.out 3 _ rfl,bc BK186.out 4 _ rfl,bc BK186.out 5 _ rfl,bc BK187.out 0 _ rfl,bc BK187.out 1 _ rfl,bc BK187.out 2 _ rfl,bc BK187.out 3 _ rfl,bc BK187.out 4 _ rfl,bc BK187.out 5 _ rfl,((HB.out.cell (World.block_lt_of_cell? w _ hw188_0)).trans hw188_0),((HB.out.cell (World.block_lt_of_cell? w _ hw188_1)).trans hw188_1),((HB.out.cell (World.block_lt_of_cell? w _ hw188_2)).trans hw188_2),((HB.out.cell (World.block_lt_of_cell? w _ hw188_3)).trans hw188_3),((HB.out.cell (World.block_lt_of_cell? w _ hw188_4)).trans hw188_4),((HB.out.cell (World.block_lt_of_cell? w _ hw188_5)).trans hw188_5),((HB.out.cell (World.block_lt_of_cell? w _ hw188_6)).trans hw188_6),((HB.out.cell (World.block_lt_of_cell? w _ hw188_7)).trans hw188_7),((HB.out.cell (World.block_lt_of_cell? w _ hw188_8)).trans hw188_8),((HB.out.cell (World.block_lt_of_cell? w _ hw188_9)).trans hw188_9),((HB.out.cell (World.block_lt_of_cell? w _ hw188_10)).trans hw188_10),((HB.out.cell (World.block_lt_of_cell? w _ hw188_11)).trans hw188_11),((HB.out.cell (World.block_lt_of_cell? w _ hw189_0)).trans hw189_0),((HB.out.cell (World.block_lt_of_cell? w _ hw189_1)).trans hw189_1),((HB.out.cell (World.block_lt_of_cell? w _ hw189_2)).trans hw189_2),((HB.out.cell (World.block_lt_of_cell? w _ hw189_3)).trans hw189_3),((HB.out.cell (World.block_lt_of_cell? w _ hw189_4)).trans hw189_4),((HB.out.cell (World.block_lt_of_cell? w _ hw189_5)).trans hw189_5),((HB.out.cell (World.block_lt_of_cell? w _ hw189_6)).trans hw189_6),((HB.out.cell (World.block_lt_of_cell? w _ hw189_7)).trans hw189_7),((HB.out.cell (World.block_lt_of_cell? w _ hw189_8)).trans hw189_8),((HB.out.cell (World.block_lt_of_cell? w _ hw189_9)).trans hw189_9),((HB.out.cell (World.block_lt_of_cell? w _ hw189_10)).trans hw189_10),((HB.out.cell (World.block_lt_of_cell? w _ hw189_11)).trans hw189_11)⟩ (fun hHeld => ?_);clear hK K;refine norm_ (a':=?_) ?_ ?_;rotate_left
         ·show Act.put _ (some 69) _ = _;simp only [Act.put,List.setIfInBounds_toArray,List.set_cons_zero,List.set_cons_succ,i64_w,i32_w];rfl
         refine pu 11 5 (pm 12 12) rfl rfl HT_.out (fun _ _ _ h => h) ?_;refine done_ (done_of HT_.out (by kernel_rfl)) ?_
         try go_wp2
         go_roundg k2
         case measure => have:=HJ2.out;have:=HK2.out;omega
         case rel => exact ⟨(t190),(wrap64 (x6_2 + 1)),(by first | rfl | (simp;done) | (simp [*];done)),(by first | rfl | (simp;done) | (simp [*];done)),H',⟨by have:=HJ2.out;have:=HK2.out;omega⟩,⟨bk BK186.out⟩,⟨bk BK187.out⟩,⟨bl2 HB.out GE186.out GE187.out⟩⟩
        ·rw [if_neg c32] at H;exact absurd H (by simp)
       ·rw [if_neg c31] at H;exact absurd H (by simp)
      ·rw [if_neg c30] at H;have c30b0 : decide (x6_2 < (l0_5.length : Int)) = false:=decide_eq_false c30;clear c30;obtain rfl:=Option.some.inj H;have hnb38:=NB186_187.out;have hnc38:=NB187_186.out;have hcz39_0:=bc BK186.out 0 (.string a0_0) rfl;have hcz39_1:=bc BK186.out 1 (.int .u8 a0_1) rfl;have hcz39_2:=bc BK186.out 2 (.int .i64 a0_2) rfl;have hcz39_3:=bc BK186.out 3 (.int .i64 a0_3) rfl;have hcz39_4:=bc BK186.out 4 (.int .i64 a0_4) rfl;have hcz39_5:=bc BK186.out 5 (.slice A0_5 l0_5.length c0_5) rfl;have hfz39_0:=blk_frozen BK186.out 0;have hfz39_1:=blk_frozen BK186.out 1;have hfz39_2:=blk_frozen BK186.out 2;have hfz39_3:=blk_frozen BK186.out 3;have hfz39_4:=blk_frozen BK186.out 4;have hfz39_5:=blk_frozen BK186.out 5
       go_wp2
       go_ret
       exact ⟨by first | rfl | (simp [errW_none,errW_some] <;> rfl) | (simp [*,errW_none,errW_some] <;> rfl),bl2 HB.out GE186.out GE187.out⟩
     ·replace c29:=Bool.eq_false_iff.mpr c29;subst c29;rw [if_neg (show ¬ (false = true) by decide)] at H;obtain rfl:=Option.some.inj H
      go_wp2
      go_ret
      exact ⟨by first | rfl | (simp [errW_none,errW_some] <;> rfl) | (simp [*,errW_none,errW_some] <;> rfl),bl2 HB.out GE186.out GE187.out⟩

end Go.Proofs.YtmgdkkkkanjadaaGreatDoor.X
