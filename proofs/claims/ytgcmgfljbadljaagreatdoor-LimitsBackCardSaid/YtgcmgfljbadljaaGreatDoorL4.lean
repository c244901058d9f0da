/- Written by a program of this claim's author (stubprint.py, over the kit's print) out of the translation: Go functions as Lean functions, and that the calls come to them. -/
import Derived.Test.YtgcmgfljbadljaaGreatDoorL0
import Derived.Test.YtgcmgfljbadljaaGreatDoorL3
import Derived.Test.YtgcmgfljbadljaaGreatDoorHandS
import Derived.Test.YtgcmgfljbadljaaGreatDoorHandM
import Derived.Test.YtgcmgfljbadljaaGreatDoorHandG
namespace Go.Proofs.YtgcmgfljbadljaaGreatDoor.L
open Go.RowKit Go.Proofs.YtgcmgfljbadljaaGreatDoorW.PrintWords Go.Proofs.YtgcmgfljbadljaaGreatDoorW.PrintLast Go.Proofs.YtgcmgfljbadljaaGreatDoorW.PrintMore Go.Proofs.YtgcmgfljbadljaaGreatDoor.HandS Go.Proofs.YtgcmgfljbadljaaGreatDoor.Iter
attribute [local go_sem] max2_int min2_int max_two min_two max_three min_three max_four min_four   -- for this text's walks alone
set_option linter.unusedVariables false
set_option linter.unusedSimpArgs false

/-! ### limits_Cost: function 13 -/
def limits_Cost.l0 : Nat → List (S47) → Int → List Int → Int → Int → ByteArray → Int → Int → List (S42) → Option (Int × Int)
 | 0,_,_,_,_,_,_,_,_,_ => none
 | k + 1,x1,x6,x15,x16,x17,x108000,x108001,x108002,x108003 => if x17 < x16 then (if 0 ≤ x17 then (if x17 < (x15.length : Int) then (if 0 ≤ (rd x15 x17) then (if (rd x15 x17) < (x1.length : Int) then ((limits_of.f x108000 x108001 x108002 x108003 ((rd_T47 x1 (rd x15 x17)).f0)).bind fun bt111 => (limits_Cost.l0 k x1 (wrap64 (x6 + bt111.2.2)) x15 x16 (wrap64 (x17 + 1)) x108000 x108001 x108002 x108003)) else (none)) else (none)) else (none)) else (none)) else (some (x6,0))
def limits_Cost.f (k : Nat) (a0_0 : ByteArray) (a0_1 : Int) (a0_2 : Int) (l0_3 : List (S42)) (l1 : List (S47)) (l2 : List Int) : Option (Int × Int):=(limits_may.f k a0_0 a0_1 a0_2 l0_3 l1 l2).bind fun t108 => (if t108 = true then (limits_Cost.l0 k l1 0 l2 (l2.length : Int) 0 a0_0 a0_1 a0_2 l0_3) else (some (0,2)))
theorem limits_Cost.mono_l : ∀ k,(∀ y0 y1 y2 y3 y4 y5 y6 y7 y8,LeO (limits_Cost.l0 k y0 y1 y2 y3 y4 y5 y6 y7 y8) (limits_Cost.l0 (k + 1) y0 y1 y2 y3 y4 y5 y6 y7 y8))
 | 0 => fun _ _ _ _ _ _ _ _ _ r h => by simp [limits_Cost.l0] at h
 | k + 1 => by
  have ih0:=limits_Cost.mono_l k
  ·intro y0 y1 y2 y3 y4 y5 y6 y7 y8
   unfold limits_Cost.l0
   repeat' first
   | (with_reducible exact ih0 _ _ _ _ _ _ _ _ _)
   | (with_reducible exact limits_may.mono _ _ _ _ _ _ _)
   | (with_reducible exact LeO.refl _)
   | (with_reducible exact LeO.none _)
   | (with_reducible refine LeO.ite ?_ ?_)
   | (with_reducible refine LeO.bind ?_ (fun _ => ?_))
   | exact ih0 _ _ _ _ _ _ _ _ _
   | exact limits_may.mono _ _ _ _ _ _ _
   | exact LeO.none _
   | refine LeO.ite ?_ ?_
   | refine LeO.bind ?_ (fun _ => ?_)
theorem limits_Cost.mono : ∀ a0 a1 a2 a3 a4 a5 k,LeO (limits_Cost.f k a0 a1 a2 a3 a4 a5) (limits_Cost.f (k + 1) a0 a1 a2 a3 a4 a5):=by
 intro a0 a1 a2 a3 a4 a5 k;have ih0:=limits_Cost.mono_l k
 unfold limits_Cost.f
 repeat' first
   | (with_reducible exact ih0 _ _ _ _ _ _ _ _ _)
   | (with_reducible exact limits_may.mono _ _ _ _ _ _ _)
   | (with_reducible exact LeO.refl _)
   | (with_reducible exact LeO.none _)
   | (with_reducible refine LeO.ite ?_ ?_)
   | (with_reducible refine LeO.bind ?_ (fun _ => ?_))
   | exact ih0 _ _ _ _ _ _ _ _ _
   | exact limits_may.mono _ _ _ _ _ _ _
   | exact LeO.none _
   | refine LeO.ite ?_ ?_
   | refine LeO.bind ?_ (fun _ => ?_)
def limits_Cost.T6 : Bool × List (List Nat × List Nat):=(true,[([],[]),([],[]),([],[]),([],[]),([2,3],[2,3]),([4],[4]),([5],[5]),([1,6],[1,6]),([7],[7]),([0,8],[0,8]),([9,7,0,1,2,3,4,5,6,7,8,9],[0,9])])
def limits_Cost.B6 : List Nat:=[0,0,0,0,12,28,60,126,254,511,1023]
theorem limits_Cost.tab6 : rtab .any (opsOf Tryz.f13 6) = limits_Cost.T6:=by kernel_rfl
theorem limits_Cost.bits6 : waitsOk limits_Cost.T6.2 limits_Cost.B6 = true:=by kernel_rfl
set_option maxHeartbeats 8000000 in
set_option maxRecDepth 100000 in
theorem limits_Cost.calls (k : Nat) (a0_0 : ByteArray) (a0_1 : Int) (a0_2 : Int) (A0_3 : Option Addr) (c0_3 : Nat) (l0_3 : List (S42)) (A1 : Option Addr) (c1 : Nat) (l1 : List (S47)) (A2 : Option Addr) (c2 : Nat) (l2 : List Int) (r1 : Int) (r2 : Int) (w : World) (hr0_3 : Kd.C k42 w A0_3 l0_3.length l0_3) (hc0_3 : l0_3.length ≤ c0_3) (hr1 : Kd.C k47 w A1 l1.length l1) (hc1 : l1.length ≤ c1) (hr2 : Kd.C (Kd.int .i64) w A2 l2.length l2) (hc2 : l2.length ≤ c2) (hG : Tabs w) (h : limits_Cost.f k a0_0 a0_1 a0_2 l0_3 l1 l2 = some (r1,r2)) :
  Calls Tryz.prog 13 #[.agg #[.string a0_0,.int .i64 a0_1,.int .i64 a0_2,.slice A0_3 l0_3.length c0_3],.slice A1 l1.length c1,.slice A2 l2.length c2] w fun e w' => e = .returned (.tuple #[.int .i64 r1,.int .i64 r2]) ∧ Below w.heap.size w w':=by
 have hu24:=Tryz.underlying24;have HG:=Aside0.mk hG;clear hG;have HR0_3:=Aside0.mk hr0_3;have HC0_3:=Aside0.mk hc0_3;clear hr0_3 hc0_3;have HR1:=Aside0.mk hr1;have HC1:=Aside0.mk hc1;clear hr1 hc1;have HR2:=Aside0.mk hr2;have HC2:=Aside0.mk hc2;clear hr2 hc2;have HB:=Aside0.mk (Below.refl w.heap.size w);have H : ((limits_may.f k a0_0 a0_1 a0_2 l0_3 l1 l2).bind fun t108 => (if t108 = true then (limits_Cost.l0 k l1 0 l2 (l2.length : Int) 0 a0_0 a0_1 a0_2 l0_3) else (some (0,2)))) = some (r1,r2):=h;clear h;replace H:=Option.bind_eq_some_iff.mp H;obtain ⟨t108,A40,H⟩:=H
 (try dsimp only at H)
 have A4:=Aside0.mk A40;clear A40
 by_cases c5 : t108 = true
 ·subst c5;rw [if_pos rfl] at H;have H':=Aside0.mk H;clear H
  go_enter Tryz.func13,Tryz.ntmps13
  go_wp2_with (first | ((with_reducible refine gate_dst (N:=3) rfl ?_);refine box_event ?hg (N:=3) ?hd (cs:=#[.string a0_0,.int .i64 a0_1,.int .i64 a0_2,.slice A0_3 l0_3.length c0_3]) (t:=24) ?hr ?_;(case hd => rfl);(case hg => rfl);(case hr => first | (go_simp;done) | (go_simp;rfl));intro gb107 hg w6 hbox hb;have n0_:=Aside0.mk (below_step (bl0 HB.out) hb);have n1_:=Aside0.mk (hbox);have n2_:=Aside0.mk ((by rw [hg];exact (below_size (bl0 HB.out)) : w.heap.size ≤ gb107));have n3_:=Aside0.mk ((by rw [hg];exact (below_size (bl0 HB.out)) : w.heap.size ≤ gb107));clear HB;have HB:=n0_;have BK107:=n1_;have GW107:=n2_;have GE107:=n3_;clear n0_ n1_ n2_ n3_;clear hb hbox hg;have hcz7_0:=bc BK107.out 0 (.string a0_0) rfl;have hcz7_1:=bc BK107.out 1 (.int .i64 a0_1) rfl;have hcz7_2:=bc BK107.out 2 (.int .i64 a0_2) rfl;have hcz7_3:=bc BK107.out 3 (.slice A0_3 l0_3.length c0_3) rfl;have hfz7_0:=blk_frozen BK107.out 0;have hfz7_1:=blk_frozen BK107.out 1;have hfz7_2:=blk_frozen BK107.out 2;have hfz7_3:=blk_frozen BK107.out 3) | ((with_reducible refine gate_callee (f:=27) rfl ?_);refine goesL_ (some 13) rfl rfl Tryz.func27 (by kernel_rfl) rfl #[.agg #[.string a0_0,.int .i64 a0_1,.int .i64 a0_2,.slice A0_3 l0_3.length c0_3],.slice A1 l1.length c1,.slice A2 l2.length c2] rfl ea ?_;(with_reducible refine (limits_may.calls k a0_0 a0_1 a0_2 _ _ l0_3 _ _ l1 _ _ l2 true _ ?side1 ?side2 ?side3 ?side4 ?side5 ?side6 ?side7 A4.out).mono ?_);(case side1 => exact kc (Kd.C_below HR0_3.out HB.out));(case side2 => exact HC0_3.out);(case side3 => exact kc (Kd.C_below HR1.out HB.out));(case side4 => exact HC1.out);(case side5 => exact kc (Kd.C_below HR2.out HB.out));(case side6 => exact HC2.out);(case side7 => exact Tabs.below HG.out (bl1 HB.out GE107.out));rintro e w8 ⟨rfl,hb⟩;refine ⟨_,rfl,?_⟩;replace BK107:=Aside0.mk (blk_below (g:=gb107) (o:=.cells #[.string a0_0,.int .i64 a0_1,.int .i64 a0_2,.slice A0_3 l0_3.length c0_3] 24 (0,0)) (bk BK107.out) hb);replace HB:=Aside0.mk (below_step (bl1 HB.out GE107.out) hb);(try clear hb)))
  go_loopg [6,17] k (fun kq v6 v17 w' => ∃ (x6_1 : Int) (x17_1 : Int),v6 = .int .i64 x6_1 ∧ v17 = .int .i64 x17_1 ∧ Aside0 (limits_Cost.l0 kq l1 x6_1 l2 (l2.length : Int) x17_1 a0_0 a0_1 a0_2 l0_3 = some (r1,r2)) ∧ Aside0 (kq ≤ k) ∧ Aside0 (w'.heap[gb107]? = some (.cells #[.string a0_0,.int .i64 a0_1,.int .i64 a0_2,(.slice A0_3 l0_3.length c0_3)] 24 (0,0))) ∧ Aside0 (Below w.heap.size w w'))
  case atStart => exact ⟨(0),(0),(by first | rfl | (simp;done) | (simp [*];done)),(by first | rfl | (simp;done) | (simp [*];done)),H',⟨Nat.le_refl _⟩,⟨bk BK107.out⟩,⟨bl1 HB.out GE107.out⟩⟩
  case round =>
   clear H'
   try clear c1
   try clear c2
   try clear p2
   try clear c5
   obtain ⟨x6_1,x17_1,rfl,rfl,HA,HK1,BK107,HB⟩:=hrel
   cases gk with
   | zero => exact absurd HA.out (by simp [limits_Cost.l0])
   | succ k1 =>
    have H:=HA.out;clear HA;simp only [limits_Cost.l0] at H
    by_cases c9 : x17_1 < (l2.length : Int)
    ·rw [if_pos c9] at H;have c9b0 : decide (x17_1 < (l2.length : Int)) = true:=decide_eq_true c9;clear c9
     by_cases c10 : 0 ≤ x17_1
     ·rw [if_pos c10] at H;have c10b0 : decide (0 ≤ x17_1) = true:=decide_eq_true c10;clear c10
      by_cases c11 : x17_1 < (l2.length : Int)
      ·rw [if_pos c11] at H;have c11b0 : decide (x17_1 < (l2.length : Int)) = true:=decide_eq_true c11;clear c11
       by_cases c12 : 0 ≤ (rd l2 x17_1)
       ·rw [if_pos c12] at H;have c12b0 : decide (0 ≤ (rd l2 x17_1)) = true:=decide_eq_true c12;clear c12
        by_cases c13 : (rd l2 x17_1) < (l1.length : Int)
        ·rw [if_pos c13] at H;have c13b0 : decide ((rd l2 x17_1) < (l1.length : Int)) = true:=decide_eq_true c13;clear c13;replace H:=Option.bind_eq_some_iff.mp H;obtain ⟨⟨t111,t112,t113⟩,A140,H⟩:=H
         (try dsimp only at H)
         have A14:=Aside0.mk A140;clear A140;have H':=Aside0.mk H;clear H;have p109 : 0 ≤ (x17_1 : Int):=of_decide_eq_true (by first | (with_reducible assumption) | assumption);have q109 : x17_1 < (l2.length : Int):=of_decide_eq_true (by first | (with_reducible assumption) | assumption);obtain ⟨ad109,e109,hx109_0⟩:=Kd.at_int HR2.out x17_1 p109 q109
         cases e109
         replace hx109_0:=(HB.out.cell (World.block_lt_of_cell? w _ hx109_0)).trans hx109_0;replace p109:=eq_true p109;replace q109:=eq_true q109
         try go_wp2
         replace BK107:=Aside0.mk (blk_drew BK107.out);replace HB:=Aside0.mk (below_drew1 HB.out);have p110 : 0 ≤ ((rd l2 x17_1) : Int):=of_decide_eq_true (by first | (with_reducible assumption) | assumption);have q110 : (rd l2 x17_1) < (l1.length : Int):=of_decide_eq_true (by first | (with_reducible assumption) | assumption);obtain ⟨ad110,A110_5,c110_5,e110,hx110_0,hx110_1,hx110_2,hx110_3,hx110_4,hx110_5,hl110_5,hi110_5⟩:=at_T47 HR1.out (rd l2 x17_1) p110 q110;have hw110_5:=hx110_5;have hw110_4:=hx110_4;have hw110_3:=hx110_3;have hw110_2:=hx110_2;have hw110_1:=hx110_1;have hw110_0:=hx110_0
         cases e110
         replace hx110_0:=(HB.out.cell (World.block_lt_of_cell? w _ hx110_0)).trans hx110_0;replace hx110_1:=(HB.out.cell (World.block_lt_of_cell? w _ hx110_1)).trans hx110_1;replace hx110_2:=(HB.out.cell (World.block_lt_of_cell? w _ hx110_2)).trans hx110_2;replace hx110_3:=(HB.out.cell (World.block_lt_of_cell? w _ hx110_3)).trans hx110_3;replace hx110_4:=(HB.out.cell (World.block_lt_of_cell? w _ hx110_4)).trans hx110_4;replace hx110_5:=(HB.out.cell (World.block_lt_of_cell? w _ hx110_5)).trans hx110_5;have HR110_5:=Aside0.mk hi110_5;have HC110_5:=Aside0.mk hl110_5;clear hi110_5 hl110_5;replace p110:=eq_true p110;replace q110:=eq_true q110;refine start_ (n:=11) (S:=fun w' => w'.cell? ⟨gb107,0,none⟩ = some (.string a0_0) ∧ w'.cell? ⟨gb107,1,none⟩ = some (.int .i64 a0_1) ∧ w'.cell? ⟨gb107,2,none⟩ = some (.int .i64 a0_2) ∧ w'.cell? ⟨gb107,3,none⟩ = some (.slice A0_3 l0_3.length c0_3) ∧ w'.cell? (ad110.add (((rd l2 x17_1)).toNat * 6)) = some (.string ((rd_T47 l1 (rd l2 x17_1)).f0)) ∧ w'.cell? ⟨(ad110.add (((rd l2 x17_1)).toNat * 6)).block,(ad110.add (((rd l2 x17_1)).toNat * 6)).off + 1,none⟩ = some (.int .u8 ((rd_T47 l1 (rd l2 x17_1)).f1)) ∧ w'.cell? ⟨(ad110.add (((rd l2 x17_1)).toNat * 6)).block,(ad110.add (((rd l2 x17_1)).toNat * 6)).off + 2,none⟩ = some (.int .i64 ((rd_T47 l1 (rd l2 x17_1)).f2)) ∧ w'.cell? ⟨(ad110.add (((rd l2 x17_1)).toNat * 6)).block,(ad110.add (((rd l2 x17_1)).toNat * 6)).off + 3,none⟩ = some (.int .i64 ((rd_T47 l1 (rd l2 x17_1)).f3)) ∧ w'.cell? ⟨(ad110.add (((rd l2 x17_1)).toNat * 6)).block,(ad110.add (((rd l2 x17_1)).toNat * 6)).off + 4,none⟩ = some (.int .i64 ((rd_T47 l1 (rd l2 x17_1)).f4)) ∧ w'.cell? ⟨(ad110.add (((rd l2 x17_1)).toNat * 6)).block,(ad110.add (((rd l2 x17_1)).toNat * 6)).off + 5,none⟩ = some (.slice A110_5 ((rd_T47 l1 (rd l2 x17_1)).f5).length c110_5)) (ds:=[]) (pm 0 11) (by kernel_rfl) rfl rfl ⟨bc BK107.out 0 _ rfl,bc BK107.out 1 _ rfl,bc BK107.out 2 _ rfl,bc BK107.out 3 _ rfl,((HB.out.cell (World.block_lt_of_cell? w _ hw110_0)).trans hw110_0),((HB.out.cell (World.block_lt_of_cell? w _ hw110_1)).trans hw110_1),((HB.out.cell (World.block_lt_of_cell? w _ hw110_2)).trans hw110_2),((HB.out.cell (World.block_lt_of_cell? w _ hw110_3)).trans hw110_3),((HB.out.cell (World.block_lt_of_cell? w _ hw110_4)).trans hw110_4),((HB.out.cell (World.block_lt_of_cell? w _ hw110_5)).trans hw110_5)⟩ (fun hHeld => ?_);refine with_tabW limits_Cost.tab6 limits_Cost.bits6 (fun HT_ HW_ => ?_);generalize wr.drew = w15 at BK107 HB HR110_5 hx110_0 hx110_1 hx110_2 hx110_3 hx110_4 hx110_5 hHeld ⊢;refine pu 0 21 (pm 1 11) rfl rfl HT_.out (fun _ _ _ h => h) ?_;refine pu 2 23 #[true,false,true,false,false,false,false,false,false,false,false] rfl rfl HT_.out (fun _ _ _ h => h) ?_;refine pu 3 24 #[true,false,true,true,false,false,false,false,false,false,false] rfl rfl HT_.out (fun _ _ _ h => h) ?_;refine pu 4 25 #[true,false,true,true,true,false,false,false,false,false,false] rfl rfl HT_.out (fun _ _ _ h => h) ?_;refine pu 5 26 #[true,false,true,true,true,true,false,false,false,false,false] rfl rfl HT_.out (fun _ _ _ h => h) ?_;refine take_ (i:=1) (N:=some 22) (v:=?_) (a':=?_) (pm 6 11) rfl rfl (take_ofW HT_.out HW_.out (by kernel_rfl)) (fun _ _ _ h => h) (Or.inl ⟨by rfl,?_⟩) hHeld ?_ ?_;rotate_left
         ·rintro w' ⟨s0,s1,s2,s3,s4,s5,s6,s7,s8,s9⟩;go_simp;with_reducible rfl
         rotate_left
         ·simp only [Act.put,List.setIfInBounds_toArray,List.set_cons_zero,List.set_cons_succ,i64_w,i32_w];rfl
         refine take_ (i:=6) (N:=some 27) (v:=?_) (a':=?_) (pm 7 11) rfl rfl (take_ofW HT_.out HW_.out (by kernel_rfl)) (fun _ _ _ h => h) (Or.inl ⟨by rfl,?_⟩) hHeld ?_ ?_;rotate_left
         ·rintro w' ⟨s0,s1,s2,s3,s4,s5,s6,s7,s8,s9⟩;go_simp;with_reducible rfl
         rotate_left
         ·simp only [Act.put,List.setIfInBounds_toArray,List.set_cons_zero,List.set_cons_succ,i64_w,i32_w];rfl
         refine one_ (i:=7) (N:=some 28) (pm 8 11) rfl rfl (one_of HT_.out (by kernel_rfl)) (by decide) (fun K hK => ?_);refine goes_ Tryz.func26 (by kernel_rfl) rfl #[.agg #[.string a0_0,.int .i64 a0_1,.int .i64 a0_2,.slice A0_3 l0_3.length c0_3],.string ((rd_T47 l1 (rd l2 x17_1)).f0)] (by rfl) rfl rfl ea ?_
         with_reducible refine (limits_of.calls a0_0 a0_1 a0_2 _ _ l0_3 ((rd_T47 l1 (rd l2 x17_1)).f0) t111 t112 t113 _ ?side1 ?side2 A14.out).mono ?_
         (case side1 => exact kc (Kd.C_below HR0_3.out HB.out))
         (case side2 => exact HC0_3.out)
         rintro e w16 ⟨rfl,hb⟩;refine ⟨_,rfl,?_⟩;replace BK107:=Aside0.mk (blk_below (g:=gb107) (o:=.cells #[.string a0_0,.int .i64 a0_1,.int .i64 a0_2,.slice A0_3 l0_3.length c0_3] 24 (0,0)) (bk BK107.out) hb);replace HB:=Aside0.mk (below_step (bl1 HB.out GE107.out) hb);(try clear hb);refine hK.out _ _ ⟨bc BK107.out 0 _ rfl,bc BK107.out 1 _ rfl,bc BK107.out 2 _ rfl,bc BK107.out 3 _ rfl,((HB.out.cell (World.block_lt_of_cell? w _ hw110_0)).trans hw110_0),((HB.out.cell (World.block_lt_of_cell? w _ hw110_1)).trans hw110_1),((HB.out.cell (World.block_lt_of_cell? w _ hw110_2)).trans hw110_2),((HB.out.cell (World.block_lt_of_cell? w _ hw110_3)).trans hw110_3),((HB.out.cell (World.block_lt_of_cell? w _ hw110_4)).trans hw110_4),((HB.out.cell (World.block_lt_of_cell? w _ hw110_5)).trans hw110_5)⟩ (fun hHeld => ?_);clear hK K;refine norm_ (a':=?_) ?_ ?_;rotate_left
         ·show Act.put _ (some 28) _ = _;simp only [Act.put,List.setIfInBounds_toArray,List.set_cons_zero,List.set_cons_succ,i64_w,i32_w];rfl
         refine pu 8 29 (pm 9 11) rfl rfl HT_.out (fun _ _ _ h => h) ?_;refine pu 9 30 (pm 10 11) rfl rfl HT_.out (fun _ _ _ h => h) ?_;refine pu 10 6 (pm 11 11) rfl rfl HT_.out (fun _ _ _ h => h) ?_;refine done_ (done_of HT_.out (by kernel_rfl)) ?_
         try go_wp2
         go_roundg k1
         case measure => have:=HK1.out;omega
         case rel => exact ⟨(wrap64 (x6_1 + t113)),(wrap64 (x17_1 + 1)),(by first | rfl | (simp;done) | (simp [*];done)),(by first | rfl | (simp;done) | (simp [*];done)),H',⟨by have:=HK1.out;omega⟩,⟨bk BK107.out⟩,⟨bl1 HB.out GE107.out⟩⟩
        ·rw [if_neg c13] at H;exact absurd H (by simp)
       ·rw [if_neg c12] at H;exact absurd H (by simp)
      ·rw [if_neg c11] at H;exact absurd H (by simp)
     ·rw [if_neg c10] at H;exact absurd H (by simp)
    ·rw [if_neg c9] at H;have c9b0 : decide (x17_1 < (l2.length : Int)) = false:=decide_eq_false c9;clear c9;simp only [Option.some.injEq,Prod.mk.injEq] at H;obtain ⟨rfl,rfl⟩:=H
     go_wp2
     go_ret2
     exact ⟨by first | rfl | (simp [errW_none,errW_some] <;> rfl) | (simp [*,errW_none,errW_some] <;> rfl),bl1 HB.out GE107.out⟩
 ·replace c5:=Bool.eq_false_iff.mpr c5;subst c5;rw [if_neg (show ¬ (false = true) by decide)] at H;simp only [Option.some.injEq,Prod.mk.injEq] at H;obtain ⟨rfl,rfl⟩:=H
  go_enter Tryz.func13,Tryz.ntmps13
  go_wp2_with (first | ((with_reducible refine gate_dst (N:=3) rfl ?_);refine box_event ?hg (N:=3) ?hd (cs:=#[.string a0_0,.int .i64 a0_1,.int .i64 a0_2,.slice A0_3 l0_3.length c0_3]) (t:=24) ?hr ?_;(case hd => rfl);(case hg => rfl);(case hr => first | (go_simp;done) | (go_simp;rfl));intro gb107 hg w17 hbox hb;have n0_:=Aside0.mk (below_step (bl0 HB.out) hb);have n1_:=Aside0.mk (hbox);have n2_:=Aside0.mk ((by rw [hg];exact (below_size (bl0 HB.out)) : w.heap.size ≤ gb107));have n3_:=Aside0.mk ((by rw [hg];exact (below_size (bl0 HB.out)) : w.heap.size ≤ gb107));clear HB;have HB:=n0_;have BK107:=n1_;have GW107:=n2_;have GE107:=n3_;clear n0_ n1_ n2_ n3_;clear hb hbox hg;have hcz18_0:=bc BK107.out 0 (.string a0_0) rfl;have hcz18_1:=bc BK107.out 1 (.int .i64 a0_1) rfl;have hcz18_2:=bc BK107.out 2 (.int .i64 a0_2) rfl;have hcz18_3:=bc BK107.out 3 (.slice A0_3 l0_3.length c0_3) rfl;have hfz18_0:=blk_frozen BK107.out 0;have hfz18_1:=blk_frozen BK107.out 1;have hfz18_2:=blk_frozen BK107.out 2;have hfz18_3:=blk_frozen BK107.out 3) | ((with_reducible refine gate_callee (f:=27) rfl ?_);refine goesL_ (some 13) rfl rfl Tryz.func27 (by kernel_rfl) rfl #[.agg #[.string a0_0,.int .i64 a0_1,.int .i64 a0_2,.slice A0_3 l0_3.length c0_3],.slice A1 l1.length c1,.slice A2 l2.length c2] rfl ea ?_;(with_reducible refine (limits_may.calls k a0_0 a0_1 a0_2 _ _ l0_3 _ _ l1 _ _ l2 false _ ?side1 ?side2 ?side3 ?side4 ?side5 ?side6 ?side7 A4.out).mono ?_);(case side1 => exact kc (Kd.C_below HR0_3.out HB.out));(case side2 => exact HC0_3.out);(case side3 => exact kc (Kd.C_below HR1.out HB.out));(case side4 => exact HC1.out);(case side5 => exact kc (Kd.C_below HR2.out HB.out));(case side6 => exact HC2.out);(case side7 => exact Tabs.below HG.out (bl1 HB.out GE107.out));rintro e w19 ⟨rfl,hb⟩;refine ⟨_,rfl,?_⟩;replace BK107:=Aside0.mk (blk_below (g:=gb107) (o:=.cells #[.string a0_0,.int .i64 a0_1,.int .i64 a0_2,.slice A0_3 l0_3.length c0_3] 24 (0,0)) (bk BK107.out) hb);replace HB:=Aside0.mk (below_step (bl1 HB.out GE107.out) hb);(try clear hb)))
  go_ret2
  exact ⟨by first | rfl | (simp [errW_none,errW_some] <;> rfl) | (simp [*,errW_none,errW_some] <;> rfl),bl1 HB.out GE107.out⟩

end Go.Proofs.YtgcmgfljbadljaaGreatDoor.L
