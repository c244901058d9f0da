/- Written by a program of this claim's author (stubprint.py, over the kit's print) out of the translation: Go functions as Lean functions, and that the calls come to them. -/
import Derived.Test.YtmgdkkkkanjadaaGreatDoorX0
import Derived.Test.YtmgdkkkkanjadaaGreatDoorHandS
import Derived.WalkLawsBesides
namespace Go.Proofs.YtmgdkkkkanjadaaGreatDoor.X
open Go.RowKit Go.Proofs.YtmgdkkkkanjadaaGreatDoorW.PrintWords Go.Proofs.YtmgdkkkkanjadaaGreatDoorW.PrintLast Go.Proofs.YtmgdkkkkanjadaaGreatDoorW.PrintMore Go.Proofs.YtmgdkkkkanjadaaGreatDoor.HandS Go.Proofs.YtmgdkkkkanjadaaGreatDoor.Iter
attribute [local go_sem] max2_int min2_int max_two min_two max_three min_three max_four min_four   -- for this text's walks alone
set_option linter.unusedVariables false
set_option linter.unusedSimpArgs false

-- by hand: function 80 (utf8_DecodeRuneInString)

/-! ### joustref01_Where: function 81 -/
def joustref01_Where.l0 : Nat → ByteArray → Int → Int → Int → Int → Option (Int × Int)
 | 0,_,_,_,_,_ => none
 | k + 1,x0,x1,x6,x103000,x103001 => if x6 < (x0.size : Int) then (if 0 ≤ x6 then (if x6 ≤ (x0.size : Int) then ((utf8_DecodeRuneInString.f (x0.extract (x6 : Int).toNat x0.size)).bind fun bt103 => (if x1 < (wrap64 (x6 + bt103.2)) then (some (x103000,x103001)) else (if bt103.1 = 10 then (joustref01_Where.l0 k x0 x1 (wrap64 (x6 + bt103.2)) (wrap64 (x103000 + 1)) 1) else (joustref01_Where.l0 k x0 x1 (wrap64 (x6 + bt103.2)) x103000 (wrap64 (x103001 + 1)))))) else (none)) else (none)) else (some (x103000,x103001))
def joustref01_Where.f (k : Nat) (a0 : ByteArray) (a1 : Int) : Option (Int × Int):=joustref01_Where.l0 k a0 a1 0 1 1
theorem joustref01_Where.mono_l : ∀ k,(∀ y0 y1 y2 y3 y4,LeO (joustref01_Where.l0 k y0 y1 y2 y3 y4) (joustref01_Where.l0 (k + 1) y0 y1 y2 y3 y4))
 | 0 => fun _ _ _ _ _ r h => by simp [joustref01_Where.l0] at h
 | k + 1 => by
  have ih0:=joustref01_Where.mono_l k
  ·intro y0 y1 y2 y3 y4
   unfold joustref01_Where.l0
   repeat' first
   | (with_reducible exact ih0 _ _ _ _ _)
   | (with_reducible exact LeO.refl _)
   | (with_reducible exact LeO.none _)
   | (with_reducible refine LeO.ite ?_ ?_)
   | (with_reducible refine LeO.bind ?_ (fun _ => ?_))
   | exact ih0 _ _ _ _ _
   | exact LeO.none _
   | refine LeO.ite ?_ ?_
   | refine LeO.bind ?_ (fun _ => ?_)
theorem joustref01_Where.mono : ∀ a0 a1 k,LeO (joustref01_Where.f k a0 a1) (joustref01_Where.f (k + 1) a0 a1):=by
 intro a0 a1 k;have ih0:=joustref01_Where.mono_l k
 unfold joustref01_Where.f
 repeat' first
   | (with_reducible exact ih0 _ _ _ _ _)
   | (with_reducible exact LeO.refl _)
   | (with_reducible exact LeO.none _)
   | (with_reducible refine LeO.ite ?_ ?_)
   | (with_reducible refine LeO.bind ?_ (fun _ => ?_))
   | exact ih0 _ _ _ _ _
   | exact LeO.none _
   | refine LeO.ite ?_ ?_
   | refine LeO.bind ?_ (fun _ => ?_)
set_option maxHeartbeats 8000000 in
set_option maxRecDepth 100000 in
theorem joustref01_Where.calls (k : Nat) (a0 : ByteArray) (a1 : Int) (r1 : Int) (r2 : Int) (w : World) (hG : Tabs w) (h : joustref01_Where.f k a0 a1 = some (r1,r2)) :
  Calls Tryz.prog 81 #[.string a0,.int .i64 a1] w fun e w' => e = .returned (.agg #[.int .i64 r1,.int .i64 r2]) ∧ Below w.heap.size w w':=by
 have hu26:=Tryz.underlying26;have HG:=Aside0.mk hG;clear hG;have HB:=Aside0.mk (Below.refl w.heap.size w);have H : (joustref01_Where.l0 k a0 a1 0 1 1) = some (r1,r2):=h;clear h;have H':=Aside0.mk H;clear H
 go_enter Tryz.func81,Tryz.ntmps81
 go_wp2_with (first | ((with_reducible refine gate_dst (N:=4) rfl ?_);refine box_event ?hg (N:=4) ?hd (cs:=#[.int .i64 0,.int .i64 0]) (t:=26) ?hr ?_;(case hd => rfl);(case hg => rfl);(case hr => first | (go_simp;done) | (go_simp;rfl));intro gb101 hg w3 hbox hb;have n0_:=Aside0.mk (below_step (bl0 HB.out) hb);have n1_:=Aside0.mk (hbox);have n2_:=Aside0.mk ((by rw [hg];exact (below_size (bl0 HB.out)) : w.heap.size ≤ gb101));have n3_:=Aside0.mk ((by rw [hg];exact (below_size (bl0 HB.out)) : w.heap.size ≤ gb101));clear HB;have HB:=n0_;have BK101:=n1_;have GW101:=n2_;have GE101:=n3_;clear n0_ n1_ n2_ n3_;clear hb hbox hg) | ((with_reducible refine gate_dst (N:=5) rfl ?_);refine box_event ?hg (N:=5) ?hd (cs:=#[.int .i64 0,.int .i64 0]) (t:=26) ?hr ?_;(case hd => rfl);(case hg => rfl);(case hr => first | (go_simp;done) | (go_simp;rfl));intro gb102 hg w4 hbox hb;have n0_:=Aside0.mk (blk_below (g:=gb101) (o:=.cells #[.int .i64 0,.int .i64 0] 26 (0,0)) (bk BK101.out) hb);have n1_:=Aside0.mk (below_step (bl1 HB.out GE101.out) hb);have n2_:=Aside0.mk (hbox);have n3_:=Aside0.mk ((by rw [hg];exact (below_size (bl1 HB.out GE101.out)) : w.heap.size ≤ gb102));have n4_:=Aside0.mk ((by rw [hg];exact (below_size (bl1 HB.out GE101.out)) : w.heap.size ≤ gb102));have n5_:=Aside0.mk ((by rw [hg];exact Nat.ne_of_lt (blk_lt (g:=gb101) (o:=.cells #[.int .i64 0,.int .i64 0] 26 (0,0)) (bk BK101.out)) : gb101 ≠ gb102));have n6_:=Aside0.mk ((by rw [hg];exact Nat.ne_of_gt (blk_lt (g:=gb101) (o:=.cells #[.int .i64 0,.int .i64 0] 26 (0,0)) (bk BK101.out)) : gb102 ≠ gb101));clear BK101;clear HB;have BK101:=n0_;have HB:=n1_;have BK102:=n2_;have GW102:=n3_;have GE102:=n4_;have NB101_102:=n5_;have NB102_101:=n6_;clear n0_ n1_ n2_ n3_ n4_ n5_ n6_;clear hb hbox hg;have hnb5:=NB102_101.out;have hnc5:=NB101_102.out;have hcz6_0:=bc BK102.out 0 (.int .i64 0) rfl;have hcz6_1:=bc BK102.out 1 (.int .i64 0) rfl;have hfz6_0:=blk_frozen BK102.out 0;have hfz6_1:=blk_frozen BK102.out 1))
 go_loopg [6] k (fun kq v6 w' => ∃ (x6_1 : Int) (x102000_1 : Int) (x102001_1 : Int) (x103000_1 : Int) (x103001_1 : Int),v6 = .int .i64 x6_1 ∧ Aside0 (joustref01_Where.l0 kq a0 a1 x6_1 x103000_1 x103001_1 = some (r1,r2)) ∧ Aside0 (kq ≤ k) ∧ Aside0 (w'.heap[gb101]? = some (.cells #[.int .i64 x102000_1,.int .i64 x102001_1] 26 (0,0))) ∧ Aside0 (w'.heap[gb102]? = some (.cells #[.int .i64 x103000_1,.int .i64 x103001_1] 26 (0,0))) ∧ Aside0 (Below w.heap.size w w'))
 case atStart => exact ⟨(0),(0),(0),(1),(1),(by first | rfl | (simp;done) | (simp [*];done)),H',⟨Nat.le_refl _⟩,⟨by (with_reducible repeat (first | refine blk_drewN ?_ _ | refine blk_drew ?_ | refine blk_alloc ?_ _));refine blk_far ?_ NB101_102.out _;(with_reducible repeat (first | refine blk_drewN ?_ _ | refine blk_drew ?_ | refine blk_alloc ?_ _));refine blk_far ?_ NB101_102.out _;(with_reducible repeat (first | refine blk_drewN ?_ _ | refine blk_drew ?_ | refine blk_alloc ?_ _));exact BK101.out⟩,⟨by (with_reducible repeat (first | refine blk_drewN ?_ _ | refine blk_drew ?_ | refine blk_alloc ?_ _));refine blk_put (cs:=#[.int .i64 1,.int .i64 0]) ?_ 1 _ rfl;(with_reducible repeat (first | refine blk_drewN ?_ _ | refine blk_drew ?_ | refine blk_alloc ?_ _));refine blk_put (cs:=#[.int .i64 0,.int .i64 0]) ?_ 0 _ rfl;(with_reducible repeat (first | refine blk_drewN ?_ _ | refine blk_drew ?_ | refine blk_alloc ?_ _));exact BK102.out⟩,⟨bl2 HB.out GE101.out GE102.out⟩⟩
 case round =>
  clear H'
  try clear p2
  try clear c5
  obtain ⟨x6_1,x102000_1,x102001_1,x103000_1,x103001_1,rfl,HA,HK1,BK101,BK102,HB⟩:=hrel
  cases gk with
  | zero => exact absurd HA.out (by simp [joustref01_Where.l0])
  | succ k1 =>
   have H:=HA.out;clear HA;simp only [joustref01_Where.l0] at H
   by_cases c7 : x6_1 < (a0.size : Int)
   ·rw [if_pos c7] at H;have c7b0 : decide (x6_1 < (a0.size : Int)) = true:=decide_eq_true c7;clear c7
    by_cases c8 : 0 ≤ x6_1
    ·rw [if_pos c8] at H;have c8b0:=eq_true c8;have c8b1 : decide (0 ≤ x6_1) = true:=decide_eq_true c8;clear c8
     by_cases c9 : x6_1 ≤ (a0.size : Int)
     ·rw [if_pos c9] at H;have c9b0:=eq_true c9;have c9b1 : decide (x6_1 ≤ (a0.size : Int)) = true:=decide_eq_true c9;clear c9;replace H:=Option.bind_eq_some_iff.mp H;obtain ⟨⟨t103,t104⟩,A100,H⟩:=H
      (try dsimp only at H)
      have A10:=Aside0.mk A100;clear A100
      by_cases c11 : a1 < (wrap64 (x6_1 + t104))
      ·rw [if_pos c11] at H;have c11b0 : decide (a1 < (wrap64 (x6_1 + t104))) = true:=decide_eq_true c11;clear c11;simp only [Option.some.injEq,Prod.mk.injEq] at H;obtain ⟨rfl,rfl⟩:=H
       go_wp2_with (first | ((with_reducible refine gate_callee (f:=80) rfl ?_);refine goesL_ (some 18) rfl rfl Tryz.func80 (by kernel_rfl) rfl #[.string (a0.extract (x6_1 : Int).toNat a0.size)] rfl ea ?_;(with_reducible refine (utf8_DecodeRuneInString.calls (a0.extract (x6_1 : Int).toNat a0.size) t103 t104 _ ?side1 A10.out).mono ?_);(case side1 => exact Tabs.below HG.out (bl2 HB.out GE101.out GE102.out));rintro e w12 ⟨rfl,hb⟩;refine ⟨_,rfl,?_⟩;replace BK101:=Aside0.mk (blk_below (g:=gb101) (o:=.cells #[.int .i64 x102000_1,.int .i64 x102001_1] 26 (0,0)) (bk BK101.out) hb);replace BK102:=Aside0.mk (blk_below (g:=gb102) (o:=.cells #[.int .i64 x103000_1,.int .i64 x103001_1] 26 (0,0)) (bk BK102.out) hb);replace HB:=Aside0.mk (below_step (bl2 HB.out GE101.out GE102.out) hb);(try clear hb);have hnb13:=NB102_101.out;have hnc13:=NB101_102.out;have hcz14_0:=bc BK102.out 0 (.int .i64 x103000_1) rfl;have hcz14_1:=bc BK102.out 1 (.int .i64 x103001_1) rfl;have hfz14_0:=blk_frozen BK102.out 0;have hfz14_1:=blk_frozen BK102.out 1;have hcz15_0:=bc BK101.out 0 (.int .i64 x102000_1) rfl;have hcz15_1:=bc BK101.out 1 (.int .i64 x102001_1) rfl;have hfz15_0:=blk_frozen BK101.out 0;have hfz15_1:=blk_frozen BK101.out 1))
       refine bodyPost_ret (results_cell_row rfl _ _ gb101 26 #[.int .i64 x103000_1,.int .i64 x103001_1] (0,0) _ rfl (by (with_reducible repeat (first | refine blk_drewN ?_ _ | refine blk_drew ?_ | refine blk_alloc ?_ _));refine blk_put (cs:=#[.int .i64 x103000_1,.int .i64 x102001_1]) ?_ 1 _ rfl;(with_reducible repeat (first | refine blk_drewN ?_ _ | refine blk_drew ?_ | refine blk_alloc ?_ _));refine blk_put (cs:=#[.int .i64 x102000_1,.int .i64 x102001_1]) ?_ 0 _ rfl;(with_reducible repeat (first | refine blk_drewN ?_ _ | refine blk_drew ?_ | refine blk_alloc ?_ _));exact BK101.out) Tryz.underlying26 rfl (by kernel_rfl)) rfl ?_;exact ⟨by first | rfl | (simp [errW_none,errW_some] <;> rfl) | (simp [*,errW_none,errW_some] <;> rfl),bl2 HB.out GE101.out GE102.out⟩
      ·rw [if_neg c11] at H;have c11b0 : decide (a1 < (wrap64 (x6_1 + t104))) = false:=decide_eq_false c11;clear c11
       by_cases c16 : t103 = 10
       ·rw [if_pos c16] at H;have c16b0 : (t103 == 10) = true:=beq_iff_eq.mpr c16;have c16b1 : (t103 != 10) = false:=bne_eq_false_iff_eq.mpr c16;clear c16;have H':=Aside0.mk H;clear H
        go_wp2_with (first | ((with_reducible refine gate_callee (f:=80) rfl ?_);refine goesL_ (some 18) rfl rfl Tryz.func80 (by kernel_rfl) rfl #[.string (a0.extract (x6_1 : Int).toNat a0.size)] rfl ea ?_;(with_reducible refine (utf8_DecodeRuneInString.calls (a0.extract (x6_1 : Int).toNat a0.size) t103 t104 _ ?side1 A10.out).mono ?_);(case side1 => exact Tabs.below HG.out (bl2 HB.out GE101.out GE102.out));rintro e w17 ⟨rfl,hb⟩;refine ⟨_,rfl,?_⟩;replace BK101:=Aside0.mk (blk_below (g:=gb101) (o:=.cells #[.int .i64 x102000_1,.int .i64 x102001_1] 26 (0,0)) (bk BK101.out) hb);replace BK102:=Aside0.mk (blk_below (g:=gb102) (o:=.cells #[.int .i64 x103000_1,.int .i64 x103001_1] 26 (0,0)) (bk BK102.out) hb);replace HB:=Aside0.mk (below_step (bl2 HB.out GE101.out GE102.out) hb);(try clear hb);have hnb18:=NB102_101.out;have hnc18:=NB101_102.out;have hcz19_0:=bc BK102.out 0 (.int .i64 x103000_1) rfl;have hcz19_1:=bc BK102.out 1 (.int .i64 x103001_1) rfl;have hfz19_0:=blk_frozen BK102.out 0;have hfz19_1:=blk_frozen BK102.out 1))
        go_roundg k1
        case measure => have:=HK1.out;omega
        case rel => exact ⟨(wrap64 (x6_1 + t104)),(x102000_1),(x102001_1),(wrap64 (x103000_1 + 1)),(1),(by first | rfl | (simp;done) | (simp [*];done)),H',⟨by have:=HK1.out;omega⟩,⟨by (with_reducible repeat (first | refine blk_drewN ?_ _ | refine blk_drew ?_ | refine blk_alloc ?_ _));refine blk_far ?_ NB101_102.out _;(with_reducible repeat (first | refine blk_drewN ?_ _ | refine blk_drew ?_ | refine blk_alloc ?_ _));refine blk_far ?_ NB101_102.out _;(with_reducible repeat (first | refine blk_drewN ?_ _ | refine blk_drew ?_ | refine blk_alloc ?_ _));refine blk_far ?_ NB101_102.out _;(with_reducible repeat (first | refine blk_drewN ?_ _ | refine blk_drew ?_ | refine blk_alloc ?_ _));exact BK101.out⟩,⟨by (with_reducible repeat (first | refine blk_drewN ?_ _ | refine blk_drew ?_ | refine blk_alloc ?_ _));refine blk_put (cs:=#[.int .i64 (wrap64 (x103000_1 + 1)),.int .i64 (wrap64 (x103001_1 + 1))]) ?_ 1 _ rfl;(with_reducible repeat (first | refine blk_drewN ?_ _ | refine blk_drew ?_ | refine blk_alloc ?_ _));refine blk_put (cs:=#[.int .i64 x103000_1,.int .i64 (wrap64 (x103001_1 + 1))]) ?_ 0 _ rfl;(with_reducible repeat (first | refine blk_drewN ?_ _ | refine blk_drew ?_ | refine blk_alloc ?_ _));refine blk_put (cs:=#[.int .i64 x103000_1,.int .i64 x103001_1]) ?_ 1 _ rfl;(with_reducible repeat (first | refine blk_drewN ?_ _ | refine blk_drew ?_ | refine blk_alloc ?_ _));exact BK102.out⟩,⟨bl2 HB.out GE101.out GE102.out⟩⟩
       ·rw [if_neg c16] at H;have c16b0 : (t103 == 10) = false:=beq_eq_false_iff_ne.mpr c16;have c16b1 : (t103 != 10) = true:=bne_iff_ne.mpr c16;have H':=Aside0.mk H;clear H
        go_wp2_with (first | ((with_reducible refine gate_callee (f:=80) rfl ?_);refine goesL_ (some 18) rfl rfl Tryz.func80 (by kernel_rfl) rfl #[.string (a0.extract (x6_1 : Int).toNat a0.size)] rfl ea ?_;(with_reducible refine (utf8_DecodeRuneInString.calls (a0.extract (x6_1 : Int).toNat a0.size) t103 t104 _ ?side1 A10.out).mono ?_);(case side1 => exact Tabs.below HG.out (bl2 HB.out GE101.out GE102.out));rintro e w20 ⟨rfl,hb⟩;refine ⟨_,rfl,?_⟩;replace BK101:=Aside0.mk (blk_below (g:=gb101) (o:=.cells #[.int .i64 x102000_1,.int .i64 x102001_1] 26 (0,0)) (bk BK101.out) hb);replace BK102:=Aside0.mk (blk_below (g:=gb102) (o:=.cells #[.int .i64 x103000_1,.int .i64 x103001_1] 26 (0,0)) (bk BK102.out) hb);replace HB:=Aside0.mk (below_step (bl2 HB.out GE101.out GE102.out) hb);(try clear hb);have hnb21:=NB102_101.out;have hnc21:=NB101_102.out;have hcz22_0:=bc BK102.out 0 (.int .i64 x103000_1) rfl;have hcz22_1:=bc BK102.out 1 (.int .i64 x103001_1) rfl;have hfz22_0:=blk_frozen BK102.out 0;have hfz22_1:=blk_frozen BK102.out 1))
        go_roundg k1
        case measure => have:=HK1.out;omega
        case rel => exact ⟨(wrap64 (x6_1 + t104)),(x102000_1),(x102001_1),(x103000_1),(wrap64 (x103001_1 + 1)),(by first | rfl | (simp;done) | (simp [*];done)),H',⟨by have:=HK1.out;omega⟩,⟨by (with_reducible repeat (first | refine blk_drewN ?_ _ | refine blk_drew ?_ | refine blk_alloc ?_ _));refine blk_far ?_ NB101_102.out _;(with_reducible repeat (first | refine blk_drewN ?_ _ | refine blk_drew ?_ | refine blk_alloc ?_ _));exact BK101.out⟩,⟨by (with_reducible repeat (first | refine blk_drewN ?_ _ | refine blk_drew ?_ | refine blk_alloc ?_ _));refine blk_put (cs:=#[.int .i64 x103000_1,.int .i64 x103001_1]) ?_ 1 _ rfl;(with_reducible repeat (first | refine blk_drewN ?_ _ | refine blk_drew ?_ | refine blk_alloc ?_ _));exact BK102.out⟩,⟨bl2 HB.out GE101.out GE102.out⟩⟩
     ·rw [if_neg c9] at H;exact absurd H (by simp)
    ·rw [if_neg c8] at H;exact absurd H (by simp)
   ·rw [if_neg c7] at H;have c7b0 : decide (x6_1 < (a0.size : Int)) = false:=decide_eq_false c7;clear c7;simp only [Option.some.injEq,Prod.mk.injEq] at H;obtain ⟨rfl,rfl⟩:=H;have hnb23:=NB102_101.out;have hnc23:=NB101_102.out;have hcz24_0:=bc BK102.out 0 (.int .i64 x103000_1) rfl;have hcz24_1:=bc BK102.out 1 (.int .i64 x103001_1) rfl;have hfz24_0:=blk_frozen BK102.out 0;have hfz24_1:=blk_frozen BK102.out 1;have hcz25_0:=bc BK101.out 0 (.int .i64 x102000_1) rfl;have hcz25_1:=bc BK101.out 1 (.int .i64 x102001_1) rfl;have hfz25_0:=blk_frozen BK101.out 0;have hfz25_1:=blk_frozen BK101.out 1
    go_wp2
    refine bodyPost_ret (results_cell_row rfl _ _ gb101 26 #[.int .i64 x103000_1,.int .i64 x103001_1] (0,0) _ rfl (by (with_reducible repeat (first | refine blk_drewN ?_ _ | refine blk_drew ?_ | refine blk_alloc ?_ _));refine blk_put (cs:=#[.int .i64 x103000_1,.int .i64 x102001_1]) ?_ 1 _ rfl;(with_reducible repeat (first | refine blk_drewN ?_ _ | refine blk_drew ?_ | refine blk_alloc ?_ _));refine blk_put (cs:=#[.int .i64 x102000_1,.int .i64 x102001_1]) ?_ 0 _ rfl;(with_reducible repeat (first | refine blk_drewN ?_ _ | refine blk_drew ?_ | refine blk_alloc ?_ _));exact BK101.out) Tryz.underlying26 rfl (by kernel_rfl)) rfl ?_;exact ⟨by first | rfl | (simp [errW_none,errW_some] <;> rfl) | (simp [*,errW_none,errW_some] <;> rfl),bl2 HB.out GE101.out GE102.out⟩

end Go.Proofs.YtmgdkkkkanjadaaGreatDoor.X
