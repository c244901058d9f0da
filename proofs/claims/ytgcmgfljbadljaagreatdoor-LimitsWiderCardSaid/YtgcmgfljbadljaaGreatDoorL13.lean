/- Written by a program of this claim's author (stubprint.py, over the kit's print) out of the translation: Go functions as Lean functions, and that the calls come to them. -/
import Derived.Test.YtgcmgfljbadljaaGreatDoorL0
import Derived.Test.YtgcmgfljbadljaaGreatDoorL12
import Derived.Test.YtgcmgfljbadljaaGreatDoorHandS
import Derived.WalkLawsBesides
namespace Go.Proofs.YtgcmgfljbadljaaGreatDoor.L
open Go.RowKit Go.Proofs.YtgcmgfljbadljaaGreatDoorW.PrintWords Go.Proofs.YtgcmgfljbadljaaGreatDoorW.PrintLast Go.Proofs.YtgcmgfljbadljaaGreatDoorW.PrintMore Go.Proofs.YtgcmgfljbadljaaGreatDoor.HandS Go.Proofs.YtgcmgfljbadljaaGreatDoor.Iter
attribute [local go_sem] max2_int min2_int max_two min_two max_three min_three max_four min_four   -- for this text's walks alone
set_option linter.unusedVariables false
set_option linter.unusedSimpArgs false

/-! ### limits_May: function 14 -/
mutual
def limits_May.j0 : Nat → Bool → ByteArray → Int → Int → List (S42) → Option (Bool)
 | 0,_,_,_,_,_ => none
 | k + 1,x26,x221000,x221001,x221002,x221003 => if x26 = true then (some false) else (limits_May.l0 k x221003 (x221003.length : Int) 0 x221000 x221001 x221002 x221003)
def limits_May.l0 : Nat → List (S42) → Int → Int → ByteArray → Int → Int → List (S42) → Option (Bool)
 | 0,_,_,_,_,_,_,_ => none
 | k + 1,x28,x29,x30,x221000,x221001,x221002,x221003 => if x30 < x29 then (if 0 ≤ x30 then (if x30 < (x28.length : Int) then ((scan_Word.f k ((rd_T42 x28 x30).f0)).bind fun t226 => (if t226 = true then ((limits_within.f ((rd_T42 x28 x30).f1) 3).bind fun t227 => (if t227 = true then ((limits_within.f ((rd_T42 x28 x30).f2) 100).bind fun t228 => (if t228 = true then (if x30 > 0 then (if 0 ≤ (wrap64 (x30 - 1)) then (if (wrap64 (x30 - 1)) < (x221003.length : Int) then (if ((Op.bytesLess (((rd_T42 x221003 (wrap64 (x30 - 1))).f0).toList) (((rd_T42 x28 x30).f0).toList)) = true) then (limits_May.l0 k x28 x29 (wrap64 (x30 + 1)) x221000 x221001 x221002 x221003) else (some false)) else (none)) else (none)) else (limits_May.l0 k x28 x29 (wrap64 (x30 + 1)) x221000 x221001 x221002 x221003)) else (some false))) else (some false))) else (some false))) else (none)) else (none)) else (some true)
end
def limits_May.f (k : Nat) (a0_0 : ByteArray) (a0_1 : Int) (a0_2 : Int) (l0_3 : List (S42)) : Option (Bool):=(scan_Word.f k a0_0).bind fun t221 => (if t221 = true then ((limits_within.f a0_1 4000).bind fun t222 => (if t222 = true then ((limits_within.f a0_2 40).bind fun t223 => (if t223 = true then (limits_May.j0 k (decide ((l0_3.length : Int) > 64)) a0_0 a0_1 a0_2 l0_3) else (limits_May.j0 k true a0_0 a0_1 a0_2 l0_3))) else (limits_May.j0 k true a0_0 a0_1 a0_2 l0_3))) else (limits_May.j0 k true a0_0 a0_1 a0_2 l0_3))
theorem limits_May.mono_l : ∀ k,(∀ y0 y1 y2 y3 y4,LeO (limits_May.j0 k y0 y1 y2 y3 y4) (limits_May.j0 (k + 1) y0 y1 y2 y3 y4)) ∧ (∀ y0 y1 y2 y3 y4 y5 y6,LeO (limits_May.l0 k y0 y1 y2 y3 y4 y5 y6) (limits_May.l0 (k + 1) y0 y1 y2 y3 y4 y5 y6))
 | 0 => ⟨fun _ _ _ _ _ r h => by simp [limits_May.j0] at h,fun _ _ _ _ _ _ _ r h => by simp [limits_May.l0] at h⟩
 | k + 1 => by
  obtain ⟨ih0,ih1⟩:=limits_May.mono_l k;refine ⟨?_,?_⟩
  ·intro y0 y1 y2 y3 y4
   unfold limits_May.j0
   repeat' first
   | (with_reducible exact ih0 _ _ _ _ _)
   | (with_reducible exact ih1 _ _ _ _ _ _ _)
   | (with_reducible exact scan_Word.mono _ _)
   | (with_reducible exact LeO.refl _)
   | (with_reducible exact LeO.none _)
   | (with_reducible refine LeO.ite ?_ ?_)
   | (with_reducible refine LeO.bind ?_ (fun _ => ?_))
   | exact ih0 _ _ _ _ _
   | exact ih1 _ _ _ _ _ _ _
   | exact scan_Word.mono _ _
   | exact LeO.none _
   | refine LeO.ite ?_ ?_
   | refine LeO.bind ?_ (fun _ => ?_)
  ·intro y0 y1 y2 y3 y4 y5 y6
   unfold limits_May.l0
   repeat' first
   | (with_reducible exact ih0 _ _ _ _ _)
   | (with_reducible exact ih1 _ _ _ _ _ _ _)
   | (with_reducible exact scan_Word.mono _ _)
   | (with_reducible exact LeO.refl _)
   | (with_reducible exact LeO.none _)
   | (with_reducible refine LeO.ite ?_ ?_)
   | (with_reducible refine LeO.bind ?_ (fun _ => ?_))
   | exact ih0 _ _ _ _ _
   | exact ih1 _ _ _ _ _ _ _
   | exact scan_Word.mono _ _
   | exact LeO.none _
   | refine LeO.ite ?_ ?_
   | refine LeO.bind ?_ (fun _ => ?_)
theorem limits_May.mono : ∀ a0 a1 a2 a3 k,LeO (limits_May.f k a0 a1 a2 a3) (limits_May.f (k + 1) a0 a1 a2 a3):=by
 intro a0 a1 a2 a3 k;obtain ⟨ih0,ih1⟩:=limits_May.mono_l k
 unfold limits_May.f
 repeat' first
   | (with_reducible exact ih0 _ _ _ _ _)
   | (with_reducible exact ih1 _ _ _ _ _ _ _)
   | (with_reducible exact scan_Word.mono _ _)
   | (with_reducible exact LeO.refl _)
   | (with_reducible exact LeO.none _)
   | (with_reducible refine LeO.ite ?_ ?_)
   | (with_reducible refine LeO.bind ?_ (fun _ => ?_))
   | exact ih0 _ _ _ _ _
   | exact ih1 _ _ _ _ _ _ _
   | exact scan_Word.mono _ _
   | exact LeO.none _
   | refine LeO.ite ?_ ?_
   | refine LeO.bind ?_ (fun _ => ?_)
def limits_May.T6 : Bool × List (List Nat × List Nat):=(true,[([],[]),([0],[0]),([1],[1]),([2],[2]),([3,2],[3]),([4],[4]),([5,4],[4,5]),([6,4,4],[4,6]),([7,4],[4,7]),([4,8],[4,8]),([9,7],[9]),([10],[10]),([11,10],[10,11]),([12,10,10],[10,12]),([13,10],[10,13]),([10,14],[10,14]),([15,13],[15]),([16],[16]),([17,16],[16,17]),([18,16,16],[16,18]),([19],[19]),([20,19],[19,20]),([19],[19]),([22,19],[19,22]),([19],[19]),([24,19],[19,24]),([23,25,19],[19,23,25]),([26,19],[19,26]),([27,19],[19,27]),([21,28,19],[19,21,28]),([19,29,16],[16,19,29]),([16,30],[16,30])])
def limits_May.B6 : List Nat:=[0,1,3,7,15,31,63,127,255,511,1023,2047,4095,8191,16383,32767,65535,131071,262143,524287,1048575,2097151,1048575,5242879,1048575,17825791,63963135,131071999,265289727,536870911,1073741823,2147483647]
theorem limits_May.tab6 : rtab .any (opsOf Tryz.f14 6) = limits_May.T6:=by kernel_rfl
theorem limits_May.bits6 : waitsOk limits_May.T6.2 limits_May.B6 = true:=by kernel_rfl
set_option maxHeartbeats 8000000 in
set_option maxRecDepth 100000 in
theorem limits_May.calls (k : Nat) (a0_0 : ByteArray) (a0_1 : Int) (a0_2 : Int) (A0_3 : Option Addr) (c0_3 : Nat) (l0_3 : List (S42)) (r : Bool) (w : World) (hr0_3 : Kd.C k42 w A0_3 l0_3.length l0_3) (hc0_3 : l0_3.length ≤ c0_3) (hG : Tabs w) (h : limits_May.f k a0_0 a0_1 a0_2 l0_3 = some r) :
  Calls Tryz.prog 14 #[.agg #[.string a0_0,.int .i64 a0_1,.int .i64 a0_2,.slice A0_3 l0_3.length c0_3]] w fun e w' => e = .returned (.bool r) ∧ Below w.heap.size w w':=by
 have hu24:=Tryz.underlying24;have hu42:=Tryz.underlying42;have HG:=Aside0.mk hG;clear hG;have HR0_3:=Aside0.mk hr0_3;have HC0_3:=Aside0.mk hc0_3;clear hr0_3 hc0_3;have HB:=Aside0.mk (Below.refl w.heap.size w);have H : ((scan_Word.f k a0_0).bind fun t221 => (if t221 = true then ((limits_within.f a0_1 4000).bind fun t222 => (if t222 = true then ((limits_within.f a0_2 40).bind fun t223 => (if t223 = true then (limits_May.j0 k (decide ((l0_3.length : Int) > 64)) a0_0 a0_1 a0_2 l0_3) else (limits_May.j0 k true a0_0 a0_1 a0_2 l0_3))) else (limits_May.j0 k true a0_0 a0_1 a0_2 l0_3))) else (limits_May.j0 k true a0_0 a0_1 a0_2 l0_3))) = some r:=h;clear h;have HC2:=Aside0.mk H;clear H
 go_enter Tryz.func14,Tryz.ntmps14
 go_upto_region 1 with (first | ((with_reducible refine gate_dst (N:=1) rfl ?_);(try (refine gate_guard (by rfl) ?_;dsimp only));refine box_event ?hg (N:=1) ?hd (cs:=#[.string a0_0,.int .i64 a0_1,.int .i64 a0_2,.slice A0_3 l0_3.length c0_3]) (t:=24) ?hr ?_;(case hd => rfl);(case hg => rfl);(case hr => first | (go_simp;done) | (go_simp;rfl));intro gb220 hg w3 hbox hb;have n0_:=Aside0.mk (below_step (bl0 HB.out) hb);have n1_:=Aside0.mk (hbox);have n2_:=Aside0.mk ((by rw [hg];exact (below_size (bl0 HB.out)) : w.heap.size ≤ gb220));have n3_:=Aside0.mk ((by rw [hg];exact (below_size (bl0 HB.out)) : w.heap.size ≤ gb220));clear HB;have HB:=n0_;have BK220:=n1_;have GW220:=n2_;have GE220:=n3_;clear n0_ n1_ n2_ n3_;clear hb hbox hg))
 (try simp only [Act.put,List.setIfInBounds_toArray,List.set_cons_zero,List.set_cons_succ])
 go_cut [26] (fun v26 wc => ∃ (kq : Nat) (x26_1 : Bool),v26 = .bool x26_1 ∧ Aside0 (limits_May.j0 kq x26_1 a0_0 a0_1 a0_2 l0_3 = some r) ∧ Aside0 (kq ≤ k) ∧ Aside0 (wc.heap[gb220]? = some (.cells #[.string a0_0,.int .i64 a0_1,.int .i64 a0_2,(.slice A0_3 l0_3.length c0_3)] 24 (0,0))) ∧ Aside0 (Below w.heap.size w wc))
 case first =>
  have H:=HC2.out;clear HC2;replace H:=Option.bind_eq_some_iff.mp H;obtain ⟨t221,A40,H⟩:=H;replace H : (if t221 = true then ((limits_within.f a0_1 4000).bind fun t222 => (if t222 = true then ((limits_within.f a0_2 40).bind fun t223 => (if t223 = true then (limits_May.j0 k (decide ((l0_3.length : Int) > 64)) a0_0 a0_1 a0_2 l0_3) else (limits_May.j0 k true a0_0 a0_1 a0_2 l0_3))) else (limits_May.j0 k true a0_0 a0_1 a0_2 l0_3))) else (limits_May.j0 k true a0_0 a0_1 a0_2 l0_3)) = some r:=H;have A4:=Aside0.mk A40;clear A40
  by_cases c5 : t221 = true
  ·subst c5;have H1 : ((limits_within.f a0_1 4000).bind fun t222 => (if t222 = true then ((limits_within.f a0_2 40).bind fun t223 => (if t223 = true then (limits_May.j0 k (decide ((l0_3.length : Int) > 64)) a0_0 a0_1 a0_2 l0_3) else (limits_May.j0 k true a0_0 a0_1 a0_2 l0_3))) else (limits_May.j0 k true a0_0 a0_1 a0_2 l0_3))) = some r:=by rw [if_pos rfl] at H;exact H
   clear H;have H:=H1;clear H1;replace H:=Option.bind_eq_some_iff.mp H;obtain ⟨t222,A60,H⟩:=H;replace H : (if t222 = true then ((limits_within.f a0_2 40).bind fun t223 => (if t223 = true then (limits_May.j0 k (decide ((l0_3.length : Int) > 64)) a0_0 a0_1 a0_2 l0_3) else (limits_May.j0 k true a0_0 a0_1 a0_2 l0_3))) else (limits_May.j0 k true a0_0 a0_1 a0_2 l0_3)) = some r:=H;have A6:=Aside0.mk A60;clear A60
   by_cases c7 : t222 = true
   ·subst c7;have H1 : ((limits_within.f a0_2 40).bind fun t223 => (if t223 = true then (limits_May.j0 k (decide ((l0_3.length : Int) > 64)) a0_0 a0_1 a0_2 l0_3) else (limits_May.j0 k true a0_0 a0_1 a0_2 l0_3))) = some r:=by rw [if_pos rfl] at H;exact H
    clear H;have H:=H1;clear H1;replace H:=Option.bind_eq_some_iff.mp H;obtain ⟨t223,A80,H⟩:=H;replace H : (if t223 = true then (limits_May.j0 k (decide ((l0_3.length : Int) > 64)) a0_0 a0_1 a0_2 l0_3) else (limits_May.j0 k true a0_0 a0_1 a0_2 l0_3)) = some r:=H;have A8:=Aside0.mk A80;clear A80
    by_cases c9 : t223 = true
    ·subst c9;have H1 : (limits_May.j0 k (decide ((l0_3.length : Int) > 64)) a0_0 a0_1 a0_2 l0_3) = some r:=by rw [if_pos rfl] at H;exact H
     clear H;have H:=H1;clear H1;have H':=Aside0.mk H;clear H;have hcz10_0 : w3.cell? ⟨gb220,0,none⟩ = some (.string a0_0):=(blk_cell BK220.out 0).trans rfl;have hcz10_1 : w3.cell? ⟨gb220,1,none⟩ = some (.int .i64 a0_1):=(blk_cell BK220.out 1).trans rfl;have hcz10_2 : w3.cell? ⟨gb220,2,none⟩ = some (.int .i64 a0_2):=(blk_cell BK220.out 2).trans rfl;have hcz10_3 : w3.cell? ⟨gb220,3,none⟩ = some (.slice A0_3 l0_3.length c0_3):=(blk_cell BK220.out 3).trans rfl;have hfz10_0:=blk_frozen BK220.out 0;have hfz10_1:=blk_frozen BK220.out 1;have hfz10_2:=blk_frozen BK220.out 2;have hfz10_3:=blk_frozen BK220.out 3
     go_wp2_with (first | ((with_reducible refine gate_callee (f:=28) rfl ?_);refine goesL_ (some 7) rfl rfl Tryz.func28 (by kernel_rfl) rfl #[.string a0_0] rfl (by (try simp only [List.map_toArray,List.map_cons,List.map_nil]);first | done | rfl | (simp only [List.length_drop,List.length_take];rfl)) ?_;(with_reducible refine (scan_Word.calls k a0_0 true _ ?side1 A4.out).mono ?_);(case side1 => exact Tabs.below HG.out (bl1 HB.out GE220.out));rintro e w11 ⟨rfl,hb⟩;refine ⟨_,rfl,?_⟩;replace BK220:=Aside0.mk (blk_below (g:=gb220) (o:=.cells #[.string a0_0,.int .i64 a0_1,.int .i64 a0_2,.slice A0_3 l0_3.length c0_3] 24 (0,0)) (bk BK220.out) hb);replace HB:=Aside0.mk (below_step (bl1 HB.out GE220.out) hb);(try clear hb);have hcz12_0 : w11.cell? ⟨gb220,0,none⟩ = some (.string a0_0):=(blk_cell BK220.out 0).trans rfl;have hcz12_1 : w11.cell? ⟨gb220,1,none⟩ = some (.int .i64 a0_1):=(blk_cell BK220.out 1).trans rfl;have hcz12_2 : w11.cell? ⟨gb220,2,none⟩ = some (.int .i64 a0_2):=(blk_cell BK220.out 2).trans rfl;have hcz12_3 : w11.cell? ⟨gb220,3,none⟩ = some (.slice A0_3 l0_3.length c0_3):=(blk_cell BK220.out 3).trans rfl;have hfz12_0:=blk_frozen BK220.out 0;have hfz12_1:=blk_frozen BK220.out 1;have hfz12_2:=blk_frozen BK220.out 2;have hfz12_3:=blk_frozen BK220.out 3) | (go_at_call 29;(with_reducible refine (limits_within.calls a0_1 4000 true _ A6.out).mono ?_);rintro e w' ⟨rfl,⟨nd,rfl⟩⟩) | (go_at_call 29;(with_reducible refine (limits_within.calls a0_2 40 true _ A8.out).mono ?_);rintro e w' ⟨rfl,⟨nd,rfl⟩⟩))
     go_meet
     case rel => exact ⟨_,(decide ((l0_3.length : Int) > 64)),(by first | rfl | (simp;done) | (simp [*];done)),H',⟨by first | omega | exact Nat.le_refl _⟩,⟨bk BK220.out⟩,⟨bl1 HB.out GE220.out⟩⟩
    ·replace c9:=Bool.eq_false_iff.mpr c9;subst c9;have H1 : (limits_May.j0 k true a0_0 a0_1 a0_2 l0_3) = some r:=by rw [if_neg (show ¬ (false = true) by decide)] at H;exact H
     clear H;have H:=H1;clear H1;have H':=Aside0.mk H;clear H;have hcz13_0 : w3.cell? ⟨gb220,0,none⟩ = some (.string a0_0):=(blk_cell BK220.out 0).trans rfl;have hcz13_1 : w3.cell? ⟨gb220,1,none⟩ = some (.int .i64 a0_1):=(blk_cell BK220.out 1).trans rfl;have hcz13_2 : w3.cell? ⟨gb220,2,none⟩ = some (.int .i64 a0_2):=(blk_cell BK220.out 2).trans rfl;have hcz13_3 : w3.cell? ⟨gb220,3,none⟩ = some (.slice A0_3 l0_3.length c0_3):=(blk_cell BK220.out 3).trans rfl;have hfz13_0:=blk_frozen BK220.out 0;have hfz13_1:=blk_frozen BK220.out 1;have hfz13_2:=blk_frozen BK220.out 2;have hfz13_3:=blk_frozen BK220.out 3
     go_wp2_with (first | ((with_reducible refine gate_callee (f:=28) rfl ?_);refine goesL_ (some 7) rfl rfl Tryz.func28 (by kernel_rfl) rfl #[.string a0_0] rfl (by (try simp only [List.map_toArray,List.map_cons,List.map_nil]);first | done | rfl | (simp only [List.length_drop,List.length_take];rfl)) ?_;(with_reducible refine (scan_Word.calls k a0_0 true _ ?side1 A4.out).mono ?_);(case side1 => exact Tabs.below HG.out (bl1 HB.out GE220.out));rintro e w14 ⟨rfl,hb⟩;refine ⟨_,rfl,?_⟩;replace BK220:=Aside0.mk (blk_below (g:=gb220) (o:=.cells #[.string a0_0,.int .i64 a0_1,.int .i64 a0_2,.slice A0_3 l0_3.length c0_3] 24 (0,0)) (bk BK220.out) hb);replace HB:=Aside0.mk (below_step (bl1 HB.out GE220.out) hb);(try clear hb);have hcz15_0 : w14.cell? ⟨gb220,0,none⟩ = some (.string a0_0):=(blk_cell BK220.out 0).trans rfl;have hcz15_1 : w14.cell? ⟨gb220,1,none⟩ = some (.int .i64 a0_1):=(blk_cell BK220.out 1).trans rfl;have hcz15_2 : w14.cell? ⟨gb220,2,none⟩ = some (.int .i64 a0_2):=(blk_cell BK220.out 2).trans rfl;have hcz15_3 : w14.cell? ⟨gb220,3,none⟩ = some (.slice A0_3 l0_3.length c0_3):=(blk_cell BK220.out 3).trans rfl;have hfz15_0:=blk_frozen BK220.out 0;have hfz15_1:=blk_frozen BK220.out 1;have hfz15_2:=blk_frozen BK220.out 2;have hfz15_3:=blk_frozen BK220.out 3) | (go_at_call 29;(with_reducible refine (limits_within.calls a0_1 4000 true _ A6.out).mono ?_);rintro e w' ⟨rfl,⟨nd,rfl⟩⟩) | (go_at_call 29;(with_reducible refine (limits_within.calls a0_2 40 false _ A8.out).mono ?_);rintro e w' ⟨rfl,⟨nd,rfl⟩⟩))
     go_meet
     case rel => exact ⟨_,(true),(by first | rfl | (simp;done) | (simp [*];done)),H',⟨by first | omega | exact Nat.le_refl _⟩,⟨bk BK220.out⟩,⟨bl1 HB.out GE220.out⟩⟩
   ·replace c7:=Bool.eq_false_iff.mpr c7;subst c7;have H1 : (limits_May.j0 k true a0_0 a0_1 a0_2 l0_3) = some r:=by rw [if_neg (show ¬ (false = true) by decide)] at H;exact H
    clear H;have H:=H1;clear H1;have H':=Aside0.mk H;clear H;have hcz16_0 : w3.cell? ⟨gb220,0,none⟩ = some (.string a0_0):=(blk_cell BK220.out 0).trans rfl;have hcz16_1 : w3.cell? ⟨gb220,1,none⟩ = some (.int .i64 a0_1):=(blk_cell BK220.out 1).trans rfl;have hcz16_2 : w3.cell? ⟨gb220,2,none⟩ = some (.int .i64 a0_2):=(blk_cell BK220.out 2).trans rfl;have hcz16_3 : w3.cell? ⟨gb220,3,none⟩ = some (.slice A0_3 l0_3.length c0_3):=(blk_cell BK220.out 3).trans rfl;have hfz16_0:=blk_frozen BK220.out 0;have hfz16_1:=blk_frozen BK220.out 1;have hfz16_2:=blk_frozen BK220.out 2;have hfz16_3:=blk_frozen BK220.out 3
    go_wp2_with (first | ((with_reducible refine gate_callee (f:=28) rfl ?_);refine goesL_ (some 7) rfl rfl Tryz.func28 (by kernel_rfl) rfl #[.string a0_0] rfl (by (try simp only [List.map_toArray,List.map_cons,List.map_nil]);first | done | rfl | (simp only [List.length_drop,List.length_take];rfl)) ?_;(with_reducible refine (scan_Word.calls k a0_0 true _ ?side1 A4.out).mono ?_);(case side1 => exact Tabs.below HG.out (bl1 HB.out GE220.out));rintro e w17 ⟨rfl,hb⟩;refine ⟨_,rfl,?_⟩;replace BK220:=Aside0.mk (blk_below (g:=gb220) (o:=.cells #[.string a0_0,.int .i64 a0_1,.int .i64 a0_2,.slice A0_3 l0_3.length c0_3] 24 (0,0)) (bk BK220.out) hb);replace HB:=Aside0.mk (below_step (bl1 HB.out GE220.out) hb);(try clear hb);have hcz18_0 : w17.cell? ⟨gb220,0,none⟩ = some (.string a0_0):=(blk_cell BK220.out 0).trans rfl;have hcz18_1 : w17.cell? ⟨gb220,1,none⟩ = some (.int .i64 a0_1):=(blk_cell BK220.out 1).trans rfl;have hcz18_2 : w17.cell? ⟨gb220,2,none⟩ = some (.int .i64 a0_2):=(blk_cell BK220.out 2).trans rfl;have hcz18_3 : w17.cell? ⟨gb220,3,none⟩ = some (.slice A0_3 l0_3.length c0_3):=(blk_cell BK220.out 3).trans rfl;have hfz18_0:=blk_frozen BK220.out 0;have hfz18_1:=blk_frozen BK220.out 1;have hfz18_2:=blk_frozen BK220.out 2;have hfz18_3:=blk_frozen BK220.out 3) | (go_at_call 29;(with_reducible refine (limits_within.calls a0_1 4000 false _ A6.out).mono ?_);rintro e w' ⟨rfl,⟨nd,rfl⟩⟩))
    go_meet
    case rel => exact ⟨_,(true),(by first | rfl | (simp;done) | (simp [*];done)),H',⟨by first | omega | exact Nat.le_refl _⟩,⟨bk BK220.out⟩,⟨bl1 HB.out GE220.out⟩⟩
  ·replace c5:=Bool.eq_false_iff.mpr c5;subst c5;have H1 : (limits_May.j0 k true a0_0 a0_1 a0_2 l0_3) = some r:=by rw [if_neg (show ¬ (false = true) by decide)] at H;exact H
   clear H;have H:=H1;clear H1;have H':=Aside0.mk H;clear H;have hcz19_0 : w3.cell? ⟨gb220,0,none⟩ = some (.string a0_0):=(blk_cell BK220.out 0).trans rfl;have hcz19_1 : w3.cell? ⟨gb220,1,none⟩ = some (.int .i64 a0_1):=(blk_cell BK220.out 1).trans rfl;have hcz19_2 : w3.cell? ⟨gb220,2,none⟩ = some (.int .i64 a0_2):=(blk_cell BK220.out 2).trans rfl;have hcz19_3 : w3.cell? ⟨gb220,3,none⟩ = some (.slice A0_3 l0_3.length c0_3):=(blk_cell BK220.out 3).trans rfl;have hfz19_0:=blk_frozen BK220.out 0;have hfz19_1:=blk_frozen BK220.out 1;have hfz19_2:=blk_frozen BK220.out 2;have hfz19_3:=blk_frozen BK220.out 3
   go_wp2_with (first | ((with_reducible refine gate_callee (f:=28) rfl ?_);refine goesL_ (some 7) rfl rfl Tryz.func28 (by kernel_rfl) rfl #[.string a0_0] rfl (by (try simp only [List.map_toArray,List.map_cons,List.map_nil]);first | done | rfl | (simp only [List.length_drop,List.length_take];rfl)) ?_;(with_reducible refine (scan_Word.calls k a0_0 false _ ?side1 A4.out).mono ?_);(case side1 => exact Tabs.below HG.out (bl1 HB.out GE220.out));rintro e w20 ⟨rfl,hb⟩;refine ⟨_,rfl,?_⟩;replace BK220:=Aside0.mk (blk_below (g:=gb220) (o:=.cells #[.string a0_0,.int .i64 a0_1,.int .i64 a0_2,.slice A0_3 l0_3.length c0_3] 24 (0,0)) (bk BK220.out) hb);replace HB:=Aside0.mk (below_step (bl1 HB.out GE220.out) hb);(try clear hb)))
   go_meet
   case rel => exact ⟨_,(true),(by first | rfl | (simp;done) | (simp [*];done)),H',⟨by first | omega | exact Nat.le_refl _⟩,⟨bk BK220.out⟩,⟨bl1 HB.out GE220.out⟩⟩
 case rest =>
  clear HC2
  try clear c1
  try clear c2
  try clear p2
  try clear c5
  try clear c7
  try clear c9
  try clear c14
  try clear hcz10_0
  try clear hcz10_1
  try clear hcz10_2
  try clear hcz10_3
  try clear hcz12_0
  try clear hcz12_1
  try clear hcz12_2
  try clear hcz12_3
  try clear hcz13_0
  try clear hcz13_1
  try clear hcz13_2
  try clear hcz13_3
  try clear hcz15_0
  try clear hcz15_1
  try clear hcz15_2
  try clear hcz15_3
  try clear hcz16_0
  try clear hcz16_1
  try clear hcz16_2
  try clear hcz16_3
  try clear hcz18_0
  try clear hcz18_1
  try clear hcz18_2
  try clear hcz18_3
  try clear hcz19_0
  try clear hcz19_1
  try clear hcz19_2
  try clear hcz19_3
  try clear hfz10_0
  try clear hfz10_1
  try clear hfz10_2
  try clear hfz10_3
  try clear hfz12_0
  try clear hfz12_1
  try clear hfz12_2
  try clear hfz12_3
  try clear hfz13_0
  try clear hfz13_1
  try clear hfz13_2
  try clear hfz13_3
  try clear hfz15_0
  try clear hfz15_1
  try clear hfz15_2
  try clear hfz15_3
  try clear hfz16_0
  try clear hfz16_1
  try clear hfz16_2
  try clear hfz16_3
  try clear hfz18_0
  try clear hfz18_1
  try clear hfz18_2
  try clear hfz18_3
  try clear hfz19_0
  try clear hfz19_1
  try clear hfz19_2
  try clear hfz19_3
  obtain ⟨kq,x26_1,rfl,HA,HJ1,BK220,HB⟩:=hcut
  cases kq with
  | zero => exact absurd HA.out (by simp [limits_May.j0])
  | succ kj1 =>
   have H:=HA.out;clear HA;simp only [limits_May.j0] at H
   by_cases c21 : x26_1 = true
   ·subst c21;have H1 : (some false) = some r:=by rw [if_pos rfl] at H;exact H
    clear H;have H:=H1;clear H1;obtain rfl:=Option.some.inj H
    go_wp2
    go_ret
    exact ⟨by first | rfl | (simp [errW_none,errW_some] <;> rfl) | (simp [*,errW_none,errW_some] <;> rfl),bl1 HB.out GE220.out⟩
   ·replace c21:=Bool.eq_false_iff.mpr c21;subst c21;have H1 : (limits_May.l0 kj1 l0_3 (l0_3.length : Int) 0 a0_0 a0_1 a0_2 l0_3) = some r:=by rw [if_neg (show ¬ (false = true) by decide)] at H;exact H
    clear H;have H:=H1;clear H1;have H':=Aside0.mk H;clear H;have hcz22_0 : wc.cell? ⟨gb220,0,none⟩ = some (.string a0_0):=(blk_cell BK220.out 0).trans rfl;have hcz22_1 : wc.cell? ⟨gb220,1,none⟩ = some (.int .i64 a0_1):=(blk_cell BK220.out 1).trans rfl;have hcz22_2 : wc.cell? ⟨gb220,2,none⟩ = some (.int .i64 a0_2):=(blk_cell BK220.out 2).trans rfl;have hcz22_3 : wc.cell? ⟨gb220,3,none⟩ = some (.slice A0_3 l0_3.length c0_3):=(blk_cell BK220.out 3).trans rfl;have hfz22_0:=blk_frozen BK220.out 0;have hfz22_1:=blk_frozen BK220.out 1;have hfz22_2:=blk_frozen BK220.out 2;have hfz22_3:=blk_frozen BK220.out 3
    go_wp2
    (try simp only [Act.put,List.setIfInBounds_toArray,List.set_cons_zero,List.set_cons_succ])
    go_loopg [30] kj1 (fun kq v30 w' => ∃ (x30_2 : Int),v30 = .int .i64 x30_2 ∧ Aside0 (limits_May.l0 kq l0_3 (l0_3.length : Int) x30_2 a0_0 a0_1 a0_2 l0_3 = some r) ∧ Aside0 (kq ≤ kj1) ∧ Aside0 (w'.heap[gb220]? = some (.cells #[.string a0_0,.int .i64 a0_1,.int .i64 a0_2,(.slice A0_3 l0_3.length c0_3)] 24 (0,0))) ∧ Aside0 (Below w.heap.size w w'))
    case atStart => exact ⟨(0),(by first | rfl | (simp;done) | (simp [*];done)),H',⟨Nat.le_refl _⟩,⟨bk BK220.out⟩,⟨bl1 HB.out GE220.out⟩⟩
    case round =>
     clear H'
     try clear c1
     try clear c2
     try clear p2
     try clear c5
     try clear c7
     try clear c9
     try clear c14
     try clear c21
     try clear hcz10_0
     try clear hcz10_1
     try clear hcz10_2
     try clear hcz10_3
     try clear hcz12_0
     try clear hcz12_1
     try clear hcz12_2
     try clear hcz12_3
     try clear hcz13_0
     try clear hcz13_1
     try clear hcz13_2
     try clear hcz13_3
     try clear hcz15_0
     try clear hcz15_1
     try clear hcz15_2
     try clear hcz15_3
     try clear hcz16_0
     try clear hcz16_1
     try clear hcz16_2
     try clear hcz16_3
     try clear hcz18_0
     try clear hcz18_1
     try clear hcz18_2
     try clear hcz18_3
     try clear hcz19_0
     try clear hcz19_1
     try clear hcz19_2
     try clear hcz19_3
     try clear hcz22_0
     try clear hcz22_1
     try clear hcz22_2
     try clear hcz22_3
     try clear hfz10_0
     try clear hfz10_1
     try clear hfz10_2
     try clear hfz10_3
     try clear hfz12_0
     try clear hfz12_1
     try clear hfz12_2
     try clear hfz12_3
     try clear hfz13_0
     try clear hfz13_1
     try clear hfz13_2
     try clear hfz13_3
     try clear hfz15_0
     try clear hfz15_1
     try clear hfz15_2
     try clear hfz15_3
     try clear hfz16_0
     try clear hfz16_1
     try clear hfz16_2
     try clear hfz16_3
     try clear hfz18_0
     try clear hfz18_1
     try clear hfz18_2
     try clear hfz18_3
     try clear hfz19_0
     try clear hfz19_1
     try clear hfz19_2
     try clear hfz19_3
     try clear hfz22_0
     try clear hfz22_1
     try clear hfz22_2
     try clear hfz22_3
     try clear p2
     obtain ⟨x30_2,rfl,HA,HK2,BK220,HB⟩:=hrel
     cases gk with
     | zero => exact absurd HA.out (by simp [limits_May.l0])
     | succ k2 =>
      have H:=HA.out;clear HA;simp only [limits_May.l0] at H
      by_cases c23 : x30_2 < (l0_3.length : Int)
      ·rw [if_pos c23] at H;have c23b0 : decide (x30_2 < (l0_3.length : Int)) = true:=decide_eq_true c23;clear c23
       by_cases c24 : 0 ≤ x30_2
       ·rw [if_pos c24] at H;have c24b0 : decide (0 ≤ x30_2) = true:=decide_eq_true c24;clear c24
        by_cases c25 : x30_2 < (l0_3.length : Int)
        ·rw [if_pos c25] at H;have c25b0 : decide (x30_2 < (l0_3.length : Int)) = true:=decide_eq_true c25;clear c25;replace H:=Option.bind_eq_some_iff.mp H;obtain ⟨t226,A260,H⟩:=H;replace H : (if t226 = true then ((limits_within.f ((rd_T42 l0_3 x30_2).f1) 3).bind fun t227 => (if t227 = true then ((limits_within.f ((rd_T42 l0_3 x30_2).f2) 100).bind fun t228 => (if t228 = true then (if x30_2 > 0 then (if 0 ≤ (wrap64 (x30_2 - 1)) then (if (wrap64 (x30_2 - 1)) < (l0_3.length : Int) then (if ((Op.bytesLess (((rd_T42 l0_3 (wrap64 (x30_2 - 1))).f0).toList) (((rd_T42 l0_3 x30_2).f0).toList)) = true) then (limits_May.l0 k2 l0_3 (l0_3.length : Int) (wrap64 (x30_2 + 1)) a0_0 a0_1 a0_2 l0_3) else (some false)) else (none)) else (none)) else (limits_May.l0 k2 l0_3 (l0_3.length : Int) (wrap64 (x30_2 + 1)) a0_0 a0_1 a0_2 l0_3)) else (some false))) else (some false))) else (some false)) = some r:=H;have A26:=Aside0.mk A260;clear A260
         by_cases c27 : t226 = true
         ·subst c27;have H1 : ((limits_within.f ((rd_T42 l0_3 x30_2).f1) 3).bind fun t227 => (if t227 = true then ((limits_within.f ((rd_T42 l0_3 x30_2).f2) 100).bind fun t228 => (if t228 = true then (if x30_2 > 0 then (if 0 ≤ (wrap64 (x30_2 - 1)) then (if (wrap64 (x30_2 - 1)) < (l0_3.length : Int) then (if ((Op.bytesLess (((rd_T42 l0_3 (wrap64 (x30_2 - 1))).f0).toList) (((rd_T42 l0_3 x30_2).f0).toList)) = true) then (limits_May.l0 k2 l0_3 (l0_3.length : Int) (wrap64 (x30_2 + 1)) a0_0 a0_1 a0_2 l0_3) else (some false)) else (none)) else (none)) else (limits_May.l0 k2 l0_3 (l0_3.length : Int) (wrap64 (x30_2 + 1)) a0_0 a0_1 a0_2 l0_3)) else (some false))) else (some false))) = some r:=by rw [if_pos rfl] at H;exact H
          clear H;have H:=H1;clear H1;replace H:=Option.bind_eq_some_iff.mp H;obtain ⟨t227,A280,H⟩:=H;replace H : (if t227 = true then ((limits_within.f ((rd_T42 l0_3 x30_2).f2) 100).bind fun t228 => (if t228 = true then (if x30_2 > 0 then (if 0 ≤ (wrap64 (x30_2 - 1)) then (if (wrap64 (x30_2 - 1)) < (l0_3.length : Int) then (if ((Op.bytesLess (((rd_T42 l0_3 (wrap64 (x30_2 - 1))).f0).toList) (((rd_T42 l0_3 x30_2).f0).toList)) = true) then (limits_May.l0 k2 l0_3 (l0_3.length : Int) (wrap64 (x30_2 + 1)) a0_0 a0_1 a0_2 l0_3) else (some false)) else (none)) else (none)) else (limits_May.l0 k2 l0_3 (l0_3.length : Int) (wrap64 (x30_2 + 1)) a0_0 a0_1 a0_2 l0_3)) else (some false))) else (some false)) = some r:=H;have A28:=Aside0.mk A280;clear A280
          by_cases c29 : t227 = true
          ·subst c29;have H1 : ((limits_within.f ((rd_T42 l0_3 x30_2).f2) 100).bind fun t228 => (if t228 = true then (if x30_2 > 0 then (if 0 ≤ (wrap64 (x30_2 - 1)) then (if (wrap64 (x30_2 - 1)) < (l0_3.length : Int) then (if ((Op.bytesLess (((rd_T42 l0_3 (wrap64 (x30_2 - 1))).f0).toList) (((rd_T42 l0_3 x30_2).f0).toList)) = true) then (limits_May.l0 k2 l0_3 (l0_3.length : Int) (wrap64 (x30_2 + 1)) a0_0 a0_1 a0_2 l0_3) else (some false)) else (none)) else (none)) else (limits_May.l0 k2 l0_3 (l0_3.length : Int) (wrap64 (x30_2 + 1)) a0_0 a0_1 a0_2 l0_3)) else (some false))) = some r:=by rw [if_pos rfl] at H;exact H
           clear H;have H:=H1;clear H1;replace H:=Option.bind_eq_some_iff.mp H;obtain ⟨t228,A300,H⟩:=H;replace H : (if t228 = true then (if x30_2 > 0 then (if 0 ≤ (wrap64 (x30_2 - 1)) then (if (wrap64 (x30_2 - 1)) < (l0_3.length : Int) then (if ((Op.bytesLess (((rd_T42 l0_3 (wrap64 (x30_2 - 1))).f0).toList) (((rd_T42 l0_3 x30_2).f0).toList)) = true) then (limits_May.l0 k2 l0_3 (l0_3.length : Int) (wrap64 (x30_2 + 1)) a0_0 a0_1 a0_2 l0_3) else (some false)) else (none)) else (none)) else (limits_May.l0 k2 l0_3 (l0_3.length : Int) (wrap64 (x30_2 + 1)) a0_0 a0_1 a0_2 l0_3)) else (some false)) = some r:=H;have A30:=Aside0.mk A300;clear A300
           by_cases c31 : t228 = true
           ·subst c31;have H1 : (if x30_2 > 0 then (if 0 ≤ (wrap64 (x30_2 - 1)) then (if (wrap64 (x30_2 - 1)) < (l0_3.length : Int) then (if ((Op.bytesLess (((rd_T42 l0_3 (wrap64 (x30_2 - 1))).f0).toList) (((rd_T42 l0_3 x30_2).f0).toList)) = true) then (limits_May.l0 k2 l0_3 (l0_3.length : Int) (wrap64 (x30_2 + 1)) a0_0 a0_1 a0_2 l0_3) else (some false)) else (none)) else (none)) else (limits_May.l0 k2 l0_3 (l0_3.length : Int) (wrap64 (x30_2 + 1)) a0_0 a0_1 a0_2 l0_3)) = some r:=by rw [if_pos rfl] at H;exact H
            clear H;have H:=H1;clear H1
            by_cases c32 : x30_2 > 0
            ·rw [if_pos c32] at H;have c32b0 : decide (0 < x30_2) = true:=decide_eq_true c32;clear c32;obtain ⟨ji33,hji33⟩ : ∃ j_ : Int,(wrap64 (x30_2 - 1)) = j_:=⟨_,rfl⟩;replace H : (if 0 ≤ (ji33) then (if (ji33) < (l0_3.length : Int) then (if ((Op.bytesLess (((rd_T42 l0_3 (ji33)).f0).toList) (((rd_T42 l0_3 x30_2).f0).toList)) = true) then (limits_May.l0 k2 l0_3 (l0_3.length : Int) (wrap64 (x30_2 + 1)) a0_0 a0_1 a0_2 l0_3) else (some false)) else (none)) else (none)) = some r:=by first | (rw [hji33] at H;exact H) | (simp only [hji33] at H ⊢;exact H)
             (try rw [hji33] at A26)
             (try rw [hji33] at A28)
             (try rw [hji33] at A30)
             have hji33w : (IntKind.i64.wrap (x30_2 - 1)) = ji33:=(i64_w _).trans hji33
             by_cases c34 : 0 ≤ (ji33)
             ·rw [if_pos c34] at H;have c34b0 : decide (0 ≤ (ji33)) = true:=decide_eq_true c34;clear c34
              by_cases c35 : (ji33) < (l0_3.length : Int)
              ·rw [if_pos c35] at H;have c35b0 : decide ((ji33) < (l0_3.length : Int)) = true:=decide_eq_true c35;clear c35
               by_cases c36 : ((Op.bytesLess (((rd_T42 l0_3 (ji33)).f0).toList) (((rd_T42 l0_3 x30_2).f0).toList)) = true)
               ·rw [if_pos c36] at H;have c36b0 : (Op.bytesLess (((rd_T42 l0_3 (ji33)).f0).toList) (((rd_T42 l0_3 x30_2).f0).toList)) = true:=c36;clear c36;have H':=Aside0.mk H;clear H;have p224 : 0 ≤ (x30_2 : Int):=of_decide_eq_true (by first | (with_reducible assumption) | assumption);have q224 : x30_2 < (l0_3.length : Int):=of_decide_eq_true (by first | (with_reducible assumption) | assumption);obtain ⟨ad224,e224,hx224_0,hx224_1,hx224_2⟩:=at_T42 HR0_3.out x30_2 p224 q224
                cases e224
                replace hx224_0:=(HB.out.cell (World.block_lt_of_cell? w _ hx224_0)).trans hx224_0;replace hx224_1:=(HB.out.cell (World.block_lt_of_cell? w _ hx224_1)).trans hx224_1;replace hx224_2:=(HB.out.cell (World.block_lt_of_cell? w _ hx224_2)).trans hx224_2;replace p224:=eq_true p224;replace q224:=eq_true q224
                try go_wp2_with (first | ((with_reducible refine gate_dst (N:=4) rfl ?_);(try (refine gate_guard (by rfl) ?_;dsimp only));refine box_event ?hg (N:=4) ?hd (cs:=#[.string (⟨#[]⟩ : ByteArray),.int .i64 0,.int .i64 0]) (t:=42) ?hr ?_;(case hd => rfl);(case hg => rfl);(case hr => first | (go_simp;done) | (go_simp;rfl));intro gb225 hg w37 hbox hb;have n0_:=Aside0.mk (blk_below (g:=gb220) (o:=.cells #[.string a0_0,.int .i64 a0_1,.int .i64 a0_2,.slice (some ad224) l0_3.length c0_3] 24 (0,0)) (bk BK220.out) hb);have n1_:=Aside0.mk (below_step (bl1 HB.out GE220.out) hb);have n2_:=Aside0.mk (hbox);have n3_:=Aside0.mk ((by rw [hg];exact (below_size (bl1 HB.out GE220.out)) : w.heap.size ≤ gb225));have n4_:=Aside0.mk ((by rw [hg];exact (below_size (bl1 HB.out GE220.out)) : w.heap.size ≤ gb225));have n5_:=Aside0.mk ((by rw [hg];exact Nat.ne_of_lt (blk_lt (g:=gb220) (o:=.cells #[.string a0_0,.int .i64 a0_1,.int .i64 a0_2,.slice (some ad224) l0_3.length c0_3] 24 (0,0)) (bk BK220.out)) : gb220 ≠ gb225));have n6_:=Aside0.mk ((by rw [hg];exact Nat.ne_of_gt (blk_lt (g:=gb220) (o:=.cells #[.string a0_0,.int .i64 a0_1,.int .i64 a0_2,.slice (some ad224) l0_3.length c0_3] 24 (0,0)) (bk BK220.out)) : gb225 ≠ gb220));clear BK220;clear HB;have BK220:=n0_;have HB:=n1_;have BK225:=n2_;have GW225:=n3_;have GE225:=n4_;have NB220_225:=n5_;have NB225_220:=n6_;clear n0_ n1_ n2_ n3_ n4_ n5_ n6_;clear hb hbox hg;have hnb38:=NB225_220.out;have hnc38:=NB220_225.out;have hcz39_0 : w37.cell? ⟨gb225,0,none⟩ = some (.string (⟨#[]⟩ : ByteArray)):=(blk_cell BK225.out 0).trans rfl;have hcz39_1 : w37.cell? ⟨gb225,1,none⟩ = some (.int .i64 0):=(blk_cell BK225.out 1).trans rfl;have hcz39_2 : w37.cell? ⟨gb225,2,none⟩ = some (.int .i64 0):=(blk_cell BK225.out 2).trans rfl;have hfz39_0:=blk_frozen BK225.out 0;have hfz39_1:=blk_frozen BK225.out 1;have hfz39_2:=blk_frozen BK225.out 2))
                have n0_ : Aside0 ((((w37.setCell ⟨gb225,0,none⟩ (.string ((rd_T42 l0_3 x30_2).f0))).setCell ⟨gb225,1,none⟩ (.int .i64 ((rd_T42 l0_3 x30_2).f1))).setCell ⟨gb225,2,none⟩ (.int .i64 ((rd_T42 l0_3 x30_2).f2))).heap[gb220]? = some (.cells #[.string a0_0,.int .i64 a0_1,.int .i64 a0_2,.slice (some ad224) l0_3.length c0_3] 24 (0,0))):=⟨by (with_reducible repeat (first | refine blk_drewN ?_ _ | refine blk_drew ?_ | refine blk_alloc ?_ _));refine blk_far ?_ NB220_225.out _;(with_reducible repeat (first | refine blk_drewN ?_ _ | refine blk_drew ?_ | refine blk_alloc ?_ _));refine blk_far ?_ NB220_225.out _;(with_reducible repeat (first | refine blk_drewN ?_ _ | refine blk_drew ?_ | refine blk_alloc ?_ _));refine blk_far ?_ NB220_225.out _;(with_reducible repeat (first | refine blk_drewN ?_ _ | refine blk_drew ?_ | refine blk_alloc ?_ _));exact BK220.out⟩;have n1_ : Aside0 ((((w37.setCell ⟨gb225,0,none⟩ (.string ((rd_T42 l0_3 x30_2).f0))).setCell ⟨gb225,1,none⟩ (.int .i64 ((rd_T42 l0_3 x30_2).f1))).setCell ⟨gb225,2,none⟩ (.int .i64 ((rd_T42 l0_3 x30_2).f2))).heap[gb225]? = some (.cells #[.string ((rd_T42 l0_3 x30_2).f0),.int .i64 ((rd_T42 l0_3 x30_2).f1),.int .i64 ((rd_T42 l0_3 x30_2).f2)] 42 (0,0))):=⟨by (with_reducible repeat (first | refine blk_drewN ?_ _ | refine blk_drew ?_ | refine blk_alloc ?_ _));refine blk_put (cs:=#[.string ((rd_T42 l0_3 x30_2).f0),.int .i64 ((rd_T42 l0_3 x30_2).f1),.int .i64 0]) ?_ 2 _ rfl;(with_reducible repeat (first | refine blk_drewN ?_ _ | refine blk_drew ?_ | refine blk_alloc ?_ _));refine blk_put (cs:=#[.string ((rd_T42 l0_3 x30_2).f0),.int .i64 0,.int .i64 0]) ?_ 1 _ rfl;(with_reducible repeat (first | refine blk_drewN ?_ _ | refine blk_drew ?_ | refine blk_alloc ?_ _));refine blk_put (cs:=#[.string (⟨#[]⟩ : ByteArray),.int .i64 0,.int .i64 0]) ?_ 0 _ rfl;(with_reducible repeat (first | refine blk_drewN ?_ _ | refine blk_drew ?_ | refine blk_alloc ?_ _));exact BK225.out⟩;have n2_ : Aside0 (Below w.heap.size w (((w37.setCell ⟨gb225,0,none⟩ (.string ((rd_T42 l0_3 x30_2).f0))).setCell ⟨gb225,1,none⟩ (.int .i64 ((rd_T42 l0_3 x30_2).f1))).setCell ⟨gb225,2,none⟩ (.int .i64 ((rd_T42 l0_3 x30_2).f2)))):=⟨bl2 HB.out GE220.out GE225.out⟩;(try clear BK220);(try clear BK225);(try clear HB);generalize (((w37.setCell ⟨gb225,0,none⟩ (.string ((rd_T42 l0_3 x30_2).f0))).setCell ⟨gb225,1,none⟩ (.int .i64 ((rd_T42 l0_3 x30_2).f1))).setCell ⟨gb225,2,none⟩ (.int .i64 ((rd_T42 l0_3 x30_2).f2))) = w40 at n0_ n1_ n2_ ⊢;have BK220:=n0_;have BK225:=n1_;have HB:=n2_;clear n0_ n1_ n2_;replace BK220:=Aside0.mk (blk_drew BK220.out);replace BK225:=Aside0.mk (blk_drew BK225.out);replace HB:=Aside0.mk (below_drew1 HB.out);have p229 : 0 ≤ ((ji33) : Int):=of_decide_eq_true (by first | (with_reducible assumption) | assumption);have q229 : (ji33) < (l0_3.length : Int):=of_decide_eq_true (by first | (with_reducible assumption) | assumption)
                obtain ⟨ad229,e229,hx229_0,hx229_1,hx229_2⟩:=at_T42 HR0_3.out (ji33) p229 q229;have hw229_2:=hx229_2;have hw229_1:=hx229_1;have hw229_0:=hx229_0;obtain rfl : ad224 = ad229:=(by injection e229);replace hx229_0:=(HB.out.cell (World.block_lt_of_cell? w _ hx229_0)).trans hx229_0;replace hx229_1:=(HB.out.cell (World.block_lt_of_cell? w _ hx229_1)).trans hx229_1;replace hx229_2:=(HB.out.cell (World.block_lt_of_cell? w _ hx229_2)).trans hx229_2;replace p229:=eq_true p229;replace q229:=eq_true q229;refine start_ (n:=32) (S:=fun w' => w'.cell? ⟨gb225,0,none⟩ = some (.string ((rd_T42 l0_3 x30_2).f0)) ∧ w'.cell? ⟨gb225,1,none⟩ = some (.int .i64 ((rd_T42 l0_3 x30_2).f1)) ∧ w'.cell? ⟨gb225,2,none⟩ = some (.int .i64 ((rd_T42 l0_3 x30_2).f2)) ∧ w'.cell? ⟨gb220,0,none⟩ = some (.string a0_0) ∧ w'.cell? ⟨gb220,1,none⟩ = some (.int .i64 a0_1) ∧ w'.cell? ⟨gb220,2,none⟩ = some (.int .i64 a0_2) ∧ w'.cell? ⟨gb220,3,none⟩ = some (.slice (some ad224) l0_3.length c0_3) ∧ w'.cell? (ad224.add (((ji33)).toNat * 3)) = some (.string ((rd_T42 l0_3 (ji33)).f0)) ∧ w'.cell? ⟨(ad224.add (((ji33)).toNat * 3)).block,(ad224.add (((ji33)).toNat * 3)).off + 1,none⟩ = some (.int .i64 ((rd_T42 l0_3 (ji33)).f1)) ∧ w'.cell? ⟨(ad224.add (((ji33)).toNat * 3)).block,(ad224.add (((ji33)).toNat * 3)).off + 2,none⟩ = some (.int .i64 ((rd_T42 l0_3 (ji33)).f2))) (ds:=[]) (pm 0 32) (by kernel_rfl) rfl rfl ⟨(blk_cell BK225.out 0).trans rfl,(blk_cell BK225.out 1).trans rfl,(blk_cell BK225.out 2).trans rfl,(blk_cell BK220.out 0).trans rfl,(blk_cell BK220.out 1).trans rfl,(blk_cell BK220.out 2).trans rfl,(blk_cell BK220.out 3).trans rfl,((HB.out.cell (World.block_lt_of_cell? w _ hw229_0)).trans hw229_0),((HB.out.cell (World.block_lt_of_cell? w _ hw229_1)).trans hw229_1),((HB.out.cell (World.block_lt_of_cell? w _ hw229_2)).trans hw229_2)⟩ (fun hHeld => ?_);refine with_tabW limits_May.tab6 limits_May.bits6 (fun HT_ HW_ => ?_);generalize w40.drew = w41 at BK220 BK225 HB hx229_0 hx229_1 hx229_2 hHeld ⊢;refine pure_ (i:=0) (N:=some 35) (v:=?_) (a':=?_) (pm 1 32) rfl rfl (any_of HT_.out (by kernel_rfl)) (fun _ _ _ h => h) (Or.inl ⟨by rfl,?_⟩) ?_ ?_;rotate_left
                ·intro w';go_simp;with_reducible rfl
                rotate_left
                ·simp only [Act.put,List.setIfInBounds_toArray,List.set_cons_zero,List.set_cons_succ,i64_w,i32_w];rfl
                refine take_ (i:=1) (N:=some 36) (v:=?_) (a':=?_) (pm 2 32) rfl rfl (take_ofW HT_.out HW_.out (by kernel_rfl)) (fun _ _ _ h => h) (Or.inl ⟨by rfl,?_⟩) hHeld ?_ ?_;rotate_left
                ·rintro w' ⟨s0,s1,s2,s3,s4,s5,s6,s7,s8,s9⟩;go_simp;with_reducible rfl
                rotate_left
                ·simp only [Act.put,List.setIfInBounds_toArray,List.set_cons_zero,List.set_cons_succ,i64_w,i32_w];rfl
                refine one_ (i:=2) (N:=some 37) (pm 3 32) rfl rfl (one_of HT_.out (by kernel_rfl)) (by decide) (fun K hK => ?_);refine goes_ Tryz.func28 (by kernel_rfl) rfl #[.string ((rd_T42 l0_3 x30_2).f0)] (by rfl) rfl rfl (by (try simp only [List.map_toArray,List.map_cons,List.map_nil]);first | done | rfl | (simp only [List.length_drop,List.length_take];rfl)) ?_
                with_reducible refine (scan_Word.calls k2 ((rd_T42 l0_3 x30_2).f0) true _ ?side1 A26.out).mono ?_
                (case side1 => exact Tabs.below HG.out (bl2 HB.out GE220.out GE225.out))
                rintro e w42 ⟨rfl,hb⟩;refine ⟨_,rfl,?_⟩;replace BK220:=Aside0.mk (blk_below (g:=gb220) (o:=.cells #[.string a0_0,.int .i64 a0_1,.int .i64 a0_2,.slice (some ad224) l0_3.length c0_3] 24 (0,0)) (bk BK220.out) hb);replace BK225:=Aside0.mk (blk_below (g:=gb225) (o:=.cells #[.string ((rd_T42 l0_3 x30_2).f0),.int .i64 ((rd_T42 l0_3 x30_2).f1),.int .i64 ((rd_T42 l0_3 x30_2).f2)] 42 (0,0)) (bk BK225.out) hb);replace HB:=Aside0.mk (below_step (bl2 HB.out GE220.out GE225.out) hb);(try clear hb);refine hK.out _ _ ⟨(blk_cell BK225.out 0).trans rfl,(blk_cell BK225.out 1).trans rfl,(blk_cell BK225.out 2).trans rfl,(blk_cell BK220.out 0).trans rfl,(blk_cell BK220.out 1).trans rfl,(blk_cell BK220.out 2).trans rfl,(blk_cell BK220.out 3).trans rfl,((HB.out.cell (World.block_lt_of_cell? w _ hw229_0)).trans hw229_0),((HB.out.cell (World.block_lt_of_cell? w _ hw229_1)).trans hw229_1),((HB.out.cell (World.block_lt_of_cell? w _ hw229_2)).trans hw229_2)⟩ (fun hHeld => ?_);clear hK K;refine norm_ (a':=?_) ?_ ?_;rotate_left
                ·show Act.put _ (some 37) _ = _;simp only [Act.put,List.setIfInBounds_toArray,List.set_cons_zero,List.set_cons_succ,i64_w,i32_w];rfl
                refine pure_ (i:=3) (N:=some 38) (v:=?_) (a':=?_) (pm 4 32) rfl rfl (any_of HT_.out (by kernel_rfl)) (fun _ _ _ h => h) (Or.inl ⟨by rfl,?_⟩) ?_ ?_;rotate_left
                ·intro w';go_simp;with_reducible rfl
                rotate_left
                ·simp only [Act.put,List.setIfInBounds_toArray,List.set_cons_zero,List.set_cons_succ,i64_w,i32_w];rfl
                refine pure_ (i:=4) (N:=some 39) (v:=?_) (a':=?_) (pm 5 32) rfl rfl (any_of HT_.out (by kernel_rfl)) (fun _ _ _ h => h) (Or.inl ⟨by rfl,?_⟩) ?_ ?_;rotate_left
                ·intro w';go_simp;with_reducible rfl
                rotate_left
                ·simp only [Act.put,List.setIfInBounds_toArray,List.set_cons_zero,List.set_cons_succ,i64_w,i32_w];rfl
                refine pure_ (i:=5) (N:=some 40) (v:=?_) (a':=?_) (pm 6 32) rfl rfl (any_of HT_.out (by kernel_rfl)) (fun _ _ _ h => h) (Or.inl ⟨by rfl,?_⟩) ?_ ?_;rotate_left
                ·intro w';go_simp;with_reducible rfl
                rotate_left
                ·simp only [Act.put,List.setIfInBounds_toArray,List.set_cons_zero,List.set_cons_succ,i64_w,i32_w];rfl
                refine take_ (i:=6) (N:=some 41) (v:=?_) (a':=?_) (pm 7 32) rfl rfl (take_ofW HT_.out HW_.out (by kernel_rfl)) (fun _ _ _ h => h) (Or.inl ⟨by rfl,?_⟩) hHeld ?_ ?_;rotate_left
                ·rintro w' ⟨s0,s1,s2,s3,s4,s5,s6,s7,s8,s9⟩;go_simp;with_reducible rfl
                rotate_left
                ·simp only [Act.put,List.setIfInBounds_toArray,List.set_cons_zero,List.set_cons_succ,i64_w,i32_w];rfl
                refine one_ (i:=7) (N:=some 42) (pm 8 32) rfl rfl (one_of HT_.out (by kernel_rfl)) (by decide) (fun K hK => ?_);refine goes_ Tryz.func29 (by kernel_rfl) rfl #[.int .i64 ((rd_T42 l0_3 x30_2).f1),.int .i64 3] (by rfl) rfl rfl (by (try simp only [List.map_toArray,List.map_cons,List.map_nil]);first | done | rfl | (simp only [List.length_drop,List.length_take];rfl)) ?_
                with_reducible refine (limits_within.calls ((rd_T42 l0_3 x30_2).f1) 3 true _ A28.out).mono ?_
                rintro e w' ⟨rfl,⟨nd,rfl⟩⟩;refine ⟨_,rfl,?_⟩;refine hK.out _ _ ⟨(blk_cell BK225.out 0).trans rfl,(blk_cell BK225.out 1).trans rfl,(blk_cell BK225.out 2).trans rfl,(blk_cell BK220.out 0).trans rfl,(blk_cell BK220.out 1).trans rfl,(blk_cell BK220.out 2).trans rfl,(blk_cell BK220.out 3).trans rfl,((HB.out.cell (World.block_lt_of_cell? w _ hw229_0)).trans hw229_0),((HB.out.cell (World.block_lt_of_cell? w _ hw229_1)).trans hw229_1),((HB.out.cell (World.block_lt_of_cell? w _ hw229_2)).trans hw229_2)⟩ (fun hHeld => ?_);clear hK K;refine norm_ (a':=?_) ?_ ?_;rotate_left
                ·show Act.put _ (some 42) _ = _;simp only [Act.put,List.setIfInBounds_toArray,List.set_cons_zero,List.set_cons_succ,i64_w,i32_w];rfl
                refine pure_ (i:=8) (N:=some 43) (v:=?_) (a':=?_) (pm 9 32) rfl rfl (any_of HT_.out (by kernel_rfl)) (fun _ _ _ h => h) (Or.inl ⟨by rfl,?_⟩) ?_ ?_;rotate_left
                ·intro w';go_simp;with_reducible rfl
                rotate_left
                ·simp only [Act.put,List.setIfInBounds_toArray,List.set_cons_zero,List.set_cons_succ,i64_w,i32_w];rfl
                refine pure_ (i:=9) (N:=some 44) (v:=?_) (a':=?_) (pm 10 32) rfl rfl (any_of HT_.out (by kernel_rfl)) (fun _ _ _ h => h) (Or.inl ⟨by rfl,?_⟩) ?_ ?_;rotate_left
                ·intro w';go_simp;with_reducible rfl
                rotate_left
                ·simp only [Act.put,List.setIfInBounds_toArray,List.set_cons_zero,List.set_cons_succ,i64_w,i32_w];rfl
                refine pure_ (i:=10) (N:=some 45) (v:=?_) (a':=?_) (pm 11 32) rfl rfl (any_of HT_.out (by kernel_rfl)) (fun _ _ _ h => h) (Or.inl ⟨by rfl,?_⟩) ?_ ?_;rotate_left
                ·intro w';go_simp;with_reducible rfl
                rotate_left
                ·simp only [Act.put,List.setIfInBounds_toArray,List.set_cons_zero,List.set_cons_succ,i64_w,i32_w];rfl
                refine pure_ (i:=11) (N:=some 46) (v:=?_) (a':=?_) (pm 12 32) rfl rfl (any_of HT_.out (by kernel_rfl)) (fun _ _ _ h => h) (Or.inl ⟨by rfl,?_⟩) ?_ ?_;rotate_left
                ·intro w';go_simp;with_reducible rfl
                rotate_left
                ·simp only [Act.put,List.setIfInBounds_toArray,List.set_cons_zero,List.set_cons_succ,i64_w,i32_w];rfl
                refine take_ (i:=12) (N:=some 47) (v:=?_) (a':=?_) (pm 13 32) rfl rfl (take_ofW HT_.out HW_.out (by kernel_rfl)) (fun _ _ _ h => h) (Or.inl ⟨by rfl,?_⟩) hHeld ?_ ?_;rotate_left
                ·rintro w' ⟨s0,s1,s2,s3,s4,s5,s6,s7,s8,s9⟩;go_simp;with_reducible rfl
                rotate_left
                ·simp only [Act.put,List.setIfInBounds_toArray,List.set_cons_zero,List.set_cons_succ,i64_w,i32_w];rfl
                refine one_ (i:=13) (N:=some 48) (pm 14 32) rfl rfl (one_of HT_.out (by kernel_rfl)) (by decide) (fun K hK => ?_);refine goes_ Tryz.func29 (by kernel_rfl) rfl #[.int .i64 ((rd_T42 l0_3 x30_2).f2),.int .i64 100] (by rfl) rfl rfl (by (try simp only [List.map_toArray,List.map_cons,List.map_nil]);first | done | rfl | (simp only [List.length_drop,List.length_take];rfl)) ?_
                with_reducible refine (limits_within.calls ((rd_T42 l0_3 x30_2).f2) 100 true _ A30.out).mono ?_
                rintro e w' ⟨rfl,⟨nd,rfl⟩⟩;refine ⟨_,rfl,?_⟩;refine hK.out _ _ ⟨(blk_cell BK225.out 0).trans rfl,(blk_cell BK225.out 1).trans rfl,(blk_cell BK225.out 2).trans rfl,(blk_cell BK220.out 0).trans rfl,(blk_cell BK220.out 1).trans rfl,(blk_cell BK220.out 2).trans rfl,(blk_cell BK220.out 3).trans rfl,((HB.out.cell (World.block_lt_of_cell? w _ hw229_0)).trans hw229_0),((HB.out.cell (World.block_lt_of_cell? w _ hw229_1)).trans hw229_1),((HB.out.cell (World.block_lt_of_cell? w _ hw229_2)).trans hw229_2)⟩ (fun hHeld => ?_);clear hK K;refine norm_ (a':=?_) ?_ ?_;rotate_left
                ·show Act.put _ (some 48) _ = _;simp only [Act.put,List.setIfInBounds_toArray,List.set_cons_zero,List.set_cons_succ,i64_w,i32_w];rfl
                refine pure_ (i:=14) (N:=some 49) (v:=?_) (a':=?_) (pm 15 32) rfl rfl (any_of HT_.out (by kernel_rfl)) (fun _ _ _ h => h) (Or.inl ⟨by rfl,?_⟩) ?_ ?_;rotate_left
                ·intro w';go_simp;with_reducible rfl
                rotate_left
                ·simp only [Act.put,List.setIfInBounds_toArray,List.set_cons_zero,List.set_cons_succ,i64_w,i32_w];rfl
                refine pure_ (i:=15) (N:=some 50) (v:=?_) (a':=?_) (pm 16 32) rfl rfl (any_of HT_.out (by kernel_rfl)) (fun _ _ _ h => h) (Or.inl ⟨by rfl,?_⟩) ?_ ?_;rotate_left
                ·intro w';go_simp;with_reducible rfl
                rotate_left
                ·simp only [Act.put,List.setIfInBounds_toArray,List.set_cons_zero,List.set_cons_succ,i64_w,i32_w];rfl
                refine pure_ (i:=16) (N:=some 51) (v:=?_) (a':=?_) (pm 17 32) rfl rfl (any_of HT_.out (by kernel_rfl)) (fun _ _ _ h => h) (Or.inl ⟨by rfl,?_⟩) ?_ ?_;rotate_left
                ·intro w';go_simp;with_reducible rfl
                rotate_left
                ·simp only [Act.put,List.setIfInBounds_toArray,List.set_cons_zero,List.set_cons_succ,i64_w,i32_w];rfl
                refine pure_ (i:=17) (N:=some 52) (v:=?_) (a':=?_) (pm 18 32) rfl rfl (any_of HT_.out (by kernel_rfl)) (fun _ _ _ h => h) (Or.inl ⟨by rfl,?_⟩) ?_ ?_;rotate_left
                ·intro w';go_simp;with_reducible rfl
                rotate_left
                ·simp only [Act.put,List.setIfInBounds_toArray,List.set_cons_zero,List.set_cons_succ,i64_w,i32_w];rfl
                refine pure_ (i:=18) (N:=some 53) (v:=?_) (a':=?_) (pm 19 32) rfl rfl (any_of HT_.out (by kernel_rfl)) (fun _ _ _ h => h) (Or.inl ⟨by rfl,?_⟩) ?_ ?_;rotate_left
                ·intro w';go_simp;with_reducible rfl
                rotate_left
                ·simp only [Act.put,List.setIfInBounds_toArray,List.set_cons_zero,List.set_cons_succ,i64_w,i32_w];rfl
                refine pure_ (i:=19) (N:=some 54) (v:=?_) (a':=?_) (pm 20 32) rfl rfl (any_of HT_.out (by kernel_rfl)) (fun _ _ _ h => h) (Or.inl ⟨by rfl,?_⟩) ?_ ?_;rotate_left
                ·intro w';go_simp;with_reducible rfl
                rotate_left
                ·simp only [Act.put,List.setIfInBounds_toArray,List.set_cons_zero,List.set_cons_succ,i64_w,i32_w];rfl
                refine pure_ (i:=20) (N:=some 55) (v:=?_) (a':=?_) (pm 21 32) rfl rfl (any_of HT_.out (by kernel_rfl)) (fun _ _ _ h => h) (Or.inl ⟨by rfl,?_⟩) ?_ ?_;rotate_left
                ·intro w';go_simp;with_reducible rfl
                rotate_left
                ·simp only [Act.put,List.setIfInBounds_toArray,List.set_cons_zero,List.set_cons_succ,i64_w,i32_w];rfl
                refine pure_ (i:=22) (N:=some 57) (v:=?_) (a':=?_) #[true,true,true,true,true,true,true,true,true,true,true,true,true,true,true,true,true,true,true,true,true,false,true,false,false,false,false,false,false,false,false,false] rfl rfl (any_of HT_.out (by kernel_rfl)) (fun _ _ _ h => h) (Or.inl ⟨by rfl,?_⟩) ?_ ?_;rotate_left
                ·intro w';go_simp;with_reducible rfl
                rotate_left
                ·simp only [Act.put,List.setIfInBounds_toArray,List.set_cons_zero,List.set_cons_succ,i64_w,i32_w];rfl
                refine pure_ (i:=24) (N:=some 59) (v:=?_) (a':=?_) #[true,true,true,true,true,true,true,true,true,true,true,true,true,true,true,true,true,true,true,true,true,false,true,false,true,false,false,false,false,false,false,false] rfl rfl (any_of HT_.out (by kernel_rfl)) (fun _ _ _ h => h) (Or.inl ⟨by rfl,?_⟩) ?_ ?_;rotate_left
                ·intro w';go_simp;with_reducible rfl
                rotate_left
                ·simp only [Act.put,List.setIfInBounds_toArray,List.set_cons_zero,List.set_cons_succ,i64_w,i32_w];rfl
                refine pure_ (i:=25) (N:=some 60) (v:=?_) (a':=?_) #[true,true,true,true,true,true,true,true,true,true,true,true,true,true,true,true,true,true,true,true,true,false,true,false,true,true,false,false,false,false,false,false] rfl rfl (any_of HT_.out (by kernel_rfl)) (fun _ _ _ h => h) (Or.inl ⟨by rfl,?_⟩) ?_ ?_;rotate_left
                ·intro w';go_simp;with_reducible rfl
                rotate_left
                ·simp only [Act.put,List.setIfInBounds_toArray,List.set_cons_zero,List.set_cons_succ,i64_w,i32_w];rfl
                refine take_ (i:=21) (N:=some 56) (v:=?_) (a':=?_) #[true,true,true,true,true,true,true,true,true,true,true,true,true,true,true,true,true,true,true,true,true,true,true,false,true,true,false,false,false,false,false,false] rfl rfl (take_ofW HT_.out HW_.out (by kernel_rfl)) (fun _ _ _ h => h) (Or.inl ⟨by rfl,?_⟩) hHeld ?_ ?_;rotate_left
                ·rintro w' ⟨s0,s1,s2,s3,s4,s5,s6,s7,s8,s9⟩;go_simp;with_reducible rfl
                rotate_left
                ·simp only [Act.put,List.setIfInBounds_toArray,List.set_cons_zero,List.set_cons_succ,i64_w,i32_w];rfl
                refine take_ (i:=23) (N:=some 58) (v:=?_) (a':=?_) (pm 26 32) rfl rfl (take_ofW HT_.out HW_.out (by kernel_rfl)) (fun _ _ _ h => h) (Or.inl ⟨by rfl,?_⟩) hHeld ?_ ?_;rotate_left
                ·rintro w' ⟨s0,s1,s2,s3,s4,s5,s6,s7,s8,s9⟩;go_simp;with_reducible rfl
                rotate_left
                ·simp only [Act.put,List.setIfInBounds_toArray,List.set_cons_zero,List.set_cons_succ,i64_w,i32_w];rfl
                refine pure_ (i:=26) (N:=some 61) (v:=?_) (a':=?_) (pm 27 32) rfl rfl (any_of HT_.out (by kernel_rfl)) (fun _ _ _ h => h) (Or.inl ⟨by rfl,?_⟩) ?_ ?_;rotate_left
                ·intro w';go_simp;with_reducible rfl
                rotate_left
                ·simp only [Act.put,List.setIfInBounds_toArray,List.set_cons_zero,List.set_cons_succ,i64_w,i32_w];rfl
                refine pure_ (i:=27) (N:=some 62) (v:=?_) (a':=?_) (pm 28 32) rfl rfl (any_of HT_.out (by kernel_rfl)) (fun _ _ _ h => h) (Or.inl ⟨by rfl,?_⟩) ?_ ?_;rotate_left
                ·intro w';go_simp;with_reducible rfl
                rotate_left
                ·simp only [Act.put,List.setIfInBounds_toArray,List.set_cons_zero,List.set_cons_succ,i64_w,i32_w];rfl
                refine take_ (i:=28) (N:=some 63) (v:=?_) (a':=?_) (pm 29 32) rfl rfl (take_ofW HT_.out HW_.out (by kernel_rfl)) (fun _ _ _ h => h) (Or.inl ⟨by rfl,?_⟩) hHeld ?_ ?_;rotate_left
                ·rintro w' ⟨s0,s1,s2,s3,s4,s5,s6,s7,s8,s9⟩;go_simp;with_reducible rfl
                rotate_left
                ·simp only [Act.put,List.setIfInBounds_toArray,List.set_cons_zero,List.set_cons_succ,i64_w,i32_w];rfl
                refine pure_ (i:=29) (N:=some 64) (v:=?_) (a':=?_) (pm 30 32) rfl rfl (any_of HT_.out (by kernel_rfl)) (fun _ _ _ h => h) (Or.inl ⟨by rfl,?_⟩) ?_ ?_;rotate_left
                ·intro w';go_simp;with_reducible rfl
                rotate_left
                ·simp only [Act.put,List.setIfInBounds_toArray,List.set_cons_zero,List.set_cons_succ,i64_w,i32_w];rfl
                refine pure_ (i:=30) (N:=some 65) (v:=?_) (a':=?_) (pm 31 32) rfl rfl (any_of HT_.out (by kernel_rfl)) (fun _ _ _ h => h) (Or.inl ⟨by rfl,?_⟩) ?_ ?_;rotate_left
                ·intro w';go_simp;with_reducible rfl
                rotate_left
                ·simp only [Act.put,List.setIfInBounds_toArray,List.set_cons_zero,List.set_cons_succ,i64_w,i32_w];rfl
                refine pure_ (i:=31) (N:=some 66) (v:=?_) (a':=?_) (pm 32 32) rfl rfl (any_of HT_.out (by kernel_rfl)) (fun _ _ _ h => h) (Or.inl ⟨by rfl,?_⟩) ?_ ?_;rotate_left
                ·intro w';go_simp;with_reducible rfl
                rotate_left
                ·simp only [Act.put,List.setIfInBounds_toArray,List.set_cons_zero,List.set_cons_succ,i64_w,i32_w];rfl
                refine done_ (done_of HT_.out (by kernel_rfl)) ?_
                try go_wp2
                go_roundg k2
                case measure => have:=HJ1.out;have:=HK2.out;omega
                case rel => exact ⟨(wrap64 (x30_2 + 1)),(by first | rfl | (simp;done) | (simp [*];done)),H',⟨by have:=HJ1.out;have:=HK2.out;omega⟩,⟨bk BK220.out⟩,⟨bl2 HB.out GE220.out GE225.out⟩⟩
               ·rw [if_neg c36] at H;have c36b0 : (Op.bytesLess (((rd_T42 l0_3 (ji33)).f0).toList) (((rd_T42 l0_3 x30_2).f0).toList)) = false:=by simpa using c36
                clear c36;obtain rfl:=Option.some.inj H;have p224 : 0 ≤ (x30_2 : Int):=of_decide_eq_true (by first | (with_reducible assumption) | assumption);have q224 : x30_2 < (l0_3.length : Int):=of_decide_eq_true (by first | (with_reducible assumption) | assumption);obtain ⟨ad224,e224,hx224_0,hx224_1,hx224_2⟩:=at_T42 HR0_3.out x30_2 p224 q224
                cases e224
                replace hx224_0:=(HB.out.cell (World.block_lt_of_cell? w _ hx224_0)).trans hx224_0;replace hx224_1:=(HB.out.cell (World.block_lt_of_cell? w _ hx224_1)).trans hx224_1;replace hx224_2:=(HB.out.cell (World.block_lt_of_cell? w _ hx224_2)).trans hx224_2;replace p224:=eq_true p224;replace q224:=eq_true q224
                try go_wp2_with (first | ((with_reducible refine gate_dst (N:=4) rfl ?_);(try (refine gate_guard (by rfl) ?_;dsimp only));refine box_event ?hg (N:=4) ?hd (cs:=#[.string (⟨#[]⟩ : ByteArray),.int .i64 0,.int .i64 0]) (t:=42) ?hr ?_;(case hd => rfl);(case hg => rfl);(case hr => first | (go_simp;done) | (go_simp;rfl));intro gb225 hg w43 hbox hb;have n0_:=Aside0.mk (blk_below (g:=gb220) (o:=.cells #[.string a0_0,.int .i64 a0_1,.int .i64 a0_2,.slice (some ad224) l0_3.length c0_3] 24 (0,0)) (bk BK220.out) hb);have n1_:=Aside0.mk (below_step (bl1 HB.out GE220.out) hb);have n2_:=Aside0.mk (hbox);have n3_:=Aside0.mk ((by rw [hg];exact (below_size (bl1 HB.out GE220.out)) : w.heap.size ≤ gb225));have n4_:=Aside0.mk ((by rw [hg];exact (below_size (bl1 HB.out GE220.out)) : w.heap.size ≤ gb225));have n5_:=Aside0.mk ((by rw [hg];exact Nat.ne_of_lt (blk_lt (g:=gb220) (o:=.cells #[.string a0_0,.int .i64 a0_1,.int .i64 a0_2,.slice (some ad224) l0_3.length c0_3] 24 (0,0)) (bk BK220.out)) : gb220 ≠ gb225));have n6_:=Aside0.mk ((by rw [hg];exact Nat.ne_of_gt (blk_lt (g:=gb220) (o:=.cells #[.string a0_0,.int .i64 a0_1,.int .i64 a0_2,.slice (some ad224) l0_3.length c0_3] 24 (0,0)) (bk BK220.out)) : gb225 ≠ gb220));clear BK220;clear HB;have BK220:=n0_;have HB:=n1_;have BK225:=n2_;have GW225:=n3_;have GE225:=n4_;have NB220_225:=n5_;have NB225_220:=n6_;clear n0_ n1_ n2_ n3_ n4_ n5_ n6_;clear hb hbox hg;have hnb44:=NB225_220.out;have hnc44:=NB220_225.out;have hcz45_0 : w43.cell? ⟨gb225,0,none⟩ = some (.string (⟨#[]⟩ : ByteArray)):=(blk_cell BK225.out 0).trans rfl;have hcz45_1 : w43.cell? ⟨gb225,1,none⟩ = some (.int .i64 0):=(blk_cell BK225.out 1).trans rfl;have hcz45_2 : w43.cell? ⟨gb225,2,none⟩ = some (.int .i64 0):=(blk_cell BK225.out 2).trans rfl;have hfz45_0:=blk_frozen BK225.out 0;have hfz45_1:=blk_frozen BK225.out 1;have hfz45_2:=blk_frozen BK225.out 2))
                have n0_ : Aside0 ((((w43.setCell ⟨gb225,0,none⟩ (.string ((rd_T42 l0_3 x30_2).f0))).setCell ⟨gb225,1,none⟩ (.int .i64 ((rd_T42 l0_3 x30_2).f1))).setCell ⟨gb225,2,none⟩ (.int .i64 ((rd_T42 l0_3 x30_2).f2))).heap[gb220]? = some (.cells #[.string a0_0,.int .i64 a0_1,.int .i64 a0_2,.slice (some ad224) l0_3.length c0_3] 24 (0,0))):=⟨by (with_reducible repeat (first | refine blk_drewN ?_ _ | refine blk_drew ?_ | refine blk_alloc ?_ _));refine blk_far ?_ NB220_225.out _;(with_reducible repeat (first | refine blk_drewN ?_ _ | refine blk_drew ?_ | refine blk_alloc ?_ _));refine blk_far ?_ NB220_225.out _;(with_reducible repeat (first | refine blk_drewN ?_ _ | refine blk_drew ?_ | refine blk_alloc ?_ _));refine blk_far ?_ NB220_225.out _;(with_reducible repeat (first | refine blk_drewN ?_ _ | refine blk_drew ?_ | refine blk_alloc ?_ _));exact BK220.out⟩;have n1_ : Aside0 ((((w43.setCell ⟨gb225,0,none⟩ (.string ((rd_T42 l0_3 x30_2).f0))).setCell ⟨gb225,1,none⟩ (.int .i64 ((rd_T42 l0_3 x30_2).f1))).setCell ⟨gb225,2,none⟩ (.int .i64 ((rd_T42 l0_3 x30_2).f2))).heap[gb225]? = some (.cells #[.string ((rd_T42 l0_3 x30_2).f0),.int .i64 ((rd_T42 l0_3 x30_2).f1),.int .i64 ((rd_T42 l0_3 x30_2).f2)] 42 (0,0))):=⟨by (with_reducible repeat (first | refine blk_drewN ?_ _ | refine blk_drew ?_ | refine blk_alloc ?_ _));refine blk_put (cs:=#[.string ((rd_T42 l0_3 x30_2).f0),.int .i64 ((rd_T42 l0_3 x30_2).f1),.int .i64 0]) ?_ 2 _ rfl;(with_reducible repeat (first | refine blk_drewN ?_ _ | refine blk_drew ?_ | refine blk_alloc ?_ _));refine blk_put (cs:=#[.string ((rd_T42 l0_3 x30_2).f0),.int .i64 0,.int .i64 0]) ?_ 1 _ rfl;(with_reducible repeat (first | refine blk_drewN ?_ _ | refine blk_drew ?_ | refine blk_alloc ?_ _));refine blk_put (cs:=#[.string (⟨#[]⟩ : ByteArray),.int .i64 0,.int .i64 0]) ?_ 0 _ rfl;(with_reducible repeat (first | refine blk_drewN ?_ _ | refine blk_drew ?_ | refine blk_alloc ?_ _));exact BK225.out⟩;have n2_ : Aside0 (Below w.heap.size w (((w43.setCell ⟨gb225,0,none⟩ (.string ((rd_T42 l0_3 x30_2).f0))).setCell ⟨gb225,1,none⟩ (.int .i64 ((rd_T42 l0_3 x30_2).f1))).setCell ⟨gb225,2,none⟩ (.int .i64 ((rd_T42 l0_3 x30_2).f2)))):=⟨bl2 HB.out GE220.out GE225.out⟩;(try clear BK220);(try clear BK225);(try clear HB);generalize (((w43.setCell ⟨gb225,0,none⟩ (.string ((rd_T42 l0_3 x30_2).f0))).setCell ⟨gb225,1,none⟩ (.int .i64 ((rd_T42 l0_3 x30_2).f1))).setCell ⟨gb225,2,none⟩ (.int .i64 ((rd_T42 l0_3 x30_2).f2))) = w46 at n0_ n1_ n2_ ⊢;have BK220:=n0_;have BK225:=n1_;have HB:=n2_;clear n0_ n1_ n2_;replace BK220:=Aside0.mk (blk_drew BK220.out);replace BK225:=Aside0.mk (blk_drew BK225.out);replace HB:=Aside0.mk (below_drew1 HB.out);have p229 : 0 ≤ ((ji33) : Int):=of_decide_eq_true (by first | (with_reducible assumption) | assumption);have q229 : (ji33) < (l0_3.length : Int):=of_decide_eq_true (by first | (with_reducible assumption) | assumption)
                obtain ⟨ad229,e229,hx229_0,hx229_1,hx229_2⟩:=at_T42 HR0_3.out (ji33) p229 q229;have hw229_2:=hx229_2;have hw229_1:=hx229_1;have hw229_0:=hx229_0;obtain rfl : ad224 = ad229:=(by injection e229);replace hx229_0:=(HB.out.cell (World.block_lt_of_cell? w _ hx229_0)).trans hx229_0;replace hx229_1:=(HB.out.cell (World.block_lt_of_cell? w _ hx229_1)).trans hx229_1;replace hx229_2:=(HB.out.cell (World.block_lt_of_cell? w _ hx229_2)).trans hx229_2;replace p229:=eq_true p229;replace q229:=eq_true q229;refine start_ (n:=32) (S:=fun w' => w'.cell? ⟨gb225,0,none⟩ = some (.string ((rd_T42 l0_3 x30_2).f0)) ∧ w'.cell? ⟨gb225,1,none⟩ = some (.int .i64 ((rd_T42 l0_3 x30_2).f1)) ∧ w'.cell? ⟨gb225,2,none⟩ = some (.int .i64 ((rd_T42 l0_3 x30_2).f2)) ∧ w'.cell? ⟨gb220,0,none⟩ = some (.string a0_0) ∧ w'.cell? ⟨gb220,1,none⟩ = some (.int .i64 a0_1) ∧ w'.cell? ⟨gb220,2,none⟩ = some (.int .i64 a0_2) ∧ w'.cell? ⟨gb220,3,none⟩ = some (.slice (some ad224) l0_3.length c0_3) ∧ w'.cell? (ad224.add (((ji33)).toNat * 3)) = some (.string ((rd_T42 l0_3 (ji33)).f0)) ∧ w'.cell? ⟨(ad224.add (((ji33)).toNat * 3)).block,(ad224.add (((ji33)).toNat * 3)).off + 1,none⟩ = some (.int .i64 ((rd_T42 l0_3 (ji33)).f1)) ∧ w'.cell? ⟨(ad224.add (((ji33)).toNat * 3)).block,(ad224.add (((ji33)).toNat * 3)).off + 2,none⟩ = some (.int .i64 ((rd_T42 l0_3 (ji33)).f2))) (ds:=[]) (pm 0 32) (by kernel_rfl) rfl rfl ⟨(blk_cell BK225.out 0).trans rfl,(blk_cell BK225.out 1).trans rfl,(blk_cell BK225.out 2).trans rfl,(blk_cell BK220.out 0).trans rfl,(blk_cell BK220.out 1).trans rfl,(blk_cell BK220.out 2).trans rfl,(blk_cell BK220.out 3).trans rfl,((HB.out.cell (World.block_lt_of_cell? w _ hw229_0)).trans hw229_0),((HB.out.cell (World.block_lt_of_cell? w _ hw229_1)).trans hw229_1),((HB.out.cell (World.block_lt_of_cell? w _ hw229_2)).trans hw229_2)⟩ (fun hHeld => ?_);refine with_tabW limits_May.tab6 limits_May.bits6 (fun HT_ HW_ => ?_);generalize w46.drew = w47 at BK220 BK225 HB hx229_0 hx229_1 hx229_2 hHeld ⊢;refine pure_ (i:=0) (N:=some 35) (v:=?_) (a':=?_) (pm 1 32) rfl rfl (any_of HT_.out (by kernel_rfl)) (fun _ _ _ h => h) (Or.inl ⟨by rfl,?_⟩) ?_ ?_;rotate_left
                ·intro w';go_simp;with_reducible rfl
                rotate_left
                ·simp only [Act.put,List.setIfInBounds_toArray,List.set_cons_zero,List.set_cons_succ,i64_w,i32_w];rfl
                refine take_ (i:=1) (N:=some 36) (v:=?_) (a':=?_) (pm 2 32) rfl rfl (take_ofW HT_.out HW_.out (by kernel_rfl)) (fun _ _ _ h => h) (Or.inl ⟨by rfl,?_⟩) hHeld ?_ ?_;rotate_left
                ·rintro w' ⟨s0,s1,s2,s3,s4,s5,s6,s7,s8,s9⟩;go_simp;with_reducible rfl
                rotate_left
                ·simp only [Act.put,List.setIfInBounds_toArray,List.set_cons_zero,List.set_cons_succ,i64_w,i32_w];rfl
                refine one_ (i:=2) (N:=some 37) (pm 3 32) rfl rfl (one_of HT_.out (by kernel_rfl)) (by decide) (fun K hK => ?_);refine goes_ Tryz.func28 (by kernel_rfl) rfl #[.string ((rd_T42 l0_3 x30_2).f0)] (by rfl) rfl rfl (by (try simp only [List.map_toArray,List.map_cons,List.map_nil]);first | done | rfl | (simp only [List.length_drop,List.length_take];rfl)) ?_
                with_reducible refine (scan_Word.calls k2 ((rd_T42 l0_3 x30_2).f0) true _ ?side1 A26.out).mono ?_
                (case side1 => exact Tabs.below HG.out (bl2 HB.out GE220.out GE225.out))
                rintro e w48 ⟨rfl,hb⟩;refine ⟨_,rfl,?_⟩;replace BK220:=Aside0.mk (blk_below (g:=gb220) (o:=.cells #[.string a0_0,.int .i64 a0_1,.int .i64 a0_2,.slice (some ad224) l0_3.length c0_3] 24 (0,0)) (bk BK220.out) hb);replace BK225:=Aside0.mk (blk_below (g:=gb225) (o:=.cells #[.string ((rd_T42 l0_3 x30_2).f0),.int .i64 ((rd_T42 l0_3 x30_2).f1),.int .i64 ((rd_T42 l0_3 x30_2).f2)] 42 (0,0)) (bk BK225.out) hb);replace HB:=Aside0.mk (below_step (bl2 HB.out GE220.out GE225.out) hb);(try clear hb);refine hK.out _ _ ⟨(blk_cell BK225.out 0).trans rfl,(blk_cell BK225.out 1).trans rfl,(blk_cell BK225.out 2).trans rfl,(blk_cell BK220.out 0).trans rfl,(blk_cell BK220.out 1).trans rfl,(blk_cell BK220.out 2).trans rfl,(blk_cell BK220.out 3).trans rfl,((HB.out.cell (World.block_lt_of_cell? w _ hw229_0)).trans hw229_0),((HB.out.cell (World.block_lt_of_cell? w _ hw229_1)).trans hw229_1),((HB.out.cell (World.block_lt_of_cell? w _ hw229_2)).trans hw229_2)⟩ (fun hHeld => ?_);clear hK K;refine norm_ (a':=?_) ?_ ?_;rotate_left
                ·show Act.put _ (some 37) _ = _;simp only [Act.put,List.setIfInBounds_toArray,List.set_cons_zero,List.set_cons_succ,i64_w,i32_w];rfl
                refine pure_ (i:=3) (N:=some 38) (v:=?_) (a':=?_) (pm 4 32) rfl rfl (any_of HT_.out (by kernel_rfl)) (fun _ _ _ h => h) (Or.inl ⟨by rfl,?_⟩) ?_ ?_;rotate_left
                ·intro w';go_simp;with_reducible rfl
                rotate_left
                ·simp only [Act.put,List.setIfInBounds_toArray,List.set_cons_zero,List.set_cons_succ,i64_w,i32_w];rfl
                refine pure_ (i:=4) (N:=some 39) (v:=?_) (a':=?_) (pm 5 32) rfl rfl (any_of HT_.out (by kernel_rfl)) (fun _ _ _ h => h) (Or.inl ⟨by rfl,?_⟩) ?_ ?_;rotate_left
                ·intro w';go_simp;with_reducible rfl
                rotate_left
                ·simp only [Act.put,List.setIfInBounds_toArray,List.set_cons_zero,List.set_cons_succ,i64_w,i32_w];rfl
                refine pure_ (i:=5) (N:=some 40) (v:=?_) (a':=?_) (pm 6 32) rfl rfl (any_of HT_.out (by kernel_rfl)) (fun _ _ _ h => h) (Or.inl ⟨by rfl,?_⟩) ?_ ?_;rotate_left
                ·intro w';go_simp;with_reducible rfl
                rotate_left
                ·simp only [Act.put,List.setIfInBounds_toArray,List.set_cons_zero,List.set_cons_succ,i64_w,i32_w];rfl
                refine take_ (i:=6) (N:=some 41) (v:=?_) (a':=?_) (pm 7 32) rfl rfl (take_ofW HT_.out HW_.out (by kernel_rfl)) (fun _ _ _ h => h) (Or.inl ⟨by rfl,?_⟩) hHeld ?_ ?_;rotate_left
                ·rintro w' ⟨s0,s1,s2,s3,s4,s5,s6,s7,s8,s9⟩;go_simp;with_reducible rfl
                rotate_left
                ·simp only [Act.put,List.setIfInBounds_toArray,List.set_cons_zero,List.set_cons_succ,i64_w,i32_w];rfl
                refine one_ (i:=7) (N:=some 42) (pm 8 32) rfl rfl (one_of HT_.out (by kernel_rfl)) (by decide) (fun K hK => ?_);refine goes_ Tryz.func29 (by kernel_rfl) rfl #[.int .i64 ((rd_T42 l0_3 x30_2).f1),.int .i64 3] (by rfl) rfl rfl (by (try simp only [List.map_toArray,List.map_cons,List.map_nil]);first | done | rfl | (simp only [List.length_drop,List.length_take];rfl)) ?_
                with_reducible refine (limits_within.calls ((rd_T42 l0_3 x30_2).f1) 3 true _ A28.out).mono ?_
                rintro e w' ⟨rfl,⟨nd,rfl⟩⟩;refine ⟨_,rfl,?_⟩;refine hK.out _ _ ⟨(blk_cell BK225.out 0).trans rfl,(blk_cell BK225.out 1).trans rfl,(blk_cell BK225.out 2).trans rfl,(blk_cell BK220.out 0).trans rfl,(blk_cell BK220.out 1).trans rfl,(blk_cell BK220.out 2).trans rfl,(blk_cell BK220.out 3).trans rfl,((HB.out.cell (World.block_lt_of_cell? w _ hw229_0)).trans hw229_0),((HB.out.cell (World.block_lt_of_cell? w _ hw229_1)).trans hw229_1),((HB.out.cell (World.block_lt_of_cell? w _ hw229_2)).trans hw229_2)⟩ (fun hHeld => ?_);clear hK K;refine norm_ (a':=?_) ?_ ?_;rotate_left
                ·show Act.put _ (some 42) _ = _;simp only [Act.put,List.setIfInBounds_toArray,List.set_cons_zero,List.set_cons_succ,i64_w,i32_w];rfl
                refine pure_ (i:=8) (N:=some 43) (v:=?_) (a':=?_) (pm 9 32) rfl rfl (any_of HT_.out (by kernel_rfl)) (fun _ _ _ h => h) (Or.inl ⟨by rfl,?_⟩) ?_ ?_;rotate_left
                ·intro w';go_simp;with_reducible rfl
                rotate_left
                ·simp only [Act.put,List.setIfInBounds_toArray,List.set_cons_zero,List.set_cons_succ,i64_w,i32_w];rfl
                refine pure_ (i:=9) (N:=some 44) (v:=?_) (a':=?_) (pm 10 32) rfl rfl (any_of HT_.out (by kernel_rfl)) (fun _ _ _ h => h) (Or.inl ⟨by rfl,?_⟩) ?_ ?_;rotate_left
                ·intro w';go_simp;with_reducible rfl
                rotate_left
                ·simp only [Act.put,List.setIfInBounds_toArray,List.set_cons_zero,List.set_cons_succ,i64_w,i32_w];rfl
                refine pure_ (i:=10) (N:=some 45) (v:=?_) (a':=?_) (pm 11 32) rfl rfl (any_of HT_.out (by kernel_rfl)) (fun _ _ _ h => h) (Or.inl ⟨by rfl,?_⟩) ?_ ?_;rotate_left
                ·intro w';go_simp;with_reducible rfl
                rotate_left
                ·simp only [Act.put,List.setIfInBounds_toArray,List.set_cons_zero,List.set_cons_succ,i64_w,i32_w];rfl
                refine pure_ (i:=11) (N:=some 46) (v:=?_) (a':=?_) (pm 12 32) rfl rfl (any_of HT_.out (by kernel_rfl)) (fun _ _ _ h => h) (Or.inl ⟨by rfl,?_⟩) ?_ ?_;rotate_left
                ·intro w';go_simp;with_reducible rfl
                rotate_left
                ·simp only [Act.put,List.setIfInBounds_toArray,List.set_cons_zero,List.set_cons_succ,i64_w,i32_w];rfl
                refine take_ (i:=12) (N:=some 47) (v:=?_) (a':=?_) (pm 13 32) rfl rfl (take_ofW HT_.out HW_.out (by kernel_rfl)) (fun _ _ _ h => h) (Or.inl ⟨by rfl,?_⟩) hHeld ?_ ?_;rotate_left
                ·rintro w' ⟨s0,s1,s2,s3,s4,s5,s6,s7,s8,s9⟩;go_simp;with_reducible rfl
                rotate_left
                ·simp only [Act.put,List.setIfInBounds_toArray,List.set_cons_zero,List.set_cons_succ,i64_w,i32_w];rfl
                refine one_ (i:=13) (N:=some 48) (pm 14 32) rfl rfl (one_of HT_.out (by kernel_rfl)) (by decide) (fun K hK => ?_);refine goes_ Tryz.func29 (by kernel_rfl) rfl #[.int .i64 ((rd_T42 l0_3 x30_2).f2),.int .i64 100] (by rfl) rfl rfl (by (try simp only [List.map_toArray,List.map_cons,List.map_nil]);first | done | rfl | (simp only [List.length_drop,List.length_take];rfl)) ?_
                with_reducible refine (limits_within.calls ((rd_T42 l0_3 x30_2).f2) 100 true _ A30.out).mono ?_
                rintro e w' ⟨rfl,⟨nd,rfl⟩⟩;refine ⟨_,rfl,?_⟩;refine hK.out _ _ ⟨(blk_cell BK225.out 0).trans rfl,(blk_cell BK225.out 1).trans rfl,(blk_cell BK225.out 2).trans rfl,(blk_cell BK220.out 0).trans rfl,(blk_cell BK220.out 1).trans rfl,(blk_cell BK220.out 2).trans rfl,(blk_cell BK220.out 3).trans rfl,((HB.out.cell (World.block_lt_of_cell? w _ hw229_0)).trans hw229_0),((HB.out.cell (World.block_lt_of_cell? w _ hw229_1)).trans hw229_1),((HB.out.cell (World.block_lt_of_cell? w _ hw229_2)).trans hw229_2)⟩ (fun hHeld => ?_);clear hK K;refine norm_ (a':=?_) ?_ ?_;rotate_left
                ·show Act.put _ (some 48) _ = _;simp only [Act.put,List.setIfInBounds_toArray,List.set_cons_zero,List.set_cons_succ,i64_w,i32_w];rfl
                refine pure_ (i:=14) (N:=some 49) (v:=?_) (a':=?_) (pm 15 32) rfl rfl (any_of HT_.out (by kernel_rfl)) (fun _ _ _ h => h) (Or.inl ⟨by rfl,?_⟩) ?_ ?_;rotate_left
                ·intro w';go_simp;with_reducible rfl
                rotate_left
                ·simp only [Act.put,List.setIfInBounds_toArray,List.set_cons_zero,List.set_cons_succ,i64_w,i32_w];rfl
                refine pure_ (i:=15) (N:=some 50) (v:=?_) (a':=?_) (pm 16 32) rfl rfl (any_of HT_.out (by kernel_rfl)) (fun _ _ _ h => h) (Or.inl ⟨by rfl,?_⟩) ?_ ?_;rotate_left
                ·intro w';go_simp;with_reducible rfl
                rotate_left
                ·simp only [Act.put,List.setIfInBounds_toArray,List.set_cons_zero,List.set_cons_succ,i64_w,i32_w];rfl
                refine pure_ (i:=16) (N:=some 51) (v:=?_) (a':=?_) (pm 17 32) rfl rfl (any_of HT_.out (by kernel_rfl)) (fun _ _ _ h => h) (Or.inl ⟨by rfl,?_⟩) ?_ ?_;rotate_left
                ·intro w';go_simp;with_reducible rfl
                rotate_left
                ·simp only [Act.put,List.setIfInBounds_toArray,List.set_cons_zero,List.set_cons_succ,i64_w,i32_w];rfl
                refine pure_ (i:=17) (N:=some 52) (v:=?_) (a':=?_) (pm 18 32) rfl rfl (any_of HT_.out (by kernel_rfl)) (fun _ _ _ h => h) (Or.inl ⟨by rfl,?_⟩) ?_ ?_;rotate_left
                ·intro w';go_simp;with_reducible rfl
                rotate_left
                ·simp only [Act.put,List.setIfInBounds_toArray,List.set_cons_zero,List.set_cons_succ,i64_w,i32_w];rfl
                refine pure_ (i:=18) (N:=some 53) (v:=?_) (a':=?_) (pm 19 32) rfl rfl (any_of HT_.out (by kernel_rfl)) (fun _ _ _ h => h) (Or.inl ⟨by rfl,?_⟩) ?_ ?_;rotate_left
                ·intro w';go_simp;with_reducible rfl
                rotate_left
                ·simp only [Act.put,List.setIfInBounds_toArray,List.set_cons_zero,List.set_cons_succ,i64_w,i32_w];rfl
                refine pure_ (i:=19) (N:=some 54) (v:=?_) (a':=?_) (pm 20 32) rfl rfl (any_of HT_.out (by kernel_rfl)) (fun _ _ _ h => h) (Or.inl ⟨by rfl,?_⟩) ?_ ?_;rotate_left
                ·intro w';go_simp;with_reducible rfl
                rotate_left
                ·simp only [Act.put,List.setIfInBounds_toArray,List.set_cons_zero,List.set_cons_succ,i64_w,i32_w];rfl
                refine pure_ (i:=20) (N:=some 55) (v:=?_) (a':=?_) (pm 21 32) rfl rfl (any_of HT_.out (by kernel_rfl)) (fun _ _ _ h => h) (Or.inl ⟨by rfl,?_⟩) ?_ ?_;rotate_left
                ·intro w';go_simp;with_reducible rfl
                rotate_left
                ·simp only [Act.put,List.setIfInBounds_toArray,List.set_cons_zero,List.set_cons_succ,i64_w,i32_w];rfl
                refine pure_ (i:=22) (N:=some 57) (v:=?_) (a':=?_) #[true,true,true,true,true,true,true,true,true,true,true,true,true,true,true,true,true,true,true,true,true,false,true,false,false,false,false,false,false,false,false,false] rfl rfl (any_of HT_.out (by kernel_rfl)) (fun _ _ _ h => h) (Or.inl ⟨by rfl,?_⟩) ?_ ?_;rotate_left
                ·intro w';go_simp;with_reducible rfl
                rotate_left
                ·simp only [Act.put,List.setIfInBounds_toArray,List.set_cons_zero,List.set_cons_succ,i64_w,i32_w];rfl
                refine pure_ (i:=24) (N:=some 59) (v:=?_) (a':=?_) #[true,true,true,true,true,true,true,true,true,true,true,true,true,true,true,true,true,true,true,true,true,false,true,false,true,false,false,false,false,false,false,false] rfl rfl (any_of HT_.out (by kernel_rfl)) (fun _ _ _ h => h) (Or.inl ⟨by rfl,?_⟩) ?_ ?_;rotate_left
                ·intro w';go_simp;with_reducible rfl
                rotate_left
                ·simp only [Act.put,List.setIfInBounds_toArray,List.set_cons_zero,List.set_cons_succ,i64_w,i32_w];rfl
                refine pure_ (i:=25) (N:=some 60) (v:=?_) (a':=?_) #[true,true,true,true,true,true,true,true,true,true,true,true,true,true,true,true,true,true,true,true,true,false,true,false,true,true,false,false,false,false,false,false] rfl rfl (any_of HT_.out (by kernel_rfl)) (fun _ _ _ h => h) (Or.inl ⟨by rfl,?_⟩) ?_ ?_;rotate_left
                ·intro w';go_simp;with_reducible rfl
                rotate_left
                ·simp only [Act.put,List.setIfInBounds_toArray,List.set_cons_zero,List.set_cons_succ,i64_w,i32_w];rfl
                refine take_ (i:=21) (N:=some 56) (v:=?_) (a':=?_) #[true,true,true,true,true,true,true,true,true,true,true,true,true,true,true,true,true,true,true,true,true,true,true,false,true,true,false,false,false,false,false,false] rfl rfl (take_ofW HT_.out HW_.out (by kernel_rfl)) (fun _ _ _ h => h) (Or.inl ⟨by rfl,?_⟩) hHeld ?_ ?_;rotate_left
                ·rintro w' ⟨s0,s1,s2,s3,s4,s5,s6,s7,s8,s9⟩;go_simp;with_reducible rfl
                rotate_left
                ·simp only [Act.put,List.setIfInBounds_toArray,List.set_cons_zero,List.set_cons_succ,i64_w,i32_w];rfl
                refine take_ (i:=23) (N:=some 58) (v:=?_) (a':=?_) (pm 26 32) rfl rfl (take_ofW HT_.out HW_.out (by kernel_rfl)) (fun _ _ _ h => h) (Or.inl ⟨by rfl,?_⟩) hHeld ?_ ?_;rotate_left
                ·rintro w' ⟨s0,s1,s2,s3,s4,s5,s6,s7,s8,s9⟩;go_simp;with_reducible rfl
                rotate_left
                ·simp only [Act.put,List.setIfInBounds_toArray,List.set_cons_zero,List.set_cons_succ,i64_w,i32_w];rfl
                refine pure_ (i:=26) (N:=some 61) (v:=?_) (a':=?_) (pm 27 32) rfl rfl (any_of HT_.out (by kernel_rfl)) (fun _ _ _ h => h) (Or.inl ⟨by rfl,?_⟩) ?_ ?_;rotate_left
                ·intro w';go_simp;with_reducible rfl
                rotate_left
                ·simp only [Act.put,List.setIfInBounds_toArray,List.set_cons_zero,List.set_cons_succ,i64_w,i32_w];rfl
                refine pure_ (i:=27) (N:=some 62) (v:=?_) (a':=?_) (pm 28 32) rfl rfl (any_of HT_.out (by kernel_rfl)) (fun _ _ _ h => h) (Or.inl ⟨by rfl,?_⟩) ?_ ?_;rotate_left
                ·intro w';go_simp;with_reducible rfl
                rotate_left
                ·simp only [Act.put,List.setIfInBounds_toArray,List.set_cons_zero,List.set_cons_succ,i64_w,i32_w];rfl
                refine take_ (i:=28) (N:=some 63) (v:=?_) (a':=?_) (pm 29 32) rfl rfl (take_ofW HT_.out HW_.out (by kernel_rfl)) (fun _ _ _ h => h) (Or.inl ⟨by rfl,?_⟩) hHeld ?_ ?_;rotate_left
                ·rintro w' ⟨s0,s1,s2,s3,s4,s5,s6,s7,s8,s9⟩;go_simp;with_reducible rfl
                rotate_left
                ·simp only [Act.put,List.setIfInBounds_toArray,List.set_cons_zero,List.set_cons_succ,i64_w,i32_w];rfl
                refine pure_ (i:=29) (N:=some 64) (v:=?_) (a':=?_) (pm 30 32) rfl rfl (any_of HT_.out (by kernel_rfl)) (fun _ _ _ h => h) (Or.inl ⟨by rfl,?_⟩) ?_ ?_;rotate_left
                ·intro w';go_simp;with_reducible rfl
                rotate_left
                ·simp only [Act.put,List.setIfInBounds_toArray,List.set_cons_zero,List.set_cons_succ,i64_w,i32_w];rfl
                refine pure_ (i:=30) (N:=some 65) (v:=?_) (a':=?_) (pm 31 32) rfl rfl (any_of HT_.out (by kernel_rfl)) (fun _ _ _ h => h) (Or.inl ⟨by rfl,?_⟩) ?_ ?_;rotate_left
                ·intro w';go_simp;with_reducible rfl
                rotate_left
                ·simp only [Act.put,List.setIfInBounds_toArray,List.set_cons_zero,List.set_cons_succ,i64_w,i32_w];rfl
                refine pure_ (i:=31) (N:=some 66) (v:=?_) (a':=?_) (pm 32 32) rfl rfl (any_of HT_.out (by kernel_rfl)) (fun _ _ _ h => h) (Or.inl ⟨by rfl,?_⟩) ?_ ?_;rotate_left
                ·intro w';go_simp;with_reducible rfl
                rotate_left
                ·simp only [Act.put,List.setIfInBounds_toArray,List.set_cons_zero,List.set_cons_succ,i64_w,i32_w];rfl
                refine done_ (done_of HT_.out (by kernel_rfl)) ?_
                try go_wp2
                go_ret
                exact ⟨by first | rfl | (simp [errW_none,errW_some] <;> rfl) | (simp only [← hji33];first | rfl | (simp [errW_none,errW_some] <;> rfl)) | (simp [*,errW_none,errW_some] <;> rfl),bl2 HB.out GE220.out GE225.out⟩
              ·rw [if_neg c35] at H;exact absurd H (by simp)
             ·rw [if_neg c34] at H;exact absurd H (by simp)
            ·rw [if_neg c32] at H;have c32b0 : decide (0 < x30_2) = false:=decide_eq_false c32;clear c32;have H':=Aside0.mk H;clear H;have p224 : 0 ≤ (x30_2 : Int):=of_decide_eq_true (by first | (with_reducible assumption) | assumption);have q224 : x30_2 < (l0_3.length : Int):=of_decide_eq_true (by first | (with_reducible assumption) | assumption);obtain ⟨ad224,e224,hx224_0,hx224_1,hx224_2⟩:=at_T42 HR0_3.out x30_2 p224 q224
             cases e224
             replace hx224_0:=(HB.out.cell (World.block_lt_of_cell? w _ hx224_0)).trans hx224_0;replace hx224_1:=(HB.out.cell (World.block_lt_of_cell? w _ hx224_1)).trans hx224_1;replace hx224_2:=(HB.out.cell (World.block_lt_of_cell? w _ hx224_2)).trans hx224_2;replace p224:=eq_true p224;replace q224:=eq_true q224
             try go_wp2_with (first | ((with_reducible refine gate_dst (N:=4) rfl ?_);(try (refine gate_guard (by rfl) ?_;dsimp only));refine box_event ?hg (N:=4) ?hd (cs:=#[.string (⟨#[]⟩ : ByteArray),.int .i64 0,.int .i64 0]) (t:=42) ?hr ?_;(case hd => rfl);(case hg => rfl);(case hr => first | (go_simp;done) | (go_simp;rfl));intro gb225 hg w49 hbox hb;have n0_:=Aside0.mk (blk_below (g:=gb220) (o:=.cells #[.string a0_0,.int .i64 a0_1,.int .i64 a0_2,.slice (some ad224) l0_3.length c0_3] 24 (0,0)) (bk BK220.out) hb);have n1_:=Aside0.mk (below_step (bl1 HB.out GE220.out) hb);have n2_:=Aside0.mk (hbox);have n3_:=Aside0.mk ((by rw [hg];exact (below_size (bl1 HB.out GE220.out)) : w.heap.size ≤ gb225));have n4_:=Aside0.mk ((by rw [hg];exact (below_size (bl1 HB.out GE220.out)) : w.heap.size ≤ gb225));have n5_:=Aside0.mk ((by rw [hg];exact Nat.ne_of_lt (blk_lt (g:=gb220) (o:=.cells #[.string a0_0,.int .i64 a0_1,.int .i64 a0_2,.slice (some ad224) l0_3.length c0_3] 24 (0,0)) (bk BK220.out)) : gb220 ≠ gb225));have n6_:=Aside0.mk ((by rw [hg];exact Nat.ne_of_gt (blk_lt (g:=gb220) (o:=.cells #[.string a0_0,.int .i64 a0_1,.int .i64 a0_2,.slice (some ad224) l0_3.length c0_3] 24 (0,0)) (bk BK220.out)) : gb225 ≠ gb220));clear BK220;clear HB;have BK220:=n0_;have HB:=n1_;have BK225:=n2_;have GW225:=n3_;have GE225:=n4_;have NB220_225:=n5_;have NB225_220:=n6_;clear n0_ n1_ n2_ n3_ n4_ n5_ n6_;clear hb hbox hg;have hnb50:=NB225_220.out;have hnc50:=NB220_225.out;have hcz51_0 : w49.cell? ⟨gb225,0,none⟩ = some (.string (⟨#[]⟩ : ByteArray)):=(blk_cell BK225.out 0).trans rfl;have hcz51_1 : w49.cell? ⟨gb225,1,none⟩ = some (.int .i64 0):=(blk_cell BK225.out 1).trans rfl;have hcz51_2 : w49.cell? ⟨gb225,2,none⟩ = some (.int .i64 0):=(blk_cell BK225.out 2).trans rfl;have hfz51_0:=blk_frozen BK225.out 0;have hfz51_1:=blk_frozen BK225.out 1;have hfz51_2:=blk_frozen BK225.out 2))
             have n0_ : Aside0 ((((w49.setCell ⟨gb225,0,none⟩ (.string ((rd_T42 l0_3 x30_2).f0))).setCell ⟨gb225,1,none⟩ (.int .i64 ((rd_T42 l0_3 x30_2).f1))).setCell ⟨gb225,2,none⟩ (.int .i64 ((rd_T42 l0_3 x30_2).f2))).heap[gb220]? = some (.cells #[.string a0_0,.int .i64 a0_1,.int .i64 a0_2,.slice (some ad224) l0_3.length c0_3] 24 (0,0))):=⟨by (with_reducible repeat (first | refine blk_drewN ?_ _ | refine blk_drew ?_ | refine blk_alloc ?_ _));refine blk_far ?_ NB220_225.out _;(with_reducible repeat (first | refine blk_drewN ?_ _ | refine blk_drew ?_ | refine blk_alloc ?_ _));refine blk_far ?_ NB220_225.out _;(with_reducible repeat (first | refine blk_drewN ?_ _ | refine blk_drew ?_ | refine blk_alloc ?_ _));refine blk_far ?_ NB220_225.out _;(with_reducible repeat (first | refine blk_drewN ?_ _ | refine blk_drew ?_ | refine blk_alloc ?_ _));exact BK220.out⟩;have n1_ : Aside0 ((((w49.setCell ⟨gb225,0,none⟩ (.string ((rd_T42 l0_3 x30_2).f0))).setCell ⟨gb225,1,none⟩ (.int .i64 ((rd_T42 l0_3 x30_2).f1))).setCell ⟨gb225,2,none⟩ (.int .i64 ((rd_T42 l0_3 x30_2).f2))).heap[gb225]? = some (.cells #[.string ((rd_T42 l0_3 x30_2).f0),.int .i64 ((rd_T42 l0_3 x30_2).f1),.int .i64 ((rd_T42 l0_3 x30_2).f2)] 42 (0,0))):=⟨by (with_reducible repeat (first | refine blk_drewN ?_ _ | refine blk_drew ?_ | refine blk_alloc ?_ _));refine blk_put (cs:=#[.string ((rd_T42 l0_3 x30_2).f0),.int .i64 ((rd_T42 l0_3 x30_2).f1),.int .i64 0]) ?_ 2 _ rfl;(with_reducible repeat (first | refine blk_drewN ?_ _ | refine blk_drew ?_ | refine blk_alloc ?_ _));refine blk_put (cs:=#[.string ((rd_T42 l0_3 x30_2).f0),.int .i64 0,.int .i64 0]) ?_ 1 _ rfl;(with_reducible repeat (first | refine blk_drewN ?_ _ | refine blk_drew ?_ | refine blk_alloc ?_ _));refine blk_put (cs:=#[.string (⟨#[]⟩ : ByteArray),.int .i64 0,.int .i64 0]) ?_ 0 _ rfl;(with_reducible repeat (first | refine blk_drewN ?_ _ | refine blk_drew ?_ | refine blk_alloc ?_ _));exact BK225.out⟩;have n2_ : Aside0 (Below w.heap.size w (((w49.setCell ⟨gb225,0,none⟩ (.string ((rd_T42 l0_3 x30_2).f0))).setCell ⟨gb225,1,none⟩ (.int .i64 ((rd_T42 l0_3 x30_2).f1))).setCell ⟨gb225,2,none⟩ (.int .i64 ((rd_T42 l0_3 x30_2).f2)))):=⟨bl2 HB.out GE220.out GE225.out⟩;(try clear BK220);(try clear BK225);(try clear HB);generalize (((w49.setCell ⟨gb225,0,none⟩ (.string ((rd_T42 l0_3 x30_2).f0))).setCell ⟨gb225,1,none⟩ (.int .i64 ((rd_T42 l0_3 x30_2).f1))).setCell ⟨gb225,2,none⟩ (.int .i64 ((rd_T42 l0_3 x30_2).f2))) = w52 at n0_ n1_ n2_ ⊢;have BK220:=n0_;have BK225:=n1_;have HB:=n2_;clear n0_ n1_ n2_;replace BK220:=Aside0.mk (blk_drew BK220.out);replace BK225:=Aside0.mk (blk_drew BK225.out);replace HB:=Aside0.mk (below_drew1 HB.out)
             refine start_ (n:=32) (S:=fun w' => w'.cell? ⟨gb225,0,none⟩ = some (.string ((rd_T42 l0_3 x30_2).f0)) ∧ w'.cell? ⟨gb225,1,none⟩ = some (.int .i64 ((rd_T42 l0_3 x30_2).f1)) ∧ w'.cell? ⟨gb225,2,none⟩ = some (.int .i64 ((rd_T42 l0_3 x30_2).f2))) (ds:=[]) (pm 0 32) (by kernel_rfl) rfl rfl ⟨(blk_cell BK225.out 0).trans rfl,(blk_cell BK225.out 1).trans rfl,(blk_cell BK225.out 2).trans rfl⟩ (fun hHeld => ?_);refine with_tabW limits_May.tab6 limits_May.bits6 (fun HT_ HW_ => ?_);generalize w52.drew = w53 at BK220 BK225 HB hHeld ⊢;refine pure_ (i:=0) (N:=some 35) (v:=?_) (a':=?_) (pm 1 32) rfl rfl (any_of HT_.out (by kernel_rfl)) (fun _ _ _ h => h) (Or.inl ⟨by rfl,?_⟩) ?_ ?_;rotate_left
             ·intro w';go_simp;with_reducible rfl
             rotate_left
             ·simp only [Act.put,List.setIfInBounds_toArray,List.set_cons_zero,List.set_cons_succ,i64_w,i32_w];rfl
             refine take_ (i:=1) (N:=some 36) (v:=?_) (a':=?_) (pm 2 32) rfl rfl (take_ofW HT_.out HW_.out (by kernel_rfl)) (fun _ _ _ h => h) (Or.inl ⟨by rfl,?_⟩) hHeld ?_ ?_;rotate_left
             ·rintro w' ⟨s0,s1,s2⟩;go_simp;with_reducible rfl
             rotate_left
             ·simp only [Act.put,List.setIfInBounds_toArray,List.set_cons_zero,List.set_cons_succ,i64_w,i32_w];rfl
             refine one_ (i:=2) (N:=some 37) (pm 3 32) rfl rfl (one_of HT_.out (by kernel_rfl)) (by decide) (fun K hK => ?_);refine goes_ Tryz.func28 (by kernel_rfl) rfl #[.string ((rd_T42 l0_3 x30_2).f0)] (by rfl) rfl rfl (by (try simp only [List.map_toArray,List.map_cons,List.map_nil]);first | done | rfl | (simp only [List.length_drop,List.length_take];rfl)) ?_
             with_reducible refine (scan_Word.calls k2 ((rd_T42 l0_3 x30_2).f0) true _ ?side1 A26.out).mono ?_
             (case side1 => exact Tabs.below HG.out (bl2 HB.out GE220.out GE225.out))
             rintro e w54 ⟨rfl,hb⟩;refine ⟨_,rfl,?_⟩;replace BK220:=Aside0.mk (blk_below (g:=gb220) (o:=.cells #[.string a0_0,.int .i64 a0_1,.int .i64 a0_2,.slice (some ad224) l0_3.length c0_3] 24 (0,0)) (bk BK220.out) hb);replace BK225:=Aside0.mk (blk_below (g:=gb225) (o:=.cells #[.string ((rd_T42 l0_3 x30_2).f0),.int .i64 ((rd_T42 l0_3 x30_2).f1),.int .i64 ((rd_T42 l0_3 x30_2).f2)] 42 (0,0)) (bk BK225.out) hb);replace HB:=Aside0.mk (below_step (bl2 HB.out GE220.out GE225.out) hb);(try clear hb);refine hK.out _ _ ⟨(blk_cell BK225.out 0).trans rfl,(blk_cell BK225.out 1).trans rfl,(blk_cell BK225.out 2).trans rfl⟩ (fun hHeld => ?_);clear hK K;refine norm_ (a':=?_) ?_ ?_;rotate_left
             ·show Act.put _ (some 37) _ = _;simp only [Act.put,List.setIfInBounds_toArray,List.set_cons_zero,List.set_cons_succ,i64_w,i32_w];rfl
             refine pure_ (i:=3) (N:=some 38) (v:=?_) (a':=?_) (pm 4 32) rfl rfl (any_of HT_.out (by kernel_rfl)) (fun _ _ _ h => h) (Or.inl ⟨by rfl,?_⟩) ?_ ?_;rotate_left
             ·intro w';go_simp;with_reducible rfl
             rotate_left
             ·simp only [Act.put,List.setIfInBounds_toArray,List.set_cons_zero,List.set_cons_succ,i64_w,i32_w];rfl
             refine pure_ (i:=4) (N:=some 39) (v:=?_) (a':=?_) (pm 5 32) rfl rfl (any_of HT_.out (by kernel_rfl)) (fun _ _ _ h => h) (Or.inl ⟨by rfl,?_⟩) ?_ ?_;rotate_left
             ·intro w';go_simp;with_reducible rfl
             rotate_left
             ·simp only [Act.put,List.setIfInBounds_toArray,List.set_cons_zero,List.set_cons_succ,i64_w,i32_w];rfl
             refine pure_ (i:=5) (N:=some 40) (v:=?_) (a':=?_) (pm 6 32) rfl rfl (any_of HT_.out (by kernel_rfl)) (fun _ _ _ h => h) (Or.inl ⟨by rfl,?_⟩) ?_ ?_;rotate_left
             ·intro w';go_simp;with_reducible rfl
             rotate_left
             ·simp only [Act.put,List.setIfInBounds_toArray,List.set_cons_zero,List.set_cons_succ,i64_w,i32_w];rfl
             refine take_ (i:=6) (N:=some 41) (v:=?_) (a':=?_) (pm 7 32) rfl rfl (take_ofW HT_.out HW_.out (by kernel_rfl)) (fun _ _ _ h => h) (Or.inl ⟨by rfl,?_⟩) hHeld ?_ ?_;rotate_left
             ·rintro w' ⟨s0,s1,s2⟩;go_simp;with_reducible rfl
             rotate_left
             ·simp only [Act.put,List.setIfInBounds_toArray,List.set_cons_zero,List.set_cons_succ,i64_w,i32_w];rfl
             refine one_ (i:=7) (N:=some 42) (pm 8 32) rfl rfl (one_of HT_.out (by kernel_rfl)) (by decide) (fun K hK => ?_);refine goes_ Tryz.func29 (by kernel_rfl) rfl #[.int .i64 ((rd_T42 l0_3 x30_2).f1),.int .i64 3] (by rfl) rfl rfl (by (try simp only [List.map_toArray,List.map_cons,List.map_nil]);first | done | rfl | (simp only [List.length_drop,List.length_take];rfl)) ?_
             with_reducible refine (limits_within.calls ((rd_T42 l0_3 x30_2).f1) 3 true _ A28.out).mono ?_
             rintro e w' ⟨rfl,⟨nd,rfl⟩⟩;refine ⟨_,rfl,?_⟩;refine hK.out _ _ ⟨(blk_cell BK225.out 0).trans rfl,(blk_cell BK225.out 1).trans rfl,(blk_cell BK225.out 2).trans rfl⟩ (fun hHeld => ?_);clear hK K;refine norm_ (a':=?_) ?_ ?_;rotate_left
             ·show Act.put _ (some 42) _ = _;simp only [Act.put,List.setIfInBounds_toArray,List.set_cons_zero,List.set_cons_succ,i64_w,i32_w];rfl
             refine pure_ (i:=8) (N:=some 43) (v:=?_) (a':=?_) (pm 9 32) rfl rfl (any_of HT_.out (by kernel_rfl)) (fun _ _ _ h => h) (Or.inl ⟨by rfl,?_⟩) ?_ ?_;rotate_left
             ·intro w';go_simp;with_reducible rfl
             rotate_left
             ·simp only [Act.put,List.setIfInBounds_toArray,List.set_cons_zero,List.set_cons_succ,i64_w,i32_w];rfl
             refine pure_ (i:=9) (N:=some 44) (v:=?_) (a':=?_) (pm 10 32) rfl rfl (any_of HT_.out (by kernel_rfl)) (fun _ _ _ h => h) (Or.inl ⟨by rfl,?_⟩) ?_ ?_;rotate_left
             ·intro w';go_simp;with_reducible rfl
             rotate_left
             ·simp only [Act.put,List.setIfInBounds_toArray,List.set_cons_zero,List.set_cons_succ,i64_w,i32_w];rfl
             refine pure_ (i:=10) (N:=some 45) (v:=?_) (a':=?_) (pm 11 32) rfl rfl (any_of HT_.out (by kernel_rfl)) (fun _ _ _ h => h) (Or.inl ⟨by rfl,?_⟩) ?_ ?_;rotate_left
             ·intro w';go_simp;with_reducible rfl
             rotate_left
             ·simp only [Act.put,List.setIfInBounds_toArray,List.set_cons_zero,List.set_cons_succ,i64_w,i32_w];rfl
             refine pure_ (i:=11) (N:=some 46) (v:=?_) (a':=?_) (pm 12 32) rfl rfl (any_of HT_.out (by kernel_rfl)) (fun _ _ _ h => h) (Or.inl ⟨by rfl,?_⟩) ?_ ?_;rotate_left
             ·intro w';go_simp;with_reducible rfl
             rotate_left
             ·simp only [Act.put,List.setIfInBounds_toArray,List.set_cons_zero,List.set_cons_succ,i64_w,i32_w];rfl
             refine take_ (i:=12) (N:=some 47) (v:=?_) (a':=?_) (pm 13 32) rfl rfl (take_ofW HT_.out HW_.out (by kernel_rfl)) (fun _ _ _ h => h) (Or.inl ⟨by rfl,?_⟩) hHeld ?_ ?_;rotate_left
             ·rintro w' ⟨s0,s1,s2⟩;go_simp;with_reducible rfl
             rotate_left
             ·simp only [Act.put,List.setIfInBounds_toArray,List.set_cons_zero,List.set_cons_succ,i64_w,i32_w];rfl
             refine one_ (i:=13) (N:=some 48) (pm 14 32) rfl rfl (one_of HT_.out (by kernel_rfl)) (by decide) (fun K hK => ?_);refine goes_ Tryz.func29 (by kernel_rfl) rfl #[.int .i64 ((rd_T42 l0_3 x30_2).f2),.int .i64 100] (by rfl) rfl rfl (by (try simp only [List.map_toArray,List.map_cons,List.map_nil]);first | done | rfl | (simp only [List.length_drop,List.length_take];rfl)) ?_
             with_reducible refine (limits_within.calls ((rd_T42 l0_3 x30_2).f2) 100 true _ A30.out).mono ?_
             rintro e w' ⟨rfl,⟨nd,rfl⟩⟩;refine ⟨_,rfl,?_⟩;refine hK.out _ _ ⟨(blk_cell BK225.out 0).trans rfl,(blk_cell BK225.out 1).trans rfl,(blk_cell BK225.out 2).trans rfl⟩ (fun hHeld => ?_);clear hK K;refine norm_ (a':=?_) ?_ ?_;rotate_left
             ·show Act.put _ (some 48) _ = _;simp only [Act.put,List.setIfInBounds_toArray,List.set_cons_zero,List.set_cons_succ,i64_w,i32_w];rfl
             refine pure_ (i:=14) (N:=some 49) (v:=?_) (a':=?_) (pm 15 32) rfl rfl (any_of HT_.out (by kernel_rfl)) (fun _ _ _ h => h) (Or.inl ⟨by rfl,?_⟩) ?_ ?_;rotate_left
             ·intro w';go_simp;with_reducible rfl
             rotate_left
             ·simp only [Act.put,List.setIfInBounds_toArray,List.set_cons_zero,List.set_cons_succ,i64_w,i32_w];rfl
             refine pure_ (i:=15) (N:=some 50) (v:=?_) (a':=?_) (pm 16 32) rfl rfl (any_of HT_.out (by kernel_rfl)) (fun _ _ _ h => h) (Or.inl ⟨by rfl,?_⟩) ?_ ?_;rotate_left
             ·intro w';go_simp;with_reducible rfl
             rotate_left
             ·simp only [Act.put,List.setIfInBounds_toArray,List.set_cons_zero,List.set_cons_succ,i64_w,i32_w];rfl
             refine pure_ (i:=16) (N:=some 51) (v:=?_) (a':=?_) (pm 17 32) rfl rfl (any_of HT_.out (by kernel_rfl)) (fun _ _ _ h => h) (Or.inl ⟨by rfl,?_⟩) ?_ ?_;rotate_left
             ·intro w';go_simp;with_reducible rfl
             rotate_left
             ·simp only [Act.put,List.setIfInBounds_toArray,List.set_cons_zero,List.set_cons_succ,i64_w,i32_w];rfl
             refine pure_ (i:=17) (N:=some 52) (v:=?_) (a':=?_) (pm 18 32) rfl rfl (any_of HT_.out (by kernel_rfl)) (fun _ _ _ h => h) (Or.inl ⟨by rfl,?_⟩) ?_ ?_;rotate_left
             ·intro w';go_simp;with_reducible rfl
             rotate_left
             ·simp only [Act.put,List.setIfInBounds_toArray,List.set_cons_zero,List.set_cons_succ,i64_w,i32_w];rfl
             refine pure_ (i:=18) (N:=some 53) (v:=?_) (a':=?_) (pm 19 32) rfl rfl (any_of HT_.out (by kernel_rfl)) (fun _ _ _ h => h) (Or.inl ⟨by rfl,?_⟩) ?_ ?_;rotate_left
             ·intro w';go_simp;with_reducible rfl
             rotate_left
             ·simp only [Act.put,List.setIfInBounds_toArray,List.set_cons_zero,List.set_cons_succ,i64_w,i32_w];rfl
             refine pure_ (i:=19) (N:=some 54) (v:=?_) (a':=?_) (pm 20 32) rfl rfl (any_of HT_.out (by kernel_rfl)) (fun _ _ _ h => h) (Or.inl ⟨by rfl,?_⟩) ?_ ?_;rotate_left
             ·intro w';go_simp;with_reducible rfl
             rotate_left
             ·simp only [Act.put,List.setIfInBounds_toArray,List.set_cons_zero,List.set_cons_succ,i64_w,i32_w];rfl
             refine pure_ (i:=20) (N:=some 55) (v:=undef) (a':=?_) (pm 21 32) rfl rfl (any_of HT_.out (by kernel_rfl)) (fun _ _ _ h => h) (Or.inr ⟨by rfl,rfl⟩) ?_ ?_;rotate_left
             ·simp only [Act.put,List.setIfInBounds_toArray,List.set_cons_zero,List.set_cons_succ,i64_w,i32_w];rfl
             refine pure_ (i:=21) (N:=some 56) (v:=undef) (a':=?_) (pm 22 32) rfl rfl (any_of HT_.out (by kernel_rfl)) (fun _ _ _ h => h) (Or.inr ⟨by rfl,rfl⟩) ?_ ?_;rotate_left
             ·simp only [Act.put,List.setIfInBounds_toArray,List.set_cons_zero,List.set_cons_succ,i64_w,i32_w];rfl
             refine pure_ (i:=22) (N:=some 57) (v:=undef) (a':=?_) (pm 23 32) rfl rfl (any_of HT_.out (by kernel_rfl)) (fun _ _ _ h => h) (Or.inr ⟨by rfl,rfl⟩) ?_ ?_;rotate_left
             ·simp only [Act.put,List.setIfInBounds_toArray,List.set_cons_zero,List.set_cons_succ,i64_w,i32_w];rfl
             refine pure_ (i:=23) (N:=some 58) (v:=undef) (a':=?_) (pm 24 32) rfl rfl (any_of HT_.out (by kernel_rfl)) (fun _ _ _ h => h) (Or.inr ⟨by rfl,rfl⟩) ?_ ?_;rotate_left
             ·simp only [Act.put,List.setIfInBounds_toArray,List.set_cons_zero,List.set_cons_succ,i64_w,i32_w];rfl
             refine pure_ (i:=24) (N:=some 59) (v:=undef) (a':=?_) (pm 25 32) rfl rfl (any_of HT_.out (by kernel_rfl)) (fun _ _ _ h => h) (Or.inr ⟨by rfl,rfl⟩) ?_ ?_;rotate_left
             ·simp only [Act.put,List.setIfInBounds_toArray,List.set_cons_zero,List.set_cons_succ,i64_w,i32_w];rfl
             refine pure_ (i:=25) (N:=some 60) (v:=undef) (a':=?_) (pm 26 32) rfl rfl (any_of HT_.out (by kernel_rfl)) (fun _ _ _ h => h) (Or.inr ⟨by rfl,rfl⟩) ?_ ?_;rotate_left
             ·simp only [Act.put,List.setIfInBounds_toArray,List.set_cons_zero,List.set_cons_succ,i64_w,i32_w];rfl
             refine pure_ (i:=26) (N:=some 61) (v:=undef) (a':=?_) (pm 27 32) rfl rfl (any_of HT_.out (by kernel_rfl)) (fun _ _ _ h => h) (Or.inr ⟨by rfl,rfl⟩) ?_ ?_;rotate_left
             ·simp only [Act.put,List.setIfInBounds_toArray,List.set_cons_zero,List.set_cons_succ,i64_w,i32_w];rfl
             refine pure_ (i:=27) (N:=some 62) (v:=undef) (a':=?_) (pm 28 32) rfl rfl (any_of HT_.out (by kernel_rfl)) (fun _ _ _ h => h) (Or.inr ⟨by rfl,rfl⟩) ?_ ?_;rotate_left
             ·simp only [Act.put,List.setIfInBounds_toArray,List.set_cons_zero,List.set_cons_succ,i64_w,i32_w];rfl
             refine pure_ (i:=28) (N:=some 63) (v:=undef) (a':=?_) (pm 29 32) rfl rfl (any_of HT_.out (by kernel_rfl)) (fun _ _ _ h => h) (Or.inr ⟨by rfl,rfl⟩) ?_ ?_;rotate_left
             ·simp only [Act.put,List.setIfInBounds_toArray,List.set_cons_zero,List.set_cons_succ,i64_w,i32_w];rfl
             refine pure_ (i:=29) (N:=some 64) (v:=undef) (a':=?_) (pm 30 32) rfl rfl (any_of HT_.out (by kernel_rfl)) (fun _ _ _ h => h) (Or.inr ⟨by rfl,rfl⟩) ?_ ?_;rotate_left
             ·simp only [Act.put,List.setIfInBounds_toArray,List.set_cons_zero,List.set_cons_succ,i64_w,i32_w];rfl
             refine pure_ (i:=30) (N:=some 65) (v:=?_) (a':=?_) (pm 31 32) rfl rfl (any_of HT_.out (by kernel_rfl)) (fun _ _ _ h => h) (Or.inl ⟨by rfl,?_⟩) ?_ ?_;rotate_left
             ·intro w';go_simp;with_reducible rfl
             rotate_left
             ·simp only [Act.put,List.setIfInBounds_toArray,List.set_cons_zero,List.set_cons_succ,i64_w,i32_w];rfl
             refine pure_ (i:=31) (N:=some 66) (v:=?_) (a':=?_) (pm 32 32) rfl rfl (any_of HT_.out (by kernel_rfl)) (fun _ _ _ h => h) (Or.inl ⟨by rfl,?_⟩) ?_ ?_;rotate_left
             ·intro w';go_simp;with_reducible rfl
             rotate_left
             ·simp only [Act.put,List.setIfInBounds_toArray,List.set_cons_zero,List.set_cons_succ,i64_w,i32_w];rfl
             refine done_ (done_of HT_.out (by kernel_rfl)) ?_
             try go_wp2
             go_roundg k2
             case measure => have:=HJ1.out;have:=HK2.out;omega
             case rel => exact ⟨(wrap64 (x30_2 + 1)),(by first | rfl | (simp;done) | (simp [*];done)),H',⟨by have:=HJ1.out;have:=HK2.out;omega⟩,⟨bk BK220.out⟩,⟨bl2 HB.out GE220.out GE225.out⟩⟩
           ·replace c31:=Bool.eq_false_iff.mpr c31;subst c31;have H1 : (some false) = some r:=by rw [if_neg (show ¬ (false = true) by decide)] at H;exact H
            clear H;have H:=H1;clear H1;obtain rfl:=Option.some.inj H;have p224 : 0 ≤ (x30_2 : Int):=of_decide_eq_true (by first | (with_reducible assumption) | assumption);have q224 : x30_2 < (l0_3.length : Int):=of_decide_eq_true (by first | (with_reducible assumption) | assumption);obtain ⟨ad224,e224,hx224_0,hx224_1,hx224_2⟩:=at_T42 HR0_3.out x30_2 p224 q224
            cases e224
            replace hx224_0:=(HB.out.cell (World.block_lt_of_cell? w _ hx224_0)).trans hx224_0;replace hx224_1:=(HB.out.cell (World.block_lt_of_cell? w _ hx224_1)).trans hx224_1;replace hx224_2:=(HB.out.cell (World.block_lt_of_cell? w _ hx224_2)).trans hx224_2;replace p224:=eq_true p224;replace q224:=eq_true q224
            try go_wp2_with (first | ((with_reducible refine gate_dst (N:=4) rfl ?_);(try (refine gate_guard (by rfl) ?_;dsimp only));refine box_event ?hg (N:=4) ?hd (cs:=#[.string (⟨#[]⟩ : ByteArray),.int .i64 0,.int .i64 0]) (t:=42) ?hr ?_;(case hd => rfl);(case hg => rfl);(case hr => first | (go_simp;done) | (go_simp;rfl));intro gb225 hg w55 hbox hb;have n0_:=Aside0.mk (blk_below (g:=gb220) (o:=.cells #[.string a0_0,.int .i64 a0_1,.int .i64 a0_2,.slice (some ad224) l0_3.length c0_3] 24 (0,0)) (bk BK220.out) hb);have n1_:=Aside0.mk (below_step (bl1 HB.out GE220.out) hb);have n2_:=Aside0.mk (hbox);have n3_:=Aside0.mk ((by rw [hg];exact (below_size (bl1 HB.out GE220.out)) : w.heap.size ≤ gb225));have n4_:=Aside0.mk ((by rw [hg];exact (below_size (bl1 HB.out GE220.out)) : w.heap.size ≤ gb225));have n5_:=Aside0.mk ((by rw [hg];exact Nat.ne_of_lt (blk_lt (g:=gb220) (o:=.cells #[.string a0_0,.int .i64 a0_1,.int .i64 a0_2,.slice (some ad224) l0_3.length c0_3] 24 (0,0)) (bk BK220.out)) : gb220 ≠ gb225));have n6_:=Aside0.mk ((by rw [hg];exact Nat.ne_of_gt (blk_lt (g:=gb220) (o:=.cells #[.string a0_0,.int .i64 a0_1,.int .i64 a0_2,.slice (some ad224) l0_3.length c0_3] 24 (0,0)) (bk BK220.out)) : gb225 ≠ gb220));clear BK220;clear HB;have BK220:=n0_;have HB:=n1_;have BK225:=n2_;have GW225:=n3_;have GE225:=n4_;have NB220_225:=n5_;have NB225_220:=n6_;clear n0_ n1_ n2_ n3_ n4_ n5_ n6_;clear hb hbox hg;have hnb56:=NB225_220.out;have hnc56:=NB220_225.out;have hcz57_0 : w55.cell? ⟨gb225,0,none⟩ = some (.string (⟨#[]⟩ : ByteArray)):=(blk_cell BK225.out 0).trans rfl;have hcz57_1 : w55.cell? ⟨gb225,1,none⟩ = some (.int .i64 0):=(blk_cell BK225.out 1).trans rfl;have hcz57_2 : w55.cell? ⟨gb225,2,none⟩ = some (.int .i64 0):=(blk_cell BK225.out 2).trans rfl;have hfz57_0:=blk_frozen BK225.out 0;have hfz57_1:=blk_frozen BK225.out 1;have hfz57_2:=blk_frozen BK225.out 2))
            have n0_ : Aside0 ((((w55.setCell ⟨gb225,0,none⟩ (.string ((rd_T42 l0_3 x30_2).f0))).setCell ⟨gb225,1,none⟩ (.int .i64 ((rd_T42 l0_3 x30_2).f1))).setCell ⟨gb225,2,none⟩ (.int .i64 ((rd_T42 l0_3 x30_2).f2))).heap[gb220]? = some (.cells #[.string a0_0,.int .i64 a0_1,.int .i64 a0_2,.slice (some ad224) l0_3.length c0_3] 24 (0,0))):=⟨by (with_reducible repeat (first | refine blk_drewN ?_ _ | refine blk_drew ?_ | refine blk_alloc ?_ _));refine blk_far ?_ NB220_225.out _;(with_reducible repeat (first | refine blk_drewN ?_ _ | refine blk_drew ?_ | refine blk_alloc ?_ _));refine blk_far ?_ NB220_225.out _;(with_reducible repeat (first | refine blk_drewN ?_ _ | refine blk_drew ?_ | refine blk_alloc ?_ _));refine blk_far ?_ NB220_225.out _;(with_reducible repeat (first | refine blk_drewN ?_ _ | refine blk_drew ?_ | refine blk_alloc ?_ _));exact BK220.out⟩;have n1_ : Aside0 ((((w55.setCell ⟨gb225,0,none⟩ (.string ((rd_T42 l0_3 x30_2).f0))).setCell ⟨gb225,1,none⟩ (.int .i64 ((rd_T42 l0_3 x30_2).f1))).setCell ⟨gb225,2,none⟩ (.int .i64 ((rd_T42 l0_3 x30_2).f2))).heap[gb225]? = some (.cells #[.string ((rd_T42 l0_3 x30_2).f0),.int .i64 ((rd_T42 l0_3 x30_2).f1),.int .i64 ((rd_T42 l0_3 x30_2).f2)] 42 (0,0))):=⟨by (with_reducible repeat (first | refine blk_drewN ?_ _ | refine blk_drew ?_ | refine blk_alloc ?_ _));refine blk_put (cs:=#[.string ((rd_T42 l0_3 x30_2).f0),.int .i64 ((rd_T42 l0_3 x30_2).f1),.int .i64 0]) ?_ 2 _ rfl;(with_reducible repeat (first | refine blk_drewN ?_ _ | refine blk_drew ?_ | refine blk_alloc ?_ _));refine blk_put (cs:=#[.string ((rd_T42 l0_3 x30_2).f0),.int .i64 0,.int .i64 0]) ?_ 1 _ rfl;(with_reducible repeat (first | refine blk_drewN ?_ _ | refine blk_drew ?_ | refine blk_alloc ?_ _));refine blk_put (cs:=#[.string (⟨#[]⟩ : ByteArray),.int .i64 0,.int .i64 0]) ?_ 0 _ rfl;(with_reducible repeat (first | refine blk_drewN ?_ _ | refine blk_drew ?_ | refine blk_alloc ?_ _));exact BK225.out⟩;have n2_ : Aside0 (Below w.heap.size w (((w55.setCell ⟨gb225,0,none⟩ (.string ((rd_T42 l0_3 x30_2).f0))).setCell ⟨gb225,1,none⟩ (.int .i64 ((rd_T42 l0_3 x30_2).f1))).setCell ⟨gb225,2,none⟩ (.int .i64 ((rd_T42 l0_3 x30_2).f2)))):=⟨bl2 HB.out GE220.out GE225.out⟩;(try clear BK220);(try clear BK225);(try clear HB);generalize (((w55.setCell ⟨gb225,0,none⟩ (.string ((rd_T42 l0_3 x30_2).f0))).setCell ⟨gb225,1,none⟩ (.int .i64 ((rd_T42 l0_3 x30_2).f1))).setCell ⟨gb225,2,none⟩ (.int .i64 ((rd_T42 l0_3 x30_2).f2))) = w58 at n0_ n1_ n2_ ⊢;have BK220:=n0_;have BK225:=n1_;have HB:=n2_;clear n0_ n1_ n2_;replace BK220:=Aside0.mk (blk_drew BK220.out);replace BK225:=Aside0.mk (blk_drew BK225.out);replace HB:=Aside0.mk (below_drew1 HB.out)
            refine start_ (n:=32) (S:=fun w' => w'.cell? ⟨gb225,0,none⟩ = some (.string ((rd_T42 l0_3 x30_2).f0)) ∧ w'.cell? ⟨gb225,1,none⟩ = some (.int .i64 ((rd_T42 l0_3 x30_2).f1)) ∧ w'.cell? ⟨gb225,2,none⟩ = some (.int .i64 ((rd_T42 l0_3 x30_2).f2))) (ds:=[]) (pm 0 32) (by kernel_rfl) rfl rfl ⟨(blk_cell BK225.out 0).trans rfl,(blk_cell BK225.out 1).trans rfl,(blk_cell BK225.out 2).trans rfl⟩ (fun hHeld => ?_);refine with_tabW limits_May.tab6 limits_May.bits6 (fun HT_ HW_ => ?_);generalize w58.drew = w59 at BK220 BK225 HB hHeld ⊢;refine pure_ (i:=0) (N:=some 35) (v:=?_) (a':=?_) (pm 1 32) rfl rfl (any_of HT_.out (by kernel_rfl)) (fun _ _ _ h => h) (Or.inl ⟨by rfl,?_⟩) ?_ ?_;rotate_left
            ·intro w';go_simp;with_reducible rfl
            rotate_left
            ·simp only [Act.put,List.setIfInBounds_toArray,List.set_cons_zero,List.set_cons_succ,i64_w,i32_w];rfl
            refine take_ (i:=1) (N:=some 36) (v:=?_) (a':=?_) (pm 2 32) rfl rfl (take_ofW HT_.out HW_.out (by kernel_rfl)) (fun _ _ _ h => h) (Or.inl ⟨by rfl,?_⟩) hHeld ?_ ?_;rotate_left
            ·rintro w' ⟨s0,s1,s2⟩;go_simp;with_reducible rfl
            rotate_left
            ·simp only [Act.put,List.setIfInBounds_toArray,List.set_cons_zero,List.set_cons_succ,i64_w,i32_w];rfl
            refine one_ (i:=2) (N:=some 37) (pm 3 32) rfl rfl (one_of HT_.out (by kernel_rfl)) (by decide) (fun K hK => ?_);refine goes_ Tryz.func28 (by kernel_rfl) rfl #[.string ((rd_T42 l0_3 x30_2).f0)] (by rfl) rfl rfl (by (try simp only [List.map_toArray,List.map_cons,List.map_nil]);first | done | rfl | (simp only [List.length_drop,List.length_take];rfl)) ?_
            with_reducible refine (scan_Word.calls k2 ((rd_T42 l0_3 x30_2).f0) true _ ?side1 A26.out).mono ?_
            (case side1 => exact Tabs.below HG.out (bl2 HB.out GE220.out GE225.out))
            rintro e w60 ⟨rfl,hb⟩;refine ⟨_,rfl,?_⟩;replace BK220:=Aside0.mk (blk_below (g:=gb220) (o:=.cells #[.string a0_0,.int .i64 a0_1,.int .i64 a0_2,.slice (some ad224) l0_3.length c0_3] 24 (0,0)) (bk BK220.out) hb);replace BK225:=Aside0.mk (blk_below (g:=gb225) (o:=.cells #[.string ((rd_T42 l0_3 x30_2).f0),.int .i64 ((rd_T42 l0_3 x30_2).f1),.int .i64 ((rd_T42 l0_3 x30_2).f2)] 42 (0,0)) (bk BK225.out) hb);replace HB:=Aside0.mk (below_step (bl2 HB.out GE220.out GE225.out) hb);(try clear hb);refine hK.out _ _ ⟨(blk_cell BK225.out 0).trans rfl,(blk_cell BK225.out 1).trans rfl,(blk_cell BK225.out 2).trans rfl⟩ (fun hHeld => ?_);clear hK K;refine norm_ (a':=?_) ?_ ?_;rotate_left
            ·show Act.put _ (some 37) _ = _;simp only [Act.put,List.setIfInBounds_toArray,List.set_cons_zero,List.set_cons_succ,i64_w,i32_w];rfl
            refine pure_ (i:=3) (N:=some 38) (v:=?_) (a':=?_) (pm 4 32) rfl rfl (any_of HT_.out (by kernel_rfl)) (fun _ _ _ h => h) (Or.inl ⟨by rfl,?_⟩) ?_ ?_;rotate_left
            ·intro w';go_simp;with_reducible rfl
            rotate_left
            ·simp only [Act.put,List.setIfInBounds_toArray,List.set_cons_zero,List.set_cons_succ,i64_w,i32_w];rfl
            refine pure_ (i:=4) (N:=some 39) (v:=?_) (a':=?_) (pm 5 32) rfl rfl (any_of HT_.out (by kernel_rfl)) (fun _ _ _ h => h) (Or.inl ⟨by rfl,?_⟩) ?_ ?_;rotate_left
            ·intro w';go_simp;with_reducible rfl
            rotate_left
            ·simp only [Act.put,List.setIfInBounds_toArray,List.set_cons_zero,List.set_cons_succ,i64_w,i32_w];rfl
            refine pure_ (i:=5) (N:=some 40) (v:=?_) (a':=?_) (pm 6 32) rfl rfl (any_of HT_.out (by kernel_rfl)) (fun _ _ _ h => h) (Or.inl ⟨by rfl,?_⟩) ?_ ?_;rotate_left
            ·intro w';go_simp;with_reducible rfl
            rotate_left
            ·simp only [Act.put,List.setIfInBounds_toArray,List.set_cons_zero,List.set_cons_succ,i64_w,i32_w];rfl
            refine take_ (i:=6) (N:=some 41) (v:=?_) (a':=?_) (pm 7 32) rfl rfl (take_ofW HT_.out HW_.out (by kernel_rfl)) (fun _ _ _ h => h) (Or.inl ⟨by rfl,?_⟩) hHeld ?_ ?_;rotate_left
            ·rintro w' ⟨s0,s1,s2⟩;go_simp;with_reducible rfl
            rotate_left
            ·simp only [Act.put,List.setIfInBounds_toArray,List.set_cons_zero,List.set_cons_succ,i64_w,i32_w];rfl
            refine one_ (i:=7) (N:=some 42) (pm 8 32) rfl rfl (one_of HT_.out (by kernel_rfl)) (by decide) (fun K hK => ?_);refine goes_ Tryz.func29 (by kernel_rfl) rfl #[.int .i64 ((rd_T42 l0_3 x30_2).f1),.int .i64 3] (by rfl) rfl rfl (by (try simp only [List.map_toArray,List.map_cons,List.map_nil]);first | done | rfl | (simp only [List.length_drop,List.length_take];rfl)) ?_
            with_reducible refine (limits_within.calls ((rd_T42 l0_3 x30_2).f1) 3 true _ A28.out).mono ?_
            rintro e w' ⟨rfl,⟨nd,rfl⟩⟩;refine ⟨_,rfl,?_⟩;refine hK.out _ _ ⟨(blk_cell BK225.out 0).trans rfl,(blk_cell BK225.out 1).trans rfl,(blk_cell BK225.out 2).trans rfl⟩ (fun hHeld => ?_);clear hK K;refine norm_ (a':=?_) ?_ ?_;rotate_left
            ·show Act.put _ (some 42) _ = _;simp only [Act.put,List.setIfInBounds_toArray,List.set_cons_zero,List.set_cons_succ,i64_w,i32_w];rfl
            refine pure_ (i:=8) (N:=some 43) (v:=?_) (a':=?_) (pm 9 32) rfl rfl (any_of HT_.out (by kernel_rfl)) (fun _ _ _ h => h) (Or.inl ⟨by rfl,?_⟩) ?_ ?_;rotate_left
            ·intro w';go_simp;with_reducible rfl
            rotate_left
            ·simp only [Act.put,List.setIfInBounds_toArray,List.set_cons_zero,List.set_cons_succ,i64_w,i32_w];rfl
            refine pure_ (i:=9) (N:=some 44) (v:=?_) (a':=?_) (pm 10 32) rfl rfl (any_of HT_.out (by kernel_rfl)) (fun _ _ _ h => h) (Or.inl ⟨by rfl,?_⟩) ?_ ?_;rotate_left
            ·intro w';go_simp;with_reducible rfl
            rotate_left
            ·simp only [Act.put,List.setIfInBounds_toArray,List.set_cons_zero,List.set_cons_succ,i64_w,i32_w];rfl
            refine pure_ (i:=10) (N:=some 45) (v:=?_) (a':=?_) (pm 11 32) rfl rfl (any_of HT_.out (by kernel_rfl)) (fun _ _ _ h => h) (Or.inl ⟨by rfl,?_⟩) ?_ ?_;rotate_left
            ·intro w';go_simp;with_reducible rfl
            rotate_left
            ·simp only [Act.put,List.setIfInBounds_toArray,List.set_cons_zero,List.set_cons_succ,i64_w,i32_w];rfl
            refine pure_ (i:=11) (N:=some 46) (v:=?_) (a':=?_) (pm 12 32) rfl rfl (any_of HT_.out (by kernel_rfl)) (fun _ _ _ h => h) (Or.inl ⟨by rfl,?_⟩) ?_ ?_;rotate_left
            ·intro w';go_simp;with_reducible rfl
            rotate_left
            ·simp only [Act.put,List.setIfInBounds_toArray,List.set_cons_zero,List.set_cons_succ,i64_w,i32_w];rfl
            refine take_ (i:=12) (N:=some 47) (v:=?_) (a':=?_) (pm 13 32) rfl rfl (take_ofW HT_.out HW_.out (by kernel_rfl)) (fun _ _ _ h => h) (Or.inl ⟨by rfl,?_⟩) hHeld ?_ ?_;rotate_left
            ·rintro w' ⟨s0,s1,s2⟩;go_simp;with_reducible rfl
            rotate_left
            ·simp only [Act.put,List.setIfInBounds_toArray,List.set_cons_zero,List.set_cons_succ,i64_w,i32_w];rfl
            refine one_ (i:=13) (N:=some 48) (pm 14 32) rfl rfl (one_of HT_.out (by kernel_rfl)) (by decide) (fun K hK => ?_);refine goes_ Tryz.func29 (by kernel_rfl) rfl #[.int .i64 ((rd_T42 l0_3 x30_2).f2),.int .i64 100] (by rfl) rfl rfl (by (try simp only [List.map_toArray,List.map_cons,List.map_nil]);first | done | rfl | (simp only [List.length_drop,List.length_take];rfl)) ?_
            with_reducible refine (limits_within.calls ((rd_T42 l0_3 x30_2).f2) 100 false _ A30.out).mono ?_
            rintro e w' ⟨rfl,⟨nd,rfl⟩⟩;refine ⟨_,rfl,?_⟩;refine hK.out _ _ ⟨(blk_cell BK225.out 0).trans rfl,(blk_cell BK225.out 1).trans rfl,(blk_cell BK225.out 2).trans rfl⟩ (fun hHeld => ?_);clear hK K;refine norm_ (a':=?_) ?_ ?_;rotate_left
            ·show Act.put _ (some 48) _ = _;simp only [Act.put,List.setIfInBounds_toArray,List.set_cons_zero,List.set_cons_succ,i64_w,i32_w];rfl
            refine pure_ (i:=14) (N:=some 49) (v:=?_) (a':=?_) (pm 15 32) rfl rfl (any_of HT_.out (by kernel_rfl)) (fun _ _ _ h => h) (Or.inl ⟨by rfl,?_⟩) ?_ ?_;rotate_left
            ·intro w';go_simp;with_reducible rfl
            rotate_left
            ·simp only [Act.put,List.setIfInBounds_toArray,List.set_cons_zero,List.set_cons_succ,i64_w,i32_w];rfl
            refine pure_ (i:=15) (N:=some 50) (v:=?_) (a':=?_) (pm 16 32) rfl rfl (any_of HT_.out (by kernel_rfl)) (fun _ _ _ h => h) (Or.inl ⟨by rfl,?_⟩) ?_ ?_;rotate_left
            ·intro w';go_simp;with_reducible rfl
            rotate_left
            ·simp only [Act.put,List.setIfInBounds_toArray,List.set_cons_zero,List.set_cons_succ,i64_w,i32_w];rfl
            refine pure_ (i:=16) (N:=some 51) (v:=?_) (a':=?_) (pm 17 32) rfl rfl (any_of HT_.out (by kernel_rfl)) (fun _ _ _ h => h) (Or.inl ⟨by rfl,?_⟩) ?_ ?_;rotate_left
            ·intro w';go_simp;with_reducible rfl
            rotate_left
            ·simp only [Act.put,List.setIfInBounds_toArray,List.set_cons_zero,List.set_cons_succ,i64_w,i32_w];rfl
            refine pure_ (i:=17) (N:=some 52) (v:=undef) (a':=?_) (pm 18 32) rfl rfl (any_of HT_.out (by kernel_rfl)) (fun _ _ _ h => h) (Or.inr ⟨by rfl,rfl⟩) ?_ ?_;rotate_left
            ·simp only [Act.put,List.setIfInBounds_toArray,List.set_cons_zero,List.set_cons_succ,i64_w,i32_w];rfl
            refine pure_ (i:=18) (N:=some 53) (v:=undef) (a':=?_) (pm 19 32) rfl rfl (any_of HT_.out (by kernel_rfl)) (fun _ _ _ h => h) (Or.inr ⟨by rfl,rfl⟩) ?_ ?_;rotate_left
            ·simp only [Act.put,List.setIfInBounds_toArray,List.set_cons_zero,List.set_cons_succ,i64_w,i32_w];rfl
            refine pure_ (i:=19) (N:=some 54) (v:=undef) (a':=?_) (pm 20 32) rfl rfl (any_of HT_.out (by kernel_rfl)) (fun _ _ _ h => h) (Or.inr ⟨by rfl,rfl⟩) ?_ ?_;rotate_left
            ·simp only [Act.put,List.setIfInBounds_toArray,List.set_cons_zero,List.set_cons_succ,i64_w,i32_w];rfl
            refine pure_ (i:=20) (N:=some 55) (v:=undef) (a':=?_) (pm 21 32) rfl rfl (any_of HT_.out (by kernel_rfl)) (fun _ _ _ h => h) (Or.inr ⟨by rfl,rfl⟩) ?_ ?_;rotate_left
            ·simp only [Act.put,List.setIfInBounds_toArray,List.set_cons_zero,List.set_cons_succ,i64_w,i32_w];rfl
            refine pure_ (i:=21) (N:=some 56) (v:=undef) (a':=?_) (pm 22 32) rfl rfl (any_of HT_.out (by kernel_rfl)) (fun _ _ _ h => h) (Or.inr ⟨by rfl,rfl⟩) ?_ ?_;rotate_left
            ·simp only [Act.put,List.setIfInBounds_toArray,List.set_cons_zero,List.set_cons_succ,i64_w,i32_w];rfl
            refine pure_ (i:=22) (N:=some 57) (v:=undef) (a':=?_) (pm 23 32) rfl rfl (any_of HT_.out (by kernel_rfl)) (fun _ _ _ h => h) (Or.inr ⟨by rfl,rfl⟩) ?_ ?_;rotate_left
            ·simp only [Act.put,List.setIfInBounds_toArray,List.set_cons_zero,List.set_cons_succ,i64_w,i32_w];rfl
            refine pure_ (i:=23) (N:=some 58) (v:=undef) (a':=?_) (pm 24 32) rfl rfl (any_of HT_.out (by kernel_rfl)) (fun _ _ _ h => h) (Or.inr ⟨by rfl,rfl⟩) ?_ ?_;rotate_left
            ·simp only [Act.put,List.setIfInBounds_toArray,List.set_cons_zero,List.set_cons_succ,i64_w,i32_w];rfl
            refine pure_ (i:=24) (N:=some 59) (v:=undef) (a':=?_) (pm 25 32) rfl rfl (any_of HT_.out (by kernel_rfl)) (fun _ _ _ h => h) (Or.inr ⟨by rfl,rfl⟩) ?_ ?_;rotate_left
            ·simp only [Act.put,List.setIfInBounds_toArray,List.set_cons_zero,List.set_cons_succ,i64_w,i32_w];rfl
            refine pure_ (i:=25) (N:=some 60) (v:=undef) (a':=?_) (pm 26 32) rfl rfl (any_of HT_.out (by kernel_rfl)) (fun _ _ _ h => h) (Or.inr ⟨by rfl,rfl⟩) ?_ ?_;rotate_left
            ·simp only [Act.put,List.setIfInBounds_toArray,List.set_cons_zero,List.set_cons_succ,i64_w,i32_w];rfl
            refine pure_ (i:=26) (N:=some 61) (v:=undef) (a':=?_) (pm 27 32) rfl rfl (any_of HT_.out (by kernel_rfl)) (fun _ _ _ h => h) (Or.inr ⟨by rfl,rfl⟩) ?_ ?_;rotate_left
            ·simp only [Act.put,List.setIfInBounds_toArray,List.set_cons_zero,List.set_cons_succ,i64_w,i32_w];rfl
            refine pure_ (i:=27) (N:=some 62) (v:=undef) (a':=?_) (pm 28 32) rfl rfl (any_of HT_.out (by kernel_rfl)) (fun _ _ _ h => h) (Or.inr ⟨by rfl,rfl⟩) ?_ ?_;rotate_left
            ·simp only [Act.put,List.setIfInBounds_toArray,List.set_cons_zero,List.set_cons_succ,i64_w,i32_w];rfl
            refine pure_ (i:=28) (N:=some 63) (v:=undef) (a':=?_) (pm 29 32) rfl rfl (any_of HT_.out (by kernel_rfl)) (fun _ _ _ h => h) (Or.inr ⟨by rfl,rfl⟩) ?_ ?_;rotate_left
            ·simp only [Act.put,List.setIfInBounds_toArray,List.set_cons_zero,List.set_cons_succ,i64_w,i32_w];rfl
            refine pure_ (i:=29) (N:=some 64) (v:=undef) (a':=?_) (pm 30 32) rfl rfl (any_of HT_.out (by kernel_rfl)) (fun _ _ _ h => h) (Or.inr ⟨by rfl,rfl⟩) ?_ ?_;rotate_left
            ·simp only [Act.put,List.setIfInBounds_toArray,List.set_cons_zero,List.set_cons_succ,i64_w,i32_w];rfl
            refine pure_ (i:=30) (N:=some 65) (v:=undef) (a':=?_) (pm 31 32) rfl rfl (any_of HT_.out (by kernel_rfl)) (fun _ _ _ h => h) (Or.inr ⟨by rfl,rfl⟩) ?_ ?_;rotate_left
            ·simp only [Act.put,List.setIfInBounds_toArray,List.set_cons_zero,List.set_cons_succ,i64_w,i32_w];rfl
            refine pure_ (i:=31) (N:=some 66) (v:=?_) (a':=?_) (pm 32 32) rfl rfl (any_of HT_.out (by kernel_rfl)) (fun _ _ _ h => h) (Or.inl ⟨by rfl,?_⟩) ?_ ?_;rotate_left
            ·intro w';go_simp;with_reducible rfl
            rotate_left
            ·simp only [Act.put,List.setIfInBounds_toArray,List.set_cons_zero,List.set_cons_succ,i64_w,i32_w];rfl
            refine done_ (done_of HT_.out (by kernel_rfl)) ?_
            try go_wp2
            go_ret
            exact ⟨by first | rfl | (simp [errW_none,errW_some] <;> rfl) | (simp [*,errW_none,errW_some] <;> rfl),bl2 HB.out GE220.out GE225.out⟩
          ·replace c29:=Bool.eq_false_iff.mpr c29;subst c29;have H1 : (some false) = some r:=by rw [if_neg (show ¬ (false = true) by decide)] at H;exact H
           clear H;have H:=H1;clear H1;obtain rfl:=Option.some.inj H;have p224 : 0 ≤ (x30_2 : Int):=of_decide_eq_true (by first | (with_reducible assumption) | assumption);have q224 : x30_2 < (l0_3.length : Int):=of_decide_eq_true (by first | (with_reducible assumption) | assumption);obtain ⟨ad224,e224,hx224_0,hx224_1,hx224_2⟩:=at_T42 HR0_3.out x30_2 p224 q224
           cases e224
           replace hx224_0:=(HB.out.cell (World.block_lt_of_cell? w _ hx224_0)).trans hx224_0;replace hx224_1:=(HB.out.cell (World.block_lt_of_cell? w _ hx224_1)).trans hx224_1;replace hx224_2:=(HB.out.cell (World.block_lt_of_cell? w _ hx224_2)).trans hx224_2;replace p224:=eq_true p224;replace q224:=eq_true q224
           try go_wp2_with (first | ((with_reducible refine gate_dst (N:=4) rfl ?_);(try (refine gate_guard (by rfl) ?_;dsimp only));refine box_event ?hg (N:=4) ?hd (cs:=#[.string (⟨#[]⟩ : ByteArray),.int .i64 0,.int .i64 0]) (t:=42) ?hr ?_;(case hd => rfl);(case hg => rfl);(case hr => first | (go_simp;done) | (go_simp;rfl));intro gb225 hg w61 hbox hb;have n0_:=Aside0.mk (blk_below (g:=gb220) (o:=.cells #[.string a0_0,.int .i64 a0_1,.int .i64 a0_2,.slice (some ad224) l0_3.length c0_3] 24 (0,0)) (bk BK220.out) hb);have n1_:=Aside0.mk (below_step (bl1 HB.out GE220.out) hb);have n2_:=Aside0.mk (hbox);have n3_:=Aside0.mk ((by rw [hg];exact (below_size (bl1 HB.out GE220.out)) : w.heap.size ≤ gb225));have n4_:=Aside0.mk ((by rw [hg];exact (below_size (bl1 HB.out GE220.out)) : w.heap.size ≤ gb225));have n5_:=Aside0.mk ((by rw [hg];exact Nat.ne_of_lt (blk_lt (g:=gb220) (o:=.cells #[.string a0_0,.int .i64 a0_1,.int .i64 a0_2,.slice (some ad224) l0_3.length c0_3] 24 (0,0)) (bk BK220.out)) : gb220 ≠ gb225));have n6_:=Aside0.mk ((by rw [hg];exact Nat.ne_of_gt (blk_lt (g:=gb220) (o:=.cells #[.string a0_0,.int .i64 a0_1,.int .i64 a0_2,.slice (some ad224) l0_3.length c0_3] 24 (0,0)) (bk BK220.out)) : gb225 ≠ gb220));clear BK220;clear HB;have BK220:=n0_;have HB:=n1_;have BK225:=n2_;have GW225:=n3_;have GE225:=n4_;have NB220_225:=n5_;have NB225_220:=n6_;clear n0_ n1_ n2_ n3_ n4_ n5_ n6_;clear hb hbox hg;have hnb62:=NB225_220.out;have hnc62:=NB220_225.out;have hcz63_0 : w61.cell? ⟨gb225,0,none⟩ = some (.string (⟨#[]⟩ : ByteArray)):=(blk_cell BK225.out 0).trans rfl;have hcz63_1 : w61.cell? ⟨gb225,1,none⟩ = some (.int .i64 0):=(blk_cell BK225.out 1).trans rfl;have hcz63_2 : w61.cell? ⟨gb225,2,none⟩ = some (.int .i64 0):=(blk_cell BK225.out 2).trans rfl;have hfz63_0:=blk_frozen BK225.out 0;have hfz63_1:=blk_frozen BK225.out 1;have hfz63_2:=blk_frozen BK225.out 2))
           have n0_ : Aside0 ((((w61.setCell ⟨gb225,0,none⟩ (.string ((rd_T42 l0_3 x30_2).f0))).setCell ⟨gb225,1,none⟩ (.int .i64 ((rd_T42 l0_3 x30_2).f1))).setCell ⟨gb225,2,none⟩ (.int .i64 ((rd_T42 l0_3 x30_2).f2))).heap[gb220]? = some (.cells #[.string a0_0,.int .i64 a0_1,.int .i64 a0_2,.slice (some ad224) l0_3.length c0_3] 24 (0,0))):=⟨by (with_reducible repeat (first | refine blk_drewN ?_ _ | refine blk_drew ?_ | refine blk_alloc ?_ _));refine blk_far ?_ NB220_225.out _;(with_reducible repeat (first | refine blk_drewN ?_ _ | refine blk_drew ?_ | refine blk_alloc ?_ _));refine blk_far ?_ NB220_225.out _;(with_reducible repeat (first | refine blk_drewN ?_ _ | refine blk_drew ?_ | refine blk_alloc ?_ _));refine blk_far ?_ NB220_225.out _;(with_reducible repeat (first | refine blk_drewN ?_ _ | refine blk_drew ?_ | refine blk_alloc ?_ _));exact BK220.out⟩;have n1_ : Aside0 ((((w61.setCell ⟨gb225,0,none⟩ (.string ((rd_T42 l0_3 x30_2).f0))).setCell ⟨gb225,1,none⟩ (.int .i64 ((rd_T42 l0_3 x30_2).f1))).setCell ⟨gb225,2,none⟩ (.int .i64 ((rd_T42 l0_3 x30_2).f2))).heap[gb225]? = some (.cells #[.string ((rd_T42 l0_3 x30_2).f0),.int .i64 ((rd_T42 l0_3 x30_2).f1),.int .i64 ((rd_T42 l0_3 x30_2).f2)] 42 (0,0))):=⟨by (with_reducible repeat (first | refine blk_drewN ?_ _ | refine blk_drew ?_ | refine blk_alloc ?_ _));refine blk_put (cs:=#[.string ((rd_T42 l0_3 x30_2).f0),.int .i64 ((rd_T42 l0_3 x30_2).f1),.int .i64 0]) ?_ 2 _ rfl;(with_reducible repeat (first | refine blk_drewN ?_ _ | refine blk_drew ?_ | refine blk_alloc ?_ _));refine blk_put (cs:=#[.string ((rd_T42 l0_3 x30_2).f0),.int .i64 0,.int .i64 0]) ?_ 1 _ rfl;(with_reducible repeat (first | refine blk_drewN ?_ _ | refine blk_drew ?_ | refine blk_alloc ?_ _));refine blk_put (cs:=#[.string (⟨#[]⟩ : ByteArray),.int .i64 0,.int .i64 0]) ?_ 0 _ rfl;(with_reducible repeat (first | refine blk_drewN ?_ _ | refine blk_drew ?_ | refine blk_alloc ?_ _));exact BK225.out⟩;have n2_ : Aside0 (Below w.heap.size w (((w61.setCell ⟨gb225,0,none⟩ (.string ((rd_T42 l0_3 x30_2).f0))).setCell ⟨gb225,1,none⟩ (.int .i64 ((rd_T42 l0_3 x30_2).f1))).setCell ⟨gb225,2,none⟩ (.int .i64 ((rd_T42 l0_3 x30_2).f2)))):=⟨bl2 HB.out GE220.out GE225.out⟩;(try clear BK220);(try clear BK225);(try clear HB);generalize (((w61.setCell ⟨gb225,0,none⟩ (.string ((rd_T42 l0_3 x30_2).f0))).setCell ⟨gb225,1,none⟩ (.int .i64 ((rd_T42 l0_3 x30_2).f1))).setCell ⟨gb225,2,none⟩ (.int .i64 ((rd_T42 l0_3 x30_2).f2))) = w64 at n0_ n1_ n2_ ⊢;have BK220:=n0_;have BK225:=n1_;have HB:=n2_;clear n0_ n1_ n2_;replace BK220:=Aside0.mk (blk_drew BK220.out);replace BK225:=Aside0.mk (blk_drew BK225.out);replace HB:=Aside0.mk (below_drew1 HB.out)
           refine start_ (n:=32) (S:=fun w' => w'.cell? ⟨gb225,0,none⟩ = some (.string ((rd_T42 l0_3 x30_2).f0)) ∧ w'.cell? ⟨gb225,1,none⟩ = some (.int .i64 ((rd_T42 l0_3 x30_2).f1)) ∧ w'.cell? ⟨gb225,2,none⟩ = some (.int .i64 ((rd_T42 l0_3 x30_2).f2))) (ds:=[]) (pm 0 32) (by kernel_rfl) rfl rfl ⟨(blk_cell BK225.out 0).trans rfl,(blk_cell BK225.out 1).trans rfl,(blk_cell BK225.out 2).trans rfl⟩ (fun hHeld => ?_);refine with_tabW limits_May.tab6 limits_May.bits6 (fun HT_ HW_ => ?_);generalize w64.drew = w65 at BK220 BK225 HB hHeld ⊢;refine pure_ (i:=0) (N:=some 35) (v:=?_) (a':=?_) (pm 1 32) rfl rfl (any_of HT_.out (by kernel_rfl)) (fun _ _ _ h => h) (Or.inl ⟨by rfl,?_⟩) ?_ ?_;rotate_left
           ·intro w';go_simp;with_reducible rfl
           rotate_left
           ·simp only [Act.put,List.setIfInBounds_toArray,List.set_cons_zero,List.set_cons_succ,i64_w,i32_w];rfl
           refine take_ (i:=1) (N:=some 36) (v:=?_) (a':=?_) (pm 2 32) rfl rfl (take_ofW HT_.out HW_.out (by kernel_rfl)) (fun _ _ _ h => h) (Or.inl ⟨by rfl,?_⟩) hHeld ?_ ?_;rotate_left
           ·rintro w' ⟨s0,s1,s2⟩;go_simp;with_reducible rfl
           rotate_left
           ·simp only [Act.put,List.setIfInBounds_toArray,List.set_cons_zero,List.set_cons_succ,i64_w,i32_w];rfl
           refine one_ (i:=2) (N:=some 37) (pm 3 32) rfl rfl (one_of HT_.out (by kernel_rfl)) (by decide) (fun K hK => ?_);refine goes_ Tryz.func28 (by kernel_rfl) rfl #[.string ((rd_T42 l0_3 x30_2).f0)] (by rfl) rfl rfl (by (try simp only [List.map_toArray,List.map_cons,List.map_nil]);first | done | rfl | (simp only [List.length_drop,List.length_take];rfl)) ?_
           with_reducible refine (scan_Word.calls k2 ((rd_T42 l0_3 x30_2).f0) true _ ?side1 A26.out).mono ?_
           (case side1 => exact Tabs.below HG.out (bl2 HB.out GE220.out GE225.out))
           rintro e w66 ⟨rfl,hb⟩;refine ⟨_,rfl,?_⟩;replace BK220:=Aside0.mk (blk_below (g:=gb220) (o:=.cells #[.string a0_0,.int .i64 a0_1,.int .i64 a0_2,.slice (some ad224) l0_3.length c0_3] 24 (0,0)) (bk BK220.out) hb);replace BK225:=Aside0.mk (blk_below (g:=gb225) (o:=.cells #[.string ((rd_T42 l0_3 x30_2).f0),.int .i64 ((rd_T42 l0_3 x30_2).f1),.int .i64 ((rd_T42 l0_3 x30_2).f2)] 42 (0,0)) (bk BK225.out) hb);replace HB:=Aside0.mk (below_step (bl2 HB.out GE220.out GE225.out) hb);(try clear hb);refine hK.out _ _ ⟨(blk_cell BK225.out 0).trans rfl,(blk_cell BK225.out 1).trans rfl,(blk_cell BK225.out 2).trans rfl⟩ (fun hHeld => ?_);clear hK K;refine norm_ (a':=?_) ?_ ?_;rotate_left
           ·show Act.put _ (some 37) _ = _;simp only [Act.put,List.setIfInBounds_toArray,List.set_cons_zero,List.set_cons_succ,i64_w,i32_w];rfl
           refine pure_ (i:=3) (N:=some 38) (v:=?_) (a':=?_) (pm 4 32) rfl rfl (any_of HT_.out (by kernel_rfl)) (fun _ _ _ h => h) (Or.inl ⟨by rfl,?_⟩) ?_ ?_;rotate_left
           ·intro w';go_simp;with_reducible rfl
           rotate_left
           ·simp only [Act.put,List.setIfInBounds_toArray,List.set_cons_zero,List.set_cons_succ,i64_w,i32_w];rfl
           refine pure_ (i:=4) (N:=some 39) (v:=?_) (a':=?_) (pm 5 32) rfl rfl (any_of HT_.out (by kernel_rfl)) (fun _ _ _ h => h) (Or.inl ⟨by rfl,?_⟩) ?_ ?_;rotate_left
           ·intro w';go_simp;with_reducible rfl
           rotate_left
           ·simp only [Act.put,List.setIfInBounds_toArray,List.set_cons_zero,List.set_cons_succ,i64_w,i32_w];rfl
           refine pure_ (i:=5) (N:=some 40) (v:=?_) (a':=?_) (pm 6 32) rfl rfl (any_of HT_.out (by kernel_rfl)) (fun _ _ _ h => h) (Or.inl ⟨by rfl,?_⟩) ?_ ?_;rotate_left
           ·intro w';go_simp;with_reducible rfl
           rotate_left
           ·simp only [Act.put,List.setIfInBounds_toArray,List.set_cons_zero,List.set_cons_succ,i64_w,i32_w];rfl
           refine take_ (i:=6) (N:=some 41) (v:=?_) (a':=?_) (pm 7 32) rfl rfl (take_ofW HT_.out HW_.out (by kernel_rfl)) (fun _ _ _ h => h) (Or.inl ⟨by rfl,?_⟩) hHeld ?_ ?_;rotate_left
           ·rintro w' ⟨s0,s1,s2⟩;go_simp;with_reducible rfl
           rotate_left
           ·simp only [Act.put,List.setIfInBounds_toArray,List.set_cons_zero,List.set_cons_succ,i64_w,i32_w];rfl
           refine one_ (i:=7) (N:=some 42) (pm 8 32) rfl rfl (one_of HT_.out (by kernel_rfl)) (by decide) (fun K hK => ?_);refine goes_ Tryz.func29 (by kernel_rfl) rfl #[.int .i64 ((rd_T42 l0_3 x30_2).f1),.int .i64 3] (by rfl) rfl rfl (by (try simp only [List.map_toArray,List.map_cons,List.map_nil]);first | done | rfl | (simp only [List.length_drop,List.length_take];rfl)) ?_
           with_reducible refine (limits_within.calls ((rd_T42 l0_3 x30_2).f1) 3 false _ A28.out).mono ?_
           rintro e w' ⟨rfl,⟨nd,rfl⟩⟩;refine ⟨_,rfl,?_⟩;refine hK.out _ _ ⟨(blk_cell BK225.out 0).trans rfl,(blk_cell BK225.out 1).trans rfl,(blk_cell BK225.out 2).trans rfl⟩ (fun hHeld => ?_);clear hK K;refine norm_ (a':=?_) ?_ ?_;rotate_left
           ·show Act.put _ (some 42) _ = _;simp only [Act.put,List.setIfInBounds_toArray,List.set_cons_zero,List.set_cons_succ,i64_w,i32_w];rfl
           refine pure_ (i:=8) (N:=some 43) (v:=?_) (a':=?_) (pm 9 32) rfl rfl (any_of HT_.out (by kernel_rfl)) (fun _ _ _ h => h) (Or.inl ⟨by rfl,?_⟩) ?_ ?_;rotate_left
           ·intro w';go_simp;with_reducible rfl
           rotate_left
           ·simp only [Act.put,List.setIfInBounds_toArray,List.set_cons_zero,List.set_cons_succ,i64_w,i32_w];rfl
           refine pure_ (i:=9) (N:=some 44) (v:=?_) (a':=?_) (pm 10 32) rfl rfl (any_of HT_.out (by kernel_rfl)) (fun _ _ _ h => h) (Or.inl ⟨by rfl,?_⟩) ?_ ?_;rotate_left
           ·intro w';go_simp;with_reducible rfl
           rotate_left
           ·simp only [Act.put,List.setIfInBounds_toArray,List.set_cons_zero,List.set_cons_succ,i64_w,i32_w];rfl
           refine pure_ (i:=10) (N:=some 45) (v:=?_) (a':=?_) (pm 11 32) rfl rfl (any_of HT_.out (by kernel_rfl)) (fun _ _ _ h => h) (Or.inl ⟨by rfl,?_⟩) ?_ ?_;rotate_left
           ·intro w';go_simp;with_reducible rfl
           rotate_left
           ·simp only [Act.put,List.setIfInBounds_toArray,List.set_cons_zero,List.set_cons_succ,i64_w,i32_w];rfl
           refine pure_ (i:=11) (N:=some 46) (v:=undef) (a':=?_) (pm 12 32) rfl rfl (any_of HT_.out (by kernel_rfl)) (fun _ _ _ h => h) (Or.inr ⟨by rfl,rfl⟩) ?_ ?_;rotate_left
           ·simp only [Act.put,List.setIfInBounds_toArray,List.set_cons_zero,List.set_cons_succ,i64_w,i32_w];rfl
           refine pure_ (i:=12) (N:=some 47) (v:=undef) (a':=?_) (pm 13 32) rfl rfl (any_of HT_.out (by kernel_rfl)) (fun _ _ _ h => h) (Or.inr ⟨by rfl,rfl⟩) ?_ ?_;rotate_left
           ·simp only [Act.put,List.setIfInBounds_toArray,List.set_cons_zero,List.set_cons_succ,i64_w,i32_w];rfl
           refine pure_ (i:=13) (N:=some 48) (v:=undef) (a':=?_) (pm 14 32) rfl rfl (any_of HT_.out (by kernel_rfl)) (fun _ _ _ h => h) (Or.inr ⟨by rfl,rfl⟩) ?_ ?_;rotate_left
           ·simp only [Act.put,List.setIfInBounds_toArray,List.set_cons_zero,List.set_cons_succ,i64_w,i32_w];rfl
           refine pure_ (i:=14) (N:=some 49) (v:=undef) (a':=?_) (pm 15 32) rfl rfl (any_of HT_.out (by kernel_rfl)) (fun _ _ _ h => h) (Or.inr ⟨by rfl,rfl⟩) ?_ ?_;rotate_left
           ·simp only [Act.put,List.setIfInBounds_toArray,List.set_cons_zero,List.set_cons_succ,i64_w,i32_w];rfl
           refine pure_ (i:=15) (N:=some 50) (v:=?_) (a':=?_) (pm 16 32) rfl rfl (any_of HT_.out (by kernel_rfl)) (fun _ _ _ h => h) (Or.inl ⟨by rfl,?_⟩) ?_ ?_;rotate_left
           ·intro w';go_simp;with_reducible rfl
           rotate_left
           ·simp only [Act.put,List.setIfInBounds_toArray,List.set_cons_zero,List.set_cons_succ,i64_w,i32_w];rfl
           refine pure_ (i:=16) (N:=some 51) (v:=?_) (a':=?_) (pm 17 32) rfl rfl (any_of HT_.out (by kernel_rfl)) (fun _ _ _ h => h) (Or.inl ⟨by rfl,?_⟩) ?_ ?_;rotate_left
           ·intro w';go_simp;with_reducible rfl
           rotate_left
           ·simp only [Act.put,List.setIfInBounds_toArray,List.set_cons_zero,List.set_cons_succ,i64_w,i32_w];rfl
           refine pure_ (i:=17) (N:=some 52) (v:=undef) (a':=?_) (pm 18 32) rfl rfl (any_of HT_.out (by kernel_rfl)) (fun _ _ _ h => h) (Or.inr ⟨by rfl,rfl⟩) ?_ ?_;rotate_left
           ·simp only [Act.put,List.setIfInBounds_toArray,List.set_cons_zero,List.set_cons_succ,i64_w,i32_w];rfl
           refine pure_ (i:=18) (N:=some 53) (v:=undef) (a':=?_) (pm 19 32) rfl rfl (any_of HT_.out (by kernel_rfl)) (fun _ _ _ h => h) (Or.inr ⟨by rfl,rfl⟩) ?_ ?_;rotate_left
           ·simp only [Act.put,List.setIfInBounds_toArray,List.set_cons_zero,List.set_cons_succ,i64_w,i32_w];rfl
           refine pure_ (i:=19) (N:=some 54) (v:=undef) (a':=?_) (pm 20 32) rfl rfl (any_of HT_.out (by kernel_rfl)) (fun _ _ _ h => h) (Or.inr ⟨by rfl,rfl⟩) ?_ ?_;rotate_left
           ·simp only [Act.put,List.setIfInBounds_toArray,List.set_cons_zero,List.set_cons_succ,i64_w,i32_w];rfl
           refine pure_ (i:=20) (N:=some 55) (v:=undef) (a':=?_) (pm 21 32) rfl rfl (any_of HT_.out (by kernel_rfl)) (fun _ _ _ h => h) (Or.inr ⟨by rfl,rfl⟩) ?_ ?_;rotate_left
           ·simp only [Act.put,List.setIfInBounds_toArray,List.set_cons_zero,List.set_cons_succ,i64_w,i32_w];rfl
           refine pure_ (i:=21) (N:=some 56) (v:=undef) (a':=?_) (pm 22 32) rfl rfl (any_of HT_.out (by kernel_rfl)) (fun _ _ _ h => h) (Or.inr ⟨by rfl,rfl⟩) ?_ ?_;rotate_left
           ·simp only [Act.put,List.setIfInBounds_toArray,List.set_cons_zero,List.set_cons_succ,i64_w,i32_w];rfl
           refine pure_ (i:=22) (N:=some 57) (v:=undef) (a':=?_) (pm 23 32) rfl rfl (any_of HT_.out (by kernel_rfl)) (fun _ _ _ h => h) (Or.inr ⟨by rfl,rfl⟩) ?_ ?_;rotate_left
           ·simp only [Act.put,List.setIfInBounds_toArray,List.set_cons_zero,List.set_cons_succ,i64_w,i32_w];rfl
           refine pure_ (i:=23) (N:=some 58) (v:=undef) (a':=?_) (pm 24 32) rfl rfl (any_of HT_.out (by kernel_rfl)) (fun _ _ _ h => h) (Or.inr ⟨by rfl,rfl⟩) ?_ ?_;rotate_left
           ·simp only [Act.put,List.setIfInBounds_toArray,List.set_cons_zero,List.set_cons_succ,i64_w,i32_w];rfl
           refine pure_ (i:=24) (N:=some 59) (v:=undef) (a':=?_) (pm 25 32) rfl rfl (any_of HT_.out (by kernel_rfl)) (fun _ _ _ h => h) (Or.inr ⟨by rfl,rfl⟩) ?_ ?_;rotate_left
           ·simp only [Act.put,List.setIfInBounds_toArray,List.set_cons_zero,List.set_cons_succ,i64_w,i32_w];rfl
           refine pure_ (i:=25) (N:=some 60) (v:=undef) (a':=?_) (pm 26 32) rfl rfl (any_of HT_.out (by kernel_rfl)) (fun _ _ _ h => h) (Or.inr ⟨by rfl,rfl⟩) ?_ ?_;rotate_left
           ·simp only [Act.put,List.setIfInBounds_toArray,List.set_cons_zero,List.set_cons_succ,i64_w,i32_w];rfl
           refine pure_ (i:=26) (N:=some 61) (v:=undef) (a':=?_) (pm 27 32) rfl rfl (any_of HT_.out (by kernel_rfl)) (fun _ _ _ h => h) (Or.inr ⟨by rfl,rfl⟩) ?_ ?_;rotate_left
           ·simp only [Act.put,List.setIfInBounds_toArray,List.set_cons_zero,List.set_cons_succ,i64_w,i32_w];rfl
           refine pure_ (i:=27) (N:=some 62) (v:=undef) (a':=?_) (pm 28 32) rfl rfl (any_of HT_.out (by kernel_rfl)) (fun _ _ _ h => h) (Or.inr ⟨by rfl,rfl⟩) ?_ ?_;rotate_left
           ·simp only [Act.put,List.setIfInBounds_toArray,List.set_cons_zero,List.set_cons_succ,i64_w,i32_w];rfl
           refine pure_ (i:=28) (N:=some 63) (v:=undef) (a':=?_) (pm 29 32) rfl rfl (any_of HT_.out (by kernel_rfl)) (fun _ _ _ h => h) (Or.inr ⟨by rfl,rfl⟩) ?_ ?_;rotate_left
           ·simp only [Act.put,List.setIfInBounds_toArray,List.set_cons_zero,List.set_cons_succ,i64_w,i32_w];rfl
           refine pure_ (i:=29) (N:=some 64) (v:=undef) (a':=?_) (pm 30 32) rfl rfl (any_of HT_.out (by kernel_rfl)) (fun _ _ _ h => h) (Or.inr ⟨by rfl,rfl⟩) ?_ ?_;rotate_left
           ·simp only [Act.put,List.setIfInBounds_toArray,List.set_cons_zero,List.set_cons_succ,i64_w,i32_w];rfl
           refine pure_ (i:=30) (N:=some 65) (v:=undef) (a':=?_) (pm 31 32) rfl rfl (any_of HT_.out (by kernel_rfl)) (fun _ _ _ h => h) (Or.inr ⟨by rfl,rfl⟩) ?_ ?_;rotate_left
           ·simp only [Act.put,List.setIfInBounds_toArray,List.set_cons_zero,List.set_cons_succ,i64_w,i32_w];rfl
           refine pure_ (i:=31) (N:=some 66) (v:=?_) (a':=?_) (pm 32 32) rfl rfl (any_of HT_.out (by kernel_rfl)) (fun _ _ _ h => h) (Or.inl ⟨by rfl,?_⟩) ?_ ?_;rotate_left
           ·intro w';go_simp;with_reducible rfl
           rotate_left
           ·simp only [Act.put,List.setIfInBounds_toArray,List.set_cons_zero,List.set_cons_succ,i64_w,i32_w];rfl
           refine done_ (done_of HT_.out (by kernel_rfl)) ?_
           try go_wp2
           go_ret
           exact ⟨by first | rfl | (simp [errW_none,errW_some] <;> rfl) | (simp [*,errW_none,errW_some] <;> rfl),bl2 HB.out GE220.out GE225.out⟩
         ·replace c27:=Bool.eq_false_iff.mpr c27;subst c27;have H1 : (some false) = some r:=by rw [if_neg (show ¬ (false = true) by decide)] at H;exact H
          clear H;have H:=H1;clear H1;obtain rfl:=Option.some.inj H;have p224 : 0 ≤ (x30_2 : Int):=of_decide_eq_true (by first | (with_reducible assumption) | assumption);have q224 : x30_2 < (l0_3.length : Int):=of_decide_eq_true (by first | (with_reducible assumption) | assumption);obtain ⟨ad224,e224,hx224_0,hx224_1,hx224_2⟩:=at_T42 HR0_3.out x30_2 p224 q224
          cases e224
          replace hx224_0:=(HB.out.cell (World.block_lt_of_cell? w _ hx224_0)).trans hx224_0;replace hx224_1:=(HB.out.cell (World.block_lt_of_cell? w _ hx224_1)).trans hx224_1;replace hx224_2:=(HB.out.cell (World.block_lt_of_cell? w _ hx224_2)).trans hx224_2;replace p224:=eq_true p224;replace q224:=eq_true q224
          try go_wp2_with (first | ((with_reducible refine gate_dst (N:=4) rfl ?_);(try (refine gate_guard (by rfl) ?_;dsimp only));refine box_event ?hg (N:=4) ?hd (cs:=#[.string (⟨#[]⟩ : ByteArray),.int .i64 0,.int .i64 0]) (t:=42) ?hr ?_;(case hd => rfl);(case hg => rfl);(case hr => first | (go_simp;done) | (go_simp;rfl));intro gb225 hg w67 hbox hb;have n0_:=Aside0.mk (blk_below (g:=gb220) (o:=.cells #[.string a0_0,.int .i64 a0_1,.int .i64 a0_2,.slice (some ad224) l0_3.length c0_3] 24 (0,0)) (bk BK220.out) hb);have n1_:=Aside0.mk (below_step (bl1 HB.out GE220.out) hb);have n2_:=Aside0.mk (hbox);have n3_:=Aside0.mk ((by rw [hg];exact (below_size (bl1 HB.out GE220.out)) : w.heap.size ≤ gb225));have n4_:=Aside0.mk ((by rw [hg];exact (below_size (bl1 HB.out GE220.out)) : w.heap.size ≤ gb225));have n5_:=Aside0.mk ((by rw [hg];exact Nat.ne_of_lt (blk_lt (g:=gb220) (o:=.cells #[.string a0_0,.int .i64 a0_1,.int .i64 a0_2,.slice (some ad224) l0_3.length c0_3] 24 (0,0)) (bk BK220.out)) : gb220 ≠ gb225));have n6_:=Aside0.mk ((by rw [hg];exact Nat.ne_of_gt (blk_lt (g:=gb220) (o:=.cells #[.string a0_0,.int .i64 a0_1,.int .i64 a0_2,.slice (some ad224) l0_3.length c0_3] 24 (0,0)) (bk BK220.out)) : gb225 ≠ gb220));clear BK220;clear HB;have BK220:=n0_;have HB:=n1_;have BK225:=n2_;have GW225:=n3_;have GE225:=n4_;have NB220_225:=n5_;have NB225_220:=n6_;clear n0_ n1_ n2_ n3_ n4_ n5_ n6_;clear hb hbox hg;have hnb68:=NB225_220.out;have hnc68:=NB220_225.out;have hcz69_0 : w67.cell? ⟨gb225,0,none⟩ = some (.string (⟨#[]⟩ : ByteArray)):=(blk_cell BK225.out 0).trans rfl;have hcz69_1 : w67.cell? ⟨gb225,1,none⟩ = some (.int .i64 0):=(blk_cell BK225.out 1).trans rfl;have hcz69_2 : w67.cell? ⟨gb225,2,none⟩ = some (.int .i64 0):=(blk_cell BK225.out 2).trans rfl;have hfz69_0:=blk_frozen BK225.out 0;have hfz69_1:=blk_frozen BK225.out 1;have hfz69_2:=blk_frozen BK225.out 2))
          have n0_ : Aside0 ((((w67.setCell ⟨gb225,0,none⟩ (.string ((rd_T42 l0_3 x30_2).f0))).setCell ⟨gb225,1,none⟩ (.int .i64 ((rd_T42 l0_3 x30_2).f1))).setCell ⟨gb225,2,none⟩ (.int .i64 ((rd_T42 l0_3 x30_2).f2))).heap[gb220]? = some (.cells #[.string a0_0,.int .i64 a0_1,.int .i64 a0_2,.slice (some ad224) l0_3.length c0_3] 24 (0,0))):=⟨by (with_reducible repeat (first | refine blk_drewN ?_ _ | refine blk_drew ?_ | refine blk_alloc ?_ _));refine blk_far ?_ NB220_225.out _;(with_reducible repeat (first | refine blk_drewN ?_ _ | refine blk_drew ?_ | refine blk_alloc ?_ _));refine blk_far ?_ NB220_225.out _;(with_reducible repeat (first | refine blk_drewN ?_ _ | refine blk_drew ?_ | refine blk_alloc ?_ _));refine blk_far ?_ NB220_225.out _;(with_reducible repeat (first | refine blk_drewN ?_ _ | refine blk_drew ?_ | refine blk_alloc ?_ _));exact BK220.out⟩;have n1_ : Aside0 ((((w67.setCell ⟨gb225,0,none⟩ (.string ((rd_T42 l0_3 x30_2).f0))).setCell ⟨gb225,1,none⟩ (.int .i64 ((rd_T42 l0_3 x30_2).f1))).setCell ⟨gb225,2,none⟩ (.int .i64 ((rd_T42 l0_3 x30_2).f2))).heap[gb225]? = some (.cells #[.string ((rd_T42 l0_3 x30_2).f0),.int .i64 ((rd_T42 l0_3 x30_2).f1),.int .i64 ((rd_T42 l0_3 x30_2).f2)] 42 (0,0))):=⟨by (with_reducible repeat (first | refine blk_drewN ?_ _ | refine blk_drew ?_ | refine blk_alloc ?_ _));refine blk_put (cs:=#[.string ((rd_T42 l0_3 x30_2).f0),.int .i64 ((rd_T42 l0_3 x30_2).f1),.int .i64 0]) ?_ 2 _ rfl;(with_reducible repeat (first | refine blk_drewN ?_ _ | refine blk_drew ?_ | refine blk_alloc ?_ _));refine blk_put (cs:=#[.string ((rd_T42 l0_3 x30_2).f0),.int .i64 0,.int .i64 0]) ?_ 1 _ rfl;(with_reducible repeat (first | refine blk_drewN ?_ _ | refine blk_drew ?_ | refine blk_alloc ?_ _));refine blk_put (cs:=#[.string (⟨#[]⟩ : ByteArray),.int .i64 0,.int .i64 0]) ?_ 0 _ rfl;(with_reducible repeat (first | refine blk_drewN ?_ _ | refine blk_drew ?_ | refine blk_alloc ?_ _));exact BK225.out⟩;have n2_ : Aside0 (Below w.heap.size w (((w67.setCell ⟨gb225,0,none⟩ (.string ((rd_T42 l0_3 x30_2).f0))).setCell ⟨gb225,1,none⟩ (.int .i64 ((rd_T42 l0_3 x30_2).f1))).setCell ⟨gb225,2,none⟩ (.int .i64 ((rd_T42 l0_3 x30_2).f2)))):=⟨bl2 HB.out GE220.out GE225.out⟩;(try clear BK220);(try clear BK225);(try clear HB);generalize (((w67.setCell ⟨gb225,0,none⟩ (.string ((rd_T42 l0_3 x30_2).f0))).setCell ⟨gb225,1,none⟩ (.int .i64 ((rd_T42 l0_3 x30_2).f1))).setCell ⟨gb225,2,none⟩ (.int .i64 ((rd_T42 l0_3 x30_2).f2))) = w70 at n0_ n1_ n2_ ⊢;have BK220:=n0_;have BK225:=n1_;have HB:=n2_;clear n0_ n1_ n2_;replace BK220:=Aside0.mk (blk_drew BK220.out);replace BK225:=Aside0.mk (blk_drew BK225.out);replace HB:=Aside0.mk (below_drew1 HB.out)
          refine start_ (n:=32) (S:=fun w' => w'.cell? ⟨gb225,0,none⟩ = some (.string ((rd_T42 l0_3 x30_2).f0)) ∧ w'.cell? ⟨gb225,1,none⟩ = some (.int .i64 ((rd_T42 l0_3 x30_2).f1)) ∧ w'.cell? ⟨gb225,2,none⟩ = some (.int .i64 ((rd_T42 l0_3 x30_2).f2))) (ds:=[]) (pm 0 32) (by kernel_rfl) rfl rfl ⟨(blk_cell BK225.out 0).trans rfl,(blk_cell BK225.out 1).trans rfl,(blk_cell BK225.out 2).trans rfl⟩ (fun hHeld => ?_);refine with_tabW limits_May.tab6 limits_May.bits6 (fun HT_ HW_ => ?_);generalize w70.drew = w71 at BK220 BK225 HB hHeld ⊢;refine pure_ (i:=0) (N:=some 35) (v:=?_) (a':=?_) (pm 1 32) rfl rfl (any_of HT_.out (by kernel_rfl)) (fun _ _ _ h => h) (Or.inl ⟨by rfl,?_⟩) ?_ ?_;rotate_left
          ·intro w';go_simp;with_reducible rfl
          rotate_left
          ·simp only [Act.put,List.setIfInBounds_toArray,List.set_cons_zero,List.set_cons_succ,i64_w,i32_w];rfl
          refine take_ (i:=1) (N:=some 36) (v:=?_) (a':=?_) (pm 2 32) rfl rfl (take_ofW HT_.out HW_.out (by kernel_rfl)) (fun _ _ _ h => h) (Or.inl ⟨by rfl,?_⟩) hHeld ?_ ?_;rotate_left
          ·rintro w' ⟨s0,s1,s2⟩;go_simp;with_reducible rfl
          rotate_left
          ·simp only [Act.put,List.setIfInBounds_toArray,List.set_cons_zero,List.set_cons_succ,i64_w,i32_w];rfl
          refine one_ (i:=2) (N:=some 37) (pm 3 32) rfl rfl (one_of HT_.out (by kernel_rfl)) (by decide) (fun K hK => ?_);refine goes_ Tryz.func28 (by kernel_rfl) rfl #[.string ((rd_T42 l0_3 x30_2).f0)] (by rfl) rfl rfl (by (try simp only [List.map_toArray,List.map_cons,List.map_nil]);first | done | rfl | (simp only [List.length_drop,List.length_take];rfl)) ?_
          with_reducible refine (scan_Word.calls k2 ((rd_T42 l0_3 x30_2).f0) false _ ?side1 A26.out).mono ?_
          (case side1 => exact Tabs.below HG.out (bl2 HB.out GE220.out GE225.out))
          rintro e w72 ⟨rfl,hb⟩;refine ⟨_,rfl,?_⟩;replace BK220:=Aside0.mk (blk_below (g:=gb220) (o:=.cells #[.string a0_0,.int .i64 a0_1,.int .i64 a0_2,.slice (some ad224) l0_3.length c0_3] 24 (0,0)) (bk BK220.out) hb);replace BK225:=Aside0.mk (blk_below (g:=gb225) (o:=.cells #[.string ((rd_T42 l0_3 x30_2).f0),.int .i64 ((rd_T42 l0_3 x30_2).f1),.int .i64 ((rd_T42 l0_3 x30_2).f2)] 42 (0,0)) (bk BK225.out) hb);replace HB:=Aside0.mk (below_step (bl2 HB.out GE220.out GE225.out) hb);(try clear hb);refine hK.out _ _ ⟨(blk_cell BK225.out 0).trans rfl,(blk_cell BK225.out 1).trans rfl,(blk_cell BK225.out 2).trans rfl⟩ (fun hHeld => ?_);clear hK K;refine norm_ (a':=?_) ?_ ?_;rotate_left
          ·show Act.put _ (some 37) _ = _;simp only [Act.put,List.setIfInBounds_toArray,List.set_cons_zero,List.set_cons_succ,i64_w,i32_w];rfl
          refine pure_ (i:=3) (N:=some 38) (v:=?_) (a':=?_) (pm 4 32) rfl rfl (any_of HT_.out (by kernel_rfl)) (fun _ _ _ h => h) (Or.inl ⟨by rfl,?_⟩) ?_ ?_;rotate_left
          ·intro w';go_simp;with_reducible rfl
          rotate_left
          ·simp only [Act.put,List.setIfInBounds_toArray,List.set_cons_zero,List.set_cons_succ,i64_w,i32_w];rfl
          refine pure_ (i:=4) (N:=some 39) (v:=?_) (a':=?_) (pm 5 32) rfl rfl (any_of HT_.out (by kernel_rfl)) (fun _ _ _ h => h) (Or.inl ⟨by rfl,?_⟩) ?_ ?_;rotate_left
          ·intro w';go_simp;with_reducible rfl
          rotate_left
          ·simp only [Act.put,List.setIfInBounds_toArray,List.set_cons_zero,List.set_cons_succ,i64_w,i32_w];rfl
          refine pure_ (i:=5) (N:=some 40) (v:=undef) (a':=?_) (pm 6 32) rfl rfl (any_of HT_.out (by kernel_rfl)) (fun _ _ _ h => h) (Or.inr ⟨by rfl,rfl⟩) ?_ ?_;rotate_left
          ·simp only [Act.put,List.setIfInBounds_toArray,List.set_cons_zero,List.set_cons_succ,i64_w,i32_w];rfl
          refine pure_ (i:=6) (N:=some 41) (v:=undef) (a':=?_) (pm 7 32) rfl rfl (any_of HT_.out (by kernel_rfl)) (fun _ _ _ h => h) (Or.inr ⟨by rfl,rfl⟩) ?_ ?_;rotate_left
          ·simp only [Act.put,List.setIfInBounds_toArray,List.set_cons_zero,List.set_cons_succ,i64_w,i32_w];rfl
          refine pure_ (i:=7) (N:=some 42) (v:=undef) (a':=?_) (pm 8 32) rfl rfl (any_of HT_.out (by kernel_rfl)) (fun _ _ _ h => h) (Or.inr ⟨by rfl,rfl⟩) ?_ ?_;rotate_left
          ·simp only [Act.put,List.setIfInBounds_toArray,List.set_cons_zero,List.set_cons_succ,i64_w,i32_w];rfl
          refine pure_ (i:=8) (N:=some 43) (v:=undef) (a':=?_) (pm 9 32) rfl rfl (any_of HT_.out (by kernel_rfl)) (fun _ _ _ h => h) (Or.inr ⟨by rfl,rfl⟩) ?_ ?_;rotate_left
          ·simp only [Act.put,List.setIfInBounds_toArray,List.set_cons_zero,List.set_cons_succ,i64_w,i32_w];rfl
          refine pure_ (i:=9) (N:=some 44) (v:=?_) (a':=?_) (pm 10 32) rfl rfl (any_of HT_.out (by kernel_rfl)) (fun _ _ _ h => h) (Or.inl ⟨by rfl,?_⟩) ?_ ?_;rotate_left
          ·intro w';go_simp;with_reducible rfl
          rotate_left
          ·simp only [Act.put,List.setIfInBounds_toArray,List.set_cons_zero,List.set_cons_succ,i64_w,i32_w];rfl
          refine pure_ (i:=10) (N:=some 45) (v:=?_) (a':=?_) (pm 11 32) rfl rfl (any_of HT_.out (by kernel_rfl)) (fun _ _ _ h => h) (Or.inl ⟨by rfl,?_⟩) ?_ ?_;rotate_left
          ·intro w';go_simp;with_reducible rfl
          rotate_left
          ·simp only [Act.put,List.setIfInBounds_toArray,List.set_cons_zero,List.set_cons_succ,i64_w,i32_w];rfl
          refine pure_ (i:=11) (N:=some 46) (v:=undef) (a':=?_) (pm 12 32) rfl rfl (any_of HT_.out (by kernel_rfl)) (fun _ _ _ h => h) (Or.inr ⟨by rfl,rfl⟩) ?_ ?_;rotate_left
          ·simp only [Act.put,List.setIfInBounds_toArray,List.set_cons_zero,List.set_cons_succ,i64_w,i32_w];rfl
          refine pure_ (i:=12) (N:=some 47) (v:=undef) (a':=?_) (pm 13 32) rfl rfl (any_of HT_.out (by kernel_rfl)) (fun _ _ _ h => h) (Or.inr ⟨by rfl,rfl⟩) ?_ ?_;rotate_left
          ·simp only [Act.put,List.setIfInBounds_toArray,List.set_cons_zero,List.set_cons_succ,i64_w,i32_w];rfl
          refine pure_ (i:=13) (N:=some 48) (v:=undef) (a':=?_) (pm 14 32) rfl rfl (any_of HT_.out (by kernel_rfl)) (fun _ _ _ h => h) (Or.inr ⟨by rfl,rfl⟩) ?_ ?_;rotate_left
          ·simp only [Act.put,List.setIfInBounds_toArray,List.set_cons_zero,List.set_cons_succ,i64_w,i32_w];rfl
          refine pure_ (i:=14) (N:=some 49) (v:=undef) (a':=?_) (pm 15 32) rfl rfl (any_of HT_.out (by kernel_rfl)) (fun _ _ _ h => h) (Or.inr ⟨by rfl,rfl⟩) ?_ ?_;rotate_left
          ·simp only [Act.put,List.setIfInBounds_toArray,List.set_cons_zero,List.set_cons_succ,i64_w,i32_w];rfl
          refine pure_ (i:=15) (N:=some 50) (v:=?_) (a':=?_) (pm 16 32) rfl rfl (any_of HT_.out (by kernel_rfl)) (fun _ _ _ h => h) (Or.inl ⟨by rfl,?_⟩) ?_ ?_;rotate_left
          ·intro w';go_simp;with_reducible rfl
          rotate_left
          ·simp only [Act.put,List.setIfInBounds_toArray,List.set_cons_zero,List.set_cons_succ,i64_w,i32_w];rfl
          refine pure_ (i:=16) (N:=some 51) (v:=?_) (a':=?_) (pm 17 32) rfl rfl (any_of HT_.out (by kernel_rfl)) (fun _ _ _ h => h) (Or.inl ⟨by rfl,?_⟩) ?_ ?_;rotate_left
          ·intro w';go_simp;with_reducible rfl
          rotate_left
          ·simp only [Act.put,List.setIfInBounds_toArray,List.set_cons_zero,List.set_cons_succ,i64_w,i32_w];rfl
          refine pure_ (i:=17) (N:=some 52) (v:=undef) (a':=?_) (pm 18 32) rfl rfl (any_of HT_.out (by kernel_rfl)) (fun _ _ _ h => h) (Or.inr ⟨by rfl,rfl⟩) ?_ ?_;rotate_left
          ·simp only [Act.put,List.setIfInBounds_toArray,List.set_cons_zero,List.set_cons_succ,i64_w,i32_w];rfl
          refine pure_ (i:=18) (N:=some 53) (v:=undef) (a':=?_) (pm 19 32) rfl rfl (any_of HT_.out (by kernel_rfl)) (fun _ _ _ h => h) (Or.inr ⟨by rfl,rfl⟩) ?_ ?_;rotate_left
          ·simp only [Act.put,List.setIfInBounds_toArray,List.set_cons_zero,List.set_cons_succ,i64_w,i32_w];rfl
          refine pure_ (i:=19) (N:=some 54) (v:=undef) (a':=?_) (pm 20 32) rfl rfl (any_of HT_.out (by kernel_rfl)) (fun _ _ _ h => h) (Or.inr ⟨by rfl,rfl⟩) ?_ ?_;rotate_left
          ·simp only [Act.put,List.setIfInBounds_toArray,List.set_cons_zero,List.set_cons_succ,i64_w,i32_w];rfl
          refine pure_ (i:=20) (N:=some 55) (v:=undef) (a':=?_) (pm 21 32) rfl rfl (any_of HT_.out (by kernel_rfl)) (fun _ _ _ h => h) (Or.inr ⟨by rfl,rfl⟩) ?_ ?_;rotate_left
          ·simp only [Act.put,List.setIfInBounds_toArray,List.set_cons_zero,List.set_cons_succ,i64_w,i32_w];rfl
          refine pure_ (i:=21) (N:=some 56) (v:=undef) (a':=?_) (pm 22 32) rfl rfl (any_of HT_.out (by kernel_rfl)) (fun _ _ _ h => h) (Or.inr ⟨by rfl,rfl⟩) ?_ ?_;rotate_left
          ·simp only [Act.put,List.setIfInBounds_toArray,List.set_cons_zero,List.set_cons_succ,i64_w,i32_w];rfl
          refine pure_ (i:=22) (N:=some 57) (v:=undef) (a':=?_) (pm 23 32) rfl rfl (any_of HT_.out (by kernel_rfl)) (fun _ _ _ h => h) (Or.inr ⟨by rfl,rfl⟩) ?_ ?_;rotate_left
          ·simp only [Act.put,List.setIfInBounds_toArray,List.set_cons_zero,List.set_cons_succ,i64_w,i32_w];rfl
          refine pure_ (i:=23) (N:=some 58) (v:=undef) (a':=?_) (pm 24 32) rfl rfl (any_of HT_.out (by kernel_rfl)) (fun _ _ _ h => h) (Or.inr ⟨by rfl,rfl⟩) ?_ ?_;rotate_left
          ·simp only [Act.put,List.setIfInBounds_toArray,List.set_cons_zero,List.set_cons_succ,i64_w,i32_w];rfl
          refine pure_ (i:=24) (N:=some 59) (v:=undef) (a':=?_) (pm 25 32) rfl rfl (any_of HT_.out (by kernel_rfl)) (fun _ _ _ h => h) (Or.inr ⟨by rfl,rfl⟩) ?_ ?_;rotate_left
          ·simp only [Act.put,List.setIfInBounds_toArray,List.set_cons_zero,List.set_cons_succ,i64_w,i32_w];rfl
          refine pure_ (i:=25) (N:=some 60) (v:=undef) (a':=?_) (pm 26 32) rfl rfl (any_of HT_.out (by kernel_rfl)) (fun _ _ _ h => h) (Or.inr ⟨by rfl,rfl⟩) ?_ ?_;rotate_left
          ·simp only [Act.put,List.setIfInBounds_toArray,List.set_cons_zero,List.set_cons_succ,i64_w,i32_w];rfl
          refine pure_ (i:=26) (N:=some 61) (v:=undef) (a':=?_) (pm 27 32) rfl rfl (any_of HT_.out (by kernel_rfl)) (fun _ _ _ h => h) (Or.inr ⟨by rfl,rfl⟩) ?_ ?_;rotate_left
          ·simp only [Act.put,List.setIfInBounds_toArray,List.set_cons_zero,List.set_cons_succ,i64_w,i32_w];rfl
          refine pure_ (i:=27) (N:=some 62) (v:=undef) (a':=?_) (pm 28 32) rfl rfl (any_of HT_.out (by kernel_rfl)) (fun _ _ _ h => h) (Or.inr ⟨by rfl,rfl⟩) ?_ ?_;rotate_left
          ·simp only [Act.put,List.setIfInBounds_toArray,List.set_cons_zero,List.set_cons_succ,i64_w,i32_w];rfl
          refine pure_ (i:=28) (N:=some 63) (v:=undef) (a':=?_) (pm 29 32) rfl rfl (any_of HT_.out (by kernel_rfl)) (fun _ _ _ h => h) (Or.inr ⟨by rfl,rfl⟩) ?_ ?_;rotate_left
          ·simp only [Act.put,List.setIfInBounds_toArray,List.set_cons_zero,List.set_cons_succ,i64_w,i32_w];rfl
          refine pure_ (i:=29) (N:=some 64) (v:=undef) (a':=?_) (pm 30 32) rfl rfl (any_of HT_.out (by kernel_rfl)) (fun _ _ _ h => h) (Or.inr ⟨by rfl,rfl⟩) ?_ ?_;rotate_left
          ·simp only [Act.put,List.setIfInBounds_toArray,List.set_cons_zero,List.set_cons_succ,i64_w,i32_w];rfl
          refine pure_ (i:=30) (N:=some 65) (v:=undef) (a':=?_) (pm 31 32) rfl rfl (any_of HT_.out (by kernel_rfl)) (fun _ _ _ h => h) (Or.inr ⟨by rfl,rfl⟩) ?_ ?_;rotate_left
          ·simp only [Act.put,List.setIfInBounds_toArray,List.set_cons_zero,List.set_cons_succ,i64_w,i32_w];rfl
          refine pure_ (i:=31) (N:=some 66) (v:=?_) (a':=?_) (pm 32 32) rfl rfl (any_of HT_.out (by kernel_rfl)) (fun _ _ _ h => h) (Or.inl ⟨by rfl,?_⟩) ?_ ?_;rotate_left
          ·intro w';go_simp;with_reducible rfl
          rotate_left
          ·simp only [Act.put,List.setIfInBounds_toArray,List.set_cons_zero,List.set_cons_succ,i64_w,i32_w];rfl
          refine done_ (done_of HT_.out (by kernel_rfl)) ?_
          try go_wp2
          go_ret
          exact ⟨by first | rfl | (simp [errW_none,errW_some] <;> rfl) | (simp [*,errW_none,errW_some] <;> rfl),bl2 HB.out GE220.out GE225.out⟩
        ·rw [if_neg c25] at H;exact absurd H (by simp)
       ·rw [if_neg c24] at H;exact absurd H (by simp)
      ·rw [if_neg c23] at H;have c23b0 : decide (x30_2 < (l0_3.length : Int)) = false:=decide_eq_false c23;clear c23;obtain rfl:=Option.some.inj H
       go_wp2
       go_ret
       exact ⟨by first | rfl | (simp [errW_none,errW_some] <;> rfl) | (simp [*,errW_none,errW_some] <;> rfl),bl1 HB.out GE220.out⟩

end Go.Proofs.YtgcmgfljbadljaaGreatDoor.L
