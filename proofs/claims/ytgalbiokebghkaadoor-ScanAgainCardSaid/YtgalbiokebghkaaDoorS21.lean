/- Written by a program of this claim's author (stubprint.py, over the kit's print) out of the translation: Go functions as Lean functions, and that the calls come to them. -/
import Derived.Test.YtgalbiokebghkaaDoorS0
import Derived.Test.YtgalbiokebghkaaDoorS8
import Derived.Test.YtgalbiokebghkaaDoorS9
import Derived.Test.YtgalbiokebghkaaDoorS11
import Derived.Test.YtgalbiokebghkaaDoorS12
import Derived.Test.YtgalbiokebghkaaDoorHandS
namespace Go.Proofs.YtgalbiokebghkaaDoor.S
open Go.RowKit Go.Proofs.YtgalbiokebghkaaDoorW.PrintWords Go.Proofs.YtgalbiokebghkaaDoorW.PrintLast Go.Proofs.YtgalbiokebghkaaDoorW.PrintMore Go.Proofs.YtgalbiokebghkaaDoor.HandS Go.Proofs.YtgalbiokebghkaaDoor.Iter
attribute [local go_sem] max2_int min2_int max_two min_two max_three min_three max_four min_four   -- for this text's walks alone
set_option linter.unusedVariables false
set_option linter.unusedSimpArgs false

/-! ### joustlaw01_ScanAgain: function 5 -/
mutual
def joustlaw01_ScanAgain.j0 : Nat → ByteArray → List Int → List (S48) → Bool → Option (Bool)
 | 0,_,_,_,_ => none
 | k + 1,x0,x1,x5,x24 => if x24 = true then (if (x0.size : Int) > 3000 then ((joustlaw01_lives.f k).bind fun t257 => (some t257)) else (if (x5.length : Int) = 0 then ((joustlaw01_lives.f k).bind fun t258 => (some t258)) else (some false))) else (joustlaw01_ScanAgain.l0 k x1 x5 (⟨#[]⟩ : ByteArray) (x5.length : Int) 0)
def joustlaw01_ScanAgain.l0 : Nat → List Int → List (S48) → ByteArray → Int → Int → Option (Bool)
 | 0,_,_,_,_,_ => none
 | k + 1,x1,x5,x7,x37,x38 => if x38 < x37 then (if x38 < (x1.length : Int) then (if 0 ≤ x38 then (if x38 < (x5.length : Int) then (if x7.size + ((rd_T48 x5 x38).f1).size ≤ 9223372036854775807 then ((some (([(⟨#[32]⟩ : ByteArray),(⟨#[10]⟩ : ByteArray),(⟨#[9,32]⟩ : ByteArray),(⟨#[13,10]⟩ : ByteArray),(⟨#[35,32,123,32,195,169,32,48,48,55,10]⟩ : ByteArray)] : List ByteArray) : List ByteArray)).bind fun y261 => (if 0 ≤ (Int.tmod (rd x1 x38) 5) then (if (Int.tmod (rd x1 x38) 5) < (y261.length : Int) then (if (x7 ++ ((rd_T48 x5 x38).f1)).size + (rdOf ByteArray.empty y261 (Int.tmod (rd x1 x38) 5)).size ≤ 9223372036854775807 then (joustlaw01_ScanAgain.l0 k x1 x5 ((x7 ++ ((rd_T48 x5 x38).f1)) ++ (rdOf ByteArray.empty y261 (Int.tmod (rd x1 x38) 5))) x37 (wrap64 (x38 + 1))) else (none)) else (none)) else (none))) else (none)) else (none)) else (none)) else (if 0 ≤ x38 then (if x38 < (x5.length : Int) then (if x7.size + ((rd_T48 x5 x38).f1).size ≤ 9223372036854775807 then ((some (([(⟨#[32]⟩ : ByteArray),(⟨#[10]⟩ : ByteArray),(⟨#[9,32]⟩ : ByteArray),(⟨#[13,10]⟩ : ByteArray),(⟨#[35,32,123,32,195,169,32,48,48,55,10]⟩ : ByteArray)] : List ByteArray) : List ByteArray)).bind fun y266 => (if 0 ≤ ((0 : Int) % 5) then (if ((0 : Int) % 5) < (y266.length : Int) then (if (x7 ++ ((rd_T48 x5 x38).f1)).size + (rdOf ByteArray.empty y266 ((0 : Int) % 5)).size ≤ 9223372036854775807 then (joustlaw01_ScanAgain.l0 k x1 x5 ((x7 ++ ((rd_T48 x5 x38).f1)) ++ (rdOf ByteArray.empty y266 ((0 : Int) % 5))) x37 (wrap64 (x38 + 1))) else (none)) else (none)) else (none))) else (none)) else (none)) else (none))) else ((scan_Tokens.f k x7).bind fun bt270 => (if bt270.2.1 = 0 then ((joustref00_Tokens.f k x5 bt270.1).bind fun t277 => (if t277 = true then ((joustlaw01_lives.f k).bind fun t278 => (some t278)) else (some false))) else (some false)))
end
def joustlaw01_ScanAgain.f (k : Nat) (a0 : ByteArray) (l1 : List Int) : Option (Bool):=(scan_Tokens.f k a0).bind fun bt250 => (if (a0.size : Int) > 3000 then (joustlaw01_ScanAgain.j0 k a0 l1 bt250.1 true) else (joustlaw01_ScanAgain.j0 k a0 l1 bt250.1 (bt250.2.1 != 0)))
theorem joustlaw01_ScanAgain.mono_l : ∀ k,(∀ y0 y1 y2 y3,LeO (joustlaw01_ScanAgain.j0 k y0 y1 y2 y3) (joustlaw01_ScanAgain.j0 (k + 1) y0 y1 y2 y3)) ∧ (∀ y0 y1 y2 y3 y4,LeO (joustlaw01_ScanAgain.l0 k y0 y1 y2 y3 y4) (joustlaw01_ScanAgain.l0 (k + 1) y0 y1 y2 y3 y4))
 | 0 => ⟨fun _ _ _ _ r h => by simp [joustlaw01_ScanAgain.j0] at h,fun _ _ _ _ _ r h => by simp [joustlaw01_ScanAgain.l0] at h⟩
 | k + 1 => by
  obtain ⟨ih0,ih1⟩:=joustlaw01_ScanAgain.mono_l k
  refine ⟨?_,?_⟩
  ·intro y0 y1 y2 y3
   unfold joustlaw01_ScanAgain.j0
   repeat' first
   | (with_reducible exact ih0 _ _ _ _)
   | (with_reducible exact ih1 _ _ _ _ _)
   | (with_reducible exact joustlaw01_lives.mono _)
   | (with_reducible exact joustref00_Tokens.mono _ _ _)
   | (with_reducible exact scan_Tokens.mono _ _)
   | (with_reducible exact LeO.refl _)
   | (with_reducible exact LeO.none _)
   | (with_reducible refine LeO.ite ?_ ?_)
   | (with_reducible refine LeO.bind ?_ (fun _ => ?_))
   | exact ih0 _ _ _ _
   | exact ih1 _ _ _ _ _
   | exact joustlaw01_lives.mono _
   | exact joustref00_Tokens.mono _ _ _
   | exact scan_Tokens.mono _ _
   | exact LeO.none _
   | refine LeO.ite ?_ ?_
   | refine LeO.bind ?_ (fun _ => ?_)
  ·intro y0 y1 y2 y3 y4
   unfold joustlaw01_ScanAgain.l0
   repeat' first
   | (with_reducible exact ih0 _ _ _ _)
   | (with_reducible exact ih1 _ _ _ _ _)
   | (with_reducible exact joustlaw01_lives.mono _)
   | (with_reducible exact joustref00_Tokens.mono _ _ _)
   | (with_reducible exact scan_Tokens.mono _ _)
   | (with_reducible exact LeO.refl _)
   | (with_reducible exact LeO.none _)
   | (with_reducible refine LeO.ite ?_ ?_)
   | (with_reducible refine LeO.bind ?_ (fun _ => ?_))
   | exact ih0 _ _ _ _
   | exact ih1 _ _ _ _ _
   | exact joustlaw01_lives.mono _
   | exact joustref00_Tokens.mono _ _ _
   | exact scan_Tokens.mono _ _
   | exact LeO.none _
   | refine LeO.ite ?_ ?_
   | refine LeO.bind ?_ (fun _ => ?_)
theorem joustlaw01_ScanAgain.mono : ∀ a0 a1 k,LeO (joustlaw01_ScanAgain.f k a0 a1) (joustlaw01_ScanAgain.f (k + 1) a0 a1):=by
 intro a0 a1 k
 obtain ⟨ih0,ih1⟩:=joustlaw01_ScanAgain.mono_l k
 unfold joustlaw01_ScanAgain.f
 repeat' first
   | (with_reducible exact ih0 _ _ _ _)
   | (with_reducible exact ih1 _ _ _ _ _)
   | (with_reducible exact joustlaw01_lives.mono _)
   | (with_reducible exact joustref00_Tokens.mono _ _ _)
   | (with_reducible exact scan_Tokens.mono _ _)
   | (with_reducible exact LeO.refl _)
   | (with_reducible exact LeO.none _)
   | (with_reducible refine LeO.ite ?_ ?_)
   | (with_reducible refine LeO.bind ?_ (fun _ => ?_))
   | exact ih0 _ _ _ _
   | exact ih1 _ _ _ _ _
   | exact joustlaw01_lives.mono _
   | exact joustref00_Tokens.mono _ _ _
   | exact scan_Tokens.mono _ _
   | exact LeO.none _
   | refine LeO.ite ?_ ?_
   | refine LeO.bind ?_ (fun _ => ?_)
def joustlaw01_ScanAgain.T11 : Bool × List (List Nat × List Nat):=(true,[([],[]),([],[]),([],[]),([1,2],[1,2]),([3],[3]),([4],[4]),([0,5],[0,5]),([],[]),([],[]),([8],[8]),([7,9],[7,9]),([10],[10]),([6,11],[6,11]),([12,0,1,2,3,4,5,6,7,8,9,10,11,12],[0,12])])
def joustlaw01_ScanAgain.B11 : List Nat:=[0,0,0,6,14,30,63,0,0,256,896,1920,4095,8191]
theorem joustlaw01_ScanAgain.tab11 : rtab .any (opsOf Tryd.f5 11) = joustlaw01_ScanAgain.T11:=by kernel_rfl
theorem joustlaw01_ScanAgain.bits11 : waitsOk joustlaw01_ScanAgain.T11.2 joustlaw01_ScanAgain.B11 = true:=by kernel_rfl
set_option maxHeartbeats 8000000 in
set_option maxRecDepth 100000 in
theorem joustlaw01_ScanAgain.calls (k : Nat) (a0 : ByteArray) (A1 : Option Addr) (c1 : Nat) (l1 : List Int) (r : Bool) (w : World) (hr1 : Kd.C (Kd.int .u8) w A1 l1.length l1) (hc1 : l1.length ≤ c1) (hG : Tabs w) (h : joustlaw01_ScanAgain.f k a0 l1 = some r) :
  Calls Tryd.prog 5 #[.string a0,.slice A1 l1.length c1] w fun e w' => e = .returned (.bool r) ∧ Below w.heap.size w w':=by
 have hu39:=Tryd.underlying39
 have HG:=Aside0.mk hG
 clear hG
 have HR1:=Aside0.mk hr1
 have HC1:=Aside0.mk hc1
 clear hr1 hc1
 have HB:=Aside0.mk (Below.refl w.heap.size w)
 have H : ((scan_Tokens.f k a0).bind fun bt250 => (if (a0.size : Int) > 3000 then (joustlaw01_ScanAgain.j0 k a0 l1 bt250.1 true) else (joustlaw01_ScanAgain.j0 k a0 l1 bt250.1 (bt250.2.1 != 0)))) = some r:=h
 clear h
 replace H:=Option.bind_eq_some_iff.mp H
 obtain ⟨⟨t250,t253,t254,t255⟩,A30,H⟩:=H
 replace H : (if (a0.size : Int) > 3000 then (joustlaw01_ScanAgain.j0 k a0 l1 t250 true) else (joustlaw01_ScanAgain.j0 k a0 l1 t250 (t253 != 0))) = some r:=H
 have A3:=Aside0.mk A30
 clear A30
 have HC4:=Aside0.mk H
 clear H
 go_enter Tryd.func5,Tryd.ntmps5
 go_upto_region 2 with (first | ((with_reducible refine gate_callee (f:=15) rfl ?_);refine goesL_ (some 14) rfl rfl Tryd.func15 (by kernel_rfl) rfl #[.string a0] rfl (by (try simp only [List.map_toArray,List.map_cons,List.map_nil]);first | done | rfl | (simp only [List.length_drop,List.length_take];rfl)) ?_;(with_reducible refine (scan_Tokens.calls k a0 t250 t253 t254 t255 _ ?side1 A3.out).mono ?_);(case side1 => exact Tabs.below HG.out (by repeat (first | (with_reducible first | exact HB.out | apply below_alloc | apply pw_below_drewN | apply below_drew1) | exact HB.out)));rintro e w5 ⟨v251,rfl,ho0,hb⟩;refine ⟨_,rfl,?_⟩;have n0_:=Aside0.mk (Kd.R_lower ho0 (below_size (by repeat (first | (with_reducible first | exact HB.out | apply below_alloc | apply pw_below_drewN | apply below_drew1) | exact HB.out))));have n1_:=Aside0.mk (below_step (by repeat (first | (with_reducible first | exact HB.out | apply below_alloc | apply pw_below_drewN | apply below_drew1) | exact HB.out)) hb);clear HB;have HO252:=n0_;have HB:=n1_;clear n0_ n1_;(try clear hb);(try clear hb2);(try clear hk);(try clear hi);(try clear ho0)) | ((with_reducible refine gate_dst (N:=6) rfl ?_);(try (refine gate_guard (by rfl) ?_;dsimp only));refine box_event ?hg (N:=6) ?hd (cs:=#[.int .i64 0,.int .i64 0,.int .i64 0]) (t:=39) ?hr ?_;(case hd => rfl);(case hg => rfl);(case hr => first | (go_simp;done) | (go_simp;rfl));intro gb256 hg w6 hbox hb;have n0_:=Aside0.mk (Kd.R_below (by (with_reducible repeat (first | apply Kd.R_alloc | apply Kd.R_drewN | apply Kd.R_drew));exact HO252.out) hb);have n1_:=Aside0.mk (below_step (by repeat (first | (with_reducible first | exact HB.out | apply below_alloc | apply pw_below_drewN | apply below_drew1) | exact HB.out)) hb);have n2_:=Aside0.mk (hbox);have n3_:=Aside0.mk ((by rw [hg];exact (below_size (by repeat (first | (with_reducible first | exact HB.out | apply below_alloc | apply pw_below_drewN | apply below_drew1) | exact HB.out))) : w.heap.size ≤ gb256));have n4_:=Aside0.mk ((by rw [hg];exact (below_size (by repeat (first | (with_reducible first | exact HB.out | apply below_alloc | apply pw_below_drewN | apply below_drew1) | exact HB.out))) : w.heap.size ≤ gb256));clear HO252;clear HB;have HO252:=n0_;have HB:=n1_;have BK256:=n2_;have GW256:=n3_;have GE256:=n4_;clear n0_ n1_ n2_ n3_ n4_;clear hb hbox hg;have hcz7_0 : w6.cell? ⟨gb256,0,none⟩ = some (.int .i64 0):=(blk_cell BK256.out 0).trans rfl;have hcz7_1 : w6.cell? ⟨gb256,1,none⟩ = some (.int .i64 0):=(blk_cell BK256.out 1).trans rfl;have hcz7_2 : w6.cell? ⟨gb256,2,none⟩ = some (.int .i64 0):=(blk_cell BK256.out 2).trans rfl;have hfz7_0:=blk_frozen BK256.out 0;have hfz7_1:=blk_frozen BK256.out 1;have hfz7_2:=blk_frozen BK256.out 2))
 (try simp only [Act.put,List.setIfInBounds_toArray,List.set_cons_zero,List.set_cons_succ])
 go_cut [24] (fun v24 wc => ∃ (kq : Nat) (x24_3 : Bool),v24 = .bool x24_3 ∧ Aside0 (joustlaw01_ScanAgain.j0 kq a0 l1 t250 x24_3 = some r) ∧ Aside0 (kq ≤ k) ∧ Aside0 (Kd.R k48 48 wc w.heap.size (fun _ => True) v251 t250) ∧ Aside0 (wc.heap[gb256]? = some (.cells #[.int .i64 t253,.int .i64 t254,.int .i64 t255] 39 (0,0))) ∧ Aside0 (Below w.heap.size w wc))
 case first =>
  have H:=HC4.out
  clear HC4
  by_cases c8 : (a0.size : Int) > 3000
  ·rw [if_pos c8] at H
   have c8b0 : decide (3000 < (a0.size : Int)) = true:=decide_eq_true c8
   have c8b1 : decide (3000 < a0.size) = true:=decide_eq_true (by omega)
   clear c8
   (first | rw [c8b0] | (simp only [i64_w,i32_w];rw [c8b0]) | skip)
   have H':=Aside0.mk H
   clear H
   go_wp2
   go_meet
   case rel => exact ⟨_,(true),(by first | rfl | (simp;done) | (simp [*];done)),H',⟨by first | omega | exact Nat.le_refl _⟩,⟨by (with_reducible repeat (first | apply Kd.R_alloc | apply Kd.R_drewN | apply Kd.R_drew));exact Kd.R_mono (Kd.R_far (p:=⟨gb256,2,none⟩) (Kd.R_far (p:=⟨gb256,1,none⟩) (Kd.R_far (p:=⟨gb256,0,none⟩) (Kd.R_types HO252.out BK256.out (by decide)) (fun _ hk => hk.2) (.int .i64 t253)) (fun _ hk => hk.2) (.int .i64 t254)) (fun _ hk => hk.2) (.int .i64 t255)) (fun _ hk => trivial)⟩,⟨by (with_reducible repeat (first | refine blk_drewN ?_ _ | refine blk_drew ?_ | refine blk_alloc ?_ _));refine blk_put (cs:=#[.int .i64 t253,.int .i64 t254,.int .i64 0]) ?_ 2 _ rfl;(with_reducible repeat (first | refine blk_drewN ?_ _ | refine blk_drew ?_ | refine blk_alloc ?_ _));refine blk_put (cs:=#[.int .i64 t253,.int .i64 0,.int .i64 0]) ?_ 1 _ rfl;(with_reducible repeat (first | refine blk_drewN ?_ _ | refine blk_drew ?_ | refine blk_alloc ?_ _));refine blk_put (cs:=#[.int .i64 0,.int .i64 0,.int .i64 0]) ?_ 0 _ rfl;(with_reducible repeat (first | refine blk_drewN ?_ _ | refine blk_drew ?_ | refine blk_alloc ?_ _));exact BK256.out⟩,⟨by repeat (first | (with_reducible first | exact HB.out | apply below_alloc | apply pw_below_drewN | apply below_drew1 | refine below_set ?_ GE256.out) | exact HB.out)⟩⟩
  ·rw [if_neg c8] at H
   have c8b0 : decide (3000 < (a0.size : Int)) = false:=decide_eq_false c8
   have c8b1 : decide (3000 < a0.size) = false:=decide_eq_false (by omega)
   clear c8
   (first | rw [c8b0] | (simp only [i64_w,i32_w];rw [c8b0]) | skip)
   have H':=Aside0.mk H
   clear H
   have hcz9_0 : w6.cell? ⟨gb256,0,none⟩ = some (.int .i64 0):=(blk_cell BK256.out 0).trans rfl
   have hcz9_1 : w6.cell? ⟨gb256,1,none⟩ = some (.int .i64 0):=(blk_cell BK256.out 1).trans rfl
   have hcz9_2 : w6.cell? ⟨gb256,2,none⟩ = some (.int .i64 0):=(blk_cell BK256.out 2).trans rfl
   have hfz9_0:=blk_frozen BK256.out 0
   have hfz9_1:=blk_frozen BK256.out 1
   have hfz9_2:=blk_frozen BK256.out 2
   go_wp2
   go_meet
   case rel => exact ⟨_,((t253 != 0)),(by first | rfl | (simp;done) | (simp [*];done)),H',⟨by first | omega | exact Nat.le_refl _⟩,⟨by (with_reducible repeat (first | apply Kd.R_alloc | apply Kd.R_drewN | apply Kd.R_drew));exact Kd.R_mono (Kd.R_far (p:=⟨gb256,2,none⟩) (Kd.R_far (p:=⟨gb256,1,none⟩) (Kd.R_far (p:=⟨gb256,0,none⟩) (Kd.R_types HO252.out BK256.out (by decide)) (fun _ hk => hk.2) (.int .i64 t253)) (fun _ hk => hk.2) (.int .i64 t254)) (fun _ hk => hk.2) (.int .i64 t255)) (fun _ hk => trivial)⟩,⟨by (with_reducible repeat (first | refine blk_drewN ?_ _ | refine blk_drew ?_ | refine blk_alloc ?_ _));refine blk_put (cs:=#[.int .i64 t253,.int .i64 t254,.int .i64 0]) ?_ 2 _ rfl;(with_reducible repeat (first | refine blk_drewN ?_ _ | refine blk_drew ?_ | refine blk_alloc ?_ _));refine blk_put (cs:=#[.int .i64 t253,.int .i64 0,.int .i64 0]) ?_ 1 _ rfl;(with_reducible repeat (first | refine blk_drewN ?_ _ | refine blk_drew ?_ | refine blk_alloc ?_ _));refine blk_put (cs:=#[.int .i64 0,.int .i64 0,.int .i64 0]) ?_ 0 _ rfl;(with_reducible repeat (first | refine blk_drewN ?_ _ | refine blk_drew ?_ | refine blk_alloc ?_ _));exact BK256.out⟩,⟨by repeat (first | (with_reducible first | exact HB.out | apply below_alloc | apply pw_below_drewN | apply below_drew1 | refine below_set ?_ GE256.out) | exact HB.out)⟩⟩
 case rest =>
  clear HC4
  try clear c1
  try clear p2
  try clear c5
  try clear c8
  try clear c8b0
  try clear c8b1
  try clear hcz7_0
  try clear hcz7_1
  try clear hcz7_2
  try clear hcz9_0
  try clear hcz9_1
  try clear hcz9_2
  try clear hfz7_0
  try clear hfz7_1
  try clear hfz7_2
  try clear hfz9_0
  try clear hfz9_1
  try clear hfz9_2
  obtain ⟨kq,x24_3,rfl,HA,HJ3,HO_5,BK256,HB⟩:=hcut
  cases kq with
  | zero => exact absurd HA.out (by simp [joustlaw01_ScanAgain.j0])
  | succ kj3 =>
   have H:=HA.out
   clear HA
   simp only [joustlaw01_ScanAgain.j0] at H
   by_cases c10 : x24_3 = true
   ·subst c10
    have H1 : (if (a0.size : Int) > 3000 then ((joustlaw01_lives.f kj3).bind fun t257 => (some t257)) else (if (t250.length : Int) = 0 then ((joustlaw01_lives.f kj3).bind fun t258 => (some t258)) else (some false))) = some r:=by rw [if_pos rfl] at H;exact H
    clear H
    have H:=H1
    clear H1
    by_cases c11 : (a0.size : Int) > 3000
    ·rw [if_pos c11] at H
     have c11b0 : decide (3000 < (a0.size : Int)) = true:=decide_eq_true c11
     have c11b1 : decide (3000 < a0.size) = true:=decide_eq_true (by omega)
     clear c11
     replace H:=Option.bind_eq_some_iff.mp H
     obtain ⟨t257,A120,H⟩:=H
     replace H : (some t257) = some r:=H
     have A12:=Aside0.mk A120
     clear A120
     obtain rfl:=Option.some.inj H
     go_wp2_with (first | (go_at_call 14;(with_reducible refine (joustlaw01_lives.calls kj3  t257 _ ?side1 A12.out).mono ?_);(case side1 => exact Tabs.below HG.out (by repeat (first | (with_reducible first | exact HB.out | apply below_alloc | apply pw_below_drewN | apply below_drew1 | refine below_set ?_ GE256.out) | exact HB.out)));rintro e w13 ⟨rfl,hb⟩;have n0_:=Aside0.mk (Kd.R_below (by (with_reducible repeat (first | apply Kd.R_alloc | apply Kd.R_drewN | apply Kd.R_drew));exact HO_5.out) hb);have n1_:=Aside0.mk (blk_below (g:=gb256) (o:=.cells #[.int .i64 t253,.int .i64 t254,.int .i64 t255] 39 (0,0)) (by (with_reducible repeat (first | refine blk_drewN ?_ _ | refine blk_drew ?_ | refine blk_alloc ?_ _));exact BK256.out) hb);have n2_:=Aside0.mk (below_step (by repeat (first | (with_reducible first | exact HB.out | apply below_alloc | apply pw_below_drewN | apply below_drew1 | refine below_set ?_ GE256.out) | exact HB.out)) hb);clear HO_5;clear BK256;clear HB;have HO_5:=n0_;have BK256:=n1_;have HB:=n2_;clear n0_ n1_ n2_;(try clear hb);(try clear hb2);(try clear hk);(try clear hi)))
     go_ret
     exact ⟨by first | rfl | (simp [errW_none,errW_some] <;> rfl) | (simp [*,errW_none,errW_some] <;> rfl),by repeat (first | (with_reducible first | exact HB.out | apply below_alloc | apply pw_below_drewN | apply below_drew1 | refine below_set ?_ GE256.out) | exact HB.out)⟩
    ·rw [if_neg c11] at H
     have c11b0 : decide (3000 < (a0.size : Int)) = false:=decide_eq_false c11
     have c11b1 : decide (3000 < a0.size) = false:=decide_eq_false (by omega)
     clear c11
     by_cases c14 : (t250.length : Int) = 0
     ·rw [if_pos c14] at H
      have c14b0 : ((t250.length : Int) == 0) = true:=beq_iff_eq.mpr c14
      have c14b1 : ((t250.length : Int) != 0) = false:=bne_eq_false_iff_eq.mpr c14
      clear c14
      replace H:=Option.bind_eq_some_iff.mp H
      obtain ⟨t258,A150,H⟩:=H
      replace H : (some t258) = some r:=H
      have A15:=Aside0.mk A150
      clear A150
      obtain rfl:=Option.some.inj H
      obtain ⟨Ao16,co16,eo16⟩:=Kd.R_slice HO_5.out
      subst eo16
      go_wp2_with (first | (go_at_call 14;(with_reducible refine (joustlaw01_lives.calls kj3  t258 _ ?side1 A15.out).mono ?_);(case side1 => exact Tabs.below HG.out (by repeat (first | (with_reducible first | exact HB.out | apply below_alloc | apply pw_below_drewN | apply below_drew1 | refine below_set ?_ GE256.out) | exact HB.out)));rintro e w17 ⟨rfl,hb⟩;have n0_:=Aside0.mk (Kd.R_below (by (with_reducible repeat (first | apply Kd.R_alloc | apply Kd.R_drewN | apply Kd.R_drew));exact HO_5.out) hb);have n1_:=Aside0.mk (blk_below (g:=gb256) (o:=.cells #[.int .i64 t253,.int .i64 t254,.int .i64 t255] 39 (0,0)) (by (with_reducible repeat (first | refine blk_drewN ?_ _ | refine blk_drew ?_ | refine blk_alloc ?_ _));exact BK256.out) hb);have n2_:=Aside0.mk (below_step (by repeat (first | (with_reducible first | exact HB.out | apply below_alloc | apply pw_below_drewN | apply below_drew1 | refine below_set ?_ GE256.out) | exact HB.out)) hb);clear HO_5;clear BK256;clear HB;have HO_5:=n0_;have BK256:=n1_;have HB:=n2_;clear n0_ n1_ n2_;(try clear hb);(try clear hb2);(try clear hk);(try clear hi)))
      go_ret
      exact ⟨by first | rfl | (simp [errW_none,errW_some] <;> rfl) | (simp [*,errW_none,errW_some] <;> rfl),by repeat (first | (with_reducible first | exact HB.out | apply below_alloc | apply pw_below_drewN | apply below_drew1 | refine below_set ?_ GE256.out) | exact HB.out)⟩
     ·rw [if_neg c14] at H
      have c14b0 : ((t250.length : Int) == 0) = false:=beq_eq_false_iff_ne.mpr c14
      have c14b1 : ((t250.length : Int) != 0) = true:=bne_iff_ne.mpr c14
      have c14b2 : ¬ (t250 = []):=fun h_ => c14 (by rw [h_];rfl)
      obtain rfl:=Option.some.inj H
      obtain ⟨Ao18,co18,eo18⟩:=Kd.R_slice HO_5.out
      subst eo18
      go_wp2
      go_ret
      exact ⟨by first | rfl | (simp [errW_none,errW_some] <;> rfl) | (simp [*,errW_none,errW_some] <;> rfl),by repeat (first | (with_reducible first | exact HB.out | apply below_alloc | apply pw_below_drewN | apply below_drew1 | refine below_set ?_ GE256.out) | exact HB.out)⟩
   ·replace c10:=Bool.eq_false_iff.mpr c10
    subst c10
    have H1 : (joustlaw01_ScanAgain.l0 kj3 l1 t250 (⟨#[]⟩ : ByteArray) (t250.length : Int) 0) = some r:=by rw [if_neg (show ¬ (false = true) by decide)] at H;exact H
    clear H
    have H:=H1
    clear H1
    have H':=Aside0.mk H
    clear H
    obtain ⟨Ao19,co19,eo19⟩:=Kd.R_slice HO_5.out
    subst eo19
    go_wp2
    (try simp only [Act.put,List.setIfInBounds_toArray,List.set_cons_zero,List.set_cons_succ])
    go_loopg [7,38] kj3 (fun kq v7 v38 w' => ∃ (x7_2 : ByteArray) (x38_2 : Int),v7 = .string x7_2 ∧ v38 = .int .i64 x38_2 ∧ Aside0 (joustlaw01_ScanAgain.l0 kq l1 t250 x7_2 (t250.length : Int) x38_2 = some r) ∧ Aside0 (kq ≤ kj3) ∧ Aside0 (Kd.R k48 48 w' w.heap.size (fun _ => True) (.slice Ao19 t250.length co19) t250) ∧ Aside0 (w'.heap[gb256]? = some (.cells #[.int .i64 t253,.int .i64 t254,.int .i64 t255] 39 (0,0))) ∧ Aside0 (Below w.heap.size w w'))
    case atStart => exact ⟨((⟨#[]⟩ : ByteArray)),(0),(by first | rfl | (simp;done) | (simp [*];done)),(by first | rfl | (simp;done) | (simp [*];done)),H',⟨Nat.le_refl _⟩,⟨by (with_reducible repeat (first | apply Kd.R_alloc | apply Kd.R_drewN | apply Kd.R_drew));exact HO_5.out⟩,⟨by (with_reducible repeat (first | refine blk_drewN ?_ _ | refine blk_drew ?_ | refine blk_alloc ?_ _));exact BK256.out⟩,⟨by repeat (first | (with_reducible first | exact HB.out | apply below_alloc | apply pw_below_drewN | apply below_drew1 | refine below_set ?_ GE256.out) | exact HB.out)⟩⟩
    case round =>
     clear H'
     try clear c1
     try clear p2
     try clear c5
     try clear c8
     try clear c8b0
     try clear c8b1
     try clear c10
     try clear c11
     try clear c11b0
     try clear c11b1
     try clear c14
     try clear c14b0
     try clear c14b1
     try clear c14b2
     try clear c15
     try clear hcz7_0
     try clear hcz7_1
     try clear hcz7_2
     try clear hcz9_0
     try clear hcz9_1
     try clear hcz9_2
     try clear hfz7_0
     try clear hfz7_1
     try clear hfz7_2
     try clear hfz9_0
     try clear hfz9_1
     try clear hfz9_2
     try clear p2
     obtain ⟨x7_2,x38_2,rfl,rfl,HA,HK2,HO_5,BK256,HB⟩:=hrel
     cases gk with
     | zero => exact absurd HA.out (by simp [joustlaw01_ScanAgain.l0])
     | succ k2 =>
      have H:=HA.out
      clear HA
      simp only [joustlaw01_ScanAgain.l0] at H
      by_cases c20 : x38_2 < (t250.length : Int)
      ·rw [if_pos c20] at H
       have c20b0 : decide (x38_2 < (t250.length : Int)) = true:=decide_eq_true c20
       clear c20
       by_cases c21 : x38_2 < (l1.length : Int)
       ·rw [if_pos c21] at H
        have c21b0 : decide (x38_2 < (l1.length : Int)) = true:=decide_eq_true c21
        clear c21
        by_cases c22 : 0 ≤ x38_2
        ·rw [if_pos c22] at H
         have c22b0 : decide (0 ≤ x38_2) = true:=decide_eq_true c22
         clear c22
         by_cases c23 : x38_2 < (t250.length : Int)
         ·rw [if_pos c23] at H
          have c23b0 : decide (x38_2 < (t250.length : Int)) = true:=decide_eq_true c23
          clear c23
          by_cases c24 : x7_2.size + ((rd_T48 t250 x38_2).f1).size ≤ 9223372036854775807
          ·rw [if_pos c24] at H
           have c24b0:=eq_true c24
           have c24b1 : decide (x7_2.size + ((rd_T48 t250 x38_2).f1).size ≤ 9223372036854775807) = true:=decide_eq_true c24
           try have c24b2 : (9223372036854775807 < x7_2.size + ((rd_T48 t250 x38_2).f1).size) = False:=eq_false (Nat.not_lt.2 c24)
           obtain ⟨y261,hy261⟩ : ∃ y_ : List ByteArray,y_ = (([(⟨#[32]⟩ : ByteArray),(⟨#[10]⟩ : ByteArray),(⟨#[9,32]⟩ : ByteArray),(⟨#[13,10]⟩ : ByteArray),(⟨#[35,32,123,32,195,169,32,48,48,55,10]⟩ : ByteArray)] : List ByteArray)):=⟨_,rfl⟩
           replace H : (if 0 ≤ (Int.tmod (rd l1 x38_2) 5) then (if (Int.tmod (rd l1 x38_2) 5) < (y261.length : Int) then (if (x7_2 ++ ((rd_T48 t250 x38_2).f1)).size + (rdOf ByteArray.empty y261 (Int.tmod (rd l1 x38_2) 5)).size ≤ 9223372036854775807 then (joustlaw01_ScanAgain.l0 k2 l1 t250 ((x7_2 ++ ((rd_T48 t250 x38_2).f1)) ++ (rdOf ByteArray.empty y261 (Int.tmod (rd l1 x38_2) 5))) (t250.length : Int) (wrap64 (x38_2 + 1))) else (none)) else (none)) else (none)) = some r:=by first | (rw [hy261];with_reducible exact H) | (have H2_:=(Option.bind_some _ _).symm.trans H;rw [hy261];with_reducible exact H2_) | (have H2_:=(Option.bind_some _ _).symm.trans H;with_reducible exact H2_) | with_reducible exact H | (rw [hy261];exact H) | exact H
           have Ny261:=Aside0.mk hy261
           clear hy261
           obtain ⟨ji25,hji25⟩ : ∃ j_ : Int,(Int.tmod (rd l1 x38_2) 5) = j_:=⟨_,rfl⟩
           replace H : (if 0 ≤ (ji25) then (if (ji25) < (y261.length : Int) then (if (x7_2 ++ ((rd_T48 t250 x38_2).f1)).size + (rdOf ByteArray.empty y261 (ji25)).size ≤ 9223372036854775807 then (joustlaw01_ScanAgain.l0 k2 l1 t250 ((x7_2 ++ ((rd_T48 t250 x38_2).f1)) ++ (rdOf ByteArray.empty y261 (ji25))) (t250.length : Int) (wrap64 (x38_2 + 1))) else (none)) else (none)) else (none)) = some r:=by first | (rw [hji25] at H;exact H) | (simp only [hji25] at H ⊢;exact H)
           by_cases c26 : 0 ≤ (ji25)
           ·rw [if_pos c26] at H
            have c26b0 : decide (0 ≤ (ji25)) = true:=decide_eq_true c26
            clear c26
            by_cases c27 : (ji25) < (y261.length : Int)
            ·rw [if_pos c27] at H
             have c27b0 : decide ((ji25) < (y261.length : Int)) = true:=decide_eq_true c27
             clear c27
             by_cases c28 : (x7_2 ++ ((rd_T48 t250 x38_2).f1)).size + (rdOf ByteArray.empty y261 (ji25)).size ≤ 9223372036854775807
             ·rw [if_pos c28] at H
              have c28b0:=eq_true c28
              try (have c28n:=c28;simp only [ByteArray.size_append] at c28n;have c28m:=eq_true c28n;have c28q:=eq_false (Nat.not_lt.2 c28n))
              have c28b1 : decide ((x7_2 ++ ((rd_T48 t250 x38_2).f1)).size + (rdOf ByteArray.empty y261 (ji25)).size ≤ 9223372036854775807) = true:=decide_eq_true c28
              try have c28b2 : (9223372036854775807 < (x7_2 ++ ((rd_T48 t250 x38_2).f1)).size + (rdOf ByteArray.empty y261 (ji25)).size) = False:=eq_false (Nat.not_lt.2 c28)
              have H':=Aside0.mk H
              clear H
              have p259 : 0 ≤ (x38_2 : Int):=of_decide_eq_true (by first | (with_reducible assumption) | assumption)
              have q259 : x38_2 < (l1.length : Int):=of_decide_eq_true (by first | (with_reducible assumption) | assumption)
              obtain ⟨ad259,e259,hx259_0⟩:=Kd.at_int HR1.out x38_2 p259 q259
              cases e259
              replace hx259_0:=(HB.out.cell (World.block_lt_of_cell? w _ hx259_0)).trans hx259_0
              replace p259:=eq_true p259
              replace q259:=eq_true q259
              try go_wp2
              have pi264 : (0 ≤ ((ji25) : Int)) = True:=eq_true (of_decide_eq_true (by first | (with_reducible assumption) | assumption))
              have qi264 : ((ji25) < (y261.length : Int)) = True:=eq_true (of_decide_eq_true (by first | (with_reducible assumption) | assumption))
              have n0_:=Aside0.mk (Kd.R_drew HO_5.out)
              have n1_:=Aside0.mk (blk_drew BK256.out)
              have n2_:=Aside0.mk (below_drew1 HB.out)
              clear HO_5
              clear BK256
              clear HB
              have HO_5:=n0_
              have BK256:=n1_
              have HB:=n2_
              clear n0_ n1_ n2_
              have p260 : 0 ≤ (x38_2 : Int):=of_decide_eq_true (by first | (with_reducible assumption) | assumption)
              have q260 : x38_2 < (t250.length : Int):=of_decide_eq_true (by first | (with_reducible assumption) | assumption)
              obtain ⟨ad260,e260,hx260_0,hx260_1,hx260_2,hx260_3⟩:=at_T48 (Kd.R_reads' HO_5.out).2.2 x38_2 p260 q260
              cases e260
              replace p260:=eq_true p260
              replace q260:=eq_true q260
              refine start_ (n:=14) (S:=fun w' => w'.cell? (ad260.add ((x38_2).toNat * 4)) = some (.int .u8 ((rd_T48 t250 x38_2).f0)) ∧ w'.cell? ⟨(ad260.add ((x38_2).toNat * 4)).block,(ad260.add ((x38_2).toNat * 4)).off + 1,none⟩ = some (.string ((rd_T48 t250 x38_2).f1)) ∧ w'.cell? ⟨(ad260.add ((x38_2).toNat * 4)).block,(ad260.add ((x38_2).toNat * 4)).off + 2,none⟩ = some (.int .i64 ((rd_T48 t250 x38_2).f2.f0)) ∧ w'.cell? ⟨(ad260.add ((x38_2).toNat * 4)).block,(ad260.add ((x38_2).toNat * 4)).off + 3,none⟩ = some (.int .i64 ((rd_T48 t250 x38_2).f2.f1))) (ds:=[]) #[false,false,false,false,false,false,false,false,false,false,false,false,false,false] (by kernel_rfl) rfl rfl ⟨hx260_0,hx260_1,hx260_2,hx260_3⟩ (fun hHeld => ?_);refine with_tabW joustlaw01_ScanAgain.tab11 joustlaw01_ScanAgain.bits11 (fun HT_ HW_ => ?_)
              generalize wr.drew = w29 at HO_5 BK256 HB hx260_0 hx260_1 hx260_2 hx260_3 hHeld ⊢
              refine pure_ (i:=0) (N:=some 49) (v:=?_) (a':=?_) #[true,false,false,false,false,false,false,false,false,false,false,false,false,false] rfl rfl (any_of HT_.out (by kernel_rfl)) (fun _ _ _ h => h) (Or.inl ⟨by rfl,?_⟩) ?_ ?_
              rotate_left
              ·intro w'
               go_simp
               with_reducible rfl
              rotate_left
              ·simp only [Act.put,List.setIfInBounds_toArray,List.set_cons_zero,List.set_cons_succ,i64_w,i32_w]
               rfl
              refine pure_ (i:=1) (N:=some 50) (v:=?_) (a':=?_) #[true,true,false,false,false,false,false,false,false,false,false,false,false,false] rfl rfl (any_of HT_.out (by kernel_rfl)) (fun _ _ _ h => h) (Or.inl ⟨by rfl,?_⟩) ?_ ?_
              rotate_left
              ·intro w'
               go_simp
               with_reducible rfl
              rotate_left
              ·simp only [Act.put,List.setIfInBounds_toArray,List.set_cons_zero,List.set_cons_succ,i64_w,i32_w]
               rfl
              refine pure_ (i:=2) (N:=some 51) (v:=?_) (a':=?_) #[true,true,true,false,false,false,false,false,false,false,false,false,false,false] rfl rfl (any_of HT_.out (by kernel_rfl)) (fun _ _ _ h => h) (Or.inl ⟨by rfl,?_⟩) ?_ ?_
              rotate_left
              ·intro w'
               go_simp
               with_reducible rfl
              rotate_left
              ·simp only [Act.put,List.setIfInBounds_toArray,List.set_cons_zero,List.set_cons_succ,i64_w,i32_w]
               rfl
              refine pure_ (i:=3) (N:=some 52) (v:=?_) (a':=?_) #[true,true,true,true,false,false,false,false,false,false,false,false,false,false] rfl rfl (any_of HT_.out (by kernel_rfl)) (fun _ _ _ h => h) (Or.inl ⟨by rfl,?_⟩) ?_ ?_
              rotate_left
              ·intro w'
               go_simp
               with_reducible rfl
              rotate_left
              ·simp only [Act.put,List.setIfInBounds_toArray,List.set_cons_zero,List.set_cons_succ,i64_w,i32_w]
               rfl
              refine pure_ (i:=4) (N:=some 53) (v:=?_) (a':=?_) #[true,true,true,true,true,false,false,false,false,false,false,false,false,false] rfl rfl (any_of HT_.out (by kernel_rfl)) (fun _ _ _ h => h) (Or.inl ⟨by rfl,?_⟩) ?_ ?_
              rotate_left
              ·intro w'
               go_simp
               with_reducible rfl
              rotate_left
              ·simp only [Act.put,List.setIfInBounds_toArray,List.set_cons_zero,List.set_cons_succ,i64_w,i32_w]
               rfl
              refine pure_ (i:=8) (N:=some 57) (v:=?_) (a':=?_) #[true,true,true,true,true,false,false,false,true,false,false,false,false,false] rfl rfl (any_of HT_.out (by kernel_rfl)) (fun _ _ _ h => h) (Or.inl ⟨by rfl,?_⟩) ?_ ?_
              rotate_left
              ·intro w'
               go_simp
               with_reducible rfl
              rotate_left
              ·simp only [Act.put,List.setIfInBounds_toArray,List.set_cons_zero,List.set_cons_succ,i64_w,i32_w]
               rfl
              refine pure_ (i:=9) (N:=some 58) (v:=?_) (a':=?_) #[true,true,true,true,true,false,false,false,true,true,false,false,false,false] rfl rfl (any_of HT_.out (by kernel_rfl)) (fun _ _ _ h => h) (Or.inl ⟨by rfl,?_⟩) ?_ ?_
              rotate_left
              ·intro w'
               go_simp
               with_reducible rfl
              rotate_left
              ·simp only [Act.put,List.setIfInBounds_toArray,List.set_cons_zero,List.set_cons_succ,i64_w,i32_w]
               rfl
              refine take_ (i:=5) (N:=some 54) (v:=?_) (a':=?_) #[true,true,true,true,true,true,false,false,true,true,false,false,false,false] rfl rfl (take_ofW HT_.out HW_.out (by kernel_rfl)) (fun _ _ _ h => h) (Or.inl ⟨by rfl,?_⟩) hHeld ?_ ?_
              rotate_left
              ·rintro w' ⟨s0,s1,s2,s3⟩
               go_simp
               with_reducible rfl
              rotate_left
              ·simp only [Act.put,List.setIfInBounds_toArray,List.set_cons_zero,List.set_cons_succ,i64_w,i32_w]
               rfl
              refine pure_ (i:=6) (N:=some 55) (v:=?_) (a':=?_) #[true,true,true,true,true,true,true,false,true,true,false,false,false,false] rfl rfl (any_of HT_.out (by kernel_rfl)) (fun _ _ _ h => h) (Or.inl ⟨by rfl,?_⟩) ?_ ?_
              rotate_left
              ·intro w'
               go_simp
               with_reducible rfl
              rotate_left
              ·simp only [Act.put,List.setIfInBounds_toArray,List.set_cons_zero,List.set_cons_succ,i64_w,i32_w]
               rfl
              refine one_ (i:=7) (N:=some 56) #[true,true,true,true,true,true,true,true,true,true,false,false,false,false] rfl rfl (one_of HT_.out (by kernel_rfl)) (by decide) (fun K hK => ?_)
              refine Kd.R_lit_step Kd.string _ 9 ?hg (N:=56) ?hd (xs:=([(⟨#[32]⟩ : ByteArray),(⟨#[10]⟩ : ByteArray),(⟨#[9,32]⟩ : ByteArray),(⟨#[13,10]⟩ : ByteArray),(⟨#[35,32,123,32,195,169,32,48,48,55,10]⟩ : ByteArray)] : List ByteArray)) (inner:=[.string (⟨#[32]⟩ : ByteArray),.string (⟨#[10]⟩ : ByteArray),.string (⟨#[9,32]⟩ : ByteArray),.string (⟨#[13,10]⟩ : ByteArray),.string (⟨#[35,32,123,32,195,169,32,48,48,55,10]⟩ : ByteArray)]) (ok:=fun _ => True) (okp:=fun _ => True) ?hr ?hp (fun _ hk => hk) trivial (Below.refl _ _) (Nat.le_refl _) (by simp) ?_;(case hd => rfl);(case hg => rfl);(case hr => first | (go_simp;done) | (go_simp;rfl));(case hp => exact (Reps.one (show Kd.M Kd.string _ _ _ (⟨#[32]⟩ : ByteArray) [.string (⟨#[32]⟩ : ByteArray)] from rfl) (Reps.one (show Kd.M Kd.string _ _ _ (⟨#[10]⟩ : ByteArray) [.string (⟨#[10]⟩ : ByteArray)] from rfl) (Reps.one (show Kd.M Kd.string _ _ _ (⟨#[9,32]⟩ : ByteArray) [.string (⟨#[9,32]⟩ : ByteArray)] from rfl) (Reps.one (show Kd.M Kd.string _ _ _ (⟨#[13,10]⟩ : ByteArray) [.string (⟨#[13,10]⟩ : ByteArray)] from rfl) (Reps.one (show Kd.M Kd.string _ _ _ (⟨#[35,32,123,32,195,169,32,48,48,55,10]⟩ : ByteArray) [.string (⟨#[35,32,123,32,195,169,32,48,48,55,10]⟩ : ByteArray)] from rfl) (Reps.none _ _)))))))
              intro v262 w30 ho31 hb hg_ hnew_
              have HS0_:=(hb.cell (World.block_lt_of_cell? _ _ (hHeld.1))).trans (hHeld.1)
              have HS1_:=(hb.cell (World.block_lt_of_cell? _ _ (hHeld.2.1))).trans (hHeld.2.1)
              have HS2_:=(hb.cell (World.block_lt_of_cell? _ _ (hHeld.2.2.1))).trans (hHeld.2.2.1)
              have HS3_:=(hb.cell (World.block_lt_of_cell? _ _ (hHeld.2.2.2))).trans (hHeld.2.2.2)
              clear hg_ hnew_
              (first | rw [← Ny261.out] at ho31 | (simp only [Int.reduceToNat] at ho31;rw [← Ny261.out] at ho31))
              have n0_:=Aside0.mk (Kd.R_below (by (with_reducible repeat (first | apply Kd.R_alloc | apply Kd.R_drewN | apply Kd.R_drew));exact HO_5.out) hb)
              have n1_:=Aside0.mk (Kd.R_lower ho31 (below_size (by repeat (first | (with_reducible first | exact HB.out | apply below_alloc | apply pw_below_drewN | apply below_drew1 | refine below_set ?_ GE256.out) | exact HB.out))))
              have n2_:=Aside0.mk (blk_below (g:=gb256) (o:=.cells #[.int .i64 t253,.int .i64 t254,.int .i64 t255] 39 (0,0)) (by (with_reducible repeat (first | refine blk_drewN ?_ _ | refine blk_drew ?_ | refine blk_alloc ?_ _));exact BK256.out) hb)
              have n3_:=Aside0.mk (below_step (by repeat (first | (with_reducible first | exact HB.out | apply below_alloc | apply pw_below_drewN | apply below_drew1 | refine below_set ?_ GE256.out) | exact HB.out)) hb)
              clear HO_5
              clear BK256
              clear HB
              have HO_5:=n0_
              have HO263:=n1_
              have BK256:=n2_
              have HB:=n3_
              clear n0_ n1_ n2_ n3_
              clear hb ho31
              obtain ⟨Ao32,co32,eo32⟩:=Kd.R_slice HO263.out
              subst eo32
              obtain ⟨ado32,fo32,_⟩:=Kd.at_string (Kd.R_reads' HO263.out).2.2 0 (by decide) (by rw [Ny261.out];simp)
              cases fo32
              refine hK.out _ _ ⟨HS0_,HS1_,HS2_,HS3_⟩ (fun hHeld => ?_)
              clear hK K
              refine norm_ (a':=?_) ?_ ?_
              rotate_left
              ·show Act.put _ (some 56) _ = _
               simp only [Act.put,List.setIfInBounds_toArray,List.set_cons_zero,List.set_cons_succ,i64_w,i32_w]
               rfl
              refine pure_ (i:=10) (N:=some 59) (v:=?_) (a':=?_) #[true,true,true,true,true,true,true,true,true,true,true,false,false,false] rfl rfl (any_of HT_.out (by kernel_rfl)) (fun _ _ _ h => h) (Or.inl ⟨by rfl,?_⟩) ?_ ?_
              rotate_left
              ·intro w'
               go_simp
               with_reducible rfl
              rotate_left
              ·simp only [Act.put,List.setIfInBounds_toArray,List.set_cons_zero,List.set_cons_succ,i64_w,i32_w]
               rfl
              refine one_ (i:=11) (N:=some 60) #[true,true,true,true,true,true,true,true,true,true,true,true,false,false] rfl rfl (one_of HT_.out (by kernel_rfl)) (by decide) (fun K hK => ?_)
              (have p264 : 0 ≤ ((ji25) : Int):=of_decide_eq_true (by first | (with_reducible assumption) | assumption);have q264 : (ji25) < (y261.length : Int):=of_decide_eq_true (by first | (with_reducible assumption) | assumption);obtain ⟨ad264,e264,hx264_0⟩:=Kd.at_string (Kd.R_reads' HO263.out).2.2 (ji25) p264 q264;obtain rfl : ado32 = ad264:=(by injection e264))
              refine value_ (w1:=?_) (v:=?_) (by rfl) rfl ?_ ?_
              rotate_left 2
              ·go_simp
               constructor
               ·rfl
               ·rfl
              clear hx264_0
              refine hK.out _ _ ⟨hHeld.1,hHeld.2.1,hHeld.2.2.1,hHeld.2.2.2⟩ (fun hHeld => ?_)
              clear hK K
              refine norm_ (a':=?_) ?_ ?_
              rotate_left
              ·show Act.put _ (some 60) _ = _
               simp only [Act.put,List.setIfInBounds_toArray,List.set_cons_zero,List.set_cons_succ,i64_w,i32_w]
               rfl
              refine pure_ (i:=12) (N:=some 61) (v:=?_) (a':=?_) #[true,true,true,true,true,true,true,true,true,true,true,true,true,false] rfl rfl (any_of HT_.out (by kernel_rfl)) (fun _ _ _ h => h) (Or.inl ⟨by rfl,?_⟩) ?_ ?_
              rotate_left
              ·intro w'
               go_simp
               with_reducible rfl
              rotate_left
              ·simp only [Act.put,List.setIfInBounds_toArray,List.set_cons_zero,List.set_cons_succ,i64_w,i32_w]
               rfl
              refine pure_ (i:=13) (N:=some 7) (v:=?_) (a':=?_) #[true,true,true,true,true,true,true,true,true,true,true,true,true,true] rfl rfl (any_of HT_.out (by kernel_rfl)) (fun _ _ _ h => h) (Or.inl ⟨by rfl,?_⟩) ?_ ?_
              rotate_left
              ·intro w'
               go_simp
               with_reducible rfl
              rotate_left
              ·simp only [Act.put,List.setIfInBounds_toArray,List.set_cons_zero,List.set_cons_succ,i64_w,i32_w]
               rfl
              refine done_ (done_of HT_.out (by kernel_rfl)) ?_
              try go_wp2
              go_roundg k2
              case measure => have:=HJ3.out;have:=HK2.out;omega
              case rel => exact ⟨((x7_2 ++ ((rd_T48 t250 x38_2).f1)) ++ (rdOf ByteArray.empty y261 (ji25))),(wrap64 (x38_2 + 1)),(by first | rfl | (simp;done) | (simp only [← hji25] <;> (first | rfl | simp)) | (simp [*];done)),(by first | rfl | (simp;done) | (simp [*];done)),H',⟨by have:=HJ3.out;have:=HK2.out;omega⟩,⟨by (with_reducible repeat (first | apply Kd.R_alloc | apply Kd.R_drewN | apply Kd.R_drew));exact HO_5.out⟩,⟨by (with_reducible repeat (first | refine blk_drewN ?_ _ | refine blk_drew ?_ | refine blk_alloc ?_ _));exact BK256.out⟩,⟨by repeat (first | (with_reducible first | exact HB.out | apply below_alloc | apply pw_below_drewN | apply below_drew1 | refine below_set ?_ GE256.out) | exact HB.out)⟩⟩
             ·rw [if_neg c28] at H
              exact absurd H (by simp)
            ·rw [if_neg c27] at H
             exact absurd H (by simp)
           ·rw [if_neg c26] at H
            exact absurd H (by simp)
          ·rw [if_neg c24] at H
           exact absurd H (by simp)
         ·rw [if_neg c23] at H
          exact absurd H (by simp)
        ·rw [if_neg c22] at H
         exact absurd H (by simp)
       ·rw [if_neg c21] at H
        have c21b0 : decide (x38_2 < (l1.length : Int)) = false:=decide_eq_false c21
        clear c21
        by_cases c33 : 0 ≤ x38_2
        ·rw [if_pos c33] at H
         have c33b0 : decide (0 ≤ x38_2) = true:=decide_eq_true c33
         clear c33
         by_cases c34 : x38_2 < (t250.length : Int)
         ·rw [if_pos c34] at H
          have c34b0 : decide (x38_2 < (t250.length : Int)) = true:=decide_eq_true c34
          clear c34
          by_cases c35 : x7_2.size + ((rd_T48 t250 x38_2).f1).size ≤ 9223372036854775807
          ·rw [if_pos c35] at H
           have c35b0:=eq_true c35
           have c35b1 : decide (x7_2.size + ((rd_T48 t250 x38_2).f1).size ≤ 9223372036854775807) = true:=decide_eq_true c35
           try have c35b2 : (9223372036854775807 < x7_2.size + ((rd_T48 t250 x38_2).f1).size) = False:=eq_false (Nat.not_lt.2 c35)
           obtain ⟨y266,hy266⟩ : ∃ y_ : List ByteArray,y_ = (([(⟨#[32]⟩ : ByteArray),(⟨#[10]⟩ : ByteArray),(⟨#[9,32]⟩ : ByteArray),(⟨#[13,10]⟩ : ByteArray),(⟨#[35,32,123,32,195,169,32,48,48,55,10]⟩ : ByteArray)] : List ByteArray)):=⟨_,rfl⟩
           replace H : (if 0 ≤ ((0 : Int) % 5) then (if ((0 : Int) % 5) < (y266.length : Int) then (if (x7_2 ++ ((rd_T48 t250 x38_2).f1)).size + (rdOf ByteArray.empty y266 ((0 : Int) % 5)).size ≤ 9223372036854775807 then (joustlaw01_ScanAgain.l0 k2 l1 t250 ((x7_2 ++ ((rd_T48 t250 x38_2).f1)) ++ (rdOf ByteArray.empty y266 ((0 : Int) % 5))) (t250.length : Int) (wrap64 (x38_2 + 1))) else (none)) else (none)) else (none)) = some r:=by first | (rw [hy266];with_reducible exact H) | (have H2_:=(Option.bind_some _ _).symm.trans H;rw [hy266];with_reducible exact H2_) | (have H2_:=(Option.bind_some _ _).symm.trans H;with_reducible exact H2_) | with_reducible exact H | (rw [hy266];exact H) | exact H
           have Ny266:=Aside0.mk hy266
           clear hy266
           obtain ⟨ji36,hji36⟩ : ∃ j_ : Int,((0 : Int) % 5) = j_:=⟨_,rfl⟩
           replace H : (if 0 ≤ (ji36) then (if (ji36) < (y266.length : Int) then (if (x7_2 ++ ((rd_T48 t250 x38_2).f1)).size + (rdOf ByteArray.empty y266 (ji36)).size ≤ 9223372036854775807 then (joustlaw01_ScanAgain.l0 k2 l1 t250 ((x7_2 ++ ((rd_T48 t250 x38_2).f1)) ++ (rdOf ByteArray.empty y266 (ji36))) (t250.length : Int) (wrap64 (x38_2 + 1))) else (none)) else (none)) else (none)) = some r:=by first | (rw [hji36] at H;exact H) | (simp only [hji36] at H ⊢;exact H)
           by_cases c37 : 0 ≤ (ji36)
           ·rw [if_pos c37] at H
            have c37b0 : decide (0 ≤ (ji36)) = true:=decide_eq_true c37
            clear c37
            by_cases c38 : (ji36) < (y266.length : Int)
            ·rw [if_pos c38] at H
             have c38b0 : decide ((ji36) < (y266.length : Int)) = true:=decide_eq_true c38
             clear c38
             by_cases c39 : (x7_2 ++ ((rd_T48 t250 x38_2).f1)).size + (rdOf ByteArray.empty y266 (ji36)).size ≤ 9223372036854775807
             ·rw [if_pos c39] at H
              have c39b0:=eq_true c39
              try (have c39n:=c39;simp only [ByteArray.size_append] at c39n;have c39m:=eq_true c39n;have c39q:=eq_false (Nat.not_lt.2 c39n))
              have c39b1 : decide ((x7_2 ++ ((rd_T48 t250 x38_2).f1)).size + (rdOf ByteArray.empty y266 (ji36)).size ≤ 9223372036854775807) = true:=decide_eq_true c39
              try have c39b2 : (9223372036854775807 < (x7_2 ++ ((rd_T48 t250 x38_2).f1)).size + (rdOf ByteArray.empty y266 (ji36)).size) = False:=eq_false (Nat.not_lt.2 c39)
              have H':=Aside0.mk H
              clear H
              try go_wp2
              have pi269 : (0 ≤ ((ji36) : Int)) = True:=eq_true (of_decide_eq_true (by first | (with_reducible assumption) | assumption))
              have qi269 : ((ji36) < (y266.length : Int)) = True:=eq_true (of_decide_eq_true (by first | (with_reducible assumption) | assumption))
              have n0_:=Aside0.mk (Kd.R_drew HO_5.out)
              have n1_:=Aside0.mk (blk_drew BK256.out)
              have n2_:=Aside0.mk (below_drew1 HB.out)
              clear HO_5
              clear BK256
              clear HB
              have HO_5:=n0_
              have BK256:=n1_
              have HB:=n2_
              clear n0_ n1_ n2_
              have p265 : 0 ≤ (x38_2 : Int):=of_decide_eq_true (by first | (with_reducible assumption) | assumption)
              have q265 : x38_2 < (t250.length : Int):=of_decide_eq_true (by first | (with_reducible assumption) | assumption)
              obtain ⟨ad265,e265,hx265_0,hx265_1,hx265_2,hx265_3⟩:=at_T48 (Kd.R_reads' HO_5.out).2.2 x38_2 p265 q265
              cases e265
              replace p265:=eq_true p265
              replace q265:=eq_true q265
              refine start_ (n:=14) (S:=fun w' => w'.cell? (ad265.add ((x38_2).toNat * 4)) = some (.int .u8 ((rd_T48 t250 x38_2).f0)) ∧ w'.cell? ⟨(ad265.add ((x38_2).toNat * 4)).block,(ad265.add ((x38_2).toNat * 4)).off + 1,none⟩ = some (.string ((rd_T48 t250 x38_2).f1)) ∧ w'.cell? ⟨(ad265.add ((x38_2).toNat * 4)).block,(ad265.add ((x38_2).toNat * 4)).off + 2,none⟩ = some (.int .i64 ((rd_T48 t250 x38_2).f2.f0)) ∧ w'.cell? ⟨(ad265.add ((x38_2).toNat * 4)).block,(ad265.add ((x38_2).toNat * 4)).off + 3,none⟩ = some (.int .i64 ((rd_T48 t250 x38_2).f2.f1))) (ds:=[]) #[false,false,false,false,false,false,false,false,false,false,false,false,false,false] (by kernel_rfl) rfl rfl ⟨hx265_0,hx265_1,hx265_2,hx265_3⟩ (fun hHeld => ?_);refine with_tabW joustlaw01_ScanAgain.tab11 joustlaw01_ScanAgain.bits11 (fun HT_ HW_ => ?_)
              generalize wr.drew = w40 at HO_5 BK256 HB hx265_0 hx265_1 hx265_2 hx265_3 hHeld ⊢
              refine pure_ (i:=0) (N:=some 49) (v:=?_) (a':=?_) #[true,false,false,false,false,false,false,false,false,false,false,false,false,false] rfl rfl (any_of HT_.out (by kernel_rfl)) (fun _ _ _ h => h) (Or.inl ⟨by rfl,?_⟩) ?_ ?_
              rotate_left
              ·intro w'
               go_simp
               with_reducible rfl
              rotate_left
              ·simp only [Act.put,List.setIfInBounds_toArray,List.set_cons_zero,List.set_cons_succ,i64_w,i32_w]
               rfl
              refine pure_ (i:=1) (N:=some 50) (v:=?_) (a':=?_) #[true,true,false,false,false,false,false,false,false,false,false,false,false,false] rfl rfl (any_of HT_.out (by kernel_rfl)) (fun _ _ _ h => h) (Or.inl ⟨by rfl,?_⟩) ?_ ?_
              rotate_left
              ·intro w'
               go_simp
               with_reducible rfl
              rotate_left
              ·simp only [Act.put,List.setIfInBounds_toArray,List.set_cons_zero,List.set_cons_succ,i64_w,i32_w]
               rfl
              refine pure_ (i:=2) (N:=some 51) (v:=?_) (a':=?_) #[true,true,true,false,false,false,false,false,false,false,false,false,false,false] rfl rfl (any_of HT_.out (by kernel_rfl)) (fun _ _ _ h => h) (Or.inl ⟨by rfl,?_⟩) ?_ ?_
              rotate_left
              ·intro w'
               go_simp
               with_reducible rfl
              rotate_left
              ·simp only [Act.put,List.setIfInBounds_toArray,List.set_cons_zero,List.set_cons_succ,i64_w,i32_w]
               rfl
              refine pure_ (i:=3) (N:=some 52) (v:=?_) (a':=?_) #[true,true,true,true,false,false,false,false,false,false,false,false,false,false] rfl rfl (any_of HT_.out (by kernel_rfl)) (fun _ _ _ h => h) (Or.inl ⟨by rfl,?_⟩) ?_ ?_
              rotate_left
              ·intro w'
               go_simp
               with_reducible rfl
              rotate_left
              ·simp only [Act.put,List.setIfInBounds_toArray,List.set_cons_zero,List.set_cons_succ,i64_w,i32_w]
               rfl
              refine pure_ (i:=4) (N:=some 53) (v:=?_) (a':=?_) #[true,true,true,true,true,false,false,false,false,false,false,false,false,false] rfl rfl (any_of HT_.out (by kernel_rfl)) (fun _ _ _ h => h) (Or.inl ⟨by rfl,?_⟩) ?_ ?_
              rotate_left
              ·intro w'
               go_simp
               with_reducible rfl
              rotate_left
              ·simp only [Act.put,List.setIfInBounds_toArray,List.set_cons_zero,List.set_cons_succ,i64_w,i32_w]
               rfl
              refine pure_ (i:=8) (N:=some 57) (v:=?_) (a':=?_) #[true,true,true,true,true,false,false,false,true,false,false,false,false,false] rfl rfl (any_of HT_.out (by kernel_rfl)) (fun _ _ _ h => h) (Or.inl ⟨by rfl,?_⟩) ?_ ?_
              rotate_left
              ·intro w'
               go_simp
               with_reducible rfl
              rotate_left
              ·simp only [Act.put,List.setIfInBounds_toArray,List.set_cons_zero,List.set_cons_succ,i64_w,i32_w]
               rfl
              refine pure_ (i:=9) (N:=some 58) (v:=?_) (a':=?_) #[true,true,true,true,true,false,false,false,true,true,false,false,false,false] rfl rfl (any_of HT_.out (by kernel_rfl)) (fun _ _ _ h => h) (Or.inl ⟨by rfl,?_⟩) ?_ ?_
              rotate_left
              ·intro w'
               go_simp
               with_reducible rfl
              rotate_left
              ·simp only [Act.put,List.setIfInBounds_toArray,List.set_cons_zero,List.set_cons_succ,i64_w,i32_w]
               rfl
              refine take_ (i:=5) (N:=some 54) (v:=?_) (a':=?_) #[true,true,true,true,true,true,false,false,true,true,false,false,false,false] rfl rfl (take_ofW HT_.out HW_.out (by kernel_rfl)) (fun _ _ _ h => h) (Or.inl ⟨by rfl,?_⟩) hHeld ?_ ?_
              rotate_left
              ·rintro w' ⟨s0,s1,s2,s3⟩
               go_simp
               with_reducible rfl
              rotate_left
              ·simp only [Act.put,List.setIfInBounds_toArray,List.set_cons_zero,List.set_cons_succ,i64_w,i32_w]
               rfl
              refine pure_ (i:=6) (N:=some 55) (v:=?_) (a':=?_) #[true,true,true,true,true,true,true,false,true,true,false,false,false,false] rfl rfl (any_of HT_.out (by kernel_rfl)) (fun _ _ _ h => h) (Or.inl ⟨by rfl,?_⟩) ?_ ?_
              rotate_left
              ·intro w'
               go_simp
               with_reducible rfl
              rotate_left
              ·simp only [Act.put,List.setIfInBounds_toArray,List.set_cons_zero,List.set_cons_succ,i64_w,i32_w]
               rfl
              refine one_ (i:=7) (N:=some 56) #[true,true,true,true,true,true,true,true,true,true,false,false,false,false] rfl rfl (one_of HT_.out (by kernel_rfl)) (by decide) (fun K hK => ?_)
              refine Kd.R_lit_step Kd.string _ 9 ?hg (N:=56) ?hd (xs:=([(⟨#[32]⟩ : ByteArray),(⟨#[10]⟩ : ByteArray),(⟨#[9,32]⟩ : ByteArray),(⟨#[13,10]⟩ : ByteArray),(⟨#[35,32,123,32,195,169,32,48,48,55,10]⟩ : ByteArray)] : List ByteArray)) (inner:=[.string (⟨#[32]⟩ : ByteArray),.string (⟨#[10]⟩ : ByteArray),.string (⟨#[9,32]⟩ : ByteArray),.string (⟨#[13,10]⟩ : ByteArray),.string (⟨#[35,32,123,32,195,169,32,48,48,55,10]⟩ : ByteArray)]) (ok:=fun _ => True) (okp:=fun _ => True) ?hr ?hp (fun _ hk => hk) trivial (Below.refl _ _) (Nat.le_refl _) (by simp) ?_;(case hd => rfl);(case hg => rfl);(case hr => first | (go_simp;done) | (go_simp;rfl));(case hp => exact (Reps.one (show Kd.M Kd.string _ _ _ (⟨#[32]⟩ : ByteArray) [.string (⟨#[32]⟩ : ByteArray)] from rfl) (Reps.one (show Kd.M Kd.string _ _ _ (⟨#[10]⟩ : ByteArray) [.string (⟨#[10]⟩ : ByteArray)] from rfl) (Reps.one (show Kd.M Kd.string _ _ _ (⟨#[9,32]⟩ : ByteArray) [.string (⟨#[9,32]⟩ : ByteArray)] from rfl) (Reps.one (show Kd.M Kd.string _ _ _ (⟨#[13,10]⟩ : ByteArray) [.string (⟨#[13,10]⟩ : ByteArray)] from rfl) (Reps.one (show Kd.M Kd.string _ _ _ (⟨#[35,32,123,32,195,169,32,48,48,55,10]⟩ : ByteArray) [.string (⟨#[35,32,123,32,195,169,32,48,48,55,10]⟩ : ByteArray)] from rfl) (Reps.none _ _)))))))
              intro v267 w41 ho42 hb hg_ hnew_
              have HS0_:=(hb.cell (World.block_lt_of_cell? _ _ (hHeld.1))).trans (hHeld.1)
              have HS1_:=(hb.cell (World.block_lt_of_cell? _ _ (hHeld.2.1))).trans (hHeld.2.1)
              have HS2_:=(hb.cell (World.block_lt_of_cell? _ _ (hHeld.2.2.1))).trans (hHeld.2.2.1)
              have HS3_:=(hb.cell (World.block_lt_of_cell? _ _ (hHeld.2.2.2))).trans (hHeld.2.2.2)
              clear hg_ hnew_
              (first | rw [← Ny266.out] at ho42 | (simp only [Int.reduceToNat] at ho42;rw [← Ny266.out] at ho42))
              have n0_:=Aside0.mk (Kd.R_below (by (with_reducible repeat (first | apply Kd.R_alloc | apply Kd.R_drewN | apply Kd.R_drew));exact HO_5.out) hb)
              have n1_:=Aside0.mk (Kd.R_lower ho42 (below_size (by repeat (first | (with_reducible first | exact HB.out | apply below_alloc | apply pw_below_drewN | apply below_drew1 | refine below_set ?_ GE256.out) | exact HB.out))))
              have n2_:=Aside0.mk (blk_below (g:=gb256) (o:=.cells #[.int .i64 t253,.int .i64 t254,.int .i64 t255] 39 (0,0)) (by (with_reducible repeat (first | refine blk_drewN ?_ _ | refine blk_drew ?_ | refine blk_alloc ?_ _));exact BK256.out) hb)
              have n3_:=Aside0.mk (below_step (by repeat (first | (with_reducible first | exact HB.out | apply below_alloc | apply pw_below_drewN | apply below_drew1 | refine below_set ?_ GE256.out) | exact HB.out)) hb)
              clear HO_5
              clear BK256
              clear HB
              have HO_5:=n0_
              have HO268:=n1_
              have BK256:=n2_
              have HB:=n3_
              clear n0_ n1_ n2_ n3_
              clear hb ho42
              obtain ⟨Ao43,co43,eo43⟩:=Kd.R_slice HO268.out
              subst eo43
              obtain ⟨ado43,fo43,_⟩:=Kd.at_string (Kd.R_reads' HO268.out).2.2 0 (by decide) (by rw [Ny266.out];simp)
              cases fo43
              refine hK.out _ _ ⟨HS0_,HS1_,HS2_,HS3_⟩ (fun hHeld => ?_)
              clear hK K
              refine norm_ (a':=?_) ?_ ?_
              rotate_left
              ·show Act.put _ (some 56) _ = _
               simp only [Act.put,List.setIfInBounds_toArray,List.set_cons_zero,List.set_cons_succ,i64_w,i32_w]
               rfl
              refine pure_ (i:=10) (N:=some 59) (v:=?_) (a':=?_) #[true,true,true,true,true,true,true,true,true,true,true,false,false,false] rfl rfl (any_of HT_.out (by kernel_rfl)) (fun _ _ _ h => h) (Or.inl ⟨by rfl,?_⟩) ?_ ?_
              rotate_left
              ·intro w'
               have hp_ : (0 < y266.length) = True:=eq_true (by rw [Ny266.out];decide)
               go_simp
               with_reducible rfl
              rotate_left
              ·simp only [Act.put,List.setIfInBounds_toArray,List.set_cons_zero,List.set_cons_succ,i64_w,i32_w]
               rfl
              refine one_ (i:=11) (N:=some 60) #[true,true,true,true,true,true,true,true,true,true,true,true,false,false] rfl rfl (one_of HT_.out (by kernel_rfl)) (by decide) (fun K hK => ?_)
              (have p269 : 0 ≤ ((ji36) : Int):=of_decide_eq_true (by first | (with_reducible assumption) | assumption);have q269 : (ji36) < (y266.length : Int):=of_decide_eq_true (by first | (with_reducible assumption) | assumption);obtain ⟨ad269,e269,hx269_0⟩:=Kd.at_string (Kd.R_reads' HO268.out).2.2 (ji36) p269 q269;obtain rfl : ado43 = ad269:=(by injection e269))
              refine value_ (w1:=?_) (v:=?_) (by rfl) rfl ?_ ?_
              rotate_left 2
              have h0_:=hx269_0
              rw [show (ji36).toNat = 0 from by rw [← hji36];rfl] at h0_
              have hx0_ : World.cell? _ ado43 = some (Value.string (rdOf ByteArray.empty y266 ji36)):=h0_
              clear h0_
              ·go_simp
               constructor
               ·rfl
               ·rfl
              clear hx269_0
              refine hK.out _ _ ⟨hHeld.1,hHeld.2.1,hHeld.2.2.1,hHeld.2.2.2⟩ (fun hHeld => ?_)
              clear hK K
              refine norm_ (a':=?_) ?_ ?_
              rotate_left
              ·show Act.put _ (some 60) _ = _
               simp only [Act.put,List.setIfInBounds_toArray,List.set_cons_zero,List.set_cons_succ,i64_w,i32_w]
               rfl
              refine pure_ (i:=12) (N:=some 61) (v:=?_) (a':=?_) #[true,true,true,true,true,true,true,true,true,true,true,true,true,false] rfl rfl (any_of HT_.out (by kernel_rfl)) (fun _ _ _ h => h) (Or.inl ⟨by rfl,?_⟩) ?_ ?_
              rotate_left
              ·intro w'
               go_simp
               with_reducible rfl
              rotate_left
              ·simp only [Act.put,List.setIfInBounds_toArray,List.set_cons_zero,List.set_cons_succ,i64_w,i32_w]
               rfl
              refine pure_ (i:=13) (N:=some 7) (v:=?_) (a':=?_) #[true,true,true,true,true,true,true,true,true,true,true,true,true,true] rfl rfl (any_of HT_.out (by kernel_rfl)) (fun _ _ _ h => h) (Or.inl ⟨by rfl,?_⟩) ?_ ?_
              rotate_left
              ·intro w'
               go_simp
               with_reducible rfl
              rotate_left
              ·simp only [Act.put,List.setIfInBounds_toArray,List.set_cons_zero,List.set_cons_succ,i64_w,i32_w]
               rfl
              refine done_ (done_of HT_.out (by kernel_rfl)) ?_
              try go_wp2
              go_roundg k2
              case measure => have:=HJ3.out;have:=HK2.out;omega
              case rel => exact ⟨((x7_2 ++ ((rd_T48 t250 x38_2).f1)) ++ (rdOf ByteArray.empty y266 (ji36))),(wrap64 (x38_2 + 1)),(by first | rfl | (simp;done) | (simp only [← hji36] <;> (first | rfl | simp)) | (simp [*];done)),(by first | rfl | (simp;done) | (simp [*];done)),H',⟨by have:=HJ3.out;have:=HK2.out;omega⟩,⟨by (with_reducible repeat (first | apply Kd.R_alloc | apply Kd.R_drewN | apply Kd.R_drew));exact HO_5.out⟩,⟨by (with_reducible repeat (first | refine blk_drewN ?_ _ | refine blk_drew ?_ | refine blk_alloc ?_ _));exact BK256.out⟩,⟨by repeat (first | (with_reducible first | exact HB.out | apply below_alloc | apply pw_below_drewN | apply below_drew1 | refine below_set ?_ GE256.out) | exact HB.out)⟩⟩
             ·rw [if_neg c39] at H
              exact absurd H (by simp)
            ·rw [if_neg c38] at H
             exact absurd H (by simp)
           ·rw [if_neg c37] at H
            exact absurd H (by simp)
          ·rw [if_neg c35] at H
           exact absurd H (by simp)
         ·rw [if_neg c34] at H
          exact absurd H (by simp)
        ·rw [if_neg c33] at H
         exact absurd H (by simp)
      ·rw [if_neg c20] at H
       have c20b0 : decide (x38_2 < (t250.length : Int)) = false:=decide_eq_false c20
       clear c20
       replace H:=Option.bind_eq_some_iff.mp H
       obtain ⟨⟨t270,t273,t274,t275⟩,A440,H⟩:=H
       replace H : (if t273 = 0 then ((joustref00_Tokens.f k2 t250 t270).bind fun t277 => (if t277 = true then ((joustlaw01_lives.f k2).bind fun t278 => (some t278)) else (some false))) else (some false)) = some r:=H
       have A44:=Aside0.mk A440
       clear A440
       by_cases c45 : t273 = 0
       ·rw [if_pos c45] at H
        have c45b0 : (t273 == 0) = true:=beq_iff_eq.mpr c45
        have c45b1 : (t273 != 0) = false:=bne_eq_false_iff_eq.mpr c45
        clear c45
        replace H:=Option.bind_eq_some_iff.mp H
        obtain ⟨t277,A460,H⟩:=H
        replace H : (if t277 = true then ((joustlaw01_lives.f k2).bind fun t278 => (some t278)) else (some false)) = some r:=H
        have A46:=Aside0.mk A460
        clear A460
        by_cases c47 : t277 = true
        ·subst c47
         have H1 : ((joustlaw01_lives.f k2).bind fun t278 => (some t278)) = some r:=by rw [if_pos rfl] at H;exact H
         clear H
         have H:=H1
         clear H1
         replace H:=Option.bind_eq_some_iff.mp H
         obtain ⟨t278,A480,H⟩:=H
         replace H : (some t278) = some r:=H
         have A48:=Aside0.mk A480
         clear A480
         obtain rfl:=Option.some.inj H
         go_wp2_with (first | ((with_reducible refine gate_callee (f:=15) rfl ?_);refine goesL_ (some 65) rfl rfl Tryd.func15 (by kernel_rfl) rfl #[.string x7_2] rfl (by (try simp only [List.map_toArray,List.map_cons,List.map_nil]);first | done | rfl | (simp only [List.length_drop,List.length_take];rfl)) ?_;(with_reducible refine (scan_Tokens.calls k2 x7_2 t270 t273 t274 t275 _ ?side1 A44.out).mono ?_);(case side1 => exact Tabs.below HG.out (by repeat (first | (with_reducible first | exact HB.out | apply below_alloc | apply pw_below_drewN | apply below_drew1 | refine below_set ?_ GE256.out) | exact HB.out)));rintro e w49 ⟨v271,rfl,ho0,hb⟩;refine ⟨_,rfl,?_⟩;have n0_:=Aside0.mk (Kd.R_elder' (by (with_reducible repeat (first | apply Kd.R_alloc | apply Kd.R_drewN | apply Kd.R_drew));exact HO_5.out) (Kd.R_base ho0) hb);have n1_:=Aside0.mk (Kd.R_lower (Kd.R_new' ho0 (Kd.R_lt (by (with_reducible repeat (first | apply Kd.R_alloc | apply Kd.R_drewN | apply Kd.R_drew));exact HO_5.out))) (below_size (by repeat (first | (with_reducible first | exact HB.out | apply below_alloc | apply pw_below_drewN | apply below_drew1 | refine below_set ?_ GE256.out) | exact HB.out))));have n2_:=Aside0.mk (blk_below (g:=gb256) (o:=.cells #[.int .i64 t253,.int .i64 t254,.int .i64 t255] 39 (0,0)) (by (with_reducible repeat (first | refine blk_drewN ?_ _ | refine blk_drew ?_ | refine blk_alloc ?_ _));exact BK256.out) hb);have n3_:=Aside0.mk (below_step (by repeat (first | (with_reducible first | exact HB.out | apply below_alloc | apply pw_below_drewN | apply below_drew1 | refine below_set ?_ GE256.out) | exact HB.out)) hb);clear HO_5;clear BK256;clear HB;have HO_5:=n0_;have HO272:=n1_;have BK256:=n2_;have HB:=n3_;clear n0_ n1_ n2_ n3_;(try clear hb);(try clear hb2);(try clear hk);(try clear hi);(try clear ho0)) | ((with_reducible refine gate_dst (N:=11) rfl ?_);(try (refine gate_guard (by rfl) ?_;dsimp only));refine box_event ?hg (N:=11) ?hd (cs:=#[.int .i64 0,.int .i64 0,.int .i64 0]) (t:=39) ?hr ?_;(case hd => rfl);(case hg => rfl);(case hr => first | (go_simp;done) | (go_simp;rfl));intro gb276 hg w50 hbox hb;have n0_:=Aside0.mk (Kd.R_below (by (with_reducible repeat (first | apply Kd.R_alloc | apply Kd.R_drewN | apply Kd.R_drew));exact HO_5.out) hb);have n1_:=Aside0.mk (Kd.R_below (by (with_reducible repeat (first | apply Kd.R_alloc | apply Kd.R_drewN | apply Kd.R_drew));exact HO272.out) hb);have n2_:=Aside0.mk (blk_below (g:=gb256) (o:=.cells #[.int .i64 t253,.int .i64 t254,.int .i64 t255] 39 (0,0)) (by (with_reducible repeat (first | refine blk_drewN ?_ _ | refine blk_drew ?_ | refine blk_alloc ?_ _));exact BK256.out) hb);have n3_:=Aside0.mk (below_step (by repeat (first | (with_reducible first | exact HB.out | apply below_alloc | apply pw_below_drewN | apply below_drew1 | refine below_set ?_ GE256.out) | exact HB.out)) hb);have n4_:=Aside0.mk (hbox);have n5_:=Aside0.mk ((by rw [hg];exact (below_size (by repeat (first | (with_reducible first | exact HB.out | apply below_alloc | apply pw_below_drewN | apply below_drew1 | refine below_set ?_ GE256.out) | exact HB.out))) : w.heap.size ≤ gb276));have n6_:=Aside0.mk ((by rw [hg];exact (below_size (by repeat (first | (with_reducible first | exact HB.out | apply below_alloc | apply pw_below_drewN | apply below_drew1 | refine below_set ?_ GE256.out) | exact HB.out))) : w.heap.size ≤ gb276));have n7_:=Aside0.mk ((by rw [hg];exact Nat.ne_of_lt (blk_lt (g:=gb256) (o:=.cells #[.int .i64 t253,.int .i64 t254,.int .i64 t255] 39 (0,0)) (by (with_reducible repeat (first | refine blk_drewN ?_ _ | refine blk_drew ?_ | refine blk_alloc ?_ _));exact BK256.out)) : gb256 ≠ gb276));have n8_:=Aside0.mk ((by rw [hg];exact Nat.ne_of_gt (blk_lt (g:=gb256) (o:=.cells #[.int .i64 t253,.int .i64 t254,.int .i64 t255] 39 (0,0)) (by (with_reducible repeat (first | refine blk_drewN ?_ _ | refine blk_drew ?_ | refine blk_alloc ?_ _));exact BK256.out)) : gb276 ≠ gb256));clear HO_5;clear HO272;clear BK256;clear HB;have HO_5:=n0_;have HO272:=n1_;have BK256:=n2_;have HB:=n3_;have BK276:=n4_;have GW276:=n5_;have GE276:=n6_;have NB256_276:=n7_;have NB276_256:=n8_;clear n0_ n1_ n2_ n3_ n4_ n5_ n6_ n7_ n8_;clear hb hbox hg;have hnb51:=NB276_256.out;have hnc51:=NB256_276.out;have hcz52_0 : w50.cell? ⟨gb276,0,none⟩ = some (.int .i64 0):=(blk_cell BK276.out 0).trans rfl;have hcz52_1 : w50.cell? ⟨gb276,1,none⟩ = some (.int .i64 0):=(blk_cell BK276.out 1).trans rfl;have hcz52_2 : w50.cell? ⟨gb276,2,none⟩ = some (.int .i64 0):=(blk_cell BK276.out 2).trans rfl;have hfz52_0:=blk_frozen BK276.out 0;have hfz52_1:=blk_frozen BK276.out 1;have hfz52_2:=blk_frozen BK276.out 2;obtain ⟨Ao53,co53,eo53⟩:=Kd.R_slice HO272.out;subst eo53) | (go_at_call 17;(with_reducible refine (joustref00_Tokens.calls k2 _ _ t250 _ _ t270 true _ ?side1 ?side2 ?side3 ?side4 A46.out).mono ?_);(case side1 => refine (Kd.R_reads' (e:=48) (base:=w.heap.size) (ok:=fun k_ => (True ∧ some k_ ≠ (.slice Ao53 t270.length co53 : Value).ownBlock)) (n:=t250.length) (c:=co19) ?_).2.2;exact (by (with_reducible repeat (first | apply Kd.R_alloc | apply Kd.R_drewN | apply Kd.R_drew));exact (Kd.R_mono (Kd.R_far (p:=⟨gb276,2,none⟩) (Kd.R_far (p:=⟨gb276,1,none⟩) (Kd.R_far (p:=⟨gb276,0,none⟩) (Kd.R_types HO_5.out BK276.out (by decide)) (fun _ hk => hk.2) (.int .i64 t273)) (fun _ hk => hk.2) (.int .i64 t274)) (fun _ hk => hk.2) (.int .i64 t275)) (fun _ h_ => h_.1))));(case side2 => exact (Kd.R_reads' HO_5.out).2.1);(case side3 => refine (Kd.R_reads' (e:=48) (base:=w.heap.size) (ok:=fun k_ => (True ∧ some k_ ≠ (.slice Ao19 t250.length co19 : Value).ownBlock)) (n:=t270.length) (c:=co53) ?_).2.2;exact (by (with_reducible repeat (first | apply Kd.R_alloc | apply Kd.R_drewN | apply Kd.R_drew));exact (Kd.R_mono (Kd.R_far (p:=⟨gb276,2,none⟩) (Kd.R_far (p:=⟨gb276,1,none⟩) (Kd.R_far (p:=⟨gb276,0,none⟩) (Kd.R_types HO272.out BK276.out (by decide)) (fun _ hk => hk.2) (.int .i64 t273)) (fun _ hk => hk.2) (.int .i64 t274)) (fun _ hk => hk.2) (.int .i64 t275)) (fun _ h_ => h_.1))));(case side4 => exact (Kd.R_reads' HO272.out).2.1);rintro e w' ⟨rfl,⟨nd,rfl⟩⟩) | (go_at_call 14;(with_reducible refine (joustlaw01_lives.calls k2  t278 _ ?side1 A48.out).mono ?_);(case side1 => exact Tabs.below HG.out (by repeat (first | (with_reducible first | exact HB.out | apply below_alloc | apply pw_below_drewN | apply below_drew1 | refine below_set ?_ GE256.out | refine below_set ?_ GE276.out) | exact HB.out)));rintro e w54 ⟨rfl,hb⟩;have n0_:=Aside0.mk (Kd.R_below (by (with_reducible repeat (first | apply Kd.R_alloc | apply Kd.R_drewN | apply Kd.R_drew));exact (Kd.R_mono (Kd.R_far (p:=⟨gb276,2,none⟩) (Kd.R_far (p:=⟨gb276,1,none⟩) (Kd.R_far (p:=⟨gb276,0,none⟩) (Kd.R_types HO_5.out BK276.out (by decide)) (fun _ hk => hk.2) (.int .i64 t273)) (fun _ hk => hk.2) (.int .i64 t274)) (fun _ hk => hk.2) (.int .i64 t275)) (fun _ h_ => h_.1))) hb);have n1_:=Aside0.mk (Kd.R_below (by (with_reducible repeat (first | apply Kd.R_alloc | apply Kd.R_drewN | apply Kd.R_drew));exact (Kd.R_mono (Kd.R_far (p:=⟨gb276,2,none⟩) (Kd.R_far (p:=⟨gb276,1,none⟩) (Kd.R_far (p:=⟨gb276,0,none⟩) (Kd.R_types HO272.out BK276.out (by decide)) (fun _ hk => hk.2) (.int .i64 t273)) (fun _ hk => hk.2) (.int .i64 t274)) (fun _ hk => hk.2) (.int .i64 t275)) (fun _ h_ => h_.1))) hb);have n2_:=Aside0.mk (blk_below (g:=gb256) (o:=.cells #[.int .i64 t253,.int .i64 t254,.int .i64 t255] 39 (0,0)) (by (with_reducible repeat (first | refine blk_drewN ?_ _ | refine blk_drew ?_ | refine blk_alloc ?_ _));refine blk_far ?_ NB256_276.out _;(with_reducible repeat (first | refine blk_drewN ?_ _ | refine blk_drew ?_ | refine blk_alloc ?_ _));refine blk_far ?_ NB256_276.out _;(with_reducible repeat (first | refine blk_drewN ?_ _ | refine blk_drew ?_ | refine blk_alloc ?_ _));refine blk_far ?_ NB256_276.out _;(with_reducible repeat (first | refine blk_drewN ?_ _ | refine blk_drew ?_ | refine blk_alloc ?_ _));exact BK256.out) hb);have n3_:=Aside0.mk (blk_below (g:=gb276) (o:=.cells #[.int .i64 t273,.int .i64 t274,.int .i64 t275] 39 (0,0)) (by (with_reducible repeat (first | refine blk_drewN ?_ _ | refine blk_drew ?_ | refine blk_alloc ?_ _));refine blk_put (cs:=#[.int .i64 t273,.int .i64 t274,.int .i64 0]) ?_ 2 _ rfl;(with_reducible repeat (first | refine blk_drewN ?_ _ | refine blk_drew ?_ | refine blk_alloc ?_ _));refine blk_put (cs:=#[.int .i64 t273,.int .i64 0,.int .i64 0]) ?_ 1 _ rfl;(with_reducible repeat (first | refine blk_drewN ?_ _ | refine blk_drew ?_ | refine blk_alloc ?_ _));refine blk_put (cs:=#[.int .i64 0,.int .i64 0,.int .i64 0]) ?_ 0 _ rfl;(with_reducible repeat (first | refine blk_drewN ?_ _ | refine blk_drew ?_ | refine blk_alloc ?_ _));exact BK276.out) hb);have n4_:=Aside0.mk (below_step (by repeat (first | (with_reducible first | exact HB.out | apply below_alloc | apply pw_below_drewN | apply below_drew1 | refine below_set ?_ GE256.out | refine below_set ?_ GE276.out) | exact HB.out)) hb);clear HO_5;clear HO272;clear BK256;clear BK276;clear HB;have HO_5:=n0_;have HO272:=n1_;have BK256:=n2_;have BK276:=n3_;have HB:=n4_;clear n0_ n1_ n2_ n3_ n4_;(try clear hb);(try clear hb2);(try clear hk);(try clear hi)))
         go_ret
         exact ⟨by first | rfl | (simp [errW_none,errW_some] <;> rfl) | (simp [*,errW_none,errW_some] <;> rfl),by repeat (first | (with_reducible first | exact HB.out | apply below_alloc | apply pw_below_drewN | apply below_drew1 | refine below_set ?_ GE256.out | refine below_set ?_ GE276.out) | exact HB.out)⟩
        ·replace c47:=Bool.eq_false_iff.mpr c47
         subst c47
         have H1 : (some false) = some r:=by rw [if_neg (show ¬ (false = true) by decide)] at H;exact H
         clear H
         have H:=H1
         clear H1
         obtain rfl:=Option.some.inj H
         go_wp2_with (first | ((with_reducible refine gate_callee (f:=15) rfl ?_);refine goesL_ (some 65) rfl rfl Tryd.func15 (by kernel_rfl) rfl #[.string x7_2] rfl (by (try simp only [List.map_toArray,List.map_cons,List.map_nil]);first | done | rfl | (simp only [List.length_drop,List.length_take];rfl)) ?_;(with_reducible refine (scan_Tokens.calls k2 x7_2 t270 t273 t274 t275 _ ?side1 A44.out).mono ?_);(case side1 => exact Tabs.below HG.out (by repeat (first | (with_reducible first | exact HB.out | apply below_alloc | apply pw_below_drewN | apply below_drew1 | refine below_set ?_ GE256.out) | exact HB.out)));rintro e w55 ⟨v271,rfl,ho0,hb⟩;refine ⟨_,rfl,?_⟩;have n0_:=Aside0.mk (Kd.R_elder' (by (with_reducible repeat (first | apply Kd.R_alloc | apply Kd.R_drewN | apply Kd.R_drew));exact HO_5.out) (Kd.R_base ho0) hb);have n1_:=Aside0.mk (Kd.R_lower (Kd.R_new' ho0 (Kd.R_lt (by (with_reducible repeat (first | apply Kd.R_alloc | apply Kd.R_drewN | apply Kd.R_drew));exact HO_5.out))) (below_size (by repeat (first | (with_reducible first | exact HB.out | apply below_alloc | apply pw_below_drewN | apply below_drew1 | refine below_set ?_ GE256.out) | exact HB.out))));have n2_:=Aside0.mk (blk_below (g:=gb256) (o:=.cells #[.int .i64 t253,.int .i64 t254,.int .i64 t255] 39 (0,0)) (by (with_reducible repeat (first | refine blk_drewN ?_ _ | refine blk_drew ?_ | refine blk_alloc ?_ _));exact BK256.out) hb);have n3_:=Aside0.mk (below_step (by repeat (first | (with_reducible first | exact HB.out | apply below_alloc | apply pw_below_drewN | apply below_drew1 | refine below_set ?_ GE256.out) | exact HB.out)) hb);clear HO_5;clear BK256;clear HB;have HO_5:=n0_;have HO272:=n1_;have BK256:=n2_;have HB:=n3_;clear n0_ n1_ n2_ n3_;(try clear hb);(try clear hb2);(try clear hk);(try clear hi);(try clear ho0)) | ((with_reducible refine gate_dst (N:=11) rfl ?_);(try (refine gate_guard (by rfl) ?_;dsimp only));refine box_event ?hg (N:=11) ?hd (cs:=#[.int .i64 0,.int .i64 0,.int .i64 0]) (t:=39) ?hr ?_;(case hd => rfl);(case hg => rfl);(case hr => first | (go_simp;done) | (go_simp;rfl));intro gb276 hg w56 hbox hb;have n0_:=Aside0.mk (Kd.R_below (by (with_reducible repeat (first | apply Kd.R_alloc | apply Kd.R_drewN | apply Kd.R_drew));exact HO_5.out) hb);have n1_:=Aside0.mk (Kd.R_below (by (with_reducible repeat (first | apply Kd.R_alloc | apply Kd.R_drewN | apply Kd.R_drew));exact HO272.out) hb);have n2_:=Aside0.mk (blk_below (g:=gb256) (o:=.cells #[.int .i64 t253,.int .i64 t254,.int .i64 t255] 39 (0,0)) (by (with_reducible repeat (first | refine blk_drewN ?_ _ | refine blk_drew ?_ | refine blk_alloc ?_ _));exact BK256.out) hb);have n3_:=Aside0.mk (below_step (by repeat (first | (with_reducible first | exact HB.out | apply below_alloc | apply pw_below_drewN | apply below_drew1 | refine below_set ?_ GE256.out) | exact HB.out)) hb);have n4_:=Aside0.mk (hbox);have n5_:=Aside0.mk ((by rw [hg];exact (below_size (by repeat (first | (with_reducible first | exact HB.out | apply below_alloc | apply pw_below_drewN | apply below_drew1 | refine below_set ?_ GE256.out) | exact HB.out))) : w.heap.size ≤ gb276));have n6_:=Aside0.mk ((by rw [hg];exact (below_size (by repeat (first | (with_reducible first | exact HB.out | apply below_alloc | apply pw_below_drewN | apply below_drew1 | refine below_set ?_ GE256.out) | exact HB.out))) : w.heap.size ≤ gb276));have n7_:=Aside0.mk ((by rw [hg];exact Nat.ne_of_lt (blk_lt (g:=gb256) (o:=.cells #[.int .i64 t253,.int .i64 t254,.int .i64 t255] 39 (0,0)) (by (with_reducible repeat (first | refine blk_drewN ?_ _ | refine blk_drew ?_ | refine blk_alloc ?_ _));exact BK256.out)) : gb256 ≠ gb276));have n8_:=Aside0.mk ((by rw [hg];exact Nat.ne_of_gt (blk_lt (g:=gb256) (o:=.cells #[.int .i64 t253,.int .i64 t254,.int .i64 t255] 39 (0,0)) (by (with_reducible repeat (first | refine blk_drewN ?_ _ | refine blk_drew ?_ | refine blk_alloc ?_ _));exact BK256.out)) : gb276 ≠ gb256));clear HO_5;clear HO272;clear BK256;clear HB;have HO_5:=n0_;have HO272:=n1_;have BK256:=n2_;have HB:=n3_;have BK276:=n4_;have GW276:=n5_;have GE276:=n6_;have NB256_276:=n7_;have NB276_256:=n8_;clear n0_ n1_ n2_ n3_ n4_ n5_ n6_ n7_ n8_;clear hb hbox hg;have hnb57:=NB276_256.out;have hnc57:=NB256_276.out;have hcz58_0 : w56.cell? ⟨gb276,0,none⟩ = some (.int .i64 0):=(blk_cell BK276.out 0).trans rfl;have hcz58_1 : w56.cell? ⟨gb276,1,none⟩ = some (.int .i64 0):=(blk_cell BK276.out 1).trans rfl;have hcz58_2 : w56.cell? ⟨gb276,2,none⟩ = some (.int .i64 0):=(blk_cell BK276.out 2).trans rfl;have hfz58_0:=blk_frozen BK276.out 0;have hfz58_1:=blk_frozen BK276.out 1;have hfz58_2:=blk_frozen BK276.out 2;obtain ⟨Ao59,co59,eo59⟩:=Kd.R_slice HO272.out;subst eo59) | (go_at_call 17;(with_reducible refine (joustref00_Tokens.calls k2 _ _ t250 _ _ t270 false _ ?side1 ?side2 ?side3 ?side4 A46.out).mono ?_);(case side1 => refine (Kd.R_reads' (e:=48) (base:=w.heap.size) (ok:=fun k_ => (True ∧ some k_ ≠ (.slice Ao59 t270.length co59 : Value).ownBlock)) (n:=t250.length) (c:=co19) ?_).2.2;exact (by (with_reducible repeat (first | apply Kd.R_alloc | apply Kd.R_drewN | apply Kd.R_drew));exact (Kd.R_mono (Kd.R_far (p:=⟨gb276,2,none⟩) (Kd.R_far (p:=⟨gb276,1,none⟩) (Kd.R_far (p:=⟨gb276,0,none⟩) (Kd.R_types HO_5.out BK276.out (by decide)) (fun _ hk => hk.2) (.int .i64 t273)) (fun _ hk => hk.2) (.int .i64 t274)) (fun _ hk => hk.2) (.int .i64 t275)) (fun _ h_ => h_.1))));(case side2 => exact (Kd.R_reads' HO_5.out).2.1);(case side3 => refine (Kd.R_reads' (e:=48) (base:=w.heap.size) (ok:=fun k_ => (True ∧ some k_ ≠ (.slice Ao19 t250.length co19 : Value).ownBlock)) (n:=t270.length) (c:=co59) ?_).2.2;exact (by (with_reducible repeat (first | apply Kd.R_alloc | apply Kd.R_drewN | apply Kd.R_drew));exact (Kd.R_mono (Kd.R_far (p:=⟨gb276,2,none⟩) (Kd.R_far (p:=⟨gb276,1,none⟩) (Kd.R_far (p:=⟨gb276,0,none⟩) (Kd.R_types HO272.out BK276.out (by decide)) (fun _ hk => hk.2) (.int .i64 t273)) (fun _ hk => hk.2) (.int .i64 t274)) (fun _ hk => hk.2) (.int .i64 t275)) (fun _ h_ => h_.1))));(case side4 => exact (Kd.R_reads' HO272.out).2.1);rintro e w' ⟨rfl,⟨nd,rfl⟩⟩))
         go_ret
         exact ⟨by first | rfl | (simp [errW_none,errW_some] <;> rfl) | (simp [*,errW_none,errW_some] <;> rfl),by repeat (first | (with_reducible first | exact HB.out | apply below_alloc | apply pw_below_drewN | apply below_drew1 | refine below_set ?_ GE256.out | refine below_set ?_ GE276.out) | exact HB.out)⟩
       ·rw [if_neg c45] at H
        have c45b0 : (t273 == 0) = false:=beq_eq_false_iff_ne.mpr c45
        have c45b1 : (t273 != 0) = true:=bne_iff_ne.mpr c45
        obtain rfl:=Option.some.inj H
        go_wp2_with (first | ((with_reducible refine gate_callee (f:=15) rfl ?_);refine goesL_ (some 65) rfl rfl Tryd.func15 (by kernel_rfl) rfl #[.string x7_2] rfl (by (try simp only [List.map_toArray,List.map_cons,List.map_nil]);first | done | rfl | (simp only [List.length_drop,List.length_take];rfl)) ?_;(with_reducible refine (scan_Tokens.calls k2 x7_2 t270 t273 t274 t275 _ ?side1 A44.out).mono ?_);(case side1 => exact Tabs.below HG.out (by repeat (first | (with_reducible first | exact HB.out | apply below_alloc | apply pw_below_drewN | apply below_drew1 | refine below_set ?_ GE256.out) | exact HB.out)));rintro e w60 ⟨v271,rfl,ho0,hb⟩;refine ⟨_,rfl,?_⟩;have n0_:=Aside0.mk (Kd.R_elder' (by (with_reducible repeat (first | apply Kd.R_alloc | apply Kd.R_drewN | apply Kd.R_drew));exact HO_5.out) (Kd.R_base ho0) hb);have n1_:=Aside0.mk (Kd.R_lower (Kd.R_new' ho0 (Kd.R_lt (by (with_reducible repeat (first | apply Kd.R_alloc | apply Kd.R_drewN | apply Kd.R_drew));exact HO_5.out))) (below_size (by repeat (first | (with_reducible first | exact HB.out | apply below_alloc | apply pw_below_drewN | apply below_drew1 | refine below_set ?_ GE256.out) | exact HB.out))));have n2_:=Aside0.mk (blk_below (g:=gb256) (o:=.cells #[.int .i64 t253,.int .i64 t254,.int .i64 t255] 39 (0,0)) (by (with_reducible repeat (first | refine blk_drewN ?_ _ | refine blk_drew ?_ | refine blk_alloc ?_ _));exact BK256.out) hb);have n3_:=Aside0.mk (below_step (by repeat (first | (with_reducible first | exact HB.out | apply below_alloc | apply pw_below_drewN | apply below_drew1 | refine below_set ?_ GE256.out) | exact HB.out)) hb);clear HO_5;clear BK256;clear HB;have HO_5:=n0_;have HO272:=n1_;have BK256:=n2_;have HB:=n3_;clear n0_ n1_ n2_ n3_;(try clear hb);(try clear hb2);(try clear hk);(try clear hi);(try clear ho0)) | ((with_reducible refine gate_dst (N:=11) rfl ?_);(try (refine gate_guard (by rfl) ?_;dsimp only));refine box_event ?hg (N:=11) ?hd (cs:=#[.int .i64 0,.int .i64 0,.int .i64 0]) (t:=39) ?hr ?_;(case hd => rfl);(case hg => rfl);(case hr => first | (go_simp;done) | (go_simp;rfl));intro gb276 hg w61 hbox hb;have n0_:=Aside0.mk (Kd.R_below (by (with_reducible repeat (first | apply Kd.R_alloc | apply Kd.R_drewN | apply Kd.R_drew));exact HO_5.out) hb);have n1_:=Aside0.mk (Kd.R_below (by (with_reducible repeat (first | apply Kd.R_alloc | apply Kd.R_drewN | apply Kd.R_drew));exact HO272.out) hb);have n2_:=Aside0.mk (blk_below (g:=gb256) (o:=.cells #[.int .i64 t253,.int .i64 t254,.int .i64 t255] 39 (0,0)) (by (with_reducible repeat (first | refine blk_drewN ?_ _ | refine blk_drew ?_ | refine blk_alloc ?_ _));exact BK256.out) hb);have n3_:=Aside0.mk (below_step (by repeat (first | (with_reducible first | exact HB.out | apply below_alloc | apply pw_below_drewN | apply below_drew1 | refine below_set ?_ GE256.out) | exact HB.out)) hb);have n4_:=Aside0.mk (hbox);have n5_:=Aside0.mk ((by rw [hg];exact (below_size (by repeat (first | (with_reducible first | exact HB.out | apply below_alloc | apply pw_below_drewN | apply below_drew1 | refine below_set ?_ GE256.out) | exact HB.out))) : w.heap.size ≤ gb276));have n6_:=Aside0.mk ((by rw [hg];exact (below_size (by repeat (first | (with_reducible first | exact HB.out | apply below_alloc | apply pw_below_drewN | apply below_drew1 | refine below_set ?_ GE256.out) | exact HB.out))) : w.heap.size ≤ gb276));have n7_:=Aside0.mk ((by rw [hg];exact Nat.ne_of_lt (blk_lt (g:=gb256) (o:=.cells #[.int .i64 t253,.int .i64 t254,.int .i64 t255] 39 (0,0)) (by (with_reducible repeat (first | refine blk_drewN ?_ _ | refine blk_drew ?_ | refine blk_alloc ?_ _));exact BK256.out)) : gb256 ≠ gb276));have n8_:=Aside0.mk ((by rw [hg];exact Nat.ne_of_gt (blk_lt (g:=gb256) (o:=.cells #[.int .i64 t253,.int .i64 t254,.int .i64 t255] 39 (0,0)) (by (with_reducible repeat (first | refine blk_drewN ?_ _ | refine blk_drew ?_ | refine blk_alloc ?_ _));exact BK256.out)) : gb276 ≠ gb256));clear HO_5;clear HO272;clear BK256;clear HB;have HO_5:=n0_;have HO272:=n1_;have BK256:=n2_;have HB:=n3_;have BK276:=n4_;have GW276:=n5_;have GE276:=n6_;have NB256_276:=n7_;have NB276_256:=n8_;clear n0_ n1_ n2_ n3_ n4_ n5_ n6_ n7_ n8_;clear hb hbox hg;have hnb62:=NB276_256.out;have hnc62:=NB256_276.out;have hcz63_0 : w61.cell? ⟨gb276,0,none⟩ = some (.int .i64 0):=(blk_cell BK276.out 0).trans rfl;have hcz63_1 : w61.cell? ⟨gb276,1,none⟩ = some (.int .i64 0):=(blk_cell BK276.out 1).trans rfl;have hcz63_2 : w61.cell? ⟨gb276,2,none⟩ = some (.int .i64 0):=(blk_cell BK276.out 2).trans rfl;have hfz63_0:=blk_frozen BK276.out 0;have hfz63_1:=blk_frozen BK276.out 1;have hfz63_2:=blk_frozen BK276.out 2))
        go_ret
        exact ⟨by first | rfl | (simp [errW_none,errW_some] <;> rfl) | (simp [*,errW_none,errW_some] <;> rfl),by repeat (first | (with_reducible first | exact HB.out | apply below_alloc | apply pw_below_drewN | apply below_drew1 | refine below_set ?_ GE256.out | refine below_set ?_ GE276.out) | exact HB.out)⟩

end Go.Proofs.YtgalbiokebghkaaDoor.S
