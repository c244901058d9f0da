/- Written by a program of this claim's author (stubprint.py, over the kit's print) out of the translation: Go functions as Lean functions, and that the calls come to them. -/
import Derived.Test.YtgalbiokebghkaaDoorS0
import Derived.Test.YtgalbiokebghkaaDoorS1
import Derived.Test.YtgalbiokebghkaaDoorS2
import Derived.Test.YtgalbiokebghkaaDoorS8
import Derived.Test.YtgalbiokebghkaaDoorS9
import Derived.Test.YtgalbiokebghkaaDoorS10
import Derived.Test.YtgalbiokebghkaaDoorS11
import Derived.Test.YtgalbiokebghkaaDoorS12
import Derived.Test.YtgalbiokebghkaaDoorS13
import Derived.Test.YtgalbiokebghkaaDoorS18
import Derived.Test.YtgalbiokebghkaaDoorS19
import Derived.Test.YtgalbiokebghkaaDoorHandS
namespace Go.Proofs.YtgalbiokebghkaaDoor.S
open Go.RowKit Go.Proofs.YtgalbiokebghkaaDoorW.PrintWords Go.Proofs.YtgalbiokebghkaaDoorW.PrintLast Go.Proofs.YtgalbiokebghkaaDoorW.PrintMore Go.Proofs.YtgalbiokebghkaaDoor.HandS Go.Proofs.YtgalbiokebghkaaDoor.Iter
attribute [local go_sem] max2_int min2_int max_two min_two max_three min_three max_four min_four   -- for this text's walks alone
set_option linter.unusedVariables false
set_option linter.unusedSimpArgs false

attribute [local go_sem high] eqA37 eqA39
/-! ### joustlaw01_ScanTells: function 4 -/
mutual
def joustlaw01_ScanTells.j0 : Nat → ByteArray → Int → Bool → Option (Bool)
 | 0,_,_,_ => none
 | k + 1,x0,x1,x16 => if x16 = true then ((joustlaw01_lives.f k).bind fun t312 => (some t312)) else ((scan_Tokens.f k x0).bind fun bt313 => ((joustref01_Tokens.f k x0).bind fun bt320 => ((joustref00_Tokens.f k bt313.1 bt320.1).bind fun t327 => (if t327 = true then ((joustref00_Spots.f k bt313.1 bt320.1).bind fun t328 => (if t328 = true then (if (!(bt313.2.1 == bt320.2.1) || ((!(bt313.2.2.1 == bt320.2.2.1) || (!(bt313.2.2.2 == bt320.2.2.2))))) = true then (joustlaw01_ScanTells.j1 k x0 x1 true) else ((scan_Word.f k x0).bind fun t329 => ((joustref01_Word.f k x0).bind fun t330 => (joustlaw01_ScanTells.j1 k x0 x1 (t329 != t330))))) else (joustlaw01_ScanTells.j1 k x0 x1 true))) else (joustlaw01_ScanTells.j1 k x0 x1 true)))))
def joustlaw01_ScanTells.j1 : Nat → ByteArray → Int → Bool → Option (Bool)
 | 0,_,_,_ => none
 | k + 1,x0,x1,x49 => if x49 = true then (some false) else (if (x0.size : Int) > 3000 then ((joustlaw01_lives.f k).bind fun t331 => (some t331)) else ((scan_Where.f k x0 x1).bind fun bt332 => ((joustref01_Where.f k x0 x1).bind fun bt334 => (if (bt332.1 == bt334.1 && (bt332.2 == bt334.2)) = true then ((joustlaw01_lives.f k).bind fun t336 => (some t336)) else (some false)))))
end
def joustlaw01_ScanTells.f (k : Nat) (a0 : ByteArray) (a1 : Int) : Option (Bool):=if (a0.size : Int) > 3000 then (joustlaw01_ScanTells.j0 k a0 a1 (decide ((a0.size : Int) ≤ 65536))) else (joustlaw01_ScanTells.j0 k a0 a1 false)
theorem joustlaw01_ScanTells.mono_l : ∀ k,(∀ y0 y1 y2,LeO (joustlaw01_ScanTells.j0 k y0 y1 y2) (joustlaw01_ScanTells.j0 (k + 1) y0 y1 y2)) ∧ (∀ y0 y1 y2,LeO (joustlaw01_ScanTells.j1 k y0 y1 y2) (joustlaw01_ScanTells.j1 (k + 1) y0 y1 y2))
 | 0 => ⟨fun _ _ _ r h => by simp [joustlaw01_ScanTells.j0] at h,fun _ _ _ r h => by simp [joustlaw01_ScanTells.j1] at h⟩
 | k + 1 => by
  obtain ⟨ih0,ih1⟩:=joustlaw01_ScanTells.mono_l k
  refine ⟨?_,?_⟩
  ·intro y0 y1 y2
   unfold joustlaw01_ScanTells.j0
   repeat' first
   | (with_reducible exact ih0 _ _ _)
   | (with_reducible exact ih1 _ _ _)
   | (with_reducible exact joustlaw01_lives.mono _)
   | (with_reducible exact joustref00_Spots.mono _ _ _)
   | (with_reducible exact joustref00_Tokens.mono _ _ _)
   | (with_reducible exact joustref01_Tokens.mono _ _)
   | (with_reducible exact joustref01_Where.mono _ _ _)
   | (with_reducible exact joustref01_Word.mono _ _)
   | (with_reducible exact scan_Tokens.mono _ _)
   | (with_reducible exact scan_Where.mono _ _ _)
   | (with_reducible exact scan_Word.mono _ _)
   | (with_reducible exact LeO.refl _)
   | (with_reducible exact LeO.none _)
   | (with_reducible refine LeO.ite ?_ ?_)
   | (with_reducible refine LeO.bind ?_ (fun _ => ?_))
   | exact ih0 _ _ _
   | exact ih1 _ _ _
   | exact joustlaw01_lives.mono _
   | exact joustref00_Spots.mono _ _ _
   | exact joustref00_Tokens.mono _ _ _
   | exact joustref01_Tokens.mono _ _
   | exact joustref01_Where.mono _ _ _
   | exact joustref01_Word.mono _ _
   | exact scan_Tokens.mono _ _
   | exact scan_Where.mono _ _ _
   | exact scan_Word.mono _ _
   | exact LeO.none _
   | refine LeO.ite ?_ ?_
   | refine LeO.bind ?_ (fun _ => ?_)
  ·intro y0 y1 y2
   unfold joustlaw01_ScanTells.j1
   repeat' first
   | (with_reducible exact ih0 _ _ _)
   | (with_reducible exact ih1 _ _ _)
   | (with_reducible exact joustlaw01_lives.mono _)
   | (with_reducible exact joustref00_Spots.mono _ _ _)
   | (with_reducible exact joustref00_Tokens.mono _ _ _)
   | (with_reducible exact joustref01_Tokens.mono _ _)
   | (with_reducible exact joustref01_Where.mono _ _ _)
   | (with_reducible exact joustref01_Word.mono _ _)
   | (with_reducible exact scan_Tokens.mono _ _)
   | (with_reducible exact scan_Where.mono _ _ _)
   | (with_reducible exact scan_Word.mono _ _)
   | (with_reducible exact LeO.refl _)
   | (with_reducible exact LeO.none _)
   | (with_reducible refine LeO.ite ?_ ?_)
   | (with_reducible refine LeO.bind ?_ (fun _ => ?_))
   | exact ih0 _ _ _
   | exact ih1 _ _ _
   | exact joustlaw01_lives.mono _
   | exact joustref00_Spots.mono _ _ _
   | exact joustref00_Tokens.mono _ _ _
   | exact joustref01_Tokens.mono _ _
   | exact joustref01_Where.mono _ _ _
   | exact joustref01_Word.mono _ _
   | exact scan_Tokens.mono _ _
   | exact scan_Where.mono _ _ _
   | exact scan_Word.mono _ _
   | exact LeO.none _
   | refine LeO.ite ?_ ?_
   | refine LeO.bind ?_ (fun _ => ?_)
theorem joustlaw01_ScanTells.mono : ∀ a0 a1 k,LeO (joustlaw01_ScanTells.f k a0 a1) (joustlaw01_ScanTells.f (k + 1) a0 a1):=by
 intro a0 a1 k
 obtain ⟨ih0,ih1⟩:=joustlaw01_ScanTells.mono_l k
 unfold joustlaw01_ScanTells.f
 repeat' first
   | (with_reducible exact ih0 _ _ _)
   | (with_reducible exact ih1 _ _ _)
   | (with_reducible exact joustlaw01_lives.mono _)
   | (with_reducible exact joustref00_Spots.mono _ _ _)
   | (with_reducible exact joustref00_Tokens.mono _ _ _)
   | (with_reducible exact joustref01_Tokens.mono _ _)
   | (with_reducible exact joustref01_Where.mono _ _ _)
   | (with_reducible exact joustref01_Word.mono _ _)
   | (with_reducible exact scan_Tokens.mono _ _)
   | (with_reducible exact scan_Where.mono _ _ _)
   | (with_reducible exact scan_Word.mono _ _)
   | (with_reducible exact LeO.refl _)
   | (with_reducible exact LeO.none _)
   | (with_reducible refine LeO.ite ?_ ?_)
   | (with_reducible refine LeO.bind ?_ (fun _ => ?_))
   | exact ih0 _ _ _
   | exact ih1 _ _ _
   | exact joustlaw01_lives.mono _
   | exact joustref00_Spots.mono _ _ _
   | exact joustref00_Tokens.mono _ _ _
   | exact joustref01_Tokens.mono _ _
   | exact joustref01_Where.mono _ _ _
   | exact joustref01_Word.mono _ _
   | exact scan_Tokens.mono _ _
   | exact scan_Where.mono _ _ _
   | exact scan_Word.mono _ _
   | exact LeO.none _
   | refine LeO.ite ?_ ?_
   | refine LeO.bind ?_ (fun _ => ?_)
set_option maxHeartbeats 8000000 in
set_option maxRecDepth 100000 in
theorem joustlaw01_ScanTells.calls (k : Nat) (a0 : ByteArray) (a1 : Int) (r : Bool) (w : World) (hG : Tabs w) (h : joustlaw01_ScanTells.f k a0 a1 = some r) :
  Calls Tryd.prog 4 #[.string a0,.int .i64 a1] w fun e w' => e = .returned (.bool r) ∧ Below w.heap.size w w':=by
 have hu39:=Tryd.underlying39
 have HG:=Aside0.mk hG
 clear hG
 have HB:=Aside0.mk (Below.refl w.heap.size w)
 have H : (if (a0.size : Int) > 3000 then (joustlaw01_ScanTells.j0 k a0 a1 (decide ((a0.size : Int) ≤ 65536))) else (joustlaw01_ScanTells.j0 k a0 a1 false)) = some r:=h
 clear h
 have HC3:=Aside0.mk H
 clear H
 go_enter Tryd.func4,Tryd.ntmps4
 go_upto_region 1 with (fail)
 go_cut [16] (fun v16 wc => ∃ (kq : Nat) (x16_2 : Bool),v16 = .bool x16_2 ∧ Aside0 (joustlaw01_ScanTells.j0 kq a0 a1 x16_2 = some r) ∧ Aside0 (kq ≤ k) ∧ Aside0 (Below w.heap.size w wc))
 case first =>
  have H:=HC3.out
  clear HC3
  by_cases c4 : (a0.size : Int) > 3000
  ·rw [if_pos c4] at H
   have c4b0 : decide (3000 < (a0.size : Int)) = true:=decide_eq_true c4
   have c4b1 : decide (3000 < a0.size) = true:=decide_eq_true (by omega)
   clear c4
   (first | rw [c4b0] | (simp only [i64_w,i32_w];rw [c4b0]) | skip)
   have H':=Aside0.mk H
   clear H
   go_wp2
   go_meet
   case rel => exact ⟨_,(decide ((a0.size : Int) ≤ 65536)),(by first | rfl | (simp;done) | (simp [*];done)),H',⟨by first | omega | exact Nat.le_refl _⟩,⟨by repeat (first | (with_reducible first | exact HB.out | apply below_alloc | apply pw_below_drewN | apply below_drew1) | exact HB.out)⟩⟩
  ·rw [if_neg c4] at H
   have c4b0 : decide (3000 < (a0.size : Int)) = false:=decide_eq_false c4
   have c4b1 : decide (3000 < a0.size) = false:=decide_eq_false (by omega)
   clear c4
   (first | rw [c4b0] | (simp only [i64_w,i32_w];rw [c4b0]) | skip)
   have H':=Aside0.mk H
   clear H
   go_wp2
   go_meet
   case rel => exact ⟨_,(false),(by first | rfl | (simp;done) | (simp [*];done)),H',⟨by first | omega | exact Nat.le_refl _⟩,⟨by repeat (first | (with_reducible first | exact HB.out | apply below_alloc | apply pw_below_drewN | apply below_drew1) | exact HB.out)⟩⟩
 case rest =>
  clear HC3
  try clear p2
  try clear c4
  try clear c4b0
  try clear c4b1
  obtain ⟨kq,x16_2,rfl,HA,HJ2,HB⟩:=hcut
  cases kq with
  | zero => exact absurd HA.out (by simp [joustlaw01_ScanTells.j0])
  | succ kj2 =>
   have H:=HA.out
   clear HA
   simp only [joustlaw01_ScanTells.j0] at H
   by_cases c5 : x16_2 = true
   ·subst c5
    have H1 : ((joustlaw01_lives.f kj2).bind fun t312 => (some t312)) = some r:=by rw [if_pos rfl] at H;exact H
    clear H
    have H:=H1
    clear H1
    replace H:=Option.bind_eq_some_iff.mp H
    obtain ⟨t312,A60,H⟩:=H
    replace H : (some t312) = some r:=H
    have A6:=Aside0.mk A60
    clear A60
    obtain rfl:=Option.some.inj H
    go_wp2_with (first | ((with_reducible refine gate_callee (f:=14) rfl ?_);refine goesL_ (some 17) rfl rfl Tryd.func14 (by kernel_rfl) rfl #[] rfl (by (try simp only [List.map_toArray,List.map_cons,List.map_nil]);first | done | rfl | (simp only [List.length_drop,List.length_take];rfl)) ?_;(with_reducible refine (joustlaw01_lives.calls kj2  t312 _ ?side1 A6.out).mono ?_);(case side1 => exact Tabs.below HG.out (by repeat (first | (with_reducible first | exact HB.out | apply below_alloc | apply pw_below_drewN | apply below_drew1) | exact HB.out)));rintro e w7 ⟨rfl,hb⟩;refine ⟨_,rfl,?_⟩;have n0_:=Aside0.mk (below_step (by repeat (first | (with_reducible first | exact HB.out | apply below_alloc | apply pw_below_drewN | apply below_drew1) | exact HB.out)) hb);clear HB;have HB:=n0_;clear n0_;(try clear hb);(try clear hb2);(try clear hk);(try clear hi)))
    go_ret
    exact ⟨by first | rfl | (simp [errW_none,errW_some] <;> rfl) | (simp [*,errW_none,errW_some] <;> rfl),by repeat (first | (with_reducible first | exact HB.out | apply below_alloc | apply pw_below_drewN | apply below_drew1) | exact HB.out)⟩
   ·replace c5:=Bool.eq_false_iff.mpr c5
    subst c5
    have H1 : ((scan_Tokens.f kj2 a0).bind fun bt313 => ((joustref01_Tokens.f kj2 a0).bind fun bt320 => ((joustref00_Tokens.f kj2 bt313.1 bt320.1).bind fun t327 => (if t327 = true then ((joustref00_Spots.f kj2 bt313.1 bt320.1).bind fun t328 => (if t328 = true then (if (!(bt313.2.1 == bt320.2.1) || ((!(bt313.2.2.1 == bt320.2.2.1) || (!(bt313.2.2.2 == bt320.2.2.2))))) = true then (joustlaw01_ScanTells.j1 kj2 a0 a1 true) else ((scan_Word.f kj2 a0).bind fun t329 => ((joustref01_Word.f kj2 a0).bind fun t330 => (joustlaw01_ScanTells.j1 kj2 a0 a1 (t329 != t330))))) else (joustlaw01_ScanTells.j1 kj2 a0 a1 true))) else (joustlaw01_ScanTells.j1 kj2 a0 a1 true))))) = some r:=by rw [if_neg (show ¬ (false = true) by decide)] at H;exact H
    clear H
    have H:=H1
    clear H1
    replace H:=Option.bind_eq_some_iff.mp H
    obtain ⟨⟨t313,t316,t317,t318⟩,A80,H⟩:=H
    replace H : ((joustref01_Tokens.f kj2 a0).bind fun bt320 => ((joustref00_Tokens.f kj2 t313 bt320.1).bind fun t327 => (if t327 = true then ((joustref00_Spots.f kj2 t313 bt320.1).bind fun t328 => (if t328 = true then (if (!(t316 == bt320.2.1) || ((!(t317 == bt320.2.2.1) || (!(t318 == bt320.2.2.2))))) = true then (joustlaw01_ScanTells.j1 kj2 a0 a1 true) else ((scan_Word.f kj2 a0).bind fun t329 => ((joustref01_Word.f kj2 a0).bind fun t330 => (joustlaw01_ScanTells.j1 kj2 a0 a1 (t329 != t330))))) else (joustlaw01_ScanTells.j1 kj2 a0 a1 true))) else (joustlaw01_ScanTells.j1 kj2 a0 a1 true)))) = some r:=H
    have A8:=Aside0.mk A80
    clear A80
    replace H:=Option.bind_eq_some_iff.mp H
    obtain ⟨⟨t320,t323,t324,t325⟩,A90,H⟩:=H
    replace H : ((joustref00_Tokens.f kj2 t313 t320).bind fun t327 => (if t327 = true then ((joustref00_Spots.f kj2 t313 t320).bind fun t328 => (if t328 = true then (if (!(t316 == t323) || ((!(t317 == t324) || (!(t318 == t325))))) = true then (joustlaw01_ScanTells.j1 kj2 a0 a1 true) else ((scan_Word.f kj2 a0).bind fun t329 => ((joustref01_Word.f kj2 a0).bind fun t330 => (joustlaw01_ScanTells.j1 kj2 a0 a1 (t329 != t330))))) else (joustlaw01_ScanTells.j1 kj2 a0 a1 true))) else (joustlaw01_ScanTells.j1 kj2 a0 a1 true))) = some r:=H
    have A9:=Aside0.mk A90
    clear A90
    have HC10:=Aside0.mk H
    clear H
    go_upto_region 5 with (first | ((with_reducible refine gate_callee (f:=15) rfl ?_);refine goesL_ (some 20) rfl rfl Tryd.func15 (by kernel_rfl) rfl #[.string a0] rfl (by (try simp only [List.map_toArray,List.map_cons,List.map_nil]);first | done | rfl | (simp only [List.length_drop,List.length_take];rfl)) ?_;(with_reducible refine (scan_Tokens.calls kj2 a0 t313 t316 t317 t318 _ ?side1 A8.out).mono ?_);(case side1 => exact Tabs.below HG.out (by repeat (first | (with_reducible first | exact HB.out | apply below_alloc | apply pw_below_drewN | apply below_drew1) | exact HB.out)));rintro e w11 ⟨v314,rfl,ho0,hb⟩;refine ⟨_,rfl,?_⟩;have n0_:=Aside0.mk (Kd.R_lower ho0 (below_size (by repeat (first | (with_reducible first | exact HB.out | apply below_alloc | apply pw_below_drewN | apply below_drew1) | exact HB.out))));have n1_:=Aside0.mk (below_step (by repeat (first | (with_reducible first | exact HB.out | apply below_alloc | apply pw_below_drewN | apply below_drew1) | exact HB.out)) hb);clear HB;have HO315:=n0_;have HB:=n1_;clear n0_ n1_;(try clear hb);(try clear hb2);(try clear hk);(try clear hi);(try clear ho0)) | ((with_reducible refine gate_dst (N:=6) rfl ?_);(try (refine gate_guard (by rfl) ?_;dsimp only));refine box_event ?hg (N:=6) ?hd (cs:=#[.int .i64 0,.int .i64 0,.int .i64 0]) (t:=39) ?hr ?_;(case hd => rfl);(case hg => rfl);(case hr => first | (go_simp;done) | (go_simp;rfl));intro gb319 hg w12 hbox hb;have n0_:=Aside0.mk (Kd.R_below (by (with_reducible repeat (first | apply Kd.R_alloc | apply Kd.R_drewN | apply Kd.R_drew));exact HO315.out) hb);have n1_:=Aside0.mk (below_step (by repeat (first | (with_reducible first | exact HB.out | apply below_alloc | apply pw_below_drewN | apply below_drew1) | exact HB.out)) hb);have n2_:=Aside0.mk (hbox);have n3_:=Aside0.mk ((by rw [hg];exact (below_size (by repeat (first | (with_reducible first | exact HB.out | apply below_alloc | apply pw_below_drewN | apply below_drew1) | exact HB.out))) : w.heap.size ≤ gb319));have n4_:=Aside0.mk ((by rw [hg];exact (below_size (by repeat (first | (with_reducible first | exact HB.out | apply below_alloc | apply pw_below_drewN | apply below_drew1) | exact HB.out))) : w.heap.size ≤ gb319));clear HO315;clear HB;have HO315:=n0_;have HB:=n1_;have BK319:=n2_;have GW319:=n3_;have GE319:=n4_;clear n0_ n1_ n2_ n3_ n4_;clear hb hbox hg;have hcz13_0 : w12.cell? ⟨gb319,0,none⟩ = some (.int .i64 0):=(blk_cell BK319.out 0).trans rfl;have hcz13_1 : w12.cell? ⟨gb319,1,none⟩ = some (.int .i64 0):=(blk_cell BK319.out 1).trans rfl;have hcz13_2 : w12.cell? ⟨gb319,2,none⟩ = some (.int .i64 0):=(blk_cell BK319.out 2).trans rfl;have hfz13_0:=blk_frozen BK319.out 0;have hfz13_1:=blk_frozen BK319.out 1;have hfz13_2:=blk_frozen BK319.out 2) | ((with_reducible refine gate_callee (f:=16) rfl ?_);refine goesL_ (some 25) rfl rfl Tryd.func16 (by kernel_rfl) rfl #[.string a0] rfl (by (try simp only [List.map_toArray,List.map_cons,List.map_nil]);first | done | rfl | (simp only [List.length_drop,List.length_take];rfl)) ?_;(with_reducible refine (joustref01_Tokens.calls kj2 a0 t320 t323 t324 t325 _ ?side1 A9.out).mono ?_);(case side1 => exact Tabs.below HG.out (by repeat (first | (with_reducible first | exact HB.out | apply below_alloc | apply pw_below_drewN | apply below_drew1 | refine below_set ?_ GE319.out) | exact HB.out)));rintro e w14 ⟨v321,rfl,ho0,hb⟩;refine ⟨_,rfl,?_⟩;have n0_:=Aside0.mk (Kd.R_elder' (by (with_reducible repeat (first | apply Kd.R_alloc | apply Kd.R_drewN | apply Kd.R_drew));exact (Kd.R_mono (Kd.R_far (p:=⟨gb319,2,none⟩) (Kd.R_far (p:=⟨gb319,1,none⟩) (Kd.R_far (p:=⟨gb319,0,none⟩) (Kd.R_types HO315.out BK319.out (by decide)) (fun _ hk => hk.2) (.int .i64 t316)) (fun _ hk => hk.2) (.int .i64 t317)) (fun _ hk => hk.2) (.int .i64 t318)) (fun _ h_ => h_.1))) (Kd.R_base ho0) hb);have n1_:=Aside0.mk (Kd.R_lower (Kd.R_new' ho0 (Kd.R_lt (by (with_reducible repeat (first | apply Kd.R_alloc | apply Kd.R_drewN | apply Kd.R_drew));exact (Kd.R_mono (Kd.R_far (p:=⟨gb319,2,none⟩) (Kd.R_far (p:=⟨gb319,1,none⟩) (Kd.R_far (p:=⟨gb319,0,none⟩) (Kd.R_types HO315.out BK319.out (by decide)) (fun _ hk => hk.2) (.int .i64 t316)) (fun _ hk => hk.2) (.int .i64 t317)) (fun _ hk => hk.2) (.int .i64 t318)) (fun _ h_ => h_.1))))) (below_size (by repeat (first | (with_reducible first | exact HB.out | apply below_alloc | apply pw_below_drewN | apply below_drew1 | refine below_set ?_ GE319.out) | exact HB.out))));have n2_:=Aside0.mk (blk_below (g:=gb319) (o:=.cells #[.int .i64 t316,.int .i64 t317,.int .i64 t318] 39 (0,0)) (by (with_reducible repeat (first | refine blk_drewN ?_ _ | refine blk_drew ?_ | refine blk_alloc ?_ _));refine blk_put (cs:=#[.int .i64 t316,.int .i64 t317,.int .i64 0]) ?_ 2 _ rfl;(with_reducible repeat (first | refine blk_drewN ?_ _ | refine blk_drew ?_ | refine blk_alloc ?_ _));refine blk_put (cs:=#[.int .i64 t316,.int .i64 0,.int .i64 0]) ?_ 1 _ rfl;(with_reducible repeat (first | refine blk_drewN ?_ _ | refine blk_drew ?_ | refine blk_alloc ?_ _));refine blk_put (cs:=#[.int .i64 0,.int .i64 0,.int .i64 0]) ?_ 0 _ rfl;(with_reducible repeat (first | refine blk_drewN ?_ _ | refine blk_drew ?_ | refine blk_alloc ?_ _));exact BK319.out) hb);have n3_:=Aside0.mk (below_step (by repeat (first | (with_reducible first | exact HB.out | apply below_alloc | apply pw_below_drewN | apply below_drew1 | refine below_set ?_ GE319.out) | exact HB.out)) hb);clear HO315;clear BK319;clear HB;have HO315:=n0_;have HO322:=n1_;have BK319:=n2_;have HB:=n3_;clear n0_ n1_ n2_ n3_;(try clear hb);(try clear hb2);(try clear hk);(try clear hi);(try clear ho0)) | ((with_reducible refine gate_dst (N:=8) rfl ?_);(try (refine gate_guard (by rfl) ?_;dsimp only));refine box_event ?hg (N:=8) ?hd (cs:=#[.int .i64 0,.int .i64 0,.int .i64 0]) (t:=39) ?hr ?_;(case hd => rfl);(case hg => rfl);(case hr => first | (go_simp;done) | (go_simp;rfl));intro gb326 hg w15 hbox hb;have n0_:=Aside0.mk (Kd.R_below (by (with_reducible repeat (first | apply Kd.R_alloc | apply Kd.R_drewN | apply Kd.R_drew));exact HO315.out) hb);have n1_:=Aside0.mk (Kd.R_below (by (with_reducible repeat (first | apply Kd.R_alloc | apply Kd.R_drewN | apply Kd.R_drew));exact HO322.out) hb);have n2_:=Aside0.mk (blk_below (g:=gb319) (o:=.cells #[.int .i64 t316,.int .i64 t317,.int .i64 t318] 39 (0,0)) (by (with_reducible repeat (first | refine blk_drewN ?_ _ | refine blk_drew ?_ | refine blk_alloc ?_ _));exact BK319.out) hb);have n3_:=Aside0.mk (below_step (by repeat (first | (with_reducible first | exact HB.out | apply below_alloc | apply pw_below_drewN | apply below_drew1 | refine below_set ?_ GE319.out) | exact HB.out)) hb);have n4_:=Aside0.mk (hbox);have n5_:=Aside0.mk ((by rw [hg];exact (below_size (by repeat (first | (with_reducible first | exact HB.out | apply below_alloc | apply pw_below_drewN | apply below_drew1 | refine below_set ?_ GE319.out) | exact HB.out))) : w.heap.size ≤ gb326));have n6_:=Aside0.mk ((by rw [hg];exact (below_size (by repeat (first | (with_reducible first | exact HB.out | apply below_alloc | apply pw_below_drewN | apply below_drew1 | refine below_set ?_ GE319.out) | exact HB.out))) : w.heap.size ≤ gb326));have n7_:=Aside0.mk ((by rw [hg];exact Nat.ne_of_lt (blk_lt (g:=gb319) (o:=.cells #[.int .i64 t316,.int .i64 t317,.int .i64 t318] 39 (0,0)) (by (with_reducible repeat (first | refine blk_drewN ?_ _ | refine blk_drew ?_ | refine blk_alloc ?_ _));exact BK319.out)) : gb319 ≠ gb326));have n8_:=Aside0.mk ((by rw [hg];exact Nat.ne_of_gt (blk_lt (g:=gb319) (o:=.cells #[.int .i64 t316,.int .i64 t317,.int .i64 t318] 39 (0,0)) (by (with_reducible repeat (first | refine blk_drewN ?_ _ | refine blk_drew ?_ | refine blk_alloc ?_ _));exact BK319.out)) : gb326 ≠ gb319));clear HO315;clear HO322;clear BK319;clear HB;have HO315:=n0_;have HO322:=n1_;have BK319:=n2_;have HB:=n3_;have BK326:=n4_;have GW326:=n5_;have GE326:=n6_;have NB319_326:=n7_;have NB326_319:=n8_;clear n0_ n1_ n2_ n3_ n4_ n5_ n6_ n7_ n8_;clear hb hbox hg;have hnb16:=NB326_319.out;have hnc16:=NB319_326.out;have hcz17_0 : w15.cell? ⟨gb326,0,none⟩ = some (.int .i64 0):=(blk_cell BK326.out 0).trans rfl;have hcz17_1 : w15.cell? ⟨gb326,1,none⟩ = some (.int .i64 0):=(blk_cell BK326.out 1).trans rfl;have hcz17_2 : w15.cell? ⟨gb326,2,none⟩ = some (.int .i64 0):=(blk_cell BK326.out 2).trans rfl;have hfz17_0:=blk_frozen BK326.out 0;have hfz17_1:=blk_frozen BK326.out 1;have hfz17_2:=blk_frozen BK326.out 2))
    (try simp only [Act.put,List.setIfInBounds_toArray,List.set_cons_zero,List.set_cons_succ])
    go_cut [49] (fun v49 wc => ∃ (kq : Nat) (x49_9 : Bool),v49 = .bool x49_9 ∧ Aside0 (joustlaw01_ScanTells.j1 kq a0 a1 x49_9 = some r) ∧ Aside0 (kq ≤ kj2) ∧ Aside0 (wc.heap[gb319]? = some (.cells #[.int .i64 t316,.int .i64 t317,.int .i64 t318] 39 (0,0))) ∧ Aside0 (wc.heap[gb326]? = some (.cells #[.int .i64 t323,.int .i64 t324,.int .i64 t325] 39 (0,0))) ∧ Aside0 (Below w.heap.size w wc))
    case first =>
     have H:=HC10.out
     clear HC10
     replace H:=Option.bind_eq_some_iff.mp H
     obtain ⟨t327,A180,H⟩:=H
     replace H : (if t327 = true then ((joustref00_Spots.f kj2 t313 t320).bind fun t328 => (if t328 = true then (if (!(t316 == t323) || ((!(t317 == t324) || (!(t318 == t325))))) = true then (joustlaw01_ScanTells.j1 kj2 a0 a1 true) else ((scan_Word.f kj2 a0).bind fun t329 => ((joustref01_Word.f kj2 a0).bind fun t330 => (joustlaw01_ScanTells.j1 kj2 a0 a1 (t329 != t330))))) else (joustlaw01_ScanTells.j1 kj2 a0 a1 true))) else (joustlaw01_ScanTells.j1 kj2 a0 a1 true)) = some r:=H
     have A18:=Aside0.mk A180
     clear A180
     by_cases c19 : t327 = true
     ·subst c19
      have H1 : ((joustref00_Spots.f kj2 t313 t320).bind fun t328 => (if t328 = true then (if (!(t316 == t323) || ((!(t317 == t324) || (!(t318 == t325))))) = true then (joustlaw01_ScanTells.j1 kj2 a0 a1 true) else ((scan_Word.f kj2 a0).bind fun t329 => ((joustref01_Word.f kj2 a0).bind fun t330 => (joustlaw01_ScanTells.j1 kj2 a0 a1 (t329 != t330))))) else (joustlaw01_ScanTells.j1 kj2 a0 a1 true))) = some r:=by rw [if_pos rfl] at H;exact H
      clear H
      have H:=H1
      clear H1
      replace H:=Option.bind_eq_some_iff.mp H
      obtain ⟨t328,A200,H⟩:=H
      replace H : (if t328 = true then (if (!(t316 == t323) || ((!(t317 == t324) || (!(t318 == t325))))) = true then (joustlaw01_ScanTells.j1 kj2 a0 a1 true) else ((scan_Word.f kj2 a0).bind fun t329 => ((joustref01_Word.f kj2 a0).bind fun t330 => (joustlaw01_ScanTells.j1 kj2 a0 a1 (t329 != t330))))) else (joustlaw01_ScanTells.j1 kj2 a0 a1 true)) = some r:=H
      have A20:=Aside0.mk A200
      clear A200
      by_cases c21 : t328 = true
      ·subst c21
       have H1 : (if (!(t316 == t323) || ((!(t317 == t324) || (!(t318 == t325))))) = true then (joustlaw01_ScanTells.j1 kj2 a0 a1 true) else ((scan_Word.f kj2 a0).bind fun t329 => ((joustref01_Word.f kj2 a0).bind fun t330 => (joustlaw01_ScanTells.j1 kj2 a0 a1 (t329 != t330))))) = some r:=by rw [if_pos rfl] at H;exact H
       clear H
       have H:=H1
       clear H1
       by_cases c22 : (!(t316 == t323) || ((!(t317 == t324) || (!(t318 == t325))))) = true
       ·rw [if_pos c22] at H
        have c22b0 : (!(t316 == t323) || ((!(t317 == t324) || (!(t318 == t325))))) = true:=c22
        clear c22
        (first | rw [c22b0] | (simp only [i64_w,i32_w];rw [c22b0]) | skip)
        have H':=Aside0.mk H
        clear H
        obtain ⟨Ao23,co23,eo23⟩:=Kd.R_slice HO315.out
        subst eo23
        obtain ⟨Ao24,co24,eo24⟩:=Kd.R_slice HO322.out
        subst eo24
        go_wp2_with (first | ((with_reducible refine gate_callee (f:=17) rfl ?_);refine goesL_ (some 30) rfl rfl Tryd.func17 (by kernel_rfl) rfl #[.slice Ao23 t313.length co23,.slice Ao24 t320.length co24] rfl (by (try simp only [List.map_toArray,List.map_cons,List.map_nil]);first | done | rfl | (simp only [List.length_drop,List.length_take];rfl)) ?_;(with_reducible refine (joustref00_Tokens.calls kj2 _ _ t313 _ _ t320 true _ ?side1 ?side2 ?side3 ?side4 A18.out).mono ?_);(case side1 => refine (Kd.R_reads' (e:=48) (base:=w.heap.size) (ok:=fun k_ => (True ∧ some k_ ≠ (.slice Ao24 t320.length co24 : Value).ownBlock)) (n:=t313.length) (c:=co23) ?_).2.2;exact (by (with_reducible repeat (first | apply Kd.R_alloc | apply Kd.R_drewN | apply Kd.R_drew));exact (Kd.R_mono (Kd.R_far (p:=⟨gb326,2,none⟩) (Kd.R_far (p:=⟨gb326,1,none⟩) (Kd.R_far (p:=⟨gb326,0,none⟩) (Kd.R_types HO315.out BK326.out (by decide)) (fun _ hk => hk.2) (.int .i64 t323)) (fun _ hk => hk.2) (.int .i64 t324)) (fun _ hk => hk.2) (.int .i64 t325)) (fun _ h_ => h_.1))));(case side2 => exact (Kd.R_reads' HO315.out).2.1);(case side3 => refine (Kd.R_reads' (e:=48) (base:=w.heap.size) (ok:=fun k_ => (True ∧ some k_ ≠ (.slice Ao23 t313.length co23 : Value).ownBlock)) (n:=t320.length) (c:=co24) ?_).2.2;exact (by (with_reducible repeat (first | apply Kd.R_alloc | apply Kd.R_drewN | apply Kd.R_drew));exact (Kd.R_mono (Kd.R_far (p:=⟨gb326,2,none⟩) (Kd.R_far (p:=⟨gb326,1,none⟩) (Kd.R_far (p:=⟨gb326,0,none⟩) (Kd.R_types HO322.out BK326.out (by decide)) (fun _ hk => hk.2) (.int .i64 t323)) (fun _ hk => hk.2) (.int .i64 t324)) (fun _ hk => hk.2) (.int .i64 t325)) (fun _ h_ => h_.1))));(case side4 => exact (Kd.R_reads' HO322.out).2.1);rintro e w' ⟨rfl,⟨nd,rfl⟩⟩;refine ⟨_,rfl,?_⟩) | (go_at_call 18;(with_reducible refine (joustref00_Spots.calls kj2 _ _ t313 _ _ t320 true _ ?side1 ?side2 ?side3 ?side4 A20.out).mono ?_);(case side1 => refine (Kd.R_reads' (e:=48) (base:=w.heap.size) (ok:=fun k_ => (True ∧ some k_ ≠ (.slice Ao24 t320.length co24 : Value).ownBlock)) (n:=t313.length) (c:=co23) ?_).2.2;exact (by (with_reducible repeat (first | apply Kd.R_alloc | apply Kd.R_drewN | apply Kd.R_drew));exact (Kd.R_mono (Kd.R_far (p:=⟨gb326,2,none⟩) (Kd.R_far (p:=⟨gb326,1,none⟩) (Kd.R_far (p:=⟨gb326,0,none⟩) (Kd.R_types HO315.out BK326.out (by decide)) (fun _ hk => hk.2) (.int .i64 t323)) (fun _ hk => hk.2) (.int .i64 t324)) (fun _ hk => hk.2) (.int .i64 t325)) (fun _ h_ => h_.1))));(case side2 => exact (Kd.R_reads' HO315.out).2.1);(case side3 => refine (Kd.R_reads' (e:=48) (base:=w.heap.size) (ok:=fun k_ => (True ∧ some k_ ≠ (.slice Ao23 t313.length co23 : Value).ownBlock)) (n:=t320.length) (c:=co24) ?_).2.2;exact (by (with_reducible repeat (first | apply Kd.R_alloc | apply Kd.R_drewN | apply Kd.R_drew));exact (Kd.R_mono (Kd.R_far (p:=⟨gb326,2,none⟩) (Kd.R_far (p:=⟨gb326,1,none⟩) (Kd.R_far (p:=⟨gb326,0,none⟩) (Kd.R_types HO322.out BK326.out (by decide)) (fun _ hk => hk.2) (.int .i64 t323)) (fun _ hk => hk.2) (.int .i64 t324)) (fun _ hk => hk.2) (.int .i64 t325)) (fun _ h_ => h_.1))));(case side4 => exact (Kd.R_reads' HO322.out).2.1);rintro e w' ⟨rfl,⟨nd,rfl⟩⟩;have hnb25:=NB319_326.out;have hnc25:=NB326_319.out;have hcz26_0 : w15.cell? ⟨gb319,0,none⟩ = some (.int .i64 t316):=(blk_cell BK319.out 0).trans rfl;have hcz26_1 : w15.cell? ⟨gb319,1,none⟩ = some (.int .i64 t317):=(blk_cell BK319.out 1).trans rfl;have hcz26_2 : w15.cell? ⟨gb319,2,none⟩ = some (.int .i64 t318):=(blk_cell BK319.out 2).trans rfl;have hfz26_0:=blk_frozen BK319.out 0;have hfz26_1:=blk_frozen BK319.out 1;have hfz26_2:=blk_frozen BK319.out 2;have hcz27_0 : w15.cell? ⟨gb326,0,none⟩ = some (.int .i64 0):=(blk_cell BK326.out 0).trans rfl;have hcz27_1 : w15.cell? ⟨gb326,1,none⟩ = some (.int .i64 0):=(blk_cell BK326.out 1).trans rfl;have hcz27_2 : w15.cell? ⟨gb326,2,none⟩ = some (.int .i64 0):=(blk_cell BK326.out 2).trans rfl;have hfz27_0:=blk_frozen BK326.out 0;have hfz27_1:=blk_frozen BK326.out 1;have hfz27_2:=blk_frozen BK326.out 2))
        go_meet
        case rel => exact ⟨_,(true),(by first | rfl | (simp;done) | (simp [*];done)),H',⟨by have:=HJ2.out;first | omega | exact Nat.le_refl _⟩,⟨by (with_reducible repeat (first | refine blk_drewN ?_ _ | refine blk_drew ?_ | refine blk_alloc ?_ _));refine blk_far ?_ NB319_326.out _;(with_reducible repeat (first | refine blk_drewN ?_ _ | refine blk_drew ?_ | refine blk_alloc ?_ _));refine blk_far ?_ NB319_326.out _;(with_reducible repeat (first | refine blk_drewN ?_ _ | refine blk_drew ?_ | refine blk_alloc ?_ _));refine blk_far ?_ NB319_326.out _;(with_reducible repeat (first | refine blk_drewN ?_ _ | refine blk_drew ?_ | refine blk_alloc ?_ _));exact BK319.out⟩,⟨by (with_reducible repeat (first | refine blk_drewN ?_ _ | refine blk_drew ?_ | refine blk_alloc ?_ _));refine blk_put (cs:=#[.int .i64 t323,.int .i64 t324,.int .i64 0]) ?_ 2 _ rfl;(with_reducible repeat (first | refine blk_drewN ?_ _ | refine blk_drew ?_ | refine blk_alloc ?_ _));refine blk_put (cs:=#[.int .i64 t323,.int .i64 0,.int .i64 0]) ?_ 1 _ rfl;(with_reducible repeat (first | refine blk_drewN ?_ _ | refine blk_drew ?_ | refine blk_alloc ?_ _));refine blk_put (cs:=#[.int .i64 0,.int .i64 0,.int .i64 0]) ?_ 0 _ rfl;(with_reducible repeat (first | refine blk_drewN ?_ _ | refine blk_drew ?_ | refine blk_alloc ?_ _));exact BK326.out⟩,⟨by repeat (first | (with_reducible first | exact HB.out | apply below_alloc | apply pw_below_drewN | apply below_drew1 | refine below_set ?_ GE319.out | refine below_set ?_ GE326.out) | exact HB.out)⟩⟩
       ·rw [if_neg c22] at H
        have c22b0 : (!(t316 == t323) || ((!(t317 == t324) || (!(t318 == t325))))) = false:=by simpa using c22
        clear c22
        (first | rw [c22b0] | (simp only [i64_w,i32_w];rw [c22b0]) | skip)
        replace H:=Option.bind_eq_some_iff.mp H
        obtain ⟨t329,A280,H⟩:=H
        replace H : ((joustref01_Word.f kj2 a0).bind fun t330 => (joustlaw01_ScanTells.j1 kj2 a0 a1 (t329 != t330))) = some r:=H
        have A28:=Aside0.mk A280
        clear A280
        replace H:=Option.bind_eq_some_iff.mp H
        obtain ⟨t330,A290,H⟩:=H
        replace H : (joustlaw01_ScanTells.j1 kj2 a0 a1 (t329 != t330)) = some r:=H
        have A29:=Aside0.mk A290
        clear A290
        have H':=Aside0.mk H
        clear H
        obtain ⟨Ao30,co30,eo30⟩:=Kd.R_slice HO315.out
        subst eo30
        obtain ⟨Ao31,co31,eo31⟩:=Kd.R_slice HO322.out
        subst eo31
        go_wp2_with (first | ((with_reducible refine gate_callee (f:=17) rfl ?_);refine goesL_ (some 30) rfl rfl Tryd.func17 (by kernel_rfl) rfl #[.slice Ao30 t313.length co30,.slice Ao31 t320.length co31] rfl (by (try simp only [List.map_toArray,List.map_cons,List.map_nil]);first | done | rfl | (simp only [List.length_drop,List.length_take];rfl)) ?_;(with_reducible refine (joustref00_Tokens.calls kj2 _ _ t313 _ _ t320 true _ ?side1 ?side2 ?side3 ?side4 A18.out).mono ?_);(case side1 => refine (Kd.R_reads' (e:=48) (base:=w.heap.size) (ok:=fun k_ => (True ∧ some k_ ≠ (.slice Ao31 t320.length co31 : Value).ownBlock)) (n:=t313.length) (c:=co30) ?_).2.2;exact (by (with_reducible repeat (first | apply Kd.R_alloc | apply Kd.R_drewN | apply Kd.R_drew));exact (Kd.R_mono (Kd.R_far (p:=⟨gb326,2,none⟩) (Kd.R_far (p:=⟨gb326,1,none⟩) (Kd.R_far (p:=⟨gb326,0,none⟩) (Kd.R_types HO315.out BK326.out (by decide)) (fun _ hk => hk.2) (.int .i64 t323)) (fun _ hk => hk.2) (.int .i64 t324)) (fun _ hk => hk.2) (.int .i64 t325)) (fun _ h_ => h_.1))));(case side2 => exact (Kd.R_reads' HO315.out).2.1);(case side3 => refine (Kd.R_reads' (e:=48) (base:=w.heap.size) (ok:=fun k_ => (True ∧ some k_ ≠ (.slice Ao30 t313.length co30 : Value).ownBlock)) (n:=t320.length) (c:=co31) ?_).2.2;exact (by (with_reducible repeat (first | apply Kd.R_alloc | apply Kd.R_drewN | apply Kd.R_drew));exact (Kd.R_mono (Kd.R_far (p:=⟨gb326,2,none⟩) (Kd.R_far (p:=⟨gb326,1,none⟩) (Kd.R_far (p:=⟨gb326,0,none⟩) (Kd.R_types HO322.out BK326.out (by decide)) (fun _ hk => hk.2) (.int .i64 t323)) (fun _ hk => hk.2) (.int .i64 t324)) (fun _ hk => hk.2) (.int .i64 t325)) (fun _ h_ => h_.1))));(case side4 => exact (Kd.R_reads' HO322.out).2.1);rintro e w' ⟨rfl,⟨nd,rfl⟩⟩;refine ⟨_,rfl,?_⟩) | (go_at_call 18;(with_reducible refine (joustref00_Spots.calls kj2 _ _ t313 _ _ t320 true _ ?side1 ?side2 ?side3 ?side4 A20.out).mono ?_);(case side1 => refine (Kd.R_reads' (e:=48) (base:=w.heap.size) (ok:=fun k_ => (True ∧ some k_ ≠ (.slice Ao31 t320.length co31 : Value).ownBlock)) (n:=t313.length) (c:=co30) ?_).2.2;exact (by (with_reducible repeat (first | apply Kd.R_alloc | apply Kd.R_drewN | apply Kd.R_drew));exact (Kd.R_mono (Kd.R_far (p:=⟨gb326,2,none⟩) (Kd.R_far (p:=⟨gb326,1,none⟩) (Kd.R_far (p:=⟨gb326,0,none⟩) (Kd.R_types HO315.out BK326.out (by decide)) (fun _ hk => hk.2) (.int .i64 t323)) (fun _ hk => hk.2) (.int .i64 t324)) (fun _ hk => hk.2) (.int .i64 t325)) (fun _ h_ => h_.1))));(case side2 => exact (Kd.R_reads' HO315.out).2.1);(case side3 => refine (Kd.R_reads' (e:=48) (base:=w.heap.size) (ok:=fun k_ => (True ∧ some k_ ≠ (.slice Ao30 t313.length co30 : Value).ownBlock)) (n:=t320.length) (c:=co31) ?_).2.2;exact (by (with_reducible repeat (first | apply Kd.R_alloc | apply Kd.R_drewN | apply Kd.R_drew));exact (Kd.R_mono (Kd.R_far (p:=⟨gb326,2,none⟩) (Kd.R_far (p:=⟨gb326,1,none⟩) (Kd.R_far (p:=⟨gb326,0,none⟩) (Kd.R_types HO322.out BK326.out (by decide)) (fun _ hk => hk.2) (.int .i64 t323)) (fun _ hk => hk.2) (.int .i64 t324)) (fun _ hk => hk.2) (.int .i64 t325)) (fun _ h_ => h_.1))));(case side4 => exact (Kd.R_reads' HO322.out).2.1);rintro e w' ⟨rfl,⟨nd,rfl⟩⟩;have hnb32:=NB319_326.out;have hnc32:=NB326_319.out;have hcz33_0 : w15.cell? ⟨gb319,0,none⟩ = some (.int .i64 t316):=(blk_cell BK319.out 0).trans rfl;have hcz33_1 : w15.cell? ⟨gb319,1,none⟩ = some (.int .i64 t317):=(blk_cell BK319.out 1).trans rfl;have hcz33_2 : w15.cell? ⟨gb319,2,none⟩ = some (.int .i64 t318):=(blk_cell BK319.out 2).trans rfl;have hfz33_0:=blk_frozen BK319.out 0;have hfz33_1:=blk_frozen BK319.out 1;have hfz33_2:=blk_frozen BK319.out 2;have hcz34_0 : w15.cell? ⟨gb326,0,none⟩ = some (.int .i64 0):=(blk_cell BK326.out 0).trans rfl;have hcz34_1 : w15.cell? ⟨gb326,1,none⟩ = some (.int .i64 0):=(blk_cell BK326.out 1).trans rfl;have hcz34_2 : w15.cell? ⟨gb326,2,none⟩ = some (.int .i64 0):=(blk_cell BK326.out 2).trans rfl;have hfz34_0:=blk_frozen BK326.out 0;have hfz34_1:=blk_frozen BK326.out 1;have hfz34_2:=blk_frozen BK326.out 2) | (go_at_call 19;(with_reducible refine (scan_Word.calls kj2 a0 t329 _ ?side1 A28.out).mono ?_);(case side1 => exact Tabs.below HG.out (by repeat (first | (with_reducible first | exact HB.out | apply below_alloc | apply pw_below_drewN | apply below_drew1 | refine below_set ?_ GE319.out | refine below_set ?_ GE326.out) | exact HB.out)));rintro e w35 ⟨rfl,hb⟩;have n0_:=Aside0.mk (Kd.R_below (by (with_reducible repeat (first | apply Kd.R_alloc | apply Kd.R_drewN | apply Kd.R_drew));exact (Kd.R_mono (Kd.R_far (p:=⟨gb326,2,none⟩) (Kd.R_far (p:=⟨gb326,1,none⟩) (Kd.R_far (p:=⟨gb326,0,none⟩) (Kd.R_types HO315.out BK326.out (by decide)) (fun _ hk => hk.2) (.int .i64 t323)) (fun _ hk => hk.2) (.int .i64 t324)) (fun _ hk => hk.2) (.int .i64 t325)) (fun _ h_ => h_.1))) hb);have n1_:=Aside0.mk (Kd.R_below (by (with_reducible repeat (first | apply Kd.R_alloc | apply Kd.R_drewN | apply Kd.R_drew));exact (Kd.R_mono (Kd.R_far (p:=⟨gb326,2,none⟩) (Kd.R_far (p:=⟨gb326,1,none⟩) (Kd.R_far (p:=⟨gb326,0,none⟩) (Kd.R_types HO322.out BK326.out (by decide)) (fun _ hk => hk.2) (.int .i64 t323)) (fun _ hk => hk.2) (.int .i64 t324)) (fun _ hk => hk.2) (.int .i64 t325)) (fun _ h_ => h_.1))) hb);have n2_:=Aside0.mk (blk_below (g:=gb319) (o:=.cells #[.int .i64 t316,.int .i64 t317,.int .i64 t318] 39 (0,0)) (by (with_reducible repeat (first | refine blk_drewN ?_ _ | refine blk_drew ?_ | refine blk_alloc ?_ _));refine blk_far ?_ NB319_326.out _;(with_reducible repeat (first | refine blk_drewN ?_ _ | refine blk_drew ?_ | refine blk_alloc ?_ _));refine blk_far ?_ NB319_326.out _;(with_reducible repeat (first | refine blk_drewN ?_ _ | refine blk_drew ?_ | refine blk_alloc ?_ _));refine blk_far ?_ NB319_326.out _;(with_reducible repeat (first | refine blk_drewN ?_ _ | refine blk_drew ?_ | refine blk_alloc ?_ _));exact BK319.out) hb);have n3_:=Aside0.mk (blk_below (g:=gb326) (o:=.cells #[.int .i64 t323,.int .i64 t324,.int .i64 t325] 39 (0,0)) (by (with_reducible repeat (first | refine blk_drewN ?_ _ | refine blk_drew ?_ | refine blk_alloc ?_ _));refine blk_put (cs:=#[.int .i64 t323,.int .i64 t324,.int .i64 0]) ?_ 2 _ rfl;(with_reducible repeat (first | refine blk_drewN ?_ _ | refine blk_drew ?_ | refine blk_alloc ?_ _));refine blk_put (cs:=#[.int .i64 t323,.int .i64 0,.int .i64 0]) ?_ 1 _ rfl;(with_reducible repeat (first | refine blk_drewN ?_ _ | refine blk_drew ?_ | refine blk_alloc ?_ _));refine blk_put (cs:=#[.int .i64 0,.int .i64 0,.int .i64 0]) ?_ 0 _ rfl;(with_reducible repeat (first | refine blk_drewN ?_ _ | refine blk_drew ?_ | refine blk_alloc ?_ _));exact BK326.out) hb);have n4_:=Aside0.mk (below_step (by repeat (first | (with_reducible first | exact HB.out | apply below_alloc | apply pw_below_drewN | apply below_drew1 | refine below_set ?_ GE319.out | refine below_set ?_ GE326.out) | exact HB.out)) hb);clear HO315;clear HO322;clear BK319;clear BK326;clear HB;have HO315:=n0_;have HO322:=n1_;have BK319:=n2_;have BK326:=n3_;have HB:=n4_;clear n0_ n1_ n2_ n3_ n4_;(try clear hb);(try clear hb2);(try clear hk);(try clear hi)) | (go_at_call 20;(with_reducible refine (joustref01_Word.calls kj2 a0 t330 _ ?side1 A29.out).mono ?_);(case side1 => exact Tabs.below HG.out (by repeat (first | (with_reducible first | exact HB.out | apply below_alloc | apply pw_below_drewN | apply below_drew1 | refine below_set ?_ GE319.out | refine below_set ?_ GE326.out) | exact HB.out)));rintro e w36 ⟨rfl,hb⟩;have n0_:=Aside0.mk (Kd.R_below (by (with_reducible repeat (first | apply Kd.R_alloc | apply Kd.R_drewN | apply Kd.R_drew));exact HO315.out) hb);have n1_:=Aside0.mk (Kd.R_below (by (with_reducible repeat (first | apply Kd.R_alloc | apply Kd.R_drewN | apply Kd.R_drew));exact HO322.out) hb);have n2_:=Aside0.mk (blk_below (g:=gb319) (o:=.cells #[.int .i64 t316,.int .i64 t317,.int .i64 t318] 39 (0,0)) (by (with_reducible repeat (first | refine blk_drewN ?_ _ | refine blk_drew ?_ | refine blk_alloc ?_ _));exact BK319.out) hb);have n3_:=Aside0.mk (blk_below (g:=gb326) (o:=.cells #[.int .i64 t323,.int .i64 t324,.int .i64 t325] 39 (0,0)) (by (with_reducible repeat (first | refine blk_drewN ?_ _ | refine blk_drew ?_ | refine blk_alloc ?_ _));exact BK326.out) hb);have n4_:=Aside0.mk (below_step (by repeat (first | (with_reducible first | exact HB.out | apply below_alloc | apply pw_below_drewN | apply below_drew1 | refine below_set ?_ GE319.out | refine below_set ?_ GE326.out) | exact HB.out)) hb);clear HO315;clear HO322;clear BK319;clear BK326;clear HB;have HO315:=n0_;have HO322:=n1_;have BK319:=n2_;have BK326:=n3_;have HB:=n4_;clear n0_ n1_ n2_ n3_ n4_;(try clear hb);(try clear hb2);(try clear hk);(try clear hi)))
        go_meet
        case rel => exact ⟨_,((t329 != t330)),(by first | rfl | (simp;done) | (simp [*];done)),H',⟨by have:=HJ2.out;first | omega | exact Nat.le_refl _⟩,⟨by (with_reducible repeat (first | refine blk_drewN ?_ _ | refine blk_drew ?_ | refine blk_alloc ?_ _));exact BK319.out⟩,⟨by (with_reducible repeat (first | refine blk_drewN ?_ _ | refine blk_drew ?_ | refine blk_alloc ?_ _));exact BK326.out⟩,⟨by repeat (first | (with_reducible first | exact HB.out | apply below_alloc | apply pw_below_drewN | apply below_drew1 | refine below_set ?_ GE319.out | refine below_set ?_ GE326.out) | exact HB.out)⟩⟩
      ·replace c21:=Bool.eq_false_iff.mpr c21
       subst c21
       have H1 : (joustlaw01_ScanTells.j1 kj2 a0 a1 true) = some r:=by rw [if_neg (show ¬ (false = true) by decide)] at H;exact H
       clear H
       have H:=H1
       clear H1
       have H':=Aside0.mk H
       clear H
       obtain ⟨Ao37,co37,eo37⟩:=Kd.R_slice HO315.out
       subst eo37
       obtain ⟨Ao38,co38,eo38⟩:=Kd.R_slice HO322.out
       subst eo38
       go_wp2_with (first | ((with_reducible refine gate_callee (f:=17) rfl ?_);refine goesL_ (some 30) rfl rfl Tryd.func17 (by kernel_rfl) rfl #[.slice Ao37 t313.length co37,.slice Ao38 t320.length co38] rfl (by (try simp only [List.map_toArray,List.map_cons,List.map_nil]);first | done | rfl | (simp only [List.length_drop,List.length_take];rfl)) ?_;(with_reducible refine (joustref00_Tokens.calls kj2 _ _ t313 _ _ t320 true _ ?side1 ?side2 ?side3 ?side4 A18.out).mono ?_);(case side1 => refine (Kd.R_reads' (e:=48) (base:=w.heap.size) (ok:=fun k_ => (True ∧ some k_ ≠ (.slice Ao38 t320.length co38 : Value).ownBlock)) (n:=t313.length) (c:=co37) ?_).2.2;exact (by (with_reducible repeat (first | apply Kd.R_alloc | apply Kd.R_drewN | apply Kd.R_drew));exact (Kd.R_mono (Kd.R_far (p:=⟨gb326,2,none⟩) (Kd.R_far (p:=⟨gb326,1,none⟩) (Kd.R_far (p:=⟨gb326,0,none⟩) (Kd.R_types HO315.out BK326.out (by decide)) (fun _ hk => hk.2) (.int .i64 t323)) (fun _ hk => hk.2) (.int .i64 t324)) (fun _ hk => hk.2) (.int .i64 t325)) (fun _ h_ => h_.1))));(case side2 => exact (Kd.R_reads' HO315.out).2.1);(case side3 => refine (Kd.R_reads' (e:=48) (base:=w.heap.size) (ok:=fun k_ => (True ∧ some k_ ≠ (.slice Ao37 t313.length co37 : Value).ownBlock)) (n:=t320.length) (c:=co38) ?_).2.2;exact (by (with_reducible repeat (first | apply Kd.R_alloc | apply Kd.R_drewN | apply Kd.R_drew));exact (Kd.R_mono (Kd.R_far (p:=⟨gb326,2,none⟩) (Kd.R_far (p:=⟨gb326,1,none⟩) (Kd.R_far (p:=⟨gb326,0,none⟩) (Kd.R_types HO322.out BK326.out (by decide)) (fun _ hk => hk.2) (.int .i64 t323)) (fun _ hk => hk.2) (.int .i64 t324)) (fun _ hk => hk.2) (.int .i64 t325)) (fun _ h_ => h_.1))));(case side4 => exact (Kd.R_reads' HO322.out).2.1);rintro e w' ⟨rfl,⟨nd,rfl⟩⟩;refine ⟨_,rfl,?_⟩) | (go_at_call 18;(with_reducible refine (joustref00_Spots.calls kj2 _ _ t313 _ _ t320 false _ ?side1 ?side2 ?side3 ?side4 A20.out).mono ?_);(case side1 => refine (Kd.R_reads' (e:=48) (base:=w.heap.size) (ok:=fun k_ => (True ∧ some k_ ≠ (.slice Ao38 t320.length co38 : Value).ownBlock)) (n:=t313.length) (c:=co37) ?_).2.2;exact (by (with_reducible repeat (first | apply Kd.R_alloc | apply Kd.R_drewN | apply Kd.R_drew));exact (Kd.R_mono (Kd.R_far (p:=⟨gb326,2,none⟩) (Kd.R_far (p:=⟨gb326,1,none⟩) (Kd.R_far (p:=⟨gb326,0,none⟩) (Kd.R_types HO315.out BK326.out (by decide)) (fun _ hk => hk.2) (.int .i64 t323)) (fun _ hk => hk.2) (.int .i64 t324)) (fun _ hk => hk.2) (.int .i64 t325)) (fun _ h_ => h_.1))));(case side2 => exact (Kd.R_reads' HO315.out).2.1);(case side3 => refine (Kd.R_reads' (e:=48) (base:=w.heap.size) (ok:=fun k_ => (True ∧ some k_ ≠ (.slice Ao37 t313.length co37 : Value).ownBlock)) (n:=t320.length) (c:=co38) ?_).2.2;exact (by (with_reducible repeat (first | apply Kd.R_alloc | apply Kd.R_drewN | apply Kd.R_drew));exact (Kd.R_mono (Kd.R_far (p:=⟨gb326,2,none⟩) (Kd.R_far (p:=⟨gb326,1,none⟩) (Kd.R_far (p:=⟨gb326,0,none⟩) (Kd.R_types HO322.out BK326.out (by decide)) (fun _ hk => hk.2) (.int .i64 t323)) (fun _ hk => hk.2) (.int .i64 t324)) (fun _ hk => hk.2) (.int .i64 t325)) (fun _ h_ => h_.1))));(case side4 => exact (Kd.R_reads' HO322.out).2.1);rintro e w' ⟨rfl,⟨nd,rfl⟩⟩))
       go_meet
       case rel => exact ⟨_,(true),(by first | rfl | (simp;done) | (simp [*];done)),H',⟨by have:=HJ2.out;first | omega | exact Nat.le_refl _⟩,⟨by (with_reducible repeat (first | refine blk_drewN ?_ _ | refine blk_drew ?_ | refine blk_alloc ?_ _));refine blk_far ?_ NB319_326.out _;(with_reducible repeat (first | refine blk_drewN ?_ _ | refine blk_drew ?_ | refine blk_alloc ?_ _));refine blk_far ?_ NB319_326.out _;(with_reducible repeat (first | refine blk_drewN ?_ _ | refine blk_drew ?_ | refine blk_alloc ?_ _));refine blk_far ?_ NB319_326.out _;(with_reducible repeat (first | refine blk_drewN ?_ _ | refine blk_drew ?_ | refine blk_alloc ?_ _));exact BK319.out⟩,⟨by (with_reducible repeat (first | refine blk_drewN ?_ _ | refine blk_drew ?_ | refine blk_alloc ?_ _));refine blk_put (cs:=#[.int .i64 t323,.int .i64 t324,.int .i64 0]) ?_ 2 _ rfl;(with_reducible repeat (first | refine blk_drewN ?_ _ | refine blk_drew ?_ | refine blk_alloc ?_ _));refine blk_put (cs:=#[.int .i64 t323,.int .i64 0,.int .i64 0]) ?_ 1 _ rfl;(with_reducible repeat (first | refine blk_drewN ?_ _ | refine blk_drew ?_ | refine blk_alloc ?_ _));refine blk_put (cs:=#[.int .i64 0,.int .i64 0,.int .i64 0]) ?_ 0 _ rfl;(with_reducible repeat (first | refine blk_drewN ?_ _ | refine blk_drew ?_ | refine blk_alloc ?_ _));exact BK326.out⟩,⟨by repeat (first | (with_reducible first | exact HB.out | apply below_alloc | apply pw_below_drewN | apply below_drew1 | refine below_set ?_ GE319.out | refine below_set ?_ GE326.out) | exact HB.out)⟩⟩
     ·replace c19:=Bool.eq_false_iff.mpr c19
      subst c19
      have H1 : (joustlaw01_ScanTells.j1 kj2 a0 a1 true) = some r:=by rw [if_neg (show ¬ (false = true) by decide)] at H;exact H
      clear H
      have H:=H1
      clear H1
      have H':=Aside0.mk H
      clear H
      obtain ⟨Ao39,co39,eo39⟩:=Kd.R_slice HO315.out
      subst eo39
      obtain ⟨Ao40,co40,eo40⟩:=Kd.R_slice HO322.out
      subst eo40
      go_wp2_with (first | ((with_reducible refine gate_callee (f:=17) rfl ?_);refine goesL_ (some 30) rfl rfl Tryd.func17 (by kernel_rfl) rfl #[.slice Ao39 t313.length co39,.slice Ao40 t320.length co40] rfl (by (try simp only [List.map_toArray,List.map_cons,List.map_nil]);first | done | rfl | (simp only [List.length_drop,List.length_take];rfl)) ?_;(with_reducible refine (joustref00_Tokens.calls kj2 _ _ t313 _ _ t320 false _ ?side1 ?side2 ?side3 ?side4 A18.out).mono ?_);(case side1 => refine (Kd.R_reads' (e:=48) (base:=w.heap.size) (ok:=fun k_ => (True ∧ some k_ ≠ (.slice Ao40 t320.length co40 : Value).ownBlock)) (n:=t313.length) (c:=co39) ?_).2.2;exact (by (with_reducible repeat (first | apply Kd.R_alloc | apply Kd.R_drewN | apply Kd.R_drew));exact (Kd.R_mono (Kd.R_far (p:=⟨gb326,2,none⟩) (Kd.R_far (p:=⟨gb326,1,none⟩) (Kd.R_far (p:=⟨gb326,0,none⟩) (Kd.R_types HO315.out BK326.out (by decide)) (fun _ hk => hk.2) (.int .i64 t323)) (fun _ hk => hk.2) (.int .i64 t324)) (fun _ hk => hk.2) (.int .i64 t325)) (fun _ h_ => h_.1))));(case side2 => exact (Kd.R_reads' HO315.out).2.1);(case side3 => refine (Kd.R_reads' (e:=48) (base:=w.heap.size) (ok:=fun k_ => (True ∧ some k_ ≠ (.slice Ao39 t313.length co39 : Value).ownBlock)) (n:=t320.length) (c:=co40) ?_).2.2;exact (by (with_reducible repeat (first | apply Kd.R_alloc | apply Kd.R_drewN | apply Kd.R_drew));exact (Kd.R_mono (Kd.R_far (p:=⟨gb326,2,none⟩) (Kd.R_far (p:=⟨gb326,1,none⟩) (Kd.R_far (p:=⟨gb326,0,none⟩) (Kd.R_types HO322.out BK326.out (by decide)) (fun _ hk => hk.2) (.int .i64 t323)) (fun _ hk => hk.2) (.int .i64 t324)) (fun _ hk => hk.2) (.int .i64 t325)) (fun _ h_ => h_.1))));(case side4 => exact (Kd.R_reads' HO322.out).2.1);rintro e w' ⟨rfl,⟨nd,rfl⟩⟩;refine ⟨_,rfl,?_⟩))
      go_meet
      case rel => exact ⟨_,(true),(by first | rfl | (simp;done) | (simp [*];done)),H',⟨by have:=HJ2.out;first | omega | exact Nat.le_refl _⟩,⟨by (with_reducible repeat (first | refine blk_drewN ?_ _ | refine blk_drew ?_ | refine blk_alloc ?_ _));refine blk_far ?_ NB319_326.out _;(with_reducible repeat (first | refine blk_drewN ?_ _ | refine blk_drew ?_ | refine blk_alloc ?_ _));refine blk_far ?_ NB319_326.out _;(with_reducible repeat (first | refine blk_drewN ?_ _ | refine blk_drew ?_ | refine blk_alloc ?_ _));refine blk_far ?_ NB319_326.out _;(with_reducible repeat (first | refine blk_drewN ?_ _ | refine blk_drew ?_ | refine blk_alloc ?_ _));exact BK319.out⟩,⟨by (with_reducible repeat (first | refine blk_drewN ?_ _ | refine blk_drew ?_ | refine blk_alloc ?_ _));refine blk_put (cs:=#[.int .i64 t323,.int .i64 t324,.int .i64 0]) ?_ 2 _ rfl;(with_reducible repeat (first | refine blk_drewN ?_ _ | refine blk_drew ?_ | refine blk_alloc ?_ _));refine blk_put (cs:=#[.int .i64 t323,.int .i64 0,.int .i64 0]) ?_ 1 _ rfl;(with_reducible repeat (first | refine blk_drewN ?_ _ | refine blk_drew ?_ | refine blk_alloc ?_ _));refine blk_put (cs:=#[.int .i64 0,.int .i64 0,.int .i64 0]) ?_ 0 _ rfl;(with_reducible repeat (first | refine blk_drewN ?_ _ | refine blk_drew ?_ | refine blk_alloc ?_ _));exact BK326.out⟩,⟨by repeat (first | (with_reducible first | exact HB.out | apply below_alloc | apply pw_below_drewN | apply below_drew1 | refine below_set ?_ GE319.out | refine below_set ?_ GE326.out) | exact HB.out)⟩⟩
    case rest =>
     clear HC10
     try clear c1
     try clear c2
     try clear p2
     try clear c3
     try clear c4
     try clear c4b0
     try clear c4b1
     try clear c5
     try clear c14
     try clear c15
     try clear c16
     try clear c17
     try clear c19
     try clear c21
     try clear c22
     try clear c22b0
     try clear c25
     try clear c32
     try clear hcz13_0
     try clear hcz13_1
     try clear hcz13_2
     try clear hcz17_0
     try clear hcz17_1
     try clear hcz17_2
     try clear hcz26_0
     try clear hcz26_1
     try clear hcz26_2
     try clear hcz27_0
     try clear hcz27_1
     try clear hcz27_2
     try clear hcz33_0
     try clear hcz33_1
     try clear hcz33_2
     try clear hcz34_0
     try clear hcz34_1
     try clear hcz34_2
     try clear hfz13_0
     try clear hfz13_1
     try clear hfz13_2
     try clear hfz17_0
     try clear hfz17_1
     try clear hfz17_2
     try clear hfz26_0
     try clear hfz26_1
     try clear hfz26_2
     try clear hfz27_0
     try clear hfz27_1
     try clear hfz27_2
     try clear hfz33_0
     try clear hfz33_1
     try clear hfz33_2
     try clear hfz34_0
     try clear hfz34_1
     try clear hfz34_2
     try clear p2
     obtain ⟨kq,x49_9,rfl,HA,HJ9,BK319,BK326,HB⟩:=hcut
     cases kq with
     | zero => exact absurd HA.out (by simp [joustlaw01_ScanTells.j1])
     | succ kj9 =>
      have H:=HA.out
      clear HA
      simp only [joustlaw01_ScanTells.j1] at H
      by_cases c41 : x49_9 = true
      ·subst c41
       have H1 : (some false) = some r:=by rw [if_pos rfl] at H;exact H
       clear H
       have H:=H1
       clear H1
       obtain rfl:=Option.some.inj H
       go_wp2
       go_ret
       exact ⟨by first | rfl | (simp [errW_none,errW_some] <;> rfl) | (simp [*,errW_none,errW_some] <;> rfl),by repeat (first | (with_reducible first | exact HB.out | apply below_alloc | apply pw_below_drewN | apply below_drew1 | refine below_set ?_ GE319.out | refine below_set ?_ GE326.out) | exact HB.out)⟩
      ·replace c41:=Bool.eq_false_iff.mpr c41
       subst c41
       have H1 : (if (a0.size : Int) > 3000 then ((joustlaw01_lives.f kj9).bind fun t331 => (some t331)) else ((scan_Where.f kj9 a0 a1).bind fun bt332 => ((joustref01_Where.f kj9 a0 a1).bind fun bt334 => (if (bt332.1 == bt334.1 && (bt332.2 == bt334.2)) = true then ((joustlaw01_lives.f kj9).bind fun t336 => (some t336)) else (some false))))) = some r:=by rw [if_neg (show ¬ (false = true) by decide)] at H;exact H
       clear H
       have H:=H1
       clear H1
       by_cases c42 : (a0.size : Int) > 3000
       ·rw [if_pos c42] at H
        have c42b0 : decide (3000 < (a0.size : Int)) = true:=decide_eq_true c42
        have c42b1 : decide (3000 < a0.size) = true:=decide_eq_true (by omega)
        clear c42
        replace H:=Option.bind_eq_some_iff.mp H
        obtain ⟨t331,A430,H⟩:=H
        replace H : (some t331) = some r:=H
        have A43:=Aside0.mk A430
        clear A430
        obtain rfl:=Option.some.inj H
        go_wp2_with (first | (go_at_call 14;(with_reducible refine (joustlaw01_lives.calls kj9  t331 _ ?side1 A43.out).mono ?_);(case side1 => exact Tabs.below HG.out (by repeat (first | (with_reducible first | exact HB.out | apply below_alloc | apply pw_below_drewN | apply below_drew1 | refine below_set ?_ GE319.out | refine below_set ?_ GE326.out) | exact HB.out)));rintro e w44 ⟨rfl,hb⟩;have n0_:=Aside0.mk (blk_below (g:=gb319) (o:=.cells #[.int .i64 t316,.int .i64 t317,.int .i64 t318] 39 (0,0)) (by (with_reducible repeat (first | refine blk_drewN ?_ _ | refine blk_drew ?_ | refine blk_alloc ?_ _));exact BK319.out) hb);have n1_:=Aside0.mk (blk_below (g:=gb326) (o:=.cells #[.int .i64 t323,.int .i64 t324,.int .i64 t325] 39 (0,0)) (by (with_reducible repeat (first | refine blk_drewN ?_ _ | refine blk_drew ?_ | refine blk_alloc ?_ _));exact BK326.out) hb);have n2_:=Aside0.mk (below_step (by repeat (first | (with_reducible first | exact HB.out | apply below_alloc | apply pw_below_drewN | apply below_drew1 | refine below_set ?_ GE319.out | refine below_set ?_ GE326.out) | exact HB.out)) hb);clear BK319;clear BK326;clear HB;have BK319:=n0_;have BK326:=n1_;have HB:=n2_;clear n0_ n1_ n2_;(try clear hb);(try clear hb2);(try clear hk);(try clear hi)))
        go_ret
        exact ⟨by first | rfl | (simp [errW_none,errW_some] <;> rfl) | (simp [*,errW_none,errW_some] <;> rfl),by repeat (first | (with_reducible first | exact HB.out | apply below_alloc | apply pw_below_drewN | apply below_drew1 | refine below_set ?_ GE319.out | refine below_set ?_ GE326.out) | exact HB.out)⟩
       ·rw [if_neg c42] at H
        have c42b0 : decide (3000 < (a0.size : Int)) = false:=decide_eq_false c42
        have c42b1 : decide (3000 < a0.size) = false:=decide_eq_false (by omega)
        clear c42
        replace H:=Option.bind_eq_some_iff.mp H
        obtain ⟨⟨t332,t333⟩,A450,H⟩:=H
        replace H : ((joustref01_Where.f kj9 a0 a1).bind fun bt334 => (if (t332 == bt334.1 && (t333 == bt334.2)) = true then ((joustlaw01_lives.f kj9).bind fun t336 => (some t336)) else (some false))) = some r:=H
        have A45:=Aside0.mk A450
        clear A450
        replace H:=Option.bind_eq_some_iff.mp H
        obtain ⟨⟨t334,t335⟩,A460,H⟩:=H
        replace H : (if (t332 == t334 && (t333 == t335)) = true then ((joustlaw01_lives.f kj9).bind fun t336 => (some t336)) else (some false)) = some r:=H
        have A46:=Aside0.mk A460
        clear A460
        by_cases c47 : (t332 == t334 && (t333 == t335)) = true
        ·rw [if_pos c47] at H
         have c47b0 : (t332 == t334 && (t333 == t335)) = true:=c47
         (try (have c47b1 : decide (t332 = t334 && (t333 == t335)) = true:=by simpa using c47))
         (try (have c47b2 : (t332 == t334 && (t333 == t335)) = true:=by simpa using c47))
         clear c47
         replace H:=Option.bind_eq_some_iff.mp H
         obtain ⟨t336,A480,H⟩:=H
         replace H : (some t336) = some r:=H
         have A48:=Aside0.mk A480
         clear A480
         obtain rfl:=Option.some.inj H
         go_wp2_with (first | (go_at_call 21;(with_reducible refine (scan_Where.calls kj9 a0 a1 t332 t333 _ A45.out).mono ?_);rintro e w49 ⟨rfl,hb⟩;have n0_:=Aside0.mk (blk_below (g:=gb319) (o:=.cells #[.int .i64 t316,.int .i64 t317,.int .i64 t318] 39 (0,0)) (by (with_reducible repeat (first | refine blk_drewN ?_ _ | refine blk_drew ?_ | refine blk_alloc ?_ _));exact BK319.out) hb);have n1_:=Aside0.mk (blk_below (g:=gb326) (o:=.cells #[.int .i64 t323,.int .i64 t324,.int .i64 t325] 39 (0,0)) (by (with_reducible repeat (first | refine blk_drewN ?_ _ | refine blk_drew ?_ | refine blk_alloc ?_ _));exact BK326.out) hb);have n2_:=Aside0.mk (below_step (by repeat (first | (with_reducible first | exact HB.out | apply below_alloc | apply pw_below_drewN | apply below_drew1 | refine below_set ?_ GE319.out | refine below_set ?_ GE326.out) | exact HB.out)) hb);clear BK319;clear BK326;clear HB;have BK319:=n0_;have BK326:=n1_;have HB:=n2_;clear n0_ n1_ n2_;(try clear hb);(try clear hb2);(try clear hk);(try clear hi)) | (go_at_call 22;(with_reducible refine (joustref01_Where.calls kj9 a0 a1 t334 t335 _ ?side1 A46.out).mono ?_);(case side1 => exact Tabs.below HG.out (by repeat (first | (with_reducible first | exact HB.out | apply below_alloc | apply pw_below_drewN | apply below_drew1 | refine below_set ?_ GE319.out | refine below_set ?_ GE326.out) | exact HB.out)));rintro e w50 ⟨rfl,hb⟩;have n0_:=Aside0.mk (blk_below (g:=gb319) (o:=.cells #[.int .i64 t316,.int .i64 t317,.int .i64 t318] 39 (0,0)) (by (with_reducible repeat (first | refine blk_drewN ?_ _ | refine blk_drew ?_ | refine blk_alloc ?_ _));exact BK319.out) hb);have n1_:=Aside0.mk (blk_below (g:=gb326) (o:=.cells #[.int .i64 t323,.int .i64 t324,.int .i64 t325] 39 (0,0)) (by (with_reducible repeat (first | refine blk_drewN ?_ _ | refine blk_drew ?_ | refine blk_alloc ?_ _));exact BK326.out) hb);have n2_:=Aside0.mk (below_step (by repeat (first | (with_reducible first | exact HB.out | apply below_alloc | apply pw_below_drewN | apply below_drew1 | refine below_set ?_ GE319.out | refine below_set ?_ GE326.out) | exact HB.out)) hb);clear BK319;clear BK326;clear HB;have BK319:=n0_;have BK326:=n1_;have HB:=n2_;clear n0_ n1_ n2_;(try clear hb);(try clear hb2);(try clear hk);(try clear hi)) | (go_at_call 14;(with_reducible refine (joustlaw01_lives.calls kj9  t336 _ ?side1 A48.out).mono ?_);(case side1 => exact Tabs.below HG.out (by repeat (first | (with_reducible first | exact HB.out | apply below_alloc | apply pw_below_drewN | apply below_drew1 | refine below_set ?_ GE319.out | refine below_set ?_ GE326.out) | exact HB.out)));rintro e w51 ⟨rfl,hb⟩;have n0_:=Aside0.mk (blk_below (g:=gb319) (o:=.cells #[.int .i64 t316,.int .i64 t317,.int .i64 t318] 39 (0,0)) (by (with_reducible repeat (first | refine blk_drewN ?_ _ | refine blk_drew ?_ | refine blk_alloc ?_ _));exact BK319.out) hb);have n1_:=Aside0.mk (blk_below (g:=gb326) (o:=.cells #[.int .i64 t323,.int .i64 t324,.int .i64 t325] 39 (0,0)) (by (with_reducible repeat (first | refine blk_drewN ?_ _ | refine blk_drew ?_ | refine blk_alloc ?_ _));exact BK326.out) hb);have n2_:=Aside0.mk (below_step (by repeat (first | (with_reducible first | exact HB.out | apply below_alloc | apply pw_below_drewN | apply below_drew1 | refine below_set ?_ GE319.out | refine below_set ?_ GE326.out) | exact HB.out)) hb);clear BK319;clear BK326;clear HB;have BK319:=n0_;have BK326:=n1_;have HB:=n2_;clear n0_ n1_ n2_;(try clear hb);(try clear hb2);(try clear hk);(try clear hi)))
         go_ret
         exact ⟨by first | rfl | (simp [errW_none,errW_some] <;> rfl) | (simp [*,errW_none,errW_some] <;> rfl),by repeat (first | (with_reducible first | exact HB.out | apply below_alloc | apply pw_below_drewN | apply below_drew1 | refine below_set ?_ GE319.out | refine below_set ?_ GE326.out) | exact HB.out)⟩
        ·rw [if_neg c47] at H
         have c47b0 : (t332 == t334 && (t333 == t335)) = false:=by simpa using c47
         (try (have c47b1 : decide (t332 = t334 && (t333 == t335)) = false:=by simpa using c47))
         (try (have c47b2 : (t332 == t334 && (t333 == t335)) = false:=by simpa using c47))
         (try (have c47b3 : ¬ (t332 = t334 && (t333 == t335)):=by simpa using c47))
         clear c47
         obtain rfl:=Option.some.inj H
         go_wp2_with (first | (go_at_call 21;(with_reducible refine (scan_Where.calls kj9 a0 a1 t332 t333 _ A45.out).mono ?_);rintro e w52 ⟨rfl,hb⟩;have n0_:=Aside0.mk (blk_below (g:=gb319) (o:=.cells #[.int .i64 t316,.int .i64 t317,.int .i64 t318] 39 (0,0)) (by (with_reducible repeat (first | refine blk_drewN ?_ _ | refine blk_drew ?_ | refine blk_alloc ?_ _));exact BK319.out) hb);have n1_:=Aside0.mk (blk_below (g:=gb326) (o:=.cells #[.int .i64 t323,.int .i64 t324,.int .i64 t325] 39 (0,0)) (by (with_reducible repeat (first | refine blk_drewN ?_ _ | refine blk_drew ?_ | refine blk_alloc ?_ _));exact BK326.out) hb);have n2_:=Aside0.mk (below_step (by repeat (first | (with_reducible first | exact HB.out | apply below_alloc | apply pw_below_drewN | apply below_drew1 | refine below_set ?_ GE319.out | refine below_set ?_ GE326.out) | exact HB.out)) hb);clear BK319;clear BK326;clear HB;have BK319:=n0_;have BK326:=n1_;have HB:=n2_;clear n0_ n1_ n2_;(try clear hb);(try clear hb2);(try clear hk);(try clear hi)) | (go_at_call 22;(with_reducible refine (joustref01_Where.calls kj9 a0 a1 t334 t335 _ ?side1 A46.out).mono ?_);(case side1 => exact Tabs.below HG.out (by repeat (first | (with_reducible first | exact HB.out | apply below_alloc | apply pw_below_drewN | apply below_drew1 | refine below_set ?_ GE319.out | refine below_set ?_ GE326.out) | exact HB.out)));rintro e w53 ⟨rfl,hb⟩;have n0_:=Aside0.mk (blk_below (g:=gb319) (o:=.cells #[.int .i64 t316,.int .i64 t317,.int .i64 t318] 39 (0,0)) (by (with_reducible repeat (first | refine blk_drewN ?_ _ | refine blk_drew ?_ | refine blk_alloc ?_ _));exact BK319.out) hb);have n1_:=Aside0.mk (blk_below (g:=gb326) (o:=.cells #[.int .i64 t323,.int .i64 t324,.int .i64 t325] 39 (0,0)) (by (with_reducible repeat (first | refine blk_drewN ?_ _ | refine blk_drew ?_ | refine blk_alloc ?_ _));exact BK326.out) hb);have n2_:=Aside0.mk (below_step (by repeat (first | (with_reducible first | exact HB.out | apply below_alloc | apply pw_below_drewN | apply below_drew1 | refine below_set ?_ GE319.out | refine below_set ?_ GE326.out) | exact HB.out)) hb);clear BK319;clear BK326;clear HB;have BK319:=n0_;have BK326:=n1_;have HB:=n2_;clear n0_ n1_ n2_;(try clear hb);(try clear hb2);(try clear hk);(try clear hi)))
         go_ret
         exact ⟨by first | rfl | (simp [errW_none,errW_some] <;> rfl) | (simp [*,errW_none,errW_some] <;> rfl),by repeat (first | (with_reducible first | exact HB.out | apply below_alloc | apply pw_below_drewN | apply below_drew1 | refine below_set ?_ GE319.out | refine below_set ?_ GE326.out) | exact HB.out)⟩

end Go.Proofs.YtgalbiokebghkaaDoor.S
