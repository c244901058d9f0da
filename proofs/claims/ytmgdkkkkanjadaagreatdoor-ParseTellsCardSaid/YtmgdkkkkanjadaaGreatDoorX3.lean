/- Written by a program of this claim's author (stubprint.py, over the kit's print) out of the translation: Go functions as Lean functions, and that the calls come to them. -/
import Derived.Test.YtmgdkkkkanjadaaGreatDoorX0
import Derived.Test.YtmgdkkkkanjadaaGreatDoorX2
import Derived.Test.YtmgdkkkkanjadaaGreatDoorHandS
import Derived.WalkLawsBesides
namespace Go.Proofs.YtmgdkkkkanjadaaGreatDoor.X
open Go.RowKit Go.Proofs.YtmgdkkkkanjadaaGreatDoorW.PrintWords Go.Proofs.YtmgdkkkkanjadaaGreatDoorW.PrintLast Go.Proofs.YtmgdkkkkanjadaaGreatDoorW.PrintMore Go.Proofs.YtmgdkkkkanjadaaGreatDoor.HandS Go.Proofs.YtmgdkkkkanjadaaGreatDoor.Iter
attribute [local go_sem] max2_int min2_int max_two min_two max_three min_three max_four min_four   -- for this text's walks alone
set_option linter.unusedVariables false
set_option linter.unusedSimpArgs false

/-! ### scan_word: function 95 -/
mutual
def scan_word.l0 : Nat → ByteArray → Int → ByteArray → Option (Int)
 | 0,_,_,_ => none
 | k + 1,x0,x136000,x136001 => (rune_next.f x136001 x136000).bind fun bt136 => (if bt136.1 = true then (if bt136.2.1 = 0 then ((unicode_IsLetter.f bt136.2.2.1).bind fun t140 => (scan_word.j1 k x0 bt136.2.1 bt136.2.2.1 (!t140) bt136.2.2.2 x136001)) else (scan_word.j1 k x0 bt136.2.1 bt136.2.2.1 false bt136.2.2.2 x136001)) else ((strings_TrimRight.f x0 (⟨#[45]⟩ : ByteArray)).bind fun t145 => (some (t145.size : Int))))
def scan_word.j1 : Nat → ByteArray → Int → Int → Bool → Int → ByteArray → Option (Int)
 | 0,_,_,_,_,_,_ => none
 | k + 1,x0,x3,x4,x17,x136000,x136001 => if x17 = true then (some 0) else ((scan_broken.f x0 x3 x4).bind fun t141 => (if t141 = true then (if 0 ≤ x3 then (if x3 ≤ (x0.size : Int) then ((strings_TrimRight.f (x0.extract 0 (x3 : Int).toNat) (⟨#[45]⟩ : ByteArray)).bind fun t142 => (some (t142.size : Int))) else (none)) else (none)) else ((scan_wordly.f x4).bind fun t143 => (if t143 = true then (scan_word.l0 k x0 x136000 x136001) else (if 0 ≤ x3 then (if x3 ≤ (x0.size : Int) then ((strings_TrimRight.f (x0.extract 0 (x3 : Int).toNat) (⟨#[45]⟩ : ByteArray)).bind fun t144 => (some (t144.size : Int))) else (none)) else (none))))))
end
def scan_word.f (k : Nat) (a0 : ByteArray) : Option (Int):=scan_word.l0 k a0 0 a0
theorem scan_word.mono_l : ∀ k,(∀ y0 y1 y2,LeO (scan_word.l0 k y0 y1 y2) (scan_word.l0 (k + 1) y0 y1 y2)) ∧ (∀ y0 y1 y2 y3 y4 y5,LeO (scan_word.j1 k y0 y1 y2 y3 y4 y5) (scan_word.j1 (k + 1) y0 y1 y2 y3 y4 y5))
 | 0 => ⟨fun _ _ _ r h => by simp [scan_word.l0] at h,fun _ _ _ _ _ _ r h => by simp [scan_word.j1] at h⟩
 | k + 1 => by
  obtain ⟨ih0,ih1⟩:=scan_word.mono_l k;refine ⟨?_,?_⟩
  ·intro y0 y1 y2
   unfold scan_word.l0
   repeat' first
   | (with_reducible exact ih0 _ _ _)
   | (with_reducible exact ih1 _ _ _ _ _ _)
   | (with_reducible exact LeO.refl _)
   | (with_reducible exact LeO.none _)
   | (with_reducible refine LeO.ite ?_ ?_)
   | (with_reducible refine LeO.bind ?_ (fun _ => ?_))
   | exact ih0 _ _ _
   | exact ih1 _ _ _ _ _ _
   | exact LeO.none _
   | refine LeO.ite ?_ ?_
   | refine LeO.bind ?_ (fun _ => ?_)
  ·intro y0 y1 y2 y3 y4 y5
   unfold scan_word.j1
   repeat' first
   | (with_reducible exact ih0 _ _ _)
   | (with_reducible exact ih1 _ _ _ _ _ _)
   | (with_reducible exact LeO.refl _)
   | (with_reducible exact LeO.none _)
   | (with_reducible refine LeO.ite ?_ ?_)
   | (with_reducible refine LeO.bind ?_ (fun _ => ?_))
   | exact ih0 _ _ _
   | exact ih1 _ _ _ _ _ _
   | exact LeO.none _
   | refine LeO.ite ?_ ?_
   | refine LeO.bind ?_ (fun _ => ?_)
theorem scan_word.mono : ∀ a0 k,LeO (scan_word.f k a0) (scan_word.f (k + 1) a0):=by
 intro a0 k;obtain ⟨ih0,ih1⟩:=scan_word.mono_l k
 unfold scan_word.f
 repeat' first
   | (with_reducible exact ih0 _ _ _)
   | (with_reducible exact ih1 _ _ _ _ _ _)
   | (with_reducible exact LeO.refl _)
   | (with_reducible exact LeO.none _)
   | (with_reducible refine LeO.ite ?_ ?_)
   | (with_reducible refine LeO.bind ?_ (fun _ => ?_))
   | exact ih0 _ _ _
   | exact ih1 _ _ _ _ _ _
   | exact LeO.none _
   | refine LeO.ite ?_ ?_
   | refine LeO.bind ?_ (fun _ => ?_)
set_option maxHeartbeats 8000000 in
set_option maxRecDepth 100000 in
theorem scan_word.calls (k : Nat) (a0 : ByteArray) (r : Int) (w : World) (hG : Tabs w) (h : scan_word.f k a0 = some r) :
  Calls Tryz.prog 95 #[.string a0] w fun e w' => e = .returned (.int .i64 r) ∧ Below w.heap.size w w':=by
 have HG:=Aside0.mk hG;clear hG;have HB:=Aside0.mk (Below.refl w.heap.size w);have H : (scan_word.l0 k a0 0 a0) = some r:=h;clear h;have H':=Aside0.mk H;clear H
 go_enter Tryz.func95,Tryz.ntmps95
 go_wp2_with (first | ((with_reducible refine gate_dst (N:=6) rfl ?_);refine range_event ?hg (N:=6) ?hd (s:=a0) ?hr ?_;(case hd => rfl);(case hg => rfl);(case hr => first | (go_simp;done) | (go_simp;rfl));intro gb135 hg w2 hbox hb;have n0_:=Aside0.mk (below_step (bl0 HB.out) hb);have n1_:=Aside0.mk (hbox);have n2_:=Aside0.mk ((by rw [hg];exact (below_size (bl0 HB.out)) : w.heap.size ≤ gb135));have n3_:=Aside0.mk ((by rw [hg];exact (below_size (bl0 HB.out)) : w.heap.size ≤ gb135));clear HB;have HB:=n0_;have BK135:=n1_;have GW135:=n2_;have GE135:=n3_;clear n0_ n1_ n2_ n3_;clear hb hbox hg))
 (try simp only [Act.put,List.setIfInBounds_toArray,List.set_cons_zero,List.set_cons_succ])
 go_loopg [0] k (fun kq v0 w' => ∃ (x0_1 : ByteArray) (x136000_1 : Int),v0 = .string x0_1 ∧ Aside0 (scan_word.l0 kq x0_1 x136000_1 a0 = some r) ∧ Aside0 (kq ≤ k) ∧ Aside0 (w'.heap[gb135]? = some (.stringIter a0 (Int.toNat x136000_1))) ∧ Aside0 (Below w.heap.size w w'))
 case atStart => exact ⟨(a0),(0),(by first | rfl | (simp;done) | (simp [*];done)),H',⟨Nat.le_refl _⟩,⟨bk BK135.out⟩,⟨bl1 HB.out GE135.out⟩⟩
 case round =>
  clear H'
  try clear p2
  obtain ⟨x0_1,x136000_1,rfl,HA,HK1,BK135,HB⟩:=hrel
  cases gk with
  | zero => exact absurd HA.out (by simp [scan_word.l0])
  | succ k1 =>
   have H:=HA.out;clear HA;simp only [scan_word.l0] at H;replace H:=Option.bind_eq_some_iff.mp H;obtain ⟨⟨t136,t137,t138,t139⟩,A30,H⟩:=H
   (try dsimp only at H)
   have A3:=Aside0.mk A30;clear A30
   by_cases c4 : t136 = true
   ·subst c4;rw [if_pos rfl] at H;have HC5:=Aside0.mk H;clear H
    go_upto_region 4 with (first | ((with_reducible refine gate_dst (N:=7) rfl ?_);have hnx_:=fun ty => (run_next_t (P:=Tryz.prog) (k:=gb135) (s:=a0) (p:=x136000_1) (a0:=t137) (c:=t138) (q:=t139) ty (bk BK135.out) A3.out);refine next_event_t ?hg (N:=7) ?hd (k:=gb135) (s:=a0) (p:=x136000_1) (a0:=t137) (c:=t138) (q:=t139) (bk BK135.out) A3.out ?hr ?_;(case hd => rfl);(case hg => rfl);(case hr => first | (go_simp;done) | (go_simp;rfl));clear hnx_;intro w6 hg hbox;replace BK135:=Aside0.mk (hbox);replace HB:=Aside0.mk (pw_below_grown (bl1 HB.out GE135.out) (some gb135) (below_size (bl1 HB.out GE135.out)) hg (fun _ e_ => by cases e_;exact GW135.out));clear hg hbox))
    (try simp only [Act.put,List.setIfInBounds_toArray,List.set_cons_zero,List.set_cons_succ])
    go_cut [17] (fun v17 wc => ∃ (kq : Nat) (x17_4 : Bool),v17 = .bool x17_4 ∧ Aside0 (scan_word.j1 kq x0_1 t137 t138 x17_4 t139 a0 = some r) ∧ Aside0 (kq ≤ k1) ∧ Aside0 (wc.heap[gb135]? = some (.stringIter a0 (Int.toNat t139))) ∧ Aside0 (Below w.heap.size w wc))
    case first =>
     have H:=HC5.out;clear HC5
     by_cases c7 : t137 = 0
     ·rw [if_pos c7] at H;have c7b0 : (t137 == 0) = true:=beq_iff_eq.mpr c7;have c7b1 : (t137 != 0) = false:=bne_eq_false_iff_eq.mpr c7;clear c7
      (first | rw [c7b0] | (simp only [i64_w,i32_w];rw [c7b0]) | skip)
      replace H:=Option.bind_eq_some_iff.mp H;obtain ⟨t140,A80,H⟩:=H
      (try dsimp only at H)
      have A8:=Aside0.mk A80;clear A80;have H':=Aside0.mk H;clear H
      go_wp2_with (first | (go_at_call 87;(with_reducible refine (unicode_IsLetter.calls t138 t140 _ ?side1 A8.out).mono ?_);(case side1 => exact Tabs.below HG.out (bl1 HB.out GE135.out));rintro e w9 ⟨rfl,hb⟩;replace BK135:=Aside0.mk (blk_below (g:=gb135) (o:=.stringIter a0 (Int.toNat t139)) (bk BK135.out) hb);replace HB:=Aside0.mk (below_step (bl1 HB.out GE135.out) hb);(try clear hb)))
      go_meet
      case rel => exact ⟨_,(!t140),(by first | rfl | (simp;done) | (simp [*];done)),H',⟨by have:=HK1.out;first | omega | exact Nat.le_refl _⟩,⟨bk BK135.out⟩,⟨bl1 HB.out GE135.out⟩⟩
     ·rw [if_neg c7] at H;have c7b0 : (t137 == 0) = false:=beq_eq_false_iff_ne.mpr c7;have c7b1 : (t137 != 0) = true:=bne_iff_ne.mpr c7
      (first | rw [c7b0] | (simp only [i64_w,i32_w];rw [c7b0]) | skip)
      have H':=Aside0.mk H;clear H
      go_wp2
      go_meet
      case rel => exact ⟨_,(false),(by first | rfl | (simp;done) | (simp [*];done)),H',⟨by have:=HK1.out;first | omega | exact Nat.le_refl _⟩,⟨bk BK135.out⟩,⟨bl1 HB.out GE135.out⟩⟩
    case rest =>
     clear HC5
     try clear p2
     try clear c4
     try clear c7
     try clear c7b0
     try clear c7b1
     try clear c9
     try clear p2
     obtain ⟨kq,x17_4,rfl,HA,HJ4,BK135,HB⟩:=hcut
     cases kq with
     | zero => exact absurd HA.out (by simp [scan_word.j1])
     | succ kj4 =>
      have H:=HA.out;clear HA;simp only [scan_word.j1] at H
      by_cases c10 : x17_4 = true
      ·subst c10;rw [if_pos rfl] at H;obtain rfl:=Option.some.inj H
       go_wp2
       go_ret
       exact ⟨by first | rfl | (simp [errW_none,errW_some] <;> rfl) | (simp [*,errW_none,errW_some] <;> rfl),bl1 HB.out GE135.out⟩
      ·replace c10:=Bool.eq_false_iff.mpr c10;subst c10;rw [if_neg (show ¬ (false = true) by decide)] at H;replace H:=Option.bind_eq_some_iff.mp H;obtain ⟨t141,A110,H⟩:=H
       (try dsimp only at H)
       have A11:=Aside0.mk A110;clear A110
       by_cases c12 : t141 = true
       ·subst c12;rw [if_pos rfl] at H
        by_cases c13 : 0 ≤ t137
        ·rw [if_pos c13] at H;have c13b0:=eq_true c13;have c13b1 : decide (0 ≤ t137) = true:=decide_eq_true c13;clear c13
         by_cases c14 : t137 ≤ (x0_1.size : Int)
         ·rw [if_pos c14] at H;have c14b0:=eq_true c14;have c14b1 : decide (t137 ≤ (x0_1.size : Int)) = true:=decide_eq_true c14;clear c14;replace H:=Option.bind_eq_some_iff.mp H;obtain ⟨t142,A150,H⟩:=H
          (try dsimp only at H)
          have A15:=Aside0.mk A150;clear A150;obtain rfl:=Option.some.inj H
          go_wp2_with (first | ((with_reducible refine gate_callee (f:=66) rfl ?_);refine goesL_ (some 21) rfl rfl Tryz.func66 (by kernel_rfl) rfl #[.string x0_1,.int .i64 t137,.int .i32 t138] rfl ea ?_;(with_reducible refine (scan_broken.calls x0_1 t137 t138 true _ A11.out).mono ?_);rintro e w16 ⟨rfl,hb⟩;refine ⟨_,rfl,?_⟩;replace BK135:=Aside0.mk (blk_below (g:=gb135) (o:=.stringIter a0 (Int.toNat t139)) (bk BK135.out) hb);replace HB:=Aside0.mk (below_step (bl1 HB.out GE135.out) hb);(try clear hb)) | ((with_reducible refine gate_callee (f:=114) rfl ?_);refine goesL_ (some 31) rfl rfl Tryz.func114 (by kernel_rfl) rfl #[.string (x0_1.extract 0 (t137 : Int).toNat),.string (⟨#[45]⟩ : ByteArray)] rfl ea ?_;(with_reducible refine (strings_TrimRight.calls (x0_1.extract 0 (t137 : Int).toNat) (⟨#[45]⟩ : ByteArray) t142 _ ?side1 A15.out).mono ?_);(case side1 => exact Tabs.below HG.out (bl1 HB.out GE135.out));rintro e w17 ⟨rfl,hb⟩;refine ⟨_,rfl,?_⟩;replace BK135:=Aside0.mk (blk_below (g:=gb135) (o:=.stringIter a0 (Int.toNat t139)) (bk BK135.out) hb);replace HB:=Aside0.mk (below_step (bl1 HB.out GE135.out) hb);(try clear hb)))
          go_ret
          exact ⟨by first | rfl | (simp [errW_none,errW_some] <;> rfl) | (simp [*,errW_none,errW_some] <;> rfl),bl1 HB.out GE135.out⟩
         ·rw [if_neg c14] at H;exact absurd H (by simp)
        ·rw [if_neg c13] at H;exact absurd H (by simp)
       ·replace c12:=Bool.eq_false_iff.mpr c12;subst c12;rw [if_neg (show ¬ (false = true) by decide)] at H;replace H:=Option.bind_eq_some_iff.mp H;obtain ⟨t143,A180,H⟩:=H
        (try dsimp only at H)
        have A18:=Aside0.mk A180;clear A180
        by_cases c19 : t143 = true
        ·subst c19;rw [if_pos rfl] at H;have H':=Aside0.mk H;clear H
         go_wp2_with (first | ((with_reducible refine gate_callee (f:=66) rfl ?_);refine goesL_ (some 21) rfl rfl Tryz.func66 (by kernel_rfl) rfl #[.string x0_1,.int .i64 t137,.int .i32 t138] rfl ea ?_;(with_reducible refine (scan_broken.calls x0_1 t137 t138 false _ A11.out).mono ?_);rintro e w20 ⟨rfl,hb⟩;refine ⟨_,rfl,?_⟩;replace BK135:=Aside0.mk (blk_below (g:=gb135) (o:=.stringIter a0 (Int.toNat t139)) (bk BK135.out) hb);replace HB:=Aside0.mk (below_step (bl1 HB.out GE135.out) hb);(try clear hb)) | (go_at_call 113;(with_reducible refine (scan_wordly.calls t138 true _ ?side1 A18.out).mono ?_);(case side1 => exact Tabs.below HG.out (bl1 HB.out GE135.out));rintro e w21 ⟨rfl,hb⟩;replace BK135:=Aside0.mk (blk_below (g:=gb135) (o:=.stringIter a0 (Int.toNat t139)) (bk BK135.out) hb);replace HB:=Aside0.mk (below_step (bl1 HB.out GE135.out) hb);(try clear hb)))
         go_roundg kj4
         case measure => have:=HK1.out;have:=HJ4.out;omega
         case rel => exact ⟨(x0_1),(t139),(by first | rfl | (simp;done) | (simp [*];done)),H',⟨by have:=HK1.out;have:=HJ4.out;omega⟩,⟨bk BK135.out⟩,⟨bl1 HB.out GE135.out⟩⟩
        ·replace c19:=Bool.eq_false_iff.mpr c19;subst c19;rw [if_neg (show ¬ (false = true) by decide)] at H
         by_cases c22 : 0 ≤ t137
         ·rw [if_pos c22] at H;have c22b0:=eq_true c22;have c22b1 : decide (0 ≤ t137) = true:=decide_eq_true c22;clear c22
          by_cases c23 : t137 ≤ (x0_1.size : Int)
          ·rw [if_pos c23] at H;have c23b0:=eq_true c23;have c23b1 : decide (t137 ≤ (x0_1.size : Int)) = true:=decide_eq_true c23;clear c23;replace H:=Option.bind_eq_some_iff.mp H;obtain ⟨t144,A240,H⟩:=H
           (try dsimp only at H)
           have A24:=Aside0.mk A240;clear A240;obtain rfl:=Option.some.inj H
           go_wp2_with (first | ((with_reducible refine gate_callee (f:=66) rfl ?_);refine goesL_ (some 21) rfl rfl Tryz.func66 (by kernel_rfl) rfl #[.string x0_1,.int .i64 t137,.int .i32 t138] rfl ea ?_;(with_reducible refine (scan_broken.calls x0_1 t137 t138 false _ A11.out).mono ?_);rintro e w25 ⟨rfl,hb⟩;refine ⟨_,rfl,?_⟩;replace BK135:=Aside0.mk (blk_below (g:=gb135) (o:=.stringIter a0 (Int.toNat t139)) (bk BK135.out) hb);replace HB:=Aside0.mk (below_step (bl1 HB.out GE135.out) hb);(try clear hb)) | (go_at_call 113;(with_reducible refine (scan_wordly.calls t138 false _ ?side1 A18.out).mono ?_);(case side1 => exact Tabs.below HG.out (bl1 HB.out GE135.out));rintro e w26 ⟨rfl,hb⟩;replace BK135:=Aside0.mk (blk_below (g:=gb135) (o:=.stringIter a0 (Int.toNat t139)) (bk BK135.out) hb);replace HB:=Aside0.mk (below_step (bl1 HB.out GE135.out) hb);(try clear hb)) | ((with_reducible refine gate_callee (f:=114) rfl ?_);refine goesL_ (some 31) rfl rfl Tryz.func114 (by kernel_rfl) rfl #[.string (x0_1.extract 0 (t137 : Int).toNat),.string (⟨#[45]⟩ : ByteArray)] rfl ea ?_;(with_reducible refine (strings_TrimRight.calls (x0_1.extract 0 (t137 : Int).toNat) (⟨#[45]⟩ : ByteArray) t144 _ ?side1 A24.out).mono ?_);(case side1 => exact Tabs.below HG.out (bl1 HB.out GE135.out));rintro e w27 ⟨rfl,hb⟩;refine ⟨_,rfl,?_⟩;replace BK135:=Aside0.mk (blk_below (g:=gb135) (o:=.stringIter a0 (Int.toNat t139)) (bk BK135.out) hb);replace HB:=Aside0.mk (below_step (bl1 HB.out GE135.out) hb);(try clear hb)))
           go_ret
           exact ⟨by first | rfl | (simp [errW_none,errW_some] <;> rfl) | (simp [*,errW_none,errW_some] <;> rfl),bl1 HB.out GE135.out⟩
          ·rw [if_neg c23] at H;exact absurd H (by simp)
         ·rw [if_neg c22] at H;exact absurd H (by simp)
   ·replace c4:=Bool.eq_false_iff.mpr c4;subst c4;rw [if_neg (show ¬ (false = true) by decide)] at H;replace H:=Option.bind_eq_some_iff.mp H;obtain ⟨t145,A280,H⟩:=H
    (try dsimp only at H)
    have A28:=Aside0.mk A280;clear A280;obtain rfl:=Option.some.inj H
    go_wp2_with (first | ((with_reducible refine gate_dst (N:=7) rfl ?_);have hnx_:=fun ty => (run_next_f (P:=Tryz.prog) (k:=gb135) (s:=a0) (p:=x136000_1) (a0:=t137) (c:=t138) (q:=t139) ty (bk BK135.out) A3.out).1;refine next_event_f ?hg (N:=7) ?hd (k:=gb135) (s:=a0) (p:=x136000_1) (a0:=t137) (c:=t138) (q:=t139) (bk BK135.out) A3.out ?hr ?_;(case hd => rfl);(case hg => rfl);(case hr => first | (go_simp;done) | (go_simp;rfl));clear hnx_;intro w29 hg hbox;replace BK135:=Aside0.mk (hbox);replace HB:=Aside0.mk (pw_below_grown (bl1 HB.out GE135.out) (some gb135) (below_size (bl1 HB.out GE135.out)) hg (fun _ e_ => by cases e_;exact GW135.out));clear hg hbox) | ((with_reducible refine gate_callee (f:=114) rfl ?_);refine goesL_ (some 31) rfl rfl Tryz.func114 (by kernel_rfl) rfl #[.string x0_1,.string (⟨#[45]⟩ : ByteArray)] rfl ea ?_;(with_reducible refine (strings_TrimRight.calls x0_1 (⟨#[45]⟩ : ByteArray) t145 _ ?side1 A28.out).mono ?_);(case side1 => exact Tabs.below HG.out (bl1 HB.out GE135.out));rintro e w30 ⟨rfl,hb⟩;refine ⟨_,rfl,?_⟩;replace BK135:=Aside0.mk (blk_below (g:=gb135) (o:=.stringIter a0 (Int.toNat t139)) (bk BK135.out) hb);replace HB:=Aside0.mk (below_step (bl1 HB.out GE135.out) hb);(try clear hb)))
    go_ret
    exact ⟨by first | rfl | (simp [errW_none,errW_some] <;> rfl) | (simp [*,errW_none,errW_some] <;> rfl),bl1 HB.out GE135.out⟩

-- by hand: function 96 (utf8_RuneCountInString)

-- by hand: function 115 (strings_TrimLeft)

/-! ### scan_numeral: function 97 -/
def scan_numeral.f (a0 : ByteArray) : Option (Int):=(strings_TrimLeft.f a0 (⟨#[48,49,50,51,52,53,54,55,56,57]⟩ : ByteArray)).bind fun t146 => (some (wrap64 ((a0.size : Int) - (t146.size : Int))))
set_option maxHeartbeats 8000000 in
set_option maxRecDepth 100000 in
theorem scan_numeral.calls (a0 : ByteArray) (r : Int) (w : World) (hG : Tabs w) (h : scan_numeral.f a0 = some r) :
  Calls Tryz.prog 97 #[.string a0] w fun e w' => e = .returned (.int .i64 r) ∧ Below w.heap.size w w':=by
 have HG:=Aside0.mk hG;clear hG;have HB:=Aside0.mk (Below.refl w.heap.size w);have H : ((strings_TrimLeft.f a0 (⟨#[48,49,50,51,52,53,54,55,56,57]⟩ : ByteArray)).bind fun t146 => (some (wrap64 ((a0.size : Int) - (t146.size : Int))))) = some r:=h;clear h;replace H:=Option.bind_eq_some_iff.mp H;obtain ⟨t146,A20,H⟩:=H
 (try dsimp only at H)
 have A2:=Aside0.mk A20;clear A20;obtain rfl:=Option.some.inj H
 go_enter Tryz.func97,Tryz.ntmps97
 go_wp2_with (first | ((with_reducible refine gate_callee (f:=115) rfl ?_);refine goesL_ (some 6) rfl rfl Tryz.func115 (by kernel_rfl) rfl #[.string a0,.string (⟨#[48,49,50,51,52,53,54,55,56,57]⟩ : ByteArray)] rfl ea ?_;(with_reducible refine (strings_TrimLeft.calls a0 (⟨#[48,49,50,51,52,53,54,55,56,57]⟩ : ByteArray) t146 _ ?side1 A2.out).mono ?_);(case side1 => exact Tabs.below HG.out (bl0 HB.out));rintro e w3 ⟨rfl,hb⟩;refine ⟨_,rfl,?_⟩;replace HB:=Aside0.mk (below_step (bl0 HB.out) hb);(try clear hb)))
 go_ret
 exact ⟨by first | rfl | (simp [errW_none,errW_some] <;> rfl) | (simp [*,errW_none,errW_some] <;> rfl),bl0 HB.out⟩

-- by hand: function 69 (strconv_Atoi)

-- by hand: function 80 (utf8_DecodeRuneInString)

end Go.Proofs.YtmgdkkkkanjadaaGreatDoor.X
