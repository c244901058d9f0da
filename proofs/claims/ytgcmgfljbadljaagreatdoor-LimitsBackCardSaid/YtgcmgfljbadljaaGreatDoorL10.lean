/- Written by a program of this claim's author (stubprint.py, over the kit's print) out of the translation: Go functions as Lean functions, and that the calls come to them. -/
import Derived.Test.YtgcmgfljbadljaaGreatDoorL0
import Derived.Test.YtgcmgfljbadljaaGreatDoorL24
import Derived.Test.YtgcmgfljbadljaaGreatDoorHandS
namespace Go.Proofs.YtgcmgfljbadljaaGreatDoor.L
open Go.RowKit Go.Proofs.YtgcmgfljbadljaaGreatDoorW.PrintWords Go.Proofs.YtgcmgfljbadljaaGreatDoorW.PrintLast Go.Proofs.YtgcmgfljbadljaaGreatDoorW.PrintMore Go.Proofs.YtgcmgfljbadljaaGreatDoor.HandS Go.Proofs.YtgcmgfljbadljaaGreatDoor.Iter
attribute [local go_sem] max2_int min2_int max_two min_two max_three min_three max_four min_four   -- for this text's walks alone
set_option linter.unusedVariables false
set_option linter.unusedSimpArgs false

attribute [local go_sem high] eqA35
/-! ### joustlaw30_in: function 12 -/
def joustlaw30_in.l0 : Nat → List (S35) → Int → Int → Int → Int → Option (Bool)
 | 0,_,_,_,_,_ => none
 | k + 1,x0,x7,x8,x203000,x203001 => if x8 < x7 then (if 0 ≤ x8 then (if x8 < (x0.length : Int) then (if (((rd_T35 x0 x8).f0) == x203000 && (((rd_T35 x0 x8).f1) == x203001)) = true then (some true) else (joustlaw30_in.l0 k x0 x7 (wrap64 (x8 + 1)) x203000 x203001)) else (none)) else (none)) else (some false)
def joustlaw30_in.f (k : Nat) (l0 : List (S35)) (a1_0 : Int) (a1_1 : Int) : Option (Bool):=joustlaw30_in.l0 k l0 (l0.length : Int) 0 a1_0 a1_1
theorem joustlaw30_in.mono_l : ∀ k,(∀ y0 y1 y2 y3 y4,LeO (joustlaw30_in.l0 k y0 y1 y2 y3 y4) (joustlaw30_in.l0 (k + 1) y0 y1 y2 y3 y4))
 | 0 => fun _ _ _ _ _ r h => by simp [joustlaw30_in.l0] at h
 | k + 1 => by
  have ih0:=joustlaw30_in.mono_l k
  ·intro y0 y1 y2 y3 y4
   unfold joustlaw30_in.l0
   repeat' first
   | (with_reducible exact ih0 _ _ _ _ _)
   | (with_reducible exact LeO.refl _)
   | (with_reducible exact LeO.none _)
   | (with_reducible refine LeO.ite ?_ ?_)
   | (with_reducible refine LeO.bind ?_ (fun _ => ?_))
   | exact ih0 _ _ _ _ _
   | exact LeO.none _
   | refine LeO.ite ?_ ?_
   | refine LeO.bind ?_ (fun _ => ?_)
theorem joustlaw30_in.mono : ∀ a0 a1 a2 k,LeO (joustlaw30_in.f k a0 a1 a2) (joustlaw30_in.f (k + 1) a0 a1 a2):=by
 intro a0 a1 a2 k;have ih0:=joustlaw30_in.mono_l k
 unfold joustlaw30_in.f
 repeat' first
   | (with_reducible exact ih0 _ _ _ _ _)
   | (with_reducible exact LeO.refl _)
   | (with_reducible exact LeO.none _)
   | (with_reducible refine LeO.ite ?_ ?_)
   | (with_reducible refine LeO.bind ?_ (fun _ => ?_))
   | exact ih0 _ _ _ _ _
   | exact LeO.none _
   | refine LeO.ite ?_ ?_
   | refine LeO.bind ?_ (fun _ => ?_)
set_option maxHeartbeats 8000000 in
set_option maxRecDepth 100000 in
theorem joustlaw30_in.calls (k : Nat) (A0 : Option Addr) (c0 : Nat) (l0 : List (S35)) (a1_0 : Int) (a1_1 : Int) (r : Bool) (w : World) (hr0 : Kd.C k35 w A0 l0.length l0) (hc0 : l0.length ≤ c0) (h : joustlaw30_in.f k l0 a1_0 a1_1 = some r) :
  Calls Tryz.prog 12 #[.slice A0 l0.length c0,.agg #[.int .u8 a1_0,.int .i64 a1_1]] w fun e w' => e = .returned (.bool r) ∧ Below w.heap.size w w':=by
 have hu35:=Tryz.underlying35;have HR0:=Aside0.mk hr0;have HC0:=Aside0.mk hc0;clear hr0 hc0;have HB:=Aside0.mk (Below.refl w.heap.size w);have H : (joustlaw30_in.l0 k l0 (l0.length : Int) 0 a1_0 a1_1) = some r:=h;clear h;have H':=Aside0.mk H;clear H
 go_enter Tryz.func12,Tryz.ntmps12
 go_wp2_with (first | ((with_reducible refine gate_dst (N:=3) rfl ?_);refine box_event ?hg (N:=3) ?hd (cs:=#[.int .u8 a1_0,.int .i64 a1_1]) (t:=35) ?hr ?_;(case hd => rfl);(case hg => rfl);(case hr => first | (go_simp;done) | (go_simp;rfl));intro gb202 hg w3 hbox hb;have n0_:=Aside0.mk (below_step (bl0 HB.out) hb);have n1_:=Aside0.mk (hbox);have n2_:=Aside0.mk ((by rw [hg];exact (below_size (bl0 HB.out)) : w.heap.size ≤ gb202));have n3_:=Aside0.mk ((by rw [hg];exact (below_size (bl0 HB.out)) : w.heap.size ≤ gb202));clear HB;have HB:=n0_;have BK202:=n1_;have GW202:=n2_;have GE202:=n3_;clear n0_ n1_ n2_ n3_;clear hb hbox hg))
 repeat (go_quiet (first | ((with_reducible refine gate_dst (N:=3) rfl ?_);refine box_event ?hg (N:=3) ?hd (cs:=#[.int .u8 a1_0,.int .i64 a1_1]) (t:=35) ?hr ?_;(case hd => rfl);(case hg => rfl);(case hr => first | (go_simp;done) | (go_simp;rfl));intro gb202 hg w3 hbox hb;have n0_:=Aside0.mk (below_step (bl0 HB.out) hb);have n1_:=Aside0.mk (hbox);have n2_:=Aside0.mk ((by rw [hg];exact (below_size (bl0 HB.out)) : w.heap.size ≤ gb202));have n3_:=Aside0.mk ((by rw [hg];exact (below_size (bl0 HB.out)) : w.heap.size ≤ gb202));clear HB;have HB:=n0_;have BK202:=n1_;have GW202:=n2_;have GE202:=n3_;clear n0_ n1_ n2_ n3_;clear hb hbox hg));try go_wp2_with (first | ((with_reducible refine gate_dst (N:=3) rfl ?_);refine box_event ?hg (N:=3) ?hd (cs:=#[.int .u8 a1_0,.int .i64 a1_1]) (t:=35) ?hr ?_;(case hd => rfl);(case hg => rfl);(case hr => first | (go_simp;done) | (go_simp;rfl));intro gb202 hg w3 hbox hb;have n0_:=Aside0.mk (below_step (bl0 HB.out) hb);have n1_:=Aside0.mk (hbox);have n2_:=Aside0.mk ((by rw [hg];exact (below_size (bl0 HB.out)) : w.heap.size ≤ gb202));have n3_:=Aside0.mk ((by rw [hg];exact (below_size (bl0 HB.out)) : w.heap.size ≤ gb202));clear HB;have HB:=n0_;have BK202:=n1_;have GW202:=n2_;have GE202:=n3_;clear n0_ n1_ n2_ n3_;clear hb hbox hg)))
 go_loopg [8] k (fun kq v8 w' => ∃ (x8_1 : Int),v8 = .int .i64 x8_1 ∧ Aside0 (joustlaw30_in.l0 kq l0 (l0.length : Int) x8_1 a1_0 a1_1 = some r) ∧ Aside0 (kq ≤ k) ∧ Aside0 (w'.heap[gb202]? = some (.cells #[.int .u8 a1_0,.int .i64 a1_1] 35 (0,0))) ∧ Aside0 (Below w.heap.size w w'))
 case atStart => exact ⟨(0),(by first | rfl | (simp;done) | (simp [*];done)),H',⟨Nat.le_refl _⟩,⟨bk BK202.out⟩,⟨bl1 HB.out GE202.out⟩⟩
 case round =>
  clear H'
  try clear c1
  try clear p2
  obtain ⟨x8_1,rfl,HA,HK1,BK202,HB⟩:=hrel
  cases gk with
  | zero => exact absurd HA.out (by simp [joustlaw30_in.l0])
  | succ k1 =>
   have H:=HA.out;clear HA;simp only [joustlaw30_in.l0] at H
   by_cases c4 : x8_1 < (l0.length : Int)
   ·rw [if_pos c4] at H;have c4b0 : decide (x8_1 < (l0.length : Int)) = true:=decide_eq_true c4;clear c4
    by_cases c5 : 0 ≤ x8_1
    ·rw [if_pos c5] at H;have c5b0 : decide (0 ≤ x8_1) = true:=decide_eq_true c5;clear c5
     by_cases c6 : x8_1 < (l0.length : Int)
     ·rw [if_pos c6] at H;have c6b0 : decide (x8_1 < (l0.length : Int)) = true:=decide_eq_true c6;clear c6
      by_cases c7 : (((rd_T35 l0 x8_1).f0) == a1_0 && (((rd_T35 l0 x8_1).f1) == a1_1)) = true
      ·rw [if_pos c7] at H;have c7b0 : (((rd_T35 l0 x8_1).f0) == a1_0 && (((rd_T35 l0 x8_1).f1) == a1_1)) = true:=c7
       (try (have c7b1 : decide (((rd_T35 l0 x8_1).f0) = a1_0 && (((rd_T35 l0 x8_1).f1) == a1_1)) = true:=by simpa using c7))
       (try (have c7b2 : (((rd_T35 l0 x8_1).f0) == a1_0 && (((rd_T35 l0 x8_1).f1) == a1_1)) = true:=by simpa using c7))
       clear c7;obtain rfl:=Option.some.inj H;have p203 : 0 ≤ (x8_1 : Int):=of_decide_eq_true (by first | (with_reducible assumption) | assumption);have q203 : x8_1 < (l0.length : Int):=of_decide_eq_true (by first | (with_reducible assumption) | assumption);obtain ⟨ad203,e203,hx203_0,hx203_1⟩:=at_T35 HR0.out x8_1 p203 q203
       cases e203
       replace hx203_0:=(HB.out.cell (World.block_lt_of_cell? w _ hx203_0)).trans hx203_0;replace hx203_1:=(HB.out.cell (World.block_lt_of_cell? w _ hx203_1)).trans hx203_1;replace p203:=eq_true p203;replace q203:=eq_true q203;have hcz8_0:=bc BK202.out 0 (.int .u8 a1_0) rfl;have hcz8_1:=bc BK202.out 1 (.int .i64 a1_1) rfl;have hfz8_0:=blk_frozen BK202.out 0;have hfz8_1:=blk_frozen BK202.out 1
       go_wp2
       repeat (go_quiet (fail);try go_wp2)
       go_ret
       exact ⟨by first | rfl | (simp [errW_none,errW_some] <;> rfl) | (simp [*,errW_none,errW_some] <;> rfl),bl1 HB.out GE202.out⟩
      ·rw [if_neg c7] at H;have c7b0 : (((rd_T35 l0 x8_1).f0) == a1_0 && (((rd_T35 l0 x8_1).f1) == a1_1)) = false:=by simpa using c7
       (try (have c7b1 : decide (((rd_T35 l0 x8_1).f0) = a1_0 && (((rd_T35 l0 x8_1).f1) == a1_1)) = false:=by simpa using c7))
       (try (have c7b2 : (((rd_T35 l0 x8_1).f0) == a1_0 && (((rd_T35 l0 x8_1).f1) == a1_1)) = false:=by simpa using c7))
       (try (have c7b3 : ¬ (((rd_T35 l0 x8_1).f0) = a1_0 && (((rd_T35 l0 x8_1).f1) == a1_1)):=by simpa using c7))
       clear c7;have H':=Aside0.mk H;clear H;have p203 : 0 ≤ (x8_1 : Int):=of_decide_eq_true (by first | (with_reducible assumption) | assumption);have q203 : x8_1 < (l0.length : Int):=of_decide_eq_true (by first | (with_reducible assumption) | assumption);obtain ⟨ad203,e203,hx203_0,hx203_1⟩:=at_T35 HR0.out x8_1 p203 q203
       cases e203
       replace hx203_0:=(HB.out.cell (World.block_lt_of_cell? w _ hx203_0)).trans hx203_0;replace hx203_1:=(HB.out.cell (World.block_lt_of_cell? w _ hx203_1)).trans hx203_1;replace p203:=eq_true p203;replace q203:=eq_true q203;have hcz9_0:=bc BK202.out 0 (.int .u8 a1_0) rfl;have hcz9_1:=bc BK202.out 1 (.int .i64 a1_1) rfl;have hfz9_0:=blk_frozen BK202.out 0;have hfz9_1:=blk_frozen BK202.out 1
       go_wp2
       repeat (go_quiet (fail);try go_wp2)
       go_roundg k1
       case measure => have:=HK1.out;omega
       case rel => exact ⟨(wrap64 (x8_1 + 1)),(by first | rfl | (simp;done) | (simp [*];done)),H',⟨by have:=HK1.out;omega⟩,⟨bk BK202.out⟩,⟨bl1 HB.out GE202.out⟩⟩
     ·rw [if_neg c6] at H;exact absurd H (by simp)
    ·rw [if_neg c5] at H;exact absurd H (by simp)
   ·rw [if_neg c4] at H;have c4b0 : decide (x8_1 < (l0.length : Int)) = false:=decide_eq_false c4;clear c4;obtain rfl:=Option.some.inj H
    go_wp2
    repeat (go_quiet (fail);try go_wp2)
    go_ret
    exact ⟨by first | rfl | (simp [errW_none,errW_some] <;> rfl) | (simp [*,errW_none,errW_some] <;> rfl),bl1 HB.out GE202.out⟩

-- by hand: function 82 (strings_HasPrefix)

/-! ### scan_broken: function 59 -/
def scan_broken.f (a0 : ByteArray) (a1 : Int) (a2 : Int) : Option (Bool):=if a2 = 65533 then (if 0 ≤ a1 then (if a1 ≤ (a0.size : Int) then ((strings_HasPrefix.f (a0.extract (a1 : Int).toNat a0.size) (⟨#[239,191,189]⟩ : ByteArray)).bind fun t204 => (some (!t204))) else (none)) else (none)) else (some false)
set_option maxHeartbeats 8000000 in
set_option maxRecDepth 100000 in
theorem scan_broken.calls (a0 : ByteArray) (a1 : Int) (a2 : Int) (r : Bool) (w : World) (h : scan_broken.f a0 a1 a2 = some r) :
  Calls Tryz.prog 59 #[.string a0,.int .i64 a1,.int .i32 a2] w fun e w' => e = .returned (.bool r) ∧ Below w.heap.size w w':=by
 have HB:=Aside0.mk (Below.refl w.heap.size w);have H : (if a2 = 65533 then (if 0 ≤ a1 then (if a1 ≤ (a0.size : Int) then ((strings_HasPrefix.f (a0.extract (a1 : Int).toNat a0.size) (⟨#[239,191,189]⟩ : ByteArray)).bind fun t204 => (some (!t204))) else (none)) else (none)) else (some false)) = some r:=h;clear h
 by_cases c4 : a2 = 65533
 ·rw [if_pos c4] at H;have c4b0 : (a2 == 65533) = true:=beq_iff_eq.mpr c4;have c4b1 : (a2 != 65533) = false:=bne_eq_false_iff_eq.mpr c4;clear c4
  by_cases c5 : 0 ≤ a1
  ·rw [if_pos c5] at H;have c5b0:=eq_true c5;have c5b1 : decide (0 ≤ a1) = true:=decide_eq_true c5;clear c5
   by_cases c6 : a1 ≤ (a0.size : Int)
   ·rw [if_pos c6] at H;have c6b0:=eq_true c6;have c6b1 : decide (a1 ≤ (a0.size : Int)) = true:=decide_eq_true c6;clear c6;replace H:=Option.bind_eq_some_iff.mp H;obtain ⟨t204,A70,H⟩:=H
    (try dsimp only at H)
    have A7:=Aside0.mk A70;clear A70;obtain rfl:=Option.some.inj H
    go_enter Tryz.func59,Tryz.ntmps59
    go_wp2_with (first | (go_at_call 82;(with_reducible refine (strings_HasPrefix.calls (a0.extract (a1 : Int).toNat a0.size) (⟨#[239,191,189]⟩ : ByteArray) t204 _ A7.out).mono ?_);rintro e w8 ⟨rfl,hb⟩;replace HB:=Aside0.mk (below_step (bl0 HB.out) hb);(try clear hb)))
    go_ret
    exact ⟨by first | rfl | (simp [errW_none,errW_some] <;> rfl) | (simp [*,errW_none,errW_some] <;> rfl),bl0 HB.out⟩
   ·rw [if_neg c6] at H;exact absurd H (by simp)
  ·rw [if_neg c5] at H;exact absurd H (by simp)
 ·rw [if_neg c4] at H;have c4b0 : (a2 == 65533) = false:=beq_eq_false_iff_ne.mpr c4;have c4b1 : (a2 != 65533) = true:=bne_iff_ne.mpr c4;obtain rfl:=Option.some.inj H
  go_enter Tryz.func59,Tryz.ntmps59
  go_wp2
  go_ret
  exact ⟨by first | rfl | (simp [errW_none,errW_some] <;> rfl) | (simp [*,errW_none,errW_some] <;> rfl),bl0 HB.out⟩

-- by hand: function 71 (unicode_IsLetter)

/-! ### scan_isDigit: function 96 -/
def scan_isDigit.f (a0 : Int) : Option (Bool):=if 48 ≤ a0 then (some (decide (a0 ≤ 57))) else (some false)
set_option maxHeartbeats 8000000 in
set_option maxRecDepth 100000 in
theorem scan_isDigit.calls (a0 : Int) (r : Bool) (w : World) (h : scan_isDigit.f a0 = some r) :
  Calls Tryz.prog 96 #[.int .i32 a0] w fun e w' => e = .returned (.bool r) ∧ Drawn0 w w':=by
 have H : (if 48 ≤ a0 then (some (decide (a0 ≤ 57))) else (some false)) = some r:=h;clear h
 by_cases c2 : 48 ≤ a0
 ·rw [if_pos c2] at H;have c2b0 : decide (48 ≤ a0) = true:=decide_eq_true c2;clear c2;obtain rfl:=Option.some.inj H
  go_enter Tryz.func96,Tryz.ntmps96
  go_wp2
  go_ret
  exact ⟨by first | rfl | (simp;done) | (simp [*];done),by repeat (first | exact Drawn0.refl _ | apply Drawn0.step)⟩
 ·rw [if_neg c2] at H;have c2b0 : decide (48 ≤ a0) = false:=decide_eq_false c2;clear c2;obtain rfl:=Option.some.inj H
  go_enter Tryz.func96,Tryz.ntmps96
  go_wp2
  go_ret
  exact ⟨by first | rfl | (simp;done) | (simp [*];done),by repeat (first | exact Drawn0.refl _ | apply Drawn0.step)⟩

/-! ### scan_wordly: function 80 -/
def scan_wordly.f (a0 : Int) : Option (Bool):=if a0 = 45 then (some true) else ((scan_isDigit.f a0).bind fun t205 => (if t205 = true then (some true) else ((unicode_IsLetter.f a0).bind fun t206 => (some t206))))
set_option maxHeartbeats 8000000 in
set_option maxRecDepth 100000 in
theorem scan_wordly.calls (a0 : Int) (r : Bool) (w : World) (hG : Tabs w) (h : scan_wordly.f a0 = some r) :
  Calls Tryz.prog 80 #[.int .i32 a0] w fun e w' => e = .returned (.bool r) ∧ Below w.heap.size w w':=by
 have HG:=Aside0.mk hG;clear hG;have HB:=Aside0.mk (Below.refl w.heap.size w);have H : (if a0 = 45 then (some true) else ((scan_isDigit.f a0).bind fun t205 => (if t205 = true then (some true) else ((unicode_IsLetter.f a0).bind fun t206 => (some t206))))) = some r:=h;clear h
 by_cases c2 : a0 = 45
 ·rw [if_pos c2] at H;have c2b0 : (a0 == 45) = true:=beq_iff_eq.mpr c2;have c2b1 : (a0 != 45) = false:=bne_eq_false_iff_eq.mpr c2;clear c2;obtain rfl:=Option.some.inj H
  go_enter Tryz.func80,Tryz.ntmps80
  go_wp2
  go_ret
  exact ⟨by first | rfl | (simp [errW_none,errW_some] <;> rfl) | (simp [*,errW_none,errW_some] <;> rfl),bl0 HB.out⟩
 ·rw [if_neg c2] at H;have c2b0 : (a0 == 45) = false:=beq_eq_false_iff_ne.mpr c2;have c2b1 : (a0 != 45) = true:=bne_iff_ne.mpr c2;replace H:=Option.bind_eq_some_iff.mp H;obtain ⟨t205,A30,H⟩:=H
  (try dsimp only at H)
  have A3:=Aside0.mk A30;clear A30
  by_cases c4 : t205 = true
  ·subst c4;rw [if_pos rfl] at H;obtain rfl:=Option.some.inj H
   go_enter Tryz.func80,Tryz.ntmps80
   go_wp2_with (first | (go_at_call 96;(with_reducible refine (scan_isDigit.calls a0 true _ A3.out).mono ?_);rintro e w' ⟨rfl,⟨nd,rfl⟩⟩))
   go_ret
   exact ⟨by first | rfl | (simp [errW_none,errW_some] <;> rfl) | (simp [*,errW_none,errW_some] <;> rfl),bl0 HB.out⟩
  ·replace c4:=Bool.eq_false_iff.mpr c4;subst c4;rw [if_neg (show ¬ (false = true) by decide)] at H;replace H:=Option.bind_eq_some_iff.mp H;obtain ⟨t206,A50,H⟩:=H
   (try dsimp only at H)
   have A5:=Aside0.mk A50;clear A50;obtain rfl:=Option.some.inj H
   go_enter Tryz.func80,Tryz.ntmps80
   go_wp2_with (first | (go_at_call 96;(with_reducible refine (scan_isDigit.calls a0 false _ A3.out).mono ?_);rintro e w' ⟨rfl,⟨nd,rfl⟩⟩) | (go_at_call 71;(with_reducible refine (unicode_IsLetter.calls a0 t206 _ ?side1 A5.out).mono ?_);(case side1 => exact Tabs.below HG.out (bl0 HB.out));rintro e w6 ⟨rfl,hb⟩;replace HB:=Aside0.mk (below_step (bl0 HB.out) hb);(try clear hb)))
   go_ret
   exact ⟨by first | rfl | (simp [errW_none,errW_some] <;> rfl) | (simp [*,errW_none,errW_some] <;> rfl),bl0 HB.out⟩

-- by hand: function 81 (strings_TrimRight)

end Go.Proofs.YtgcmgfljbadljaaGreatDoor.L
