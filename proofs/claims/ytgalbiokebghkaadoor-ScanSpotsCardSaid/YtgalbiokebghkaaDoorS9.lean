/- Written by a program of this claim's author (stubprint.py, over the kit's print) out of the translation: Go functions as Lean functions, and that the calls come to them. -/
import Derived.Test.YtgalbiokebghkaaDoorS0
import Derived.Test.YtgalbiokebghkaaDoorS1
import Derived.Test.YtgalbiokebghkaaDoorHandS
namespace Go.Proofs.YtgalbiokebghkaaDoor.S
open Go.RowKit Go.Proofs.YtgalbiokebghkaaDoorW.PrintWords Go.Proofs.YtgalbiokebghkaaDoorW.PrintLast Go.Proofs.YtgalbiokebghkaaDoorW.PrintMore Go.Proofs.YtgalbiokebghkaaDoor.HandS Go.Proofs.YtgalbiokebghkaaDoor.Iter
attribute [local go_sem] max2_int min2_int max_two min_two max_three min_three max_four min_four   -- for this text's walks alone
set_option linter.unusedVariables false
set_option linter.unusedSimpArgs false

attribute [local go_sem high] eqA37
/-! ### joustref00_Tokens: function 17 -/
def joustref00_Tokens.l0 : Nat → List (S48) → List (S48) → Bool → Int → Option (Bool)
 | 0,_,_,_,_ => none
 | k + 1,x0,x1,x5,x6 => if x5 = true then (if x6 < (x0.length : Int) then (if 0 ≤ x6 then (if x6 < (x1.length : Int) then (if ((rd_T48 x0 x6).f0) = ((rd_T48 x1 x6).f0) then (joustref00_Tokens.l0 k x0 x1 (((rd_T48 x0 x6).f1).toList == ((rd_T48 x1 x6).f1).toList) (wrap64 (x6 + 1))) else (joustref00_Tokens.l0 k x0 x1 false (wrap64 (x6 + 1)))) else (none)) else (none)) else (some x5)) else (some x5)
def joustref00_Tokens.f (k : Nat) (l0 : List (S48)) (l1 : List (S48)) : Option (Bool):=joustref00_Tokens.l0 k l0 l1 ((l0.length : Int) == (l1.length : Int)) 0
theorem joustref00_Tokens.mono_l : ∀ k,(∀ y0 y1 y2 y3,LeO (joustref00_Tokens.l0 k y0 y1 y2 y3) (joustref00_Tokens.l0 (k + 1) y0 y1 y2 y3))
 | 0 => fun _ _ _ _ r h => by simp [joustref00_Tokens.l0] at h
 | k + 1 => by
  have ih0:=joustref00_Tokens.mono_l k
  ·intro y0 y1 y2 y3
   unfold joustref00_Tokens.l0
   repeat' first
   | (with_reducible exact ih0 _ _ _ _)
   | (with_reducible exact LeO.refl _)
   | (with_reducible exact LeO.none _)
   | (with_reducible refine LeO.ite ?_ ?_)
   | (with_reducible refine LeO.bind ?_ (fun _ => ?_))
   | exact ih0 _ _ _ _
   | exact LeO.none _
   | refine LeO.ite ?_ ?_
   | refine LeO.bind ?_ (fun _ => ?_)
theorem joustref00_Tokens.mono : ∀ a0 a1 k,LeO (joustref00_Tokens.f k a0 a1) (joustref00_Tokens.f (k + 1) a0 a1):=by
 intro a0 a1 k
 have ih0:=joustref00_Tokens.mono_l k
 unfold joustref00_Tokens.f
 repeat' first
   | (with_reducible exact ih0 _ _ _ _)
   | (with_reducible exact LeO.refl _)
   | (with_reducible exact LeO.none _)
   | (with_reducible refine LeO.ite ?_ ?_)
   | (with_reducible refine LeO.bind ?_ (fun _ => ?_))
   | exact ih0 _ _ _ _
   | exact LeO.none _
   | refine LeO.ite ?_ ?_
   | refine LeO.bind ?_ (fun _ => ?_)
set_option maxHeartbeats 8000000 in
set_option maxRecDepth 100000 in
theorem joustref00_Tokens.calls (k : Nat) (A0 : Option Addr) (c0 : Nat) (l0 : List (S48)) (A1 : Option Addr) (c1 : Nat) (l1 : List (S48)) (r : Bool) (w : World) (hr0 : Kd.C k48 w A0 l0.length l0) (hc0 : l0.length ≤ c0) (hr1 : Kd.C k48 w A1 l1.length l1) (hc1 : l1.length ≤ c1) (h : joustref00_Tokens.f k l0 l1 = some r) :
  Calls Tryd.prog 17 #[.slice A0 l0.length c0,.slice A1 l1.length c1] w fun e w' => e = .returned (.bool r) ∧ Drawn0 w w':=by
 have HR0:=Aside0.mk hr0
 have HC0:=Aside0.mk hc0
 clear hr0 hc0
 have HR1:=Aside0.mk hr1
 have HC1:=Aside0.mk hc1
 clear hr1 hc1
 have H : (joustref00_Tokens.l0 k l0 l1 ((l0.length : Int) == (l1.length : Int)) 0) = some r:=h
 clear h
 have H':=Aside0.mk H
 clear H
 go_enter Tryd.func17,Tryd.ntmps17
 go_wp2
 repeat (go_quiet (fail);try go_wp2)
 (try simp only [Act.put,List.setIfInBounds_toArray,List.set_cons_zero,List.set_cons_succ])
 go_loopg [5,6] k (fun kq v5 v6 w' => ∃ (x5_1 : Bool) (x6_1 : Int),v5 = .bool x5_1 ∧ v6 = .int .i64 x6_1 ∧ Aside0 (joustref00_Tokens.l0 kq l0 l1 x5_1 x6_1 = some r) ∧ Aside0 (kq ≤ k) ∧ Drawn0 w w')
 case atStart => exact ⟨(((l0.length : Int) == (l1.length : Int))),(0),(by first | rfl | (simp;done) | (simp [*];done)),(by first | rfl | (simp;done) | (simp [*];done)),H',⟨Nat.le_refl _⟩,by repeat (first | exact Drawn0.refl _ | apply Drawn0.step)⟩
 case round =>
  clear H'
  try clear c1
  try clear p2
  obtain ⟨x5_1,x6_1,rfl,rfl,HA,HK1,⟨m1,rfl⟩⟩:=hrel
  cases gk with
  | zero => exact absurd HA.out (by simp [joustref00_Tokens.l0])
  | succ k1 =>
   have H:=HA.out
   clear HA
   simp only [joustref00_Tokens.l0] at H
   by_cases c3 : x5_1 = true
   ·subst c3
    have H1 : (if x6_1 < (l0.length : Int) then (if 0 ≤ x6_1 then (if x6_1 < (l1.length : Int) then (if ((rd_T48 l0 x6_1).f0) = ((rd_T48 l1 x6_1).f0) then (joustref00_Tokens.l0 k1 l0 l1 (((rd_T48 l0 x6_1).f1).toList == ((rd_T48 l1 x6_1).f1).toList) (wrap64 (x6_1 + 1))) else (joustref00_Tokens.l0 k1 l0 l1 false (wrap64 (x6_1 + 1)))) else (none)) else (none)) else (some true)) = some r:=by rw [if_pos rfl] at H;exact H
    clear H
    have H:=H1
    clear H1
    by_cases c4 : x6_1 < (l0.length : Int)
    ·rw [if_pos c4] at H
     have c4b0 : decide (x6_1 < (l0.length : Int)) = true:=decide_eq_true c4
     clear c4
     by_cases c5 : 0 ≤ x6_1
     ·rw [if_pos c5] at H
      have c5b0 : decide (0 ≤ x6_1) = true:=decide_eq_true c5
      clear c5
      by_cases c6 : x6_1 < (l1.length : Int)
      ·rw [if_pos c6] at H
       have c6b0 : decide (x6_1 < (l1.length : Int)) = true:=decide_eq_true c6
       clear c6
       by_cases c7 : ((rd_T48 l0 x6_1).f0) = ((rd_T48 l1 x6_1).f0)
       ·rw [if_pos c7] at H
        have c7b0 : (((rd_T48 l0 x6_1).f0) == ((rd_T48 l1 x6_1).f0)) = true:=beq_iff_eq.mpr c7
        have c7b1 : (((rd_T48 l0 x6_1).f0) != ((rd_T48 l1 x6_1).f0)) = false:=bne_eq_false_iff_eq.mpr c7
        clear c7
        have H':=Aside0.mk H
        clear H
        have p186 : 0 ≤ (x6_1 : Int):=of_decide_eq_true (by first | (with_reducible assumption) | assumption)
        have q186 : x6_1 < (l0.length : Int):=of_decide_eq_true (by first | (with_reducible assumption) | assumption)
        obtain ⟨ad186,e186,hx186_0,hx186_1,hx186_2,hx186_3⟩:=at_T48 HR0.out x6_1 p186 q186
        cases e186
        replace p186:=eq_true p186
        replace q186:=eq_true q186
        have p187 : 0 ≤ (x6_1 : Int):=of_decide_eq_true (by first | (with_reducible assumption) | assumption)
        have q187 : x6_1 < (l1.length : Int):=of_decide_eq_true (by first | (with_reducible assumption) | assumption)
        obtain ⟨ad187,e187,hx187_0,hx187_1,hx187_2,hx187_3⟩:=at_T48 HR1.out x6_1 p187 q187
        cases e187
        replace p187:=eq_true p187
        replace q187:=eq_true q187
        have p188 : 0 ≤ (x6_1 : Int):=of_decide_eq_true (by first | (with_reducible assumption) | assumption)
        have q188 : x6_1 < (l0.length : Int):=of_decide_eq_true (by first | (with_reducible assumption) | assumption)
        obtain ⟨ad188,e188,hx188_0,hx188_1,hx188_2,hx188_3⟩:=at_T48 HR0.out x6_1 p188 q188
        obtain rfl : ad186 = ad188:=(by injection e188)
        replace p188:=eq_true p188
        replace q188:=eq_true q188
        have p189 : 0 ≤ (x6_1 : Int):=of_decide_eq_true (by first | (with_reducible assumption) | assumption)
        have q189 : x6_1 < (l1.length : Int):=of_decide_eq_true (by first | (with_reducible assumption) | assumption)
        obtain ⟨ad189,e189,hx189_0,hx189_1,hx189_2,hx189_3⟩:=at_T48 HR1.out x6_1 p189 q189
        obtain rfl : ad187 = ad189:=(by injection e189)
        replace p189:=eq_true p189
        replace q189:=eq_true q189
        go_wp2
        repeat (go_quiet (fail);try go_wp2)
        go_roundg k1
        case measure => have:=HK1.out;omega
        case rel => exact ⟨((((rd_T48 l0 x6_1).f1).toList == ((rd_T48 l1 x6_1).f1).toList)),(wrap64 (x6_1 + 1)),(by first | rfl | (simp;done) | (simp [*];done)),(by first | rfl | (simp;done) | (simp [*];done)),H',⟨by have:=HK1.out;omega⟩,by repeat (first | exact Drawn0.refl _ | apply Drawn0.step)⟩
       ·rw [if_neg c7] at H
        have c7b0 : (((rd_T48 l0 x6_1).f0) == ((rd_T48 l1 x6_1).f0)) = false:=beq_eq_false_iff_ne.mpr c7
        have c7b1 : (((rd_T48 l0 x6_1).f0) != ((rd_T48 l1 x6_1).f0)) = true:=bne_iff_ne.mpr c7
        have H':=Aside0.mk H
        clear H
        have p186 : 0 ≤ (x6_1 : Int):=of_decide_eq_true (by first | (with_reducible assumption) | assumption)
        have q186 : x6_1 < (l0.length : Int):=of_decide_eq_true (by first | (with_reducible assumption) | assumption)
        obtain ⟨ad186,e186,hx186_0,hx186_1,hx186_2,hx186_3⟩:=at_T48 HR0.out x6_1 p186 q186
        cases e186
        replace p186:=eq_true p186
        replace q186:=eq_true q186
        have p187 : 0 ≤ (x6_1 : Int):=of_decide_eq_true (by first | (with_reducible assumption) | assumption)
        have q187 : x6_1 < (l1.length : Int):=of_decide_eq_true (by first | (with_reducible assumption) | assumption)
        obtain ⟨ad187,e187,hx187_0,hx187_1,hx187_2,hx187_3⟩:=at_T48 HR1.out x6_1 p187 q187
        cases e187
        replace p187:=eq_true p187
        replace q187:=eq_true q187
        go_wp2
        repeat (go_quiet (fail);try go_wp2)
        go_roundg k1
        case measure => have:=HK1.out;omega
        case rel => exact ⟨(false),(wrap64 (x6_1 + 1)),(by first | rfl | (simp;done) | (simp [*];done)),(by first | rfl | (simp;done) | (simp [*];done)),H',⟨by have:=HK1.out;omega⟩,by repeat (first | exact Drawn0.refl _ | apply Drawn0.step)⟩
      ·rw [if_neg c6] at H
       exact absurd H (by simp)
     ·rw [if_neg c5] at H
      exact absurd H (by simp)
    ·rw [if_neg c4] at H
     have c4b0 : decide (x6_1 < (l0.length : Int)) = false:=decide_eq_false c4
     clear c4
     obtain rfl:=Option.some.inj H
     go_wp2
     repeat (go_quiet (fail);try go_wp2)
     go_ret
     exact ⟨by first | rfl | (simp;done) | (simp [*];done),by repeat (first | exact Drawn0.refl _ | apply Drawn0.step)⟩
   ·replace c3:=Bool.eq_false_iff.mpr c3
    subst c3
    have H1 : (some false) = some r:=by rw [if_neg (show ¬ (false = true) by decide)] at H;exact H
    clear H
    have H:=H1
    clear H1
    obtain rfl:=Option.some.inj H
    go_wp2
    repeat (go_quiet (fail);try go_wp2)
    go_ret
    exact ⟨by first | rfl | (simp;done) | (simp [*];done),by repeat (first | exact Drawn0.refl _ | apply Drawn0.step)⟩

/-! ### joustref00_Spots: function 18 -/
def joustref00_Spots.l0 : Nat → List (S48) → List (S48) → Bool → Int → Option (Bool)
 | 0,_,_,_,_ => none
 | k + 1,x0,x1,x5,x6 => if x5 = true then (if x6 < (x0.length : Int) then (if 0 ≤ x6 then (if x6 < (x1.length : Int) then (joustref00_Spots.l0 k x0 x1 (((rd_T48 x0 x6).f2.f0) == ((rd_T48 x1 x6).f2.f0) && (((rd_T48 x0 x6).f2.f1) == ((rd_T48 x1 x6).f2.f1))) (wrap64 (x6 + 1))) else (none)) else (none)) else (some x5)) else (some x5)
def joustref00_Spots.f (k : Nat) (l0 : List (S48)) (l1 : List (S48)) : Option (Bool):=joustref00_Spots.l0 k l0 l1 ((l0.length : Int) == (l1.length : Int)) 0
theorem joustref00_Spots.mono_l : ∀ k,(∀ y0 y1 y2 y3,LeO (joustref00_Spots.l0 k y0 y1 y2 y3) (joustref00_Spots.l0 (k + 1) y0 y1 y2 y3))
 | 0 => fun _ _ _ _ r h => by simp [joustref00_Spots.l0] at h
 | k + 1 => by
  have ih0:=joustref00_Spots.mono_l k
  ·intro y0 y1 y2 y3
   unfold joustref00_Spots.l0
   repeat' first
   | (with_reducible exact ih0 _ _ _ _)
   | (with_reducible exact LeO.refl _)
   | (with_reducible exact LeO.none _)
   | (with_reducible refine LeO.ite ?_ ?_)
   | (with_reducible refine LeO.bind ?_ (fun _ => ?_))
   | exact ih0 _ _ _ _
   | exact LeO.none _
   | refine LeO.ite ?_ ?_
   | refine LeO.bind ?_ (fun _ => ?_)
theorem joustref00_Spots.mono : ∀ a0 a1 k,LeO (joustref00_Spots.f k a0 a1) (joustref00_Spots.f (k + 1) a0 a1):=by
 intro a0 a1 k
 have ih0:=joustref00_Spots.mono_l k
 unfold joustref00_Spots.f
 repeat' first
   | (with_reducible exact ih0 _ _ _ _)
   | (with_reducible exact LeO.refl _)
   | (with_reducible exact LeO.none _)
   | (with_reducible refine LeO.ite ?_ ?_)
   | (with_reducible refine LeO.bind ?_ (fun _ => ?_))
   | exact ih0 _ _ _ _
   | exact LeO.none _
   | refine LeO.ite ?_ ?_
   | refine LeO.bind ?_ (fun _ => ?_)
set_option maxHeartbeats 8000000 in
set_option maxRecDepth 100000 in
theorem joustref00_Spots.calls (k : Nat) (A0 : Option Addr) (c0 : Nat) (l0 : List (S48)) (A1 : Option Addr) (c1 : Nat) (l1 : List (S48)) (r : Bool) (w : World) (hr0 : Kd.C k48 w A0 l0.length l0) (hc0 : l0.length ≤ c0) (hr1 : Kd.C k48 w A1 l1.length l1) (hc1 : l1.length ≤ c1) (h : joustref00_Spots.f k l0 l1 = some r) :
  Calls Tryd.prog 18 #[.slice A0 l0.length c0,.slice A1 l1.length c1] w fun e w' => e = .returned (.bool r) ∧ Drawn0 w w':=by
 have hu37:=Tryd.underlying37
 have HR0:=Aside0.mk hr0
 have HC0:=Aside0.mk hc0
 clear hr0 hc0
 have HR1:=Aside0.mk hr1
 have HC1:=Aside0.mk hc1
 clear hr1 hc1
 have H : (joustref00_Spots.l0 k l0 l1 ((l0.length : Int) == (l1.length : Int)) 0) = some r:=h
 clear h
 have H':=Aside0.mk H
 clear H
 go_enter Tryd.func18,Tryd.ntmps18
 go_wp2
 repeat (go_quiet (fail);try go_wp2)
 (try simp only [Act.put,List.setIfInBounds_toArray,List.set_cons_zero,List.set_cons_succ])
 go_loopg [5,6] k (fun kq v5 v6 w' => ∃ (x5_1 : Bool) (x6_1 : Int),v5 = .bool x5_1 ∧ v6 = .int .i64 x6_1 ∧ Aside0 (joustref00_Spots.l0 kq l0 l1 x5_1 x6_1 = some r) ∧ Aside0 (kq ≤ k) ∧ Drawn0 w w')
 case atStart => exact ⟨(((l0.length : Int) == (l1.length : Int))),(0),(by first | rfl | (simp;done) | (simp [*];done)),(by first | rfl | (simp;done) | (simp [*];done)),H',⟨Nat.le_refl _⟩,by repeat (first | exact Drawn0.refl _ | apply Drawn0.step)⟩
 case round =>
  clear H'
  try clear c1
  try clear p2
  obtain ⟨x5_1,x6_1,rfl,rfl,HA,HK1,⟨m1,rfl⟩⟩:=hrel
  cases gk with
  | zero => exact absurd HA.out (by simp [joustref00_Spots.l0])
  | succ k1 =>
   have H:=HA.out
   clear HA
   simp only [joustref00_Spots.l0] at H
   by_cases c3 : x5_1 = true
   ·subst c3
    have H1 : (if x6_1 < (l0.length : Int) then (if 0 ≤ x6_1 then (if x6_1 < (l1.length : Int) then (joustref00_Spots.l0 k1 l0 l1 (((rd_T48 l0 x6_1).f2.f0) == ((rd_T48 l1 x6_1).f2.f0) && (((rd_T48 l0 x6_1).f2.f1) == ((rd_T48 l1 x6_1).f2.f1))) (wrap64 (x6_1 + 1))) else (none)) else (none)) else (some true)) = some r:=by rw [if_pos rfl] at H;exact H
    clear H
    have H:=H1
    clear H1
    by_cases c4 : x6_1 < (l0.length : Int)
    ·rw [if_pos c4] at H
     have c4b0 : decide (x6_1 < (l0.length : Int)) = true:=decide_eq_true c4
     clear c4
     by_cases c5 : 0 ≤ x6_1
     ·rw [if_pos c5] at H
      have c5b0 : decide (0 ≤ x6_1) = true:=decide_eq_true c5
      clear c5
      by_cases c6 : x6_1 < (l1.length : Int)
      ·rw [if_pos c6] at H
       have c6b0 : decide (x6_1 < (l1.length : Int)) = true:=decide_eq_true c6
       clear c6
       have H':=Aside0.mk H
       clear H
       have p190 : 0 ≤ (x6_1 : Int):=of_decide_eq_true (by first | (with_reducible assumption) | assumption)
       have q190 : x6_1 < (l0.length : Int):=of_decide_eq_true (by first | (with_reducible assumption) | assumption)
       obtain ⟨ad190,e190,hx190_0,hx190_1,hx190_2,hx190_3⟩:=at_T48 HR0.out x6_1 p190 q190
       cases e190
       replace p190:=eq_true p190
       replace q190:=eq_true q190
       have p191 : 0 ≤ (x6_1 : Int):=of_decide_eq_true (by first | (with_reducible assumption) | assumption)
       have q191 : x6_1 < (l1.length : Int):=of_decide_eq_true (by first | (with_reducible assumption) | assumption)
       obtain ⟨ad191,e191,hx191_0,hx191_1,hx191_2,hx191_3⟩:=at_T48 HR1.out x6_1 p191 q191
       cases e191
       replace p191:=eq_true p191
       replace q191:=eq_true q191
       go_wp2
       repeat (go_quiet (fail);try go_wp2)
       go_roundg k1
       case measure => have:=HK1.out;omega
       case rel => exact ⟨((((rd_T48 l0 x6_1).f2.f0) == ((rd_T48 l1 x6_1).f2.f0) && (((rd_T48 l0 x6_1).f2.f1) == ((rd_T48 l1 x6_1).f2.f1)))),(wrap64 (x6_1 + 1)),(by first | rfl | (simp;done) | (simp [*];done)),(by first | rfl | (simp;done) | (simp [*];done)),H',⟨by have:=HK1.out;omega⟩,by repeat (first | exact Drawn0.refl _ | apply Drawn0.step)⟩
      ·rw [if_neg c6] at H
       exact absurd H (by simp)
     ·rw [if_neg c5] at H
      exact absurd H (by simp)
    ·rw [if_neg c4] at H
     have c4b0 : decide (x6_1 < (l0.length : Int)) = false:=decide_eq_false c4
     clear c4
     obtain rfl:=Option.some.inj H
     go_wp2
     repeat (go_quiet (fail);try go_wp2)
     go_ret
     exact ⟨by first | rfl | (simp;done) | (simp [*];done),by repeat (first | exact Drawn0.refl _ | apply Drawn0.step)⟩
   ·replace c3:=Bool.eq_false_iff.mpr c3
    subst c3
    have H1 : (some false) = some r:=by rw [if_neg (show ¬ (false = true) by decide)] at H;exact H
    clear H
    have H:=H1
    clear H1
    obtain rfl:=Option.some.inj H
    go_wp2
    repeat (go_quiet (fail);try go_wp2)
    go_ret
    exact ⟨by first | rfl | (simp;done) | (simp [*];done),by repeat (first | exact Drawn0.refl _ | apply Drawn0.step)⟩

end Go.Proofs.YtgalbiokebghkaaDoor.S
