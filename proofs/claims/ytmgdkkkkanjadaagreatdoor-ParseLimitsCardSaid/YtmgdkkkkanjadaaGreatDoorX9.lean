/- Written by a program of this claim's author (stubprint.py, over the kit's print) out of the translation: Go functions as Lean functions, and that the calls come to them. -/
import Derived.Test.YtmgdkkkkanjadaaGreatDoorX0
import Derived.Test.YtmgdkkkkanjadaaGreatDoorHandS
import Derived.WalkLawsBesides
import Derived.Test.YtmgdkkkkanjadaaGreatDoorX8
namespace Go.Proofs.YtmgdkkkkanjadaaGreatDoor.X
open Go.RowKit Go.Proofs.YtmgdkkkkanjadaaGreatDoorW.PrintWords Go.Proofs.YtmgdkkkkanjadaaGreatDoorW.PrintLast Go.Proofs.YtmgdkkkkanjadaaGreatDoorW.PrintMore Go.Proofs.YtmgdkkkkanjadaaGreatDoor.HandS Go.Proofs.YtmgdkkkkanjadaaGreatDoor.Iter
attribute [local go_sem] max2_int min2_int max_two min_two max_three min_three max_four min_four   -- for this text's walks alone
set_option linter.unusedVariables false
set_option linter.unusedSimpArgs false

/-! ### joustref00_Cards: function 10 -/
def joustref00_Cards.l0 : Nat → List (S38) → List (S38) → Bool → Int → Option (Bool)
 | 0,_,_,_,_ => none
 | k + 1,x0,x1,x5,x6 => if x5 = true then (if x6 < (x0.length : Int) then (if 0 ≤ x6 then (if x6 < (x1.length : Int) then ((joustref00_Card.f k ((rd_T38 x0 x6).f0) ((rd_T38 x0 x6).f1) ((rd_T38 x0 x6).f2) ((rd_T38 x0 x6).f3) ((rd_T38 x0 x6).f4) ((rd_T38 x0 x6).f5) ((rd_T38 x1 x6).f0) ((rd_T38 x1 x6).f1) ((rd_T38 x1 x6).f2) ((rd_T38 x1 x6).f3) ((rd_T38 x1 x6).f4) ((rd_T38 x1 x6).f5)).bind fun t193 => (joustref00_Cards.l0 k x0 x1 t193 (wrap64 (x6 + 1)))) else (none)) else (none)) else (some x5)) else (some x5)
def joustref00_Cards.f (k : Nat) (l0 : List (S38)) (l1 : List (S38)) : Option (Bool):=joustref00_Cards.l0 k l0 l1 ((l0.length : Int) == (l1.length : Int)) 0
theorem joustref00_Cards.mono_l : ∀ k,(∀ y0 y1 y2 y3,LeO (joustref00_Cards.l0 k y0 y1 y2 y3) (joustref00_Cards.l0 (k + 1) y0 y1 y2 y3))
 | 0 => fun _ _ _ _ r h => by simp [joustref00_Cards.l0] at h
 | k + 1 => by
  have ih0:=joustref00_Cards.mono_l k
  ·intro y0 y1 y2 y3
   unfold joustref00_Cards.l0
   repeat' first
   | (with_reducible exact ih0 _ _ _ _)
   | (with_reducible exact joustref00_Card.mono _ _ _ _ _ _ _ _ _ _ _ _ _)
   | (with_reducible exact LeO.refl _)
   | (with_reducible exact LeO.none _)
   | (with_reducible refine LeO.ite ?_ ?_)
   | (with_reducible refine LeO.bind ?_ (fun _ => ?_))
   | exact ih0 _ _ _ _
   | exact joustref00_Card.mono _ _ _ _ _ _ _ _ _ _ _ _ _
   | exact LeO.none _
   | refine LeO.ite ?_ ?_
   | refine LeO.bind ?_ (fun _ => ?_)
theorem joustref00_Cards.mono : ∀ a0 a1 k,LeO (joustref00_Cards.f k a0 a1) (joustref00_Cards.f (k + 1) a0 a1):=by
 intro a0 a1 k;have ih0:=joustref00_Cards.mono_l k
 unfold joustref00_Cards.f
 repeat' first
   | (with_reducible exact ih0 _ _ _ _)
   | (with_reducible exact joustref00_Card.mono _ _ _ _ _ _ _ _ _ _ _ _ _)
   | (with_reducible exact LeO.refl _)
   | (with_reducible exact LeO.none _)
   | (with_reducible refine LeO.ite ?_ ?_)
   | (with_reducible refine LeO.bind ?_ (fun _ => ?_))
   | exact ih0 _ _ _ _
   | exact joustref00_Card.mono _ _ _ _ _ _ _ _ _ _ _ _ _
   | exact LeO.none _
   | refine LeO.ite ?_ ?_
   | refine LeO.bind ?_ (fun _ => ?_)
def joustref00_Cards.T5 : Bool × List (List Nat × List Nat):=(true,[([],[]),([],[]),([0,1],[0,1]),([2],[2]),([],[]),([],[]),([4,5],[4,5]),([6],[6]),([3,7],[3,7]),([8,8,0,1,2,3,4,5,6,7,8],[8])])
def joustref00_Cards.B5 : List Nat:=[0,0,3,7,0,0,48,112,255,511]
theorem joustref00_Cards.tab5 : rtab .any (opsOf Tryz.f10 5) = joustref00_Cards.T5:=by kernel_rfl
theorem joustref00_Cards.bits5 : waitsOk joustref00_Cards.T5.2 joustref00_Cards.B5 = true:=by kernel_rfl
set_option maxHeartbeats 8000000 in
set_option maxRecDepth 100000 in
theorem joustref00_Cards.calls (k : Nat) (A0 : Option Addr) (c0 : Nat) (l0 : List (S38)) (A1 : Option Addr) (c1 : Nat) (l1 : List (S38)) (r : Bool) (w : World) (hr0 : Kd.C k38 w A0 l0.length l0) (hc0 : l0.length ≤ c0) (hr1 : Kd.C k38 w A1 l1.length l1) (hc1 : l1.length ≤ c1) (h : joustref00_Cards.f k l0 l1 = some r) :
  Calls Tryz.prog 10 #[.slice A0 l0.length c0,.slice A1 l1.length c1] w fun e w' => e = .returned (.bool r) ∧ Below w.heap.size w w':=by
 have hu38:=Tryz.underlying38;have HR0:=Aside0.mk hr0;have HC0:=Aside0.mk hc0;clear hr0 hc0;have HR1:=Aside0.mk hr1;have HC1:=Aside0.mk hc1;clear hr1 hc1;have HB:=Aside0.mk (Below.refl w.heap.size w);have H : (joustref00_Cards.l0 k l0 l1 ((l0.length : Int) == (l1.length : Int)) 0) = some r:=h;clear h;have H':=Aside0.mk H;clear H
 go_enter Tryz.func10,Tryz.ntmps10
 go_wp2
 (try simp only [Act.put,List.setIfInBounds_toArray,List.set_cons_zero,List.set_cons_succ])
 go_loopg [5,6] k (fun kq v5 v6 w' => ∃ (x5_1 : Bool) (x6_1 : Int),v5 = .bool x5_1 ∧ v6 = .int .i64 x6_1 ∧ Aside0 (joustref00_Cards.l0 kq l0 l1 x5_1 x6_1 = some r) ∧ Aside0 (kq ≤ k) ∧ Aside0 (Below w.heap.size w w'))
 case atStart => exact ⟨(((l0.length : Int) == (l1.length : Int))),(0),(by first | rfl | (simp;done) | (simp [*];done)),(by first | rfl | (simp;done) | (simp [*];done)),H',⟨Nat.le_refl _⟩,⟨bl0 HB.out⟩⟩
 case round =>
  clear H'
  try clear c1
  try clear p2
  obtain ⟨x5_1,x6_1,rfl,rfl,HA,HK1,HB⟩:=hrel
  cases gk with
  | zero => exact absurd HA.out (by simp [joustref00_Cards.l0])
  | succ k1 =>
   have H:=HA.out;clear HA;simp only [joustref00_Cards.l0] at H
   by_cases c3 : x5_1 = true
   ·subst c3;rw [if_pos rfl] at H
    by_cases c4 : x6_1 < (l0.length : Int)
    ·rw [if_pos c4] at H;have c4b0 : decide (x6_1 < (l0.length : Int)) = true:=decide_eq_true c4;clear c4
     by_cases c5 : 0 ≤ x6_1
     ·rw [if_pos c5] at H;have c5b0 : decide (0 ≤ x6_1) = true:=decide_eq_true c5;clear c5
      by_cases c6 : x6_1 < (l1.length : Int)
      ·rw [if_pos c6] at H;have c6b0 : decide (x6_1 < (l1.length : Int)) = true:=decide_eq_true c6;clear c6;replace H:=Option.bind_eq_some_iff.mp H;obtain ⟨t193,A70,H⟩:=H
       (try dsimp only at H)
       have A7:=Aside0.mk A70;clear A70;have H':=Aside0.mk H;clear H
       try go_wp2
       replace HB:=Aside0.mk (below_drew1 HB.out);have p191 : 0 ≤ (x6_1 : Int):=of_decide_eq_true (by first | (with_reducible assumption) | assumption);have q191 : x6_1 < (l0.length : Int):=of_decide_eq_true (by first | (with_reducible assumption) | assumption);obtain ⟨ad191,A191_5,c191_5,e191,hx191_0,hx191_1,hx191_2,hx191_3,hx191_4,hx191_5,hl191_5,hi191_5⟩:=at_T38 HR0.out x6_1 p191 q191;have hw191_5:=hx191_5;have hw191_4:=hx191_4;have hw191_3:=hx191_3;have hw191_2:=hx191_2;have hw191_1:=hx191_1;have hw191_0:=hx191_0
       cases e191
       replace hx191_0:=(HB.out.cell (World.block_lt_of_cell? w _ hx191_0)).trans hx191_0;replace hx191_1:=(HB.out.cell (World.block_lt_of_cell? w _ hx191_1)).trans hx191_1;replace hx191_2:=(HB.out.cell (World.block_lt_of_cell? w _ hx191_2)).trans hx191_2;replace hx191_3:=(HB.out.cell (World.block_lt_of_cell? w _ hx191_3)).trans hx191_3;replace hx191_4:=(HB.out.cell (World.block_lt_of_cell? w _ hx191_4)).trans hx191_4;replace hx191_5:=(HB.out.cell (World.block_lt_of_cell? w _ hx191_5)).trans hx191_5;have HR191_5:=Aside0.mk hi191_5;have HC191_5:=Aside0.mk hl191_5;clear hi191_5 hl191_5;replace p191:=eq_true p191;replace q191:=eq_true q191;have p192 : 0 ≤ (x6_1 : Int):=of_decide_eq_true (by first | (with_reducible assumption) | assumption);have q192 : x6_1 < (l1.length : Int):=of_decide_eq_true (by first | (with_reducible assumption) | assumption);obtain ⟨ad192,A192_5,c192_5,e192,hx192_0,hx192_1,hx192_2,hx192_3,hx192_4,hx192_5,hl192_5,hi192_5⟩:=at_T38 HR1.out x6_1 p192 q192;have hw192_5:=hx192_5;have hw192_4:=hx192_4;have hw192_3:=hx192_3;have hw192_2:=hx192_2;have hw192_1:=hx192_1;have hw192_0:=hx192_0
       cases e192
       replace hx192_0:=(HB.out.cell (World.block_lt_of_cell? w _ hx192_0)).trans hx192_0;replace hx192_1:=(HB.out.cell (World.block_lt_of_cell? w _ hx192_1)).trans hx192_1;replace hx192_2:=(HB.out.cell (World.block_lt_of_cell? w _ hx192_2)).trans hx192_2;replace hx192_3:=(HB.out.cell (World.block_lt_of_cell? w _ hx192_3)).trans hx192_3;replace hx192_4:=(HB.out.cell (World.block_lt_of_cell? w _ hx192_4)).trans hx192_4;replace hx192_5:=(HB.out.cell (World.block_lt_of_cell? w _ hx192_5)).trans hx192_5;have HR192_5:=Aside0.mk hi192_5;have HC192_5:=Aside0.mk hl192_5;clear hi192_5 hl192_5;replace p192:=eq_true p192;replace q192:=eq_true q192
       refine start_ (n:=10) (S:=fun w' => w'.cell? (ad191.add ((x6_1).toNat * 6)) = some (.string ((rd_T38 l0 x6_1).f0)) ∧ w'.cell? ⟨(ad191.add ((x6_1).toNat * 6)).block,(ad191.add ((x6_1).toNat * 6)).off + 1,none⟩ = some (.int .u8 ((rd_T38 l0 x6_1).f1)) ∧ w'.cell? ⟨(ad191.add ((x6_1).toNat * 6)).block,(ad191.add ((x6_1).toNat * 6)).off + 2,none⟩ = some (.int .i64 ((rd_T38 l0 x6_1).f2)) ∧ w'.cell? ⟨(ad191.add ((x6_1).toNat * 6)).block,(ad191.add ((x6_1).toNat * 6)).off + 3,none⟩ = some (.int .i64 ((rd_T38 l0 x6_1).f3)) ∧ w'.cell? ⟨(ad191.add ((x6_1).toNat * 6)).block,(ad191.add ((x6_1).toNat * 6)).off + 4,none⟩ = some (.int .i64 ((rd_T38 l0 x6_1).f4)) ∧ w'.cell? ⟨(ad191.add ((x6_1).toNat * 6)).block,(ad191.add ((x6_1).toNat * 6)).off + 5,none⟩ = some (.slice A191_5 ((rd_T38 l0 x6_1).f5).length c191_5) ∧ w'.cell? (ad192.add ((x6_1).toNat * 6)) = some (.string ((rd_T38 l1 x6_1).f0)) ∧ w'.cell? ⟨(ad192.add ((x6_1).toNat * 6)).block,(ad192.add ((x6_1).toNat * 6)).off + 1,none⟩ = some (.int .u8 ((rd_T38 l1 x6_1).f1)) ∧ w'.cell? ⟨(ad192.add ((x6_1).toNat * 6)).block,(ad192.add ((x6_1).toNat * 6)).off + 2,none⟩ = some (.int .i64 ((rd_T38 l1 x6_1).f2)) ∧ w'.cell? ⟨(ad192.add ((x6_1).toNat * 6)).block,(ad192.add ((x6_1).toNat * 6)).off + 3,none⟩ = some (.int .i64 ((rd_T38 l1 x6_1).f3)) ∧ w'.cell? ⟨(ad192.add ((x6_1).toNat * 6)).block,(ad192.add ((x6_1).toNat * 6)).off + 4,none⟩ = some (.int .i64 ((rd_T38 l1 x6_1).f4)) ∧ w'.cell? ⟨(ad192.add ((x6_1).toNat * 6)).block,(ad192.add ((x6_1).toNat * 6)).off + 5,none⟩ = some (.slice A192_5 ((rd_T38 l1 x6_1).f5).length c192_5)) (ds:=[]) (pm 0 10) (by kernel_rfl) rfl rfl ⟨((HB.out.cell (World.block_lt_of_cell? w _ hw191_0)).trans hw191_0),((HB.out.cell (World.block_lt_of_cell? w _ hw191_1)).trans hw191_1),((HB.out.cell (World.block_lt_of_cell? w _ hw191_2)).trans hw191_2),((HB.out.cell (World.block_lt_of_cell? w _ hw191_3)).trans hw191_3),((HB.out.cell (World.block_lt_of_cell? w _ hw191_4)).trans hw191_4),((HB.out.cell (World.block_lt_of_cell? w _ hw191_5)).trans hw191_5),((HB.out.cell (World.block_lt_of_cell? w _ hw192_0)).trans hw192_0),((HB.out.cell (World.block_lt_of_cell? w _ hw192_1)).trans hw192_1),((HB.out.cell (World.block_lt_of_cell? w _ hw192_2)).trans hw192_2),((HB.out.cell (World.block_lt_of_cell? w _ hw192_3)).trans hw192_3),((HB.out.cell (World.block_lt_of_cell? w _ hw192_4)).trans hw192_4),((HB.out.cell (World.block_lt_of_cell? w _ hw192_5)).trans hw192_5)⟩ (fun hHeld => ?_);refine with_tabW joustref00_Cards.tab5 joustref00_Cards.bits5 (fun HT_ HW_ => ?_);generalize wr.drew = w8 at HB HR191_5 HR192_5 hx191_0 hx191_1 hx191_2 hx191_3 hx191_4 hx191_5 hx192_0 hx192_1 hx192_2 hx192_3 hx192_4 hx192_5 hHeld ⊢;refine pu 0 21 (pm 1 10) rfl rfl HT_.out (fun _ _ _ h => h) ?_;refine pu 1 22 (pm 2 10) rfl rfl HT_.out (fun _ _ _ h => h) ?_;refine pu 2 23 (pm 3 10) rfl rfl HT_.out (fun _ _ _ h => h) ?_;refine pu 4 25 #[true,true,true,false,true,false,false,false,false,false] rfl rfl HT_.out (fun _ _ _ h => h) ?_;refine pu 5 26 #[true,true,true,false,true,true,false,false,false,false] rfl rfl HT_.out (fun _ _ _ h => h) ?_;refine pu 6 27 #[true,true,true,false,true,true,true,false,false,false] rfl rfl HT_.out (fun _ _ _ h => h) ?_;refine take_ (i:=3) (N:=some 24) (v:=?_) (a':=?_) (pm 7 10) rfl rfl (take_ofW HT_.out HW_.out (by kernel_rfl)) (fun _ _ _ h => h) (Or.inl ⟨by rfl,?_⟩) hHeld ?_ ?_;rotate_left
       ·rintro w' ⟨s0,s1,s2,s3,s4,s5,s6,s7,s8,s9,s10,s11⟩;go_simp;with_reducible rfl
       rotate_left
       ·simp only [Act.put,List.setIfInBounds_toArray,List.set_cons_zero,List.set_cons_succ,i64_w,i32_w];rfl
       refine take_ (i:=7) (N:=some 28) (v:=?_) (a':=?_) (pm 8 10) rfl rfl (take_ofW HT_.out HW_.out (by kernel_rfl)) (fun _ _ _ h => h) (Or.inl ⟨by rfl,?_⟩) hHeld ?_ ?_;rotate_left
       ·rintro w' ⟨s0,s1,s2,s3,s4,s5,s6,s7,s8,s9,s10,s11⟩;go_simp;with_reducible rfl
       rotate_left
       ·simp only [Act.put,List.setIfInBounds_toArray,List.set_cons_zero,List.set_cons_succ,i64_w,i32_w];rfl
       refine one_ (i:=8) (N:=some 29) (pm 9 10) rfl rfl (one_of HT_.out (by kernel_rfl)) (by decide) (fun K hK => ?_);refine goes_ Tryz.func29 (by kernel_rfl) rfl #[.agg #[.string ((rd_T38 l0 x6_1).f0),.int .u8 ((rd_T38 l0 x6_1).f1),.int .i64 ((rd_T38 l0 x6_1).f2),.int .i64 ((rd_T38 l0 x6_1).f3),.int .i64 ((rd_T38 l0 x6_1).f4),.slice A191_5 ((rd_T38 l0 x6_1).f5).length c191_5],.agg #[.string ((rd_T38 l1 x6_1).f0),.int .u8 ((rd_T38 l1 x6_1).f1),.int .i64 ((rd_T38 l1 x6_1).f2),.int .i64 ((rd_T38 l1 x6_1).f3),.int .i64 ((rd_T38 l1 x6_1).f4),.slice A192_5 ((rd_T38 l1 x6_1).f5).length c192_5]] (by rfl) rfl rfl ea ?_
       with_reducible refine (joustref00_Card.calls k1 ((rd_T38 l0 x6_1).f0) ((rd_T38 l0 x6_1).f1) ((rd_T38 l0 x6_1).f2) ((rd_T38 l0 x6_1).f3) ((rd_T38 l0 x6_1).f4) _ _ ((rd_T38 l0 x6_1).f5) ((rd_T38 l1 x6_1).f0) ((rd_T38 l1 x6_1).f1) ((rd_T38 l1 x6_1).f2) ((rd_T38 l1 x6_1).f3) ((rd_T38 l1 x6_1).f4) _ _ ((rd_T38 l1 x6_1).f5) t193 _ ?side1 ?side2 ?side3 ?side4 A7.out).mono ?_
       (case side1 => exact kc (Kd.C_below HR191_5.out HB.out))
       (case side2 => exact HC191_5.out)
       (case side3 => exact kc (Kd.C_below HR192_5.out HB.out))
       (case side4 => exact HC192_5.out)
       rintro e w9 ⟨rfl,hb⟩;refine ⟨_,rfl,?_⟩;replace HB:=Aside0.mk (below_step (bl0 HB.out) hb);(try clear hb);refine hK.out _ _ ⟨((HB.out.cell (World.block_lt_of_cell? w _ hw191_0)).trans hw191_0),((HB.out.cell (World.block_lt_of_cell? w _ hw191_1)).trans hw191_1),((HB.out.cell (World.block_lt_of_cell? w _ hw191_2)).trans hw191_2),((HB.out.cell (World.block_lt_of_cell? w _ hw191_3)).trans hw191_3),((HB.out.cell (World.block_lt_of_cell? w _ hw191_4)).trans hw191_4),((HB.out.cell (World.block_lt_of_cell? w _ hw191_5)).trans hw191_5),((HB.out.cell (World.block_lt_of_cell? w _ hw192_0)).trans hw192_0),((HB.out.cell (World.block_lt_of_cell? w _ hw192_1)).trans hw192_1),((HB.out.cell (World.block_lt_of_cell? w _ hw192_2)).trans hw192_2),((HB.out.cell (World.block_lt_of_cell? w _ hw192_3)).trans hw192_3),((HB.out.cell (World.block_lt_of_cell? w _ hw192_4)).trans hw192_4),((HB.out.cell (World.block_lt_of_cell? w _ hw192_5)).trans hw192_5)⟩ (fun hHeld => ?_);clear hK K;refine norm_ (a':=?_) ?_ ?_;rotate_left
       ·show Act.put _ (some 29) _ = _;simp only [Act.put,List.setIfInBounds_toArray,List.set_cons_zero,List.set_cons_succ,i64_w,i32_w];rfl
       refine pu 9 5 (pm 10 10) rfl rfl HT_.out (fun _ _ _ h => h) ?_;refine done_ (done_of HT_.out (by kernel_rfl)) ?_
       try go_wp2
       go_roundg k1
       case measure => have:=HK1.out;omega
       case rel => exact ⟨(t193),(wrap64 (x6_1 + 1)),(by first | rfl | (simp;done) | (simp [*];done)),(by first | rfl | (simp;done) | (simp [*];done)),H',⟨by have:=HK1.out;omega⟩,⟨bl0 HB.out⟩⟩
      ·rw [if_neg c6] at H;exact absurd H (by simp)
     ·rw [if_neg c5] at H;exact absurd H (by simp)
    ·rw [if_neg c4] at H;have c4b0 : decide (x6_1 < (l0.length : Int)) = false:=decide_eq_false c4;clear c4;obtain rfl:=Option.some.inj H
     go_wp2
     go_ret
     exact ⟨by first | rfl | (simp [errW_none,errW_some] <;> rfl) | (simp [*,errW_none,errW_some] <;> rfl),bl0 HB.out⟩
   ·replace c3:=Bool.eq_false_iff.mpr c3;subst c3;rw [if_neg (show ¬ (false = true) by decide)] at H;obtain rfl:=Option.some.inj H
    go_wp2
    go_ret
    exact ⟨by first | rfl | (simp [errW_none,errW_some] <;> rfl) | (simp [*,errW_none,errW_some] <;> rfl),bl0 HB.out⟩

-- by hand: function 11 (joustref00_Exprs)

/-! ### joustlaw02_at: function 12 -/
def joustlaw02_at.f (a0 : Int) (a1 : Int) : Option (Int × Int × Int):=some (a0,1,a1)
set_option maxHeartbeats 8000000 in
set_option maxRecDepth 100000 in
theorem joustlaw02_at.calls (a0 : Int) (a1 : Int) (r1 : Int) (r2 : Int) (r3 : Int) (w : World) (h : joustlaw02_at.f a0 a1 = some (r1,r2,r3)) :
  Calls Tryz.prog 12 #[.int .i64 a0,.int .i64 a1] w fun e w' => e = .returned (.agg #[.int .i64 r1,.int .i64 r2,.int .i64 r3]) ∧ Below w.heap.size w w':=by
 have hu28:=Tryz.underlying28;have hu26:=Tryz.underlying26;have HB:=Aside0.mk (Below.refl w.heap.size w);have H : (some (a0,1,a1)) = some (r1,r2,r3):=h;clear h;simp only [Option.some.injEq,Prod.mk.injEq] at H;obtain ⟨rfl,rfl,rfl⟩:=H
 go_enter Tryz.func12,Tryz.ntmps12
 go_wp2_with (first | ((with_reducible refine gate_dst (N:=4) rfl ?_);refine box_event ?hg (N:=4) ?hd (cs:=#[.int .i64 0,.int .i64 0,.int .i64 0]) (t:=28) ?hr ?_;(case hd => rfl);(case hg => rfl);(case hr => first | (go_simp;done) | (go_simp;rfl));intro gb194 hg w3 hbox hb;have n0_:=Aside0.mk (below_step (bl0 HB.out) hb);have n1_:=Aside0.mk (hbox);have n2_:=Aside0.mk ((by rw [hg];exact (below_size (bl0 HB.out)) : w.heap.size ≤ gb194));have n3_:=Aside0.mk ((by rw [hg];exact (below_size (bl0 HB.out)) : w.heap.size ≤ gb194));clear HB;have HB:=n0_;have BK194:=n1_;have GW194:=n2_;have GE194:=n3_;clear n0_ n1_ n2_ n3_;clear hb hbox hg;have hcz4_0:=bc BK194.out 0 (.int .i64 0) rfl;have hcz4_1:=bc BK194.out 1 (.int .i64 0) rfl;have hcz4_2:=bc BK194.out 2 (.int .i64 0) rfl;have hfz4_0:=blk_frozen BK194.out 0;have hfz4_1:=blk_frozen BK194.out 1;have hfz4_2:=blk_frozen BK194.out 2))
 refine bodyPost_ret (results_cell_row rfl _ _ gb194 28 #[.int .i64 a0,.int .i64 1,.int .i64 a1] (0,0) _ rfl (by (with_reducible repeat (first | refine blk_drewN ?_ _ | refine blk_drew ?_ | refine blk_alloc ?_ _));refine blk_put (cs:=#[.int .i64 a0,.int .i64 1,.int .i64 0]) ?_ 2 _ rfl;(with_reducible repeat (first | refine blk_drewN ?_ _ | refine blk_drew ?_ | refine blk_alloc ?_ _));refine blk_put (cs:=#[.int .i64 a0,.int .i64 0,.int .i64 0]) ?_ 1 _ rfl;(with_reducible repeat (first | refine blk_drewN ?_ _ | refine blk_drew ?_ | refine blk_alloc ?_ _));refine blk_put (cs:=#[.int .i64 0,.int .i64 0,.int .i64 0]) ?_ 0 _ rfl;(with_reducible repeat (first | refine blk_drewN ?_ _ | refine blk_drew ?_ | refine blk_alloc ?_ _));exact BK194.out) Tryz.underlying28 rfl (by kernel_rfl)) rfl ?_;exact ⟨by first | rfl | (simp [errW_none,errW_some] <;> rfl) | (simp [*,errW_none,errW_some] <;> rfl),bl1 HB.out GE194.out⟩

-- NOT PRINTED: function 5 (joustlaw02_lives)

-- NOT PRINTED: function 4 (joustlaw02_ParseLimits)

end Go.Proofs.YtmgdkkkkanjadaaGreatDoor.X
