/-
  parse's all, where the tokens have a fault. Conditions: what the listed package variables hold.
-/
import Derived.Test.YtmgdkkkkanjadaaGreatDoorEval
namespace Go.Proofs.YtmgdkkkkanjadaaGreatDoor.HandZ
set_option linter.unusedVariables false
set_option linter.unusedSimpArgs false
open Go.RowKit Go.Shelf Go.Lib Go.Proofs.YtmgdkkkkanjadaaGreatDoorW.PrintWords Go.Proofs.YtmgdkkkkanjadaaGreatDoorW.PrintLast Go.Proofs.YtmgdkkkkanjadaaGreatDoorW.PrintMore Go.Proofs.YtmgdkkkkanjadaaGreatDoor.X Go.Proofs.YtmgdkkkkanjadaaGreatDoor.HandS Go.Proofs.YtmgdkkkkanjadaaGreatDoor.HandA Go.Proofs.YtmgdkkkkanjadaaGreatDoor.HandB Go.Proofs.YtmgdkkkkanjadaaGreatDoor.HandC Go.Proofs.YtmgdkkkkanjadaaGreatDoor.HandL Go.Proofs.YtmgdkkkkanjadaaGreatDoor.HandM Go.Proofs.YtmgdkkkkanjadaaGreatDoor.HandN
set_option maxHeartbeats 4000000 in
set_option maxRecDepth 100000 in
theorem all24F (k : Nat) (s : ByteArray) (a b c : Int) (hs : scan_Tokens.f k s = some ([],a,b,c)) (ha : a ≠ 0) (W : World) (hG : Tabs W) :
    Calls Tryz.prog 24 #[.string s, .int .i64 6, .func (.func 25) #[] #[], .func (.func 26) #[] #[]] W fun e w' => ∃ v0 : Value, e = .returned (.tuple #[v0, .agg #[.int .i64 a, .int .i64 b, .int .i64 c]]) ∧ Kd.R k50 50 w' W.heap.size (fun _ => True) v0 [] ∧ Below W.heap.size W w' := by
  have HG:=Aside0.mk hG
  have HS:=Aside0.mk hs
  have hne : (a != 0) = true:=bne_iff_ne.2 ha
  have hu28:=Tryz.underlying28
  clear hG hs ha
  go_enter_defers Tryz.func24,Tryz.ntmps24
  go_wp2_with (first
    | (go_at_call 31;refine (scan_Tokens.calls k s [] a b c _ (HG.out.below (below_alloc (below_alloc (below_alloc (below_alloc (Below.refl _ _) _) _) _) _)) HS.out).mono ?_;rintro e w1 ⟨v0,rfl,hR,hb⟩;obtain ⟨A,cc,rfl⟩:=Kd.R_slice hR;obtain ⟨k6,k7,k8,k9,hB,hgs⟩:=start4 25 26 W w1 hb;
       have HB:=Aside0.mk hB;have K8:=Aside0.mk k8;have K9:=Aside0.mk k9;have HGS:=Aside0.mk hgs;
       have c0:=blk_cell k9 0;have c1:=blk_cell k9 1;have c2:=blk_cell k9 2;have f0:=blk_frozen k9 0;have f1:=blk_frozen k9 1;have f2:=blk_frozen k9 2;have g0:=blk_cell k8 0;have g1:=blk_frozen k8 0;clear hb hB k6 k7 k8 k9 hgs hR))
  have hgs:=HGS.out
  have j8:=blk_far (blk_far (blk_far K8.out (p:=⟨W.heap.size + 1 + 1 + 1,0,none⟩) (by show W.heap.size + 1 + 1 ≠ W.heap.size + 1 + 1 + 1;omega) (.int .i64 a)) (p:=⟨W.heap.size + 1 + 1 + 1,1,none⟩) (by show W.heap.size + 1 + 1 ≠ W.heap.size + 1 + 1 + 1;omega) (.int .i64 b)) (p:=⟨W.heap.size + 1 + 1 + 1,2,none⟩) (by show W.heap.size + 1 + 1 ≠ W.heap.size + 1 + 1 + 1;omega) (.int .i64 c)
  have j9 := blk_put (blk_put (blk_put K9.out 0 (.int .i64 a) (cs' := #[.int .i64 a, .int .i64 0, .int .i64 0]) rfl) 1 (.int .i64 b) (cs' := #[.int .i64 a, .int .i64 b, .int .i64 0]) rfl) 2 (.int .i64 c) (cs' := #[.int .i64 a, .int .i64 b, .int .i64 c]) rfl
  have hb1:=pw_below_grown HB.out (some (W.heap.size + 1 + 1 + 1)) HB.out.size (grown_set w1 (W.heap.size + 1 + 1 + 1) 0 (.int .i64 a)) (fun k e=>by injection e with e;omega)
  have hb2:=pw_below_grown hb1 (some (W.heap.size + 1 + 1 + 1)) hb1.size (grown_set _ (W.heap.size + 1 + 1 + 1) 1 (.int .i64 b)) (fun k e=>by injection e with e;omega)
  have hb3:=pw_below_grown hb2 (some (W.heap.size + 1 + 1 + 1)) hb2.size (grown_set _ (W.heap.size + 1 + 1 + 1) 2 (.int .i64 c)) (fun k e=>by injection e with e;omega)
  clear hb1 hb2
  clear c0 c1 c2 f0 f1 f2 g0 g1
  generalize (((w1.setCell ⟨W.heap.size + 1 + 1 + 1,0,none⟩ (.int .i64 a)).setCell ⟨W.heap.size + 1 + 1 + 1,1,none⟩ (.int .i64 b)).setCell ⟨W.heap.size + 1 + 1 + 1,2,none⟩ (.int .i64 c)) = w2 at *
  have q8:=blk_cell j8 0
  have g8:=blk_frozen j8 0
  have q0:=blk_cell j9 0
  have q1:=blk_cell j9 1
  have q2:=blk_cell j9 2
  have g0:=blk_frozen j9 0
  have g1:=blk_frozen j9 1
  have g2:=blk_frozen j9 2
  have s8 : w2.setCell ⟨W.heap.size + 1 + 1,0,none⟩ (.slice none 0 0) = w2:=setCell_same (q8.trans rfl)
  have u0 : w2.setCell ⟨W.heap.size + 1 + 1 + 1,0,none⟩ (.int .i64 a) = w2:=setCell_same (q0.trans rfl)
  have u1 : w2.setCell ⟨W.heap.size + 1 + 1 + 1,1,none⟩ (.int .i64 b) = w2:=setCell_same (q1.trans rfl)
  have u2 : w2.setCell ⟨W.heap.size + 1 + 1 + 1,2,none⟩ (.int .i64 c) = w2:=setCell_same (q2.trans rfl)
  have HB3:=Aside0.mk hb3
  clear hb3 j8 j9 hgs
  go_region
  all_goals
    go_wp2
    simp [bodyPostD,Leaves,settle,results,Tryz.results24,go_sem,q8,q0,q1,q2]
    exact ⟨Kd.R_nil _ _ _ _ _,below_drew1 HB3.out⟩
set_option maxHeartbeats 4000000 in
set_option maxRecDepth 100000 in
theorem all13F (k : Nat) (s : ByteArray) (a b c : Int) (hs : scan_Tokens.f k s = some ([],a,b,c)) (ha : a ≠ 0) (W : World) (hG : Tabs W) :
    Calls Tryz.prog 13 #[.string s, .int .i64 64, .func (.func 14) #[] #[], .func (.func 17) #[] #[]] W fun e w' => ∃ v0 : Value, e = .returned (.tuple #[v0, .agg #[.int .i64 a, .int .i64 b, .int .i64 c]]) ∧ Kd.R k38 38 w' W.heap.size (fun _ => True) v0 [] ∧ Below W.heap.size W w' := by
  have HG:=Aside0.mk hG
  have HS:=Aside0.mk hs
  have hne : (a != 0) = true:=bne_iff_ne.2 ha
  have hu28:=Tryz.underlying28
  clear hG hs ha
  go_enter_defers Tryz.func13,Tryz.ntmps13
  go_wp2_with (first
    | (go_at_call 31;refine (scan_Tokens.calls k s [] a b c _ (HG.out.below (below_alloc (below_alloc (below_alloc (below_alloc (Below.refl _ _) _) _) _) _)) HS.out).mono ?_;rintro e w1 ⟨v0,rfl,hR,hb⟩;obtain ⟨A,cc,rfl⟩:=Kd.R_slice hR;obtain ⟨k6,k7,k8,k9,hB,hgs⟩:=start13 14 17 W w1 hb;
       have HB:=Aside0.mk hB;have K8:=Aside0.mk k8;have K9:=Aside0.mk k9;have HGS:=Aside0.mk hgs;
       have c0:=blk_cell k9 0;have c1:=blk_cell k9 1;have c2:=blk_cell k9 2;have f0:=blk_frozen k9 0;have f1:=blk_frozen k9 1;have f2:=blk_frozen k9 2;have g0:=blk_cell k8 0;have g1:=blk_frozen k8 0;clear hb hB k6 k7 k8 k9 hgs hR))
  have hgs:=HGS.out
  have j8:=blk_far (blk_far (blk_far K8.out (p:=⟨W.heap.size + 1 + 1 + 1,0,none⟩) (by show W.heap.size + 1 + 1 ≠ W.heap.size + 1 + 1 + 1;omega) (.int .i64 a)) (p:=⟨W.heap.size + 1 + 1 + 1,1,none⟩) (by show W.heap.size + 1 + 1 ≠ W.heap.size + 1 + 1 + 1;omega) (.int .i64 b)) (p:=⟨W.heap.size + 1 + 1 + 1,2,none⟩) (by show W.heap.size + 1 + 1 ≠ W.heap.size + 1 + 1 + 1;omega) (.int .i64 c)
  have j9 := blk_put (blk_put (blk_put K9.out 0 (.int .i64 a) (cs' := #[.int .i64 a, .int .i64 0, .int .i64 0]) rfl) 1 (.int .i64 b) (cs' := #[.int .i64 a, .int .i64 b, .int .i64 0]) rfl) 2 (.int .i64 c) (cs' := #[.int .i64 a, .int .i64 b, .int .i64 c]) rfl
  have hb1:=pw_below_grown HB.out (some (W.heap.size + 1 + 1 + 1)) HB.out.size (grown_set w1 (W.heap.size + 1 + 1 + 1) 0 (.int .i64 a)) (fun k e=>by injection e with e;omega)
  have hb2:=pw_below_grown hb1 (some (W.heap.size + 1 + 1 + 1)) hb1.size (grown_set _ (W.heap.size + 1 + 1 + 1) 1 (.int .i64 b)) (fun k e=>by injection e with e;omega)
  have hb3:=pw_below_grown hb2 (some (W.heap.size + 1 + 1 + 1)) hb2.size (grown_set _ (W.heap.size + 1 + 1 + 1) 2 (.int .i64 c)) (fun k e=>by injection e with e;omega)
  clear hb1 hb2
  clear c0 c1 c2 f0 f1 f2 g0 g1
  generalize (((w1.setCell ⟨W.heap.size + 1 + 1 + 1,0,none⟩ (.int .i64 a)).setCell ⟨W.heap.size + 1 + 1 + 1,1,none⟩ (.int .i64 b)).setCell ⟨W.heap.size + 1 + 1 + 1,2,none⟩ (.int .i64 c)) = w2 at *
  have q8:=blk_cell j8 0
  have g8:=blk_frozen j8 0
  have q0:=blk_cell j9 0
  have q1:=blk_cell j9 1
  have q2:=blk_cell j9 2
  have g0:=blk_frozen j9 0
  have g1:=blk_frozen j9 1
  have g2:=blk_frozen j9 2
  have s8 : w2.setCell ⟨W.heap.size + 1 + 1,0,none⟩ (.slice none 0 0) = w2:=setCell_same (q8.trans rfl)
  have u0 : w2.setCell ⟨W.heap.size + 1 + 1 + 1,0,none⟩ (.int .i64 a) = w2:=setCell_same (q0.trans rfl)
  have u1 : w2.setCell ⟨W.heap.size + 1 + 1 + 1,1,none⟩ (.int .i64 b) = w2:=setCell_same (q1.trans rfl)
  have u2 : w2.setCell ⟨W.heap.size + 1 + 1 + 1,2,none⟩ (.int .i64 c) = w2:=setCell_same (q2.trans rfl)
  have HB3:=Aside0.mk hb3
  clear hb3 j8 j9 hgs
  go_region
  all_goals
    go_wp2
    simp [bodyPostD,Leaves,settle,results,Tryz.results13,go_sem,q8,q0,q1,q2]
    exact ⟨Kd.R_nil _ _ _ _ _,below_drew1 HB3.out⟩
end Go.Proofs.YtmgdkkkkanjadaaGreatDoor.HandZ
