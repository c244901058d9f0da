/-
  joustref02's read; its Pool, Exprs where the tokens are refused. Conditions: what joustref01.Tokens answers.
-/
import Derived.Test.YtmgdkkkkanjadaaGreatDoorRefI
import Derived.Test.YtmgdkkkkanjadaaGreatDoorEval
namespace Go.Proofs.YtmgdkkkkanjadaaGreatDoor.RefA
set_option linter.unusedVariables false
set_option linter.unusedSimpArgs false
open Go.RowKit Go.Shelf Go.Lib Go.Proofs.YtmgdkkkkanjadaaGreatDoorW.PrintWords Go.Proofs.YtmgdkkkkanjadaaGreatDoorW.PrintLast Go.Proofs.YtmgdkkkkanjadaaGreatDoorW.PrintMore Go.Proofs.YtmgdkkkkanjadaaGreatDoor.X Go.Proofs.YtmgdkkkkanjadaaGreatDoor.HandS Go.Proofs.YtmgdkkkkanjadaaGreatDoor.HandA Go.Proofs.YtmgdkkkkanjadaaGreatDoor.HandB Go.Proofs.YtmgdkkkkanjadaaGreatDoor.HandC Go.Proofs.YtmgdkkkkanjadaaGreatDoor.HandF Go.Proofs.YtmgdkkkkanjadaaGreatDoor.HandG Go.Proofs.YtmgdkkkkanjadaaGreatDoor.HandH Go.Proofs.YtmgdkkkkanjadaaGreatDoor.HandI Go.Proofs.YtmgdkkkkanjadaaGreatDoor.HandJ Go.Proofs.YtmgdkkkkanjadaaGreatDoor.HandK Go.Proofs.YtmgdkkkkanjadaaGreatDoor.HandM
/-- what joustref01.Tokens answers of a text -/
def Told (T : List S69) (e l c : Int) (W : World) (s : ByteArray) : Prop :=
  Calls Tryz.prog 47 #[.string s] W fun e' w' => ∃ v0 : Value, e' = .returned (.tuple #[v0, .agg #[.int .i64 e, .int .i64 l, .int .i64 c]]) ∧ Kd.R k69 69 w' W.heap.size (fun _ => True) v0 T ∧ Below W.heap.size W w'
set_option maxHeartbeats 2000000 in
set_option maxRecDepth 100000 in
theorem read_ (T : List S69) (e l c : Int) (W : World) (s : ByteArray) (hT : Told T e l c W s) :
    Calls Tryz.prog 18 #[.string s] W fun e' w' => ∃ (r : Nat) (v0 : Value), e' = .returned (.pointer (some ⟨r, 0, none⟩)) ∧ w'.heap[r]? = some (.cells #[v0, .int .i64 0, .int .i64 e, .int .i64 l, .int .i64 c] 66 (0, 0)) ∧ Kd.R k69 69 w' W.heap.size (fun k => k ≠ r) v0 T ∧ Below W.heap.size W w' ∧ W.heap.size ≤ r := by
  have HT:=Aside0.mk hT
  have hu66:=Tryz.underlying66
  have hu28:=Tryz.underlying28
  clear hT
  go_enter Tryz.func18,Tryz.ntmps18
  go_wp2_with (go_at_call 47; refine HT.out.mono ?_; rintro e' w1 ⟨v0, rfl, hR, hb⟩; obtain ⟨A, c0, rfl⟩ := Kd.R_slice hR; have HR := Aside0.mk hR; have HB := Aside0.mk hb; clear hR hb)
  go_ret
  have hb2:=below_alloc (below_alloc (Below.refl w1.heap.size w1) (.cells #[.int .i64 e,.int .i64 l,.int .i64 c] 28)) (.cells #[.slice A T.length c0,.int .i64 0,.int .i64 e,.int .i64 l,.int .i64 c] 66)
  have hn:=blk_new (w1.alloc (.cells #[.int .i64 e,.int .i64 l,.int .i64 c] 28)) (.cells #[.slice A T.length c0,.int .i64 0,.int .i64 e,.int .i64 l,.int .i64 c] 66)
  rw [size_alloc] at hn
  exact ⟨_,_,rfl,hn,Kd.R_below (Kd.R_mono (Kd.R_bound HR.out) (fun k hk e=>by have:=hk.2.2.1;omega)) hb2,below_step HB.out hb2,Nat.le_succ_of_le HB.out.size⟩
theorem readOk (T : List S69) (W : World) (s : ByteArray) (hT : Told T 0 0 0 W s) (h0 : 0 < T.length) (hl : T.length ≤ 1000000) (hgood : ∀ j,j < T.length → (tkAt T j).f0 ≠ 0 → j + 1 < T.length) (hts : ∀ j,(tkAt T j).f1.size ≤ 1000000) : Made T W s:=by
  refine (read_ T 0 0 0 W s hT).mono ?_
  rintro e' w' ⟨r, v0, rfl, hrow, hR, hb, hr⟩
  have hR2 := Kd.R_mono (ok' := fun _ => True) hR (fun _ _ => trivial)
  obtain ⟨B,c,rfl,h1,h2,h3,h4,h5⟩:=toks hR2 h0
  have hne : B ≠ r:=hR.1 B rfl
  exact ⟨⟨T,B,c,r,W⟩,rfl,rfl,rfl,⟨⟨0,h0,hrow,fun j e=>by injection e⟩,fun k l c e=>(by cases e),h5,h3,h4,hl,hne,hb,hr,hgood,hts⟩,hb,hr⟩
set_option maxHeartbeats 4000000 in
set_option maxRecDepth 100000 in
theorem pool_bad (s : ByteArray) (W : World) (T : List S69) (e l c : Int) (he : e ≠ 0) (hT : Told T e l c (W.alloc (.cells #[.int .i64 0,.int .i64 0,.int .i64 0] 28)) s) :
    Calls Tryz.prog 7 #[.string s] W fun e' w' => ∃ v0 : Value, e' = .returned (.tuple #[v0, .agg #[.int .i64 e, .int .i64 l, .int .i64 c]]) ∧ Kd.R k38 38 w' W.heap.size (fun _ => True) v0 [] ∧ Below W.heap.size W w' := by
  have HM:=Aside0.mk (read_ T e l c (W.alloc (.cells #[.int .i64 0,.int .i64 0,.int .i64 0] 28)) s hT)
  have HF:=Aside0.mk (blk_new W (.cells #[.int .i64 0,.int .i64 0,.int .i64 0] 28))
  have HB:=Aside0.mk (below_alloc (Below.refl W.heap.size W) (.cells #[.int .i64 0,.int .i64 0,.int .i64 0] 28))
  have HSZ:=Aside0.mk (size_alloc W (.cells #[.int .i64 0,.int .i64 0,.int .i64 0] 28))
  have HE:=Aside0.mk he
  have hu28:=Tryz.underlying28
  have hu66:=Tryz.underlying66
  clear hT he
  go_enter Tryz.func7,Tryz.ntmps7
  go_upto_block 0 with (go_at_call 18;refine HM.out.mono ?_;rintro e1 w ⟨r,v0,rfl,hrow,hR,hb,hrr⟩;have HR:=Aside0.mk hrow;have HF:=Aside0.mk (blk_below HF.out hb);have HB:=Aside0.mk (below_step HB.out hb);have HRR:=Aside0.mk (show W.heap.size ≠ r by rw [HSZ.out] at hrr;omega);clear hrow hR hb hrr)
  go_cut [5] from 8 (fun s5 wc=>s5 = .slice none 0 0 ∧ wc = w)
  case first =>
    go_wp2_with fail
    go_loopg [5] 1 (fun g s5 wr=>s5 = .slice none 0 0 ∧ wr = w ∧ g = 1)
    case atStart=>exact ⟨rfl,rfl,rfl⟩
    case round =>
      obtain ⟨rfl,rfl,rfl⟩:=hrel
      go_wp2_with (go_at_call 19;refine (doneBad _ r e ((blk_cell HR.out 2).trans rfl) HE.out).mono ?_;rintro e1 w2 ⟨rfl,rfl⟩)
      go_meet
      case rel=>exact ⟨rfl,rfl⟩
  case rest =>
  obtain ⟨rfl,rfl⟩:=hcut
  have m0 : (e != 0) = true:=bne_iff_ne.2 HE.out
  have c2 : wc.cell? ⟨r,2,none⟩ = some (.int .i64 e):=(blk_cell HR.out 2).trans rfl
  go_wp2_with fail
  have HRD:=Aside0.mk (blk_drew HR.out)
  have HFD:=Aside0.mk (blk_drew HF.out)
  have c2:=(blk_cell HRD.out 2).trans rfl
  have c3:=(blk_cell HRD.out 3).trans rfl
  have c4:=(blk_cell HRD.out 4).trans rfl
  have d0:=(blk_cell HFD.out 0).trans rfl
  have b0:=(blk_cell HF.out 0).trans rfl
  have f0:=blk_frozen HFD.out 0
  have h0:=blk_frozen HF.out 0
  have d1:=(blk_cell HFD.out 1).trans rfl
  have b1:=(blk_cell HF.out 1).trans rfl
  have f1:=blk_frozen HFD.out 1
  have h1:=blk_frozen HF.out 1
  have d2:=(blk_cell HFD.out 2).trans rfl
  have b2:=(blk_cell HF.out 2).trans rfl
  have f2:=blk_frozen HFD.out 2
  have h2:=blk_frozen HF.out 2
  go_region_law (fail)
  all_goals
    go_wp2
    refine bodyPost_ret (results_tc rfl _ _ W.heap.size 28 #[.int .i64 e,.int .i64 l,.int .i64 c] (0,0) _ rfl (blk_drew (blk_put (blk_put (blk_put HF.out 0 _ rfl) 1 _ rfl) 2 _ rfl)) Tryz.underlying28 rfl (by kernel_rfl)) rfl ?_
    exact ⟨_,rfl,Kd.R_nil _ _ _ _ _,below_drew1 (pw_below_grown HB.out (some W.heap.size) HB.out.size (((grown_set _ _ 0 _).trans (grown_set _ _ 1 _)).trans (grown_set _ _ 2 _)) (fun k e=>by cases e;exact Nat.le_refl _))⟩
set_option maxHeartbeats 4000000 in
set_option maxRecDepth 100000 in
theorem exprs_bad (s : ByteArray) (W : World) (T : List S69) (e l c : Int) (he : e ≠ 0) (hT : Told T e l c (W.alloc (.cells #[.int .i64 0,.int .i64 0,.int .i64 0] 28)) s) :
    Calls Tryz.prog 9 #[.string s] W fun e' w' => ∃ v0 : Value, e' = .returned (.tuple #[v0, .agg #[.int .i64 e, .int .i64 l, .int .i64 c]]) ∧ Kd.R k50 50 w' W.heap.size (fun _ => True) v0 [] ∧ Below W.heap.size W w' := by
  have HM:=Aside0.mk (read_ T e l c (W.alloc (.cells #[.int .i64 0,.int .i64 0,.int .i64 0] 28)) s hT)
  have HF:=Aside0.mk (blk_new W (.cells #[.int .i64 0,.int .i64 0,.int .i64 0] 28))
  have HB:=Aside0.mk (below_alloc (Below.refl W.heap.size W) (.cells #[.int .i64 0,.int .i64 0,.int .i64 0] 28))
  have HSZ:=Aside0.mk (size_alloc W (.cells #[.int .i64 0,.int .i64 0,.int .i64 0] 28))
  have HE:=Aside0.mk he
  have hu28:=Tryz.underlying28
  have hu66:=Tryz.underlying66
  clear hT he
  go_enter Tryz.func9,Tryz.ntmps9
  go_upto_block 0 with (go_at_call 18;refine HM.out.mono ?_;rintro e1 w ⟨r,v0,rfl,hrow,hR,hb,hrr⟩;have HR:=Aside0.mk hrow;have HF:=Aside0.mk (blk_below HF.out hb);have HB:=Aside0.mk (below_step HB.out hb);have HRR:=Aside0.mk (show W.heap.size ≠ r by rw [HSZ.out] at hrr;omega);clear hrow hR hb hrr)
  go_cut [5] from 8 (fun s5 wc=>s5 = .slice none 0 0 ∧ wc = w)
  case first =>
    go_wp2_with fail
    go_loopg [5] 1 (fun g s5 wr=>s5 = .slice none 0 0 ∧ wr = w ∧ g = 1)
    case atStart=>exact ⟨rfl,rfl,rfl⟩
    case round =>
      obtain ⟨rfl,rfl,rfl⟩:=hrel
      go_wp2_with (go_at_call 19;refine (doneBad _ r e ((blk_cell HR.out 2).trans rfl) HE.out).mono ?_;rintro e1 w2 ⟨rfl,rfl⟩)
      go_meet
      case rel=>exact ⟨rfl,rfl⟩
  case rest =>
  obtain ⟨rfl,rfl⟩:=hcut
  have m0 : (e != 0) = true:=bne_iff_ne.2 HE.out
  have c2 : wc.cell? ⟨r,2,none⟩ = some (.int .i64 e):=(blk_cell HR.out 2).trans rfl
  go_wp2_with fail
  have HRD:=Aside0.mk (blk_drew HR.out)
  have HFD:=Aside0.mk (blk_drew HF.out)
  have c2:=(blk_cell HRD.out 2).trans rfl
  have c3:=(blk_cell HRD.out 3).trans rfl
  have c4:=(blk_cell HRD.out 4).trans rfl
  have d0:=(blk_cell HFD.out 0).trans rfl
  have b0:=(blk_cell HF.out 0).trans rfl
  have f0:=blk_frozen HFD.out 0
  have h0:=blk_frozen HF.out 0
  have d1:=(blk_cell HFD.out 1).trans rfl
  have b1:=(blk_cell HF.out 1).trans rfl
  have f1:=blk_frozen HFD.out 1
  have h1:=blk_frozen HF.out 1
  have d2:=(blk_cell HFD.out 2).trans rfl
  have b2:=(blk_cell HF.out 2).trans rfl
  have f2:=blk_frozen HFD.out 2
  have h2:=blk_frozen HF.out 2
  go_region_law (fail)
  all_goals
    go_wp2
    refine bodyPost_ret (results_tc rfl _ _ W.heap.size 28 #[.int .i64 e,.int .i64 l,.int .i64 c] (0,0) _ rfl (blk_drew (blk_put (blk_put (blk_put HF.out 0 _ rfl) 1 _ rfl) 2 _ rfl)) Tryz.underlying28 rfl (by kernel_rfl)) rfl ?_
    exact ⟨_,rfl,Kd.R_nil _ _ _ _ _,below_drew1 (pw_below_grown HB.out (some W.heap.size) HB.out.size (((grown_set _ _ 0 _).trans (grown_set _ _ 1 _)).trans (grown_set _ _ 2 _)) (fun k e=>by cases e;exact Nat.le_refl _))⟩
end Go.Proofs.YtmgdkkkkanjadaaGreatDoor.RefA
