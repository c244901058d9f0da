/-
  joustref01.Tokens: the walk. Conditions: what the listed package variables hold.
-/
import Derived.Test.YtmgdkkkkanjadaaGreatDoorRefT
import Derived.Test.YtmgdkkkkanjadaaGreatDoorRefD
namespace Go.Proofs.YtmgdkkkkanjadaaGreatDoor.RefT
set_option linter.unusedVariables false
set_option linter.unusedSimpArgs false
open Go.RowKit Go.Shelf Go.Lib Go.Proofs.YtmgdkkkkanjadaaGreatDoorW.PrintWords Go.Proofs.YtmgdkkkkanjadaaGreatDoorW.PrintLast Go.Proofs.YtmgdkkkkanjadaaGreatDoorW.PrintMore Go.Proofs.YtmgdkkkkanjadaaGreatDoor.X Go.Proofs.YtmgdkkkkanjadaaGreatDoor.HandS Go.Proofs.YtmgdkkkkanjadaaGreatDoor.HandA Go.Proofs.YtmgdkkkkanjadaaGreatDoor.HandB Go.Proofs.YtmgdkkkkanjadaaGreatDoor.HandC Go.Proofs.YtmgdkkkkanjadaaGreatDoor.HandG Go.Proofs.YtmgdkkkkanjadaaGreatDoor.Iter
structure Ts (w wr : World) (v : Value) (xs : List S69) : Prop where
  below : Below (w.heap.size + 1) (w.alloc (.cells #[.int .i64 0,.int .i64 0,.int .i64 0] 28)) wr
  row : k69.R 69 wr (w.heap.size + 1) (fun _=>True) v xs
section
variable {w wr w1 : World} {v v1 : Value} {xs ys : List S69}
theorem Ts.step (h : Ts w wr v xs) (hb : Below wr.heap.size wr w1) : Ts w w1 v xs :=
  ⟨below_then h.below (by have:=h.below.size;rw [size_alloc] at this;exact this) hb,Kd.R_below h.row hb⟩
theorem Ts.all (h : Ts w wr v xs) : Below w.heap.size w wr:=by
  have h1:=below_alloc (Below.refl w.heap.size w) (.cells #[.int .i64 0,.int .i64 0,.int .i64 0] 28)
  have h2:=h.below
  exact below_then h1 h1.size (by rw [size_alloc];exact h2)
theorem Ts.res (h : Ts w wr v xs) : wr.heap[w.heap.size]? = some (.cells #[.int .i64 0,.int .i64 0,.int .i64 0] 28 (0,0)):=by
  rw [h.below.block _ (Nat.lt_succ_self _)]
  exact blk_new w _
theorem Ts.add (h : Ts w wr v xs) (hb : Below (w.heap.size + 1) wr w1) (hR : k69.R 69 w1 (w.heap.size + 1) (fun _=>True) v1 ys) : Ts w w1 v1 ys:=⟨h.below.trans hb,hR⟩
end
set_option maxHeartbeats 16000000 in
set_option maxRecDepth 100000 in
theorem Tokens_ (k : Nat) (s : ByteArray) (r : Ans) (w : World) (hG : Tabs w) (h : joustref01_Tokens.f k s = some r) :
    Calls Tryz.prog 47 #[.string s] w fun e w' => ∃ v0 : Value, e = .returned (.tuple #[v0, .agg #[.int .i64 r.2.1, .int .i64 r.2.2.1, .int .i64 r.2.2.2]]) ∧ Kd.R k69 69 w' w.heap.size (fun _ => True) v0 r.1 ∧ Below w.heap.size w w' := by
  have TS:=Aside0.mk (show Ts w (w.alloc (.cells #[.int .i64 0,.int .i64 0,.int .i64 0] 28)) (.slice none 0 0) [] from ⟨Below.refl _ _,Kd.R_nil _ _ _ _ _⟩)
  have HG:=Aside0.mk hG
  have hu28:=Tryz.underlying28
  have hu26:=Tryz.underlying26
  have hu69:=Tryz.underlying69
  clear hG
  unfold joustref01_Tokens.f at h
  by_cases hs : (s.size : Int) > 65536
  · rw [if_pos hs] at h
    obtain rfl:=Option.some.inj h
    have g1 : decide ((65536 : Int) < (s.size : Int)) = true:=decide_eq_true hs
    have g2 : decide (65536 < s.size) = true:=decide_eq_true (by omega)
    clear hs h
    go_enter Tryz.func47,Tryz.ntmps47
    go_wp2_with ((with_reducible refine gate_store (t:=28) (p:=3) rfl ?_);refine store_row rfl rfl rfl w.heap.size _ rfl rfl TS.out.res (by kernel_rfl) rfl (by kernel_rfl) ?_;intro w9 hf hg;have HF9:=Aside0.mk hf;have HG9:=Aside0.mk hg;clear hf hg)
    refine bodyPost_ret (results_tc rfl _ _ w.heap.size 28 _ (0,0) _ rfl HF9.out Tryz.underlying28 rfl (by kernel_rfl)) rfl ?_
    exact ⟨_,rfl,Kd.R_nil _ _ _ _ _,pw_below_grown TS.out.all (some w.heap.size) TS.out.all.size HG9.out (fun k e=>by cases e;exact Nat.le_refl _)⟩
  · rw [if_neg hs] at h
    have g1 : decide ((65536 : Int) < (s.size : Int)) = false:=decide_eq_false hs
    have g2 : decide (65536 < s.size) = false:=decide_eq_false (by omega)
    have HS:=Aside0.mk h
    clear hs h
    go_enter Tryz.func47,Tryz.ntmps47
    go_upto_block 0 with fail
    go_cut [4] from 5 (fun s4 wc=>∃ (xs : List S69) (x0 x1 : Int) (k1 : Nat),Aside0 (Ts w wc s4 xs) ∧ Aside0 (joustref01_Where.f k1 s (s.size : Int) = some (x0,x1) ∧ xs.length < 3518437208883 ∧ r = (xs ++ [⟨0,⟨#[]⟩,⟨x0,x1⟩⟩],0,0,0)))
    case first =>
      go_wp2_with fail
      go_loopg [4,5] k (fun g s4 s5 wr=>∃ (xs : List S69) (p : Int) (A : Option Addr) (c : Nat),s4 = .slice A xs.length c ∧ s5 = .int .i64 p ∧ Aside0 (Ts w wr (.slice A xs.length c) xs) ∧ Aside0 (joustref01_Tokens.l0 g s xs p = some r))
      case atStart=>exact ⟨[],0,none,0,rfl,rfl,TS,HS⟩
      case round =>
        clear TS HS
        obtain ⟨xs,p,A,cap,rfl,rfl,TS,HS⟩:=hrel
        obtain ⟨g,rfl⟩ : ∃ g,gk = g + 1:=by
          cases gk with
          | zero=>exact absurd HS.out (by simp [joustref01_Tokens.l0])
          | succ g=>exact ⟨g,rfl⟩
        by_cases hp : p < (s.size : Int)
        · obtain ⟨h0,c,n,x0,x1,hd,hw,hj⟩:=l0_inv HS.out hp
          have HD:=Aside0.mk hd
          have HW:=Aside0.mk hw
          have HJ:=Aside0.mk hj
          have H0:=Aside0.mk h0
          have H1:=Aside0.mk (Int.le_of_lt hp)
          have e1:=eq_true hp
          have e2:=decide_eq_true hp
          have e3:=eq_true h0
          have e4:=decide_eq_true h0
          have e5:=eq_true (Int.le_of_lt hp)
          have e6:=decide_eq_true (Int.le_of_lt hp)
          clear hd hw hj h0 hp
          go_upto_region 8 with (first
            | (go_at_call 80;refine (utf8_DecodeRuneInString.calls (s.extract p.toNat s.size) c n _ (HG.out.below TS.out.all) HD.out).mono ?_;rintro e w1 ⟨rfl,hb⟩;have TS:=Aside0.mk (TS.out.step (hb)); clear hb)
            | (go_at_call 81;refine (joustref01_Where.calls g s p x0 x1 _ (HG.out.below TS.out.all) HW.out).mono ?_;rintro e w1 ⟨rfl,hb⟩;have TS:=Aside0.mk (TS.out.step (hb)); clear hb))
          obtain ⟨g', rfl⟩ : ∃ g', g = g' + 1 := by
            cases g with
            | zero=>exact absurd HJ.out (by simp [joustref01_Tokens.j1])
            | succ g' => exact ⟨g', rfl⟩
          have TS:=Aside0.mk (TS.out.step (below_alloc (Below.refl _ _) (.cells #[.int .i64 x0,.int .i64 x1] 26)))
          have BX:=Aside0.mk (blk_new w1 (.cells #[.int .i64 x0,.int .i64 x1] 26))
          generalize w1.alloc (.cells #[.int .i64 x0,.int .i64 x1] 26) = wb at TS BX ⊢
          generalize w1.heap.size = bk at BX ⊢
          clear HS HD
          have hj:=HJ.out
          cases hws : wsI c with
          | true =>
            rw [hws] at hj
            have HS:=Aside0.mk (j1_ws hj)
            have hcc : c = 32 ∨ c = 9 ∨ c = 10 ∨ c = 13:=by
              unfold wsI at hws
              simpa using hws
            clear hj HJ hws
            rcases hcc with rfl | rfl | rfl | rfl
            all_goals
              go_wp2_with fail
              go_roundg g'
              case measure=>omega
              case rel=>exact ⟨xs,_,A,cap,rfl,by first | rfl | (simp only [i64_w];rfl),TS,HS⟩
          | false =>
            rw [hws] at hj
            have hcc : ¬ c = 32 ∧ ¬ c = 9 ∧ ¬ c = 10 ∧ ¬ c = 13:=by
              unfold wsI at hws
              simpa using hws
            have n1 : (c == 32) = false:=beq_eq_false_iff_ne.2 hcc.1
            have n2 : (c == 9) = false:=beq_eq_false_iff_ne.2 hcc.2.1
            have n3 : (c == 10) = false:=beq_eq_false_iff_ne.2 hcc.2.2.1
            have n4 : (c == 13) = false:=beq_eq_false_iff_ne.2 hcc.2.2.2
            clear HJ hws hcc
            by_cases h35 : c = 35
            · subst h35
              obtain ⟨m,b,hr,hh⟩:=j1_rem hj H0.out H1.out
              have HR:=Aside0.mk hr
              clear hr hj
              rcases hh with ⟨hb,y0,y1,hw2,hr⟩ | ⟨hb,hl⟩
              · have HW2:=Aside0.mk hw2
                have g5 : ((0 : Int) ≤ b) = True:=eq_true hb
                have g6 : decide ((0 : Int) ≤ b) = true:=decide_eq_true hb
                subst hr
                clear hb hw2
                go_wp2_with (first
                  | (go_at_call 82; refine (joustref01_remark.calls g' (s.extract p.toNat s.size) m b _ (HG.out.below TS.out.all) HR.out).mono ?_; rintro e w1 ⟨rfl, hb⟩; have TS := Aside0.mk (TS.out.step (hb)); have BX := Aside0.mk (blk_below BX.out (hb)); clear hb)
                  | (go_at_call 81; refine (joustref01_Where.calls g' s (wrap64 (p + b)) y0 y1 _ (HG.out.below TS.out.all) HW2.out).mono ?_; rintro e w1 ⟨rfl, hb⟩; have TS := Aside0.mk (TS.out.step (hb)); have BX := Aside0.mk (blk_below BX.out (hb)); clear hb)
                  | ((with_reducible refine gate_store (t:=28) (p:=3) rfl ?_);refine store_row rfl rfl rfl w.heap.size _ rfl rfl TS.out.res (by kernel_rfl) rfl (by kernel_rfl) ?_;intro w9 hf hg;have HF9:=Aside0.mk hf;have HG9:=Aside0.mk hg;clear hf hg))
                refine bodyPost_ret (results_tc rfl _ _ w.heap.size 28 _ (0,0) _ rfl HF9.out Tryz.underlying28 rfl (by kernel_rfl)) rfl ?_
                exact ⟨_,rfl,Kd.R_nil _ _ _ _ _,pw_below_grown TS.out.all (some w.heap.size) TS.out.all.size HG9.out (fun k e=>by cases e;exact Nat.le_refl _)⟩
              · have HS:=Aside0.mk hl
                have g5 : ((0 : Int) ≤ b) = False:=eq_false hb
                have g6 : decide ((0 : Int) ≤ b) = false:=decide_eq_false hb
                clear hb hl
                go_wp2_with (go_at_call 82; refine (joustref01_remark.calls g' (s.extract p.toNat s.size) m b _ (HG.out.below TS.out.all) HR.out).mono ?_; rintro e w1 ⟨rfl, hb⟩; have TS := Aside0.mk (TS.out.step (hb)); have BX := Aside0.mk (blk_below BX.out (hb)); clear hb)
                go_roundg g'
                case measure=>omega
                case rel=>exact ⟨xs,_,A,cap,rfl,by first | rfl | (simp only [i64_w];rfl),TS,HS⟩
            · have n5 : (c == 35) = false:=beq_eq_false_iff_ne.2 h35
              obtain ⟨m,q,hw,hh⟩:=j1_tok hj h35 H0.out H1.out
              have HW1:=Aside0.mk hw
              have HH:=Aside0.mk hh
              clear hj h35 hw hh
              obtain ⟨bm,hbm⟩ : ∃ bm,decide ((0 : Int) < m) = bm:=⟨_,rfl⟩
              have HBM:=Aside0.mk hbm
              go_upto_if 79 with (go_at_call 83; refine (joustref01_word.calls g' (s.extract p.toNat s.size) m q _ (HG.out.below TS.out.all) HW1.out).mono ?_; rintro e w1 ⟨rfl, hb⟩; have TS := Aside0.mk (TS.out.step (hb)); have BX := Aside0.mk (blk_below BX.out (hb)); clear hb)
              go_cut [7, 11, 14, 15] from 21 to 144 (fun s7 s11 s14 s15 wc => ∃ (m kd : Int), s7 = .int .i64 m ∧ s11 = .int .u8 kd ∧ Aside0 (Ts w wc (.slice A xs.length cap) xs) ∧ Aside0 (wc.heap[bk]? = some (.cells #[.int .i64 x0, .int .i64 x1] 26 (0, 0))) ∧ Aside0 (Good g' s xs p m kd x0 x1 r))
              case first =>
                rcases HH.out with ⟨hm,hh⟩ | ⟨hm,d,hd,hh⟩
                · obtain rfl : bm = true:=HBM.out.symm.trans (decide_eq_true hm)
                  clear hm hbm HBM
                  rcases hh with ⟨hq,rfl⟩ | ⟨hq,gd⟩
                  · have g8 : ((24 : Int) < q) = True:=eq_true hq
                    have g8d : decide ((24 : Int) < q) = true:=decide_eq_true hq
                    clear hq HH
                    go_wp2_with fail
                    have TSD:=Aside0.mk (TS.out.step (below_drew1 (Below.refl _ _)))
                    have BXD:=Aside0.mk (blk_drew BX.out)
                    have c0:=(blk_cell BXD.out 0).trans rfl
                    have c1:=(blk_cell BXD.out 1).trans rfl
                    have RS:=Aside0.mk TS.out.res
                    have RSD:=Aside0.mk TSD.out.res
                    have d0:=(blk_cell RSD.out 0).trans rfl
                    have b0:=(blk_cell RS.out 0).trans rfl
                    have f0:=blk_frozen RSD.out 0
                    have h0:=blk_frozen RS.out 0
                    have d1:=(blk_cell RSD.out 1).trans rfl
                    have b1:=(blk_cell RS.out 1).trans rfl
                    have f1:=blk_frozen RSD.out 1
                    have h1:=blk_frozen RS.out 1
                    have d2:=(blk_cell RSD.out 2).trans rfl
                    have b2:=(blk_cell RS.out 2).trans rfl
                    have f2:=blk_frozen RSD.out 2
                    have h2:=blk_frozen RS.out 2
                    go_region_law (fail)
                    all_goals
                      go_wp2
                      refine bodyPost_ret (results_tc rfl _ _ w.heap.size 28 #[.int .i64 3,.int .i64 x0,.int .i64 x1] (0,0) _ rfl (blk_drew (blk_put (blk_put (blk_put RS.out 0 _ rfl) 1 _ rfl) 2 _ rfl)) Tryz.underlying28 rfl (by kernel_rfl)) rfl ?_
                      exact ⟨_,rfl,Kd.R_nil _ _ _ _ _,below_drew1 (pw_below_grown TS.out.all (some w.heap.size) TS.out.all.size (((grown_set _ _ 0 _).trans (grown_set _ _ 1 _)).trans (grown_set _ _ 2 _)) (fun k e=>by cases e;exact Nat.le_refl _))⟩
                  · have g8 : ((24 : Int) < q) = False:=eq_false (Int.not_lt.2 hq)
                    have g8d : decide ((24 : Int) < q) = false:=decide_eq_false (Int.not_lt.2 hq)
                    clear hq HH
                    go_wp2_with fail
                    go_meet
                    case rel=>exact ⟨m,1,by first | rfl | (simp only [i64_w];rfl),rfl,TS,BX,⟨gd⟩⟩
                · obtain rfl : bm = false:=HBM.out.symm.trans (decide_eq_false (Int.not_lt.2 hm))
                  clear hm hbm HBM
                  have HDG:=Aside0.mk hd
                  clear hd
                  rcases hh with ⟨rfl,m2,hn,h5,h6,g,hg,hh⟩ | ⟨rfl,b,hb,hh⟩
                  · have HNB:=Aside0.mk hn
                    have HGR:=Aside0.mk hg
                    have HHH:=Aside0.mk hh
                    have gd:=And.intro h5 h6
                    have q1 : (p ≤ wrap64 (p + m2)) = True:=eq_true h5
                    have q1d : decide (p ≤ wrap64 (p + m2)) = true:=decide_eq_true h5
                    have q2 : (wrap64 (p + m2) ≤ (s.size : Int)) = True:=eq_true h6
                    have q2d : decide (wrap64 (p + m2) ≤ (s.size : Int)) = true:=decide_eq_true h6
                    clear hn hg hh HH h5 h6 gd
                    rcases HHH.out with ⟨rfl,rfl⟩ | ⟨rfl,h7,c2,n2,hd2,hh⟩
                    · go_wp2_with (first
                        | (go_at_call 84;refine (joustref01_digit.calls _ true _ HDG.out).mono ?_;rintro e w1 ⟨rfl,hb⟩;have TS:=Aside0.mk (TS.out.step (hb.below));have BX:=Aside0.mk (blk_below BX.out (hb.below));clear hb)
                        | (go_at_call 85; refine (joustref01_number.calls g' (s.extract p.toNat s.size) m2 _ HNB.out).mono ?_; rintro e w1 ⟨rfl, hb⟩; have TS := Aside0.mk (TS.out.step (hb.below)); have BX := Aside0.mk (blk_below BX.out (hb.below)); clear hb)
                        | (go_at_call 86; refine (joustref01_great.calls g' (s.extract p.toNat (wrap64 (p + m2)).toNat) true _ HGR.out).mono ?_; rintro e w1 ⟨rfl, hb⟩; have TS := Aside0.mk (TS.out.step (hb)); have BX := Aside0.mk (blk_below BX.out (hb)); clear hb))
                      have TSD:=Aside0.mk (TS.out.step (below_drew1 (Below.refl _ _)))
                      have BXD:=Aside0.mk (blk_drew BX.out)
                      have c0:=(blk_cell BXD.out 0).trans rfl
                      have c1:=(blk_cell BXD.out 1).trans rfl
                      have RS:=Aside0.mk TS.out.res
                      have RSD:=Aside0.mk TSD.out.res
                      have d0:=(blk_cell RSD.out 0).trans rfl
                      have b0:=(blk_cell RS.out 0).trans rfl
                      have f0:=blk_frozen RSD.out 0
                      have h0:=blk_frozen RS.out 0
                      have d1:=(blk_cell RSD.out 1).trans rfl
                      have b1:=(blk_cell RS.out 1).trans rfl
                      have f1:=blk_frozen RSD.out 1
                      have h1:=blk_frozen RS.out 1
                      have d2:=(blk_cell RSD.out 2).trans rfl
                      have b2:=(blk_cell RS.out 2).trans rfl
                      have f2:=blk_frozen RSD.out 2
                      have h2:=blk_frozen RS.out 2
                      go_region_law (fail)
                      all_goals
                        go_wp2
                        refine bodyPost_ret (results_tc rfl _ _ w.heap.size 28 #[.int .i64 3,.int .i64 x0,.int .i64 x1] (0,0) _ rfl (blk_drew (blk_put (blk_put (blk_put RS.out 0 _ rfl) 1 _ rfl) 2 _ rfl)) Tryz.underlying28 rfl (by kernel_rfl)) rfl ?_
                        exact ⟨_,rfl,Kd.R_nil _ _ _ _ _,below_drew1 (pw_below_grown TS.out.all (some w.heap.size) TS.out.all.size (((grown_set _ _ 0 _).trans (grown_set _ _ 1 _)).trans (grown_set _ _ 2 _)) (fun k e=>by cases e;exact Nat.le_refl _))⟩
                    · have HD2:=Aside0.mk hd2
                      have q3 : (0 ≤ wrap64 (p + m2)) = True:=eq_true h7
                      have q3d : decide (0 ≤ wrap64 (p + m2)) = true:=decide_eq_true h7
                      clear h7 hd2
                      rcases hh with ⟨h8,rfl,rfl⟩ | ⟨h8,t,ht,hh⟩
                      · have g9 : ((1 : Int) < m2) = True:=eq_true h8
                        have g9d : decide ((1 : Int) < m2) = true:=decide_eq_true h8
                        clear h8
                        go_wp2_with (first
                          | (go_at_call 84;refine (joustref01_digit.calls _ true _ HDG.out).mono ?_;rintro e w1 ⟨rfl,hb⟩;have TS:=Aside0.mk (TS.out.step (hb.below));have BX:=Aside0.mk (blk_below BX.out (hb.below));clear hb)
                          | (go_at_call 85; refine (joustref01_number.calls g' (s.extract p.toNat s.size) m2 _ HNB.out).mono ?_; rintro e w1 ⟨rfl, hb⟩; have TS := Aside0.mk (TS.out.step (hb.below)); have BX := Aside0.mk (blk_below BX.out (hb.below)); clear hb)
                          | (go_at_call 86; refine (joustref01_great.calls g' (s.extract p.toNat (wrap64 (p + m2)).toNat) false _ HGR.out).mono ?_; rintro e w1 ⟨rfl, hb⟩; have TS := Aside0.mk (TS.out.step (hb)); have BX := Aside0.mk (blk_below BX.out (hb)); clear hb)
                          | (go_at_call 80;refine (utf8_DecodeRuneInString.calls (s.extract (wrap64 (p + m2)).toNat s.size) _ _ _ (HG.out.below TS.out.all) HD2.out).mono ?_;rintro e w1 ⟨rfl,hb⟩;have TS:=Aside0.mk (TS.out.step (hb));have BX:=Aside0.mk (blk_below BX.out (hb));clear hb))
                        have TSD:=Aside0.mk (TS.out.step (below_drew1 (Below.refl _ _)))
                        have BXD:=Aside0.mk (blk_drew BX.out)
                        have c0:=(blk_cell BXD.out 0).trans rfl
                        have c1:=(blk_cell BXD.out 1).trans rfl
                        have RS:=Aside0.mk TS.out.res
                        have RSD:=Aside0.mk TSD.out.res
                        have d0:=(blk_cell RSD.out 0).trans rfl
                        have b0:=(blk_cell RS.out 0).trans rfl
                        have f0:=blk_frozen RSD.out 0
                        have h0:=blk_frozen RS.out 0
                        have d1:=(blk_cell RSD.out 1).trans rfl
                        have b1:=(blk_cell RS.out 1).trans rfl
                        have f1:=blk_frozen RSD.out 1
                        have h1:=blk_frozen RS.out 1
                        have d2:=(blk_cell RSD.out 2).trans rfl
                        have b2:=(blk_cell RS.out 2).trans rfl
                        have f2:=blk_frozen RSD.out 2
                        have h2:=blk_frozen RS.out 2
                        go_region_law (fail)
                        all_goals
                          go_wp2
                          refine bodyPost_ret (results_tc rfl _ _ w.heap.size 28 #[.int .i64 5,.int .i64 x0,.int .i64 x1] (0,0) _ rfl (blk_drew (blk_put (blk_put (blk_put RS.out 0 _ rfl) 1 _ rfl) 2 _ rfl)) Tryz.underlying28 rfl (by kernel_rfl)) rfl ?_
                          exact ⟨_,rfl,Kd.R_nil _ _ _ _ _,below_drew1 (pw_below_grown TS.out.all (some w.heap.size) TS.out.all.size (((grown_set _ _ 0 _).trans (grown_set _ _ 1 _)).trans (grown_set _ _ 2 _)) (fun k e=>by cases e;exact Nat.le_refl _))⟩
                      · have HLT:=Aside0.mk ht
                        clear ht
                        have ways : ((1 : Int) < m2 ∧ c ≠ 48) ∨ ¬ (1 : Int) < m2:=by
                          by_cases a : (1 : Int) < m2
                          · exact .inl ⟨a,fun b=>h8 ⟨a,b⟩⟩
                          · exact .inr a
                        clear h8 HHH
                        rcases hh with ⟨rfl,h9,rfl⟩ | ⟨h9,gd⟩
                        · have g10 : ((0 : Int) < n2) = True:=eq_true h9
                          have g10d : decide ((0 : Int) < n2) = true:=decide_eq_true h9
                          clear h9
                          rcases ways with ⟨a,b⟩ | a
                          · have g9 : ((1 : Int) < m2) = True:=eq_true a
                            have g9d : decide ((1 : Int) < m2) = true:=decide_eq_true a
                            have n6 : (c == 48) = false:=beq_eq_false_iff_ne.2 b
                            clear a b
                            go_wp2_with (first
                              | (go_at_call 84;refine (joustref01_digit.calls _ true _ HDG.out).mono ?_;rintro e w1 ⟨rfl,hb⟩;have TS:=Aside0.mk (TS.out.step (hb.below));have BX:=Aside0.mk (blk_below BX.out (hb.below));clear hb)
                              | (go_at_call 85; refine (joustref01_number.calls g' (s.extract p.toNat s.size) m2 _ HNB.out).mono ?_; rintro e w1 ⟨rfl, hb⟩; have TS := Aside0.mk (TS.out.step (hb.below)); have BX := Aside0.mk (blk_below BX.out (hb.below)); clear hb)
                              | (go_at_call 86; refine (joustref01_great.calls g' (s.extract p.toNat (wrap64 (p + m2)).toNat) false _ HGR.out).mono ?_; rintro e w1 ⟨rfl, hb⟩; have TS := Aside0.mk (TS.out.step (hb)); have BX := Aside0.mk (blk_below BX.out (hb)); clear hb)
                              | (go_at_call 80;refine (utf8_DecodeRuneInString.calls (s.extract (wrap64 (p + m2)).toNat s.size) _ _ _ (HG.out.below TS.out.all) HD2.out).mono ?_;rintro e w1 ⟨rfl,hb⟩;have TS:=Aside0.mk (TS.out.step (hb));have BX:=Aside0.mk (blk_below BX.out (hb));clear hb)
                              | (go_at_call 87;refine (unicode_IsLetter.calls c2 true _ (HG.out.below TS.out.all) HLT.out).mono ?_;rintro e w1 ⟨rfl,hb⟩;have TS:=Aside0.mk (TS.out.step (hb));have BX:=Aside0.mk (blk_below BX.out (hb));clear hb))
                            have TSD:=Aside0.mk (TS.out.step (below_drew1 (Below.refl _ _)))
                            have BXD:=Aside0.mk (blk_drew BX.out)
                            have c0:=(blk_cell BXD.out 0).trans rfl
                            have c1:=(blk_cell BXD.out 1).trans rfl
                            have RS:=Aside0.mk TS.out.res
                            have RSD:=Aside0.mk TSD.out.res
                            have d0:=(blk_cell RSD.out 0).trans rfl
                            have b0:=(blk_cell RS.out 0).trans rfl
                            have f0:=blk_frozen RSD.out 0
                            have h0:=blk_frozen RS.out 0
                            have d1:=(blk_cell RSD.out 1).trans rfl
                            have b1:=(blk_cell RS.out 1).trans rfl
                            have f1:=blk_frozen RSD.out 1
                            have h1:=blk_frozen RS.out 1
                            have d2:=(blk_cell RSD.out 2).trans rfl
                            have b2:=(blk_cell RS.out 2).trans rfl
                            have f2:=blk_frozen RSD.out 2
                            have h2:=blk_frozen RS.out 2
                            go_region_law (fail)
                            all_goals
                              go_wp2
                              refine bodyPost_ret (results_tc rfl _ _ w.heap.size 28 #[.int .i64 5,.int .i64 x0,.int .i64 x1] (0,0) _ rfl (blk_drew (blk_put (blk_put (blk_put RS.out 0 _ rfl) 1 _ rfl) 2 _ rfl)) Tryz.underlying28 rfl (by kernel_rfl)) rfl ?_
                              exact ⟨_,rfl,Kd.R_nil _ _ _ _ _,below_drew1 (pw_below_grown TS.out.all (some w.heap.size) TS.out.all.size (((grown_set _ _ 0 _).trans (grown_set _ _ 1 _)).trans (grown_set _ _ 2 _)) (fun k e=>by cases e;exact Nat.le_refl _))⟩
                          · have g9 : ((1 : Int) < m2) = False:=eq_false a
                            have g9d : decide ((1 : Int) < m2) = false:=decide_eq_false a
                            clear a
                            go_wp2_with (first
                              | (go_at_call 84;refine (joustref01_digit.calls _ true _ HDG.out).mono ?_;rintro e w1 ⟨rfl,hb⟩;have TS:=Aside0.mk (TS.out.step (hb.below));have BX:=Aside0.mk (blk_below BX.out (hb.below));clear hb)
                              | (go_at_call 85; refine (joustref01_number.calls g' (s.extract p.toNat s.size) m2 _ HNB.out).mono ?_; rintro e w1 ⟨rfl, hb⟩; have TS := Aside0.mk (TS.out.step (hb.below)); have BX := Aside0.mk (blk_below BX.out (hb.below)); clear hb)
                              | (go_at_call 86; refine (joustref01_great.calls g' (s.extract p.toNat (wrap64 (p + m2)).toNat) false _ HGR.out).mono ?_; rintro e w1 ⟨rfl, hb⟩; have TS := Aside0.mk (TS.out.step (hb)); have BX := Aside0.mk (blk_below BX.out (hb)); clear hb)
                              | (go_at_call 80;refine (utf8_DecodeRuneInString.calls (s.extract (wrap64 (p + m2)).toNat s.size) _ _ _ (HG.out.below TS.out.all) HD2.out).mono ?_;rintro e w1 ⟨rfl,hb⟩;have TS:=Aside0.mk (TS.out.step (hb));have BX:=Aside0.mk (blk_below BX.out (hb));clear hb)
                              | (go_at_call 87;refine (unicode_IsLetter.calls c2 true _ (HG.out.below TS.out.all) HLT.out).mono ?_;rintro e w1 ⟨rfl,hb⟩;have TS:=Aside0.mk (TS.out.step (hb));have BX:=Aside0.mk (blk_below BX.out (hb));clear hb))
                            have TSD:=Aside0.mk (TS.out.step (below_drew1 (Below.refl _ _)))
                            have BXD:=Aside0.mk (blk_drew BX.out)
                            have c0:=(blk_cell BXD.out 0).trans rfl
                            have c1:=(blk_cell BXD.out 1).trans rfl
                            have RS:=Aside0.mk TS.out.res
                            have RSD:=Aside0.mk TSD.out.res
                            have d0:=(blk_cell RSD.out 0).trans rfl
                            have b0:=(blk_cell RS.out 0).trans rfl
                            have f0:=blk_frozen RSD.out 0
                            have h0:=blk_frozen RS.out 0
                            have d1:=(blk_cell RSD.out 1).trans rfl
                            have b1:=(blk_cell RS.out 1).trans rfl
                            have f1:=blk_frozen RSD.out 1
                            have h1:=blk_frozen RS.out 1
                            have d2:=(blk_cell RSD.out 2).trans rfl
                            have b2:=(blk_cell RS.out 2).trans rfl
                            have f2:=blk_frozen RSD.out 2
                            have h2:=blk_frozen RS.out 2
                            go_region_law (fail)
                            all_goals
                              go_wp2
                              refine bodyPost_ret (results_tc rfl _ _ w.heap.size 28 #[.int .i64 5,.int .i64 x0,.int .i64 x1] (0,0) _ rfl (blk_drew (blk_put (blk_put (blk_put RS.out 0 _ rfl) 1 _ rfl) 2 _ rfl)) Tryz.underlying28 rfl (by kernel_rfl)) rfl ?_
                              exact ⟨_,rfl,Kd.R_nil _ _ _ _ _,below_drew1 (pw_below_grown TS.out.all (some w.heap.size) TS.out.all.size (((grown_set _ _ 0 _).trans (grown_set _ _ 1 _)).trans (grown_set _ _ 2 _)) (fun k e=>by cases e;exact Nat.le_refl _))⟩
                        · have GD:=Aside0.mk gd
                          have w2 : t = false ∨ (t = true ∧ ¬ (0 : Int) < n2):=by
                            cases t
                            · exact .inl rfl
                            · exact .inr ⟨rfl,fun a=>h9 ⟨rfl,a⟩⟩
                          clear h9 gd
                          have w3 : (decide ((1 : Int) < m2) = true ∧ ((1 : Int) < m2) = True ∧ (c == 48) = false) ∨ (decide ((1 : Int) < m2) = false ∧ ((1 : Int) < m2) = False ∧ (c == 48) = (c == 48)):=by
                            rcases ways with ⟨a,b⟩ | a
                            · exact .inl ⟨decide_eq_true a,eq_true a,beq_eq_false_iff_ne.2 b⟩
                            · exact .inr ⟨decide_eq_false a,eq_false a,rfl⟩
                          have w4 : (t = false ∧ decide ((0 : Int) < n2) = decide ((0 : Int) < n2) ∧ ((0 : Int) < n2) = ((0 : Int) < n2)) ∨ (t = true ∧ decide ((0 : Int) < n2) = false ∧ ((0 : Int) < n2) = False):=by
                            rcases w2 with a | ⟨a,b⟩
                            · exact .inl ⟨a,rfl,rfl⟩
                            · exact .inr ⟨a,decide_eq_false b,eq_false b⟩
                          clear ways w2
                          rcases w3 with ⟨a1,a2,a3⟩ | ⟨a1,a2,a3⟩ <;> rcases w4 with ⟨rfl,b2,b3⟩ | ⟨rfl,b2,b3⟩
                          all_goals
                            go_wp2_with (first
                              | (go_at_call 84;refine (joustref01_digit.calls _ true _ HDG.out).mono ?_;rintro e w1 ⟨rfl,hb⟩;have TS:=Aside0.mk (TS.out.step (hb.below));have BX:=Aside0.mk (blk_below BX.out (hb.below));clear hb)
                              | (go_at_call 85; refine (joustref01_number.calls g' (s.extract p.toNat s.size) m2 _ HNB.out).mono ?_; rintro e w1 ⟨rfl, hb⟩; have TS := Aside0.mk (TS.out.step (hb.below)); have BX := Aside0.mk (blk_below BX.out (hb.below)); clear hb)
                              | (go_at_call 86; refine (joustref01_great.calls g' (s.extract p.toNat (wrap64 (p + m2)).toNat) false _ HGR.out).mono ?_; rintro e w1 ⟨rfl, hb⟩; have TS := Aside0.mk (TS.out.step (hb)); have BX := Aside0.mk (blk_below BX.out (hb)); clear hb)
                              | (go_at_call 80;refine (utf8_DecodeRuneInString.calls (s.extract (wrap64 (p + m2)).toNat s.size) _ _ _ (HG.out.below TS.out.all) HD2.out).mono ?_;rintro e w1 ⟨rfl,hb⟩;have TS:=Aside0.mk (TS.out.step (hb));have BX:=Aside0.mk (blk_below BX.out (hb));clear hb)
                              | (go_at_call 87;refine (unicode_IsLetter.calls c2 true _ (HG.out.below TS.out.all) HLT.out).mono ?_;rintro e w1 ⟨rfl,hb⟩;have TS:=Aside0.mk (TS.out.step (hb));have BX:=Aside0.mk (blk_below BX.out (hb));clear hb)
                              | (go_at_call 87;refine (unicode_IsLetter.calls c2 false _ (HG.out.below TS.out.all) HLT.out).mono ?_;rintro e w1 ⟨rfl,hb⟩;have TS:=Aside0.mk (TS.out.step (hb));have BX:=Aside0.mk (blk_below BX.out (hb));clear hb))
                            go_meet
                            case rel=>exact ⟨m2,2,by first | rfl | (simp only [i64_w];rfl),rfl,TS,BX,⟨GD.out⟩⟩
                  · have HMK:=Aside0.mk hb
                    clear hb HH
                    rcases hh with ⟨rfl,rfl⟩ | ⟨rfl,gd⟩
                    · go_wp2_with (first
                        | (go_at_call 84;refine (joustref01_digit.calls _ false _ HDG.out).mono ?_;rintro e w1 ⟨rfl,hb⟩;have TS:=Aside0.mk (TS.out.step (hb.below));have BX:=Aside0.mk (blk_below BX.out (hb.below));clear hb)
                        | (go_at_call 88; refine (joustref01_mark.calls g' c false _ HMK.out).mono ?_; rintro e w1 ⟨rfl, hb⟩; have TS := Aside0.mk (TS.out.step (hb.below)); have BX := Aside0.mk (blk_below BX.out (hb.below)); clear hb))
                      have TSD:=Aside0.mk (TS.out.step (below_drew1 (Below.refl _ _)))
                      have BXD:=Aside0.mk (blk_drew BX.out)
                      have c0:=(blk_cell BXD.out 0).trans rfl
                      have c1:=(blk_cell BXD.out 1).trans rfl
                      have RS:=Aside0.mk TS.out.res
                      have RSD:=Aside0.mk TSD.out.res
                      have d0:=(blk_cell RSD.out 0).trans rfl
                      have b0:=(blk_cell RS.out 0).trans rfl
                      have f0:=blk_frozen RSD.out 0
                      have h0:=blk_frozen RS.out 0
                      have d1:=(blk_cell RSD.out 1).trans rfl
                      have b1:=(blk_cell RS.out 1).trans rfl
                      have f1:=blk_frozen RSD.out 1
                      have h1:=blk_frozen RS.out 1
                      have d2:=(blk_cell RSD.out 2).trans rfl
                      have b2:=(blk_cell RS.out 2).trans rfl
                      have f2:=blk_frozen RSD.out 2
                      have h2:=blk_frozen RS.out 2
                      go_region_law (fail)
                      all_goals
                        go_wp2
                        refine bodyPost_ret (results_tc rfl _ _ w.heap.size 28 #[.int .i64 4,.int .i64 x0,.int .i64 x1] (0,0) _ rfl (blk_drew (blk_put (blk_put (blk_put RS.out 0 _ rfl) 1 _ rfl) 2 _ rfl)) Tryz.underlying28 rfl (by kernel_rfl)) rfl ?_
                        exact ⟨_,rfl,Kd.R_nil _ _ _ _ _,below_drew1 (pw_below_grown TS.out.all (some w.heap.size) TS.out.all.size (((grown_set _ _ 0 _).trans (grown_set _ _ 1 _)).trans (grown_set _ _ 2 _)) (fun k e=>by cases e;exact Nat.le_refl _))⟩
                    · go_wp2_with (first
                        | (go_at_call 84;refine (joustref01_digit.calls _ false _ HDG.out).mono ?_;rintro e w1 ⟨rfl,hb⟩;have TS:=Aside0.mk (TS.out.step (hb.below));have BX:=Aside0.mk (blk_below BX.out (hb.below));clear hb)
                        | (go_at_call 88; refine (joustref01_mark.calls g' c true _ HMK.out).mono ?_; rintro e w1 ⟨rfl, hb⟩; have TS := Aside0.mk (TS.out.step (hb.below)); have BX := Aside0.mk (blk_below BX.out (hb.below)); clear hb))
                      go_meet
                      case rel=>exact ⟨n,3,by first | rfl | (simp only [i64_w];rfl),rfl,TS,BX,⟨gd⟩⟩
              case rest =>
              clear TS BX HW1 HH hbm HBM
              obtain ⟨m,kd,rfl,rfl,TS,BX,GD⟩:=hcut
              have q1:=eq_true GD.out.1
              have q1d:=decide_eq_true GD.out.1
              have q2:=eq_true GD.out.2.1
              have q2d:=decide_eq_true GD.out.2.1
              have hwp : IntKind.i64.wrap (p + m) = wrap64 (p + m):=i64_w _
              have q3:=eq_true H0.out
              have q3d:=decide_eq_true H0.out
              have HL:=Aside0.mk GD.out.2.2.1
              have HS:=Aside0.mk GD.out.2.2.2
              go_wp2_with fail
              have TSD:=Aside0.mk (TS.out.step (below_drew1 (Below.refl _ _)))
              have BXD:=Aside0.mk (blk_drew BX.out)
              have c0:=(blk_cell BXD.out 0).trans rfl
              have c1:=(blk_cell BXD.out 1).trans rfl
              go_region_law (first
                | (refine Kd.R_append_step k69 (w0:=wc.drew) (w.heap.size + 1) (by rfl) (.tmp 130) (.tmp 140) 64 69 (.agg #[(.int .u8 0),(.string ⟨#[]⟩),(.int .i64 0),(.int .i64 0)]) 40 rfl Tryz.underlying64 RefA.info69 rfl (by decide) (by decide) (.slice A xs.length cap) xs ⟨kd,s.extract p.toNat (wrap64 (p + m)).toNat,⟨x0,x1⟩⟩ [.int .u8 kd,.string (s.extract p.toNat (wrap64 (p + m)).toNat),.int .i64 x0,.int .i64 x1] (fun _=>True) (fun k=>True ∧ some k ≠ ((.slice A xs.length cap) : Value).ownBlock) rfl rfl (k69_mkM _ _ _ ⟨kd,s.extract p.toNat (wrap64 (p + m)).toNat,⟨x0,x1⟩⟩) (fun k hk=>⟨trivial,hk.2⟩) (fun _ _=>trivial) TSD.out.row (Below.refl _ _) (by have:=TS.out.below.size;rw [size_alloc] at this;exact this) (by have:=HL.out;omega) ?_
                   intro v1 w9 ho hb hg hat
                   obtain ⟨A1,cap1,rfl⟩:=Kd.R_slice ho
                   have TS9:=Aside0.mk (TSD.out.add hb ho)
                   clear ho hb hg hat))
              all_goals
                go_wp2_with fail
                go_roundg g'
                case measure=>omega
                case rel=>exact ⟨_,_,A1,cap1,by rw [List.length_append];rfl,by first | rfl | (simp only [i64_w];rfl),TS9,HS⟩
        · obtain ⟨x0,x1,hw,hl,hr⟩:=l0_end HS.out hp
          have HE:=Aside0.mk (And.intro hw (And.intro hl hr))
          have e1:=eq_false hp
          have e2:=decide_eq_false hp
          clear hw hl hr hp
          go_wp2_with fail
          go_meet
          case rel=>exact ⟨_,_,_,_,TS,HE⟩
    case rest =>
    clear TS HS
    obtain ⟨xs,x0,x1,k1,TS,HE⟩:=hcut
    obtain ⟨hw,hl,hr⟩:=HE.out
    subst hr
    have HW:=Aside0.mk hw
    have HL:=Aside0.mk hl
    clear hw hl HE
    obtain ⟨A,cap,hA⟩:=Kd.R_slice TS.out.row
    subst hA
    have g3 : ((xs.length + 1) * 40 ≤ 140737488355328) = True:=eq_true (by have:=HL.out;omega)
    go_wp2_with (first
      | (go_at_call 81;refine (joustref01_Where.calls k1 s (s.size : Int) x0 x1 _ (HG.out.below TS.out.all) HW.out).mono ?_;rintro e w1 ⟨rfl,hb⟩;have TS:=Aside0.mk (TS.out.step hb);clear hb)
      | ((with_reducible refine gate_dst (N:=152) rfl ?_);refine Kd.R_append k69 (w0:=w1) (w.heap.size + 1) rfl (.tmp 145) (.tmp 151) 64 69 (.agg #[(.int .u8 0),(.string ⟨#[]⟩),(.int .i64 0),(.int .i64 0)]) 40 rfl Tryz.underlying64 RefA.info69 rfl (by decide) (by decide) (.slice A xs.length cap) xs ⟨0,⟨#[]⟩,⟨x0,x1⟩⟩ [.int .u8 0,.string ⟨#[]⟩,.int .i64 x0,.int .i64 x1] (fun _=>True) (fun k=>True ∧ some k ≠ (Value.slice A xs.length cap).ownBlock) rfl rfl (k69_mkM _ _ _ ⟨0,⟨#[]⟩,⟨x0,x1⟩⟩) (fun k hk=>⟨trivial,hk.2⟩) (fun _ _=>trivial) TS.out.row (Below.refl _ _) (by have:=TS.out.below.size;rw [size_alloc] at this;exact this) (by have:=HL.out;omega) ?_
         intro v1 w9 ho hb hg hat
         have TS:=Aside0.mk (TS.out.add hb ho)
         clear ho hb hg hat)
      | ((with_reducible refine gate_store (t:=28) (p:=3) rfl ?_);refine store_row rfl rfl rfl w.heap.size _ rfl rfl TS.out.res (by kernel_rfl) rfl (by kernel_rfl) ?_;intro w9 hf hg;have HF9:=Aside0.mk hf;have HG9:=Aside0.mk hg;clear hf hg))
    have hrow:=Kd.R_lower (R_keepG TS.out.row HG9.out (Nat.lt_succ_self _)) (Nat.le_succ _)
    refine bodyPost_ret (results_tc rfl _ _ w.heap.size 28 _ (0,0) _ rfl HF9.out Tryz.underlying28 rfl (by kernel_rfl)) rfl ?_
    exact ⟨_,rfl,hrow,pw_below_grown TS.out.all (some w.heap.size) TS.out.all.size HG9.out (fun k e=>by cases e;exact Nat.le_refl _)⟩
end Go.Proofs.YtmgdkkkkanjadaaGreatDoor.RefT
