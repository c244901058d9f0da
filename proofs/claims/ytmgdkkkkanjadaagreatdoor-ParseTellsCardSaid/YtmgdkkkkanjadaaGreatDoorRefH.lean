/-
  joustref02's reader: a card. Conditions: none.
-/
import Derived.Test.YtmgdkkkkanjadaaGreatDoorRefG
import Derived.Test.YtmgdkkkkanjadaaGreatDoorHandK
namespace Go.Proofs.YtmgdkkkkanjadaaGreatDoor.RefA
set_option linter.unusedVariables false
set_option linter.unusedSimpArgs false
open Go.RowKit Go.Shelf Go.Lib Go.Proofs.YtmgdkkkkanjadaaGreatDoorW.PrintWords Go.Proofs.YtmgdkkkkanjadaaGreatDoorW.PrintLast Go.Proofs.YtmgdkkkkanjadaaGreatDoorW.PrintMore Go.Proofs.YtmgdkkkkanjadaaGreatDoor.X Go.Proofs.YtmgdkkkkanjadaaGreatDoor.HandS Go.Proofs.YtmgdkkkkanjadaaGreatDoor.HandA Go.Proofs.YtmgdkkkkanjadaaGreatDoor.HandB Go.Proofs.YtmgdkkkkanjadaaGreatDoor.HandC Go.Proofs.YtmgdkkkkanjadaaGreatDoor.HandF Go.Proofs.YtmgdkkkkanjadaaGreatDoor.HandG Go.Proofs.YtmgdkkkkanjadaaGreatDoor.HandH Go.Proofs.YtmgdkkkkanjadaaGreatDoor.HandI Go.Proofs.YtmgdkkkkanjadaaGreatDoor.HandJ Go.Proofs.YtmgdkkkkanjadaaGreatDoor.HandK
abbrev cLeft : ByteArray:=⟨#[123]⟩
abbrev cRight : ByteArray:=⟨#[125]⟩
abbrev E38 (e : S38) (v5 : Value) : Array Value:=#[.string e.f0,.int .u8 e.f1,.int .i64 e.f2,.int .i64 e.f3,.int .i64 e.f4,v5]
abbrev E5 (e : S38) (xs : List S43) : S38:=⟨e.f0,e.f1,e.f2,e.f3,e.f4,xs⟩
def cL1 (T : List S69) (e : S38) : (Bool × List S43) × St → S38 × St
  | ((true,xs),st)=>(E5 e xs,st)
  | ((false,xs),st)=>(E5 e xs,takeQ T cRight st)
def effL (T : List S69) (m : Nat) (xs : List S43) (st : St) : (Bool × List S43) × St:=loopQ (fun st=>anyF T st wModes) (effectQ T) T m xs st
def cL (T : List S69) (e : S38) (st : St) : S38 × St:=cL1 T e (effL T 4 [] st)
def cB (T : List S69) (e : S38) (st : St) : S38 × St:=cL T e (takeQ T cLeft st)
def cU4 (T : List S69) (e : S38) : Int × St → S38 × St:=fun p=>cB T ⟨e.f0,e.f1,e.f2,e.f3,p.1,e.f5⟩ p.2
def cU3 (T : List S69) (e : S38) : Int × St → S38 × St:=fun p=>cU4 T ⟨e.f0,e.f1,e.f2,p.1,e.f4,e.f5⟩ (numQ T p.2)
def cU2 (T : List S69) (e : S38) : Int × St → S38 × St:=fun p=>cU3 T ⟨e.f0,e.f1,p.1,e.f3,e.f4,e.f5⟩ (numQ T p.2)
def cU (T : List S69) (e : S38) (st : St) : S38 × St:=if e.f1 = 0 then cU2 T e (numQ T st) else cB T e st
def cN2 (T : List S69) (e : S38) : ByteArray × St → S38 × St:=fun p=>cU T ⟨p.1,e.f1,e.f2,e.f3,e.f4,e.f5⟩ p.2
def cN (T : List S69) (e : S38) (st : St) : S38 × St:=cN2 T e (nameQ T st)
def cM (T : List S69) : Int × St → S38 × St:=fun p=>cN T ⟨⟨#[]⟩,p.1,0,0,0,[]⟩ p.2
def cardQ (T : List S69) (st : St) : S38 × St:=cM T (oneQ T wKinds st)
section
variable {x : Cx} {w wr w1 w8 w9 : World} {t : Nat} {st st1 : St} {e : S38} {v5 v1 : Value}
structure Ec (x : Cx) (w wr : World) (t : Nat) (e : S38) (v5 : Value) (st : St) : Prop where
  tw : Tw x w wr 38 Z38 t (E38 e v5) st
  l5 : k43.R 43 wr (t + 1) (fun _=>True) v5 e.f5
theorem Ec.call (h : Ec x w wr t e v5 st) (hq : Qd x w1 st1) (hg : wr.grownBy w1 (some x.r)) : Ec x w w1 t e v5 st1 :=
  ⟨h.tw.call hq hg,R_keepG h.l5 hg (by have:=h.tw.rl;have:=h.tw.wt;omega)⟩
theorem Ec.below (h : Ec x w wr t e v5 st) (hb : Below wr.heap.size wr w1) : Ec x w w1 t e v5 st:=h.call (h.tw.qd.below_ hb) (grown_of_below hb _)
theorem Ec.drew (h : Ec x w wr t e v5 st) : Ec x w wr.drew t e v5 st:=h.below (below_drew1 (Below.refl _ _))
theorem Ec.put (h : Ec x w wr t e v5 st) (i : Nat) (v : Value) (e' : S38) (he : (E38 e v5).setIfInBounds i v = E38 e' v5) (h5 : e'.f5 = e.f5) : Ec x w (wr.setCell ⟨t, i, none⟩ v) t e' v5 st :=
  ⟨h.tw.set i v _ he,by rw [h5];exact R_keepG h.l5 (grown_set _ _ _ _) (Nat.lt_succ_self _)⟩
theorem Ec.add {ys : List S43} (h : Ec x w w8 t e v5 st) (hb : Below (t + 1) w8 w9) (hR : k43.R 43 w9 (t + 1) (fun _=>True) v1 ys) : Ec x w (w9.setCell ⟨t,5,none⟩ v1) t (E5 e ys) v1 st :=
  ⟨(h.tw.under (Nat.lt_succ_self t) hb).set 5 v1 _ rfl,R_keepG hR (grown_set _ _ _ _) (Nat.lt_succ_self t)⟩
theorem Ec.fin (h : Ec x w wr t e v5 st) (hg : wr.grownBy w1 (some w.heap.size)) : rItem k38 w.heap.size e (.agg (E38 e v5)) w1:=by
  have h1:=h.tw.wt
  exact ⟨_,rfl,k38_mkM _ _ _ e (Kd.R_lower (R_keepG h.l5 hg (by omega)) (by omega))⟩
end
set_option maxHeartbeats 16000000 in
set_option maxRecDepth 100000 in
theorem cardE (x : Cx) (w : World) (st : St) (h : Qd x w st) : Calls Tryz.prog 23 #[.pointer (some ⟨x.r,0,none⟩)] w (QP x w (rItem k38 w.heap.size) (cardQ x.T) st):=by
  have HQ:=Aside0.mk (h.below_ (below_alloc (Below.refl _ _) (.cells Z38 38)))
  have HG:=Aside0.mk (World.grownBy_alloc w (.cells Z38 38) (some x.r))
  have HF:=Aside0.mk (blk_new w (.cells Z38 38))
  have HRL:=Aside0.mk h.rlt
  have HBL:=Aside0.mk h.Blt
  have HWL:=Aside0.mk (Nat.le_of_lt (Nat.lt_of_le_of_lt h.hr h.rlt))
  have hu38:=Tryz.underlying38
  clear h
  obtain ⟨r,hr⟩ : ∃ r,cardQ x.T st = r:=⟨_,rfl⟩
  have HR:=Aside0.mk hr
  have HR0:=Aside0.mk hr
  clear hr
  go_enter Tryz.func23,Tryz.ntmps23
  go_upto_region 2 with (first
    | (go_at_call 21;refine (kindsC _).mono ?_;rintro e1 w1 ⟨kb,rfl,hwd,hkb,hb⟩;have HKR:=Aside0.mk (show kb ≠ x.r from Nat.ne_of_gt (Nat.lt_of_lt_of_le HQ.out.rlt hkb));have HQ:=Aside0.mk (HQ.out.below_ hb);have HG:=Aside0.mk (HG.out.trans (grown_of_below hb _));have HF:=Aside0.mk (blk_below HF.out hb);have HWD:=Aside0.mk hwd;clear hwd hkb hb)
    | (go_at_call 50;refine (oneE x _ _ HQ.out wKinds kb 5 HWD.out HKR.out (by decide)).mono ?_;rintro e1 w2 ⟨op,st1,v,h1,rfl,rfl,hq,hg⟩;have HR:=Aside0.mk ((congrArg (cM x.T) h1).symm.trans HR.out);have HQ:=Aside0.mk hq;have HF:=Aside0.mk (own_grown HF.out hg (Nat.ne_of_gt HRL.out));have HG:=Aside0.mk (HG.out.trans hg);clear h1 hq hg))
  have lp0 : Ec x w (w2.alloc (.cells #[.string ⟨#[]⟩,.int .u8 op,.int .i64 0,.int .i64 0,.int .i64 0,.slice none 0 0] 38)) w2.heap.size ⟨⟨#[]⟩,op,0,0,0,[]⟩ (.slice none 0 0) st1 :=
    ⟨⟨HQ.out.below_ (below_alloc (Below.refl _ _) _),HG.out.trans (World.grownBy_alloc _ _ _),blk_alloc HF.out _,blk_new _ _,blk_lt HF.out,HRL.out,HBL.out,HWL.out⟩,Kd.R_nil _ _ _ _ _⟩
  generalize w2.alloc (.cells #[.string ⟨#[]⟩,.int .u8 op,.int .i64 0,.int .i64 0,.int .i64 0,.slice none 0 0] 38) = wr at lp0 ⊢
  generalize w2.heap.size = t at lp0 ⊢
  have LP:=Aside0.mk lp0
  have HR:=Aside0.mk (show cN x.T ⟨⟨#[]⟩,op,0,0,0,[]⟩ st1 = r from HR.out)
  have H3:=Aside0.mk (show (⟨⟨#[]⟩,op,0,0,0,[]⟩ : S38).f5 = [] from rfl)
  generalize (⟨⟨#[]⟩,op,0,0,0,[]⟩ : S38) = e at LP HR H3
  clear lp0 HQ HF HG HWD HKR
  go_upto_region 3 with (go_at_call 51;refine (nameE x _ _ LP.out.tw.qd).mono ?_;rintro e1 w3 ⟨nm,st2,v,h1,rfl,rfl,hq,hg⟩;have HR:=Aside0.mk ((congrArg (cN2 x.T e) h1).symm.trans HR.out);have hE:=LP.out.call hq hg;have d0:=hE.tw.cell 0;have f0:=hE.tw.fr 0;have hp:=hE.put 0 (.string nm) ⟨nm,e.f1,e.f2,e.f3,e.f4,e.f5⟩ rfl rfl;have b1:=hp.tw.cell 1;have LP:=Aside0.mk hp;clear hE hp h1 hq hg)
  have HR:=Aside0.mk (show cU x.T ⟨nm,e.f1,e.f2,e.f3,e.f4,e.f5⟩ st2 = r from HR.out)
  go_upto_if 13 with fail
  go_cut [] from 4 (fun wc=>∃ (e : S38) (v5 : Value) (st1 : St),Aside0 (Ec x w wc t e v5 st1) ∧ Aside0 (cB x.T e st1 = r) ∧ Aside0 (v5 = .slice none 0 0 ∧ e.f5 = []))
  case first =>
    by_cases h0 : e.f1 = 0
    · have n0 : (e.f1 == 0) = true:=beq_iff_eq.2 h0
      have HR:=Aside0.mk (show cU2 x.T ⟨nm,e.f1,e.f2,e.f3,e.f4,e.f5⟩ (numQ x.T st2) = r by have h:=HR.out;unfold cU at h;rw [if_pos h0] at h;exact h)
      clear h0
      go_wp2_with (first
        | (go_at_call 52;refine (numE x _ _ LP.out.tw.qd LP.out.tw.qd.size).mono ?_;rintro e1 w6 ⟨n3,st5,v,h1,rfl,rfl,hq,hg⟩;have HR:=Aside0.mk ((congrArg (cU4 x.T ⟨nm,e.f1,n1,n2,e.f4,e.f5⟩) h1).symm.trans HR.out);have hE:=LP.out.call hq hg;have d4:=hE.tw.cell 4;have f4:=hE.tw.fr 4;have LP:=Aside0.mk (hE.put 4 (.int .i64 n3) ⟨nm,e.f1,n1,n2,n3,e.f5⟩ rfl rfl);clear hE h1 hq hg)
        | (go_at_call 52;refine (numE x _ _ LP.out.tw.qd LP.out.tw.qd.size).mono ?_;rintro e1 w5 ⟨n2,st4,v,h1,rfl,rfl,hq,hg⟩;have HR:=Aside0.mk ((congrArg (cU3 x.T ⟨nm,e.f1,n1,e.f3,e.f4,e.f5⟩) h1).symm.trans HR.out);have hE:=LP.out.call hq hg;have d3:=hE.tw.cell 3;have f3:=hE.tw.fr 3;have LP:=Aside0.mk (hE.put 3 (.int .i64 n2) ⟨nm,e.f1,n1,n2,e.f4,e.f5⟩ rfl rfl);clear hE h1 hq hg)
        | (go_at_call 52;refine (numE x _ _ LP.out.tw.qd LP.out.tw.qd.size).mono ?_;rintro e1 w4 ⟨n1,st3,v,h1,rfl,rfl,hq,hg⟩;have HR:=Aside0.mk ((congrArg (cU2 x.T ⟨nm,e.f1,e.f2,e.f3,e.f4,e.f5⟩) h1).symm.trans HR.out);have hE:=LP.out.call hq hg;have d2:=hE.tw.cell 2;have f2:=hE.tw.fr 2;have LP:=Aside0.mk (hE.put 2 (.int .i64 n1) ⟨nm,e.f1,n1,e.f3,e.f4,e.f5⟩ rfl rfl);clear hE h1 hq hg))
      go_meet
      case rel=>exact ⟨_,_,_,LP,HR,⟨rfl,H3.out⟩⟩
    · have n0 : (e.f1 == 0) = false:=beq_eq_false_iff_ne.2 h0
      have HR:=Aside0.mk (show cB x.T ⟨nm,e.f1,e.f2,e.f3,e.f4,e.f5⟩ st2 = r by have h:=HR.out;unfold cU at h;rw [if_neg h0] at h;exact h)
      clear h0
      go_wp2_with fail
      go_meet
      case rel=>exact ⟨_,_,_,LP,HR,⟨rfl,H3.out⟩⟩
  case rest =>
  clear LP HR H3
  obtain ⟨e,v5,st1,LP,HR,HV⟩:=hcut
  obtain ⟨rfl,h3⟩:=HV.out
  clear HV
  have HR:=Aside0.mk (show cL x.T e (takeQ x.T cLeft st1) = r from HR.out)
  go_upto_block 0 with (go_at_call 53;refine (takeR_ x _ _ LP.out.tw.qd cLeft).mono ?_;rintro e1 w2 ⟨rfl,hq,hg⟩;have LP:=Aside0.mk (LP.out.call hq hg);clear hq hg)
  generalize takeQ x.T cLeft st1 = st1 at HR LP
  have HR:=Aside0.mk (show cL1 x.T e (effL x.T 4 e.f5 st1) = r by rw [h3];exact HR.out)
  have HN0:=Aside0.mk (show e.f5.length = 0 by rw [h3];rfl)
  clear h3
  go_cut [] from 4 (fun wc=>∃ (e : S38) (v5 : Value) (st1 : St),Aside0 (Ec x w wc t e v5 st1) ∧ Aside0 ((e,takeQ x.T cRight st1) = r))
  case first =>
    go_wp2_with fail
    go_loopg [] 4 (fun g wr=>∃ (m n : Nat) (e : S38) (st1 : St) (A : Option Addr) (c : Nat),n + m = 4 ∧ m ≤ g ∧ Aside0 (e.f5.length = n) ∧ Aside0 (Ec x w wr t e (.slice A n c) st1) ∧ Aside0 (cL1 x.T e (effL x.T m e.f5 st1) = r))
    case atStart=>exact ⟨4,0,e,st1,none,0,rfl,Nat.le_refl _,HN0,LP,HR⟩
    case round =>
      clear LP HR HN0
      obtain ⟨m,n,e,st1,A,c,h1,h2,HN,LP,HR⟩:=hrel
      rcases hb : anyF x.T st1 wModes with _ | _
      · have HR:=Aside0.mk ((congrArg (cL1 x.T e) (loopQ_end (bg:=fun st=>anyF x.T st wModes) hb)).symm.trans HR.out)
        have HB:=Aside0.mk hb
        clear hb
        go_wp2_with (first
            | (go_at_call 54;refine (modesC _).mono ?_;rintro e1 w1 ⟨kb,rfl,hwd,hkb,hb⟩;have HKR:=Aside0.mk (show kb ≠ x.r from Nat.ne_of_gt (Nat.lt_of_lt_of_le LP.out.tw.qd.rlt hkb));have LP:=Aside0.mk (LP.out.below hb);have HWD:=Aside0.mk hwd;clear hwd hkb hb)
            | (go_at_call 20;refine (amongR_ x _ _ LP.out.tw.qd wModes kb 7 HWD.out HKR.out (by decide)).mono ?_;rintro e1 wt ⟨rfl,hq,hb⟩;rw [HB.out];have lp:=LP.out.below hb;have LP:=Aside0.mk lp;have b5:=(lp.tw.cell 5).trans rfl;clear lp hq hb))
        go_meet
        case rel=>exact ⟨_,_,_,LP,HR⟩
      · have HB:=Aside0.mk hb
        clear hb
        cases m with
        | zero =>
          obtain rfl : n = 4:=h1
          have HR:=Aside0.mk ((congrArg (cL1 x.T e) (loopQ_stop (bg:=fun st=>anyF x.T st wModes) HB.out)).symm.trans HR.out)
          go_wp2_with (first
            | (go_at_call 54;refine (modesC _).mono ?_;rintro e1 w1 ⟨kb,rfl,hwd,hkb,hb⟩;have HKR:=Aside0.mk (show kb ≠ x.r from Nat.ne_of_gt (Nat.lt_of_lt_of_le LP.out.tw.qd.rlt hkb));have LP:=Aside0.mk (LP.out.below hb);have HWD:=Aside0.mk hwd;clear hwd hkb hb)
            | (go_at_call 20;refine (amongR_ x _ _ LP.out.tw.qd wModes kb 7 HWD.out HKR.out (by decide)).mono ?_;rintro e1 wt ⟨rfl,hq,hb⟩;rw [HB.out];have lp:=LP.out.below hb;have LP:=Aside0.mk lp;have b5:=(lp.tw.cell 5).trans rfl;clear lp hq hb)
            | (go_at_call 22;refine (fails_ x _ _ LP.out.tw.qd 3 (by decide)).mono ?_;rintro e1 w5 ⟨rfl,hq,hg⟩;have lp:=LP.out.call hq hg;have LP:=Aside0.mk lp;have a0:=lp.tw.cell 0;have a1:=lp.tw.cell 1;have a2:=lp.tw.cell 2;have a3:=lp.tw.cell 3;have a4:=lp.tw.cell 4;have a5:=lp.tw.cell 5;clear lp hq hg)
            | ((with_reducible refine gate_store (t:=38) (p:=2) rfl ?_);refine store_row rfl rfl rfl w.heap.size _ rfl rfl LP.out.tw.res (by kernel_rfl) rfl (by kernel_rfl) ?_;intro w9 hf hg;have HF9:=Aside0.mk hf;have HG9:=Aside0.mk hg;clear hf hg))
          refine bodyPost_ret (results_cell_row rfl _ _ w.heap.size 38 _ (0,0) _ rfl HF9.out Tryz.underlying38 rfl (by kernel_rfl)) rfl ?_
          have hz:=LP.out.tw.fin HG9.out
          exact ⟨_,_,_,HR0.out.trans HR.out.symm,rfl,LP.out.fin HG9.out,hz.1,hz.2⟩
        | succ m =>
          have hge : ((4 : Int) ≤ (n : Int)) = False:=eq_false (by omega)
          have hge2 : decide ((4 : Int) ≤ (n : Int)) = false:=decide_eq_false (by omega)
          have hge3 : (4 ≤ n) = False:=eq_false (by omega)
          have hge4 : decide (4 ≤ n) = false:=decide_eq_false (by omega)
          have HNL:=Aside0.mk (show e.f5.length < 4 by rw [HN.out];omega)
          obtain ⟨g,rfl⟩ : ∃ g,gk = g + 1:=⟨gk - 1,by omega⟩
          go_wp2_with (first
            | (go_at_call 54;refine (modesC _).mono ?_;rintro e1 w1 ⟨kb,rfl,hwd,hkb,hb⟩;have HKR:=Aside0.mk (show kb ≠ x.r from Nat.ne_of_gt (Nat.lt_of_lt_of_le LP.out.tw.qd.rlt hkb));have LP:=Aside0.mk (LP.out.below hb);have HWD:=Aside0.mk hwd;clear hwd hkb hb)
            | (go_at_call 20;refine (amongR_ x _ _ LP.out.tw.qd wModes kb 7 HWD.out HKR.out (by decide)).mono ?_;rintro e1 wt ⟨rfl,hq,hb⟩;rw [HB.out];have lp:=LP.out.below hb;have LP:=Aside0.mk lp;have b5:=(lp.tw.cell 5).trans rfl;clear lp hq hb))
          clear b5
          have b5 : wt.cell? ⟨t,5,none⟩ = some (.slice A n c):=(LP.out.tw.cell 5).trans rfl
          go_region_law (first
            | (refine goesP_ Tryz.func55 (by kernel_rfl) rfl #[.pointer (some ⟨x.r,0,none⟩)] (by rfl) rfl rfl (by (try simp only [List.map_toArray,List.map_cons,List.map_nil]);first | done | rfl) ?_
               refine (effectE x _ _ LP.out.drew.tw.qd).mono ?_
               rintro e1 w8 ⟨a,st8,v,h1,rfl,⟨cs,rfl,hM⟩,hq,hg⟩
               obtain ⟨v3,v11,rfl,hR3,hR11⟩:=k43_openM hM
               have H8:=Aside0.mk h1
               have lp8:=LP.out.drew.call hq hg
               have LP8:=Aside0.mk lp8
               have HMM:=Aside0.mk hM
               have d6 : w8.cell? ⟨t,5,none⟩ = some (.slice A n c):=(lp8.tw.cell 5).trans rfl
               have d7 : (w8.alloc (.cells #[.int .u8 a.f0,.int .u8 a.f1,.int .u8 a.f2,v3,.int .i64 a.f4,.int .i64 a.f5,.bool a.f6,.int .i64 a.f7,.int .u8 a.f8.f0,.int .u8 a.f8.f1,.int .u8 a.f8.f2,v11] 43)).cell? ⟨t,5,none⟩ = some (.slice A n c):=(blk_cell (blk_alloc lp8.tw.own _) 5).trans rfl
               clear h1 hM hq hg lp8)
            | (refine Kd.R_append_step k43 (w0:=w8) (t + 1) (by rfl) (.tmp 36) (.tmp 39) 36 43 (.agg Z43) 96 rfl Tryz.underlying36 info43 rfl (by decide) (by decide) (.slice A n c) e.f5 a [.int .u8 a.f0,.int .u8 a.f1,.int .u8 a.f2,v3,.int .i64 a.f4,.int .i64 a.f5,.bool a.f6,.int .i64 a.f7,.int .u8 a.f8.f0,.int .u8 a.f8.f1,.int .u8 a.f8.f2,v11] (fun _=>True) (fun k=>True ∧ some k ≠ ((.slice A n c) : Value).ownBlock) rfl rfl ?aM (fun k hk=>⟨trivial,hk.2⟩) (fun _ _=>trivial) LP8.out.l5 (Below.refl _ _) (blk_lt LP8.out.tw.own) ?aL ?_
               case aM =>
                 obtain ⟨inner,ho⟩:=Kd.R_own LP.out.l5
                 exact k43.M_lower (blk_lt LP.out.tw.own) (Kd.M_new (W:=wt.drew) HMM.out ho)
               case aL=>have:=HNL.out;omega
               intro v1 w9 ho hb hg hat
               obtain ⟨A1,c1,rfl⟩:=Kd.R_slice ho
               rw [show (e.f5 ++ [a]).length = n + 1 from by rw [List.length_append,HN.out];rfl] at ho ⊢
               have lp9:=LP8.out.add hb ho
               have LP9:=Aside0.mk lp9
               have e0 : w9.cell? ⟨t,5,none⟩ = some (.slice A n c):=by
                 rw [hb.cell (p:=⟨t,5,none⟩) (Nat.lt_succ_self t)]
                 exact (LP8.out.tw.cell 5).trans rfl
               have e1 : w9.frozen? ⟨t,5,none⟩ = false:=by
                 have hh : w9.heap[t]? = _:=(hb.block t (Nat.lt_succ_self t)).trans LP8.out.tw.own
                 exact blk_frozen hh 5
               clear lp9 ho hb hg hat))
          all_goals
            go_wp2_with fail
            go_roundg g
            case measure=>omega
            case rel=>exact ⟨m,n + 1,E5 e (e.f5 ++ [a]),st8,A1,c1,by omega,by omega,⟨by rw [List.length_append,HN.out];rfl⟩,LP9,⟨(congrArg (cL1 x.T e) (loopQ_go (bg:=fun st=>anyF x.T st wModes) HB.out H8.out)).symm.trans HR.out⟩⟩
  case rest =>
  clear LP HR HN0
  obtain ⟨e,v5,st1,LP,HR⟩:=hcut
  obtain ⟨A,c,rfl⟩:=Kd.R_slice LP.out.l5
  go_wp2_with (first
    | (go_at_call 53;refine (takeR_ x _ _ LP.out.tw.qd cRight).mono ?_;rintro e1 w2 ⟨rfl,hq,hg⟩;have lp:=LP.out.call hq hg;have LP:=Aside0.mk lp;have a0:=lp.tw.cell 0;have a1:=lp.tw.cell 1;have a2:=lp.tw.cell 2;have a3:=lp.tw.cell 3;have a4:=lp.tw.cell 4;have a5:=lp.tw.cell 5;clear lp hq hg)
    | ((with_reducible refine gate_store (t:=38) (p:=2) rfl ?_);refine store_row rfl rfl rfl w.heap.size _ rfl rfl LP.out.tw.res (by kernel_rfl) rfl (by kernel_rfl) ?_;intro w9 hf hg;have HF9:=Aside0.mk hf;have HG9:=Aside0.mk hg;clear hf hg))
  refine bodyPost_ret (results_cell_row rfl _ _ w.heap.size 38 _ (0,0) _ rfl HF9.out Tryz.underlying38 rfl (by kernel_rfl)) rfl ?_
  have hz:=LP.out.tw.fin HG9.out
  exact ⟨_,_,_,HR0.out.trans HR.out.symm,rfl,LP.out.fin HG9.out,hz.1,hz.2⟩
end Go.Proofs.YtmgdkkkkanjadaaGreatDoor.RefA
