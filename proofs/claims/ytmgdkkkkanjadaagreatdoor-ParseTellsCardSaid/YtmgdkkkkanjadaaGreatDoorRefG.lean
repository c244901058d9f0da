/-
  joustref02's reader: an effect. Conditions: none.
-/
import Derived.Test.YtmgdkkkkanjadaaGreatDoorRefF
import Derived.Test.YtmgdkkkkanjadaaGreatDoorHandJ
import Derived.Deep.CutBlock
namespace Go.Proofs.YtmgdkkkkanjadaaGreatDoor.RefA
set_option linter.unusedVariables false
set_option linter.unusedSimpArgs false
open Go.RowKit Go.Shelf Go.Lib Go.Proofs.YtmgdkkkkanjadaaGreatDoorW.PrintWords Go.Proofs.YtmgdkkkkanjadaaGreatDoorW.PrintLast Go.Proofs.YtmgdkkkkanjadaaGreatDoorW.PrintMore Go.Proofs.YtmgdkkkkanjadaaGreatDoor.X Go.Proofs.YtmgdkkkkanjadaaGreatDoor.HandS Go.Proofs.YtmgdkkkkanjadaaGreatDoor.HandA Go.Proofs.YtmgdkkkkanjadaaGreatDoor.HandB Go.Proofs.YtmgdkkkkanjadaaGreatDoor.HandC Go.Proofs.YtmgdkkkkanjadaaGreatDoor.HandF Go.Proofs.YtmgdkkkkanjadaaGreatDoor.HandG Go.Proofs.YtmgdkkkkanjadaaGreatDoor.HandH Go.Proofs.YtmgdkkkkanjadaaGreatDoor.HandI
/-- rows of what is read, as long as they begin: (one too many?, the row), where it stands -/
def loopQ {α : Type} (bg : St → Bool) (rd : St → α × St) (T : List S69) : Nat → List α → St → (Bool × List α) × St
  | 0,xs,st=>if bg st = true then ((true,xs),failQ T 3 st) else ((false,xs),st)
  | m + 1,xs,st=>if bg st = true then loopQ bg rd T m (xs ++ [(rd st).1]) (rd st).2 else ((false,xs),st)
section
variable {α : Type} {bg : St → Bool} {rd : St → α × St} {T : List S69} {m : Nat} {xs : List α} {st : St}
theorem loopQ_end (hb : bg st = false) : loopQ bg rd T m xs st = ((false,xs),st):=by
  cases m <;> rw [loopQ,if_neg (by rw [hb];decide)]
theorem loopQ_stop (hb : bg st = true) : loopQ bg rd T 0 xs st = ((true,xs),failQ T 3 st):=by rw [loopQ,if_pos hb]
theorem loopQ_go {a : α} {st1 : St} (hb : bg st = true) (h : rd st = (a,st1)) : loopQ bg rd T (m + 1) xs st = loopQ bg rd T m (xs ++ [a]) st1:=by rw [loopQ,if_pos hb,h]
end
def qS1 (e : S43) : (Bool × List S52) × St → S43 × St:=fun p=>(⟨e.f0,e.f1,e.f2,e.f3,e.f4,e.f5,e.f6,e.f7,e.f8,p.1.2⟩,p.2)
def qS (T : List S69) (e : S43) (st : St) : S43 × St:=qS1 e (loopQ (fun st=>anyF T st wSteps) (stepQ T) T 6 [] st)
def qC (T : List S69) (e : S43) (st : St) : S43 × St:=qS T e (takeQ T sColon st)
def qK3 (T : List S69) (e : S43) (n : Int) : S40 × St → S43 × St:=fun p=>qC T ⟨e.f0,e.f1,e.f2,e.f3,e.f4,e.f5,e.f6,n,p.1,e.f9⟩ p.2
def qK2 (T : List S69) (e : S43) : Int × St → S43 × St:=fun p=>qK3 T e p.1 (selQ T p.2)
def qK1 (T : List S69) (e : S43) : Bool × St → S43 × St
  | (true,st)=>qK2 T e (numQ T st)
  | (false,st)=>qC T e st
def qK (T : List S69) (e : S43) (st : St) : S43 × St:=qK1 T e (mayQ T sPicks st)
def qT1 (T : List S69) (e : S43) : Bool × St → S43 × St:=fun p=>qK T ⟨e.f0,e.f1,e.f2,e.f3,e.f4,e.f5,p.1,e.f7,e.f8,e.f9⟩ p.2
def qT (T : List S69) (e : S43) (st : St) : S43 × St:=qT1 T e (mayQ T sSpends st)
def qD2 (T : List S69) (e : S43) : Int × St → S43 × St:=fun p=>qT T ⟨e.f0,e.f1,e.f2,e.f3,e.f4,p.1,e.f6,e.f7,e.f8,e.f9⟩ p.2
def qD1 (T : List S69) (e : S43) : Bool × St → S43 × St
  | (true,st)=>qD2 T e (numQ T st)
  | (false,st)=>qT T e st
def qD (T : List S69) (e : S43) (st : St) : S43 × St:=qD1 T e (mayQ T sDrops st)
def qP2 (T : List S69) (e : S43) : Int × St → S43 × St:=fun p=>qD T ⟨e.f0,e.f1,e.f2,e.f3,p.1,e.f5,e.f6,e.f7,e.f8,e.f9⟩ p.2
def qP1 (T : List S69) (e : S43) : Bool × St → S43 × St
  | (true,st)=>qP2 T e (numQ T st)
  | (false,st)=>qD T e st
def qP (T : List S69) (e : S43) (st : St) : S43 × St:=qP1 T e (mayQ T sPays st)
abbrev E3 (e : S43) (xs : List S50) : S43:=⟨e.f0,e.f1,e.f2,xs,e.f4,e.f5,e.f6,e.f7,e.f8,e.f9⟩
abbrev E9 (e : S43) (xs : List S52) : S43:=⟨e.f0,e.f1,e.f2,e.f3,e.f4,e.f5,e.f6,e.f7,e.f8,xs⟩
def qN1 (T : List S69) (e : S43) : (Bool × List S50) × St → S43 × St
  | ((true,xs),st)=>(E3 e xs,st)
  | ((false,xs),st)=>qP T (E3 e xs) st
def needQ (T : List S69) (st : St) : S50 × St:=exprQ T 6 (takeQ T sNeeds st)
def needL (T : List S69) (m : Nat) (xs : List S50) (st : St) : (Bool × List S50) × St:=loopQ (fun st=>isQ T sNeeds st) (needQ T) T m xs st
def qN (T : List S69) (e : S43) (st : St) : S43 × St:=qN1 T e (needL T 6 [] st)
def qU3 (T : List S69) (e : S43) (ev : Int) : Int × St → S43 × St:=fun p=>qN T ⟨e.f0,(ev + 1) % 256,p.1,e.f3,e.f4,e.f5,e.f6,e.f7,e.f8,e.f9⟩ p.2
def qU2 (T : List S69) (e : S43) : Int × St → S43 × St:=fun p=>qU3 T e p.1 (oneQ T wSides p.2)
def qU1 (T : List S69) (e : S43) : Bool × St → S43 × St
  | (true,st)=>qU2 T e (oneQ T wEvents st)
  | (false,st)=>qN T e st
def qU (T : List S69) (e : S43) (st : St) : S43 × St:=qU1 T e (mayQ T sUpon st)
def qM (T : List S69) : Int × St → S43 × St:=fun p=>qU T (ef0 p.1) p.2
def effectQ (T : List S69) (st : St) : S43 × St:=qM T (oneQ T wModes st)
section
variable {x : Cx} {w wr w1 w8 w9 : World} {ty : TypeId} {res cells : Array Value} {t s : Nat} {st st1 : St} {e : S43} {v3 v11 v1 : Value}
theorem Tw.under (h : Tw x w w8 ty res t cells st) {s : Nat} (hs : t < s) (hb : Below s w8 w9) : Tw x w w9 ty res t cells st:=by
  have h1:=h.rl
  have h2:=h.wt
  have h3:=h.Bl
  have h4:=h.Wl
  exact ⟨h.qd.under hb (by omega) (by omega) (by omega),grown_under h.gr hb (by omega),by rw [hb.block _ (by omega)];exact h.res,by rw [hb.block t hs];exact h.own,h2,h1,h3,h4⟩
structure Er (x : Cx) (w wr : World) (t : Nat) (e : S43) (v3 : Value) (st : St) : Prop where
  tw : Tw x w wr 43 Z43 t (E43 e v3 (.slice none 0 0)) st
  l3 : k50.R 50 wr (t + 1) (fun _=>True) v3 e.f3
  h9 : e.f9 = []
theorem Er.call (h : Er x w wr t e v3 st) (hq : Qd x w1 st1) (hg : wr.grownBy w1 (some x.r)) : Er x w w1 t e v3 st1 :=
  ⟨h.tw.call hq hg,R_keepG h.l3 hg (by have:=h.tw.rl;have:=h.tw.wt;omega),h.h9⟩
theorem Er.below (h : Er x w wr t e v3 st) (hb : Below wr.heap.size wr w1) : Er x w w1 t e v3 st:=h.call (h.tw.qd.below_ hb) (grown_of_below hb _)
theorem Er.drew (h : Er x w wr t e v3 st) : Er x w wr.drew t e v3 st:=h.below (below_drew1 (Below.refl _ _))
/-- a cell of the row beside the lists -/
theorem Er.put (h : Er x w wr t e v3 st) (i : Nat) (v : Value) (e' : S43) (he : (E43 e v3 (.slice none 0 0)).setIfInBounds i v = E43 e' v3 (.slice none 0 0)) (h3 : e'.f3 = e.f3) (h9 : e'.f9 = e.f9) : Er x w (wr.setCell ⟨t, i, none⟩ v) t e' v3 st :=
  ⟨h.tw.set i v _ he,by rw [h3];exact R_keepG h.l3 (grown_set _ _ _ _) (Nat.lt_succ_self _),by rw [h9];exact h.h9⟩
theorem Er.add {ys : List S50} (h : Er x w w8 t e v3 st) (hb : Below (t + 1) w8 w9) (hR : k50.R 50 w9 (t + 1) (fun _=>True) v1 ys) : Er x w (w9.setCell ⟨t,3,none⟩ v1) t (E3 e ys) v1 st :=
  ⟨(h.tw.under (Nat.lt_succ_self t) hb).set 3 v1 _ rfl,R_keepG hR (grown_set _ _ _ _) (Nat.lt_succ_self t),h.h9⟩
structure Es (x : Cx) (w wr : World) (t s : Nat) (e : S43) (v3 v11 : Value) (st : St) : Prop where
  tw : Tw x w wr 43 Z43 t (E43 e v3 v11) st
  l3 : k50.R 50 wr (t + 1) (fun k=>k < s) v3 e.f3
  sw : s ≤ wr.heap.size
  ts : t < s
  l11 : k52.R 52 wr s (fun _=>True) v11 e.f9
theorem Er.es (h : Er x w wr t e v3 st) : Es x w wr t wr.heap.size e v3 (.slice none 0 0) st :=
  ⟨h.tw,Kd.R_mono (Kd.R_bound h.l3) (fun k hk=>hk.2.2.1),Nat.le_refl _,blk_lt h.tw.own,by rw [h.h9];exact Kd.R_nil _ _ _ _ _⟩
theorem Es.call (h : Es x w wr t s e v3 v11 st) (hq : Qd x w1 st1) (hg : wr.grownBy w1 (some x.r)) : Es x w w1 t s e v3 v11 st1:=by
  have h1:=h.tw.rl
  have h2:=h.tw.wt
  have h3:=h.ts
  exact ⟨h.tw.call hq hg,Kd.R_mono (Kd.R_grown (Kd.R_bound h.l3) hg (fun k hk e=>by have:=hk.2.1;have:=Option.some.inj e;omega)) (fun k hk=>hk.1),Nat.le_trans h.sw hg.size,h.ts,R_keepG h.l11 hg (by omega)⟩
theorem Es.below (h : Es x w wr t s e v3 v11 st) (hb : Below wr.heap.size wr w1) : Es x w w1 t s e v3 v11 st:=h.call (h.tw.qd.below_ hb) (grown_of_below hb _)
theorem Es.drew (h : Es x w wr t s e v3 v11 st) : Es x w wr.drew t s e v3 v11 st:=h.below (below_drew1 (Below.refl _ _))
theorem Es.add {ys : List S52} (h : Es x w w8 t s e v3 v11 st) (hb : Below s w8 w9) (hR : k52.R 52 w9 s (fun _=>True) v1 ys) : Es x w (w9.setCell ⟨t,11,none⟩ v1) t s (E9 e ys) v3 v1 st :=
  ⟨(h.tw.under h.ts hb).set 11 v1 _ rfl,Kd.R_mono (Kd.R_far (Kd.R_bound (Kd.R_step h.l3 (fun k hk _=>hb.block k hk))) (p:=⟨t,11,none⟩) (fun k hk e=>by have:=hk.2.1;have e2 : k = t:=e;omega) v1) (fun k hk=>hk.1),
   Nat.le_trans h.sw (Nat.le_trans hb.size (grown_set w9 t 11 v1).size),h.ts,R_keepG hR (grown_set _ _ _ _) h.ts⟩
theorem Es.fin (h : Es x w wr t s e v3 v11 st) (hg : wr.grownBy w1 (some w.heap.size)) : rItem k43 w.heap.size e (.agg (E43 e v3 v11)) w1:=by
  have h1:=h.tw.wt
  have h2:=h.ts
  exact ⟨_,rfl,k43_mkM _ _ _ e (Kd.R_lower (Kd.R_mono (Kd.R_grown (Kd.R_bound h.l3) hg (fun k hk e=>by have:=hk.2.1;have:=Option.some.inj e;omega)) (fun _ _=>trivial)) (by omega)) (Kd.R_lower (R_keepG h.l11 hg (by omega)) (by omega))⟩
end
set_option maxHeartbeats 16000000 in
set_option maxRecDepth 100000 in
theorem effectE (x : Cx) (w : World) (st : St) (h : Qd x w st) : Calls Tryz.prog 55 #[.pointer (some ⟨x.r,0,none⟩)] w (QP x w (rItem k43 w.heap.size) (effectQ x.T) st):=by
  have HQ:=Aside0.mk (h.below_ (below_alloc (Below.refl _ _) (.cells Z43 43)))
  have HG:=Aside0.mk (World.grownBy_alloc w (.cells Z43 43) (some x.r))
  have HF:=Aside0.mk (blk_new w (.cells Z43 43))
  have HRL:=Aside0.mk h.rlt
  have HBL:=Aside0.mk h.Blt
  have HWL:=Aside0.mk (Nat.le_of_lt (Nat.lt_of_le_of_lt h.hr h.rlt))
  have hu43:=Tryz.underlying43
  have hu40:=Tryz.underlying40
  clear h
  obtain ⟨r,hr⟩ : ∃ r,effectQ x.T st = r:=⟨_,rfl⟩
  have HR:=Aside0.mk hr
  have HR0:=Aside0.mk hr
  clear hr
  go_enter Tryz.func55,Tryz.ntmps55
  go_upto_region 2 with (first
    | (go_at_call 54;refine (modesC _).mono ?_;rintro e1 w1 ⟨kb,rfl,hwd,hkb,hb⟩;have HKR:=Aside0.mk (show kb ≠ x.r from Nat.ne_of_gt (Nat.lt_of_lt_of_le HQ.out.rlt hkb));have HQ:=Aside0.mk (HQ.out.below_ hb);have HG:=Aside0.mk (HG.out.trans (grown_of_below hb _));have HF:=Aside0.mk (blk_below HF.out hb);have HWD:=Aside0.mk hwd;clear hwd hkb hb)
    | (go_at_call 50;refine (oneE x _ _ HQ.out wModes kb 7 HWD.out HKR.out (by decide)).mono ?_;rintro e1 w2 ⟨op,st1,v,h1,rfl,rfl,hq,hg⟩;have HR:=Aside0.mk ((congrArg (qM x.T) h1).symm.trans HR.out);have HQ:=Aside0.mk hq;have HF:=Aside0.mk (own_grown HF.out hg (Nat.ne_of_gt HRL.out));have HG:=Aside0.mk (HG.out.trans hg);clear h1 hq hg))
  have lp0 : Er x w (w2.alloc (.cells #[.int .u8 op,.int .u8 0,.int .u8 0,.slice none 0 0,.int .i64 0,.int .i64 0,.bool false,.int .i64 0,.int .u8 0,.int .u8 0,.int .u8 0,.slice none 0 0] 43)) w2.heap.size (ef0 op) (.slice none 0 0) st1 :=
    ⟨⟨HQ.out.below_ (below_alloc (Below.refl _ _) _),HG.out.trans (World.grownBy_alloc _ _ _),blk_alloc HF.out _,blk_new _ _,blk_lt HF.out,HRL.out,HBL.out,HWL.out⟩,Kd.R_nil _ _ _ _ _,rfl⟩
  generalize w2.alloc (.cells #[.int .u8 op,.int .u8 0,.int .u8 0,.slice none 0 0,.int .i64 0,.int .i64 0,.bool false,.int .i64 0,.int .u8 0,.int .u8 0,.int .u8 0,.slice none 0 0] 43) = wr at lp0 ⊢
  generalize w2.heap.size = t at lp0 ⊢
  have LP:=Aside0.mk lp0
  have HR:=Aside0.mk (show qU x.T (ef0 op) st1 = r from HR.out)
  have H3:=Aside0.mk (show (ef0 op).f3 = [] from rfl)
  generalize ef0 op = e at LP HR H3
  clear lp0 HQ HF HG HWD HKR
  go_upto_if 9 with (go_at_call 61;refine (mayE x _ _ LP.out.tw.qd sUpon).mono ?_;rintro e1 w2 ⟨b,st2,v,h1,rfl,rfl,hq,hg⟩;have HR:=Aside0.mk ((congrArg (qU1 x.T e) h1).symm.trans HR.out);have LP:=Aside0.mk (LP.out.call hq hg);clear h1 hq hg)
  go_cut [] from 4 (fun wc=>∃ (e : S43) (v3 : Value) (st1 : St),Aside0 (Er x w wc t e v3 st1) ∧ Aside0 (qN x.T e st1 = r) ∧ Aside0 (v3 = .slice none 0 0 ∧ e.f3 = []))
  case first =>
    cases b
    · go_wp2_with fail
      go_meet
      case rel=>exact ⟨_,_,_,LP,HR,⟨rfl,H3.out⟩⟩
    · go_wp2_with (first
        | (go_at_call 89;refine (eventsC _).mono ?_;rintro e1 w1 ⟨kb,rfl,hwd,hkb,hb⟩;have HKRkb:=Aside0.mk (show kb ≠ x.r from Nat.ne_of_gt (Nat.lt_of_lt_of_le LP.out.tw.qd.rlt hkb));have LP:=Aside0.mk (LP.out.below hb);have HWDkb:=Aside0.mk hwd;clear hwd hkb hb)
        | (go_at_call 62;refine (sidesC _).mono ?_;rintro e1 w1 ⟨kb2,rfl,hwd,hkb,hb⟩;have HKRkb2:=Aside0.mk (show kb2 ≠ x.r from Nat.ne_of_gt (Nat.lt_of_lt_of_le LP.out.tw.qd.rlt hkb));have LP:=Aside0.mk (LP.out.below hb);have HWDkb2:=Aside0.mk hwd;clear hwd hkb hb)
        | (go_at_call 50;refine (oneE x _ _ LP.out.tw.qd wSides kb2 4 HWDkb2.out HKRkb2.out (by decide)).mono ?_;rintro e1 w6 ⟨sd,st4,v,h1,rfl,rfl,hq,hg⟩;have HR:=Aside0.mk ((congrArg (qU3 x.T e ev) h1).symm.trans HR.out);have hE:=LP.out.call hq hg;have d2:=hE.tw.cell 2;have f2:=hE.tw.fr 2;have LP:=Aside0.mk (hE.put 2 (.int .u8 sd) ⟨e.f0,(ev + 1) % 256,sd,e.f3,e.f4,e.f5,e.f6,e.f7,e.f8,e.f9⟩ rfl rfl rfl);clear hE h1 hq hg)
        | (go_at_call 50;refine (oneE x _ _ LP.out.tw.qd wEvents kb 8 HWDkb.out HKRkb.out (by decide)).mono ?_;rintro e1 w4 ⟨ev,st3,v,h1,rfl,rfl,hq,hg⟩;have HR:=Aside0.mk ((congrArg (qU2 x.T e) h1).symm.trans HR.out);have hE:=LP.out.call hq hg;have d1:=hE.tw.cell 1;have f1:=hE.tw.fr 1;have LP:=Aside0.mk (hE.put 1 (.int .u8 ((ev + 1) % 256)) ⟨e.f0,(ev + 1) % 256,e.f2,e.f3,e.f4,e.f5,e.f6,e.f7,e.f8,e.f9⟩ rfl rfl rfl);clear hE h1 hq hg))
      go_meet
      case rel=>exact ⟨_,_,_,LP,HR,⟨rfl,H3.out⟩⟩
  case rest =>
  clear LP HR
  obtain ⟨e,v3,st1,LP,HR,HV⟩:=hcut
  obtain ⟨rfl,h3⟩:=HV.out
  clear HV H3
  have HR:=Aside0.mk (show qN1 x.T e (needL x.T 6 e.f3 st1) = r by rw [h3];exact HR.out)
  have HN0:=Aside0.mk (show e.f3.length = 0 by rw [h3];rfl)
  clear h3
  go_upto_block 0 with fail
  go_cut [] from 4 (fun wc=>∃ (e : S43) (v3 : Value) (st1 : St),Aside0 (Er x w wc t e v3 st1) ∧ Aside0 (qP x.T e st1 = r))
  case first =>
    go_wp2_with fail
    go_loopg [] 6 (fun g wr=>∃ (m n : Nat) (e : S43) (st1 : St) (A : Option Addr) (c : Nat),n + m = 6 ∧ m ≤ g ∧ Aside0 (e.f3.length = n) ∧ Aside0 (Er x w wr t e (.slice A n c) st1) ∧ Aside0 (qN1 x.T e (needL x.T m e.f3 st1) = r))
    case atStart=>exact ⟨6,0,e,st1,none,0,rfl,Nat.le_refl _,HN0,LP,HR⟩
    case round =>
      clear LP HR HN0
      obtain ⟨m,n,e,st1,A,c,h1,h2,HN,LP,HR⟩:=hrel
      have HIS:=isR_ x _ st1 LP.out.tw.qd sNeeds
      rcases hb : isQ x.T sNeeds st1 with _ | _
      · have HR:=Aside0.mk ((congrArg (qN1 x.T e) (loopQ_end hb)).symm.trans HR.out)
        rw [hb] at HIS
        have HIS:=Aside0.mk HIS
        clear hb
        go_wp2_with (go_at_call 49;refine HIS.out.mono ?_;rintro e1 w3 ⟨rfl,hq,hb⟩;have lp:=LP.out.below hb;have LP:=Aside0.mk lp;have b3:=(lp.tw.cell 3).trans rfl;clear lp hq hb)
        go_meet
        case rel=>exact ⟨_,_,_,LP,HR⟩
      · rw [hb] at HIS
        have HIS:=Aside0.mk HIS
        have HB:=Aside0.mk hb
        clear hb
        cases m with
        | zero =>
          obtain rfl : n = 6:=h1
          have HR:=Aside0.mk ((congrArg (qN1 x.T e) (loopQ_stop HB.out)).symm.trans HR.out)
          go_wp2_with (first
            | (go_at_call 49;refine HIS.out.mono ?_;rintro e1 w3 ⟨rfl,hq,hb⟩;have lp:=LP.out.below hb;have LP:=Aside0.mk lp;have b3:=(lp.tw.cell 3).trans rfl;clear lp hq hb)
            | (go_at_call 22;refine (fails_ x _ _ LP.out.tw.qd 3 (by decide)).mono ?_;rintro e1 w5 ⟨rfl,hq,hg⟩;have lp:=LP.out.call hq hg;have LP:=Aside0.mk lp;have a0:=lp.tw.cell 0;have a1:=lp.tw.cell 1;have a2:=lp.tw.cell 2;have a3:=lp.tw.cell 3;have a4:=lp.tw.cell 4;have a5:=lp.tw.cell 5;have a6:=lp.tw.cell 6;have a7:=lp.tw.cell 7;have a8:=lp.tw.cell 8;have a9:=lp.tw.cell 9;have a10:=lp.tw.cell 10;have a11:=lp.tw.cell 11;clear lp hq hg)
            | ((with_reducible refine gate_store (t:=43) (p:=2) rfl ?_);refine store_row rfl rfl rfl w.heap.size _ rfl rfl LP.out.tw.res (by kernel_rfl) rfl (by kernel_rfl) ?_;intro w9 hf hg;have HF9:=Aside0.mk hf;have HG9:=Aside0.mk hg;clear hf hg))
          refine bodyPost_ret (results_cell_row rfl _ _ w.heap.size 43 _ (0,0) _ rfl HF9.out Tryz.underlying43 rfl (by kernel_rfl)) rfl ?_
          have hz:=LP.out.tw.fin HG9.out
          exact ⟨_,_,_,HR0.out.trans HR.out.symm,rfl,LP.out.es.fin HG9.out,hz.1,hz.2⟩
        | succ m =>
          have hge : ((6 : Int) ≤ (n : Int)) = False:=eq_false (by omega)
          have hge2 : decide ((6 : Int) ≤ (n : Int)) = false:=decide_eq_false (by omega)
          have hge3 : (6 ≤ n) = False:=eq_false (by omega)
          have hge4 : decide (6 ≤ n) = false:=decide_eq_false (by omega)
          have HNL:=Aside0.mk (show e.f3.length < 6 by rw [HN.out];omega)
          obtain ⟨g,rfl⟩ : ∃ g,gk = g + 1:=⟨gk - 1,by omega⟩
          go_wp2_with (first
            | (go_at_call 49;refine HIS.out.mono ?_;rintro e1 w3 ⟨rfl,hq,hb⟩;have lp:=LP.out.below hb;have LP:=Aside0.mk lp;have b3:=(lp.tw.cell 3).trans rfl;clear lp hq hb)
            | (go_at_call 53;refine (takeR_ x _ _ LP.out.tw.qd sNeeds).mono ?_;rintro e1 wt ⟨rfl,hq,hg⟩;have LP:=Aside0.mk (LP.out.call hq hg);clear hq hg))
          clear b3
          have b3 : wt.cell? ⟨t,3,none⟩ = some (.slice A n c):=(LP.out.tw.cell 3).trans rfl
          go_region_law (first
            | (refine goesP_ Tryz.func28 (by kernel_rfl) rfl #[.pointer (some ⟨x.r,0,none⟩),.int .i64 0] (by rfl) rfl rfl (by (try simp only [List.map_toArray,List.map_cons,List.map_nil]);first | done | rfl) ?_
               refine (exprE x _ _ LP.out.drew.tw.qd).mono ?_
               rintro e1 w8 ⟨a,st8,v,h1,rfl,⟨cs,rfl,hM⟩,hq,hg⟩
               obtain ⟨v6,rfl,hR6⟩:=k50_openM hM
               have H8:=Aside0.mk h1
               have lp8:=LP.out.drew.call hq hg
               have LP8:=Aside0.mk lp8
               have HMM:=Aside0.mk hM
               have d6 : w8.cell? ⟨t,3,none⟩ = some (.slice A n c):=(lp8.tw.cell 3).trans rfl
               have d7 : (w8.alloc (.cells #[.int .u8 a.f0,.int .i64 a.f1,.int .u8 a.f2,.int .u8 a.f3.f0,.int .u8 a.f3.f1,.int .u8 a.f3.f2,v6] 50)).cell? ⟨t,3,none⟩ = some (.slice A n c):=(blk_cell (blk_alloc lp8.tw.own _) 3).trans rfl
               clear h1 hM hq hg lp8)
            | (refine Kd.R_append_step k50 (w0:=w8) (t + 1) (by rfl) (.tmp 31) (.tmp 34) 31 50 (.agg Z50) 48 rfl Tryz.underlying31 info50 rfl (by decide) (by decide) (.slice A n c) e.f3 a [.int .u8 a.f0,.int .i64 a.f1,.int .u8 a.f2,.int .u8 a.f3.f0,.int .u8 a.f3.f1,.int .u8 a.f3.f2,v6] (fun _=>True) (fun k=>True ∧ some k ≠ ((.slice A n c) : Value).ownBlock) rfl rfl ?aM (fun k hk=>⟨trivial,hk.2⟩) (fun _ _=>trivial) LP8.out.l3 (Below.refl _ _) (blk_lt LP8.out.tw.own) ?aL ?_
               case aM =>
                 obtain ⟨inner,ho⟩:=Kd.R_own LP.out.l3
                 exact k50.M_lower (blk_lt LP.out.tw.own) (Kd.M_new (W:=wt.drew) HMM.out ho)
               case aL=>have:=HNL.out;omega
               intro v1 w9 ho hb hg hat
               obtain ⟨A1,c1,rfl⟩:=Kd.R_slice ho
               rw [show (e.f3 ++ [a]).length = n + 1 from by rw [List.length_append,HN.out];rfl] at ho ⊢
               have lp9:=LP8.out.add hb ho
               have LP9:=Aside0.mk lp9
               have e0 : w9.cell? ⟨t,3,none⟩ = some (.slice A n c):=by
                 rw [hb.cell (p:=⟨t,3,none⟩) (Nat.lt_succ_self t)]
                 exact (LP8.out.tw.cell 3).trans rfl
               have e1 : w9.frozen? ⟨t,3,none⟩ = false:=by
                 have hh : w9.heap[t]? = _:=(hb.block t (Nat.lt_succ_self t)).trans LP8.out.tw.own
                 exact blk_frozen hh 3
               clear lp9 ho hb hg hat))
          all_goals
            go_wp2_with fail
            go_roundg g
            case measure=>omega
            case rel=>exact ⟨m,n + 1,E3 e (e.f3 ++ [a]),st8,A1,c1,by omega,by omega,⟨by rw [List.length_append,HN.out];rfl⟩,LP9,⟨(congrArg (qN1 x.T e) (loopQ_go HB.out H8.out)).symm.trans HR.out⟩⟩
  case rest =>
  clear LP HR HN0
  obtain ⟨e,v3,st1,LP,HR⟩:=hcut
  go_upto_if 38 with (go_at_call 61;refine (mayE x _ _ LP.out.tw.qd sPays).mono ?_;rintro e1 w2 ⟨b,st2,v,h1,rfl,rfl,hq,hg⟩;have HR:=Aside0.mk ((congrArg (qP1 x.T e) h1).symm.trans HR.out);have LP:=Aside0.mk (LP.out.call hq hg);clear h1 hq hg)
  go_cut [] from 4 (fun wc=>∃ (e : S43) (v3 : Value) (st1 : St),Aside0 (Er x w wc t e v3 st1) ∧ Aside0 (qD x.T e st1 = r))
  case first =>
    cases b
    · go_wp2_with fail
      go_meet
      case rel=>exact ⟨_,_,_,LP,HR⟩
    · go_wp2_with (go_at_call 52;refine (numE x _ _ LP.out.tw.qd LP.out.tw.qd.size).mono ?_;rintro e1 w3 ⟨n,st3,v,h1,rfl,rfl,hq,hg⟩;have HR:=Aside0.mk ((congrArg (qP2 x.T e) h1).symm.trans HR.out);have hE:=LP.out.call hq hg;have d0:=hE.tw.cell 4;have f0:=hE.tw.fr 4;have LP:=Aside0.mk (hE.put 4 (.int .i64 n) ⟨e.f0,e.f1,e.f2,e.f3,n,e.f5,e.f6,e.f7,e.f8,e.f9⟩ rfl rfl rfl);clear hE h1 hq hg)
      go_meet
      case rel=>exact ⟨_,_,_,LP,HR⟩
  case rest =>
  clear LP HR
  obtain ⟨e,v3,st1,LP,HR⟩:=hcut
  go_upto_if 43 with (go_at_call 61;refine (mayE x _ _ LP.out.tw.qd sDrops).mono ?_;rintro e1 w2 ⟨b,st2,v,h1,rfl,rfl,hq,hg⟩;have HR:=Aside0.mk ((congrArg (qD1 x.T e) h1).symm.trans HR.out);have LP:=Aside0.mk (LP.out.call hq hg);clear h1 hq hg)
  go_cut [] from 4 (fun wc=>∃ (e : S43) (v3 : Value) (st1 : St),Aside0 (Er x w wc t e v3 st1) ∧ Aside0 (qT x.T e st1 = r))
  case first =>
    cases b
    · go_wp2_with fail
      go_meet
      case rel=>exact ⟨_,_,_,LP,HR⟩
    · go_wp2_with (go_at_call 52;refine (numE x _ _ LP.out.tw.qd LP.out.tw.qd.size).mono ?_;rintro e1 w3 ⟨n,st3,v,h1,rfl,rfl,hq,hg⟩;have HR:=Aside0.mk ((congrArg (qD2 x.T e) h1).symm.trans HR.out);have hE:=LP.out.call hq hg;have d0:=hE.tw.cell 5;have f0:=hE.tw.fr 5;have LP:=Aside0.mk (hE.put 5 (.int .i64 n) ⟨e.f0,e.f1,e.f2,e.f3,e.f4,n,e.f6,e.f7,e.f8,e.f9⟩ rfl rfl rfl);clear hE h1 hq hg)
      go_meet
      case rel=>exact ⟨_,_,_,LP,HR⟩
  case rest =>
  clear LP HR
  obtain ⟨e,v3,st1,LP,HR⟩:=hcut
  go_upto_region 16 with (go_at_call 61;refine (mayE x _ _ LP.out.tw.qd sSpends).mono ?_;rintro e1 w2 ⟨b,st2,v,h1,rfl,rfl,hq,hg⟩;have HR:=Aside0.mk ((congrArg (qT1 x.T e) h1).symm.trans HR.out);have hE:=LP.out.call hq hg;have d6:=hE.tw.cell 6;have f6:=hE.tw.fr 6;have LP:=Aside0.mk (hE.put 6 (.bool b) ⟨e.f0,e.f1,e.f2,e.f3,e.f4,e.f5,b,e.f7,e.f8,e.f9⟩ rfl rfl rfl);clear hE h1 hq hg)
  have HR:=Aside0.mk (show qK x.T ⟨e.f0,e.f1,e.f2,e.f3,e.f4,e.f5,b,e.f7,e.f8,e.f9⟩ st2 = r from HR.out)
  have hcut : ∃ (e : S43) (v3 : Value) (st1 : St),Aside0 (Er x w _ t e v3 st1) ∧ Aside0 (qK x.T e st1 = r):=⟨_,_,_,LP,HR⟩
  clear LP HR
  obtain ⟨e,v3,st1,LP,HR⟩:=hcut
  go_upto_if 51 with (go_at_call 61;refine (mayE x _ _ LP.out.tw.qd sPicks).mono ?_;rintro e1 w2 ⟨b,st2,v,h1,rfl,rfl,hq,hg⟩;have HR:=Aside0.mk ((congrArg (qK1 x.T e) h1).symm.trans HR.out);have LP:=Aside0.mk (LP.out.call hq hg);clear h1 hq hg)
  go_cut [] from 4 (fun wc=>∃ (e : S43) (v3 : Value) (st1 : St),Aside0 (Er x w wc t e v3 st1) ∧ Aside0 (qC x.T e st1 = r))
  case first =>
    cases b
    · go_wp2_with fail
      go_meet
      case rel=>exact ⟨_,_,_,LP,HR⟩
    · go_wp2_with (first
        | (go_at_call 52;refine (numE x _ _ LP.out.tw.qd LP.out.tw.qd.size).mono ?_;rintro e1 w3 ⟨n,st3,v,h1,rfl,rfl,hq,hg⟩;have HR:=Aside0.mk ((congrArg (qK2 x.T e) h1).symm.trans HR.out);have hE:=LP.out.call hq hg;have d0:=hE.tw.cell 7;have f0:=hE.tw.fr 7;have LP:=Aside0.mk (hE.put 7 (.int .i64 n) ⟨e.f0,e.f1,e.f2,e.f3,e.f4,e.f5,e.f6,n,e.f8,e.f9⟩ rfl rfl rfl);clear hE h1 hq hg)
        | (go_at_call 63;refine (selE x _ _ LP.out.tw.qd).mono ?_;rintro e1 w4 ⟨sl,st4,v,h1,rfl,rfl,hq,hg⟩;have HR:=Aside0.mk ((congrArg (qK3 x.T e n) h1).symm.trans HR.out);have hE:=LP.out.call hq hg;have g8:=hE.tw.cell 8;have g9:=hE.tw.cell 9;have g10:=hE.tw.cell 10;have k8:=hE.tw.fr 8;have k9:=hE.tw.fr 9;have k10:=hE.tw.fr 10;have h8:=hE.put 8 (.int .u8 sl.f0) ⟨e.f0,e.f1,e.f2,e.f3,e.f4,e.f5,e.f6,n,⟨sl.f0,e.f8.f1,e.f8.f2⟩,e.f9⟩ rfl rfl rfl;have h9:=h8.put 9 (.int .u8 sl.f1) ⟨e.f0,e.f1,e.f2,e.f3,e.f4,e.f5,e.f6,n,⟨sl.f0,sl.f1,e.f8.f2⟩,e.f9⟩ rfl rfl rfl;have LP:=Aside0.mk (h9.put 10 (.int .u8 sl.f2) ⟨e.f0,e.f1,e.f2,e.f3,e.f4,e.f5,e.f6,n,sl,e.f9⟩ rfl rfl rfl);clear hE h8 h9 h1 hq hg))
      go_meet
      case rel=>exact ⟨_,_,_,LP,HR⟩
  case rest =>
  clear LP HR
  obtain ⟨e,v3,st1,LP,HR⟩:=hcut
  have HR:=Aside0.mk (show qS x.T e (takeQ x.T sColon st1) = r from HR.out)
  go_upto_block 2 with (go_at_call 53;refine (takeR_ x _ _ LP.out.tw.qd sColon).mono ?_;rintro e1 w2 ⟨rfl,hq,hg⟩;have LP:=Aside0.mk (LP.out.call hq hg);clear hq hg)
  generalize takeQ x.T sColon st1 = st1 at HR LP
  obtain ⟨s,hs⟩ : ∃ s,Es x w w2 t s e v3 (.slice none 0 0) st1:=⟨_,LP.out.es⟩
  obtain ⟨A3,n3,c3,rfl⟩ : ∃ A n c,v3 = .slice A n c:=by
    obtain ⟨A,c,h⟩:=Kd.R_slice LP.out.l3
    exact ⟨_,_,_,h⟩
  have HR:=Aside0.mk (show qS1 e (loopQ (fun st=>anyF x.T st wSteps) (stepQ x.T) x.T 6 e.f9 st1) = r by rw [LP.out.h9];exact HR.out)
  have HN0:=Aside0.mk (show e.f9.length = 0 by rw [LP.out.h9];rfl)
  clear LP
  have LP:=Aside0.mk hs
  clear hs
  go_cut [] from 4 (fun wc=>∃ (e : S43) (v11 : Value) (st1 : St),Aside0 (Es x w wc t s e (.slice A3 n3 c3) v11 st1) ∧ Aside0 ((e,st1) = r))
  case first =>
    go_wp2_with fail
    go_loopg [] 6 (fun g wr=>∃ (m n : Nat) (e : S43) (st1 : St) (A : Option Addr) (c : Nat),n + m = 6 ∧ m ≤ g ∧ Aside0 (e.f9.length = n) ∧ Aside0 (Es x w wr t s e (.slice A3 n3 c3) (.slice A n c) st1) ∧ Aside0 (qS1 e (loopQ (fun st=>anyF x.T st wSteps) (stepQ x.T) x.T m e.f9 st1) = r))
    case atStart=>exact ⟨6,0,e,st1,none,0,rfl,Nat.le_refl _,HN0,LP,HR⟩
    case round =>
      clear LP HR HN0
      obtain ⟨m,n,e,st1,A,c,h1,h2,HN,LP,HR⟩:=hrel
      rcases hb : anyF x.T st1 wSteps with _ | _
      · have HR:=Aside0.mk ((congrArg (qS1 e) (loopQ_end (bg:=fun st=>anyF x.T st wSteps) hb)).symm.trans HR.out)
        have HB:=Aside0.mk hb
        clear hb
        go_wp2_with (first
            | (go_at_call 90;refine (stepsC _).mono ?_;rintro e1 w1 ⟨kb,rfl,hwd,hkb,hb⟩;have HKR:=Aside0.mk (show kb ≠ x.r from Nat.ne_of_gt (Nat.lt_of_lt_of_le LP.out.tw.qd.rlt hkb));have LP:=Aside0.mk (LP.out.below hb);have HWD:=Aside0.mk hwd;clear hwd hkb hb)
            | (go_at_call 20;refine (amongR_ x _ _ LP.out.tw.qd wSteps kb 11 HWD.out HKR.out (by decide)).mono ?_;rintro e1 wt ⟨rfl,hq,hb⟩;rw [HB.out];have lp:=LP.out.below hb;have LP:=Aside0.mk lp;have b11:=(lp.tw.cell 11).trans rfl;clear lp hq hb))
        go_meet
        case rel=>exact ⟨_,_,_,LP,HR⟩
      · have HB:=Aside0.mk hb
        clear hb
        cases m with
        | zero =>
          obtain rfl : n = 6:=h1
          have HR:=Aside0.mk ((congrArg (qS1 e) (loopQ_stop (bg:=fun st=>anyF x.T st wSteps) HB.out)).symm.trans HR.out)
          go_wp2_with (first
            | (go_at_call 90;refine (stepsC _).mono ?_;rintro e1 w1 ⟨kb,rfl,hwd,hkb,hb⟩;have HKR:=Aside0.mk (show kb ≠ x.r from Nat.ne_of_gt (Nat.lt_of_lt_of_le LP.out.tw.qd.rlt hkb));have LP:=Aside0.mk (LP.out.below hb);have HWD:=Aside0.mk hwd;clear hwd hkb hb)
            | (go_at_call 20;refine (amongR_ x _ _ LP.out.tw.qd wSteps kb 11 HWD.out HKR.out (by decide)).mono ?_;rintro e1 wt ⟨rfl,hq,hb⟩;rw [HB.out];have lp:=LP.out.below hb;have LP:=Aside0.mk lp;have b11:=(lp.tw.cell 11).trans rfl;clear lp hq hb)
            | (go_at_call 22;refine (fails_ x _ _ LP.out.tw.qd 3 (by decide)).mono ?_;rintro e1 w5 ⟨rfl,hq,hg⟩;have lp:=LP.out.call hq hg;have LP:=Aside0.mk lp;have a0:=lp.tw.cell 0;have a1:=lp.tw.cell 1;have a2:=lp.tw.cell 2;have a3:=lp.tw.cell 3;have a4:=lp.tw.cell 4;have a5:=lp.tw.cell 5;have a6:=lp.tw.cell 6;have a7:=lp.tw.cell 7;have a8:=lp.tw.cell 8;have a9:=lp.tw.cell 9;have a10:=lp.tw.cell 10;have a11:=lp.tw.cell 11;clear lp hq hg)
            | ((with_reducible refine gate_store (t:=43) (p:=2) rfl ?_);refine store_row rfl rfl rfl w.heap.size _ rfl rfl LP.out.tw.res (by kernel_rfl) rfl (by kernel_rfl) ?_;intro w9 hf hg;have HF9:=Aside0.mk hf;have HG9:=Aside0.mk hg;clear hf hg))
          refine bodyPost_ret (results_cell_row rfl _ _ w.heap.size 43 _ (0,0) _ rfl HF9.out Tryz.underlying43 rfl (by kernel_rfl)) rfl ?_
          have hz:=LP.out.tw.fin HG9.out
          exact ⟨_,_,_,HR0.out.trans HR.out.symm,rfl,LP.out.fin HG9.out,hz.1,hz.2⟩
        | succ m =>
          have hge : ((6 : Int) ≤ (n : Int)) = False:=eq_false (by omega)
          have hge2 : decide ((6 : Int) ≤ (n : Int)) = false:=decide_eq_false (by omega)
          have hge3 : (6 ≤ n) = False:=eq_false (by omega)
          have hge4 : decide (6 ≤ n) = false:=decide_eq_false (by omega)
          have HNL:=Aside0.mk (show e.f9.length < 6 by rw [HN.out];omega)
          obtain ⟨g,rfl⟩ : ∃ g,gk = g + 1:=⟨gk - 1,by omega⟩
          go_wp2_with (first
            | (go_at_call 90;refine (stepsC _).mono ?_;rintro e1 w1 ⟨kb,rfl,hwd,hkb,hb⟩;have HKR:=Aside0.mk (show kb ≠ x.r from Nat.ne_of_gt (Nat.lt_of_lt_of_le LP.out.tw.qd.rlt hkb));have LP:=Aside0.mk (LP.out.below hb);have HWD:=Aside0.mk hwd;clear hwd hkb hb)
            | (go_at_call 20;refine (amongR_ x _ _ LP.out.tw.qd wSteps kb 11 HWD.out HKR.out (by decide)).mono ?_;rintro e1 wt ⟨rfl,hq,hb⟩;rw [HB.out];have lp:=LP.out.below hb;have LP:=Aside0.mk lp;have b11:=(lp.tw.cell 11).trans rfl;clear lp hq hb))
          clear b11
          have b11 : wt.cell? ⟨t,11,none⟩ = some (.slice A n c):=(LP.out.tw.cell 11).trans rfl
          go_region_law (first
            | (refine goesP_ Tryz.func91 (by kernel_rfl) rfl #[.pointer (some ⟨x.r,0,none⟩)] (by rfl) rfl rfl (by (try simp only [List.map_toArray,List.map_cons,List.map_nil]);first | done | rfl) ?_
               refine (stepE x _ _ LP.out.drew.tw.qd).mono ?_
               rintro e1 w8 ⟨a,st8,v,h1,rfl,⟨cs,rfl,hM⟩,hq,hg⟩
               obtain ⟨v8,rfl,hR6⟩:=k52_openM hM
               have H8:=Aside0.mk h1
               have lp8:=LP.out.drew.call hq hg
               have LP8:=Aside0.mk lp8
               have HMM:=Aside0.mk hM
               have d6 : w8.cell? ⟨t,11,none⟩ = some (.slice A n c):=(lp8.tw.cell 11).trans rfl
               have d7 : (w8.alloc (.cells #[.int .u8 a.f0,.int .u8 a.f1,.int .u8 a.f2.f0,.int .i64 a.f2.f1,.int .u8 a.f2.f2,.int .u8 a.f2.f3.f0,.int .u8 a.f2.f3.f1,.int .u8 a.f2.f3.f2,v8,.bool a.f3,.int .u8 a.f4.f0,.int .u8 a.f4.f1,.int .u8 a.f4.f2] 52)).cell? ⟨t,11,none⟩ = some (.slice A n c):=(blk_cell (blk_alloc lp8.tw.own _) 11).trans rfl
               clear h1 hM hq hg lp8)
            | (refine Kd.R_append_step k52 (w0:=w8) (s) (by rfl) (.tmp 71) (.tmp 74) 41 52 (.agg (Z52 0)) 64 rfl Tryz.underlying41 info52 rfl (by decide) (by decide) (.slice A n c) e.f9 a [.int .u8 a.f0,.int .u8 a.f1,.int .u8 a.f2.f0,.int .i64 a.f2.f1,.int .u8 a.f2.f2,.int .u8 a.f2.f3.f0,.int .u8 a.f2.f3.f1,.int .u8 a.f2.f3.f2,v8,.bool a.f3,.int .u8 a.f4.f0,.int .u8 a.f4.f1,.int .u8 a.f4.f2] (fun _=>True) (fun k=>True ∧ some k ≠ ((.slice A n c) : Value).ownBlock) rfl rfl ?aM (fun k hk=>⟨trivial,hk.2⟩) (fun _ _=>trivial) LP8.out.l11 (Below.refl _ _) (LP8.out.sw) ?aL ?_
               case aM =>
                 obtain ⟨inner,ho⟩:=Kd.R_own LP.out.l11
                 exact k52.M_lower (LP.out.sw) (Kd.M_new (W:=wt.drew) HMM.out ho)
               case aL=>have:=HNL.out;omega
               intro v1 w9 ho hb hg hat
               obtain ⟨A1,c1,rfl⟩:=Kd.R_slice ho
               rw [show (e.f9 ++ [a]).length = n + 1 from by rw [List.length_append,HN.out];rfl] at ho ⊢
               have lp9:=LP8.out.add hb ho
               have LP9:=Aside0.mk lp9
               have e0 : w9.cell? ⟨t,11,none⟩ = some (.slice A n c):=by
                 rw [hb.cell (p:=⟨t,11,none⟩) (LP8.out.ts)]
                 exact (LP8.out.tw.cell 11).trans rfl
               have e1 : w9.frozen? ⟨t,11,none⟩ = false:=by
                 have hh : w9.heap[t]? = _:=(hb.block t (LP8.out.ts)).trans LP8.out.tw.own
                 exact blk_frozen hh 11
               clear lp9 ho hb hg hat))
          all_goals
            go_wp2_with fail
            go_roundg g
            case measure=>omega
            case rel=>exact ⟨m,n + 1,E9 e (e.f9 ++ [a]),st8,A1,c1,by omega,by omega,⟨by rw [List.length_append,HN.out];rfl⟩,LP9,⟨(congrArg (qS1 e) (loopQ_go (bg:=fun st=>anyF x.T st wSteps) HB.out H8.out)).symm.trans HR.out⟩⟩
  case rest =>
  clear LP HR HN0
  obtain ⟨e,v11,st1,LP,HR⟩:=hcut
  obtain ⟨A,c,rfl⟩:=Kd.R_slice LP.out.l11
  have a0:=LP.out.tw.cell 0
  have a1:=LP.out.tw.cell 1
  have a2:=LP.out.tw.cell 2
  have a3:=LP.out.tw.cell 3
  have a4:=LP.out.tw.cell 4
  have a5:=LP.out.tw.cell 5
  have a6:=LP.out.tw.cell 6
  have a7:=LP.out.tw.cell 7
  have a8:=LP.out.tw.cell 8
  have a9:=LP.out.tw.cell 9
  have a10:=LP.out.tw.cell 10
  have a11:=LP.out.tw.cell 11
  go_wp2_with ((with_reducible refine gate_store (t:=43) (p:=2) rfl ?_);refine store_row rfl rfl rfl w.heap.size _ rfl rfl LP.out.tw.res (by kernel_rfl) rfl (by kernel_rfl) ?_;intro w9 hf hg;have HF9:=Aside0.mk hf;have HG9:=Aside0.mk hg;clear hf hg)
  refine bodyPost_ret (results_cell_row rfl _ _ w.heap.size 43 _ (0,0) _ rfl HF9.out Tryz.underlying43 rfl (by kernel_rfl)) rfl ?_
  have hz:=LP.out.tw.fin HG9.out
  exact ⟨_,_,_,HR0.out.trans HR.out.symm,rfl,LP.out.fin HG9.out,hz.1,hz.2⟩
end Go.Proofs.YtmgdkkkkanjadaaGreatDoor.RefA
