/-
  joustref02's reader: steps. Conditions: none.
-/
import Derived.Test.YtmgdkkkkanjadaaGreatDoorRefE
namespace Go.Proofs.YtmgdkkkkanjadaaGreatDoor.RefA
set_option linter.unusedVariables false
set_option linter.unusedSimpArgs false
open Go.RowKit Go.Shelf Go.Lib Go.Proofs.YtmgdkkkkanjadaaGreatDoorW.PrintWords Go.Proofs.YtmgdkkkkanjadaaGreatDoorW.PrintLast Go.Proofs.YtmgdkkkkanjadaaGreatDoorW.PrintMore Go.Proofs.YtmgdkkkkanjadaaGreatDoor.X Go.Proofs.YtmgdkkkkanjadaaGreatDoor.HandS Go.Proofs.YtmgdkkkkanjadaaGreatDoor.HandA Go.Proofs.YtmgdkkkkanjadaaGreatDoor.HandB Go.Proofs.YtmgdkkkkanjadaaGreatDoor.HandC Go.Proofs.YtmgdkkkkanjadaaGreatDoor.HandF
section
variable {x : Cx} {w wr w1 : World} {ty : TypeId} {res cells : Array Value} {t : Nat} {st st1 : St}
theorem Tw.setR (h : Tw x w wr ty res t cells st) (i : Nat) (v : Value) (res' : Array Value) (e : res.setIfInBounds i v = res') : Tw x w (wr.setCell ⟨w.heap.size, i, none⟩ v) ty res' t cells st := by
  have h1:=h.rl
  have h2:=h.wt
  have h3:=h.Bl
  have h4:=h.Wl
  exact ⟨h.qd.other (grown_set wr w.heap.size i v) (by omega) (by omega) (by omega),grown_far h.gr (p:=⟨w.heap.size,i,none⟩) (Nat.le_refl _) v,blk_put h.res i v e,blk_far h.own (p:=⟨w.heap.size,i,none⟩) (by show t ≠ w.heap.size;omega) v,h.wt,h.rl,h.Bl,h.Wl⟩
theorem Tw.fin2 (h : Tw x w wr ty res t cells st) (hg : wr.grownBy w1 (some t)) : Qd x w1 st ∧ w.grownBy w1 (some x.r):=by
  have h1:=h.rl
  have h2:=h.wt
  have h3:=h.Bl
  have h4:=h.Wl
  exact ⟨h.qd.other hg (by omega) (by omega) (by omega),grown_other h.gr hg (Nat.le_of_lt h.wt)⟩
theorem Tw.over {cells' : Array Value} (h : Tw x w wr ty res t cells st) (hg : wr.grownBy w1 (some t)) (hf : w1.heap[t]? = some (.cells cells' ty (0, 0))) : Tw x w w1 ty res t cells' st :=
  ⟨(h.fin2 hg).1,(h.fin2 hg).2,own_grown h.res hg (Nat.ne_of_lt h.wt),hf,h.wt,h.rl,h.Bl,h.Wl⟩
theorem Tw.cellR (h : Tw x w wr ty res t cells st) (i : Nat) : wr.cell? ⟨w.heap.size,i,none⟩ = res[i]?:=blk_cell h.res i
theorem Tw.frR (h : Tw x w wr ty res t cells st) (i : Nat) : wr.frozen? ⟨w.heap.size,i,none⟩ = false:=blk_frozen h.res i
theorem Tw.put50 {op a : Int} {fl : Bool} {s : S40} (h : Tw x w wr 52 res t (D52 op a z50 (.slice none 0 0) fl s) st) (e : S50) (v : Value) :
    Tw x w (((((((wr.setCell ⟨t,2,none⟩ (.int .u8 e.f0)).setCell ⟨t,3,none⟩ (.int .i64 e.f1)).setCell ⟨t,4,none⟩ (.int .u8 e.f2)).setCell ⟨t,5,none⟩ (.int .u8 e.f3.f0)).setCell ⟨t,6,none⟩ (.int .u8 e.f3.f1)).setCell ⟨t,7,none⟩ (.int .u8 e.f3.f2)).setCell ⟨t,8,none⟩ v) 52 res t (D52 op a e v fl s) st:=by
  have q0:=h.set 2 (.int .u8 e.f0) #[.int .u8 op,.int .u8 a,.int .u8 e.f0,.int .i64 0,.int .u8 0,.int .u8 0,.int .u8 0,.int .u8 0,.slice none 0 0,.bool fl,.int .u8 s.f0,.int .u8 s.f1,.int .u8 s.f2] rfl
  have q1:=q0.set 3 (.int .i64 e.f1) #[.int .u8 op,.int .u8 a,.int .u8 e.f0,.int .i64 e.f1,.int .u8 0,.int .u8 0,.int .u8 0,.int .u8 0,.slice none 0 0,.bool fl,.int .u8 s.f0,.int .u8 s.f1,.int .u8 s.f2] rfl
  have q2:=q1.set 4 (.int .u8 e.f2) #[.int .u8 op,.int .u8 a,.int .u8 e.f0,.int .i64 e.f1,.int .u8 e.f2,.int .u8 0,.int .u8 0,.int .u8 0,.slice none 0 0,.bool fl,.int .u8 s.f0,.int .u8 s.f1,.int .u8 s.f2] rfl
  have q3:=q2.set 5 (.int .u8 e.f3.f0) #[.int .u8 op,.int .u8 a,.int .u8 e.f0,.int .i64 e.f1,.int .u8 e.f2,.int .u8 e.f3.f0,.int .u8 0,.int .u8 0,.slice none 0 0,.bool fl,.int .u8 s.f0,.int .u8 s.f1,.int .u8 s.f2] rfl
  have q4:=q3.set 6 (.int .u8 e.f3.f1) #[.int .u8 op,.int .u8 a,.int .u8 e.f0,.int .i64 e.f1,.int .u8 e.f2,.int .u8 e.f3.f0,.int .u8 e.f3.f1,.int .u8 0,.slice none 0 0,.bool fl,.int .u8 s.f0,.int .u8 s.f1,.int .u8 s.f2] rfl
  have q5:=q4.set 7 (.int .u8 e.f3.f2) #[.int .u8 op,.int .u8 a,.int .u8 e.f0,.int .i64 e.f1,.int .u8 e.f2,.int .u8 e.f3.f0,.int .u8 e.f3.f1,.int .u8 e.f3.f2,.slice none 0 0,.bool fl,.int .u8 s.f0,.int .u8 s.f1,.int .u8 s.f2] rfl
  have q6:=q5.set 8 v #[.int .u8 op,.int .u8 a,.int .u8 e.f0,.int .i64 e.f1,.int .u8 e.f2,.int .u8 e.f3.f0,.int .u8 e.f3.f1,.int .u8 e.f3.f2,v,.bool fl,.int .u8 s.f0,.int .u8 s.f1,.int .u8 s.f2] rfl
  exact q6
end
def maybeQ (T : List S69) (st : St) : (Bool × S40) × St:=if anyF T st wSides = true then ((true,(selQ T st).1),(selQ T st).2) else ((false,z40),st)
set_option maxHeartbeats 4000000 in
set_option maxRecDepth 100000 in
theorem maybeE (x : Cx) (w : World) (st : St) (h : Qd x w st) (op a : Int) (e : S50) (A : Option Addr) (n c : Nat) :
    Calls Tryz.prog 111 #[.pointer (some ⟨x.r,0,none⟩),.agg (D52 op a e (.slice A n c) false z40)] w (QP x w (fun q v _=>v = .agg (D52 op a e (.slice A n c) q.1 q.2)) (maybeQ x.T) st):=by
  have TW:=Aside0.mk (Tw.start h 52 (D52 op a e (.slice A n c) false z40) (Z52 0))
  have hu52:=Tryz.underlying52
  have hu40:=Tryz.underlying40
  have hsz : (w.alloc (.cells (D52 op a e (.slice A n c) false z40) 52)).heap.size = w.heap.size + 1:=size_alloc _ _
  have HRL:=Aside0.mk h.rlt
  clear h
  rcases hb : anyF x.T st wSides with _ | _
  all_goals
    have HB:=Aside0.mk hb
    clear hb
    go_enter Tryz.func111,Tryz.ntmps111
    go_wp2_with (first
      | (go_at_call 62;refine (sidesC _).mono ?_;rintro e1 w1 ⟨kb,rfl,hwd,hkb,hb⟩;have HKR:=Aside0.mk (show kb ≠ x.r from Nat.ne_of_gt (Nat.lt_of_lt_of_le TW.out.qd.rlt hkb));have TW:=Aside0.mk (TW.out.below hb);have HWD:=Aside0.mk hwd;clear hwd hkb hb)
      | (go_at_call 20;refine (amongR_ x _ _ TW.out.qd wSides kb 4 HWD.out HKR.out (by decide)).mono ?_;rintro e1 w2 ⟨rfl,hq,hb⟩;rw [HB.out];have hT:=TW.out.below hb;have TW:=Aside0.mk hT;have d3:=hT.cellR 9;have f3:=hT.frR 9;have a0:=hT.cellR 0;have a1:=hT.cellR 1;have a2:=hT.cellR 2;have a3:=hT.cellR 3;have a4:=hT.cellR 4;have a5:=hT.cellR 5;have a6:=hT.cellR 6;have a7:=hT.cellR 7;have a8:=hT.cellR 8;have a9:=hT.cellR 9;have a10:=hT.cellR 10;have a11:=hT.cellR 11;have a12:=hT.cellR 12;clear hT hq hb)
      | (go_at_call 63;refine (selE x _ _ (TW.out.setR 9 (.bool true) (D52 op a e (.slice A n c) true z40) rfl).qd).mono ?_;rintro e1 w3 ⟨s,st1,v,h1,rfl,rfl,hq,hg⟩;have H1:=Aside0.mk h1;have hT:=(TW.out.setR 9 (.bool true) (D52 op a e (.slice A n c) true z40) rfl).call hq hg;
         have g10:=hT.cellR 10;have g11:=hT.cellR 11;have g12:=hT.cellR 12;have k10:=hT.frR 10;have k11:=hT.frR 11;have k12:=hT.frR 12;clear h1 hq hg a0 a1 a2 a3 a4 a5 a6 a7 a8 a9 a10 a11 a12 d3 f3;
         have hT1:=hT.setR 10 (.int .u8 s.f0) (D52 op a e (.slice A n c) true ⟨s.f0,0,0⟩) rfl;have hT2:=hT1.setR 11 (.int .u8 s.f1) (D52 op a e (.slice A n c) true ⟨s.f0,s.f1,0⟩) rfl;have hT3:=hT2.setR 12 (.int .u8 s.f2) (D52 op a e (.slice A n c) true s) rfl;have TW:=Aside0.mk hT3;have a0:=hT3.cellR 0;have a1:=hT3.cellR 1;have a2:=hT3.cellR 2;have a3:=hT3.cellR 3;have a4:=hT3.cellR 4;have a5:=hT3.cellR 5;have a6:=hT3.cellR 6;have a7:=hT3.cellR 7;have a8:=hT3.cellR 8;have a9:=hT3.cellR 9;have a10:=hT3.cellR 10;have a11:=hT3.cellR 11;have a12:=hT3.cellR 12;clear hT hT1 hT2 hT3)
      | ((with_reducible refine gate_store (t:=52) (p:=4) rfl ?_);refine store_row rfl rfl rfl (w.heap.size + 1) _ rfl rfl TW.out.own (by kernel_rfl) rfl (by kernel_rfl) ?_;intro w7 hf hg;have HF:=Aside0.mk hf;have HG:=Aside0.mk hg;clear hf hg))
    refine bodyPost_ret (results_cell_row rfl _ _ (w.heap.size + 1) 52 _ (0,0) _ rfl HF.out Tryz.underlying52 rfl (by kernel_rfl)) rfl ?_
    have hz:=TW.out.fin2 HG.out
  · refine ⟨(false,z40),st,_,?_,rfl,rfl,hz.1,hz.2⟩
    unfold maybeQ
    rw [HB.out]
    rfl
  · refine ⟨(true,s),st1,_,?_,rfl,rfl,hz.1,hz.2⟩
    unfold maybeQ
    rw [HB.out,H1.out]
    rfl
/-! ### a step -/
structure Sw (x : Cx) (w wr : World) (t : Nat) (op a : Int) (e : S50) (v : Value) (fl : Bool) (s : S40) (st : St) : Prop where
  tw : Tw x w wr 52 (Z52 0) t (D52 op a e v fl s) st
  row : k50.R 50 wr (t + 1) (fun _=>True) v e.f4
section
variable {x : Cx} {w wr w1 : World} {t : Nat} {op a : Int} {e : S50} {v : Value} {fl : Bool} {s : S40} {st st1 : St}
theorem Sw.call (h : Sw x w wr t op a e v fl s st) (hq : Qd x w1 st1) (hg : wr.grownBy w1 (some x.r)) : Sw x w w1 t op a e v fl s st1 :=
  ⟨h.tw.call hq hg,R_keep h.row hg (by have:=h.tw.rl;have:=h.tw.wt;omega)⟩
theorem Sw.below (h : Sw x w wr t op a e v fl s st) (hb : Below wr.heap.size wr w1) : Sw x w w1 t op a e v fl s st:=h.call (h.tw.qd.below_ hb) (grown_of_below hb _)
theorem Sw.side (h : Sw x w wr t op a e v fl s st) (b : Int) : Sw x w (wr.setCell ⟨t,1,none⟩ (.int .u8 b)) t op b e v fl s st :=
  ⟨h.tw.set 1 _ _ rfl,R_keep h.row (grown_set wr t 1 _) (Nat.lt_succ_self t)⟩
theorem Sw.put50 (h : Sw x w wr t op a z50 (.slice none 0 0) fl s st) (e : S50) (v : Value) (hR : k50.R 50 wr (t + 1) (fun _=>True) v e.f4) :
    Sw x w (((((((wr.setCell ⟨t,2,none⟩ (.int .u8 e.f0)).setCell ⟨t,3,none⟩ (.int .i64 e.f1)).setCell ⟨t,4,none⟩ (.int .u8 e.f2)).setCell ⟨t,5,none⟩ (.int .u8 e.f3.f0)).setCell ⟨t,6,none⟩ (.int .u8 e.f3.f1)).setCell ⟨t,7,none⟩ (.int .u8 e.f3.f2)).setCell ⟨t,8,none⟩ v) t op a e v fl s st :=
  ⟨h.tw.put50 e v,R_keep hR (((((((grown_set wr t 2 _).trans (grown_set _ t 3 _)).trans (grown_set _ t 4 _)).trans (grown_set _ t 5 _)).trans (grown_set _ t 6 _)).trans (grown_set _ t 7 _)).trans (grown_set _ t 8 _)) (Nat.lt_succ_self t)⟩
theorem Sw.over {fl1 : Bool} {s1 : S40} (h : Sw x w wr t op a e v fl s st) (hg : wr.grownBy w1 (some t)) (hf : w1.heap[t]? = some (.cells (D52 op a e v fl1 s1) 52 (0,0))) : Sw x w w1 t op a e v fl1 s1 st :=
  ⟨h.tw.over hg hf,R_keep h.row hg (Nat.lt_succ_self t)⟩
end
def onQ (T : List S69) (op : Int) (st : St) : S52 × St :=
  if op = 0 ∨ op = 1 ∨ op = 2 ∨ op = 3 ∨ op = 9 then (⟨op,(oneQ T wSides st).1,(exprQ T 6 (oneQ T wSides st).2).1,false,z40⟩,(exprQ T 6 (oneQ T wSides st).2).2)
  else if op = 4 ∨ op = 5 ∨ op = 6 ∨ op = 8 then (⟨op,0,z50,(maybeQ T st).1.1,(maybeQ T st).1.2⟩,(maybeQ T st).2)
  else if op = 7 then (⟨7,0,(exprQ T 6 st).1,(maybeQ T (exprQ T 6 st).2).1.1,(maybeQ T (exprQ T 6 st).2).1.2⟩,(maybeQ T (exprQ T 6 st).2).2)
  else (⟨op,0,z50,false,z40⟩,st)
def stepQ (T : List S69) (st : St) : S52 × St:=((onQ T (oneQ T wSteps st).1 (oneQ T wSteps st).2).1,takeQ T sSemi (onQ T (oneQ T wSteps st).1 (oneQ T wSteps st).2).2)
theorem oneF_lt (T : List S69) (st : St) : ∀ (ws : List ByteArray) (i : Nat),0 ≤ (oneF T st ws i).1 ∧ ((oneF T st ws i).1 = 0 ∨ (oneF T st ws i).1 < ((i + ws.length : Nat) : Int))
  | [],i=>⟨Int.le_refl 0,.inl rfl⟩
  | s :: r,i=>by
    have h:=oneF_lt T st r (i + 1)
    unfold oneF
    split
    · refine ⟨Int.natCast_nonneg i,.inr ?_⟩
      simp only [List.length_cons]
      omega
    · simp only [List.length_cons]
      refine ⟨h.1,h.2.imp id fun h=>by omega⟩
theorem steps_op (T : List S69) (st : St) : (oneQ T wSteps st).1 = 0 ∨ (oneQ T wSteps st).1 = 1 ∨ (oneQ T wSteps st).1 = 2 ∨ (oneQ T wSteps st).1 = 3 ∨ (oneQ T wSteps st).1 = 4 ∨ (oneQ T wSteps st).1 = 5 ∨ (oneQ T wSteps st).1 = 6 ∨ (oneQ T wSteps st).1 = 7 ∨ (oneQ T wSteps st).1 = 8 ∨ (oneQ T wSteps st).1 = 9 ∨ (oneQ T wSteps st).1 = 10:=by
  have h:=oneF_lt T st wSteps 0
  have e : (wSteps.length : Nat) = 11:=rfl
  rw [e] at h
  unfold oneQ
  omega
set_option maxHeartbeats 16000000 in
set_option maxRecDepth 100000 in
theorem stepE (x : Cx) (w : World) (st : St) (h : Qd x w st) : Calls Tryz.prog 91 #[.pointer (some ⟨x.r,0,none⟩)] w (QP x w (rStep w.heap.size) (stepQ x.T) st):=by
  have HQ:=Aside0.mk (h.below_ (below_alloc (Below.refl _ _) (.cells (Z52 0) 52)))
  have HG:=Aside0.mk (World.grownBy_alloc w (.cells (Z52 0) 52) (some x.r))
  have HF:=Aside0.mk (blk_new w (.cells (Z52 0) 52))
  have HRL:=Aside0.mk h.rlt
  have HBL:=Aside0.mk h.Blt
  have HWL:=Aside0.mk (Nat.le_of_lt (Nat.lt_of_le_of_lt h.hr h.rlt))
  have hu52:=Tryz.underlying52
  clear h
  go_enter Tryz.func91,Tryz.ntmps91
  go_upto_region 2 with (first
    | (go_at_call 90;refine (stepsC _).mono ?_;rintro e1 w1 ⟨kb,rfl,hwd,hkb,hb⟩;have HKR:=Aside0.mk (show kb ≠ x.r from Nat.ne_of_gt (Nat.lt_of_lt_of_le HQ.out.rlt hkb));have HQ:=Aside0.mk (HQ.out.below_ hb);have HG:=Aside0.mk (HG.out.trans (grown_of_below hb _));have HF:=Aside0.mk (blk_below HF.out hb);have HWD:=Aside0.mk hwd;clear hwd hkb hb)
    | (go_at_call 50;refine (oneE x _ _ HQ.out wSteps kb 11 HWD.out HKR.out (by decide)).mono ?_;rintro e1 w2 ⟨op,st1,v,h1,rfl,rfl,hq,hg⟩;have H1:=Aside0.mk h1;have HQ:=Aside0.mk hq;have HF:=Aside0.mk (own_grown HF.out hg (Nat.ne_of_gt HRL.out));have HG:=Aside0.mk (HG.out.trans hg);clear h1 hq hg))
  have lp0 : Sw x w (w2.alloc (.cells (Z52 op) 52)) w2.heap.size op 0 z50 (.slice none 0 0) false z40 st1 :=
    ⟨⟨HQ.out.below_ (below_alloc (Below.refl _ _) _),HG.out.trans (World.grownBy_alloc _ _ _),blk_alloc HF.out _,blk_new _ _,blk_lt HF.out,HRL.out,HBL.out,HWL.out⟩,Kd.R_nil _ _ _ _ _⟩
  generalize w2.alloc (.cells (Z52 op) 52) = wr at lp0 ⊢
  generalize w2.heap.size = t at lp0 ⊢
  have hop:=steps_op x.T st
  rw [H1.out] at hop
  have LP:=Aside0.mk lp0
  have a0:=lp0.tw.cell 0
  have a1:=lp0.tw.cell 1
  have a2:=lp0.tw.cell 2
  have a3:=lp0.tw.cell 3
  have a4:=lp0.tw.cell 4
  have a5:=lp0.tw.cell 5
  have a6:=lp0.tw.cell 6
  have a7:=lp0.tw.cell 7
  have a8:=lp0.tw.cell 8
  have a9:=lp0.tw.cell 9
  have a10:=lp0.tw.cell 10
  have a11:=lp0.tw.cell 11
  have a12:=lp0.tw.cell 12
  clear lp0 HQ HF HG
  have HST : ∀ (r : S52 × St),onQ x.T op st1 = r → stepQ x.T st = (r.1,takeQ x.T sSemi r.2):=fun r hr=>by
    unfold stepQ
    rw [H1.out,hr]
  have HST:=Aside0.mk HST
  clear H1
  rcases hop with rfl | rfl | rfl | rfl | rfl | rfl | rfl | rfl | rfl | rfl | rfl
  all_goals
    go_wp2_with (first
      | (go_at_call 62;refine (sidesC _).mono ?_;rintro e1 w3 ⟨kb2,rfl,hwd,hkb,hb⟩;have HKR2:=Aside0.mk (show kb2 ≠ x.r from Nat.ne_of_gt (Nat.lt_of_lt_of_le LP.out.tw.qd.rlt hkb));have LP:=Aside0.mk (LP.out.below hb);have HWD2:=Aside0.mk hwd;clear hwd hkb hb)
      | (go_at_call 50;refine (oneE x _ _ LP.out.tw.qd wSides kb2 4 HWD2.out HKR2.out (by decide)).mono ?_;rintro e1 w4 ⟨sd,st2,v,h1,rfl,rfl,hq,hg⟩;have H2:=Aside0.mk h1;have hT:=LP.out.call hq hg;have d1:=hT.tw.cell 1;have f1:=hT.tw.fr 1;have LP:=Aside0.mk (hT.side sd);clear hT h1 hq hg)
      | (go_at_call 28;refine (exprE x _ _ LP.out.tw.qd).mono ?_;rintro e1 w5 ⟨e,st3,v,h1,rfl,⟨cs,rfl,hM⟩,hq,hg⟩;obtain ⟨v6,rfl,hR6⟩:=k50_openM hM;obtain ⟨A6,c6,rfl⟩:=Kd.R_slice hR6;have H3:=Aside0.mk h1;have hlt:=blk_lt LP.out.tw.own;have hT:=LP.out.call hq hg;clear a0 a1 a2 a3 a4 a5 a6 a7 a8 a9 a10 a11 a12;
         have d2:=hT.tw.cell 2;have d3:=hT.tw.cell 3;have d4:=hT.tw.cell 4;have d5:=hT.tw.cell 5;have d6:=hT.tw.cell 6;have d7:=hT.tw.cell 7;have d8:=hT.tw.cell 8;have f2:=hT.tw.fr 2;have f3:=hT.tw.fr 3;have f4:=hT.tw.fr 4;have f5:=hT.tw.fr 5;have f6:=hT.tw.fr 6;have f7:=hT.tw.fr 7;have f8:=hT.tw.fr 8;have hT8:=hT.put50 e (.slice A6 e.f4.length c6) (Kd.R_lower hR6 hlt);have LP:=Aside0.mk hT8;have a0:=hT8.tw.cell 0;have a1:=hT8.tw.cell 1;have a2:=hT8.tw.cell 2;have a3:=hT8.tw.cell 3;have a4:=hT8.tw.cell 4;have a5:=hT8.tw.cell 5;have a6:=hT8.tw.cell 6;have a7:=hT8.tw.cell 7;have a8:=hT8.tw.cell 8;have a9:=hT8.tw.cell 9;have a10:=hT8.tw.cell 10;have a11:=hT8.tw.cell 11;have a12:=hT8.tw.cell 12;clear hT hT8 hlt h1 hM hR6 hq hg)
      | (go_at_call 111;refine (maybeE x _ _ LP.out.tw.qd _ _ _ _ _ _).mono ?_;rintro e1 w6 ⟨m,st4,v,h1,rfl,rfl,hq,hg⟩;have H4:=Aside0.mk h1;have LP:=Aside0.mk (LP.out.call hq hg);clear h1 hq hg)
      | ((with_reducible refine gate_store (t:=52) (p:=3) rfl ?_);refine store_row rfl rfl rfl t _ rfl rfl LP.out.tw.own (by kernel_rfl) rfl (by kernel_rfl) ?_;intro w7 hf hg;have LP:=Aside0.mk (LP.out.over (fl1:=m.1) (s1:=m.2) hg hf);clear hf hg)
      | (go_at_call 53;refine (takeR_ x _ _ LP.out.tw.qd sSemi).mono ?_;rintro e1 w8 ⟨rfl,hq,hg⟩;have lp:=LP.out.call hq hg;have LP:=Aside0.mk lp;clear a0 a1 a2 a3 a4 a5 a6 a7 a8 a9 a10 a11 a12;have a0:=lp.tw.cell 0;have a1:=lp.tw.cell 1;have a2:=lp.tw.cell 2;have a3:=lp.tw.cell 3;have a4:=lp.tw.cell 4;have a5:=lp.tw.cell 5;have a6:=lp.tw.cell 6;have a7:=lp.tw.cell 7;have a8:=lp.tw.cell 8;have a9:=lp.tw.cell 9;have a10:=lp.tw.cell 10;have a11:=lp.tw.cell 11;have a12:=lp.tw.cell 12;clear lp hq hg)
      | ((with_reducible refine gate_store (t:=52) (p:=2) rfl ?_);refine store_row rfl rfl rfl w.heap.size _ rfl rfl LP.out.tw.res (by kernel_rfl) rfl (by kernel_rfl) ?_;intro w9 hf hg;have HF9:=Aside0.mk hf;have HG9:=Aside0.mk hg;clear hf hg))
    refine bodyPost_ret (results_cell_row rfl _ _ w.heap.size 52 _ (0,0) _ rfl HF9.out Tryz.underlying52 rfl (by kernel_rfl)) rfl ?_
    have hz:=LP.out.tw.fin HG9.out
    have hwt:=LP.out.tw.wt
    have hrow:=Kd.R_lower (R_keep LP.out.row HG9.out (Nat.lt_succ_of_lt hwt)) (Nat.le_succ_of_le (Nat.le_of_lt hwt))
  · refine ⟨⟨0,sd,e,false,z40⟩,takeQ x.T sSemi st3,_,HST.out (⟨0,sd,e,false,z40⟩,st3) (by unfold onQ;rw [if_pos (by decide),H2.out];simp only;rw [H3.out]),rfl,⟨_,rfl,k52_mkM _ _ _ ⟨0,sd,e,false,z40⟩ hrow⟩,hz.1,hz.2⟩
  · refine ⟨⟨1,sd,e,false,z40⟩,takeQ x.T sSemi st3,_,HST.out (⟨1,sd,e,false,z40⟩,st3) (by unfold onQ;rw [if_pos (by decide),H2.out];simp only;rw [H3.out]),rfl,⟨_,rfl,k52_mkM _ _ _ ⟨1,sd,e,false,z40⟩ hrow⟩,hz.1,hz.2⟩
  · refine ⟨⟨2,sd,e,false,z40⟩,takeQ x.T sSemi st3,_,HST.out (⟨2,sd,e,false,z40⟩,st3) (by unfold onQ;rw [if_pos (by decide),H2.out];simp only;rw [H3.out]),rfl,⟨_,rfl,k52_mkM _ _ _ ⟨2,sd,e,false,z40⟩ hrow⟩,hz.1,hz.2⟩
  · refine ⟨⟨3,sd,e,false,z40⟩,takeQ x.T sSemi st3,_,HST.out (⟨3,sd,e,false,z40⟩,st3) (by unfold onQ;rw [if_pos (by decide),H2.out];simp only;rw [H3.out]),rfl,⟨_,rfl,k52_mkM _ _ _ ⟨3,sd,e,false,z40⟩ hrow⟩,hz.1,hz.2⟩
  · refine ⟨⟨4,0,z50,m.1,m.2⟩,takeQ x.T sSemi st4,_,HST.out (⟨4,0,z50,m.1,m.2⟩,st4) (by unfold onQ;rw [if_neg (by decide),if_pos (by decide),H4.out]),rfl,⟨_,rfl,k52_mkM _ _ _ ⟨4,0,z50,m.1,m.2⟩ hrow⟩,hz.1,hz.2⟩
  · refine ⟨⟨5,0,z50,m.1,m.2⟩,takeQ x.T sSemi st4,_,HST.out (⟨5,0,z50,m.1,m.2⟩,st4) (by unfold onQ;rw [if_neg (by decide),if_pos (by decide),H4.out]),rfl,⟨_,rfl,k52_mkM _ _ _ ⟨5,0,z50,m.1,m.2⟩ hrow⟩,hz.1,hz.2⟩
  · refine ⟨⟨6,0,z50,m.1,m.2⟩,takeQ x.T sSemi st4,_,HST.out (⟨6,0,z50,m.1,m.2⟩,st4) (by unfold onQ;rw [if_neg (by decide),if_pos (by decide),H4.out]),rfl,⟨_,rfl,k52_mkM _ _ _ ⟨6,0,z50,m.1,m.2⟩ hrow⟩,hz.1,hz.2⟩
  · refine ⟨⟨7,0,e,m.1,m.2⟩,takeQ x.T sSemi st4,_,HST.out (⟨7,0,e,m.1,m.2⟩,st4) (by unfold onQ;rw [if_neg (by decide),if_neg (by decide),if_pos (by decide),H3.out];simp only;rw [H4.out]),rfl,⟨_,rfl,k52_mkM _ _ _ ⟨7,0,e,m.1,m.2⟩ hrow⟩,hz.1,hz.2⟩
  · refine ⟨⟨8,0,z50,m.1,m.2⟩,takeQ x.T sSemi st4,_,HST.out (⟨8,0,z50,m.1,m.2⟩,st4) (by unfold onQ;rw [if_neg (by decide),if_pos (by decide),H4.out]),rfl,⟨_,rfl,k52_mkM _ _ _ ⟨8,0,z50,m.1,m.2⟩ hrow⟩,hz.1,hz.2⟩
  · refine ⟨⟨9,sd,e,false,z40⟩,takeQ x.T sSemi st3,_,HST.out (⟨9,sd,e,false,z40⟩,st3) (by unfold onQ;rw [if_pos (by decide),H2.out];simp only;rw [H3.out]),rfl,⟨_,rfl,k52_mkM _ _ _ ⟨9,sd,e,false,z40⟩ hrow⟩,hz.1,hz.2⟩
  · refine ⟨⟨10,0,z50,false,z40⟩,takeQ x.T sSemi st1,_,HST.out (⟨10,0,z50,false,z40⟩,st1) (by unfold onQ;rw [if_neg (by decide),if_neg (by decide),if_neg (by decide)]),rfl,⟨_,rfl,k52_mkM _ _ _ ⟨10,0,z50,false,z40⟩ hrow⟩,hz.1,hz.2⟩
end Go.Proofs.YtmgdkkkkanjadaaGreatDoor.RefA
