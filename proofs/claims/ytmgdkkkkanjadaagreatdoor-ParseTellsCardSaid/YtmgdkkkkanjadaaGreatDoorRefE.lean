/-
  joustref02's reader: an expression. Conditions: none.
-/
import Derived.Test.YtmgdkkkkanjadaaGreatDoorRefD
namespace Go.Proofs.YtmgdkkkkanjadaaGreatDoor.RefA
set_option linter.unusedVariables false
set_option linter.unusedSimpArgs false
open Go.RowKit Go.Shelf Go.Lib Go.Proofs.YtmgdkkkkanjadaaGreatDoorW.PrintWords Go.Proofs.YtmgdkkkkanjadaaGreatDoorW.PrintLast Go.Proofs.YtmgdkkkkanjadaaGreatDoorW.PrintMore Go.Proofs.YtmgdkkkkanjadaaGreatDoor.X Go.Proofs.YtmgdkkkkanjadaaGreatDoor.HandS Go.Proofs.YtmgdkkkkanjadaaGreatDoor.HandA Go.Proofs.YtmgdkkkkanjadaaGreatDoor.HandB Go.Proofs.YtmgdkkkkanjadaaGreatDoor.HandC Go.Proofs.YtmgdkkkkanjadaaGreatDoor.HandF
def bodyX (T : List S69) (rec : St → S50 × St) (st : St) : S50 × St :=
  if (4 + (oneQ T wSigns (takeQ T sOpen st)).1) % 256 = 11 then (⟨11,0,0,z40,[(rec (oneQ T wSigns (takeQ T sOpen st)).2).1]⟩,takeQ T sShut (rec (oneQ T wSigns (takeQ T sOpen st)).2).2)
  else (⟨(4 + (oneQ T wSigns (takeQ T sOpen st)).1) % 256,0,0,z40,[(rec (oneQ T wSigns (takeQ T sOpen st)).2).1,(rec (rec (oneQ T wSigns (takeQ T sOpen st)).2).2).1]⟩,takeQ T sShut (rec (rec (oneQ T wSigns (takeQ T sOpen st)).2).2).2)
def opnX (T : List S69) (l : Nat) (more : St → S50 × St) (st : St) : S50 × St :=
  if isQ T sOpen st = true then (if l < 2 then (z50,failQ T 3 st) else more st) else (z50,failQ T 5 st)
def powX (T : List S69) (l : Nat) (more : St → S50 × St) (st : St) : S50 × St :=
  if (mayQ T sPower st).1 = true then (⟨3,0,0,z40,[]⟩,(mayQ T sPower st).2) else opnX T l more (mayQ T sPower st).2
def cntX (T : List S69) (l : Nat) (more : St → S50 × St) (st : St) : S50 × St :=
  if (mayQ T sCount st).1 = true then (⟨2,0,0,(selQ T (mayQ T sCount st).2).1,[]⟩,(selQ T (mayQ T sCount st).2).2) else powX T l more (mayQ T sCount st).2
def lifX (T : List S69) (l : Nat) (more : St → S50 × St) (st : St) : S50 × St :=
  if (mayQ T sLife st).1 = true then (⟨1,0,(oneQ T wSides (mayQ T sLife st).2).1,z40,[]⟩,(oneQ T wSides (mayQ T sLife st).2).2) else cntX T l more (mayQ T sLife st).2
def headX (T : List S69) (l : Nat) (more : St → S50 × St) (st : St) : S50 × St :=
  if (nextQ T st).f0 = 2 then (⟨0,(numQ T st).1,0,z40,[]⟩,(numQ T st).2) else lifX T l more st
def exprQ (T : List S69) : Nat → St → S50 × St
  | 0,st=>headX T 0 (fun st=>(z50,st)) st
  | l + 1,st=>headX T (l + 1) (bodyX T (exprQ T l)) st
theorem lif_f {T : List S69} {l : Nat} {more : St → S50 × St} {st st1 : St} (h : mayQ T sLife st = (false,st1)) : lifX T l more st = cntX T l more st1:=by
  unfold lifX
  rw [h]
  rfl
theorem cnt_f {T : List S69} {l : Nat} {more : St → S50 × St} {st st1 : St} (h : mayQ T sCount st = (false,st1)) : cntX T l more st = powX T l more st1:=by
  unfold cntX
  rw [h]
  rfl
theorem pow_f {T : List S69} {l : Nat} {more : St → S50 × St} {st st1 : St} (h : mayQ T sPower st = (false,st1)) : powX T l more st = opnX T l more st1:=by
  unfold powX
  rw [h]
  rfl
theorem lif_t {T : List S69} {l : Nat} {more : St → S50 × St} {st st1 : St} (h : mayQ T sLife st = (true,st1)) : lifX T l more st = (⟨1,0,(oneQ T wSides st1).1,z40,[]⟩,(oneQ T wSides st1).2):=by
  unfold lifX
  rw [h]
  rfl
theorem cnt_t {T : List S69} {l : Nat} {more : St → S50 × St} {st st1 : St} (h : mayQ T sCount st = (true,st1)) : cntX T l more st = (⟨2,0,0,(selQ T st1).1,[]⟩,(selQ T st1).2):=by
  unfold cntX
  rw [h]
  rfl
theorem pow_t {T : List S69} {l : Nat} {more : St → S50 × St} {st st1 : St} (h : mayQ T sPower st = (true,st1)) : powX T l more st = (⟨3,0,0,z40,[]⟩,st1):=by
  unfold powX
  rw [h]
  rfl
/-- what is handed back, stored -/
theorem exprEnd {x : Cx} {w wr w2 : World} {st : St} (hq : Qd x wr st) (hg : w.grownBy wr (some x.r)) (hrl : x.r < w.heap.size) (hBl : x.B < w.heap.size) (hWl : x.W0.heap.size ≤ w.heap.size) (hg2 : wr.grownBy w2 (some w.heap.size)) : Qd x w2 st ∧ w.grownBy w2 (some x.r) :=
  ⟨hq.other hg2 (by omega) (by omega) hWl,grown_other hg hg2 (Nat.le_refl _)⟩
structure Lq (x : Cx) (w wr : World) (t : Nat) (op : Int) (vr : Value) (xs : List S50) (st : St) : Prop where
  tw : Tw x w wr 50 Z50 t #[.int .u8 op,.int .i64 0,.int .u8 0,.int .u8 0,.int .u8 0,.int .u8 0,vr] st
  row : k50.R 50 wr (t + 1) (fun _=>True) vr xs
theorem Lq.call {x : Cx} {w wr w1 : World} {t : Nat} {op : Int} {vr : Value} {xs : List S50} {st st1 : St} (h : Lq x w wr t op vr xs st) (hq : Qd x w1 st1) (hg : wr.grownBy w1 (some x.r)) : Lq x w w1 t op vr xs st1 :=
  ⟨h.tw.call hq hg,R_keep h.row hg (by have:=h.tw.rl;have:=h.tw.wt;omega)⟩
theorem Lq.drew {x : Cx} {w wr : World} {t : Nat} {op : Int} {vr : Value} {xs : List S50} {st : St} (h : Lq x w wr t op vr xs st) : Lq x w wr.drew t op vr xs st :=
  h.call (h.tw.qd.below_ (below_drew1 (Below.refl _ _))) (grown_of_below (below_drew1 (Below.refl _ _)) _)
theorem Qd.under {x : Cx} {w w1 : World} {st : St} {base : Nat} (h : Qd x w st) (hb : Below base w w1) (hr : x.r < base) (hB : x.B < base) (hW : x.W0.heap.size ≤ base) : Qd x w1 st:=by
  obtain ⟨a,ha,hrow,haj⟩:=h.row
  exact ⟨⟨a,ha,by rw [hb.block _ hr];exact hrow,haj⟩,h.nz,fun k hk=>by
    obtain ⟨t0,t1,t2,t3⟩:=h.tk k hk
    exact ⟨(hb.cell (p:=⟨x.B,_,none⟩) hB).trans t0,(hb.cell (p:=⟨x.B,_,none⟩) hB).trans t1,(hb.cell (p:=⟨x.B,_,none⟩) hB).trans t2,(hb.cell (p:=⟨x.B,_,none⟩) hB).trans t3⟩,h.hc,h.hm,h.hl,h.ne,
    ⟨hb.os.trans h.below.os,hb.tape.trans h.below.tape,hb.output.trans h.below.output,Nat.le_trans h.below.size hb.size,fun k hk=>by rw [hb.block k (Nat.lt_of_lt_of_le hk hW),h.below.block k hk]⟩,h.hr,h.good,h.ts⟩
/-- behind an append: the row stored -/
theorem Lq.put {x : Cx} {w w8 w9 : World} {t : Nat} {op : Int} {vr v1 : Value} {xs ys : List S50} {st : St} (h : Lq x w w8 t op vr xs st) (hb : Below (t + 1) w8 w9) (hR : k50.R 50 w9 (t + 1) (fun _=>True) v1 ys) : Lq x w (w9.setCell ⟨t,6,none⟩ v1) t op v1 ys st:=by
  have h1:=h.tw.rl
  have h2:=h.tw.wt
  have h3:=h.tw.Bl
  have h4:=h.tw.Wl
  have hown : w9.heap[t]? = some (.cells #[.int .u8 op,.int .i64 0,.int .u8 0,.int .u8 0,.int .u8 0,.int .u8 0,vr] 50 (0,0)):=by rw [hb.block t (Nat.lt_succ_self t)];exact h.tw.own
  have hres : w9.heap[w.heap.size]? = some (.cells Z50 50 (0,0)):=by rw [hb.block _ (Nat.lt_succ_of_lt h2)];exact h.tw.res
  have htw : Tw x w w9 50 Z50 t #[.int .u8 op,.int .i64 0,.int .u8 0,.int .u8 0,.int .u8 0,.int .u8 0,vr] st :=
    ⟨h.tw.qd.under hb (by omega) (by omega) (by omega),grown_under h.tw.gr hb (by omega),hres,hown,h2,h1,h3,h4⟩
  exact ⟨htw.set 6 v1 _ rfl,Kd.R_mono (Kd.R_far (Kd.R_bound hR) (p:=⟨t,6,none⟩) (fun k hk e=>by have:=hk.2.1;have e2 : k = t:=e;omega) v1) (fun _ _=>trivial)⟩
theorem field69_0 (a : Int) (y : ByteArray) (c d : Int) (w : World) : Sem.run Tryz.prog (Instr.field 69 (.agg #[.int .u8 a,.string y,.int .i64 c,.int .i64 d]) 0) w = Result.ok (.int .u8 a) w:=by kernel_rfl
attribute [local go_sem] field69_0
set_option maxHeartbeats 8000000 in
set_option maxRecDepth 100000 in
theorem expr_num (x : Cx) (L : Int) (l : Nat) (more : St → S50 × St) (w : World) (st : St) (h : Qd x w st) (hk : (nextQ x.T st).f0 = 2) :
    Calls Tryz.prog 28 #[.pointer (some ⟨x.r,0,none⟩),.int .i64 L] w (QP x w (rExpr w.heap.size) (headX x.T l more) st):=by
  have HQ:=Aside0.mk (h.below_ (below_alloc (Below.refl _ _) (.cells Z50 50)))
  have HG:=Aside0.mk (World.grownBy_alloc w (.cells Z50 50) (some x.r))
  have HF:=Aside0.mk (blk_new w (.cells Z50 50))
  have HRL:=Aside0.mk h.rlt
  have HBL:=Aside0.mk h.Blt
  have HWL:=Aside0.mk (Nat.le_of_lt (Nat.lt_of_le_of_lt h.hr h.rlt))
  have HK:=Aside0.mk hk
  have HN:=Aside0.mk (next_ x _ st (h.below_ (below_alloc (Below.refl _ _) (.cells Z50 50))))
  clear h
  generalize ht : nextQ x.T st = t at HN hk
  obtain ⟨k,y,l0,c0⟩:=t
  obtain rfl : k = 2:=hk
  have HT:=Aside0.mk ht
  clear ht
  go_enter Tryz.func28,Tryz.ntmps28
  go_wp2_with (first
    | (go_at_call 48;refine HN.out.mono ?_;rintro e w1 ⟨rfl,hq,hb⟩;have HQ:=Aside0.mk hq;have HG:=Aside0.mk (HG.out.trans (grown_of_below hb _));have HF:=Aside0.mk (blk_below HF.out hb);clear hq hb)
    | (go_at_call 52;refine (numE x _ _ HQ.out HQ.out.size).mono ?_;rintro e w2 ⟨n,st2,v,h1,rfl,rfl,hq,hg⟩;have H1:=Aside0.mk h1;have HQ:=Aside0.mk hq;have HF:=Aside0.mk (own_grown HF.out hg (Nat.ne_of_gt HRL.out));have HG:=Aside0.mk (HG.out.trans hg);clear h1 hq hg)
    | ((with_reducible refine gate_store (t:=50) (p:=4) rfl ?_);refine store_row rfl rfl rfl w.heap.size _ rfl rfl HF.out (by kernel_rfl) rfl (by kernel_rfl) ?_;intro w7 hf hg;have HF7:=Aside0.mk hf;have HG7:=Aside0.mk hg;clear hf hg))
  refine bodyPost_ret (results_cell_row rfl _ _ w.heap.size 50 _ (0,0) _ rfl HF7.out Tryz.underlying50 rfl (by kernel_rfl)) rfl ?_
  have hz:=exprEnd HQ.out HG.out HRL.out HBL.out HWL.out HG7.out
  refine ⟨⟨0,n,0,z40,[]⟩,st2,_,?_,rfl,rExpr.leaf _ _ _ _ _ _ _ _,hz.1,hz.2⟩
  unfold headX
  rw [if_pos HK.out,H1.out]
set_option maxHeartbeats 16000000 in
set_option maxRecDepth 100000 in
theorem expr_all (x : Cx) (L L2 : Int) (l : Nat) (hL : L = 6 - (l : Int)) (hl : l ≤ 6) (more : St → S50 × St) (hmore : 2 ≤ l → ∃ l', l = l' + 1 ∧ more = bodyX x.T (exprQ x.T l'))
    (hI : ∀ l', l = l' + 1 → ∀ (w : World) (st : St), Qd x w st → Calls Tryz.prog 28 #[.pointer (some ⟨x.r, 0, none⟩), .int .i64 (6 - (l' : Int))] w (QP x w (rExpr w.heap.size) (exprQ x.T l') st))
    (w : World) (st : St) (h : Qd x w st) (hk : (nextQ x.T st).f0 ≠ 2) :
    Calls Tryz.prog 28 #[.pointer (some ⟨x.r,0,none⟩),.int .i64 L] w (QP x w (rExpr w.heap.size) (headX x.T l more) st):=by
  have HQ:=Aside0.mk (h.below_ (below_alloc (Below.refl _ _) (.cells Z50 50)))
  have HG:=Aside0.mk (World.grownBy_alloc w (.cells Z50 50) (some x.r))
  have HF:=Aside0.mk (blk_new w (.cells Z50 50))
  have HRL:=Aside0.mk h.rlt
  have HBL:=Aside0.mk h.Blt
  have HWL:=Aside0.mk (Nat.le_of_lt (Nat.lt_of_le_of_lt h.hr h.rlt))
  have HK:=Aside0.mk hk
  have HM:=Aside0.mk hmore
  have HI:=Aside0.mk hI
  have HLL:=Aside0.mk hL
  have HLE:=Aside0.mk hl
  have HN:=Aside0.mk (next_ x _ st (h.below_ (below_alloc (Below.refl _ _) (.cells Z50 50))))
  have hu69:=Tryz.underlying69
  have hw2 : wrap64 (L + 2) = 8 - (l : Int):=by rw [hL];unfold wrap64;omega
  have hw3 : IntKind.i64.wrap (L + 2) = 8 - (l : Int):=(i64_w _).trans hw2
  obtain ⟨M,hM⟩ : ∃ M,8 - (l : Int) = M:=⟨_,rfl⟩
  rw [hM] at hw2 hw3
  obtain ⟨bl,hbl⟩ : ∃ bl,decide (6 < M) = bl:=⟨_,rfl⟩
  have HBB:=Aside0.mk (show decide (l < 2) = bl by rw [← hbl];exact decide_eq_decide.mpr (by omega))
  clear h hmore hI hL hl hM
  generalize ht : nextQ x.T st = t at HN hk
  obtain ⟨k,y,l0,c0⟩:=t
  have n2 : (k == 2) = false:=beq_eq_false_iff_ne.2 hk
  clear ht hk
  go_enter Tryz.func28,Tryz.ntmps28
  go_wp2_with (first
    | (go_at_call 48;refine HN.out.mono ?_;rintro e w1 ⟨rfl,hq,hb⟩;have HQ:=Aside0.mk hq;have HG:=Aside0.mk (HG.out.trans (grown_of_below hb _));have HF:=Aside0.mk (blk_below HF.out hb);clear hq hb)
    | (go_at_call 61;refine (mayE x _ st2 HQ.out sPower).mono ?_;rintro e w13 ⟨m,st3,v,h1,rfl,rfl,hq,hg⟩;have H3:=Aside0.mk h1;have HQ:=Aside0.mk hq;have HF:=Aside0.mk (own_grown HF.out hg (Nat.ne_of_gt HRL.out));have HG:=Aside0.mk (HG.out.trans hg);clear h1 hq hg;cases m)
    | (go_at_call 61;refine (mayE x _ st1 HQ.out sCount).mono ?_;rintro e w12 ⟨m,st2,v,h1,rfl,rfl,hq,hg⟩;have H2:=Aside0.mk h1;have HQ:=Aside0.mk hq;have HF:=Aside0.mk (own_grown HF.out hg (Nat.ne_of_gt HRL.out));have HG:=Aside0.mk (HG.out.trans hg);clear h1 hq hg;cases m)
    | (go_at_call 61;refine (mayE x _ st HQ.out sLife).mono ?_;rintro e w11 ⟨m,st1,v,h1,rfl,rfl,hq,hg⟩;have H1:=Aside0.mk h1;have HQ:=Aside0.mk hq;have HF:=Aside0.mk (own_grown HF.out hg (Nat.ne_of_gt HRL.out));have HG:=Aside0.mk (HG.out.trans hg);clear h1 hq hg;cases m)
    | (go_at_call 62;refine (sidesC _).mono ?_;rintro e w14 ⟨kb,rfl,hwd,hkb,hb⟩;have HKR:=Aside0.mk (show kb ≠ x.r from Nat.ne_of_gt (Nat.lt_of_lt_of_le HQ.out.rlt hkb));have HQ:=Aside0.mk (HQ.out.below_ hb);have HG:=Aside0.mk (HG.out.trans (grown_of_below hb _));have HF:=Aside0.mk (blk_below HF.out hb);have HWD:=Aside0.mk hwd;clear hwd hkb hb)
    | (go_at_call 50;refine (oneE x _ _ HQ.out wSides kb 4 HWD.out HKR.out (by decide)).mono ?_;rintro e w15 ⟨sd,st5,v,h1,rfl,rfl,hq,hg⟩;have H5:=Aside0.mk h1;have HQ:=Aside0.mk hq;have HF:=Aside0.mk (own_grown HF.out hg (Nat.ne_of_gt HRL.out));have HG:=Aside0.mk (HG.out.trans hg);clear h1 hq hg)
    | (go_at_call 63;refine (selE x _ _ HQ.out).mono ?_;rintro e w15 ⟨sl,st5,v,h1,rfl,rfl,hq,hg⟩;have H5:=Aside0.mk h1;have HQ:=Aside0.mk hq;have HF:=Aside0.mk (own_grown HF.out hg (Nat.ne_of_gt HRL.out));have HG:=Aside0.mk (HG.out.trans hg);clear h1 hq hg)
    | ((with_reducible refine gate_store (t:=50) (p:=4) rfl ?_);refine store_row rfl rfl rfl w.heap.size _ rfl rfl HF.out (by kernel_rfl) rfl (by kernel_rfl) ?_;intro w7 hf hg;have HF7:=Aside0.mk hf;have HG7:=Aside0.mk hg;clear hf hg))
  · -- the longest way
    have HIS:=isR_ x _ st3 HQ.out sOpen
    rcases hb2 : isQ x.T sOpen st3 with _ | _
    · rw [hb2] at HIS
      have HIS:=Aside0.mk HIS
      have HB2:=Aside0.mk hb2
      clear hb2
      go_wp2_with (first
        | (go_at_call 49;refine HIS.out.mono ?_;rintro e w16 ⟨rfl,hq,hb⟩;have HQ:=Aside0.mk hq;have HG:=Aside0.mk (HG.out.trans (grown_of_below hb _));have HF:=Aside0.mk (blk_below HF.out hb);clear hq hb)
        | (go_at_call 22;refine (fails_ x _ st3 HQ.out 5 (by decide)).mono ?_;rintro e w17 ⟨rfl,hq,hg⟩;have HQ:=Aside0.mk hq;have HF:=Aside0.mk (own_grown HF.out hg (Nat.ne_of_gt HRL.out));have HG:=Aside0.mk (HG.out.trans hg);clear hq hg)
        | ((with_reducible refine gate_store (t:=50) (p:=4) rfl ?_);refine store_row rfl rfl rfl w.heap.size _ rfl rfl HF.out (by kernel_rfl) rfl (by kernel_rfl) ?_;intro w7 hf hg;have HF7:=Aside0.mk hf;have HG7:=Aside0.mk hg;clear hf hg))
      refine bodyPost_ret (results_cell_row rfl _ _ w.heap.size 50 _ (0,0) _ rfl HF7.out Tryz.underlying50 rfl (by kernel_rfl)) rfl ?_
      have hz:=exprEnd HQ.out HG.out HRL.out HBL.out HWL.out HG7.out
      refine ⟨z50,failQ x.T 5 st3,_,?_,rfl,rExpr.leaf _ _ _ _ _ _ _ _,hz.1,hz.2⟩
      unfold headX;rw [if_neg HK.out];rw [lif_f H1.out,cnt_f H2.out,pow_f H3.out,opnX,if_neg (by rw [HB2.out];decide)]
    · rw [hb2] at HIS
      have HIS:=Aside0.mk HIS
      have HB2:=Aside0.mk hb2
      clear hb2
      cases bl
      · obtain ⟨l',hll,hmm⟩:=HM.out (by have:=of_decide_eq_false HBB.out;omega)
        have hwl : wrap64 (L + 1) = 6 - (l' : Int) := by rw [HLL.out, hll]; have := HLE.out; unfold wrap64; omega
        have hwl2 : IntKind.i64.wrap (L + 1) = 6 - (l' : Int) := (i64_w _).trans hwl
        go_upto_region 17 with (first
          | (go_at_call 49;refine HIS.out.mono ?_;rintro e w16 ⟨rfl,hq,hb⟩;have HQ:=Aside0.mk hq;have HG:=Aside0.mk (HG.out.trans (grown_of_below hb _));have HF:=Aside0.mk (blk_below HF.out hb);clear hq hb)
          | (go_at_call 53;refine (takeR_ x _ st3 HQ.out sOpen).mono ?_;rintro e w17 ⟨rfl,hq,hg⟩;have HQ:=Aside0.mk hq;have HF:=Aside0.mk (own_grown HF.out hg (Nat.ne_of_gt HRL.out));have HG:=Aside0.mk (HG.out.trans hg);clear hq hg)
          | (go_at_call 50;refine (oneE x _ (takeQ x.T sOpen st3) (HQ.out.below_ (below_alloc (Below.refl w17.heap.size w17) (.cells (wSigns.map Value.string).toArray 9))) wSigns w17.heap.size 8 (Wd.new w17 wSigns) (Nat.ne_of_gt HQ.out.rlt) (by decide)).mono ?_;rintro e w18 ⟨s,st6,v,h1,rfl,rfl,hq,hg⟩;have H6:=Aside0.mk h1;have HQ:=Aside0.mk hq;have HF:=Aside0.mk (own_grown (blk_alloc HF.out (.cells (wSigns.map Value.string).toArray 9)) hg (Nat.ne_of_gt HRL.out));have HG:=Aside0.mk ((HG.out.trans (World.grownBy_alloc w17 (.cells (wSigns.map Value.string).toArray 9) (some x.r))).trans hg);clear h1 hq hg))
        have HOP:=Aside0.mk (show ∃ op,(4 + s) % 256 = op from ⟨_,rfl⟩)
        generalize hop : (4 + s) % 256 = op
        have HOP:=Aside0.mk hop
        clear hop
        have lp0 : Lq x w (w18.alloc (.cells #[.int .u8 op,.int .i64 0,.int .u8 0,.int .u8 0,.int .u8 0,.int .u8 0,.slice none 0 0] 50)) w18.heap.size op (.slice none 0 0) [] st6 :=
          ⟨⟨HQ.out.below_ (below_alloc (Below.refl _ _) _),HG.out.trans (World.grownBy_alloc _ _ _),blk_alloc HF.out _,blk_new _ _,blk_lt HF.out,HRL.out,HBL.out,HWL.out⟩,Kd.R_nil _ _ _ _ _⟩
        generalize w18.alloc (.cells #[.int .u8 op,.int .i64 0,.int .u8 0,.int .u8 0,.int .u8 0,.int .u8 0,.slice none 0 0] 50) = wr at lp0 ⊢
        generalize w18.heap.size = t at lp0 ⊢
        have LP:=Aside0.mk lp0
        have b6 : wr.cell? ⟨t,6,none⟩ = some (.slice none 0 0):=blk_cell lp0.tw.own 6
        have HXS:=Aside0.mk (show ([] : List S50).length = 0 from rfl)
        clear lp0
        go_cut [] from 6 (fun wc => ∃ (a : S50) (st7 : St) (vr : Value) (xs : List S50), Aside0 (exprQ x.T l' st6 = (a, st7)) ∧ Aside0 (xs = [a]) ∧ Aside0 (Lq x w wc t op vr xs st7))
        case first =>
          go_region_law (first
          | (refine goesP_ Tryz.func28 (by kernel_rfl) rfl #[.pointer (some ⟨x.r, 0, none⟩), .int .i64 (6 - (l' : Int))] (by rfl) rfl rfl (by (try simp only [List.map_toArray, List.map_cons, List.map_nil]); first | done | rfl) ?_
             refine (HI.out l' hll _ _ LP.out.drew.tw.qd).mono ?_
             rintro e w8 ⟨aA,stA,v,h1,rfl,⟨cs,rfl,hM⟩,hq,hg⟩
             obtain ⟨v6,rfl,hR6⟩:=k50_openM hM
             have HA:=Aside0.mk h1
             have lp8:=LP.out.drew.call hq hg
             have LP8:=Aside0.mk lp8
             have HMM:=Aside0.mk hM
             have d6 : w8.cell? ⟨t,6,none⟩ = some (.slice none 0 0):=blk_cell lp8.tw.own 6
             have d7 : (w8.alloc (.cells #[.int .u8 aA.f0,.int .i64 aA.f1,.int .u8 aA.f2,.int .u8 aA.f3.f0,.int .u8 aA.f3.f1,.int .u8 aA.f3.f2,v6] 50)).cell? ⟨t,6,none⟩ = some (.slice none 0 0):=blk_cell (blk_alloc lp8.tw.own _) 6
             clear h1 hM hq hg lp8 hR6)
          | (refine Kd.R_append_step k50 (w0:=w8) (t + 1) (by rfl) (.tmp 47) (.tmp 52) 31 50 (.agg Z50) 48 rfl Tryz.underlying31 info50 rfl (by decide) (by decide) (.slice none 0 0) ([] : List S50) aA [.int .u8 aA.f0,.int .i64 aA.f1,.int .u8 aA.f2,.int .u8 aA.f3.f0,.int .u8 aA.f3.f1,.int .u8 aA.f3.f2,v6] (fun _=>True) (fun k=>True ∧ some k ≠ ((.slice none 0 0) : Value).ownBlock) rfl rfl ?aM (fun k hk=>⟨trivial,hk.2⟩) (fun _ _=>trivial) LP8.out.row (Below.refl _ _) (blk_lt LP8.out.tw.own) ?aL ?_
             case aM =>
               obtain ⟨inner,ho⟩:=Kd.R_own LP.out.row
               exact k50.M_lower (blk_lt LP.out.tw.own) (Kd.M_new (W:=wr.drew) HMM.out ho)
             case aL=>have:=HXS.out;omega
             intro v1 w9 ho hb hg hat
             obtain ⟨A1,c1,rfl⟩:=Kd.R_slice ho
             rw [show (([] : List S50) ++ [aA]).length = 0 + 1 from by simp] at ho ⊢
             have lp9:=LP8.out.put hb ho
             have LP9:=Aside0.mk lp9
             have e0 : w9.cell? ⟨t,6,none⟩ = some (.slice none 0 0):=by
               rw [hb.cell (p:=⟨t,6,none⟩) (Nat.lt_succ_self _)]
               exact blk_cell LP8.out.tw.own 6
             have e1 : w9.frozen? ⟨t,6,none⟩ = false:=by
               have hh : w9.heap[t]? = _:=(hb.block t (Nat.lt_succ_self _)).trans LP8.out.tw.own
               exact blk_frozen hh 6
             clear lp9 ho hb hg hat))

          all_goals
            go_wp2_with fail
            go_meet
            case rel=>exact ⟨_,_,_,_,HA,⟨rfl⟩,LP9⟩
        case rest =>
          clear b6 LP HXS
          obtain ⟨a,st7,vr,xs,HA,HXA,LP⟩:=hcut
          have HXS:=Aside0.mk (show xs.length = 1 by rw [HXA.out];rfl)
          obtain ⟨A,c,rfl⟩:=Kd.R_slice LP.out.row
          have e2:=LP.out.tw.cell 0
          go_upto_if 57 with fail
          clear e2
          go_cut [] from 6 (fun wd => ∃ (vr : Value) (ys : List S50) (st8 : St), Aside0 (Lq x w wd t op vr ys st8) ∧ Aside0 ((op = 11 ∧ ys = [a] ∧ st8 = st7) ∨ (op ≠ 11 ∧ ∃ b, exprQ x.T l' st7 = (b, st8) ∧ ys = [a, b])))
          case first =>
            by_cases h11 : op = 11
            · have m11 : (op != 11) = false:=by rw [h11];rfl
              have H11:=Aside0.mk h11
              clear h11
              go_wp2_with fail
              go_meet
              case rel=>exact ⟨_,_,_,LP,⟨.inl ⟨H11.out,HXA.out,rfl⟩⟩⟩
            · have m11 : (op != 11) = true:=bne_iff_ne.2 h11
              have H11:=Aside0.mk h11
              clear h11
              go_wp2_with fail
              generalize wc = wr at *
              have b6 : wr.cell? ⟨t,6,none⟩ = some (.slice A xs.length c):=blk_cell LP.out.tw.own 6
              go_region_law (first
          | (refine goesP_ Tryz.func28 (by kernel_rfl) rfl #[.pointer (some ⟨x.r, 0, none⟩), .int .i64 (6 - (l' : Int))] (by rfl) rfl rfl (by (try simp only [List.map_toArray, List.map_cons, List.map_nil]); first | done | rfl) ?_
             refine (HI.out l' hll _ _ LP.out.drew.tw.qd).mono ?_
             rintro e w8 ⟨aB,stB,v,h1,rfl,⟨cs,rfl,hM⟩,hq,hg⟩
             obtain ⟨v6,rfl,hR6⟩:=k50_openM hM
             have HB:=Aside0.mk h1
             have lp8:=LP.out.drew.call hq hg
             have LP8:=Aside0.mk lp8
             have HMM:=Aside0.mk hM
             have d6 : w8.cell? ⟨t,6,none⟩ = some (.slice A xs.length c):=blk_cell lp8.tw.own 6
             have d7 : (w8.alloc (.cells #[.int .u8 aB.f0,.int .i64 aB.f1,.int .u8 aB.f2,.int .u8 aB.f3.f0,.int .u8 aB.f3.f1,.int .u8 aB.f3.f2,v6] 50)).cell? ⟨t,6,none⟩ = some (.slice A xs.length c):=blk_cell (blk_alloc lp8.tw.own _) 6
             clear h1 hM hq hg lp8 hR6)
          | (refine Kd.R_append_step k50 (w0:=w8) (t + 1) (by rfl) (.tmp 59) (.tmp 64) 31 50 (.agg Z50) 48 rfl Tryz.underlying31 info50 rfl (by decide) (by decide) (.slice A xs.length c) xs aB [.int .u8 aB.f0,.int .i64 aB.f1,.int .u8 aB.f2,.int .u8 aB.f3.f0,.int .u8 aB.f3.f1,.int .u8 aB.f3.f2,v6] (fun _=>True) (fun k=>True ∧ some k ≠ ((.slice A xs.length c) : Value).ownBlock) rfl rfl ?aM (fun k hk=>⟨trivial,hk.2⟩) (fun _ _=>trivial) LP8.out.row (Below.refl _ _) (blk_lt LP8.out.tw.own) ?aL ?_
             case aM =>
               obtain ⟨inner,ho⟩:=Kd.R_own LP.out.row
               exact k50.M_lower (blk_lt LP.out.tw.own) (Kd.M_new (W:=wr.drew) HMM.out ho)
             case aL=>have:=HXS.out;omega
             intro v1 w9 ho hb hg hat
             obtain ⟨A1,c1,rfl⟩:=Kd.R_slice ho
             rw [show (xs ++ [aB]).length = xs.length + 1 from by simp] at ho ⊢
             have lp9:=LP8.out.put hb ho
             have LP9:=Aside0.mk lp9
             have e0 : w9.cell? ⟨t,6,none⟩ = some (.slice A xs.length c):=by
               rw [hb.cell (p:=⟨t,6,none⟩) (Nat.lt_succ_self _)]
               exact blk_cell LP8.out.tw.own 6
             have e1 : w9.frozen? ⟨t,6,none⟩ = false:=by
               have hh : w9.heap[t]? = _:=(hb.block t (Nat.lt_succ_self _)).trans LP8.out.tw.own
               exact blk_frozen hh 6
             clear lp9 ho hb hg hat))

              all_goals
                go_wp2_with fail
                go_meet
                case rel=>exact ⟨_,_,_,LP9,⟨.inr ⟨H11.out,_,HB.out,by rw [HXA.out];rfl⟩⟩⟩
          case rest =>
            clear LP
            obtain ⟨vr,ys,st8,LP,HY⟩:=hcut
            obtain ⟨A2,c2,rfl⟩:=Kd.R_slice LP.out.row
            go_wp2_with (first
              | (go_at_call 53;refine (takeR_ x _ st8 LP.out.tw.qd sShut).mono ?_;rintro e w20 ⟨rfl,hq,hg⟩;have lp:=LP.out.call hq hg;have LP:=Aside0.mk lp;have a0:=lp.tw.cell 0;have a1:=lp.tw.cell 1;have a2:=lp.tw.cell 2;have a3:=lp.tw.cell 3;have a4:=lp.tw.cell 4;have a5:=lp.tw.cell 5;have a6:=lp.tw.cell 6;clear lp hq hg)
              | ((with_reducible refine gate_store (t:=50) (p:=4) rfl ?_);refine store_row rfl rfl rfl w.heap.size _ rfl rfl LP.out.tw.res (by kernel_rfl) rfl (by kernel_rfl) ?_;intro w21 hf hg;have HF7:=Aside0.mk hf;have HG7:=Aside0.mk hg;clear hf hg))
            refine bodyPost_ret (results_cell_row rfl _ _ w.heap.size 50 _ (0,0) _ rfl HF7.out Tryz.underlying50 rfl (by kernel_rfl)) rfl ?_
            have hz:=LP.out.tw.fin HG7.out
            have hwt:=LP.out.tw.wt
            refine ⟨⟨op,0,0,z40,ys⟩,takeQ x.T sShut st8,_,?_,rfl,⟨_,rfl,k50_mkM _ _ _ ⟨_,_,_,z40,_⟩ (Kd.R_lower (R_keep LP.out.row HG7.out (Nat.lt_succ_of_lt hwt)) (Nat.le_succ_of_le (Nat.le_of_lt hwt)))⟩,hz.1,hz.2⟩
            have hs : (oneQ x.T wSigns (takeQ x.T sOpen st3)) = (s,st6):=H6.out
            unfold headX
            rw [if_neg HK.out,lif_f H1.out,cnt_f H2.out,pow_f H3.out,opnX,if_pos HB2.out,if_neg (by have:=of_decide_eq_false HBB.out;exact this),hmm]
            unfold bodyX
            rw [hs]
            simp only
            rw [HOP.out,HA.out]
            rcases HY.out with ⟨h11,hy,h8⟩ | ⟨h11,b,hb,hy⟩
            · rw [if_pos h11,h11,hy,h8]
            · rw [if_neg h11,hb,hy]
      · go_wp2_with (first
          | (go_at_call 49;refine HIS.out.mono ?_;rintro e w16 ⟨rfl,hq,hb⟩;have HQ:=Aside0.mk hq;have HG:=Aside0.mk (HG.out.trans (grown_of_below hb _));have HF:=Aside0.mk (blk_below HF.out hb);clear hq hb)
          | (go_at_call 22;refine (fails_ x _ st3 HQ.out 3 (by decide)).mono ?_;rintro e w17 ⟨rfl,hq,hg⟩;have HQ:=Aside0.mk hq;have HF:=Aside0.mk (own_grown HF.out hg (Nat.ne_of_gt HRL.out));have HG:=Aside0.mk (HG.out.trans hg);clear hq hg)
          | ((with_reducible refine gate_store (t:=50) (p:=4) rfl ?_);refine store_row rfl rfl rfl w.heap.size _ rfl rfl HF.out (by kernel_rfl) rfl (by kernel_rfl) ?_;intro w7 hf hg;have HF7:=Aside0.mk hf;have HG7:=Aside0.mk hg;clear hf hg))
        refine bodyPost_ret (results_cell_row rfl _ _ w.heap.size 50 _ (0,0) _ rfl HF7.out Tryz.underlying50 rfl (by kernel_rfl)) rfl ?_
        have hz:=exprEnd HQ.out HG.out HRL.out HBL.out HWL.out HG7.out
        refine ⟨z50,failQ x.T 3 st3,_,?_,rfl,rExpr.leaf _ _ _ _ _ _ _ _,hz.1,hz.2⟩
        unfold headX;rw [if_neg HK.out];rw [lif_f H1.out,cnt_f H2.out,pow_f H3.out,opnX,if_pos HB2.out,if_pos (of_decide_eq_true HBB.out)]
  · refine bodyPost_ret (results_cell_row rfl _ _ w.heap.size 50 _ (0,0) _ rfl HF7.out Tryz.underlying50 rfl (by kernel_rfl)) rfl ?_
    have hz:=exprEnd HQ.out HG.out HRL.out HBL.out HWL.out HG7.out
    refine ⟨⟨3,0,0,z40,[]⟩,st3,_,?_,rfl,rExpr.leaf _ _ _ _ _ _ _ _,hz.1,hz.2⟩
    unfold headX;rw [if_neg HK.out];rw [lif_f H1.out,cnt_f H2.out,pow_t H3.out]
  · refine bodyPost_ret (results_cell_row rfl _ _ w.heap.size 50 _ (0,0) _ rfl HF7.out Tryz.underlying50 rfl (by kernel_rfl)) rfl ?_
    have hz:=exprEnd HQ.out HG.out HRL.out HBL.out HWL.out HG7.out
    refine ⟨⟨2,0,0,sl,[]⟩,st5,_,?_,rfl,rExpr.leaf _ _ _ _ _ _ _ _,hz.1,hz.2⟩
    unfold headX;rw [if_neg HK.out];rw [lif_f H1.out,cnt_t H2.out,H5.out]
  · refine bodyPost_ret (results_cell_row rfl _ _ w.heap.size 50 _ (0,0) _ rfl HF7.out Tryz.underlying50 rfl (by kernel_rfl)) rfl ?_
    have hz:=exprEnd HQ.out HG.out HRL.out HBL.out HWL.out HG7.out
    refine ⟨⟨1,0,sd,z40,[]⟩,st5,_,?_,rfl,rExpr.leaf _ _ _ _ _ _ _ _,hz.1,hz.2⟩
    unfold headX;rw [if_neg HK.out];rw [lif_t H1.out,H5.out]
/-- an expression, at any depth -/
theorem exprE_ (x : Cx) : ∀ (l : Nat),l ≤ 6 → ∀ (w : World) (st : St),Qd x w st → Calls Tryz.prog 28 #[.pointer (some ⟨x.r,0,none⟩),.int .i64 (6 - (l : Int))] w (QP x w (rExpr w.heap.size) (exprQ x.T l) st)
  | 0,hl,w,st,h=>by
    by_cases hk : (nextQ x.T st).f0 = 2
    · exact expr_num x _ 0 _ w st h hk
    · exact expr_all x _ 0 0 rfl hl _ (fun hh => absurd hh (by decide)) (fun l' e => by cases e) w st h hk
  | l + 1,hl,w,st,h=>by
    by_cases hk : (nextQ x.T st).f0 = 2
    · exact expr_num x _ (l + 1) _ w st h hk
    · exact expr_all x _ 0 (l + 1) rfl hl _ (fun _ => ⟨l, rfl, rfl⟩) (fun l' e => by cases e; exact exprE_ x l (Nat.le_of_succ_le hl)) w st h hk
theorem exprE (x : Cx) (w : World) (st : St) (h : Qd x w st) : Calls Tryz.prog 28 #[.pointer (some ⟨x.r,0,none⟩),.int .i64 0] w (QP x w (rExpr w.heap.size) (exprQ x.T 6) st):=exprE_ x 6 (Nat.le_refl _) w st h
end Go.Proofs.YtmgdkkkkanjadaaGreatDoor.RefA
