/-
  parse's reader: expressions, whole; steps. Conditions: what the listed package variables hold.
-/
import Derived.Test.YtmgdkkkkanjadaaGreatDoorHandB
import Derived.Laws.Tables
/-
  parse's reader: expressions. Conditions: what the listed package variables hold.
-/
namespace Go.Proofs.YtmgdkkkkanjadaaGreatDoor.HandA
set_option linter.unusedVariables false
set_option linter.unusedSimpArgs false
open Go.RowKit Go.Shelf Go.Lib Go.Proofs.YtmgdkkkkanjadaaGreatDoorW.PrintWords Go.Proofs.YtmgdkkkkanjadaaGreatDoorW.PrintLast Go.Proofs.YtmgdkkkkanjadaaGreatDoorW.PrintMore Go.Proofs.YtmgdkkkkanjadaaGreatDoor.X
theorem Rd.other {x : Cx} {w w1 : World} {j g : Nat} (h : Rd x w j) (hg : w.grownBy w1 (some g)) (hr : g ≠ x.r) (hB : g ≠ x.B) (hW : x.W0.heap.size ≤ g) : Rd x w1 j :=
  ⟨h.lt,blk_grown h.row hg (fun e=>hr (Option.some.inj e).symm),fun k hk=>(h.tk k hk).grown hg (fun e=>hB e.symm),h.hc,h.hm,h.ne,pw_below_grown h.below (some g) h.below.size hg (fun k e=>by cases e;exact hW),h.hr⟩
theorem Rd.under {x : Cx} {w w1 : World} {j base : Nat} (h : Rd x w j) (hb : Below base w w1) (hr : x.r < base) (hB : x.B < base) (hW : x.W0.heap.size ≤ base) : Rd x w1 j :=
  ⟨h.lt,by rw [hb.block _ hr];exact h.row,fun k hk=>by
    obtain ⟨t0,t1,t2,t3⟩:=h.tk k hk
    exact ⟨(hb.cell (p:=⟨x.B,_,none⟩) hB).trans t0,(hb.cell (p:=⟨x.B,_,none⟩) hB).trans t1,(hb.cell (p:=⟨x.B,_,none⟩) hB).trans t2,(hb.cell (p:=⟨x.B,_,none⟩) hB).trans t3⟩,h.hc,h.hm,h.ne,
    ⟨hb.os.trans h.below.os,hb.tape.trans h.below.tape,hb.output.trans h.below.output,Nat.le_trans h.below.size hb.size,fun k hk=>by rw [hb.block k (Nat.lt_of_lt_of_le hk hW),h.below.block k hk]⟩,h.hr⟩
theorem grown_other {w0 w w1 : World} {r g : Nat} (h : w0.grownBy w (some r)) (hg : w.grownBy w1 (some g)) (hw : w0.heap.size ≤ g) : w0.grownBy w1 (some r) :=
  ⟨hg.os.trans h.os,hg.tape.trans h.tape,hg.output.trans h.output,Nat.le_trans h.size hg.size,fun k hk hne=>by rw [hg.block k (Nat.lt_of_lt_of_le hk h.size) (fun e=>by have:=Option.some.inj e;omega),h.block k hk hne]⟩
theorem grown_under {w0 w w1 : World} {r base : Nat} (h : w0.grownBy w (some r)) (hb : Below base w w1) (hw : w0.heap.size ≤ base) : w0.grownBy w1 (some r) :=
  ⟨hb.os.trans h.os,hb.tape.trans h.tape,hb.output.trans h.output,Nat.le_trans h.size hb.size,fun k hk hne=>by rw [hb.block k (Nat.lt_of_lt_of_le hk hw),h.block k hk hne]⟩
theorem obind_assoc {α β γ : Type} (p : Option (Out α)) (q : α → Nat → Option (Out β)) (s : β → Nat → Option (Out γ)) : obind (obind p q) s = obind p (fun a j=>obind (q a j) s):=by
  cases p with
  | none=>rfl
  | some o=>cases o <;> rfl
theorem setRow_at {W : World} {g : Nat} {old cells : Array Value} {t : TypeId} (h : W.heap[g]? = some (.cells old t (0,0))) : (W.setRow g cells).heap[g]? = some (.cells cells t (0,0)):=by
  simp [World.setRow,Array.getElem?_modify,h]
theorem grown_setRow (W : World) (g : Nat) (cells : Array Value) : W.grownBy (W.setRow g cells) (some g) :=
  ⟨rfl,rfl,rfl,by simp [World.setRow],fun k hk hne=>by
    have : g ≠ k:=fun e=>hne (by rw [e])
    simp [World.setRow,Array.getElem?_modify,this]⟩
section
variable {ops : Array Oper} {rest : List Oper} {o : Oper} {a : Act} {Q : Exit → Act → World → Prop}
/-- a struct stored into a block of the call's own -/
theorem store_row {W : World} (hgd : o.guard = none) {ty : TypeId} {u y : Operand} (ho : o.op = .store ty u y) (hN : o.dst = none) (g : Nat) (cells : Array Value) (hx : a.eval u = .pointer (some ⟨g,0,none⟩)) (hy : a.eval y = .agg cells) {t : TypeId} {old : Array Value}
    (hg : W.heap[g]? = some (.cells old t (0,0))) (hi : (Tryz.prog.info? ty).map (·.size) = some cells.size) (hold : old.size = cells.size) (h1 : cells.all (·.oneCell') = true)
    (h : ∀ W1,W1.heap[g]? = some (.cells cells t (0,0)) → W.grownBy W1 (some g) → wpList Tryz.prog ops Q rest a W1) : wpList Tryz.prog ops Q (o :: rest) a W:=by
  refine wpList_plain hgd fun K hK=>?_
  refine wp_store_row ty u y ho g cells hx hy t old hg hi hold h1 ?_
  rw [hN]
  exact hK _ _ (h _ (setRow_at hg) (grown_setRow W g cells))
theorem goesP_ {P : Program} {oi : Oper} {N : Option Tmp} {w : World} {K : Act → World → Prop} {f : FuncId} {fn : Func} {xs_ : Array Operand} {ts : Array TypeId} (hf : P.funcs[f]? = some fn) (hname : (fn.name == "runtime.NumGoroutine") = false) (hb : fn.body.isSome = true) (args : Array Value)
    (hw : Region.wanted oi (yielded ops a.tmps) = true) (hN : oi.dst = N) (hop : oi.op = .call { callee:=.value (.func f),args:=xs_,argTypes:=ts }) (hargs : xs_.map a.eval = args)
    (h : Calls P f args w fun
      | .returned v, w'' => K (a.put N v) w''
      | .panicked chain, w'' => Q (.panic chain) a w''
      | .outgrown,_=>LetsOut Q) : if Region.wanted oi (yielded ops a.tmps) = true then Oper.wp P oi a w K Q else K (a.put N undef) w:=by
  rw [if_pos hw]
  subst hN
  have he:=enters_ hf hname hb args w
  have hrun : (execOp a.eval oi).run P w = .ok (.enter f args) w:=by
    unfold execOp
    simp [hop,resolve,Deferred.ofValue,invoke,Act.eval,hargs,he]
  unfold Oper.wp
  rw [hrun,Oper.upon_enter]
  exact h
end
end Go.Proofs.YtmgdkkkkanjadaaGreatDoor.HandA
namespace Go.Proofs.YtmgdkkkkanjadaaGreatDoor.HandC
set_option linter.unusedVariables false
set_option linter.unusedSimpArgs false
open Go.RowKit Go.Shelf Go.Lib Go.Proofs.YtmgdkkkkanjadaaGreatDoorW.PrintWords Go.Proofs.YtmgdkkkkanjadaaGreatDoorW.PrintLast Go.Proofs.YtmgdkkkkanjadaaGreatDoorW.PrintMore Go.Proofs.YtmgdkkkkanjadaaGreatDoor.X Go.Proofs.YtmgdkkkkanjadaaGreatDoor.HandS Go.Proofs.YtmgdkkkkanjadaaGreatDoor.HandA Go.Proofs.YtmgdkkkkanjadaaGreatDoor.HandB

abbrev sLife : ByteArray:=⟨#[108,105,102,101]⟩
abbrev sCount : ByteArray:=⟨#[99,111,117,110,116]⟩
abbrev sPower : ByteArray:=⟨#[112,111,119,101,114]⟩
abbrev sOpen : ByteArray:=⟨#[40]⟩
abbrev sShut : ByteArray:=⟨#[41]⟩
/-- the parts of an expression: one, or two -/
def argsS (rec : Nat → Option (Out S50)) (op : Int) : Nat → List S50 → Nat → Option (Out (List S50))
  | 0,xs,j=>some (.ok xs j)
  | k + 1,xs,j=>obind (rec j) fun a j=>if op = 11 then some (.ok (xs ++ [a]) j) else argsS rec op k (xs ++ [a]) j
def partS (T : List S69) (rec : Nat → Option (Out S50)) (s : Int) (j : Nat) : Option (Out S50) :=
  obind (argsS rec ((4 + s) % 256) 2 [] j) fun xs j=>obind (mustS T sShut j) fun _ j=>some (.ok ⟨(4 + s) % 256,0,0,z40,xs⟩ j)
def openS (T : List S69) (l : Nat) (more : Int → Nat → Option (Out S50)) (j : Nat) : Option (Out S50) :=
  if (isS T sOpen j && decide (l < 2)) = true then some (.bad 3 j) else obind (mustS T sOpen j) fun _ j=>obind (oneS T wSigns j) fun s j=>more s j
def headS (T : List S69) (l : Nat) (more : Int → Nat → Option (Out S50)) (j : Nat) : Option (Out S50) :=
  if (tkAt T j).f0 = 2 then obind (numS T j) fun n j=>some (.ok ⟨0,n,0,z40,[]⟩ j) else
  obind (mayS T sLife j) fun b j=>match b with
  | true=>obind (sideS T j) fun s j=>some (.ok ⟨1,0,s,z40,[]⟩ j)
  | false=>obind (mayS T sCount j) fun b j=>match b with
    | true=>obind (selS T j) fun s j=>some (.ok ⟨2,0,0,⟨s.1,s.2.1,s.2.2⟩,[]⟩ j)
    | false=>obind (mayS T sPower j) fun b j=>match b with
      | true=>some (.ok ⟨3,0,0,z40,[]⟩ j)
      | false=>openS T l more j
def exprS (T : List S69) : Nat → Nat → Option (Out S50)
  | 0,j=>headS T 0 (fun _ _=>none) j
  | l + 1,j=>headS T (l + 1) (fun s j=>partS T (exprS T l) s j) j
/-- an expression handed back: its parts lie in memory from base on -/
def rExpr (base : Nat) (e : S50) (v : Value) (w : World) : Prop:=∃ cs : List Value,v = .agg cs.toArray ∧ k50.M w base (fun _=>True) e cs
theorem rExpr.leaf (base : Nat) (w : World) (op n side a b c : Int) : rExpr base ⟨op,n,side,⟨a,b,c⟩,[]⟩ (.agg #[.int .u8 op,.int .i64 n,.int .u8 side,.int .u8 a,.int .u8 b,.int .u8 c,.slice none 0 0]) w :=
  ⟨_,rfl,k50_mkM w base _ ⟨op,n,side,⟨a,b,c⟩,[]⟩ (Kd.R_nil _ _ _ _ _)⟩
abbrev Z50 : Array Value:=#[.int .u8 0,.int .i64 0,.int .u8 0,.int .u8 0,.int .u8 0,.int .u8 0,.slice none 0 0]
set_option maxHeartbeats 2000000 in
set_option maxRecDepth 100000 in
theorem expr_num (x : Cx) (hG : Tabs x.W0) (L : Int) (w : World) (j : Nat) (h : Rd x w j) (hk : (tkAt x.T j).f0 = 2) {o : Out S50} (ho : (obind (numS x.T j) fun n j=>some (.ok (⟨0,n,0,z40,[]⟩ : S50) j)) = some o) :
    Calls Tryz.prog 60 #[.pointer (some ⟨x.r,0,none⟩),.int .i64 L] w (Post x w (rExpr w.heap.size) o):=by
  have hr1:=h.below_ (below_alloc (Below.refl _ _) (.cells Z50 50))
  have HR:=Aside0.mk hr1
  have HG:=Aside0.mk (World.grownBy_alloc w (.cells Z50 50) (some x.r))
  have HF:=Aside0.mk (blk_new w (.cells Z50 50))
  have HL:=Aside0.mk (Nat.ne_of_gt h.rlt)
  have HLB:=Aside0.mk (Nat.ne_of_gt h.Blt)
  have HW:=Aside0.mk (Nat.le_of_lt (Nat.lt_of_le_of_lt h.hr h.rlt))
  have HT:=Aside0.mk hG
  have HO:=Aside0.mk ho
  have hu71:=Tryz.underlying71
  have hu69:=Tryz.underlying69
  obtain ⟨o',n,cc,c0,hn,hcc,t0,t1,t2,t3⟩:=hr1.head
  rw [hk] at t0
  clear h ho hG hr1 hk t1 t2 t3 hcc
  go_enter Tryz.func60,Tryz.ntmps60
  go_wp2_with (first
    | (go_at_call 41; refine step_ x HO.out (fun o1 h1 => number_ x _ _ HT.out HR.out h1) (fun e k w' he hr hg => by subst he; exact ⟨rfl, rfl, hr, HG.out.trans hg⟩) ?_; rintro a i v w1 hq rfl hr hg; have HR := Aside0.mk hr; have HG := Aside0.mk (HG.out.trans hg); have HF := Aside0.mk (own_grown HF.out hg HL.out); injection hq with hq; subst hq; clear hr hg)
    | ((with_reducible refine gate_store (t:=50) (p:=4) rfl ?_);refine store_row rfl rfl rfl w.heap.size _ rfl rfl HF.out (by kernel_rfl) rfl (by kernel_rfl) ?_;intro w2 hf2 hg2;have HF2:=Aside0.mk hf2;have HG2:=Aside0.mk hg2;clear hf2 hg2))

  refine bodyPost_ret (results_cell_row rfl _ _ w.heap.size 50 #[.int .u8 0,.int .i64 a,.int .u8 0,.int .u8 0,.int .u8 0,.int .u8 0,.slice none 0 0] (0,0) _ rfl HF2.out Tryz.underlying50 rfl (by kernel_rfl)) rfl ?_
  exact ⟨_,rfl,rExpr.leaf _ _ _ _ _ _ _ _,HR.out.other HG2.out HL.out HLB.out HW.out,grown_other HG.out HG2.out (Nat.le_refl _)⟩
theorem info50 : (Tryz.prog.info? 50).map (fun i=>(i.zero,i.size,i.bytes)) = some (some (.agg Z50),7,48):=by kernel_rfl
/-- the loop over an expression's parts: the expression at t, its parts so far -/
structure Lp (x : Cx) (w wr : World) (t : Nat) (op : Int) (vr : Value) (xs : List S50) (j : Nat) : Prop where
  rd : Rd x wr j
  gr : w.grownBy wr (some x.r)
  res : wr.heap[w.heap.size]? = some (.cells Z50 50 (0,0))
  own : wr.heap[t]? = some (.cells #[.int .u8 op,.int .i64 0,.int .u8 0,.int .u8 0,.int .u8 0,.int .u8 0,vr] 50 (0,0))
  row : k50.R 50 wr (t + 1) (fun _=>True) vr xs
  wt : w.heap.size < t
  rt : x.r < t
  Bt : x.B < t
theorem R_keep {wr w1 : World} {base r : Nat} {vr : Value} {xs : List S50} (h : k50.R 50 wr base (fun _=>True) vr xs) (hg : wr.grownBy w1 (some r)) (hr : r < base) : k50.R 50 w1 base (fun _=>True) vr xs :=
  Kd.R_mono (Kd.R_grown (Kd.R_bound h) hg (fun k hk e=>by have:=hk.2.1;have:=Option.some.inj e;omega)) (fun _ _=>trivial)
theorem Lp.call {x : Cx} {w wr w1 : World} {t : Nat} {op : Int} {vr : Value} {xs : List S50} {j i : Nat} (h : Lp x w wr t op vr xs j) (hr : Rd x w1 i) (hg : wr.grownBy w1 (some x.r)) : Lp x w w1 t op vr xs i :=
  ⟨hr,h.gr.trans hg,own_grown h.res hg (by have:=h.rt;have:=h.wt;intro e;have hlt:=Nat.lt_of_lt_of_le (blk_lt h.res) (Nat.le_refl _);have:=h.rd.rlt;exact absurd e (by
    intro e
    have hb:=h.res
    rw [e,h.rd.row] at hb
    injection hb with hb
    injection hb with _ hb
    exact absurd hb (by decide))),own_grown h.own hg (Nat.ne_of_gt h.rt),R_keep h.row hg (Nat.lt_succ_of_lt h.rt),h.wt,h.rt,h.Bt⟩
theorem Lp.drew {x : Cx} {w wr : World} {t : Nat} {op : Int} {vr : Value} {xs : List S50} {j : Nat} (h : Lp x w wr t op vr xs j) : Lp x w wr.drew t op vr xs j :=
  h.call (h.rd.below_ (below_drew1 (Below.refl _ _))) (grown_of_below (below_drew1 (Below.refl _ _)) _)
/-- behind an append: the row stored -/
theorem Lp.put {x : Cx} {w w8 w9 : World} {t : Nat} {op : Int} {vr v1 : Value} {xs ys : List S50} {j : Nat} (h : Lp x w w8 t op vr xs j) (hb : Below (t + 1) w8 w9) (hR : k50.R 50 w9 (t + 1) (fun _=>True) v1 ys) : Lp x w (w9.setCell ⟨t,6,none⟩ v1) t op v1 ys j:=by
  have hW : x.W0.heap.size ≤ t:=Nat.le_of_lt (Nat.lt_of_le_of_lt h.rd.hr h.rt)
  have hrd:=h.rd.under hb (Nat.lt_succ_of_lt h.rt) (Nat.lt_succ_of_lt h.Bt) (Nat.le_succ_of_le hW)
  have hown : w9.heap[t]? = some (.cells #[.int .u8 op,.int .i64 0,.int .u8 0,.int .u8 0,.int .u8 0,.int .u8 0,vr] 50 (0,0)):=by rw [hb.block t (Nat.lt_succ_self t)];exact h.own
  have hres : w9.heap[w.heap.size]? = some (.cells Z50 50 (0,0)):=by rw [hb.block _ (Nat.lt_succ_of_lt h.wt)];exact h.res
  exact ⟨hrd.far hW (Nat.ne_of_gt h.Bt) (Nat.ne_of_gt h.rt) 6 v1,grown_far (grown_under h.gr hb (Nat.le_of_lt (Nat.lt_succ_of_lt h.wt))) (p:=⟨t,6,none⟩) (Nat.le_of_lt h.wt) v1,blk_far hres (p:=⟨t,6,none⟩) (Nat.ne_of_lt h.wt) v1,
    blk_put hown 6 v1 rfl,Kd.R_mono (Kd.R_far (Kd.R_bound hR) (p:=⟨t,6,none⟩) (fun k hk e=>by have:=hk.2.1;have e2 : k = t:=e;omega) v1) (fun _ _=>trivial),h.wt,h.rt,h.Bt⟩
set_option maxHeartbeats 4000000 in
set_option maxRecDepth 100000 in
theorem expr_more (x : Cx) (hG : Tabs x.W0) (l : Nat) (L : Int) (hL : L = (l : Int)) (hl : l ≤ 100) (more : Int → Nat → Option (Out S50))
    (hm : ∀ s j o, more s j = some o → ∃ l', l = l' + 1 ∧ partS x.T (exprS x.T l') s j = some o)
    (hI : ∀ l', l = l' + 1 → ∀ (w : World) (j : Nat), Rd x w j → ∀ o, exprS x.T l' j = some o → Calls Tryz.prog 60 #[.pointer (some ⟨x.r, 0, none⟩), .int .i64 (l' : Int)] w (Post x w (rExpr w.heap.size) o))
    (w : World) (j : Nat) (h : Rd x w j) (hk : (tkAt x.T j).f0 ≠ 2) {o : Out S50} (ho : headS x.T l more j = some o) :
    Calls Tryz.prog 60 #[.pointer (some ⟨x.r,0,none⟩),.int .i64 L] w (Post x w (rExpr w.heap.size) o):=by
  unfold headS at ho
  rw [if_neg hk] at ho
  have hr1:=h.below_ (below_alloc (Below.refl _ _) (.cells Z50 50))
  have HR:=Aside0.mk hr1
  have HG:=Aside0.mk (World.grownBy_alloc w (.cells Z50 50) (some x.r))
  have HF:=Aside0.mk (blk_new w (.cells Z50 50))
  have HL:=Aside0.mk (Nat.ne_of_gt h.rlt)
  have HLB:=Aside0.mk (Nat.ne_of_gt h.Blt)
  have HW:=Aside0.mk (Nat.le_of_lt (Nat.lt_of_le_of_lt h.hr h.rlt))
  have HT:=Aside0.mk hG
  have HO:=Aside0.mk ho
  have HM:=Aside0.mk hm
  have HI:=Aside0.mk hI
  have HLL:=Aside0.mk hL
  have HLE:=Aside0.mk hl
  have hu71:=Tryz.underlying71
  have hu69:=Tryz.underlying69
  obtain ⟨o',n,cc,c0,hn,hcc,t0,t1,t2,t3⟩:=hr1.head
  obtain ⟨q,hq⟩ : ∃ q,(tkAt x.T j).f0 = q:=⟨_,rfl⟩
  rw [hq] at t0 hk
  have n2 : (q == 2) = false:=beq_eq_false_iff_ne.2 hk
  obtain ⟨bl,hbl⟩ : ∃ bl,decide (L < 2) = bl:=⟨_,rfl⟩
  have HBL:=Aside0.mk (show decide (l < 2) = bl by rw [← hbl,hL];exact decide_eq_decide.mpr (by omega))
  clear h ho hG hr1 t1 t2 t3 hcc hm hI hq hL hl
  go_enter Tryz.func60,Tryz.ntmps60
  go_wp2_with (first
    | (go_at_call 70; refine step_ x HO.out (fun o1 h1 => may_ x _ _ HR.out _ h1) (fun e k w' he hr hg => by subst he; exact ⟨rfl, rfl, hr, HG.out.trans hg⟩) ?_; rintro a i v w1 hq rfl hr hg; have HR := Aside0.mk hr; have HG := Aside0.mk (HG.out.trans hg); have HF := Aside0.mk (own_grown HF.out hg HL.out); have HO := Aside0.mk hq; clear hq hr hg; cases a)
    | (go_at_call 72; refine step_ x HO.out (fun o1 h1 => side_ x _ _ HR.out h1) (fun e k w' he hr hg => by subst he; exact ⟨rfl, rfl, hr, HG.out.trans hg⟩) ?_; rintro a i v w1 hq rfl hr hg; have HR := Aside0.mk hr; have HG := Aside0.mk (HG.out.trans hg); have HF := Aside0.mk (own_grown HF.out hg HL.out); have HO := Aside0.mk hq; clear hq hr hg)
    | (go_at_call 75; refine step_ x HO.out (fun o1 h1 => sel_ x _ _ HR.out h1) (fun e k w' he hr hg => by subst he; exact ⟨rfl, rfl, hr, HG.out.trans hg⟩) ?_; rintro a i v w1 hq rfl hr hg; have HR := Aside0.mk hr; have HG := Aside0.mk (HG.out.trans hg); have HF := Aside0.mk (own_grown HF.out hg HL.out); have HO := Aside0.mk hq; clear hq hr hg)
    | ((with_reducible refine gate_store (t:=50) (p:=4) rfl ?_);refine store_row rfl rfl rfl w.heap.size _ rfl rfl HF.out (by kernel_rfl) rfl (by kernel_rfl) ?_;intro w2 hf2 hg2;have HF2:=Aside0.mk hf2;have HG2:=Aside0.mk hg2;clear hf2 hg2))
  rotate_left
  · have hq:=HO.out
    injection hq with hq
    subst hq
    refine bodyPost_ret (results_cell_row rfl _ _ w.heap.size 50 _ (0,0) _ rfl HF2.out Tryz.underlying50 rfl (by kernel_rfl)) rfl ?_
    exact ⟨_,rfl,rExpr.leaf _ _ _ _ _ _ _ _,HR.out.other HG2.out HL.out HLB.out HW.out,grown_other HG.out HG2.out (Nat.le_refl _)⟩
  · have hq:=HO.out
    injection hq with hq
    subst hq
    refine bodyPost_ret (results_cell_row rfl _ _ w.heap.size 50 _ (0,0) _ rfl HF2.out Tryz.underlying50 rfl (by kernel_rfl)) rfl ?_
    exact ⟨_,rfl,rExpr.leaf _ _ _ _ _ _ _ _,HR.out.other HG2.out HL.out HLB.out HW.out,grown_other HG.out HG2.out (Nat.le_refl _)⟩
  · have hq:=HO.out
    injection hq with hq
    subst hq
    refine bodyPost_ret (results_cell_row rfl _ _ w.heap.size 50 _ (0,0) _ rfl HF2.out Tryz.underlying50 rfl (by kernel_rfl)) rfl ?_
    exact ⟨_,rfl,rExpr.leaf _ _ _ _ _ _ _ _,HR.out.other HG2.out HL.out HLB.out HW.out,grown_other HG.out HG2.out (Nat.le_refl _)⟩
  · have hop : openS x.T l more i = some o:=HO.out
    unfold openS at hop
    go_wp2_with (first
      | (go_at_call 38;refine (is_ x _ _ HR.out _).mono ?_;rintro e w3 ⟨rfl,rfl⟩;rw [HBL.out] at hop;cases hb : isS x.T sOpen i <;> rw [hb] at hop <;> cases bl)
      | (go_at_call 36;injection hop with hop;subst hop;refine (fail_ x _ _ HR.out 3).mono ?_;rintro e w4 ⟨rfl,rfl⟩;exact ⟨rfl,rfl,HR.out,HG.out⟩))
    · rw [if_neg (by decide)] at hop
      have hmust : mustS x.T sOpen i = some (.bad 5 i):=by unfold mustS mayS;rw [if_neg (by rw [hb];decide)];rfl
      rw [hmust] at hop
      injection hop with hop
      subst hop
      refine (must_ x _ _ HR.out sOpen hmust).mono ?_
      rintro e w4 ⟨rfl,hr,hg⟩
      exact ⟨rfl,rfl,hr,HG.out.trans hg⟩
    · rw [if_neg (by decide)] at hop
      have hmust : mustS x.T sOpen i = some (.bad 5 i):=by unfold mustS mayS;rw [if_neg (by rw [hb];decide)];rfl
      rw [hmust] at hop
      injection hop with hop
      subst hop
      refine (must_ x _ _ HR.out sOpen hmust).mono ?_
      rintro e w4 ⟨rfl,hr,hg⟩
      exact ⟨rfl,rfl,hr,HG.out.trans hg⟩
    · rw [if_neg (by decide)] at hop
      replace HO:=Aside0.mk hop
      clear hop hb
      go_wp2_with (first
        | (go_at_call 42; refine step_ x HO.out (fun o1 h1 => must_ x _ _ HR.out _ h1) (fun e k w' he hr hg => by subst he; exact ⟨rfl, rfl, hr, HG.out.trans hg⟩) ?_; rintro a i v w4 hq rfl hr hg; have HR := Aside0.mk hr; have HG := Aside0.mk (HG.out.trans hg); have HF := Aside0.mk (own_grown HF.out hg HL.out); have HO := Aside0.mk hq; clear hq hr hg)
        | (go_at_call 92;refine (signs_ _).mono ?_;rintro e w5 ⟨rfl,rfl⟩;have HWD:=Aside0.mk (Wd.new w4 wSigns);have HR:=Aside0.mk (HR.out.below_ (below_alloc (Below.refl _ _) (.cells (wSigns.map Value.string).toArray 9)));have HG:=Aside0.mk (HG.out.trans (World.grownBy_alloc w4 (.cells (wSigns.map Value.string).toArray 9) (some x.r)));have HF:=Aside0.mk (blk_alloc HF.out (.cells (wSigns.map Value.string).toArray 9)))
        | (go_at_call 39; refine step_ x HO.out (fun o1 h1 => one_ x _ _ HR.out wSigns _ 8 HWD.out (by decide) h1) (fun e k w' he hr hg => by subst he; exact ⟨rfl, rfl, hr, HG.out.trans hg⟩) ?_; rintro s i v w6 hq rfl hr hg; obtain ⟨l', hll, hq⟩ := HM.out _ _ _ hq; have HR := Aside0.mk hr; have HG := Aside0.mk (HG.out.trans hg); have HF := Aside0.mk (own_grown HF.out hg HL.out); have HO := Aside0.mk hq; clear hq hr hg))
      have hp:=HO.out
      unfold partS at hp
      generalize (4 + s) % 256 = op at hp ⊢
      have HP:=Aside0.mk hp
      have hwl : wrap64 (L - 1) = (l' : Int) := by rw [HLL.out, hll]; have := HLE.out; unfold wrap64; omega
      have hwl2 : IntKind.i64.wrap (L - 1) = (l' : Int) := (i64_w _).trans hwl
      have lp0 : Lp x w (w6.alloc (.cells #[.int .u8 op,.int .i64 0,.int .u8 0,.int .u8 0,.int .u8 0,.int .u8 0,.slice none 0 0] 50)) w6.heap.size op (.slice none 0 0) [] i :=
        ⟨HR.out.below_ (below_alloc (Below.refl _ _) _),HG.out.trans (World.grownBy_alloc _ _ _),blk_alloc HF.out _,blk_new _ _,Kd.R_nil _ _ _ _ _,blk_lt HF.out,HR.out.rlt,HR.out.Blt⟩
      have LP0:=Aside0.mk lp0
      clear hp lp0
      go_loopg [50] 2 (fun g s50 wr=>∃ (k : Nat) (xs : List S50) (vr : Value) (jj : Nat),s50 = .int .i64 (k : Int) ∧ k ≤ 2 ∧ 2 - k ≤ g ∧ Aside0 (xs.length = k) ∧ Aside0 (Lp x w wr w6.heap.size op vr xs jj) ∧
        Aside0 ((obind (argsS (exprS x.T l') op (2 - k) xs jj) fun xs j=>obind (mustS x.T sShut j) fun _ j=>some (.ok (⟨op,0,0,z40,xs⟩ : S50) j)) = some o))
      case atStart=>exact ⟨0,[],.slice none 0 0,i,rfl,by decide,by decide,⟨rfl⟩,LP0,HP⟩
      case round =>
        obtain ⟨k,xs,vr,jj,rfl,h1,h2,HXS,LP,HA⟩:=hrel
        by_cases hlt : k < 2
        · have hlt' : decide ((k : Int) < 2) = true := decide_eq_true (by omega)
          have ek : wrap64 ((k : Int) + 1) = ((k + 1 : Nat) : Int):=by unfold wrap64;omega
          obtain ⟨m,hm⟩ : ∃ m,2 - k = m + 1:=⟨1 - k,by omega⟩
          have ha:=HA.out
          rw [hm,argsS,obind_assoc] at ha
          have HE:=Aside0.mk ha
          have HM1:=Aside0.mk (show m = 2 - (k + 1) by omega)
          clear ha
          obtain ⟨g,rfl⟩ : ∃ g,gk = g + 1:=⟨gk - 1,by omega⟩
          obtain ⟨A,c,rfl⟩:=Kd.R_slice LP.out.row
          have b6 : wr.cell? ⟨w6.heap.size,6,none⟩ = some (.slice A xs.length c):=blk_cell LP.out.own 6
          go_wp2_with fail
          go_region_law (first
            | (refine goesP_ Tryz.func60 (by kernel_rfl) rfl #[.pointer (some ⟨x.r, 0, none⟩), .int .i64 (l' : Int)] (by rfl) rfl rfl (by (try simp only [List.map_toArray, List.map_cons, List.map_nil]); first | done | rfl) ?_
               refine step_ x HE.out (fun o1 h1 => HI.out l' hll _ _ LP.out.drew.rd o1 h1) (fun e k w' he hr hg => by subst he; exact ⟨rfl, rfl, hr, LP.out.drew.gr.trans hg⟩) ?_
               rintro a i2 v w8 hq ⟨cs,rfl,hM⟩ hr hg
               obtain ⟨v6,rfl,hR6⟩:=k50_openM hM
               have HQ:=Aside0.mk hq
               have lp8:=LP.out.drew.call hr hg
               have LP8:=Aside0.mk lp8
               have HMM:=Aside0.mk hM
               have d6 : w8.cell? ⟨w6.heap.size,6,none⟩ = some (.slice A xs.length c):=blk_cell lp8.own 6
               have d7 : (w8.alloc (.cells #[.int .u8 a.f0,.int .i64 a.f1,.int .u8 a.f2,.int .u8 a.f3.f0,.int .u8 a.f3.f1,.int .u8 a.f3.f2,v6] 50)).cell? ⟨w6.heap.size,6,none⟩ = some (.slice A xs.length c):=blk_cell (blk_alloc lp8.own _) 6
               clear hq hM hr hg lp8 hR6)
            | (refine Kd.R_append_step k50 (w0:=w8) (w6.heap.size + 1) (by rfl) (.tmp 53) (.tmp 58) 31 50 (.agg Z50) 48 rfl Tryz.underlying31 info50 rfl (by decide) (by decide) (.slice A xs.length c) xs a [.int .u8 a.f0,.int .i64 a.f1,.int .u8 a.f2,.int .u8 a.f3.f0,.int .u8 a.f3.f1,.int .u8 a.f3.f2,v6] (fun _=>True) (fun k=>True ∧ some k ≠ (Value.slice A xs.length c).ownBlock) rfl rfl ?aM (fun k hk=>⟨trivial,hk.2⟩) (fun _ _=>trivial) LP8.out.row (Below.refl _ _) (blk_lt LP8.out.own) ?aL ?_
               case aM =>
                 obtain ⟨inner,ho⟩:=Kd.R_own LP.out.row
                 exact k50.M_lower (blk_lt LP.out.own) (Kd.M_new (W:=wr.drew) HMM.out ho)
               case aL=>have:=HXS.out;omega
               intro v1 w9 ho hb hg hat
               obtain ⟨A1,c1,rfl⟩:=Kd.R_slice ho
               rw [show (xs ++ [a]).length = xs.length + 1 from by simp] at ho ⊢
               have lp9:=LP8.out.put hb ho
               have LP9:=Aside0.mk lp9
               have e0 : w9.cell? ⟨w6.heap.size,6,none⟩ = some (.slice A xs.length c):=by
                 rw [hb.cell (p:=⟨w6.heap.size,6,none⟩) (Nat.lt_succ_self _)]
                 exact blk_cell LP8.out.own 6
               have e1 : w9.frozen? ⟨w6.heap.size,6,none⟩ = false:=by
                 have hh : w9.heap[w6.heap.size]? = _:=(hb.block w6.heap.size (Nat.lt_succ_self _)).trans LP8.out.own
                 exact blk_frozen hh 6
               have e2 : w9.cell? ⟨w6.heap.size,0,none⟩ = some (.int .u8 op):=by
                 rw [hb.cell (p:=⟨w6.heap.size,0,none⟩) (Nat.lt_succ_self _)]
                 exact blk_cell LP8.out.own 0
               clear lp9 ho hb hg hat))
          all_goals
            have LP:=LP9
            by_cases h11 : op = 11
            · subst h11
              have hq:=HQ.out
              rw [if_pos rfl] at hq
              have HE : Aside0 ((obind (mustS x.T sShut i2) fun _ j=>some (.ok (⟨11,0,0,z40,xs ++ [a]⟩ : S50) j)) = some o):=⟨hq⟩
              clear hq
              go_wp2_with (first
                | (go_at_call 42; refine step_ x HE.out (fun o1 h1 => must_ x _ _ LP.out.rd _ h1) (fun e k w' he hr hg => by subst he; exact ⟨rfl, rfl, hr, LP.out.gr.trans hg⟩) ?_; rintro ua ui uv w11 hq rfl hr hg; injection hq with hq; subst hq; have lp := LP.out.call hr hg; have LQ := Aside0.mk lp; have a0 := blk_cell lp.own 0; have a1 := blk_cell lp.own 1; have a2 := blk_cell lp.own 2; have a3 := blk_cell lp.own 3; have a4 := blk_cell lp.own 4; have a5 := blk_cell lp.own 5; have a6 := blk_cell lp.own 6; clear lp hr hg)
                | ((with_reducible refine gate_store (t:=50) (p:=4) rfl ?_);refine store_row rfl rfl rfl w.heap.size _ rfl rfl LQ.out.res (by kernel_rfl) rfl (by kernel_rfl) ?_;intro w12 hf2 hg2;have HF2:=Aside0.mk hf2;have HG2:=Aside0.mk hg2;clear hf2 hg2))
              refine bodyPost_ret (results_cell_row rfl _ _ w.heap.size 50 _ (0,0) _ rfl HF2.out Tryz.underlying50 rfl (by kernel_rfl)) rfl ?_
              exact ⟨_,rfl,⟨_,rfl,k50_mkM _ _ _ ⟨_,_,_,z40,_⟩ (Kd.R_lower (R_keep LQ.out.row HG2.out (Nat.lt_succ_of_lt LQ.out.wt)) (Nat.le_succ_of_le (Nat.le_of_lt LQ.out.wt)))⟩,LQ.out.rd.other HG2.out HL.out HLB.out HW.out,grown_other LQ.out.gr HG2.out (Nat.le_refl _)⟩
            · have hq:=HQ.out
              rw [if_neg h11,HM1.out] at hq
              have HQ2:=Aside0.mk hq
              have n11 : (op == 11) = false:=beq_eq_false_iff_ne.2 h11
              clear hq
              go_wp2_with fail
              go_roundg g
              case measure=>omega
              case rel=>exact ⟨k + 1,xs ++ [a],_,i2,by first | rfl | rw [ek],by omega,by omega,⟨by rw [List.length_append,HXS.out];rfl⟩,LP,HQ2⟩
        · have hlt' : decide ((k : Int) < 2) = false := decide_eq_false (by omega)
          have hk2 : k = 2:=by omega
          subst hk2
          obtain ⟨A,c,rfl⟩:=Kd.R_slice LP.out.row
          have ha:=HA.out
          have HE : Aside0 ((obind (mustS x.T sShut jj) fun _ j=>some (.ok (⟨op,0,0,z40,xs⟩ : S50) j)) = some o):=⟨ha⟩
          clear ha
          go_wp2_with (first
            | (go_at_call 42; refine step_ x HE.out (fun o1 h1 => must_ x _ _ LP.out.rd _ h1) (fun e k w' he hr hg => by subst he; exact ⟨rfl, rfl, hr, LP.out.gr.trans hg⟩) ?_; rintro ua ui uv w11 hq rfl hr hg; injection hq with hq; subst hq; have lp := LP.out.call hr hg; have LQ := Aside0.mk lp; have a0 := blk_cell lp.own 0; have a1 := blk_cell lp.own 1; have a2 := blk_cell lp.own 2; have a3 := blk_cell lp.own 3; have a4 := blk_cell lp.own 4; have a5 := blk_cell lp.own 5; have a6 := blk_cell lp.own 6; clear lp hr hg)
            | ((with_reducible refine gate_store (t:=50) (p:=4) rfl ?_);refine store_row rfl rfl rfl w.heap.size _ rfl rfl LQ.out.res (by kernel_rfl) rfl (by kernel_rfl) ?_;intro w12 hf2 hg2;have HF2:=Aside0.mk hf2;have HG2:=Aside0.mk hg2;clear hf2 hg2))
          refine bodyPost_ret (results_cell_row rfl _ _ w.heap.size 50 _ (0,0) _ rfl HF2.out Tryz.underlying50 rfl (by kernel_rfl)) rfl ?_
          exact ⟨_,rfl,⟨_,rfl,k50_mkM _ _ _ ⟨_,_,_,z40,_⟩ (Kd.R_lower (R_keep LQ.out.row HG2.out (Nat.lt_succ_of_lt LQ.out.wt)) (Nat.le_succ_of_le (Nat.le_of_lt LQ.out.wt)))⟩,LQ.out.rd.other HG2.out HL.out HLB.out HW.out,grown_other LQ.out.gr HG2.out (Nat.le_refl _)⟩
end Go.Proofs.YtmgdkkkkanjadaaGreatDoor.HandC
namespace Go.Proofs.YtmgdkkkkanjadaaGreatDoor.HandD
set_option linter.unusedVariables false
set_option linter.unusedSimpArgs false
open Go.RowKit Go.Shelf Go.Lib Go.Proofs.YtmgdkkkkanjadaaGreatDoorW.PrintWords Go.Proofs.YtmgdkkkkanjadaaGreatDoorW.PrintLast Go.Proofs.YtmgdkkkkanjadaaGreatDoorW.PrintMore Go.Proofs.YtmgdkkkkanjadaaGreatDoor.X Go.Proofs.YtmgdkkkkanjadaaGreatDoor.HandS Go.Proofs.YtmgdkkkkanjadaaGreatDoor.HandA Go.Proofs.YtmgdkkkkanjadaaGreatDoor.HandB Go.Proofs.YtmgdkkkkanjadaaGreatDoor.HandC

theorem expr_ (x : Cx) (hG : Tabs x.W0) : ∀ (l : Nat),l ≤ 100 → ∀ (w : World) (j : Nat),Rd x w j → ∀ o,exprS x.T l j = some o → Calls Tryz.prog 60 #[.pointer (some ⟨x.r,0,none⟩),.int .i64 (l : Int)] w (Post x w (rExpr w.heap.size) o):=by
  intro l
  induction l with
  | zero =>
    intro hl w j h o ho
    rw [exprS] at ho
    by_cases hk : (tkAt x.T j).f0 = 2
    · unfold headS at ho
      rw [if_pos hk] at ho
      exact expr_num x hG _ w j h hk ho
    · exact expr_more x hG 0 _ rfl hl _ (fun s j o h => by cases h) (fun l' e => by cases e) w j h hk ho
  | succ l ih =>
    intro hl w j h o ho
    rw [exprS] at ho
    by_cases hk : (tkAt x.T j).f0 = 2
    · unfold headS at ho
      rw [if_pos hk] at ho
      exact expr_num x hG _ w j h hk ho
    · refine expr_more x hG (l + 1) _ rfl hl _ (fun s j o h => ⟨l, rfl, h⟩) (fun l' e => ?_) w j h hk ho
      obtain rfl : l = l' := by omega
      exact ih (by omega)
def valueS (T : List S69) (j : Nat) : Option (Out S50):=exprS T 6 j
set_option maxHeartbeats 1000000 in
set_option maxRecDepth 100000 in
theorem value_ (x : Cx) (hG : Tabs x.W0) (w : World) (j : Nat) (h : Rd x w j) {o : Out S50} (ho : valueS x.T j = some o) : Calls Tryz.prog 26 #[.pointer (some ⟨x.r,0,none⟩)] w (Post x w (rExpr w.heap.size) o):=by
  have HR:=Aside0.mk (h.below_ (below_alloc (Below.refl _ _) (.cells Z50 50)))
  have HG:=Aside0.mk (World.grownBy_alloc w (.cells Z50 50) (some x.r))
  have HF:=Aside0.mk (blk_new w (.cells Z50 50))
  have HL:=Aside0.mk (Nat.ne_of_gt h.rlt)
  have HLB:=Aside0.mk (Nat.ne_of_gt h.Blt)
  have HW:=Aside0.mk (Nat.le_of_lt (Nat.lt_of_le_of_lt h.hr h.rlt))
  have HT:=Aside0.mk hG
  unfold valueS at ho
  rw [← obind_ok (exprS x.T 6 j)] at ho
  have HO:=Aside0.mk ho
  clear h ho hG
  go_enter Tryz.func26,Tryz.ntmps26
  go_wp2_with (first
    | (go_at_call 60; refine step_ x HO.out (fun o1 h1 => expr_ x HT.out 6 (by decide) _ _ HR.out o1 h1) (fun e k w' he hr hg => by subst he; exact ⟨rfl, rfl, hr, HG.out.trans hg⟩) ?_; rintro a i v w1 hq ⟨cs, rfl, hM⟩ hr hg; injection hq with hq; subst hq; obtain ⟨v6, rfl, hR6⟩ := k50_openM hM; obtain ⟨A6, c6, rfl⟩ := Kd.R_slice hR6; have HMM := Aside0.mk hR6; have HR := Aside0.mk hr; have HG := Aside0.mk (HG.out.trans hg); have HF := Aside0.mk (own_grown HF.out hg HL.out); clear hr hg hM hR6)
    | ((with_reducible refine gate_store (t:=50) (p:=2) rfl ?_);refine store_row rfl rfl rfl w.heap.size _ rfl rfl HF.out (by kernel_rfl) rfl (by kernel_rfl) ?_;intro w2 hf2 hg2;have HF2:=Aside0.mk hf2;have HG2:=Aside0.mk hg2;clear hf2 hg2))
  refine bodyPost_ret (results_cell_row rfl _ _ w.heap.size 50 _ (0,0) _ rfl HF2.out Tryz.underlying50 rfl (by kernel_rfl)) rfl ?_
  refine ⟨_,rfl,⟨_,rfl,?_⟩,HR.out.other HG2.out HL.out HLB.out HW.out,grown_other HG.out HG2.out (Nat.le_refl _)⟩
  have hb : (w.alloc (.cells Z50 50)).heap.size = w.heap.size + 1:=size_alloc _ _
  have h6:=HMM.out
  rw [hb] at h6
  exact k50_mkM _ _ _ a (Kd.R_lower (R_keep h6 HG2.out (Nat.lt_succ_self _)) (Nat.le_succ _))
end Go.Proofs.YtmgdkkkkanjadaaGreatDoor.HandD
