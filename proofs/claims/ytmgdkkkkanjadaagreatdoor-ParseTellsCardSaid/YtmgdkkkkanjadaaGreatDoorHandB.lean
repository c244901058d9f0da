/-
  parse's reader: sides, which cards are meant. Conditions: what the listed package variables hold.
-/
import Derived.Test.YtmgdkkkkanjadaaGreatDoorHandA
import Derived.ArgAppend
namespace Go.Proofs.YtmgdkkkkanjadaaGreatDoor.HandA
open Go.RowKit Go.Shelf Go.Lib Go.Proofs.YtmgdkkkkanjadaaGreatDoorW.PrintWords Go.Proofs.YtmgdkkkkanjadaaGreatDoorW.PrintLast Go.Proofs.YtmgdkkkkanjadaaGreatDoorW.PrintMore Go.Proofs.YtmgdkkkkanjadaaGreatDoor.X
theorem grown_far {w W : World} {b : Nat} (h : w.grownBy W (some b)) {p : Addr} (hp : w.heap.size ≤ p.block) (u : Value) : w.grownBy (W.setCell p u) (some b) :=
  ⟨h.os,h.tape,h.output,by simpa [World.setCell] using h.size,fun k hk hne=>(Below.heap_setCell W p u k (by omega)).trans (h.block k hk hne)⟩
theorem Rd.far {x : Cx} {w : World} {j : Nat} (h : Rd x w j) {p : Nat} (hp : x.W0.heap.size ≤ p) (hB : p ≠ x.B) (hr : p ≠ x.r) (i : Nat) (u : Value) : Rd x (w.setCell ⟨p,i,none⟩ u) j:=by
  refine ⟨h.lt,blk_far h.row (p:=⟨p,i,none⟩) (fun e=>hr e.symm) u,fun k hk=>?_,h.hc,h.hm,h.ne,below_set h.below hp,h.hr⟩
  exact (h.tk k hk).grown (grown_set w p i u) (fun e=>hB e.symm)
theorem Rd.rlt {x : Cx} {w : World} {j : Nat} (h : Rd x w j) : x.r < w.heap.size:=blk_lt h.row
theorem Rd.Blt {x : Cx} {w : World} {j : Nat} (h : Rd x w j) : x.B < w.heap.size:=World.block_lt_of_cell? _ _ (h.tk j h.lt).1
theorem size_alloc (w : World) (o : Obj) : (w.alloc o).heap.size = w.heap.size + 1:=Array.size_push ..
end Go.Proofs.YtmgdkkkkanjadaaGreatDoor.HandA
namespace Go.Proofs.YtmgdkkkkanjadaaGreatDoor.HandB
set_option linter.unusedVariables false
set_option linter.unusedSimpArgs false
open Go.RowKit Go.Shelf Go.Lib Go.Proofs.YtmgdkkkkanjadaaGreatDoorW.PrintWords Go.Proofs.YtmgdkkkkanjadaaGreatDoorW.PrintLast Go.Proofs.YtmgdkkkkanjadaaGreatDoorW.PrintMore Go.Proofs.YtmgdkkkkanjadaaGreatDoor.X Go.Proofs.YtmgdkkkkanjadaaGreatDoor.HandS Go.Proofs.YtmgdkkkkanjadaaGreatDoor.HandA

set_option maxRecDepth 100000 in
theorem side_ (x : Cx) (w : World) (j : Nat) (h : Rd x w j) {o : Out Int} (ho : sideS x.T j = some o) : Calls Tryz.prog 72 #[.pointer (some ⟨x.r,0,none⟩)] w (Post x w rU8 o):=by
  have HR:=Aside0.mk (h.below_ (below_alloc (Below.refl _ _) (.cells (wSides.map Value.string).toArray 9)))
  have HA:=Aside0.mk (World.grownBy_alloc w (.cells (wSides.map Value.string).toArray 9) (some x.r))
  unfold sideS at ho
  rw [← obind_ok (oneS x.T wSides j)] at ho
  have HO:=Aside0.mk ho
  clear h ho
  go_enter Tryz.func72,Tryz.ntmps72
  go_wp2_with (first
    | (go_at_call 102;refine (sides_ _).mono ?_;rintro e w1 ⟨rfl,rfl⟩)
    | (go_at_call 39; refine step_ x HO.out (fun o1 h1 => one_ x _ j HR.out wSides _ 4 (Wd.new w _) (by decide) h1) (fun e k w' he hr hg => by subst he; exact ⟨rfl, rfl, hr, HA.out.trans hg⟩) ?_; rintro a i v w1 hq rfl hr hg; injection hq with hq; subst hq))
  go_ret
  exact ⟨_,rfl,rfl,hr,HA.out.trans hg⟩
theorem info9 : (Tryz.prog.info? 9).map (fun i=>(i.zero,i.size,i.bytes)) = some (some (.string ⟨#[]⟩),1,16):=by kernel_rfl
section
variable {ops : Array Oper} {rest : List Oper} {o : Oper} {a : Act} {Q : Exit → Act → World → Prop}
theorem sel_words {W : World} (hgd : o.guard = none) {s y : Operand} (hop : o.op = .call { callee:=.builtin .append,args:=#[s,y],argTypes:=#[45,45] }) (k1 k2 : Nat)
    (h1 : W.heap[k1]? = some (.cells #[.string ⟨#[97,108,108]⟩] 9 (0,0))) (h2 : W.heap[k2]? = some (.cells (wKinds.map Value.string).toArray 9 (0,0))) (hs : a.eval s = .slice (some ⟨k1,0,none⟩) 1 1) (hy : a.eval y = .slice (some ⟨k2,0,none⟩) 5 5)
    (h : ∀ g c w1,Wd w1 g wSel → Below W.heap.size W w1 → wpList Tryz.prog ops Q rest (a.put o.dst (.slice (some ⟨g,0,none⟩) 6 c)) w1) : wpList Tryz.prog ops Q (o :: rest) a W:=by
  obtain ⟨i0,hi,hzz⟩:=Option.map_eq_some_iff.1 info9
  rw [Prod.mk.injEq,Prod.mk.injEq] at hzz
  obtain ⟨hz0,hz1,hz2⟩:=hzz
  obtain ⟨v,w1,hrun,hown,hg⟩:=run_append_arg_grows (P:=Tryz.prog) W 45 o.type 9 i0 (.string ⟨#[]⟩) 1 16 Tryz.underlying45 hi hz0 hz1 hz2 rfl (by omega) ⟨k1,0,none⟩ 1 1 [.string ⟨#[97,108,108]⟩] rfl
    (World.news_of_block (cs:=#[.string ⟨#[97,108,108]⟩]) h1) ⟨k2,0,none⟩ 5 5 (wKinds.map Value.string) rfl (World.news_of_block (cs:=(wKinds.map Value.string).toArray) h2) (by omega) (by simp only [maxLen];omega) (by omega)
  rcases hown.2 with ⟨_,h0⟩ | ⟨g,cap,cur,rfl,_⟩
  · cases h0
  · refine Kd.event_run hgd (w1:=w1) (v:=.slice (some ⟨g,0,none⟩) 6 cap) ?_ (h g cap w1 (fun i hi=>?_) (pw_below_grown (Below.refl W.heap.size W) none (Nat.le_refl _) hg (fun k e=>by cases e)))
    · simp [execOp,hop,resolve,invoke,builtin,hs,hy,hrun,Result.andThen]
    · have hc:=hown.cells (g:=g) rfl i (.string (wSel.getD i ⟨#[]⟩)) (by
        have : ([Value.string ⟨#[97,108,108]⟩] ++ wKinds.map Value.string) = wSel.map Value.string:=rfl
        rw [this,List.getElem?_map,List.getElem?_eq_getElem hi,List.getD_eq_getElem?_getD,List.getElem?_eq_getElem hi]
        rfl)
      have ha : (⟨g,0,none⟩ : Addr).add i = ⟨g,i,none⟩:=by unfold Addr.add;split <;> simp_all
      rw [ha] at hc
      exact hc
end
/-- a block of the call's own, behind a call of the reader -/
theorem own_grown {w w1 : World} {g r : Nat} {o : Obj} (h : w.heap[g]? = some o) (hg : w.grownBy w1 (some r)) (hne : g ≠ r) : w1.heap[g]? = some o:=by
  rw [hg.block g (by rcases Nat.lt_or_ge g w.heap.size with h1 | h1;exact h1;rw [Array.getElem?_eq_none h1] at h;cases h) (fun e=>hne (Option.some.inj e)),h]
theorem sel_k1 (w3 : World) (o : Obj) : (((w3.alloc o).alloc (.cells #[.string ⟨#[97,108,108]⟩] 9)).alloc (.cells (wKinds.map Value.string).toArray 9)).heap[w3.heap.size + 1]? = some (.cells #[.string ⟨#[97,108,108]⟩] 9 (0,0)):=by
  have h:=blk_new (w3.alloc o) (.cells #[.string ⟨#[97,108,108]⟩] 9)
  rw [size_alloc] at h
  exact blk_alloc h _
theorem sel_k2 (w3 : World) (o : Obj) : (((w3.alloc o).alloc (.cells #[.string ⟨#[97,108,108]⟩] 9)).alloc (.cells (wKinds.map Value.string).toArray 9)).heap[w3.heap.size + 1 + 1]? = some (.cells (wKinds.map Value.string).toArray 9 (0,0)):=by
  have h:=blk_new ((w3.alloc o).alloc (.cells #[.string ⟨#[97,108,108]⟩] 9)) (.cells (wKinds.map Value.string).toArray 9)
  rw [size_alloc,size_alloc] at h
  exact h
set_option maxHeartbeats 1000000 in
set_option maxRecDepth 100000 in
theorem sel_ (x : Cx) (w : World) (j : Nat) (h : Rd x w j) {o : Out (Int × Int × Int)} (ho : selS x.T j = some o) : Calls Tryz.prog 75 #[.pointer (some ⟨x.r,0,none⟩)] w (Post x w rSel o):=by
  have HR:=Aside0.mk (h.below_ (below_alloc (Below.refl _ _) (.cells #[.int .u8 0,.int .u8 0,.int .u8 0] 40)))
  have HG:=Aside0.mk (World.grownBy_alloc w (.cells #[.int .u8 0,.int .u8 0,.int .u8 0] 40) (some x.r))
  have HF:=Aside0.mk (blk_new w (.cells #[.int .u8 0,.int .u8 0,.int .u8 0] 40))
  have HL:=Aside0.mk (Nat.ne_of_gt h.rlt)
  have HLB:=Aside0.mk (Nat.ne_of_gt h.Blt)
  have HW:=Aside0.mk (Nat.le_of_lt (Nat.lt_of_le_of_lt h.hr h.rlt))
  have hu40:=Tryz.underlying40
  unfold selS at ho
  have HO:=Aside0.mk ho
  clear h ho
  go_enter Tryz.func75,Tryz.ntmps75
  go_wp2_with (first
    | (go_at_call 72; refine step_ x HO.out (fun o1 h1 => side_ x _ j HR.out h1) (fun e k w' he hr hg => by subst he; exact ⟨rfl, rfl, hr, HG.out.trans hg⟩) ?_; rintro a i v w1 hq rfl hr hg; have HO1 := Aside0.mk hq; have HR1 := Aside0.mk (hr.below_ (below_alloc (Below.refl _ _) (.cells (wZones.map Value.string).toArray 9))); have HG1 := Aside0.mk ((HG.out.trans hg).trans (World.grownBy_alloc w1 (.cells (wZones.map Value.string).toArray 9) (some x.r))); have HF1 := Aside0.mk (blk_alloc (own_grown HF.out hg HL.out) (.cells (wZones.map Value.string).toArray 9)); clear hq hr hg)
    | (go_at_call 103;refine (zones_ _).mono ?_;rintro e w2 ⟨rfl,rfl⟩)
    | (go_at_call 39; refine step_ x HO2.out (fun o1 h1 => one_ x _ i2 HR4.out wSel g4 c4 HW4.out (by decide) h1) (fun e k w' he hr hg => by subst he; exact ⟨rfl, rfl, hr, HG4.out.trans hg⟩) ?_; rintro b3 i3 v3 w5 hq rfl hr hg; injection hq with hq; subst hq; have HR5 := Aside0.mk hr; have HG5 := Aside0.mk (HG4.out.trans hg); have HF5 := Aside0.mk (own_grown HF4.out hg HL.out); have HT5 := Aside0.mk (own_grown HT4.out hg HLT.out); have nf := HLF.out; have nf2 := HLF.out.symm; have d0 := (blk_cell HT5.out 0); have d1 := (blk_cell HT5.out 1); have d2 := (blk_cell HT5.out 2); have e2 := blk_frozen HT5.out 2; have f0 := blk_cell HF5.out 0; have f1 := blk_cell HF5.out 1; have f2 := blk_cell HF5.out 2; have g0 := blk_frozen HF5.out 0; have g1 := blk_frozen HF5.out 1; have g2 := blk_frozen HF5.out 2; clear hr hg)
    | (go_at_call 39; refine step_ x HO1.out (fun o1 h1 => one_ x _ i HR1.out wZones _ 6 (Wd.new w1 _) (by decide) h1) (fun e k w' he hr hg => by subst he; exact ⟨rfl, rfl, hr, HG1.out.trans hg⟩) ?_; rintro b i2 v2 w3 hq rfl hr hg; have HO2 := Aside0.mk hq; have HR2 := Aside0.mk hr; have HG2 := Aside0.mk (HG1.out.trans hg); have HF2 := Aside0.mk (own_grown HF1.out hg HL.out); have HT2 := Aside0.mk (blk_new w3 (.cells #[.int .u8 a, .int .u8 b, .int .u8 0] 40)); have HLT := Aside0.mk (Nat.ne_of_gt hr.rlt); have HLF := Aside0.mk (Nat.ne_of_lt (blk_lt HF2.out)); have HLB3 := Aside0.mk (Nat.ne_of_gt hr.Blt); have HS3 := Aside0.mk (Nat.le_of_lt (blk_lt HF2.out)); clear hq hr hg)
    | (go_at_call 16;refine (kinds_ _).mono ?_;rintro e w9 ⟨rfl,rfl⟩)
    | ((with_reducible refine gate_dst (N:=13) rfl ?_);refine sel_words rfl rfl (w3.heap.size + 1) (w3.heap.size + 1 + 1) (sel_k1 w3 _) (sel_k2 w3 _) rfl rfl ?_;intro g4 c4 w4 hw4 hb4;have HW4:=Aside0.mk hw4;have hbb:=below_step (below_alloc (below_alloc (below_alloc (Below.refl w3.heap.size w3) (.cells #[.int .u8 a,.int .u8 b,.int .u8 0] 40)) (.cells #[.string ⟨#[97,108,108]⟩] 9)) (.cells (wKinds.map Value.string).toArray 9)) hb4;have HR4:=Aside0.mk (HR2.out.below_ hbb);have HG4:=Aside0.mk (HG2.out.trans (grown_of_below hbb (some x.r)));have HF4:=Aside0.mk (blk_below HF2.out hbb);have HT4:=Aside0.mk (blk_below (blk_alloc (blk_alloc HT2.out _) _) hb4);clear hw4 hb4 hbb))
  have hb5 : Rd x (w5.setCell ⟨w3.heap.size,2,none⟩ (.int .u8 b3)) i3:=HR5.out.far (Nat.le_trans HW.out (Nat.le_of_lt (blk_lt HF2.out))) (fun e=>HLB3.out e) HLT.out 2 _
  have hb6:=((hb5.far HW.out HLB.out HL.out 0 (.int .u8 a)).far HW.out HLB.out HL.out 1 (.int .u8 b)).far HW.out HLB.out HL.out 2 (.int .u8 b3)
  have hg6:=grown_far (grown_far (grown_far (grown_far HG5.out (p:=⟨w3.heap.size,2,none⟩) HS3.out (.int .u8 b3)) (p:=⟨w.heap.size,0,none⟩) (Nat.le_refl _) (.int .u8 a)) (p:=⟨w.heap.size,1,none⟩) (Nat.le_refl _) (.int .u8 b)) (p:=⟨w.heap.size,2,none⟩) (Nat.le_refl _) (.int .u8 b3)
  refine bodyPost_ret (results_cell_row rfl _ _ w.heap.size 40 #[.int .u8 a,.int .u8 b,.int .u8 b3] (0,0) _ rfl (blk_put (blk_put (blk_put (blk_far HF5.out (p:=⟨w3.heap.size,2,none⟩) HLF.out _) 0 _ rfl) 1 _ rfl) 2 _ rfl) Tryz.underlying40 rfl (by kernel_rfl)) rfl ?_
  exact ⟨_,rfl,rfl,hb6,hg6⟩
end Go.Proofs.YtmgdkkkkanjadaaGreatDoor.HandB
