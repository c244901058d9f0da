
import Derived.Test.YtmgdkkkkanjadaaGreatDoorHandL
import Derived.Test.YtmgdkkkkanjadaaGreatDoorX6
/-
  parse's all: tokens, a list, a fault. Conditions: what the listed package variables hold.
-/
namespace Go.Proofs.YtmgdkkkkanjadaaGreatDoor.HandM
set_option linter.unusedVariables false
set_option linter.unusedSimpArgs false
open Go.RowKit Go.Shelf Go.Lib Go.Proofs.YtmgdkkkkanjadaaGreatDoorW.PrintWords Go.Proofs.YtmgdkkkkanjadaaGreatDoorW.PrintLast Go.Proofs.YtmgdkkkkanjadaaGreatDoorW.PrintMore Go.Proofs.YtmgdkkkkanjadaaGreatDoor.X Go.Proofs.YtmgdkkkkanjadaaGreatDoor.HandS Go.Proofs.YtmgdkkkkanjadaaGreatDoor.HandA Go.Proofs.YtmgdkkkkanjadaaGreatDoor.HandB Go.Proofs.YtmgdkkkkanjadaaGreatDoor.HandC Go.Proofs.YtmgdkkkkanjadaaGreatDoor.HandD Go.Proofs.YtmgdkkkkanjadaaGreatDoor.HandE Go.Proofs.YtmgdkkkkanjadaaGreatDoor.HandF Go.Proofs.YtmgdkkkkanjadaaGreatDoor.HandG Go.Proofs.YtmgdkkkkanjadaaGreatDoor.HandH Go.Proofs.YtmgdkkkkanjadaaGreatDoor.HandI Go.Proofs.YtmgdkkkkanjadaaGreatDoor.HandJ Go.Proofs.YtmgdkkkkanjadaaGreatDoor.HandK Go.Proofs.YtmgdkkkkanjadaaGreatDoor.HandL

theorem setCell_same {W : World} {b i : Nat} {v : Value} (h : W.cell? ⟨b,i,none⟩ = some v) : W.setCell ⟨b,i,none⟩ v = W:=by
  have hb : b < W.heap.size:=World.block_lt_of_cell? W _ h
  have hh : (W.setCell ⟨b,i,none⟩ v).heap = W.heap:=by
    apply Array.ext (by simp [World.setCell])
    intro k h1 h2
    simp only [World.setCell]
    rw [Array.getElem_modify]
    split
    · rename_i e
      subst e
      have hc : W.heap[b]? = some W.heap[b]:=Array.getElem?_eq_getElem hb
      simp only [World.cell?,hc] at h
      split
      · rename_i c el fz e2
        rw [e2] at h
        have h3 : c[i]? = some v:=by simpa using h
        simp only [Option.isSome_none,Bool.false_eq_true,if_false]
        obtain ⟨hi,e3⟩:=Array.getElem?_eq_some_iff.1 h3
        rw [e2,Array.setIfInBounds_def,dif_pos hi,← e3,Array.set_getElem_self]
      · rfl
    · rfl
  exact (fun (w : World) (x : Array Obj) (e : x = w.heap)=>(by subst e;rfl : ({ w with heap:=x } : World) = w)) W _ hh
/-- the tokens' row, by its block -/
theorem toks {w : World} {base : Nat} {v : Value} {T : List S69} (h : Kd.R k69 69 w base (fun _=>True) v T) (hT : 0 < T.length) :
    ∃ B c,v = .slice (some ⟨B,0,none⟩) T.length c ∧ base ≤ B ∧ B < w.heap.size ∧ T.length ≤ c ∧ c ≤ 9223372036854775807 ∧ ∀ i,i < T.length → Tk w B (4 * i) (tkAt T i):=by
  obtain ⟨inner,ho⟩:=Kd.R_own h
  have ho' := ho
  rcases ho'.2 with ⟨_,h0⟩ | ⟨g,cap,cur,rfl,hb,hg,hnc,hcm,_,_⟩
  · omega
  · refine ⟨g,cap,rfl,hb,blk_lt hg,hnc,by simp only [maxLen] at hcm;omega,fun i hi=>?_⟩
    obtain ⟨c,hl,hM,hc,_⟩:=Kd.R_elem h z69 (i : Int) (by omega) (by omega)
    obtain rfl:=k69_openM hM
    have e : ∀ k,(i : Int).toNat * k69.sz + k = 4 * i + k:=fun k=>by rw [Int.toNat_natCast,show k69.sz = 4 from rfl,Nat.mul_comm]
    have e2 : T.getD (i : Int).toNat z69 = tkAt T i:=by rw [Int.toNat_natCast];rfl
    have q:=fun k u hu=>(show w.cell? ⟨g,4 * i + k,none⟩ = some u by rw [← e k];exact hc k u hu)
    rw [e2] at q
    exact ⟨q 0 _ rfl,q 1 _ rfl,q 2 _ rfl,q 3 _ rfl⟩
def allF {α : Type} (bg : List S69 → Nat → Bool) (rd : List S69 → Nat → Option (Out α)) (most : Nat) (T : List S69) : Option (List α × Int × Int × Int) :=
  match listF (bg T) (rd T) most [] 0 with
  | none=>none
  | some (.bad e j)=>some ([],e,(tkAt T j).f2.f0,(tkAt T j).f2.f1)
  | some (.ok xs j)=>if (tkAt T j).f0 = 0 then some (xs,0,0,0) else some ([],5,(tkAt T j).f2.f0,(tkAt T j).f2.f1)
theorem start4 (f g : FuncId) (W w1 : World) (hb : Below ((((W.alloc (.cells #[.func (.func f) #[] #[]] 57)).alloc (.cells #[.func (.func g) #[] #[]] 72)).alloc (.cells #[.slice none 0 0] 31)).alloc (.cells #[.int .i64 0,.int .i64 0,.int .i64 0] 28)).heap.size
      ((((W.alloc (.cells #[.func (.func f) #[] #[]] 57)).alloc (.cells #[.func (.func g) #[] #[]] 72)).alloc (.cells #[.slice none 0 0] 31)).alloc (.cells #[.int .i64 0,.int .i64 0,.int .i64 0] 28)) w1) :
    w1.heap[W.heap.size]? = some (.cells #[.func (.func f) #[] #[]] 57 (0,0)) ∧ w1.heap[W.heap.size + 1]? = some (.cells #[.func (.func g) #[] #[]] 72 (0,0)) ∧ w1.heap[W.heap.size + 1 + 1]? = some (.cells #[.slice none 0 0] 31 (0,0)) ∧
      w1.heap[W.heap.size + 1 + 1 + 1]? = some (.cells #[.int .i64 0,.int .i64 0,.int .i64 0] 28 (0,0)) ∧ Below W.heap.size W w1 ∧ W.heap.size + 4 ≤ w1.heap.size:=by
  have h1:=blk_new W (.cells #[.func (.func f) #[] #[]] 57)
  have h2:=blk_new (W.alloc (.cells #[.func (.func f) #[] #[]] 57)) (.cells #[.func (.func g) #[] #[]] 72)
  have h3:=blk_new ((W.alloc (.cells #[.func (.func f) #[] #[]] 57)).alloc (.cells #[.func (.func g) #[] #[]] 72)) (.cells #[.slice none 0 0] 31)
  have h4:=blk_new (((W.alloc (.cells #[.func (.func f) #[] #[]] 57)).alloc (.cells #[.func (.func g) #[] #[]] 72)).alloc (.cells #[.slice none 0 0] 31)) (.cells #[.int .i64 0,.int .i64 0,.int .i64 0] 28)
  simp only [size_alloc] at h2 h3 h4
  refine ⟨blk_below (blk_alloc (blk_alloc (blk_alloc h1 _) _) _) hb,blk_below (blk_alloc (blk_alloc h2 _) _) hb,blk_below (blk_alloc h3 _) hb,blk_below h4 hb,below_step (below_alloc (below_alloc (below_alloc (below_alloc (Below.refl _ _) _) _) _) _) hb,?_⟩
  have:=hb.size
  simp only [size_alloc] at this
  omega
def allO {α : Type} (T : List S69) : Out (List α) → Option (List α × Int × Int × Int)
  | .bad e j=>some ([],e,(tkAt T j).f2.f0,(tkAt T j).f2.f1)
  | .ok xs j=>if (tkAt T j).f0 = 0 then some (xs,0,0,0) else some ([],5,(tkAt T j).f2.f0,(tkAt T j).f2.f1)
theorem allF_cases {α : Type} {bg : List S69 → Nat → Bool} {rd : List S69 → Nat → Option (Out α)} {most : Nat} {T : List S69} {r : List α × Int × Int × Int} (h : allF bg rd most T = some r) : ∃ o,listF (bg T) (rd T) most [] 0 = some o ∧ allO T o = some r:=by
  unfold allF at h
  split at h
  · cases h
  · next e j heq=>exact ⟨.bad e j,heq,h⟩
  · next xs j heq=>exact ⟨.ok xs j,heq,h⟩
/-- the reader laid: its tokens, its pointer's box -/
theorem all_start (T : List S69) (B c : Nat) (w1 : World) (hT : 0 < T.length) (hc : T.length ≤ c) (hm : c ≤ 9223372036854775807) (hB : B < w1.heap.size) (htk : ∀ i,i < T.length → Tk w1 B (4 * i) (tkAt T i)) :
    Rd ⟨T,B,c,w1.heap.size,w1⟩ ((w1.alloc (.cells #[.slice (some ⟨B,0,none⟩) T.length c] 71)).alloc (.cells #[.pointer (some ⟨w1.heap.size,0,none⟩)] 54)) 0:=by
  have hb:=below_alloc (below_alloc (Below.refl w1.heap.size w1) (.cells #[.slice (some ⟨B,0,none⟩) T.length c] 71)) (.cells #[.pointer (some ⟨w1.heap.size,0,none⟩)] 54)
  exact ⟨hT,blk_alloc (blk_new w1 (.cells #[.slice (some ⟨B,0,none⟩) T.length c] 71)) _,fun i hi=>(htk i hi).grown (grown_of_below hb (some w1.heap.size)) (Nat.ne_of_lt hB),hc,hm,Nat.ne_of_lt hB,hb,Nat.le_refl _⟩
set_option maxHeartbeats 4000000 in
set_option maxRecDepth 100000 in
theorem all24 (k : Nat) (s : ByteArray) (T : List S69) (hs : scan_Tokens.f k s = some (T,0,0,0)) (hT : 0 < T.length) (W : World) (hG : Tabs W) {r : List S50 × Int × Int × Int} (hr : allF exprIs valueS 6 T = some r) :
    Calls Tryz.prog 24 #[.string s, .int .i64 6, .func (.func 25) #[] #[], .func (.func 26) #[] #[]] W fun e w' => ∃ v0 : Value, e = .returned (.tuple #[v0, .agg #[.int .i64 r.2.1, .int .i64 r.2.2.1, .int .i64 r.2.2.2]]) ∧ Kd.R k50 50 w' W.heap.size (fun _ => True) v0 r.1 ∧ Below W.heap.size W w' := by
  have hmf : ∀ (fn : Fn) (first cap : Array Value) (w : World),(Instr.makeFunc fn first cap).run Tryz.prog w = .ok (.func fn first cap) w:=fun _ _ _ _=>rfl
  have hu71:=Tryz.underlying71
  have hu69:=Tryz.underlying69
  have HG:=Aside0.mk hG
  have HS:=Aside0.mk hs
  have HT:=Aside0.mk hT
  obtain ⟨o,ho,hor⟩:=allF_cases hr
  have HRR:=Aside0.mk ho
  have HOR:=Aside0.mk hor
  clear hG hs hT hr ho hor
  go_enter_defers Tryz.func24,Tryz.ntmps24
  go_wp2_with (first
    | (go_at_call 31;refine (scan_Tokens.calls k s T 0 0 0 _ (HG.out.below (below_alloc (below_alloc (below_alloc (below_alloc (Below.refl _ _) _) _) _) _)) HS.out).mono ?_;rintro e w1 ⟨v0,rfl,hR,hb⟩;obtain ⟨k6,k7,k8,k9,hB,hgs⟩:=start4 25 26 W w1 hb;obtain ⟨B,c,rfl,hB1,hB2,hc1,hc2,htk⟩:=toks hR HT.out;
       have HB:=Aside0.mk hB;have K6:=Aside0.mk k6;have K7:=Aside0.mk k7;have K8:=Aside0.mk k8;have K9:=Aside0.mk k9;have HC1:=Aside0.mk hc1;have HC2:=Aside0.mk hc2;have HB2:=Aside0.mk hB2;have HTK:=Aside0.mk htk;have HGS:=Aside0.mk hgs;simp only [size_alloc] at hB1;have HB1:=Aside0.mk hB1;
       have c0:=blk_cell k9 0;have c1:=blk_cell k9 1;have c2:=blk_cell k9 2;have f0:=blk_frozen k9 0;have f1:=blk_frozen k9 1;have f2:=blk_frozen k9 2;have s0:=setCell_same (v:=.int .i64 0) (c0.trans rfl);have s1:=setCell_same (v:=.int .i64 0) (c1.trans rfl);have s2:=setCell_same (v:=.int .i64 0) (c2.trans rfl);clear hb hB k6 k7 k8 k9 hgs hR hB1 hB2 hc1 hc2 htk))
  have hx:=all_start T B c w1 HT.out HC1.out HC2.out HB2.out HTK.out
  have hgs:=HGS.out
  have r6:=blk_alloc (blk_alloc K6.out (.cells #[.slice (some ⟨B,0,none⟩) T.length c] 71)) (.cells #[.pointer (some ⟨w1.heap.size,0,none⟩)] 54)
  have r7:=blk_alloc (blk_alloc K7.out (.cells #[.slice (some ⟨B,0,none⟩) T.length c] 71)) (.cells #[.pointer (some ⟨w1.heap.size,0,none⟩)] 54)
  have r8:=blk_alloc (blk_alloc K8.out (.cells #[.slice (some ⟨B,0,none⟩) T.length c] 71)) (.cells #[.pointer (some ⟨w1.heap.size,0,none⟩)] 54)
  have r9:=blk_alloc (blk_alloc K9.out (.cells #[.slice (some ⟨B,0,none⟩) T.length c] 71)) (.cells #[.pointer (some ⟨w1.heap.size,0,none⟩)] 54)
  have rq:=blk_new (w1.alloc (.cells #[.slice (some ⟨B,0,none⟩) T.length c] 71)) (.cells #[.pointer (some ⟨w1.heap.size,0,none⟩)] 54)
  rw [size_alloc] at rq
  have hGW : Tabs w1:=HG.out.below HB.out
  have hbW:=below_step HB.out (below_alloc (below_alloc (Below.refl w1.heap.size w1) (.cells #[.slice (some ⟨B,0,none⟩) T.length c] 71)) (.cells #[.pointer (some ⟨w1.heap.size,0,none⟩)] 54))
  generalize hW2 : ((w1.alloc (.cells #[.slice (some ⟨B,0,none⟩) T.length c] 71)).alloc (.cells #[.pointer (some ⟨w1.heap.size,0,none⟩)] 54)) = W2 at *
  refine (list57b ⟨T,B,c,w1.heap.size,w1⟩ W2 0 6 (by decide) W.heap.size (W.heap.size + 1) (w1.heap.size + 1) (exprIs T) (valueS T) (fun wr jj hg hr=>c58 _ _ _ wr jj hr ((blk_cell (own_grown r6 hg (by show W.heap.size ≠ w1.heap.size;omega)) 0).trans rfl) ((blk_cell (own_grown rq hg (by show w1.heap.size + 1 ≠ w1.heap.size;omega)) 0).trans rfl))
    (fun wr jj oo hg hr ho=>c59 _ hGW _ _ wr jj hr ((blk_cell (own_grown r7 hg (by show W.heap.size + 1 ≠ w1.heap.size;omega)) 0).trans rfl) ((blk_cell (own_grown rq hg (by show w1.heap.size + 1 ≠ w1.heap.size;omega)) 0).trans rfl) ho) hx HRR.out).mono ?_
  intro e w2 hp
  cases o with
  | bad ek j =>
    obtain ⟨rfl,hr2,hg2⟩:=hp
    have hor:=HOR.out
    rw [allO] at hor
    injection hor with hor
    subst hor
    have k8:=own_grown r8 hg2 (by show W.heap.size + 1 + 1 ≠ w1.heap.size;omega)
    have k9:=own_grown r9 hg2 (by show W.heap.size + 1 + 1 + 1 ≠ w1.heap.size;omega)
    have hb2:=pw_below_grown hbW (some w1.heap.size) hbW.size hg2 (fun k e=>by cases e;omega)
    refine leaves_cons (f:=56) (args:=#[.pointer (some ⟨W.heap.size + 1 + 1,0,none⟩),.pointer (some ⟨W.heap.size + 1 + 1 + 1,0,none⟩)]) (by simp) (by simp [go_sem]) ?_
    refine (end56p (W.heap.size + 1 + 1) (W.heap.size + 1 + 1 + 1) ek _ _ (.slice none 0 0) 0 0 0 w2 (by omega) k8 k9 ⟨_,_,_,rfl⟩).mono ?_
    rintro e u' w3 ⟨rfl, rfl, hl, hf, h1, h2, h3, h4, h5⟩
    have q0:=(blk_cell hl 0)
    have q1:=(blk_cell hf 0)
    have q2:=(blk_cell hf 1)
    have q3:=(blk_cell hf 2)
    simp [Leaves,settle,results,Tryz.results24,go_sem,q0,q1,q2,q3]
    exact ⟨Kd.R_nil _ _ _ _ _,h1.trans hb2.os,h2.trans hb2.tape,h3.trans hb2.output,Nat.le_trans hb2.size h4,fun i hi=>(h5 i (Nat.lt_of_lt_of_le hi hb2.size) (by omega) (by omega)).trans (hb2.block i hi)⟩
  | ok xs j =>
    obtain ⟨v,rfl,hL,hr2,hg2⟩:=hp
    obtain ⟨A,c',rfl⟩:=Kd.R_slice hL
    have hb2:=pw_below_grown hbW (some w1.heap.size) hbW.size hg2 (fun k e=>by cases e;omega)
    have k8:=own_grown r8 hg2 (by show W.heap.size + 1 + 1 ≠ w1.heap.size;omega)
    have k9:=own_grown r9 hg2 (by show W.heap.size + 1 + 1 + 1 ≠ w1.heap.size;omega)
    have kq:=own_grown rq hg2 (by show w1.heap.size + 1 ≠ w1.heap.size;omega)
    have d0:=blk_cell k8 0
    have e0:=blk_frozen k8 0
    have hgs3:=grown_set w2 (W.heap.size + 1 + 1) 0 (.slice A xs.length c')
    have j8 := blk_put k8 0 (.slice A xs.length c') (cs' := #[.slice A xs.length c']) rfl
    have j9:=own_grown k9 hgs3 (by omega)
    have jq:=own_grown kq hgs3 (by omega)
    have hb3:=pw_below_grown hb2 (some (W.heap.size + 1 + 1)) hb2.size hgs3 (fun k e=>by cases e;omega)
    have hB1 : W.heap.size + 1 + 1 + 1 + 1 ≤ B:=HB1.out
    have hr3 : Rd ⟨T,B,c,w1.heap.size,W⟩ (w2.setCell ⟨W.heap.size + 1 + 1,0,none⟩ (.slice A xs.length c')) j:=⟨hr2.lt,own_grown hr2.row hgs3 (by show w1.heap.size ≠ W.heap.size + 1 + 1;omega),fun i hi=>(hr2.tk i hi).grown hgs3 (by show B ≠ W.heap.size + 1 + 1;omega),hr2.hc,hr2.hm,hr2.ne,hb3,by show W.heap.size ≤ w1.heap.size;omega⟩
    have HR3:=Aside0.mk hr3
    have hlt:=hx.rlt
    have hlr:=R_keepG hL hgs3 (by have h9 : w1.heap.size < W2.heap.size:=hlt;omega)
    have HLR:=Aside0.mk (Kd.R_lower hlr (Nat.le_trans (by show W.heap.size ≤ w1.heap.size;omega) (Nat.le_of_lt hlt)))
    have HW2:=Aside0.mk hbW
    have J8:=Aside0.mk j8
    have J9:=Aside0.mk j9
    have HB3:=Aside0.mk hb3
    have p0:=blk_cell jq 0
    have q8:=blk_cell j8 0
    have g8:=blk_frozen j8 0
    have q0:=blk_cell j9 0
    have q1:=blk_cell j9 1
    have q2:=blk_cell j9 2
    have g0:=blk_frozen j9 0
    have g1:=blk_frozen j9 1
    have g2:=blk_frozen j9 2
    have s8 : (w2.setCell ⟨W.heap.size + 1 + 1,0,none⟩ (.slice A xs.length c')).setCell ⟨W.heap.size + 1 + 1,0,none⟩ (.slice A xs.length c') = (w2.setCell ⟨W.heap.size + 1 + 1,0,none⟩ (.slice A xs.length c')):=setCell_same (q8.trans rfl)
    have u0 : (w2.setCell ⟨W.heap.size + 1 + 1,0,none⟩ (.slice A xs.length c')).setCell ⟨W.heap.size + 1 + 1 + 1,0,none⟩ (.int .i64 0) = (w2.setCell ⟨W.heap.size + 1 + 1,0,none⟩ (.slice A xs.length c')):=setCell_same (q0.trans rfl)
    have u1 : (w2.setCell ⟨W.heap.size + 1 + 1,0,none⟩ (.slice A xs.length c')).setCell ⟨W.heap.size + 1 + 1 + 1,1,none⟩ (.int .i64 0) = (w2.setCell ⟨W.heap.size + 1 + 1,0,none⟩ (.slice A xs.length c')):=setCell_same (q1.trans rfl)
    have u2 : (w2.setCell ⟨W.heap.size + 1 + 1,0,none⟩ (.slice A xs.length c')).setCell ⟨W.heap.size + 1 + 1 + 1,2,none⟩ (.int .i64 0) = (w2.setCell ⟨W.heap.size + 1 + 1,0,none⟩ (.slice A xs.length c')):=setCell_same (q2.trans rfl)
    obtain ⟨o',n,cc,c0,hn,hcc,t0,t1,t2,t3⟩:=hr3.head
    have hor:=HOR.out
    rw [allO] at hor
    by_cases hz : (tkAt T j).f0 = 0
    · rw [if_pos hz] at hor
      injection hor with hor
      subst hor
      rw [hz] at t0
      clear hr3 hL hlr hlt j8 j9 jq k8 k9 kq hgs3 hb3 hb2 hr2 hg2 t1 t2 t3 hcc hx r6 r7 r8 r9 rq hGW hbW
      go_wp2_with fail
      generalize (w2.setCell ⟨W.heap.size + 1 + 1,0,none⟩ (.slice A xs.length c')) = w3 at *
      go_region
      all_goals
        go_wp2
        refine leaves_cons (f:=56) (args:=#[.pointer (some ⟨W.heap.size + 1 + 1,0,none⟩),.pointer (some ⟨W.heap.size + 1 + 1 + 1,0,none⟩)]) (by simp) (by simp [go_sem]) ?_
        refine (end56r _ _ _).mono ?_
        rintro e u' w4 ⟨rfl, rfl, rfl⟩
        have hbd:=below_drew1 (Below.refl w3.heap.size w3)
        have hR:=Kd.R_below HLR.out hbd
        have hB:=below_step HB3.out hbd
        simp [Leaves,settle,results,Tryz.results24,go_sem,q8,q0,q1,q2]
        exact ⟨hR,hB⟩
    · rw [if_neg hz] at hor
      injection hor with hor
      subst hor
      obtain ⟨q,hq⟩ : ∃ q,(tkAt T j).f0 = q:=⟨_,rfl⟩
      replace hz : ¬ q = 0:=by rw [← hq];exact hz
      replace t0 : (w2.setCell ⟨W.heap.size + 1 + 1,0,none⟩ (.slice A xs.length c')).cell? ⟨B,o',none⟩ = some (.int .u8 q):=by rw [← hq];exact t0
      have n0 : (q == 0) = false:=beq_eq_false_iff_ne.2 hz
      have m0 : (q != 0) = true:=bne_iff_ne.2 hz
      clear hr3 hL hlr hlt j8 j9 jq k8 k9 kq hgs3 hb3 hb2 hr2 hg2 t1 t2 t3 hcc hx r6 r7 r8 r9 rq hGW hbW hq
      go_wp2_with (go_at_call 36;refine (fail_ _ _ _ HR3.out 5).mono ?_;rintro e w4 ⟨rfl,rfl⟩)
      refine leaves_cons (f:=56) (args:=#[.pointer (some ⟨W.heap.size + 1 + 1,0,none⟩),.pointer (some ⟨W.heap.size + 1 + 1 + 1,0,none⟩)]) (by simp) (by simp [go_sem]) ?_
      refine (end56p (W.heap.size + 1 + 1) (W.heap.size + 1 + 1 + 1) 5 _ _ (.slice A xs.length c') 0 0 0 _ (by omega) J8.out J9.out ⟨_,_,_,rfl⟩).mono ?_
      rintro e u' w4 ⟨rfl, rfl, hl, hf, h1, h2, h3, h4, h5⟩
      have y0:=(blk_cell hl 0)
      have y1:=(blk_cell hf 0)
      have y2:=(blk_cell hf 1)
      have y3:=(blk_cell hf 2)
      have hb3:=HB3.out
      simp [Leaves,settle,results,Tryz.results24,go_sem,y0,y1,y2,y3]
      exact ⟨Kd.R_nil _ _ _ _ _,h1.trans hb3.os,h2.trans hb3.tape,h3.trans hb3.output,Nat.le_trans hb3.size h4,fun i hi=>(h5 i (Nat.lt_of_lt_of_le hi hb3.size) (by omega) (by omega)).trans (hb3.block i hi)⟩
end Go.Proofs.YtmgdkkkkanjadaaGreatDoor.HandM
/-
  parse's all: the same at cards. Conditions: what the listed package variables hold.
-/
namespace Go.Proofs.YtmgdkkkkanjadaaGreatDoor.HandN
set_option linter.unusedVariables false
set_option linter.unusedSimpArgs false
open Go.RowKit Go.Shelf Go.Lib Go.Proofs.YtmgdkkkkanjadaaGreatDoorW.PrintWords Go.Proofs.YtmgdkkkkanjadaaGreatDoorW.PrintLast Go.Proofs.YtmgdkkkkanjadaaGreatDoorW.PrintMore Go.Proofs.YtmgdkkkkanjadaaGreatDoor.X Go.Proofs.YtmgdkkkkanjadaaGreatDoor.HandS Go.Proofs.YtmgdkkkkanjadaaGreatDoor.HandA Go.Proofs.YtmgdkkkkanjadaaGreatDoor.HandB Go.Proofs.YtmgdkkkkanjadaaGreatDoor.HandC Go.Proofs.YtmgdkkkkanjadaaGreatDoor.HandD Go.Proofs.YtmgdkkkkanjadaaGreatDoor.HandE Go.Proofs.YtmgdkkkkanjadaaGreatDoor.HandF Go.Proofs.YtmgdkkkkanjadaaGreatDoor.HandG Go.Proofs.YtmgdkkkkanjadaaGreatDoor.HandH Go.Proofs.YtmgdkkkkanjadaaGreatDoor.HandI Go.Proofs.YtmgdkkkkanjadaaGreatDoor.HandJ Go.Proofs.YtmgdkkkkanjadaaGreatDoor.HandK Go.Proofs.YtmgdkkkkanjadaaGreatDoor.HandL Go.Proofs.YtmgdkkkkanjadaaGreatDoor.HandM

def cardIs (T : List S69) (j : Nat) : Bool:=decide (0 ≤ amongS T wKinds j)
theorem start13 (f g : FuncId) (W w1 : World) (hb : Below ((((W.alloc (.cells #[.func (.func f) #[] #[]] 57)).alloc (.cells #[.func (.func g) #[] #[]] 58)).alloc (.cells #[.slice none 0 0] 23)).alloc (.cells #[.int .i64 0,.int .i64 0,.int .i64 0] 28)).heap.size
      ((((W.alloc (.cells #[.func (.func f) #[] #[]] 57)).alloc (.cells #[.func (.func g) #[] #[]] 58)).alloc (.cells #[.slice none 0 0] 23)).alloc (.cells #[.int .i64 0,.int .i64 0,.int .i64 0] 28)) w1) :
    w1.heap[W.heap.size]? = some (.cells #[.func (.func f) #[] #[]] 57 (0,0)) ∧ w1.heap[W.heap.size + 1]? = some (.cells #[.func (.func g) #[] #[]] 58 (0,0)) ∧ w1.heap[W.heap.size + 1 + 1]? = some (.cells #[.slice none 0 0] 23 (0,0)) ∧
      w1.heap[W.heap.size + 1 + 1 + 1]? = some (.cells #[.int .i64 0,.int .i64 0,.int .i64 0] 28 (0,0)) ∧ Below W.heap.size W w1 ∧ W.heap.size + 4 ≤ w1.heap.size:=by
  have h1:=blk_new W (.cells #[.func (.func f) #[] #[]] 57)
  have h2:=blk_new (W.alloc (.cells #[.func (.func f) #[] #[]] 57)) (.cells #[.func (.func g) #[] #[]] 58)
  have h3:=blk_new ((W.alloc (.cells #[.func (.func f) #[] #[]] 57)).alloc (.cells #[.func (.func g) #[] #[]] 58)) (.cells #[.slice none 0 0] 23)
  have h4:=blk_new (((W.alloc (.cells #[.func (.func f) #[] #[]] 57)).alloc (.cells #[.func (.func g) #[] #[]] 58)).alloc (.cells #[.slice none 0 0] 23)) (.cells #[.int .i64 0,.int .i64 0,.int .i64 0] 28)
  simp only [size_alloc] at h2 h3 h4
  refine ⟨blk_below (blk_alloc (blk_alloc (blk_alloc h1 _) _) _) hb,blk_below (blk_alloc (blk_alloc h2 _) _) hb,blk_below (blk_alloc h3 _) hb,blk_below h4 hb,below_step (below_alloc (below_alloc (below_alloc (below_alloc (Below.refl _ _) _) _) _) _) hb,?_⟩
  have:=hb.size
  simp only [size_alloc] at this
  omega
set_option maxHeartbeats 4000000 in
set_option maxRecDepth 100000 in
theorem all13 (k : Nat) (s : ByteArray) (T : List S69) (hs : scan_Tokens.f k s = some (T,0,0,0)) (hT : 0 < T.length) (W : World) (hG : Tabs W) {r : List S38 × Int × Int × Int} (hr : allF cardIs cardS 64 T = some r) :
    Calls Tryz.prog 13 #[.string s, .int .i64 64, .func (.func 14) #[] #[], .func (.func 17) #[] #[]] W fun e w' => ∃ v0 : Value, e = .returned (.tuple #[v0, .agg #[.int .i64 r.2.1, .int .i64 r.2.2.1, .int .i64 r.2.2.2]]) ∧ Kd.R k38 38 w' W.heap.size (fun _ => True) v0 r.1 ∧ Below W.heap.size W w' := by
  have hmf : ∀ (fn : Fn) (first cap : Array Value) (w : World),(Instr.makeFunc fn first cap).run Tryz.prog w = .ok (.func fn first cap) w:=fun _ _ _ _=>rfl
  have hu71:=Tryz.underlying71
  have hu69:=Tryz.underlying69
  have HG:=Aside0.mk hG
  have HS:=Aside0.mk hs
  have HT:=Aside0.mk hT
  obtain ⟨o,ho,hor⟩:=allF_cases hr
  have HRR:=Aside0.mk ho
  have HOR:=Aside0.mk hor
  clear hG hs hT hr ho hor
  go_enter_defers Tryz.func13,Tryz.ntmps13
  go_wp2_with (first
    | (go_at_call 31;refine (scan_Tokens.calls k s T 0 0 0 _ (HG.out.below (below_alloc (below_alloc (below_alloc (below_alloc (Below.refl _ _) _) _) _) _)) HS.out).mono ?_;rintro e w1 ⟨v0,rfl,hR,hb⟩;obtain ⟨k6,k7,k8,k9,hB,hgs⟩:=start13 14 17 W w1 hb;obtain ⟨B,c,rfl,hB1,hB2,hc1,hc2,htk⟩:=toks hR HT.out;
       have HB:=Aside0.mk hB;have K6:=Aside0.mk k6;have K7:=Aside0.mk k7;have K8:=Aside0.mk k8;have K9:=Aside0.mk k9;have HC1:=Aside0.mk hc1;have HC2:=Aside0.mk hc2;have HB2:=Aside0.mk hB2;have HTK:=Aside0.mk htk;have HGS:=Aside0.mk hgs;simp only [size_alloc] at hB1;have HB1:=Aside0.mk hB1;
       have c0:=blk_cell k9 0;have c1:=blk_cell k9 1;have c2:=blk_cell k9 2;have f0:=blk_frozen k9 0;have f1:=blk_frozen k9 1;have f2:=blk_frozen k9 2;have s0:=setCell_same (v:=.int .i64 0) (c0.trans rfl);have s1:=setCell_same (v:=.int .i64 0) (c1.trans rfl);have s2:=setCell_same (v:=.int .i64 0) (c2.trans rfl);clear hb hB k6 k7 k8 k9 hgs hR hB1 hB2 hc1 hc2 htk))
  have hx:=all_start T B c w1 HT.out HC1.out HC2.out HB2.out HTK.out
  have hgs:=HGS.out
  have r6:=blk_alloc (blk_alloc K6.out (.cells #[.slice (some ⟨B,0,none⟩) T.length c] 71)) (.cells #[.pointer (some ⟨w1.heap.size,0,none⟩)] 54)
  have r7:=blk_alloc (blk_alloc K7.out (.cells #[.slice (some ⟨B,0,none⟩) T.length c] 71)) (.cells #[.pointer (some ⟨w1.heap.size,0,none⟩)] 54)
  have r8:=blk_alloc (blk_alloc K8.out (.cells #[.slice (some ⟨B,0,none⟩) T.length c] 71)) (.cells #[.pointer (some ⟨w1.heap.size,0,none⟩)] 54)
  have r9:=blk_alloc (blk_alloc K9.out (.cells #[.slice (some ⟨B,0,none⟩) T.length c] 71)) (.cells #[.pointer (some ⟨w1.heap.size,0,none⟩)] 54)
  have rq:=blk_new (w1.alloc (.cells #[.slice (some ⟨B,0,none⟩) T.length c] 71)) (.cells #[.pointer (some ⟨w1.heap.size,0,none⟩)] 54)
  rw [size_alloc] at rq
  have hGW : Tabs w1:=HG.out.below HB.out
  have hbW:=below_step HB.out (below_alloc (below_alloc (Below.refl w1.heap.size w1) (.cells #[.slice (some ⟨B,0,none⟩) T.length c] 71)) (.cells #[.pointer (some ⟨w1.heap.size,0,none⟩)] 54))
  generalize hW2 : ((w1.alloc (.cells #[.slice (some ⟨B,0,none⟩) T.length c] 71)).alloc (.cells #[.pointer (some ⟨w1.heap.size,0,none⟩)] 54)) = W2 at *
  refine (list33a ⟨T,B,c,w1.heap.size,w1⟩ W2 0 64 (by decide) W.heap.size (W.heap.size + 1) (w1.heap.size + 1) (cardIs T) (cardS T) (fun wr jj hg hr=>c34 _ _ _ wr jj hr ((blk_cell (own_grown r6 hg (by show W.heap.size ≠ w1.heap.size;omega)) 0).trans rfl) ((blk_cell (own_grown rq hg (by show w1.heap.size + 1 ≠ w1.heap.size;omega)) 0).trans rfl))
    (fun wr jj oo hg hr ho=>c35 _ hGW _ _ wr jj hr ((blk_cell (own_grown r7 hg (by show W.heap.size + 1 ≠ w1.heap.size;omega)) 0).trans rfl) ((blk_cell (own_grown rq hg (by show w1.heap.size + 1 ≠ w1.heap.size;omega)) 0).trans rfl) ho) hx HRR.out).mono ?_
  intro e w2 hp
  cases o with
  | bad ek j =>
    obtain ⟨rfl,hr2,hg2⟩:=hp
    have hor:=HOR.out
    rw [allO] at hor
    injection hor with hor
    subst hor
    have k8:=own_grown r8 hg2 (by show W.heap.size + 1 + 1 ≠ w1.heap.size;omega)
    have k9:=own_grown r9 hg2 (by show W.heap.size + 1 + 1 + 1 ≠ w1.heap.size;omega)
    have hb2:=pw_below_grown hbW (some w1.heap.size) hbW.size hg2 (fun k e=>by cases e;omega)
    refine leaves_cons (f:=32) (args:=#[.pointer (some ⟨W.heap.size + 1 + 1,0,none⟩),.pointer (some ⟨W.heap.size + 1 + 1 + 1,0,none⟩)]) (by simp) (by simp [go_sem]) ?_
    refine (end32p (W.heap.size + 1 + 1) (W.heap.size + 1 + 1 + 1) ek _ _ (.slice none 0 0) 0 0 0 w2 (by omega) k8 k9 ⟨_,_,_,rfl⟩).mono ?_
    rintro e u' w3 ⟨rfl, rfl, hl, hf, h1, h2, h3, h4, h5⟩
    have q0:=(blk_cell hl 0)
    have q1:=(blk_cell hf 0)
    have q2:=(blk_cell hf 1)
    have q3:=(blk_cell hf 2)
    simp [Leaves,settle,results,Tryz.results13,go_sem,q0,q1,q2,q3]
    exact ⟨Kd.R_nil _ _ _ _ _,h1.trans hb2.os,h2.trans hb2.tape,h3.trans hb2.output,Nat.le_trans hb2.size h4,fun i hi=>(h5 i (Nat.lt_of_lt_of_le hi hb2.size) (by omega) (by omega)).trans (hb2.block i hi)⟩
  | ok xs j =>
    obtain ⟨v,rfl,hL,hr2,hg2⟩:=hp
    obtain ⟨A,c',rfl⟩:=Kd.R_slice hL
    have hb2:=pw_below_grown hbW (some w1.heap.size) hbW.size hg2 (fun k e=>by cases e;omega)
    have k8:=own_grown r8 hg2 (by show W.heap.size + 1 + 1 ≠ w1.heap.size;omega)
    have k9:=own_grown r9 hg2 (by show W.heap.size + 1 + 1 + 1 ≠ w1.heap.size;omega)
    have kq:=own_grown rq hg2 (by show w1.heap.size + 1 ≠ w1.heap.size;omega)
    have d0:=blk_cell k8 0
    have e0:=blk_frozen k8 0
    have hgs3:=grown_set w2 (W.heap.size + 1 + 1) 0 (.slice A xs.length c')
    have j8 := blk_put k8 0 (.slice A xs.length c') (cs' := #[.slice A xs.length c']) rfl
    have j9:=own_grown k9 hgs3 (by omega)
    have jq:=own_grown kq hgs3 (by omega)
    have hb3:=pw_below_grown hb2 (some (W.heap.size + 1 + 1)) hb2.size hgs3 (fun k e=>by cases e;omega)
    have hB1 : W.heap.size + 1 + 1 + 1 + 1 ≤ B:=HB1.out
    have hr3 : Rd ⟨T,B,c,w1.heap.size,W⟩ (w2.setCell ⟨W.heap.size + 1 + 1,0,none⟩ (.slice A xs.length c')) j:=⟨hr2.lt,own_grown hr2.row hgs3 (by show w1.heap.size ≠ W.heap.size + 1 + 1;omega),fun i hi=>(hr2.tk i hi).grown hgs3 (by show B ≠ W.heap.size + 1 + 1;omega),hr2.hc,hr2.hm,hr2.ne,hb3,by show W.heap.size ≤ w1.heap.size;omega⟩
    have HR3:=Aside0.mk hr3
    have hlt:=hx.rlt
    have hlr:=R_keepG hL hgs3 (by have h9 : w1.heap.size < W2.heap.size:=hlt;omega)
    have HLR:=Aside0.mk (Kd.R_lower hlr (Nat.le_trans (by show W.heap.size ≤ w1.heap.size;omega) (Nat.le_of_lt hlt)))
    have HW2:=Aside0.mk hbW
    have J8:=Aside0.mk j8
    have J9:=Aside0.mk j9
    have HB3:=Aside0.mk hb3
    have p0:=blk_cell jq 0
    have q8:=blk_cell j8 0
    have g8:=blk_frozen j8 0
    have q0:=blk_cell j9 0
    have q1:=blk_cell j9 1
    have q2:=blk_cell j9 2
    have g0:=blk_frozen j9 0
    have g1:=blk_frozen j9 1
    have g2:=blk_frozen j9 2
    have s8 : (w2.setCell ⟨W.heap.size + 1 + 1,0,none⟩ (.slice A xs.length c')).setCell ⟨W.heap.size + 1 + 1,0,none⟩ (.slice A xs.length c') = (w2.setCell ⟨W.heap.size + 1 + 1,0,none⟩ (.slice A xs.length c')):=setCell_same (q8.trans rfl)
    have u0 : (w2.setCell ⟨W.heap.size + 1 + 1,0,none⟩ (.slice A xs.length c')).setCell ⟨W.heap.size + 1 + 1 + 1,0,none⟩ (.int .i64 0) = (w2.setCell ⟨W.heap.size + 1 + 1,0,none⟩ (.slice A xs.length c')):=setCell_same (q0.trans rfl)
    have u1 : (w2.setCell ⟨W.heap.size + 1 + 1,0,none⟩ (.slice A xs.length c')).setCell ⟨W.heap.size + 1 + 1 + 1,1,none⟩ (.int .i64 0) = (w2.setCell ⟨W.heap.size + 1 + 1,0,none⟩ (.slice A xs.length c')):=setCell_same (q1.trans rfl)
    have u2 : (w2.setCell ⟨W.heap.size + 1 + 1,0,none⟩ (.slice A xs.length c')).setCell ⟨W.heap.size + 1 + 1 + 1,2,none⟩ (.int .i64 0) = (w2.setCell ⟨W.heap.size + 1 + 1,0,none⟩ (.slice A xs.length c')):=setCell_same (q2.trans rfl)
    obtain ⟨o',n,cc,c0,hn,hcc,t0,t1,t2,t3⟩:=hr3.head
    have hor:=HOR.out
    rw [allO] at hor
    by_cases hz : (tkAt T j).f0 = 0
    · rw [if_pos hz] at hor
      injection hor with hor
      subst hor
      rw [hz] at t0
      clear hr3 hL hlr hlt j8 j9 jq k8 k9 kq hgs3 hb3 hb2 hr2 hg2 t1 t2 t3 hcc hx r6 r7 r8 r9 rq hGW hbW
      go_wp2_with fail
      generalize (w2.setCell ⟨W.heap.size + 1 + 1,0,none⟩ (.slice A xs.length c')) = w3 at *
      go_region
      all_goals
        go_wp2
        refine leaves_cons (f:=32) (args:=#[.pointer (some ⟨W.heap.size + 1 + 1,0,none⟩),.pointer (some ⟨W.heap.size + 1 + 1 + 1,0,none⟩)]) (by simp) (by simp [go_sem]) ?_
        refine (end32r _ _ _).mono ?_
        rintro e u' w4 ⟨rfl, rfl, rfl⟩
        have hbd:=below_drew1 (Below.refl w3.heap.size w3)
        have hR:=Kd.R_below HLR.out hbd
        have hB:=below_step HB3.out hbd
        simp [Leaves,settle,results,Tryz.results13,go_sem,q8,q0,q1,q2]
        exact ⟨hR,hB⟩
    · rw [if_neg hz] at hor
      injection hor with hor
      subst hor
      obtain ⟨q,hq⟩ : ∃ q,(tkAt T j).f0 = q:=⟨_,rfl⟩
      replace hz : ¬ q = 0:=by rw [← hq];exact hz
      replace t0 : (w2.setCell ⟨W.heap.size + 1 + 1,0,none⟩ (.slice A xs.length c')).cell? ⟨B,o',none⟩ = some (.int .u8 q):=by rw [← hq];exact t0
      have n0 : (q == 0) = false:=beq_eq_false_iff_ne.2 hz
      have m0 : (q != 0) = true:=bne_iff_ne.2 hz
      clear hr3 hL hlr hlt j8 j9 jq k8 k9 kq hgs3 hb3 hb2 hr2 hg2 t1 t2 t3 hcc hx r6 r7 r8 r9 rq hGW hbW hq
      go_wp2_with (go_at_call 36;refine (fail_ _ _ _ HR3.out 5).mono ?_;rintro e w4 ⟨rfl,rfl⟩)
      refine leaves_cons (f:=32) (args:=#[.pointer (some ⟨W.heap.size + 1 + 1,0,none⟩),.pointer (some ⟨W.heap.size + 1 + 1 + 1,0,none⟩)]) (by simp) (by simp [go_sem]) ?_
      refine (end32p (W.heap.size + 1 + 1) (W.heap.size + 1 + 1 + 1) 5 _ _ (.slice A xs.length c') 0 0 0 _ (by omega) J8.out J9.out ⟨_,_,_,rfl⟩).mono ?_
      rintro e u' w4 ⟨rfl, rfl, hl, hf, h1, h2, h3, h4, h5⟩
      have y0:=(blk_cell hl 0)
      have y1:=(blk_cell hf 0)
      have y2:=(blk_cell hf 1)
      have y3:=(blk_cell hf 2)
      have hb3:=HB3.out
      simp [Leaves,settle,results,Tryz.results13,go_sem,y0,y1,y2,y3]
      exact ⟨Kd.R_nil _ _ _ _ _,h1.trans hb3.os,h2.trans hb3.tape,h3.trans hb3.output,Nat.le_trans hb3.size h4,fun i hi=>(h5 i (Nat.lt_of_lt_of_le hi hb3.size) (by omega) (by omega)).trans (hb3.block i hi)⟩
end Go.Proofs.YtmgdkkkkanjadaaGreatDoor.HandN
/-
  parse.Pool, parse.Exprs. Conditions: what the listed package variables hold.
-/
namespace Go.Proofs.YtmgdkkkkanjadaaGreatDoor.HandO
set_option linter.unusedVariables false
set_option linter.unusedSimpArgs false
open Go.RowKit Go.Shelf Go.Lib Go.Proofs.YtmgdkkkkanjadaaGreatDoorW.PrintWords Go.Proofs.YtmgdkkkkanjadaaGreatDoorW.PrintLast Go.Proofs.YtmgdkkkkanjadaaGreatDoorW.PrintMore Go.Proofs.YtmgdkkkkanjadaaGreatDoor.X Go.Proofs.YtmgdkkkkanjadaaGreatDoor.HandS Go.Proofs.YtmgdkkkkanjadaaGreatDoor.HandA Go.Proofs.YtmgdkkkkanjadaaGreatDoor.HandB Go.Proofs.YtmgdkkkkanjadaaGreatDoor.HandC Go.Proofs.YtmgdkkkkanjadaaGreatDoor.HandD Go.Proofs.YtmgdkkkkanjadaaGreatDoor.HandE Go.Proofs.YtmgdkkkkanjadaaGreatDoor.HandF Go.Proofs.YtmgdkkkkanjadaaGreatDoor.HandG Go.Proofs.YtmgdkkkkanjadaaGreatDoor.HandH Go.Proofs.YtmgdkkkkanjadaaGreatDoor.HandI Go.Proofs.YtmgdkkkkanjadaaGreatDoor.HandJ Go.Proofs.YtmgdkkkkanjadaaGreatDoor.HandK Go.Proofs.YtmgdkkkkanjadaaGreatDoor.HandL Go.Proofs.YtmgdkkkkanjadaaGreatDoor.HandM Go.Proofs.YtmgdkkkkanjadaaGreatDoor.HandN

def poolS (k : Nat) (s : ByteArray) : Option (List S38 × Int × Int × Int):=match scan_Tokens.f k s with
  | some (T,r2,r3,r4)=>if r2 = 0 ∧ r3 = 0 ∧ r4 = 0 ∧ 0 < T.length then allF cardIs cardS 64 T else none
  | none=>none
theorem pool_cases {k : Nat} {s : ByteArray} {r : List S38 × Int × Int × Int} (h : poolS k s = some r) : ∃ T,scan_Tokens.f k s = some (T,0,0,0) ∧ 0 < T.length ∧ allF cardIs cardS 64 T = some r:=by
  unfold poolS at h
  split at h
  · next T r2 r3 r4 heq =>
    split at h
    · next hc =>
      obtain ⟨rfl,rfl,rfl,hT⟩:=hc
      exact ⟨T,heq,hT,h⟩
    · cases h
  · cases h
set_option maxHeartbeats 1000000 in
set_option maxRecDepth 100000 in
theorem pool_ (k : Nat) (s : ByteArray) (W : World) (hG : Tabs W) {r : List S38 × Int × Int × Int} (hr : poolS k s = some r) :
    Calls Tryz.prog 6 #[.string s] W fun e w' => ∃ v0 : Value, e = .returned (.tuple #[v0, .agg #[.int .i64 r.2.1, .int .i64 r.2.2.1, .int .i64 r.2.2.2]]) ∧ Kd.R k38 38 w' W.heap.size (fun _ => True) v0 r.1 ∧ Below W.heap.size W w' := by
  obtain ⟨T,hs,hT,ha⟩:=pool_cases hr
  have hba:=below_alloc (Below.refl W.heap.size W) (.cells #[.int .i64 0,.int .i64 0,.int .i64 0] 28)
  have HB:=Aside0.mk hba
  have HN:=Aside0.mk (blk_new W (.cells #[.int .i64 0,.int .i64 0,.int .i64 0] 28))
  have HA:=Aside0.mk (all13 k s T hs hT _ (hG.below hba) ha)
  have HSZ:=Aside0.mk (size_alloc W (.cells #[.int .i64 0,.int .i64 0,.int .i64 0] 28))
  clear hba hr hs hT ha
  go_enter Tryz.func6,Tryz.ntmps6
  go_wp2_with (first
    | (go_at_call 13;refine HA.out.mono ?_;rintro e w2 ⟨v0,rfl,hR,hb⟩;have hk:=blk_below HN.out hb;have HK:=Aside0.mk hk;have HB2:=Aside0.mk (below_step HB.out hb);have HR:=Aside0.mk hR;clear hR hb hk)
    | ((with_reducible refine gate_store (t:=28) (p:=3) rfl ?_);refine store_row rfl rfl rfl W.heap.size _ rfl rfl HK.out (by kernel_rfl) rfl (by kernel_rfl) ?_;intro w3 hf3 hg3;have HF3:=Aside0.mk hf3;have HG3:=Aside0.mk hg3;clear hf3 hg3))
  refine bodyPost_ret (results_tc rfl _ _ W.heap.size 28 _ (0,0) _ rfl HF3.out Tryz.underlying28 rfl (by kernel_rfl)) rfl ?_
  have hR:=R_keepG HR.out HG3.out (by rw [HSZ.out];exact Nat.lt_succ_self _)
  exact ⟨_,rfl,Kd.R_lower hR (by rw [HSZ.out];exact Nat.le_succ _),pw_below_grown HB2.out (some W.heap.size) HB2.out.size HG3.out (fun k e=>by cases e;exact Nat.le_refl _)⟩

def exprsS (k : Nat) (s : ByteArray) : Option (List S50 × Int × Int × Int):=match scan_Tokens.f k s with
  | some (T,r2,r3,r4)=>if r2 = 0 ∧ r3 = 0 ∧ r4 = 0 ∧ 0 < T.length then allF exprIs valueS 6 T else none
  | none=>none
theorem exprs_cases {k : Nat} {s : ByteArray} {r : List S50 × Int × Int × Int} (h : exprsS k s = some r) : ∃ T,scan_Tokens.f k s = some (T,0,0,0) ∧ 0 < T.length ∧ allF exprIs valueS 6 T = some r:=by
  unfold exprsS at h
  split at h
  · next T r2 r3 r4 heq =>
    split at h
    · next hc =>
      obtain ⟨rfl,rfl,rfl,hT⟩:=hc
      exact ⟨T,heq,hT,h⟩
    · cases h
  · cases h
set_option maxHeartbeats 1000000 in
set_option maxRecDepth 100000 in
theorem exprs_ (k : Nat) (s : ByteArray) (W : World) (hG : Tabs W) {r : List S50 × Int × Int × Int} (hr : exprsS k s = some r) :
    Calls Tryz.prog 8 #[.string s] W fun e w' => ∃ v0 : Value, e = .returned (.tuple #[v0, .agg #[.int .i64 r.2.1, .int .i64 r.2.2.1, .int .i64 r.2.2.2]]) ∧ Kd.R k50 50 w' W.heap.size (fun _ => True) v0 r.1 ∧ Below W.heap.size W w' := by
  obtain ⟨T,hs,hT,ha⟩:=exprs_cases hr
  have hba:=below_alloc (Below.refl W.heap.size W) (.cells #[.int .i64 0,.int .i64 0,.int .i64 0] 28)
  have HB:=Aside0.mk hba
  have HN:=Aside0.mk (blk_new W (.cells #[.int .i64 0,.int .i64 0,.int .i64 0] 28))
  have HA:=Aside0.mk (all24 k s T hs hT _ (hG.below hba) ha)
  have HSZ:=Aside0.mk (size_alloc W (.cells #[.int .i64 0,.int .i64 0,.int .i64 0] 28))
  clear hba hr hs hT ha
  go_enter Tryz.func8,Tryz.ntmps8
  go_wp2_with (first
    | (go_at_call 24;refine HA.out.mono ?_;rintro e w2 ⟨v0,rfl,hR,hb⟩;have hk:=blk_below HN.out hb;have HK:=Aside0.mk hk;have HB2:=Aside0.mk (below_step HB.out hb);have HR:=Aside0.mk hR;clear hR hb hk)
    | ((with_reducible refine gate_store (t:=28) (p:=3) rfl ?_);refine store_row rfl rfl rfl W.heap.size _ rfl rfl HK.out (by kernel_rfl) rfl (by kernel_rfl) ?_;intro w3 hf3 hg3;have HF3:=Aside0.mk hf3;have HG3:=Aside0.mk hg3;clear hf3 hg3))
  refine bodyPost_ret (results_tc rfl _ _ W.heap.size 28 _ (0,0) _ rfl HF3.out Tryz.underlying28 rfl (by kernel_rfl)) rfl ?_
  have hR:=R_keepG HR.out HG3.out (by rw [HSZ.out];exact Nat.lt_succ_self _)
  exact ⟨_,rfl,Kd.R_lower hR (by rw [HSZ.out];exact Nat.le_succ _),pw_below_grown HB2.out (some W.heap.size) HB2.out.size HG3.out (fun k e=>by cases e;exact Nat.le_refl _)⟩

end Go.Proofs.YtmgdkkkkanjadaaGreatDoor.HandO
/-
  parse.Pool, parse.Exprs, as the printed texts call them. Conditions: what the listed package variables hold.
-/
namespace Go.Proofs.YtmgdkkkkanjadaaGreatDoor.HandS
set_option linter.unusedVariables false
open Go.RowKit Go.Proofs.YtmgdkkkkanjadaaGreatDoorW.PrintWords Go.Proofs.YtmgdkkkkanjadaaGreatDoorW.PrintLast Go.Proofs.YtmgdkkkkanjadaaGreatDoorW.PrintMore Go.Proofs.YtmgdkkkkanjadaaGreatDoor.X Go.Proofs.YtmgdkkkkanjadaaGreatDoor.HandA Go.Proofs.YtmgdkkkkanjadaaGreatDoor.HandB Go.Proofs.YtmgdkkkkanjadaaGreatDoor.HandC Go.Proofs.YtmgdkkkkanjadaaGreatDoor.HandD Go.Proofs.YtmgdkkkkanjadaaGreatDoor.HandE Go.Proofs.YtmgdkkkkanjadaaGreatDoor.HandF Go.Proofs.YtmgdkkkkanjadaaGreatDoor.HandG Go.Proofs.YtmgdkkkkanjadaaGreatDoor.HandH Go.Proofs.YtmgdkkkkanjadaaGreatDoor.HandI Go.Proofs.YtmgdkkkkanjadaaGreatDoor.HandJ Go.Proofs.YtmgdkkkkanjadaaGreatDoor.HandK Go.Proofs.YtmgdkkkkanjadaaGreatDoor.HandL Go.Proofs.YtmgdkkkkanjadaaGreatDoor.HandM Go.Proofs.YtmgdkkkkanjadaaGreatDoor.HandN Go.Proofs.YtmgdkkkkanjadaaGreatDoor.HandO
theorem pool_of {k : Nat} {s : ByteArray} {T : List S69} (h : scan_Tokens.f k s = some (T,0,0,0)) (hT : 0 < T.length) : poolS k s = allF cardIs cardS 64 T:=by
  unfold poolS
  rw [h]
  exact if_pos ⟨rfl,rfl,rfl,hT⟩
theorem exprs_of {k : Nat} {s : ByteArray} {T : List S69} (h : scan_Tokens.f k s = some (T,0,0,0)) (hT : 0 < T.length) : exprsS k s = allF exprIs valueS 6 T:=by
  unfold exprsS
  rw [h]
  exact if_pos ⟨rfl,rfl,rfl,hT⟩
def parse_Pool.f (k : Nat) (a0 : ByteArray) : Option ((List (S38)) × Int × Int × Int):=poolS k a0
theorem parse_Pool.mono : ∀ a0 k,LeO (parse_Pool.f k a0) (parse_Pool.f (k + 1) a0):=by
  intro a0 k r h
  obtain ⟨T,hs,hT,ha⟩:=pool_cases h
  exact (pool_of (scan_Tokens.mono a0 k _ hs) hT).trans ha
theorem parse_Pool.calls (k : Nat) (a0 : ByteArray) (r1 : List (S38)) (r2 : Int) (r3 : Int) (r4 : Int) (w : World) (hG : Tabs w) (h : parse_Pool.f k a0 = some (r1,r2,r3,r4)) :
    Calls Tryz.prog 6 #[.string a0] w fun e w' => ∃ v0_ : Value, e = .returned (.tuple #[v0_, .agg #[.int .i64 r2, .int .i64 r3, .int .i64 r4]]) ∧ Kd.R k38 38 w' w.heap.size (fun _ => True) v0_ r1 ∧ Below w.heap.size w w' := pool_ k a0 w hG h
def parse_Exprs.f (k : Nat) (a0 : ByteArray) : Option ((List (S50)) × Int × Int × Int):=exprsS k a0
theorem parse_Exprs.mono : ∀ a0 k,LeO (parse_Exprs.f k a0) (parse_Exprs.f (k + 1) a0):=by
  intro a0 k r h
  obtain ⟨T,hs,hT,ha⟩:=exprs_cases h
  exact (exprs_of (scan_Tokens.mono a0 k _ hs) hT).trans ha
theorem parse_Exprs.calls (k : Nat) (a0 : ByteArray) (r1 : List (S50)) (r2 : Int) (r3 : Int) (r4 : Int) (w : World) (hG : Tabs w) (h : parse_Exprs.f k a0 = some (r1,r2,r3,r4)) :
    Calls Tryz.prog 8 #[.string a0] w fun e w' => ∃ v0_ : Value, e = .returned (.tuple #[v0_, .agg #[.int .i64 r2, .int .i64 r3, .int .i64 r4]]) ∧ Kd.R k50 50 w' w.heap.size (fun _ => True) v0_ r1 ∧ Below w.heap.size w w' := exprs_ k a0 w hG h
end Go.Proofs.YtmgdkkkkanjadaaGreatDoor.HandS
namespace Go.Proofs.YtmgdkkkkanjadaaGreatDoor.Eval
open Go.Proofs.YtmgdkkkkanjadaaGreatDoor.X Go.Proofs.YtmgdkkkkanjadaaGreatDoor.HandO
theorem e1 : exprsS 60 ⟨#[51,32,108,105,102,101,32,109,105,110,101,32,40,43,32,49,32,112,111,119,101,114,41]⟩ = some ([⟨0,3,0,z40,[]⟩,⟨1,0,0,z40,[]⟩,⟨4,0,0,z40,[⟨0,1,0,z40,[]⟩,⟨3,0,0,z40,[]⟩]⟩],0,0,0):=by kernel_rfl
theorem e2 : exprsS 60 ⟨#[40,110,111,116,41]⟩ = some ([],5,1,5):=by kernel_rfl
theorem e3 : exprsS 60 ⟨#[40,41]⟩ = some ([],5,1,2):=by kernel_rfl
theorem e4 : exprsS 60 ⟨#[99,111,117,110,116,32,109,105,110,101,32,114,111,119,32,117,110,105,116]⟩ = some ([⟨2,0,0,⟨0,2,1⟩,[]⟩],0,0,0):=by kernel_rfl
theorem p1 : poolS 60 ⟨#[117,110,105,116,32,111,103,114,101,32,52,32,49,56,48,48,32,48,32,123,32,125]⟩ = some ([⟨⟨#[111,103,114,101]⟩,0,4,1800,0,[]⟩],0,0,0):=by kernel_rfl
theorem p2 : poolS 200 ⟨#[115,112,101,108,108,32,114,97,105,110,32,123,32,112,108,97,121,58,32,100,97,109,97,103,101,32,116,104,101,105,114,115,32,53,48,48,59,32,125]⟩ = some ([⟨⟨#[114,97,105,110]⟩,1,0,0,0,[⟨0,0,0,[],0,0,false,0,z40,[⟨2,1,⟨0,500,0,z40,[]⟩,false,z40⟩]⟩]⟩],0,0,0):=by kernel_rfl
theorem p3 : poolS 60 ⟨#[117,110,105,116,32,51]⟩ = some ([],5,1,6):=by kernel_rfl
end Go.Proofs.YtmgdkkkkanjadaaGreatDoor.Eval
