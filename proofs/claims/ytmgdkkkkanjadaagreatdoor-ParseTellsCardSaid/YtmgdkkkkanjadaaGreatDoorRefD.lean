/-
  joustref02's reader: a walk's two rows, Sel, a step's Sel. Conditions: none.
-/
import Derived.Test.YtmgdkkkkanjadaaGreatDoorHandJ
/-
  joustref02's reader: its state, and the small functions. Conditions: none.
-/
namespace Go.Proofs.YtmgdkkkkanjadaaGreatDoor.RefA
set_option linter.unusedVariables false
set_option linter.unusedSimpArgs false
open Go.RowKit Go.Shelf Go.Lib Go.Proofs.YtmgdkkkkanjadaaGreatDoorW.PrintWords Go.Proofs.YtmgdkkkkanjadaaGreatDoorW.PrintLast Go.Proofs.YtmgdkkkkanjadaaGreatDoorW.PrintMore Go.Proofs.YtmgdkkkkanjadaaGreatDoor.X Go.Proofs.YtmgdkkkkanjadaaGreatDoor.HandS Go.Proofs.YtmgdkkkkanjadaaGreatDoor.HandA Go.Proofs.YtmgdkkkkanjadaaGreatDoor.HandB Go.Proofs.YtmgdkkkkanjadaaGreatDoor.HandC

/-- where it stands, or the first fault -/
inductive St where
  | ok (j : Nat)
  | bad (k l c : Int)
def St.e : St → Int
  | .ok _=>0
  | .bad k _ _=>k
def St.l : St → Int
  | .ok _=>0
  | .bad _ l _=>l
def St.c : St → Int
  | .ok _=>0
  | .bad _ _ c=>c
abbrev Qc (x : Cx) (a : Nat) (st : St) : Array Value:=#[.slice (some ⟨x.B,0,none⟩) x.T.length x.c,.int .i64 a,.int .i64 st.e,.int .i64 st.l,.int .i64 st.c]
structure Qd (x : Cx) (w : World) (st : St) : Prop where
  row : ∃ a : Nat,a < x.T.length ∧ w.heap[x.r]? = some (.cells (Qc x a st) 66 (0,0)) ∧ ∀ j,st = .ok j → a = j
  nz : ∀ k l c,st = .bad k l c → k ≠ 0
  tk : ∀ i,i < x.T.length → Tk w x.B (4 * i) (tkAt x.T i)
  hc : x.T.length ≤ x.c
  hm : x.c ≤ 9223372036854775807
  hl : x.T.length ≤ 1000000
  ne : x.B ≠ x.r
  below : Below x.W0.heap.size x.W0 w
  hr : x.W0.heap.size ≤ x.r
  good : ∀ j,j < x.T.length → (tkAt x.T j).f0 ≠ 0 → j + 1 < x.T.length
  ts : ∀ j,(tkAt x.T j).f1.size ≤ 1000000
theorem Qd.below_ {x : Cx} {w w' : World} {st : St} (h : Qd x w st) (hb : Below w.heap.size w w') : Qd x w' st := by
  obtain ⟨a,ha,hrow,haj⟩:=h.row
  have hg:=grown_of_below hb (some x.r)
  exact ⟨⟨a,ha,blk_below hrow hb,haj⟩,h.nz,fun i hi=>(h.tk i hi).grown hg h.ne,h.hc,h.hm,h.hl,h.ne,pw_below_grown h.below (some x.r) h.below.size hg (fun k e=>by cases e;exact h.hr),h.hr,h.good,h.ts⟩
theorem Qd.rlt {x : Cx} {w : World} {st : St} (h : Qd x w st) : x.r < w.heap.size:=by
  obtain ⟨a,ha,hrow,_⟩:=h.row
  exact blk_lt hrow
theorem Qd.Blt {x : Cx} {w : World} {st : St} (h : Qd x w st) : x.B < w.heap.size:=by
  obtain ⟨a,ha,hrow,_⟩:=h.row
  exact World.block_lt_of_cell? _ _ (h.tk a ha).1
/-- a store of the reader's own row -/
theorem Qd.store {x : Cx} {w w' : World} {st st' : St} (h : Qd x w st) (a : Nat) (ha : a < x.T.length) (hrow : w'.heap[x.r]? = some (.cells (Qc x a st') 66 (0, 0))) (haj : ∀ j, st' = .ok j → a = j) (hnz : ∀ k l c, st' = .bad k l c → k ≠ 0) (hg : w.grownBy w' (some x.r)) : Qd x w' st' :=
  ⟨⟨a,ha,hrow,haj⟩,hnz,fun i hi=>(h.tk i hi).grown hg h.ne,h.hc,h.hm,h.hl,h.ne,pw_below_grown h.below (some x.r) h.below.size hg (fun k e=>by cases e;exact h.hr),h.hr,h.good,h.ts⟩
/-- a store elsewhere -/
theorem Qd.other {x : Cx} {w w' : World} {st : St} {g : Nat} (h : Qd x w st) (hg : w.grownBy w' (some g)) (hr : g ≠ x.r) (hB : g ≠ x.B) (hW : x.W0.heap.size ≤ g) : Qd x w' st := by
  obtain ⟨a,ha,hrow,haj⟩:=h.row
  exact ⟨⟨a,ha,blk_grown hrow hg (fun e=>hr (Option.some.inj e).symm),haj⟩,h.nz,fun i hi=>(h.tk i hi).grown hg (fun e=>hB e.symm),h.hc,h.hm,h.hl,h.ne,pw_below_grown h.below (some g) h.below.size hg (fun k e=>by cases e;exact hW),h.hr,h.good,h.ts⟩
def nextQ (T : List S69) : St → S69
  | .ok j=>tkAt T j
  | .bad _ _ _=>z69
theorem Qd.size {x : Cx} {w : World} {st : St} (h : Qd x w st) : (nextQ x.T st).f1.size ≤ 1000000:=by
  cases st with
  | ok j=>exact h.ts j
  | bad k l c=>exact Nat.zero_le _
def failQ (T : List S69) (k : Int) : St → St
  | .ok j=>.bad k (tkAt T j).f2.f0 (tkAt T j).f2.f1
  | .bad k l c=>.bad k l c
def advQ : St → St
  | .ok j=>.ok (j + 1)
  | .bad k l c=>.bad k l c
def isQ (T : List S69) (s : ByteArray) : St → Bool
  | .ok j=>isS T s j
  | .bad _ _ _=>false
def mayQ (T : List S69) (s : ByteArray) (st : St) : Bool × St:=if isQ T s st = true then (true,advQ st) else (false,st)
def takeQ (T : List S69) (s : ByteArray) (st : St) : St:=if isQ T s st = true then advQ st else failQ T 5 st
abbrev tkV (t : S69) : Value:=.agg #[.int .u8 t.f0,.string t.f1,.int .i64 t.f2.f0,.int .i64 t.f2.f1]
theorem info69 : (Tryz.prog.info? 69).map (fun i=>(i.zero,i.size,i.bytes)) = some (some (.agg #[(.int .u8 0),(.string ⟨#[]⟩),(.int .i64 0),(.int .i64 0)]),4,40):=by kernel_rfl
abbrev Z69 : Array Value:=#[.int .u8 0,.string ⟨#[]⟩,.int .i64 0,.int .i64 0]
set_option maxHeartbeats 2000000 in
set_option maxRecDepth 100000 in
theorem next_ (x : Cx) (w : World) (st : St) (h : Qd x w st) :
    Calls Tryz.prog 48 #[.pointer (some ⟨x.r, 0, none⟩)] w fun e w' => e = .returned (tkV (nextQ x.T st)) ∧ Qd x w' st ∧ Below w.heap.size w w' := by
  have hu66:=Tryz.underlying66
  have hu69:=Tryz.underlying69
  have hu64:=Tryz.underlying64
  have hu28:=Tryz.underlying28
  have hb:=below_alloc (Below.refl w.heap.size w) (.cells Z69 69)
  have HQ:=Aside0.mk (h.below_ hb)
  have HB:=Aside0.mk hb
  have HF:=Aside0.mk (blk_new w (.cells Z69 69))
  have H0:=Aside0.mk h
  have HRL:=Aside0.mk h.rlt
  have HBL:=Aside0.mk h.Blt
  have HWL:=Aside0.mk (Nat.le_of_lt (Nat.lt_of_le_of_lt h.hr h.rlt))
  obtain ⟨a,ha,hrow,haj⟩:=(h.below_ hb).row
  cases st with
  | bad k l c =>
    have k0 : (k != 0) = true:=bne_iff_ne.2 (h.nz k l c rfl)
    have c2 : (w.alloc (.cells Z69 69)).cell? ⟨x.r,2,none⟩ = some (.int .i64 k):=(blk_cell hrow 2).trans rfl
    clear h hb hrow haj ha
    go_enter Tryz.func48,Tryz.ntmps48
    go_wp2_with ((with_reducible refine gate_store (t:=69) (p:=2) rfl ?_);refine store_row rfl rfl rfl w.heap.size _ rfl rfl HF.out (by kernel_rfl) rfl (by kernel_rfl) ?_;intro w2 hf2 hg2;have HF2:=Aside0.mk hf2;have HG2:=Aside0.mk hg2;clear hf2 hg2)
    refine bodyPost_ret (results_cell_row rfl _ _ w.heap.size 69 Z69 (0,0) _ rfl HF2.out Tryz.underlying69 rfl (by kernel_rfl)) rfl ?_
    exact ⟨rfl,HQ.out.other HG2.out (Nat.ne_of_gt (HRL.out)) (Nat.ne_of_gt HBL.out) HWL.out,pw_below_grown HB.out (some w.heap.size) HB.out.size HG2.out (fun k e=>by cases e;exact Nat.le_refl _)⟩
  | ok j =>
    obtain rfl:=haj j rfl
    have c0 : (w.alloc (.cells Z69 69)).cell? ⟨x.r,0,none⟩ = some (.slice (some ⟨x.B,0,none⟩) x.T.length x.c):=(blk_cell hrow 0).trans rfl
    have c1 : (w.alloc (.cells Z69 69)).cell? ⟨x.r,1,none⟩ = some (.int .i64 a):=(blk_cell hrow 1).trans rfl
    have c2 : (w.alloc (.cells Z69 69)).cell? ⟨x.r,2,none⟩ = some (.int .i64 0):=(blk_cell hrow 2).trans rfl
    obtain ⟨t0,t1,t2,t3⟩:=(h.below_ hb).tk a ha
    clear h hb hrow haj
    go_enter Tryz.func48,Tryz.ntmps48
    go_wp2_with fail
    have hbd:=below_drew1 (Below.refl (w.alloc (.cells Z69 69)).heap.size (w.alloc (.cells Z69 69)))
    have HQ:=Aside0.mk (HQ.out.below_ hbd)
    have HB:=Aside0.mk (below_step HB.out hbd)
    have HF:=Aside0.mk (blk_below HF.out hbd)
    have c0:=(hbd.cell (World.block_lt_of_cell? _ _ c0)).trans c0
    have c1:=(hbd.cell (World.block_lt_of_cell? _ _ c1)).trans c1
    have t0:=(hbd.cell (World.block_lt_of_cell? _ _ t0)).trans t0
    have t1:=(hbd.cell (World.block_lt_of_cell? _ _ t1)).trans t1
    have t2:=(hbd.cell (World.block_lt_of_cell? _ _ t2)).trans t2
    have t3:=(hbd.cell (World.block_lt_of_cell? _ _ t3)).trans t3
    have p1:=eq_true (show (0 : Int) ≤ (a : Int) by omega)
    have p2:=eq_true (show (a : Int) < (x.T.length : Int) by omega)
    have d0:=blk_cell HF.out 0
    have d1:=blk_cell HF.out 1
    have d2:=blk_cell HF.out 2
    have d3:=blk_cell HF.out 3
    have f0:=blk_frozen HF.out 0
    have f1:=blk_frozen HF.out 1
    have f2:=blk_frozen HF.out 2
    have f3:=blk_frozen HF.out 3
    rw [Nat.mul_comm 4 a] at t0 t1 t2 t3
    go_region_law (fail)
    all_goals
      go_wp2
      refine bodyPost_ret (results_cell_row rfl _ _ w.heap.size 69 #[.int .u8 (tkAt x.T a).f0,.string (tkAt x.T a).f1,.int .i64 (tkAt x.T a).f2.f0,.int .i64 (tkAt x.T a).f2.f1] (0,0) _ rfl (blk_drew (blk_new _ _)) Tryz.underlying69 rfl (by kernel_rfl)) rfl ?_
      exact ⟨rfl,H0.out.below_ (below_drew1 (below_alloc (Below.refl _ _) _)),below_drew1 (below_alloc (Below.refl _ _) _)⟩
theorem Qd.cells {x : Cx} {w : World} {st : St} (h : Qd x w st) : ∃ a : Nat,a < x.T.length ∧ (∀ j,st = .ok j → a = j) ∧ w.cell? ⟨x.r,0,none⟩ = some (.slice (some ⟨x.B,0,none⟩) x.T.length x.c) ∧ w.cell? ⟨x.r,1,none⟩ = some (.int .i64 a) ∧ w.cell? ⟨x.r,2,none⟩ = some (.int .i64 st.e) ∧ w.heap[x.r]? = some (.cells (Qc x a st) 66 (0,0)):=by
  obtain ⟨a,ha,hrow,haj⟩:=h.row
  exact ⟨a,ha,haj,(blk_cell hrow 0).trans rfl,(blk_cell hrow 1).trans rfl,(blk_cell hrow 2).trans rfl,hrow⟩
theorem isQ_eq {x : Cx} {w : World} {st : St} (h : Qd x w st) (s : ByteArray) : isQ x.T s st = ((st.e == 0) && ((!((nextQ x.T st).f0 == 0)) && ((!((nextQ x.T st).f0 == 2)) && ((nextQ x.T st).f1.toList == s.toList)))):=by
  cases st with
  | ok j =>
    show isS x.T s j = (true && _)
    unfold isS
    show _ = (true && ((!((tkAt x.T j).f0 == 0)) && ((!((tkAt x.T j).f0 == 2)) && ((tkAt x.T j).f1.toList == s.toList))))
    rw [ByteArray.toList_eq,ByteArray.toList_eq,Bool.true_and]
    cases (tkAt x.T j).f0 == 2 <;> cases (tkAt x.T j).f0 == 0 <;> rfl
  | bad k l c =>
    have : (k == 0) = false:=beq_eq_false_iff_ne.2 (h.nz k l c rfl)
    show false = ((k == 0) && _)
    rw [this]
    rfl
set_option maxHeartbeats 2000000 in
set_option maxRecDepth 100000 in
theorem isR_ (x : Cx) (w : World) (st : St) (h : Qd x w st) (s : ByteArray) :
    Calls Tryz.prog 49 #[.pointer (some ⟨x.r, 0, none⟩), .string s] w fun e w' => e = .returned (.bool (isQ x.T s st)) ∧ Qd x w' st ∧ Below w.heap.size w w' := by
  have hu66:=Tryz.underlying66
  have hu69:=Tryz.underlying69
  have hu28:=Tryz.underlying28
  have HN:=Aside0.mk (next_ x w st h)
  have heq:=isQ_eq h s
  have HE:=Aside0.mk heq
  clear h heq
  generalize nextQ x.T st = t at *
  obtain ⟨k,y,l,c⟩:=t
  by_cases he : st.e = 0
  · by_cases k0 : k = 0
    · subst k0
      have hf : isQ x.T s st = false:=by rw [HE.out,he];rfl
      go_enter Tryz.func49,Tryz.ntmps49
      go_wp2_with (go_at_call 48;refine HN.out.mono ?_;rintro e w1 ⟨rfl,hq,hb⟩;have HQ:=Aside0.mk (hq.below_ (below_alloc (Below.refl _ _) (.cells #[.int .u8 0,.string y,.int .i64 l,.int .i64 c] 69)));have HB:=Aside0.mk (below_alloc hb (.cells #[.int .u8 0,.string y,.int .i64 l,.int .i64 c] 69));obtain ⟨a,ha,haj,c0,c1,c2,hrow⟩:=HQ.out.cells;rw [he] at c2;clear hq hb ha haj hrow c0 c1)
      go_ret
      exact ⟨by rw [hf];rfl,HQ.out,HB.out⟩
    · have n0 : (k == 0) = false:=beq_eq_false_iff_ne.2 k0
      have m0 : (k != 0) = true:=bne_iff_ne.2 k0
      by_cases k2 : k = 2
      · subst k2
        have hf : isQ x.T s st = false:=by rw [HE.out,he];rfl
        go_enter Tryz.func49,Tryz.ntmps49
        go_wp2_with (go_at_call 48;refine HN.out.mono ?_;rintro e w1 ⟨rfl,hq,hb⟩;have HQ:=Aside0.mk (hq.below_ (below_alloc (Below.refl _ _) (.cells #[.int .u8 2,.string y,.int .i64 l,.int .i64 c] 69)));have HB:=Aside0.mk (below_alloc hb (.cells #[.int .u8 2,.string y,.int .i64 l,.int .i64 c] 69));obtain ⟨a,ha,haj,c0,c1,c2,hrow⟩:=HQ.out.cells;rw [he] at c2;clear hq hb ha haj hrow c0 c1)
        go_ret
        exact ⟨by rw [hf];rfl,HQ.out,HB.out⟩
      · have n2 : (k == 2) = false:=beq_eq_false_iff_ne.2 k2
        have m2 : (k != 2) = true:=bne_iff_ne.2 k2
        have hf : isQ x.T s st = (y.toList == s.toList):=by
          rw [HE.out,he]
          show (true && ((!(k == 0)) && ((!(k == 2)) && (y.toList == s.toList)))) = _
          rw [n0,n2]
          rfl
        go_enter Tryz.func49,Tryz.ntmps49
        go_wp2_with (go_at_call 48;refine HN.out.mono ?_;rintro e w1 ⟨rfl,hq,hb⟩;have HQ:=Aside0.mk (hq.below_ (below_alloc (Below.refl _ _) (.cells #[.int .u8 k,.string y,.int .i64 l,.int .i64 c] 69)));have HB:=Aside0.mk (below_alloc hb (.cells #[.int .u8 k,.string y,.int .i64 l,.int .i64 c] 69));obtain ⟨a,ha,haj,c0,c1,c2,hrow⟩:=HQ.out.cells;rw [he] at c2;clear hq hb ha haj hrow c0 c1)
        go_ret
        exact ⟨by rw [hf];rfl,HQ.out,HB.out⟩
  · have ne : (st.e == 0) = false:=beq_eq_false_iff_ne.2 he
    have hf : isQ x.T s st = false:=by rw [HE.out,ne];rfl
    go_enter Tryz.func49,Tryz.ntmps49
    go_wp2_with (go_at_call 48;refine HN.out.mono ?_;rintro e w1 ⟨rfl,hq,hb⟩;have HQ:=Aside0.mk (hq.below_ (below_alloc (Below.refl _ _) (.cells #[.int .u8 k,.string y,.int .i64 l,.int .i64 c] 69)));have HB:=Aside0.mk (below_alloc hb (.cells #[.int .u8 k,.string y,.int .i64 l,.int .i64 c] 69));obtain ⟨a,ha,haj,c0,c1,c2,hrow⟩:=HQ.out.cells;clear hq hb ha haj hrow c0 c1)
    go_ret
    exact ⟨by rw [hf];rfl,HQ.out,HB.out⟩
set_option maxHeartbeats 2000000 in
set_option maxRecDepth 100000 in
theorem fails_ (x : Cx) (w : World) (st : St) (h : Qd x w st) (k : Int) (hk : k ≠ 0) :
    Calls Tryz.prog 22 #[.pointer (some ⟨x.r, 0, none⟩), .int .i64 k] w fun e w' => e = .returned (.tuple #[]) ∧ Qd x w' (failQ x.T k st) ∧ w.grownBy w' (some x.r) := by
  have hu66:=Tryz.underlying66
  have hu69:=Tryz.underlying69
  have hu64:=Tryz.underlying64
  have hu28:=Tryz.underlying28
  have hu26:=Tryz.underlying26
  have H0:=Aside0.mk h
  obtain ⟨a,ha,haj,c0,c1,c2o,hrow⟩:=h.cells
  cases st with
  | bad k' l c =>
    have ne : (k' == 0) = false := beq_eq_false_iff_ne.2 (h.nz k' l c rfl)
    have c2 : w.cell? ⟨x.r,2,none⟩ = some (.int .i64 k'):=c2o
    clear h c0 c1 c2o hrow haj ha
    go_enter Tryz.func22,Tryz.ntmps22
    go_wp2
    refine bodyPost_end (results_none rfl _ _ _) rfl ?_
    exact ⟨rfl,H0.out,World.grownBy.refl _ _⟩
  | ok j =>
    obtain rfl:=haj j rfl
    have c2 : w.cell? ⟨x.r,2,none⟩ = some (.int .i64 0):=c2o
    go_enter Tryz.func22,Tryz.ntmps22
    go_wp2_with fail
    have hbd:=below_drew1 (Below.refl w.heap.size w)
    have HQ:=Aside0.mk (h.below_ hbd)
    have HG:=Aside0.mk (grown_of_below hbd (some x.r))
    have HR:=Aside0.mk (blk_drew hrow)
    obtain ⟨t0,t1,t2,t3⟩:=(h.below_ hbd).tk a ha
    have c0:=(hbd.cell (World.block_lt_of_cell? _ _ c0)).trans c0
    have c1:=(hbd.cell (World.block_lt_of_cell? _ _ c1)).trans c1
    have c2:=(hbd.cell (World.block_lt_of_cell? _ _ c2)).trans c2
    have c3 : w.drew.cell? ⟨x.r,3,none⟩ = some (.int .i64 0):=(blk_cell HR.out 3).trans rfl
    have c4 : w.drew.cell? ⟨x.r,4,none⟩ = some (.int .i64 0):=(blk_cell HR.out 4).trans rfl
    have b3 : w.cell? ⟨x.r,3,none⟩ = some (.int .i64 0):=(blk_cell hrow 3).trans rfl
    have b4 : w.cell? ⟨x.r,4,none⟩ = some (.int .i64 0):=(blk_cell hrow 4).trans rfl
    have g3:=blk_frozen hrow 3
    have g4:=blk_frozen hrow 4
    have f2:=blk_frozen HR.out 2
    have f3:=blk_frozen HR.out 3
    have f4:=blk_frozen HR.out 4
    have p1:=eq_true (show (0 : Int) ≤ (a : Int) by omega)
    have p2:=eq_true (show (a : Int) < (x.T.length : Int) by omega)
    rw [Nat.mul_comm 4 a] at t2 t3
    clear h hrow haj t0 t1 c2o
    go_region_law (fail)
    all_goals
      go_wp2
      refine bodyPost_end (results_none rfl _ _ _) rfl ?_
      have hg:=((HG.out.trans (grown_set _ x.r 2 (.int .i64 k))).trans (grown_set _ x.r 3 (.int .i64 (tkAt x.T a).f2.f0))).trans (grown_set _ x.r 4 (.int .i64 (tkAt x.T a).f2.f1))
      exact ⟨rfl, H0.out.store a ha (blk_put (blk_put (blk_put HR.out 2 (.int .i64 k) rfl) 3 (.int .i64 (tkAt x.T a).f2.f0) rfl) 4 (.int .i64 (tkAt x.T a).f2.f1) rfl) (fun j e => by cases e) (fun k' l c e => by injection e with e1; rw [← e1]; exact hk) hg, hg⟩
theorem Qd.adv {x : Cx} {w : World} {st : St} (h : Qd x w st) {s : ByteArray} (hs : isQ x.T s st = true) : ∃ a : Nat,st = .ok a ∧ a < x.T.length ∧ w.cell? ⟨x.r,1,none⟩ = some (.int .i64 a) ∧ IntKind.i64.wrap ((a : Int) + 1) = ((a + 1 : Nat) : Int) ∧ w.frozen? ⟨x.r,1,none⟩ = false ∧ Qd x (w.setCell ⟨x.r,1,none⟩ (.int .i64 ((a + 1 : Nat) : Int))) (advQ st):=by
  obtain ⟨a,ha,haj,c0,c1,c2,hrow⟩:=h.cells
  cases st with
  | bad k l c=>cases hs
  | ok j =>
    obtain rfl:=haj j rfl
    have hz : (tkAt x.T a).f0 ≠ 0:=by
      intro hz
      have : isS x.T s a = true:=hs
      unfold isS at this
      rw [hz] at this
      simp at this
    have hl:=h.hl
    refine ⟨a,rfl,ha,c1,?_,blk_frozen hrow 1,h.store (a + 1) (h.good a ha hz) (blk_put hrow 1 _ rfl) (fun j e=>by injection e) (fun k l c e=>by cases e) (grown_set _ _ _ _)⟩
    rw [IntKind.wrap_i64]
    omega
set_option maxHeartbeats 2000000 in
set_option maxRecDepth 100000 in
theorem mayR_ (x : Cx) (w : World) (st : St) (h : Qd x w st) (s : ByteArray) :
    Calls Tryz.prog 61 #[.pointer (some ⟨x.r, 0, none⟩), .string s] w fun e w' => e = .returned (.bool (mayQ x.T s st).1) ∧ Qd x w' (mayQ x.T s st).2 ∧ w.grownBy w' (some x.r) := by
  have hu66:=Tryz.underlying66
  have HI:=Aside0.mk (isR_ x w st h s)
  unfold mayQ
  cases hs : isQ x.T s st with
  | false =>
    rw [hs] at HI
    clear h hs
    go_enter Tryz.func61,Tryz.ntmps61
    go_wp2_with (go_at_call 49;refine HI.out.mono ?_;rintro e w1 ⟨rfl,hq,hb⟩;have HQ:=Aside0.mk hq;have HB:=Aside0.mk hb;clear hq hb)
    go_ret
    exact ⟨rfl,HQ.out,grown_of_below HB.out _⟩
  | true =>
    rw [hs] at HI
    have HS:=Aside0.mk hs
    clear h hs
    go_enter Tryz.func61,Tryz.ntmps61
    go_wp2_with (go_at_call 49;refine HI.out.mono ?_;rintro e w1 ⟨rfl,hq,hb⟩;obtain ⟨a,rfl,ha,c1,hw,f1,hA⟩:=hq.adv HS.out;have HQ:=Aside0.mk hA;have HB:=Aside0.mk hb;clear hq hb hA)
    go_ret
    exact ⟨rfl,HQ.out,(grown_of_below HB.out _).trans (grown_set _ _ _ _)⟩
set_option maxHeartbeats 2000000 in
set_option maxRecDepth 100000 in
theorem takeR_ (x : Cx) (w : World) (st : St) (h : Qd x w st) (s : ByteArray) :
    Calls Tryz.prog 53 #[.pointer (some ⟨x.r, 0, none⟩), .string s] w fun e w' => e = .returned (.tuple #[]) ∧ Qd x w' (takeQ x.T s st) ∧ w.grownBy w' (some x.r) := by
  have hu66:=Tryz.underlying66
  have HI:=Aside0.mk (isR_ x w st h s)
  unfold takeQ
  cases hs : isQ x.T s st with
  | false =>
    rw [hs] at HI
    clear h hs
    go_enter Tryz.func53,Tryz.ntmps53
    go_wp2_with (first
      | (go_at_call 49;refine HI.out.mono ?_;rintro e w1 ⟨rfl,hq,hb⟩;have HQ:=Aside0.mk hq;have HB:=Aside0.mk hb;clear hq hb)
      | (go_at_call 22;refine (fails_ x _ st HQ.out 5 (by decide)).mono ?_;rintro e w2 ⟨rfl,hq,hg⟩;have HQ2:=Aside0.mk hq;have HG2:=Aside0.mk hg;clear hq hg))
    refine bodyPost_ret (results_none rfl _ _ _) rfl ?_
    exact ⟨rfl,HQ2.out,(grown_of_below HB.out _).trans HG2.out⟩
  | true =>
    rw [hs] at HI
    have HS:=Aside0.mk hs
    clear h hs
    go_enter Tryz.func53,Tryz.ntmps53
    go_wp2_with (go_at_call 49;refine HI.out.mono ?_;rintro e w1 ⟨rfl,hq,hb⟩;obtain ⟨a,rfl,ha,c1,hw,f1,hA⟩:=hq.adv HS.out;have HQ:=Aside0.mk hA;have HB:=Aside0.mk hb;clear hq hb hA)
    refine bodyPost_end (results_none rfl _ _ _) rfl ?_
    exact ⟨rfl,HQ.out,(grown_of_below HB.out _).trans (grown_set _ _ _ _)⟩
end Go.Proofs.YtmgdkkkkanjadaaGreatDoor.RefA
/-
  joustref02's reader: words, numbers, lists of words. Conditions: none.
-/
namespace Go.Proofs.YtmgdkkkkanjadaaGreatDoor.RefA
set_option linter.unusedVariables false
set_option linter.unusedSimpArgs false
open Go.RowKit Go.Shelf Go.Lib Go.Proofs.YtmgdkkkkanjadaaGreatDoorW.PrintWords Go.Proofs.YtmgdkkkkanjadaaGreatDoorW.PrintLast Go.Proofs.YtmgdkkkkanjadaaGreatDoorW.PrintMore Go.Proofs.YtmgdkkkkanjadaaGreatDoor.X Go.Proofs.YtmgdkkkkanjadaaGreatDoor.HandS Go.Proofs.YtmgdkkkkanjadaaGreatDoor.HandA Go.Proofs.YtmgdkkkkanjadaaGreatDoor.HandB Go.Proofs.YtmgdkkkkanjadaaGreatDoor.HandC
def wSteps : List ByteArray:=[⟨#[100,114,97,119]⟩,⟨#[109,105,108,108]⟩,⟨#[100,97,109,97,103,101]⟩,⟨#[104,101,97,108]⟩,⟨#[100,101,115,116,114,111,121]⟩,⟨#[98,97,110,105,115,104]⟩,⟨#[98,111,117,110,99,101]⟩,⟨#[98,111,111,115,116]⟩,⟨#[114,101,118,105,118,101]⟩,⟨#[116,111,107,101,110]⟩,⟨#[110,101,103,97,116,101]⟩]
theorem sidesR (w : World) : Calls Tryz.prog 62 #[] w fun e w' => e = .returned (.slice (some ⟨w.heap.size, 0, none⟩) 4 4) ∧ w' = w.alloc (.cells (wSides.map Value.string).toArray 9) := by
  go_enter Tryz.func62,Tryz.ntmps62
  go_wp2
  go_ret
  exact ⟨rfl,rfl⟩
theorem zonesR (w : World) : Calls Tryz.prog 93 #[] w fun e w' => e = .returned (.slice (some ⟨w.heap.size, 0, none⟩) 6 6) ∧ w' = w.alloc (.cells (wZones.map Value.string).toArray 9) := by
  go_enter Tryz.func93,Tryz.ntmps93
  go_wp2
  go_ret
  exact ⟨rfl,rfl⟩
theorem kindsR (w : World) : Calls Tryz.prog 21 #[] w fun e w' => e = .returned (.slice (some ⟨w.heap.size, 0, none⟩) 5 5) ∧ w' = w.alloc (.cells (wKinds.map Value.string).toArray 9) := by
  go_enter Tryz.func21,Tryz.ntmps21
  go_wp2
  go_ret
  exact ⟨rfl,rfl⟩
theorem modesR (w : World) : Calls Tryz.prog 54 #[] w fun e w' => e = .returned (.slice (some ⟨w.heap.size, 0, none⟩) 7 7) ∧ w' = w.alloc (.cells (wModes.map Value.string).toArray 9) := by
  go_enter Tryz.func54,Tryz.ntmps54
  go_wp2
  go_ret
  exact ⟨rfl,rfl⟩
theorem eventsR (w : World) : Calls Tryz.prog 89 #[] w fun e w' => e = .returned (.slice (some ⟨w.heap.size, 0, none⟩) 8 8) ∧ w' = w.alloc (.cells (wEvents.map Value.string).toArray 9) := by
  go_enter Tryz.func89,Tryz.ntmps89
  go_wp2
  go_ret
  exact ⟨rfl,rfl⟩
theorem stepsR (w : World) : Calls Tryz.prog 90 #[] w fun e w' => e = .returned (.slice (some ⟨w.heap.size, 0, none⟩) 11 11) ∧ w' = w.alloc (.cells (wSteps.map Value.string).toArray 9) := by
  go_enter Tryz.func90,Tryz.ntmps90
  go_wp2
  go_ret
  exact ⟨rfl,rfl⟩
theorem Wd_grown {w w' : World} {k g : Nat} {ws : List ByteArray} (h : Wd w k ws) (hg : w.grownBy w' (some g)) (hne : k ≠ g) : Wd w' k ws := fun i hi => hg.cell (h i hi) (fun e => hne (Option.some.inj e))
def oneF (T : List S69) (st : St) : List ByteArray → Nat → Int × St
  | [],_=>(0,failQ T 5 st)
  | s :: r,i=>if isQ T s st = true then ((i : Int),advQ st) else oneF T st r (i + 1)
def oneQ (T : List S69) (ws : List ByteArray) (st : St) : Int × St:=oneF T st ws 0
def anyF (T : List S69) (st : St) : List ByteArray → Bool
  | []=>false
  | s :: r=>if isQ T s st = true then true else anyF T st r
theorem drop_get (ws : List ByteArray) (i : Nat) (h : i < ws.length) : ws.drop i = ws.getD i ⟨#[]⟩ :: ws.drop (i + 1):=by
  rw [List.drop_eq_getElem_cons h,List.getD_eq_getElem?_getD,List.getElem?_eq_getElem h]
  rfl
set_option maxRecDepth 100000 in
set_option maxHeartbeats 1000000 in
theorem oneR_ (x : Cx) (w : World) (st : St) (h : Qd x w st) (ws : List ByteArray) (kb cap : Nat) (hk : Wd w kb ws) (hkr : kb ≠ x.r) (hl : ws.length ≤ 200) :
    Calls Tryz.prog 50 #[.pointer (some ⟨x.r, 0, none⟩), .slice (some ⟨kb, 0, none⟩) ws.length cap] w fun e w' => e = .returned (.int .u8 (oneQ x.T ws st).1) ∧ Qd x w' (oneQ x.T ws st).2 ∧ w.grownBy w' (some x.r) := by
  have HQ:=Aside0.mk h
  have HK:=Aside0.mk hk
  have HL:=Aside0.mk hl
  have HKR:=Aside0.mk hkr
  obtain ⟨n,hn⟩ : ∃ n,ws.length = n:=⟨_,rfl⟩
  have HN:=Aside0.mk hn
  rw [hn]
  clear h hk hn hl hkr
  go_enter Tryz.func50,Tryz.ntmps50
  go_wp2_with fail
  go_loopg [5] n (fun g s5 wr=>∃ i : Nat,s5 = .int .i64 (i : Int) ∧ i ≤ n ∧ n - i ≤ g ∧ Aside0 (Qd x wr st) ∧ Aside0 (w.grownBy wr (some x.r)) ∧ Aside0 (oneF x.T st (ws.drop i) i = oneQ x.T ws st))
  case atStart=>exact ⟨0,rfl,Nat.zero_le _,Nat.le_refl _,HQ,⟨World.grownBy.refl _ _⟩,⟨rfl⟩⟩
  case round =>
    obtain ⟨i,rfl,h1,h2,HQ,HG,H3⟩:=hrel
    have h3:=H3.out
    clear H3
    by_cases hlt : i < n
    · have hlt' : decide ((i : Int) < (n : Int)) = true := decide_eq_true (by omega)
      have hi0 : (0 ≤ (i : Int)) = True:=eq_true (by omega)
      have hi1 : ((i : Int) < (n : Int)) = True:=eq_true (by omega)
      have hi2 : (i < n) = True:=eq_true hlt
      have hi3 : decide (i < n) = true:=decide_eq_true hlt
      have ei : wrap64 ((i : Int) + 1) = ((i + 1 : Nat) : Int):=by have:=HL.out;have:=HN.out;unfold wrap64;omega
      have e8 : IntKind.u8.wrap (i : Int) = (i : Int):=by have:=HL.out;have:=HN.out;simp [IntKind.wrap,IntKind.bits,IntKind.signed];omega
      have et : (i : Int).toNat = i:=Int.toNat_natCast i
      have hs:=(Wd_grown HK.out HG.out HKR.out) i (by rw [HN.out];exact hlt)
      rw [drop_get ws i (by rw [HN.out];exact hlt),oneF] at h3
      generalize ws.getD i ⟨#[]⟩ = s at *
      obtain ⟨g,rfl⟩ : ∃ g,gk = g + 1:=⟨gk - 1,by omega⟩
      have HM:=Aside0.mk (mayR_ x _ st HQ.out s)
      unfold mayQ at HM
      cases hb : isQ x.T s st with
      | true =>
        rw [if_pos hb] at h3
        rw [if_pos hb] at HM
        have H3:=Aside0.mk h3
        clear h3 hb
        go_wp2_with (go_at_call 61;refine HM.out.mono ?_;rintro e w2 ⟨rfl,hq,hg⟩;have HQ2:=Aside0.mk hq;have HG2:=Aside0.mk hg;clear hq hg)
        go_ret
        rw [← H3.out]
        exact ⟨by first | rfl | (simp only [e8];rfl),HQ2.out,HG.out.trans HG2.out⟩
      | false =>
        rw [if_neg (by rw [hb];decide)] at h3
        rw [if_neg (by rw [hb];decide)] at HM
        have H3:=Aside0.mk h3
        clear h3 hb
        go_wp2_with (go_at_call 61;refine HM.out.mono ?_;rintro e w2 ⟨rfl,hq,hg⟩;have HQ2:=Aside0.mk hq;have HG2:=Aside0.mk hg;clear hq hg)
        go_roundg g
        case measure=>omega
        case rel=>exact ⟨i + 1,by first | rfl | rw [ei],by omega,by omega,HQ2,⟨HG.out.trans HG2.out⟩,H3⟩
    · have hlt' : decide ((i : Int) < (n : Int)) = false := decide_eq_false (by omega)
      have hi3 : decide (i < n) = false:=decide_eq_false hlt
      have hi4 : (i < n) = False:=eq_false hlt
      have hi5 : ((i : Int) < (n : Int)) = False:=eq_false (by omega)
      rw [List.drop_eq_nil_of_le (by rw [HN.out];omega),oneF] at h3
      have H3:=Aside0.mk h3
      clear h3
      go_wp2_with (go_at_call 22;refine (fails_ x _ st HQ.out 5 (by decide)).mono ?_;rintro e w2 ⟨rfl,hq,hg⟩;have HQ2:=Aside0.mk hq;have HG2:=Aside0.mk hg;clear hq hg)
      go_ret
      rw [← H3.out]
      exact ⟨rfl,HQ2.out,HG.out.trans HG2.out⟩
set_option maxRecDepth 100000 in
set_option maxHeartbeats 1000000 in
theorem amongR_ (x : Cx) (w : World) (st : St) (h : Qd x w st) (ws : List ByteArray) (kb cap : Nat) (hk : Wd w kb ws) (hkr : kb ≠ x.r) (hl : ws.length ≤ 200) :
    Calls Tryz.prog 20 #[.pointer (some ⟨x.r, 0, none⟩), .slice (some ⟨kb, 0, none⟩) ws.length cap] w fun e w' => e = .returned (.bool (anyF x.T st ws)) ∧ Qd x w' st ∧ Below w.heap.size w w' := by
  have HQ:=Aside0.mk h
  have HK:=Aside0.mk hk
  have HL:=Aside0.mk hl
  have HKR:=Aside0.mk hkr
  obtain ⟨n,hn⟩ : ∃ n,ws.length = n:=⟨_,rfl⟩
  have HN:=Aside0.mk hn
  rw [hn]
  clear h hk hn hl hkr
  go_enter Tryz.func20,Tryz.ntmps20
  go_wp2_with fail
  go_loopg [5] n (fun g s5 wr=>∃ i : Nat,s5 = .int .i64 (i : Int) ∧ i ≤ n ∧ n - i ≤ g ∧ Aside0 (Qd x wr st) ∧ Aside0 (Below w.heap.size w wr) ∧ Aside0 (anyF x.T st (ws.drop i) = anyF x.T st ws))
  case atStart=>exact ⟨0,rfl,Nat.zero_le _,Nat.le_refl _,HQ,⟨Below.refl _ _⟩,⟨rfl⟩⟩
  case round =>
    obtain ⟨i,rfl,h1,h2,HQ,HG,H3⟩:=hrel
    have h3:=H3.out
    clear H3
    by_cases hlt : i < n
    · have hlt' : decide ((i : Int) < (n : Int)) = true := decide_eq_true (by omega)
      have hi0 : (0 ≤ (i : Int)) = True:=eq_true (by omega)
      have hi1 : ((i : Int) < (n : Int)) = True:=eq_true (by omega)
      have hi2 : (i < n) = True:=eq_true hlt
      have hi3 : decide (i < n) = true:=decide_eq_true hlt
      have ei : wrap64 ((i : Int) + 1) = ((i + 1 : Nat) : Int):=by have:=HL.out;have:=HN.out;unfold wrap64;omega
      have et : (i : Int).toNat = i:=Int.toNat_natCast i
      have hs:=(HK.out.below HG.out) i (by rw [HN.out];exact hlt)
      rw [drop_get ws i (by rw [HN.out];exact hlt),anyF] at h3
      generalize ws.getD i ⟨#[]⟩ = s at *
      obtain ⟨g,rfl⟩ : ∃ g,gk = g + 1:=⟨gk - 1,by omega⟩
      have HM:=Aside0.mk (isR_ x _ st HQ.out s)
      cases hb : isQ x.T s st with
      | true =>
        rw [if_pos hb] at h3
        rw [hb] at HM
        have H3:=Aside0.mk h3
        clear h3 hb
        go_wp2_with (go_at_call 49;refine HM.out.mono ?_;rintro e w2 ⟨rfl,hq,hg⟩;have HQ2:=Aside0.mk hq;have HG2:=Aside0.mk hg;clear hq hg)
        go_ret
        rw [← H3.out]
        exact ⟨rfl,HQ2.out,below_step HG.out HG2.out⟩
      | false =>
        rw [if_neg (by rw [hb];decide)] at h3
        rw [hb] at HM
        have H3:=Aside0.mk h3
        clear h3 hb
        go_wp2_with (go_at_call 49;refine HM.out.mono ?_;rintro e w2 ⟨rfl,hq,hg⟩;have HQ2:=Aside0.mk hq;have HG2:=Aside0.mk hg;clear hq hg)
        go_roundg g
        case measure=>omega
        case rel=>exact ⟨i + 1,by first | rfl | rw [ei],by omega,by omega,HQ2,⟨below_step HG.out HG2.out⟩,H3⟩
    · have hlt' : decide ((i : Int) < (n : Int)) = false := decide_eq_false (by omega)
      have hi3 : decide (i < n) = false:=decide_eq_false hlt
      have hi4 : (i < n) = False:=eq_false hlt
      have hi5 : ((i : Int) < (n : Int)) = False:=eq_false (by omega)
      rw [List.drop_eq_nil_of_le (by rw [HN.out];omega),anyF] at h3
      have H3:=Aside0.mk h3
      clear h3
      go_wp2_with fail
      go_ret
      rw [← H3.out]
      exact ⟨rfl,HQ.out,HG.out⟩
end Go.Proofs.YtmgdkkkkanjadaaGreatDoor.RefA
/-
  joustref02's reader: a name, a number, a Sel. Conditions: none.
-/
namespace Go.Proofs.YtmgdkkkkanjadaaGreatDoor.RefA
set_option linter.unusedVariables false
set_option linter.unusedSimpArgs false
open Go.RowKit Go.Shelf Go.Lib Go.Proofs.YtmgdkkkkanjadaaGreatDoorW.PrintWords Go.Proofs.YtmgdkkkkanjadaaGreatDoorW.PrintLast Go.Proofs.YtmgdkkkkanjadaaGreatDoorW.PrintMore Go.Proofs.YtmgdkkkkanjadaaGreatDoor.X Go.Proofs.YtmgdkkkkanjadaaGreatDoor.HandS Go.Proofs.YtmgdkkkkanjadaaGreatDoor.HandA Go.Proofs.YtmgdkkkkanjadaaGreatDoor.HandB Go.Proofs.YtmgdkkkkanjadaaGreatDoor.HandC
def nameQ (T : List S69) (st : St) : ByteArray × St:=if (nextQ T st).f0 = 1 then ((nextQ T st).f1,advQ st) else (⟨#[]⟩,failQ T 5 st)
theorem kind_ok {x : Cx} {w : World} {st : St} (h : Qd x w st) (hk : (nextQ x.T st).f0 ≠ 0) : ∃ a : Nat,st = .ok a ∧ a < x.T.length ∧ a + 1 < x.T.length:=by
  obtain ⟨a,ha,haj,_⟩:=h.cells
  cases st with
  | bad k l c=>exact absurd rfl hk
  | ok j =>
    obtain rfl:=haj j rfl
    exact ⟨a,rfl,ha,h.good a ha hk⟩
/-- the next token is taken -/
theorem Qd.step {x : Cx} {w : World} {a : Nat} (h : Qd x w (.ok a)) (ha : a + 1 < x.T.length) : w.cell? ⟨x.r,1,none⟩ = some (.int .i64 a) ∧ w.cell? ⟨x.r,2,none⟩ = some (.int .i64 0) ∧ IntKind.i64.wrap ((a : Int) + 1) = ((a + 1 : Nat) : Int) ∧ w.frozen? ⟨x.r,1,none⟩ = false ∧ Qd x (w.setCell ⟨x.r,1,none⟩ (.int .i64 ((a + 1 : Nat) : Int))) (.ok (a + 1)):=by
  obtain ⟨a',ha',haj,c0,c1,c2,hrow⟩:=h.cells
  obtain rfl:=haj a rfl
  have hl:=h.hl
  refine ⟨c1, c2, ?_, blk_frozen hrow 1, h.store (a' + 1) ha (blk_put hrow 1 _ rfl) (fun j e => by injection e) (fun k l c e => by cases e) (grown_set _ _ _ _)⟩
  rw [IntKind.wrap_i64]
  omega
set_option maxRecDepth 100000 in
set_option maxHeartbeats 1000000 in
theorem nameR_ (x : Cx) (w : World) (st : St) (h : Qd x w st) :
    Calls Tryz.prog 51 #[.pointer (some ⟨x.r, 0, none⟩)] w fun e w' => e = .returned (.string (nameQ x.T st).1) ∧ Qd x w' (nameQ x.T st).2 ∧ w.grownBy w' (some x.r) := by
  have hu66:=Tryz.underlying66
  have hu69:=Tryz.underlying69
  have hu28:=Tryz.underlying28
  have HN:=Aside0.mk (next_ x w st h)
  unfold nameQ
  by_cases hk : (nextQ x.T st).f0 = 1
  · rw [if_pos hk]
    obtain ⟨a,rfl,ha,ha1⟩:=kind_ok h (by rw [hk];decide)
    have HA:=Aside0.mk ha1
    clear h ha ha1
    generalize nextQ x.T (.ok a) = t at *
    obtain ⟨k,y,l,c⟩:=t
    obtain rfl : k = 1:=hk
    go_enter Tryz.func51,Tryz.ntmps51
    go_wp2_with (go_at_call 48;refine HN.out.mono ?_;rintro e w1 ⟨rfl,hq,hb⟩;have HQ:=Aside0.mk (hq.below_ (below_alloc (Below.refl _ _) (.cells #[.int .u8 1,.string y,.int .i64 l,.int .i64 c] 69)));have HB:=Aside0.mk (below_alloc hb (.cells #[.int .u8 1,.string y,.int .i64 l,.int .i64 c] 69));have hlt:=Nat.ne_of_lt hq.rlt;have hlt2:=Nat.ne_of_gt hq.rlt;obtain ⟨c1,c2,hw,f1,hA⟩:=HQ.out.step HA.out;have HQ2:=Aside0.mk hA;clear hq hb hA)
    go_ret
    exact ⟨rfl,HQ2.out,(grown_of_below HB.out _).trans (grown_set _ _ _ _)⟩
  · rw [if_neg hk]
    clear h
    generalize nextQ x.T st = t at *
    obtain ⟨k,y,l,c⟩:=t
    have m1 : (k != 1) = true:=bne_iff_ne.2 hk
    have n1 : (k == 1) = false:=beq_eq_false_iff_ne.2 hk
    go_enter Tryz.func51,Tryz.ntmps51
    go_wp2_with (first
      | (go_at_call 48;refine HN.out.mono ?_;rintro e w1 ⟨rfl,hq,hb⟩;have HQ:=Aside0.mk (hq.below_ (below_alloc (Below.refl _ _) (.cells #[.int .u8 k,.string y,.int .i64 l,.int .i64 c] 69)));have HB:=Aside0.mk (below_alloc hb (.cells #[.int .u8 k,.string y,.int .i64 l,.int .i64 c] 69));clear hq hb)
      | (go_at_call 22;refine (fails_ x _ st HQ.out 5 (by decide)).mono ?_;rintro e w2 ⟨rfl,hq,hg⟩;have HQ2:=Aside0.mk hq;have HG2:=Aside0.mk hg;clear hq hg))
    go_ret
    exact ⟨rfl,HQ2.out,(grown_of_below HB.out _).trans HG2.out⟩
/-! ### a number -/
def numL : List UInt8 → Int → Int
  | [],n=>n
  | b :: r,n=>numL r (wrap64 (wrap64 (10 * n) + ((b.toNat : Int) - 48) % 256))
def numQ (T : List S69) (st : St) : Int × St:=if (nextQ T st).f0 = 2 then (numL (nextQ T st).f1.data.toList 0,advQ st) else (0,failQ T 5 st)
set_option maxRecDepth 100000 in
set_option maxHeartbeats 1000000 in
theorem numR_ (x : Cx) (w : World) (st : St) (h : Qd x w st) (hsz : (nextQ x.T st).f1.size ≤ 1000000) :
    Calls Tryz.prog 52 #[.pointer (some ⟨x.r, 0, none⟩)] w fun e w' => e = .returned (.int .i64 (numQ x.T st).1) ∧ Qd x w' (numQ x.T st).2 ∧ w.grownBy w' (some x.r) := by
  have hu66:=Tryz.underlying66
  have hu69:=Tryz.underlying69
  have hu28:=Tryz.underlying28
  have HN:=Aside0.mk (next_ x w st h)
  have HSZ:=Aside0.mk hsz
  unfold numQ
  clear hsz
  by_cases hk : (nextQ x.T st).f0 = 2
  · rw [if_pos hk]
    obtain ⟨a,rfl,ha,ha1⟩:=kind_ok h (by rw [hk];decide)
    have HA:=Aside0.mk ha1
    clear h ha ha1
    generalize nextQ x.T (.ok a) = t at *
    obtain ⟨k,y,l,c⟩:=t
    obtain rfl : k = 2:=hk
    go_enter Tryz.func52,Tryz.ntmps52
    go_wp2_with (go_at_call 48;refine HN.out.mono ?_;rintro e w1 ⟨rfl,hq,hb⟩;have HQ:=Aside0.mk (hq.below_ (below_alloc (Below.refl _ _) (.cells #[.int .u8 2,.string y,.int .i64 l,.int .i64 c] 69)));have HB:=Aside0.mk (below_alloc hb (.cells #[.int .u8 2,.string y,.int .i64 l,.int .i64 c] 69));have hlt:=Nat.ne_of_lt hq.rlt;have hlt2:=Nat.ne_of_gt hq.rlt;obtain ⟨c1,c2,hw,f1,hA⟩:=HQ.out.step HA.out;have HQ2:=Aside0.mk hA;clear hq hb hA)
    obtain ⟨W2,hW2⟩ : ∃ W2,W2 = w1.alloc (.cells #[.int .u8 2,.string y,.int .i64 l,.int .i64 c] 69):=⟨_,rfl⟩
    obtain ⟨n,hn⟩ : ∃ n,y.size = n:=⟨_,rfl⟩
    have HN2:=Aside0.mk hn
    have HSZ2:=Aside0.mk (show n ≤ 1000000 by have h1 : y.size ≤ 1000000:=HSZ.out;omega)
    clear HSZ
    go_loopg [4,5] n (fun g s4 s5 wr=>∃ (i : Nat) (v : Int),s4 = .int .i64 v ∧ s5 = .int .i64 (i : Int) ∧ i ≤ n ∧ n - i ≤ g ∧ wr = w1.alloc (.cells #[.int .u8 2,.string y,.int .i64 l,.int .i64 c] 69) ∧ Aside0 (numL (y.data.toList.drop i) v = numL y.data.toList 0))
    case atStart=>exact ⟨0,0,rfl,rfl,Nat.zero_le _,Nat.le_refl _,rfl,⟨rfl⟩⟩
    case round =>
      obtain ⟨i,v,rfl,rfl,h1,h2,rfl,H3⟩:=hrel
      have h3:=H3.out
      clear H3
      by_cases hlt : i < n
      · have hlt' : decide ((i : Int) < (n : Int)) = true := decide_eq_true (by omega)
        have hi0 : (0 ≤ (i : Int)) = True:=eq_true (by omega)
        have hi1 : ((i : Int) < (n : Int)) = True:=eq_true (by omega)
        have hi2 : (i < n) = True:=eq_true hlt
        have hi3 : decide (i < n) = true:=decide_eq_true hlt
        have ei : wrap64 ((i : Int) + 1) = ((i + 1 : Nat) : Int):=by have:=HSZ2.out;unfold wrap64;omega
        have et : (i : Int).toNat = i:=Int.toNat_natCast i
        have hz : y.size = n:=HN2.out
        obtain ⟨g,rfl⟩ : ∃ g,gk = g + 1:=⟨gk - 1,by omega⟩
        clear hW2
        go_wp2_with fail
        have hlt3 : i < y.size:=by rw [hz];exact hlt
        have h4 : numL (y.data.toList.drop (i + 1)) (wrap64 (wrap64 (10 * v) + ((y[i].toNat : Int) - 48) % 256)) = numL y.data.toList 0:=by
          rw [← h3,List.drop_eq_getElem_cons (show i < y.data.toList.length by rw [Array.length_toList];exact hlt3),numL]
          rfl
        go_roundg g
        case measure=>omega
        case rel=>exact ⟨i + 1,_,rfl,by first | rfl | rw [ei],by omega,by omega,rfl,⟨h4⟩⟩
      · have hlt' : decide ((i : Int) < (n : Int)) = false := decide_eq_false (by omega)
        have hi3 : decide (i < n) = false:=decide_eq_false hlt
        have hi4 : (i < n) = False:=eq_false hlt
        have hi5 : ((i : Int) < (n : Int)) = False:=eq_false (by omega)
        have hz : y.size = n:=HN2.out
        rw [List.drop_eq_nil_of_le (by rw [Array.length_toList];exact Nat.le_trans (Nat.le_of_eq hz) (by omega)),numL] at h3
        have H3:=Aside0.mk h3
        clear h3
        go_wp2_with fail
        go_ret
        exact ⟨by rw [← H3.out];rfl,HQ2.out,(grown_of_below HB.out _).trans (grown_set _ _ _ _)⟩
  · rw [if_neg hk]
    clear h
    generalize nextQ x.T st = t at *
    obtain ⟨k,y,l,c⟩:=t
    have m1 : (k != 2) = true:=bne_iff_ne.2 hk
    have n1 : (k == 2) = false:=beq_eq_false_iff_ne.2 hk
    go_enter Tryz.func52,Tryz.ntmps52
    go_wp2_with (first
      | (go_at_call 48;refine HN.out.mono ?_;rintro e w1 ⟨rfl,hq,hb⟩;have HQ:=Aside0.mk (hq.below_ (below_alloc (Below.refl _ _) (.cells #[.int .u8 k,.string y,.int .i64 l,.int .i64 c] 69)));have HB:=Aside0.mk (below_alloc hb (.cells #[.int .u8 k,.string y,.int .i64 l,.int .i64 c] 69));clear hq hb)
      | (go_at_call 22;refine (fails_ x _ st HQ.out 5 (by decide)).mono ?_;rintro e w2 ⟨rfl,hq,hg⟩;have HQ2:=Aside0.mk hq;have HG2:=Aside0.mk hg;clear hq hg))
    go_ret
    exact ⟨rfl,HQ2.out,(grown_of_below HB.out _).trans HG2.out⟩
end Go.Proofs.YtmgdkkkkanjadaaGreatDoor.RefA
namespace Go.Proofs.YtmgdkkkkanjadaaGreatDoor.RefA
set_option linter.unusedVariables false
set_option linter.unusedSimpArgs false
open Go.RowKit Go.Shelf Go.Lib Go.Proofs.YtmgdkkkkanjadaaGreatDoorW.PrintWords Go.Proofs.YtmgdkkkkanjadaaGreatDoorW.PrintLast Go.Proofs.YtmgdkkkkanjadaaGreatDoorW.PrintMore Go.Proofs.YtmgdkkkkanjadaaGreatDoor.X Go.Proofs.YtmgdkkkkanjadaaGreatDoor.HandS Go.Proofs.YtmgdkkkkanjadaaGreatDoor.HandA Go.Proofs.YtmgdkkkkanjadaaGreatDoor.HandB Go.Proofs.YtmgdkkkkanjadaaGreatDoor.HandC Go.Proofs.YtmgdkkkkanjadaaGreatDoor.HandF
/-- how a call of the document's reader ends: what it answers and where it stands is f's -/
def QP (x : Cx) (w0 : World) {α : Type} (rel : α → Value → World → Prop) (f : St → α × St) (st : St) (e : Ending) (w' : World) : Prop :=
  ∃ a st' v, f st = (a, st') ∧ e = .returned v ∧ rel a v w' ∧ Qd x w' st' ∧ w0.grownBy w' (some x.r)
theorem mayE (x : Cx) (w : World) (st : St) (h : Qd x w st) (s : ByteArray) : Calls Tryz.prog 61 #[.pointer (some ⟨x.r,0,none⟩),.string s] w (QP x w rBool (mayQ x.T s) st) :=
  (mayR_ x w st h s).mono (by rintro e w' ⟨rfl, hq, hg⟩; exact ⟨_, _, _, rfl, rfl, rfl, hq, hg⟩)
theorem oneE (x : Cx) (w : World) (st : St) (h : Qd x w st) (ws : List ByteArray) (kb cap : Nat) (hk : Wd w kb ws) (hkr : kb ≠ x.r) (hl : ws.length ≤ 200) : Calls Tryz.prog 50 #[.pointer (some ⟨x.r,0,none⟩),.slice (some ⟨kb,0,none⟩) ws.length cap] w (QP x w rU8 (oneQ x.T ws) st) :=
  (oneR_ x w st h ws kb cap hk hkr hl).mono (by rintro e w' ⟨rfl, hq, hg⟩; exact ⟨_, _, _, rfl, rfl, rfl, hq, hg⟩)
theorem nameE (x : Cx) (w : World) (st : St) (h : Qd x w st) : Calls Tryz.prog 51 #[.pointer (some ⟨x.r,0,none⟩)] w (QP x w rStr (nameQ x.T) st) :=
  (nameR_ x w st h).mono (by rintro e w' ⟨rfl, hq, hg⟩; exact ⟨_, _, _, rfl, rfl, rfl, hq, hg⟩)
theorem numE (x : Cx) (w : World) (st : St) (h : Qd x w st) (hsz : (nextQ x.T st).f1.size ≤ 1000000) : Calls Tryz.prog 52 #[.pointer (some ⟨x.r,0,none⟩)] w (QP x w rInt (numQ x.T) st) :=
  (numR_ x w st h hsz).mono (by rintro e w' ⟨rfl, hq, hg⟩; exact ⟨_, _, _, rfl, rfl, rfl, hq, hg⟩)
theorem sidesC (w : World) : Calls Tryz.prog 62 #[] w fun e w' => ∃ kb, e = .returned (.slice (some ⟨kb, 0, none⟩) 4 4) ∧ Wd w' kb wSides ∧ w.heap.size ≤ kb ∧ Below w.heap.size w w' :=
  (sidesR w).mono (by rintro e w1 ⟨rfl,rfl⟩;exact ⟨_,rfl,Wd.new _ _,Nat.le_refl _,below_alloc (Below.refl _ _) _⟩)
theorem zonesC (w : World) : Calls Tryz.prog 93 #[] w fun e w' => ∃ kb, e = .returned (.slice (some ⟨kb, 0, none⟩) 6 6) ∧ Wd w' kb wZones ∧ w.heap.size ≤ kb ∧ Below w.heap.size w w' :=
  (zonesR w).mono (by rintro e w1 ⟨rfl,rfl⟩;exact ⟨_,rfl,Wd.new _ _,Nat.le_refl _,below_alloc (Below.refl _ _) _⟩)
theorem kindsC (w : World) : Calls Tryz.prog 21 #[] w fun e w' => ∃ kb, e = .returned (.slice (some ⟨kb, 0, none⟩) 5 5) ∧ Wd w' kb wKinds ∧ w.heap.size ≤ kb ∧ Below w.heap.size w w' :=
  (kindsR w).mono (by rintro e w1 ⟨rfl,rfl⟩;exact ⟨_,rfl,Wd.new _ _,Nat.le_refl _,below_alloc (Below.refl _ _) _⟩)
theorem modesC (w : World) : Calls Tryz.prog 54 #[] w fun e w' => ∃ kb, e = .returned (.slice (some ⟨kb, 0, none⟩) 7 7) ∧ Wd w' kb wModes ∧ w.heap.size ≤ kb ∧ Below w.heap.size w w' :=
  (modesR w).mono (by rintro e w1 ⟨rfl,rfl⟩;exact ⟨_,rfl,Wd.new _ _,Nat.le_refl _,below_alloc (Below.refl _ _) _⟩)
theorem eventsC (w : World) : Calls Tryz.prog 89 #[] w fun e w' => ∃ kb, e = .returned (.slice (some ⟨kb, 0, none⟩) 8 8) ∧ Wd w' kb wEvents ∧ w.heap.size ≤ kb ∧ Below w.heap.size w w' :=
  (eventsR w).mono (by rintro e w1 ⟨rfl,rfl⟩;exact ⟨_,rfl,Wd.new _ _,Nat.le_refl _,below_alloc (Below.refl _ _) _⟩)
theorem stepsC (w : World) : Calls Tryz.prog 90 #[] w fun e w' => ∃ kb, e = .returned (.slice (some ⟨kb, 0, none⟩) 11 11) ∧ Wd w' kb wSteps ∧ w.heap.size ≤ kb ∧ Below w.heap.size w w' :=
  (stepsR w).mono (by rintro e w1 ⟨rfl,rfl⟩;exact ⟨_,rfl,Wd.new _ _,Nat.le_refl _,below_alloc (Below.refl _ _) _⟩)
/-- the row that is handed back, and the row that is built -/
structure Tw (x : Cx) (w wr : World) (ty : TypeId) (res : Array Value) (t : Nat) (cells : Array Value) (st : St) : Prop where
  qd : Qd x wr st
  gr : w.grownBy wr (some x.r)
  res : wr.heap[w.heap.size]? = some (.cells res ty (0,0))
  own : wr.heap[t]? = some (.cells cells ty (0,0))
  wt : w.heap.size < t
  rl : x.r < w.heap.size
  Bl : x.B < w.heap.size
  Wl : x.W0.heap.size ≤ w.heap.size
theorem Tw.start {x : Cx} {w : World} {st : St} (h : Qd x w st) (ty : TypeId) (res cells : Array Value) : Tw x w ((w.alloc (.cells res ty)).alloc (.cells cells ty)) ty res (w.heap.size + 1) cells st:=by
  have h2:=blk_new (w.alloc (.cells res ty)) (.cells cells ty)
  rw [size_alloc] at h2
  exact ⟨h.below_ (below_alloc (below_alloc (Below.refl _ _) _) _),(World.grownBy_alloc w _ _).trans (World.grownBy_alloc _ _ _),blk_alloc (blk_new w _) _,h2,Nat.lt_succ_self _,h.rlt,h.Blt,Nat.le_of_lt (Nat.lt_of_le_of_lt h.hr h.rlt)⟩
section
variable {x : Cx} {w wr w1 : World} {ty : TypeId} {res cells : Array Value} {t : Nat} {st st1 : St}
theorem Tw.call (h : Tw x w wr ty res t cells st) (hq : Qd x w1 st1) (hg : wr.grownBy w1 (some x.r)) : Tw x w w1 ty res t cells st1 :=
  ⟨hq,h.gr.trans hg,own_grown h.res hg (Nat.ne_of_gt h.rl),own_grown h.own hg (by have:=h.rl;have:=h.wt;omega),h.wt,h.rl,h.Bl,h.Wl⟩
theorem Tw.below (h : Tw x w wr ty res t cells st) (hb : Below wr.heap.size wr w1) : Tw x w w1 ty res t cells st:=h.call (h.qd.below_ hb) (grown_of_below hb _)
theorem Tw.drew (h : Tw x w wr ty res t cells st) : Tw x w wr.drew ty res t cells st:=h.below (below_drew1 (Below.refl _ _))
theorem Tw.set (h : Tw x w wr ty res t cells st) (i : Nat) (v : Value) (cells' : Array Value) (e : cells.setIfInBounds i v = cells') : Tw x w (wr.setCell ⟨t, i, none⟩ v) ty res t cells' st := by
  have h1:=h.rl
  have h2:=h.wt
  have h3:=h.Bl
  have h4:=h.Wl
  exact ⟨h.qd.other (grown_set wr t i v) (by omega) (by omega) (by omega),grown_far h.gr (p:=⟨t,i,none⟩) (Nat.le_of_lt h.wt) v,blk_far h.res (p:=⟨t,i,none⟩) (by show w.heap.size ≠ t;omega) v,blk_put h.own i v e,h.wt,h.rl,h.Bl,h.Wl⟩
theorem Tw.cell (h : Tw x w wr ty res t cells st) (i : Nat) : wr.cell? ⟨t,i,none⟩ = cells[i]?:=blk_cell h.own i
theorem Tw.fr (h : Tw x w wr ty res t cells st) (i : Nat) : wr.frozen? ⟨t,i,none⟩ = false:=blk_frozen h.own i
/-- the result stored: how it ends -/
theorem Tw.fin (h : Tw x w wr ty res t cells st) (hg : wr.grownBy w1 (some w.heap.size)) : Qd x w1 st ∧ w.grownBy w1 (some x.r):=by
  have h1:=h.rl
  have h3:=h.Bl
  have h4:=h.Wl
  exact ⟨h.qd.other hg (by omega) (by omega) h4,grown_other h.gr hg (Nat.le_refl _)⟩
end
abbrev sAll : ByteArray:=⟨#[97,108,108]⟩
def selQ (T : List S69) (st : St) : S40 × St :=
  if (mayQ T sAll (oneQ T wZones (oneQ T wSides st).2).2).1 = true then (⟨(oneQ T wSides st).1,(oneQ T wZones (oneQ T wSides st).2).1,0⟩,(mayQ T sAll (oneQ T wZones (oneQ T wSides st).2).2).2)
  else (⟨(oneQ T wSides st).1,(oneQ T wZones (oneQ T wSides st).2).1,((oneQ T wKinds (mayQ T sAll (oneQ T wZones (oneQ T wSides st).2).2).2).1 + 1) % 256⟩,(oneQ T wKinds (mayQ T sAll (oneQ T wZones (oneQ T wSides st).2).2).2).2)
abbrev Z40 : Array Value:=#[.int .u8 0,.int .u8 0,.int .u8 0]
def r40 (s : S40) (v : Value) (w : World) : Prop:=v = .agg #[.int .u8 s.f0,.int .u8 s.f1,.int .u8 s.f2]
set_option maxHeartbeats 2000000 in
set_option maxRecDepth 100000 in
theorem selE (x : Cx) (w : World) (st : St) (h : Qd x w st) : Calls Tryz.prog 63 #[.pointer (some ⟨x.r,0,none⟩)] w (QP x w r40 (selQ x.T) st):=by
  have TW:=Aside0.mk (Tw.start h 40 Z40 Z40)
  have hu40:=Tryz.underlying40
  have hsz : (w.alloc (.cells Z40 40)).heap.size = w.heap.size + 1:=size_alloc _ _
  have HRL:=Aside0.mk h.rlt
  clear h
  go_enter Tryz.func63,Tryz.ntmps63
  go_wp2_with (first
    | (go_at_call 62;refine (sidesC _).mono ?_;rintro e w1 ⟨kb,rfl,hwd,hkb,hb⟩;have HKR:=Aside0.mk (show kb ≠ x.r from Nat.ne_of_gt (Nat.lt_of_lt_of_le TW.out.qd.rlt hkb));have TW:=Aside0.mk (TW.out.below hb);have HWD:=Aside0.mk hwd;clear hwd hkb hb)
    | (go_at_call 93;refine (zonesC _).mono ?_;rintro e w3 ⟨kb2,rfl,hwd,hkb,hb⟩;have HKR2:=Aside0.mk (show kb2 ≠ x.r from Nat.ne_of_gt (Nat.lt_of_lt_of_le TW.out.qd.rlt hkb));have TW:=Aside0.mk (TW.out.below hb);have HWD2:=Aside0.mk hwd;clear hwd hkb hb)
    | (go_at_call 21;refine (kindsC _).mono ?_;rintro e w5 ⟨kb3,rfl,hwd,hkb,hb⟩;have HKR3:=Aside0.mk (show kb3 ≠ x.r from Nat.ne_of_gt (Nat.lt_of_lt_of_le TW.out.qd.rlt hkb));have TW:=Aside0.mk (TW.out.below hb);have HWD3:=Aside0.mk hwd;clear hwd hkb hb)
    | (go_at_call 50;refine (oneE x _ _ TW.out.qd wKinds kb3 5 HWD3.out HKR3.out (by decide)).mono ?_;rintro e w6 ⟨c,st4,v,h1,rfl,rfl,hq,hg⟩;have H4:=Aside0.mk h1;have hT:=TW.out.call hq hg;have d2:=hT.cell 2;have f2:=hT.fr 2;have hT2:=hT.set 2 (.int .u8 ((c + 1) % 256)) #[.int .u8 a,.int .u8 b,.int .u8 ((c + 1) % 256)] rfl;have TW:=Aside0.mk hT2;have a0:=hT2.cell 0;have a1:=hT2.cell 1;have a2:=hT2.cell 2;clear hT hT2 h1 hq hg)
    | (go_at_call 50;refine (oneE x _ _ TW.out.qd wZones kb2 6 HWD2.out HKR2.out (by decide)).mono ?_;rintro e w4 ⟨b,st2,v,h1,rfl,rfl,hq,hg⟩;have H2:=Aside0.mk h1;have hT:=TW.out.call hq hg;have d1:=hT.cell 1;have f1:=hT.fr 1;have TW:=Aside0.mk (hT.set 1 (.int .u8 b) #[.int .u8 a,.int .u8 b,.int .u8 0] rfl);clear hT h1 hq hg)
    | (go_at_call 50;refine (oneE x _ _ TW.out.qd wSides kb 4 HWD.out HKR.out (by decide)).mono ?_;rintro e w2 ⟨a,st1,v,h1,rfl,rfl,hq,hg⟩;have H1:=Aside0.mk h1;have hT:=TW.out.call hq hg;have d0:=hT.cell 0;have f0:=hT.fr 0;have TW:=Aside0.mk (hT.set 0 (.int .u8 a) #[.int .u8 a,.int .u8 0,.int .u8 0] rfl);clear hT h1 hq hg)
    | (go_at_call 61;refine (mayE x _ _ TW.out.qd _).mono ?_;rintro e w9 ⟨m,st3,v,h1,rfl,rfl,hq,hg⟩;have H3:=Aside0.mk h1;have hT:=TW.out.call hq hg;have TW:=Aside0.mk hT;have a0:=hT.cell 0;have a1:=hT.cell 1;have a2:=hT.cell 2;clear hT h1 hq hg;cases m)
    | ((with_reducible refine gate_store (t:=40) (p:=2) rfl ?_);refine store_row rfl rfl rfl w.heap.size _ rfl rfl TW.out.res (by kernel_rfl) rfl (by kernel_rfl) ?_;intro w7 hf hg;have HF:=Aside0.mk hf;have HG:=Aside0.mk hg;clear hf hg))
  all_goals
    refine bodyPost_ret (results_cell_row rfl _ _ w.heap.size 40 _ (0,0) _ rfl HF.out Tryz.underlying40 rfl (by kernel_rfl)) rfl ?_
    have hz:=TW.out.fin HG.out
  · refine ⟨⟨a,b,(c + 1) % 256⟩,st4,_,?_,rfl,rfl,hz.1,hz.2⟩
    unfold selQ
    rw [H1.out]
    simp only
    rw [H2.out]
    simp only
    rw [H3.out]
    simp only
    rw [H4.out]
    rfl
  · refine ⟨⟨a,b,0⟩,st3,_,?_,rfl,rfl,hz.1,hz.2⟩
    unfold selQ
    rw [H1.out]
    simp only
    rw [H2.out]
    simp only
    rw [H3.out]
    rfl
end Go.Proofs.YtmgdkkkkanjadaaGreatDoor.RefA
