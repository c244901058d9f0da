/-
  parse's all: the functions that it makes, the one that it defers. Conditions: what the listed package variables hold.
-/
import Derived.Test.YtmgdkkkkanjadaaGreatDoorHandK
import Derived.Recover
namespace Go.Proofs.YtmgdkkkkanjadaaGreatDoor.HandL
set_option linter.unusedVariables false
set_option linter.unusedSimpArgs false
open Go.RowKit Go.Shelf Go.Lib Go.Proofs.YtmgdkkkkanjadaaGreatDoorW.PrintWords Go.Proofs.YtmgdkkkkanjadaaGreatDoorW.PrintLast Go.Proofs.YtmgdkkkkanjadaaGreatDoorW.PrintMore Go.Proofs.YtmgdkkkkanjadaaGreatDoor.X Go.Proofs.YtmgdkkkkanjadaaGreatDoor.HandS Go.Proofs.YtmgdkkkkanjadaaGreatDoor.HandA Go.Proofs.YtmgdkkkkanjadaaGreatDoor.HandB Go.Proofs.YtmgdkkkkanjadaaGreatDoor.HandC Go.Proofs.YtmgdkkkkanjadaaGreatDoor.HandD Go.Proofs.YtmgdkkkkanjadaaGreatDoor.HandE Go.Proofs.YtmgdkkkkanjadaaGreatDoor.HandF Go.Proofs.YtmgdkkkkanjadaaGreatDoor.HandG Go.Proofs.YtmgdkkkkanjadaaGreatDoor.HandH Go.Proofs.YtmgdkkkkanjadaaGreatDoor.HandI Go.Proofs.YtmgdkkkkanjadaaGreatDoor.HandJ Go.Proofs.YtmgdkkkkanjadaaGreatDoor.HandK

theorem assert79 (W : World) (v : Value) : (Instr.typeAssert (.iface 79 v) 20 79 true).run Tryz.prog W = .ok (.tuple #[v,.bool true]) W:=by kernel_rfl
theorem end56r (p q : Value) (w : World) : CallsD Tryz.prog 56 #[p, q] .returning w fun e u' w' => e = .returned (.tuple #[]) ∧ u' = .returning ∧ w' = w := by
  refine callsD_of_wpS Tryz.func56 rfl fun c₀ cs hu=>?_
  apply wpS_seq
  apply wpS_region
  simp [wpOpsS,go_sem,recoverD,hu,Tryz.ntmps56,Exit.thenS]
  refine wpS_of_wp ?_
  go_wp2
  cases c₀
  simp_all [bodyPostS,results,Tryz.results56]
set_option maxHeartbeats 1000000 in
set_option maxRecDepth 100000 in
theorem end56p (l f : Nat) (k a b : Int) (v : Value) (x y z : Int) (w : World) (hlf : l ≠ f) (hl : w.heap[l]? = some (.cells #[v] 31 (0,0))) (hf : w.heap[f]? = some (.cells #[.int .i64 x,.int .i64 y,.int .i64 z] 28 (0,0))) (hv : ∃ A n c,v = .slice A n c) :
    CallsD Tryz.prog 56 #[.pointer (some ⟨l, 0, none⟩), .pointer (some ⟨f, 0, none⟩)] (.panicking [{ v := .iface 79 (.agg #[.int .i64 k, .int .i64 a, .int .i64 b]), recovered := false }]) w fun e u' w' =>
      e = .returned (.tuple #[]) ∧ u' = .panicking [{ v := .iface 79 (.agg #[.int .i64 k, .int .i64 a, .int .i64 b]), recovered := true }] ∧
        w'.heap[l]? = some (.cells #[.slice none 0 0] 31 (0,0)) ∧ w'.heap[f]? = some (.cells #[.int .i64 k,.int .i64 a,.int .i64 b] 28 (0,0)) ∧ w'.os = w.os ∧ w'.tape = w.tape ∧ w'.output = w.output ∧ w.heap.size ≤ w'.heap.size ∧ ∀ i,i < w.heap.size → i ≠ l → i ≠ f → w'.heap[i]? = w.heap[i]?:=by
  have hu28:=Tryz.underlying28
  have hu79:=Tryz.underlying79
  have c0:=blk_cell hl 0
  have f0:=blk_frozen hl 0
  have c1:=blk_cell hf 0
  have f1:=blk_frozen hf 0
  have c2:=blk_cell hf 1
  have f2:=blk_frozen hf 1
  have c3:=blk_cell hf 2
  have f3:=blk_frozen hf 2
  refine callsD_of_wpS Tryz.func56 rfl fun c₀ cs hu=>?_
  apply wpS_seq
  apply wpS_region
  simp [wpOpsS,go_sem,recoverD,hu,Tryz.ntmps56,Exit.thenS]
  refine wpS_of_wp ?_
  have ht : (#[Value.pointer (some ⟨l,0,none⟩),.pointer (some ⟨f,0,none⟩)] ++ (Array.replicate 10 undef).setIfInBounds 3 (.iface 79 (.agg #[.int .i64 k,.int .i64 a,.int .i64 b]))) = #[.pointer (some ⟨l,0,none⟩),.pointer (some ⟨f,0,none⟩),undef,undef,undef,.iface 79 (.agg #[.int .i64 k,.int .i64 a,.int .i64 b]),undef,undef,undef,undef,undef,undef]:=rfl
  have ha:=assert79 w (.agg #[.int .i64 k,.int .i64 a,.int .i64 b])
  rw [ht]
  go_wp2_with fail
  have hl' := blk_alloc hl (.cells #[.int .i64 k, .int .i64 a, .int .i64 b] 79)
  have hf' := blk_alloc hf (.cells #[.int .i64 k, .int .i64 a, .int .i64 b] 79)
  have HL' := Aside0.mk hl'
  have HF' := Aside0.mk hf'
  have d0 := blk_cell hl' 0
  have g0 := blk_frozen hl' 0
  have d1 := blk_cell hf' 0
  have g1 := blk_frozen hf' 0
  have d2 := blk_cell hf' 1
  have g2 := blk_frozen hf' 1
  have d3 := blk_cell hf' 2
  have g3 := blk_frozen hf' 2
  have hfl:=hlf.symm
  have hn:=blk_new w (.cells #[.int .i64 k,.int .i64 a,.int .i64 b] 79)
  have n0:=blk_cell hn 0
  have n1:=blk_cell hn 1
  have n2:=blk_cell hn 2
  have q1:=Nat.ne_of_lt (blk_lt hl)
  have q2:=Nat.ne_of_gt (blk_lt hl)
  have q3:=Nat.ne_of_lt (blk_lt hf)
  have q4:=Nat.ne_of_gt (blk_lt hf)
  clear hn
  have HLW:=Aside0.mk (blk_lt hl)
  have HFW:=Aside0.mk (blk_lt hf)
  clear hl hf hl' hf'
  go_region
  all_goals
    go_wp2
    refine ⟨rfl,_,rfl,.tuple #[],results_none rfl _ _ _,rfl,rfl,?_,?_,rfl,rfl,rfl,?_,?_⟩
    · exact blk_far (blk_far (blk_far (blk_put HL'.out 0 _ rfl) (p:=⟨f,0,none⟩) hlf _) (p:=⟨f,1,none⟩) hlf _) (p:=⟨f,2,none⟩) hlf _
    · exact blk_put (blk_put (blk_put (blk_far HF'.out (p := ⟨l, 0, none⟩) hfl _) 0 (.int .i64 k) (cs' := #[.int .i64 k, .int .i64 y, .int .i64 z]) rfl) 1 (.int .i64 a) (cs' := #[.int .i64 k, .int .i64 a, .int .i64 z]) rfl) 2 (.int .i64 b) rfl
    · have h0 : w.heap.size ≤ (w.alloc (.cells #[.int .i64 k,.int .i64 a,.int .i64 b] 79)).heap.size:=by rw [size_alloc];omega
      exact Nat.le_trans h0 (Nat.le_trans (grown_set _ l 0 (.slice none 0 0)).size (Nat.le_trans (grown_set _ f 0 (.int .i64 k)).size (Nat.le_trans (grown_set _ f 1 (.int .i64 a)).size (grown_set _ f 2 (.int .i64 b)).size)))
    · intro i hi h1 h2
      refine (Below.heap_setCell _ ⟨f,2,none⟩ _ i h2).trans ((Below.heap_setCell _ ⟨f,1,none⟩ _ i h2).trans ((Below.heap_setCell _ ⟨f,0,none⟩ _ i h2).trans ((Below.heap_setCell _ ⟨l,0,none⟩ _ i h1).trans ?_)))
      exact (below_alloc (Below.refl w.heap.size w) (.cells #[.int .i64 k,.int .i64 a,.int .i64 b] 79)).block i hi
theorem end32r (p q : Value) (w : World) : CallsD Tryz.prog 32 #[p, q] .returning w fun e u' w' => e = .returned (.tuple #[]) ∧ u' = .returning ∧ w' = w := by
  refine callsD_of_wpS Tryz.func32 rfl fun c₀ cs hu=>?_
  apply wpS_seq
  apply wpS_region
  simp [wpOpsS,go_sem,recoverD,hu,Tryz.ntmps32,Exit.thenS]
  refine wpS_of_wp ?_
  go_wp2
  cases c₀
  simp_all [bodyPostS,results,Tryz.results32]
set_option maxHeartbeats 1000000 in
set_option maxRecDepth 100000 in
theorem end32p (l f : Nat) (k a b : Int) (v : Value) (x y z : Int) (w : World) (hlf : l ≠ f) (hl : w.heap[l]? = some (.cells #[v] 23 (0,0))) (hf : w.heap[f]? = some (.cells #[.int .i64 x,.int .i64 y,.int .i64 z] 28 (0,0))) (hv : ∃ A n c,v = .slice A n c) :
    CallsD Tryz.prog 32 #[.pointer (some ⟨l, 0, none⟩), .pointer (some ⟨f, 0, none⟩)] (.panicking [{ v := .iface 79 (.agg #[.int .i64 k, .int .i64 a, .int .i64 b]), recovered := false }]) w fun e u' w' =>
      e = .returned (.tuple #[]) ∧ u' = .panicking [{ v := .iface 79 (.agg #[.int .i64 k, .int .i64 a, .int .i64 b]), recovered := true }] ∧
        w'.heap[l]? = some (.cells #[.slice none 0 0] 23 (0,0)) ∧ w'.heap[f]? = some (.cells #[.int .i64 k,.int .i64 a,.int .i64 b] 28 (0,0)) ∧ w'.os = w.os ∧ w'.tape = w.tape ∧ w'.output = w.output ∧ w.heap.size ≤ w'.heap.size ∧ ∀ i,i < w.heap.size → i ≠ l → i ≠ f → w'.heap[i]? = w.heap[i]?:=by
  have hu28:=Tryz.underlying28
  have hu79:=Tryz.underlying79
  have c0:=blk_cell hl 0
  have f0:=blk_frozen hl 0
  have c1:=blk_cell hf 0
  have f1:=blk_frozen hf 0
  have c2:=blk_cell hf 1
  have f2:=blk_frozen hf 1
  have c3:=blk_cell hf 2
  have f3:=blk_frozen hf 2
  refine callsD_of_wpS Tryz.func32 rfl fun c₀ cs hu=>?_
  apply wpS_seq
  apply wpS_region
  simp [wpOpsS,go_sem,recoverD,hu,Tryz.ntmps32,Exit.thenS]
  refine wpS_of_wp ?_
  have ht : (#[Value.pointer (some ⟨l,0,none⟩),.pointer (some ⟨f,0,none⟩)] ++ (Array.replicate 10 undef).setIfInBounds 3 (.iface 79 (.agg #[.int .i64 k,.int .i64 a,.int .i64 b]))) = #[.pointer (some ⟨l,0,none⟩),.pointer (some ⟨f,0,none⟩),undef,undef,undef,.iface 79 (.agg #[.int .i64 k,.int .i64 a,.int .i64 b]),undef,undef,undef,undef,undef,undef]:=rfl
  have ha:=assert79 w (.agg #[.int .i64 k,.int .i64 a,.int .i64 b])
  rw [ht]
  go_wp2_with fail
  have hl' := blk_alloc hl (.cells #[.int .i64 k, .int .i64 a, .int .i64 b] 79)
  have hf' := blk_alloc hf (.cells #[.int .i64 k, .int .i64 a, .int .i64 b] 79)
  have HL' := Aside0.mk hl'
  have HF' := Aside0.mk hf'
  have d0 := blk_cell hl' 0
  have g0 := blk_frozen hl' 0
  have d1 := blk_cell hf' 0
  have g1 := blk_frozen hf' 0
  have d2 := blk_cell hf' 1
  have g2 := blk_frozen hf' 1
  have d3 := blk_cell hf' 2
  have g3 := blk_frozen hf' 2
  have hfl:=hlf.symm
  have hn:=blk_new w (.cells #[.int .i64 k,.int .i64 a,.int .i64 b] 79)
  have n0:=blk_cell hn 0
  have n1:=blk_cell hn 1
  have n2:=blk_cell hn 2
  have q1:=Nat.ne_of_lt (blk_lt hl)
  have q2:=Nat.ne_of_gt (blk_lt hl)
  have q3:=Nat.ne_of_lt (blk_lt hf)
  have q4:=Nat.ne_of_gt (blk_lt hf)
  clear hn
  have HLW:=Aside0.mk (blk_lt hl)
  have HFW:=Aside0.mk (blk_lt hf)
  clear hl hf hl' hf'
  go_region
  all_goals
    go_wp2
    refine ⟨rfl,_,rfl,.tuple #[],results_none rfl _ _ _,rfl,rfl,?_,?_,rfl,rfl,rfl,?_,?_⟩
    · exact blk_far (blk_far (blk_far (blk_put HL'.out 0 _ rfl) (p:=⟨f,0,none⟩) hlf _) (p:=⟨f,1,none⟩) hlf _) (p:=⟨f,2,none⟩) hlf _
    · exact blk_put (blk_put (blk_put (blk_far HF'.out (p := ⟨l, 0, none⟩) hfl _) 0 (.int .i64 k) (cs' := #[.int .i64 k, .int .i64 y, .int .i64 z]) rfl) 1 (.int .i64 a) (cs' := #[.int .i64 k, .int .i64 a, .int .i64 z]) rfl) 2 (.int .i64 b) rfl
    · have h0 : w.heap.size ≤ (w.alloc (.cells #[.int .i64 k,.int .i64 a,.int .i64 b] 79)).heap.size:=by rw [size_alloc];omega
      exact Nat.le_trans h0 (Nat.le_trans (grown_set _ l 0 (.slice none 0 0)).size (Nat.le_trans (grown_set _ f 0 (.int .i64 k)).size (Nat.le_trans (grown_set _ f 1 (.int .i64 a)).size (grown_set _ f 2 (.int .i64 b)).size)))
    · intro i hi h1 h2
      refine (Below.heap_setCell _ ⟨f,2,none⟩ _ i h2).trans ((Below.heap_setCell _ ⟨f,1,none⟩ _ i h2).trans ((Below.heap_setCell _ ⟨f,0,none⟩ _ i h2).trans ((Below.heap_setCell _ ⟨l,0,none⟩ _ i h1).trans ?_)))
      exact (below_alloc (Below.refl w.heap.size w) (.cells #[.int .i64 k,.int .i64 a,.int .i64 b] 79)).block i hi
theorem c58 (x : Cx) (p q : Nat) (w : World) (j : Nat) (h : Rd x w j) (hp : w.cell? ⟨p,0,none⟩ = some (.func (.func 25) #[] #[])) (hq : w.cell? ⟨q,0,none⟩ = some (.pointer (some ⟨x.r,0,none⟩))) :
    Calls Tryz.prog 58 #[.pointer (some ⟨p, 0, none⟩), .pointer (some ⟨q, 0, none⟩)] w fun e w' => e = .returned (.bool (exprIs x.T j)) ∧ Below w.heap.size w w' := by
  have HI:=Aside0.mk (c25 x w j h)
  clear h
  go_enter Tryz.func58,Tryz.ntmps58
  go_wp2_with (go_at_call 25;refine HI.out.mono ?_;rintro e w1 ⟨rfl,hb⟩;have HB:=Aside0.mk hb;clear hb)
  go_ret
  exact ⟨rfl,HB.out⟩
set_option maxHeartbeats 1000000 in
set_option maxRecDepth 100000 in
theorem c59 (x : Cx) (hG : Tabs x.W0) (p q : Nat) (w : World) (j : Nat) (h : Rd x w j) (hp : w.cell? ⟨p,0,none⟩ = some (.func (.func 26) #[] #[])) (hq : w.cell? ⟨q,0,none⟩ = some (.pointer (some ⟨x.r,0,none⟩))) {o : Out S50} (ho : valueS x.T j = some o) :
    Calls Tryz.prog 59 #[.pointer (some ⟨p,0,none⟩),.pointer (some ⟨q,0,none⟩)] w (Post x w (rItem k50 w.heap.size) o):=by
  have hba:=below_alloc (Below.refl w.heap.size w) (.cells Z50 50)
  have HR:=Aside0.mk (h.below_ hba)
  have HG:=Aside0.mk (World.grownBy_alloc w (.cells Z50 50) (some x.r))
  have HF:=Aside0.mk (blk_new w (.cells Z50 50))
  have p0:=(hba.cell (p:=⟨p,0,none⟩) (World.block_lt_of_cell? _ _ hp)).trans hp
  have q0:=(hba.cell (p:=⟨q,0,none⟩) (World.block_lt_of_cell? _ _ hq)).trans hq
  have HL:=Aside0.mk (Nat.ne_of_gt h.rlt)
  have HLB:=Aside0.mk (Nat.ne_of_gt h.Blt)
  have HW:=Aside0.mk (Nat.le_of_lt (Nat.lt_of_le_of_lt h.hr h.rlt))
  have HT:=Aside0.mk hG
  rw [← obind_ok (valueS x.T j)] at ho
  have HO:=Aside0.mk ho
  clear h ho hG hba hp hq
  go_enter Tryz.func59,Tryz.ntmps59
  go_wp2_with (first
    | (go_at_call 26; refine step_ x HO.out (fun o1 h1 => value_ x HT.out _ _ HR.out h1) (fun e k w' he hr hg => by subst he; exact ⟨rfl, rfl, hr, HG.out.trans hg⟩) ?_; rintro a i v w2 hq ⟨cs, rfl, hM⟩ hr hg; injection hq with hq; subst hq; obtain ⟨v6, rfl, hR6⟩ := k50_openM hM; obtain ⟨A6, c6, rfl⟩ := Kd.R_slice hR6; have HMM := Aside0.mk hR6; have HLT := Aside0.mk (blk_lt HF.out); have HR := Aside0.mk hr; have HG := Aside0.mk (HG.out.trans hg); have HF := Aside0.mk (own_grown HF.out hg HL.out); clear hr hg hM hR6)
    | ((with_reducible refine gate_store (t:=50) (p:=2) rfl ?_);refine store_row rfl rfl rfl w.heap.size _ rfl rfl HF.out (by kernel_rfl) rfl (by kernel_rfl) ?_;intro w3 hf2 hg2;have HF2:=Aside0.mk hf2;have HG2:=Aside0.mk hg2;clear hf2 hg2))
  refine bodyPost_ret (results_cell_row rfl _ _ w.heap.size 50 _ (0,0) _ rfl HF2.out Tryz.underlying50 rfl (by kernel_rfl)) rfl ?_
  refine ⟨_,rfl,⟨_,rfl,?_⟩,HR.out.other HG2.out HL.out HLB.out HW.out,grown_other HG.out HG2.out (Nat.le_refl _)⟩
  exact k50_mkM _ _ _ a (Kd.R_lower (R_keepG HMM.out HG2.out HLT.out) (Nat.le_of_lt HLT.out))
theorem c34 (x : Cx) (p q : Nat) (w : World) (j : Nat) (h : Rd x w j) (hp : w.cell? ⟨p,0,none⟩ = some (.func (.func 14) #[] #[])) (hq : w.cell? ⟨q,0,none⟩ = some (.pointer (some ⟨x.r,0,none⟩))) :
    Calls Tryz.prog 34 #[.pointer (some ⟨p, 0, none⟩), .pointer (some ⟨q, 0, none⟩)] w fun e w' => e = .returned (.bool (decide (0 ≤ amongS x.T wKinds j))) ∧ Below w.heap.size w w' := by
  have HI:=Aside0.mk (c14 x w j h)
  clear h
  go_enter Tryz.func34,Tryz.ntmps34
  go_wp2_with (go_at_call 14;refine HI.out.mono ?_;rintro e w1 ⟨rfl,hb⟩;have HB:=Aside0.mk hb;clear hb)
  go_ret
  exact ⟨rfl,HB.out⟩
set_option maxHeartbeats 1000000 in
set_option maxRecDepth 100000 in
theorem c35 (x : Cx) (hG : Tabs x.W0) (p q : Nat) (w : World) (j : Nat) (h : Rd x w j) (hp : w.cell? ⟨p,0,none⟩ = some (.func (.func 17) #[] #[])) (hq : w.cell? ⟨q,0,none⟩ = some (.pointer (some ⟨x.r,0,none⟩))) {o : Out S38} (ho : cardS x.T j = some o) :
    Calls Tryz.prog 35 #[.pointer (some ⟨p,0,none⟩),.pointer (some ⟨q,0,none⟩)] w (Post x w (rItem k38 w.heap.size) o):=by
  have hba:=below_alloc (Below.refl w.heap.size w) (.cells Z38 38)
  have HR:=Aside0.mk (h.below_ hba)
  have HG:=Aside0.mk (World.grownBy_alloc w (.cells Z38 38) (some x.r))
  have HF:=Aside0.mk (blk_new w (.cells Z38 38))
  have p0:=(hba.cell (p:=⟨p,0,none⟩) (World.block_lt_of_cell? _ _ hp)).trans hp
  have q0:=(hba.cell (p:=⟨q,0,none⟩) (World.block_lt_of_cell? _ _ hq)).trans hq
  have HL:=Aside0.mk (Nat.ne_of_gt h.rlt)
  have HLB:=Aside0.mk (Nat.ne_of_gt h.Blt)
  have HW:=Aside0.mk (Nat.le_of_lt (Nat.lt_of_le_of_lt h.hr h.rlt))
  have HT:=Aside0.mk hG
  rw [← obind_ok (cardS x.T j)] at ho
  have HO:=Aside0.mk ho
  clear h ho hG hba hp hq
  go_enter Tryz.func35,Tryz.ntmps35
  go_wp2_with (first
    | (go_at_call 17; refine step_ x HO.out (fun o1 h1 => card_ x HT.out _ _ HR.out h1) (fun e k w' he hr hg => by subst he; exact ⟨rfl, rfl, hr, HG.out.trans hg⟩) ?_; rintro a i v w2 hq ⟨cs, rfl, hM⟩ hr hg; injection hq with hq; subst hq; obtain ⟨v6, rfl, hR6⟩ := k38_openM hM; obtain ⟨A6, c6, rfl⟩ := Kd.R_slice hR6; have HMM := Aside0.mk hR6; have HLT := Aside0.mk (blk_lt HF.out); have HR := Aside0.mk hr; have HG := Aside0.mk (HG.out.trans hg); have HF := Aside0.mk (own_grown HF.out hg HL.out); clear hr hg hM hR6)
    | ((with_reducible refine gate_store (t:=38) (p:=2) rfl ?_);refine store_row rfl rfl rfl w.heap.size _ rfl rfl HF.out (by kernel_rfl) rfl (by kernel_rfl) ?_;intro w3 hf2 hg2;have HF2:=Aside0.mk hf2;have HG2:=Aside0.mk hg2;clear hf2 hg2))
  refine bodyPost_ret (results_cell_row rfl _ _ w.heap.size 38 _ (0,0) _ rfl HF2.out Tryz.underlying38 rfl (by kernel_rfl)) rfl ?_
  refine ⟨_,rfl,⟨_,rfl,?_⟩,HR.out.other HG2.out HL.out HLB.out HW.out,grown_other HG.out HG2.out (Nat.le_refl _)⟩
  exact k38_mkM _ _ _ a (Kd.R_lower (R_keepG HMM.out HG2.out HLT.out) (Nat.le_of_lt HLT.out))
end Go.Proofs.YtmgdkkkkanjadaaGreatDoor.HandL
