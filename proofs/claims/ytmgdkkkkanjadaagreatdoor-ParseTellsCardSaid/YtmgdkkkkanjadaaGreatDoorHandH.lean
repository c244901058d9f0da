/-
  parse's reader: what an effect's lists ask. Conditions: what the listed package variables hold.
-/
import Derived.Test.YtmgdkkkkanjadaaGreatDoorHandG
import Derived.Laws.EntriesVeiled
namespace Go.Proofs.YtmgdkkkkanjadaaGreatDoor.HandH
set_option linter.unusedVariables false
set_option linter.unusedSimpArgs false
open Go.RowKit Go.Shelf Go.Lib Go.Proofs.YtmgdkkkkanjadaaGreatDoorW.PrintWords Go.Proofs.YtmgdkkkkanjadaaGreatDoorW.PrintLast Go.Proofs.YtmgdkkkkanjadaaGreatDoorW.PrintMore Go.Proofs.YtmgdkkkkanjadaaGreatDoor.X Go.Proofs.YtmgdkkkkanjadaaGreatDoor.HandS Go.Proofs.YtmgdkkkkanjadaaGreatDoor.HandA Go.Proofs.YtmgdkkkkanjadaaGreatDoor.HandB Go.Proofs.YtmgdkkkkanjadaaGreatDoor.HandC Go.Proofs.YtmgdkkkkanjadaaGreatDoor.HandD Go.Proofs.YtmgdkkkkanjadaaGreatDoor.HandE Go.Proofs.YtmgdkkkkanjadaaGreatDoor.HandF Go.Proofs.YtmgdkkkkanjadaaGreatDoor.HandG

abbrev sNeeds : ByteArray:=⟨#[110,101,101,100,115]⟩
def needS (T : List S69) (j : Nat) : Option (Out S50):=obind (skipS T j) fun _ j=>valueS T j
def stepIs (T : List S69) (j : Nat) : Bool:=(lookT rowsT (tkAt T j).f1 0).isSome
theorem c73 (x : Cx) (p : Nat) (w : World) (j : Nat) (h : Rd x w j) (hp : w.cell? ⟨p,0,none⟩ = some (.pointer (some ⟨x.r,0,none⟩))) :
    Calls Tryz.prog 73 #[.pointer (some ⟨p, 0, none⟩)] w fun e w' => e = .returned (.bool (isS x.T sNeeds j)) ∧ Below w.heap.size w w' := by
  have HI:=Aside0.mk (is_ x w j h sNeeds)
  clear h
  go_enter Tryz.func73,Tryz.ntmps73
  go_wp2_with (go_at_call 38;refine HI.out.mono ?_;rintro e w1 ⟨rfl,rfl⟩)
  go_ret
  exact ⟨rfl,Below.refl _ _⟩
set_option maxHeartbeats 1000000 in
set_option maxRecDepth 100000 in
theorem c74 (x : Cx) (hG : Tabs x.W0) (p : Nat) (w : World) (j : Nat) (h : Rd x w j) (hpr : p ≠ x.r) (hrow : w.heap[p]? = some (.cells #[.pointer (some ⟨x.r,0,none⟩)] 54 (0,0))) {o : Out S50} (ho : needS x.T j = some o) :
    Calls Tryz.prog 74 #[.pointer (some ⟨p,0,none⟩)] w (Post x w (rItem k50 w.heap.size) o):=by
  have HR:=Aside0.mk (h.below_ (below_alloc (Below.refl _ _) (.cells Z50 50)))
  have HG:=Aside0.mk (World.grownBy_alloc w (.cells Z50 50) (some x.r))
  have HF:=Aside0.mk (blk_new w (.cells Z50 50))
  have hP:=blk_alloc hrow (.cells Z50 50)
  have HP:=Aside0.mk hP
  have p0:=blk_cell hP 0
  have HL:=Aside0.mk (Nat.ne_of_gt h.rlt)
  have HPR:=Aside0.mk hpr
  have HLB:=Aside0.mk (Nat.ne_of_gt h.Blt)
  have HW:=Aside0.mk (Nat.le_of_lt (Nat.lt_of_le_of_lt h.hr h.rlt))
  have HT:=Aside0.mk hG
  unfold needS at ho
  have HO:=Aside0.mk ho
  clear h ho hG hrow hP hpr
  go_enter Tryz.func74,Tryz.ntmps74
  go_wp2_with (first
    | (go_at_call 68; refine step_ x HO.out (fun o1 h1 => skip_ x _ _ HR.out h1) (fun e k w' he hr hg => by subst he; exact ⟨rfl, rfl, hr, HG.out.trans hg⟩) ?_; rintro a0 i0 v0 w1 hq rfl hr hg; rw [← obind_ok (valueS x.T i0)] at hq; have HR := Aside0.mk hr; have HG := Aside0.mk (HG.out.trans hg); have HF := Aside0.mk (own_grown HF.out hg HL.out); have hP := own_grown HP.out hg HPR.out; have HP := Aside0.mk hP; have p0 := blk_cell hP 0; have HO := Aside0.mk hq; clear hq hr hg hP)
    | (go_at_call 26; refine step_ x HO.out (fun o1 h1 => value_ x HT.out _ _ HR.out h1) (fun e k w' he hr hg => by subst he; exact ⟨rfl, rfl, hr, HG.out.trans hg⟩) ?_; rintro a i v w2 hq ⟨cs, rfl, hM⟩ hr hg; injection hq with hq; subst hq; obtain ⟨v6, rfl, hR6⟩ := k50_openM hM; obtain ⟨A6, c6, rfl⟩ := Kd.R_slice hR6; have HMM := Aside0.mk hR6; have HLT := Aside0.mk (blk_lt HF.out); have HR := Aside0.mk hr; have HG := Aside0.mk (HG.out.trans hg); have HF := Aside0.mk (own_grown HF.out hg HL.out); clear hr hg hM hR6)
    | ((with_reducible refine gate_store (t:=50) (p:=1) rfl ?_);refine store_row rfl rfl rfl w.heap.size _ rfl rfl HF.out (by kernel_rfl) rfl (by kernel_rfl) ?_;intro w3 hf2 hg2;have HF2:=Aside0.mk hf2;have HG2:=Aside0.mk hg2;clear hf2 hg2))
  refine bodyPost_ret (results_cell_row rfl _ _ w.heap.size 50 _ (0,0) _ rfl HF2.out Tryz.underlying50 rfl (by kernel_rfl)) rfl ?_
  refine ⟨_,rfl,⟨_,rfl,?_⟩,HR.out.other HG2.out HL.out HLB.out HW.out,grown_other HG.out HG2.out (Nat.le_refl _)⟩
  exact k50_mkM _ _ _ a (Kd.R_lower (R_keep HMM.out HG2.out HLT.out) (Nat.le_of_lt HLT.out))
theorem look_val (s : ByteArray) : ∀ (l : List Row) (i k : Nat) (v : Value),(∀ x ∈ l,∃ (q : Int) (f : FuncId),x.2 = .agg #[.int .u8 q,.func (.func f) #[] #[]]) → lookT l s i = some (k,v) → ∃ (q : Int) (f : FuncId),v = .agg #[.int .u8 q,.func (.func f) #[] #[]]:=by
  intro l
  induction l with
  | nil=>intro i k v _ h;cases h
  | cons x l ih =>
    intro i k v hx h
    rw [lookT] at h
    split at h
    · injection h with h
      injection h with _ h
      rw [← h]
      exact hx x (List.mem_cons_self ..)
    · exact ih _ _ _ (fun y hy=>hx y (List.mem_cons_of_mem _ hy)) h
theorem rows_val : ∀ x ∈ rowsT,∃ (q : Int) (f : FuncId),x.2 = .agg #[.int .u8 q,.func (.func f) #[] #[]]:=by
  intro x hx
  simp only [rowsT,List.mem_cons,List.not_mem_nil,or_false] at hx
  rcases hx with rfl | rfl | rfl | rfl | rfl | rfl | rfl | rfl | rfl | rfl | rfl <;> exact ⟨_,_,rfl⟩
set_option maxHeartbeats 2000000 in
set_option maxRecDepth 100000 in
theorem c77 (x : Cx) (p : Nat) (w : World) (j : Nat) (h : Rd x w j) (hrow : w.heap[p]? = some (.cells #[.pointer (some ⟨x.r,0,none⟩)] 54 (0,0))) :
    Calls Tryz.prog 77 #[.pointer (some ⟨p, 0, none⟩)] w fun e w' => e = .returned (.bool (stepIs x.T j)) ∧ Below w.heap.size w w' := by
  have HPL:=Aside0.mk (blk_lt hrow)
  have HRL:=Aside0.mk h.rlt
  have HBL:=Aside0.mk h.Blt
  have p0:=blk_cell hrow 0
  have hu71:=Tryz.underlying71
  have hu69:=Tryz.underlying69
  have hu107:=Tryz.underlying107
  unfold stepIs
  obtain ⟨o',n,cc,c0,hn,hcc,t0,t1,t2,t3⟩:=h.head
  have hba:=below_alloc (Below.refl w.heap.size w) (.cells #[.int .u8 0,.nilFunc] 107)
  have p9:=(hba.cell (p:=⟨p,0,none⟩) HPL.out).trans p0
  have c9:=(hba.cell (p:=⟨x.r,0,none⟩) HRL.out).trans c0
  have s9 := (hba.cell (p := ⟨x.B, o' + 1, none⟩) HBL.out).trans t1
  clear h hrow t0 t2 t3 hcc hba
  cases hl : lookT rowsT (tkAt x.T j).f1 0 with
  | none =>
    have HLK:=Aside0.mk hl
    clear hl
    go_enter Tryz.func77,Tryz.ntmps77
    go_wp2_with fail
    go_region_law (first
      | (refine goesP_ Tryz.func78 (by kernel_rfl) rfl #[] (by rfl) rfl rfl (by (try simp only [List.map_toArray,List.map_cons,List.map_nil]);first | done | rfl) ?_
         refine (steps_ _).mono ?_
         rintro e w1 ⟨b,rfl,hm,hb,hbb⟩
         have hbd:=below_step (below_drew1 (Below.refl w.heap.size w)) hb
         have HBD:=Aside0.mk hbd
         have p1:=(hbd.cell (p:=⟨p,0,none⟩) HPL.out).trans p0
         have c1:=(hbd.cell (p:=⟨x.r,0,none⟩) HRL.out).trans c0
         have s1 := (hbd.cell (p := ⟨x.B, o' + 1, none⟩) HBL.out).trans t1
         have hba:=below_alloc (Below.refl w1.heap.size w1) (.cells #[.int .u8 0,.nilFunc] 107)
         have hl1:=Nat.lt_of_lt_of_le HPL.out hbd.size
         have hl2:=Nat.lt_of_lt_of_le HRL.out hbd.size
         have hl3:=Nat.lt_of_lt_of_le HBL.out hbd.size
         have p2:=(hba.cell (p:=⟨p,0,none⟩) hl1).trans p1
         have c2:=(hba.cell (p:=⟨x.r,0,none⟩) hl2).trans c1
         have s2 := (hba.cell (p := ⟨x.B, o' + 1, none⟩) hl3).trans s1
         have hg1:=get_none hm HLK.out true
         have hg2:=get_none (hm.below hba) HLK.out true
         clear hb hbb hbd hm hba hl1 hl2 hl3)
      | (refine goesP_ Tryz.func78 (by kernel_rfl) rfl #[] (by rfl) rfl rfl (by (try simp only [List.map_toArray,List.map_cons,List.map_nil]);first | done | rfl) ?_
         refine (steps_ _).mono ?_
         rintro e w1 ⟨b,rfl,hm,hb,hbb⟩
         have hbd:=below_step (below_alloc (below_drew1 (Below.refl w.heap.size w)) (.cells #[.int .u8 0,.nilFunc] 107)) hb
         have h9 : w1.heap[w.heap.size]? = some (.cells #[.int .u8 0,.nilFunc] 107 (0,0)):=blk_below (blk_new w.drew _) hb
         have q0:=blk_cell h9 0
         have q1:=blk_cell h9 1
         have r0:=blk_frozen h9 0
         have r1:=blk_frozen h9 1
         clear h9
         have HBD:=Aside0.mk hbd
         have p1:=(hbd.cell (p:=⟨p,0,none⟩) HPL.out).trans p0
         have c1:=(hbd.cell (p:=⟨x.r,0,none⟩) HRL.out).trans c0
         have s1 := (hbd.cell (p := ⟨x.B, o' + 1, none⟩) HBL.out).trans t1
         have hba:=below_alloc (Below.refl w1.heap.size w1) (.cells #[.int .u8 0,.nilFunc] 107)
         have hl1:=Nat.lt_of_lt_of_le HPL.out hbd.size
         have hl2:=Nat.lt_of_lt_of_le HRL.out hbd.size
         have hl3:=Nat.lt_of_lt_of_le HBL.out hbd.size
         have p2:=(hba.cell (p:=⟨p,0,none⟩) hl1).trans p1
         have c2:=(hba.cell (p:=⟨x.r,0,none⟩) hl2).trans c1
         have s2 := (hba.cell (p := ⟨x.B, o' + 1, none⟩) hl3).trans s1
         have hg1:=get_none hm HLK.out true
         have hg2:=get_none (hm.below hba) HLK.out true
         clear hb hbb hbd hm hba hl1 hl2 hl3))
    all_goals
      go_wp2
      go_ret
      refine ⟨rfl,?_⟩
      repeat (first | exact HBD.out | exact Nat.le_refl _ | apply below_alloc | refine below_set ?_ ?_)
  | some kv =>
    obtain ⟨k,v⟩:=kv
    obtain ⟨q,f,rfl⟩:=look_val _ _ _ _ _ rows_val hl
    have HLK:=Aside0.mk hl
    clear hl
    go_enter Tryz.func77,Tryz.ntmps77
    go_wp2_with fail
    go_region_law (first
      | (refine goesP_ Tryz.func78 (by kernel_rfl) rfl #[] (by rfl) rfl rfl (by (try simp only [List.map_toArray,List.map_cons,List.map_nil]);first | done | rfl) ?_
         refine (steps_ _).mono ?_
         rintro e w1 ⟨b,rfl,hm,hb,hbb⟩
         have hbd:=below_step (below_drew1 (Below.refl w.heap.size w)) hb
         have HBD:=Aside0.mk hbd
         have p1:=(hbd.cell (p:=⟨p,0,none⟩) HPL.out).trans p0
         have c1:=(hbd.cell (p:=⟨x.r,0,none⟩) HRL.out).trans c0
         have s1 := (hbd.cell (p := ⟨x.B, o' + 1, none⟩) HBL.out).trans t1
         have hba:=below_alloc (Below.refl w1.heap.size w1) (.cells #[.int .u8 0,.nilFunc] 107)
         have hl1:=Nat.lt_of_lt_of_le HPL.out hbd.size
         have hl2:=Nat.lt_of_lt_of_le HRL.out hbd.size
         have hl3:=Nat.lt_of_lt_of_le HBL.out hbd.size
         have p2:=(hba.cell (p:=⟨p,0,none⟩) hl1).trans p1
         have c2:=(hba.cell (p:=⟨x.r,0,none⟩) hl2).trans c1
         have s2 := (hba.cell (p := ⟨x.B, o' + 1, none⟩) hl3).trans s1
         have hg1:=get_some hm HLK.out true
         have hg2:=get_some (hm.below hba) HLK.out true
         clear hb hbb hbd hm hba hl1 hl2 hl3)
      | (refine goesP_ Tryz.func78 (by kernel_rfl) rfl #[] (by rfl) rfl rfl (by (try simp only [List.map_toArray,List.map_cons,List.map_nil]);first | done | rfl) ?_
         refine (steps_ _).mono ?_
         rintro e w1 ⟨b,rfl,hm,hb,hbb⟩
         have hbd:=below_step (below_alloc (below_drew1 (Below.refl w.heap.size w)) (.cells #[.int .u8 0,.nilFunc] 107)) hb
         have h9 : w1.heap[w.heap.size]? = some (.cells #[.int .u8 0,.nilFunc] 107 (0,0)):=blk_below (blk_new w.drew _) hb
         have q0:=blk_cell h9 0
         have q1:=blk_cell h9 1
         have r0:=blk_frozen h9 0
         have r1:=blk_frozen h9 1
         clear h9
         have HBD:=Aside0.mk hbd
         have p1:=(hbd.cell (p:=⟨p,0,none⟩) HPL.out).trans p0
         have c1:=(hbd.cell (p:=⟨x.r,0,none⟩) HRL.out).trans c0
         have s1 := (hbd.cell (p := ⟨x.B, o' + 1, none⟩) HBL.out).trans t1
         have hba:=below_alloc (Below.refl w1.heap.size w1) (.cells #[.int .u8 0,.nilFunc] 107)
         have hl1:=Nat.lt_of_lt_of_le HPL.out hbd.size
         have hl2:=Nat.lt_of_lt_of_le HRL.out hbd.size
         have hl3:=Nat.lt_of_lt_of_le HBL.out hbd.size
         have p2:=(hba.cell (p:=⟨p,0,none⟩) hl1).trans p1
         have c2:=(hba.cell (p:=⟨x.r,0,none⟩) hl2).trans c1
         have s2 := (hba.cell (p := ⟨x.B, o' + 1, none⟩) hl3).trans s1
         have hg1:=get_some hm HLK.out true
         have hg2:=get_some (hm.below hba) HLK.out true
         clear hb hbb hbd hm hba hl1 hl2 hl3))
    all_goals
      go_wp2
      go_ret
      refine ⟨rfl,?_⟩
      repeat (first | exact HBD.out | exact Nat.le_refl _ | apply below_alloc | refine below_set ?_ ?_)
end Go.Proofs.YtmgdkkkkanjadaaGreatDoor.HandH
