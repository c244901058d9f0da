/-
  parse's reader: steps (two of their kinds). Conditions: what the listed package variables hold.
-/
import Derived.Test.YtmgdkkkkanjadaaGreatDoorHandE
namespace Go.Proofs.YtmgdkkkkanjadaaGreatDoor.HandF
set_option linter.unusedVariables false
set_option linter.unusedSimpArgs false
open Go.RowKit Go.Shelf Go.Lib Go.Proofs.YtmgdkkkkanjadaaGreatDoorW.PrintWords Go.Proofs.YtmgdkkkkanjadaaGreatDoorW.PrintLast Go.Proofs.YtmgdkkkkanjadaaGreatDoorW.PrintMore Go.Proofs.YtmgdkkkkanjadaaGreatDoor.X Go.Proofs.YtmgdkkkkanjadaaGreatDoor.HandS Go.Proofs.YtmgdkkkkanjadaaGreatDoor.HandA Go.Proofs.YtmgdkkkkanjadaaGreatDoor.HandB Go.Proofs.YtmgdkkkkanjadaaGreatDoor.HandC Go.Proofs.YtmgdkkkkanjadaaGreatDoor.HandD Go.Proofs.YtmgdkkkkanjadaaGreatDoor.HandE

/-- step_, seen from an earlier world -/
theorem stepW_ {P : Program} {f : FuncId} {args : Array Value} {w0 w : World} {R : Ending → World → Prop} (x : Cx) {α β : Type} {rel : α → Value → World → Prop} {p : Option (Out α)} {q : α → Nat → Option (Out β)} {o : Out β} (h : obind p q = some o)
    (hc : ∀ o1, p = some o1 → Calls P f args w (Post x w0 rel o1))
    (hbad : ∀ e k w', o = .bad e k → Rd x w' k → w0.grownBy w' (some x.r) → R (.panicked [{ v := .iface 79 (.agg #[.int .i64 e, .int .i64 (tkAt x.T k).f2.f0, .int .i64 (tkAt x.T k).f2.f1]), recovered := false }]) w')
    (hok : ∀ a k v w', q a k = some o → rel a v w' → Rd x w' k → w0.grownBy w' (some x.r) → R (.returned v) w') : Calls P f args w R := by
  cases p with
  | none => cases h
  | some o1 =>
    refine (hc o1 rfl).mono ?_
    intro e w' hp
    cases o1 with
    | ok a j =>
      obtain ⟨v, rfl, h1, h2, h3⟩ := hp
      exact hok a j v w' h h1 h2 h3
    | bad k j =>
      obtain ⟨rfl, h2, h3⟩ := hp
      injection h with h
      exact hbad k j w' h.symm h2 h3
abbrev sNeg : ByteArray := ⟨#[110, 101, 103, 97, 116, 101]⟩
abbrev sDmg : ByteArray := ⟨#[100, 97, 109, 97, 103, 101]⟩
abbrev sSemi : ByteArray := ⟨#[59]⟩
def dmgS (T : List S69) (j : Nat) : Option (Out (Int × S50)) := obind (sideS T j) fun a j => obind (valueS T j) fun e j => some (.ok (a, e) j)
def stepS (T : List S69) (j : Nat) : Option (Out S52) :=
  obind (skipS T j) fun s j =>
    if s = sNeg then obind (mustS T sSemi j) fun _ j => some (.ok ⟨10, 0, z50, false, z40⟩ j)
    else if s = sDmg then obind (dmgS T j) fun p j => obind (mustS T sSemi j) fun _ j => some (.ok ⟨2, p.1, p.2, false, z40⟩ j)
    else none
abbrev C52 (op a : Int) (e : S50) (v : Value) : Array Value := #[.int .u8 op, .int .u8 a, .int .u8 e.f0, .int .i64 e.f1, .int .u8 e.f2, .int .u8 e.f3.f0, .int .u8 e.f3.f1, .int .u8 e.f3.f2, v, .bool false, .int .u8 0, .int .u8 0, .int .u8 0]
abbrev Z52 (op : Int) : Array Value := #[.int .u8 op, .int .u8 0, .int .u8 0, .int .i64 0, .int .u8 0, .int .u8 0, .int .u8 0, .int .u8 0, .slice none 0 0, .bool false, .int .u8 0, .int .u8 0, .int .u8 0]
def rDmg (op : Int) (b : Nat) (p : Int × S50) (v : Value) (w : World) : Prop := v = .tuple #[] ∧ ∃ v6, w.heap[b]? = some (.cells (C52 op p.1 p.2 v6) 52 (0, 0)) ∧ k50.R 50 w (b + 1) (fun _ => True) v6 p.2.f4
/-- a row of the caller's, behind stores of single cells -/
structure Put1 (x : Cx) (wa w2 w : World) (b j : Nat) (t : TypeId) (cells : Array Value) : Prop where
  rd : Rd x w j
  gr : wa.grownBy w (some x.r)
  row : w.heap[b]? = some (.cells cells t (0, 0))
  gs : w2.grownBy w (some b)
theorem Put1.set {x : Cx} {wa w2 w : World} {b j : Nat} {t : TypeId} {cells : Array Value} (h : Put1 x wa w2 w b j t cells) (hW : x.W0.heap.size ≤ b) (hB : b ≠ x.B) (hr : b ≠ x.r) (ha : wa.heap.size ≤ b) (i : Nat) (u : Value) (cells' : Array Value) (e : cells.setIfInBounds i u = cells') : Put1 x wa w2 (w.setCell ⟨b, i, none⟩ u) b j t cells' :=
  ⟨h.rd.far hW hB hr i u, grown_far h.gr (p := ⟨b, i, none⟩) ha u, blk_put h.row i u e, h.gs.trans (grown_set w b i u)⟩
set_option maxHeartbeats 1000000 in
set_option maxRecDepth 100000 in
theorem st1_ (x : Cx) (hG : Tabs x.W0) (wa w : World) (j b : Nat) (op : Int) (h : Rd x w j) (hga : wa.grownBy w (some x.r)) (hba : wa.heap.size ≤ b) (hbr : b ≠ x.r) (hbB : b ≠ x.B) (hbW : x.W0.heap.size ≤ b)
    (hrow : w.heap[b]? = some (.cells (Z52 op) 52 (0, 0))) {o : Out (Int × S50)} (ho : dmgS x.T j = some o) :
    Calls Tryz.prog 104 #[.pointer (some ⟨x.r, 0, none⟩), .pointer (some ⟨b, 0, none⟩)] w (Post x wa (rDmg op b) o) := by
  have HR := Aside0.mk h
  have HG := Aside0.mk hga
  have HF := Aside0.mk hrow
  have HL := Aside0.mk hbr
  have HBB := Aside0.mk hbB
  have HBW := Aside0.mk hbW
  have HBA := Aside0.mk hba
  have HT := Aside0.mk hG
  have hu52 := Tryz.underlying52
  unfold dmgS at ho
  have HO := Aside0.mk ho
  clear h ho hG hga hrow hbr hbB hbW hba
  go_enter Tryz.func104, Tryz.ntmps104
  go_wp2_with (first
    | (go_at_call 72; refine step_ x HO.out (fun o1 h1 => side_ x _ _ HR.out h1) (fun e k w' he hr hg => by subst he; exact ⟨rfl, rfl, hr, HG.out.trans hg⟩) ?_; rintro a i v w1 hq rfl hr hg; have HR := Aside0.mk hr; have HG := Aside0.mk (HG.out.trans hg); have HF := Aside0.mk (own_grown HF.out hg HL.out); have HO := Aside0.mk hq; clear hq hr hg)
    | (go_at_call 26; go_loud (refine step_ x HO.out (fun o1 h1 => value_ x HT.out _ _ HR.out h1) (fun e k w' he hr hg => by subst he; exact ⟨rfl, rfl, hr, HG.out.trans hg⟩) ?_; rintro e i2 v2 w2 hq ⟨cs, rfl, hM⟩ hr hg; injection hq with hq; subst hq; obtain ⟨v6, rfl, hR6⟩ := k50_openM hM; obtain ⟨A6, c6, rfl⟩ := Kd.R_slice hR6; have HLT := Aside0.mk (blk_lt HF.out); have HMM := Aside0.mk hR6; have HR := Aside0.mk hr; have HG := Aside0.mk (HG.out.trans hg); have hf := own_grown HF.out hg HL.out; have HF := Aside0.mk hf; have d1 := blk_cell hf 1; have d2 := blk_cell hf 2; have d3 := blk_cell hf 3; have d4 := blk_cell hf 4; have d5 := blk_cell hf 5; have d6 := blk_cell hf 6; have d7 := blk_cell hf 7; have d8 := blk_cell hf 8; have e1 := blk_frozen hf 1; have e2 := blk_frozen hf 2; have e3 := blk_frozen hf 3; have e4 := blk_frozen hf 4; have e5 := blk_frozen hf 5; have e6 := blk_frozen hf 6; have e7 := blk_frozen hf 7; have e8 := blk_frozen hf 8; clear hr hg hM hR6 hf)))
  have q0 : Put1 x wa w2 w2 b i2 52 (Z52 op) := ⟨HR.out, HG.out, HF.out, World.grownBy.refl _ _⟩
  have q1 := q0.set HBW.out HBB.out HL.out HBA.out 1 (.int .u8 a) #[.int .u8 op, .int .u8 a, .int .u8 0, .int .i64 0, .int .u8 0, .int .u8 0, .int .u8 0, .int .u8 0, .slice none 0 0, .bool false, .int .u8 0, .int .u8 0, .int .u8 0] rfl
  have q2 := q1.set HBW.out HBB.out HL.out HBA.out 2 (.int .u8 e.f0) #[.int .u8 op, .int .u8 a, .int .u8 e.f0, .int .i64 0, .int .u8 0, .int .u8 0, .int .u8 0, .int .u8 0, .slice none 0 0, .bool false, .int .u8 0, .int .u8 0, .int .u8 0] rfl
  have q3 := q2.set HBW.out HBB.out HL.out HBA.out 3 (.int .i64 e.f1) #[.int .u8 op, .int .u8 a, .int .u8 e.f0, .int .i64 e.f1, .int .u8 0, .int .u8 0, .int .u8 0, .int .u8 0, .slice none 0 0, .bool false, .int .u8 0, .int .u8 0, .int .u8 0] rfl
  have q4 := q3.set HBW.out HBB.out HL.out HBA.out 4 (.int .u8 e.f2) #[.int .u8 op, .int .u8 a, .int .u8 e.f0, .int .i64 e.f1, .int .u8 e.f2, .int .u8 0, .int .u8 0, .int .u8 0, .slice none 0 0, .bool false, .int .u8 0, .int .u8 0, .int .u8 0] rfl
  have q5 := q4.set HBW.out HBB.out HL.out HBA.out 5 (.int .u8 e.f3.f0) #[.int .u8 op, .int .u8 a, .int .u8 e.f0, .int .i64 e.f1, .int .u8 e.f2, .int .u8 e.f3.f0, .int .u8 0, .int .u8 0, .slice none 0 0, .bool false, .int .u8 0, .int .u8 0, .int .u8 0] rfl
  have q6 := q5.set HBW.out HBB.out HL.out HBA.out 6 (.int .u8 e.f3.f1) #[.int .u8 op, .int .u8 a, .int .u8 e.f0, .int .i64 e.f1, .int .u8 e.f2, .int .u8 e.f3.f0, .int .u8 e.f3.f1, .int .u8 0, .slice none 0 0, .bool false, .int .u8 0, .int .u8 0, .int .u8 0] rfl
  have q7 := q6.set HBW.out HBB.out HL.out HBA.out 7 (.int .u8 e.f3.f2) #[.int .u8 op, .int .u8 a, .int .u8 e.f0, .int .i64 e.f1, .int .u8 e.f2, .int .u8 e.f3.f0, .int .u8 e.f3.f1, .int .u8 e.f3.f2, .slice none 0 0, .bool false, .int .u8 0, .int .u8 0, .int .u8 0] rfl
  have q8 := q7.set HBW.out HBB.out HL.out HBA.out 8 (.slice A6 e.f4.length c6) #[.int .u8 op, .int .u8 a, .int .u8 e.f0, .int .i64 e.f1, .int .u8 e.f2, .int .u8 e.f3.f0, .int .u8 e.f3.f1, .int .u8 e.f3.f2, .slice A6 e.f4.length c6, .bool false, .int .u8 0, .int .u8 0, .int .u8 0] rfl
  refine bodyPost_end (results_none rfl _ _ _) rfl ?_
  exact ⟨_, rfl, ⟨rfl, _, q8.row, Kd.R_lower (R_keep HMM.out q8.gs HLT.out) HLT.out⟩, q8.rd, q8.gr⟩
theorem st3_ (w : World) (u v : Value) : Calls Tryz.prog 107 #[u, v] w fun e w' => e = .returned (.tuple #[]) ∧ w' = w := by
  go_enter Tryz.func107, Tryz.ntmps107
  go_wp2
  exact bodyPost_end (results_none rfl _ _ _) rfl ⟨rfl, rfl⟩
theorem lookT_neg : lookT rowsT sNeg 0 = some (10, .agg #[.int .u8 10, (.func (.func 107) #[] #[])]) := by kernel_rfl
theorem lookT_dmg : lookT rowsT sDmg 0 = some (2, .agg #[.int .u8 2, (.func (.func 104) #[] #[])]) := by kernel_rfl
theorem step_cases {T : List S69} {s : ByteArray} {j : Nat} {o : Out S52} (h : (if s = sNeg then obind (mustS T sSemi j) (fun _ j => some (.ok (⟨10, 0, z50, false, z40⟩ : S52) j))
    else if s = sDmg then obind (dmgS T j) fun p j => obind (mustS T sSemi j) fun _ j => some (.ok (⟨2, p.1, p.2, false, z40⟩ : S52) j)
    else none) = some o) : (s = sNeg ∧ obind (mustS T sSemi j) (fun _ j => some (.ok (⟨10, 0, z50, false, z40⟩ : S52) j)) = some o) ∨ (s = sDmg ∧ (obind (dmgS T j) fun p j => obind (mustS T sSemi j) fun _ j => some (.ok (⟨2, p.1, p.2, false, z40⟩ : S52) j)) = some o) := by
  split at h
  · exact .inl ⟨by assumption, h⟩
  · split at h
    · exact .inr ⟨by assumption, h⟩
    · cases h
def rStep (base : Nat) (e : S52) (v : Value) (w : World) : Prop := ∃ cs : List Value, v = .agg cs.toArray ∧ k52.M w base (fun _ => True) e cs
set_option maxHeartbeats 2000000 in
set_option maxRecDepth 100000 in
theorem stepP_ (x : Cx) (hG : Tabs x.W0) (w : World) (j : Nat) (h : Rd x w j) {o : Out S52} (ho : stepS x.T j = some o) :
    Calls Tryz.prog 79 #[.pointer (some ⟨x.r, 0, none⟩)] w (Post x w (rStep w.heap.size) o) := by
  have HR := Aside0.mk (h.below_ (below_alloc (Below.refl _ _) (.cells (Z52 0) 52)))
  have HG := Aside0.mk (World.grownBy_alloc w (.cells (Z52 0) 52) (some x.r))
  have HF := Aside0.mk (blk_new w (.cells (Z52 0) 52))
  have HL := Aside0.mk (Nat.ne_of_gt h.rlt)
  have HLB := Aside0.mk (Nat.ne_of_gt h.Blt)
  have HW := Aside0.mk (Nat.le_of_lt (Nat.lt_of_le_of_lt h.hr h.rlt))
  have HT := Aside0.mk hG
  have HLR := Aside0.mk h.rlt
  have hu52 := Tryz.underlying52
  have hu107 := Tryz.underlying107
  unfold stepS at ho
  have HO := Aside0.mk ho
  clear h ho hG
  go_enter Tryz.func79, Tryz.ntmps79
  go_wp2_with (first
    | (go_at_call 78; refine (steps_ _).mono ?_; rintro e w1 ⟨b, rfl, hm, hb, hbb⟩; have HM := Aside0.mk hm; have HMB := Aside0.mk (Nat.ne_of_gt (Nat.lt_of_lt_of_le HR.out.rlt hbb)); have HR := Aside0.mk (HR.out.below_ hb); have HG := Aside0.mk (HG.out.trans (grown_of_below hb (some x.r))); have HF := Aside0.mk (blk_below HF.out hb); clear hm hb hbb)
    | (go_at_call 68; refine step_ x HO.out (fun o1 h1 => skip_ x _ _ HR.out h1) (fun e k w' he hr hg => by subst he; exact ⟨rfl, rfl, hr, HG.out.trans hg⟩) ?_; rintro s i v w2 hq rfl hr hg; have HM := Aside0.mk (show MapIs w2 b rowsT from own_grown HM.out hg HMB.out); have HR := Aside0.mk hr; have HG := Aside0.mk (HG.out.trans hg); have hf := own_grown HF.out hg HL.out; have HF := Aside0.mk hf; have hl1 := get_some HM.out lookT_neg false; have hl2 := get_some HM.out lookT_dmg false; have hu := step_cases hq; clear hq; rcases hu with ⟨rfl, hq⟩ | ⟨rfl, hq⟩ <;> have HO := Aside0.mk hq <;> clear hq)
    | ((with_reducible refine gate_store (t := 107) (p := 3) rfl ?_); refine store_row rfl rfl rfl w2.heap.size _ rfl rfl (blk_new w2 _) (by kernel_rfl) rfl (by kernel_rfl) ?_; intro w3 hf3 hg3; have HLE := Aside0.mk (blk_lt HF.out); have n3 := Nat.ne_of_gt (blk_lt HF.out); have n4 := Nat.ne_of_lt (blk_lt HF.out); have c0 := blk_cell hf3 0; have c1 := blk_cell hf3 1; have hf := blk_grown (blk_alloc HF.out (.cells #[.int .u8 0, .nilFunc] 107)) hg3 (fun e => n4 (Option.some.inj e)); have f0 := blk_cell hf 0; have f1 := blk_frozen hf 0; have HF := Aside0.mk hf;
       have HR := Aside0.mk ((HR.out.below_ (below_alloc (Below.refl _ _) (.cells #[.int .u8 0, .nilFunc] 107))).other hg3 (Nat.ne_of_gt HR.out.rlt) (Nat.ne_of_gt HR.out.Blt) (Nat.le_trans HW.out (Nat.le_of_lt HLE.out))); have HG := Aside0.mk (grown_other (HG.out.trans (World.grownBy_alloc w2 (.cells #[.int .u8 0, .nilFunc] 107) (some x.r))) hg3 (Nat.le_of_lt HLE.out)); clear hf hf3 hg3)
    | (go_at_call 107; refine (st3_ _ _ _).mono ?_; rintro e w4 ⟨rfl, rfl⟩; have HF := Aside0.mk (blk_put HF.out 0 (.int .u8 10) (cs' := Z52 10) rfl); have HR := Aside0.mk (HR.out.far HW.out HLB.out HL.out 0 (.int .u8 10)); have HG := Aside0.mk (grown_far HG.out (p := ⟨w.heap.size, 0, none⟩) (Nat.le_refl _) (.int .u8 10)))
    | (go_at_call 104; refine stepW_ x HO.out (fun o1 h1 => st1_ x HT.out w _ _ w.heap.size 2 (HR.out.far HW.out HLB.out HL.out 0 (.int .u8 2)) (grown_far HG.out (p := ⟨w.heap.size, 0, none⟩) (Nat.le_refl _) (.int .u8 2)) (Nat.le_refl _) HL.out HLB.out HW.out (blk_put HF.out 0 (.int .u8 2) rfl) h1) (fun e k w' he hr hg => by subst he; exact ⟨rfl, rfl, hr, hg⟩) ?_; rintro pp i4 v w4 hq ⟨rfl, v6, hrow, hR⟩ hr hg; obtain ⟨A6, c6, rfl⟩ := Kd.R_slice hR; have HMM := Aside0.mk hR; have HF := Aside0.mk hrow; have HR := Aside0.mk hr; have HG := Aside0.mk hg; have HO := Aside0.mk hq; clear hq hrow hR hr hg)
    | (go_at_call 42; refine step_ x HO.out (fun o1 h1 => must_ x _ _ HR.out sSemi h1) (fun e k w' he hr hg => by subst he; exact ⟨rfl, rfl, hr, HG.out.trans hg⟩) ?_; rintro ua i5 uv w5 hq rfl hr hg; injection hq with hq; subst hq; have HG5 := Aside0.mk hg; have HR := Aside0.mk hr; have HG := Aside0.mk (HG.out.trans hg); have hf := own_grown HF.out hg HL.out; have HF := Aside0.mk hf; have a0 := blk_cell hf 0; have a1 := blk_cell hf 1; have a2 := blk_cell hf 2; have a3 := blk_cell hf 3; have a4 := blk_cell hf 4; have a5 := blk_cell hf 5; have a6 := blk_cell hf 6; have a7 := blk_cell hf 7; have a8 := blk_cell hf 8; have a9 := blk_cell hf 9; have a10 := blk_cell hf 10; have a11 := blk_cell hf 11; have a12 := blk_cell hf 12; clear hf hr hg)
    | ((with_reducible refine gate_store (t := 52) (p := 2) rfl ?_); refine store_row rfl rfl rfl w.heap.size _ rfl rfl HF.out (by kernel_rfl) rfl (by kernel_rfl) ?_; intro w6 hf6 hg6; have HF6 := Aside0.mk hf6; have HG6 := Aside0.mk hg6; clear hf6 hg6))
  · refine bodyPost_ret (results_cell_row rfl _ _ w.heap.size 52 _ (0, 0) _ rfl HF6.out Tryz.underlying52 rfl (by kernel_rfl)) rfl ?_
    exact ⟨_, rfl, ⟨_, rfl, k52_mkM _ _ _ ⟨10, 0, z50, false, z40⟩ (Kd.R_nil _ _ _ _ _)⟩, HR.out.other HG6.out HL.out HLB.out HW.out, grown_other HG.out HG6.out (Nat.le_refl _)⟩
  · refine bodyPost_ret (results_cell_row rfl _ _ w.heap.size 52 _ (0, 0) _ rfl HF6.out Tryz.underlying52 rfl (by kernel_rfl)) rfl ?_
    exact ⟨_, rfl, ⟨_, rfl, k52_mkM _ _ _ ⟨2, pp.1, pp.2, false, z40⟩ (Kd.R_lower (R_keep (R_keep HMM.out HG5.out (Nat.lt_succ_of_lt HLR.out)) HG6.out (Nat.lt_succ_self _)) (Nat.le_succ _))⟩, HR.out.other HG6.out HL.out HLB.out HW.out, grown_other HG.out HG6.out (Nat.le_refl _)⟩
end Go.Proofs.YtmgdkkkkanjadaaGreatDoor.HandF
