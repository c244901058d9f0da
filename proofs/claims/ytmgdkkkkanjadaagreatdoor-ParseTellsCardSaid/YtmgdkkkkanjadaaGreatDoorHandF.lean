/-
  parse's reader: steps. Conditions: what the listed package variables hold.
-/
import Derived.Test.YtmgdkkkkanjadaaGreatDoorHandE
namespace Go.Proofs.YtmgdkkkkanjadaaGreatDoor.HandF
set_option linter.unusedVariables false
set_option linter.unusedSimpArgs false
open Go.RowKit Go.Shelf Go.Lib Go.Proofs.YtmgdkkkkanjadaaGreatDoorW.PrintWords Go.Proofs.YtmgdkkkkanjadaaGreatDoorW.PrintLast Go.Proofs.YtmgdkkkkanjadaaGreatDoorW.PrintMore Go.Proofs.YtmgdkkkkanjadaaGreatDoor.X Go.Proofs.YtmgdkkkkanjadaaGreatDoor.HandS Go.Proofs.YtmgdkkkkanjadaaGreatDoor.HandA Go.Proofs.YtmgdkkkkanjadaaGreatDoor.HandB Go.Proofs.YtmgdkkkkanjadaaGreatDoor.HandC Go.Proofs.YtmgdkkkkanjadaaGreatDoor.HandD Go.Proofs.YtmgdkkkkanjadaaGreatDoor.HandE

/-- step_, seen from an earlier world -/
theorem stepW_ {P : Program} {f : FuncId} {args : Array Value} {w0 w : World} {R : Ending → World → Prop} (x : Cx) {α β : Type} {rel : α → Value → World → Prop} {p : Option (Out α)} {q : α → Nat → Option (Out β)} {o : Out β} (h : obind p q = some o)
    (hc : ∀ o1,p = some o1 → Calls P f args w (Post x w0 rel o1))
    (hbad : ∀ e k w', o = .bad e k → Rd x w' k → w0.grownBy w' (some x.r) → R (.panicked [{ v := .iface 79 (.agg #[.int .i64 e, .int .i64 (tkAt x.T k).f2.f0, .int .i64 (tkAt x.T k).f2.f1]), recovered := false }]) w')
    (hok : ∀ a k v w', q a k = some o → rel a v w' → Rd x w' k → w0.grownBy w' (some x.r) → R (.returned v) w') : Calls P f args w R := by
  cases p with
  | none=>cases h
  | some o1 =>
    refine (hc o1 rfl).mono ?_
    intro e w' hp
    cases o1 with
    | ok a j =>
      obtain ⟨v,rfl,h1,h2,h3⟩:=hp
      exact hok a j v w' h h1 h2 h3
    | bad k j =>
      obtain ⟨rfl,h2,h3⟩:=hp
      injection h with h
      exact hbad k j w' h.symm h2 h3
abbrev sNeg : ByteArray:=⟨#[110,101,103,97,116,101]⟩
abbrev sDmg : ByteArray:=⟨#[100,97,109,97,103,101]⟩
abbrev sSemi : ByteArray:=⟨#[59]⟩
def dmgS (T : List S69) (j : Nat) : Option (Out (Int × S50)):=obind (sideS T j) fun a j=>obind (valueS T j) fun e j=>some (.ok (a,e) j)
def allS (T : List S69) (j : Nat) : Option (Out (Bool × S40)):=if 0 ≤ amongS T wSides j then obind (selS T j) fun s j=>some (.ok (true,⟨s.1,s.2.1,s.2.2⟩) j) else some (.ok (false,z40) j)
def boostS (T : List S69) (j : Nat) : Option (Out (S50 × Bool × S40)):=obind (valueS T j) fun e j=>obind (allS T j) fun q j=>some (.ok (e,q.1,q.2) j)
/-- how a step is read on: what it does, and which function reads it -/
def opOf (s : ByteArray) : Option (Int × Nat) :=
  if s = sNeg then some (10,107) else if s = sDmg then some (2,104) else if s = ⟨#[100,114,97,119]⟩ then some (0,104) else if s = ⟨#[109,105,108,108]⟩ then some (1,104) else if s = ⟨#[104,101,97,108]⟩ then some (3,104)
  else if s = ⟨#[116,111,107,101,110]⟩ then some (9,104) else if s = ⟨#[100,101,115,116,114,111,121]⟩ then some (4,105) else if s = ⟨#[98,97,110,105,115,104]⟩ then some (5,105) else if s = ⟨#[98,111,117,110,99,101]⟩ then some (6,105)
  else if s = ⟨#[114,101,118,105,118,101]⟩ then some (8,105) else if s = ⟨#[98,111,111,115,116]⟩ then some (7,106) else none
def onS (T : List S69) (p : Int × Nat) (j : Nat) : Option (Out S52):=match p.2 with
  | 107=>obind (mustS T sSemi j) fun _ j=>some (.ok ⟨p.1,0,z50,false,z40⟩ j)
  | 104=>obind (dmgS T j) fun q j=>obind (mustS T sSemi j) fun _ j=>some (.ok ⟨p.1,q.1,q.2,false,z40⟩ j)
  | 105=>obind (allS T j) fun q j=>obind (mustS T sSemi j) fun _ j=>some (.ok ⟨p.1,0,z50,q.1,q.2⟩ j)
  | 106=>obind (boostS T j) fun q j=>obind (mustS T sSemi j) fun _ j=>some (.ok ⟨p.1,0,q.1,q.2.1,q.2.2⟩ j)
  | _=>none
def stepS (T : List S69) (j : Nat) : Option (Out S52):=obind (skipS T j) fun s j=>match opOf s with
  | some p=>onS T p j
  | none=>none
abbrev D52 (op a : Int) (e : S50) (v : Value) (fl : Bool) (s : S40) : Array Value:=#[.int .u8 op,.int .u8 a,.int .u8 e.f0,.int .i64 e.f1,.int .u8 e.f2,.int .u8 e.f3.f0,.int .u8 e.f3.f1,.int .u8 e.f3.f2,v,.bool fl,.int .u8 s.f0,.int .u8 s.f1,.int .u8 s.f2]
abbrev C52 (op a : Int) (e : S50) (v : Value) : Array Value:=#[.int .u8 op,.int .u8 a,.int .u8 e.f0,.int .i64 e.f1,.int .u8 e.f2,.int .u8 e.f3.f0,.int .u8 e.f3.f1,.int .u8 e.f3.f2,v,.bool false,.int .u8 0,.int .u8 0,.int .u8 0]
abbrev Z52 (op : Int) : Array Value:=#[.int .u8 op,.int .u8 0,.int .u8 0,.int .i64 0,.int .u8 0,.int .u8 0,.int .u8 0,.int .u8 0,.slice none 0 0,.bool false,.int .u8 0,.int .u8 0,.int .u8 0]
def rDmg (op : Int) (b : Nat) (p : Int × S50) (v : Value) (w : World) : Prop:=v = .tuple #[] ∧ ∃ v6,w.heap[b]? = some (.cells (C52 op p.1 p.2 v6) 52 (0,0)) ∧ k50.R 50 w (b + 1) (fun _=>True) v6 p.2.f4
/-- a row of the caller's, behind stores of single cells -/
structure Put1 (x : Cx) (wa w2 w : World) (b j : Nat) (t : TypeId) (cells : Array Value) : Prop where
  rd : Rd x w j
  gr : wa.grownBy w (some x.r)
  row : w.heap[b]? = some (.cells cells t (0,0))
  gs : w2.grownBy w (some b)
theorem Put1.set {x : Cx} {wa w2 w : World} {b j : Nat} {t : TypeId} {cells : Array Value} (h : Put1 x wa w2 w b j t cells) (hW : x.W0.heap.size ≤ b) (hB : b ≠ x.B) (hr : b ≠ x.r) (ha : wa.heap.size ≤ b) (i : Nat) (u : Value) (cells' : Array Value) (e : cells.setIfInBounds i u = cells') : Put1 x wa w2 (w.setCell ⟨b, i, none⟩ u) b j t cells' :=
  ⟨h.rd.far hW hB hr i u,grown_far h.gr (p:=⟨b,i,none⟩) ha u,blk_put h.row i u e,h.gs.trans (grown_set w b i u)⟩
set_option maxHeartbeats 1000000 in
set_option maxRecDepth 100000 in
theorem st1_ (x : Cx) (hG : Tabs x.W0) (wa w : World) (j b : Nat) (op : Int) (h : Rd x w j) (hga : wa.grownBy w (some x.r)) (hba : wa.heap.size ≤ b) (hbr : b ≠ x.r) (hbB : b ≠ x.B) (hbW : x.W0.heap.size ≤ b)
    (hrow : w.heap[b]? = some (.cells (Z52 op) 52 (0,0))) {o : Out (Int × S50)} (ho : dmgS x.T j = some o) :
    Calls Tryz.prog 104 #[.pointer (some ⟨x.r,0,none⟩),.pointer (some ⟨b,0,none⟩)] w (Post x wa (rDmg op b) o):=by
  have HR:=Aside0.mk h
  have HG:=Aside0.mk hga
  have HF:=Aside0.mk hrow
  have HL:=Aside0.mk hbr
  have HBB:=Aside0.mk hbB
  have HBW:=Aside0.mk hbW
  have HBA:=Aside0.mk hba
  have HT:=Aside0.mk hG
  have hu52:=Tryz.underlying52
  unfold dmgS at ho
  have HO:=Aside0.mk ho
  clear h ho hG hga hrow hbr hbB hbW hba
  go_enter Tryz.func104,Tryz.ntmps104
  go_wp2_with (first
    | (go_at_call 72; refine step_ x HO.out (fun o1 h1 => side_ x _ _ HR.out h1) (fun e k w' he hr hg => by subst he; exact ⟨rfl, rfl, hr, HG.out.trans hg⟩) ?_; rintro a i v w1 hq rfl hr hg; have HR := Aside0.mk hr; have HG := Aside0.mk (HG.out.trans hg); have HF := Aside0.mk (own_grown HF.out hg HL.out); have HO := Aside0.mk hq; clear hq hr hg)
    | (go_at_call 26; go_loud (refine step_ x HO.out (fun o1 h1 => value_ x HT.out _ _ HR.out h1) (fun e k w' he hr hg => by subst he; exact ⟨rfl, rfl, hr, HG.out.trans hg⟩) ?_; rintro e i2 v2 w2 hq ⟨cs, rfl, hM⟩ hr hg; injection hq with hq; subst hq; obtain ⟨v6, rfl, hR6⟩ := k50_openM hM; obtain ⟨A6, c6, rfl⟩ := Kd.R_slice hR6; have HLT := Aside0.mk (blk_lt HF.out); have HMM := Aside0.mk hR6; have HR := Aside0.mk hr; have HG := Aside0.mk (HG.out.trans hg); have hf := own_grown HF.out hg HL.out; have HF := Aside0.mk hf; have d1 := blk_cell hf 1; have d2 := blk_cell hf 2; have d3 := blk_cell hf 3; have d4 := blk_cell hf 4; have d5 := blk_cell hf 5; have d6 := blk_cell hf 6; have d7 := blk_cell hf 7; have d8 := blk_cell hf 8; have e1 := blk_frozen hf 1; have e2 := blk_frozen hf 2; have e3 := blk_frozen hf 3; have e4 := blk_frozen hf 4; have e5 := blk_frozen hf 5; have e6 := blk_frozen hf 6; have e7 := blk_frozen hf 7; have e8 := blk_frozen hf 8; clear hr hg hM hR6 hf)))
  have q0 : Put1 x wa w2 w2 b i2 52 (Z52 op):=⟨HR.out,HG.out,HF.out,World.grownBy.refl _ _⟩
  have q1:=q0.set HBW.out HBB.out HL.out HBA.out 1 (.int .u8 a) #[.int .u8 op,.int .u8 a,.int .u8 0,.int .i64 0,.int .u8 0,.int .u8 0,.int .u8 0,.int .u8 0,.slice none 0 0,.bool false,.int .u8 0,.int .u8 0,.int .u8 0] rfl
  have q2:=q1.set HBW.out HBB.out HL.out HBA.out 2 (.int .u8 e.f0) #[.int .u8 op,.int .u8 a,.int .u8 e.f0,.int .i64 0,.int .u8 0,.int .u8 0,.int .u8 0,.int .u8 0,.slice none 0 0,.bool false,.int .u8 0,.int .u8 0,.int .u8 0] rfl
  have q3:=q2.set HBW.out HBB.out HL.out HBA.out 3 (.int .i64 e.f1) #[.int .u8 op,.int .u8 a,.int .u8 e.f0,.int .i64 e.f1,.int .u8 0,.int .u8 0,.int .u8 0,.int .u8 0,.slice none 0 0,.bool false,.int .u8 0,.int .u8 0,.int .u8 0] rfl
  have q4:=q3.set HBW.out HBB.out HL.out HBA.out 4 (.int .u8 e.f2) #[.int .u8 op,.int .u8 a,.int .u8 e.f0,.int .i64 e.f1,.int .u8 e.f2,.int .u8 0,.int .u8 0,.int .u8 0,.slice none 0 0,.bool false,.int .u8 0,.int .u8 0,.int .u8 0] rfl
  have q5:=q4.set HBW.out HBB.out HL.out HBA.out 5 (.int .u8 e.f3.f0) #[.int .u8 op,.int .u8 a,.int .u8 e.f0,.int .i64 e.f1,.int .u8 e.f2,.int .u8 e.f3.f0,.int .u8 0,.int .u8 0,.slice none 0 0,.bool false,.int .u8 0,.int .u8 0,.int .u8 0] rfl
  have q6:=q5.set HBW.out HBB.out HL.out HBA.out 6 (.int .u8 e.f3.f1) #[.int .u8 op,.int .u8 a,.int .u8 e.f0,.int .i64 e.f1,.int .u8 e.f2,.int .u8 e.f3.f0,.int .u8 e.f3.f1,.int .u8 0,.slice none 0 0,.bool false,.int .u8 0,.int .u8 0,.int .u8 0] rfl
  have q7:=q6.set HBW.out HBB.out HL.out HBA.out 7 (.int .u8 e.f3.f2) #[.int .u8 op,.int .u8 a,.int .u8 e.f0,.int .i64 e.f1,.int .u8 e.f2,.int .u8 e.f3.f0,.int .u8 e.f3.f1,.int .u8 e.f3.f2,.slice none 0 0,.bool false,.int .u8 0,.int .u8 0,.int .u8 0] rfl
  have q8:=q7.set HBW.out HBB.out HL.out HBA.out 8 (.slice A6 e.f4.length c6) #[.int .u8 op,.int .u8 a,.int .u8 e.f0,.int .i64 e.f1,.int .u8 e.f2,.int .u8 e.f3.f0,.int .u8 e.f3.f1,.int .u8 e.f3.f2,.slice A6 e.f4.length c6,.bool false,.int .u8 0,.int .u8 0,.int .u8 0] rfl
  refine bodyPost_end (results_none rfl _ _ _) rfl ?_
  exact ⟨_,rfl,⟨rfl,_,q8.row,Kd.R_lower (R_keep HMM.out q8.gs HLT.out) HLT.out⟩,q8.rd,q8.gr⟩
theorem st3_ (w : World) (u v : Value) : Calls Tryz.prog 107 #[u, v] w fun e w' => e = .returned (.tuple #[]) ∧ w' = w := by
  go_enter Tryz.func107,Tryz.ntmps107
  go_wp2
  exact bodyPost_end (results_none rfl _ _ _) rfl ⟨rfl,rfl⟩

def rAll (x : Cx) (w : World) (b : Nat) (op a : Int) (e : S50) (v6 : Value) (q : Bool × S40) (v : Value) (w' : World) : Prop :=
  v = .tuple #[] ∧ w'.heap[b]? = some (.cells (D52 op a e v6 q.1 q.2) 52 (0,0)) ∧ ∀ k,k < w.heap.size → k ≠ x.r → k ≠ b → w'.heap[k]? = w.heap[k]?
set_option maxHeartbeats 1000000 in
set_option maxRecDepth 100000 in
theorem all_ (x : Cx) (wa w : World) (j b : Nat) (op a : Int) (e : S50) (v6 : Value) (h : Rd x w j) (hga : wa.grownBy w (some x.r)) (hba : wa.heap.size ≤ b) (hbr : b ≠ x.r) (hbB : b ≠ x.B) (hbW : x.W0.heap.size ≤ b)
    (hrow : w.heap[b]? = some (.cells (D52 op a e v6 false z40) 52 (0,0))) {o : Out (Bool × S40)} (ho : allS x.T j = some o) :
    Calls Tryz.prog 105 #[.pointer (some ⟨x.r,0,none⟩),.pointer (some ⟨b,0,none⟩)] w (Post x wa (rAll x w b op a e v6) o):=by
  have HF:=Aside0.mk hrow
  have HL:=Aside0.mk hbr
  have HBB:=Aside0.mk hbB
  have HBW:=Aside0.mk hbW
  have HBA:=Aside0.mk hba
  have HR:=Aside0.mk (h.below_ (below_alloc (Below.refl _ _) (.cells (wSides.map Value.string).toArray 9)))
  have HG:=Aside0.mk (hga.trans (World.grownBy_alloc w (.cells (wSides.map Value.string).toArray 9) (some x.r)))
  have HF1:=Aside0.mk (blk_alloc hrow (.cells (wSides.map Value.string).toArray 9))
  have HK:=Aside0.mk (show ∀ k,k < w.heap.size → (w.alloc (.cells (wSides.map Value.string).toArray 9)).heap[k]? = w.heap[k]? from fun k hk=>(below_alloc (Below.refl w.heap.size w) (.cells (wSides.map Value.string).toArray 9)).block k hk)
  have hu52:=Tryz.underlying52
  have hu40:=Tryz.underlying40
  unfold allS at ho
  by_cases c : 0 ≤ amongS x.T wSides j
  · rw [if_pos c] at ho
    have c0 : decide (0 ≤ amongS x.T wSides j) = true:=decide_eq_true c
    have HO:=Aside0.mk ho
    clear h ho hga hrow hbr hbB hbW hba c
    go_enter Tryz.func105,Tryz.ntmps105
    go_wp2_with (first
      | (go_at_call 102;refine (sides_ _).mono ?_;rintro e w2 ⟨rfl,rfl⟩)
      | (go_at_call 15;refine (among_ x _ j HR.out wSides _ 4 (Wd.new w _) (by decide)).mono ?_;rintro e w2 ⟨rfl,rfl⟩)
      | (go_at_call 75; refine step_ x HO.out (fun o1 h1 => sel_ x _ j HR.out h1) (fun e k w' he hr hg => by subst he; exact ⟨rfl, rfl, hr, HG.out.trans hg⟩) ?_; rintro s i v w3 hq rfl hr hg; injection hq with hq; subst hq; have HR3 := Aside0.mk hr; have HG3 := Aside0.mk (HG.out.trans hg); have hf := own_grown HF1.out hg HL.out; have HF3 := Aside0.mk hf; have HK3 := Aside0.mk hg; have d9 := blk_cell hf 9; have d10 := blk_cell hf 10; have d11 := blk_cell hf 11; have d12 := blk_cell hf 12; have e9 := blk_frozen hf 9; have e10 := blk_frozen hf 10; have e11 := blk_frozen hf 11; have e12 := blk_frozen hf 12; clear hf hr hg))
    have q0 : Put1 x wa w3 w3 b i 52 (D52 op a e v6 false z40):=⟨HR3.out,HG3.out,HF3.out,World.grownBy.refl _ _⟩
    have q1:=q0.set HBW.out HBB.out HL.out HBA.out 9 (.bool true) (D52 op a e v6 true z40) rfl
    have q2:=q1.set HBW.out HBB.out HL.out HBA.out 10 (.int .u8 s.1) (D52 op a e v6 true ⟨s.1,0,0⟩) rfl
    have q3:=q2.set HBW.out HBB.out HL.out HBA.out 11 (.int .u8 s.2.1) (D52 op a e v6 true ⟨s.1,s.2.1,0⟩) rfl
    have q4:=q3.set HBW.out HBB.out HL.out HBA.out 12 (.int .u8 s.2.2) (D52 op a e v6 true ⟨s.1,s.2.1,s.2.2⟩) rfl
    refine bodyPost_end (results_none rfl _ _ _) rfl ?_
    refine ⟨_,rfl,⟨rfl,q4.row,fun k hk h1 h2=>?_⟩,q4.rd,q4.gr⟩
    have hk1 : k < (w.alloc (.cells (wSides.map Value.string).toArray 9)).heap.size:=by rw [size_alloc];exact Nat.lt_succ_of_lt hk
    rw [q4.gs.block k (Nat.lt_of_lt_of_le hk1 HK3.out.size) (fun e=>h2 (Option.some.inj e)),HK3.out.block k hk1 (fun e=>h1 (Option.some.inj e)),HK.out k hk]
  · rw [if_neg c] at ho
    have c0 : decide (0 ≤ amongS x.T wSides j) = false:=decide_eq_false c
    injection ho with ho
    subst ho
    clear h hga hrow hbr hbB hbW hba c
    go_enter Tryz.func105,Tryz.ntmps105
    go_wp2_with (first
      | (go_at_call 102;refine (sides_ _).mono ?_;rintro e w2 ⟨rfl,rfl⟩)
      | (go_at_call 15;refine (among_ x _ j HR.out wSides _ 4 (Wd.new w _) (by decide)).mono ?_;rintro e w2 ⟨rfl,rfl⟩))
    refine bodyPost_end (results_none rfl _ _ _) rfl ?_
    exact ⟨_,rfl,⟨rfl,HF1.out,fun k hk _ _=>HK.out k hk⟩,HR.out,HG.out⟩
def rBoost (op : Int) (b : Nat) (q : S50 × Bool × S40) (v : Value) (w : World) : Prop:=v = .tuple #[] ∧ ∃ v6,w.heap[b]? = some (.cells (D52 op 0 q.1 v6 q.2.1 q.2.2) 52 (0,0)) ∧ k50.R 50 w (b + 1) (fun _=>True) v6 q.1.f4
set_option maxHeartbeats 1000000 in
set_option maxRecDepth 100000 in
theorem st2_ (x : Cx) (hG : Tabs x.W0) (wa w : World) (j b : Nat) (op : Int) (h : Rd x w j) (hga : wa.grownBy w (some x.r)) (hba : wa.heap.size ≤ b) (hbr : b ≠ x.r) (hbB : b ≠ x.B) (hbW : x.W0.heap.size ≤ b) (hrb : x.r < b)
    (hrow : w.heap[b]? = some (.cells (Z52 op) 52 (0,0))) {o : Out (S50 × Bool × S40)} (ho : boostS x.T j = some o) :
    Calls Tryz.prog 106 #[.pointer (some ⟨x.r,0,none⟩),.pointer (some ⟨b,0,none⟩)] w (Post x wa (rBoost op b) o):=by
  have HR:=Aside0.mk h
  have HG:=Aside0.mk hga
  have HF:=Aside0.mk hrow
  have HL:=Aside0.mk hbr
  have HBB:=Aside0.mk hbB
  have HBW:=Aside0.mk hbW
  have HBA:=Aside0.mk hba
  have HRB:=Aside0.mk hrb
  have HT:=Aside0.mk hG
  have hu52:=Tryz.underlying52
  unfold boostS at ho
  have HO:=Aside0.mk ho
  clear h ho hG hga hrow hbr hbB hbW hba hrb
  go_enter Tryz.func106,Tryz.ntmps106
  go_wp2_with (first
    | (go_at_call 26; refine step_ x HO.out (fun o1 h1 => value_ x HT.out _ _ HR.out h1) (fun e k w' he hr hg => by subst he; exact ⟨rfl, rfl, hr, HG.out.trans hg⟩) ?_; rintro e i2 v2 w2 hq ⟨cs, rfl, hM⟩ hr hg; have HO2 := Aside0.mk hq; obtain ⟨v6, rfl, hR6⟩ := k50_openM hM; obtain ⟨A6, c6, rfl⟩ := Kd.R_slice hR6; have HLT := Aside0.mk (blk_lt HF.out); have HMM := Aside0.mk hR6; have HR := Aside0.mk hr; have HG := Aside0.mk (HG.out.trans hg); have hf := own_grown HF.out hg HL.out; have HF := Aside0.mk hf; have d2 := blk_cell hf 2; have d3 := blk_cell hf 3; have d4 := blk_cell hf 4; have d5 := blk_cell hf 5; have d6 := blk_cell hf 6; have d7 := blk_cell hf 7; have d8 := blk_cell hf 8; have e2 := blk_frozen hf 2; have e3 := blk_frozen hf 3; have e4 := blk_frozen hf 4; have e5 := blk_frozen hf 5; have e6 := blk_frozen hf 6; have e7 := blk_frozen hf 7; have e8 := blk_frozen hf 8; clear hf hr hg hq;
       have q0 : Put1 x wa w2 w2 b i2 52 (Z52 op):=⟨HR.out,HG.out,HF.out,World.grownBy.refl _ _⟩;
       have q2:=q0.set HBW.out HBB.out HL.out HBA.out 2 (.int .u8 e.f0) #[.int .u8 op,.int .u8 0,.int .u8 e.f0,.int .i64 0,.int .u8 0,.int .u8 0,.int .u8 0,.int .u8 0,.slice none 0 0,.bool false,.int .u8 0,.int .u8 0,.int .u8 0] rfl;
       have q3:=q2.set HBW.out HBB.out HL.out HBA.out 3 (.int .i64 e.f1) #[.int .u8 op,.int .u8 0,.int .u8 e.f0,.int .i64 e.f1,.int .u8 0,.int .u8 0,.int .u8 0,.int .u8 0,.slice none 0 0,.bool false,.int .u8 0,.int .u8 0,.int .u8 0] rfl;
       have q4:=q3.set HBW.out HBB.out HL.out HBA.out 4 (.int .u8 e.f2) #[.int .u8 op,.int .u8 0,.int .u8 e.f0,.int .i64 e.f1,.int .u8 e.f2,.int .u8 0,.int .u8 0,.int .u8 0,.slice none 0 0,.bool false,.int .u8 0,.int .u8 0,.int .u8 0] rfl;
       have q5:=q4.set HBW.out HBB.out HL.out HBA.out 5 (.int .u8 e.f3.f0) #[.int .u8 op,.int .u8 0,.int .u8 e.f0,.int .i64 e.f1,.int .u8 e.f2,.int .u8 e.f3.f0,.int .u8 0,.int .u8 0,.slice none 0 0,.bool false,.int .u8 0,.int .u8 0,.int .u8 0] rfl;
       have q6:=q5.set HBW.out HBB.out HL.out HBA.out 6 (.int .u8 e.f3.f1) #[.int .u8 op,.int .u8 0,.int .u8 e.f0,.int .i64 e.f1,.int .u8 e.f2,.int .u8 e.f3.f0,.int .u8 e.f3.f1,.int .u8 0,.slice none 0 0,.bool false,.int .u8 0,.int .u8 0,.int .u8 0] rfl;
       have q7:=q6.set HBW.out HBB.out HL.out HBA.out 7 (.int .u8 e.f3.f2) #[.int .u8 op,.int .u8 0,.int .u8 e.f0,.int .i64 e.f1,.int .u8 e.f2,.int .u8 e.f3.f0,.int .u8 e.f3.f1,.int .u8 e.f3.f2,.slice none 0 0,.bool false,.int .u8 0,.int .u8 0,.int .u8 0] rfl;
       have q8:=q7.set HBW.out HBB.out HL.out HBA.out 8 (.slice A6 e.f4.length c6) (D52 op 0 e (.slice A6 e.f4.length c6) false z40) rfl;
       have Q8:=Aside0.mk q8;clear q0 q2 q3 q4 q5 q6 q7 q8)
    | (go_at_call 105; refine stepW_ x HO2.out (fun o1 h1 => all_ x wa _ i2 b op 0 e (.slice A6 e.f4.length c6) Q8.out.rd Q8.out.gr HBA.out HL.out HBB.out HBW.out Q8.out.row h1) (fun e k w' he hr hg => by subst he; exact ⟨rfl, rfl, hr, hg⟩) ?_; rintro q i4 v w4 hq ⟨rfl, hrow, hkk⟩ hr hg; injection hq with hq; subst hq; have HF4 := Aside0.mk hrow; have HK4 := Aside0.mk hkk; have HR4 := Aside0.mk hr; have HG4 := Aside0.mk hg; clear hrow hkk hr hg))
  refine bodyPost_end (results_none rfl _ _ _) rfl ?_
  refine ⟨_,rfl,⟨rfl,_,HF4.out,?_⟩,HR4.out,HG4.out⟩
  have h1:=Kd.R_lower (R_keep HMM.out Q8.out.gs HLT.out) HLT.out
  exact Kd.R_mono (Kd.R_step (Kd.R_bound h1) (fun k hk hlt=>HK4.out k hlt (fun e=>by have:=hk.2.1;have:=HRB.out;omega) (fun e=>by have:=hk.2.1;omega))) (fun _ _=>trivial)
theorem opOf_snd {s : ByteArray} {p : Int × Nat} (h : opOf s = some p) : (lookT rowsT s 0).map Prod.snd = some (.agg #[.int .u8 p.1,.func (.func p.2) #[] #[]]) ∧ (p.2 = 107 ∨ p.2 = 104 ∨ p.2 = 105 ∨ p.2 = 106):=by
  unfold opOf at h
  by_cases c : s = sNeg
  · rw [if_pos c] at h
    subst c
    injection h with h
    subst h
    exact ⟨by kernel_rfl,by decide⟩
  rw [if_neg c] at h
  clear c
  by_cases c : s = sDmg
  · rw [if_pos c] at h
    subst c
    injection h with h
    subst h
    exact ⟨by kernel_rfl,by decide⟩
  rw [if_neg c] at h
  clear c
  by_cases c : s = ⟨#[100,114,97,119]⟩
  · rw [if_pos c] at h
    subst c
    injection h with h
    subst h
    exact ⟨by kernel_rfl,by decide⟩
  rw [if_neg c] at h
  clear c
  by_cases c : s = ⟨#[109,105,108,108]⟩
  · rw [if_pos c] at h
    subst c
    injection h with h
    subst h
    exact ⟨by kernel_rfl,by decide⟩
  rw [if_neg c] at h
  clear c
  by_cases c : s = ⟨#[104,101,97,108]⟩
  · rw [if_pos c] at h
    subst c
    injection h with h
    subst h
    exact ⟨by kernel_rfl,by decide⟩
  rw [if_neg c] at h
  clear c
  by_cases c : s = ⟨#[116,111,107,101,110]⟩
  · rw [if_pos c] at h
    subst c
    injection h with h
    subst h
    exact ⟨by kernel_rfl,by decide⟩
  rw [if_neg c] at h
  clear c
  by_cases c : s = ⟨#[100,101,115,116,114,111,121]⟩
  · rw [if_pos c] at h
    subst c
    injection h with h
    subst h
    exact ⟨by kernel_rfl,by decide⟩
  rw [if_neg c] at h
  clear c
  by_cases c : s = ⟨#[98,97,110,105,115,104]⟩
  · rw [if_pos c] at h
    subst c
    injection h with h
    subst h
    exact ⟨by kernel_rfl,by decide⟩
  rw [if_neg c] at h
  clear c
  by_cases c : s = ⟨#[98,111,117,110,99,101]⟩
  · rw [if_pos c] at h
    subst c
    injection h with h
    subst h
    exact ⟨by kernel_rfl,by decide⟩
  rw [if_neg c] at h
  clear c
  by_cases c : s = ⟨#[114,101,118,105,118,101]⟩
  · rw [if_pos c] at h
    subst c
    injection h with h
    subst h
    exact ⟨by kernel_rfl,by decide⟩
  rw [if_neg c] at h
  clear c
  by_cases c : s = ⟨#[98,111,111,115,116]⟩
  · rw [if_pos c] at h
    subst c
    injection h with h
    subst h
    exact ⟨by kernel_rfl,by decide⟩
  rw [if_neg c] at h
  clear c
  cases h
theorem opOf_look {s : ByteArray} {p : Int × Nat} (h : opOf s = some p) : ∃ i,lookT rowsT s 0 = some (i,.agg #[.int .u8 p.1,.func (.func p.2) #[] #[]]):=by
  have h1:=(opOf_snd h).1
  cases hl : lookT rowsT s 0 with
  | none=>rw [hl] at h1;cases h1
  | some q =>
    rw [hl] at h1
    obtain ⟨i,v⟩:=q
    injection h1 with h1
    simp only at h1
    subst h1
    exact ⟨i,rfl⟩
theorem step_cases {T : List S69} {s : ByteArray} {j : Nat} {o : Out S52} (h : (match opOf s with | some p=>onS T p j | none=>none) = some o) :
    (∃ i op,lookT rowsT s 0 = some (i,.agg #[.int .u8 op,.func (.func 107) #[] #[]]) ∧ (obind (mustS T sSemi j) fun _ j=>some (.ok (⟨op,0,z50,false,z40⟩ : S52) j)) = some o) ∨
    (∃ i op,lookT rowsT s 0 = some (i,.agg #[.int .u8 op,.func (.func 104) #[] #[]]) ∧ (obind (dmgS T j) fun q j=>obind (mustS T sSemi j) fun _ j=>some (.ok (⟨op,q.1,q.2,false,z40⟩ : S52) j)) = some o) ∨
    (∃ i op,lookT rowsT s 0 = some (i,.agg #[.int .u8 op,.func (.func 105) #[] #[]]) ∧ (obind (allS T j) fun q j=>obind (mustS T sSemi j) fun _ j=>some (.ok (⟨op,0,z50,q.1,q.2⟩ : S52) j)) = some o) ∨
    (∃ i op,lookT rowsT s 0 = some (i,.agg #[.int .u8 op,.func (.func 106) #[] #[]]) ∧ (obind (boostS T j) fun q j=>obind (mustS T sSemi j) fun _ j=>some (.ok (⟨op,0,q.1,q.2.1,q.2.2⟩ : S52) j)) = some o):=by
  cases hp : opOf s with
  | none=>rw [hp] at h;cases h
  | some p =>
    rw [hp] at h
    obtain ⟨i,hi⟩:=opOf_look hp
    have h2:=(opOf_snd hp).2
    obtain ⟨op,f⟩:=p
    simp only at h hi h2
    rcases h2 with rfl | rfl | rfl | rfl
    · exact .inl ⟨i,op,hi,h⟩
    · exact .inr (.inl ⟨i,op,hi,h⟩)
    · exact .inr (.inr (.inl ⟨i,op,hi,h⟩))
    · exact .inr (.inr (.inr ⟨i,op,hi,h⟩))
def rStep (base : Nat) (e : S52) (v : Value) (w : World) : Prop:=∃ cs : List Value,v = .agg cs.toArray ∧ k52.M w base (fun _=>True) e cs
set_option maxHeartbeats 2000000 in
set_option maxRecDepth 100000 in
theorem stepP_ (x : Cx) (hG : Tabs x.W0) (w : World) (j : Nat) (h : Rd x w j) {o : Out S52} (ho : stepS x.T j = some o) :
    Calls Tryz.prog 79 #[.pointer (some ⟨x.r,0,none⟩)] w (Post x w (rStep w.heap.size) o):=by
  have HR:=Aside0.mk (h.below_ (below_alloc (Below.refl _ _) (.cells (Z52 0) 52)))
  have HG:=Aside0.mk (World.grownBy_alloc w (.cells (Z52 0) 52) (some x.r))
  have HF:=Aside0.mk (blk_new w (.cells (Z52 0) 52))
  have HL:=Aside0.mk (Nat.ne_of_gt h.rlt)
  have HLB:=Aside0.mk (Nat.ne_of_gt h.Blt)
  have HW:=Aside0.mk (Nat.le_of_lt (Nat.lt_of_le_of_lt h.hr h.rlt))
  have HT:=Aside0.mk hG
  have HLR:=Aside0.mk h.rlt
  have hu52:=Tryz.underlying52
  have hu107:=Tryz.underlying107
  unfold stepS at ho
  have HO:=Aside0.mk ho
  clear h ho hG
  go_enter Tryz.func79,Tryz.ntmps79
  go_wp2_with (first
    | (go_at_call 78;refine (steps_ _).mono ?_;rintro e w1 ⟨b,rfl,hm,hb,hbb⟩;have HM:=Aside0.mk hm;have HMB:=Aside0.mk (Nat.ne_of_gt (Nat.lt_of_lt_of_le HR.out.rlt hbb));have HR:=Aside0.mk (HR.out.below_ hb);have HG:=Aside0.mk (HG.out.trans (grown_of_below hb (some x.r)));have HF:=Aside0.mk (blk_below HF.out hb);clear hm hb hbb)
    | (go_at_call 68; refine step_ x HO.out (fun o1 h1 => skip_ x _ _ HR.out h1) (fun e k w' he hr hg => by subst he; exact ⟨rfl, rfl, hr, HG.out.trans hg⟩) ?_; rintro s i v w2 hq rfl hr hg; have HM := Aside0.mk (show MapIs w2 b rowsT from own_grown HM.out hg HMB.out); have HR := Aside0.mk hr; have HG := Aside0.mk (HG.out.trans hg); have hf := own_grown HF.out hg HL.out; have HF := Aside0.mk hf; have hu := step_cases hq; clear hq; rcases hu with ⟨i0, op, hl0, hq⟩ | ⟨i0, op, hl0, hq⟩ | ⟨i0, op, hl0, hq⟩ | ⟨i0, op, hl0, hq⟩ <;> have hl1 := get_some HM.out hl0 false <;> have HO := Aside0.mk hq <;> clear hq hl0)
    | ((with_reducible refine gate_store (t:=107) (p:=3) rfl ?_);refine store_row rfl rfl rfl w2.heap.size _ rfl rfl (blk_new w2 _) (by kernel_rfl) rfl (by kernel_rfl) ?_;intro w3 hf3 hg3;have HLE:=Aside0.mk (blk_lt HF.out);have n3:=Nat.ne_of_gt (blk_lt HF.out);have n4:=Nat.ne_of_lt (blk_lt HF.out);have c0:=blk_cell hf3 0;have c1:=blk_cell hf3 1;have hf:=blk_grown (blk_alloc HF.out (.cells #[.int .u8 0,.nilFunc] 107)) hg3 (fun e=>n4 (Option.some.inj e));have f0:=blk_cell hf 0;have f1:=blk_frozen hf 0;have HF:=Aside0.mk hf;
       have HR:=Aside0.mk ((HR.out.below_ (below_alloc (Below.refl _ _) (.cells #[.int .u8 0,.nilFunc] 107))).other hg3 (Nat.ne_of_gt HR.out.rlt) (Nat.ne_of_gt HR.out.Blt) (Nat.le_trans HW.out (Nat.le_of_lt HLE.out)));have HG:=Aside0.mk (grown_other (HG.out.trans (World.grownBy_alloc w2 (.cells #[.int .u8 0,.nilFunc] 107) (some x.r))) hg3 (Nat.le_of_lt HLE.out));clear hf hf3 hg3)
    | (go_at_call 107; refine (st3_ _ _ _).mono ?_; rintro e w4 ⟨rfl, rfl⟩; have HF := Aside0.mk (blk_put HF.out 0 (.int .u8 op) (cs' := Z52 op) rfl); have HR := Aside0.mk (HR.out.far HW.out HLB.out HL.out 0 (.int .u8 op)); have HG := Aside0.mk (grown_far HG.out (p := ⟨w.heap.size, 0, none⟩) (Nat.le_refl _) (.int .u8 op)))
    | (go_at_call 104; refine stepW_ x HO.out (fun o1 h1 => st1_ x HT.out w _ _ w.heap.size op (HR.out.far HW.out HLB.out HL.out 0 (.int .u8 op)) (grown_far HG.out (p := ⟨w.heap.size, 0, none⟩) (Nat.le_refl _) (.int .u8 op)) (Nat.le_refl _) HL.out HLB.out HW.out (blk_put HF.out 0 (.int .u8 op) rfl) h1) (fun e k w' he hr hg => by subst he; exact ⟨rfl, rfl, hr, hg⟩) ?_; rintro pp i4 v w4 hq ⟨rfl, v6, hrow, hR⟩ hr hg; obtain ⟨A6, c6, rfl⟩ := Kd.R_slice hR; have HMM := Aside0.mk hR; have HF := Aside0.mk hrow; have HR := Aside0.mk hr; have HG := Aside0.mk hg; have HO := Aside0.mk hq; clear hq hrow hR hr hg)
    | (go_at_call 105; refine stepW_ x HO.out (fun o1 h1 => all_ x w _ _ w.heap.size op 0 z50 (.slice none 0 0) (HR.out.far HW.out HLB.out HL.out 0 (.int .u8 op)) (grown_far HG.out (p := ⟨w.heap.size, 0, none⟩) (Nat.le_refl _) (.int .u8 op)) (Nat.le_refl _) HL.out HLB.out HW.out (blk_put HF.out 0 (.int .u8 op) rfl) h1) (fun e k w' he hr hg => by subst he; exact ⟨rfl, rfl, hr, hg⟩) ?_; rintro pp i4 v w4 hq ⟨rfl, hrow, hkk⟩ hr hg; have HF := Aside0.mk hrow; have HR := Aside0.mk hr; have HG := Aside0.mk hg; have HO := Aside0.mk hq; clear hq hrow hkk hr hg)
    | (go_at_call 106; refine stepW_ x HO.out (fun o1 h1 => st2_ x HT.out w _ _ w.heap.size op (HR.out.far HW.out HLB.out HL.out 0 (.int .u8 op)) (grown_far HG.out (p := ⟨w.heap.size, 0, none⟩) (Nat.le_refl _) (.int .u8 op)) (Nat.le_refl _) HL.out HLB.out HW.out HLR.out (blk_put HF.out 0 (.int .u8 op) rfl) h1) (fun e k w' he hr hg => by subst he; exact ⟨rfl, rfl, hr, hg⟩) ?_; rintro pp i4 v w4 hq ⟨rfl, v6, hrow, hR⟩ hr hg; obtain ⟨A6, c6, rfl⟩ := Kd.R_slice hR; have HMM := Aside0.mk hR; have HF := Aside0.mk hrow; have HR := Aside0.mk hr; have HG := Aside0.mk hg; have HO := Aside0.mk hq; clear hq hrow hR hr hg)
    | (go_at_call 42; refine step_ x HO.out (fun o1 h1 => must_ x _ _ HR.out sSemi h1) (fun e k w' he hr hg => by subst he; exact ⟨rfl, rfl, hr, HG.out.trans hg⟩) ?_; rintro ua i5 uv w5 hq rfl hr hg; injection hq with hq; subst hq; have HG5 := Aside0.mk hg; have HR := Aside0.mk hr; have HG := Aside0.mk (HG.out.trans hg); have hf := own_grown HF.out hg HL.out; have HF := Aside0.mk hf; have a0 := blk_cell hf 0; have a1 := blk_cell hf 1; have a2 := blk_cell hf 2; have a3 := blk_cell hf 3; have a4 := blk_cell hf 4; have a5 := blk_cell hf 5; have a6 := blk_cell hf 6; have a7 := blk_cell hf 7; have a8 := blk_cell hf 8; have a9 := blk_cell hf 9; have a10 := blk_cell hf 10; have a11 := blk_cell hf 11; have a12 := blk_cell hf 12; clear hf hr hg)
    | ((with_reducible refine gate_store (t:=52) (p:=2) rfl ?_);refine store_row rfl rfl rfl w.heap.size _ rfl rfl HF.out (by kernel_rfl) rfl (by kernel_rfl) ?_;intro w6 hf6 hg6;have HF6:=Aside0.mk hf6;have HG6:=Aside0.mk hg6;clear hf6 hg6))
  all_goals refine bodyPost_ret (results_cell_row rfl _ _ w.heap.size 52 _ (0,0) _ rfl HF6.out Tryz.underlying52 rfl (by kernel_rfl)) rfl ?_
  · exact ⟨_,rfl,⟨_,rfl,k52_mkM _ _ _ ⟨op,0,z50,false,z40⟩ (Kd.R_nil _ _ _ _ _)⟩,HR.out.other HG6.out HL.out HLB.out HW.out,grown_other HG.out HG6.out (Nat.le_refl _)⟩
  · exact ⟨_,rfl,⟨_,rfl,k52_mkM _ _ _ ⟨op,pp.1,pp.2,false,z40⟩ (Kd.R_lower (R_keep (R_keep HMM.out HG5.out (Nat.lt_succ_of_lt HLR.out)) HG6.out (Nat.lt_succ_self _)) (Nat.le_succ _))⟩,HR.out.other HG6.out HL.out HLB.out HW.out,grown_other HG.out HG6.out (Nat.le_refl _)⟩
  · exact ⟨_,rfl,⟨_,rfl,k52_mkM _ _ _ ⟨op,0,z50,pp.1,pp.2⟩ (Kd.R_nil _ _ _ _ _)⟩,HR.out.other HG6.out HL.out HLB.out HW.out,grown_other HG.out HG6.out (Nat.le_refl _)⟩
  · exact ⟨_,rfl,⟨_,rfl,k52_mkM _ _ _ ⟨op,0,pp.1,pp.2.1,pp.2.2⟩ (Kd.R_lower (R_keep (R_keep HMM.out HG5.out (Nat.lt_succ_of_lt HLR.out)) HG6.out (Nat.lt_succ_self _)) (Nat.le_succ _))⟩,HR.out.other HG6.out HL.out HLB.out HW.out,grown_other HG.out HG6.out (Nat.le_refl _)⟩
end Go.Proofs.YtmgdkkkkanjadaaGreatDoor.HandF
