/-
  The plain law: whole texts; the two Pools and Exprs answer the same. Conditions: what the listed package variables hold.
-/
import Derived.Test.YtmgdkkkkanjadaaGreatDoorRefI
import Derived.Test.YtmgdkkkkanjadaaGreatDoorLocalS
import Derived.Test.YtmgdkkkkanjadaaGreatDoorEval
import Derived.Test.YtmgdkkkkanjadaaGreatDoorHandZ
import Derived.Test.YtmgdkkkkanjadaaGreatDoorRefJ
import Derived.Test.YtmgdkkkkanjadaaGreatDoorRefU
import Derived.Test.YtmgdkkkkanjadaaGreatDoorRefLoopS
/-
  The plain law, its base: parse's reader and the document's reader, step by step. Conditions: good tokens.
-/
namespace Go.Proofs.YtmgdkkkkanjadaaGreatDoor.SimA
set_option linter.unusedVariables false
set_option linter.unusedSimpArgs false
open Go.RowKit Go.Shelf Go.Lib Go.Proofs.YtmgdkkkkanjadaaGreatDoorW.PrintWords Go.Proofs.YtmgdkkkkanjadaaGreatDoor.X Go.Proofs.YtmgdkkkkanjadaaGreatDoor.HandS Go.Proofs.YtmgdkkkkanjadaaGreatDoor.HandA Go.Proofs.YtmgdkkkkanjadaaGreatDoor.HandC Go.Proofs.YtmgdkkkkanjadaaGreatDoor.HandD Go.Proofs.YtmgdkkkkanjadaaGreatDoor.HandE Go.Proofs.YtmgdkkkkanjadaaGreatDoor.HandF Go.Proofs.YtmgdkkkkanjadaaGreatDoor.HandG Go.Proofs.YtmgdkkkkanjadaaGreatDoor.HandH Go.Proofs.YtmgdkkkkanjadaaGreatDoor.HandI Go.Proofs.YtmgdkkkkanjadaaGreatDoor.HandJ Go.Proofs.YtmgdkkkkanjadaaGreatDoor.RefA
structure GoodT (T : List S69) : Prop where
  more : ∀ j,j < T.length → (tkAt T j).f0 ≠ 0 → j + 1 < T.length
  txt : ∀ j,(tkAt T j).f0 = 0 → (tkAt T j).f1 = ⟨#[]⟩
  dig : ∀ j,(tkAt T j).f0 = 2 → (tkAt T j).f1.data.toList ≠ [] ∧ (∀ b ∈ (tkAt T j).f1.data.toList,PureS.isD b = true) ∧ PureS.great (tkAt T j).f1.data.toList = false
  sz : ∀ j,(tkAt T j).f1.size ≤ 1000000
abbrev Dn (T : List S69) (i : Nat) (e : Int) : St:=.bad e (tkAt T i).f2.f0 (tkAt T i).f2.f1
/-- one reading: both come to the same, or both to the same fault -/
def Ok1 {α β : Type} (T : List S69) (f : α → β) (o : Option (Out α)) (q : β × St) : Prop :=
  (∃ a i,o = some (.ok a i) ∧ i < T.length ∧ q = (f a,.ok i)) ∨ (∃ e i b,o = some (.bad e i) ∧ i < T.length ∧ e ≠ 0 ∧ q = (b,Dn T i e))
def Keep {β : Type} (Q : St → β × St) : Prop:=∀ k l c,∃ b,Q (.bad k l c) = (b,.bad k l c)
structure Sim {α β : Type} (T : List S69) (f : α → β) (S : Nat → Option (Out α)) (Q : St → β × St) : Prop where
  ok : ∀ j,j < T.length → Ok1 T f (S j) (Q (.ok j))
  bad : Keep Q
section
variable {α β γ δ : Type} {T : List S69} {f : α → β} {g : γ → δ}
theorem ok1_bind {o : Option (Out α)} {q : β × St} {S2 : α → Nat → Option (Out γ)} {Q2 : β → St → δ × St} (h : Ok1 T f o q) (h2 : ∀ a j,j < T.length → Ok1 T g (S2 a j) (Q2 (f a) (.ok j))) (hk : ∀ b,Keep (Q2 b)) : Ok1 T g (obind o S2) (Q2 q.1 q.2):=by
  rcases h with ⟨a,i,rfl,hi,rfl⟩ | ⟨e,i,b,rfl,hi,he,rfl⟩
  · exact h2 a i hi
  · obtain ⟨d,hd⟩:=hk b e (tkAt T i).f2.f0 (tkAt T i).f2.f1
    exact .inr ⟨e,i,d,rfl,hi,he,hd⟩
theorem Keep.comp {Q1 : St → β × St} {Q2 : β → St → δ × St} (h1 : Keep Q1) (hk : ∀ b,Keep (Q2 b)) : Keep (fun st=>Q2 (Q1 st).1 (Q1 st).2):=fun k l c=>by
  obtain ⟨b,hb⟩:=h1 k l c
  obtain ⟨d,hd⟩:=hk b k l c
  exact ⟨d,by show Q2 (Q1 _).1 (Q1 _).2 = _;rw [hb];exact hd⟩
theorem Keep.pure (b : β) : Keep (fun st=>(b,st)):=fun k l c=>⟨b,rfl⟩
theorem Sim.bind {S1 : Nat → Option (Out α)} {Q1 : St → β × St} {S2 : α → Nat → Option (Out γ)} {Q2 : β → St → δ × St} (h1 : Sim T f S1 Q1) (h2 : ∀ a,Sim T g (S2 a) (Q2 (f a))) (hk : ∀ b,Keep (Q2 b)) : Sim T g (fun j=>obind (S1 j) S2) (fun st=>Q2 (Q1 st).1 (Q1 st).2) :=
  ⟨fun j hj=>ok1_bind (h1.ok j hj) (fun a j hj=>(h2 a).ok j hj) hk,Keep.comp h1.bad hk⟩
theorem Sim.pure (a : α) : Sim T f (fun j=>some (.ok a j)) (fun st=>(f a,st)):=⟨fun j hj=>.inl ⟨a,j,rfl,hj,rfl⟩,Keep.pure _⟩
theorem Sim.ite {c : Nat → Prop} {d : St → Prop} [∀ j, Decidable (c j)] [∀ s, Decidable (d s)] (hc : ∀ j, d (.ok j) ↔ c j) {S S' : Nat → Option (Out α)} {Q Q' : St → β × St} (h : Sim T f S Q) (h' : Sim T f S' Q') : Sim T f (fun j => if c j then S j else S' j) (fun st => if d st then Q st else Q' st) := by
  refine ⟨fun j hj => ?_, fun k l c' => ?_⟩
  · show Ok1 T f (if c j then S j else S' j) (if d (.ok j) then Q (.ok j) else Q' (.ok j))
    by_cases q : c j
    · rw [if_pos q,if_pos ((hc j).2 q)];exact h.ok j hj
    · rw [if_neg q,if_neg (fun x=>q ((hc j).1 x))];exact h'.ok j hj
  · show ∃ b, (if d (.bad k l c') then Q (.bad k l c') else Q' (.bad k l c')) = _
    by_cases q : d (.bad k l c')
    · rw [if_pos q];exact h.bad k l c'
    · rw [if_neg q];exact h'.bad k l c'
end
variable {T : List S69}
theorem isS_kind {s : ByteArray} {j : Nat} (h : isS T s j = true) : (tkAt T j).f0 ≠ 0 ∧ (tkAt T j).f0 ≠ 2 ∧ (tkAt T j).f1 = s:=by
  unfold isS at h
  rw [Bool.and_eq_true,Bool.and_eq_true] at h
  obtain ⟨h1,h2,h3⟩:=h
  refine ⟨fun e=>(by rw [e] at h2;cases h2),fun e=>(by rw [e] at h1;cases h1),?_⟩
  have h4:=eq_of_beq h3
  generalize (tkAt T j).f1 = a at *
  obtain ⟨⟨a⟩⟩:=a
  obtain ⟨⟨b⟩⟩:=s
  simp only at h4
  subst h4
  rfl
theorem isS_of {s : ByteArray} {j : Nat} (h0 : (tkAt T j).f0 ≠ 0) (h2 : (tkAt T j).f0 ≠ 2) (h1 : (tkAt T j).f1 = s) : isS T s j = true:=by
  unfold isS
  rw [h1,beq_eq_false_iff_ne.2 h0,beq_eq_false_iff_ne.2 h2,beq_self_eq_true]
  rfl
theorem skip_ok (g : GoodT T) {j : Nat} (hj : j < T.length) (hk : (tkAt T j).f0 ≠ 0) : skipS T j = some (.ok (tkAt T j).f1 (j + 1)) ∧ j + 1 < T.length:=by
  have h:=g.more j hj hk
  exact ⟨by unfold skipS;rw [if_pos h],h⟩
theorem simMay (g : GoodT T) (s : ByteArray) : Sim T id (mayS T s) (mayQ T s):=by
  refine ⟨fun j hj=>?_,fun k l c=>⟨false,rfl⟩⟩
  show Ok1 T id (if isS T s j = true then obind (skipS T j) (fun _ k=>some (.ok true k)) else some (.ok false j)) (if isS T s j = true then (true,St.ok (j + 1)) else (false,.ok j))
  by_cases h : isS T s j = true
  · obtain ⟨h1,h2⟩:=skip_ok g hj (isS_kind h).1
    rw [if_pos h,if_pos h,h1]
    exact .inl ⟨true,j + 1,rfl,h2,rfl⟩
  · rw [if_neg h,if_neg h]
    exact .inl ⟨false,j,rfl,hj,rfl⟩
theorem simTake (g : GoodT T) (s : ByteArray) : Sim T (fun _=>()) (mustS T s) (fun st=>((),takeQ T s st)):=by
  refine ⟨fun j hj=>?_,fun k l c=>⟨(),rfl⟩⟩
  show Ok1 T _ (obind (if isS T s j = true then obind (skipS T j) (fun _ k=>some (.ok true k)) else some (.ok false j)) _) ((),if isS T s j = true then St.ok (j + 1) else Dn T j 5)
  by_cases h : isS T s j = true
  · obtain ⟨h1,h2⟩:=skip_ok g hj (isS_kind h).1
    rw [if_pos h,if_pos h,h1]
    exact .inl ⟨(),j + 1,rfl,h2,rfl⟩
  · rw [if_neg h,if_neg h]
    exact .inr ⟨5,j,(),rfl,hj,by decide,rfl⟩
theorem oneF_ok (j : Nat) : ∀ (ws : List ByteArray) (i : Nat),oneF T (.ok j) ws i = if amongF T j ws i < 0 then (0,Dn T j 5) else (amongF T j ws i,.ok (j + 1))
  | [],i=>rfl
  | s :: r,i=>by
    rw [oneF,amongF]
    show (if isS T s j = true then _ else _) = _
    by_cases h : isS T s j = true
    · rw [if_pos h,if_pos h,if_neg (by omega)]
      rfl
    · rw [if_neg h,if_neg h]
      exact oneF_ok j r (i + 1)
theorem among_kind (j : Nat) : ∀ (ws : List ByteArray) (i : Nat),¬ amongF T j ws i < 0 → (tkAt T j).f0 ≠ 0 ∧ (tkAt T j).f0 ≠ 2
  | [],i,h=>absurd (show (-1 : Int) < 0 by decide) h
  | s :: r,i,h=>by
    rw [amongF] at h
    by_cases hs : isS T s j = true
    · exact ⟨(isS_kind hs).1,(isS_kind hs).2.1⟩
    · rw [if_neg hs] at h
      exact among_kind j r (i + 1) h
theorem any_among (j : Nat) : ∀ (ws : List ByteArray) (i : Nat),anyF T (.ok j) ws = decide (0 ≤ amongF T j ws i)
  | [],i=>rfl
  | s :: r,i=>by
    rw [anyF,amongF]
    show (if isS T s j = true then _ else _) = _
    by_cases h : isS T s j = true
    · rw [if_pos h,if_pos h]
      exact (decide_eq_true (Int.natCast_nonneg i)).symm
    · rw [if_neg h,if_neg h]
      exact any_among j r (i + 1)
theorem any_bad (ws : List ByteArray) (k l c : Int) : anyF T (.bad k l c) ws = false:=by
  induction ws with
  | nil=>rfl
  | cons s r ih =>
    rw [anyF]
    show (if false = true then _ else _) = _
    rw [if_neg Bool.false_ne_true]
    exact ih
theorem one_bad (ws : List ByteArray) (i : Nat) (k l c : Int) : oneF T (.bad k l c) ws i = (0,.bad k l c):=by
  induction ws generalizing i with
  | nil=>rfl
  | cons s r ih =>
    rw [oneF]
    show (if false = true then _ else _) = _
    rw [if_neg Bool.false_ne_true]
    exact ih (i + 1)
theorem simOne (g : GoodT T) (ws : List ByteArray) : Sim T id (oneS T ws) (oneQ T ws):=by
  refine ⟨fun j hj=>?_,fun k l c=>⟨0,one_bad ws 0 k l c⟩⟩
  unfold oneQ oneS
  rw [oneF_ok]
  unfold amongS
  by_cases h : amongF T j ws 0 < 0
  · rw [if_pos h,if_pos h]
    exact .inr ⟨5,j,0,rfl,hj,by decide,rfl⟩
  · obtain ⟨h1,h2⟩:=skip_ok g hj (among_kind j ws 0 h).1
    rw [if_neg h,if_neg h,h1]
    exact .inl ⟨_,j + 1,rfl,h2,rfl⟩
theorem of_ok (g : GoodT T) (k : Int) (hk : k ≠ 0) {j : Nat} (hj : j < T.length) : ((tkAt T j).f0 = k ∧ ofS T k j = some (.ok (tkAt T j).f1 (j + 1)) ∧ j + 1 < T.length) ∨ ((tkAt T j).f0 ≠ k ∧ ofS T k j = some (.bad 5 j)):=by
  unfold ofS
  by_cases h : (tkAt T j).f0 = k
  · obtain ⟨h1,h2⟩:=skip_ok g hj (by rw [h];exact hk)
    exact .inl ⟨h,by rw [if_pos h,h1],h2⟩
  · exact .inr ⟨h,if_neg h⟩
theorem simName (g : GoodT T) : Sim T id (ofS T 1) (nameQ T):=by
  refine ⟨fun j hj=>?_,fun k l c=>⟨⟨#[]⟩,rfl⟩⟩
  show Ok1 T id (ofS T 1 j) (if (tkAt T j).f0 = 1 then ((tkAt T j).f1,St.ok (j + 1)) else (⟨#[]⟩,Dn T j 5))
  rcases of_ok g 1 (by decide) hj with ⟨h,e,hl⟩ | ⟨h,e⟩
  · rw [if_pos h,e];exact .inl ⟨_,j + 1,rfl,hl,rfl⟩
  · rw [if_neg h,e];exact .inr ⟨5,j,_,rfl,hj,by decide,rfl⟩
theorem numL_val : ∀ (l : List UInt8) (a : Nat),(∀ b ∈ l,PureS.isD b = true) → PureS.val a l ≤ 99999 → numL l (a : Int) = (PureS.val a l : Int)
  | [],a,_,_=>rfl
  | b :: r,a,h,hv=>by
    have hb : 48 ≤ b.toNat ∧ b.toNat ≤ 57:=of_decide_eq_true (h b (List.mem_cons_self ..))
    rw [PureS.val_cons] at hv ⊢
    have h1:=PureS.val_ge r (a * 10 + (b.toNat - 48))
    have e : wrap64 (wrap64 (10 * (a : Int)) + ((b.toNat : Int) - 48) % 256) = ((a * 10 + (b.toNat - 48) : Nat) : Int):=by
      unfold wrap64
      omega
    rw [numL,e]
    exact numL_val r _ (fun x hx=>h x (List.mem_cons_of_mem _ hx)) hv
theorem simNum (g : GoodT T) : Sim T id (numS T) (numQ T):=by
  refine ⟨fun j hj=>?_,fun k l c=>⟨0,rfl⟩⟩
  show Ok1 T id (obind (ofS T 2 j) (fun s k=>(strconv_Atoi.f s).bind fun v=>some (.ok v.1 k))) (if (tkAt T j).f0 = 2 then (numL (tkAt T j).f1.data.toList 0,St.ok (j + 1)) else (0,Dn T j 5))
  rcases of_ok g 2 (by decide) hj with ⟨h,e,hl⟩ | ⟨h,e⟩
  · obtain ⟨d1,d2,d3⟩:=g.dig j h
    have hv : PureS.val 0 (tkAt T j).f1.data.toList ≤ 99999:=by
      unfold PureS.great at d3
      exact Nat.le_of_not_lt (of_decide_eq_false d3)
    have hn:=numL_val _ 0 d2 hv
    rw [if_pos h,e]
    refine .inl ⟨(PureS.val 0 (tkAt T j).f1.data.toList : Int),j + 1,?_,hl,?_⟩
    · show (strconv_Atoi.f (tkAt T j).f1).bind _ = _
      unfold strconv_Atoi.f
      have:=g.sz j
      rw [if_pos (by omega)]
      rcases PureS.atoi_digits _ d1 d2 with ⟨v,hv2,rfl⟩ | ⟨_,h4⟩
      · rw [hv2];rfl
      · rw [d3] at h4;cases h4
    · exact congrArg (fun n=>(n,St.ok (j + 1))) hn
  · rw [if_neg h,e]
    exact .inr ⟨5,j,0,rfl,hj,by decide,rfl⟩
/-! ### Sel -/
theorem among_shift (j : Nat) : ∀ (ws : List ByteArray) (i : Nat),amongF T j ws (i + 1) = if amongF T j ws i < 0 then -1 else amongF T j ws i + 1
  | [],i=>rfl
  | s :: r,i=>by
    rw [amongF,amongF]
    by_cases h : isS T s j = true
    · rw [if_pos h,if_pos h,if_neg (by omega)]
      omega
    · rw [if_neg h,if_neg h]
      exact among_shift j r (i + 1)
theorem among_le (j : Nat) : ∀ (ws : List ByteArray) (i : Nat),amongF T j ws i < ((i + ws.length : Nat) : Int) ∨ amongF T j ws i < 0
  | [],i=>.inr (show (-1 : Int) < 0 by decide)
  | s :: r,i=>by
    rw [amongF]
    by_cases h : isS T s j = true
    · rw [if_pos h,List.length_cons];left;omega
    · rw [if_neg h,List.length_cons]
      rcases among_le j r (i + 1) with a | a
      · left;omega
      · exact .inr a
def ksQ (T : List S69) (st : St) : Int × St:=if (mayQ T sAll st).1 = true then (0,(mayQ T sAll st).2) else (((oneQ T wKinds (mayQ T sAll st).2).1 + 1) % 256,(oneQ T wKinds (mayQ T sAll st).2).2)
theorem simKs (g : GoodT T) : Sim T id (oneS T wSel) (ksQ T):=by
  refine ⟨fun j hj=>?_,fun k l c=>⟨(0 + 1) % 256,by unfold ksQ;show (if false = true then _ else _) = _;rw [if_neg Bool.false_ne_true];show ((_ + 1) % 256,(oneF T (.bad k l c) wKinds 0).2) = _;unfold oneQ;show (((oneF T (.bad k l c) wKinds 0).1 + 1) % 256,(oneF T (.bad k l c) wKinds 0).2) = _;rw [one_bad]⟩⟩
  unfold ksQ
  have hm : mayQ T sAll (.ok j) = if isS T sAll j = true then (true,.ok (j + 1)) else (false,.ok j):=rfl
  rw [hm]
  have hw : amongF T j wSel 0 = if isS T sAll j = true then 0 else amongF T j wKinds 1:=by
    unfold wSel
    rw [amongF]
    rfl
  unfold oneS amongS
  rw [hw]
  by_cases h : isS T sAll j = true
  · obtain ⟨h1,h2⟩:=skip_ok g hj (isS_kind h).1
    rw [if_pos h,if_pos h,if_neg (by decide),h1,if_pos rfl]
    exact .inl ⟨0,j + 1,rfl,h2,rfl⟩
  · rw [if_neg h,if_neg h,if_neg Bool.false_ne_true]
    unfold oneQ
    rw [oneF_ok,among_shift]
    by_cases ha : amongF T j wKinds 0 < 0
    · rw [if_pos ha,if_pos (by decide),if_pos ha]
      exact .inr ⟨5,j,_,rfl,hj,by decide,rfl⟩
    · obtain ⟨h1,h2⟩:=skip_ok g hj (among_kind j wKinds 0 ha).1
      have hl:=(among_le (T:=T) j wKinds 0).resolve_right ha
      have hl2 : amongF T j wKinds 0 < 5:=hl
      simp only [if_neg ha]
      rw [if_neg (by omega),h1]
      refine .inl ⟨_,j + 1,rfl,h2,?_⟩
      show ((amongF T j wKinds 0 + 1) % 256,St.ok (j + 1)) = (amongF T j wKinds 0 + 1,.ok (j + 1))
      rw [show (amongF T j wKinds 0 + 1) % 256 = amongF T j wKinds 0 + 1 by omega]
def toSel (s : Int × Int × Int) : S40:=⟨s.1,s.2.1,s.2.2⟩
theorem selQ_eq (st : St) : selQ T st = (fun a st=>(fun b st=>(fun c st=>((⟨a,b,c⟩ : S40),st)) (ksQ T st).1 (ksQ T st).2) (oneQ T wZones st).1 (oneQ T wZones st).2) (oneQ T wSides st).1 (oneQ T wSides st).2:=by
  unfold selQ
  simp only
  unfold ksQ
  by_cases h : (mayQ T sAll (oneQ T wZones (oneQ T wSides st).2).2).1 = true
  · rw [if_pos h,if_pos h]
  · rw [if_neg h,if_neg h]
theorem simSel (g : GoodT T) : Sim T toSel (selS T) (selQ T):=by
  have e : selQ T = fun st=>(fun a st=>(fun b st=>(fun c st=>((⟨a,b,c⟩ : S40),st)) (ksQ T st).1 (ksQ T st).2) (oneQ T wZones st).1 (oneQ T wZones st).2) (oneQ T wSides st).1 (oneQ T wSides st).2:=funext selQ_eq
  rw [e]
  have k1 : ∀ (a b : Int),Keep (fun st=>(fun c st=>((⟨a,b,c⟩ : S40),st)) (ksQ T st).1 (ksQ T st).2):=fun a b=>Keep.comp (simKs g).bad (fun c=>Keep.pure _)
  exact (simOne g wSides).bind (fun a=>(simOne g wZones).bind (fun b=>(simKs g).bind (fun c=>Sim.pure (f:=toSel) (a,b,c)) (fun c=>Keep.pure _)) (fun b=>k1 a b)) (fun a=>Keep.comp (simOne g wZones).bad (fun b=>k1 a b))
/-! ### expressions -/
def sgnQ (T : List S69) (rec : St → S50 × St) (s : Int) (st : St) : S50 × St :=
  if (4 + s) % 256 = 11 then (⟨11,0,0,z40,[(rec st).1]⟩,takeQ T sShut (rec st).2) else (⟨(4 + s) % 256,0,0,z40,[(rec st).1,(rec (rec st).2).1]⟩,takeQ T sShut (rec (rec st).2).2)
theorem keepTake (g : GoodT T) {β : Type} (b : β) (s : ByteArray) : Keep (fun st=>(b,takeQ T s st)):=fun k l c=>⟨b,rfl⟩
theorem simSgn (g : GoodT T) {S : Nat → Option (Out S50)} {Q : St → S50 × St} (h : Sim T id S Q) (s : Int) : Sim T id (partS T S s) (sgnQ T Q s):=by
  have hend : ∀ (o : Int) (xs : List S50),Sim T id (fun j=>obind (mustS T sShut j) fun _ j=>some (.ok (⟨o,0,0,z40,xs⟩ : S50) j)) (fun st=>((⟨o,0,0,z40,xs⟩ : S50),takeQ T sShut st)):=fun o xs =>
    (simTake g sShut).bind (Q2:=fun _ st=>((⟨o,0,0,z40,xs⟩ : S50),st)) (fun _=>Sim.pure _) (fun _=>Keep.pure _)
  by_cases hs : (4 + s) % 256 = 11
  · have e1 : sgnQ T Q s = fun st=>(fun a st=>((⟨11,0,0,z40,[a]⟩ : S50),takeQ T sShut st)) (Q st).1 (Q st).2:=funext fun st=>if_pos hs
    have e2 : partS T S s = fun j=>obind (S j) fun a j=>obind (mustS T sShut j) fun _ j=>some (.ok (⟨11,0,0,z40,[a]⟩ : S50) j):=funext fun j=>by
      unfold partS
      rw [hs,argsS]
      cases S j with
      | none=>rfl
      | some o=>cases o with
        | bad e i=>rfl
        | ok a i=>rfl
    rw [e1,e2]
    exact h.bind (S2:=fun a j=>obind (mustS T sShut j) fun _ j=>some (.ok (⟨11,0,0,z40,[a]⟩ : S50) j)) (Q2:=fun a st=>((⟨11,0,0,z40,[a]⟩ : S50),takeQ T sShut st)) (fun a=>hend 11 [a]) (fun a=>keepTake g _ _)
  · have e1 : sgnQ T Q s = fun st=>(fun a st=>(fun b st=>((⟨(4 + s) % 256,0,0,z40,[a,b]⟩ : S50),takeQ T sShut st)) (Q st).1 (Q st).2) (Q st).1 (Q st).2:=funext fun st=>if_neg hs
    have e2 : partS T S s = fun j=>obind (S j) fun a j=>obind (S j) fun b j=>obind (mustS T sShut j) fun _ j=>some (.ok (⟨(4 + s) % 256,0,0,z40,[a,b]⟩ : S50) j):=funext fun j=>by
      unfold partS
      rw [argsS]
      cases S j with
      | none=>rfl
      | some o=>cases o with
        | bad e i=>rfl
        | ok a i =>
          show obind (if (4 + s) % 256 = 11 then _ else _) _ = _
          rw [if_neg hs,argsS]
          show _ = obind (S i) _
          cases S i with
          | none=>rfl
          | some o=>cases o with
            | bad e i=>rfl
            | ok b i =>
              show obind (if (4 + s) % 256 = 11 then _ else _) _ = _
              rw [if_neg hs]
              rfl
    rw [e1,e2]
    exact h.bind (S2:=fun a j=>obind (S j) fun b j=>obind (mustS T sShut j) fun _ j=>some (.ok (⟨(4 + s) % 256,0,0,z40,[a,b]⟩ : S50) j)) (Q2:=fun a st=>(fun b st=>((⟨(4 + s) % 256,0,0,z40,[a,b]⟩ : S50),takeQ T sShut st)) (Q st).1 (Q st).2)
      (fun a=>h.bind (S2:=fun b j=>obind (mustS T sShut j) fun _ j=>some (.ok (⟨(4 + s) % 256,0,0,z40,[a,b]⟩ : S50) j)) (Q2:=fun b st=>((⟨(4 + s) % 256,0,0,z40,[a,b]⟩ : S50),takeQ T sShut st)) (fun b=>hend _ [a,b]) (fun b=>keepTake g _ _))
      (fun a=>Keep.comp (Q2:=fun b st=>((⟨(4 + s) % 256,0,0,z40,[a,b]⟩ : S50),takeQ T sShut st)) h.bad (fun b=>keepTake g _ _))
theorem simOpn (g : GoodT T) (l : Nat) {more : Int → Nat → Option (Out S50)} {mq : Int → St → S50 × St} (h : 2 ≤ l → ∀ s,Sim T id (more s) (mq s)) (hb : 2 ≤ l → ∀ s,Keep (mq s)) :
    Sim T id (openS T l more) (opnX T l (fun st=>mq (oneQ T wSigns (takeQ T sOpen st)).1 (oneQ T wSigns (takeQ T sOpen st)).2)):=by
  refine ⟨fun j hj=>?_,fun k l2 c=>⟨z50,rfl⟩⟩
  unfold openS opnX
  show Ok1 T id _ (if isS T sOpen j = true then _ else _)
  by_cases ho : isS T sOpen j = true
  · rw [if_pos ho,ho,Bool.true_and]
    by_cases hl : l < 2
    · rw [if_pos hl,if_pos (decide_eq_true hl)]
      exact .inr ⟨3,j,z50,rfl,hj,by decide,rfl⟩
    · rw [if_neg hl,if_neg (by rw [decide_eq_false hl];decide)]
      have hl2 : 2 ≤ l:=by omega
      exact ok1_bind ((simTake g sOpen).ok j hj) (Q2:=fun _ st=>mq (oneQ T wSigns st).1 (oneQ T wSigns st).2) (fun _ j hj=>ok1_bind ((simOne g wSigns).ok j hj) (fun s j hj=>(h hl2 s).ok j hj) (hb hl2)) (fun _=>Keep.comp (simOne g wSigns).bad (hb hl2))
  · have hf : isS T sOpen j = false:=Bool.eq_false_iff.2 ho
    rw [if_neg ho,hf,Bool.false_and,if_neg Bool.false_ne_true]
    have hm : mustS T sOpen j = some (.bad 5 j):=by
      unfold mustS mayS
      rw [hf,if_neg Bool.false_ne_true]
      rfl
    rw [hm]
    exact .inr ⟨5,j,z50,rfl,hj,by decide,rfl⟩
def pw1 (T : List S69) (l : Nat) (more : St → S50 × St) : Bool → St → S50 × St
  | true,st=>(⟨3,0,0,z40,[]⟩,st)
  | false,st=>opnX T l more st
def cn1 (T : List S69) (l : Nat) (more : St → S50 × St) : Bool → St → S50 × St
  | true,st=>(⟨2,0,0,(selQ T st).1,[]⟩,(selQ T st).2)
  | false,st=>pw1 T l more (mayQ T sPower st).1 (mayQ T sPower st).2
def li1 (T : List S69) (l : Nat) (more : St → S50 × St) : Bool → St → S50 × St
  | true,st=>(⟨1,0,(oneQ T wSides st).1,z40,[]⟩,(oneQ T wSides st).2)
  | false,st=>cn1 T l more (mayQ T sCount st).1 (mayQ T sCount st).2
theorem headX_eq (l : Nat) (more : St → S50 × St) : headX T l more = fun st=>if (nextQ T st).f0 = 2 then (⟨0,(numQ T st).1,0,z40,[]⟩,(numQ T st).2) else li1 T l more (mayQ T sLife st).1 (mayQ T sLife st).2:=by
  funext st
  unfold headX
  by_cases h : (nextQ T st).f0 = 2
  · rw [if_pos h,if_pos h]
  · rw [if_neg h,if_neg h]
    unfold lifX cntX powX
    obtain ⟨b,st1⟩:=mayQ T sLife st
    cases b
    · show (if false = true then _ else _) = cn1 T l more (mayQ T sCount st1).1 (mayQ T sCount st1).2
      rw [if_neg Bool.false_ne_true]
      show (if (mayQ T sCount st1).1 = true then _ else _) = _
      obtain ⟨b,st2⟩:=mayQ T sCount st1
      cases b
      · show (if false = true then _ else _) = pw1 T l more (mayQ T sPower st2).1 (mayQ T sPower st2).2
        rw [if_neg Bool.false_ne_true]
        show (if (mayQ T sPower st2).1 = true then _ else _) = _
        obtain ⟨b,st3⟩:=mayQ T sPower st2
        cases b <;> rfl
      · rfl
    · rfl
theorem simHead (g : GoodT T) (l : Nat) {more : Int → Nat → Option (Out S50)} {mq : St → S50 × St} (h : Sim T id (openS T l more) (opnX T l mq)) : Sim T id (headS T l more) (headX T l mq):=by
  rw [headX_eq]
  have k3 : ∀ b : Bool,Keep (pw1 T l mq b):=fun b=>by cases b;exact h.bad;exact Keep.pure _
  have k2 : ∀ b : Bool,Keep (cn1 T l mq b):=fun b=>by
    cases b
    · exact Keep.comp (Q2:=pw1 T l mq) (simMay g sPower).bad k3
    · exact Keep.comp (Q2:=fun s st=>((⟨2,0,0,s,[]⟩ : S50),st)) (simSel g).bad (fun s=>Keep.pure _)
  have k1 : ∀ b : Bool,Keep (li1 T l mq b):=fun b=>by
    cases b
    · exact Keep.comp (Q2:=cn1 T l mq) (simMay g sCount).bad k2
    · exact Keep.comp (Q2:=fun s st=>((⟨1,0,s,z40,[]⟩ : S50),st)) (simOne g wSides).bad (fun s=>Keep.pure _)
  refine Sim.ite (c:=fun j=>(tkAt T j).f0 = 2) (d:=fun st=>(nextQ T st).f0 = 2) (fun j=>Iff.rfl) ?_ ?_
  · exact (simNum g).bind (g:=id) (S2:=fun n j=>some (.ok (⟨0,n,0,z40,[]⟩ : S50) j)) (Q2:=fun n st=>((⟨0,n,0,z40,[]⟩ : S50),st)) (fun n=>Sim.pure _) (fun _=>Keep.pure _)
  refine (simMay g sLife).bind (g:=id) (Q2:=li1 T l mq) (fun b=>?_) k1
  cases b
  · refine (simMay g sCount).bind (g:=id) (Q2:=cn1 T l mq) (fun b=>?_) k2
    cases b
    · refine (simMay g sPower).bind (g:=id) (Q2:=pw1 T l mq) (fun b=>?_) k3
      cases b
      · exact h
      · exact Sim.pure _
    · exact (simSel g).bind (g:=id) (S2:=fun s j=>some (.ok (⟨2,0,0,⟨s.1,s.2.1,s.2.2⟩,[]⟩ : S50) j)) (Q2:=fun s st=>((⟨2,0,0,s,[]⟩ : S50),st)) (fun s=>Sim.pure _) (fun s=>Keep.pure _)
  · exact (simOne g wSides).bind (g:=id) (S2:=fun s j=>some (.ok (⟨1,0,s,z40,[]⟩ : S50) j)) (Q2:=fun s st=>((⟨1,0,s,z40,[]⟩ : S50),st)) (fun s=>Sim.pure _) (fun s=>Keep.pure _)
theorem simExpr (g : GoodT T) : ∀ l,Sim T id (exprS T l) (exprQ T l)
  | 0=>by
    have h:=simOpn g 0 (more:=fun _ _=>none) (mq:=fun _ st=>(z50,st)) (fun h=>absurd h (by decide)) (fun h=>absurd h (by decide))
    exact simHead g 0 h
  | l + 1=>by
    have ih:=simExpr g l
    have h:=simOpn g (l + 1) (more:=fun s j=>partS T (exprS T l) s j) (mq:=sgnQ T (exprQ T l)) (fun _ s=>simSgn g ih s) (fun _ s=>(simSgn g ih s).bad)
    exact simHead g (l + 1) h
end Go.Proofs.YtmgdkkkkanjadaaGreatDoor.SimA
/-
  The plain law: steps, effects, cards, whole texts. Conditions: good tokens.
-/
namespace Go.Proofs.YtmgdkkkkanjadaaGreatDoor.SimA
set_option linter.unusedVariables false
set_option linter.unusedSimpArgs false
open Go.RowKit Go.Shelf Go.Lib Go.Proofs.YtmgdkkkkanjadaaGreatDoorW.PrintWords Go.Proofs.YtmgdkkkkanjadaaGreatDoor.X Go.Proofs.YtmgdkkkkanjadaaGreatDoor.HandS Go.Proofs.YtmgdkkkkanjadaaGreatDoor.HandA Go.Proofs.YtmgdkkkkanjadaaGreatDoor.HandC Go.Proofs.YtmgdkkkkanjadaaGreatDoor.HandD Go.Proofs.YtmgdkkkkanjadaaGreatDoor.HandE Go.Proofs.YtmgdkkkkanjadaaGreatDoor.HandF Go.Proofs.YtmgdkkkkanjadaaGreatDoor.HandG Go.Proofs.YtmgdkkkkanjadaaGreatDoor.HandH Go.Proofs.YtmgdkkkkanjadaaGreatDoor.HandI Go.Proofs.YtmgdkkkkanjadaaGreatDoor.HandJ Go.Proofs.YtmgdkkkkanjadaaGreatDoor.HandM Go.Proofs.YtmgdkkkkanjadaaGreatDoor.HandN Go.Proofs.YtmgdkkkkanjadaaGreatDoor.RefA
variable {T : List S69}
/-! ### steps -/
theorem simAll (g : GoodT T) : Sim T id (allS T) (maybeQ T):=by
  have e : maybeQ T = fun st=>if anyF T st wSides = true then ((true,(selQ T st).1),(selQ T st).2) else ((false,z40),st):=rfl
  rw [e]
  refine Sim.ite (c:=fun j=>0 ≤ amongS T wSides j) (d:=fun st=>anyF T st wSides = true) (fun j=>?_) ?_ (Sim.pure _)
  · rw [any_among j wSides 0]
    exact decide_eq_true_iff
  · exact (simSel g).bind (g:=id) (S2:=fun s j=>some (.ok (true,(⟨s.1,s.2.1,s.2.2⟩ : S40)) j)) (Q2:=fun s st=>((true,s),st)) (fun s=>Sim.pure _) (fun s=>Keep.pure _)
def fin52 (T : List S69) (e : S52) (st : St) : S52 × St:=(e,takeQ T sSemi st)
theorem simFin (g : GoodT T) (e : S52) : Sim T id (fun j=>obind (mustS T sSemi j) fun _ j=>some (.ok e j)) (fin52 T e) :=
  (simTake g sSemi).bind (g:=id) (S2:=fun _ j=>some (.ok e j)) (Q2:=fun _ st=>(e,st)) (fun _=>Sim.pure _) (fun _=>Keep.pure _)
def onQ2 (T : List S69) (op : Int) (st : St) : S52 × St:=((onQ T op st).1,takeQ T sSemi (onQ T op st).2)
theorem sim104 (g : GoodT T) (op : Int) (h : op = 0 ∨ op = 1 ∨ op = 2 ∨ op = 3 ∨ op = 9) : Sim T id (onS T (op,104)) (onQ2 T op):=by
  have e1 : onQ2 T op = fun st=>(fun a st=>(fun e st=>fin52 T ⟨op,a,e,false,z40⟩ st) (exprQ T 6 st).1 (exprQ T 6 st).2) (oneQ T wSides st).1 (oneQ T wSides st).2:=funext fun st=>by
    unfold onQ2 onQ
    rw [if_pos h]
    rfl
  have e2 : onS T (op,104) = fun j=>obind (sideS T j) fun a j=>obind (valueS T j) fun e j=>obind (mustS T sSemi j) fun _ j=>some (.ok (⟨op,a,e,false,z40⟩ : S52) j):=funext fun j=>by
    show obind (dmgS T j) _ = _
    unfold dmgS
    cases sideS T j with
    | none=>rfl
    | some o=>cases o with
      | bad e i=>rfl
      | ok a i =>
        show obind (obind (valueS T i) _) _ = obind (valueS T i) _
        cases valueS T i with
        | none=>rfl
        | some o=>cases o <;> rfl
  rw [e1,e2]
  exact (simOne g wSides).bind (g:=id) (S2:=fun a j=>obind (valueS T j) fun e j=>obind (mustS T sSemi j) fun _ j=>some (.ok (⟨op,a,e,false,z40⟩ : S52) j)) (Q2:=fun a st=>(fun e st=>fin52 T ⟨op,a,e,false,z40⟩ st) (exprQ T 6 st).1 (exprQ T 6 st).2)
    (fun a=>(simExpr g 6).bind (g:=id) (S2:=fun e j=>obind (mustS T sSemi j) fun _ j=>some (.ok (⟨op,a,e,false,z40⟩ : S52) j)) (Q2:=fun e st=>fin52 T ⟨op,a,e,false,z40⟩ st) (fun e=>simFin g _) (fun e=>(simFin g _).bad))
    (fun a=>Keep.comp (Q2:=fun e st=>fin52 T ⟨op,a,e,false,z40⟩ st) (simExpr g 6).bad (fun e=>(simFin g _).bad))
theorem sim105 (g : GoodT T) (op : Int) (h : op = 4 ∨ op = 5 ∨ op = 6 ∨ op = 8) (h0 : ¬ (op = 0 ∨ op = 1 ∨ op = 2 ∨ op = 3 ∨ op = 9)) : Sim T id (onS T (op,105)) (onQ2 T op):=by
  have e1 : onQ2 T op = fun st=>(fun q st=>fin52 T ⟨op,0,z50,q.1,q.2⟩ st) (maybeQ T st).1 (maybeQ T st).2:=funext fun st=>by
    unfold onQ2 onQ
    rw [if_neg h0,if_pos h]
    rfl
  rw [e1]
  exact (simAll g).bind (g:=id) (S2:=fun q j=>obind (mustS T sSemi j) fun _ j=>some (.ok (⟨op,0,z50,q.1,q.2⟩ : S52) j)) (Q2:=fun q st=>fin52 T ⟨op,0,z50,q.1,q.2⟩ st) (fun q=>simFin g _) (fun q=>(simFin g _).bad)
theorem sim106 (g : GoodT T) : Sim T id (onS T (7,106)) (onQ2 T 7):=by
  have e1 : onQ2 T 7 = fun st=>(fun e st=>(fun q st=>fin52 T ⟨7,0,e,q.1,q.2⟩ st) (maybeQ T st).1 (maybeQ T st).2) (exprQ T 6 st).1 (exprQ T 6 st).2:=funext fun st=>by
    unfold onQ2 onQ
    rw [if_neg (by decide),if_neg (by decide),if_pos rfl]
    rfl
  have e2 : onS T (7,106) = fun j=>obind (valueS T j) fun e j=>obind (allS T j) fun q j=>obind (mustS T sSemi j) fun _ j=>some (.ok (⟨7,0,e,q.1,q.2⟩ : S52) j):=funext fun j=>by
    show obind (boostS T j) _ = _
    unfold boostS
    cases valueS T j with
    | none=>rfl
    | some o=>cases o with
      | bad e i=>rfl
      | ok a i =>
        show obind (obind (allS T i) _) _ = obind (allS T i) _
        cases allS T i with
        | none=>rfl
        | some o=>cases o <;> rfl
  rw [e1,e2]
  exact (simExpr g 6).bind (g:=id) (S2:=fun e j=>obind (allS T j) fun q j=>obind (mustS T sSemi j) fun _ j=>some (.ok (⟨7,0,e,q.1,q.2⟩ : S52) j)) (Q2:=fun e st=>(fun q st=>fin52 T ⟨7,0,e,q.1,q.2⟩ st) (maybeQ T st).1 (maybeQ T st).2)
    (fun e=>(simAll g).bind (g:=id) (S2:=fun q j=>obind (mustS T sSemi j) fun _ j=>some (.ok (⟨7,0,e,q.1,q.2⟩ : S52) j)) (Q2:=fun q st=>fin52 T ⟨7,0,e,q.1,q.2⟩ st) (fun q=>simFin g _) (fun q=>(simFin g _).bad))
    (fun e=>Keep.comp (Q2:=fun q st=>fin52 T ⟨7,0,e,q.1,q.2⟩ st) (simAll g).bad (fun q=>(simFin g _).bad))
theorem sim107 (g : GoodT T) : Sim T id (onS T (10,107)) (onQ2 T 10):=simFin g ⟨10,0,z50,false,z40⟩
/-- where a word stands in a list -/
def idx (t : ByteArray) : List ByteArray → Nat → Int
  | [],_=>-1
  | s :: r,i=>if t = s then (i : Int) else idx t r (i + 1)
theorem among_idx {j : Nat} (h0 : (tkAt T j).f0 ≠ 0) (h2 : (tkAt T j).f0 ≠ 2) : ∀ (ws : List ByteArray) (i : Nat),amongF T j ws i = idx (tkAt T j).f1 ws i
  | [],i=>rfl
  | s :: r,i=>by
    rw [amongF,idx]
    by_cases h : (tkAt T j).f1 = s
    · rw [if_pos h,if_pos (isS_of h0 h2 h)]
    · rw [if_neg h,if_neg (fun x=>h (isS_kind x).2.2)]
      exact among_idx h0 h2 r (i + 1)
/-- the steps' words: the map's row and the list's place -/
theorem op_idx (t : ByteArray) : (∃ p,opOf t = some p ∧ idx t wSteps 0 = p.1 ∧ 0 ≤ p.1 ∧ (lookT rowsT t 0).isSome = true ∧ (∀ (T : List S69),GoodT T → Sim T id (onS T p) (onQ2 T p.1))) ∨ (idx t wSteps 0 < 0 ∧ (lookT rowsT t 0).isSome = false):=by
  unfold opOf
  by_cases c : t = sNeg
  · subst c;exact .inl ⟨_,rfl,by decide,by decide,by kernel_rfl,fun T g=>sim107 g⟩
  rw [if_neg c]
  by_cases c1 : t = sDmg
  · subst c1;exact .inl ⟨_,rfl,by decide,by decide,by kernel_rfl,fun T g=>sim104 g 2 (by decide)⟩
  rw [if_neg c1]
  by_cases c2 : t = ⟨#[100,114,97,119]⟩
  · subst c2;exact .inl ⟨_,rfl,by decide,by decide,by kernel_rfl,fun T g=>sim104 g 0 (by decide)⟩
  rw [if_neg c2]
  by_cases c3 : t = ⟨#[109,105,108,108]⟩
  · subst c3;exact .inl ⟨_,rfl,by decide,by decide,by kernel_rfl,fun T g=>sim104 g 1 (by decide)⟩
  rw [if_neg c3]
  by_cases c4 : t = ⟨#[104,101,97,108]⟩
  · subst c4;exact .inl ⟨_,rfl,by decide,by decide,by kernel_rfl,fun T g=>sim104 g 3 (by decide)⟩
  rw [if_neg c4]
  by_cases c5 : t = ⟨#[116,111,107,101,110]⟩
  · subst c5;exact .inl ⟨_,rfl,by decide,by decide,by kernel_rfl,fun T g=>sim104 g 9 (by decide)⟩
  rw [if_neg c5]
  by_cases c6 : t = ⟨#[100,101,115,116,114,111,121]⟩
  · subst c6;exact .inl ⟨_,rfl,by decide,by decide,by kernel_rfl,fun T g=>sim105 g 4 (by decide) (by decide)⟩
  rw [if_neg c6]
  by_cases c7 : t = ⟨#[98,97,110,105,115,104]⟩
  · subst c7;exact .inl ⟨_,rfl,by decide,by decide,by kernel_rfl,fun T g=>sim105 g 5 (by decide) (by decide)⟩
  rw [if_neg c7]
  by_cases c8 : t = ⟨#[98,111,117,110,99,101]⟩
  · subst c8;exact .inl ⟨_,rfl,by decide,by decide,by kernel_rfl,fun T g=>sim105 g 6 (by decide) (by decide)⟩
  rw [if_neg c8]
  by_cases c9 : t = ⟨#[114,101,118,105,118,101]⟩
  · subst c9;exact .inl ⟨_,rfl,by decide,by decide,by kernel_rfl,fun T g=>sim105 g 8 (by decide) (by decide)⟩
  rw [if_neg c9]
  by_cases c10 : t = ⟨#[98,111,111,115,116]⟩
  · subst c10;exact .inl ⟨_,rfl,by decide,by decide,by kernel_rfl,fun T g=>sim106 g⟩
  refine .inr ⟨?_,?_⟩
  · unfold wSteps
    simp only [idx]
    rw [if_neg c2,if_neg c3,if_neg c1,if_neg c4,if_neg c6,if_neg c7,if_neg c8,if_neg c10,if_neg c9,if_neg c5,if_neg c]
    decide
  · unfold rowsT
    simp only [lookT]
    rw [if_neg c2,if_neg c3,if_neg c1,if_neg c4,if_neg c5,if_neg c6,if_neg c7,if_neg c8,if_neg c9,if_neg c10,if_neg c]
    rfl
theorem digits_no (t : ByteArray) (h1 : t.data.toList ≠ []) (h2 : ∀ b ∈ t.data.toList,PureS.isD b = true) : ¬ ∃ s ∈ wSteps,t = s:=by
  rintro ⟨s,hs,rfl⟩
  have h3 : ∀ s ∈ wSteps,∃ b ∈ s.data.toList,PureS.isD b = false:=by decide
  obtain ⟨b,hb,hf⟩:=h3 _ hs
  rw [h2 b hb] at hf
  cases hf
theorem idx_mem (t : ByteArray) : ∀ (ws : List ByteArray) (i : Nat),¬ idx t ws i < 0 → ∃ s ∈ ws,t = s
  | [],i,h=>absurd (show (-1 : Int) < 0 by decide) h
  | s :: r,i,h=>by
    rw [idx] at h
    by_cases e : t = s
    · exact ⟨s,List.mem_cons_self ..,e⟩
    · rw [if_neg e] at h
      obtain ⟨x,hx,hx2⟩:=idx_mem t r (i + 1) h
      exact ⟨x,List.mem_cons_of_mem _ hx,hx2⟩
theorem step_any (g : GoodT T) (j : Nat) : anyF T (.ok j) wSteps = stepIs T j:=by
  rw [any_among j wSteps 0]
  unfold stepIs
  by_cases h0 : (tkAt T j).f0 = 0
  · have ht:=g.txt j h0
    have hn : amongF T j wSteps 0 < 0:=by
      by_cases h : amongF T j wSteps 0 < 0
      · exact h
      · exact absurd h0 (among_kind j wSteps 0 h).1
    rw [ht,decide_eq_false (by omega)]
    exact Eq.symm (by kernel_rfl)
  by_cases h2 : (tkAt T j).f0 = 2
  · obtain ⟨d1,d2,_⟩:=g.dig j h2
    have hn : amongF T j wSteps 0 < 0:=by
      by_cases h : amongF T j wSteps 0 < 0
      · exact h
      · exact absurd h2 (among_kind j wSteps 0 h).2
    rw [decide_eq_false (by omega)]
    rcases op_idx (tkAt T j).f1 with ⟨p,_,hp,h0p,_,_⟩ | ⟨_,hl⟩
    · exact absurd (idx_mem _ _ _ (by rw [hp];omega)) (digits_no _ d1 d2)
    · exact hl.symm
  · rw [among_idx h0 h2]
    rcases op_idx (tkAt T j).f1 with ⟨p,_,hp,h0p,hl,_⟩ | ⟨hp,hl⟩
    · rw [hl,hp]
      exact decide_eq_true h0p
    · rw [hl]
      exact decide_eq_false (by omega)
theorem step_kind (g : GoodT T) {j : Nat} (h : stepIs T j = true) : (tkAt T j).f0 ≠ 0 ∧ (tkAt T j).f0 ≠ 2:=by
  rw [← step_any g j,any_among j wSteps 0] at h
  exact among_kind j wSteps 0 (by have:=of_decide_eq_true h;omega)
theorem simStep (g : GoodT T) {j : Nat} (hj : j < T.length) (h : stepIs T j = true) : Ok1 T id (stepS T j) (stepQ T (.ok j)):=by
  obtain ⟨h0,h2⟩:=step_kind g h
  obtain ⟨h3,h4⟩:=skip_ok g hj h0
  rcases op_idx (tkAt T j).f1 with ⟨p,ho,hp,h0p,_,hs⟩ | ⟨_,hl⟩
  · have e1 : stepS T j = onS T p (j + 1):=by
      unfold stepS
      rw [h3]
      show (match opOf (tkAt T j).f1 with | some p=>onS T p (j + 1) | none=>none) = _
      rw [ho]
    have e2 : stepQ T (.ok j) = onQ2 T p.1 (.ok (j + 1)):=by
      have e3 : oneQ T wSteps (.ok j) = (p.1,.ok (j + 1)):=by
        unfold oneQ
        rw [oneF_ok,among_idx h0 h2,hp,if_neg (by omega)]
      unfold stepQ
      rw [e3]
      rfl
    rw [e1,e2]
    exact (hs T g).ok (j + 1) h4
  · unfold stepIs at h
    rw [hl] at h
    cases h
/-! ### lists -/
theorem simLoop {α : Type} {bgS : Nat → Bool} {bgQ : St → Bool} {S : Nat → Option (Out α)} {Q : St → α × St} (hb : ∀ j,bgQ (.ok j) = bgS j) (hbb : ∀ k l c,bgQ (.bad k l c) = false) (h : ∀ j,j < T.length → bgS j = true → Ok1 T id (S j) (Q (.ok j))) :
    ∀ (m : Nat) (xs : List α),Sim T (fun xs=>(false,xs)) (listF bgS S m xs) (loopQ bgQ Q T m xs)
  | m,xs=>by
    have hk : ∀ (m : Nat) (xs : List α),Keep (loopQ bgQ Q T m xs):=fun m xs k l c=>⟨(false,xs),loopQ_end (hbb k l c)⟩
    refine ⟨?_,hk m xs⟩
    induction m generalizing xs with
    | zero =>
      intro j hj
      rw [listF]
      by_cases q : bgS j = true
      · rw [if_pos q,loopQ_stop ((hb j).trans q)]
        exact .inr ⟨3,j,(true,xs),rfl,hj,by decide,rfl⟩
      · rw [if_neg q,loopQ_end ((hb j).trans (Bool.eq_false_iff.2 q))]
        exact .inl ⟨xs,j,rfl,hj,rfl⟩
    | succ m ih =>
      intro j hj
      rw [listF]
      by_cases q : bgS j = true
      · rw [if_pos q,loopQ,if_pos ((hb j).trans q)]
        exact ok1_bind (h j hj q) (Q2:=fun a st=>loopQ bgQ Q T m (xs ++ [a]) st) (fun a j hj=>ih (xs ++ [a]) j hj) (fun a=>hk m (xs ++ [a]))
      · rw [if_neg q,loopQ_end ((hb j).trans (Bool.eq_false_iff.2 q))]
        exact .inl ⟨xs,j,rfl,hj,rfl⟩
/-! ### effects -/
theorem simNeeds (g : GoodT T) (m : Nat) (xs : List S50) : Sim T (fun xs=>(false,xs)) (listF (fun j=>isS T sNeeds j) (needS T) m xs) (needL T m xs) :=
  simLoop (bgS:=fun j=>isS T sNeeds j) (bgQ:=fun st=>isQ T sNeeds st) (Q:=needQ T) (fun j=>rfl) (fun k l c=>rfl) (fun j hj h=>by
    obtain ⟨h1,h2⟩:=skip_ok g hj (isS_kind h).1
    have e1 : needS T j = valueS T (j + 1):=by unfold needS;rw [h1];rfl
    have e2 : needQ T (.ok j) = exprQ T 6 (.ok (j + 1)):=by
      show exprQ T 6 (if isS T sNeeds j = true then St.ok (j + 1) else _) = _
      rw [if_pos h]
    rw [e1,e2]
    exact (simExpr g 6).ok (j + 1) h2) m xs
theorem simSteps (g : GoodT T) (m : Nat) (xs : List S52) : Sim T (fun xs=>(false,xs)) (listF (stepIs T) (stepS T) m xs) (loopQ (fun st=>anyF T st wSteps) (stepQ T) T m xs) :=
  simLoop (fun j=>step_any g j) (fun k l c=>any_bad wSteps k l c) (fun j hj h=>simStep g hj h) m xs
theorem simS5 (g : GoodT T) (e : S43) : Sim T id (ef5 T e) (qS T e) :=
  (simSteps g 6 []).bind (g:=id) (S2:=fun ss j=>some (.ok (⟨e.f0,e.f1,e.f2,e.f3,e.f4,e.f5,e.f6,e.f7,e.f8,ss⟩ : S43) j)) (Q2:=fun p st=>qS1 e (p,st)) (fun ss=>Sim.pure _) (fun p k l c=>⟨_,rfl⟩)
theorem simS4 (g : GoodT T) (e : S43) : Sim T id (ef4 T e) (qC T e) :=
  (simTake g sColon).bind (g:=id) (S2:=fun _ j=>ef5 T e j) (Q2:=fun _ st=>qS T e st) (fun _=>simS5 g e) (fun _=>(simS5 g e).bad)
theorem keepK3 (g : GoodT T) (e : S43) (n : Int) (s : S40) : Keep (fun st=>qK3 T e n (s,st)):=(simS4 g ⟨e.f0,e.f1,e.f2,e.f3,e.f4,e.f5,e.f6,n,s,e.f9⟩).bad
theorem keepK2 (g : GoodT T) (e : S43) (n : Int) : Keep (fun st=>qK2 T e (n,st)):=Keep.comp (Q2:=fun s st=>qK3 T e n (s,st)) (simSel g).bad (fun s=>keepK3 g e n s)
theorem keepK1 (g : GoodT T) (e : S43) (b : Bool) : Keep (fun st=>qK1 T e (b,st)):=by
  cases b
  · exact (simS4 g e).bad
  · exact Keep.comp (Q2:=fun n st=>qK2 T e (n,st)) (simNum g).bad (fun n=>keepK2 g e n)
theorem simS3 (g : GoodT T) (e : S43) : Sim T id (ef3 T e) (qK T e):=by
  refine (simMay g sPicks).bind (g:=id) (Q2:=fun b st=>qK1 T e (b,st)) (fun b=>?_) (fun b=>keepK1 g e b)
  cases b
  · exact simS4 g e
  · exact (simNum g).bind (g:=id) (S2:=fun n j=>obind (selS T j) fun s j=>ef4 T ⟨e.f0,e.f1,e.f2,e.f3,e.f4,e.f5,e.f6,n,⟨s.1,s.2.1,s.2.2⟩,e.f9⟩ j) (Q2:=fun n st=>qK2 T e (n,st))
      (fun n=>(simSel g).bind (g:=id) (S2:=fun s j=>ef4 T ⟨e.f0,e.f1,e.f2,e.f3,e.f4,e.f5,e.f6,n,⟨s.1,s.2.1,s.2.2⟩,e.f9⟩ j) (Q2:=fun s st=>qK3 T e n (s,st)) (fun s=>simS4 g _) (fun s=>keepK3 g e n s)) (fun n=>keepK2 g e n)
theorem keepT1 (g : GoodT T) (e : S43) (b : Bool) : Keep (fun st=>qT1 T e (b,st)):=(simS3 g ⟨e.f0,e.f1,e.f2,e.f3,e.f4,e.f5,b,e.f7,e.f8,e.f9⟩).bad
theorem simS2 (g : GoodT T) (e : S43) : Sim T id (ef2 T e) (qT T e) :=
  (simMay g sSpends).bind (g:=id) (S2:=fun b j=>ef3 T ⟨e.f0,e.f1,e.f2,e.f3,e.f4,e.f5,b,e.f7,e.f8,e.f9⟩ j) (Q2:=fun b st=>qT1 T e (b,st)) (fun b=>simS3 g _) (fun b=>keepT1 g e b)
theorem keepD1 (g : GoodT T) (e : S43) (b : Bool) : Keep (fun st=>qD1 T e (b,st)):=by
  cases b
  · exact (simS2 g e).bad
  · exact Keep.comp (Q2:=fun n st=>qD2 T e (n,st)) (simNum g).bad (fun n=>(simS2 g ⟨e.f0,e.f1,e.f2,e.f3,e.f4,n,e.f6,e.f7,e.f8,e.f9⟩).bad)
theorem simSD (g : GoodT T) (e : S43) : Sim T id (efD T e) (qD T e):=by
  refine (simMay g sDrops).bind (g:=id) (Q2:=fun b st=>qD1 T e (b,st)) (fun b=>?_) (fun b=>keepD1 g e b)
  cases b
  · exact simS2 g e
  · exact (simNum g).bind (g:=id) (S2:=fun n j=>ef2 T ⟨e.f0,e.f1,e.f2,e.f3,e.f4,n,e.f6,e.f7,e.f8,e.f9⟩ j) (Q2:=fun n st=>qD2 T e (n,st)) (fun n=>simS2 g _) (fun n=>(simS2 g ⟨e.f0,e.f1,e.f2,e.f3,e.f4,n,e.f6,e.f7,e.f8,e.f9⟩).bad)
theorem keepP1 (g : GoodT T) (e : S43) (b : Bool) : Keep (fun st=>qP1 T e (b,st)):=by
  cases b
  · exact (simSD g e).bad
  · exact Keep.comp (Q2:=fun n st=>qP2 T e (n,st)) (simNum g).bad (fun n=>(simSD g ⟨e.f0,e.f1,e.f2,e.f3,n,e.f5,e.f6,e.f7,e.f8,e.f9⟩).bad)
theorem simSP (g : GoodT T) (e : S43) : Sim T id (efP T e) (qP T e):=by
  refine (simMay g sPays).bind (g:=id) (Q2:=fun b st=>qP1 T e (b,st)) (fun b=>?_) (fun b=>keepP1 g e b)
  cases b
  · exact simSD g e
  · exact (simNum g).bind (g:=id) (S2:=fun n j=>efD T ⟨e.f0,e.f1,e.f2,e.f3,n,e.f5,e.f6,e.f7,e.f8,e.f9⟩ j) (Q2:=fun n st=>qP2 T e (n,st)) (fun n=>simSD g _) (fun n=>(simSD g ⟨e.f0,e.f1,e.f2,e.f3,n,e.f5,e.f6,e.f7,e.f8,e.f9⟩).bad)
theorem keepN1 (g : GoodT T) (e : S43) (p : Bool × List S50) : Keep (fun st=>qN1 T e (p,st)):=by
  obtain ⟨b,xs⟩:=p
  cases b
  · exact (simSP g _).bad
  · exact Keep.pure _
theorem simSN (g : GoodT T) (e : S43) : Sim T id (efN T e) (qN T e) :=
  (simNeeds g 6 []).bind (g:=id) (S2:=fun ns j=>efP T ⟨e.f0,e.f1,e.f2,ns,e.f4,e.f5,e.f6,e.f7,e.f8,e.f9⟩ j) (Q2:=fun p st=>qN1 T e (p,st)) (fun ns=>simSP g _) (fun p=>keepN1 g e p)
theorem keepU3 (g : GoodT T) (e : S43) (ev : Int) (s : Int) : Keep (fun st=>qU3 T e ev (s,st)):=(simSN g ⟨e.f0,(ev + 1) % 256,s,e.f3,e.f4,e.f5,e.f6,e.f7,e.f8,e.f9⟩).bad
theorem keepU2 (g : GoodT T) (e : S43) (ev : Int) : Keep (fun st=>qU2 T e (ev,st)):=Keep.comp (Q2:=fun s st=>qU3 T e ev (s,st)) (simOne g wSides).bad (fun s=>keepU3 g e ev s)
theorem keepU1 (g : GoodT T) (e : S43) (b : Bool) : Keep (fun st=>qU1 T e (b,st)):=by
  cases b
  · exact (simSN g e).bad
  · exact Keep.comp (Q2:=fun n st=>qU2 T e (n,st)) (simOne g wEvents).bad (fun n=>keepU2 g e n)
theorem simSU (g : GoodT T) (e : S43) : Sim T id (efU T e) (qU T e):=by
  refine (simMay g sUpon).bind (g:=id) (Q2:=fun b st=>qU1 T e (b,st)) (fun b=>?_) (fun b=>keepU1 g e b)
  cases b
  · exact simSN g e
  · exact (simOne g wEvents).bind (g:=id) (S2:=fun ev j=>obind (sideS T j) fun s j=>efN T ⟨e.f0,(ev + 1) % 256,s,e.f3,e.f4,e.f5,e.f6,e.f7,e.f8,e.f9⟩ j) (Q2:=fun n st=>qU2 T e (n,st))
      (fun ev=>(simOne g wSides).bind (g:=id) (S2:=fun s j=>efN T ⟨e.f0,(ev + 1) % 256,s,e.f3,e.f4,e.f5,e.f6,e.f7,e.f8,e.f9⟩ j) (Q2:=fun s st=>qU3 T e ev (s,st)) (fun s=>simSN g _) (fun s=>keepU3 g e ev s)) (fun ev=>keepU2 g e ev)
theorem simEffect (g : GoodT T) : Sim T id (effectS T) (effectQ T) :=
  (simOne g wModes).bind (g:=id) (S2:=fun m j=>efU T (ef0 m) j) (Q2:=fun m st=>qM T (m,st)) (fun m=>simSU g _) (fun m=>(simSU g (ef0 m)).bad)
/-! ### cards -/
theorem simEffs (g : GoodT T) (m : Nat) (xs : List S43) : Sim T (fun xs=>(false,xs)) (listF (modeIs T) (effectS T) m xs) (effL T m xs) :=
  simLoop (fun j=>any_among j wModes 0) (fun k l c=>any_bad wModes k l c) (fun j hj h=>(simEffect g).ok j hj) m xs
theorem keepL1 (g : GoodT T) (e : S38) (p : Bool × List S43) : Keep (fun st=>cL1 T e (p,st)):=by
  obtain ⟨b,xs⟩:=p
  cases b
  · exact keepTake g _ _
  · exact Keep.pure _
theorem simBody (g : GoodT T) (nm : ByteArray) (k a b c : Int) : Sim T id (bodyS T k nm a b c) (cB T ⟨nm,k,a,b,c,[]⟩) :=
  (simTake g sBegin).bind (g:=id) (S2:=fun _ j=>obind (listF (modeIs T) (effectS T) 4 [] j) fun es j=>obind (mustS T sEnd j) fun _ j=>some (.ok (⟨nm,k,a,b,c,es⟩ : S38) j)) (Q2:=fun _ st=>cL T ⟨nm,k,a,b,c,[]⟩ st)
    (fun _=>(simEffs g 4 []).bind (g:=id) (S2:=fun es j=>obind (mustS T sEnd j) fun _ j=>some (.ok (⟨nm,k,a,b,c,es⟩ : S38) j)) (Q2:=fun p st=>cL1 T ⟨nm,k,a,b,c,[]⟩ (p,st))
      (fun es=>(simTake g sEnd).bind (g:=id) (S2:=fun _ j=>some (.ok (⟨nm,k,a,b,c,es⟩ : S38) j)) (Q2:=fun _ st=>((⟨nm,k,a,b,c,es⟩ : S38),st)) (fun _=>Sim.pure _) (fun _=>Keep.pure _)) (fun p=>keepL1 g _ p))
    (fun _=>Keep.comp (Q2:=fun p st=>cL1 T ⟨nm,k,a,b,c,[]⟩ (p,st)) (simEffs g 4 []).bad (fun p=>keepL1 g _ p))
theorem keepB (g : GoodT T) (e : S38) : Keep (cB T e) :=
  Keep.comp (Q2:=fun _ st=>cL T e st) (simTake g cLeft).bad (fun _=>Keep.comp (Q2:=fun p st=>cL1 T e (p,st)) (simEffs g 4 []).bad (fun p=>keepL1 g _ p))
theorem keepC4 (g : GoodT T) (e : S38) (n : Int) : Keep (fun st=>cU4 T e (n,st)):=keepB g ⟨e.f0,e.f1,e.f2,e.f3,n,e.f5⟩
theorem keepC3 (g : GoodT T) (e : S38) (n : Int) : Keep (fun st=>cU3 T e (n,st)):=Keep.comp (Q2:=fun m st=>cU4 T ⟨e.f0,e.f1,e.f2,n,e.f4,e.f5⟩ (m,st)) (simNum g).bad (fun m=>keepC4 g _ m)
theorem keepC2 (g : GoodT T) (e : S38) (n : Int) : Keep (fun st=>cU2 T e (n,st)):=Keep.comp (Q2:=fun m st=>cU3 T ⟨e.f0,e.f1,n,e.f3,e.f4,e.f5⟩ (m,st)) (simNum g).bad (fun m=>keepC3 g _ m)
theorem simUnit (g : GoodT T) (nm : ByteArray) (k : Int) : Sim T id (fun j=>if k = 0 then obind (numS T j) fun a j=>obind (numS T j) fun b j=>obind (numS T j) fun c j=>bodyS T k nm a b c j else bodyS T k nm 0 0 0 j) (fun st=>cN2 T ⟨⟨#[]⟩,k,0,0,0,[]⟩ (nm,st)):=by
  have e : (fun st=>cN2 T ⟨⟨#[]⟩,k,0,0,0,[]⟩ (nm,st)) = fun st=>if k = 0 then cU2 T ⟨nm,k,0,0,0,[]⟩ (numQ T st) else cB T ⟨nm,k,0,0,0,[]⟩ st:=rfl
  rw [e]
  refine Sim.ite (c:=fun _=>k = 0) (d:=fun _=>k = 0) (fun _=>Iff.rfl) ?_ (simBody g nm k 0 0 0)
  exact (simNum g).bind (g:=id) (S2:=fun a j=>obind (numS T j) fun b j=>obind (numS T j) fun c j=>bodyS T k nm a b c j) (Q2:=fun a st=>cU2 T ⟨nm,k,0,0,0,[]⟩ (a,st))
    (fun a=>(simNum g).bind (g:=id) (S2:=fun b j=>obind (numS T j) fun c j=>bodyS T k nm a b c j) (Q2:=fun b st=>cU3 T ⟨nm,k,a,0,0,[]⟩ (b,st))
      (fun b=>(simNum g).bind (g:=id) (S2:=fun c j=>bodyS T k nm a b c j) (Q2:=fun c st=>cU4 T ⟨nm,k,a,b,0,[]⟩ (c,st)) (fun c=>simBody g nm k a b c) (fun c=>keepC4 g _ c)) (fun b=>keepC3 g _ b)) (fun a=>keepC2 g _ a)
theorem simCard (g : GoodT T) : Sim T id (cardS T) (cardQ T) :=
  (simOne g wKinds).bind (g:=id) (S2:=fun k j=>obind (ofS T 1 j) fun nm j=>if k = 0 then obind (numS T j) fun a j=>obind (numS T j) fun b j=>obind (numS T j) fun c j=>bodyS T k nm a b c j else bodyS T k nm 0 0 0 j) (Q2:=fun k st=>cM T (k,st))
    (fun k=>(simName g).bind (g:=id) (S2:=fun nm j=>if k = 0 then obind (numS T j) fun a j=>obind (numS T j) fun b j=>obind (numS T j) fun c j=>bodyS T k nm a b c j else bodyS T k nm 0 0 0 j) (Q2:=fun nm st=>cN2 T ⟨⟨#[]⟩,k,0,0,0,[]⟩ (nm,st)) (fun nm=>simUnit g nm k) (fun nm=>(simUnit g nm k).bad))
    (fun k=>Keep.comp (Q2:=fun nm st=>cN2 T ⟨⟨#[]⟩,k,0,0,0,[]⟩ (nm,st)) (simName g).bad (fun nm=>(simUnit g nm k).bad))
end Go.Proofs.YtmgdkkkkanjadaaGreatDoor.SimA
namespace Go.Proofs.YtmgdkkkkanjadaaGreatDoor.SimA
set_option linter.unusedVariables false
set_option linter.unusedSimpArgs false
open Go.RowKit Go.Shelf Go.Lib Go.Proofs.YtmgdkkkkanjadaaGreatDoorW.PrintWords Go.Proofs.YtmgdkkkkanjadaaGreatDoorW.PrintLast Go.Proofs.YtmgdkkkkanjadaaGreatDoorW.PrintMore Go.Proofs.YtmgdkkkkanjadaaGreatDoor.X Go.Proofs.YtmgdkkkkanjadaaGreatDoor.HandS Go.Proofs.YtmgdkkkkanjadaaGreatDoor.HandA Go.Proofs.YtmgdkkkkanjadaaGreatDoor.HandC Go.Proofs.YtmgdkkkkanjadaaGreatDoor.HandD Go.Proofs.YtmgdkkkkanjadaaGreatDoor.HandF Go.Proofs.YtmgdkkkkanjadaaGreatDoor.HandG Go.Proofs.YtmgdkkkkanjadaaGreatDoor.HandJ Go.Proofs.YtmgdkkkkanjadaaGreatDoor.HandM Go.Proofs.YtmgdkkkkanjadaaGreatDoor.HandN Go.Proofs.YtmgdkkkkanjadaaGreatDoor.HandO Go.Proofs.YtmgdkkkkanjadaaGreatDoor.HandZ Go.Proofs.YtmgdkkkkanjadaaGreatDoor.RefA
section
variable {T : List S69}
theorem done_bad (T : List S69) (k l c : Int) : doneQ T (.bad k l c) = true:=rfl
theorem done_ok {j : Nat} (h : (tkAt T j).f0 ≠ 0) : doneQ T (.ok j) = false:=beq_eq_false_iff_ne.2 h
theorem done_end {j : Nat} (h : (tkAt T j).f0 = 0) : doneQ T (.ok j) = true:=beq_iff_eq.2 h
theorem list_bad {α : Type} {bg : St → Bool} {most : Nat} {Q : St → α × St} {G : Nat} {xs : List α} {k l c : Int} (h : 1 ≤ G) : listQ T bg most Q G xs (.bad k l c) = some (xs,.bad k l c):=by
  obtain ⟨G,rfl⟩ : ∃ g,G = g + 1:=⟨G - 1,by omega⟩
  rw [listQ,if_pos (done_bad T k l c)]
theorem list_go {α : Type} {bg : St → Bool} {most : Nat} {Q : St → α × St} {G : Nat} {xs : List α} {j : Nat} {a : α} {st : St} (hk : (tkAt T j).f0 ≠ 0) (h : 1 ≤ G) (hq : Q (limQ T bg most xs.length (.ok j)) = (a,st)) : listQ T bg most Q G xs (.ok j) = listQ T bg most Q (G - 1) (xs ++ [a]) st:=by
  obtain ⟨G,rfl⟩ : ∃ g,G = g + 1:=⟨G - 1,by omega⟩
  rw [listQ,if_neg (by rw [done_ok hk];decide),hq]
  rfl
theorem top {α : Type} {bgS : Nat → Bool} {bgQ : St → Bool} {S : Nat → Option (Out α)} {Q : St → α × St} (most : Nat) (hb : ∀ j,bgQ (.ok j) = bgS j) (hS : Sim T id S Q) (hno : ∀ j,j < T.length → bgS j = false → S j = some (.bad 5 j)) (hbk : ∀ j,bgS j = true → (tkAt T j).f0 ≠ 0) :
    ∀ (m : Nat) (xs : List α) (j : Nat),j < T.length → xs.length + m = most → ∃ o r q,listF bgS S m xs j = some o ∧ allO T o = some r ∧ (∀ G,m + 3 ≤ G → listQ T bgQ most Q G xs (.ok j) = some q) ∧ tellQ q = r:=by
  have stop : ∀ (xs : List α) (j : Nat) (m : Nat),j < T.length → bgS j = false → ∃ o r q,some (Out.ok xs j) = some o ∧ allO T o = some r ∧ (∀ G,m + 3 ≤ G → listQ T bgQ most Q G xs (.ok j) = some q) ∧ tellQ q = r:=by
    intro xs j m hj h
    by_cases hk : (tkAt T j).f0 = 0
    · refine ⟨_,_,(xs,.ok j),rfl,if_pos hk,fun G hG=>?_,rfl⟩
      obtain ⟨G,rfl⟩ : ∃ g,G = g + 1:=⟨G - 1,by omega⟩
      rw [listQ,if_pos (done_end hk)]
    · have hl : limQ T bgQ most xs.length (.ok j) = .ok j:=if_neg (fun x=>by rw [hb,h] at x;cases x.2)
      have h1:=hS.ok j hj
      rw [hno j hj h] at h1
      rcases h1 with ⟨a,i,e,_⟩ | ⟨e,i,b,e1,hi,he,hq⟩
      · cases e
      · injection e1 with e1
        injection e1 with e1 e2
        subst e1 e2
        refine ⟨_,_,(xs ++ [b],Dn T j 5),rfl,if_neg hk,fun G hG=>?_,rfl⟩
        rw [list_go hk (by omega) (show Q (limQ T bgQ most xs.length (.ok j)) = (b,Dn T j 5) by rw [hl];exact hq),list_bad (by omega)]
  intro m
  induction m with
  | zero =>
    intro xs j hj hl
    rw [listF]
    cases h : bgS j with
    | false=>rw [if_neg Bool.false_ne_true];exact stop xs j 0 hj h
    | true =>
      rw [if_pos rfl]
      have hk:=hbk j h
      have hlim : limQ T bgQ most xs.length (.ok j) = Dn T j 3:=if_pos ⟨by omega,(hb j).trans h⟩
      obtain ⟨b,hq⟩:=hS.bad 3 (tkAt T j).f2.f0 (tkAt T j).f2.f1
      refine ⟨_,_,(xs ++ [b],Dn T j 3),rfl,rfl,fun G hG=>?_,rfl⟩
      rw [list_go hk (by omega) (show Q (limQ T bgQ most xs.length (.ok j)) = (b,Dn T j 3) by rw [hlim];exact hq),list_bad (by omega)]
  | succ m ih =>
    intro xs j hj hl
    rw [listF]
    cases h : bgS j with
    | false=>rw [if_neg Bool.false_ne_true];exact stop xs j (m + 1) hj h
    | true =>
      rw [if_pos rfl]
      have hk:=hbk j h
      have hlim : limQ T bgQ most xs.length (.ok j) = .ok j:=if_neg (fun x=>by have:=x.1;omega)
      rcases hS.ok j hj with ⟨a,i,e,hi,hq⟩ | ⟨e,i,b,e1,hi,he,hq⟩
      · obtain ⟨o,r,q,h1,h2,h3,h4⟩:=ih (xs ++ [a]) i hi (by rw [List.length_append,List.length_singleton];omega)
        refine ⟨o,r,q,?_,h2,fun G hG=>?_,h4⟩
        · rw [e];exact h1
        · rw [list_go hk (by omega) (show Q (limQ T bgQ most xs.length (.ok j)) = (a,.ok i) by rw [hlim];exact hq)]
          exact h3 (G - 1) (by omega)
      · refine ⟨.bad e i,_,(xs ++ [b],Dn T i e),?_,rfl,fun G hG=>?_,?_⟩
        · rw [e1];rfl
        · rw [list_go hk (by omega) (show Q (limQ T bgQ most xs.length (.ok j)) = (b,Dn T i e) by rw [hlim];exact hq),list_bad (by omega)]
        · exact if_neg he
theorem allF_of {α : Type} {bg : List S69 → Nat → Bool} {rd : List S69 → Nat → Option (Out α)} {most : Nat} {o : Out (List α)} {r : List α × Int × Int × Int} (h : listF (bg T) (rd T) most [] 0 = some o) (h2 : allO T o = some r) : allF bg rd most T = some r:=by
  unfold allF
  rw [h]
  cases o with
  | bad e j=>exact h2
  | ok xs j=>exact h2
theorem cards_same (g : GoodT T) (h0 : 0 < T.length) : ∃ r q,allF cardIs cardS 64 T = some r ∧ listQ T (kindQ T) 64 (cardQ T) 70 [] (.ok 0) = some q ∧ tellQ q = r:=by
  obtain ⟨o,r,q,h1,h2,h3,h4⟩:=top (bgS:=cardIs T) (bgQ:=kindQ T) 64 (fun j=>any_among j wKinds 0) (simCard g) (fun j hj h=>by
    have h:=of_decide_eq_false h
    unfold amongS at h
    unfold cardS oneS amongS
    rw [if_pos (by omega)]
    rfl) (fun j h=>(among_kind j wKinds 0 (by have:=of_decide_eq_true h;unfold amongS at this;omega)).1) 64 [] 0 h0 rfl
  exact ⟨r,q,allF_of h1 h2,h3 70 (by omega),h4⟩
theorem expr_no {j : Nat} (h : exprIs T j = false) : valueS T j = some (.bad 5 j):=by
  unfold exprIs at h
  rw [Bool.or_eq_false_iff] at h
  have hk : (tkAt T j).f0 ≠ 2:=fun e=>by rw [e] at h;cases h.1
  have ha:=of_decide_eq_false h.2
  have hn : ∀ (ws : List ByteArray) (i : Nat),amongF T j ws i < 0 → ∀ s ∈ ws,isS T s j = false:=by
    intro ws
    induction ws with
    | nil=>intro i _ s hs;cases hs
    | cons x ws ih =>
      intro i hi s hs
      rw [amongF] at hi
      by_cases hx : isS T x j = true
      · rw [if_pos hx] at hi;omega
      · rw [if_neg hx] at hi
        rcases List.mem_cons.1 hs with rfl | hs
        · exact Bool.eq_false_iff.2 hx
        · exact ih (i + 1) hi s hs
  have ha2 : amongF T j wExpr 0 < 0:=by unfold amongS at ha;omega
  have q:=hn wExpr 0 ha2
  have m1 : ∀ s,isS T s j = false → mayS T s j = some (.ok false j):=fun s hs=>by unfold mayS;rw [hs,if_neg Bool.false_ne_true]
  have q1:=q sLife (by simp [wExpr])
  have q2:=q sCount (by simp [wExpr])
  have q3:=q sPower (by simp [wExpr])
  have q4:=q sOpen (by simp [wExpr])
  show headS T 6 _ j = _
  unfold headS
  rw [if_neg hk,m1 _ q1]
  show obind (mayS T sCount j) _ = _
  rw [m1 _ q2]
  show obind (mayS T sPower j) _ = _
  rw [m1 _ q3]
  show openS T 6 _ j = _
  unfold openS mustS
  rw [q4,Bool.false_and,if_neg Bool.false_ne_true,m1 _ q4]
  rfl
theorem exprs_same (g : GoodT T) (h0 : 0 < T.length) : ∃ r q,allF exprIs valueS 6 T = some r ∧ listQ T (beginQ T) 6 (exprQ T 6) 70 [] (.ok 0) = some q ∧ tellQ q = r:=by
  obtain ⟨o,r,q,h1,h2,h3,h4⟩:=top (bgS:=exprIs T) (bgQ:=beginQ T) 6 (fun j=>by
    show ((tkAt T j).f0 == 2 || anyF T (.ok j) wBegin) = _
    rw [any_among j wBegin 0]
    rfl) (simExpr g 6) (fun j hj h=>expr_no h) (fun j h=>by
    unfold exprIs at h
    rcases Bool.or_eq_true_iff.1 h with a | a
    · have:=eq_of_beq a;rw [this];decide
    · exact (among_kind j wExpr 0 (by have:=of_decide_eq_true a;unfold amongS at this;omega)).1) 6 [] 0 h0 rfl
  exact ⟨r,q,allF_of h1 h2,h3 70 (by omega),h4⟩
end
/-! ### the tokens of a text are good -/
open PureS
def okTok (t : S69) : Prop:=t.f0 ≠ 0 ∧ t.f1.size ≤ 1000000 ∧ (t.f0 = 2 → t.f1.data.toList ≠ [] ∧ (∀ b ∈ t.f1.data.toList,isD b = true) ∧ great t.f1.data.toList = false)
theorem one_ok (s : ByteArray) (hs : s.size ≤ 1000000) (p : Nat) (hp : p < s.size) (x : S26) (h : (tokAt s p).2.2 = 0) : okTok (oneTok s p x):=by
  have hle:=tokAt_le s p hp
  have hT:=tokAt_eq s p
  have hsz : (s.extract p (p + (tokAt s p).2.1)).size ≤ 1000000:=by
    rw [ByteArray.size_extract]
    omega
  unfold okTok oneTok
  refine ⟨?_,hsz,?_⟩
  · show ((tokAt s p).1 : Int) ≠ 0
    rw [hT]
    split
    · exact (by decide : ((1 : Nat) : Int) ≠ 0)
    · split
      · exact (by decide : ((2 : Nat) : Int) ≠ 0)
      · exact (by decide : ((3 : Nat) : Int) ≠ 0)
  · intro h2
    have h2 : ((tokAt s p).1 : Int) = 2:=h2
    show (s.extract p (p + (tokAt s p).2.1)).data.toList ≠ [] ∧ (∀ b ∈ (s.extract p (p + (tokAt s p).2.1)).data.toList,isD b = true) ∧ great (s.extract p (p + (tokAt s p).2.1)).data.toList = false
    by_cases c1 : 0 < (wordS (s.extract p s.size)).1
    · rw [if_pos c1] at hT
      rw [hT] at h2
      exact absurd h2 (by decide : ¬ ((1 : Nat) : Int) = 2)
    rw [if_neg c1] at hT
    by_cases c2 : 0 < lead (s.extract p s.size).data.toList
    · rw [if_pos c2] at hT
      rw [hT] at h hle ⊢
      simp only at h hle ⊢
      have ht : (s.extract p (p + lead (s.extract p s.size).data.toList)).data.toList = (s.extract p s.size).data.toList.take (lead (s.extract p s.size).data.toList):=by
        rw [← drop_take s p _ hle,take_list]
      have hg : great ((s.extract p s.size).data.toList.take (lead (s.extract p s.size).data.toList)) = false:=by
        cases hg : great ((s.extract p s.size).data.toList.take (lead (s.extract p s.size).data.toList)) with
        | false=>rfl
        | true =>
          unfold num at h
          rw [if_pos hg] at h
          cases h
      rw [ht]
      refine ⟨fun e=>?_,lead_digits _,hg⟩
      have hl:=lead_le (s.extract p s.size).data.toList
      have:=congrArg List.length e
      rw [List.length_take,List.length_nil] at this
      omega
    · rw [if_neg c2] at hT
      rw [hT] at h2
      exact absurd h2 (by decide : ¬ ((3 : Nat) : Int) = 2)
theorem toks_ok (s : ByteArray) (hs : s.size ≤ 1000000) : ∀ (n p : Nat) (x : S26) (rem : Bool) (beh : Nat) (l : List S69),(∀ t ∈ l,okTok t) → (∃ l1 x1,toks s n p x rem beh l = (l1 ++ [⟨0,⟨#[]⟩,x1⟩],0,0,0) ∧ (∀ t ∈ l1,okTok t) ∧ l1.length ≤ l.length + n) ∨ (∃ e x1,(e : Nat) ≠ 0 ∧ toks s n p x rem beh l = fail e x1)
  | 0,p,x,rem,beh,l,hl=>.inl ⟨l,x,rfl,hl,by omega⟩
  | n + 1,p,x,rem,beh,l,hl=>by
    rw [PureS.toks]
    have up : ∀ {l' : List S69} {q : R}, ((∃ l1 x1, q = (l1 ++ [⟨0, ⟨#[]⟩, x1⟩], 0, 0, 0) ∧ (∀ t ∈ l1, okTok t) ∧ l1.length ≤ l'.length + n) ∨ (∃ e x1, (e : Nat) ≠ 0 ∧ q = fail e x1)) → l'.length ≤ l.length + 1 →
        ((∃ l1 x1,q = (l1 ++ [⟨0,⟨#[]⟩,x1⟩],0,0,0) ∧ (∀ t ∈ l1,okTok t) ∧ l1.length ≤ l.length + (n + 1)) ∨ (∃ e x1,(e : Nat) ≠ 0 ∧ q = fail e x1)):=by
      intro l' q h hl'
      rcases h with ⟨l1,x1,a,b,c⟩ | h
      · exact .inl ⟨l1,x1,a,b,by omega⟩
      · exact .inr h
    by_cases h1 : p < s.size
    · rw [if_pos h1]
      by_cases h2 : p < beh
      · rw [if_pos h2];exact up (toks_ok s hs n _ _ _ _ l hl) (Nat.le_succ _)
      rw [if_neg h2]
      by_cases h3 : C s p = 10
      · rw [if_pos h3];exact up (toks_ok s hs n _ _ _ _ l hl) (Nat.le_succ _)
      rw [if_neg h3]
      by_cases h4 : bad s p = true
      · rw [if_pos h4];exact .inr ⟨4,x,by decide,rfl⟩
      rw [if_neg h4]
      by_cases h5 : ((rem || decide (C s p = 35)) || PureS.blank (C s p)) = true
      · rw [if_pos h5];exact up (toks_ok s hs n _ _ _ _ l hl) (Nat.le_succ _)
      rw [if_neg h5]
      by_cases h6 : (tokAt s p).2.2 = 0
      · rw [if_pos h6]
        refine up (toks_ok s hs n _ _ _ _ (l ++ [oneTok s p x]) (fun t ht=>?_)) (by rw [List.length_append,List.length_singleton];exact Nat.le_refl _)
        rcases List.mem_append.1 ht with a | a
        · exact hl t a
        · rw [List.mem_singleton.1 a];exact one_ok s hs p h1 x h6
      · rw [if_neg h6];exact .inr ⟨_,x,h6,rfl⟩
    · rw [if_neg h1];exact .inl ⟨l,x,rfl,hl,by omega⟩
theorem good_of (l1 : List S69) (x1 : S26) (h : ∀ t ∈ l1,okTok t) : GoodT (l1 ++ [⟨0,⟨#[]⟩,x1⟩]):=by
  have hin : ∀ j,j < l1.length → okTok (tkAt (l1 ++ [⟨0,⟨#[]⟩,x1⟩]) j):=fun j hj=>by
    have e : tkAt (l1 ++ [⟨0,⟨#[]⟩,x1⟩]) j = l1[j]:=by
      unfold tkAt
      rw [List.getD_eq_getElem?_getD,List.getElem?_append_left hj,List.getElem?_eq_getElem hj]
      rfl
    rw [e]
    exact h _ (List.getElem_mem hj)
  have hout : ∀ j,¬ j < l1.length → (tkAt (l1 ++ [⟨0,⟨#[]⟩,x1⟩]) j).f0 = 0 ∧ (tkAt (l1 ++ [⟨0,⟨#[]⟩,x1⟩]) j).f1 = ⟨#[]⟩:=fun j hj=>by
    unfold tkAt
    rw [List.getD_eq_getElem?_getD,List.getElem?_append_right (by omega)]
    cases hi : j - l1.length with
    | zero=>exact ⟨rfl,rfl⟩
    | succ i=>exact ⟨rfl,rfl⟩
  refine ⟨fun j hj hk=>?_,fun j hk=>?_,fun j hk=>?_,fun j=>?_⟩
  · rw [List.length_append,List.length_singleton]
    by_cases q : j < l1.length
    · omega
    · exact absurd (hout j q).1 hk
  · by_cases q : j < l1.length
    · exact absurd hk (hin j q).1
    · exact (hout j q).2
  · by_cases q : j < l1.length
    · exact (hin j q).2.2 hk
    · rw [(hout j q).1] at hk;cases hk
  · by_cases q : j < l1.length
    · exact (hin j q).2.1
    · rw [(hout j q).2];exact Nat.zero_le _
/-- what a text's tokens are: good ones, or a fault -/
theorem tokens_cases (s : ByteArray) : (∃ T,tokens s = (T,0,0,0) ∧ GoodT T ∧ 0 < T.length ∧ T.length ≤ 1000000) ∨ (∃ e l c,tokens s = ([],e,l,c) ∧ e ≠ 0):=by
  unfold tokens
  by_cases h : 65536 < s.size
  · rw [if_pos h];exact .inr ⟨3,1,1,rfl,by decide⟩
  · rw [if_neg h]
    rcases toks_ok s (by omega) s.size 0 ⟨1,1⟩ false 0 [] (fun t ht=>by cases ht) with ⟨l1,x1,a,b,c⟩ | ⟨e,x1,he,a⟩
    · rw [a]
      rw [List.length_nil] at c
      exact .inl ⟨_,rfl,good_of l1 x1 b,by rw [List.length_append,List.length_singleton];omega,by rw [List.length_append,List.length_singleton];omega⟩
    · rw [a];exact .inr ⟨(e : Int),x1.f0,x1.f1,rfl,by omega⟩
set_option maxHeartbeats 1000000 in
set_option maxRecDepth 100000 in
theorem pool_F (k : Nat) (s : ByteArray) (a b c : Int) (hs : scan_Tokens.f k s = some ([],a,b,c)) (ha : a ≠ 0) (W : World) (hG : Tabs W) :
    Calls Tryz.prog 6 #[.string s] W fun e w' => ∃ v0 : Value, e = .returned (.tuple #[v0, .agg #[.int .i64 a, .int .i64 b, .int .i64 c]]) ∧ Kd.R k38 38 w' W.heap.size (fun _ => True) v0 [] ∧ Below W.heap.size W w' := by
  have hba:=below_alloc (Below.refl W.heap.size W) (.cells #[.int .i64 0,.int .i64 0,.int .i64 0] 28)
  have HB:=Aside0.mk hba
  have HN:=Aside0.mk (blk_new W (.cells #[.int .i64 0,.int .i64 0,.int .i64 0] 28))
  have HA:=Aside0.mk (all13F k s a b c hs ha _ (hG.below hba))
  have HSZ:=Aside0.mk (size_alloc W (.cells #[.int .i64 0,.int .i64 0,.int .i64 0] 28))
  clear hba hs
  go_enter Tryz.func6,Tryz.ntmps6
  go_wp2_with (first
    | (go_at_call 13;refine HA.out.mono ?_;rintro e w2 ⟨v0,rfl,hR,hb⟩;have hk:=blk_below HN.out hb;have HK:=Aside0.mk hk;have HB2:=Aside0.mk (below_step HB.out hb);have HR:=Aside0.mk hR;clear hR hb hk)
    | ((with_reducible refine gate_store (t:=28) (p:=3) rfl ?_);refine store_row rfl rfl rfl W.heap.size _ rfl rfl HK.out (by kernel_rfl) rfl (by kernel_rfl) ?_;intro w3 hf3 hg3;have HF3:=Aside0.mk hf3;have HG3:=Aside0.mk hg3;clear hf3 hg3))
  refine bodyPost_ret (results_tc rfl _ _ W.heap.size 28 _ (0,0) _ rfl HF3.out Tryz.underlying28 rfl (by kernel_rfl)) rfl ?_
  have hR:=R_keepG HR.out HG3.out (by rw [HSZ.out];exact Nat.lt_succ_self _)
  exact ⟨_,rfl,Kd.R_lower hR (by rw [HSZ.out];exact Nat.le_succ _),pw_below_grown HB2.out (some W.heap.size) HB2.out.size HG3.out (fun k e=>by cases e;exact Nat.le_refl _)⟩
set_option maxHeartbeats 1000000 in
set_option maxRecDepth 100000 in
theorem exprs_F (k : Nat) (s : ByteArray) (a b c : Int) (hs : scan_Tokens.f k s = some ([],a,b,c)) (ha : a ≠ 0) (W : World) (hG : Tabs W) :
    Calls Tryz.prog 8 #[.string s] W fun e w' => ∃ v0 : Value, e = .returned (.tuple #[v0, .agg #[.int .i64 a, .int .i64 b, .int .i64 c]]) ∧ Kd.R k50 50 w' W.heap.size (fun _ => True) v0 [] ∧ Below W.heap.size W w' := by
  have hba:=below_alloc (Below.refl W.heap.size W) (.cells #[.int .i64 0,.int .i64 0,.int .i64 0] 28)
  have HB:=Aside0.mk hba
  have HN:=Aside0.mk (blk_new W (.cells #[.int .i64 0,.int .i64 0,.int .i64 0] 28))
  have HA:=Aside0.mk (all24F k s a b c hs ha _ (hG.below hba))
  have HSZ:=Aside0.mk (size_alloc W (.cells #[.int .i64 0,.int .i64 0,.int .i64 0] 28))
  clear hba hs
  go_enter Tryz.func8,Tryz.ntmps8
  go_wp2_with (first
    | (go_at_call 24;refine HA.out.mono ?_;rintro e w2 ⟨v0,rfl,hR,hb⟩;have hk:=blk_below HN.out hb;have HK:=Aside0.mk hk;have HB2:=Aside0.mk (below_step HB.out hb);have HR:=Aside0.mk hR;clear hR hb hk)
    | ((with_reducible refine gate_store (t:=28) (p:=3) rfl ?_);refine store_row rfl rfl rfl W.heap.size _ rfl rfl HK.out (by kernel_rfl) rfl (by kernel_rfl) ?_;intro w3 hf3 hg3;have HF3:=Aside0.mk hf3;have HG3:=Aside0.mk hg3;clear hf3 hg3))
  refine bodyPost_ret (results_tc rfl _ _ W.heap.size 28 _ (0,0) _ rfl HF3.out Tryz.underlying28 rfl (by kernel_rfl)) rfl ?_
  have hR:=R_keepG HR.out HG3.out (by rw [HSZ.out];exact Nat.lt_succ_self _)
  exact ⟨_,rfl,Kd.R_lower hR (by rw [HSZ.out];exact Nat.le_succ _),pw_below_grown HB2.out (some W.heap.size) HB2.out.size HG3.out (fun k e=>by cases e;exact Nat.le_refl _)⟩
/-- what both answer of a text -/
def poolR (s : ByteArray) : List S38 × Int × Int × Int:=if (tokens s).2.1 = 0 then (allF cardIs cardS 64 (tokens s).1).getD ([],0,0,0) else ([],(tokens s).2)
theorem pool_both (s : ByteArray) (hs : s.size ≤ 1000000) (W : World) (hG : Tabs W) :
    (Calls Tryz.prog 6 #[.string s] W fun e w' => ∃ v0 : Value, e = .returned (.tuple #[v0, .agg #[.int .i64 (poolR s).2.1, .int .i64 (poolR s).2.2.1, .int .i64 (poolR s).2.2.2]]) ∧ Kd.R k38 38 w' W.heap.size (fun _ => True) v0 (poolR s).1 ∧ Below W.heap.size W w') ∧
    (Calls Tryz.prog 7 #[.string s] W fun e w' => ∃ v0 : Value, e = .returned (.tuple #[v0, .agg #[.int .i64 (poolR s).2.1, .int .i64 (poolR s).2.2.1, .int .i64 (poolR s).2.2.2]]) ∧ Kd.R k38 38 w' W.heap.size (fun _ => True) v0 (poolR s).1 ∧ Below W.heap.size W w') := by
  have h1:=scanTokens s (300000 + 5 * s.size + 1) (Nat.lt_succ_self _)
  have h2:=refTokens s (600000 + 6 * s.size + 1) (Nat.lt_succ_self _)
  have told : ∀ W,Tabs W → RefA.Told (tokens s).1 (tokens s).2.1 (tokens s).2.2.1 (tokens s).2.2.2 W s:=fun W hG=>RefT.Tokens_ _ s (tokens s) W hG h2
  have hG2:=hG.below (below_alloc (Below.refl W.heap.size W) (.cells #[.int .i64 0,.int .i64 0,.int .i64 0] 28))
  rcases tokens_cases s with ⟨T,e,g,h0,hl⟩ | ⟨a,b,c,e,ha⟩
  · rw [e] at h1 h2 told
    obtain ⟨r,q,q1,q2,q3⟩:=cards_same g h0
    have hr : poolR s = r:=by
      unfold poolR
      rw [e]
      show (if (0 : Int) = 0 then _ else _) = _
      rw [if_pos rfl]
      show (allF cardIs cardS 64 T).getD _ = r
      rw [q1]
      rfl
    rw [hr]
    refine ⟨pool_ (300000 + 5 * s.size + 1) s W hG ?_,?_⟩
    · unfold poolS
      rw [h1]
      show (if (0 : Int) = 0 ∧ (0 : Int) = 0 ∧ (0 : Int) = 0 ∧ 0 < T.length then _ else _) = _
      rw [if_pos ⟨rfl,rfl,rfl,h0⟩]
      exact q1
    · have hm:=readOk T _ s (told _ hG2) h0 hl g.more g.sz
      rw [← q3]
      exact pool_ok T s W 70 (by decide) hm q2
  · rw [e] at h1 h2 told
    have hr : poolR s = ([],a,b,c):=by
      unfold poolR
      rw [e]
      show (if a = 0 then _ else _) = _
      rw [if_neg ha]
    rw [hr]
    exact ⟨pool_F _ s a b c h1 ha W hG,pool_bad s W [] a b c ha (told _ hG2)⟩
/-- what both answer of a text -/
def exprsR (s : ByteArray) : List S50 × Int × Int × Int:=if (tokens s).2.1 = 0 then (allF exprIs valueS 6 (tokens s).1).getD ([],0,0,0) else ([],(tokens s).2)
theorem exprs_both (s : ByteArray) (hs : s.size ≤ 1000000) (W : World) (hG : Tabs W) :
    (Calls Tryz.prog 8 #[.string s] W fun e w' => ∃ v0 : Value, e = .returned (.tuple #[v0, .agg #[.int .i64 (exprsR s).2.1, .int .i64 (exprsR s).2.2.1, .int .i64 (exprsR s).2.2.2]]) ∧ Kd.R k50 50 w' W.heap.size (fun _ => True) v0 (exprsR s).1 ∧ Below W.heap.size W w') ∧
    (Calls Tryz.prog 9 #[.string s] W fun e w' => ∃ v0 : Value, e = .returned (.tuple #[v0, .agg #[.int .i64 (exprsR s).2.1, .int .i64 (exprsR s).2.2.1, .int .i64 (exprsR s).2.2.2]]) ∧ Kd.R k50 50 w' W.heap.size (fun _ => True) v0 (exprsR s).1 ∧ Below W.heap.size W w') := by
  have h1:=scanTokens s (300000 + 5 * s.size + 1) (Nat.lt_succ_self _)
  have h2:=refTokens s (600000 + 6 * s.size + 1) (Nat.lt_succ_self _)
  have told : ∀ W,Tabs W → RefA.Told (tokens s).1 (tokens s).2.1 (tokens s).2.2.1 (tokens s).2.2.2 W s:=fun W hG=>RefT.Tokens_ _ s (tokens s) W hG h2
  have hG2:=hG.below (below_alloc (Below.refl W.heap.size W) (.cells #[.int .i64 0,.int .i64 0,.int .i64 0] 28))
  rcases tokens_cases s with ⟨T,e,g,h0,hl⟩ | ⟨a,b,c,e,ha⟩
  · rw [e] at h1 h2 told
    obtain ⟨r,q,q1,q2,q3⟩:=exprs_same g h0
    have hr : exprsR s = r:=by
      unfold exprsR
      rw [e]
      show (if (0 : Int) = 0 then _ else _) = _
      rw [if_pos rfl]
      show (allF exprIs valueS 6 T).getD _ = r
      rw [q1]
      rfl
    rw [hr]
    refine ⟨exprs_ (300000 + 5 * s.size + 1) s W hG ?_,?_⟩
    · unfold exprsS
      rw [h1]
      show (if (0 : Int) = 0 ∧ (0 : Int) = 0 ∧ (0 : Int) = 0 ∧ 0 < T.length then _ else _) = _
      rw [if_pos ⟨rfl,rfl,rfl,h0⟩]
      exact q1
    · have hm:=readOk T _ s (told _ hG2) h0 hl g.more g.sz
      rw [← q3]
      exact exprs_ok T s W 70 (by decide) hm q2
  · rw [e] at h1 h2 told
    have hr : exprsR s = ([],a,b,c):=by
      unfold exprsR
      rw [e]
      show (if a = 0 then _ else _) = _
      rw [if_neg ha]
    rw [hr]
    exact ⟨exprs_F _ s a b c h1 ha W hG,exprs_bad s W [] a b c ha (told _ hG2)⟩
end Go.Proofs.YtmgdkkkkanjadaaGreatDoor.SimA
