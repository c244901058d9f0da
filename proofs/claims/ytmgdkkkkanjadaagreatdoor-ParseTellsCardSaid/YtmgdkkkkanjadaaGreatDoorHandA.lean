/-
  parse's reader: tokens that are left, by their place; each method comes to a plain step, or leaves with a fault. Conditions: what the listed package variables hold.
-/
import Derived.Test.YtmgdkkkkanjadaaGreatDoorX0
import Derived.Test.YtmgdkkkkanjadaaGreatDoorHandS
import Derived.Deep.RegionLaw
namespace Go.Proofs.YtmgdkkkkanjadaaGreatDoor.HandA
set_option linter.unusedVariables false
set_option linter.unusedSimpArgs false
open Go.RowKit Go.Shelf Go.Lib Go.Proofs.YtmgdkkkkanjadaaGreatDoorW.PrintWords Go.Proofs.YtmgdkkkkanjadaaGreatDoorW.PrintLast Go.Proofs.YtmgdkkkkanjadaaGreatDoorW.PrintMore Go.Proofs.YtmgdkkkkanjadaaGreatDoor.X Go.Proofs.YtmgdkkkkanjadaaGreatDoor.HandS

/-- how a reading ends: something, and the next token; or a fault, at a token -/
inductive Out (α : Type) where
  | ok (a : α) (j : Nat)
  | bad (e : Int) (j : Nat)
def obind {α β : Type} (p : Option (Out α)) (q : α → Nat → Option (Out β)) : Option (Out β) :=
  match p with
  | none=>none
  | some (.bad e j)=>some (.bad e j)
  | some (.ok a j)=>q a j
theorem obind_ok {α : Type} (p : Option (Out α)) : obind p (fun a k=>some (.ok a k)) = p:=by
  cases p with
  | none=>rfl
  | some o=>cases o <;> rfl
def tkAt (T : List S69) (j : Nat) : S69:=T.getD j z69
/-- a reader: its tokens, their block and room, the reader's block, the world ahead of it -/
structure Cx where
  T : List S69
  B : Nat
  c : Nat
  r : Nat
  W0 : World
theorem grown_set (w : World) (b i : Nat) (u : Value) : w.grownBy (w.setCell ⟨b,i,none⟩ u) (some b) :=
  ⟨rfl,rfl,rfl,by simp [World.setCell],fun k hk hne=>Below.heap_setCell w ⟨b,i,none⟩ u k (fun e=>hne (by rw [e]))⟩
def Tk (w : World) (B o : Nat) (t : S69) : Prop:=w.cell? ⟨B,o,none⟩ = some (.int .u8 t.f0) ∧ w.cell? ⟨B,o + 1,none⟩ = some (.string t.f1) ∧ w.cell? ⟨B,o + 2,none⟩ = some (.int .i64 t.f2.f0) ∧ w.cell? ⟨B,o + 3,none⟩ = some (.int .i64 t.f2.f1)
theorem Tk.grown {w w' : World} {B o : Nat} {t : S69} {b : Nat} (h : Tk w B o t) (hg : w.grownBy w' (some b)) (hne : B ≠ b) : Tk w' B o t := by
  have hn : ∀ i : Nat,some (Addr.mk B i none).block ≠ some b:=fun i e=>hne (Option.some.inj e)
  exact ⟨hg.cell h.1 (hn _),hg.cell h.2.1 (hn _),hg.cell h.2.2.1 (hn _),hg.cell h.2.2.2 (hn _)⟩
/-- the reader stands on the token j -/
structure Rd (x : Cx) (w : World) (j : Nat) : Prop where
  lt : j < x.T.length
  row : w.heap[x.r]? = some (.cells #[.slice (some ⟨x.B,4 * j,none⟩) (x.T.length - j) (x.c - j)] 71 (0,0))
  tk : ∀ i,i < x.T.length → Tk w x.B (4 * i) (tkAt x.T i)
  hc : x.T.length ≤ x.c
  hm : x.c ≤ 9223372036854775807
  ne : x.B ≠ x.r
  below : Below x.W0.heap.size x.W0 w
  hr : x.W0.heap.size ≤ x.r
theorem Rd.grown {x : Cx} {w w' : World} {j i : Nat} (h : Rd x w j) (hg : w.grownBy w' (some x.r)) (hi : i < x.T.length)
    (row : w'.heap[x.r]? = some (.cells #[.slice (some ⟨x.B, 4 * i, none⟩) (x.T.length - i) (x.c - i)] 71 (0, 0))) : Rd x w' i :=
  ⟨hi,row,fun k hk=>(h.tk k hk).grown hg h.ne,h.hc,h.hm,h.ne,pw_below_grown h.below (some x.r) h.below.size hg (fun k e=>by cases e;exact h.hr),h.hr⟩
theorem Rd.below_ {x : Cx} {w w' : World} {j : Nat} (h : Rd x w j) (hb : Below w.heap.size w w') : Rd x w' j :=
  h.grown (grown_of_below hb _) h.lt (blk_below h.row hb)
theorem Rd.head {x : Cx} {w : World} {j : Nat} (h : Rd x w j) : ∃ o n cc,w.cell? ⟨x.r,0,none⟩ = some (.slice (some ⟨x.B,o,none⟩) n cc) ∧ 0 < n ∧ n ≤ cc ∧
    w.cell? ⟨x.B,o,none⟩ = some (.int .u8 (tkAt x.T j).f0) ∧ w.cell? ⟨x.B,o + 1,none⟩ = some (.string (tkAt x.T j).f1) ∧ w.cell? ⟨x.B,o + 2,none⟩ = some (.int .i64 (tkAt x.T j).f2.f0) ∧ w.cell? ⟨x.B,o + 3,none⟩ = some (.int .i64 (tkAt x.T j).f2.f1):=by
  obtain ⟨t0,t1,t2,t3⟩:=h.tk j h.lt
  have:=h.lt
  have:=h.hc
  exact ⟨_,_,_,(blk_cell h.row 0).trans rfl,by omega,by omega,t0,t1,t2,t3⟩
/-- how a call of the reader ends -/
def Post (x : Cx) (w0 : World) {α : Type} (rel : α → Value → World → Prop) (o : Out α) (e : Ending) (w' : World) : Prop :=
  match o with
  | .ok a j => ∃ v, e = .returned v ∧ rel a v w' ∧ Rd x w' j ∧ w0.grownBy w' (some x.r)
  | .bad k j => e = .panicked [{ v := .iface 79 (.agg #[.int .i64 k, .int .i64 (tkAt x.T j).f2.f0, .int .i64 (tkAt x.T j).f2.f1]), recovered := false }] ∧ Rd x w' j ∧ w0.grownBy w' (some x.r)
/-- one call of a reading that goes on -/
theorem step_ {P : Program} {f : FuncId} {args : Array Value} {w : World} {R : Ending → World → Prop} (x : Cx) {α β : Type} {rel : α → Value → World → Prop} {p : Option (Out α)} {q : α → Nat → Option (Out β)} {o : Out β} (h : obind p q = some o)
    (hc : ∀ o1,p = some o1 → Calls P f args w (Post x w rel o1))
    (hbad : ∀ e k w', o = .bad e k → Rd x w' k → w.grownBy w' (some x.r) → R (.panicked [{ v := .iface 79 (.agg #[.int .i64 e, .int .i64 (tkAt x.T k).f2.f0, .int .i64 (tkAt x.T k).f2.f1]), recovered := false }]) w')
    (hok : ∀ a k v w', q a k = some o → rel a v w' → Rd x w' k → w.grownBy w' (some x.r) → R (.returned v) w') : Calls P f args w R := by
  cases p with
  | none=>cases h
  | some o1 =>
    refine (hc o1 rfl).mono ?_
    intro e w' hp
    cases o1 with
    | ok a j =>
      obtain ⟨v,rfl,h1,h2,h3⟩:=hp
      exact hok a j v w' h h1 h2 h3
    | bad k j =>
      obtain ⟨rfl,h2,h3⟩:=hp
      injection h with h
      exact hbad k j w' h.symm h2 h3

/-! ### the steps, plainly -/
def isS (T : List S69) (s : ByteArray) (j : Nat) : Bool:=(!((tkAt T j).f0 == 2)) && ((!((tkAt T j).f0 == 0)) && ((tkAt T j).f1.data.toList == s.data.toList))
def skipS (T : List S69) (j : Nat) : Option (Out ByteArray):=if j + 1 < T.length then some (.ok (tkAt T j).f1 (j + 1)) else none
def mayS (T : List S69) (s : ByteArray) (j : Nat) : Option (Out Bool):=if isS T s j = true then obind (skipS T j) (fun _ k=>some (.ok true k)) else some (.ok false j)
def mustS (T : List S69) (s : ByteArray) (j : Nat) : Option (Out Unit):=obind (mayS T s j) (fun b k=>match b with | true=>some (.ok () k) | false=>some (.bad 5 k))
def ofS (T : List S69) (k : Int) (j : Nat) : Option (Out ByteArray):=if (tkAt T j).f0 = k then skipS T j else some (.bad 5 j)
def numS (T : List S69) (j : Nat) : Option (Out Int):=obind (ofS T 2 j) (fun s k=>(strconv_Atoi.f s).bind fun v=>some (.ok v.1 k))
def amongF (T : List S69) (j : Nat) : List ByteArray → Nat → Int
  | [],_=>-1
  | s :: ws,i=>if isS T s j = true then (i : Int) else amongF T j ws (i + 1)
def amongS (T : List S69) (ws : List ByteArray) (j : Nat) : Int:=amongF T j ws 0
theorem amongF_le (T : List S69) (j : Nat) : ∀ (ws : List ByteArray) (i : Nat),-1 ≤ amongF T j ws i ∧ amongF T j ws i < (i : Int) + ws.length ∨ ws = [] ∧ amongF T j ws i = -1:=by
  intro ws
  induction ws with
  | nil=>intro i;exact .inr ⟨rfl,rfl⟩
  | cons s ws ih =>
    intro i
    left
    rw [amongF]
    split
    · simp only [List.length_cons];omega
    · rcases ih (i + 1) with h | ⟨h1,h2⟩
      · simp only [List.length_cons];omega
      · rw [h2];simp only [List.length_cons];omega
def oneS (T : List S69) (ws : List ByteArray) (j : Nat) : Option (Out Int):=if amongS T ws j < 0 then some (.bad 5 j) else obind (skipS T j) (fun _ k=>some (.ok (amongS T ws j) k))
def wSides : List ByteArray:=[⟨#[109,105,110,101]⟩,⟨#[116,104,101,105,114,115]⟩,⟨#[97,110,121]⟩,⟨#[115,101,108,102]⟩]
def wZones : List ByteArray:=[⟨#[100,101,99,107]⟩,⟨#[104,97,110,100]⟩,⟨#[114,111,119]⟩,⟨#[98,97,99,107]⟩,⟨#[103,114,97,118,101]⟩,⟨#[101,120,105,108,101]⟩]
def wKinds : List ByteArray:=[⟨#[117,110,105,116]⟩,⟨#[115,112,101,108,108]⟩,⟨#[113,117,105,99,107]⟩,⟨#[116,114,97,112]⟩,⟨#[99,111,117,110,116,101,114]⟩]
def wModes : List ByteArray:=[⟨#[112,108,97,121]⟩,⟨#[97,99,116]⟩,⟨#[115,119,105,102,116]⟩,⟨#[119,104,101,110]⟩,⟨#[105,102]⟩,⟨#[109,117,115,116]⟩,⟨#[97,117,114,97]⟩]
def wEvents : List ByteArray:=[⟨#[116,114,121]⟩,⟨#[115,117,109,109,111,110]⟩,⟨#[97,116,116,97,99,107]⟩,⟨#[100,101,115,116,114,111,121]⟩,⟨#[100,97,109,97,103,101]⟩,⟨#[108,105,110,107]⟩,⟨#[115,116,97,110,100,98,121]⟩,⟨#[101,110,100]⟩]
def wSigns : List ByteArray:=[⟨#[43]⟩,⟨#[45]⟩,⟨#[42]⟩,⟨#[60]⟩,⟨#[61]⟩,⟨#[97,110,100]⟩,⟨#[111,114]⟩,⟨#[110,111,116]⟩]
def wSel : List ByteArray:=⟨#[97,108,108]⟩ :: wKinds
def sideS (T : List S69) (j : Nat) : Option (Out Int):=oneS T wSides j
def selS (T : List S69) (j : Nat) : Option (Out (Int × Int × Int)) :=
  obind (sideS T j) fun a j=>obind (oneS T wZones j) fun b j=>obind (oneS T wSel j) fun c j=>some (.ok (a,b,c) j)
def rSel (s : Int × Int × Int) (v : Value) (w : World) : Prop:=v = .agg #[.int .u8 s.1,.int .u8 s.2.1,.int .u8 s.2.2]
/-- texts lie in a row -/
def Wd (w : World) (k : Nat) (ws : List ByteArray) : Prop:=∀ i,i < ws.length → w.cell? ⟨k,i,none⟩ = some (.string (ws.getD i ⟨#[]⟩))
theorem Wd.new (w : World) (ws : List ByteArray) : Wd (w.alloc (.cells (ws.map Value.string).toArray 9)) w.heap.size ws:=by
  intro i hi
  rw [blk_cell (blk_new w _) i]
  simp [List.getElem?_eq_getElem hi,List.getD_eq_getElem?_getD]
theorem Wd.below {w w' : World} {k : Nat} {ws : List ByteArray} (h : Wd w k ws) (hb : Below w.heap.size w w') : Wd w' k ws := fun i hi => (hb.cell (p := ⟨k, i, none⟩) (World.block_lt_of_cell? _ _ (h i hi))).trans (h i hi)
def rNone {α : Type} (a : α) (v : Value) (w : World) : Prop:=v = .tuple #[]
def rStr (s : ByteArray) (v : Value) (w : World) : Prop:=v = .string s
def rBool (b : Bool) (v : Value) (w : World) : Prop:=v = .bool b
def rInt (n : Int) (v : Value) (w : World) : Prop:=v = .int .i64 n
def rU8 (n : Int) (v : Value) (w : World) : Prop:=v = .int .u8 n

/-! ### the walks -/
set_option maxRecDepth 100000 in
theorem is_ (x : Cx) (w : World) (j : Nat) (h : Rd x w j) (s : ByteArray) : Calls Tryz.prog 38 #[.pointer (some ⟨x.r, 0, none⟩), .string s] w fun e w' => e = .returned (.bool (isS x.T s j)) ∧ w' = w := by
  obtain ⟨o,n,cc,c0,hn,hcc,t0,t1,t2,t3⟩:=h.head
  have hu71:=Tryz.underlying71
  have hu69:=Tryz.underlying69
  unfold isS
  generalize tkAt x.T j = t at *
  generalize t.f0 = k at *
  generalize t.f1 = y at *
  clear h hcc t2 t3
  by_cases h2 : k = 2
  · subst h2
    go_enter Tryz.func38,Tryz.ntmps38
    go_wp2
    go_ret
    exact ⟨rfl,rfl⟩
  · have n2 : (k == 2) = false:=beq_eq_false_iff_ne.2 h2
    have m2 : (k != 2) = true:=bne_iff_ne.2 h2
    by_cases h0 : k = 0
    · subst h0
      go_enter Tryz.func38,Tryz.ntmps38
      go_wp2
      go_ret
      exact ⟨rfl,rfl⟩
    · have n0 : (k == 0) = false:=beq_eq_false_iff_ne.2 h0
      have m0 : (k != 0) = true:=bne_iff_ne.2 h0
      go_enter Tryz.func38,Tryz.ntmps38
      go_wp2
      go_ret
      refine ⟨?_,rfl⟩
      rw [n2,n0]
      show Ending.returned (.bool (y.toList == s.toList)) = _
      rw [ByteArray.toList_eq,ByteArray.toList_eq]
      rfl
set_option maxRecDepth 100000 in
theorem fail_ (x : Cx) (w : World) (j : Nat) (h : Rd x w j) (k : Int) : Calls Tryz.prog 36 #[.pointer (some ⟨x.r, 0, none⟩), .int .i64 k] w fun e w' => e = .panicked [{ v := .iface 79 (.agg #[.int .i64 k, .int .i64 (tkAt x.T j).f2.f0, .int .i64 (tkAt x.T j).f2.f1]), recovered := false }] ∧ w' = w := by
  obtain ⟨o,n,cc,c0,hn,hcc,t0,t1,t2,t3⟩:=h.head
  have hu71:=Tryz.underlying71
  have hu69:=Tryz.underlying69
  have hu26:=Tryz.underlying26
  generalize tkAt x.T j = t at *
  clear h hcc t0 t1
  go_enter Tryz.func36,Tryz.ntmps36
  go_wp2
  exact ⟨rfl,rfl,rfl⟩
set_option maxRecDepth 100000 in
theorem skip_ (x : Cx) (w : World) (j : Nat) (h : Rd x w j) {o : Out ByteArray} (ho : skipS x.T j = some o) : Calls Tryz.prog 68 #[.pointer (some ⟨x.r,0,none⟩)] w (Post x w rStr o):=by
  unfold skipS at ho
  split at ho
  · rename_i hlt
    injection ho with ho
    subst ho
    obtain ⟨t0,t1,t2,t3⟩:=h.tk j h.lt
    have c0 : w.cell? ⟨x.r,0,none⟩ = some (.slice (some ⟨x.B,4 * j,none⟩) (x.T.length - j) (x.c - j)):=(blk_cell h.row 0).trans rfl
    have f0:=blk_frozen h.row 0
    have hu71:=Tryz.underlying71
    have hu69:=Tryz.underlying69
    have hc:=h.hc
    have hm:=h.hm
    have HR:=Aside0.mk h
    obtain ⟨n,hn⟩ : ∃ n,x.T.length - j = n:=⟨_,rfl⟩
    obtain ⟨cc,hcc⟩ : ∃ cc,x.c - j = cc:=⟨_,rfl⟩
    have h1 : 1 < n:=by omega
    have h2 : n ≤ cc:=by omega
    have h3 : cc ≠ 1:=by omega
    have h4 : cc ≤ 9223372036854775807:=by omega
    have h5 : 0 < n:=by omega
    have h6 : 1 ≤ n:=by omega
    have h7 : 1 ≤ cc:=by omega
    rw [hn,hcc] at c0
    have HN : Aside0 (x.T.length - (j + 1) = n - 1 ∧ x.c - (j + 1) = cc - 1):=⟨by omega,by omega⟩
    have HL:=Aside0.mk hlt
    generalize tkAt x.T j = t at *
    clear h hlt hn hcc hc hm t0 t2 t3
    go_enter Tryz.func68,Tryz.ntmps68
    go_wp2
    go_ret
    refine ⟨_,rfl,rfl,HR.out.grown (grown_set _ _ _ _) HL.out ?_,grown_set _ _ _ _⟩
    rw [HN.out.1,HN.out.2]
    exact (blk_set HR.out.row 0 _).trans rfl
  · cases ho
set_option maxRecDepth 100000 in
theorem may_ (x : Cx) (w : World) (j : Nat) (h : Rd x w j) (s : ByteArray) {o : Out Bool} (ho : mayS x.T s j = some o) : Calls Tryz.prog 70 #[.pointer (some ⟨x.r,0,none⟩),.string s] w (Post x w rBool o):=by
  have HI:=Aside0.mk (is_ x w j h s)
  have HR:=Aside0.mk h
  unfold mayS at ho
  clear h
  cases hs : isS x.T s j with
  | true =>
    rw [if_pos hs] at ho
    rw [hs] at HI
    have HO:=Aside0.mk ho
    clear ho hs
    go_enter Tryz.func70,Tryz.ntmps70
    go_wp2_with (first
      | (go_at_call 38;refine HI.out.mono ?_;rintro e w1 ⟨rfl,rfl⟩)
      | (go_at_call 68; refine step_ x HO.out (fun o1 h1 => skip_ x _ j HR.out h1) (fun e k w' he hr hg => by subst he; exact ⟨rfl, rfl, hr, hg⟩) ?_; rintro a k v w1 hq rfl hr hg; injection hq with hq; subst hq))
    go_ret
    exact ⟨_,rfl,rfl,hr,hg⟩
  | false =>
    rw [if_neg (by rw [hs];decide)] at ho
    rw [hs] at HI
    injection ho with ho
    subst ho
    clear hs
    go_enter Tryz.func70,Tryz.ntmps70
    go_wp2_with (go_at_call 38;refine HI.out.mono ?_;rintro e w1 ⟨rfl,rfl⟩)
    go_ret
    exact ⟨_,rfl,rfl,HR.out,World.grownBy.refl _ _⟩
set_option maxRecDepth 100000 in
theorem must_ (x : Cx) (w : World) (j : Nat) (h : Rd x w j) (s : ByteArray) {o : Out Unit} (ho : mustS x.T s j = some o) : Calls Tryz.prog 42 #[.pointer (some ⟨x.r,0,none⟩),.string s] w (Post x w rNone o):=by
  have HR:=Aside0.mk h
  unfold mustS at ho
  have HO:=Aside0.mk ho
  clear h ho
  go_enter Tryz.func42,Tryz.ntmps42
  go_wp2_with (first
    | (go_at_call 70; refine step_ x HO.out (fun o1 h1 => may_ x _ j HR.out s h1) (fun e k w' he hr hg => by subst he; exact ⟨rfl, rfl, hr, hg⟩) ?_; rintro a k v w1 hq rfl hr hg; cases a)
    | (go_at_call 36;injection hq with hq;subst hq;refine (fail_ x _ _ hr 5).mono ?_;rintro e w2 ⟨rfl,rfl⟩;exact ⟨rfl,rfl,hr,hg⟩))
  injection hq with hq
  subst hq
  refine bodyPost_end (results_none rfl _ _ _) rfl ?_
  exact ⟨_,rfl,rfl,hr,hg⟩
set_option maxRecDepth 100000 in
theorem of_ (x : Cx) (w : World) (j : Nat) (h : Rd x w j) (k : Int) {o : Out ByteArray} (ho : ofS x.T k j = some o) : Calls Tryz.prog 40 #[.pointer (some ⟨x.r,0,none⟩),.int .u8 k] w (Post x w rStr o):=by
  have HR:=Aside0.mk h
  have HF:=Aside0.mk (fail_ x w j h 5)
  obtain ⟨o',n,cc,c0,hn,hcc,t0,t1,t2,t3⟩:=h.head
  have hu71:=Tryz.underlying71
  have hu69:=Tryz.underlying69
  unfold ofS at ho
  clear h hcc t1 t2 t3
  by_cases hk : (tkAt x.T j).f0 = k
  · rw [if_pos hk] at ho
    rw [hk] at t0
    rw [← obind_ok (skipS x.T j)] at ho
    have HO:=Aside0.mk ho
    have hkk : (k == k) = true:=beq_self_eq_true k
    clear hk ho
    go_enter Tryz.func40,Tryz.ntmps40
    go_wp2_with (go_at_call 68; refine step_ x HO.out (fun o1 h1 => skip_ x _ j HR.out h1) (fun e k w' he hr hg => by subst he; exact ⟨rfl, rfl, hr, hg⟩) ?_; rintro a i v w1 hq rfl hr hg; injection hq with hq; subst hq)
    go_ret
    exact ⟨_,rfl,rfl,hr,hg⟩
  · rw [if_neg hk] at ho
    injection ho with ho
    subst ho
    obtain ⟨q,hq⟩ : ∃ q,(tkAt x.T j).f0 = q:=⟨_,rfl⟩
    rw [hq] at t0 hk
    clear hq
    have n1 : (q == k) = false:=beq_eq_false_iff_ne.2 hk
    have m1 : (q != k) = true:=bne_iff_ne.2 hk
    go_enter Tryz.func40,Tryz.ntmps40
    go_wp2_with (go_at_call 36;refine HF.out.mono ?_;rintro e w1 ⟨rfl,rfl⟩;exact ⟨rfl,rfl,HR.out,World.grownBy.refl _ _⟩)
set_option maxRecDepth 100000 in
theorem number_ (x : Cx) (w : World) (j : Nat) (hG : Tabs x.W0) (h : Rd x w j) {o : Out Int} (ho : numS x.T j = some o) : Calls Tryz.prog 41 #[.pointer (some ⟨x.r,0,none⟩)] w (Post x w rInt o):=by
  have HR:=Aside0.mk h
  have HT:=Aside0.mk hG
  unfold numS at ho
  have HO:=Aside0.mk ho
  clear h ho hG
  go_enter Tryz.func41,Tryz.ntmps41
  go_wp2_with (first
    | (go_at_call 40; refine step_ x HO.out (fun o1 h1 => of_ x _ j HR.out 2 h1) (fun e k w' he hr hg => by subst he; exact ⟨rfl, rfl, hr, hg⟩) ?_; rintro a k v w1 hq rfl hr hg; obtain ⟨⟨v1, v2⟩, hA, h2⟩ := Option.bind_eq_some_iff.mp hq; injection h2 with h2; subst h2; have HA := Aside0.mk hA; clear hA hq)
    | (go_at_call 69;refine (strconv_Atoi.calls a v1 v2 _ (HT.out.below hr.below) HA.out).mono ?_;rintro e w2 ⟨N,rfl,hb⟩))
  go_ret
  exact ⟨_,rfl,rfl,hr.below_ hb,hg.trans (grown_of_below hb _)⟩
set_option maxRecDepth 100000 in
theorem index_ (x : Cx) (w : World) (j : Nat) (h : Rd x w j) (ws : List ByteArray) (kb cap : Nat) (hk : Wd w kb ws) (hl : ws.length ≤ 1000) :
    Calls Tryz.prog 37 #[.slice (some ⟨kb, 0, none⟩) ws.length cap, .func (.func 38) #[.pointer (some ⟨x.r, 0, none⟩)] #[]] w fun e w' => e = .returned (.int .i64 (amongS x.T ws j)) ∧ w' = w := by
  have HI:=Aside0.mk (is_ x w j h)
  have HK:=Aside0.mk hk
  have HL:=Aside0.mk hl
  obtain ⟨n,hn⟩ : ∃ n,ws.length = n:=⟨_,rfl⟩
  have HN:=Aside0.mk hn
  rw [hn]
  clear h hk hn hl
  go_enter Tryz.func37,Tryz.ntmps37
  go_wp2_with fail
  go_loopg [8] n (fun g s8 wr=>∃ i : Nat,s8 = .int .i64 (i : Int) ∧ i ≤ n ∧ n - i ≤ g ∧ wr = w ∧ amongF x.T j (ws.drop i) i = amongS x.T ws j)
  case atStart=>exact ⟨0,rfl,Nat.zero_le _,Nat.le_refl _,rfl,rfl⟩
  case round =>
    obtain ⟨i,rfl,h1,h2,rfl,h3⟩:=hrel
    by_cases hlt : i < n
    · have hlt' : decide ((i : Int) < (n : Int)) = true := decide_eq_true (by omega)
      have hi0 : (0 ≤ (i : Int)) = True:=eq_true (by omega)
      have hi1 : ((i : Int) < (n : Int)) = True:=eq_true (by omega)
      have hi2 : (i < n) = True:=eq_true hlt
      have hi3 : decide (i < n) = true:=decide_eq_true hlt
      have ei : wrap64 ((i : Int) + 1) = ((i + 1 : Nat) : Int):=by have:=HL.out;have:=HN.out;unfold wrap64;omega
      have et : (i : Int).toNat = i:=Int.toNat_natCast i
      have hs:=HK.out i (by rw [HN.out];exact hlt)
      have hd : ws.drop i = ws.getD i ⟨#[]⟩ :: ws.drop (i + 1):=by
        rw [List.drop_eq_getElem_cons (by rw [HN.out];exact hlt),List.getD_eq_getElem?_getD,List.getElem?_eq_getElem (by rw [HN.out];exact hlt)]
        rfl
      rw [hd,amongF] at h3
      generalize ws.getD i ⟨#[]⟩ = s at *
      obtain ⟨g,rfl⟩ : ∃ g,gk = g + 1:=⟨gk - 1,by omega⟩
      cases hb : isS x.T s j with
      | true =>
        rw [if_pos hb] at h3
        have H3:=Aside0.mk h3
        clear h3 hd
        go_wp2_with (go_at_call 38;refine (HI.out s).mono ?_;rw [hb];rintro e w2 ⟨rfl,rfl⟩)
        go_ret
        exact ⟨by rw [← H3.out];rfl,rfl⟩
      | false =>
        rw [if_neg (by rw [hb];decide)] at h3
        have H3:=Aside0.mk h3
        clear h3 hd
        go_wp2_with (go_at_call 38;refine (HI.out s).mono ?_;rw [hb];rintro e w2 ⟨rfl,rfl⟩)
        go_roundg g
        case measure=>omega
        case rel=>exact ⟨i + 1,by first | rfl | rw [ei],by omega,by omega,rfl,H3.out⟩
    · have hlt' : decide ((i : Int) < (n : Int)) = false := decide_eq_false (by omega)
      have hi3 : decide (i < n) = false:=decide_eq_false hlt
      have hi4 : (i < n) = False:=eq_false hlt
      have hi5 : ((i : Int) < (n : Int)) = False:=eq_false (by omega)
      rw [List.drop_eq_nil_of_le (by rw [HN.out];omega),amongF] at h3
      have H3:=Aside0.mk h3
      clear h3
      go_wp2_with fail
      go_ret
      exact ⟨by rw [← H3.out];rfl,rfl⟩
set_option maxRecDepth 100000 in
theorem among_ (x : Cx) (w : World) (j : Nat) (h : Rd x w j) (ws : List ByteArray) (kb cap : Nat) (hk : Wd w kb ws) (hl : ws.length ≤ 1000) :
    Calls Tryz.prog 15 #[.pointer (some ⟨x.r, 0, none⟩), .slice (some ⟨kb, 0, none⟩) ws.length cap] w fun e w' => e = .returned (.int .i64 (amongS x.T ws j)) ∧ w' = w := by
  have HI:=Aside0.mk (index_ x w j h ws kb cap hk hl)
  generalize ws.length = n at *
  clear h hk hl
  go_enter Tryz.func15,Tryz.ntmps15
  go_wp2_with (go_at_call 37;refine HI.out.mono ?_;rintro e w2 ⟨rfl,rfl⟩)
  go_ret
  exact ⟨rfl,rfl⟩
set_option maxRecDepth 100000 in
theorem one_ (x : Cx) (w : World) (j : Nat) (h : Rd x w j) (ws : List ByteArray) (kb cap : Nat) (hk : Wd w kb ws) (hl : ws.length ≤ 200) {o : Out Int} (ho : oneS x.T ws j = some o) :
    Calls Tryz.prog 39 #[.pointer (some ⟨x.r,0,none⟩),.slice (some ⟨kb,0,none⟩) ws.length cap] w (Post x w rU8 o):=by
  have HI:=Aside0.mk (among_ x w j h ws kb cap hk (by omega))
  have HF:=Aside0.mk (fail_ x w j h 5)
  have HR:=Aside0.mk h
  have hle:=amongF_le x.T j ws 0
  have ha : amongF x.T j ws 0 = amongS x.T ws j:=rfl
  rw [ha] at hle
  have hb : -1 ≤ amongS x.T ws j ∧ amongS x.T ws j < 256:=by
    rcases hle with h1 | ⟨h1,h2⟩
    · omega
    · omega
  unfold oneS at ho
  generalize ws.length = n at *
  generalize amongS x.T ws j = q at *
  clear h hk hl hle ha
  by_cases hq : q < 0
  · rw [if_pos hq] at ho
    injection ho with ho
    subst ho
    have hd : decide (q < 0) = true:=decide_eq_true hq
    go_enter Tryz.func39,Tryz.ntmps39
    go_wp2_with (first
      | (go_at_call 15;refine HI.out.mono ?_;rintro e w2 ⟨rfl,rfl⟩)
      | (go_at_call 36;refine HF.out.mono ?_;rintro e w1 ⟨rfl,rfl⟩;exact ⟨rfl,rfl,HR.out,World.grownBy.refl _ _⟩))
  · rw [if_neg hq] at ho
    have HO:=Aside0.mk ho
    have hd : decide (q < 0) = false:=decide_eq_false hq
    have hw : IntKind.u8.wrap q = q:=by
      have:=hb.2
      simp [IntKind.wrap,IntKind.signed,IntKind.bits]
      omega
    have hw2 : q % 256 = q:=by have:=hb.2;omega
    clear ho hb
    go_enter Tryz.func39,Tryz.ntmps39
    go_wp2_with (first
      | (go_at_call 15;refine HI.out.mono ?_;rintro e w2 ⟨rfl,rfl⟩)
      | (go_at_call 68; refine step_ x HO.out (fun o1 h1 => skip_ x _ j HR.out h1) (fun e k w' he hr hg => by subst he; exact ⟨rfl, rfl, hr, hg⟩) ?_; rintro a i v w1 hq1 rfl hr hg; injection hq1 with hq1; subst hq1))
    go_ret
    exact ⟨_,rfl,rfl,hr,hg⟩
theorem sides_ (w : World) : Calls Tryz.prog 102 #[] w fun e w' => e = .returned (.slice (some ⟨w.heap.size, 0, none⟩) 4 4) ∧ w' = w.alloc (.cells (wSides.map Value.string).toArray 9) := by
  go_enter Tryz.func102,Tryz.ntmps102
  go_wp2
  go_ret
  exact ⟨rfl,rfl⟩
theorem zones_ (w : World) : Calls Tryz.prog 103 #[] w fun e w' => e = .returned (.slice (some ⟨w.heap.size, 0, none⟩) 6 6) ∧ w' = w.alloc (.cells (wZones.map Value.string).toArray 9) := by
  go_enter Tryz.func103,Tryz.ntmps103
  go_wp2
  go_ret
  exact ⟨rfl,rfl⟩
theorem kinds_ (w : World) : Calls Tryz.prog 16 #[] w fun e w' => e = .returned (.slice (some ⟨w.heap.size, 0, none⟩) 5 5) ∧ w' = w.alloc (.cells (wKinds.map Value.string).toArray 9) := by
  go_enter Tryz.func16,Tryz.ntmps16
  go_wp2
  go_ret
  exact ⟨rfl,rfl⟩
theorem modes_ (w : World) : Calls Tryz.prog 45 #[] w fun e w' => e = .returned (.slice (some ⟨w.heap.size, 0, none⟩) 7 7) ∧ w' = w.alloc (.cells (wModes.map Value.string).toArray 9) := by
  go_enter Tryz.func45,Tryz.ntmps45
  go_wp2
  go_ret
  exact ⟨rfl,rfl⟩
theorem events_ (w : World) : Calls Tryz.prog 71 #[] w fun e w' => e = .returned (.slice (some ⟨w.heap.size, 0, none⟩) 8 8) ∧ w' = w.alloc (.cells (wEvents.map Value.string).toArray 9) := by
  go_enter Tryz.func71,Tryz.ntmps71
  go_wp2
  go_ret
  exact ⟨rfl,rfl⟩
theorem signs_ (w : World) : Calls Tryz.prog 92 #[] w fun e w' => e = .returned (.slice (some ⟨w.heap.size, 0, none⟩) 8 8) ∧ w' = w.alloc (.cells (wSigns.map Value.string).toArray 9) := by
  go_enter Tryz.func92,Tryz.ntmps92
  go_wp2
  go_ret
  exact ⟨rfl,rfl⟩
end Go.Proofs.YtmgdkkkkanjadaaGreatDoor.HandA
