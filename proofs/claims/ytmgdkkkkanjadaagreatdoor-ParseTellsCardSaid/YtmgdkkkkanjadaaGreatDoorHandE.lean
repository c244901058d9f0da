/-
  parse's table of steps: a map of the call's own, by its rows. Conditions: none.
-/
import Derived.Test.YtmgdkkkkanjadaaGreatDoorHandD
import Derived.Maps.Own
namespace Go.Proofs.YtmgdkkkkanjadaaGreatDoor.HandE
set_option linter.unusedVariables false
set_option linter.unusedSimpArgs false
open Go.RowKit Go.Shelf Go.Lib Go.Proofs.YtmgdkkkkanjadaaGreatDoorW.PrintWords Go.Proofs.YtmgdkkkkanjadaaGreatDoorW.PrintLast Go.Proofs.YtmgdkkkkanjadaaGreatDoorW.PrintMore Go.Proofs.YtmgdkkkkanjadaaGreatDoor.X Go.Proofs.YtmgdkkkkanjadaaGreatDoor.HandS Go.Proofs.YtmgdkkkkanjadaaGreatDoor.HandA

abbrev Row:=ByteArray × Value
def ents : List Row → Nat → List MapEntry
  | [],_=>[]
  | x :: l,i=>{ key:=.string x.1,val:=x.2,born:=i } :: ents l (i + 1)
def lookT : List Row → ByteArray → Nat → Option (Nat × Value)
  | [],_,_=>none
  | x :: l,s,i=>if s = x.1 then some (i,x.2) else lookT l s (i + 1)
theorem find_rows (s : ByteArray) : ∀ (l : List Row) (k i : Nat),Instr.findNow .string (.string s) (ents l k) i = some (lookT l s i):=by
  intro l
  induction l with
  | nil=>intro k i;rfl
  | cons x l ih =>
    intro k i
    rw [ents,lookT]
    by_cases h : s = x.1
    · have : (s == x.1) = true:=(MapKept.bytes_beq _ _).2 h
      rw [if_pos h]
      simp only [Instr.findNow,Instr.sameNow,this]
    · have : (s == x.1) = false:=Bool.eq_false_iff.2 (fun e=>h ((MapKept.bytes_beq _ _).1 e))
      simp [Instr.findNow,Instr.sameNow,this,h,ih]
theorem ents_push (s : ByteArray) (v : Value) : ∀ (l : List Row) (k : Nat),ents l k ++ [{ key:=.string s,val:=v,born:=k + l.length }] = ents (l ++ [(s,v)]) k:=by
  intro l
  induction l with
  | nil=>intro k;rfl
  | cons x l ih =>
    intro k
    have h:=ih (k + 1)
    rw [List.cons_append,ents,ents,List.cons_append,← h,List.length_cons,show k + 1 + l.length = k + (l.length + 1) by omega]
theorem gate_insert {P : Program} {ops : Array Oper} {dst : Option Tmp} {t : TypeId} {m x y : Operand} {ty : TypeId} {po : String} {af : Array Edge} {gd : Option (Tmp × Bool)} {rest : List Oper} {a : Act} {Q : Exit → Act → World → Prop} {W : World} (h : wpList P ops Q ({ dst:=dst,op:=.insert t m x y,type:=ty,pos:=po,after:=af,guard:=gd } :: rest) a W) : wpList P ops Q ({ dst:=dst,op:=.insert t m x y,type:=ty,pos:=po,after:=af,guard:=gd } :: rest) a W:=h
/-- the block b holds the map of these rows -/
def MapIs (W : World) (b : Nat) (l : List Row) : Prop:=W.heap[b]? = some (.map (ents l 0).toArray l.length)
theorem MapIs.new (W : World) : MapIs (W.alloc (.map #[] 0)) W.heap.size []:=blk_new W _
theorem MapIs.lt {W : World} {b : Nat} {l : List Row} (h : MapIs W b l) : b < W.heap.size:=blk_lt h
theorem MapIs.below {W W' : World} {b : Nat} {l : List Row} (h : MapIs W b l) (hb : Below W.heap.size W W') : MapIs W' b l := blk_below h hb
theorem u109 : Tryz.prog.underlying 109 = some (.map 9 107):=by kernel_rfl
theorem u9 : Tryz.prog.underlying 9 = some .string:=by kernel_rfl
section
variable {ops : Array Oper} {rest : List Oper} {o : Oper} {a : Act} {Q : Exit → Act → World → Prop}
theorem put_ {W : World} (hgd : o.guard = none) {m x y : Operand} (ho : o.op = .insert 109 m x y) (hN : o.dst = none) (b : Nat) (l : List Row) (s : ByteArray) (v : Value) (hm : a.eval m = .map (some b)) (hx : a.eval x = .string s) (hy : a.eval y = v)
    (hb : MapIs W b l) (hl : lookT l s 0 = none)
    (h : ∀ W1,MapIs W1 b (l ++ [(s,v)]) → W.grownBy W1 (some b) → wpList Tryz.prog ops Q rest a W1) : wpList Tryz.prog ops Q (o :: rest) a W:=by
  have hf:=find_rows s l 0 0
  rw [hl] at hf
  refine wpList_plain hgd fun K' hK' => ?_
  have hrun : (Instr.mapUpdate 109 (.map (some b)) (.string s) v).run Tryz.prog W = .ok () { W with heap:=W.heap.setIfInBounds b (.map (ents (l ++ [(s,v)]) 0).toArray (l.length + 1)) }:=by
    have e : ((ents l 0).toArray.push { key:=.string s,val:=v,born:=l.length }) = (ents (l ++ [(s,v)]) 0).toArray:=by
      rw [← ents_push s v l 0,Nat.zero_add]
      simp
    simp [Instr.mapUpdate,run_underlying u109,MapKept.run_getObj_map hb,MapKept.run_checkKey u9 (show MapKept.IsKey .string (.string s) from trivial),MapKept.run_findKey u9 hf,MapKept.run_setObj_map _ hb,Result.andThen,e]
  have hh := MapKept.heap_set (o' := .map (ents (l ++ [(s, v)]) 0).toArray (l.length + 1)) hb
  have hd : a.put o.dst undef = a:=by rw [hN];rfl
  unfold Oper.wp
  simp [execOp,ho,hm,hx,hy,hrun,Result.andThen]
  have hk := fun W1 h1 h2 => hK' _ _ (hd.symm ▸ h W1 h1 h2)
  exact hk _ (by
    unfold MapIs
    rw [List.length_append]
    exact hh.1) ⟨rfl,rfl,rfl,by simp,fun i _ hi=>hh.2 i (fun e=>hi (by rw [e]))⟩
end
theorem info107 : (Tryz.prog.info? 107).map (fun i=>i.zero) = some (some (.agg #[.int .u8 0,.nilFunc])):=by kernel_rfl
theorem zero107 (W : World) : (zeroValue 107).run Tryz.prog W = .ok (.agg #[.int .u8 0,.nilFunc]) W:=by
  obtain ⟨i0,hi,hz⟩:=Option.map_eq_some_iff.1 info107
  unfold zeroValue
  have hz' : Tryz.t107.zero = some (.agg #[.int .u8 0, .nilFunc]) := by kernel_rfl
  simp [hz',Result.andThen]
theorem get_some {W : World} {b : Nat} {l : List Row} (hb : MapIs W b l) {s : ByteArray} {i : Nat} {v : Value} (hl : lookT l s 0 = some (i,v)) (c : Bool) :
    (Instr.lookup 109 (.map (some b)) (.string s) c).run Tryz.prog W = .ok (if c then .tuple #[v,.bool true] else v) W:=by
  have hf:=find_rows s l 0 0
  rw [hl] at hf
  cases h : (ents l 0).toArray.isEmpty <;> cases c <;> simp [Instr.lookup,run_underlying u109,MapKept.run_getObj_map hb,MapKept.run_checkKey u9 (show MapKept.IsKey .string (.string s) from trivial),MapKept.run_findKey u9 hf,Result.andThen]
theorem get_none {W : World} {b : Nat} {l : List Row} (hb : MapIs W b l) {s : ByteArray} (hl : lookT l s 0 = none) (c : Bool) :
    (Instr.lookup 109 (.map (some b)) (.string s) c).run Tryz.prog W = .ok (if c then .tuple #[.agg #[.int .u8 0,.nilFunc],.bool false] else .agg #[.int .u8 0,.nilFunc]) W:=by
  have hf:=find_rows s l 0 0
  rw [hl] at hf
  cases h : (ents l 0).toArray.isEmpty <;> cases c <;> simp [Instr.lookup,run_underlying u109,MapKept.run_getObj_map hb,MapKept.run_checkKey u9 (show MapKept.IsKey .string (.string s) from trivial),MapKept.run_findKey u9 hf,zero107,Result.andThen]
abbrev fnv (f : Nat) : Value:=.func (.func f) #[] #[]
def rowsT : List Row:=[(⟨#[100,114,97,119]⟩,.agg #[.int .u8 0,fnv 104]),(⟨#[109,105,108,108]⟩,.agg #[.int .u8 1,fnv 104]),(⟨#[100,97,109,97,103,101]⟩,.agg #[.int .u8 2,fnv 104]),(⟨#[104,101,97,108]⟩,.agg #[.int .u8 3,fnv 104]),(⟨#[116,111,107,101,110]⟩,.agg #[.int .u8 9,fnv 104]),
  (⟨#[100,101,115,116,114,111,121]⟩,.agg #[.int .u8 4,fnv 105]),(⟨#[98,97,110,105,115,104]⟩,.agg #[.int .u8 5,fnv 105]),(⟨#[98,111,117,110,99,101]⟩,.agg #[.int .u8 6,fnv 105]),(⟨#[114,101,118,105,118,101]⟩,.agg #[.int .u8 8,fnv 105]),(⟨#[98,111,111,115,116]⟩,.agg #[.int .u8 7,fnv 106]),(⟨#[110,101,103,97,116,101]⟩,.agg #[.int .u8 10,fnv 107])]
set_option maxRecDepth 100000 in
theorem steps_ (w : World) : Calls Tryz.prog 78 #[] w fun e w' => ∃ b, e = .returned (.map (some b)) ∧ MapIs w' b rowsT ∧ Below w.heap.size w w' ∧ w.heap.size ≤ b := by
  have hmm:=@run_makeMap Tryz.prog
  have HM:=Aside0.mk (MapIs.new w)
  have HB:=Aside0.mk (below_alloc (Below.refl w.heap.size w) (.map #[] 0))
  go_enter Tryz.func78,Tryz.ntmps78
  go_wp2_with ((with_reducible refine gate_insert ?_);refine put_ rfl rfl rfl w.heap.size _ _ _ rfl rfl rfl HM.out (by kernel_rfl) ?_;intro w1 hm hg;have HM:=Aside0.mk hm;have HB:=Aside0.mk (pw_below_grown HB.out (some w.heap.size) HB.out.size hg (fun k e=>by cases e;exact Nat.le_refl _));clear hm hg)
  go_ret
  exact ⟨_,rfl,HM.out,HB.out,Nat.le_refl _⟩
end Go.Proofs.YtmgdkkkkanjadaaGreatDoor.HandE
