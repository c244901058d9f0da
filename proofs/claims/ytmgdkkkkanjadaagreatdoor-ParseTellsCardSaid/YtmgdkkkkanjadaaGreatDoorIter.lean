/-
  'for at, c := range s' over a string, as the walk of a printed text meets it: the iterator is laid, and drawn from. Conditions: none.
-/
import Derived.Test.YtmgdkkkkanjadaaGreatDoorV0
import Derived.Lib.OthersKept
namespace Go.Proofs.YtmgdkkkkanjadaaGreatDoor.Iter
set_option linter.unusedVariables false
set_option linter.unusedSimpArgs false
open Go.RowKit Go.Proofs.YtmgdkkkkanjadaaGreatDoorW.PrintWords Go.Proofs.YtmgdkkkkanjadaaGreatDoorW.PrintLast Go.Proofs.YtmgdkkkkanjadaaGreatDoorW.PrintMore

/-- On texts, to be at most another one is not to be above it. -/
theorem leq_flip (a : List UInt8) : ∀ b : List UInt8,(Op.bytesLess a b || a == b) = !(Op.bytesLess b a):=by
  induction a with
  | nil =>
    intro b
    cases b with
    | nil=>rfl
    | cons y b=>rfl
  | cons x a ih =>
    intro b
    cases b with
    | nil=>rfl
    | cons y b =>
      have h:=ih b
      simp only [Op.bytesLess,List.cons_beq_cons]
      by_cases h1 : x = y
      · subst h1
        simp only [beq_self_eq_true,Bool.true_and,UInt8.lt_irrefl,decide_false,Bool.false_or]
        exact h
      · have e1 : (x == y) = false:=beq_eq_false_iff_ne.2 h1
        have e2 : (y == x) = false:=beq_eq_false_iff_ne.2 (fun e=>h1 e.symm)
        rw [e1,e2,Bool.false_and,Bool.or_false,Bool.false_and,Bool.or_false,Bool.false_and,Bool.or_false]
        by_cases h2 : x < y
        · rw [decide_eq_true h2,decide_eq_false (by rw [UInt8.lt_iff_toNat_lt] at h2 ⊢;omega)];rfl
        · have h3 : y < x:=by
            rw [UInt8.lt_iff_toNat_lt] at h2 ⊢
            have : x.toNat ≠ y.toNat:=fun e=>h1 (UInt8.toNat_inj.1 e)
            omega
          rw [decide_eq_false h2,decide_eq_true h3];rfl
theorem gtr_flip (a b : List UInt8) : (!(Op.bytesLess a b || a == b)) = Op.bytesLess b a:=by rw [leq_flip,Bool.not_not]
attribute [go_sem] leq_flip gtr_flip
/-- What is drawn behind p bytes: is there a rune, where, which, and how far the iterator is then. -/
def rune_next.f (s : ByteArray) (p : Int) : Option (Bool × Int × Int × Int) :=
  if p.toNat < s.size then some (true,(p.toNat : Int),((Utf8.decode s p.toNat).1 : Int),((p.toNat + (Utf8.decode s p.toNat).2 : Nat) : Int)) else some (false,0,0,p)

theorem grown_iterAt (W : World) (k : Nat) (s : ByteArray) (q : Nat) : W.grownBy (W.iterAt k s q) (some k) :=
  ⟨rfl,rfl,rfl,by rw [Lib.iterAt_size];exact Nat.le_refl _,fun j _ hj=>Lib.iterAt_other W k j s q (fun e=>hj (by rw [e]))⟩

section
variable {P : Program} {W : World} {k : Nat} {s : ByteArray} {p a0 c q : Int}
theorem run_next_t (ty : TypeId) (hk : W.heap[k]? = some (.stringIter s (Int.toNat p))) (h : rune_next.f s p = some (true,a0,c,q)) :
    (Instr.next (.pointer (some ⟨k,0,none⟩)) true ty).run P W = .ok (.tuple #[.bool true,.int .i64 a0,.int .i32 c]) (W.iterAt k s q.toNat):=by
  unfold rune_next.f at h
  split at h
  · rename_i hp
    rw [Lib.run_next_any_at W k s p.toNat ty hk hp]
    injection h with h
    simp only [Prod.mk.injEq,true_and] at h
    obtain ⟨rfl,rfl,rfl⟩:=h
    rfl
  · injection h with h
    simp at h
theorem run_next_f (ty : TypeId) (hk : W.heap[k]? = some (.stringIter s (Int.toNat p))) (h : rune_next.f s p = some (false,a0,c,q)) :
    (Instr.next (.pointer (some ⟨k,0,none⟩)) true ty).run P W = .ok (.tuple #[.bool false]) W ∧ q = p:=by
  unfold rune_next.f at h
  split at h
  · injection h with h
    simp at h
  · rename_i hp
    injection h with h
    simp only [Prod.mk.injEq,true_and] at h
    exact ⟨Lib.run_next_end_at W k s p.toNat ty hk hp,h.2.2.symm⟩
end

section
variable {P : Program} {ops : Array Oper} {rest : List Oper} {o : Oper} {a : Act} {Q : Exit → Act → World → Prop}
theorem range_event {W : World} (hgd : o.guard = none) {N : Tmp} (_hd : o.dst = some N) {s : ByteArray}
    (hrun : (execOp a.eval o).run P W = .ok (.value (.pointer (some ⟨W.heap.size,0,none⟩))) (W.iter s 0))
    (h : ∀ g,g = W.heap.size → ∀ w1,w1.heap[g]? = some (.stringIter s (Int.toNat 0)) → Below W.heap.size W w1 → wpList P ops Q rest (a.put o.dst (.pointer (some ⟨g,0,none⟩))) w1) : wpList P ops Q (o :: rest) a W :=
  Kd.event_run hgd hrun (h _ rfl _ (World.iter_heap W s 0) (below_alloc (Below.refl _ _) _))
theorem next_event_t {W : World} (hgd : o.guard = none) {N : Tmp} (_hd : o.dst = some N) {k : Nat} {s : ByteArray} {p a0 c q : Int}
    (hk : W.heap[k]? = some (.stringIter s (Int.toNat p))) (hf : rune_next.f s p = some (true,a0,c,q))
    (hrun : (execOp a.eval o).run P W = .ok (.value (.tuple #[.bool true,.int .i64 a0,.int .i32 c])) (W.iterAt k s q.toNat))
    (h : ∀ w1,W.grownBy w1 (some k) → w1.heap[k]? = some (.stringIter s (Int.toNat q)) → wpList P ops Q rest (a.put o.dst (.tuple #[.bool true,.int .i64 a0,.int .i32 c])) w1) : wpList P ops Q (o :: rest) a W :=
  Kd.event_run hgd hrun (h _ (grown_iterAt W k s q.toNat) (Lib.iterAt_heap W k s _ _ hk))
theorem next_event_f {W : World} (hgd : o.guard = none) {N : Tmp} (_hd : o.dst = some N) {k : Nat} {s : ByteArray} {p a0 c q : Int}
    (hk : W.heap[k]? = some (.stringIter s (Int.toNat p))) (hf : rune_next.f s p = some (false,a0,c,q))
    (hrun : (execOp a.eval o).run P W = .ok (.value (.tuple #[.bool false])) W)
    (h : ∀ w1,W.grownBy w1 (some k) → w1.heap[k]? = some (.stringIter s (Int.toNat q)) → wpList P ops Q rest (a.put o.dst (.tuple #[.bool false])) w1) : wpList P ops Q (o :: rest) a W :=
  Kd.event_run hgd hrun (h _ ⟨rfl,rfl,rfl,Nat.le_refl _,fun _ _ _=>rfl⟩ (by rw [(run_next_f (P:=P) 0 hk hf).2];exact hk))
end

section
variable {α : Type} {d : Kd α} {e base g pos : Nat} {ok : Nat → Prop} {w w1 : World} {v : Value} {xs : List α} {s : ByteArray}
theorem tyR_it (h : d.R e w base ok v xs) (hb : w.heap[g]? = some (.stringIter s pos)) : d.R e w base (fun k=>ok k ∧ k ≠ g) v xs :=
  Kd.R_mono (Kd.R_bound h) (fun k hk=>⟨hk.1,by
    obtain ⟨_,_,_,q,hq,cells',hc⟩:=hk
    rintro rfl
    rw [hc] at hb
    injection hb with hb
    cases hb⟩)
theorem neR_it (h : d.R e w base ok v xs) (hb : w.heap[g]? = some (.stringIter s pos)) : some g ≠ v.ownBlock:=fun he=>((tyR_it h hb).1 g he.symm).2 rfl
theorem itR (h : d.R e w base ok v xs) (hb : w.heap[g]? = some (.stringIter s pos)) (hg : w.grownBy w1 (some g)) : d.R e w1 base ok v xs :=
  Kd.R_mono (Kd.R_grown (tyR_it h hb) hg (fun k hk e=>hk.2 (by injection e))) (fun _ hk=>hk.1)
theorem it_far {o : Obj} (h : w.heap[g]? = some o) {p : Addr} (hp : g ≠ p.block) (u : Value) : (w.setCell p u).heap[g]? = some o:=(Below.heap_setCell w p u g hp).trans h
end
end Go.Proofs.YtmgdkkkkanjadaaGreatDoor.Iter
