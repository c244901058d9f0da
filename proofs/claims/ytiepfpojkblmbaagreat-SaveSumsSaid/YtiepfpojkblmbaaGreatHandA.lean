/- The writer at a thing of zeros: each method appends one zero byte. -/
import Derived.Test.YtiepfpojkblmbaaGreatHandT
namespace Go.Proofs.YtiepfpojkblmbaaGreat.HandA
set_option linter.unusedVariables false
set_option linter.unusedSimpArgs false
open Go.RowKit Go.Lib Go.Proofs.YtiepfpojkblmbaaGreatW.PrintWords Go.Proofs.YtiepfpojkblmbaaGreatW.PrintLast Go.Proofs.YtiepfpojkblmbaaGreatW.PrintMore Go.Proofs.YtiepfpojkblmbaaGreat.U Go.Proofs.YtiepfpojkblmbaaGreat.HandQ

/-- all blocks but p and the rows of bytes from B on are as they were -/
structure Kw (B p : Nat) (W w1 : World) : Prop where
  os : w1.os = W.os
  tape : w1.tape = W.tape
  output : w1.output = W.output
  size : W.heap.size ≤ w1.heap.size
  block : ∀ j, j < W.heap.size → j ≠ p → (j < B ∨ ∀ cs fr, W.heap[j]? ≠ some (.cells cs 5 fr)) → w1.heap[j]? = W.heap[j]?
theorem Kw.refl (B p : Nat) (W : World) : Kw B p W W := ⟨rfl, rfl, rfl, Nat.le_refl _, fun _ _ _ _ => rfl⟩
theorem Kw.trans {B p : Nat} {W w1 w2 : World} (h : Kw B p W w1) (k : Kw B p w1 w2) : Kw B p W w2 :=
  ⟨k.os.trans h.os, k.tape.trans h.tape, k.output.trans h.output, Nat.le_trans h.size k.size, fun j hj hp hc => by
    have h1 := h.block j hj hp hc
    rw [k.block j (Nat.lt_of_lt_of_le hj h.size) hp (by rw [h1]; exact hc), h1]⟩
theorem Kw.alloc {B p : Nat} {W w1 : World} (h : Kw B p W w1) (o : Obj) : Kw B p W (w1.alloc o) :=
  h.trans ⟨rfl, rfl, rfl, (below_alloc (Below.refl w1.heap.size w1) o).size, fun j hj _ _ => (below_alloc (Below.refl w1.heap.size w1) o).block j hj⟩
theorem Kw.set_ {B p : Nat} {W w1 : World} (h : Kw B p W w1) (i : Nat) (v : Value) : Kw B p W (w1.setCell ⟨p, i, none⟩ v) :=
  h.trans ⟨rfl, rfl, rfl, by simp [World.setCell], fun j hj hp _ => by simp [World.setCell, Array.getElem?_modify, Ne.symm hp]⟩
/-- the writer has written m zero bytes -/
structure Wr (B p : Nat) (W : World) (m : Nat) : Prop where
  pB : p < B
  size : B ≤ W.heap.size
  few : m ≤ 1000
  row : ∃ v, W.heap[p]? = some (.cells #[v, .bool false] 51 (0, 0)) ∧ W.ownsRow B 5 1 v m (nums .u8 (List.replicate m 0))
/-- behind an append of a zero to the row -/
theorem Kw.grown {B p : Nat} {W w1 : World} {v : Value} {m : Nat} {xs : List Value} (ho : W.ownsRow B 5 1 v m xs) (hg : W.grownBy w1 v.ownBlock) : Kw B p W w1 :=
  ⟨hg.os, hg.tape, hg.output, hg.size, fun j hj hp hc => hg.block j hj (fun e => by
    rcases ho.2 with ⟨rfl, _⟩ | ⟨g, cap, cur, rfl, hB, hh, _⟩
    · cases e
    · have : j = g := Option.some.inj e
      subst this
      rcases hc with h | h
      · omega
      · exact h _ _ hh)⟩
theorem Kw.blk {B p : Nat} {W w1 : World} (h : Kw B p W w1) {j : Nat} {cs : Array Value} {t : TypeId} {fr : Nat × Nat} (hj : W.heap[j]? = some (.cells cs t fr)) (hp : j ≠ p) (hc : j < B ∨ t ≠ 5) : w1.heap[j]? = some (.cells cs t fr) := by
  rw [h.block j (blk_lt hj) hp (hc.imp id fun ht cs' fr' e => by rw [hj] at e; injection e with e; injection e with _ e; exact ht e), hj]
section
variable {ops : Array Oper} {rest : List Oper} {o : Oper} {a : Act} {Q : Exit → Act → World → Prop}
/-- one zero byte more in the own row -/
theorem zero_event {B p : Nat} {W : World} (hgd : o.guard = none) {s x : Operand} (hop : o.op = .call { callee := .builtin .append, args := #[s, x], argTypes := #[22, 22] })
    {v : Value} {m : Nat} (HO : W.ownsRow B 5 1 v m (nums .u8 (List.replicate m 0))) (hB : B ≤ W.heap.size) (hm : m ≤ 1000) (hs : a.eval s = v) (hx : a.eval x = .slice (some ⟨W.heap.size, 0, none⟩) 1 1)
    (h : ∀ v1 w1, w1.ownsRow B 5 1 v1 (m + 1) (nums .u8 (List.replicate (m + 1) 0)) → Kw B p W w1 → (∀ (cs : Array Value) (t : TypeId), t ≠ 5 → ∀ g : Nat, W.heap[g]? = some (Obj.cells cs t (0, 0)) → w1.heap[g]? = some (Obj.cells cs t (0, 0))) → wpList Tryz.prog ops Q rest (a.put o.dst v1) w1) :
    wpList Tryz.prog ops Q (o :: rest) a (W.alloc (.cells #[.int .u8 0] 5)) := by
  have hlen : (List.replicate m (0 : Int)).length = m := List.length_replicate
  refine print_append_num (w0 := W) B hgd s x 22 5 .u8 1 hop Tryz.underlying22 info5 (by decide) v (List.replicate m 0) 0 hs hx (by rw [hlen]; exact HO) (Below.refl _ _) hB (by rw [hlen]; omega) ?_
  intro v1 w1 h1 _ hg _
  have hr : List.replicate m (0 : Int) ++ [0] = List.replicate (m + 1) 0 := (List.replicate_succ' ..).symm
  rw [hr, List.length_replicate] at h1
  refine h v1 w1 h1 (Kw.grown HO hg) fun cs t ht g hh => ?_
  rw [hg.block g (blk_lt hh) (own_ne HO hh (Ne.symm ht)), hh]
end
theorem wr_put {B p : Nat} {w1 : World} {m : Nat} {v v1 : Value} (hp : p < B) (hB : B ≤ w1.heap.size) (hm : m ≤ 1000) (h : w1.heap[p]? = some (.cells #[v, .bool false] 51 (0, 0))) (h1 : w1.ownsRow B 5 1 v1 m (nums .u8 (List.replicate m 0))) :
    Wr B p (w1.setCell ⟨p, 0, none⟩ v1) m :=
  ⟨hp, by simpa [World.setCell] using hB, hm, v1, (blk_set h 0 v1).trans rfl, own_setCell (p := ⟨p, 0, none⟩) h1 (own_ne h1 h (by decide)) v1⟩
set_option maxHeartbeats 1000000 in
theorem number (B p : Nat) (W : World) (m : Nat) (h : Wr B p W m) (hm : m < 999) (ad : Addr) (hc : W.cell? ad = some (.int .i64 0)) :
    Calls Tryz.prog 39 #[.pointer (some ⟨p, 0, none⟩), .pointer (some ad)] W fun e w' => e = .returned (.tuple #[]) ∧ Wr B p w' (m + 1) ∧ Kw B p W w' := by
  obtain ⟨hpB, hsz, hfew, v, hp, hown⟩ := h
  have hp0 : W.cell? ⟨p, 0, none⟩ = some v := (blk_cell hp 0).trans rfl
  have HB := Aside0.mk hsz
  have HO := Aside0.mk hown
  have HP := Aside0.mk hp
  have HPB := Aside0.mk hpB
  have HF := Aside0.mk hfew
  have HM := Aside0.mk hm
  clear hsz hown hp hpB hfew hm
  go_enter Tryz.func39, Tryz.ntmps39
  go_wp2
  go_loopg [4] 1 (fun g s4 wr => s4 = .int .u64 0 ∧ wr = W)
  case atStart => exact ⟨rfl, rfl⟩
  case round =>
    obtain ⟨rfl, rfl⟩ := hrel
    go_wp2_with ((with_reducible refine gate_dst (N := 57) rfl ?_); refine zero_event (B := B) (p := p) rfl rfl HO.out HB.out HF.out rfl rfl ?_; rintro v1 w1 h1 hk hc2; obtain ⟨A1, c1, rfl⟩ := own_slice h1; have hp1 := hc2 _ 51 (by decide) _ HP.out; have hf1 := blk_frozen hp1 0; have hp2 := blk_cell hp1 0)
    refine bodyPost_end (results_none rfl _ _ _) rfl ?_
    exact ⟨rfl, wr_put HPB.out (Nat.le_trans HB.out hk.size) (Nat.le_of_lt_succ (Nat.succ_lt_succ (Nat.lt_trans HM.out (by decide)))) hp1 h1, hk.set_ 0 _⟩
theorem Wr.below {B p : Nat} {W w1 : World} {m : Nat} (h : Wr B p W m) (hb : Below W.heap.size W w1) : Wr B p w1 m := by
  obtain ⟨h1, h2, h3, v, h4, h5⟩ := h
  exact ⟨h1, Nat.le_trans h2 hb.size, h3, v, by rw [hb.block p (blk_lt h4)]; exact h4, pw_own_below h5 hb⟩
theorem Kw.below {B p : Nat} {W w1 : World} (hb : Below W.heap.size W w1) : Kw B p W w1 := ⟨hb.os, hb.tape, hb.output, hb.size, fun j hj _ _ => hb.block j hj⟩
theorem Wr.bad {B p : Nat} {W : World} {m : Nat} (h : Wr B p W m) : Wr B p (W.setCell ⟨p, 1, none⟩ (.bool false)) m := by
  obtain ⟨h1, h2, h3, v, h4, h5⟩ := h
  exact ⟨h1, by simpa [World.setCell] using h2, h3, v, (blk_set h4 1 (.bool false)).trans rfl, own_setCell (p := ⟨p, 1, none⟩) h5 (own_ne h5 h4 (by decide)) _⟩
set_option maxHeartbeats 1000000 in
theorem truth (B p : Nat) (W : World) (m : Nat) (h : Wr B p W m) (hm : m < 999) (ad : Addr) (hc : W.cell? ad = some (.bool false)) :
    Calls Tryz.prog 41 #[.pointer (some ⟨p, 0, none⟩), .pointer (some ad)] W fun e w' => e = .returned (.tuple #[]) ∧ Wr B p w' (m + 1) ∧ Kw B p W w' := by
  obtain ⟨hpB, hsz, hfew, v, hp, hown⟩ := h
  have hp0 : W.cell? ⟨p, 0, none⟩ = some v := (blk_cell hp 0).trans rfl
  have HB := Aside0.mk hsz
  have HO := Aside0.mk hown
  have HP := Aside0.mk hp
  have HPB := Aside0.mk hpB
  have HF := Aside0.mk hfew
  have HM := Aside0.mk hm
  clear hsz hown hp hpB hfew hm
  go_enter Tryz.func41, Tryz.ntmps41
  go_wp2_with ((with_reducible refine gate_dst (N := 15) rfl ?_); refine zero_event (B := B) (p := p) rfl rfl HO.out HB.out HF.out rfl rfl ?_; rintro v1 w1 h1 hk hc2; obtain ⟨A1, c1, rfl⟩ := own_slice h1; have hp1 := hc2 _ 51 (by decide) _ HP.out; have hf1 := blk_frozen hp1 0; have hp2 := blk_cell hp1 0)
  refine bodyPost_end (v := .tuple #[]) ?hv ?hd ?_
  case hv => exact results_none rfl _ _ _
  case hd => rfl
  exact ⟨rfl, wr_put HPB.out (Nat.le_trans HB.out hk.size) (Nat.le_of_lt_succ (Nat.succ_lt_succ (Nat.lt_trans HM.out (by decide)))) hp1 h1, hk.set_ 0 _⟩
set_option maxHeartbeats 1000000 in
theorem small (B p : Nat) (W : World) (m : Nat) (h : Wr B p W m) (hm : m < 999) (ad : Addr) (hc : W.cell? ad = some (.int .u8 0)) :
    Calls Tryz.prog 40 #[.pointer (some ⟨p, 0, none⟩), .pointer (some ad)] W fun e w' => e = .returned (.tuple #[]) ∧ Wr B p w' (m + 1) ∧ Kw B p W w' := by
  have hb : Below W.heap.size W (W.alloc (.cells #[.int .i64 0] 3)) := below_alloc (Below.refl _ _) _
  have hx : (W.alloc (.cells #[.int .i64 0] 3)).cell? ⟨W.heap.size, 0, none⟩ = some (.int .i64 0) := (blk_cell (blk_new W _) 0).trans rfl
  have HN := Aside0.mk (number B p _ m (h.below hb) hm ⟨W.heap.size, 0, none⟩ hx)
  have HK := Aside0.mk (Kw.below (B := B) (p := p) hb)
  clear h hb hx hm
  go_enter Tryz.func40, Tryz.ntmps40
  go_wp2_with ((with_reducible refine Calls.mono HN.out ?_); rintro e w2 ⟨rfl, h2, h3⟩)
  refine bodyPost_end (results_none rfl _ _ _) rfl ?_
  exact ⟨rfl, h2, HK.out.trans h3⟩
set_option maxHeartbeats 1000000 in
theorem count (B p : Nat) (W : World) (m : Nat) (h : Wr B p W m) (hm : m < 999) :
    Calls Tryz.prog 37 #[.pointer (some ⟨p, 0, none⟩), .int .i64 0] W fun e w' => e = .returned (.int .i64 0) ∧ Wr B p w' (m + 1) ∧ Kw B p W w' := by
  have hb : Below W.heap.size W (W.alloc (.cells #[.int .i64 0] 3)) := below_alloc (Below.refl _ _) _
  have h1 := h.below hb
  have hpl : p < W.heap.size := Nat.lt_of_lt_of_le h.pB h.size
  obtain ⟨_, _, _, v, hp, _⟩ := h1
  have c1 : (W.alloc (.cells #[.int .i64 0] 3)).cell? ⟨p, 1, none⟩ = some (.bool false) := (blk_cell hp 1).trans rfl
  have f1 := blk_frozen hp 1
  have hxb : ((W.alloc (.cells #[.int .i64 0] 3)).setCell ⟨p, 1, none⟩ (.bool false)).heap[W.heap.size]? = some (.cells #[.int .i64 0] 3 (0, 0)) := blk_far (blk_new W _) (p := ⟨p, 1, none⟩) (Nat.ne_of_gt hpl) _
  have HN := Aside0.mk (number B p _ m (h.below hb).bad hm ⟨W.heap.size, 0, none⟩ ((blk_cell hxb 0).trans rfl))
  have HK := Aside0.mk ((Kw.below (B := B) (p := p) hb).set_ 1 (.bool false))
  have HX := Aside0.mk hxb
  have HNE := Aside0.mk (Nat.ne_of_gt hpl)
  clear h hb hm hp hxb hpl
  go_enter Tryz.func37, Tryz.ntmps37
  go_wp2_with ((with_reducible refine Calls.mono HN.out ?_); rintro e w2 ⟨rfl, h2, h3⟩; have hx2 := (blk_cell (h3.blk HX.out HNE.out (.inr (by decide))) 0).trans rfl)
  go_ret
  exact ⟨rfl, h2, HK.out.trans h3⟩
end Go.Proofs.YtiepfpojkblmbaaGreat.HandA
