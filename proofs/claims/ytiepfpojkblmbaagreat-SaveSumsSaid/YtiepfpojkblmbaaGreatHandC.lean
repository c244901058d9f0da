/- No cards are written as the empty text; the writer's kinds at no card. -/
import Derived.Test.YtiepfpojkblmbaaGreatHandA
namespace Go.Proofs.YtiepfpojkblmbaaGreat.HandC
set_option linter.unusedVariables false
set_option linter.unusedSimpArgs false
open Go.RowKit Go.Lib Go.Proofs.YtiepfpojkblmbaaGreatW.PrintWords Go.Proofs.YtiepfpojkblmbaaGreatW.PrintLast Go.Proofs.YtiepfpojkblmbaaGreatW.PrintMore Go.Proofs.YtiepfpojkblmbaaGreat.U Go.Proofs.YtiepfpojkblmbaaGreat.HandQ Go.Proofs.YtiepfpojkblmbaaGreat.HandA

theorem setCell_same {W : World} {b i : Nat} {v : Value} (h : W.cell? ⟨b, i, none⟩ = some v) : W.setCell ⟨b, i, none⟩ v = W := by
  have hb : b < W.heap.size := World.block_lt_of_cell? W _ h
  have hh : (W.setCell ⟨b, i, none⟩ v).heap = W.heap := by
    apply Array.ext (by simp [World.setCell])
    intro k h1 h2
    simp only [World.setCell]
    rw [Array.getElem_modify]
    split
    · rename_i e
      subst e
      have hc : W.heap[b]? = some W.heap[b] := Array.getElem?_eq_getElem hb
      simp only [World.cell?, hc] at h
      split
      · rename_i c el fz e2
        rw [e2] at h
        have h3 : c[i]? = some v := by simpa using h
        simp only [Option.isSome_none, Bool.false_eq_true, if_false]
        obtain ⟨hi, e3⟩ := Array.getElem?_eq_some_iff.1 h3
        rw [e2, Array.setIfInBounds_def, dif_pos hi, ← e3, Array.set_getElem_self]
      · rfl
    · rfl
  exact (fun (w : World) (x : Array Obj) (e : x = w.heap) => (by subst e; rfl : ({ w with heap := x } : World) = w)) W _ hh
theorem str0 (q : Nat) (W : World) (h : W.heap[q]? = some (.cells #[.pointer none, .slice none 0 0, .bool false] 121 (0, 0))) :
    Calls Tryz.prog 45 #[.pointer (some ⟨q, 0, none⟩)] W fun e w' => e = .returned (.string ⟨#[]⟩) ∧ Below W.heap.size W w' := by
  have c1 : W.cell? ⟨q, 1, none⟩ = some (.slice none 0 0) := (blk_cell h 1).trans rfl
  clear h
  have hsd : ∀ w, (Builtin.unsafeSliceData_ #[22] 61 #[.slice none 0 0]).run Tryz.prog w = .ok (.pointer none) w := fun _ => rfl
  have hus : ∀ w, (Builtin.unsafeString_ #[61, 3] 9 #[.pointer none, .int .i64 0]).run Tryz.prog w = .ok (.string ⟨#[]⟩) w := fun _ => rfl
  go_enter Tryz.func45, Tryz.ntmps45
  go_wp2
  go_region
  go_wp2
  go_ret
  exact ⟨rfl, below_drew (Below.refl _ _)⟩
theorem need0 (q : Nat) (W : World) (h : W.heap[q]? = some (.cells #[.pointer none, .slice none 0 0, .bool false] 121 (0, 0))) :
    Calls Tryz.prog 43 #[.pointer (some ⟨q, 0, none⟩), .bool true] W fun e w' => e = .returned (.tuple #[]) ∧ w' = W.setCell ⟨q, 2, none⟩ (.bool false) := by
  have c1 : W.cell? ⟨q, 2, none⟩ = some (.bool false) := (blk_cell h 2).trans rfl
  have f1 := blk_frozen h 2
  clear h
  go_enter Tryz.func43, Tryz.ntmps43
  go_wp2
  refine bodyPost_end (results_none rfl _ _ _) rfl ?_
  exact ⟨rfl, rfl⟩
theorem pool0 (W : World) : Calls Tryz.prog 42 #[.slice none 0 0] W fun e w' => e = .returned (.tuple #[.string ⟨#[]⟩, .int .i64 0]) ∧ Below W.heap.size W w' := by
  have h0 : (W.alloc (.cells #[.pointer none, .slice none 0 0, .bool false] 121)).heap[W.heap.size]? = some (.cells #[.pointer none, .slice none 0 0, .bool false] 121 (0, 0)) := blk_new W _
  have HN := Aside0.mk (need0 W.heap.size _ h0)
  have HS := Aside0.mk (str0 W.heap.size _ h0)
  have HB := Aside0.mk (below_alloc (Below.refl W.heap.size W) (.cells #[.pointer none, .slice none 0 0, .bool false] 121))
  have hsame : (W.alloc (.cells #[.pointer none, .slice none 0 0, .bool false] 121)).setCell ⟨W.heap.size, 2, none⟩ (.bool false) = W.alloc (.cells #[.pointer none, .slice none 0 0, .bool false] 121) := setCell_same ((blk_cell h0 2).trans rfl)
  have HE := Aside0.mk hsame
  clear h0 hsame
  go_enter Tryz.func42, Tryz.ntmps42
  go_wp2_with (first
    | ((with_reducible refine Calls.mono HN.out ?_); rintro e w1 ⟨rfl, rfl⟩; rw [HE.out]))
  go_loopg [13] 1 (fun g s13 wr => s13 = .int .i64 0 ∧ wr = W.alloc (.cells #[.pointer none, .slice none 0 0, .bool false] 121))
  case atStart => exact ⟨rfl, rfl⟩
  case round =>
    obtain ⟨rfl, rfl⟩ := hrel
    go_wp2_with (first
      | ((with_reducible refine Calls.mono HS.out ?_); rintro e w2 ⟨rfl, hb2⟩))
    go_ret2
    exact ⟨rfl, below_step HB.out hb2⟩
section
variable {ops : Array Oper} {rest : List Oper} {o : Oper} {a : Act} {Q : Exit → Act → World → Prop}
/-- the empty text appended to a row -/
theorem empty_event {W : World} (hgd : o.guard = none) {s x : Operand} (hop : o.op = .call { callee := .builtin .append, args := #[s, x], argTypes := #[22, 9] }) (A : Option Addr) (n c : Nat) (hnc : n ≤ c)
    (hs : a.eval s = .slice A n c) (hx : a.eval x = .string ⟨#[]⟩) (h : wpList Tryz.prog ops Q rest (a.put o.dst (.slice A n c)) W) : wpList Tryz.prog ops Q (o :: rest) a W := by
  have hu := Tryz.underlying22
  have hu9 := Tryz.underlying9
  have hrun : (Builtin.append_ #[22, 9] o.type #[.slice A n c, .string ⟨#[]⟩]).run Tryz.prog W = .ok (.slice A n c) W := by
    cases A with
    | none => simp [Builtin.append_, Builtin.lenOf, Builtin.firstCells, go_sem, hu, hu9, info5, hnc]; try rfl
    | some ad => simp [Builtin.append_, Builtin.lenOf, Builtin.firstCells, go_sem, hu, hu9, info5, hnc]; try rfl
  refine Kd.event_run hgd (w1 := W) (v := .slice A n c) ?_ h
  simp [execOp, hop, resolve, invoke, builtin, hs, hx, hrun, Result.andThen]
end
theorem slice_of_own {W : World} {B n : Nat} {v : Value} {xs : List Value} (h : W.ownsRow B 5 1 v n xs) : ∃ A c, v = .slice A n c ∧ n ≤ c := by
  rcases h.2 with ⟨rfl, h0⟩ | ⟨g, cap, cur, rfl, hB, hh, hl, r⟩
  · exact ⟨none, 0, by rw [h0], by omega⟩
  · exact ⟨_, cap, rfl, hl⟩
set_option maxHeartbeats 1000000 in
theorem kinds (B p : Nat) (W : World) (m : Nat) (h : Wr B p W m) (hm : m < 999) (ad : Addr) (hc : W.cell? ad = some (.slice none 0 0)) :
    Calls Tryz.prog 38 #[.pointer (some ⟨p, 0, none⟩), .pointer (some ad)] W fun e w' => e = .returned (.tuple #[]) ∧ Wr B p w' (m + 1) ∧ Kw B p W w' := by
  have HW := Aside0.mk h
  have HM := Aside0.mk hm
  have HP0 := Aside0.mk (pool0 W)
  clear h hm
  go_enter Tryz.func38, Tryz.ntmps38
  go_wp2_with (first
    | ((with_reducible refine Calls.mono HP0.out ?_); rintro e w1 ⟨rfl, hb1⟩; have HB1 := Aside0.mk hb1; have HW1 := Aside0.mk (HW.out.below hb1); obtain ⟨_, _, _, v0, hp1, _⟩ := HW.out.below hb1; have c1 : w1.cell? ⟨p, 1, none⟩ = some (.bool false) := (blk_cell hp1 1); have f1 := blk_frozen hp1 1; have HS1 := Aside0.mk (setCell_same c1); have HPL := Aside0.mk (blk_lt hp1);
       have HN := Aside0.mk (number B p _ m (HW1.out.below (below_alloc (Below.refl _ _) (.cells #[.int .i64 0] 3))) HM.out ⟨w1.heap.size, 0, none⟩ ((blk_cell (blk_new w1 _) 0).trans rfl)); clear hb1 hp1)
    | (go_at_call 39; rw [HS1.out]; (with_reducible refine Calls.mono HN.out ?_); rintro e w2 ⟨rfl, h2, hk⟩; have HW2 := Aside0.mk h2; have HK2 := Aside0.mk ((Kw.below (B := B) (p := p) (below_alloc (Below.refl w1.heap.size w1) (.cells #[.int .i64 0] 3))).trans hk); obtain ⟨hpB, _, _, v2, hp2, ho2⟩ := h2; obtain ⟨A2, c2, rfl, hnc⟩ := slice_of_own ho2; have d0 : w2.cell? ⟨p, 0, none⟩ = some (.slice A2 (m + 1) c2) := (blk_cell hp2 0); have f2 := blk_frozen hp2 0; have HS2 := Aside0.mk (setCell_same d0); have HC2 := Aside0.mk hnc; clear hp2 ho2 hnc hk)
    | ((with_reducible refine gate_dst (N := 35) rfl ?_); refine empty_event rfl rfl A2 (m + 1) c2 HC2.out rfl rfl ?_))
  rw [HS2.out]
  refine bodyPost_end (results_none rfl _ _ _) rfl ?_
  exact ⟨rfl, HW2.out, (Kw.below HB1.out).trans HK2.out⟩
end Go.Proofs.YtiepfpojkblmbaaGreat.HandC
