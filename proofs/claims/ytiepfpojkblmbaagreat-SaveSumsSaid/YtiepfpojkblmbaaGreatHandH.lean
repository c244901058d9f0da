/- The tokens of the empty text: its end alone. -/
import Derived.Test.YtiepfpojkblmbaaGreatHandC
import Derived.Test.YtiepfpojkblmbaaGreatM1
namespace Go.Proofs.YtiepfpojkblmbaaGreat.HandH
set_option linter.unusedVariables false
set_option linter.unusedSimpArgs false
open Go.RowKit Go.Lib Go.Proofs.YtiepfpojkblmbaaGreatW.PrintWords Go.Proofs.YtiepfpojkblmbaaGreatW.PrintLast Go.Proofs.YtiepfpojkblmbaaGreatW.PrintMore Go.Proofs.YtiepfpojkblmbaaGreat.M Go.Proofs.YtiepfpojkblmbaaGreat.Iter

theorem mapped0 (W : World) : Calls Tryz.prog 134 #[.string ⟨#[]⟩] W fun e w' => ∃ A0 n0 c0 g c, e = .returned (.agg #[.slice A0 n0 c0, .slice (some ⟨g, 0, none⟩) 1 c]) ∧ w'.cell? ⟨g, 0, none⟩ = some (.int .i64 1) ∧ w'.cell? ⟨g, 1, none⟩ = some (.int .i64 1) ∧ Below W.heap.size W w' := by
  refine (scan_mapped.calls 1 ⟨#[]⟩ [0] [⟨1, 1⟩] W (by kernel_rfl)).mono ?_
  rintro e w' ⟨v0, v1, rfl, h0, h1, hb⟩
  obtain ⟨A0, c0, rfl, _, _⟩ := Kd.R_reads h0
  obtain ⟨inner, ho⟩ := Kd.R_own h1
  have hC := (Kd.R_reads h1)
  obtain ⟨A, c, e, hlc, hC⟩ := hC
  obtain ⟨ad, eA, a0, a1⟩ := at_T211 hC 0 (by decide) (by decide)
  rcases ho.2 with ⟨_, h0⟩ | ⟨g, cap, cur, e2, _⟩
  · cases h0
  · rw [e2] at e
    injection e with e3 e4 e5
    rw [← e3] at eA
    injection eA with eA
    subst eA
    exact ⟨_, _, _, g, cap, by rw [e2]; rfl, a0, a1, hb⟩
theorem info231 : (Tryz.prog.info? 231).map (fun i => (i.zero, i.size, i.bytes)) = some (some (.agg #[(.int .u8 0), (.string ⟨#[]⟩), (.int .i64 0), (.int .i64 0)]), 4, 40) := by kernel_rfl
theorem size_alloc (w : World) (o : Obj) : (w.alloc o).heap.size = w.heap.size + 1 := Array.size_push ..
set_option maxHeartbeats 2000000 in
set_option maxRecDepth 100000 in
theorem tokens0 (W : World) : Calls Tryz.prog 118 #[.string ⟨#[]⟩] W fun e w' => ∃ g c, e = .returned (.tuple #[.slice (some ⟨g, 0, none⟩) 1 c, .agg #[.int .i64 0, .int .i64 0, .int .i64 0]]) ∧ w'.cell? ⟨g, 0, none⟩ = some (.int .u8 0) ∧ W.heap.size ≤ g ∧ Below W.heap.size W w' := by
  have HW := Aside0.mk (below_alloc (Below.refl W.heap.size W) (.cells #[.int .i64 0, .int .i64 0, .int .i64 0] 213))
  have HN := Aside0.mk (blk_new W (.cells #[.int .i64 0, .int .i64 0, .int .i64 0] 213))
  go_enter Tryz.func118, Tryz.ntmps118
  go_wp2_with (first
    | ((with_reducible refine Calls.mono (mapped0 _) ?_); rintro e w1 ⟨A0, n0, c0, g1, c1, rfl, d0, d1, hb1⟩; have HB1 := Aside0.mk (below_step HW.out hb1); have F1 := Aside0.mk (blk_below HN.out hb1); have L1 := Aside0.mk (World.block_lt_of_cell? _ _ d0); clear hb1)
    | ((with_reducible refine gate_dst (N := 23) rfl ?_); refine range_event ?hg (N := 23) ?hd (s := ⟨#[]⟩) ?hr ?_; (case hd => rfl); (case hg => rfl); (case hr => first | (go_simp; done) | (go_simp; rfl)); intro gi hg w2 hbox hb))
  have F2 := Aside0.mk (blk_below (blk_alloc F1.out _) hb)
  have G2 := Aside0.mk (blk_below (blk_new w1 (.cells #[.slice A0 n0 c0, .slice (some ⟨g1, 0, none⟩) 1 c1] 241)) hb)
  have HB2 := Aside0.mk (below_step (below_alloc HB1.out (.cells #[.slice A0 n0 c0, .slice (some ⟨g1, 0, none⟩) 1 c1] 241)) hb)
  have e0 : w2.cell? ⟨g1, 0, none⟩ = some (.int .i64 1) := (hb.cell (p := ⟨g1, 0, none⟩) (by rw [size_alloc]; exact Nat.lt_succ_of_lt L1.out)).trans ((below_alloc (Below.refl w1.heap.size w1) _).cell (p := ⟨g1, 0, none⟩) L1.out |>.trans d0)
  have e1 : w2.cell? ⟨g1, 1, none⟩ = some (.int .i64 1) := (hb.cell (p := ⟨g1, 1, none⟩) (by rw [size_alloc]; exact Nat.lt_succ_of_lt L1.out)).trans ((below_alloc (Below.refl w1.heap.size w1) _).cell (p := ⟨g1, 1, none⟩) L1.out |>.trans d1)
  have HG := Aside0.mk hg
  have HX := Aside0.mk hbox
  have L2 := Aside0.mk L1.out
  clear hb hg d0 d1 hbox
  (try simp only [Act.put, List.setIfInBounds_toArray, List.set_cons_zero, List.set_cons_succ])
  go_loopg [4] 1 (fun g s4 wr => s4 = .slice none 0 0 ∧ wr = w2)
  case atStart => exact ⟨rfl, rfl⟩
  case round =>
    obtain ⟨rfl, rfl⟩ := hrel
    have e2 := blk_cell G2.out 1
    have e3 := blk_frozen F2.out 0
    have e4 := blk_frozen F2.out 1
    have e5 := blk_frozen F2.out 2
    have e6 := blk_cell F2.out 0
    have e7 := blk_cell F2.out 1
    have e8 := blk_cell F2.out 2
    have hnx := fun ty => (run_next_f (P := Tryz.prog) (k := gi) (s := ⟨#[]⟩) (p := 0) (a0 := 0) (c := 0) (q := 0) ty HX.out rfl).1
    go_wp2_with (first
      | ((with_reducible refine gate_dst (N := 105) rfl ?_); refine print_append_cells (w0 := W) W.heap.size rfl (.tmp 94) (.tmp 104) 223 231 (.agg #[(.int .u8 0), (.string ⟨#[]⟩), (.int .i64 0), (.int .i64 0)]) 4 40 rfl Tryz.underlying223 info231 rfl (by decide) (by decide) (.slice none 0 0) 0 [] [.int .u8 0, .string ⟨#[]⟩, .int .i64 1, .int .i64 1] rfl rfl rfl (by intro u hu; simp only [List.mem_cons, List.not_mem_nil, or_false] at hu; rcases hu with rfl | rfl | rfl | rfl <;> rfl) (own_nil _ _ _ _) HB2.out (below_size HB2.out) (by decide) ?_; intro v1 w4 ho hb4 hg4 _; have HO4 := Aside0.mk ho; have HB4 := Aside0.mk hb4; have F4 := Aside0.mk (blk_grown F2.out hg4 (fun e => by cases e)); have q0 := blk_cell F4.out 0; have q1 := blk_cell F4.out 1; have q2 := blk_cell F4.out 2; have r0 := blk_frozen F4.out 0; have r1 := blk_frozen F4.out 1; have r2 := blk_frozen F4.out 2; clear ho hb4 hg4))
    refine bodyPost_ret (results_tc rfl _ _ W.heap.size 213 #[.int .i64 0, .int .i64 0, .int .i64 0] (0, 0) _ rfl (blk_put (blk_put (blk_put F4.out 0 _ rfl) 1 _ rfl) 2 _ rfl) Tryz.underlying213 rfl (by kernel_rfl)) rfl ?_
    have ho := HO4.out
    rcases ho.2 with ⟨_, h0⟩ | ⟨g, cap, cur, rfl, hg, hh, hl, _, hr⟩
    · cases h0
    · have hcell : w4.cell? ⟨g, 0, none⟩ = some (.int .u8 0) := ho.cells (g := g) rfl 0 (.int .u8 0) rfl
      have hne : g ≠ W.heap.size := blk_ne hh F4.out (by decide)
      rw [blk_cell hh 0] at hcell
      refine ⟨g, cap, rfl, ?_, hg, ?_⟩
      · exact (blk_cell (blk_far (blk_far (blk_far hh hne _) hne _) hne _) 0).trans hcell
      · exact ((HB4.out.setCell (p := ⟨W.heap.size, 0, none⟩) (Nat.le_refl _) _).setCell (p := ⟨W.heap.size, 1, none⟩) (Nat.le_refl _) _).setCell (p := ⟨W.heap.size, 2, none⟩) (Nat.le_refl _) _
end Go.Proofs.YtiepfpojkblmbaaGreat.HandH
