/- The reader over zero bytes: each method takes one of them, or is bad at the end. -/
import Derived.Test.YtiepfpojkblmbaaGreatHandC
namespace Go.Proofs.YtiepfpojkblmbaaGreat.HandG
set_option linter.unusedVariables false
set_option linter.unusedSimpArgs false
open Go.RowKit Go.Lib Go.Proofs.YtiepfpojkblmbaaGreatW.PrintWords Go.Proofs.YtiepfpojkblmbaaGreatW.PrintLast Go.Proofs.YtiepfpojkblmbaaGreatW.PrintMore Go.Proofs.YtiepfpojkblmbaaGreat.U Go.Proofs.YtiepfpojkblmbaaGreat.HandQ Go.Proofs.YtiepfpojkblmbaaGreat.HandC

/-- n = 0: bad, nothing left; n = k + 1: k zero bytes left -/
structure Rr (p : Nat) (W : World) (n : Nat) : Prop where
  row : (∃ A k c, k + 1 = n ∧ k ≤ c ∧ 0 ≤ c ∧ W.heap[p]? = some (.cells #[.slice A k c, .bool false] 55 (0, 0)) ∧
      (0 < k → ∃ g o, A = some ⟨g, o, none⟩ ∧ g ≠ p ∧ g < W.heap.size ∧ ∀ j, j < k → W.cell? ⟨g, o + j, none⟩ = some (.int .u8 0))) ∨
    (n = 0 ∧ ∃ A c, 0 ≤ c ∧ W.heap[p]? = some (.cells #[.slice A 0 c, .bool true] 55 (0, 0)))
theorem Rr.below {p n : Nat} {W W1 : World} (h : Rr p W n) (hb : Below W.heap.size W W1) : Rr p W1 n := by
  rcases h.row with ⟨A, k, c, h1, h2, h3, h4, h5⟩ | ⟨h1, A, c, h2, h3⟩
  · refine ⟨.inl ⟨A, k, c, h1, h2, h3, blk_below h4 hb, fun h0 => ?_⟩⟩
    obtain ⟨g, o, e, hg, hl, hc⟩ := h5 h0
    exact ⟨g, o, e, hg, Nat.lt_of_lt_of_le hl hb.size, fun j hj => (hb.cell (p := ⟨g, o + j, none⟩) hl).trans (hc j hj)⟩
  · exact ⟨.inr ⟨h1, A, c, h2, blk_below h3 hb⟩⟩
theorem Rr.flag {p n : Nat} {W : World} (h : Rr p W n) : ∃ A k c, W.heap[p]? = some (.cells #[.slice A k c, .bool (decide (n = 0))] 55 (0, 0)) := by
  rcases h.row with ⟨A, k, c, h1, h2, h3, h4, h5⟩ | ⟨h1, A, c, h2, h3⟩
  · exact ⟨A, k, c, by rw [h4, decide_eq_false (by omega)]⟩
  · exact ⟨A, 0, c, by rw [h3, decide_eq_true h1]⟩
theorem grown_set (w : World) (b i : Nat) (u : Value) : w.grownBy (w.setCell ⟨b, i, none⟩ u) (some b) :=
  ⟨rfl, rfl, rfl, by simp [World.setCell], fun k hk hne => Below.heap_setCell w ⟨b, i, none⟩ u k (fun e => hne (by rw [e]))⟩
theorem set_size (w : World) (p : Addr) (u : Value) : (w.setCell p u).heap.size = w.heap.size := by simp [World.setCell]
set_option maxHeartbeats 1000000 in
theorem take (p n : Nat) (W : World) (h : Rr p W n) : Calls Tryz.prog 110 #[.pointer (some ⟨p, 0, none⟩)] W fun e w' => e = .returned (.int .u8 0) ∧ Rr p w' (n - 1) ∧ W.grownBy w' (some p) := by
  rcases h.row with ⟨A, k, c, h1, h2, h3, h4, h5⟩ | ⟨h1, A, c, h2, h3⟩
  · have c0 : W.cell? ⟨p, 0, none⟩ = some (.slice A k c) := (blk_cell h4 0)
    have c1 : W.cell? ⟨p, 1, none⟩ = some (.bool false) := (blk_cell h4 1)
    have f0 := blk_frozen h4 0
    have f1 := blk_frozen h4 1
    have H4 := Aside0.mk h4
    clear h h4
    rcases k with _ | k
    · have hn : n - 1 = 0 := by omega
      have HN := Aside0.mk hn
      have H3 := Aside0.mk h3
      clear h5 h1 h2 h3 hn
      go_enter Tryz.func110, Tryz.ntmps110
      go_wp2
      go_ret
      exact ⟨rfl, ⟨.inr ⟨HN.out, A, c, H3.out, (blk_set H4.out 1 (.bool true)).trans rfl⟩⟩, grown_set _ _ _ _⟩
    · obtain ⟨g, o, rfl, hg, hl, hc⟩ := h5 (Nat.succ_pos k)
      have d0 := hc 0 (Nat.succ_pos k)
      rw [Nat.add_zero] at d0
      have HC := Aside0.mk hc
      have HG := Aside0.mk hg
      have HL := Aside0.mk hl
      have H1 := Aside0.mk h1
      have H2 := Aside0.mk h2
      have H3 := Aside0.mk h3
      have e0 : decide (((k + 1 : Nat) : Int) = 0) = false := decide_eq_false (by omega)
      have e1 : ((((k + 1 : Nat) : Int)) == 0) = false := beq_eq_false_iff_ne.2 (by omega)
      clear h5 h1 hc hg hl
      go_enter Tryz.func110, Tryz.ntmps110
      go_wp2
      · have hk : k = 0 := by have := H2.out; omega
        subst hk
        go_ret
        exact ⟨rfl, ⟨.inl ⟨_, 0, _, by have := H1.out; omega, Nat.zero_le _, by omega, (blk_set H4.out 0 _).trans rfl, fun h0 => absurd h0 (Nat.lt_irrefl 0)⟩⟩, grown_set _ _ _ _⟩
      · go_ret
        refine ⟨rfl, ⟨.inl ⟨_, k, _, by have := H1.out; omega, by omega, by omega, (blk_set H4.out 0 _).trans rfl, fun h0 => ⟨g, o + 1, rfl, HG.out, by rw [set_size]; exact HL.out, fun j hj => ?_⟩⟩⟩, grown_set _ _ _ _⟩
        rw [Nat.add_assoc, Nat.add_comm 1 j]
        exact (grown_set _ _ _ _).cell (HC.out (j + 1) (Nat.succ_lt_succ hj)) (fun e => HG.out (Option.some.inj e))
  · have c0 : W.cell? ⟨p, 0, none⟩ = some (.slice A 0 c) := (blk_cell h3 0)
    have c1 : W.cell? ⟨p, 1, none⟩ = some (.bool true) := (blk_cell h3 1)
    have f1 := blk_frozen h3 1
    have H3 := Aside0.mk h3
    have HN : Aside0 (n - 1 = 0) := ⟨by omega⟩
    have H2 := Aside0.mk h2
    clear h h3 h1 h2
    go_enter Tryz.func110, Tryz.ntmps110
    go_wp2
    go_ret
    exact ⟨rfl, ⟨.inr ⟨HN.out, A, c, H2.out, (blk_set H3.out 1 (.bool true)).trans rfl⟩⟩, grown_set _ _ _ _⟩
set_option maxHeartbeats 2000000 in
theorem number (p n : Nat) (W : World) (h : Rr p W n) (ad : Addr) (hc : W.cell? ad = some (.int .i64 0)) (hfz : W.frozen? ad = false) (hsp : ad.spot = none) (hne : ad.block ≠ p) :
    Calls Tryz.prog 108 #[.pointer (some ⟨p, 0, none⟩), .pointer (some ad)] W fun e w' => e = .returned (.tuple #[]) ∧ Rr p w' (n - 1) ∧ W.grownBy w' (some p) := by
  obtain ⟨A, k, c, hf⟩ := h.flag
  have f1 := blk_frozen hf 1
  obtain ⟨ab, ao, sp⟩ := ad
  simp only at hsp hne
  subst hsp
  have HT := Aside0.mk (take p n W h)
  have HR := Aside0.mk h
  by_cases hn : n = 0
  · have c1 : W.cell? ⟨p, 1, none⟩ = some (.bool true) := (blk_cell hf 1).trans (by rw [decide_eq_true hn]; rfl)
    have HX := Aside0.mk (setCell_same c1)
    have HN := Aside0.mk hn
    clear h hf hn
    go_enter Tryz.func108, Tryz.ntmps108
    go_wp2_with fail
    go_loopg [4, 5] 1 (fun g s4 s5 wr => s4 = .int .u64 0 ∧ s5 = .int .i64 0 ∧ wr = W)
    case atStart => exact ⟨rfl, rfl, rfl⟩
    case round =>
      obtain ⟨rfl, rfl, rfl⟩ := hrel
      go_wp2_with fail
      rw [HX.out]
      refine bodyPost_end (results_none rfl _ _ _) rfl ?_
      exact ⟨rfl, by rw [HN.out]; rw [HN.out] at HR; exact HR.out, World.grownBy.refl _ _⟩
  · have c1 : W.cell? ⟨p, 1, none⟩ = some (.bool false) := (blk_cell hf 1).trans (by rw [decide_eq_false hn]; rfl)
    have b1 : Go.bits .and .u8 0 127 = 0 := by kernel_rfl
    have b2 : IntKind.u64.wrap 0 = 0 := by kernel_rfl
    have b3 : Go.bits .or .u64 0 0 = 0 := by kernel_rfl
    have b4 : Go.bits .and .u64 0 1 = 0 := by kernel_rfl
    have HNE := Aside0.mk hne
    have HC := Aside0.mk hc
    have HZ := Aside0.mk hfz
    have hne' : p ≠ ab := fun e => hne e.symm
    clear h hf hn
    go_enter Tryz.func108, Tryz.ntmps108
    go_wp2_with fail
    go_loopg [4, 5] 1 (fun g s4 s5 wr => s4 = .int .u64 0 ∧ s5 = .int .i64 0 ∧ wr = W)
    case atStart => exact ⟨rfl, rfl, rfl⟩
    case round =>
      obtain ⟨rfl, rfl, rfl⟩ := hrel
      go_wp2_with ((with_reducible refine Calls.mono HT.out ?_); rintro e w2 ⟨rfl, h2, hg⟩; obtain ⟨A2, k2, c2, hf2⟩ := h2.flag; obtain ⟨bq, hbq⟩ : ∃ b, decide (n - 1 = 0) = b := ⟨_, rfl⟩; rw [hbq] at hf2; have d1 : w2.cell? ⟨p, 1, none⟩ = some (.bool bq) := (blk_cell hf2 1); have g1 := blk_frozen hf2 1; have e1 := hg.cell HC.out (fun e => HNE.out (Option.some.inj e)); have e2 := (hg.frozen_far ⟨ab, ao, none⟩ (World.block_lt_of_cell? _ _ HC.out) (fun e => HNE.out (Option.some.inj e))).trans HZ.out; have HR2 := Aside0.mk h2; have HG2 := Aside0.mk hg; have HS1 := Aside0.mk (setCell_same d1); have HS2 := Aside0.mk (setCell_same e1); clear h2 hg hf2 hbq; cases bq)
      all_goals
        rw [HS1.out, HS2.out]
        refine bodyPost_ret (results_none rfl _ _ _) rfl ?_
        exact ⟨rfl, HR2.out, HG2.out⟩
set_option maxHeartbeats 2000000 in
theorem truth (p n : Nat) (W : World) (h : Rr p W n) (ab ao : Nat) (hc : W.cell? ⟨ab, ao, none⟩ = some (.bool false)) (hfz : W.frozen? ⟨ab, ao, none⟩ = false) (hne : ab ≠ p) :
    Calls Tryz.prog 111 #[.pointer (some ⟨p, 0, none⟩), .pointer (some ⟨ab, ao, none⟩)] W fun e w' => e = .returned (.tuple #[]) ∧ Rr p w' (n - 1) ∧ W.grownBy w' (some p) := by
  have HT := Aside0.mk (take p n W h)
  have HC := Aside0.mk hc
  have HZ := Aside0.mk hfz
  have hne' : p ≠ ab := fun e => hne e.symm
  clear h hc hfz
  go_enter Tryz.func111, Tryz.ntmps111
  go_wp2_with ((with_reducible refine Calls.mono HT.out ?_); rintro e w2 ⟨rfl, h2, hg⟩; obtain ⟨A2, k2, c2, hf2⟩ := h2.flag; obtain ⟨bq, hbq⟩ : ∃ b, decide (n - 1 = 0) = b := ⟨_, rfl⟩; rw [hbq] at hf2; have d1 : w2.cell? ⟨p, 1, none⟩ = some (.bool bq) := (blk_cell hf2 1); have g1 := blk_frozen hf2 1; have e1 := hg.cell HC.out (fun e => hne (Option.some.inj e)); have e2 := (hg.frozen_far ⟨ab, ao, none⟩ (World.block_lt_of_cell? _ _ HC.out) (fun e => hne (Option.some.inj e))).trans HZ.out; have HR2 := Aside0.mk h2; have HG2 := Aside0.mk hg; have HS1 := Aside0.mk (setCell_same d1); have HS2 := Aside0.mk (setCell_same e1); clear h2 hg hf2 hbq; cases bq)
  all_goals
    rw [HS1.out, HS2.out]
    refine bodyPost_end (results_none rfl _ _ _) rfl ?_
    exact ⟨rfl, HR2.out, HG2.out⟩
set_option maxHeartbeats 2000000 in
theorem small (p n : Nat) (W : World) (h : Rr p W n) (ab ao : Nat) (hc : W.cell? ⟨ab, ao, none⟩ = some (.int .u8 0)) (hfz : W.frozen? ⟨ab, ao, none⟩ = false) (hne : ab ≠ p) :
    Calls Tryz.prog 109 #[.pointer (some ⟨p, 0, none⟩), .pointer (some ⟨ab, ao, none⟩)] W fun e w' => e = .returned (.tuple #[]) ∧ Rr p w' (n - 1) ∧ W.grownBy w' (some p) := by
  obtain ⟨_, _, _, hf⟩ := h.flag
  have hpl := blk_lt hf
  have hX := blk_new W (.cells #[.int .i64 0] 3)
  have HXN := Aside0.mk (Nat.ne_of_gt hpl)
  have HXC := Aside0.mk ((blk_cell hX 0).trans rfl : (W.alloc (.cells #[.int .i64 0] 3)).cell? ⟨W.heap.size, 0, none⟩ = some (.int .i64 0))
  have HT := Aside0.mk (number p n _ (h.below (below_alloc (Below.refl _ _) (.cells #[.int .i64 0] 3))) ⟨W.heap.size, 0, none⟩ HXC.out (blk_frozen hX 0) rfl HXN.out)
  have HC := Aside0.mk hc
  have HZ := Aside0.mk hfz
  have HA := Aside0.mk (World.grownBy_alloc W (.cells #[.int .i64 0] 3) (some p))
  have hne' : p ≠ ab := fun e => hne e.symm
  clear h hc hfz hf hX hpl
  go_enter Tryz.func109, Tryz.ntmps109
  go_wp2_with ((with_reducible refine Calls.mono HT.out ?_); rintro e w2 ⟨rfl, h2, hg0⟩; have hx := hg0.cell HXC.out (fun e => HXN.out (Option.some.inj e)); have hg := HA.out.trans hg0; obtain ⟨A2, k2, c2, hf2⟩ := h2.flag; obtain ⟨bq, hbq⟩ : ∃ b, decide (n - 1 = 0) = b := ⟨_, rfl⟩; rw [hbq] at hf2; have d1 : w2.cell? ⟨p, 1, none⟩ = some (.bool bq) := (blk_cell hf2 1); have g1 := blk_frozen hf2 1; have e1 := hg.cell HC.out (fun e => hne (Option.some.inj e)); have e2 := (hg.frozen_far ⟨ab, ao, none⟩ (World.block_lt_of_cell? _ _ HC.out) (fun e => hne (Option.some.inj e))).trans HZ.out; have HR2 := Aside0.mk h2; have HG2 := Aside0.mk hg; have HS1 := Aside0.mk (setCell_same d1); have HS2 := Aside0.mk (setCell_same e1); clear h2 hg hf2 hbq hg0; cases bq)
  all_goals
    rw [HS1.out, HS2.out]
    refine bodyPost_end (results_none rfl _ _ _) rfl ?_
    exact ⟨rfl, HR2.out, HG2.out⟩
set_option maxHeartbeats 2000000 in
theorem count (p n : Nat) (W : World) (h : Rr p W n) :
    Calls Tryz.prog 106 #[.pointer (some ⟨p, 0, none⟩), .int .i64 0] W fun e w' => e = .returned (.int .i64 0) ∧ Rr p w' (n - 1) ∧ W.grownBy w' (some p) := by
  obtain ⟨_, _, _, hf⟩ := h.flag
  have hpl := blk_lt hf
  have hX := blk_new W (.cells #[.int .i64 0] 3)
  have HXN := Aside0.mk (Nat.ne_of_gt hpl)
  have HXC := Aside0.mk ((blk_cell hX 0).trans rfl : (W.alloc (.cells #[.int .i64 0] 3)).cell? ⟨W.heap.size, 0, none⟩ = some (.int .i64 0))
  have HT := Aside0.mk (number p n _ (h.below (below_alloc (Below.refl _ _) (.cells #[.int .i64 0] 3))) ⟨W.heap.size, 0, none⟩ HXC.out (blk_frozen hX 0) rfl HXN.out)
  have HA := Aside0.mk (World.grownBy_alloc W (.cells #[.int .i64 0] 3) (some p))
  clear h hf hX hpl
  go_enter Tryz.func106, Tryz.ntmps106
  go_wp2_with ((with_reducible refine Calls.mono HT.out ?_); rintro e w2 ⟨rfl, h2, hg0⟩; have hx := hg0.cell HXC.out (fun e => HXN.out (Option.some.inj e)); have hg := HA.out.trans hg0; obtain ⟨A2, k2, c2, hf2⟩ := h2.flag; obtain ⟨bq, hbq⟩ : ∃ b, decide (n - 1 = 0) = b := ⟨_, rfl⟩; rw [hbq] at hf2; have d1 : w2.cell? ⟨p, 1, none⟩ = some (.bool bq) := (blk_cell hf2 1); have g1 := blk_frozen hf2 1; have HR2 := Aside0.mk h2; have HG2 := Aside0.mk hg; have HS1 := Aside0.mk (setCell_same d1); clear h2 hg hf2 hbq hg0; cases bq)
  all_goals
    rw [HS1.out]
    go_ret
    exact ⟨rfl, HR2.out, HG2.out⟩
end Go.Proofs.YtiepfpojkblmbaaGreat.HandG
