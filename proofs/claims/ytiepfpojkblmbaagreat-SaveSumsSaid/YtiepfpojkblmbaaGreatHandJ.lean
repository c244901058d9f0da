/- The reader over the cells of a duel of zeros. -/
import Derived.Test.YtiepfpojkblmbaaGreatHandI
import Derived.Test.YtiepfpojkblmbaaGreatHandG
import Derived.Test.YtiepfpojkblmbaaGreatHandD
namespace Go.Proofs.YtiepfpojkblmbaaGreat.HandJ
set_option linter.unusedVariables false
set_option linter.unusedSimpArgs false
open Go.RowKit Go.Lib Go.Proofs.YtiepfpojkblmbaaGreatW.PrintWords Go.Proofs.YtiepfpojkblmbaaGreatW.PrintLast Go.Proofs.YtiepfpojkblmbaaGreatW.PrintMore Go.Proofs.YtiepfpojkblmbaaGreat.U Go.Proofs.YtiepfpojkblmbaaGreat.HandQ Go.Proofs.YtiepfpojkblmbaaGreat.HandC Go.Proofs.YtiepfpojkblmbaaGreat.HandG Go.Proofs.YtiepfpojkblmbaaGreat.HandD

/-- what a call leaves of the blocks: the reader's flag, the cell of the list -/
theorem Rr.cases {p n : Nat} {W : World} (h : Rr p W n) : (n = 0 ∧ ∃ A k c, W.heap[p]? = some (.cells #[.slice A k c, .bool true] 55 (0, 0))) ∨ (n ≠ 0 ∧ ∃ A k c, k ≤ c ∧ W.heap[p]? = some (.cells #[.slice A k c, .bool false] 55 (0, 0)) ∧ (0 < k → ∃ g o, A = some ⟨g, o, none⟩)) := by
  rcases h.row with ⟨A, k, c, h1, h2, h3, h4, h5⟩ | ⟨h1, A, c, h2, h3⟩
  · exact .inr ⟨by omega, A, k, c, h2, h4, fun h0 => by obtain ⟨g, o, e, _⟩ := h5 h0; exact ⟨g, o, e⟩⟩
  · exact .inl ⟨h1, A, 0, c, h3⟩
set_option maxHeartbeats 4000000 in
set_option maxRecDepth 100000 in
theorem kinds (p n : Nat) (W : World) (h : Rr p W n) (ab ao : Nat) (hc : W.cell? ⟨ab, ao, none⟩ = some (.slice none 0 0)) (hfz : W.frozen? ⟨ab, ao, none⟩ = false) (hne : ab ≠ p) :
    Calls Tryz.prog 107 #[.pointer (some ⟨p, 0, none⟩), .pointer (some ⟨ab, ao, none⟩)] W fun e w' => e = .returned (.tuple #[]) ∧ Rr p w' (n - 1) ∧ W.grownBy w' (some p) := by
  obtain ⟨_, _, _, hf⟩ := h.flag
  have hpl := blk_lt hf
  have hX := blk_new W (.cells #[.int .i64 0] 3)
  have HXN := Aside0.mk (Nat.ne_of_gt hpl)
  have HXC := Aside0.mk ((blk_cell hX 0).trans rfl : (W.alloc (.cells #[.int .i64 0] 3)).cell? ⟨W.heap.size, 0, none⟩ = some (.int .i64 0))
  have HT := Aside0.mk (number p n _ (h.below (below_alloc (Below.refl _ _) (.cells #[.int .i64 0] 3))) ⟨W.heap.size, 0, none⟩ HXC.out (blk_frozen hX 0) rfl HXN.out)
  have HC := Aside0.mk hc
  have HZ := Aside0.mk hfz
  have HA := Aside0.mk (World.grownBy_alloc W (.cells #[.int .i64 0] 3) (some p))
  have hne' : p ≠ ab := fun e => hne e.symm
  clear h hc hfz hf hX hpl
  go_enter Tryz.func107, Tryz.ntmps107
  go_wp2_with (go_at_call 108; refine HT.out.mono ?_; rintro e w2 ⟨rfl, h2, hg0⟩)
  have hx := hg0.cell HXC.out (fun e => HXN.out (Option.some.inj e))
  have hg := HA.out.trans hg0
  have HR2 := Aside0.mk h2
  have HG2 := Aside0.mk hg
  have e1 := hg.cell HC.out (fun e => hne (Option.some.inj e))
  have e2 := (hg.frozen_far ⟨ab, ao, none⟩ (World.block_lt_of_cell? _ _ HC.out) (fun e => hne (Option.some.inj e))).trans HZ.out
  rcases Rr.cases h2 with ⟨hn, A, k, c, hf2⟩ | ⟨hn, A, k, c, hkc, hf2, hA⟩
  · have d1 : w2.cell? ⟨p, 1, none⟩ = some (.bool true) := (blk_cell hf2 1)
    have d0 : w2.cell? ⟨p, 0, none⟩ = some (.slice A k c) := (blk_cell hf2 0)
    have g1 := blk_frozen hf2 1
    have s1 : w2.setCell ⟨p, 1, none⟩ (.bool true) = w2 := setCell_same d1
    clear h2 hg hg0 hf2
    go_wp2_with fail
    go_region
    go_wp2
    refine bodyPost_ret (results_none rfl _ _ _) rfl ?_
    exact ⟨rfl, HR2.out.below (below_drew1 (Below.refl _ _)), HG2.out.trans (grown_of_below (below_drew1 (Below.refl _ _)) _)⟩
  · have d1 : w2.cell? ⟨p, 1, none⟩ = some (.bool false) := (blk_cell hf2 1)
    have d0 : w2.cell? ⟨p, 0, none⟩ = some (.slice A k c) := (blk_cell hf2 0)
    have g0 := blk_frozen hf2 0
    have g1 := blk_frozen hf2 1
    have s1 : w2.setCell ⟨p, 1, none⟩ (.bool false) = w2 := setCell_same d1
    have s0 : w2.setCell ⟨p, 0, none⟩ (.slice A k c) = w2 := setCell_same d0
    have l1 : decide ((k : Int) < 0) = false := decide_eq_false (by omega)
    have l2 : ((k : Int) < 0) = False := eq_false (by omega)
    have hcv : ∀ w : World, (convert 22 9 (.slice A 0 c)).run Tryz.prog w = .ok (.string ⟨#[]⟩) w := fun w => by
      have hC : (Kd.int .u8).C w A 0 [] := ⟨rfl, by decide, fun h0 => absurd h0 (Nat.lt_irrefl 0)⟩
      exact Kd.C_string (P := Tryz.prog) (A := A) (c := c) Tryz.underlying22 Tryz.underlying5 Tryz.underlying9 hC
    have HF2 := Aside0.mk hf2
    clear h2 hg hg0 hf2
    go_wp2_with fail
    go_region
    go_wp2_with fail
    go_region
    go_wp2_with fail
    go_region
    go_wp2_with fail
    refine (HandI.ppool0 _).mono ?_
    rintro e w3 ⟨rfl, hb3⟩
    have hb3' : Below w2.heap.size w2 w3 := below_step (below_drew1 (below_drew1 (below_drew1 (Below.refl _ _)))) hb3
    have HB3 := Aside0.mk hb3'
    have N3 := Aside0.mk (blk_new w3 (.cells #[.int .i64 0, .int .i64 0, .int .i64 0] 213))
    clear hb3 hb3'
    go_wp2_with fail
    refine (HandC.pool0 _).mono ?_
    rintro e w4 ⟨rfl, hb4⟩
    have hn4 := blk_below N3.out hb4
    have q0 : w4.cell? ⟨w3.heap.size, 0, none⟩ = some (.int .i64 0) := (blk_cell hn4 0)
    have hb : Below w2.heap.size w2 w4 := below_step (below_alloc HB3.out _) hb4
    have hgb := grown_of_below hb none
    have hf4 := blk_below HF2.out hb
    have d1' : w4.cell? ⟨p, 1, none⟩ = some (.bool false) := (blk_cell hf4 1)
    have g1' := blk_frozen hf4 1
    have s1' : w4.setCell ⟨p, 1, none⟩ (.bool false) = w4 := setCell_same d1'
    have e1' := hgb.cell e1 (fun e => by cases e)
    have e2' := (hgb.frozen_far ⟨ab, ao, none⟩ (World.block_lt_of_cell? _ _ e1) (fun e => by cases e)).trans e2
    have s2' : w4.setCell ⟨ab, ao, none⟩ (.slice none 0 0) = w4 := setCell_same e1'
    have HB4 := Aside0.mk hb
    clear hb hgb hf4 hb4 hn4
    go_wp2_with fail
    refine bodyPost_end (results_none rfl _ _ _) rfl ?_
    exact ⟨rfl, HR2.out.below HB4.out, HG2.out.trans (grown_of_below HB4.out _)⟩
/-- the reader p over the duel of zeros at D; n as in Rr -/
structure Zr (p D : Nat) (W0 W : World) (n : Nat) : Prop where
  rr : Rr p W n
  gw : W0.grownBy W (some p)
  dp : D ≠ p
  dz : W.heap[D]? = some (.cells Z 45 (0, 0))
section
variable {p D : Nat} {W0 W W1 : World} {m n : Nat}
theorem Zr.step (h : Zr p D W0 W m) (h1 : Rr p W1 n) (h2 : W.grownBy W1 (some p)) : Zr p D W0 W1 n :=
  ⟨h1, h.gw.trans h2, h.dp, blk_grown h.dz h2 (fun e => h.dp (Option.some.inj e))⟩
theorem Zr.drew (h : Zr p D W0 W m) : Zr p D W0 W.drew m := h.step (h.rr.below (below_drew1 (Below.refl _ _))) (grown_of_below (below_drew1 (Below.refl _ _)) _)
theorem Zr.num (h : Zr p D W0 W m) (i : Nat) (hi : Z[i]? = some (.int .i64 0)) :
    Calls Tryz.prog 108 #[.pointer (some ⟨p, 0, none⟩), .pointer (some ⟨D, i, none⟩)] W fun e w' => e = .returned (.tuple #[]) ∧ Zr p D W0 w' (m - 1) :=
  (HandG.number p m W h.rr ⟨D, i, none⟩ ((blk_cell h.dz i).trans hi) (blk_frozen h.dz i) rfl h.dp).mono fun e w' k => ⟨k.1, h.step k.2.1 k.2.2⟩
theorem Zr.truth (h : Zr p D W0 W m) (i : Nat) (hi : Z[i]? = some (.bool false)) :
    Calls Tryz.prog 111 #[.pointer (some ⟨p, 0, none⟩), .pointer (some ⟨D, i, none⟩)] W fun e w' => e = .returned (.tuple #[]) ∧ Zr p D W0 w' (m - 1) :=
  (HandG.truth p m W h.rr D i ((blk_cell h.dz i).trans hi) (blk_frozen h.dz i) h.dp).mono fun e w' k => ⟨k.1, h.step k.2.1 k.2.2⟩
theorem Zr.small (h : Zr p D W0 W m) (i : Nat) (hi : Z[i]? = some (.int .u8 0)) :
    Calls Tryz.prog 109 #[.pointer (some ⟨p, 0, none⟩), .pointer (some ⟨D, i, none⟩)] W fun e w' => e = .returned (.tuple #[]) ∧ Zr p D W0 w' (m - 1) :=
  (HandG.small p m W h.rr D i ((blk_cell h.dz i).trans hi) (blk_frozen h.dz i) h.dp).mono fun e w' k => ⟨k.1, h.step k.2.1 k.2.2⟩
theorem Zr.count (h : Zr p D W0 W m) :
    Calls Tryz.prog 106 #[.pointer (some ⟨p, 0, none⟩), .int .i64 0] W fun e w' => e = .returned (.int .i64 0) ∧ Zr p D W0 w' (m - 1) :=
  (HandG.count p m W h.rr).mono fun e w' k => ⟨k.1, h.step k.2.1 k.2.2⟩
theorem Zr.kinds (h : Zr p D W0 W m) (i : Nat) (hi : Z[i]? = some (.slice none 0 0)) :
    Calls Tryz.prog 107 #[.pointer (some ⟨p, 0, none⟩), .pointer (some ⟨D, i, none⟩)] W fun e w' => e = .returned (.tuple #[]) ∧ Zr p D W0 w' (m - 1) :=
  (HandJ.kinds p m W h.rr D i ((blk_cell h.dz i).trans hi) (blk_frozen h.dz i) h.dp).mono fun e w' k => ⟨k.1, h.step k.2.1 k.2.2⟩
end
end Go.Proofs.YtiepfpojkblmbaaGreat.HandJ
