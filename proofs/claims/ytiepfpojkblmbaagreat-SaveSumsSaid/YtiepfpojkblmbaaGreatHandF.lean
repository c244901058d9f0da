/- Put of a duel of zeros: 37 zero bytes. -/
import Derived.Test.YtiepfpojkblmbaaGreatHandE
namespace Go.Proofs.YtiepfpojkblmbaaGreat.HandF
set_option linter.unusedVariables false
set_option linter.unusedSimpArgs false
open Go.RowKit Go.Lib Go.Proofs.YtiepfpojkblmbaaGreatW.PrintWords Go.Proofs.YtiepfpojkblmbaaGreatW.PrintLast Go.Proofs.YtiepfpojkblmbaaGreatW.PrintMore Go.Proofs.YtiepfpojkblmbaaGreat.U Go.Proofs.YtiepfpojkblmbaaGreat.HandQ Go.Proofs.YtiepfpojkblmbaaGreat.HandA Go.Proofs.YtiepfpojkblmbaaGreat.HandD Go.Proofs.YtiepfpojkblmbaaGreat.HandE

theorem size_alloc (w : World) (o : Obj) : (w.alloc o).heap.size = w.heap.size + 1 := Array.size_push ..
theorem start (W : World) : Zs (W.heap.size + 2) (W.heap.size + 1) W.heap.size ((W.alloc (.cells Z 45)).alloc (.cells #[.slice none 0 0, .bool false] 51)) ((W.alloc (.cells Z 45)).alloc (.cells #[.slice none 0 0, .bool false] 51)) 0 := by
  have h1 : (W.alloc (.cells Z 45)).heap.size = W.heap.size + 1 := size_alloc _ _
  have h2 : ((W.alloc (.cells Z 45)).alloc (.cells #[.slice none 0 0, .bool false] 51)).heap.size = W.heap.size + 2 := by rw [size_alloc, h1]
  have h3 := blk_new (W.alloc (.cells Z 45)) (.cells #[.slice none 0 0, .bool false] 51)
  rw [h1] at h3
  exact ⟨⟨by omega, by omega, by omega, .slice none 0 0, h3, own_nil _ _ _ _⟩, Kw.refl _ _ _, by omega, by omega, blk_alloc (blk_new W _) _⟩
theorem finish {W w2 : World} (h : Zs (W.heap.size + 2) (W.heap.size + 1) W.heap.size ((W.alloc (.cells Z 45)).alloc (.cells #[.slice none 0 0, .bool false] 51)) w2 37) :
    ∃ A c, w2.heap[W.heap.size + 1]? = some (.cells #[.slice A 37 c, .bool false] 51 (0, 0)) ∧ 37 ≤ c ∧ (Kd.int .u8).C w2 A 37 (List.replicate 37 0) ∧ Below W.heap.size W w2 := by
  obtain ⟨⟨_, _, _, v, hp, hown⟩, hk, _, _, _⟩ := h
  have hown' : w2.ownsRow (W.heap.size + 2) 5 1 v 37 (nums .u8 (List.replicate 37 0)) := hown
  obtain ⟨A, c, rfl, hrd⟩ := own_reads hown'
  refine ⟨A, c, hp, own_le hown', ?_, ?_⟩
  · exact Kd.C_of_reads (enc := Value.int .u8) (d := (0 : Int)) (h1 := fun _ => rfl) ⟨hrd.1, hrd.2.1, fun h0 => by obtain ⟨ad, e, hc⟩ := hrd.2.2 h0; exact ⟨ad, e, fun j hj => hc j hj⟩⟩
  · have hb : Below W.heap.size W ((W.alloc (.cells Z 45)).alloc (.cells #[.slice none 0 0, .bool false] 51)) := below_alloc (below_alloc (Below.refl _ _) _) _
    exact ⟨hk.os.trans hb.os, hk.tape.trans hb.tape, hk.output.trans hb.output, Nat.le_trans hb.size hk.size, fun j hj => by
      rw [hk.block j (by rw [size_alloc, size_alloc]; omega) (by omega) (.inl (by omega)), hb.block j hj]⟩
set_option maxHeartbeats 1000000 in
theorem put0 (W : World) : Calls Tryz.prog 6 #[.agg Z] W fun e w' => ∃ A c, e = .returned (.tuple #[.slice A 37 c, .int .i64 0]) ∧ 37 ≤ c ∧ (Kd.int .u8).C w' A 37 (List.replicate 37 0) ∧ Below W.heap.size W w' := by
  have HS := Aside0.mk (whole (start W) (by decide))
  go_enter Tryz.func6, Tryz.ntmps6
  go_wp2_with ((with_reducible refine Calls.mono HS.out ?_); rintro e w2 ⟨rfl, h2⟩; obtain ⟨A, c, hp, hc, hC, hB⟩ := finish h2; have c0 := (blk_cell hp 0); have c1 := (blk_cell hp 1); have HP := Aside0.mk hp; have HC := Aside0.mk hc; have HCC := Aside0.mk hC; have HB := Aside0.mk hB; clear h2 hp hc hC hB)
  go_ret2
  exact ⟨A, c, rfl, HC.out, HCC.out, HB.out⟩
end Go.Proofs.YtiepfpojkblmbaaGreat.HandF
