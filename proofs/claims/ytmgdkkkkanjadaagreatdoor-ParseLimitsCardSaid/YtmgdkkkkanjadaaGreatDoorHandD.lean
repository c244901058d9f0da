/-
  parse's reader: expressions, whole; steps. Conditions: what the listed package variables hold.
-/
import Derived.Test.YtmgdkkkkanjadaaGreatDoorHandC
namespace Go.Proofs.YtmgdkkkkanjadaaGreatDoor.HandD
set_option linter.unusedVariables false
set_option linter.unusedSimpArgs false
open Go.RowKit Go.Shelf Go.Lib Go.Proofs.YtmgdkkkkanjadaaGreatDoorW.PrintWords Go.Proofs.YtmgdkkkkanjadaaGreatDoorW.PrintLast Go.Proofs.YtmgdkkkkanjadaaGreatDoorW.PrintMore Go.Proofs.YtmgdkkkkanjadaaGreatDoor.X Go.Proofs.YtmgdkkkkanjadaaGreatDoor.HandS Go.Proofs.YtmgdkkkkanjadaaGreatDoor.HandA Go.Proofs.YtmgdkkkkanjadaaGreatDoor.HandB Go.Proofs.YtmgdkkkkanjadaaGreatDoor.HandC

theorem expr_ (x : Cx) (hG : Tabs x.W0) : ∀ (l : Nat), l ≤ 100 → ∀ (w : World) (j : Nat), Rd x w j → ∀ o, exprS x.T l j = some o → Calls Tryz.prog 60 #[.pointer (some ⟨x.r, 0, none⟩), .int .i64 (l : Int)] w (Post x w (rExpr w.heap.size) o) := by
  intro l
  induction l with
  | zero =>
    intro hl w j h o ho
    rw [exprS] at ho
    by_cases hk : (tkAt x.T j).f0 = 2
    · unfold headS at ho
      rw [if_pos hk] at ho
      exact expr_num x hG _ w j h hk ho
    · exact expr_more x hG 0 _ rfl hl _ (fun s j o h => by cases h) (fun l' e => by cases e) w j h hk ho
  | succ l ih =>
    intro hl w j h o ho
    rw [exprS] at ho
    by_cases hk : (tkAt x.T j).f0 = 2
    · unfold headS at ho
      rw [if_pos hk] at ho
      exact expr_num x hG _ w j h hk ho
    · refine expr_more x hG (l + 1) _ rfl hl _ (fun s j o h => ⟨l, rfl, h⟩) (fun l' e => ?_) w j h hk ho
      obtain rfl : l = l' := by omega
      exact ih (by omega)
def valueS (T : List S69) (j : Nat) : Option (Out S50) := exprS T 6 j
set_option maxHeartbeats 1000000 in
set_option maxRecDepth 100000 in
theorem value_ (x : Cx) (hG : Tabs x.W0) (w : World) (j : Nat) (h : Rd x w j) {o : Out S50} (ho : valueS x.T j = some o) : Calls Tryz.prog 26 #[.pointer (some ⟨x.r, 0, none⟩)] w (Post x w (rExpr w.heap.size) o) := by
  have HR := Aside0.mk (h.below_ (below_alloc (Below.refl _ _) (.cells Z50 50)))
  have HG := Aside0.mk (World.grownBy_alloc w (.cells Z50 50) (some x.r))
  have HF := Aside0.mk (blk_new w (.cells Z50 50))
  have HL := Aside0.mk (Nat.ne_of_gt h.rlt)
  have HLB := Aside0.mk (Nat.ne_of_gt h.Blt)
  have HW := Aside0.mk (Nat.le_of_lt (Nat.lt_of_le_of_lt h.hr h.rlt))
  have HT := Aside0.mk hG
  unfold valueS at ho
  rw [← obind_ok (exprS x.T 6 j)] at ho
  have HO := Aside0.mk ho
  clear h ho hG
  go_enter Tryz.func26, Tryz.ntmps26
  go_wp2_with (first
    | (go_at_call 60; refine step_ x HO.out (fun o1 h1 => expr_ x HT.out 6 (by decide) _ _ HR.out o1 h1) (fun e k w' he hr hg => by subst he; exact ⟨rfl, rfl, hr, HG.out.trans hg⟩) ?_; rintro a i v w1 hq ⟨cs, rfl, hM⟩ hr hg; injection hq with hq; subst hq; obtain ⟨v6, rfl, hR6⟩ := k50_openM hM; obtain ⟨A6, c6, rfl⟩ := Kd.R_slice hR6; have HMM := Aside0.mk hR6; have HR := Aside0.mk hr; have HG := Aside0.mk (HG.out.trans hg); have HF := Aside0.mk (own_grown HF.out hg HL.out); clear hr hg hM hR6)
    | ((with_reducible refine gate_store (t := 50) (p := 2) rfl ?_); refine store_row rfl rfl rfl w.heap.size _ rfl rfl HF.out (by kernel_rfl) rfl (by kernel_rfl) ?_; intro w2 hf2 hg2; have HF2 := Aside0.mk hf2; have HG2 := Aside0.mk hg2; clear hf2 hg2))
  refine bodyPost_ret (results_cell_row rfl _ _ w.heap.size 50 _ (0, 0) _ rfl HF2.out Tryz.underlying50 rfl (by kernel_rfl)) rfl ?_
  refine ⟨_, rfl, ⟨_, rfl, ?_⟩, HR.out.other HG2.out HL.out HLB.out HW.out, grown_other HG.out HG2.out (Nat.le_refl _)⟩
  have hb : (w.alloc (.cells Z50 50)).heap.size = w.heap.size + 1 := size_alloc _ _
  have h6 := HMM.out
  rw [hb] at h6
  exact k50_mkM _ _ _ a (Kd.R_lower (R_keep h6 HG2.out (Nat.lt_succ_self _)) (Nat.le_succ _))
end Go.Proofs.YtmgdkkkkanjadaaGreatDoor.HandD
