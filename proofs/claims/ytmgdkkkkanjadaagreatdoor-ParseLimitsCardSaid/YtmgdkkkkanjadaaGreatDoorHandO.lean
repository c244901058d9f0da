/-
  parse.Pool, parse.Exprs. Conditions: what the listed package variables hold.
-/
import Derived.Test.YtmgdkkkkanjadaaGreatDoorHandN
namespace Go.Proofs.YtmgdkkkkanjadaaGreatDoor.HandO
set_option linter.unusedVariables false
set_option linter.unusedSimpArgs false
open Go.RowKit Go.Shelf Go.Lib Go.Proofs.YtmgdkkkkanjadaaGreatDoorW.PrintWords Go.Proofs.YtmgdkkkkanjadaaGreatDoorW.PrintLast Go.Proofs.YtmgdkkkkanjadaaGreatDoorW.PrintMore Go.Proofs.YtmgdkkkkanjadaaGreatDoor.X Go.Proofs.YtmgdkkkkanjadaaGreatDoor.HandS Go.Proofs.YtmgdkkkkanjadaaGreatDoor.HandA Go.Proofs.YtmgdkkkkanjadaaGreatDoor.HandB Go.Proofs.YtmgdkkkkanjadaaGreatDoor.HandC Go.Proofs.YtmgdkkkkanjadaaGreatDoor.HandD Go.Proofs.YtmgdkkkkanjadaaGreatDoor.HandE Go.Proofs.YtmgdkkkkanjadaaGreatDoor.HandF Go.Proofs.YtmgdkkkkanjadaaGreatDoor.HandG Go.Proofs.YtmgdkkkkanjadaaGreatDoor.HandH Go.Proofs.YtmgdkkkkanjadaaGreatDoor.HandI Go.Proofs.YtmgdkkkkanjadaaGreatDoor.HandJ Go.Proofs.YtmgdkkkkanjadaaGreatDoor.HandK Go.Proofs.YtmgdkkkkanjadaaGreatDoor.HandL Go.Proofs.YtmgdkkkkanjadaaGreatDoor.HandM Go.Proofs.YtmgdkkkkanjadaaGreatDoor.HandN

def poolS (k : Nat) (s : ByteArray) : Option (List S38 × Int × Int × Int) := match scan_Tokens.f k s with
  | some (T, r2, r3, r4) => if r2 = 0 ∧ r3 = 0 ∧ r4 = 0 ∧ 0 < T.length then allF cardIs cardS 64 T else none
  | none => none
theorem pool_cases {k : Nat} {s : ByteArray} {r : List S38 × Int × Int × Int} (h : poolS k s = some r) : ∃ T, scan_Tokens.f k s = some (T, 0, 0, 0) ∧ 0 < T.length ∧ allF cardIs cardS 64 T = some r := by
  unfold poolS at h
  split at h
  · next T r2 r3 r4 heq =>
    split at h
    · next hc =>
      obtain ⟨rfl, rfl, rfl, hT⟩ := hc
      exact ⟨T, heq, hT, h⟩
    · cases h
  · cases h
set_option maxHeartbeats 1000000 in
set_option maxRecDepth 100000 in
theorem pool_ (k : Nat) (s : ByteArray) (W : World) (hG : Tabs W) {r : List S38 × Int × Int × Int} (hr : poolS k s = some r) :
    Calls Tryz.prog 6 #[.string s] W fun e w' => ∃ v0 : Value, e = .returned (.tuple #[v0, .agg #[.int .i64 r.2.1, .int .i64 r.2.2.1, .int .i64 r.2.2.2]]) ∧ Kd.R k38 38 w' W.heap.size (fun _ => True) v0 r.1 ∧ Below W.heap.size W w' := by
  obtain ⟨T, hs, hT, ha⟩ := pool_cases hr
  have hba := below_alloc (Below.refl W.heap.size W) (.cells #[.int .i64 0, .int .i64 0, .int .i64 0] 28)
  have HB := Aside0.mk hba
  have HN := Aside0.mk (blk_new W (.cells #[.int .i64 0, .int .i64 0, .int .i64 0] 28))
  have HA := Aside0.mk (all13 k s T hs hT _ (hG.below hba) ha)
  have HSZ := Aside0.mk (size_alloc W (.cells #[.int .i64 0, .int .i64 0, .int .i64 0] 28))
  clear hba hr hs hT ha
  go_enter Tryz.func6, Tryz.ntmps6
  go_wp2_with (first
    | (go_at_call 13; refine HA.out.mono ?_; rintro e w2 ⟨v0, rfl, hR, hb⟩; have hk := blk_below HN.out hb; have HK := Aside0.mk hk; have HB2 := Aside0.mk (below_step HB.out hb); have HR := Aside0.mk hR; clear hR hb hk)
    | ((with_reducible refine gate_store (t := 28) (p := 3) rfl ?_); refine store_row rfl rfl rfl W.heap.size _ rfl rfl HK.out (by kernel_rfl) rfl (by kernel_rfl) ?_; intro w3 hf3 hg3; have HF3 := Aside0.mk hf3; have HG3 := Aside0.mk hg3; clear hf3 hg3))
  refine bodyPost_ret (results_tc rfl _ _ W.heap.size 28 _ (0, 0) _ rfl HF3.out Tryz.underlying28 rfl (by kernel_rfl)) rfl ?_
  have hR := R_keepG HR.out HG3.out (by rw [HSZ.out]; exact Nat.lt_succ_self _)
  exact ⟨_, rfl, Kd.R_lower hR (by rw [HSZ.out]; exact Nat.le_succ _), pw_below_grown HB2.out (some W.heap.size) HB2.out.size HG3.out (fun k e => by cases e; exact Nat.le_refl _)⟩

def exprsS (k : Nat) (s : ByteArray) : Option (List S50 × Int × Int × Int) := match scan_Tokens.f k s with
  | some (T, r2, r3, r4) => if r2 = 0 ∧ r3 = 0 ∧ r4 = 0 ∧ 0 < T.length then allF exprIs valueS 6 T else none
  | none => none
theorem exprs_cases {k : Nat} {s : ByteArray} {r : List S50 × Int × Int × Int} (h : exprsS k s = some r) : ∃ T, scan_Tokens.f k s = some (T, 0, 0, 0) ∧ 0 < T.length ∧ allF exprIs valueS 6 T = some r := by
  unfold exprsS at h
  split at h
  · next T r2 r3 r4 heq =>
    split at h
    · next hc =>
      obtain ⟨rfl, rfl, rfl, hT⟩ := hc
      exact ⟨T, heq, hT, h⟩
    · cases h
  · cases h
set_option maxHeartbeats 1000000 in
set_option maxRecDepth 100000 in
theorem exprs_ (k : Nat) (s : ByteArray) (W : World) (hG : Tabs W) {r : List S50 × Int × Int × Int} (hr : exprsS k s = some r) :
    Calls Tryz.prog 8 #[.string s] W fun e w' => ∃ v0 : Value, e = .returned (.tuple #[v0, .agg #[.int .i64 r.2.1, .int .i64 r.2.2.1, .int .i64 r.2.2.2]]) ∧ Kd.R k50 50 w' W.heap.size (fun _ => True) v0 r.1 ∧ Below W.heap.size W w' := by
  obtain ⟨T, hs, hT, ha⟩ := exprs_cases hr
  have hba := below_alloc (Below.refl W.heap.size W) (.cells #[.int .i64 0, .int .i64 0, .int .i64 0] 28)
  have HB := Aside0.mk hba
  have HN := Aside0.mk (blk_new W (.cells #[.int .i64 0, .int .i64 0, .int .i64 0] 28))
  have HA := Aside0.mk (all24 k s T hs hT _ (hG.below hba) ha)
  have HSZ := Aside0.mk (size_alloc W (.cells #[.int .i64 0, .int .i64 0, .int .i64 0] 28))
  clear hba hr hs hT ha
  go_enter Tryz.func8, Tryz.ntmps8
  go_wp2_with (first
    | (go_at_call 24; refine HA.out.mono ?_; rintro e w2 ⟨v0, rfl, hR, hb⟩; have hk := blk_below HN.out hb; have HK := Aside0.mk hk; have HB2 := Aside0.mk (below_step HB.out hb); have HR := Aside0.mk hR; clear hR hb hk)
    | ((with_reducible refine gate_store (t := 28) (p := 3) rfl ?_); refine store_row rfl rfl rfl W.heap.size _ rfl rfl HK.out (by kernel_rfl) rfl (by kernel_rfl) ?_; intro w3 hf3 hg3; have HF3 := Aside0.mk hf3; have HG3 := Aside0.mk hg3; clear hf3 hg3))
  refine bodyPost_ret (results_tc rfl _ _ W.heap.size 28 _ (0, 0) _ rfl HF3.out Tryz.underlying28 rfl (by kernel_rfl)) rfl ?_
  have hR := R_keepG HR.out HG3.out (by rw [HSZ.out]; exact Nat.lt_succ_self _)
  exact ⟨_, rfl, Kd.R_lower hR (by rw [HSZ.out]; exact Nat.le_succ _), pw_below_grown HB2.out (some W.heap.size) HB2.out.size HG3.out (fun k e => by cases e; exact Nat.le_refl _)⟩

end Go.Proofs.YtmgdkkkkanjadaaGreatDoor.HandO
