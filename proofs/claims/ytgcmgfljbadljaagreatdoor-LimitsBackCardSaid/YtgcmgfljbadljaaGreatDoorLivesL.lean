/-
  The examples that the statements of limits run each time are true.
-/
import Derived.Test.YtgcmgfljbadljaaGreatDoorL8
namespace Go.Proofs.YtgcmgfljbadljaaGreatDoor.HandS
set_option linter.unusedVariables false
set_option linter.unusedSimpArgs false
open Go.RowKit Go.Proofs.YtgcmgfljbadljaaGreatDoorW.PrintWords Go.Proofs.YtgcmgfljbadljaaGreatDoor.L Go.Proofs.YtgcmgfljbadljaaGreatDoor.Iter

theorem lives_at : joustlaw30_lives.f 300 = some true := by decide +kernel
theorem lives_true (k : Nat) (hk : 300 ≤ k) : joustlaw30_lives.f k = some true := by
  obtain ⟨d, rfl⟩ : ∃ d, k = 300 + d := ⟨k - 300, by omega⟩
  exact more_rounds (g := joustlaw30_lives.f) joustlaw30_lives.mono 300 d true lives_at
theorem joustlaw30_lives.always (k : Nat) (r : Bool) (h : joustlaw30_lives.f k = some r) : true = r := by
  have h1 := more_rounds (g := joustlaw30_lives.f) joustlaw30_lives.mono k 300 r h
  rw [lives_true (k + 300) (by omega)] at h1
  injection h1
end Go.Proofs.YtgcmgfljbadljaaGreatDoor.HandS
