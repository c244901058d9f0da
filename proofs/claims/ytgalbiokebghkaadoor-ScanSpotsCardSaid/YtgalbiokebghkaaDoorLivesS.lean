/-
  The examples that the statements of scan run each time are true.
-/
import Derived.Test.YtgalbiokebghkaaDoorS11
namespace Go.Proofs.YtgalbiokebghkaaDoor.HandS
set_option linter.unusedVariables false
set_option linter.unusedSimpArgs false
open Go.RowKit Go.Proofs.YtgalbiokebghkaaDoorW.PrintWords Go.Proofs.YtgalbiokebghkaaDoor.S Go.Proofs.YtgalbiokebghkaaDoor.Iter

theorem lives_at : joustlaw01_lives.f 100 = some true := by decide +kernel
theorem lives_true (k : Nat) (hk : 100 ≤ k) : joustlaw01_lives.f k = some true := by
  obtain ⟨d, rfl⟩ : ∃ d, k = 100 + d := ⟨k - 100, by omega⟩
  exact more_rounds (g := joustlaw01_lives.f) joustlaw01_lives.mono 100 d true lives_at
theorem joustlaw01_lives.always (k : Nat) (r : Bool) (h : joustlaw01_lives.f k = some r) : true = r := by
  have h1 := more_rounds (g := joustlaw01_lives.f) joustlaw01_lives.mono k 100 r h
  rw [lives_true (k + 100) (by omega)] at h1
  injection h1
end Go.Proofs.YtgalbiokebghkaaDoor.HandS
