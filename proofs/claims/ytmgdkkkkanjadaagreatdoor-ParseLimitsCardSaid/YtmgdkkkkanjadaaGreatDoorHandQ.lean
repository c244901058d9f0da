/-
  parse.Pool, parse.Exprs, as the printed texts call them. Conditions: what the listed package variables hold.
-/
import Derived.Test.YtmgdkkkkanjadaaGreatDoorHandO
namespace Go.Proofs.YtmgdkkkkanjadaaGreatDoor.HandS
set_option linter.unusedVariables false
open Go.RowKit Go.Proofs.YtmgdkkkkanjadaaGreatDoorW.PrintWords Go.Proofs.YtmgdkkkkanjadaaGreatDoorW.PrintLast Go.Proofs.YtmgdkkkkanjadaaGreatDoorW.PrintMore Go.Proofs.YtmgdkkkkanjadaaGreatDoor.X Go.Proofs.YtmgdkkkkanjadaaGreatDoor.HandA Go.Proofs.YtmgdkkkkanjadaaGreatDoor.HandB Go.Proofs.YtmgdkkkkanjadaaGreatDoor.HandC Go.Proofs.YtmgdkkkkanjadaaGreatDoor.HandD Go.Proofs.YtmgdkkkkanjadaaGreatDoor.HandE Go.Proofs.YtmgdkkkkanjadaaGreatDoor.HandF Go.Proofs.YtmgdkkkkanjadaaGreatDoor.HandG Go.Proofs.YtmgdkkkkanjadaaGreatDoor.HandH Go.Proofs.YtmgdkkkkanjadaaGreatDoor.HandI Go.Proofs.YtmgdkkkkanjadaaGreatDoor.HandJ Go.Proofs.YtmgdkkkkanjadaaGreatDoor.HandK Go.Proofs.YtmgdkkkkanjadaaGreatDoor.HandL Go.Proofs.YtmgdkkkkanjadaaGreatDoor.HandM Go.Proofs.YtmgdkkkkanjadaaGreatDoor.HandN Go.Proofs.YtmgdkkkkanjadaaGreatDoor.HandO
theorem pool_of {k : Nat} {s : ByteArray} {T : List S69} (h : scan_Tokens.f k s = some (T, 0, 0, 0)) (hT : 0 < T.length) : poolS k s = allF cardIs cardS 64 T := by
  unfold poolS
  rw [h]
  exact if_pos ⟨rfl, rfl, rfl, hT⟩
theorem exprs_of {k : Nat} {s : ByteArray} {T : List S69} (h : scan_Tokens.f k s = some (T, 0, 0, 0)) (hT : 0 < T.length) : exprsS k s = allF exprIs valueS 6 T := by
  unfold exprsS
  rw [h]
  exact if_pos ⟨rfl, rfl, rfl, hT⟩
def parse_Pool.f (k : Nat) (a0 : ByteArray) : Option ((List (S38)) × Int × Int × Int) := poolS k a0
theorem parse_Pool.mono : ∀ a0 k, LeO (parse_Pool.f k a0) (parse_Pool.f (k + 1) a0) := by
  intro a0 k r h
  obtain ⟨T, hs, hT, ha⟩ := pool_cases h
  exact (pool_of (scan_Tokens.mono a0 k _ hs) hT).trans ha
theorem parse_Pool.calls (k : Nat) (a0 : ByteArray) (r1 : List (S38)) (r2 : Int) (r3 : Int) (r4 : Int) (w : World) (hG : Tabs w) (h : parse_Pool.f k a0 = some (r1, r2, r3, r4)) :
    Calls Tryz.prog 6 #[.string a0] w fun e w' => ∃ v0_ : Value, e = .returned (.tuple #[v0_, .agg #[.int .i64 r2, .int .i64 r3, .int .i64 r4]]) ∧ Kd.R k38 38 w' w.heap.size (fun _ => True) v0_ r1 ∧ Below w.heap.size w w' := pool_ k a0 w hG h
def parse_Exprs.f (k : Nat) (a0 : ByteArray) : Option ((List (S50)) × Int × Int × Int) := exprsS k a0
theorem parse_Exprs.mono : ∀ a0 k, LeO (parse_Exprs.f k a0) (parse_Exprs.f (k + 1) a0) := by
  intro a0 k r h
  obtain ⟨T, hs, hT, ha⟩ := exprs_cases h
  exact (exprs_of (scan_Tokens.mono a0 k _ hs) hT).trans ha
theorem parse_Exprs.calls (k : Nat) (a0 : ByteArray) (r1 : List (S50)) (r2 : Int) (r3 : Int) (r4 : Int) (w : World) (hG : Tabs w) (h : parse_Exprs.f k a0 = some (r1, r2, r3, r4)) :
    Calls Tryz.prog 8 #[.string a0] w fun e w' => ∃ v0_ : Value, e = .returned (.tuple #[v0_, .agg #[.int .i64 r2, .int .i64 r3, .int .i64 r4]]) ∧ Kd.R k50 50 w' w.heap.size (fun _ => True) v0_ r1 ∧ Below w.heap.size w w' := exprs_ k a0 w hG h
end Go.Proofs.YtmgdkkkkanjadaaGreatDoor.HandS
