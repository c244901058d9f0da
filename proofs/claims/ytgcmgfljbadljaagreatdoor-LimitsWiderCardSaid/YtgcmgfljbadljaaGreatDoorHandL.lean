/-
  limits.Read as the print's stub: its function, more rounds, the calls. Conditions: what the listed package variables hold.
-/
import Derived.Test.YtgcmgfljbadljaaGreatDoorHandD
namespace Go.Proofs.YtgcmgfljbadljaaGreatDoor.HandS
set_option linter.unusedVariables false
open Go.RowKit Go.Shelf Go.Lib Go.Proofs.YtgcmgfljbadljaaGreatDoorW.PrintWords Go.Proofs.YtgcmgfljbadljaaGreatDoorW.PrintLast Go.Proofs.YtgcmgfljbadljaaGreatDoorW.PrintMore Go.Proofs.YtgcmgfljbadljaaGreatDoor.L Go.Proofs.YtgcmgfljbadljaaGreatDoor.HandS Go.Proofs.YtgcmgfljbadljaaGreatDoor.HandF Go.Proofs.YtgcmgfljbadljaaGreatDoor.HandR

theorem cardsS_mono (T : List S74) : ∀ (k : Nat) (L : List S42) (s : Rd), LeO (cardsS T k L s) (cardsS T (k + 1) L s) := by
  intro k
  induction k with
  | zero => intro L s; exact LeO.none _
  | succ k ih =>
    intro L s
    rw [cardsS, cardsS]
    refine LeO.ite ?_ ?_
    · refine LeO.ite ?_ (LeO.refl _)
      exact LeO.bind (LeO.refl _) (fun x => ih _ _)
    · exact LeO.refl _
def limits_Read.f (k : Nat) (a0 : ByteArray) : Option (ByteArray × Int × Int × (List (S42)) × Int × Int × Int) := readF k a0
theorem limits_Read.mono : ∀ a0 k, LeO (limits_Read.f k a0) (limits_Read.f (k + 1) a0) := by
  intro a0 k
  unfold limits_Read.f readF
  refine LeO.bind (scan_Tokens.mono _ _) (fun x => ?_)
  unfold readS
  refine LeO.ite (LeO.refl _) ?_
  refine LeO.ite (LeO.refl _) ?_
  refine LeO.bind (LeO.refl _) (fun h => ?_)
  exact LeO.bind (cardsS_mono _ _ _ _) (fun y => LeO.refl _)
theorem limits_Read.calls (k : Nat) (a0 : ByteArray) (r1 : ByteArray) (r2 : Int) (r3 : Int) (r4 : List (S42)) (r5 : Int) (r6 : Int) (r7 : Int) (w : World) (hG : Tabs w) (h : limits_Read.f k a0 = some (r1, r2, r3, r4, r5, r6, r7)) :
    Calls Tryz.prog 16 #[.string a0] w fun e w' => ∃ v3_ : Value, e = .returned (.tuple #[.agg #[.string r1, .int .i64 r2, .int .i64 r3, v3_], .agg #[.int .i64 r5, .int .i64 r6, .int .i64 r7]]) ∧ Kd.R k42 42 w' w.heap.size (fun _ => True) v3_ r4 ∧ Below w.heap.size w w' :=
  readF_calls k a0 r1 r2 r3 r4 r5 r6 r7 w hG h
end Go.Proofs.YtgcmgfljbadljaaGreatDoor.HandS
