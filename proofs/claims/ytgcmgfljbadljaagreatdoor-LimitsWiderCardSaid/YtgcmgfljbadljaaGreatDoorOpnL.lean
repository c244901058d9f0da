/-
  What the arguments of limits' statements read as: a format, kinds of cards, a deck.
-/
import Derived.Test.YtgcmgfljbadljaaGreatDoorOpn
namespace Go.Proofs.YtgcmgfljbadljaaGreatDoor.Opn
set_option linter.unusedVariables false
set_option linter.unusedSimpArgs false
open Go.RowKit Go.ChangeShapes Go.WideShapes Go.Proofs.YtgcmgfljbadljaaGreatDoorW.PrintWords Go.Proofs.YtgcmgfljbadljaaGreatDoor.L

theorem opn42 (n : Nat) : Opn Tryz.prog n 42 k42 (fun y => y.f0.size ≤ reachBytes) := by
  cases n with
  | zero => exact zero
  | succ n =>
    have h := iso (fun x : S42 => (x.f0, x.f1, x.f2)) (fun a => ⟨a.1, a.2.1, a.2.2⟩) (fun _ => rfl)
      (struct (n := n) (t := 42) Tryz.underlying42 (by kernel_rfl) (cons rfl (by kernel_rfl) (string Tryz.underlying9) (cons rfl (by kernel_rfl) (int Tryz.underlying3) (one rfl (by kernel_rfl) (int Tryz.underlying3)))))
    exact imp h (fun _ _ _ h => h) (fun _ h => h.1)
theorem opn209 (n : Nat) : Opn Tryz.prog n 209 k209 (fun _ => True) := by
  cases n with
  | zero => exact zero
  | succ n =>
    have h := iso (fun x : S209 => (x.f0, x.f1, x.f2)) (fun a => ⟨a.1, a.2.1, a.2.2⟩) (fun _ => rfl)
      (struct (n := n) (t := 209) Tryz.underlying209 (by kernel_rfl) (cons rfl (by kernel_rfl) (int Tryz.underlying5) (cons rfl (by kernel_rfl) (int Tryz.underlying5) (one rfl (by kernel_rfl) (int Tryz.underlying5)))))
    exact imp h (fun _ _ _ h => h) (fun _ _ => trivial)
theorem opn214 (n : Nat) : Opn Tryz.prog n 214 k214 (fun _ => True) := by
  induction n using Nat.strongRecOn with
  | ind n ih =>
    cases n with
    | zero => exact zero
    | succ n =>
      have h := iso (fun x : S214 => (x.f0, x.f1, x.f2, x.f3, x.f4)) (fun a => ⟨a.1, a.2.1, a.2.2.1, a.2.2.2.1, a.2.2.2.2⟩) (fun _ => rfl)
        (struct (n := n) (t := 214) Tryz.underlying214 (by kernel_rfl) (cons rfl (by kernel_rfl) (int Tryz.underlying5) (cons rfl (by kernel_rfl) (int Tryz.underlying3) (cons rfl (by kernel_rfl) (int Tryz.underlying5) (cons rfl (by kernel_rfl) (opn209 n) (one rfl (by kernel_rfl) (slice Tryz.underlying207 (by kernel_rfl) (fun m hm => ih m (by omega)))))))))
      refine imp h (fun w x cs h => ?_) (fun _ _ => trivial)
      obtain ⟨_, _, rfl, rfl, ⟨_, _, rfl, rfl, ⟨_, _, rfl, rfl, ⟨_, _, rfl, s3, ⟨A6, c6, rfl, l6, g6⟩⟩⟩⟩⟩ := h
      obtain rfl := k209_open s3
      exact k214_mk w x l6 g6
theorem opn216 (n : Nat) : Opn Tryz.prog n 216 k216 (fun _ => True) := by
  cases n with
  | zero => exact zero
  | succ n =>
    have h := iso (fun x : S216 => (x.f0, x.f1, x.f2, x.f3, x.f4)) (fun a => ⟨a.1, a.2.1, a.2.2.1, a.2.2.2.1, a.2.2.2.2⟩) (fun _ => rfl)
      (struct (n := n) (t := 216) Tryz.underlying216 (by kernel_rfl) (cons rfl (by kernel_rfl) (int Tryz.underlying5) (cons rfl (by kernel_rfl) (int Tryz.underlying5) (cons rfl (by kernel_rfl) (opn214 n) (cons rfl (by kernel_rfl) (bool Tryz.underlying4) (one rfl (by kernel_rfl) (opn209 n)))))))
    exact imp h (fun _ _ _ h => h) (fun _ _ => trivial)
theorem opn212 (n : Nat) : Opn Tryz.prog n 212 k212 (fun _ => True) := by
  cases n with
  | zero => exact zero
  | succ n =>
    have h := iso (fun x : S212 => (x.f0, x.f1, x.f2, x.f3, x.f4, x.f5, x.f6, x.f7, x.f8, x.f9)) (fun a => ⟨a.1, a.2.1, a.2.2.1, a.2.2.2.1, a.2.2.2.2.1, a.2.2.2.2.2.1, a.2.2.2.2.2.2.1, a.2.2.2.2.2.2.2.1, a.2.2.2.2.2.2.2.2.1, a.2.2.2.2.2.2.2.2.2⟩) (fun _ => rfl)
      (struct (n := n) (t := 212) Tryz.underlying212 (by kernel_rfl) (cons rfl (by kernel_rfl) (int Tryz.underlying5) (cons rfl (by kernel_rfl) (int Tryz.underlying5) (cons rfl (by kernel_rfl) (int Tryz.underlying5) (cons rfl (by kernel_rfl) (slice Tryz.underlying207 (by kernel_rfl) (fun m _ => opn214 m)) (cons rfl (by kernel_rfl) (int Tryz.underlying3) (cons rfl (by kernel_rfl) (int Tryz.underlying3) (cons rfl (by kernel_rfl) (bool Tryz.underlying4) (cons rfl (by kernel_rfl) (int Tryz.underlying3) (cons rfl (by kernel_rfl) (opn209 n) (one rfl (by kernel_rfl) (slice Tryz.underlying210 (by kernel_rfl) (fun m _ => opn216 m)))))))))))))
    exact imp h (fun _ _ _ h => h) (fun _ _ => trivial)
theorem opn47 (n : Nat) : Opn Tryz.prog n 47 k47 (fun y => y.f0.size ≤ reachBytes) := by
  cases n with
  | zero => exact zero
  | succ n =>
    have h := iso (fun x : S47 => (x.f0, x.f1, x.f2, x.f3, x.f4, x.f5)) (fun a => ⟨a.1, a.2.1, a.2.2.1, a.2.2.2.1, a.2.2.2.2.1, a.2.2.2.2.2⟩) (fun _ => rfl)
      (struct (n := n) (t := 47) Tryz.underlying47 (by kernel_rfl) (cons rfl (by kernel_rfl) (string Tryz.underlying9) (cons rfl (by kernel_rfl) (int Tryz.underlying5) (cons rfl (by kernel_rfl) (int Tryz.underlying3) (cons rfl (by kernel_rfl) (int Tryz.underlying3) (cons rfl (by kernel_rfl) (int Tryz.underlying3) (one rfl (by kernel_rfl) (slice Tryz.underlying45 (by kernel_rfl) (fun m _ => opn212 m)))))))))
    exact imp h (fun _ _ _ h => h) (fun _ h => h.1)
/-- A format. -/
theorem opn24 (n : Nat) : Opn Tryz.prog n 24 k24 (fun y => y.f0.size ≤ reachBytes ∧ ∀ x ∈ y.f3, x.f0.size ≤ reachBytes) := by
  cases n with
  | zero => exact zero
  | succ n =>
    have h := iso (fun x : S24 => (x.f0, x.f1, x.f2, x.f3)) (fun a => ⟨a.1, a.2.1, a.2.2.1, a.2.2.2⟩) (fun _ => rfl)
      (struct (n := n) (t := 24) Tryz.underlying24 (by kernel_rfl) (cons rfl (by kernel_rfl) (string Tryz.underlying9) (cons rfl (by kernel_rfl) (int Tryz.underlying3) (cons rfl (by kernel_rfl) (int Tryz.underlying3) (one rfl (by kernel_rfl) (slice Tryz.underlying22 (by kernel_rfl) (fun m _ => opn42 m)))))))
    exact imp h (fun _ _ _ h => h) (fun _ h => ⟨h.1, h.2.2.2.1⟩)
/-- Kinds. -/
theorem opn25 (n : Nat) : Opn Tryz.prog n 25 (Kd.slice 47 k47) (fun _ => True) := imp (slice Tryz.underlying25 (by kernel_rfl) (fun m _ => opn47 m)) (fun _ _ _ h => h) (fun _ _ => trivial)
/-- A deck. -/
theorem opn26 (n : Nat) : Opn Tryz.prog n 26 (Kd.slice 3 (Kd.int .i64)) (fun _ => True) := imp (slice Tryz.underlying26 (by kernel_rfl) (fun m _ => int Tryz.underlying3)) (fun _ _ _ h => h) (fun _ _ => trivial)
end Go.Proofs.YtgcmgfljbadljaaGreatDoor.Opn
