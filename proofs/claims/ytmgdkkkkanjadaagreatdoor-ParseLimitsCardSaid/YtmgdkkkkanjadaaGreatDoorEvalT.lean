/-
  The texts of ParseLimits, as words: what the reader comes to. Conditions: none.
-/
import Derived.Test.YtmgdkkkkanjadaaGreatDoorLaidT
import Derived.Test.YtmgdkkkkanjadaaGreatDoorHandO
namespace Go.Proofs.YtmgdkkkkanjadaaGreatDoor.PureS
set_option linter.unusedVariables false
open Go.Proofs.YtmgdkkkkanjadaaGreatDoor.X Go.Proofs.YtmgdkkkkanjadaaGreatDoor.HandA Go.Proofs.YtmgdkkkkanjadaaGreatDoor.HandB Go.Proofs.YtmgdkkkkanjadaaGreatDoor.HandC Go.Proofs.YtmgdkkkkanjadaaGreatDoor.HandD Go.Proofs.YtmgdkkkkanjadaaGreatDoor.HandE Go.Proofs.YtmgdkkkkanjadaaGreatDoor.HandF Go.Proofs.YtmgdkkkkanjadaaGreatDoor.HandG Go.Proofs.YtmgdkkkkanjadaaGreatDoor.HandH Go.Proofs.YtmgdkkkkanjadaaGreatDoor.HandI Go.Proofs.YtmgdkkkkanjadaaGreatDoor.HandJ Go.Proofs.YtmgdkkkkanjadaaGreatDoor.HandK Go.Proofs.YtmgdkkkkanjadaaGreatDoor.HandL Go.Proofs.YtmgdkkkkanjadaaGreatDoor.HandM Go.Proofs.YtmgdkkkkanjadaaGreatDoor.HandN Go.Proofs.YtmgdkkkkanjadaaGreatDoor.HandO
def wTrap : Wd := (1, [116, 114, 97, 112])
def wT : Wd := (1, [116])
def wOpen : Wd := (3, [123])
def wShut : Wd := (3, [125])
def wPlay : Wd := (1, [112, 108, 97, 121])
def wColon : Wd := (3, [58])
def wNeeds : Wd := (1, [110, 101, 101, 100, 115])
def wOne : Wd := (2, [49])
def wNegate : Wd := (1, [110, 101, 103, 97, 116, 101])
def wSemi : Wd := (3, [59])
def wPar : Wd := (3, [40])
def wNot : Wd := (1, [110, 111, 116])
def wEnd : Wd := (3, [41])
def unitK : Nat → List Wd
  | 0 => [wTrap, wT, wOpen, wShut]
  | 1 => [wPlay, wColon]
  | 2 => [wNeeds, wOne]
  | 3 => [wNegate, wSemi]
  | 4 => [wPar, wNot]
  | _ => [wOne]
def aheadK : Nat → List Wd
  | 1 => [wTrap, wT, wOpen]
  | 2 => [wTrap, wT, wOpen, wPlay]
  | 3 => [wTrap, wT, wOpen, wPlay, wColon]
  | _ => []
def behindK : Nat → List Wd
  | 1 => [wShut]
  | 2 => [wColon, wShut]
  | 3 => [wShut]
  | 4 => [wOne]
  | _ => []
def mostK : Nat → Nat
  | 0 => 64
  | 1 => 4
  | 2 => 6
  | 3 => 6
  | 4 => 5
  | _ => 6
def rep : Nat → List Wd → List Wd
  | 0, _ => []
  | n + 1, u => u ++ rep n u
def wordsK (k n : Nat) : List Wd := aheadK k ++ (rep n (unitK k) ++ (behindK k ++ if k = 4 then rep n [wEnd] else []))
def toksK (k n : Nat) : List S69 := row 1 (wordsK k n) ++ [stopT (wordsK k n)]
def answerK (k n : Nat) : Option (Int × Int × Int) := if k < 4 then (allF cardIs cardS 64 (toksK k n)).map Prod.snd else if (allF cardIs cardS 64 (toksK k n)).isSome then (allF exprIs valueS 6 (toksK k n)).map Prod.snd else none
def wantK (k n : Nat) : Int × Int × Int := if n ≤ mostK k then (0, 0, 0) else (3, 1, (((laid (aheadK k)).length + mostK k * (laid (unitK k)).length + 1 : Nat) : Int))
def okK (k n : Nat) : Bool := decide (answerK k n = some (wantK k n)) && (wordsK k n).all okW
theorem ok0_0 : ∀ n : Fin 8, okK 0 (0 + n.1) = true := by decide +kernel
theorem ok0_1 : ∀ n : Fin 8, okK 0 (8 + n.1) = true := by decide +kernel
theorem ok0_2 : ∀ n : Fin 8, okK 0 (16 + n.1) = true := by decide +kernel
theorem ok0_3 : ∀ n : Fin 8, okK 0 (24 + n.1) = true := by decide +kernel
theorem ok0_4 : ∀ n : Fin 8, okK 0 (32 + n.1) = true := by decide +kernel
theorem ok0_5 : ∀ n : Fin 8, okK 0 (40 + n.1) = true := by decide +kernel
theorem ok0_6 : ∀ n : Fin 8, okK 0 (48 + n.1) = true := by decide +kernel
theorem ok0_7 : ∀ n : Fin 8, okK 0 (56 + n.1) = true := by decide +kernel
theorem ok0_8 : ∀ n : Fin 4, okK 0 (64 + n.1) = true := by decide +kernel
theorem ok0 (n : Nat) (h : n < 68) : okK 0 n = true := by
  by_cases h0 : n < 8
  · have := ok0_0 ⟨n - 0, by omega⟩
    rwa [show 0 + (n - 0) = n by omega] at this
  by_cases h1 : n < 16
  · have := ok0_1 ⟨n - 8, by omega⟩
    rwa [show 8 + (n - 8) = n by omega] at this
  by_cases h2 : n < 24
  · have := ok0_2 ⟨n - 16, by omega⟩
    rwa [show 16 + (n - 16) = n by omega] at this
  by_cases h3 : n < 32
  · have := ok0_3 ⟨n - 24, by omega⟩
    rwa [show 24 + (n - 24) = n by omega] at this
  by_cases h4 : n < 40
  · have := ok0_4 ⟨n - 32, by omega⟩
    rwa [show 32 + (n - 32) = n by omega] at this
  by_cases h5 : n < 48
  · have := ok0_5 ⟨n - 40, by omega⟩
    rwa [show 40 + (n - 40) = n by omega] at this
  by_cases h6 : n < 56
  · have := ok0_6 ⟨n - 48, by omega⟩
    rwa [show 48 + (n - 48) = n by omega] at this
  by_cases h7 : n < 64
  · have := ok0_7 ⟨n - 56, by omega⟩
    rwa [show 56 + (n - 56) = n by omega] at this
  have := ok0_8 ⟨n - 64, by omega⟩
  rwa [show 64 + (n - 64) = n by omega] at this
theorem ok1 : ∀ n : Fin 8, okK 1 n.1 = true := by decide +kernel
theorem ok2 : ∀ n : Fin 10, okK 2 n.1 = true := by decide +kernel
theorem ok3 : ∀ n : Fin 10, okK 3 n.1 = true := by decide +kernel
theorem ok4 : ∀ n : Fin 9, okK 4 n.1 = true := by decide +kernel
theorem ok5 : ∀ n : Fin 10, okK 5 n.1 = true := by decide +kernel
end Go.Proofs.YtmgdkkkkanjadaaGreatDoor.PureS
