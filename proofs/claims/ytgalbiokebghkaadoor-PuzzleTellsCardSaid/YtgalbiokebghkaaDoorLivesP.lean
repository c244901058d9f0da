/-
  The examples that the statement PuzzleTells runs each time are true.
-/
import Derived.Test.YtgalbiokebghkaaDoorPureP
namespace Go.Proofs.YtgalbiokebghkaaDoor.HandP
set_option linter.unusedVariables false
set_option linter.unusedSimpArgs false
open Go.RowKit Go.Proofs.YtgalbiokebghkaaDoorW.PrintWords Go.Proofs.YtgalbiokebghkaaDoor.P Go.Proofs.YtgalbiokebghkaaDoor.PureP Go.Lib

theorem readR_some {a b : Int} {r : List Int} {s : List UInt8} (h : Puz.mayB a b r = true) (h0 : 0 ≤ a) (e : Puz.write a b r = s) : readR s = (a, b, r, 0) := by
  subst e
  unfold readR
  rw [Puz.read_write h h0]
theorem w1 : Puz.write 0 3 [0, 0, 0] = [119, 105, 110, 32, 48, 32, 105, 110, 32, 51, 32, 97, 102, 116, 101, 114, 32, 48, 32, 48, 32, 48, 10] := by
  simp [Puz.write, Puz.words, itoa, decDigits, join, List.intercalate]
theorem w2 : Puz.write 0 3 [] = [119, 105, 110, 32, 48, 32, 105, 110, 32, 51, 32, 97, 102, 116, 101, 114, 10] := by
  simp [Puz.write, Puz.words, itoa, decDigits, join, List.intercalate]
theorem f4 : fieldsU [119, 105, 110, 32, 48, 32, 105, 110, 32, 48, 51, 32, 97, 102, 116, 101, 114, 10] = [[119, 105, 110], [48], [105, 110], [48, 51], [97, 102, 116, 101, 114]] := by decide +kernel
theorem r3 : readR [119, 105, 110, 32, 50, 32, 105, 110, 32, 51, 32, 97, 102, 116, 101, 114, 10] = (0, 0, [], 5) := by
  have f3 : fieldsU [119, 105, 110, 32, 50, 32, 105, 110, 32, 51, 32, 97, 102, 116, 101, 114, 10] = [[119, 105, 110], [50], [105, 110], [51], [97, 102, 116, 101, 114]] := by decide +kernel
  have n3 : Puz.nums [[50], [51]] = some [2, 3] := by decide +kernel
  unfold readR Puz.read
  rw [f3]
  simp [n3]
theorem r4 : readR [119, 105, 110, 32, 48, 32, 105, 110, 32, 48, 51, 32, 97, 102, 116, 101, 114, 10] = (0, 0, [], 5) := by
  have n4 : Puz.nums [[48], [48, 51]] = some [0, 3] := by decide +kernel
  unfold readR Puz.read
  rw [f4]
  simp [n4, w2]
theorem lives_true (k : Nat) (hk : 2000 ≤ k) : joustlaw36_lives.f k = some true := by
  unfold joustlaw36_lives.f
  rw [read _ (by decide) k (by simp [ByteArray.size]; omega), read _ (by decide) k (by simp [ByteArray.size]; omega), read _ (by decide) k (by simp [ByteArray.size]; omega), read _ (by decide) k (by simp [ByteArray.size]; omega)]
  simp only [Option.bind_some]
  rw [readR_some (s := [119, 105, 110, 32, 48, 32, 105, 110, 32, 51, 32, 97, 102, 116, 101, 114, 32, 48, 32, 48, 32, 48, 10]) (by decide) (by decide) w1, readR_some (s := [119, 105, 110, 32, 48, 32, 105, 110, 32, 51, 32, 97, 102, 116, 101, 114, 10]) (by decide) (by decide) w2, r3, r4]
  simp only [if_true]
  rw [ints _ _ (by simp) (by simp) k (by simp; omega)]
  simp
theorem joustlaw36_lives.always (k : Nat) (r : Bool) (h : joustlaw36_lives.f k = some r) : true = r := by
  have h1 := more_rounds (g := joustlaw36_lives.f) joustlaw36_lives.mono k 2000 r h
  rw [lives_true (k + 2000) (by omega)] at h1
  injection h1
end Go.Proofs.YtgalbiokebghkaaDoor.HandP
