/- Written by a program of this claim's author (stubprint.py, over the kit's print) out of the translation: Go functions as Lean functions, and that the calls come to them. -/
import Derived.Test.YtiepfpojkblmbaaGreatProg
import Derived.Below
import Derived.Deep.Draws
import Derived.Deep.AppendLies
import Derived.Maps.AppendAt
import Derived.OwnWalk
import Derived.Laws.BytesArg
import Derived.Laws.MakeOwn
import Derived.Laws.OwnMore
import Derived.Deep.OwnRows
import Derived.Tactics
import Derived.Lib.ConvBytes
import Derived.Laws.Slices
import Derived.WalkKit
import Derived.KernelRfl
import Derived.RowKit3
import Derived.Deep.LoopGhost
import Derived.Deep.QuietTactic
import Derived.BigQuiet
import Derived.WideLaws
import Derived.Deep.DeepCutAuto
import Derived.Deep.CutBlock
import Derived.Deep.RegionHeld3
import Derived.Laws.Rows
import Derived.Lib.AppendStr
import Derived.ArgAppend
import Derived.Laws.IdiomCopy
import Derived.OrdersHeld
import Derived.Laws.BitsLemmas
import Derived.RowKit
import Derived.Test.YtiepfpojkblmbaaGreatWWords
import Derived.Test.YtiepfpojkblmbaaGreatWLast
import Derived.Test.YtiepfpojkblmbaaGreatWTab
import Derived.Test.YtiepfpojkblmbaaGreatWFour
import Derived.Test.YtiepfpojkblmbaaGreatWQPut
import Derived.Test.YtiepfpojkblmbaaGreatWApart
import Derived.Test.YtiepfpojkblmbaaGreatWArr
import Derived.Test.YtiepfpojkblmbaaGreatWZeros
import Derived.Test.YtiepfpojkblmbaaGreatWFoot
import Derived.Test.YtiepfpojkblmbaaGreatWKept
import Derived.Test.YtiepfpojkblmbaaGreatWShare
import Derived.Test.YtiepfpojkblmbaaGreatWN
import Derived.Test.YtiepfpojkblmbaaGreatWFootNe
import Derived.Test.YtiepfpojkblmbaaGreatWAt
import Derived.Test.YtiepfpojkblmbaaGreatWEqStruct
import Derived.Test.YtiepfpojkblmbaaGreatWRepsOne
import Derived.Test.YtiepfpojkblmbaaGreatWInv
import Derived.Test.YtiepfpojkblmbaaGreatWInvWords
import Derived.Test.YtiepfpojkblmbaaGreatWGuard
import Derived.Test.YtiepfpojkblmbaaGreatWNEv
import Derived.Test.YtiepfpojkblmbaaGreatWMore
namespace Go.Proofs.YtiepfpojkblmbaaGreat.M
open Go.RowKit Go.Proofs.YtiepfpojkblmbaaGreatW.PrintWords Go.Proofs.YtiepfpojkblmbaaGreatW.PrintLast Go.Proofs.YtiepfpojkblmbaaGreatW.PrintMore
attribute [local go_sem] max2_int min2_int max_two min_two max_three min_three max_four min_four   -- for this text's walks alone
set_option linter.unusedVariables false
set_option linter.unusedSimpArgs false



def errW : Option Int → Value
  | none => .nilIface
  | some c => .iface 0 (.int .i64 c)
def errV (N : Nat) : Option Int → Value
  | none => .nilIface
  | some _ => .iface 0 (.pointer (some ⟨N, 0, none⟩))
theorem errV_none (N : Nat) : errV N none = .nilIface := rfl
theorem errV_some (N : Nat) (c : Int) : errV N (some c) = .iface 0 (.pointer (some ⟨N, 0, none⟩)) := rfl
theorem errW_none : errW none = .nilIface := rfl
theorem errW_some (c : Int) : errW (some c) = .iface 0 (.int .i64 c) := rfl

theorem info3 : (Tryz.prog.info? 3).map (fun i => (i.zero, i.size, i.bytes)) = some (some (.int .i64 0), 1, 8) := by kernel_rfl
theorem info211 : (Tryz.prog.info? 211).map (fun i => (i.zero, i.size, i.bytes)) = some (some (.agg #[(.int .i64 0), (.int .i64 0)]), 2, 16) := by kernel_rfl
-- the values' own types
/-! #### struct type 211 -/
structure S211 where
  f0 : Int
  f1 : Int
def z211 : S211 := ⟨(0 : Int), (0 : Int)⟩
def k211 : Kd S211 := Kd.iso (Kd.pair (Kd.int .i64) (Kd.int .i64)) (fun x : S211 => (x.f0, x.f1))
theorem k211_open {w : World} {x : S211} {cs : List Value} (h : k211.K w x cs) : cs = [.int .i64 x.f0, .int .i64 x.f1] := by
  obtain ⟨_, _, rfl, rfl, rfl⟩ := h
  exact rfl
theorem k211_openM {w : World} {base : Nat} {ok : Nat → Prop} {x : S211} {cs : List Value} (h : k211.M w base ok x cs) : cs = [.int .i64 x.f0, .int .i64 x.f1] := by
  obtain ⟨_, _, rfl, rfl, rfl⟩ := h
  exact rfl
theorem k211_mk (w : World) (x : S211)  : k211.K w x [.int .i64 x.f0, .int .i64 x.f1] := ⟨[.int .i64 x.f0], [.int .i64 x.f1], rfl, rfl, rfl⟩
theorem k211_mkM (w : World) (base : Nat) (ok : Nat → Prop) (x : S211)  : k211.M w base ok x [.int .i64 x.f0, .int .i64 x.f1] := ⟨[.int .i64 x.f0], [.int .i64 x.f1], rfl, rfl, rfl⟩
def rd_T211 (xs : List S211) (i : Int) : S211 := xs.getD i.toNat z211
theorem at_T211 {w : World} {A : Option Addr} {n : Nat} {xs : List S211} (h : Kd.C k211 w A n xs) (i : Int) (h0 : 0 ≤ i) (h1 : i < n) : ∃ ad , A = some ad ∧ w.cell? (ad.add (i.toNat * 2)) = some (.int .i64 (rd_T211 xs i).f0) ∧ w.cell? ⟨(ad.add (i.toNat * 2)).block, (ad.add (i.toNat * 2)).off + 1, none⟩ = some (.int .i64 (rd_T211 xs i).f1) := by
  obtain ⟨ad, c, e, _, hK, hc0⟩ := Kd.C_get h z211 i h0 h1
  have hc : ∀ j u, c[j]? = some u → w.cell? (ad.add (i.toNat * 2 + j)) = some u := hc0
  obtain rfl := k211_open hK
  exact ⟨ad, e, hc 0 _ rfl, by rw [← add_field _ _ 1 (by omega)]; exact hc 1 _ rfl⟩

end Go.Proofs.YtiepfpojkblmbaaGreat.M
