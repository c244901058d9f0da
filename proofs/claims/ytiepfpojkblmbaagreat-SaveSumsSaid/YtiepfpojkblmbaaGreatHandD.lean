/- The writer over the cells of a duel of zeros: each method by what it does to the state. -/
import Derived.Test.YtiepfpojkblmbaaGreatHandC
namespace Go.Proofs.YtiepfpojkblmbaaGreat.HandD
set_option linter.unusedVariables false
set_option linter.unusedSimpArgs false
open Go.RowKit Go.Lib Go.Proofs.YtiepfpojkblmbaaGreatW.PrintWords Go.Proofs.YtiepfpojkblmbaaGreatW.PrintLast Go.Proofs.YtiepfpojkblmbaaGreatW.PrintMore Go.Proofs.YtiepfpojkblmbaaGreat.U Go.Proofs.YtiepfpojkblmbaaGreat.HandQ Go.Proofs.YtiepfpojkblmbaaGreat.HandA

/-- the cells of a duel of zeros -/
abbrev Z : Array Value := #[.slice none 0 0, .slice none 0 0, .int .i64 0, .int .i64 0, .int .i64 0, .int .u8 0, .int .i64 0, .slice none 0 0, .bool false, .bool false,
  .int .u8 0, .int .u8 0, .bool false, .bool false, .slice none 0 0, .slice none 0 0, .slice none 0 0, .int .u8 0, .int .i64 0, .bool false, .bool false, .int .i64 0, .bool false, .int .i64 0, .int .i64 0, .slice none 0 0,
  .int .u8 0, .int .i64 0, .int .i64 0, .bool false, .slice none 0 0, .bool false, .int .i64 0, .int .u8 0, .int .i64 0, .int .u8 0, .int .u8 0]
/-- the writer p has written m zero bytes; the duel of zeros lies at D -/
structure Zs (B p D : Nat) (W0 W : World) (m : Nat) : Prop where
  wr : Wr B p W m
  kw : Kw B p W0 W
  dp : D ≠ p
  dB : D < B
  dz : W.heap[D]? = some (.cells Z 45 (0, 0))
section
variable {B p D : Nat} {W0 W W1 : World} {m n : Nat}
theorem Zs.step (h : Zs B p D W0 W m) (h1 : Wr B p W1 n) (h2 : Kw B p W W1) : Zs B p D W0 W1 n :=
  ⟨h1, h.kw.trans h2, h.dp, h.dB, by rw [h2.block D (blk_lt h.dz) h.dp (.inl h.dB)]; exact h.dz⟩
theorem Zs.below (h : Zs B p D W0 W m) (hb : Below W.heap.size W W1) : Zs B p D W0 W1 m := h.step (h.wr.below hb) (Kw.below hb)
theorem Zs.drew (h : Zs B p D W0 W m) : Zs B p D W0 W.drew m := h.below (below_drew (Below.refl _ _))
theorem Zs.num (h : Zs B p D W0 W m) (hm : m < 999) (i : Nat) (hi : Z[i]? = some (.int .i64 0)) :
    Calls Tryz.prog 39 #[.pointer (some ⟨p, 0, none⟩), .pointer (some ⟨D, i, none⟩)] W fun e w' => e = .returned (.tuple #[]) ∧ Zs B p D W0 w' (m + 1) :=
  (HandA.number B p W m h.wr hm ⟨D, i, none⟩ ((blk_cell h.dz i).trans hi)).mono fun e w' k => ⟨k.1, h.step k.2.1 k.2.2⟩
theorem Zs.truth (h : Zs B p D W0 W m) (hm : m < 999) (i : Nat) (hi : Z[i]? = some (.bool false)) :
    Calls Tryz.prog 41 #[.pointer (some ⟨p, 0, none⟩), .pointer (some ⟨D, i, none⟩)] W fun e w' => e = .returned (.tuple #[]) ∧ Zs B p D W0 w' (m + 1) :=
  (HandA.truth B p W m h.wr hm ⟨D, i, none⟩ ((blk_cell h.dz i).trans hi)).mono fun e w' k => ⟨k.1, h.step k.2.1 k.2.2⟩
theorem Zs.small (h : Zs B p D W0 W m) (hm : m < 999) (i : Nat) (hi : Z[i]? = some (.int .u8 0)) :
    Calls Tryz.prog 40 #[.pointer (some ⟨p, 0, none⟩), .pointer (some ⟨D, i, none⟩)] W fun e w' => e = .returned (.tuple #[]) ∧ Zs B p D W0 w' (m + 1) :=
  (HandA.small B p W m h.wr hm ⟨D, i, none⟩ ((blk_cell h.dz i).trans hi)).mono fun e w' k => ⟨k.1, h.step k.2.1 k.2.2⟩
theorem Zs.count (h : Zs B p D W0 W m) (hm : m < 999) :
    Calls Tryz.prog 37 #[.pointer (some ⟨p, 0, none⟩), .int .i64 0] W fun e w' => e = .returned (.int .i64 0) ∧ Zs B p D W0 w' (m + 1) :=
  (HandA.count B p W m h.wr hm).mono fun e w' k => ⟨k.1, h.step k.2.1 k.2.2⟩
theorem Zs.kinds (h : Zs B p D W0 W m) (hm : m < 999) (i : Nat) (hi : Z[i]? = some (.slice none 0 0)) :
    Calls Tryz.prog 38 #[.pointer (some ⟨p, 0, none⟩), .pointer (some ⟨D, i, none⟩)] W fun e w' => e = .returned (.tuple #[]) ∧ Zs B p D W0 w' (m + 1) :=
  (HandC.kinds B p W m h.wr hm ⟨D, i, none⟩ ((blk_cell h.dz i).trans hi)).mono fun e w' k => ⟨k.1, h.step k.2.1 k.2.2⟩
end
end Go.Proofs.YtiepfpojkblmbaaGreat.HandD
