/- The printed Sum is the plain one. -/
import Derived.Test.YtiepfpojkblmbaaGreatU1
import Derived.Test.YtiepfpojkblmbaaGreatPureU
namespace Go.Proofs.YtiepfpojkblmbaaGreat.U
open Go.RowKit Go.Proofs.YtiepfpojkblmbaaGreatW.PrintWords Go.Proofs.YtiepfpojkblmbaaGreatW.PrintLast Go.Proofs.YtiepfpojkblmbaaGreatW.PrintMore Go.Proofs.YtiepfpojkblmbaaGreat.SumsPure

/-- bytes as numbers -/
def Bs (l : List Int) : Prop := ∀ x ∈ l, 0 ≤ x ∧ x < 256
def nats (l : List Int) : List Nat := l.map Int.toNat
theorem nats_lt {l : List Int} (h : Bs l) : ∀ c ∈ nats l, c < 2 ^ 64 := by
  intro c hc
  obtain ⟨x, hx, rfl⟩ := List.mem_map.mp hc
  have := h x hx
  omega
theorem wrap_u64 (n : Int) : IntKind.u64.wrap n = n % 18446744073709551616 := by simp [IntKind.wrap, IntKind.bits, IntKind.signed]
theorem xor_u64 (a b : Nat) (ha : a < 2 ^ 64) (hb : b < 2 ^ 64) : Go.bits .xor .u64 (a : Int) (b : Int) = ((a ^^^ b : Nat) : Int) := by
  have h1 : a % 2 ^ IntKind.u64.bits = a := Nat.mod_eq_of_lt ha
  have h2 : b % 2 ^ IntKind.u64.bits = b := Nat.mod_eq_of_lt hb
  simp only [Go.bits, BitVec.ofInt_natCast, BitVec.toNat_xor, BitVec.toNat_ofNat, h1, h2]
  rw [wrap_u64]
  have h3 : a ^^^ b < 2 ^ 64 := Nat.xor_lt_two_pow ha hb
  have h4 : ((a ^^^ b : Nat) : Int) < 2 ^ 64 := by exact_mod_cast h3
  exact Int.emod_eq_of_lt (Int.natCast_nonneg _) h4
theorem xor_u8 (a b : Nat) (ha : a < 2 ^ 8) (hb : b < 2 ^ 8) : Go.bits .xor .u8 (a : Int) (b : Int) = ((a ^^^ b : Nat) : Int) := by
  have h1 : a % 2 ^ IntKind.u8.bits = a := Nat.mod_eq_of_lt ha
  have h2 : b % 2 ^ IntKind.u8.bits = b := Nat.mod_eq_of_lt hb
  simp only [Go.bits, BitVec.ofInt_natCast, BitVec.toNat_xor, BitVec.toNat_ofNat, h1, h2]
  rw [IntKind.wrap_u8]
  have h3 : a ^^^ b < 2 ^ 8 := Nat.xor_lt_two_pow ha hb
  have h4 : ((a ^^^ b : Nat) : Int) < 2 ^ 8 := by exact_mod_cast h3
  exact Int.emod_eq_of_lt (Int.natCast_nonneg _) h4
/-- one round as the program does it -/
theorem step_prog (a : Nat) (c : Int) (ha : a < 2 ^ 64) (hc : 0 ≤ c ∧ c < 256) :
    IntKind.u64.wrap (Go.bits .xor .u64 (a : Int) (IntKind.u64.wrap c) * 1099511628211) = ((stepS a c.toNat : Nat) : Int) := by
  obtain ⟨n, rfl⟩ := Int.eq_ofNat_of_zero_le hc.1
  have hn : n < 2 ^ 64 := by omega
  have h1 : IntKind.u64.wrap ((n : Nat) : Int) = ((n : Nat) : Int) := by rw [wrap_u64]; omega
  rw [h1, xor_u64 a n ha hn, wrap_u64, Int.toNat_natCast, stepS]
  omega
theorem Sum_l0 (l : List Int) (hb : Bs l) (hl : l.length ≤ 1000000000) : ∀ (m i a : Nat), i + m = l.length → a < 2 ^ 64 →
    save_Sum.l0 (m + 1) (a : Int) l (l.length : Int) (i : Int) = some ((sumFrom a (nats (l.drop i)) : Nat) : Int) := by
  intro m
  induction m with
  | zero =>
    intro i a hi ha
    rw [save_Sum.l0, if_neg (by omega)]
    have : l.drop i = [] := List.drop_eq_nil_of_le (by omega)
    rw [this, nats, List.map_nil, sumFrom_nil]
  | succ m ih =>
    intro i a hi ha
    have hil : i < l.length := by omega
    rw [save_Sum.l0, if_pos (by omega), if_pos (by omega), if_pos (by omega)]
    have hrd : rd l (i : Int) = l[i] := by simp [rd, hil]
    have hw : wrap64 ((i : Int) + 1) = ((i + 1 : Nat) : Int) := by unfold wrap64; omega
    rw [hrd, hw, step_prog a l[i] ha (hb _ (List.getElem_mem hil)), ih (i + 1) _ (by omega) (step_lt _ _)]
    have hn : nats (l[i] :: l.drop (i + 1)) = l[i].toNat :: nats (l.drop (i + 1)) := List.map_cons ..
    rw [List.drop_eq_getElem_cons hil, hn, sumFrom_cons]
theorem Sum_f (l : List Int) (hb : Bs l) (hl : l.length ≤ 1000000000) :
    save_Sum.f (l.length + 1) l = some ((sumFrom 14695981039346656037 (nats l) : Nat) : Int) := by
  have := Sum_l0 l hb hl l.length 0 14695981039346656037 (by omega) (by decide)
  rw [List.drop_zero] at this
  exact this
end Go.Proofs.YtiepfpojkblmbaaGreat.U
