/-
  limits.Best: whether a kind bears a name; which does first. Conditions: none.
-/
import Derived.Test.YtgcmgfljbadljaaGreatDoorHandM
import Derived.Test.YtgcmgfljbadljaaGreatDoorHandF
import Derived.Deep.DeepCutAuto
namespace Go.Proofs.YtgcmgfljbadljaaGreatDoor.HandB
set_option linter.unusedVariables false
set_option linter.unusedSimpArgs false
open Go.RowKit Go.Shelf Go.Lib Go.Proofs.YtgcmgfljbadljaaGreatDoorW.PrintWords Go.Proofs.YtgcmgfljbadljaaGreatDoorW.PrintLast Go.Proofs.YtgcmgfljbadljaaGreatDoorW.PrintMore Go.Proofs.YtgcmgfljbadljaaGreatDoor.L Go.Proofs.YtgcmgfljbadljaaGreatDoor.HandS Go.Proofs.YtgcmgfljbadljaaGreatDoor.HandF Go.Proofs.YtgcmgfljbadljaaGreatDoor.HandM

theorem named (nm x : ByteArray) (k a b c : Int) (A : Option Addr) (n m B : Nat) (W : World) (hB : W.heap[B]? = some (.cells #[.string nm] 9 (0, 0))) :
    Calls Tryz.prog 30 #[.agg #[.string x, .int .u8 k, .int .i64 a, .int .i64 b, .int .i64 c, .slice A n m], .pointer (some ⟨B, 0, none⟩)] W fun e w' => e = .returned (.bool (x.toList == nm.toList)) ∧ Below W.heap.size W w' := by
  have hu47 := Tryz.underlying47
  have hlt : B < W.heap.size := blk_lt hB
  have hc : ∀ o : Obj, (W.alloc o).cell? ⟨B, 0, none⟩ = some (.string nm) := fun o => (blk_cell (blk_alloc hB o) 0).trans rfl
  go_enter Tryz.func30, Tryz.ntmps30
  go_wp2
  go_ret
  exact ⟨rfl, below_alloc (Below.refl _ _) _⟩
abbrev isN (nm : ByteArray) (x : S47) : Bool := x.f0.toList == nm.toList
set_option maxHeartbeats 2000000 in
theorem index_named (A : Option Addr) (c : Nat) (l : List S47) (nm : ByteArray) (B : Nat) (w W : World) (hr : Kd.C k47 w A l.length l) (hl : l.length ≤ c) (hb : Below w.heap.size w W) (hB : W.heap[B]? = some (.cells #[.string nm] 9 (0, 0))) :
    Calls Tryz.prog 57 #[.slice A l.length c, .func (.func 30) #[] #[.pointer (some ⟨B, 0, none⟩)]] W fun e w' => (∃ r : Int, e = .returned (.int .i64 r) ∧ decide (r ≥ 0) = l.any (isN nm)) ∧ Below W.heap.size W w' := by
  have hmax := hr.2.1
  have HR := Aside0.mk (Kd.C_below hr hb)
  have HB := Aside0.mk hB
  clear hr hb hB
  have hu47 := Tryz.underlying47
  obtain ⟨R, hR⟩ : ∃ R, l.any (isN nm) = R := ⟨_, rfl⟩
  rw [hR]
  have HA := Aside0.mk hR
  clear hR
  go_enter Tryz.func57, Tryz.ntmps57
  go_wp2
  go_loopg [5, 8] l.length (fun g s5 s8 wr => ∃ i : Nat, s8 = .int .i64 (i : Int) ∧ i ≤ l.length ∧ l.length - i ≤ g ∧ Aside0 ((l.drop i).any (isN nm) = R) ∧ Aside0 (Below W.heap.size W wr))
  case atStart => exact ⟨0, rfl, Nat.zero_le _, by omega, HA, Aside0.mk (Below.refl _ _)⟩
  case round =>
    obtain ⟨i, rfl, h1, h2, hd, hB2⟩ := hrel
    by_cases hlt : i < l.length
    · have hlt' : decide ((i : Int) < (l.length : Int)) = true := decide_eq_true (by omega)
      have hlt'' : decide (i < l.length) = true := decide_eq_true hlt
      obtain ⟨g, rfl⟩ : ∃ g, gk = g + 1 := ⟨gk - 1, by omega⟩
      obtain ⟨ad, A5, c5, hA, e0, e1, e2, e3, e4, e5, hl5, hC5⟩ := at_T47 (Kd.C_below HR.out hB2.out) (i : Int) (by omega) (by omega)
      subst hA
      have hy : rd_T47 l (i : Int) = l[i] := by simp [rd_T47, rd, hlt]
      obtain ⟨y, hy2⟩ : ∃ y, rd_T47 l (i : Int) = y := ⟨_, rfl⟩
      rw [hy2] at e0 e1 e2 e3 e4 e5
      rw [Int.toNat_natCast] at e0 e1 e2 e3 e4 e5
      have hnx : (l.drop i).any (isN nm) = (isN nm y || (l.drop (i + 1)).any (isN nm)) := by
        rw [List.drop_eq_getElem_cons hlt, List.any_cons, ← hy, hy2]
      have HN := Aside0.mk (named nm y.f0 y.f1 y.f2 y.f3 y.f4 A5 y.f5.length c5 B wr (blk_below HB.out hB2.out))
      have HD := hd.out
      rw [hnx] at HD
      have Hd := Aside0.mk HD
      clear hnx HD hd hy hy2
      cases hv : (y.f0.toList == nm.toList) with
      | true =>
        have hN := HN.out
        rw [hv] at hN
        have HN2 := Aside0.mk hN
        have hR2 : R = true := by rw [← Hd.out, isN, hv]; rfl
        clear hN HN
        go_wp2_with (refine HN2.out.mono ?_; rintro e w2 ⟨rfl, hbw⟩)
        go_ret
        exact ⟨⟨i, rfl, by rw [hR2]; exact decide_eq_true (by omega)⟩, below_step hB2.out hbw⟩
      | false =>
        have hN := HN.out
        rw [hv] at hN
        have HN2 := Aside0.mk hN
        have hR2 : Aside0 ((l.drop (i + 1)).any (isN nm) = R) := Aside0.mk (by rw [← Hd.out, isN, hv]; rfl)
        clear hN HN
        go_wp2_with (refine HN2.out.mono ?_; rintro e w2 ⟨rfl, hbw⟩)
        go_roundg g
        case measure => omega
        case rel => exact ⟨i + 1, by rfl, by omega, by omega, hR2, Aside0.mk (below_step hB2.out hbw)⟩
    · have hlt' : decide ((i : Int) < (l.length : Int)) = false := decide_eq_false (by omega)
      have hlt'' : decide (i < l.length) = false := decide_eq_false hlt
      have hR2 : R = false := by rw [← hd.out, List.drop_eq_nil_of_le (by omega)]; rfl
      clear hd
      go_wp2
      go_ret
      exact ⟨⟨-1, rfl, by rw [hR2]; rfl⟩, hB2.out⟩
theorem contains_named (A : Option Addr) (c : Nat) (l : List S47) (nm : ByteArray) (B : Nat) (w W : World) (hr : Kd.C k47 w A l.length l) (hl : l.length ≤ c) (hb : Below w.heap.size w W) (hB : W.heap[B]? = some (.cells #[.string nm] 9 (0, 0))) :
    Calls Tryz.prog 31 #[.slice A l.length c, .func (.func 30) #[] #[.pointer (some ⟨B, 0, none⟩)]] W fun e w' => e = .returned (.bool (l.any (isN nm))) ∧ Below W.heap.size W w' := by
  have HI := Aside0.mk (index_named A c l nm B w W hr hl hb hB)
  obtain ⟨R, hR⟩ : ∃ R, l.any (isN nm) = R := ⟨_, rfl⟩
  rw [hR] at HI ⊢
  clear hr hb hB hR
  go_enter Tryz.func31, Tryz.ntmps31
  go_wp2_with (refine HI.out.mono ?_; rintro e w2 ⟨⟨r, rfl, hd⟩, hbw⟩)
  go_ret
  exact ⟨by rw [← hd]; rfl, hbw⟩
end Go.Proofs.YtgcmgfljbadljaaGreatDoor.HandB
