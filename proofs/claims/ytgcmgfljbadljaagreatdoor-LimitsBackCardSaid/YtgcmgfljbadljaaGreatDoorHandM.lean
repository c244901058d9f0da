/-
  limits.may: whether a deck may be asked of. Conditions: what the listed package variables hold.
-/
import Derived.Test.YtgcmgfljbadljaaGreatDoorHandS
import Derived.Test.YtgcmgfljbadljaaGreatDoorL13
import Derived.WalkSpells
namespace Go.Proofs.YtgcmgfljbadljaaGreatDoor.HandM
set_option linter.unusedVariables false
set_option linter.unusedSimpArgs false
open Go.RowKit Go.Shelf Go.Lib Go.Proofs.YtgcmgfljbadljaaGreatDoorW.PrintWords Go.Proofs.YtgcmgfljbadljaaGreatDoorW.PrintLast Go.Proofs.YtgcmgfljbadljaaGreatDoorW.PrintMore Go.Proofs.YtgcmgfljbadljaaGreatDoor.L Go.Proofs.YtgcmgfljbadljaaGreatDoor.HandS

theorem addr_plain {w : World} {ad : Addr} {v : Value} (h : w.cell? ad = some v) : ad.spot = none := by
  unfold World.cell? at h
  split at h
  · split at h
    · cases h
    · rename_i h1; simpa using h1
  · cases h
theorem addr_add {ad : Addr} (h : ad.spot = none) (j : Nat) : ad.add j = ⟨ad.block, ad.off + j, none⟩ := by
  obtain ⟨b, o, s⟩ := ad
  simp only at h
  subst h
  unfold Addr.add
  split
  · subst_vars; rfl
  · rfl
theorem within (a b : Int) (w : World) : Calls Tryz.prog 29 #[.int .i64 a, .int .i64 b] w fun e w' => e = .returned (.bool (decide (0 ≤ a) && decide (a ≤ b))) ∧ w' = w := by
  by_cases h1 : 0 ≤ a
  · go_enter Tryz.func29, Tryz.ntmps29
    go_wp2
    go_ret
    exact ⟨by simp [h1], rfl⟩
  · go_enter Tryz.func29, Tryz.ntmps29
    go_wp2
    go_ret
    exact ⟨by rw [decide_eq_false (show ¬ 0 ≤ a by omega)]; rfl, rfl⟩
def oddK (n : Nat) (k : Int) : Bool := !(decide (0 ≤ k) && decide (k ≤ (n : Int) - 1))
theorem odd_pred (A : Option Addr) (n c B : Nat) (hn : n ≤ 9223372036854775807) (w : World) (hB : B < w.heap.size) (hc : w.cell? ⟨B, 0, none⟩ = some (.slice A n c)) :
    PredAt Tryz.prog 53 #[.pointer (some ⟨B, 0, none⟩)] (Value.int .i64) (oddK n) w := fun W x hb => by
  have hc' := (hb.cell (p := ⟨B, 0, none⟩) hB).trans hc
  have hwi := fun a b => within a b W
  unfold FnGives oddK
  have e1 : wrap64 ((n : Int) - 1) = (n : Int) - 1 := by unfold wrap64; omega
  go_enter Tryz.func53, Tryz.ntmps53
  go_wp2_with (refine (hwi _ _).mono ?_; rintro e w' ⟨rfl, rfl⟩)
  go_ret
  exact ⟨by rw [Bool.not_and]; rfl, 0, rfl⟩
theorem nums_plain {w : World} {A : Option Addr} {xs : List Int} (h : Kd.C (Kd.int .i64) w A xs.length xs) (hn : 0 < xs.length) :
    ∃ b off, A = some ⟨b, off, none⟩ ∧ b < w.heap.size ∧ ∀ (j : Nat), j < xs.length → w.cell? ⟨b, off + j, none⟩ = some (.int .i64 xs[j]!) := by
  obtain ⟨ad, hA, h0⟩ := Kd.at_int h 0 (by omega) (by omega)
  have hs : ad.spot = none := addr_plain (ad := ad) (by simpa [Addr.add] using h0)
  refine ⟨ad.block, ad.off, by rw [hA]; obtain ⟨b, o, s⟩ := ad; simp only at hs; subst hs; rfl, ?_, ?_⟩
  · have := World.block_lt_of_cell? w _ h0
    simpa [Addr.add] using this
  · intro j hjl
    obtain ⟨ad', hA', h1⟩ := Kd.at_int h (j : Int) (by omega) (by omega)
    rw [hA] at hA'
    injection hA' with hA'
    subst hA'
    rw [Int.toNat_natCast, addr_add hs] at h1
    rw [h1]
    simp [rd, List.getD_eq_getElem?_getD, hjl]
theorem contains_odd (A : Option Addr) (c : Nat) (l : List Int) (K : Option Addr) (n k B : Nat) (hn : n ≤ 9223372036854775807) (w W : World) (hr : Kd.C (Kd.int .i64) w A l.length l) (hb : Below w.heap.size w W) (hB : B < W.heap.size) (hc : W.cell? ⟨B, 0, none⟩ = some (.slice K n k)) :
    Calls Tryz.prog 54 #[.slice A l.length c, .func (.func 53) #[] #[.pointer (some ⟨B, 0, none⟩)]] W fun e w' => e = .returned (.bool (l.any (oddK n))) ∧ ∃ q, w' = W.drewN q := by
  cases l with
  | nil =>
    refine (Tryz.slices_ContainsFunc_empty (α := Int) A c _ W).mono ?_
    rintro e w' ⟨rfl, rfl⟩
    exact ⟨rfl, 0, rfl⟩
  | cons x r =>
    obtain ⟨b, off, hA, hbk, hcell⟩ := nums_plain hr (by simp)
    subst hA
    have hl := hr.2.1
    have := Tryz.slices_ContainsFunc (Value.int .i64) (oddK n) 53 #[.pointer (some ⟨B, 0, none⟩)] (enters_of Tryz.func53 (by kernel_rfl) rfl) b off (x :: r).length c (x :: r) W (odd_pred K n k B hn W hB hc) (Nat.le_refl _) hl (fun j hj => (hb.cell (p := ⟨b, off + j, none⟩) hbk).trans (hcell j hj))
    rw [List.take_length] at this
    exact this
end Go.Proofs.YtgcmgfljbadljaaGreatDoor.HandM
namespace Go.Proofs.YtgcmgfljbadljaaGreatDoor.HandS
set_option linter.unusedVariables false
set_option linter.unusedSimpArgs false
open Go.RowKit Go.Shelf Go.Lib Go.Proofs.YtgcmgfljbadljaaGreatDoorW.PrintWords Go.Proofs.YtgcmgfljbadljaaGreatDoorW.PrintLast Go.Proofs.YtgcmgfljbadljaaGreatDoorW.PrintMore Go.Proofs.YtgcmgfljbadljaaGreatDoor.L Go.Proofs.YtgcmgfljbadljaaGreatDoor.HandS Go.Proofs.YtgcmgfljbadljaaGreatDoor.HandM
def limits_may.f (k : Nat) (a0_0 : ByteArray) (a0_1 : Int) (a0_2 : Int) (l0_3 : List (S42)) (l1 : List (S47)) (l2 : List Int) : Option (Bool) :=
  (limits_May.f k a0_0 a0_1 a0_2 l0_3).bind fun b => some (b && (decide (l2.length ≤ 40) && !l2.any (oddK l1.length)))
theorem limits_may.mono : ∀ a0_0 a0_1 a0_2 l0_3 l1 l2 k, LeO (limits_may.f k a0_0 a0_1 a0_2 l0_3 l1 l2) (limits_may.f (k + 1) a0_0 a0_1 a0_2 l0_3 l1 l2) := by
  intro a0_0 a0_1 a0_2 l0_3 l1 l2 k
  unfold limits_may.f
  exact LeO.bind (limits_May.mono _ _ _ _ _) (fun _ => LeO.refl _)
set_option maxHeartbeats 1000000 in
theorem limits_may.calls (k : Nat) (a0_0 : ByteArray) (a0_1 : Int) (a0_2 : Int) (A0_3 : Option Addr) (c0_3 : Nat) (l0_3 : List (S42)) (A1 : Option Addr) (c1 : Nat) (l1 : List (S47)) (A2 : Option Addr) (c2 : Nat) (l2 : List Int) (r : Bool) (w : World) (hr0_3 : Kd.C k42 w A0_3 l0_3.length l0_3) (hc0_3 : l0_3.length ≤ c0_3) (hr1 : Kd.C k47 w A1 l1.length l1) (hc1 : l1.length ≤ c1) (hr2 : Kd.C (Kd.int .i64) w A2 l2.length l2) (hc2 : l2.length ≤ c2) (hG : Tabs w) (h : limits_may.f k a0_0 a0_1 a0_2 l0_3 l1 l2 = some r) :
    Calls Tryz.prog 27 #[.agg #[.string a0_0, .int .i64 a0_1, .int .i64 a0_2, .slice A0_3 l0_3.length c0_3], .slice A1 l1.length c1, .slice A2 l2.length c2] w fun e w' => e = .returned (.bool r) ∧ Below w.heap.size w w' := by
  unfold limits_may.f at h
  obtain ⟨b, hM, hr⟩ := Option.bind_eq_some_iff.mp h
  injection hr with hr
  have hn1 := hr1.2.1
  have hMay : ∀ W : World, Below w.heap.size w W → Calls Tryz.prog 14 #[.agg #[.string a0_0, .int .i64 a0_1, .int .i64 a0_2, .slice A0_3 l0_3.length c0_3]] W fun e w' => e = .returned (.bool b) ∧ Below W.heap.size W w' :=
    fun W hb => limits_May.calls k a0_0 a0_1 a0_2 A0_3 c0_3 l0_3 b W (Kd.C_below hr0_3 hb) hc0_3 (hG.below hb) hM
  have hCon := fun W B hb hB hc => contains_odd A2 c2 l2 A1 l1.length c1 B hn1 w W hr2 hb hB hc
  have HM := Aside0.mk hMay
  have HC := Aside0.mk hCon
  have Hr := Aside0.mk hr
  clear hMay hCon hr h hM hr0_3 hr1 hr2 hG
  have hu := Tryz.underlying24
  have hu2 := Tryz.underlying25
  generalize hany : l2.any (oddK l1.length) = an at *
  have Hany := Aside0.mk hany
  clear hany
  cases b with
  | false =>
    have Hf : Aside0 (r = false) := Aside0.mk (by rw [← Hr.out]; rfl)
    go_enter Tryz.func27, Tryz.ntmps27
    go_wp2_with (go_at_call 14; refine (HM.out _ ?_).mono ?_; (exact below_alloc (below_alloc (Below.refl _ _) _) _); rintro e w' ⟨rfl, hb⟩)
    go_ret
    exact ⟨by rw [Hf.out]; rfl, below_step (below_alloc (below_alloc (Below.refl _ _) _) _) hb⟩
  | true =>
    by_cases h40 : l2.length ≤ 40
    · have Hf : Aside0 (r = !an) := Aside0.mk (by rw [← Hr.out, decide_eq_true h40]; rfl)
      have h40' : decide ((l2.length : Int) ≤ 40) = true := decide_eq_true (by omega)
      go_enter Tryz.func27, Tryz.ntmps27
      go_wp2_with fail
      refine (HM.out _ ?_).mono ?_
      · exact below_alloc (below_alloc (Below.refl _ _) _) _
      rintro e w1 ⟨rfl, hb⟩
      have hB1 := Aside0.mk (below_step (below_alloc (below_alloc (Below.refl _ _) _) _) hb)
      have hcell : w1.cell? ⟨w.heap.size + 1, 0, none⟩ = some (.slice A1 l1.length c1) := (hb.cell (p := ⟨w.heap.size + 1, 0, none⟩) (by simp)).trans (by simp)
      have hlt : w.heap.size + 1 < w1.heap.size := by have := hb.size; simp at this; omega
      have HCc := Aside0.mk (HC.out w1 (w.heap.size + 1) hB1.out hlt hcell)
      clear hb hcell hlt
      go_wp2_with fail
      refine HCc.out.mono ?_
      rintro e w2 ⟨rfl, q, rfl⟩
      go_wp2_with fail
      go_ret
      exact ⟨by rw [Hf.out]; rfl, by first | exact hB1.out | exact pw_below_drewN hB1.out _⟩
    · have Hf : Aside0 (r = false) := Aside0.mk (by rw [← Hr.out, decide_eq_false h40]; rfl)
      have h40' : decide ((l2.length : Int) ≤ 40) = false := decide_eq_false (by omega)
      go_enter Tryz.func27, Tryz.ntmps27
      go_wp2_with (go_at_call 14; refine (HM.out _ ?_).mono ?_; (exact below_alloc (below_alloc (Below.refl _ _) _) _); rintro e w' ⟨rfl, hb⟩)
      go_ret
      exact ⟨by rw [Hf.out]; rfl, below_step (below_alloc (below_alloc (Below.refl _ _) _) _) hb⟩
end Go.Proofs.YtgcmgfljbadljaaGreatDoor.HandS
