/-
  limits.Best: how many of a kind may stand. Conditions: what the listed package variables hold.
-/
import Derived.Test.YtgcmgfljbadljaaGreatDoorHandB
import Derived.Test.YtgcmgfljbadljaaGreatDoorL13
import Derived.Test.YtgcmgfljbadljaaGreatDoorL3
import Derived.Deep.RegionHeld
import Derived.Test.YtgcmgfljbadljaaGreatDoorHandL
namespace Go.Proofs.YtgcmgfljbadljaaGreatDoor.HandS
set_option linter.unusedVariables false
set_option linter.unusedSimpArgs false
open Go.Proofs.YtgcmgfljbadljaaGreatDoor.HandR Go.RowKit Go.Shelf Go.Lib Go.Proofs.YtgcmgfljbadljaaGreatDoorW.PrintWords Go.Proofs.YtgcmgfljbadljaaGreatDoorW.PrintLast Go.Proofs.YtgcmgfljbadljaaGreatDoorW.PrintMore Go.Proofs.YtgcmgfljbadljaaGreatDoor.L Go.Proofs.YtgcmgfljbadljaaGreatDoor.HandS Go.Proofs.YtgcmgfljbadljaaGreatDoor.HandF Go.Proofs.YtgcmgfljbadljaaGreatDoor.HandM Go.Proofs.YtgcmgfljbadljaaGreatDoor.HandB

def limits_Best.f (k : Nat) (a0_0 : ByteArray) (a0_1 : Int) (a0_2 : Int) (l0_3 : List (S42)) (l1 : List (S47)) (a2 : ByteArray) : Option (Int) :=
  (limits_May.f k a0_0 a0_1 a0_2 l0_3).bind fun ok => if ok = true then (if l1.any (isN a2) = true then (limits_of.f a0_0 a0_1 a0_2 l0_3 a2).bind fun x => (if (x.2.2 == 0) = true then some x.2.1 else some (min x.2.1 (IntKind.i64.wrap (a0_1.tdiv x.2.2)))) else some 0) else some 0
theorem limits_Best.mono : ∀ a0_0 a0_1 a0_2 l0_3 l1 a2 k, LeO (limits_Best.f k a0_0 a0_1 a0_2 l0_3 l1 a2) (limits_Best.f (k + 1) a0_0 a0_1 a0_2 l0_3 l1 a2) := by
  intro a0_0 a0_1 a0_2 l0_3 l1 a2 k
  unfold limits_Best.f
  exact LeO.bind (limits_May.mono _ _ _ _ _) (fun ok => LeO.refl _)
set_option maxHeartbeats 2000000 in
theorem limits_Best.calls (k : Nat) (a0_0 : ByteArray) (a0_1 : Int) (a0_2 : Int) (A0_3 : Option Addr) (c0_3 : Nat) (l0_3 : List (S42)) (A1 : Option Addr) (c1 : Nat) (l1 : List (S47)) (a2 : ByteArray) (r : Int) (w : World) (hr0_3 : Kd.C k42 w A0_3 l0_3.length l0_3) (hc0_3 : l0_3.length ≤ c0_3) (hr1 : Kd.C k47 w A1 l1.length l1) (hc1 : l1.length ≤ c1) (hG : Tabs w) (h : limits_Best.f k a0_0 a0_1 a0_2 l0_3 l1 a2 = some r) :
    Calls Tryz.prog 15 #[.agg #[.string a0_0, .int .i64 a0_1, .int .i64 a0_2, .slice A0_3 l0_3.length c0_3], .slice A1 l1.length c1, .string a2] w fun e w' => e = .returned (.int .i64 r) ∧ Below w.heap.size w w' := by
  unfold limits_Best.f at h
  obtain ⟨ok, hm, h2⟩ := Option.bind_eq_some_iff.mp h
  clear h
  have hu24 := Tryz.underlying24
  have hu42 := Tryz.underlying42
  have HG := Aside0.mk hG
  have HR := Aside0.mk hr0_3
  have HR1 := Aside0.mk hr1
  have HM := Aside0.mk hm
  have H2 := Aside0.mk h2
  clear hG hr0_3 hr1 hm h2
  go_enter Tryz.func15, Tryz.ntmps15
  have hb0 := Go.Proofs.YtgcmgfljbadljaaGreatDoor.HandR.grown_below_ w (.cells #[.string a0_0, .int .i64 a0_1, .int .i64 a0_2, .slice A0_3 l0_3.length c0_3] 24 (0, 0)) (.cells #[.string a2] 9 (0, 0))
  have HB0 := Aside0.mk hb0
  clear hb0
  go_wp2_with fail
  refine (limits_May.calls k a0_0 a0_1 a0_2 A0_3 c0_3 l0_3 ok _ (Kd.C_below HR.out HB0.out) hc0_3 (HG.out.below HB0.out) HM.out).mono ?_
  rintro en w1 ⟨rfl, hb1⟩
  have HB1 := Aside0.mk hb1
  clear hb1
  cases ok with
  | false =>
    go_wp2_with fail
    go_ret
    have h3 := H2.out
    rw [if_neg (by decide)] at h3
    injection h3 with h3
    exact ⟨by rw [← h3]; rfl, below_step HB0.out HB1.out⟩
  | true =>
  have h3 := H2.out
  rw [if_pos rfl] at h3
  have H3 := Aside0.mk h3
  clear h3 H2
  go_wp2_with fail
  have hbx : w1.heap[w.heap.size + 1]? = some (.cells #[.string a2] 9 (0, 0)) := blk_below (new_two w _ _).2 HB1.out
  refine (contains_named A1 c1 l1 a2 (w.heap.size + 1) w w1 HR1.out hc1 (below_step HB0.out HB1.out) hbx).mono ?_
  rintro en w2 ⟨rfl, hb2⟩
  have hf3 := blk_below (blk_below (new_two w (.cells #[.string a0_0, .int .i64 a0_1, .int .i64 a0_2, .slice A0_3 l0_3.length c0_3] 24 (0, 0)) (.cells #[.string a2] 9 (0, 0))).1 HB1.out) hb2
  have hf5 := blk_below hbx hb2
  have HB2 := Aside0.mk (below_step (below_step HB0.out HB1.out) hb2)
  obtain ⟨⟨d0, d1, d2, d3⟩, g0, g1, g2, g3⟩ := cells4 hf3
  have e0 : w2.cell? ⟨w.heap.size + 1, 0, none⟩ = some (.string a2) := (blk_cell hf5 0).trans rfl
  have F3 := Aside0.mk hf3
  clear hb2 hbx hf5 hf3
  cases hany : l1.any (isN a2) with
  | false =>
    go_wp2_with fail
    go_ret
    have h3 := H3.out
    rw [if_neg (by rw [hany]; decide)] at h3
    injection h3 with h3
    exact ⟨by rw [← h3]; rfl, HB2.out⟩
  | true =>
  have h3 := H3.out
  rw [if_pos hany] at h3
  obtain ⟨⟨x0, x1, x2⟩, ho, h4⟩ := Option.bind_eq_some_iff.mp h3
  have HO := Aside0.mk ho
  have H4 := Aside0.mk h4
  clear h3 ho h4 H3
  go_wp2_with fail
  refine (limits_of.calls a0_0 a0_1 a0_2 A0_3 c0_3 l0_3 a2 x0 x1 x2 _ (Kd.C_below HR.out HB2.out) hc0_3 HO.out).mono ?_
  rintro en w3 ⟨rfl, hb3⟩
  have F3b := blk_below F3.out hb3
  have HB3 := Aside0.mk (below_step HB2.out hb3)
  obtain ⟨⟨q0, q1, q2, q3⟩, p0, p1, p2, p3⟩ := cells4 (blk_alloc F3b (.cells #[.string x0, .int .i64 x1, .int .i64 x2] 42 (0, 0)))
  clear hb3
  cases hz : (x2 == 0) with
  | true =>
    have h3 := H4.out
    rw [if_pos (by exact hz)] at h3
    injection h3 with h3
    have H5 := Aside0.mk h3
    clear h3 H4
    go_wp2_with fail
    go_ret
    exact ⟨by rw [← H5.out]; rfl, below_alloc HB3.out _⟩
  | false =>
    have hz' : x2 ≠ 0 := beq_eq_false_iff_ne.1 hz
    have hz2 : (x2 = 0) = False := eq_false hz'
    obtain ⟨⟨q4, q5, q6⟩, p4, p5, p6⟩ := cells3 (blk_new w3 (.cells #[.string x0, .int .i64 x1, .int .i64 x2] 42 (0, 0)))
    go_wp2_with fail
    go_region_held (fun w' => w'.cell? ⟨w.heap.size, 1, none⟩ = some (.int .i64 a0_1) ∧ w'.cell? ⟨w3.heap.size, 1, none⟩ = some (.int .i64 x1) ∧ w'.cell? ⟨w3.heap.size, 2, none⟩ = some (.int .i64 x2)) (go_keep) (fail)
    all_goals
      have h3 := H4.out
      rw [if_neg (by rw [show ((x0, x1, x2).2.2 == 0) = false from hz]; decide)] at h3
      injection h3 with h3
      have H5 := Aside0.mk h3
      clear h3 H4
      go_wp2_with fail
      go_ret
      exact ⟨by rw [← H5.out]; rfl, below_drew (below_alloc HB3.out _)⟩
end Go.Proofs.YtgcmgfljbadljaaGreatDoor.HandS
