/- Written by a program of this claim's author (stubprint.py, over the kit's print) out of the translation: Go functions as Lean functions, and that the calls come to them. -/
import Derived.Test.YtgalbiokebghkaaDoorP0
import Derived.Test.YtgalbiokebghkaaDoorP2
import Derived.Test.YtgalbiokebghkaaDoorHandP
namespace Go.Proofs.YtgalbiokebghkaaDoor.P
open Go.RowKit Go.Proofs.YtgalbiokebghkaaDoorW.PrintWords Go.Proofs.YtgalbiokebghkaaDoorW.PrintLast Go.Proofs.YtgalbiokebghkaaDoorW.PrintMore Go.Proofs.YtgalbiokebghkaaDoor.HandP
attribute [local go_sem] max2_int min2_int max_two min_two max_three min_three max_four min_four   -- for this text's walks alone
set_option linter.unusedVariables false
set_option linter.unusedSimpArgs false

/-! ### puzzle_Read: function 11 -/
def puzzle_Read.l0 : Nat → ByteArray → List Int → List ByteArray → Int → Int → Option (Int × Int × List Int × Int)
  | 0, _, _, _, _, _ => none
  | k + 1, x0, x5, x28, x29, x30 => if x30 < x29 then (if 0 ≤ x30 then (if x30 < (x28.length : Int) then ((strconv_Atoi.f (rdOf ByteArray.empty x28 x30)).bind fun bt131 => (if bt131.2.isNone = true then (if bt131.1 < 0 then (some (0, 0, ([] : List Int), 5)) else (if bt131.1 > 99999 then (some (0, 0, ([] : List Int), 5)) else (if x5.length < 17592186044416 then (puzzle_Read.l0 k x0 (x5 ++ [bt131.1]) x28 x29 (wrap64 (x30 + 1))) else (none)))) else (some (0, 0, ([] : List Int), 5)))) else (none)) else (none)) else (if 0 < (x5.length : Int) then (if (rd x5 0) > 1 then (some (0, 0, ([] : List Int), 5)) else (if 1 < (x5.length : Int) then (if 2 ≤ (x5.length : Int) then ((some (x5.drop (2 : Int).toNat : List Int)).bind fun y140 => ((puzzle_Write.f k ((rd x5 0) % 256) (rd x5 1) y140).bind fun bt144 => (if bt144.2 = 0 then (if bt144.1.toList = x0.toList then (some ((rd x5 0) % 256, rd x5 1, y140, 0)) else (some (0, 0, ([] : List Int), 5))) else (some (0, 0, ([] : List Int), 5))))) else (none)) else (none))) else (none))
def puzzle_Read.f (k : Nat) (a0 : ByteArray) : Option (Int × Int × List Int × Int) := (strings_Fields.f a0).bind fun t115 => (if (t115.length : Int) < 5 then (some (0, 0, ([] : List Int), 5)) else (if 1 < (t115.length : Int) then (if 3 < (t115.length : Int) then ((some (([rdOf ByteArray.empty t115 1, rdOf ByteArray.empty t115 3] : List ByteArray) : List ByteArray)).bind fun y120 => (if 5 ≤ (t115.length : Int) then ((some (t115.drop 5 : List ByteArray)).bind fun y123 => (if y120.length + y123.length < 8796093022208 then ((some (y120 ++ y123 : List ByteArray)).bind fun y127 => (puzzle_Read.l0 k a0 ([] : List Int) y127 (y127.length : Int) 0)) else (none))) else (none))) else (none)) else (none)))
theorem puzzle_Read.mono_l : ∀ k, (∀ y0 y1 y2 y3 y4, LeO (puzzle_Read.l0 k y0 y1 y2 y3 y4) (puzzle_Read.l0 (k + 1) y0 y1 y2 y3 y4))
  | 0 => fun _ _ _ _ _ r h => by simp [puzzle_Read.l0] at h
  | k + 1 => by
    have ih0 := puzzle_Read.mono_l k
    · intro y0 y1 y2 y3 y4
      unfold puzzle_Read.l0
      repeat' first
      | (with_reducible exact ih0 _ _ _ _ _)
      | (with_reducible exact puzzle_Write.mono _ _ _ _)
      | (with_reducible exact LeO.refl _)
      | (with_reducible exact LeO.none _)
      | (with_reducible refine LeO.ite ?_ ?_)
      | (with_reducible refine LeO.bind ?_ (fun _ => ?_))
      | exact ih0 _ _ _ _ _
      | exact puzzle_Write.mono _ _ _ _
      | exact LeO.none _
      | refine LeO.ite ?_ ?_
      | refine LeO.bind ?_ (fun _ => ?_)
theorem puzzle_Read.mono : ∀ a0 k, LeO (puzzle_Read.f k a0) (puzzle_Read.f (k + 1) a0) := by
  intro a0 k
  have ih0 := puzzle_Read.mono_l k
  unfold puzzle_Read.f
  repeat' first
      | (with_reducible exact ih0 _ _ _ _ _)
      | (with_reducible exact puzzle_Write.mono _ _ _ _)
      | (with_reducible exact LeO.refl _)
      | (with_reducible exact LeO.none _)
      | (with_reducible refine LeO.ite ?_ ?_)
      | (with_reducible refine LeO.bind ?_ (fun _ => ?_))
      | exact ih0 _ _ _ _ _
      | exact puzzle_Write.mono _ _ _ _
      | exact LeO.none _
      | refine LeO.ite ?_ ?_
      | refine LeO.bind ?_ (fun _ => ?_)
def puzzle_Read.T5 : Bool × List (List Nat × List Nat) := (true, [([], []), ([0], [0]), ([1], [1]), ([], []), ([3], [3]), ([4], [4]), ([2, 5], [2, 5]), ([], []), ([7], [7]), ([6, 8], [6, 8]), ([9], [9]), ([], [])])
def puzzle_Read.B5 : List Nat := [0, 1, 3, 0, 8, 24, 63, 0, 128, 511, 1023, 0]
theorem puzzle_Read.tab5 : rtab .any (opsOf Tryd.f11 5) = puzzle_Read.T5 := by kernel_rfl
theorem puzzle_Read.bits5 : waitsOk puzzle_Read.T5.2 puzzle_Read.B5 = true := by kernel_rfl
def puzzle_Read.T15 : Bool × List (List Nat × List Nat) := (true, [([], []), ([0], [0]), ([1], [1]), ([2], [2]), ([], []), ([4], [4]), ([5], [5]), ([], []), ([7], [7]), ([3, 6, 8], [3, 6, 8]), ([], []), ([10, 9, 0, 1, 2, 3, 4, 5, 6, 7, 8, 9, 10], [9, 10])])
def puzzle_Read.B15 : List Nat := [0, 1, 3, 7, 0, 16, 48, 0, 128, 511, 0, 2047]
theorem puzzle_Read.tab15 : rtab .any (opsOf Tryd.f11 15) = puzzle_Read.T15 := by kernel_rfl
theorem puzzle_Read.bits15 : waitsOk puzzle_Read.T15.2 puzzle_Read.B15 = true := by kernel_rfl
set_option maxHeartbeats 8000000 in
set_option maxRecDepth 100000 in
theorem puzzle_Read.calls (k : Nat) (a0 : ByteArray) (r1 : Int) (r2 : Int) (r3 : List Int) (r4 : Int) (w : World) (hG : Tabs w) (h : puzzle_Read.f k a0 = some (r1, r2, r3, r4)) :
    Calls Tryd.prog 11 #[.string a0] w fun e w' => ∃ v2_ : Value, e = .returned (.tuple #[.agg #[.int .u8 r1, .int .i64 r2, v2_], .int .i64 r4]) ∧ Kd.Q (Kd.int .i64) 3 w' w.heap.size (fun _ => True) v2_ r3 ∧ Below w.heap.size w w' := by
  have hu24 := Tryd.underlying24
  have hu58 := Tryd.underlying58
  have HG := Aside0.mk hG
  clear hG
  have HB := Aside0.mk (Below.refl w.heap.size w)
  have H : ((strings_Fields.f a0).bind fun t115 => (if (t115.length : Int) < 5 then (some (0, 0, ([] : List Int), 5)) else (if 1 < (t115.length : Int) then (if 3 < (t115.length : Int) then ((some (([rdOf ByteArray.empty t115 1, rdOf ByteArray.empty t115 3] : List ByteArray) : List ByteArray)).bind fun y120 => (if 5 ≤ (t115.length : Int) then ((some (t115.drop 5 : List ByteArray)).bind fun y123 => (if y120.length + y123.length < 8796093022208 then ((some (y120 ++ y123 : List ByteArray)).bind fun y127 => (puzzle_Read.l0 k a0 ([] : List Int) y127 (y127.length : Int) 0)) else (none))) else (none))) else (none)) else (none)))) = some (r1, r2, r3, r4) := h
  clear h
  replace H := Option.bind_eq_some_iff.mp H
  obtain ⟨t115, A20, H⟩ := H
  replace H : (if (t115.length : Int) < 5 then (some (0, 0, ([] : List Int), 5)) else (if 1 < (t115.length : Int) then (if 3 < (t115.length : Int) then ((some (([rdOf ByteArray.empty t115 1, rdOf ByteArray.empty t115 3] : List ByteArray) : List ByteArray)).bind fun y120 => (if 5 ≤ (t115.length : Int) then ((some (t115.drop 5 : List ByteArray)).bind fun y123 => (if y120.length + y123.length < 8796093022208 then ((some (y120 ++ y123 : List ByteArray)).bind fun y127 => (puzzle_Read.l0 k a0 ([] : List Int) y127 (y127.length : Int) 0)) else (none))) else (none))) else (none)) else (none))) = some (r1, r2, r3, r4) := H
  have A2 := Aside0.mk A20
  clear A20
  by_cases c3 : (t115.length : Int) < 5
  · rw [if_pos c3] at H
    have c3b0 : decide ((t115.length : Int) < 5) = true := decide_eq_true c3
    have c3b1 : decide (t115.length < 5) = true := decide_eq_true (by omega)
    clear c3
    simp only [Option.some.injEq, Prod.mk.injEq] at H
    obtain ⟨rfl, rfl, rfl, rfl⟩ := H
    go_enter Tryd.func11, Tryd.ntmps11
    go_wp2_with (first | ((with_reducible refine gate_dst (N := 2) rfl ?_); refine box_event ?hg (N := 2) ?hd (cs := #[.int .u8 0, .int .i64 0, .slice none 0 0]) (t := 24) ?hr ?_; (case hd => rfl); (case hg => rfl); (case hr => first | (go_simp; done) | (go_simp; rfl)); intro gb114 hg w4 hbox hb; have n0_ := Aside0.mk (below_step (by repeat (first | (with_reducible first | exact HB.out | apply below_alloc | apply pw_below_drewN | apply below_drew1) | exact HB.out)) hb); have n1_ := Aside0.mk (hbox); have n2_ := Aside0.mk ((by rw [hg]; exact (below_size (by repeat (first | (with_reducible first | exact HB.out | apply below_alloc | apply pw_below_drewN | apply below_drew1) | exact HB.out))) : w.heap.size ≤ gb114)); have n3_ := Aside0.mk ((by rw [hg]; exact (below_size (by repeat (first | (with_reducible first | exact HB.out | apply below_alloc | apply pw_below_drewN | apply below_drew1) | exact HB.out))) : w.heap.size ≤ gb114)); clear HB; have HB := n0_; have BK114 := n1_; have GW114 := n2_; have GE114 := n3_; clear n0_ n1_ n2_ n3_; clear hb hbox hg) | ((with_reducible refine gate_callee (f := 28) rfl ?_); refine goesL_ (some 14) rfl rfl Tryd.func28 (by kernel_rfl) rfl #[.string a0] rfl (by (try simp only [List.map_toArray, List.map_cons, List.map_nil]); first | done | rfl | (simp only [List.length_drop, List.length_take]; rfl)) ?_; (with_reducible refine (strings_Fields.calls a0 t115 _ ?side1 A2.out).mono ?_); (case side1 => exact Tabs.below HG.out (by repeat (first | (with_reducible first | exact HB.out | apply below_alloc | apply pw_below_drewN | apply below_drew1 | refine below_set ?_ GE114.out) | exact HB.out))); rintro e w5 ⟨v116, rfl, ho0, hb⟩; refine ⟨_, rfl, ?_⟩; have n0_ := Aside0.mk (Kd.R_lower ho0 (below_size (by repeat (first | (with_reducible first | exact HB.out | apply below_alloc | apply pw_below_drewN | apply below_drew1 | refine below_set ?_ GE114.out) | exact HB.out)))); have n1_ := Aside0.mk (blk_below (g := gb114) (o := .cells #[.int .u8 0, .int .i64 0, .slice none 0 0] 24 (0, 0)) (by (with_reducible repeat (first | refine blk_drewN ?_ _ | refine blk_drew ?_ | refine blk_alloc ?_ _)); exact BK114.out) hb); have n2_ := Aside0.mk (below_step (by repeat (first | (with_reducible first | exact HB.out | apply below_alloc | apply pw_below_drewN | apply below_drew1 | refine below_set ?_ GE114.out) | exact HB.out)) hb); clear BK114; clear HB; have HO117 := n0_; have BK114 := n1_; have HB := n2_; clear n0_ n1_ n2_; (try clear hb); (try clear hb2); (try clear hk); (try clear hi); (try clear ho0); obtain ⟨Ao6, co6, eo6⟩ := Kd.R_slice HO117.out; subst eo6; have hcz7_0 : w5.cell? ⟨gb114, 0, none⟩ = some (.int .u8 0) := (blk_cell BK114.out 0).trans rfl; have hcz7_1 : w5.cell? ⟨gb114, 1, none⟩ = some (.int .i64 0) := (blk_cell BK114.out 1).trans rfl; have hcz7_2 : w5.cell? ⟨gb114, 2, none⟩ = some (.slice none 0 0) := (blk_cell BK114.out 2).trans rfl; have hfz7_0 := blk_frozen BK114.out 0; have hfz7_1 := blk_frozen BK114.out 1; have hfz7_2 := blk_frozen BK114.out 2))
    refine bodyPost_ret (results_ct rfl _ _ gb114 24 #[.int .u8 0, .int .i64 0, .slice none 0 0] (0, 0) _ rfl (by (with_reducible repeat (first | refine blk_drewN ?_ _ | refine blk_drew ?_ | refine blk_alloc ?_ _)); refine blk_put (cs := #[.int .u8 0, .int .i64 0, .slice none 0 0]) ?_ 2 _ rfl; (with_reducible repeat (first | refine blk_drewN ?_ _ | refine blk_drew ?_ | refine blk_alloc ?_ _)); refine blk_put (cs := #[.int .u8 0, .int .i64 0, .slice none 0 0]) ?_ 1 _ rfl; (with_reducible repeat (first | refine blk_drewN ?_ _ | refine blk_drew ?_ | refine blk_alloc ?_ _)); refine blk_put (cs := #[.int .u8 0, .int .i64 0, .slice none 0 0]) ?_ 0 _ rfl; (with_reducible repeat (first | refine blk_drewN ?_ _ | refine blk_drew ?_ | refine blk_alloc ?_ _)); exact BK114.out) Tryd.underlying24 rfl (by kernel_rfl)) rfl ?_
    exact ⟨_, by first | rfl | (simp [errW_none, errW_some] <;> rfl) | (simp [*, errW_none, errW_some] <;> rfl), Kd.Q_of_R (by first | exact Kd.R_nil _ _ _ _ _ | exact Kd.N_nil _ _ _ _ _ | exact Kd.V_nil _ _ _ _ _ | exact Kd.Q_nil _ _ _ _ _ | exact Kd.S_nil _ _ _ _ _), by repeat (first | (with_reducible first | exact HB.out | apply below_alloc | apply pw_below_drewN | apply below_drew1 | refine below_set ?_ GE114.out) | exact HB.out)⟩
  · rw [if_neg c3] at H
    have c3b0 : decide ((t115.length : Int) < 5) = false := decide_eq_false c3
    have c3b1 : decide (t115.length < 5) = false := decide_eq_false (by omega)
    clear c3
    by_cases c8 : 1 < (t115.length : Int)
    · rw [if_pos c8] at H
      have c8b0 : decide (1 < (t115.length : Int)) = true := decide_eq_true c8
      have c8b1 : decide (1 < t115.length) = true := decide_eq_true (by omega)
      clear c8
      by_cases c9 : 3 < (t115.length : Int)
      · rw [if_pos c9] at H
        have c9b0 : decide (3 < (t115.length : Int)) = true := decide_eq_true c9
        have c9b1 : decide (3 < t115.length) = true := decide_eq_true (by omega)
        clear c9
        obtain ⟨y120, hy120⟩ : ∃ y_ : List ByteArray, y_ = (([rdOf ByteArray.empty t115 1, rdOf ByteArray.empty t115 3] : List ByteArray)) := ⟨_, rfl⟩
        replace H : (if 5 ≤ (t115.length : Int) then ((some (t115.drop 5 : List ByteArray)).bind fun y123 => (if y120.length + y123.length < 8796093022208 then ((some (y120 ++ y123 : List ByteArray)).bind fun y127 => (puzzle_Read.l0 k a0 ([] : List Int) y127 (y127.length : Int) 0)) else (none))) else (none)) = some (r1, r2, r3, r4) := by first | (rw [hy120]; with_reducible exact H) | (have H2_ := (Option.bind_some _ _).symm.trans H; rw [hy120]; with_reducible exact H2_) | (have H2_ := (Option.bind_some _ _).symm.trans H; with_reducible exact H2_) | with_reducible exact H | (rw [hy120]; exact H) | exact H
        have Ny120 := Aside0.mk hy120
        clear hy120
        by_cases c10 : 5 ≤ (t115.length : Int)
        · rw [if_pos c10] at H
          have c10b0 := eq_true c10
          have c10b1 : decide (5 ≤ (t115.length : Int)) = true := decide_eq_true c10
          clear c10
          obtain ⟨y123, hy123⟩ : ∃ y_ : List ByteArray, y_ = (t115.drop 5) := ⟨_, rfl⟩
          replace H : (if y120.length + y123.length < 8796093022208 then ((some (y120 ++ y123 : List ByteArray)).bind fun y127 => (puzzle_Read.l0 k a0 ([] : List Int) y127 (y127.length : Int) 0)) else (none)) = some (r1, r2, r3, r4) := by first | (rw [hy123]; with_reducible exact H) | (have H2_ := (Option.bind_some _ _).symm.trans H; rw [hy123]; with_reducible exact H2_) | (have H2_ := (Option.bind_some _ _).symm.trans H; with_reducible exact H2_) | with_reducible exact H | (rw [hy123]; exact H) | exact H
          have Ny123 := Aside0.mk hy123
          clear hy123
          by_cases c11 : y120.length + y123.length < 8796093022208
          · rw [if_pos c11] at H
            have LMc11 := Aside0.mk c11
            clear c11
            obtain ⟨y127, hy127⟩ : ∃ y_ : List ByteArray, y_ = (y120 ++ y123) := ⟨_, rfl⟩
            replace H : (puzzle_Read.l0 k a0 ([] : List Int) y127 (y127.length : Int) 0) = some (r1, r2, r3, r4) := by first | (rw [hy127]; with_reducible exact H) | (have H2_ := (Option.bind_some _ _).symm.trans H; rw [hy127]; with_reducible exact H2_) | (have H2_ := (Option.bind_some _ _).symm.trans H; with_reducible exact H2_) | with_reducible exact H | (rw [hy127]; exact H) | exact H
            have Ny127 := Aside0.mk hy127
            clear hy127
            have H' := Aside0.mk H
            clear H
            go_enter Tryd.func11, Tryd.ntmps11
            try go_wp2_with (first | ((with_reducible refine gate_dst (N := 2) rfl ?_); refine box_event ?hg (N := 2) ?hd (cs := #[.int .u8 0, .int .i64 0, .slice none 0 0]) (t := 24) ?hr ?_; (case hd => rfl); (case hg => rfl); (case hr => first | (go_simp; done) | (go_simp; rfl)); intro gb114 hg w12 hbox hb; have n0_ := Aside0.mk (below_step (by repeat (first | (with_reducible first | exact HB.out | apply below_alloc | apply pw_below_drewN | apply below_drew1) | exact HB.out)) hb); have n1_ := Aside0.mk (hbox); have n2_ := Aside0.mk ((by rw [hg]; exact (below_size (by repeat (first | (with_reducible first | exact HB.out | apply below_alloc | apply pw_below_drewN | apply below_drew1) | exact HB.out))) : w.heap.size ≤ gb114)); have n3_ := Aside0.mk ((by rw [hg]; exact (below_size (by repeat (first | (with_reducible first | exact HB.out | apply below_alloc | apply pw_below_drewN | apply below_drew1) | exact HB.out))) : w.heap.size ≤ gb114)); clear HB; have HB := n0_; have BK114 := n1_; have GW114 := n2_; have GE114 := n3_; clear n0_ n1_ n2_ n3_; clear hb hbox hg) | ((with_reducible refine gate_callee (f := 28) rfl ?_); refine goesL_ (some 14) rfl rfl Tryd.func28 (by kernel_rfl) rfl #[.string a0] rfl (by (try simp only [List.map_toArray, List.map_cons, List.map_nil]); first | done | rfl | (simp only [List.length_drop, List.length_take]; rfl)) ?_; (with_reducible refine (strings_Fields.calls a0 t115 _ ?side1 A2.out).mono ?_); (case side1 => exact Tabs.below HG.out (by repeat (first | (with_reducible first | exact HB.out | apply below_alloc | apply pw_below_drewN | apply below_drew1 | refine below_set ?_ GE114.out) | exact HB.out))); rintro e w13 ⟨v116, rfl, ho0, hb⟩; refine ⟨_, rfl, ?_⟩; have n0_ := Aside0.mk (Kd.R_lower ho0 (below_size (by repeat (first | (with_reducible first | exact HB.out | apply below_alloc | apply pw_below_drewN | apply below_drew1 | refine below_set ?_ GE114.out) | exact HB.out)))); have n1_ := Aside0.mk (blk_below (g := gb114) (o := .cells #[.int .u8 0, .int .i64 0, .slice none 0 0] 24 (0, 0)) (by (with_reducible repeat (first | refine blk_drewN ?_ _ | refine blk_drew ?_ | refine blk_alloc ?_ _)); exact BK114.out) hb); have n2_ := Aside0.mk (below_step (by repeat (first | (with_reducible first | exact HB.out | apply below_alloc | apply pw_below_drewN | apply below_drew1 | refine below_set ?_ GE114.out) | exact HB.out)) hb); clear BK114; clear HB; have HO117 := n0_; have BK114 := n1_; have HB := n2_; clear n0_ n1_ n2_; (try clear hb); (try clear hb2); (try clear hk); (try clear hi); (try clear ho0); obtain ⟨Ao14, co14, eo14⟩ := Kd.R_slice HO117.out; subst eo14))
            have n0_ := Aside0.mk (Kd.R_drew HO117.out)
            have n1_ := Aside0.mk (blk_drew BK114.out)
            have n2_ := Aside0.mk (below_drew1 HB.out)
            clear HO117
            clear BK114
            clear HB
            have HO117 := n0_
            have BK114 := n1_
            have HB := n2_
            clear n0_ n1_ n2_
            have p118 : 0 ≤ (1 : Int) := (by omega)
            have q118 : 1 < (t115.length : Int) := of_decide_eq_true (by first | (with_reducible assumption) | assumption)
            obtain ⟨ad118, e118, hx118_0⟩ := Kd.at_string (Kd.R_reads' HO117.out).2.2 1 p118 q118
            cases e118
            (try simp only [show (1 : Int).toNat = 1 from rfl, Nat.reduceMul, Nat.reduceEqDiff, Go.Addr.add, ↓reduceIte] at hx118_0)
            have qi118 : (1 < t115.length) = True := eq_true (by omega)
            (try rw [show ((1 : Int)).toNat = 1 from rfl] at hx118_0)
            replace p118 := eq_true p118
            replace q118 := eq_true q118
            have p119 : 0 ≤ (3 : Int) := (by omega)
            have q119 : 3 < (t115.length : Int) := of_decide_eq_true (by first | (with_reducible assumption) | assumption)
            obtain ⟨ad119, e119, hx119_0⟩ := Kd.at_string (Kd.R_reads' HO117.out).2.2 3 p119 q119
            obtain rfl : ad118 = ad119 := (by injection e119)
            (try simp only [show (3 : Int).toNat = 3 from rfl, Nat.reduceMul, Nat.reduceEqDiff, Go.Addr.add, ↓reduceIte] at hx119_0)
            have qi119 : (3 < t115.length) = True := eq_true (by omega)
            (try rw [show ((3 : Int)).toNat = 3 from rfl] at hx119_0)
            replace p119 := eq_true p119
            replace q119 := eq_true q119
            have q16 : (5 : Int) ≤ ((t115.length : Int) : Int) := of_decide_eq_true (by first | (with_reducible assumption) | assumption)
            obtain ⟨i016, hi016, _, hsz16, _⟩ := info_parts info9
            have hroom16 : t115.length ≤ co14 := (Kd.R_reads' HO117.out).2.1
            have hC16 : Kd.C Kd.string _ (some ad118) t115.length t115 := (Kd.R_reads' HO117.out).2.2
            have hcut16 := cut_from (P := Tryd.prog) 49 9 .i64 Tryd.underlying49 hi016 1 hsz16 (some ad118) t115.length co14 5 (by omega) q16
            have hr16 := Kd.C_drop (m := (5 : Int).toNat) (c := co14) hC16 (by omega) hroom16
            obtain ⟨A16, hA16⟩ : ∃ A1, A1 = (if co14 = (5 : Int).toNat then (some ad118) else ((some ad118) : Option Addr).map (·.add ((5 : Int).toNat * 1))) := ⟨_, rfl⟩
            obtain ⟨c16, hc16⟩ : ∃ c1, c1 = co14 - (5 : Int).toNat := ⟨_, rfl⟩
            have hy16 : y123.length = t115.length - (5 : Int).toNat := (by rw [Ny123.out, List.length_drop] <;> omega)
            rw [show (t115).drop (5 : Int).toNat = y123 from Ny123.out.symm] at hr16
            replace hr16 : Kd.C Kd.string _ A16 y123.length y123 := (by rw [hA16]; exact hr16)
            rw [← hy16, ← hA16, ← hc16] at hcut16
            have HR126 := Aside0.mk hr16
            have HC126 := Aside0.mk (show y123.length ≤ c16 from by rw [hy16, hc16]; exact Nat.sub_le_sub_right hroom16 _)
            clear hr16 hC16 hroom16 hi016 hsz16 hc16
            have KY16 := Aside0.mk hy16
            have KA16 := Aside0.mk hA16
            clear hy16 hA16
            have KL16 := Aside0.mk (show 5 ≤ t115.length from by omega)
            replace q16 := eq_true q16
            refine start_ (n := 12) (S := fun w' => w'.cell? ⟨ad118.block, ad118.off + 1, none⟩ = some (.string (rdOf ByteArray.empty t115 1)) ∧ w'.cell? ⟨ad118.block, ad118.off + 3, none⟩ = some (.string (rdOf ByteArray.empty t115 3))) (ds := [9]) #[false, false, false, false, false, false, false, false, false, false, false, false] (by kernel_rfl) rfl rfl ⟨hx118_0, hx119_0⟩ (fun hHeld => ?_); refine with_tabW puzzle_Read.tab5 puzzle_Read.bits5 (fun HT_ HW_ => ?_)
            generalize w13.drew = w15 at HO117 BK114 HB HR126 hx118_0 hx119_0 hHeld ⊢
            refine pure_ (i := 0) (N := some 19) (v := ?_) (a' := ?_) #[true, false, false, false, false, false, false, false, false, false, false, false] rfl rfl (any_of HT_.out (by kernel_rfl)) (fun _ _ _ h => h) (Or.inl ⟨by rfl, ?_⟩) ?_ ?_
            rotate_left
            · intro w'
              go_simp
              with_reducible rfl
            rotate_left
            · simp only [Act.put, List.setIfInBounds_toArray, List.set_cons_zero, List.set_cons_succ, i64_w, i32_w]
              rfl
            refine pure_ (i := 1) (N := some 20) (v := ?_) (a' := ?_) #[true, true, false, false, false, false, false, false, false, false, false, false] rfl rfl (any_of HT_.out (by kernel_rfl)) (fun _ _ _ h => h) (Or.inl ⟨by rfl, ?_⟩) ?_ ?_
            rotate_left
            · intro w'
              go_simp
              with_reducible rfl
            rotate_left
            · simp only [Act.put, List.setIfInBounds_toArray, List.set_cons_zero, List.set_cons_succ, i64_w, i32_w]
              rfl
            refine pure_ (i := 3) (N := some 22) (v := ?_) (a' := ?_) #[true, true, false, true, false, false, false, false, false, false, false, false] rfl rfl (any_of HT_.out (by kernel_rfl)) (fun _ _ _ h => h) (Or.inl ⟨by rfl, ?_⟩) ?_ ?_
            rotate_left
            · intro w'
              go_simp
              with_reducible rfl
            rotate_left
            · simp only [Act.put, List.setIfInBounds_toArray, List.set_cons_zero, List.set_cons_succ, i64_w, i32_w]
              rfl
            refine pure_ (i := 4) (N := some 23) (v := ?_) (a' := ?_) #[true, true, false, true, true, false, false, false, false, false, false, false] rfl rfl (any_of HT_.out (by kernel_rfl)) (fun _ _ _ h => h) (Or.inl ⟨by rfl, ?_⟩) ?_ ?_
            rotate_left
            · intro w'
              go_simp
              with_reducible rfl
            rotate_left
            · simp only [Act.put, List.setIfInBounds_toArray, List.set_cons_zero, List.set_cons_succ, i64_w, i32_w]
              rfl
            refine pure_ (i := 7) (N := some 26) (v := ?_) (a' := ?_) #[true, true, false, true, true, false, false, true, false, false, false, false] rfl rfl (any_of HT_.out (by kernel_rfl)) (fun _ _ _ h => h) (Or.inl ⟨by rfl, ?_⟩) ?_ ?_
            rotate_left
            · intro w'
              go_simp
              with_reducible rfl
            rotate_left
            · simp only [Act.put, List.setIfInBounds_toArray, List.set_cons_zero, List.set_cons_succ, i64_w, i32_w]
              rfl
            refine pure_ (i := 8) (N := some 27) (v := ?_) (a' := ?_) #[true, true, false, true, true, false, false, true, true, false, false, false] rfl rfl (any_of HT_.out (by kernel_rfl)) (fun _ _ _ h => h) (Or.inl ⟨by rfl, ?_⟩) ?_ ?_
            rotate_left
            · intro w'
              go_simp
              with_reducible rfl
            rotate_left
            · simp only [Act.put, List.setIfInBounds_toArray, List.set_cons_zero, List.set_cons_succ, i64_w, i32_w]
              rfl
            refine pure_ (i := 11) (N := some 30) (v := ?_) (a' := ?_) #[true, true, false, true, true, false, false, true, true, false, false, true] rfl rfl (any_of HT_.out (by kernel_rfl)) (fun _ _ _ h => h) (Or.inl ⟨by rfl, ?_⟩) ?_ ?_
            rotate_left
            · intro w'
              go_simp
              with_reducible rfl
            rotate_left
            · simp only [Act.put, List.setIfInBounds_toArray, List.set_cons_zero, List.set_cons_succ, i64_w, i32_w]
              rfl
            refine take_ (i := 2) (N := some 21) (v := ?_) (a' := ?_) #[true, true, true, true, true, false, false, true, true, false, false, true] rfl rfl (take_ofW HT_.out HW_.out (by kernel_rfl)) (fun _ _ _ h => h) (Or.inl ⟨by rfl, ?_⟩) hHeld ?_ ?_
            rotate_left
            · rintro w' ⟨s0, s1⟩
              go_simp
              with_reducible rfl
            rotate_left
            · simp only [Act.put, List.setIfInBounds_toArray, List.set_cons_zero, List.set_cons_succ, i64_w, i32_w]
              rfl
            refine take_ (i := 5) (N := some 24) (v := ?_) (a' := ?_) #[true, true, true, true, true, true, false, true, true, false, false, true] rfl rfl (take_ofW HT_.out HW_.out (by kernel_rfl)) (fun _ _ _ h => h) (Or.inl ⟨by rfl, ?_⟩) hHeld ?_ ?_
            rotate_left
            · rintro w' ⟨s0, s1⟩
              go_simp
              with_reducible rfl
            rotate_left
            · simp only [Act.put, List.setIfInBounds_toArray, List.set_cons_zero, List.set_cons_succ, i64_w, i32_w]
              rfl
            refine one_ (i := 6) (N := some 25) #[true, true, true, true, true, true, true, true, true, false, false, true] rfl rfl (one_of HT_.out (by kernel_rfl)) (by decide) (fun K hK => ?_)
            refine Kd.R_lit_step Kd.string _ 9 ?hg (N := 25) ?hd (xs := ([rdOf ByteArray.empty t115 1, rdOf ByteArray.empty t115 3] : List ByteArray)) (inner := [.string (rdOf ByteArray.empty t115 1), .string (rdOf ByteArray.empty t115 3)]) (ok := fun _ => True) (okp := fun _ => True) ?hr ?hp (fun _ hk => hk) trivial (Below.refl _ _) (Nat.le_refl _) (by simp) ?_; (case hd => rfl); (case hg => rfl); (case hr => first | (go_simp; done) | (go_simp; rfl)); (case hp => exact (Reps.one (show Kd.M Kd.string _ _ _ (rdOf ByteArray.empty t115 1) [.string (rdOf ByteArray.empty t115 1)] from rfl) (Reps.one (show Kd.M Kd.string _ _ _ (rdOf ByteArray.empty t115 3) [.string (rdOf ByteArray.empty t115 3)] from rfl) (Reps.none _ _))))
            intro v121 w17 ho18 hb hg_ hnew_
            have HS0_ := (hb.cell (World.block_lt_of_cell? _ _ (hHeld.1))).trans (hHeld.1)
            have HS1_ := (hb.cell (World.block_lt_of_cell? _ _ (hHeld.2))).trans (hHeld.2)
            clear hg_ hnew_
            (first | rw [← Ny120.out] at ho18 | (simp only [Int.reduceToNat] at ho18; rw [← Ny120.out] at ho18))
            have n0_ := Aside0.mk (Kd.R_elder' (by (with_reducible repeat (first | apply Kd.R_alloc | apply Kd.R_drewN | apply Kd.R_drew)); exact HO117.out) (Kd.R_base ho18) hb)
            have n1_ := Aside0.mk (Kd.R_lower (Kd.R_new' ho18 (Kd.R_lt (by (with_reducible repeat (first | apply Kd.R_alloc | apply Kd.R_drewN | apply Kd.R_drew)); exact HO117.out))) (below_size (by repeat (first | (with_reducible first | exact HB.out | apply below_alloc | apply pw_below_drewN | apply below_drew1 | refine below_set ?_ GE114.out) | exact HB.out))))
            have n2_ := Aside0.mk (blk_below (g := gb114) (o := .cells #[.int .u8 0, .int .i64 0, .slice none 0 0] 24 (0, 0)) (by (with_reducible repeat (first | refine blk_drewN ?_ _ | refine blk_drew ?_ | refine blk_alloc ?_ _)); exact BK114.out) hb)
            have n3_ := Aside0.mk (Kd.C_below (by repeat (first | (with_reducible exact HR126.out) | (with_reducible refine Kd.C_alloc ?_ _) | (with_reducible refine Kd.C_drewN ?_ _) | (with_reducible refine Kd.C_drew ?_) | exact HR126.out)) hb)
            have n4_ := Aside0.mk (below_step (by repeat (first | (with_reducible first | exact HB.out | apply below_alloc | apply pw_below_drewN | apply below_drew1 | refine below_set ?_ GE114.out) | exact HB.out)) hb)
            clear HO117
            clear BK114
            clear HR126
            clear HB
            have HO117 := n0_
            have HO122 := n1_
            have BK114 := n2_
            have HR126 := n3_
            have HB := n4_
            clear n0_ n1_ n2_ n3_ n4_
            clear hb ho18
            refine hK.out _ _ ⟨HS0_, HS1_⟩ (fun hHeld => ?_)
            clear hK K
            refine norm_ (a' := ?_) ?_ ?_
            rotate_left
            · show Act.put _ (some 25) _ = _
              simp only [Act.put, List.setIfInBounds_toArray, List.set_cons_zero, List.set_cons_succ, i64_w, i32_w]
              rfl
            refine last_ (i := 9) (N := some 28) #[true, true, true, true, true, true, true, true, true, true, false, true] rfl rfl (one_of HT_.out (by kernel_rfl)) (by decide) (fun K hK => ?_)
            refine Kd.R_append_rows_step Kd.string (w0 := w) w.heap.size (by rfl) (.tmp 25) (.tmp 27) 49 9 (.string ⟨#[]⟩) 16 rfl Tryd.underlying49 info9 rfl (by decide) (by omega) v121 y120 y123 _ _ _ (fun k_ => some k_ ≠ (.slice (some ad118) t115.length co14 : Value).ownBlock) (fun _ => False) rfl rfl ?aO ?aR (fun _ _ h => h) (fun _ h => h.elim) ?aF ?aB ?aS ?aL ?_
            (case aR => repeat (first | exact (by repeat (first | (with_reducible exact HR126.out) | (with_reducible refine Kd.C_alloc ?_ _) | (with_reducible refine Kd.C_drewN ?_ _) | (with_reducible refine Kd.C_drew ?_) | exact HR126.out)) | (with_reducible refine Kd.C_alloc ?_ _) | (with_reducible refine Kd.C_drewN ?_ _) | (with_reducible refine Kd.C_drew ?_)))
            (case aB => exact (by repeat (first | (with_reducible first | exact HB.out | apply below_alloc | apply pw_below_drewN | apply below_drew1 | refine below_set ?_ GE114.out) | exact HB.out)))
            (case aF => exact (fun k_ hk => Kd.fresh' (Kd.R_lt (by (with_reducible repeat (first | apply Kd.R_alloc | apply Kd.R_drewN | apply Kd.R_drew)); exact HO117.out)) k_ hk))
            (case aO => exact (by (with_reducible repeat (first | apply Kd.R_alloc | apply Kd.R_drewN | apply Kd.R_drew)); exact Kd.R_mono HO122.out (fun _ hk => hk.2)))
            (case aS => exact (below_size (by repeat (first | (with_reducible first | exact HB.out | apply below_alloc | apply pw_below_drewN | apply below_drew1 | refine below_set ?_ GE114.out) | exact HB.out))))
            (case aL => have := LMc11.out; omega)
            intro v128 w19 ho hb hg hat
            rw [← Ny127.out] at ho
            have n0_ := Aside0.mk (blk_grown (g := gb114) (o := .cells #[.int .u8 0, .int .i64 0, .slice none 0 0] 24 (0, 0)) (by (with_reducible repeat (first | refine blk_drewN ?_ _ | refine blk_drew ?_ | refine blk_alloc ?_ _)); exact BK114.out) hg (Kd.R_ne HO122.out BK114.out (by decide)))
            have n1_ := Aside0.mk (Kd.R_after (ok := (fun _ => True)) (by (with_reducible repeat (first | apply Kd.R_alloc | apply Kd.R_drewN | apply Kd.R_drew)); exact HO117.out) hg hat)
            have n2_ := Aside0.mk (hb)
            have n3_ := Aside0.mk ((show Kd.C Kd.string w19 A16 y123.length y123 from by rw [Ny123.out, KA16.out]; exact Kd.C_drop (m := 5) (c := co14) ((Kd.R_reads' (Kd.R_after (ok := (fun _ => True)) (by (with_reducible repeat (first | apply Kd.R_alloc | apply Kd.R_drewN | apply Kd.R_drew)); exact HO117.out) hg hat)).2.2) KL16.out ((Kd.R_reads' (Kd.R_after (ok := (fun _ => True)) (by (with_reducible repeat (first | apply Kd.R_alloc | apply Kd.R_drewN | apply Kd.R_drew)); exact HO117.out) hg hat)).2.1)))
            have n4_ := Aside0.mk (ho)
            clear BK114
            clear HO117
            clear HB
            clear HR126
            clear HO122
            have BK114 := n0_
            have HO117 := n1_
            have HB := n2_
            have HR126 := n3_
            have HO129 := n4_
            clear n0_ n1_ n2_ n3_ n4_
            clear ho hb hg hat
            obtain ⟨Ao20, co20, eo20⟩ := Kd.R_slice HO129.out
            (first | subst eo20 | (injection eo20 with f1_ f2_ f3_; have f4_ := f1_.symm; have f5_ := f3_.symm; clear f1_ f2_ f3_; subst f4_; subst f5_))
            refine hK.out _ _ ?_
            clear hK K
            refine norm_ (a' := ?_) ?_ ?_
            rotate_left
            · show Act.put _ (some 28) _ = _
              simp only [Act.put, List.setIfInBounds_toArray, List.set_cons_zero, List.set_cons_succ, i64_w, i32_w]
              rfl
            refine pure_ (i := 10) (N := some 29) (v := ?_) (a' := ?_) #[true, true, true, true, true, true, true, true, true, true, true, true] rfl rfl (any_of HT_.out (by kernel_rfl)) (fun _ _ _ h => h) (Or.inl ⟨by rfl, ?_⟩) ?_ ?_
            rotate_left
            · intro w'
              go_simp
              with_reducible rfl
            rotate_left
            · simp only [Act.put, List.setIfInBounds_toArray, List.set_cons_zero, List.set_cons_succ, i64_w, i32_w]
              rfl
            refine done_ (done_of HT_.out (by kernel_rfl)) ?_
            try go_wp2
            go_loopg [5, 30] k (fun kq v5 v30 w' => ∃ (x5_1 : List Int) (x30_1 : Int) (x115000_1 : Int) (x115001_1 : Int), v30 = .int .i64 x30_1 ∧ Aside0 (puzzle_Read.l0 kq a0 x5_1 y127 (y127.length : Int) x30_1 = some (r1, r2, r3, r4)) ∧ Aside0 (kq ≤ k) ∧ Aside0 (Kd.R (Kd.int .i64) 3 w' w.heap.size (fun _ => True) v5 x5_1) ∧ Aside0 (Kd.R Kd.string 9 w' w.heap.size (fun _ => True) (.slice Ao20 y127.length co20) y127) ∧ Aside0 (w'.heap[gb114]? = some (.cells #[.int .u8 x115000_1, .int .i64 x115001_1, (.slice none 0 0)] 24 (0, 0))) ∧ Aside0 (Below w.heap.size w w'))
            case atStart => exact ⟨(([] : List Int)), (0), (0), (0), (by first | rfl | (simp; done) | (simp [*]; done)), H', ⟨Nat.le_refl _⟩, ⟨by first | exact Kd.R_nil _ _ _ _ _ | exact Kd.N_nil _ _ _ _ _ | exact Kd.V_nil _ _ _ _ _ | exact Kd.Q_nil _ _ _ _ _ | exact Kd.S_nil _ _ _ _ _⟩, ⟨by (with_reducible repeat (first | apply Kd.R_alloc | apply Kd.R_drewN | apply Kd.R_drew)); exact Kd.R_mono HO129.out (fun _ hk => trivial)⟩, ⟨by (with_reducible repeat (first | refine blk_drewN ?_ _ | refine blk_drew ?_ | refine blk_alloc ?_ _)); exact BK114.out⟩, ⟨by repeat (first | (with_reducible first | exact HB.out | apply below_alloc | apply pw_below_drewN | apply below_drew1 | refine below_set ?_ GE114.out) | exact HB.out)⟩⟩
            case round =>
              clear H'
              try clear c1
              try clear p1
              try clear q1
              try clear hx1
              try clear qi1
              try clear c2
              try clear p2
              try clear c3
              try clear c3b0
              try clear c3b1
              try clear c8
              try clear c8b0
              try clear c8b1
              try clear c9
              try clear c9b0
              try clear c9b1
              try clear c10
              try clear c10b0
              try clear c10b1
              try clear c11
              try clear p11
              try clear q11
              try clear hx11
              try clear qi11
              try clear c16
              try clear q16
              try clear hcz7_0
              try clear hcz7_1
              try clear hcz7_2
              try clear hfz7_0
              try clear hfz7_1
              try clear hfz7_2
              try clear hx118_0
              try clear hx119_0
              try clear p118
              try clear p119
              try clear q118
              try clear q119
              try clear q16
              obtain ⟨x5_1, x30_1, x115000_1, x115001_1, rfl, HA, HK1, HO_5, HO_28, BK114, HB⟩ := hrel
              cases gk with
              | zero => exact absurd HA.out (by simp [puzzle_Read.l0])
              | succ k1 =>
                have H := HA.out
                clear HA
                simp only [puzzle_Read.l0] at H
                by_cases c21 : x30_1 < (y127.length : Int)
                · rw [if_pos c21] at H
                  have c21b0 : decide (x30_1 < (y127.length : Int)) = true := decide_eq_true c21
                  clear c21
                  by_cases c22 : 0 ≤ x30_1
                  · rw [if_pos c22] at H
                    have c22b0 : decide (0 ≤ x30_1) = true := decide_eq_true c22
                    clear c22
                    by_cases c23 : x30_1 < (y127.length : Int)
                    · rw [if_pos c23] at H
                      have c23b0 : decide (x30_1 < (y127.length : Int)) = true := decide_eq_true c23
                      clear c23
                      replace H := Option.bind_eq_some_iff.mp H
                      obtain ⟨⟨t131, t132⟩, A240, H⟩ := H
                      replace H : (if t132.isNone = true then (if t131 < 0 then (some (0, 0, ([] : List Int), 5)) else (if t131 > 99999 then (some (0, 0, ([] : List Int), 5)) else (if x5_1.length < 17592186044416 then (puzzle_Read.l0 k1 a0 (x5_1 ++ [t131]) y127 (y127.length : Int) (wrap64 (x30_1 + 1))) else (none)))) else (some (0, 0, ([] : List Int), 5))) = some (r1, r2, r3, r4) := H
                      have A24 := Aside0.mk A240
                      clear A240
                      rcases t132 with _ | q133
                      · have H1 : (if t131 < 0 then (some (0, 0, ([] : List Int), 5)) else (if t131 > 99999 then (some (0, 0, ([] : List Int), 5)) else (if x5_1.length < 17592186044416 then (puzzle_Read.l0 k1 a0 (x5_1 ++ [t131]) y127 (y127.length : Int) (wrap64 (x30_1 + 1))) else (none)))) = some (r1, r2, r3, r4) := by rw [if_pos (show (none : Option Int).isNone = true by rfl)] at H; exact H
                        clear H
                        have H := H1
                        clear H1
                        try simp only [errW_none, errW_some]
                        by_cases c25 : t131 < 0
                        · rw [if_pos c25] at H
                          have c25b0 : decide (t131 < 0) = true := decide_eq_true c25
                          clear c25
                          simp only [Option.some.injEq, Prod.mk.injEq] at H
                          obtain ⟨rfl, rfl, rfl, rfl⟩ := H
                          have p130 : 0 ≤ (x30_1 : Int) := of_decide_eq_true (by first | (with_reducible assumption) | assumption)
                          have q130 : x30_1 < (y127.length : Int) := of_decide_eq_true (by first | (with_reducible assumption) | assumption)
                          obtain ⟨ad130, e130, hx130_0⟩ := Kd.at_string (Kd.R_reads' HO_28.out).2.2 x30_1 p130 q130
                          cases e130
                          replace p130 := eq_true p130
                          replace q130 := eq_true q130
                          go_wp2_with (first | ((with_reducible refine gate_callee (f := 29) rfl ?_); refine goesL_ (some 36) rfl rfl Tryd.func29 (by kernel_rfl) rfl #[.string (rdOf ByteArray.empty y127 x30_1)] rfl (by (try simp only [List.map_toArray, List.map_cons, List.map_nil]); first | done | rfl | (simp only [List.length_drop, List.length_take]; rfl)) ?_; (with_reducible refine (strconv_Atoi.calls (rdOf ByteArray.empty y127 x30_1) t131 none _ ?side1 A24.out).mono ?_); (case side1 => exact Tabs.below HG.out (by repeat (first | (with_reducible first | exact HB.out | apply below_alloc | apply pw_below_drewN | apply below_drew1 | refine below_set ?_ GE114.out) | exact HB.out))); rintro e w26 ⟨NE_, rfl, hb⟩; refine ⟨_, rfl, ?_⟩; have n0_ := Aside0.mk (Kd.R_below (by (with_reducible repeat (first | apply Kd.R_alloc | apply Kd.R_drewN | apply Kd.R_drew)); exact HO_5.out) hb); have n1_ := Aside0.mk (Kd.R_below (by (with_reducible repeat (first | apply Kd.R_alloc | apply Kd.R_drewN | apply Kd.R_drew)); exact HO_28.out) hb); have n2_ := Aside0.mk (blk_below (g := gb114) (o := .cells #[.int .u8 x115000_1, .int .i64 x115001_1, .slice none 0 0] 24 (0, 0)) (by (with_reducible repeat (first | refine blk_drewN ?_ _ | refine blk_drew ?_ | refine blk_alloc ?_ _)); exact BK114.out) hb); have n3_ := Aside0.mk (below_step (by repeat (first | (with_reducible first | exact HB.out | apply below_alloc | apply pw_below_drewN | apply below_drew1 | refine below_set ?_ GE114.out) | exact HB.out)) hb); clear HO_5; clear HO_28; clear BK114; clear HB; have HO_5 := n0_; have HO_28 := n1_; have BK114 := n2_; have HB := n3_; clear n0_ n1_ n2_ n3_; (try clear hb); (try clear hb2); (try clear hk); (try clear hi); (try simp only [errW_none, errW_some, errV_none, errV_some]); have hcz27_0 : w26.cell? ⟨gb114, 0, none⟩ = some (.int .u8 x115000_1) := (blk_cell BK114.out 0).trans rfl; have hcz27_1 : w26.cell? ⟨gb114, 1, none⟩ = some (.int .i64 x115001_1) := (blk_cell BK114.out 1).trans rfl; have hcz27_2 : w26.cell? ⟨gb114, 2, none⟩ = some (.slice none 0 0) := (blk_cell BK114.out 2).trans rfl; have hfz27_0 := blk_frozen BK114.out 0; have hfz27_1 := blk_frozen BK114.out 1; have hfz27_2 := blk_frozen BK114.out 2))
                          refine bodyPost_ret (results_ct rfl _ _ gb114 24 #[.int .u8 0, .int .i64 0, .slice none 0 0] (0, 0) _ rfl (by (with_reducible repeat (first | refine blk_drewN ?_ _ | refine blk_drew ?_ | refine blk_alloc ?_ _)); refine blk_put (cs := #[.int .u8 0, .int .i64 0, .slice none 0 0]) ?_ 2 _ rfl; (with_reducible repeat (first | refine blk_drewN ?_ _ | refine blk_drew ?_ | refine blk_alloc ?_ _)); refine blk_put (cs := #[.int .u8 0, .int .i64 x115001_1, .slice none 0 0]) ?_ 1 _ rfl; (with_reducible repeat (first | refine blk_drewN ?_ _ | refine blk_drew ?_ | refine blk_alloc ?_ _)); refine blk_put (cs := #[.int .u8 x115000_1, .int .i64 x115001_1, .slice none 0 0]) ?_ 0 _ rfl; (with_reducible repeat (first | refine blk_drewN ?_ _ | refine blk_drew ?_ | refine blk_alloc ?_ _)); exact BK114.out) Tryd.underlying24 rfl (by kernel_rfl)) rfl ?_
                          exact ⟨_, by first | rfl | (simp [errW_none, errW_some] <;> rfl) | (simp [*, errW_none, errW_some] <;> rfl), Kd.Q_of_R (by first | exact Kd.R_nil _ _ _ _ _ | exact Kd.N_nil _ _ _ _ _ | exact Kd.V_nil _ _ _ _ _ | exact Kd.Q_nil _ _ _ _ _ | exact Kd.S_nil _ _ _ _ _), by repeat (first | (with_reducible first | exact HB.out | apply below_alloc | apply pw_below_drewN | apply below_drew1 | refine below_set ?_ GE114.out) | exact HB.out)⟩
                        · rw [if_neg c25] at H
                          have c25b0 : decide (t131 < 0) = false := decide_eq_false c25
                          clear c25
                          by_cases c28 : t131 > 99999
                          · rw [if_pos c28] at H
                            have c28b0 : decide (99999 < t131) = true := decide_eq_true c28
                            clear c28
                            simp only [Option.some.injEq, Prod.mk.injEq] at H
                            obtain ⟨rfl, rfl, rfl, rfl⟩ := H
                            have p130 : 0 ≤ (x30_1 : Int) := of_decide_eq_true (by first | (with_reducible assumption) | assumption)
                            have q130 : x30_1 < (y127.length : Int) := of_decide_eq_true (by first | (with_reducible assumption) | assumption)
                            obtain ⟨ad130, e130, hx130_0⟩ := Kd.at_string (Kd.R_reads' HO_28.out).2.2 x30_1 p130 q130
                            cases e130
                            replace p130 := eq_true p130
                            replace q130 := eq_true q130
                            go_wp2_with (first | ((with_reducible refine gate_callee (f := 29) rfl ?_); refine goesL_ (some 36) rfl rfl Tryd.func29 (by kernel_rfl) rfl #[.string (rdOf ByteArray.empty y127 x30_1)] rfl (by (try simp only [List.map_toArray, List.map_cons, List.map_nil]); first | done | rfl | (simp only [List.length_drop, List.length_take]; rfl)) ?_; (with_reducible refine (strconv_Atoi.calls (rdOf ByteArray.empty y127 x30_1) t131 none _ ?side1 A24.out).mono ?_); (case side1 => exact Tabs.below HG.out (by repeat (first | (with_reducible first | exact HB.out | apply below_alloc | apply pw_below_drewN | apply below_drew1 | refine below_set ?_ GE114.out) | exact HB.out))); rintro e w29 ⟨NE_, rfl, hb⟩; refine ⟨_, rfl, ?_⟩; have n0_ := Aside0.mk (Kd.R_below (by (with_reducible repeat (first | apply Kd.R_alloc | apply Kd.R_drewN | apply Kd.R_drew)); exact HO_5.out) hb); have n1_ := Aside0.mk (Kd.R_below (by (with_reducible repeat (first | apply Kd.R_alloc | apply Kd.R_drewN | apply Kd.R_drew)); exact HO_28.out) hb); have n2_ := Aside0.mk (blk_below (g := gb114) (o := .cells #[.int .u8 x115000_1, .int .i64 x115001_1, .slice none 0 0] 24 (0, 0)) (by (with_reducible repeat (first | refine blk_drewN ?_ _ | refine blk_drew ?_ | refine blk_alloc ?_ _)); exact BK114.out) hb); have n3_ := Aside0.mk (below_step (by repeat (first | (with_reducible first | exact HB.out | apply below_alloc | apply pw_below_drewN | apply below_drew1 | refine below_set ?_ GE114.out) | exact HB.out)) hb); clear HO_5; clear HO_28; clear BK114; clear HB; have HO_5 := n0_; have HO_28 := n1_; have BK114 := n2_; have HB := n3_; clear n0_ n1_ n2_ n3_; (try clear hb); (try clear hb2); (try clear hk); (try clear hi); (try simp only [errW_none, errW_some, errV_none, errV_some]); have hcz30_0 : w29.cell? ⟨gb114, 0, none⟩ = some (.int .u8 x115000_1) := (blk_cell BK114.out 0).trans rfl; have hcz30_1 : w29.cell? ⟨gb114, 1, none⟩ = some (.int .i64 x115001_1) := (blk_cell BK114.out 1).trans rfl; have hcz30_2 : w29.cell? ⟨gb114, 2, none⟩ = some (.slice none 0 0) := (blk_cell BK114.out 2).trans rfl; have hfz30_0 := blk_frozen BK114.out 0; have hfz30_1 := blk_frozen BK114.out 1; have hfz30_2 := blk_frozen BK114.out 2))
                            refine bodyPost_ret (results_ct rfl _ _ gb114 24 #[.int .u8 0, .int .i64 0, .slice none 0 0] (0, 0) _ rfl (by (with_reducible repeat (first | refine blk_drewN ?_ _ | refine blk_drew ?_ | refine blk_alloc ?_ _)); refine blk_put (cs := #[.int .u8 0, .int .i64 0, .slice none 0 0]) ?_ 2 _ rfl; (with_reducible repeat (first | refine blk_drewN ?_ _ | refine blk_drew ?_ | refine blk_alloc ?_ _)); refine blk_put (cs := #[.int .u8 0, .int .i64 x115001_1, .slice none 0 0]) ?_ 1 _ rfl; (with_reducible repeat (first | refine blk_drewN ?_ _ | refine blk_drew ?_ | refine blk_alloc ?_ _)); refine blk_put (cs := #[.int .u8 x115000_1, .int .i64 x115001_1, .slice none 0 0]) ?_ 0 _ rfl; (with_reducible repeat (first | refine blk_drewN ?_ _ | refine blk_drew ?_ | refine blk_alloc ?_ _)); exact BK114.out) Tryd.underlying24 rfl (by kernel_rfl)) rfl ?_
                            exact ⟨_, by first | rfl | (simp [errW_none, errW_some] <;> rfl) | (simp [*, errW_none, errW_some] <;> rfl), Kd.Q_of_R (by first | exact Kd.R_nil _ _ _ _ _ | exact Kd.N_nil _ _ _ _ _ | exact Kd.V_nil _ _ _ _ _ | exact Kd.Q_nil _ _ _ _ _ | exact Kd.S_nil _ _ _ _ _), by repeat (first | (with_reducible first | exact HB.out | apply below_alloc | apply pw_below_drewN | apply below_drew1 | refine below_set ?_ GE114.out) | exact HB.out)⟩
                          · rw [if_neg c28] at H
                            have c28b0 : decide (99999 < t131) = false := decide_eq_false c28
                            clear c28
                            by_cases c31 : x5_1.length < 17592186044416
                            · rw [if_pos c31] at H
                              have LMc31 := Aside0.mk c31
                              clear c31
                              obtain ⟨y134, hy134⟩ : ∃ y_ : List Int, y_ = (x5_1 ++ [t131]) := ⟨_, rfl⟩
                              replace H : (puzzle_Read.l0 k1 a0 y134 y127 (y127.length : Int) (wrap64 (x30_1 + 1))) = some (r1, r2, r3, r4) := by first | (rw [hy134]; with_reducible exact H) | (have H2_ := (Option.bind_some _ _).symm.trans H; rw [hy134]; with_reducible exact H2_) | (have H2_ := (Option.bind_some _ _).symm.trans H; with_reducible exact H2_) | with_reducible exact H | (rw [hy134]; exact H) | exact H
                              have Ny134 := Aside0.mk hy134
                              clear hy134
                              have H' := Aside0.mk H
                              clear H
                              have p130 : 0 ≤ (x30_1 : Int) := of_decide_eq_true (by first | (with_reducible assumption) | assumption)
                              have q130 : x30_1 < (y127.length : Int) := of_decide_eq_true (by first | (with_reducible assumption) | assumption)
                              obtain ⟨ad130, e130, hx130_0⟩ := Kd.at_string (Kd.R_reads' HO_28.out).2.2 x30_1 p130 q130
                              cases e130
                              replace p130 := eq_true p130
                              replace q130 := eq_true q130
                              go_wp2_with (first | ((with_reducible refine gate_callee (f := 29) rfl ?_); refine goesL_ (some 36) rfl rfl Tryd.func29 (by kernel_rfl) rfl #[.string (rdOf ByteArray.empty y127 x30_1)] rfl (by (try simp only [List.map_toArray, List.map_cons, List.map_nil]); first | done | rfl | (simp only [List.length_drop, List.length_take]; rfl)) ?_; (with_reducible refine (strconv_Atoi.calls (rdOf ByteArray.empty y127 x30_1) t131 none _ ?side1 A24.out).mono ?_); (case side1 => exact Tabs.below HG.out (by repeat (first | (with_reducible first | exact HB.out | apply below_alloc | apply pw_below_drewN | apply below_drew1 | refine below_set ?_ GE114.out) | exact HB.out))); rintro e w32 ⟨NE_, rfl, hb⟩; refine ⟨_, rfl, ?_⟩; have n0_ := Aside0.mk (Kd.R_below (by (with_reducible repeat (first | apply Kd.R_alloc | apply Kd.R_drewN | apply Kd.R_drew)); exact HO_5.out) hb); have n1_ := Aside0.mk (Kd.R_below (by (with_reducible repeat (first | apply Kd.R_alloc | apply Kd.R_drewN | apply Kd.R_drew)); exact HO_28.out) hb); have n2_ := Aside0.mk (blk_below (g := gb114) (o := .cells #[.int .u8 x115000_1, .int .i64 x115001_1, .slice none 0 0] 24 (0, 0)) (by (with_reducible repeat (first | refine blk_drewN ?_ _ | refine blk_drew ?_ | refine blk_alloc ?_ _)); exact BK114.out) hb); have n3_ := Aside0.mk (below_step (by repeat (first | (with_reducible first | exact HB.out | apply below_alloc | apply pw_below_drewN | apply below_drew1 | refine below_set ?_ GE114.out) | exact HB.out)) hb); clear HO_5; clear HO_28; clear BK114; clear HB; have HO_5 := n0_; have HO_28 := n1_; have BK114 := n2_; have HB := n3_; clear n0_ n1_ n2_ n3_; (try clear hb); (try clear hb2); (try clear hk); (try clear hi); (try simp only [errW_none, errW_some, errV_none, errV_some])) | ((with_reducible refine gate_builtin (b := .append) (xs := #[.tmp 50, .tmp 52]) rfl ?_); at_builtin; refine Kd.R_append (Kd.int .i64) (w0 := w) w.heap.size rfl (.tmp 50) (.tmp 52) 22 3 (.int .i64 0) 8 rfl Tryd.underlying22 info3 rfl (by decide) (by omega) u5 x5_1 t131 [.int .i64 t131] (fun _ => True) (fun _ => False) rfl rfl ?aP (fun _ hk => hk.elim) ?aF ?aO ?aB ?aS ?aL ?_; (case aP => exact rfl); (case aB => exact (by repeat (first | (with_reducible first | exact HB.out | apply below_alloc | apply pw_below_drewN | apply below_drew1 | refine below_set ?_ GE114.out) | exact HB.out))); (case aF => exact (fun _ _ => trivial)); (case aO => exact (by (with_reducible repeat (first | apply Kd.R_alloc | apply Kd.R_drewN | apply Kd.R_drew)); exact HO_5.out)); (case aS => exact (below_size (by repeat (first | (with_reducible first | exact HB.out | apply below_alloc | apply pw_below_drewN | apply below_drew1 | refine below_set ?_ GE114.out) | exact HB.out)))); (case aL => have := LMc31.out; omega); intro v135 w33 ho hb hg hat; rw [← Ny134.out] at ho; have n0_ := Aside0.mk (Kd.R_over' (by (with_reducible repeat (first | apply Kd.R_alloc | apply Kd.R_drewN | apply Kd.R_drew)); exact HO_28.out) (Kd.R_typed (by (with_reducible repeat (first | apply Kd.R_alloc | apply Kd.R_drewN | apply Kd.R_drew)); exact HO_5.out)) (by decide) hg); have n1_ := Aside0.mk (blk_grown (g := gb114) (o := .cells #[.int .u8 x115000_1, .int .i64 x115001_1, .slice none 0 0] 24 (0, 0)) (by (with_reducible repeat (first | refine blk_drewN ?_ _ | refine blk_drew ?_ | refine blk_alloc ?_ _)); exact BK114.out) hg (Kd.R_ne HO_5.out BK114.out (by decide))); have n2_ := Aside0.mk (hb); have n3_ := Aside0.mk (ho); clear HO_28; clear BK114; clear HB; clear HO_5; have HO_28 := n0_; have BK114 := n1_; have HB := n2_; have HO136 := n3_; clear n0_ n1_ n2_ n3_; clear ho hb hg hat))
                              go_roundg k1
                              case measure => have := HK1.out; omega
                              case rel => exact ⟨(y134), (wrap64 (x30_1 + 1)), (x115000_1), (x115001_1), (by first | rfl | (simp; done) | (simp [*]; done)), H', ⟨by have := HK1.out; omega⟩, ⟨by (with_reducible repeat (first | apply Kd.R_alloc | apply Kd.R_drewN | apply Kd.R_drew)); exact HO136.out⟩, ⟨by (with_reducible repeat (first | apply Kd.R_alloc | apply Kd.R_drewN | apply Kd.R_drew)); exact HO_28.out⟩, ⟨by (with_reducible repeat (first | refine blk_drewN ?_ _ | refine blk_drew ?_ | refine blk_alloc ?_ _)); exact BK114.out⟩, ⟨by repeat (first | (with_reducible first | exact HB.out | apply below_alloc | apply pw_below_drewN | apply below_drew1 | refine below_set ?_ GE114.out) | exact HB.out)⟩⟩
                            · rw [if_neg c31] at H
                              exact absurd H (by simp)
                      · have H1 : (some (0, 0, ([] : List Int), 5)) = some (r1, r2, r3, r4) := by rw [if_neg (show ¬ (some q133).isNone = true by simp)] at H; exact H
                        clear H
                        have H := H1
                        clear H1
                        try simp only [errW_none, errW_some]
                        simp only [Option.some.injEq, Prod.mk.injEq] at H
                        obtain ⟨rfl, rfl, rfl, rfl⟩ := H
                        have p130 : 0 ≤ (x30_1 : Int) := of_decide_eq_true (by first | (with_reducible assumption) | assumption)
                        have q130 : x30_1 < (y127.length : Int) := of_decide_eq_true (by first | (with_reducible assumption) | assumption)
                        obtain ⟨ad130, e130, hx130_0⟩ := Kd.at_string (Kd.R_reads' HO_28.out).2.2 x30_1 p130 q130
                        cases e130
                        replace p130 := eq_true p130
                        replace q130 := eq_true q130
                        go_wp2_with (first | ((with_reducible refine gate_callee (f := 29) rfl ?_); refine goesL_ (some 36) rfl rfl Tryd.func29 (by kernel_rfl) rfl #[.string (rdOf ByteArray.empty y127 x30_1)] rfl (by (try simp only [List.map_toArray, List.map_cons, List.map_nil]); first | done | rfl | (simp only [List.length_drop, List.length_take]; rfl)) ?_; (with_reducible refine (strconv_Atoi.calls (rdOf ByteArray.empty y127 x30_1) t131 (some q133) _ ?side1 A24.out).mono ?_); (case side1 => exact Tabs.below HG.out (by repeat (first | (with_reducible first | exact HB.out | apply below_alloc | apply pw_below_drewN | apply below_drew1 | refine below_set ?_ GE114.out) | exact HB.out))); rintro e w34 ⟨NE_, rfl, hb⟩; refine ⟨_, rfl, ?_⟩; have n0_ := Aside0.mk (Kd.R_below (by (with_reducible repeat (first | apply Kd.R_alloc | apply Kd.R_drewN | apply Kd.R_drew)); exact HO_5.out) hb); have n1_ := Aside0.mk (Kd.R_below (by (with_reducible repeat (first | apply Kd.R_alloc | apply Kd.R_drewN | apply Kd.R_drew)); exact HO_28.out) hb); have n2_ := Aside0.mk (blk_below (g := gb114) (o := .cells #[.int .u8 x115000_1, .int .i64 x115001_1, .slice none 0 0] 24 (0, 0)) (by (with_reducible repeat (first | refine blk_drewN ?_ _ | refine blk_drew ?_ | refine blk_alloc ?_ _)); exact BK114.out) hb); have n3_ := Aside0.mk (below_step (by repeat (first | (with_reducible first | exact HB.out | apply below_alloc | apply pw_below_drewN | apply below_drew1 | refine below_set ?_ GE114.out) | exact HB.out)) hb); clear HO_5; clear HO_28; clear BK114; clear HB; have HO_5 := n0_; have HO_28 := n1_; have BK114 := n2_; have HB := n3_; clear n0_ n1_ n2_ n3_; (try clear hb); (try clear hb2); (try clear hk); (try clear hi); (try simp only [errW_none, errW_some, errV_none, errV_some]); have hcz35_0 : w34.cell? ⟨gb114, 0, none⟩ = some (.int .u8 x115000_1) := (blk_cell BK114.out 0).trans rfl; have hcz35_1 : w34.cell? ⟨gb114, 1, none⟩ = some (.int .i64 x115001_1) := (blk_cell BK114.out 1).trans rfl; have hcz35_2 : w34.cell? ⟨gb114, 2, none⟩ = some (.slice none 0 0) := (blk_cell BK114.out 2).trans rfl; have hfz35_0 := blk_frozen BK114.out 0; have hfz35_1 := blk_frozen BK114.out 1; have hfz35_2 := blk_frozen BK114.out 2))
                        refine bodyPost_ret (results_ct rfl _ _ gb114 24 #[.int .u8 0, .int .i64 0, .slice none 0 0] (0, 0) _ rfl (by (with_reducible repeat (first | refine blk_drewN ?_ _ | refine blk_drew ?_ | refine blk_alloc ?_ _)); refine blk_put (cs := #[.int .u8 0, .int .i64 0, .slice none 0 0]) ?_ 2 _ rfl; (with_reducible repeat (first | refine blk_drewN ?_ _ | refine blk_drew ?_ | refine blk_alloc ?_ _)); refine blk_put (cs := #[.int .u8 0, .int .i64 x115001_1, .slice none 0 0]) ?_ 1 _ rfl; (with_reducible repeat (first | refine blk_drewN ?_ _ | refine blk_drew ?_ | refine blk_alloc ?_ _)); refine blk_put (cs := #[.int .u8 x115000_1, .int .i64 x115001_1, .slice none 0 0]) ?_ 0 _ rfl; (with_reducible repeat (first | refine blk_drewN ?_ _ | refine blk_drew ?_ | refine blk_alloc ?_ _)); exact BK114.out) Tryd.underlying24 rfl (by kernel_rfl)) rfl ?_
                        exact ⟨_, by first | rfl | (simp [errW_none, errW_some] <;> rfl) | (simp [*, errW_none, errW_some] <;> rfl), Kd.Q_of_R (by first | exact Kd.R_nil _ _ _ _ _ | exact Kd.N_nil _ _ _ _ _ | exact Kd.V_nil _ _ _ _ _ | exact Kd.Q_nil _ _ _ _ _ | exact Kd.S_nil _ _ _ _ _), by repeat (first | (with_reducible first | exact HB.out | apply below_alloc | apply pw_below_drewN | apply below_drew1 | refine below_set ?_ GE114.out) | exact HB.out)⟩
                    · rw [if_neg c23] at H
                      exact absurd H (by simp)
                  · rw [if_neg c22] at H
                    exact absurd H (by simp)
                · rw [if_neg c21] at H
                  have c21b0 : decide (x30_1 < (y127.length : Int)) = false := decide_eq_false c21
                  clear c21
                  by_cases c36 : 0 < (x5_1.length : Int)
                  · rw [if_pos c36] at H
                    have c36b0 : decide (0 < (x5_1.length : Int)) = true := decide_eq_true c36
                    have c36b1 : decide (0 < x5_1.length) = true := decide_eq_true (by omega)
                    clear c36
                    by_cases c37 : (rd x5_1 0) > 1
                    · rw [if_pos c37] at H
                      have c37b0 : decide (1 < (rd x5_1 0)) = true := decide_eq_true c37
                      clear c37
                      simp only [Option.some.injEq, Prod.mk.injEq] at H
                      obtain ⟨rfl, rfl, rfl, rfl⟩ := H
                      obtain ⟨Ao38, co38, eo38⟩ := Kd.R_slice HO_5.out
                      subst eo38
                      have p137 : 0 ≤ (0 : Int) := (by omega)
                      have q137 : 0 < (x5_1.length : Int) := of_decide_eq_true (by first | (with_reducible assumption) | assumption)
                      obtain ⟨ad137, e137, hx137_0⟩ := Kd.at_int (Kd.R_reads' HO_5.out).2.2 0 p137 q137
                      cases e137
                      have qi137 : (0 < x5_1.length) = True := eq_true (by omega)
                      (try rw [show ((0 : Int)).toNat = 0 from rfl] at hx137_0)
                      (try rw [Addr.add_zero'] at hx137_0)
                      replace p137 := eq_true p137
                      replace q137 := eq_true q137
                      have hcz39_0 : wr.cell? ⟨gb114, 0, none⟩ = some (.int .u8 x115000_1) := (blk_cell BK114.out 0).trans rfl
                      have hcz39_1 : wr.cell? ⟨gb114, 1, none⟩ = some (.int .i64 x115001_1) := (blk_cell BK114.out 1).trans rfl
                      have hcz39_2 : wr.cell? ⟨gb114, 2, none⟩ = some (.slice none 0 0) := (blk_cell BK114.out 2).trans rfl
                      have hfz39_0 := blk_frozen BK114.out 0
                      have hfz39_1 := blk_frozen BK114.out 1
                      have hfz39_2 := blk_frozen BK114.out 2
                      go_wp2
                      refine bodyPost_ret (results_ct rfl _ _ gb114 24 #[.int .u8 0, .int .i64 0, .slice none 0 0] (0, 0) _ rfl (by (with_reducible repeat (first | refine blk_drewN ?_ _ | refine blk_drew ?_ | refine blk_alloc ?_ _)); refine blk_put (cs := #[.int .u8 0, .int .i64 0, .slice none 0 0]) ?_ 2 _ rfl; (with_reducible repeat (first | refine blk_drewN ?_ _ | refine blk_drew ?_ | refine blk_alloc ?_ _)); refine blk_put (cs := #[.int .u8 0, .int .i64 x115001_1, .slice none 0 0]) ?_ 1 _ rfl; (with_reducible repeat (first | refine blk_drewN ?_ _ | refine blk_drew ?_ | refine blk_alloc ?_ _)); refine blk_put (cs := #[.int .u8 x115000_1, .int .i64 x115001_1, .slice none 0 0]) ?_ 0 _ rfl; (with_reducible repeat (first | refine blk_drewN ?_ _ | refine blk_drew ?_ | refine blk_alloc ?_ _)); exact BK114.out) Tryd.underlying24 rfl (by kernel_rfl)) rfl ?_
                      exact ⟨_, by first | rfl | (simp [errW_none, errW_some] <;> rfl) | (simp [*, errW_none, errW_some] <;> rfl), Kd.Q_of_R (by first | exact Kd.R_nil _ _ _ _ _ | exact Kd.N_nil _ _ _ _ _ | exact Kd.V_nil _ _ _ _ _ | exact Kd.Q_nil _ _ _ _ _ | exact Kd.S_nil _ _ _ _ _), by repeat (first | (with_reducible first | exact HB.out | apply below_alloc | apply pw_below_drewN | apply below_drew1 | refine below_set ?_ GE114.out) | exact HB.out)⟩
                    · rw [if_neg c37] at H
                      have c37b0 : decide (1 < (rd x5_1 0)) = false := decide_eq_false c37
                      clear c37
                      by_cases c40 : 1 < (x5_1.length : Int)
                      · rw [if_pos c40] at H
                        have c40b0 : decide (1 < (x5_1.length : Int)) = true := decide_eq_true c40
                        have c40b1 : decide (1 < x5_1.length) = true := decide_eq_true (by omega)
                        clear c40
                        by_cases c41 : 2 ≤ (x5_1.length : Int)
                        · rw [if_pos c41] at H
                          have c41b0 := eq_true c41
                          have c41b1 : decide (2 ≤ (x5_1.length : Int)) = true := decide_eq_true c41
                          clear c41
                          obtain ⟨y140, hy140⟩ : ∃ y_ : List Int, y_ = (x5_1.drop (2 : Int).toNat) := ⟨_, rfl⟩
                          replace H : ((puzzle_Write.f k1 ((rd x5_1 0) % 256) (rd x5_1 1) y140).bind fun bt144 => (if bt144.2 = 0 then (if bt144.1.toList = a0.toList then (some ((rd x5_1 0) % 256, rd x5_1 1, y140, 0)) else (some (0, 0, ([] : List Int), 5))) else (some (0, 0, ([] : List Int), 5)))) = some (r1, r2, r3, r4) := by first | (rw [hy140]; with_reducible exact H) | (have H2_ := (Option.bind_some _ _).symm.trans H; rw [hy140]; with_reducible exact H2_) | (have H2_ := (Option.bind_some _ _).symm.trans H; with_reducible exact H2_) | with_reducible exact H | (rw [hy140]; exact H) | exact H
                          have Ny140 := Aside0.mk hy140
                          clear hy140
                          replace H := Option.bind_eq_some_iff.mp H
                          obtain ⟨⟨t144, t145⟩, A420, H⟩ := H
                          replace H : (if t145 = 0 then (if t144.toList = a0.toList then (some ((rd x5_1 0) % 256, rd x5_1 1, y140, 0)) else (some (0, 0, ([] : List Int), 5))) else (some (0, 0, ([] : List Int), 5))) = some (r1, r2, r3, r4) := H
                          have A42 := Aside0.mk A420
                          clear A420
                          by_cases c43 : t145 = 0
                          · rw [if_pos c43] at H
                            have c43b0 : (t145 == 0) = true := beq_iff_eq.mpr c43
                            have c43b1 : (t145 != 0) = false := bne_eq_false_iff_eq.mpr c43
                            clear c43
                            by_cases c44 : t144.toList = a0.toList
                            · rw [if_pos c44] at H
                              have c44b0 : (t144.toList == a0.toList) = true := beq_iff_eq.mpr c44
                              have c44b1 : (t144.toList != a0.toList) = false := bne_eq_false_iff_eq.mpr c44
                              clear c44
                              simp only [Option.some.injEq, Prod.mk.injEq] at H
                              obtain ⟨rfl, rfl, rfl, rfl⟩ := H
                              obtain ⟨Ao45, co45, eo45⟩ := Kd.R_slice HO_5.out
                              subst eo45
                              have p137 : 0 ≤ (0 : Int) := (by omega)
                              have q137 : 0 < (x5_1.length : Int) := of_decide_eq_true (by first | (with_reducible assumption) | assumption)
                              obtain ⟨ad137, e137, hx137_0⟩ := Kd.at_int (Kd.R_reads' HO_5.out).2.2 0 p137 q137
                              cases e137
                              have qi137 : (0 < x5_1.length) = True := eq_true (by omega)
                              (try rw [show ((0 : Int)).toNat = 0 from rfl] at hx137_0)
                              (try rw [Addr.add_zero'] at hx137_0)
                              replace p137 := eq_true p137
                              replace q137 := eq_true q137
                              try go_wp2
                              have n0_ := Aside0.mk (Kd.R_drew HO_5.out)
                              have n1_ := Aside0.mk (Kd.R_drew HO_28.out)
                              have n2_ := Aside0.mk (blk_drew BK114.out)
                              have n3_ := Aside0.mk (below_drew1 HB.out)
                              clear HO_5
                              clear HO_28
                              clear BK114
                              clear HB
                              have HO_5 := n0_
                              have HO_28 := n1_
                              have BK114 := n2_
                              have HB := n3_
                              clear n0_ n1_ n2_ n3_
                              have p138 : 0 ≤ (0 : Int) := (by omega)
                              have q138 : 0 < (x5_1.length : Int) := of_decide_eq_true (by first | (with_reducible assumption) | assumption)
                              obtain ⟨ad138, e138, hx138_0⟩ := Kd.at_int (Kd.R_reads' HO_5.out).2.2 0 p138 q138
                              obtain rfl : ad137 = ad138 := (by injection e138)
                              have qi138 : (0 < x5_1.length) = True := eq_true (by omega)
                              (try rw [show ((0 : Int)).toNat = 0 from rfl] at hx138_0)
                              (try rw [Addr.add_zero'] at hx138_0)
                              replace p138 := eq_true p138
                              replace q138 := eq_true q138
                              have p139 : 0 ≤ (1 : Int) := (by omega)
                              have q139 : 1 < (x5_1.length : Int) := of_decide_eq_true (by first | (with_reducible assumption) | assumption)
                              obtain ⟨ad139, e139, hx139_0⟩ := Kd.at_int (Kd.R_reads' HO_5.out).2.2 1 p139 q139
                              obtain rfl : ad137 = ad139 := (by injection e139)
                              (try simp only [show (1 : Int).toNat = 1 from rfl, Nat.reduceMul, Nat.reduceEqDiff, Go.Addr.add, ↓reduceIte] at hx139_0)
                              have qi139 : (1 < x5_1.length) = True := eq_true (by omega)
                              (try rw [show ((1 : Int)).toNat = 1 from rfl] at hx139_0)
                              replace p139 := eq_true p139
                              replace q139 := eq_true q139
                              have q47 : (2 : Int) ≤ ((x5_1.length : Int) : Int) := of_decide_eq_true (by first | (with_reducible assumption) | assumption)
                              obtain ⟨i047, hi047, _, hsz47, _⟩ := info_parts info3
                              have hcut47 := cut_from (P := Tryd.prog) 22 3 .i64 Tryd.underlying22 hi047 1 hsz47 (some ad137) x5_1.length co45 2 (by omega) q47
                              have hr47 := Kd.Q_drop (k := (2 : Int).toNat) (Kd.Q_of_R HO_5.out) (by omega)
                              obtain ⟨A47, hA47⟩ : ∃ A1, A1 = (if co45 = (2 : Int).toNat then (some ad137) else ((some ad137) : Option Addr).map (·.add ((2 : Int).toNat * 1))) := ⟨_, rfl⟩
                              obtain ⟨c47, hc47⟩ : ∃ c1, c1 = co45 - (2 : Int).toNat := ⟨_, rfl⟩
                              have hy47 : y140.length = x5_1.length - (2 : Int).toNat := (by rw [Ny140.out, List.length_drop])
                              rw [← Ny140.out] at hr47
                              rw [← hy47, ← hA47, ← hc47] at hcut47
                              replace hr47 : Kd.Q (Kd.int .i64) 3 wr.drew w.heap.size (fun _ => True) (.slice A47 y140.length c47) y140 := (by rw [hA47, hc47, hy47]; exact Kd.Q_drew hr47)
                              have HE47 : Aside0 ((Value.slice A47 y140.length c47).ownBlock = (.slice (some ad137) x5_1.length co45 : Value).ownBlock) := ⟨by rw [hA47]; split <;> (cases ((some ad137) : Option Addr) <;> rfl)⟩
                              clear hy47 hi047 hsz47 HO_5 hA47 hc47
                              have HO142 := Aside0.mk hr47
                              clear hr47
                              replace q47 := eq_true q47
                              refine start_ (n := 12) (S := fun w' => w'.cell? ad137 = some (.int .i64 (rd x5_1 0)) ∧ w'.cell? ⟨ad137.block, ad137.off + 1, none⟩ = some (.int .i64 (rd x5_1 1))) (ds := []) #[false, false, false, false, false, false, false, false, false, false, false, false] (by kernel_rfl) rfl rfl ⟨hx138_0, hx139_0⟩ (fun hHeld => ?_); refine with_tabW puzzle_Read.tab15 puzzle_Read.bits15 (fun HT_ HW_ => ?_)
                              generalize wr.drew = w46 at HO_28 BK114 HB HO142 hx138_0 hx139_0 hHeld ⊢
                              refine pure_ (i := 0) (N := some 60) (v := ?_) (a' := ?_) #[true, false, false, false, false, false, false, false, false, false, false, false] rfl rfl (any_of HT_.out (by kernel_rfl)) (fun _ _ _ h => h) (Or.inl ⟨by rfl, ?_⟩) ?_ ?_
                              rotate_left
                              · intro w'
                                go_simp
                                with_reducible rfl
                              rotate_left
                              · simp only [Act.put, List.setIfInBounds_toArray, List.set_cons_zero, List.set_cons_succ, i64_w, i32_w]
                                rfl
                              refine pure_ (i := 1) (N := some 61) (v := ?_) (a' := ?_) #[true, true, false, false, false, false, false, false, false, false, false, false] rfl rfl (any_of HT_.out (by kernel_rfl)) (fun _ _ _ h => h) (Or.inl ⟨by rfl, ?_⟩) ?_ ?_
                              rotate_left
                              · intro w'
                                go_simp
                                with_reducible rfl
                              rotate_left
                              · simp only [Act.put, List.setIfInBounds_toArray, List.set_cons_zero, List.set_cons_succ, i64_w, i32_w]
                                rfl
                              refine pure_ (i := 4) (N := some 64) (v := ?_) (a' := ?_) #[true, true, false, false, true, false, false, false, false, false, false, false] rfl rfl (any_of HT_.out (by kernel_rfl)) (fun _ _ _ h => h) (Or.inl ⟨by rfl, ?_⟩) ?_ ?_
                              rotate_left
                              · intro w'
                                go_simp
                                with_reducible rfl
                              rotate_left
                              · simp only [Act.put, List.setIfInBounds_toArray, List.set_cons_zero, List.set_cons_succ, i64_w, i32_w]
                                rfl
                              refine pure_ (i := 5) (N := some 65) (v := ?_) (a' := ?_) #[true, true, false, false, true, true, false, false, false, false, false, false] rfl rfl (any_of HT_.out (by kernel_rfl)) (fun _ _ _ h => h) (Or.inl ⟨by rfl, ?_⟩) ?_ ?_
                              rotate_left
                              · intro w'
                                go_simp
                                with_reducible rfl
                              rotate_left
                              · simp only [Act.put, List.setIfInBounds_toArray, List.set_cons_zero, List.set_cons_succ, i64_w, i32_w]
                                rfl
                              refine pure_ (i := 7) (N := some 67) (v := ?_) (a' := ?_) #[true, true, false, false, true, true, false, true, false, false, false, false] rfl rfl (any_of HT_.out (by kernel_rfl)) (fun _ _ _ h => h) (Or.inl ⟨by rfl, ?_⟩) ?_ ?_
                              rotate_left
                              · intro w'
                                go_simp
                                with_reducible rfl
                              rotate_left
                              · simp only [Act.put, List.setIfInBounds_toArray, List.set_cons_zero, List.set_cons_succ, i64_w, i32_w]
                                rfl
                              refine pure_ (i := 8) (N := some 68) (v := ?_) (a' := ?_) #[true, true, false, false, true, true, false, true, true, false, false, false] rfl rfl (any_of HT_.out (by kernel_rfl)) (fun _ _ _ h => h) (Or.inl ⟨by rfl, ?_⟩) ?_ ?_
                              rotate_left
                              · intro w'
                                go_simp
                                with_reducible rfl
                              rotate_left
                              · simp only [Act.put, List.setIfInBounds_toArray, List.set_cons_zero, List.set_cons_succ, i64_w, i32_w]
                                rfl
                              refine take_ (i := 2) (N := some 62) (v := ?_) (a' := ?_) #[true, true, true, false, true, true, false, true, true, false, false, false] rfl rfl (take_ofW HT_.out HW_.out (by kernel_rfl)) (fun _ _ _ h => h) (Or.inl ⟨by rfl, ?_⟩) hHeld ?_ ?_
                              rotate_left
                              · rintro w' ⟨s0, s1⟩
                                go_simp
                                with_reducible rfl
                              rotate_left
                              · simp only [Act.put, List.setIfInBounds_toArray, List.set_cons_zero, List.set_cons_succ, i64_w, i32_w]
                                rfl
                              refine pure_ (i := 3) (N := some 63) (v := ?_) (a' := ?_) #[true, true, true, true, true, true, false, true, true, false, false, false] rfl rfl (any_of HT_.out (by kernel_rfl)) (fun _ _ _ h => h) (Or.inl ⟨by rfl, ?_⟩) ?_ ?_
                              rotate_left
                              · intro w'
                                go_simp
                                with_reducible rfl
                              rotate_left
                              · simp only [Act.put, List.setIfInBounds_toArray, List.set_cons_zero, List.set_cons_succ, i64_w, i32_w]
                                rfl
                              refine take_ (i := 6) (N := some 66) (v := ?_) (a' := ?_) #[true, true, true, true, true, true, true, true, true, false, false, false] rfl rfl (take_ofW HT_.out HW_.out (by kernel_rfl)) (fun _ _ _ h => h) (Or.inl ⟨by rfl, ?_⟩) hHeld ?_ ?_
                              rotate_left
                              · rintro w' ⟨s0, s1⟩
                                go_simp
                                with_reducible rfl
                              rotate_left
                              · simp only [Act.put, List.setIfInBounds_toArray, List.set_cons_zero, List.set_cons_succ, i64_w, i32_w]
                                rfl
                              refine pure_ (i := 9) (N := some 69) (v := ?_) (a' := ?_) #[true, true, true, true, true, true, true, true, true, true, false, false] rfl rfl (any_of HT_.out (by kernel_rfl)) (fun _ _ _ h => h) (Or.inl ⟨by rfl, ?_⟩) ?_ ?_
                              rotate_left
                              · intro w'
                                go_simp
                                with_reducible rfl
                              rotate_left
                              · simp only [Act.put, List.setIfInBounds_toArray, List.set_cons_zero, List.set_cons_succ, i64_w, i32_w]
                                rfl
                              refine one_ (i := 10) (N := some 10) #[true, true, true, true, true, true, true, true, true, true, true, false] rfl rfl (one_of HT_.out (by kernel_rfl)) (by decide) (fun K hK => ?_)
                              refine box_step ?hg (N := 10) ?hd (cs := #[.int .u8 0, .int .i64 0, .slice none 0 0]) (t := 24) ?hr ?_; (case hd => rfl); (case hg => rfl); (case hr => first | (go_simp; done) | (go_simp; rfl))
                              intro gb143 hg w48 hbox hb
                              have HS0_ := (hb.cell (World.block_lt_of_cell? _ _ (hHeld.1))).trans (hHeld.1)
                              have HS1_ := (hb.cell (World.block_lt_of_cell? _ _ (hHeld.2))).trans (hHeld.2)
                              have n0_ := Aside0.mk (Kd.Q_below (by (with_reducible repeat (first | apply Kd.Q_alloc | apply Kd.Q_drewN | apply Kd.Q_drew)); exact HO142.out) hb)
                              have n1_ := Aside0.mk (Kd.R_below (by (with_reducible repeat (first | apply Kd.R_alloc | apply Kd.R_drewN | apply Kd.R_drew)); exact HO_28.out) hb)
                              have n2_ := Aside0.mk (blk_below (g := gb114) (o := .cells #[.int .u8 x115000_1, .int .i64 x115001_1, .slice none 0 0] 24 (0, 0)) (by (with_reducible repeat (first | refine blk_drewN ?_ _ | refine blk_drew ?_ | refine blk_alloc ?_ _)); exact BK114.out) hb)
                              have n3_ := Aside0.mk (below_step (by repeat (first | (with_reducible first | exact HB.out | apply below_alloc | apply pw_below_drewN | apply below_drew1 | refine below_set ?_ GE114.out) | exact HB.out)) hb)
                              have n4_ := Aside0.mk (hbox)
                              have n5_ := Aside0.mk ((by rw [hg]; exact (below_size (by repeat (first | (with_reducible first | exact HB.out | apply below_alloc | apply pw_below_drewN | apply below_drew1 | refine below_set ?_ GE114.out) | exact HB.out))) : w.heap.size ≤ gb143))
                              have n6_ := Aside0.mk ((by rw [hg]; exact (below_size (by repeat (first | (with_reducible first | exact HB.out | apply below_alloc | apply pw_below_drewN | apply below_drew1 | refine below_set ?_ GE114.out) | exact HB.out))) : w.heap.size ≤ gb143))
                              have n7_ := Aside0.mk ((by rw [hg]; exact Nat.ne_of_lt (blk_lt (g := gb114) (o := .cells #[.int .u8 x115000_1, .int .i64 x115001_1, .slice none 0 0] 24 (0, 0)) (by (with_reducible repeat (first | refine blk_drewN ?_ _ | refine blk_drew ?_ | refine blk_alloc ?_ _)); exact BK114.out)) : gb114 ≠ gb143))
                              have n8_ := Aside0.mk ((by rw [hg]; exact Nat.ne_of_gt (blk_lt (g := gb114) (o := .cells #[.int .u8 x115000_1, .int .i64 x115001_1, .slice none 0 0] 24 (0, 0)) (by (with_reducible repeat (first | refine blk_drewN ?_ _ | refine blk_drew ?_ | refine blk_alloc ?_ _)); exact BK114.out)) : gb143 ≠ gb114))
                              clear HO142
                              clear HO_28
                              clear BK114
                              clear HB
                              have HO142 := n0_
                              have HO_28 := n1_
                              have BK114 := n2_
                              have HB := n3_
                              have BK143 := n4_
                              have GW143 := n5_
                              have GE143 := n6_
                              have NB114_143 := n7_
                              have NB143_114 := n8_
                              clear n0_ n1_ n2_ n3_ n4_ n5_ n6_ n7_ n8_
                              clear hb hbox hg
                              refine hK.out _ _ ⟨HS0_, HS1_⟩ (fun hHeld => ?_)
                              clear hK K
                              refine norm_ (a' := ?_) ?_ ?_
                              rotate_left
                              · show Act.put _ (some 10) _ = _
                                simp only [Act.put, List.setIfInBounds_toArray, List.set_cons_zero, List.set_cons_succ, i64_w, i32_w]
                                rfl
                              refine one_ (i := 11) (N := none) #[true, true, true, true, true, true, true, true, true, true, true, true] rfl rfl (one_of HT_.out (by kernel_rfl)) (by decide) (fun K hK => ?_)
                              have hs49 : w48.cell? ⟨gb143, 0, none⟩ = some (.int .u8 0) := (blk_cell BK143.out 0).trans rfl
                              have hfs49 := blk_frozen BK143.out 0
                              have hns49_0 := NB114_143.out
                              have hms49_0 := NB143_114.out
                              have hs50 : w48.cell? ⟨gb143, 1, none⟩ = some (.int .i64 0) := (blk_cell BK143.out 1).trans rfl
                              have hfs50 := blk_frozen BK143.out 1
                              have hns50_0 := NB114_143.out
                              have hms50_0 := NB143_114.out
                              have hs51 : w48.cell? ⟨gb143, 2, none⟩ = some (.slice none 0 0) := (blk_cell BK143.out 2).trans rfl
                              have hfs51 := blk_frozen BK143.out 2
                              have hns51_0 := NB114_143.out
                              have hms51_0 := NB143_114.out
                              refine skip_ (w1 := ?_) (by rfl) rfl ?_ ?_
                              rotate_left
                              · go_simp
                                rfl
                              refine hK.out _ _ ⟨((cell_far (p := ⟨gb143, _, none⟩) (by first | exact Kd.own_blk (ad := ad137) (fun (e_ : some _ = (.slice (some ad137) x5_1.length co45 : Value).ownBlock) => Kd.Q_ne HO142.out BK143.out (by decide) (e_.trans HE47.out.symm)) | (rw [add_block]; exact Kd.own_blk (ad := ad137) (fun (e_ : some _ = (.slice (some ad137) x5_1.length co45 : Value).ownBlock) => Kd.Q_ne HO142.out BK143.out (by decide) (e_.trans HE47.out.symm))) | (show (Addr.add _ _).block ≠ _; rw [add_block]; exact Kd.own_blk (ad := ad137) (fun (e_ : some _ = (.slice (some ad137) x5_1.length co45 : Value).ownBlock) => Kd.Q_ne HO142.out BK143.out (by decide) (e_.trans HE47.out.symm))) | (dsimp only; exact Kd.own_blk (ad := ad137) (fun (e_ : some _ = (.slice (some ad137) x5_1.length co45 : Value).ownBlock) => Kd.Q_ne HO142.out BK143.out (by decide) (e_.trans HE47.out.symm)))) _).trans (((cell_far (p := ⟨gb143, _, none⟩) (by first | exact Kd.own_blk (ad := ad137) (fun (e_ : some _ = (.slice (some ad137) x5_1.length co45 : Value).ownBlock) => Kd.Q_ne HO142.out BK143.out (by decide) (e_.trans HE47.out.symm)) | (rw [add_block]; exact Kd.own_blk (ad := ad137) (fun (e_ : some _ = (.slice (some ad137) x5_1.length co45 : Value).ownBlock) => Kd.Q_ne HO142.out BK143.out (by decide) (e_.trans HE47.out.symm))) | (show (Addr.add _ _).block ≠ _; rw [add_block]; exact Kd.own_blk (ad := ad137) (fun (e_ : some _ = (.slice (some ad137) x5_1.length co45 : Value).ownBlock) => Kd.Q_ne HO142.out BK143.out (by decide) (e_.trans HE47.out.symm))) | (dsimp only; exact Kd.own_blk (ad := ad137) (fun (e_ : some _ = (.slice (some ad137) x5_1.length co45 : Value).ownBlock) => Kd.Q_ne HO142.out BK143.out (by decide) (e_.trans HE47.out.symm)))) _).trans (((cell_far (p := ⟨gb143, _, none⟩) (by first | exact Kd.own_blk (ad := ad137) (fun (e_ : some _ = (.slice (some ad137) x5_1.length co45 : Value).ownBlock) => Kd.Q_ne HO142.out BK143.out (by decide) (e_.trans HE47.out.symm)) | (rw [add_block]; exact Kd.own_blk (ad := ad137) (fun (e_ : some _ = (.slice (some ad137) x5_1.length co45 : Value).ownBlock) => Kd.Q_ne HO142.out BK143.out (by decide) (e_.trans HE47.out.symm))) | (show (Addr.add _ _).block ≠ _; rw [add_block]; exact Kd.own_blk (ad := ad137) (fun (e_ : some _ = (.slice (some ad137) x5_1.length co45 : Value).ownBlock) => Kd.Q_ne HO142.out BK143.out (by decide) (e_.trans HE47.out.symm))) | (dsimp only; exact Kd.own_blk (ad := ad137) (fun (e_ : some _ = (.slice (some ad137) x5_1.length co45 : Value).ownBlock) => Kd.Q_ne HO142.out BK143.out (by decide) (e_.trans HE47.out.symm)))) _).trans (hHeld.1)))))), ((cell_far (p := ⟨gb143, _, none⟩) (by first | exact Kd.own_blk (ad := ad137) (fun (e_ : some _ = (.slice (some ad137) x5_1.length co45 : Value).ownBlock) => Kd.Q_ne HO142.out BK143.out (by decide) (e_.trans HE47.out.symm)) | (rw [add_block]; exact Kd.own_blk (ad := ad137) (fun (e_ : some _ = (.slice (some ad137) x5_1.length co45 : Value).ownBlock) => Kd.Q_ne HO142.out BK143.out (by decide) (e_.trans HE47.out.symm))) | (show (Addr.add _ _).block ≠ _; rw [add_block]; exact Kd.own_blk (ad := ad137) (fun (e_ : some _ = (.slice (some ad137) x5_1.length co45 : Value).ownBlock) => Kd.Q_ne HO142.out BK143.out (by decide) (e_.trans HE47.out.symm))) | (dsimp only; exact Kd.own_blk (ad := ad137) (fun (e_ : some _ = (.slice (some ad137) x5_1.length co45 : Value).ownBlock) => Kd.Q_ne HO142.out BK143.out (by decide) (e_.trans HE47.out.symm)))) _).trans (((cell_far (p := ⟨gb143, _, none⟩) (by first | exact Kd.own_blk (ad := ad137) (fun (e_ : some _ = (.slice (some ad137) x5_1.length co45 : Value).ownBlock) => Kd.Q_ne HO142.out BK143.out (by decide) (e_.trans HE47.out.symm)) | (rw [add_block]; exact Kd.own_blk (ad := ad137) (fun (e_ : some _ = (.slice (some ad137) x5_1.length co45 : Value).ownBlock) => Kd.Q_ne HO142.out BK143.out (by decide) (e_.trans HE47.out.symm))) | (show (Addr.add _ _).block ≠ _; rw [add_block]; exact Kd.own_blk (ad := ad137) (fun (e_ : some _ = (.slice (some ad137) x5_1.length co45 : Value).ownBlock) => Kd.Q_ne HO142.out BK143.out (by decide) (e_.trans HE47.out.symm))) | (dsimp only; exact Kd.own_blk (ad := ad137) (fun (e_ : some _ = (.slice (some ad137) x5_1.length co45 : Value).ownBlock) => Kd.Q_ne HO142.out BK143.out (by decide) (e_.trans HE47.out.symm)))) _).trans (((cell_far (p := ⟨gb143, _, none⟩) (by first | exact Kd.own_blk (ad := ad137) (fun (e_ : some _ = (.slice (some ad137) x5_1.length co45 : Value).ownBlock) => Kd.Q_ne HO142.out BK143.out (by decide) (e_.trans HE47.out.symm)) | (rw [add_block]; exact Kd.own_blk (ad := ad137) (fun (e_ : some _ = (.slice (some ad137) x5_1.length co45 : Value).ownBlock) => Kd.Q_ne HO142.out BK143.out (by decide) (e_.trans HE47.out.symm))) | (show (Addr.add _ _).block ≠ _; rw [add_block]; exact Kd.own_blk (ad := ad137) (fun (e_ : some _ = (.slice (some ad137) x5_1.length co45 : Value).ownBlock) => Kd.Q_ne HO142.out BK143.out (by decide) (e_.trans HE47.out.symm))) | (dsimp only; exact Kd.own_blk (ad := ad137) (fun (e_ : some _ = (.slice (some ad137) x5_1.length co45 : Value).ownBlock) => Kd.Q_ne HO142.out BK143.out (by decide) (e_.trans HE47.out.symm)))) _).trans (hHeld.2))))))⟩ (fun hHeld => ?_)
                              clear hK K
                              refine done_ (done_of HT_.out (by kernel_rfl)) ?_
                              have hnb52 := NB143_114.out
                              have hnc52 := NB114_143.out
                              have hcz53_0 : w48.cell? ⟨gb143, 0, none⟩ = some (.int .u8 0) := (blk_cell BK143.out 0).trans rfl
                              have hcz53_1 : w48.cell? ⟨gb143, 1, none⟩ = some (.int .i64 0) := (blk_cell BK143.out 1).trans rfl
                              have hcz53_2 : w48.cell? ⟨gb143, 2, none⟩ = some (.slice none 0 0) := (blk_cell BK143.out 2).trans rfl
                              have hfz53_0 := blk_frozen BK143.out 0
                              have hfz53_1 := blk_frozen BK143.out 1
                              have hfz53_2 := blk_frozen BK143.out 2
                              try go_wp2_with (first | ((with_reducible refine gate_callee (f := 8) rfl ?_); refine goesL_ (some 72) rfl rfl Tryd.func8 (by kernel_rfl) rfl #[.agg #[.int .u8 ((rd x5_1 0) % 256), .int .i64 (rd x5_1 1), .slice A47 y140.length c47]] rfl (by (try simp only [List.map_toArray, List.map_cons, List.map_nil]); first | done | rfl | (simp only [List.length_drop, List.length_take]; rfl)) ?_; (with_reducible refine (puzzle_Write.calls k1 ((rd x5_1 0) % 256) (rd x5_1 1) _ _ y140 t144 t145 _ ?side1 ?side2 ?side3 A42.out).mono ?_); (case side1 => refine (Kd.Q_reads' (e := 3) (base := w.heap.size) (ok := fun k_ => True) (n := y140.length) (c := c47) ?_).2.2; exact (by (with_reducible repeat (first | apply Kd.Q_alloc | apply Kd.Q_drewN | apply Kd.Q_drew)); exact (Kd.Q_mono (Kd.Q_far (p := ⟨gb143, 2, none⟩) (Kd.Q_far (p := ⟨gb143, 1, none⟩) (Kd.Q_far (p := ⟨gb143, 0, none⟩) (Kd.Q_types HO142.out BK143.out (by decide)) (fun _ hk => hk.2) (.int .u8 ((rd x5_1 0) % 256))) (fun _ hk => hk.2) (.int .i64 (rd x5_1 1))) (fun _ hk => hk.2) (.slice A47 y140.length c47)) (fun _ h_ => h_.1)))); (case side2 => exact (Kd.Q_reads' HO142.out).2.1); (case side3 => exact Tabs.below HG.out (by repeat (first | (with_reducible first | exact HB.out | apply below_alloc | apply pw_below_drewN | apply below_drew1 | refine below_set ?_ GE114.out | refine below_set ?_ GE143.out) | exact HB.out))); rintro e w54 ⟨rfl, hb⟩; refine ⟨_, rfl, ?_⟩; have n0_ := Aside0.mk (Kd.Q_below (by (with_reducible repeat (first | apply Kd.Q_alloc | apply Kd.Q_drewN | apply Kd.Q_drew)); exact (Kd.Q_mono (Kd.Q_far (p := ⟨gb143, 2, none⟩) (Kd.Q_far (p := ⟨gb143, 1, none⟩) (Kd.Q_far (p := ⟨gb143, 0, none⟩) (Kd.Q_types HO142.out BK143.out (by decide)) (fun _ hk => hk.2) (.int .u8 ((rd x5_1 0) % 256))) (fun _ hk => hk.2) (.int .i64 (rd x5_1 1))) (fun _ hk => hk.2) (.slice A47 y140.length c47)) (fun _ h_ => h_.1))) hb); have n1_ := Aside0.mk (Kd.R_below (by (with_reducible repeat (first | apply Kd.R_alloc | apply Kd.R_drewN | apply Kd.R_drew)); exact (Kd.R_mono (Kd.R_far (p := ⟨gb143, 2, none⟩) (Kd.R_far (p := ⟨gb143, 1, none⟩) (Kd.R_far (p := ⟨gb143, 0, none⟩) (Kd.R_types HO_28.out BK143.out (by decide)) (fun _ hk => hk.2) (.int .u8 ((rd x5_1 0) % 256))) (fun _ hk => hk.2) (.int .i64 (rd x5_1 1))) (fun _ hk => hk.2) (.slice A47 y140.length c47)) (fun _ h_ => h_.1))) hb); have n2_ := Aside0.mk (blk_below (g := gb114) (o := .cells #[.int .u8 x115000_1, .int .i64 x115001_1, .slice none 0 0] 24 (0, 0)) (by (with_reducible repeat (first | refine blk_drewN ?_ _ | refine blk_drew ?_ | refine blk_alloc ?_ _)); refine blk_far ?_ NB114_143.out _; (with_reducible repeat (first | refine blk_drewN ?_ _ | refine blk_drew ?_ | refine blk_alloc ?_ _)); refine blk_far ?_ NB114_143.out _; (with_reducible repeat (first | refine blk_drewN ?_ _ | refine blk_drew ?_ | refine blk_alloc ?_ _)); refine blk_far ?_ NB114_143.out _; (with_reducible repeat (first | refine blk_drewN ?_ _ | refine blk_drew ?_ | refine blk_alloc ?_ _)); exact BK114.out) hb); have n3_ := Aside0.mk (blk_below (g := gb143) (o := .cells #[.int .u8 ((rd x5_1 0) % 256), .int .i64 (rd x5_1 1), .slice A47 y140.length c47] 24 (0, 0)) (by (with_reducible repeat (first | refine blk_drewN ?_ _ | refine blk_drew ?_ | refine blk_alloc ?_ _)); refine blk_put (cs := #[.int .u8 ((rd x5_1 0) % 256), .int .i64 (rd x5_1 1), .slice none 0 0]) ?_ 2 _ rfl; (with_reducible repeat (first | refine blk_drewN ?_ _ | refine blk_drew ?_ | refine blk_alloc ?_ _)); refine blk_put (cs := #[.int .u8 ((rd x5_1 0) % 256), .int .i64 0, .slice none 0 0]) ?_ 1 _ rfl; (with_reducible repeat (first | refine blk_drewN ?_ _ | refine blk_drew ?_ | refine blk_alloc ?_ _)); refine blk_put (cs := #[.int .u8 0, .int .i64 0, .slice none 0 0]) ?_ 0 _ rfl; (with_reducible repeat (first | refine blk_drewN ?_ _ | refine blk_drew ?_ | refine blk_alloc ?_ _)); exact BK143.out) hb); have n4_ := Aside0.mk (below_step (by repeat (first | (with_reducible first | exact HB.out | apply below_alloc | apply pw_below_drewN | apply below_drew1 | refine below_set ?_ GE114.out | refine below_set ?_ GE143.out) | exact HB.out)) hb); clear HO142; clear HO_28; clear BK114; clear BK143; clear HB; have HO142 := n0_; have HO_28 := n1_; have BK114 := n2_; have BK143 := n3_; have HB := n4_; clear n0_ n1_ n2_ n3_ n4_; (try clear hb); (try clear hb2); (try clear hk); (try clear hi); have hcz55_0 : w54.cell? ⟨gb143, 0, none⟩ = some (.int .u8 ((rd x5_1 0) % 256)) := (blk_cell BK143.out 0).trans rfl; have hcz55_1 : w54.cell? ⟨gb143, 1, none⟩ = some (.int .i64 (rd x5_1 1)) := (blk_cell BK143.out 1).trans rfl; have hcz55_2 : w54.cell? ⟨gb143, 2, none⟩ = some (.slice A47 y140.length c47) := (blk_cell BK143.out 2).trans rfl; have hfz55_0 := blk_frozen BK143.out 0; have hfz55_1 := blk_frozen BK143.out 1; have hfz55_2 := blk_frozen BK143.out 2; have hcz56_0 : w54.cell? ⟨gb114, 0, none⟩ = some (.int .u8 x115000_1) := (blk_cell BK114.out 0).trans rfl; have hcz56_1 : w54.cell? ⟨gb114, 1, none⟩ = some (.int .i64 x115001_1) := (blk_cell BK114.out 1).trans rfl; have hcz56_2 : w54.cell? ⟨gb114, 2, none⟩ = some (.slice none 0 0) := (blk_cell BK114.out 2).trans rfl; have hfz56_0 := blk_frozen BK114.out 0; have hfz56_1 := blk_frozen BK114.out 1; have hfz56_2 := blk_frozen BK114.out 2))
                              refine bodyPost_ret (results_ct rfl _ _ gb114 24 #[.int .u8 ((rd x5_1 0) % 256), .int .i64 (rd x5_1 1), .slice A47 y140.length c47] (0, 0) _ rfl (by (with_reducible repeat (first | refine blk_drewN ?_ _ | refine blk_drew ?_ | refine blk_alloc ?_ _)); refine blk_put (cs := #[.int .u8 ((rd x5_1 0) % 256), .int .i64 (rd x5_1 1), .slice none 0 0]) ?_ 2 _ rfl; (with_reducible repeat (first | refine blk_drewN ?_ _ | refine blk_drew ?_ | refine blk_alloc ?_ _)); refine blk_put (cs := #[.int .u8 ((rd x5_1 0) % 256), .int .i64 x115001_1, .slice none 0 0]) ?_ 1 _ rfl; (with_reducible repeat (first | refine blk_drewN ?_ _ | refine blk_drew ?_ | refine blk_alloc ?_ _)); refine blk_put (cs := #[.int .u8 x115000_1, .int .i64 x115001_1, .slice none 0 0]) ?_ 0 _ rfl; (with_reducible repeat (first | refine blk_drewN ?_ _ | refine blk_drew ?_ | refine blk_alloc ?_ _)); exact BK114.out) Tryd.underlying24 rfl (by kernel_rfl)) rfl ?_
                              exact ⟨_, by first | rfl | (simp [errW_none, errW_some] <;> rfl) | (simp [*, errW_none, errW_some] <;> rfl), by (with_reducible repeat (first | apply Kd.Q_alloc | apply Kd.Q_drewN | apply Kd.Q_drew)); exact Kd.Q_mono (Kd.Q_far (p := ⟨gb114, 2, none⟩) (Kd.Q_far (p := ⟨gb114, 1, none⟩) (Kd.Q_far (p := ⟨gb114, 0, none⟩) (Kd.Q_types HO142.out BK114.out (by decide)) (fun _ hk => hk.2) (.int .u8 ((rd x5_1 0) % 256))) (fun _ hk => hk.2) (.int .i64 (rd x5_1 1))) (fun _ hk => hk.2) (.slice A47 y140.length c47)) (fun _ hk => trivial), by repeat (first | (with_reducible first | exact HB.out | apply below_alloc | apply pw_below_drewN | apply below_drew1 | refine below_set ?_ GE114.out | refine below_set ?_ GE143.out) | exact HB.out)⟩
                            · rw [if_neg c44] at H
                              have c44b0 : (t144.toList == a0.toList) = false := beq_eq_false_iff_ne.mpr c44
                              have c44b1 : (t144.toList != a0.toList) = true := bne_iff_ne.mpr c44
                              simp only [Option.some.injEq, Prod.mk.injEq] at H
                              obtain ⟨rfl, rfl, rfl, rfl⟩ := H
                              obtain ⟨Ao57, co57, eo57⟩ := Kd.R_slice HO_5.out
                              subst eo57
                              have p137 : 0 ≤ (0 : Int) := (by omega)
                              have q137 : 0 < (x5_1.length : Int) := of_decide_eq_true (by first | (with_reducible assumption) | assumption)
                              obtain ⟨ad137, e137, hx137_0⟩ := Kd.at_int (Kd.R_reads' HO_5.out).2.2 0 p137 q137
                              cases e137
                              have qi137 : (0 < x5_1.length) = True := eq_true (by omega)
                              (try rw [show ((0 : Int)).toNat = 0 from rfl] at hx137_0)
                              (try rw [Addr.add_zero'] at hx137_0)
                              replace p137 := eq_true p137
                              replace q137 := eq_true q137
                              try go_wp2
                              have n0_ := Aside0.mk (Kd.R_drew HO_5.out)
                              have n1_ := Aside0.mk (Kd.R_drew HO_28.out)
                              have n2_ := Aside0.mk (blk_drew BK114.out)
                              have n3_ := Aside0.mk (below_drew1 HB.out)
                              clear HO_5
                              clear HO_28
                              clear BK114
                              clear HB
                              have HO_5 := n0_
                              have HO_28 := n1_
                              have BK114 := n2_
                              have HB := n3_
                              clear n0_ n1_ n2_ n3_
                              have p138 : 0 ≤ (0 : Int) := (by omega)
                              have q138 : 0 < (x5_1.length : Int) := of_decide_eq_true (by first | (with_reducible assumption) | assumption)
                              obtain ⟨ad138, e138, hx138_0⟩ := Kd.at_int (Kd.R_reads' HO_5.out).2.2 0 p138 q138
                              obtain rfl : ad137 = ad138 := (by injection e138)
                              have qi138 : (0 < x5_1.length) = True := eq_true (by omega)
                              (try rw [show ((0 : Int)).toNat = 0 from rfl] at hx138_0)
                              (try rw [Addr.add_zero'] at hx138_0)
                              replace p138 := eq_true p138
                              replace q138 := eq_true q138
                              have p139 : 0 ≤ (1 : Int) := (by omega)
                              have q139 : 1 < (x5_1.length : Int) := of_decide_eq_true (by first | (with_reducible assumption) | assumption)
                              obtain ⟨ad139, e139, hx139_0⟩ := Kd.at_int (Kd.R_reads' HO_5.out).2.2 1 p139 q139
                              obtain rfl : ad137 = ad139 := (by injection e139)
                              (try simp only [show (1 : Int).toNat = 1 from rfl, Nat.reduceMul, Nat.reduceEqDiff, Go.Addr.add, ↓reduceIte] at hx139_0)
                              have qi139 : (1 < x5_1.length) = True := eq_true (by omega)
                              (try rw [show ((1 : Int)).toNat = 1 from rfl] at hx139_0)
                              replace p139 := eq_true p139
                              replace q139 := eq_true q139
                              have q59 : (2 : Int) ≤ ((x5_1.length : Int) : Int) := of_decide_eq_true (by first | (with_reducible assumption) | assumption)
                              obtain ⟨i059, hi059, _, hsz59, _⟩ := info_parts info3
                              have hcut59 := cut_from (P := Tryd.prog) 22 3 .i64 Tryd.underlying22 hi059 1 hsz59 (some ad137) x5_1.length co57 2 (by omega) q59
                              have hr59 := Kd.Q_drop (k := (2 : Int).toNat) (Kd.Q_of_R HO_5.out) (by omega)
                              obtain ⟨A59, hA59⟩ : ∃ A1, A1 = (if co57 = (2 : Int).toNat then (some ad137) else ((some ad137) : Option Addr).map (·.add ((2 : Int).toNat * 1))) := ⟨_, rfl⟩
                              obtain ⟨c59, hc59⟩ : ∃ c1, c1 = co57 - (2 : Int).toNat := ⟨_, rfl⟩
                              have hy59 : y140.length = x5_1.length - (2 : Int).toNat := (by rw [Ny140.out, List.length_drop])
                              rw [← Ny140.out] at hr59
                              rw [← hy59, ← hA59, ← hc59] at hcut59
                              replace hr59 : Kd.Q (Kd.int .i64) 3 wr.drew w.heap.size (fun _ => True) (.slice A59 y140.length c59) y140 := (by rw [hA59, hc59, hy59]; exact Kd.Q_drew hr59)
                              have HE59 : Aside0 ((Value.slice A59 y140.length c59).ownBlock = (.slice (some ad137) x5_1.length co57 : Value).ownBlock) := ⟨by rw [hA59]; split <;> (cases ((some ad137) : Option Addr) <;> rfl)⟩
                              clear hy59 hi059 hsz59 HO_5 hA59 hc59
                              have HO142 := Aside0.mk hr59
                              clear hr59
                              replace q59 := eq_true q59
                              refine start_ (n := 12) (S := fun w' => w'.cell? ad137 = some (.int .i64 (rd x5_1 0)) ∧ w'.cell? ⟨ad137.block, ad137.off + 1, none⟩ = some (.int .i64 (rd x5_1 1))) (ds := []) #[false, false, false, false, false, false, false, false, false, false, false, false] (by kernel_rfl) rfl rfl ⟨hx138_0, hx139_0⟩ (fun hHeld => ?_); refine with_tabW puzzle_Read.tab15 puzzle_Read.bits15 (fun HT_ HW_ => ?_)
                              generalize wr.drew = w58 at HO_28 BK114 HB HO142 hx138_0 hx139_0 hHeld ⊢
                              refine pure_ (i := 0) (N := some 60) (v := ?_) (a' := ?_) #[true, false, false, false, false, false, false, false, false, false, false, false] rfl rfl (any_of HT_.out (by kernel_rfl)) (fun _ _ _ h => h) (Or.inl ⟨by rfl, ?_⟩) ?_ ?_
                              rotate_left
                              · intro w'
                                go_simp
                                with_reducible rfl
                              rotate_left
                              · simp only [Act.put, List.setIfInBounds_toArray, List.set_cons_zero, List.set_cons_succ, i64_w, i32_w]
                                rfl
                              refine pure_ (i := 1) (N := some 61) (v := ?_) (a' := ?_) #[true, true, false, false, false, false, false, false, false, false, false, false] rfl rfl (any_of HT_.out (by kernel_rfl)) (fun _ _ _ h => h) (Or.inl ⟨by rfl, ?_⟩) ?_ ?_
                              rotate_left
                              · intro w'
                                go_simp
                                with_reducible rfl
                              rotate_left
                              · simp only [Act.put, List.setIfInBounds_toArray, List.set_cons_zero, List.set_cons_succ, i64_w, i32_w]
                                rfl
                              refine pure_ (i := 4) (N := some 64) (v := ?_) (a' := ?_) #[true, true, false, false, true, false, false, false, false, false, false, false] rfl rfl (any_of HT_.out (by kernel_rfl)) (fun _ _ _ h => h) (Or.inl ⟨by rfl, ?_⟩) ?_ ?_
                              rotate_left
                              · intro w'
                                go_simp
                                with_reducible rfl
                              rotate_left
                              · simp only [Act.put, List.setIfInBounds_toArray, List.set_cons_zero, List.set_cons_succ, i64_w, i32_w]
                                rfl
                              refine pure_ (i := 5) (N := some 65) (v := ?_) (a' := ?_) #[true, true, false, false, true, true, false, false, false, false, false, false] rfl rfl (any_of HT_.out (by kernel_rfl)) (fun _ _ _ h => h) (Or.inl ⟨by rfl, ?_⟩) ?_ ?_
                              rotate_left
                              · intro w'
                                go_simp
                                with_reducible rfl
                              rotate_left
                              · simp only [Act.put, List.setIfInBounds_toArray, List.set_cons_zero, List.set_cons_succ, i64_w, i32_w]
                                rfl
                              refine pure_ (i := 7) (N := some 67) (v := ?_) (a' := ?_) #[true, true, false, false, true, true, false, true, false, false, false, false] rfl rfl (any_of HT_.out (by kernel_rfl)) (fun _ _ _ h => h) (Or.inl ⟨by rfl, ?_⟩) ?_ ?_
                              rotate_left
                              · intro w'
                                go_simp
                                with_reducible rfl
                              rotate_left
                              · simp only [Act.put, List.setIfInBounds_toArray, List.set_cons_zero, List.set_cons_succ, i64_w, i32_w]
                                rfl
                              refine pure_ (i := 8) (N := some 68) (v := ?_) (a' := ?_) #[true, true, false, false, true, true, false, true, true, false, false, false] rfl rfl (any_of HT_.out (by kernel_rfl)) (fun _ _ _ h => h) (Or.inl ⟨by rfl, ?_⟩) ?_ ?_
                              rotate_left
                              · intro w'
                                go_simp
                                with_reducible rfl
                              rotate_left
                              · simp only [Act.put, List.setIfInBounds_toArray, List.set_cons_zero, List.set_cons_succ, i64_w, i32_w]
                                rfl
                              refine take_ (i := 2) (N := some 62) (v := ?_) (a' := ?_) #[true, true, true, false, true, true, false, true, true, false, false, false] rfl rfl (take_ofW HT_.out HW_.out (by kernel_rfl)) (fun _ _ _ h => h) (Or.inl ⟨by rfl, ?_⟩) hHeld ?_ ?_
                              rotate_left
                              · rintro w' ⟨s0, s1⟩
                                go_simp
                                with_reducible rfl
                              rotate_left
                              · simp only [Act.put, List.setIfInBounds_toArray, List.set_cons_zero, List.set_cons_succ, i64_w, i32_w]
                                rfl
                              refine pure_ (i := 3) (N := some 63) (v := ?_) (a' := ?_) #[true, true, true, true, true, true, false, true, true, false, false, false] rfl rfl (any_of HT_.out (by kernel_rfl)) (fun _ _ _ h => h) (Or.inl ⟨by rfl, ?_⟩) ?_ ?_
                              rotate_left
                              · intro w'
                                go_simp
                                with_reducible rfl
                              rotate_left
                              · simp only [Act.put, List.setIfInBounds_toArray, List.set_cons_zero, List.set_cons_succ, i64_w, i32_w]
                                rfl
                              refine take_ (i := 6) (N := some 66) (v := ?_) (a' := ?_) #[true, true, true, true, true, true, true, true, true, false, false, false] rfl rfl (take_ofW HT_.out HW_.out (by kernel_rfl)) (fun _ _ _ h => h) (Or.inl ⟨by rfl, ?_⟩) hHeld ?_ ?_
                              rotate_left
                              · rintro w' ⟨s0, s1⟩
                                go_simp
                                with_reducible rfl
                              rotate_left
                              · simp only [Act.put, List.setIfInBounds_toArray, List.set_cons_zero, List.set_cons_succ, i64_w, i32_w]
                                rfl
                              refine pure_ (i := 9) (N := some 69) (v := ?_) (a' := ?_) #[true, true, true, true, true, true, true, true, true, true, false, false] rfl rfl (any_of HT_.out (by kernel_rfl)) (fun _ _ _ h => h) (Or.inl ⟨by rfl, ?_⟩) ?_ ?_
                              rotate_left
                              · intro w'
                                go_simp
                                with_reducible rfl
                              rotate_left
                              · simp only [Act.put, List.setIfInBounds_toArray, List.set_cons_zero, List.set_cons_succ, i64_w, i32_w]
                                rfl
                              refine one_ (i := 10) (N := some 10) #[true, true, true, true, true, true, true, true, true, true, true, false] rfl rfl (one_of HT_.out (by kernel_rfl)) (by decide) (fun K hK => ?_)
                              refine box_step ?hg (N := 10) ?hd (cs := #[.int .u8 0, .int .i64 0, .slice none 0 0]) (t := 24) ?hr ?_; (case hd => rfl); (case hg => rfl); (case hr => first | (go_simp; done) | (go_simp; rfl))
                              intro gb143 hg w60 hbox hb
                              have HS0_ := (hb.cell (World.block_lt_of_cell? _ _ (hHeld.1))).trans (hHeld.1)
                              have HS1_ := (hb.cell (World.block_lt_of_cell? _ _ (hHeld.2))).trans (hHeld.2)
                              have n0_ := Aside0.mk (Kd.Q_below (by (with_reducible repeat (first | apply Kd.Q_alloc | apply Kd.Q_drewN | apply Kd.Q_drew)); exact HO142.out) hb)
                              have n1_ := Aside0.mk (Kd.R_below (by (with_reducible repeat (first | apply Kd.R_alloc | apply Kd.R_drewN | apply Kd.R_drew)); exact HO_28.out) hb)
                              have n2_ := Aside0.mk (blk_below (g := gb114) (o := .cells #[.int .u8 x115000_1, .int .i64 x115001_1, .slice none 0 0] 24 (0, 0)) (by (with_reducible repeat (first | refine blk_drewN ?_ _ | refine blk_drew ?_ | refine blk_alloc ?_ _)); exact BK114.out) hb)
                              have n3_ := Aside0.mk (below_step (by repeat (first | (with_reducible first | exact HB.out | apply below_alloc | apply pw_below_drewN | apply below_drew1 | refine below_set ?_ GE114.out) | exact HB.out)) hb)
                              have n4_ := Aside0.mk (hbox)
                              have n5_ := Aside0.mk ((by rw [hg]; exact (below_size (by repeat (first | (with_reducible first | exact HB.out | apply below_alloc | apply pw_below_drewN | apply below_drew1 | refine below_set ?_ GE114.out) | exact HB.out))) : w.heap.size ≤ gb143))
                              have n6_ := Aside0.mk ((by rw [hg]; exact (below_size (by repeat (first | (with_reducible first | exact HB.out | apply below_alloc | apply pw_below_drewN | apply below_drew1 | refine below_set ?_ GE114.out) | exact HB.out))) : w.heap.size ≤ gb143))
                              have n7_ := Aside0.mk ((by rw [hg]; exact Nat.ne_of_lt (blk_lt (g := gb114) (o := .cells #[.int .u8 x115000_1, .int .i64 x115001_1, .slice none 0 0] 24 (0, 0)) (by (with_reducible repeat (first | refine blk_drewN ?_ _ | refine blk_drew ?_ | refine blk_alloc ?_ _)); exact BK114.out)) : gb114 ≠ gb143))
                              have n8_ := Aside0.mk ((by rw [hg]; exact Nat.ne_of_gt (blk_lt (g := gb114) (o := .cells #[.int .u8 x115000_1, .int .i64 x115001_1, .slice none 0 0] 24 (0, 0)) (by (with_reducible repeat (first | refine blk_drewN ?_ _ | refine blk_drew ?_ | refine blk_alloc ?_ _)); exact BK114.out)) : gb143 ≠ gb114))
                              clear HO142
                              clear HO_28
                              clear BK114
                              clear HB
                              have HO142 := n0_
                              have HO_28 := n1_
                              have BK114 := n2_
                              have HB := n3_
                              have BK143 := n4_
                              have GW143 := n5_
                              have GE143 := n6_
                              have NB114_143 := n7_
                              have NB143_114 := n8_
                              clear n0_ n1_ n2_ n3_ n4_ n5_ n6_ n7_ n8_
                              clear hb hbox hg
                              refine hK.out _ _ ⟨HS0_, HS1_⟩ (fun hHeld => ?_)
                              clear hK K
                              refine norm_ (a' := ?_) ?_ ?_
                              rotate_left
                              · show Act.put _ (some 10) _ = _
                                simp only [Act.put, List.setIfInBounds_toArray, List.set_cons_zero, List.set_cons_succ, i64_w, i32_w]
                                rfl
                              refine one_ (i := 11) (N := none) #[true, true, true, true, true, true, true, true, true, true, true, true] rfl rfl (one_of HT_.out (by kernel_rfl)) (by decide) (fun K hK => ?_)
                              have hs61 : w60.cell? ⟨gb143, 0, none⟩ = some (.int .u8 0) := (blk_cell BK143.out 0).trans rfl
                              have hfs61 := blk_frozen BK143.out 0
                              have hns61_0 := NB114_143.out
                              have hms61_0 := NB143_114.out
                              have hs62 : w60.cell? ⟨gb143, 1, none⟩ = some (.int .i64 0) := (blk_cell BK143.out 1).trans rfl
                              have hfs62 := blk_frozen BK143.out 1
                              have hns62_0 := NB114_143.out
                              have hms62_0 := NB143_114.out
                              have hs63 : w60.cell? ⟨gb143, 2, none⟩ = some (.slice none 0 0) := (blk_cell BK143.out 2).trans rfl
                              have hfs63 := blk_frozen BK143.out 2
                              have hns63_0 := NB114_143.out
                              have hms63_0 := NB143_114.out
                              refine skip_ (w1 := ?_) (by rfl) rfl ?_ ?_
                              rotate_left
                              · go_simp
                                rfl
                              refine hK.out _ _ ⟨((cell_far (p := ⟨gb143, _, none⟩) (by first | exact Kd.own_blk (ad := ad137) (fun (e_ : some _ = (.slice (some ad137) x5_1.length co57 : Value).ownBlock) => Kd.Q_ne HO142.out BK143.out (by decide) (e_.trans HE59.out.symm)) | (rw [add_block]; exact Kd.own_blk (ad := ad137) (fun (e_ : some _ = (.slice (some ad137) x5_1.length co57 : Value).ownBlock) => Kd.Q_ne HO142.out BK143.out (by decide) (e_.trans HE59.out.symm))) | (show (Addr.add _ _).block ≠ _; rw [add_block]; exact Kd.own_blk (ad := ad137) (fun (e_ : some _ = (.slice (some ad137) x5_1.length co57 : Value).ownBlock) => Kd.Q_ne HO142.out BK143.out (by decide) (e_.trans HE59.out.symm))) | (dsimp only; exact Kd.own_blk (ad := ad137) (fun (e_ : some _ = (.slice (some ad137) x5_1.length co57 : Value).ownBlock) => Kd.Q_ne HO142.out BK143.out (by decide) (e_.trans HE59.out.symm)))) _).trans (((cell_far (p := ⟨gb143, _, none⟩) (by first | exact Kd.own_blk (ad := ad137) (fun (e_ : some _ = (.slice (some ad137) x5_1.length co57 : Value).ownBlock) => Kd.Q_ne HO142.out BK143.out (by decide) (e_.trans HE59.out.symm)) | (rw [add_block]; exact Kd.own_blk (ad := ad137) (fun (e_ : some _ = (.slice (some ad137) x5_1.length co57 : Value).ownBlock) => Kd.Q_ne HO142.out BK143.out (by decide) (e_.trans HE59.out.symm))) | (show (Addr.add _ _).block ≠ _; rw [add_block]; exact Kd.own_blk (ad := ad137) (fun (e_ : some _ = (.slice (some ad137) x5_1.length co57 : Value).ownBlock) => Kd.Q_ne HO142.out BK143.out (by decide) (e_.trans HE59.out.symm))) | (dsimp only; exact Kd.own_blk (ad := ad137) (fun (e_ : some _ = (.slice (some ad137) x5_1.length co57 : Value).ownBlock) => Kd.Q_ne HO142.out BK143.out (by decide) (e_.trans HE59.out.symm)))) _).trans (((cell_far (p := ⟨gb143, _, none⟩) (by first | exact Kd.own_blk (ad := ad137) (fun (e_ : some _ = (.slice (some ad137) x5_1.length co57 : Value).ownBlock) => Kd.Q_ne HO142.out BK143.out (by decide) (e_.trans HE59.out.symm)) | (rw [add_block]; exact Kd.own_blk (ad := ad137) (fun (e_ : some _ = (.slice (some ad137) x5_1.length co57 : Value).ownBlock) => Kd.Q_ne HO142.out BK143.out (by decide) (e_.trans HE59.out.symm))) | (show (Addr.add _ _).block ≠ _; rw [add_block]; exact Kd.own_blk (ad := ad137) (fun (e_ : some _ = (.slice (some ad137) x5_1.length co57 : Value).ownBlock) => Kd.Q_ne HO142.out BK143.out (by decide) (e_.trans HE59.out.symm))) | (dsimp only; exact Kd.own_blk (ad := ad137) (fun (e_ : some _ = (.slice (some ad137) x5_1.length co57 : Value).ownBlock) => Kd.Q_ne HO142.out BK143.out (by decide) (e_.trans HE59.out.symm)))) _).trans (hHeld.1)))))), ((cell_far (p := ⟨gb143, _, none⟩) (by first | exact Kd.own_blk (ad := ad137) (fun (e_ : some _ = (.slice (some ad137) x5_1.length co57 : Value).ownBlock) => Kd.Q_ne HO142.out BK143.out (by decide) (e_.trans HE59.out.symm)) | (rw [add_block]; exact Kd.own_blk (ad := ad137) (fun (e_ : some _ = (.slice (some ad137) x5_1.length co57 : Value).ownBlock) => Kd.Q_ne HO142.out BK143.out (by decide) (e_.trans HE59.out.symm))) | (show (Addr.add _ _).block ≠ _; rw [add_block]; exact Kd.own_blk (ad := ad137) (fun (e_ : some _ = (.slice (some ad137) x5_1.length co57 : Value).ownBlock) => Kd.Q_ne HO142.out BK143.out (by decide) (e_.trans HE59.out.symm))) | (dsimp only; exact Kd.own_blk (ad := ad137) (fun (e_ : some _ = (.slice (some ad137) x5_1.length co57 : Value).ownBlock) => Kd.Q_ne HO142.out BK143.out (by decide) (e_.trans HE59.out.symm)))) _).trans (((cell_far (p := ⟨gb143, _, none⟩) (by first | exact Kd.own_blk (ad := ad137) (fun (e_ : some _ = (.slice (some ad137) x5_1.length co57 : Value).ownBlock) => Kd.Q_ne HO142.out BK143.out (by decide) (e_.trans HE59.out.symm)) | (rw [add_block]; exact Kd.own_blk (ad := ad137) (fun (e_ : some _ = (.slice (some ad137) x5_1.length co57 : Value).ownBlock) => Kd.Q_ne HO142.out BK143.out (by decide) (e_.trans HE59.out.symm))) | (show (Addr.add _ _).block ≠ _; rw [add_block]; exact Kd.own_blk (ad := ad137) (fun (e_ : some _ = (.slice (some ad137) x5_1.length co57 : Value).ownBlock) => Kd.Q_ne HO142.out BK143.out (by decide) (e_.trans HE59.out.symm))) | (dsimp only; exact Kd.own_blk (ad := ad137) (fun (e_ : some _ = (.slice (some ad137) x5_1.length co57 : Value).ownBlock) => Kd.Q_ne HO142.out BK143.out (by decide) (e_.trans HE59.out.symm)))) _).trans (((cell_far (p := ⟨gb143, _, none⟩) (by first | exact Kd.own_blk (ad := ad137) (fun (e_ : some _ = (.slice (some ad137) x5_1.length co57 : Value).ownBlock) => Kd.Q_ne HO142.out BK143.out (by decide) (e_.trans HE59.out.symm)) | (rw [add_block]; exact Kd.own_blk (ad := ad137) (fun (e_ : some _ = (.slice (some ad137) x5_1.length co57 : Value).ownBlock) => Kd.Q_ne HO142.out BK143.out (by decide) (e_.trans HE59.out.symm))) | (show (Addr.add _ _).block ≠ _; rw [add_block]; exact Kd.own_blk (ad := ad137) (fun (e_ : some _ = (.slice (some ad137) x5_1.length co57 : Value).ownBlock) => Kd.Q_ne HO142.out BK143.out (by decide) (e_.trans HE59.out.symm))) | (dsimp only; exact Kd.own_blk (ad := ad137) (fun (e_ : some _ = (.slice (some ad137) x5_1.length co57 : Value).ownBlock) => Kd.Q_ne HO142.out BK143.out (by decide) (e_.trans HE59.out.symm)))) _).trans (hHeld.2))))))⟩ (fun hHeld => ?_)
                              clear hK K
                              refine done_ (done_of HT_.out (by kernel_rfl)) ?_
                              have hnb64 := NB143_114.out
                              have hnc64 := NB114_143.out
                              have hcz65_0 : w60.cell? ⟨gb143, 0, none⟩ = some (.int .u8 0) := (blk_cell BK143.out 0).trans rfl
                              have hcz65_1 : w60.cell? ⟨gb143, 1, none⟩ = some (.int .i64 0) := (blk_cell BK143.out 1).trans rfl
                              have hcz65_2 : w60.cell? ⟨gb143, 2, none⟩ = some (.slice none 0 0) := (blk_cell BK143.out 2).trans rfl
                              have hfz65_0 := blk_frozen BK143.out 0
                              have hfz65_1 := blk_frozen BK143.out 1
                              have hfz65_2 := blk_frozen BK143.out 2
                              try go_wp2_with (first | ((with_reducible refine gate_callee (f := 8) rfl ?_); refine goesL_ (some 72) rfl rfl Tryd.func8 (by kernel_rfl) rfl #[.agg #[.int .u8 ((rd x5_1 0) % 256), .int .i64 (rd x5_1 1), .slice A59 y140.length c59]] rfl (by (try simp only [List.map_toArray, List.map_cons, List.map_nil]); first | done | rfl | (simp only [List.length_drop, List.length_take]; rfl)) ?_; (with_reducible refine (puzzle_Write.calls k1 ((rd x5_1 0) % 256) (rd x5_1 1) _ _ y140 t144 t145 _ ?side1 ?side2 ?side3 A42.out).mono ?_); (case side1 => refine (Kd.Q_reads' (e := 3) (base := w.heap.size) (ok := fun k_ => True) (n := y140.length) (c := c59) ?_).2.2; exact (by (with_reducible repeat (first | apply Kd.Q_alloc | apply Kd.Q_drewN | apply Kd.Q_drew)); exact (Kd.Q_mono (Kd.Q_far (p := ⟨gb143, 2, none⟩) (Kd.Q_far (p := ⟨gb143, 1, none⟩) (Kd.Q_far (p := ⟨gb143, 0, none⟩) (Kd.Q_types HO142.out BK143.out (by decide)) (fun _ hk => hk.2) (.int .u8 ((rd x5_1 0) % 256))) (fun _ hk => hk.2) (.int .i64 (rd x5_1 1))) (fun _ hk => hk.2) (.slice A59 y140.length c59)) (fun _ h_ => h_.1)))); (case side2 => exact (Kd.Q_reads' HO142.out).2.1); (case side3 => exact Tabs.below HG.out (by repeat (first | (with_reducible first | exact HB.out | apply below_alloc | apply pw_below_drewN | apply below_drew1 | refine below_set ?_ GE114.out | refine below_set ?_ GE143.out) | exact HB.out))); rintro e w66 ⟨rfl, hb⟩; refine ⟨_, rfl, ?_⟩; have n0_ := Aside0.mk (Kd.Q_below (by (with_reducible repeat (first | apply Kd.Q_alloc | apply Kd.Q_drewN | apply Kd.Q_drew)); exact (Kd.Q_mono (Kd.Q_far (p := ⟨gb143, 2, none⟩) (Kd.Q_far (p := ⟨gb143, 1, none⟩) (Kd.Q_far (p := ⟨gb143, 0, none⟩) (Kd.Q_types HO142.out BK143.out (by decide)) (fun _ hk => hk.2) (.int .u8 ((rd x5_1 0) % 256))) (fun _ hk => hk.2) (.int .i64 (rd x5_1 1))) (fun _ hk => hk.2) (.slice A59 y140.length c59)) (fun _ h_ => h_.1))) hb); have n1_ := Aside0.mk (Kd.R_below (by (with_reducible repeat (first | apply Kd.R_alloc | apply Kd.R_drewN | apply Kd.R_drew)); exact (Kd.R_mono (Kd.R_far (p := ⟨gb143, 2, none⟩) (Kd.R_far (p := ⟨gb143, 1, none⟩) (Kd.R_far (p := ⟨gb143, 0, none⟩) (Kd.R_types HO_28.out BK143.out (by decide)) (fun _ hk => hk.2) (.int .u8 ((rd x5_1 0) % 256))) (fun _ hk => hk.2) (.int .i64 (rd x5_1 1))) (fun _ hk => hk.2) (.slice A59 y140.length c59)) (fun _ h_ => h_.1))) hb); have n2_ := Aside0.mk (blk_below (g := gb114) (o := .cells #[.int .u8 x115000_1, .int .i64 x115001_1, .slice none 0 0] 24 (0, 0)) (by (with_reducible repeat (first | refine blk_drewN ?_ _ | refine blk_drew ?_ | refine blk_alloc ?_ _)); refine blk_far ?_ NB114_143.out _; (with_reducible repeat (first | refine blk_drewN ?_ _ | refine blk_drew ?_ | refine blk_alloc ?_ _)); refine blk_far ?_ NB114_143.out _; (with_reducible repeat (first | refine blk_drewN ?_ _ | refine blk_drew ?_ | refine blk_alloc ?_ _)); refine blk_far ?_ NB114_143.out _; (with_reducible repeat (first | refine blk_drewN ?_ _ | refine blk_drew ?_ | refine blk_alloc ?_ _)); exact BK114.out) hb); have n3_ := Aside0.mk (blk_below (g := gb143) (o := .cells #[.int .u8 ((rd x5_1 0) % 256), .int .i64 (rd x5_1 1), .slice A59 y140.length c59] 24 (0, 0)) (by (with_reducible repeat (first | refine blk_drewN ?_ _ | refine blk_drew ?_ | refine blk_alloc ?_ _)); refine blk_put (cs := #[.int .u8 ((rd x5_1 0) % 256), .int .i64 (rd x5_1 1), .slice none 0 0]) ?_ 2 _ rfl; (with_reducible repeat (first | refine blk_drewN ?_ _ | refine blk_drew ?_ | refine blk_alloc ?_ _)); refine blk_put (cs := #[.int .u8 ((rd x5_1 0) % 256), .int .i64 0, .slice none 0 0]) ?_ 1 _ rfl; (with_reducible repeat (first | refine blk_drewN ?_ _ | refine blk_drew ?_ | refine blk_alloc ?_ _)); refine blk_put (cs := #[.int .u8 0, .int .i64 0, .slice none 0 0]) ?_ 0 _ rfl; (with_reducible repeat (first | refine blk_drewN ?_ _ | refine blk_drew ?_ | refine blk_alloc ?_ _)); exact BK143.out) hb); have n4_ := Aside0.mk (below_step (by repeat (first | (with_reducible first | exact HB.out | apply below_alloc | apply pw_below_drewN | apply below_drew1 | refine below_set ?_ GE114.out | refine below_set ?_ GE143.out) | exact HB.out)) hb); clear HO142; clear HO_28; clear BK114; clear BK143; clear HB; have HO142 := n0_; have HO_28 := n1_; have BK114 := n2_; have BK143 := n3_; have HB := n4_; clear n0_ n1_ n2_ n3_ n4_; (try clear hb); (try clear hb2); (try clear hk); (try clear hi); have hcz67_0 : w66.cell? ⟨gb114, 0, none⟩ = some (.int .u8 x115000_1) := (blk_cell BK114.out 0).trans rfl; have hcz67_1 : w66.cell? ⟨gb114, 1, none⟩ = some (.int .i64 x115001_1) := (blk_cell BK114.out 1).trans rfl; have hcz67_2 : w66.cell? ⟨gb114, 2, none⟩ = some (.slice none 0 0) := (blk_cell BK114.out 2).trans rfl; have hfz67_0 := blk_frozen BK114.out 0; have hfz67_1 := blk_frozen BK114.out 1; have hfz67_2 := blk_frozen BK114.out 2))
                              refine bodyPost_ret (results_ct rfl _ _ gb114 24 #[.int .u8 0, .int .i64 0, .slice none 0 0] (0, 0) _ rfl (by (with_reducible repeat (first | refine blk_drewN ?_ _ | refine blk_drew ?_ | refine blk_alloc ?_ _)); refine blk_put (cs := #[.int .u8 0, .int .i64 0, .slice none 0 0]) ?_ 2 _ rfl; (with_reducible repeat (first | refine blk_drewN ?_ _ | refine blk_drew ?_ | refine blk_alloc ?_ _)); refine blk_put (cs := #[.int .u8 0, .int .i64 x115001_1, .slice none 0 0]) ?_ 1 _ rfl; (with_reducible repeat (first | refine blk_drewN ?_ _ | refine blk_drew ?_ | refine blk_alloc ?_ _)); refine blk_put (cs := #[.int .u8 x115000_1, .int .i64 x115001_1, .slice none 0 0]) ?_ 0 _ rfl; (with_reducible repeat (first | refine blk_drewN ?_ _ | refine blk_drew ?_ | refine blk_alloc ?_ _)); exact BK114.out) Tryd.underlying24 rfl (by kernel_rfl)) rfl ?_
                              exact ⟨_, by first | rfl | (simp [errW_none, errW_some] <;> rfl) | (simp [*, errW_none, errW_some] <;> rfl), Kd.Q_of_R (by first | exact Kd.R_nil _ _ _ _ _ | exact Kd.N_nil _ _ _ _ _ | exact Kd.V_nil _ _ _ _ _ | exact Kd.Q_nil _ _ _ _ _ | exact Kd.S_nil _ _ _ _ _), by repeat (first | (with_reducible first | exact HB.out | apply below_alloc | apply pw_below_drewN | apply below_drew1 | refine below_set ?_ GE114.out | refine below_set ?_ GE143.out) | exact HB.out)⟩
                          · rw [if_neg c43] at H
                            have c43b0 : (t145 == 0) = false := beq_eq_false_iff_ne.mpr c43
                            have c43b1 : (t145 != 0) = true := bne_iff_ne.mpr c43
                            simp only [Option.some.injEq, Prod.mk.injEq] at H
                            obtain ⟨rfl, rfl, rfl, rfl⟩ := H
                            obtain ⟨Ao68, co68, eo68⟩ := Kd.R_slice HO_5.out
                            subst eo68
                            have p137 : 0 ≤ (0 : Int) := (by omega)
                            have q137 : 0 < (x5_1.length : Int) := of_decide_eq_true (by first | (with_reducible assumption) | assumption)
                            obtain ⟨ad137, e137, hx137_0⟩ := Kd.at_int (Kd.R_reads' HO_5.out).2.2 0 p137 q137
                            cases e137
                            have qi137 : (0 < x5_1.length) = True := eq_true (by omega)
                            (try rw [show ((0 : Int)).toNat = 0 from rfl] at hx137_0)
                            (try rw [Addr.add_zero'] at hx137_0)
                            replace p137 := eq_true p137
                            replace q137 := eq_true q137
                            try go_wp2
                            have n0_ := Aside0.mk (Kd.R_drew HO_5.out)
                            have n1_ := Aside0.mk (Kd.R_drew HO_28.out)
                            have n2_ := Aside0.mk (blk_drew BK114.out)
                            have n3_ := Aside0.mk (below_drew1 HB.out)
                            clear HO_5
                            clear HO_28
                            clear BK114
                            clear HB
                            have HO_5 := n0_
                            have HO_28 := n1_
                            have BK114 := n2_
                            have HB := n3_
                            clear n0_ n1_ n2_ n3_
                            have p138 : 0 ≤ (0 : Int) := (by omega)
                            have q138 : 0 < (x5_1.length : Int) := of_decide_eq_true (by first | (with_reducible assumption) | assumption)
                            obtain ⟨ad138, e138, hx138_0⟩ := Kd.at_int (Kd.R_reads' HO_5.out).2.2 0 p138 q138
                            obtain rfl : ad137 = ad138 := (by injection e138)
                            have qi138 : (0 < x5_1.length) = True := eq_true (by omega)
                            (try rw [show ((0 : Int)).toNat = 0 from rfl] at hx138_0)
                            (try rw [Addr.add_zero'] at hx138_0)
                            replace p138 := eq_true p138
                            replace q138 := eq_true q138
                            have p139 : 0 ≤ (1 : Int) := (by omega)
                            have q139 : 1 < (x5_1.length : Int) := of_decide_eq_true (by first | (with_reducible assumption) | assumption)
                            obtain ⟨ad139, e139, hx139_0⟩ := Kd.at_int (Kd.R_reads' HO_5.out).2.2 1 p139 q139
                            obtain rfl : ad137 = ad139 := (by injection e139)
                            (try simp only [show (1 : Int).toNat = 1 from rfl, Nat.reduceMul, Nat.reduceEqDiff, Go.Addr.add, ↓reduceIte] at hx139_0)
                            have qi139 : (1 < x5_1.length) = True := eq_true (by omega)
                            (try rw [show ((1 : Int)).toNat = 1 from rfl] at hx139_0)
                            replace p139 := eq_true p139
                            replace q139 := eq_true q139
                            have q70 : (2 : Int) ≤ ((x5_1.length : Int) : Int) := of_decide_eq_true (by first | (with_reducible assumption) | assumption)
                            obtain ⟨i070, hi070, _, hsz70, _⟩ := info_parts info3
                            have hcut70 := cut_from (P := Tryd.prog) 22 3 .i64 Tryd.underlying22 hi070 1 hsz70 (some ad137) x5_1.length co68 2 (by omega) q70
                            have hr70 := Kd.Q_drop (k := (2 : Int).toNat) (Kd.Q_of_R HO_5.out) (by omega)
                            obtain ⟨A70, hA70⟩ : ∃ A1, A1 = (if co68 = (2 : Int).toNat then (some ad137) else ((some ad137) : Option Addr).map (·.add ((2 : Int).toNat * 1))) := ⟨_, rfl⟩
                            obtain ⟨c70, hc70⟩ : ∃ c1, c1 = co68 - (2 : Int).toNat := ⟨_, rfl⟩
                            have hy70 : y140.length = x5_1.length - (2 : Int).toNat := (by rw [Ny140.out, List.length_drop])
                            rw [← Ny140.out] at hr70
                            rw [← hy70, ← hA70, ← hc70] at hcut70
                            replace hr70 : Kd.Q (Kd.int .i64) 3 wr.drew w.heap.size (fun _ => True) (.slice A70 y140.length c70) y140 := (by rw [hA70, hc70, hy70]; exact Kd.Q_drew hr70)
                            have HE70 : Aside0 ((Value.slice A70 y140.length c70).ownBlock = (.slice (some ad137) x5_1.length co68 : Value).ownBlock) := ⟨by rw [hA70]; split <;> (cases ((some ad137) : Option Addr) <;> rfl)⟩
                            clear hy70 hi070 hsz70 HO_5 hA70 hc70
                            have HO142 := Aside0.mk hr70
                            clear hr70
                            replace q70 := eq_true q70
                            refine start_ (n := 12) (S := fun w' => w'.cell? ad137 = some (.int .i64 (rd x5_1 0)) ∧ w'.cell? ⟨ad137.block, ad137.off + 1, none⟩ = some (.int .i64 (rd x5_1 1))) (ds := []) #[false, false, false, false, false, false, false, false, false, false, false, false] (by kernel_rfl) rfl rfl ⟨hx138_0, hx139_0⟩ (fun hHeld => ?_); refine with_tabW puzzle_Read.tab15 puzzle_Read.bits15 (fun HT_ HW_ => ?_)
                            generalize wr.drew = w69 at HO_28 BK114 HB HO142 hx138_0 hx139_0 hHeld ⊢
                            refine pure_ (i := 0) (N := some 60) (v := ?_) (a' := ?_) #[true, false, false, false, false, false, false, false, false, false, false, false] rfl rfl (any_of HT_.out (by kernel_rfl)) (fun _ _ _ h => h) (Or.inl ⟨by rfl, ?_⟩) ?_ ?_
                            rotate_left
                            · intro w'
                              go_simp
                              with_reducible rfl
                            rotate_left
                            · simp only [Act.put, List.setIfInBounds_toArray, List.set_cons_zero, List.set_cons_succ, i64_w, i32_w]
                              rfl
                            refine pure_ (i := 1) (N := some 61) (v := ?_) (a' := ?_) #[true, true, false, false, false, false, false, false, false, false, false, false] rfl rfl (any_of HT_.out (by kernel_rfl)) (fun _ _ _ h => h) (Or.inl ⟨by rfl, ?_⟩) ?_ ?_
                            rotate_left
                            · intro w'
                              go_simp
                              with_reducible rfl
                            rotate_left
                            · simp only [Act.put, List.setIfInBounds_toArray, List.set_cons_zero, List.set_cons_succ, i64_w, i32_w]
                              rfl
                            refine pure_ (i := 4) (N := some 64) (v := ?_) (a' := ?_) #[true, true, false, false, true, false, false, false, false, false, false, false] rfl rfl (any_of HT_.out (by kernel_rfl)) (fun _ _ _ h => h) (Or.inl ⟨by rfl, ?_⟩) ?_ ?_
                            rotate_left
                            · intro w'
                              go_simp
                              with_reducible rfl
                            rotate_left
                            · simp only [Act.put, List.setIfInBounds_toArray, List.set_cons_zero, List.set_cons_succ, i64_w, i32_w]
                              rfl
                            refine pure_ (i := 5) (N := some 65) (v := ?_) (a' := ?_) #[true, true, false, false, true, true, false, false, false, false, false, false] rfl rfl (any_of HT_.out (by kernel_rfl)) (fun _ _ _ h => h) (Or.inl ⟨by rfl, ?_⟩) ?_ ?_
                            rotate_left
                            · intro w'
                              go_simp
                              with_reducible rfl
                            rotate_left
                            · simp only [Act.put, List.setIfInBounds_toArray, List.set_cons_zero, List.set_cons_succ, i64_w, i32_w]
                              rfl
                            refine pure_ (i := 7) (N := some 67) (v := ?_) (a' := ?_) #[true, true, false, false, true, true, false, true, false, false, false, false] rfl rfl (any_of HT_.out (by kernel_rfl)) (fun _ _ _ h => h) (Or.inl ⟨by rfl, ?_⟩) ?_ ?_
                            rotate_left
                            · intro w'
                              go_simp
                              with_reducible rfl
                            rotate_left
                            · simp only [Act.put, List.setIfInBounds_toArray, List.set_cons_zero, List.set_cons_succ, i64_w, i32_w]
                              rfl
                            refine pure_ (i := 8) (N := some 68) (v := ?_) (a' := ?_) #[true, true, false, false, true, true, false, true, true, false, false, false] rfl rfl (any_of HT_.out (by kernel_rfl)) (fun _ _ _ h => h) (Or.inl ⟨by rfl, ?_⟩) ?_ ?_
                            rotate_left
                            · intro w'
                              go_simp
                              with_reducible rfl
                            rotate_left
                            · simp only [Act.put, List.setIfInBounds_toArray, List.set_cons_zero, List.set_cons_succ, i64_w, i32_w]
                              rfl
                            refine take_ (i := 2) (N := some 62) (v := ?_) (a' := ?_) #[true, true, true, false, true, true, false, true, true, false, false, false] rfl rfl (take_ofW HT_.out HW_.out (by kernel_rfl)) (fun _ _ _ h => h) (Or.inl ⟨by rfl, ?_⟩) hHeld ?_ ?_
                            rotate_left
                            · rintro w' ⟨s0, s1⟩
                              go_simp
                              with_reducible rfl
                            rotate_left
                            · simp only [Act.put, List.setIfInBounds_toArray, List.set_cons_zero, List.set_cons_succ, i64_w, i32_w]
                              rfl
                            refine pure_ (i := 3) (N := some 63) (v := ?_) (a' := ?_) #[true, true, true, true, true, true, false, true, true, false, false, false] rfl rfl (any_of HT_.out (by kernel_rfl)) (fun _ _ _ h => h) (Or.inl ⟨by rfl, ?_⟩) ?_ ?_
                            rotate_left
                            · intro w'
                              go_simp
                              with_reducible rfl
                            rotate_left
                            · simp only [Act.put, List.setIfInBounds_toArray, List.set_cons_zero, List.set_cons_succ, i64_w, i32_w]
                              rfl
                            refine take_ (i := 6) (N := some 66) (v := ?_) (a' := ?_) #[true, true, true, true, true, true, true, true, true, false, false, false] rfl rfl (take_ofW HT_.out HW_.out (by kernel_rfl)) (fun _ _ _ h => h) (Or.inl ⟨by rfl, ?_⟩) hHeld ?_ ?_
                            rotate_left
                            · rintro w' ⟨s0, s1⟩
                              go_simp
                              with_reducible rfl
                            rotate_left
                            · simp only [Act.put, List.setIfInBounds_toArray, List.set_cons_zero, List.set_cons_succ, i64_w, i32_w]
                              rfl
                            refine pure_ (i := 9) (N := some 69) (v := ?_) (a' := ?_) #[true, true, true, true, true, true, true, true, true, true, false, false] rfl rfl (any_of HT_.out (by kernel_rfl)) (fun _ _ _ h => h) (Or.inl ⟨by rfl, ?_⟩) ?_ ?_
                            rotate_left
                            · intro w'
                              go_simp
                              with_reducible rfl
                            rotate_left
                            · simp only [Act.put, List.setIfInBounds_toArray, List.set_cons_zero, List.set_cons_succ, i64_w, i32_w]
                              rfl
                            refine one_ (i := 10) (N := some 10) #[true, true, true, true, true, true, true, true, true, true, true, false] rfl rfl (one_of HT_.out (by kernel_rfl)) (by decide) (fun K hK => ?_)
                            refine box_step ?hg (N := 10) ?hd (cs := #[.int .u8 0, .int .i64 0, .slice none 0 0]) (t := 24) ?hr ?_; (case hd => rfl); (case hg => rfl); (case hr => first | (go_simp; done) | (go_simp; rfl))
                            intro gb143 hg w71 hbox hb
                            have HS0_ := (hb.cell (World.block_lt_of_cell? _ _ (hHeld.1))).trans (hHeld.1)
                            have HS1_ := (hb.cell (World.block_lt_of_cell? _ _ (hHeld.2))).trans (hHeld.2)
                            have n0_ := Aside0.mk (Kd.Q_below (by (with_reducible repeat (first | apply Kd.Q_alloc | apply Kd.Q_drewN | apply Kd.Q_drew)); exact HO142.out) hb)
                            have n1_ := Aside0.mk (Kd.R_below (by (with_reducible repeat (first | apply Kd.R_alloc | apply Kd.R_drewN | apply Kd.R_drew)); exact HO_28.out) hb)
                            have n2_ := Aside0.mk (blk_below (g := gb114) (o := .cells #[.int .u8 x115000_1, .int .i64 x115001_1, .slice none 0 0] 24 (0, 0)) (by (with_reducible repeat (first | refine blk_drewN ?_ _ | refine blk_drew ?_ | refine blk_alloc ?_ _)); exact BK114.out) hb)
                            have n3_ := Aside0.mk (below_step (by repeat (first | (with_reducible first | exact HB.out | apply below_alloc | apply pw_below_drewN | apply below_drew1 | refine below_set ?_ GE114.out) | exact HB.out)) hb)
                            have n4_ := Aside0.mk (hbox)
                            have n5_ := Aside0.mk ((by rw [hg]; exact (below_size (by repeat (first | (with_reducible first | exact HB.out | apply below_alloc | apply pw_below_drewN | apply below_drew1 | refine below_set ?_ GE114.out) | exact HB.out))) : w.heap.size ≤ gb143))
                            have n6_ := Aside0.mk ((by rw [hg]; exact (below_size (by repeat (first | (with_reducible first | exact HB.out | apply below_alloc | apply pw_below_drewN | apply below_drew1 | refine below_set ?_ GE114.out) | exact HB.out))) : w.heap.size ≤ gb143))
                            have n7_ := Aside0.mk ((by rw [hg]; exact Nat.ne_of_lt (blk_lt (g := gb114) (o := .cells #[.int .u8 x115000_1, .int .i64 x115001_1, .slice none 0 0] 24 (0, 0)) (by (with_reducible repeat (first | refine blk_drewN ?_ _ | refine blk_drew ?_ | refine blk_alloc ?_ _)); exact BK114.out)) : gb114 ≠ gb143))
                            have n8_ := Aside0.mk ((by rw [hg]; exact Nat.ne_of_gt (blk_lt (g := gb114) (o := .cells #[.int .u8 x115000_1, .int .i64 x115001_1, .slice none 0 0] 24 (0, 0)) (by (with_reducible repeat (first | refine blk_drewN ?_ _ | refine blk_drew ?_ | refine blk_alloc ?_ _)); exact BK114.out)) : gb143 ≠ gb114))
                            clear HO142
                            clear HO_28
                            clear BK114
                            clear HB
                            have HO142 := n0_
                            have HO_28 := n1_
                            have BK114 := n2_
                            have HB := n3_
                            have BK143 := n4_
                            have GW143 := n5_
                            have GE143 := n6_
                            have NB114_143 := n7_
                            have NB143_114 := n8_
                            clear n0_ n1_ n2_ n3_ n4_ n5_ n6_ n7_ n8_
                            clear hb hbox hg
                            refine hK.out _ _ ⟨HS0_, HS1_⟩ (fun hHeld => ?_)
                            clear hK K
                            refine norm_ (a' := ?_) ?_ ?_
                            rotate_left
                            · show Act.put _ (some 10) _ = _
                              simp only [Act.put, List.setIfInBounds_toArray, List.set_cons_zero, List.set_cons_succ, i64_w, i32_w]
                              rfl
                            refine one_ (i := 11) (N := none) #[true, true, true, true, true, true, true, true, true, true, true, true] rfl rfl (one_of HT_.out (by kernel_rfl)) (by decide) (fun K hK => ?_)
                            have hs72 : w71.cell? ⟨gb143, 0, none⟩ = some (.int .u8 0) := (blk_cell BK143.out 0).trans rfl
                            have hfs72 := blk_frozen BK143.out 0
                            have hns72_0 := NB114_143.out
                            have hms72_0 := NB143_114.out
                            have hs73 : w71.cell? ⟨gb143, 1, none⟩ = some (.int .i64 0) := (blk_cell BK143.out 1).trans rfl
                            have hfs73 := blk_frozen BK143.out 1
                            have hns73_0 := NB114_143.out
                            have hms73_0 := NB143_114.out
                            have hs74 : w71.cell? ⟨gb143, 2, none⟩ = some (.slice none 0 0) := (blk_cell BK143.out 2).trans rfl
                            have hfs74 := blk_frozen BK143.out 2
                            have hns74_0 := NB114_143.out
                            have hms74_0 := NB143_114.out
                            refine skip_ (w1 := ?_) (by rfl) rfl ?_ ?_
                            rotate_left
                            · go_simp
                              rfl
                            refine hK.out _ _ ⟨((cell_far (p := ⟨gb143, _, none⟩) (by first | exact Kd.own_blk (ad := ad137) (fun (e_ : some _ = (.slice (some ad137) x5_1.length co68 : Value).ownBlock) => Kd.Q_ne HO142.out BK143.out (by decide) (e_.trans HE70.out.symm)) | (rw [add_block]; exact Kd.own_blk (ad := ad137) (fun (e_ : some _ = (.slice (some ad137) x5_1.length co68 : Value).ownBlock) => Kd.Q_ne HO142.out BK143.out (by decide) (e_.trans HE70.out.symm))) | (show (Addr.add _ _).block ≠ _; rw [add_block]; exact Kd.own_blk (ad := ad137) (fun (e_ : some _ = (.slice (some ad137) x5_1.length co68 : Value).ownBlock) => Kd.Q_ne HO142.out BK143.out (by decide) (e_.trans HE70.out.symm))) | (dsimp only; exact Kd.own_blk (ad := ad137) (fun (e_ : some _ = (.slice (some ad137) x5_1.length co68 : Value).ownBlock) => Kd.Q_ne HO142.out BK143.out (by decide) (e_.trans HE70.out.symm)))) _).trans (((cell_far (p := ⟨gb143, _, none⟩) (by first | exact Kd.own_blk (ad := ad137) (fun (e_ : some _ = (.slice (some ad137) x5_1.length co68 : Value).ownBlock) => Kd.Q_ne HO142.out BK143.out (by decide) (e_.trans HE70.out.symm)) | (rw [add_block]; exact Kd.own_blk (ad := ad137) (fun (e_ : some _ = (.slice (some ad137) x5_1.length co68 : Value).ownBlock) => Kd.Q_ne HO142.out BK143.out (by decide) (e_.trans HE70.out.symm))) | (show (Addr.add _ _).block ≠ _; rw [add_block]; exact Kd.own_blk (ad := ad137) (fun (e_ : some _ = (.slice (some ad137) x5_1.length co68 : Value).ownBlock) => Kd.Q_ne HO142.out BK143.out (by decide) (e_.trans HE70.out.symm))) | (dsimp only; exact Kd.own_blk (ad := ad137) (fun (e_ : some _ = (.slice (some ad137) x5_1.length co68 : Value).ownBlock) => Kd.Q_ne HO142.out BK143.out (by decide) (e_.trans HE70.out.symm)))) _).trans (((cell_far (p := ⟨gb143, _, none⟩) (by first | exact Kd.own_blk (ad := ad137) (fun (e_ : some _ = (.slice (some ad137) x5_1.length co68 : Value).ownBlock) => Kd.Q_ne HO142.out BK143.out (by decide) (e_.trans HE70.out.symm)) | (rw [add_block]; exact Kd.own_blk (ad := ad137) (fun (e_ : some _ = (.slice (some ad137) x5_1.length co68 : Value).ownBlock) => Kd.Q_ne HO142.out BK143.out (by decide) (e_.trans HE70.out.symm))) | (show (Addr.add _ _).block ≠ _; rw [add_block]; exact Kd.own_blk (ad := ad137) (fun (e_ : some _ = (.slice (some ad137) x5_1.length co68 : Value).ownBlock) => Kd.Q_ne HO142.out BK143.out (by decide) (e_.trans HE70.out.symm))) | (dsimp only; exact Kd.own_blk (ad := ad137) (fun (e_ : some _ = (.slice (some ad137) x5_1.length co68 : Value).ownBlock) => Kd.Q_ne HO142.out BK143.out (by decide) (e_.trans HE70.out.symm)))) _).trans (hHeld.1)))))), ((cell_far (p := ⟨gb143, _, none⟩) (by first | exact Kd.own_blk (ad := ad137) (fun (e_ : some _ = (.slice (some ad137) x5_1.length co68 : Value).ownBlock) => Kd.Q_ne HO142.out BK143.out (by decide) (e_.trans HE70.out.symm)) | (rw [add_block]; exact Kd.own_blk (ad := ad137) (fun (e_ : some _ = (.slice (some ad137) x5_1.length co68 : Value).ownBlock) => Kd.Q_ne HO142.out BK143.out (by decide) (e_.trans HE70.out.symm))) | (show (Addr.add _ _).block ≠ _; rw [add_block]; exact Kd.own_blk (ad := ad137) (fun (e_ : some _ = (.slice (some ad137) x5_1.length co68 : Value).ownBlock) => Kd.Q_ne HO142.out BK143.out (by decide) (e_.trans HE70.out.symm))) | (dsimp only; exact Kd.own_blk (ad := ad137) (fun (e_ : some _ = (.slice (some ad137) x5_1.length co68 : Value).ownBlock) => Kd.Q_ne HO142.out BK143.out (by decide) (e_.trans HE70.out.symm)))) _).trans (((cell_far (p := ⟨gb143, _, none⟩) (by first | exact Kd.own_blk (ad := ad137) (fun (e_ : some _ = (.slice (some ad137) x5_1.length co68 : Value).ownBlock) => Kd.Q_ne HO142.out BK143.out (by decide) (e_.trans HE70.out.symm)) | (rw [add_block]; exact Kd.own_blk (ad := ad137) (fun (e_ : some _ = (.slice (some ad137) x5_1.length co68 : Value).ownBlock) => Kd.Q_ne HO142.out BK143.out (by decide) (e_.trans HE70.out.symm))) | (show (Addr.add _ _).block ≠ _; rw [add_block]; exact Kd.own_blk (ad := ad137) (fun (e_ : some _ = (.slice (some ad137) x5_1.length co68 : Value).ownBlock) => Kd.Q_ne HO142.out BK143.out (by decide) (e_.trans HE70.out.symm))) | (dsimp only; exact Kd.own_blk (ad := ad137) (fun (e_ : some _ = (.slice (some ad137) x5_1.length co68 : Value).ownBlock) => Kd.Q_ne HO142.out BK143.out (by decide) (e_.trans HE70.out.symm)))) _).trans (((cell_far (p := ⟨gb143, _, none⟩) (by first | exact Kd.own_blk (ad := ad137) (fun (e_ : some _ = (.slice (some ad137) x5_1.length co68 : Value).ownBlock) => Kd.Q_ne HO142.out BK143.out (by decide) (e_.trans HE70.out.symm)) | (rw [add_block]; exact Kd.own_blk (ad := ad137) (fun (e_ : some _ = (.slice (some ad137) x5_1.length co68 : Value).ownBlock) => Kd.Q_ne HO142.out BK143.out (by decide) (e_.trans HE70.out.symm))) | (show (Addr.add _ _).block ≠ _; rw [add_block]; exact Kd.own_blk (ad := ad137) (fun (e_ : some _ = (.slice (some ad137) x5_1.length co68 : Value).ownBlock) => Kd.Q_ne HO142.out BK143.out (by decide) (e_.trans HE70.out.symm))) | (dsimp only; exact Kd.own_blk (ad := ad137) (fun (e_ : some _ = (.slice (some ad137) x5_1.length co68 : Value).ownBlock) => Kd.Q_ne HO142.out BK143.out (by decide) (e_.trans HE70.out.symm)))) _).trans (hHeld.2))))))⟩ (fun hHeld => ?_)
                            clear hK K
                            refine done_ (done_of HT_.out (by kernel_rfl)) ?_
                            have hnb75 := NB143_114.out
                            have hnc75 := NB114_143.out
                            have hcz76_0 : w71.cell? ⟨gb143, 0, none⟩ = some (.int .u8 0) := (blk_cell BK143.out 0).trans rfl
                            have hcz76_1 : w71.cell? ⟨gb143, 1, none⟩ = some (.int .i64 0) := (blk_cell BK143.out 1).trans rfl
                            have hcz76_2 : w71.cell? ⟨gb143, 2, none⟩ = some (.slice none 0 0) := (blk_cell BK143.out 2).trans rfl
                            have hfz76_0 := blk_frozen BK143.out 0
                            have hfz76_1 := blk_frozen BK143.out 1
                            have hfz76_2 := blk_frozen BK143.out 2
                            try go_wp2_with (first | ((with_reducible refine gate_callee (f := 8) rfl ?_); refine goesL_ (some 72) rfl rfl Tryd.func8 (by kernel_rfl) rfl #[.agg #[.int .u8 ((rd x5_1 0) % 256), .int .i64 (rd x5_1 1), .slice A70 y140.length c70]] rfl (by (try simp only [List.map_toArray, List.map_cons, List.map_nil]); first | done | rfl | (simp only [List.length_drop, List.length_take]; rfl)) ?_; (with_reducible refine (puzzle_Write.calls k1 ((rd x5_1 0) % 256) (rd x5_1 1) _ _ y140 t144 t145 _ ?side1 ?side2 ?side3 A42.out).mono ?_); (case side1 => refine (Kd.Q_reads' (e := 3) (base := w.heap.size) (ok := fun k_ => True) (n := y140.length) (c := c70) ?_).2.2; exact (by (with_reducible repeat (first | apply Kd.Q_alloc | apply Kd.Q_drewN | apply Kd.Q_drew)); exact (Kd.Q_mono (Kd.Q_far (p := ⟨gb143, 2, none⟩) (Kd.Q_far (p := ⟨gb143, 1, none⟩) (Kd.Q_far (p := ⟨gb143, 0, none⟩) (Kd.Q_types HO142.out BK143.out (by decide)) (fun _ hk => hk.2) (.int .u8 ((rd x5_1 0) % 256))) (fun _ hk => hk.2) (.int .i64 (rd x5_1 1))) (fun _ hk => hk.2) (.slice A70 y140.length c70)) (fun _ h_ => h_.1)))); (case side2 => exact (Kd.Q_reads' HO142.out).2.1); (case side3 => exact Tabs.below HG.out (by repeat (first | (with_reducible first | exact HB.out | apply below_alloc | apply pw_below_drewN | apply below_drew1 | refine below_set ?_ GE114.out | refine below_set ?_ GE143.out) | exact HB.out))); rintro e w77 ⟨rfl, hb⟩; refine ⟨_, rfl, ?_⟩; have n0_ := Aside0.mk (Kd.Q_below (by (with_reducible repeat (first | apply Kd.Q_alloc | apply Kd.Q_drewN | apply Kd.Q_drew)); exact (Kd.Q_mono (Kd.Q_far (p := ⟨gb143, 2, none⟩) (Kd.Q_far (p := ⟨gb143, 1, none⟩) (Kd.Q_far (p := ⟨gb143, 0, none⟩) (Kd.Q_types HO142.out BK143.out (by decide)) (fun _ hk => hk.2) (.int .u8 ((rd x5_1 0) % 256))) (fun _ hk => hk.2) (.int .i64 (rd x5_1 1))) (fun _ hk => hk.2) (.slice A70 y140.length c70)) (fun _ h_ => h_.1))) hb); have n1_ := Aside0.mk (Kd.R_below (by (with_reducible repeat (first | apply Kd.R_alloc | apply Kd.R_drewN | apply Kd.R_drew)); exact (Kd.R_mono (Kd.R_far (p := ⟨gb143, 2, none⟩) (Kd.R_far (p := ⟨gb143, 1, none⟩) (Kd.R_far (p := ⟨gb143, 0, none⟩) (Kd.R_types HO_28.out BK143.out (by decide)) (fun _ hk => hk.2) (.int .u8 ((rd x5_1 0) % 256))) (fun _ hk => hk.2) (.int .i64 (rd x5_1 1))) (fun _ hk => hk.2) (.slice A70 y140.length c70)) (fun _ h_ => h_.1))) hb); have n2_ := Aside0.mk (blk_below (g := gb114) (o := .cells #[.int .u8 x115000_1, .int .i64 x115001_1, .slice none 0 0] 24 (0, 0)) (by (with_reducible repeat (first | refine blk_drewN ?_ _ | refine blk_drew ?_ | refine blk_alloc ?_ _)); refine blk_far ?_ NB114_143.out _; (with_reducible repeat (first | refine blk_drewN ?_ _ | refine blk_drew ?_ | refine blk_alloc ?_ _)); refine blk_far ?_ NB114_143.out _; (with_reducible repeat (first | refine blk_drewN ?_ _ | refine blk_drew ?_ | refine blk_alloc ?_ _)); refine blk_far ?_ NB114_143.out _; (with_reducible repeat (first | refine blk_drewN ?_ _ | refine blk_drew ?_ | refine blk_alloc ?_ _)); exact BK114.out) hb); have n3_ := Aside0.mk (blk_below (g := gb143) (o := .cells #[.int .u8 ((rd x5_1 0) % 256), .int .i64 (rd x5_1 1), .slice A70 y140.length c70] 24 (0, 0)) (by (with_reducible repeat (first | refine blk_drewN ?_ _ | refine blk_drew ?_ | refine blk_alloc ?_ _)); refine blk_put (cs := #[.int .u8 ((rd x5_1 0) % 256), .int .i64 (rd x5_1 1), .slice none 0 0]) ?_ 2 _ rfl; (with_reducible repeat (first | refine blk_drewN ?_ _ | refine blk_drew ?_ | refine blk_alloc ?_ _)); refine blk_put (cs := #[.int .u8 ((rd x5_1 0) % 256), .int .i64 0, .slice none 0 0]) ?_ 1 _ rfl; (with_reducible repeat (first | refine blk_drewN ?_ _ | refine blk_drew ?_ | refine blk_alloc ?_ _)); refine blk_put (cs := #[.int .u8 0, .int .i64 0, .slice none 0 0]) ?_ 0 _ rfl; (with_reducible repeat (first | refine blk_drewN ?_ _ | refine blk_drew ?_ | refine blk_alloc ?_ _)); exact BK143.out) hb); have n4_ := Aside0.mk (below_step (by repeat (first | (with_reducible first | exact HB.out | apply below_alloc | apply pw_below_drewN | apply below_drew1 | refine below_set ?_ GE114.out | refine below_set ?_ GE143.out) | exact HB.out)) hb); clear HO142; clear HO_28; clear BK114; clear BK143; clear HB; have HO142 := n0_; have HO_28 := n1_; have BK114 := n2_; have BK143 := n3_; have HB := n4_; clear n0_ n1_ n2_ n3_ n4_; (try clear hb); (try clear hb2); (try clear hk); (try clear hi); have hcz78_0 : w77.cell? ⟨gb114, 0, none⟩ = some (.int .u8 x115000_1) := (blk_cell BK114.out 0).trans rfl; have hcz78_1 : w77.cell? ⟨gb114, 1, none⟩ = some (.int .i64 x115001_1) := (blk_cell BK114.out 1).trans rfl; have hcz78_2 : w77.cell? ⟨gb114, 2, none⟩ = some (.slice none 0 0) := (blk_cell BK114.out 2).trans rfl; have hfz78_0 := blk_frozen BK114.out 0; have hfz78_1 := blk_frozen BK114.out 1; have hfz78_2 := blk_frozen BK114.out 2))
                            refine bodyPost_ret (results_ct rfl _ _ gb114 24 #[.int .u8 0, .int .i64 0, .slice none 0 0] (0, 0) _ rfl (by (with_reducible repeat (first | refine blk_drewN ?_ _ | refine blk_drew ?_ | refine blk_alloc ?_ _)); refine blk_put (cs := #[.int .u8 0, .int .i64 0, .slice none 0 0]) ?_ 2 _ rfl; (with_reducible repeat (first | refine blk_drewN ?_ _ | refine blk_drew ?_ | refine blk_alloc ?_ _)); refine blk_put (cs := #[.int .u8 0, .int .i64 x115001_1, .slice none 0 0]) ?_ 1 _ rfl; (with_reducible repeat (first | refine blk_drewN ?_ _ | refine blk_drew ?_ | refine blk_alloc ?_ _)); refine blk_put (cs := #[.int .u8 x115000_1, .int .i64 x115001_1, .slice none 0 0]) ?_ 0 _ rfl; (with_reducible repeat (first | refine blk_drewN ?_ _ | refine blk_drew ?_ | refine blk_alloc ?_ _)); exact BK114.out) Tryd.underlying24 rfl (by kernel_rfl)) rfl ?_
                            exact ⟨_, by first | rfl | (simp [errW_none, errW_some] <;> rfl) | (simp [*, errW_none, errW_some] <;> rfl), Kd.Q_of_R (by first | exact Kd.R_nil _ _ _ _ _ | exact Kd.N_nil _ _ _ _ _ | exact Kd.V_nil _ _ _ _ _ | exact Kd.Q_nil _ _ _ _ _ | exact Kd.S_nil _ _ _ _ _), by repeat (first | (with_reducible first | exact HB.out | apply below_alloc | apply pw_below_drewN | apply below_drew1 | refine below_set ?_ GE114.out | refine below_set ?_ GE143.out) | exact HB.out)⟩
                        · rw [if_neg c41] at H
                          exact absurd H (by simp)
                      · rw [if_neg c40] at H
                        exact absurd H (by simp)
                  · rw [if_neg c36] at H
                    exact absurd H (by simp)
          · rw [if_neg c11] at H
            exact absurd H (by simp)
        · rw [if_neg c10] at H
          exact absurd H (by simp)
      · rw [if_neg c9] at H
        exact absurd H (by simp)
    · rw [if_neg c8] at H
      exact absurd H (by simp)

end Go.Proofs.YtgalbiokebghkaaDoor.P
