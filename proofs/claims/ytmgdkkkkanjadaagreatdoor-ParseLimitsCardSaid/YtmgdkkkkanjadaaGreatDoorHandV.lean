/-
  Effects held against each other (joustref00.Effect), where they are alike. Conditions: none.
-/
import Derived.Test.YtmgdkkkkanjadaaGreatDoorHandX
import Derived.Test.YtmgdkkkkanjadaaGreatDoorHandC
namespace Go.Proofs.YtmgdkkkkanjadaaGreatDoor.CmpV
open Go.RowKit Go.Proofs.YtmgdkkkkanjadaaGreatDoorW.PrintWords Go.Proofs.YtmgdkkkkanjadaaGreatDoorW.PrintLast Go.Proofs.YtmgdkkkkanjadaaGreatDoorW.PrintMore Go.Proofs.YtmgdkkkkanjadaaGreatDoor.X Go.Proofs.YtmgdkkkkanjadaaGreatDoor.HandS Go.Proofs.YtmgdkkkkanjadaaGreatDoor.Iter
attribute [local go_sem] max2_int min2_int max_two min_two max_three min_three max_four min_four
set_option linter.unusedVariables false
set_option linter.unusedSimpArgs false
section
open Go.Proofs.YtmgdkkkkanjadaaGreatDoor.HandA
theorem far_grown {W W1 : World} {g : Nat} {q : Addr} {v : Value} (hG : W.grownBy W1 (some g)) (hne : q.block ≠ g) (h : W.cell? q = some v) : W1.cell? q = some v := by
  have hl := World.block_lt_of_cell? W q h
  unfold World.cell? at h ⊢
  rw [hG.block _ hl (fun e => hne (Option.some.inj e))]
  exact h
theorem skip_row {ops : Array Oper} {oi : Oper} {a : Act} {W : World} {K : Act → World → Prop} {Q : Exit → Act → World → Prop} (hw : Region.wanted oi (yielded ops a.tmps) = true) (hN : oi.dst = none) {ty : TypeId} {u y : Operand} (ho : oi.op = .store ty u y) (g : Nat) (cells : Array Value)
    (hx : a.eval u = .pointer (some ⟨g, 0, none⟩)) (hy : a.eval y = .agg cells) {t : TypeId} {old : Array Value} (hg : W.heap[g]? = some (.cells old t (0, 0))) (hi : (Tryz.prog.info? ty).map (·.size) = some cells.size) (hold : old.size = cells.size) (h1 : cells.all (·.oneCell') = true)
    (h : ∀ W1, W1.heap[g]? = some (.cells cells t (0, 0)) → W.grownBy W1 (some g) → K a W1) : if Region.wanted oi (yielded ops a.tmps) = true then Oper.wp Tryz.prog oi a W K Q else K (a.put none undef) W := by
  rw [if_pos hw]
  refine wp_store_row ty u y ho g cells hx hy t old hg hi hold h1 ?_
  rw [hN]
  exact h _ (setRow_at hg) (grown_setRow W g cells)
end
theorem row_ne {W : World} {g : Nat} {q : Addr} {v : Value} (h : W.cell? q = some v) (hg : W.heap.size ≤ g) : q.block ≠ g := Nat.ne_of_lt (Nat.lt_of_lt_of_le (World.block_lt_of_cell? W q h) hg)


theorem eqA40v (d : Nat) (w : World) (x0 y0 : Int) (x1 y1 : Int) (x2 y2 : Int) :
    (Op.equalIn (d + 2) 40 (.agg #[.int .u8 x0, .int .u8 x1, .int .u8 x2]) (.agg #[.int .u8 y0, .int .u8 y1, .int .u8 y2])).run Tryz.prog w = .ok (x0 == y0 && (x1 == y1 && (x2 == y2))) w := by
  refine eqA_of Tryz.underlying40 (by kernel_rfl) ?_
  refine eqf_cons (by rfl) (by go_simp; rfl) (by go_simp; rfl) (by go_simp) ?_
  refine eqf_cons (by rfl) (by go_simp; rfl) (by go_simp; rfl) (by go_simp) ?_
  exact eqf_last (by rfl) (by go_simp; rfl) (by go_simp; rfl) (by go_simp)


attribute [local go_sem high] eqA40v
/-! ### joustref00_Effect: function 64 -/
mutual
def joustref00_Effect.j0 : Nat → Bool → Int → Int → Int → List (S50) → Int → Int → Bool → Int → Int → Int → Int → List (S52) → Int → Int → Int → List (S50) → Int → Int → Bool → Int → Int → Int → Int → List (S52) → Option (Bool)
 | 0, _, _, _, _, _, _, _, _, _, _, _, _, _, _, _, _, _, _, _, _, _, _, _, _, _ => none
 | k + 1, x5, x102000, x102001, x102002, x102003, x102004, x102005, x102006, x102007, x102008, x102009, x102010, x102011, x103000, x103001, x103002, x103003, x103004, x103005, x103006, x103007, x103008, x103009, x103010, x103011 => joustref00_Effect.l0 k x5 0 x102000 x102001 x102002 x102003 x102004 x102005 x102006 x102007 x102008 x102009 x102010 x102011 x103000 x103001 x103002 x103003 x103004 x103005 x103006 x103007 x103008 x103009 x103010 x103011
def joustref00_Effect.l0 : Nat → Bool → Int → Int → Int → Int → List (S50) → Int → Int → Bool → Int → Int → Int → Int → List (S52) → Int → Int → Int → List (S50) → Int → Int → Bool → Int → Int → Int → Int → List (S52) → Option (Bool)
 | 0, _, _, _, _, _, _, _, _, _, _, _, _, _, _, _, _, _, _, _, _, _, _, _, _, _, _ => none
 | k + 1, x5, x6, x102000, x102001, x102002, x102003, x102004, x102005, x102006, x102007, x102008, x102009, x102010, x102011, x103000, x103001, x103002, x103003, x103004, x103005, x103006, x103007, x103008, x103009, x103010, x103011 => if x5 = true then (if x6 < (x102011.length : Int) then (if 0 ≤ x6 then (if x6 < (x103011.length : Int) then (if ((rd_T52 x102011 x6).f0) = ((rd_T52 x103011 x6).f0) then (if ((rd_T52 x102011 x6).f1) = ((rd_T52 x103011 x6).f1) then (if (((rd_T52 x102011 x6).f3) == ((rd_T52 x103011 x6).f3)) = true then (if (((rd_T52 x102011 x6).f4.f0) == ((rd_T52 x103011 x6).f4.f0) && (((rd_T52 x102011 x6).f4.f1) == ((rd_T52 x103011 x6).f4.f1) && (((rd_T52 x102011 x6).f4.f2) == ((rd_T52 x103011 x6).f4.f2)))) = true then ((joustref00_Expr.f ((rd_T52 x102011 x6).f2.f0) ((rd_T52 x102011 x6).f2.f1) ((rd_T52 x102011 x6).f2.f2) ((rd_T52 x102011 x6).f2.f3.f0) ((rd_T52 x102011 x6).f2.f3.f1) ((rd_T52 x102011 x6).f2.f3.f2) ((rd_T52 x102011 x6).f2.f4) ((rd_T52 x103011 x6).f2.f0) ((rd_T52 x103011 x6).f2.f1) ((rd_T52 x103011 x6).f2.f2) ((rd_T52 x103011 x6).f2.f3.f0) ((rd_T52 x103011 x6).f2.f3.f1) ((rd_T52 x103011 x6).f2.f3.f2) ((rd_T52 x103011 x6).f2.f4)).bind fun t108 => (joustref00_Effect.l0 k t108 (wrap64 (x6 + 1)) x102000 x102001 x102002 x102003 x102004 x102005 x102006 x102007 x102008 x102009 x102010 x102011 x103000 x103001 x103002 x103003 x103004 x103005 x103006 x103007 x103008 x103009 x103010 x103011)) else (none)) else (none)) else (none)) else (none)) else (none)) else (none)) else (some x5)) else (some x5)
end
def joustref00_Effect.g (k : Nat) (a0_0 : Int) (a0_1 : Int) (a0_2 : Int) (l0_3 : List (S50)) (a0_4 : Int) (a0_5 : Int) (a0_6 : Bool) (a0_7 : Int) (a0_8 : Int) (a0_9 : Int) (a0_10 : Int) (l0_11 : List (S52)) (a1_0 : Int) (a1_1 : Int) (a1_2 : Int) (l1_3 : List (S50)) (a1_4 : Int) (a1_5 : Int) (a1_6 : Bool) (a1_7 : Int) (a1_8 : Int) (a1_9 : Int) (a1_10 : Int) (l1_11 : List (S52)) : Option (Bool) := if a0_0 = a1_0 then (if a0_1 = a1_1 then (if a0_2 = a1_2 then (if a0_4 = a1_4 then (if a0_5 = a1_5 then (if (a0_6 == a1_6) = true then (if a0_7 = a1_7 then (if (a0_8 == a1_8 && (a0_9 == a1_9 && (a0_10 == a1_10))) = true then ((joustref00_Exprs.f l0_3 l1_3).bind fun t103 => (if t103 = true then (joustref00_Effect.j0 k ((l0_11.length : Int) == (l1_11.length : Int)) a0_0 a0_1 a0_2 l0_3 a0_4 a0_5 a0_6 a0_7 a0_8 a0_9 a0_10 l0_11 a1_0 a1_1 a1_2 l1_3 a1_4 a1_5 a1_6 a1_7 a1_8 a1_9 a1_10 l1_11) else (none))) else (none)) else (none)) else (none)) else (none)) else (none)) else (none)) else (none)) else (none)
def joustref00_Effect.T5 : Bool × List (List Nat × List Nat) := (true, [([], []), ([0], [0]), ([], []), ([1, 2], [1, 2]), ([3], [3]), ([], []), ([5], [5]), ([], []), ([6, 7], [6, 7]), ([8], [8]), ([], []), ([], []), ([10, 4, 0, 1, 2, 3, 4, 10, 11], [4, 10]), ([11, 9, 12, 0, 1, 2, 3, 4, 5, 6, 7, 8, 9, 10, 11, 12], [9, 11])])
def joustref00_Effect.B5 : List Nat := [0, 1, 0, 7, 15, 0, 32, 0, 224, 480, 0, 0, 3103, 8191]
theorem joustref00_Effect.tab5 : rtab .any (opsOf Tryz.f64 5) = joustref00_Effect.T5 := by kernel_rfl
theorem joustref00_Effect.bits5 : waitsOk joustref00_Effect.T5.2 joustref00_Effect.B5 = true := by kernel_rfl
set_option maxHeartbeats 8000000 in
set_option maxRecDepth 100000 in
theorem joustref00_Effect.calls_true (k : Nat) (a0_0 : Int) (a0_1 : Int) (a0_2 : Int) (A0_3 : Option Addr) (c0_3 : Nat) (l0_3 : List (S50)) (a0_4 : Int) (a0_5 : Int) (a0_6 : Bool) (a0_7 : Int) (a0_8 : Int) (a0_9 : Int) (a0_10 : Int) (A0_11 : Option Addr) (c0_11 : Nat) (l0_11 : List (S52)) (a1_0 : Int) (a1_1 : Int) (a1_2 : Int) (A1_3 : Option Addr) (c1_3 : Nat) (l1_3 : List (S50)) (a1_4 : Int) (a1_5 : Int) (a1_6 : Bool) (a1_7 : Int) (a1_8 : Int) (a1_9 : Int) (a1_10 : Int) (A1_11 : Option Addr) (c1_11 : Nat) (l1_11 : List (S52)) (w : World) (hr0_3 : Kd.C k50 w A0_3 l0_3.length l0_3) (hc0_3 : l0_3.length ≤ c0_3) (hr0_11 : Kd.C k52 w A0_11 l0_11.length l0_11) (hc0_11 : l0_11.length ≤ c0_11) (hr1_3 : Kd.C k50 w A1_3 l1_3.length l1_3) (hc1_3 : l1_3.length ≤ c1_3) (hr1_11 : Kd.C k52 w A1_11 l1_11.length l1_11) (hc1_11 : l1_11.length ≤ c1_11) (h : joustref00_Effect.g k a0_0 a0_1 a0_2 l0_3 a0_4 a0_5 a0_6 a0_7 a0_8 a0_9 a0_10 l0_11 a1_0 a1_1 a1_2 l1_3 a1_4 a1_5 a1_6 a1_7 a1_8 a1_9 a1_10 l1_11 = some true) :
  Calls Tryz.prog 64 #[.agg #[.int .u8 a0_0, .int .u8 a0_1, .int .u8 a0_2, .slice A0_3 l0_3.length c0_3, .int .i64 a0_4, .int .i64 a0_5, .bool a0_6, .int .i64 a0_7, .int .u8 a0_8, .int .u8 a0_9, .int .u8 a0_10, .slice A0_11 l0_11.length c0_11], .agg #[.int .u8 a1_0, .int .u8 a1_1, .int .u8 a1_2, .slice A1_3 l1_3.length c1_3, .int .i64 a1_4, .int .i64 a1_5, .bool a1_6, .int .i64 a1_7, .int .u8 a1_8, .int .u8 a1_9, .int .u8 a1_10, .slice A1_11 l1_11.length c1_11]] w fun e w' => e = .returned (.bool true) ∧ Below w.heap.size w w' := by
 have hu43 := Tryz.underlying43
 have hu40 := Tryz.underlying40
 have hu52 := Tryz.underlying52
 have hu50 := Tryz.underlying50
 have HR0_3 := Aside0.mk hr0_3
 have HC0_3 := Aside0.mk hc0_3
 clear hr0_3 hc0_3
 have HR0_11 := Aside0.mk hr0_11
 have HC0_11 := Aside0.mk hc0_11
 clear hr0_11 hc0_11
 have HR1_3 := Aside0.mk hr1_3
 have HC1_3 := Aside0.mk hc1_3
 clear hr1_3 hc1_3
 have HR1_11 := Aside0.mk hr1_11
 have HC1_11 := Aside0.mk hc1_11
 clear hr1_11 hc1_11
 have HB := Aside0.mk (Below.refl w.heap.size w)
 have H : (if a0_0 = a1_0 then (if a0_1 = a1_1 then (if a0_2 = a1_2 then (if a0_4 = a1_4 then (if a0_5 = a1_5 then (if (a0_6 == a1_6) = true then (if a0_7 = a1_7 then (if (a0_8 == a1_8 && (a0_9 == a1_9 && (a0_10 == a1_10))) = true then ((joustref00_Exprs.f l0_3 l1_3).bind fun t103 => (if t103 = true then (joustref00_Effect.j0 k ((l0_11.length : Int) == (l1_11.length : Int)) a0_0 a0_1 a0_2 l0_3 a0_4 a0_5 a0_6 a0_7 a0_8 a0_9 a0_10 l0_11 a1_0 a1_1 a1_2 l1_3 a1_4 a1_5 a1_6 a1_7 a1_8 a1_9 a1_10 l1_11) else (none))) else (none)) else (none)) else (none)) else (none)) else (none)) else (none)) else (none)) else (none)) = some true := h
 clear h
 have HC3 := Aside0.mk H
 clear H
 go_enter Tryz.func64, Tryz.ntmps64
 go_upto_region 1 with (first | ((with_reducible refine gate_dst (N := 2) rfl ?_); (try (refine gate_guard (by rfl) ?_; dsimp only)); refine box_event ?hg (N := 2) ?hd (cs := #[.int .u8 a0_0, .int .u8 a0_1, .int .u8 a0_2, .slice A0_3 l0_3.length c0_3, .int .i64 a0_4, .int .i64 a0_5, .bool a0_6, .int .i64 a0_7, .int .u8 a0_8, .int .u8 a0_9, .int .u8 a0_10, .slice A0_11 l0_11.length c0_11]) (t := 43) ?hr ?_; (case hd => rfl); (case hg => rfl); (case hr => first | (go_simp; done) | (go_simp; rfl)); intro gb101 hg w4 hbox hb; have n0_ := Aside0.mk (below_step (by repeat (first | (with_reducible first | exact HB.out | apply below_alloc | apply pw_below_drewN | apply below_drew1) | exact HB.out)) hb); have n1_ := Aside0.mk (hbox); have n2_ := Aside0.mk ((by rw [hg]; exact (below_size (by repeat (first | (with_reducible first | exact HB.out | apply below_alloc | apply pw_below_drewN | apply below_drew1) | exact HB.out))) : w.heap.size ≤ gb101)); have n3_ := Aside0.mk ((by rw [hg]; exact (below_size (by repeat (first | (with_reducible first | exact HB.out | apply below_alloc | apply pw_below_drewN | apply below_drew1) | exact HB.out))) : w.heap.size ≤ gb101)); clear HB; have HB := n0_; have BK101 := n1_; have GW101 := n2_; have GE101 := n3_; clear n0_ n1_ n2_ n3_; clear hb hbox hg) | ((with_reducible refine gate_dst (N := 3) rfl ?_); (try (refine gate_guard (by rfl) ?_; dsimp only)); refine box_event ?hg (N := 3) ?hd (cs := #[.int .u8 a1_0, .int .u8 a1_1, .int .u8 a1_2, .slice A1_3 l1_3.length c1_3, .int .i64 a1_4, .int .i64 a1_5, .bool a1_6, .int .i64 a1_7, .int .u8 a1_8, .int .u8 a1_9, .int .u8 a1_10, .slice A1_11 l1_11.length c1_11]) (t := 43) ?hr ?_; (case hd => rfl); (case hg => rfl); (case hr => first | (go_simp; done) | (go_simp; rfl)); intro gb102 hg w5 hbox hb; have n0_ := Aside0.mk (blk_below (g := gb101) (o := .cells #[.int .u8 a0_0, .int .u8 a0_1, .int .u8 a0_2, .slice A0_3 l0_3.length c0_3, .int .i64 a0_4, .int .i64 a0_5, .bool a0_6, .int .i64 a0_7, .int .u8 a0_8, .int .u8 a0_9, .int .u8 a0_10, .slice A0_11 l0_11.length c0_11] 43 (0, 0)) (by (with_reducible repeat (first | refine blk_drewN ?_ _ | refine blk_drew ?_ | refine blk_alloc ?_ _)); exact BK101.out) hb); have n1_ := Aside0.mk (below_step (by repeat (first | (with_reducible first | exact HB.out | apply below_alloc | apply pw_below_drewN | apply below_drew1 | refine below_set ?_ GE101.out) | exact HB.out)) hb); have n2_ := Aside0.mk (hbox); have n3_ := Aside0.mk ((by rw [hg]; exact (below_size (by repeat (first | (with_reducible first | exact HB.out | apply below_alloc | apply pw_below_drewN | apply below_drew1 | refine below_set ?_ GE101.out) | exact HB.out))) : w.heap.size ≤ gb102)); have n4_ := Aside0.mk ((by rw [hg]; exact (below_size (by repeat (first | (with_reducible first | exact HB.out | apply below_alloc | apply pw_below_drewN | apply below_drew1 | refine below_set ?_ GE101.out) | exact HB.out))) : w.heap.size ≤ gb102)); have n5_ := Aside0.mk ((by rw [hg]; exact Nat.ne_of_lt (blk_lt (g := gb101) (o := .cells #[.int .u8 a0_0, .int .u8 a0_1, .int .u8 a0_2, .slice A0_3 l0_3.length c0_3, .int .i64 a0_4, .int .i64 a0_5, .bool a0_6, .int .i64 a0_7, .int .u8 a0_8, .int .u8 a0_9, .int .u8 a0_10, .slice A0_11 l0_11.length c0_11] 43 (0, 0)) (by (with_reducible repeat (first | refine blk_drewN ?_ _ | refine blk_drew ?_ | refine blk_alloc ?_ _)); exact BK101.out)) : gb101 ≠ gb102)); have n6_ := Aside0.mk ((by rw [hg]; exact Nat.ne_of_gt (blk_lt (g := gb101) (o := .cells #[.int .u8 a0_0, .int .u8 a0_1, .int .u8 a0_2, .slice A0_3 l0_3.length c0_3, .int .i64 a0_4, .int .i64 a0_5, .bool a0_6, .int .i64 a0_7, .int .u8 a0_8, .int .u8 a0_9, .int .u8 a0_10, .slice A0_11 l0_11.length c0_11] 43 (0, 0)) (by (with_reducible repeat (first | refine blk_drewN ?_ _ | refine blk_drew ?_ | refine blk_alloc ?_ _)); exact BK101.out)) : gb102 ≠ gb101)); clear BK101; clear HB; have BK101 := n0_; have HB := n1_; have BK102 := n2_; have GW102 := n3_; have GE102 := n4_; have NB101_102 := n5_; have NB102_101 := n6_; clear n0_ n1_ n2_ n3_ n4_ n5_ n6_; clear hb hbox hg))
 (try simp only [Act.put, List.setIfInBounds_toArray, List.set_cons_zero, List.set_cons_succ])
 go_cut [5] (fun v5 wc => ∃ (kq : Nat) (x5_2 : Bool), v5 = .bool x5_2 ∧ Aside0 (joustref00_Effect.j0 kq x5_2 a0_0 a0_1 a0_2 l0_3 a0_4 a0_5 a0_6 a0_7 a0_8 a0_9 a0_10 l0_11 a1_0 a1_1 a1_2 l1_3 a1_4 a1_5 a1_6 a1_7 a1_8 a1_9 a1_10 l1_11 = some true) ∧ Aside0 (kq ≤ k) ∧ Aside0 (wc.heap[gb101]? = some (.cells #[.int .u8 a0_0, .int .u8 a0_1, .int .u8 a0_2, (.slice A0_3 l0_3.length c0_3), .int .i64 a0_4, .int .i64 a0_5, .bool a0_6, .int .i64 a0_7, .int .u8 a0_8, .int .u8 a0_9, .int .u8 a0_10, (.slice A0_11 l0_11.length c0_11)] 43 (0, 0))) ∧ Aside0 (wc.heap[gb102]? = some (.cells #[.int .u8 a1_0, .int .u8 a1_1, .int .u8 a1_2, (.slice A1_3 l1_3.length c1_3), .int .i64 a1_4, .int .i64 a1_5, .bool a1_6, .int .i64 a1_7, .int .u8 a1_8, .int .u8 a1_9, .int .u8 a1_10, (.slice A1_11 l1_11.length c1_11)] 43 (0, 0))) ∧ Aside0 (Below w.heap.size w wc))
 case first =>
  have H := HC3.out
  clear HC3
  by_cases c6 : a0_0 = a1_0
  ·rw [if_pos c6] at H
   have c6b0 : (a0_0 == a1_0) = true := beq_iff_eq.mpr c6
   have c6b1 : (a0_0 != a1_0) = false := bne_eq_false_iff_eq.mpr c6
   clear c6
   (first | rw [c6b0] | (simp only [i64_w, i32_w]; rw [c6b0]) | skip)
   by_cases c7 : a0_1 = a1_1
   ·rw [if_pos c7] at H
    have c7b0 : (a0_1 == a1_1) = true := beq_iff_eq.mpr c7
    have c7b1 : (a0_1 != a1_1) = false := bne_eq_false_iff_eq.mpr c7
    clear c7
    by_cases c8 : a0_2 = a1_2
    ·rw [if_pos c8] at H
     have c8b0 : (a0_2 == a1_2) = true := beq_iff_eq.mpr c8
     have c8b1 : (a0_2 != a1_2) = false := bne_eq_false_iff_eq.mpr c8
     clear c8
     by_cases c9 : a0_4 = a1_4
     ·rw [if_pos c9] at H
      have c9b0 : (a0_4 == a1_4) = true := beq_iff_eq.mpr c9
      have c9b1 : (a0_4 != a1_4) = false := bne_eq_false_iff_eq.mpr c9
      clear c9
      by_cases c10 : a0_5 = a1_5
      ·rw [if_pos c10] at H
       have c10b0 : (a0_5 == a1_5) = true := beq_iff_eq.mpr c10
       have c10b1 : (a0_5 != a1_5) = false := bne_eq_false_iff_eq.mpr c10
       clear c10
       by_cases c11 : (a0_6 == a1_6) = true
       ·rw [if_pos c11] at H
        have c11b0 : (a0_6 == a1_6) = true := c11
        (try (have c11b1 : decide (a0_6 = a1_6) = true := by simpa using c11))
        (try (have c11b2 : (a0_6 == a1_6) = true := by simpa using c11))
        clear c11
        by_cases c12 : a0_7 = a1_7
        ·rw [if_pos c12] at H
         have c12b0 : (a0_7 == a1_7) = true := beq_iff_eq.mpr c12
         have c12b1 : (a0_7 != a1_7) = false := bne_eq_false_iff_eq.mpr c12
         clear c12
         by_cases c13 : (a0_8 == a1_8 && (a0_9 == a1_9 && (a0_10 == a1_10))) = true
         ·rw [if_pos c13] at H
          have c13b0 : (a0_8 == a1_8 && (a0_9 == a1_9 && (a0_10 == a1_10))) = true := c13
          (try (have c13b1 : decide (a0_8 = a1_8 && (a0_9 == a1_9 && (a0_10 == a1_10))) = true := by simpa using c13))
          (try (have c13b2 : (a0_8 == a1_8 && (a0_9 == a1_9 && (a0_10 == a1_10))) = true := by simpa using c13))
          clear c13
          replace H := Option.bind_eq_some_iff.mp H
          obtain ⟨t103, A140, H⟩ := H
          replace H : (if t103 = true then (joustref00_Effect.j0 k ((l0_11.length : Int) == (l1_11.length : Int)) a0_0 a0_1 a0_2 l0_3 a0_4 a0_5 a0_6 a0_7 a0_8 a0_9 a0_10 l0_11 a1_0 a1_1 a1_2 l1_3 a1_4 a1_5 a1_6 a1_7 a1_8 a1_9 a1_10 l1_11) else (none)) = some true := H
          have A14 := Aside0.mk A140
          clear A140
          by_cases c15 : t103 = true
          ·subst c15
           have H1 : (joustref00_Effect.j0 k ((l0_11.length : Int) == (l1_11.length : Int)) a0_0 a0_1 a0_2 l0_3 a0_4 a0_5 a0_6 a0_7 a0_8 a0_9 a0_10 l0_11 a1_0 a1_1 a1_2 l1_3 a1_4 a1_5 a1_6 a1_7 a1_8 a1_9 a1_10 l1_11) = some true := by rw [if_pos rfl] at H; exact H
           clear H
           have H := H1
           clear H1
           have H' := Aside0.mk H
           clear H
           have hnb16 := NB101_102.out
           have hnc16 := NB102_101.out
           have hcz17_0 : w5.cell? ⟨gb101, 0, none⟩ = some (.int .u8 a0_0) := (blk_cell BK101.out 0).trans rfl
           have hcz17_1 : w5.cell? ⟨gb101, 1, none⟩ = some (.int .u8 a0_1) := (blk_cell BK101.out 1).trans rfl
           have hcz17_2 : w5.cell? ⟨gb101, 2, none⟩ = some (.int .u8 a0_2) := (blk_cell BK101.out 2).trans rfl
           have hcz17_3 : w5.cell? ⟨gb101, 3, none⟩ = some (.slice A0_3 l0_3.length c0_3) := (blk_cell BK101.out 3).trans rfl
           have hcz17_4 : w5.cell? ⟨gb101, 4, none⟩ = some (.int .i64 a0_4) := (blk_cell BK101.out 4).trans rfl
           have hcz17_5 : w5.cell? ⟨gb101, 5, none⟩ = some (.int .i64 a0_5) := (blk_cell BK101.out 5).trans rfl
           have hcz17_6 : w5.cell? ⟨gb101, 6, none⟩ = some (.bool a0_6) := (blk_cell BK101.out 6).trans rfl
           have hcz17_7 : w5.cell? ⟨gb101, 7, none⟩ = some (.int .i64 a0_7) := (blk_cell BK101.out 7).trans rfl
           have hcz17_8 : w5.cell? ⟨gb101, 8, none⟩ = some (.int .u8 a0_8) := (blk_cell BK101.out 8).trans rfl
           have hcz17_9 : w5.cell? ⟨gb101, 9, none⟩ = some (.int .u8 a0_9) := (blk_cell BK101.out 9).trans rfl
           have hcz17_10 : w5.cell? ⟨gb101, 10, none⟩ = some (.int .u8 a0_10) := (blk_cell BK101.out 10).trans rfl
           have hcz17_11 : w5.cell? ⟨gb101, 11, none⟩ = some (.slice A0_11 l0_11.length c0_11) := (blk_cell BK101.out 11).trans rfl
           have hfz17_0 := blk_frozen BK101.out 0
           have hfz17_1 := blk_frozen BK101.out 1
           have hfz17_2 := blk_frozen BK101.out 2
           have hfz17_3 := blk_frozen BK101.out 3
           have hfz17_4 := blk_frozen BK101.out 4
           have hfz17_5 := blk_frozen BK101.out 5
           have hfz17_6 := blk_frozen BK101.out 6
           have hfz17_7 := blk_frozen BK101.out 7
           have hfz17_8 := blk_frozen BK101.out 8
           have hfz17_9 := blk_frozen BK101.out 9
           have hfz17_10 := blk_frozen BK101.out 10
           have hfz17_11 := blk_frozen BK101.out 11
           have hcz18_0 : w5.cell? ⟨gb102, 0, none⟩ = some (.int .u8 a1_0) := (blk_cell BK102.out 0).trans rfl
           have hcz18_1 : w5.cell? ⟨gb102, 1, none⟩ = some (.int .u8 a1_1) := (blk_cell BK102.out 1).trans rfl
           have hcz18_2 : w5.cell? ⟨gb102, 2, none⟩ = some (.int .u8 a1_2) := (blk_cell BK102.out 2).trans rfl
           have hcz18_3 : w5.cell? ⟨gb102, 3, none⟩ = some (.slice A1_3 l1_3.length c1_3) := (blk_cell BK102.out 3).trans rfl
           have hcz18_4 : w5.cell? ⟨gb102, 4, none⟩ = some (.int .i64 a1_4) := (blk_cell BK102.out 4).trans rfl
           have hcz18_5 : w5.cell? ⟨gb102, 5, none⟩ = some (.int .i64 a1_5) := (blk_cell BK102.out 5).trans rfl
           have hcz18_6 : w5.cell? ⟨gb102, 6, none⟩ = some (.bool a1_6) := (blk_cell BK102.out 6).trans rfl
           have hcz18_7 : w5.cell? ⟨gb102, 7, none⟩ = some (.int .i64 a1_7) := (blk_cell BK102.out 7).trans rfl
           have hcz18_8 : w5.cell? ⟨gb102, 8, none⟩ = some (.int .u8 a1_8) := (blk_cell BK102.out 8).trans rfl
           have hcz18_9 : w5.cell? ⟨gb102, 9, none⟩ = some (.int .u8 a1_9) := (blk_cell BK102.out 9).trans rfl
           have hcz18_10 : w5.cell? ⟨gb102, 10, none⟩ = some (.int .u8 a1_10) := (blk_cell BK102.out 10).trans rfl
           have hcz18_11 : w5.cell? ⟨gb102, 11, none⟩ = some (.slice A1_11 l1_11.length c1_11) := (blk_cell BK102.out 11).trans rfl
           have hfz18_0 := blk_frozen BK102.out 0
           have hfz18_1 := blk_frozen BK102.out 1
           have hfz18_2 := blk_frozen BK102.out 2
           have hfz18_3 := blk_frozen BK102.out 3
           have hfz18_4 := blk_frozen BK102.out 4
           have hfz18_5 := blk_frozen BK102.out 5
           have hfz18_6 := blk_frozen BK102.out 6
           have hfz18_7 := blk_frozen BK102.out 7
           have hfz18_8 := blk_frozen BK102.out 8
           have hfz18_9 := blk_frozen BK102.out 9
           have hfz18_10 := blk_frozen BK102.out 10
           have hfz18_11 := blk_frozen BK102.out 11
           go_wp2_with (first | (go_at_call 11; (with_reducible refine (joustref00_Exprs.calls _ _ l0_3 _ _ l1_3 true _ ?side1 ?side2 ?side3 ?side4 A14.out).mono ?_); (case side1 => repeat (first | exact (Kd.C_below HR0_3.out HB.out) | (with_reducible refine Kd.C_alloc ?_ _) | (with_reducible refine Kd.C_drewN ?_ _) | (with_reducible refine Kd.C_drew ?_))); (case side2 => exact HC0_3.out); (case side3 => repeat (first | exact (Kd.C_below HR1_3.out HB.out) | (with_reducible refine Kd.C_alloc ?_ _) | (with_reducible refine Kd.C_drewN ?_ _) | (with_reducible refine Kd.C_drew ?_))); (case side4 => exact HC1_3.out); rintro e w19 ⟨rfl, hb⟩; have n0_ := Aside0.mk (blk_below (g := gb101) (o := .cells #[.int .u8 a0_0, .int .u8 a0_1, .int .u8 a0_2, .slice A0_3 l0_3.length c0_3, .int .i64 a0_4, .int .i64 a0_5, .bool a0_6, .int .i64 a0_7, .int .u8 a0_8, .int .u8 a0_9, .int .u8 a0_10, .slice A0_11 l0_11.length c0_11] 43 (0, 0)) (by (with_reducible repeat (first | refine blk_drewN ?_ _ | refine blk_drew ?_ | refine blk_alloc ?_ _)); exact BK101.out) hb); have n1_ := Aside0.mk (blk_below (g := gb102) (o := .cells #[.int .u8 a1_0, .int .u8 a1_1, .int .u8 a1_2, .slice A1_3 l1_3.length c1_3, .int .i64 a1_4, .int .i64 a1_5, .bool a1_6, .int .i64 a1_7, .int .u8 a1_8, .int .u8 a1_9, .int .u8 a1_10, .slice A1_11 l1_11.length c1_11] 43 (0, 0)) (by (with_reducible repeat (first | refine blk_drewN ?_ _ | refine blk_drew ?_ | refine blk_alloc ?_ _)); exact BK102.out) hb); have n2_ := Aside0.mk (below_step (by repeat (first | (with_reducible first | exact HB.out | apply below_alloc | apply pw_below_drewN | apply below_drew1 | refine below_set ?_ GE101.out | refine below_set ?_ GE102.out) | exact HB.out)) hb); clear BK101; clear BK102; clear HB; have BK101 := n0_; have BK102 := n1_; have HB := n2_; clear n0_ n1_ n2_; (try clear hb); (try clear hb2); (try clear hk); (try clear hi); have hcz20_0 : w19.cell? ⟨gb101, 0, none⟩ = some (.int .u8 a0_0) := (blk_cell BK101.out 0).trans rfl; have hcz20_1 : w19.cell? ⟨gb101, 1, none⟩ = some (.int .u8 a0_1) := (blk_cell BK101.out 1).trans rfl; have hcz20_2 : w19.cell? ⟨gb101, 2, none⟩ = some (.int .u8 a0_2) := (blk_cell BK101.out 2).trans rfl; have hcz20_3 : w19.cell? ⟨gb101, 3, none⟩ = some (.slice A0_3 l0_3.length c0_3) := (blk_cell BK101.out 3).trans rfl; have hcz20_4 : w19.cell? ⟨gb101, 4, none⟩ = some (.int .i64 a0_4) := (blk_cell BK101.out 4).trans rfl; have hcz20_5 : w19.cell? ⟨gb101, 5, none⟩ = some (.int .i64 a0_5) := (blk_cell BK101.out 5).trans rfl; have hcz20_6 : w19.cell? ⟨gb101, 6, none⟩ = some (.bool a0_6) := (blk_cell BK101.out 6).trans rfl; have hcz20_7 : w19.cell? ⟨gb101, 7, none⟩ = some (.int .i64 a0_7) := (blk_cell BK101.out 7).trans rfl; have hcz20_8 : w19.cell? ⟨gb101, 8, none⟩ = some (.int .u8 a0_8) := (blk_cell BK101.out 8).trans rfl; have hcz20_9 : w19.cell? ⟨gb101, 9, none⟩ = some (.int .u8 a0_9) := (blk_cell BK101.out 9).trans rfl; have hcz20_10 : w19.cell? ⟨gb101, 10, none⟩ = some (.int .u8 a0_10) := (blk_cell BK101.out 10).trans rfl; have hcz20_11 : w19.cell? ⟨gb101, 11, none⟩ = some (.slice A0_11 l0_11.length c0_11) := (blk_cell BK101.out 11).trans rfl; have hfz20_0 := blk_frozen BK101.out 0; have hfz20_1 := blk_frozen BK101.out 1; have hfz20_2 := blk_frozen BK101.out 2; have hfz20_3 := blk_frozen BK101.out 3; have hfz20_4 := blk_frozen BK101.out 4; have hfz20_5 := blk_frozen BK101.out 5; have hfz20_6 := blk_frozen BK101.out 6; have hfz20_7 := blk_frozen BK101.out 7; have hfz20_8 := blk_frozen BK101.out 8; have hfz20_9 := blk_frozen BK101.out 9; have hfz20_10 := blk_frozen BK101.out 10; have hfz20_11 := blk_frozen BK101.out 11; have hcz21_0 : w19.cell? ⟨gb102, 0, none⟩ = some (.int .u8 a1_0) := (blk_cell BK102.out 0).trans rfl; have hcz21_1 : w19.cell? ⟨gb102, 1, none⟩ = some (.int .u8 a1_1) := (blk_cell BK102.out 1).trans rfl; have hcz21_2 : w19.cell? ⟨gb102, 2, none⟩ = some (.int .u8 a1_2) := (blk_cell BK102.out 2).trans rfl; have hcz21_3 : w19.cell? ⟨gb102, 3, none⟩ = some (.slice A1_3 l1_3.length c1_3) := (blk_cell BK102.out 3).trans rfl; have hcz21_4 : w19.cell? ⟨gb102, 4, none⟩ = some (.int .i64 a1_4) := (blk_cell BK102.out 4).trans rfl; have hcz21_5 : w19.cell? ⟨gb102, 5, none⟩ = some (.int .i64 a1_5) := (blk_cell BK102.out 5).trans rfl; have hcz21_6 : w19.cell? ⟨gb102, 6, none⟩ = some (.bool a1_6) := (blk_cell BK102.out 6).trans rfl; have hcz21_7 : w19.cell? ⟨gb102, 7, none⟩ = some (.int .i64 a1_7) := (blk_cell BK102.out 7).trans rfl; have hcz21_8 : w19.cell? ⟨gb102, 8, none⟩ = some (.int .u8 a1_8) := (blk_cell BK102.out 8).trans rfl; have hcz21_9 : w19.cell? ⟨gb102, 9, none⟩ = some (.int .u8 a1_9) := (blk_cell BK102.out 9).trans rfl; have hcz21_10 : w19.cell? ⟨gb102, 10, none⟩ = some (.int .u8 a1_10) := (blk_cell BK102.out 10).trans rfl; have hcz21_11 : w19.cell? ⟨gb102, 11, none⟩ = some (.slice A1_11 l1_11.length c1_11) := (blk_cell BK102.out 11).trans rfl; have hfz21_0 := blk_frozen BK102.out 0; have hfz21_1 := blk_frozen BK102.out 1; have hfz21_2 := blk_frozen BK102.out 2; have hfz21_3 := blk_frozen BK102.out 3; have hfz21_4 := blk_frozen BK102.out 4; have hfz21_5 := blk_frozen BK102.out 5; have hfz21_6 := blk_frozen BK102.out 6; have hfz21_7 := blk_frozen BK102.out 7; have hfz21_8 := blk_frozen BK102.out 8; have hfz21_9 := blk_frozen BK102.out 9; have hfz21_10 := blk_frozen BK102.out 10; have hfz21_11 := blk_frozen BK102.out 11))
           go_meet
           case rel => exact ⟨_, (((l0_11.length : Int) == (l1_11.length : Int))), (by first | rfl | (simp; done) | (simp [*]; done)), H', ⟨by first | omega | exact Nat.le_refl _⟩, ⟨by (with_reducible repeat (first | refine blk_drewN ?_ _ | refine blk_drew ?_ | refine blk_alloc ?_ _)); exact BK101.out⟩, ⟨by (with_reducible repeat (first | refine blk_drewN ?_ _ | refine blk_drew ?_ | refine blk_alloc ?_ _)); exact BK102.out⟩, ⟨by repeat (first | (with_reducible first | exact HB.out | apply below_alloc | apply pw_below_drewN | apply below_drew1 | refine below_set ?_ GE101.out | refine below_set ?_ GE102.out) | exact HB.out)⟩⟩
          ·rw [if_neg c15] at H
           exact absurd H (by simp)
         ·rw [if_neg c13] at H
          exact absurd H (by simp)
        ·rw [if_neg c12] at H
         exact absurd H (by simp)
       ·rw [if_neg c11] at H
        exact absurd H (by simp)
      ·rw [if_neg c10] at H
       exact absurd H (by simp)
     ·rw [if_neg c9] at H
      exact absurd H (by simp)
    ·rw [if_neg c8] at H
     exact absurd H (by simp)
   ·rw [if_neg c7] at H
    exact absurd H (by simp)
  ·rw [if_neg c6] at H
   exact absurd H (by simp)
 case rest =>
  clear HC3
  try clear c6
  try clear c6b0
  try clear c6b1
  try clear c7
  try clear c7b0
  try clear c7b1
  try clear c8
  try clear c8b0
  try clear c8b1
  try clear c9
  try clear c9b0
  try clear c9b1
  try clear c10
  try clear c10b0
  try clear c10b1
  try clear c11
  try clear c11b0
  try clear c11b1
  try clear c11b2
  try clear c12
  try clear c12b0
  try clear c12b1
  try clear c13
  try clear c13b0
  try clear c13b1
  try clear c13b2
  try clear c15
  try clear hcz17_0
  try clear hcz17_1
  try clear hcz17_10
  try clear hcz17_11
  try clear hcz17_2
  try clear hcz17_3
  try clear hcz17_4
  try clear hcz17_5
  try clear hcz17_6
  try clear hcz17_7
  try clear hcz17_8
  try clear hcz17_9
  try clear hcz18_0
  try clear hcz18_1
  try clear hcz18_10
  try clear hcz18_11
  try clear hcz18_2
  try clear hcz18_3
  try clear hcz18_4
  try clear hcz18_5
  try clear hcz18_6
  try clear hcz18_7
  try clear hcz18_8
  try clear hcz18_9
  try clear hcz20_0
  try clear hcz20_1
  try clear hcz20_10
  try clear hcz20_11
  try clear hcz20_2
  try clear hcz20_3
  try clear hcz20_4
  try clear hcz20_5
  try clear hcz20_6
  try clear hcz20_7
  try clear hcz20_8
  try clear hcz20_9
  try clear hcz21_0
  try clear hcz21_1
  try clear hcz21_10
  try clear hcz21_11
  try clear hcz21_2
  try clear hcz21_3
  try clear hcz21_4
  try clear hcz21_5
  try clear hcz21_6
  try clear hcz21_7
  try clear hcz21_8
  try clear hcz21_9
  try clear hfz17_0
  try clear hfz17_1
  try clear hfz17_10
  try clear hfz17_11
  try clear hfz17_2
  try clear hfz17_3
  try clear hfz17_4
  try clear hfz17_5
  try clear hfz17_6
  try clear hfz17_7
  try clear hfz17_8
  try clear hfz17_9
  try clear hfz18_0
  try clear hfz18_1
  try clear hfz18_10
  try clear hfz18_11
  try clear hfz18_2
  try clear hfz18_3
  try clear hfz18_4
  try clear hfz18_5
  try clear hfz18_6
  try clear hfz18_7
  try clear hfz18_8
  try clear hfz18_9
  try clear hfz20_0
  try clear hfz20_1
  try clear hfz20_10
  try clear hfz20_11
  try clear hfz20_2
  try clear hfz20_3
  try clear hfz20_4
  try clear hfz20_5
  try clear hfz20_6
  try clear hfz20_7
  try clear hfz20_8
  try clear hfz20_9
  try clear hfz21_0
  try clear hfz21_1
  try clear hfz21_10
  try clear hfz21_11
  try clear hfz21_2
  try clear hfz21_3
  try clear hfz21_4
  try clear hfz21_5
  try clear hfz21_6
  try clear hfz21_7
  try clear hfz21_8
  try clear hfz21_9
  obtain ⟨kq, x5_2, rfl, HA, HJ2, BK101, BK102, HB⟩ := hcut
  cases kq with
  | zero => exact absurd HA.out (by simp [joustref00_Effect.j0])
  | succ kj2 =>
   have H := HA.out
   clear HA
   simp only [joustref00_Effect.j0] at H
   have H' := Aside0.mk H
   clear H
   go_wp2
   go_loopg [5, 6] kj2 (fun kq v5 v6 w' => ∃ (x5_2 : Bool) (x6_2 : Int), v5 = .bool x5_2 ∧ v6 = .int .i64 x6_2 ∧ Aside0 (joustref00_Effect.l0 kq x5_2 x6_2 a0_0 a0_1 a0_2 l0_3 a0_4 a0_5 a0_6 a0_7 a0_8 a0_9 a0_10 l0_11 a1_0 a1_1 a1_2 l1_3 a1_4 a1_5 a1_6 a1_7 a1_8 a1_9 a1_10 l1_11 = some true) ∧ Aside0 (kq ≤ kj2) ∧ Aside0 (w'.heap[gb101]? = some (.cells #[.int .u8 a0_0, .int .u8 a0_1, .int .u8 a0_2, (.slice A0_3 l0_3.length c0_3), .int .i64 a0_4, .int .i64 a0_5, .bool a0_6, .int .i64 a0_7, .int .u8 a0_8, .int .u8 a0_9, .int .u8 a0_10, (.slice A0_11 l0_11.length c0_11)] 43 (0, 0))) ∧ Aside0 (w'.heap[gb102]? = some (.cells #[.int .u8 a1_0, .int .u8 a1_1, .int .u8 a1_2, (.slice A1_3 l1_3.length c1_3), .int .i64 a1_4, .int .i64 a1_5, .bool a1_6, .int .i64 a1_7, .int .u8 a1_8, .int .u8 a1_9, .int .u8 a1_10, (.slice A1_11 l1_11.length c1_11)] 43 (0, 0))) ∧ Aside0 (Below w.heap.size w w'))
   case atStart => exact ⟨(x5_2), (0), (by first | rfl | (simp; done) | (simp [*]; done)), (by first | rfl | (simp; done) | (simp [*]; done)), H', ⟨Nat.le_refl _⟩, ⟨by (with_reducible repeat (first | refine blk_drewN ?_ _ | refine blk_drew ?_ | refine blk_alloc ?_ _)); exact BK101.out⟩, ⟨by (with_reducible repeat (first | refine blk_drewN ?_ _ | refine blk_drew ?_ | refine blk_alloc ?_ _)); exact BK102.out⟩, ⟨by repeat (first | (with_reducible first | exact HB.out | apply below_alloc | apply pw_below_drewN | apply below_drew1 | refine below_set ?_ GE101.out | refine below_set ?_ GE102.out) | exact HB.out)⟩⟩
   case round =>
    clear H'
    try clear c6
    try clear c6b0
    try clear c6b1
    try clear c7
    try clear c7b0
    try clear c7b1
    try clear c8
    try clear c8b0
    try clear c8b1
    try clear c9
    try clear c9b0
    try clear c9b1
    try clear c10
    try clear c10b0
    try clear c10b1
    try clear c11
    try clear c11b0
    try clear c11b1
    try clear c11b2
    try clear c12
    try clear c12b0
    try clear c12b1
    try clear c13
    try clear c13b0
    try clear c13b1
    try clear c13b2
    try clear c15
    try clear hcz17_0
    try clear hcz17_1
    try clear hcz17_10
    try clear hcz17_11
    try clear hcz17_2
    try clear hcz17_3
    try clear hcz17_4
    try clear hcz17_5
    try clear hcz17_6
    try clear hcz17_7
    try clear hcz17_8
    try clear hcz17_9
    try clear hcz18_0
    try clear hcz18_1
    try clear hcz18_10
    try clear hcz18_11
    try clear hcz18_2
    try clear hcz18_3
    try clear hcz18_4
    try clear hcz18_5
    try clear hcz18_6
    try clear hcz18_7
    try clear hcz18_8
    try clear hcz18_9
    try clear hcz20_0
    try clear hcz20_1
    try clear hcz20_10
    try clear hcz20_11
    try clear hcz20_2
    try clear hcz20_3
    try clear hcz20_4
    try clear hcz20_5
    try clear hcz20_6
    try clear hcz20_7
    try clear hcz20_8
    try clear hcz20_9
    try clear hcz21_0
    try clear hcz21_1
    try clear hcz21_10
    try clear hcz21_11
    try clear hcz21_2
    try clear hcz21_3
    try clear hcz21_4
    try clear hcz21_5
    try clear hcz21_6
    try clear hcz21_7
    try clear hcz21_8
    try clear hcz21_9
    try clear hfz17_0
    try clear hfz17_1
    try clear hfz17_10
    try clear hfz17_11
    try clear hfz17_2
    try clear hfz17_3
    try clear hfz17_4
    try clear hfz17_5
    try clear hfz17_6
    try clear hfz17_7
    try clear hfz17_8
    try clear hfz17_9
    try clear hfz18_0
    try clear hfz18_1
    try clear hfz18_10
    try clear hfz18_11
    try clear hfz18_2
    try clear hfz18_3
    try clear hfz18_4
    try clear hfz18_5
    try clear hfz18_6
    try clear hfz18_7
    try clear hfz18_8
    try clear hfz18_9
    try clear hfz20_0
    try clear hfz20_1
    try clear hfz20_10
    try clear hfz20_11
    try clear hfz20_2
    try clear hfz20_3
    try clear hfz20_4
    try clear hfz20_5
    try clear hfz20_6
    try clear hfz20_7
    try clear hfz20_8
    try clear hfz20_9
    try clear hfz21_0
    try clear hfz21_1
    try clear hfz21_10
    try clear hfz21_11
    try clear hfz21_2
    try clear hfz21_3
    try clear hfz21_4
    try clear hfz21_5
    try clear hfz21_6
    try clear hfz21_7
    try clear hfz21_8
    try clear hfz21_9
    obtain ⟨x5_2, x6_2, rfl, rfl, HA, HK2, BK101, BK102, HB⟩ := hrel
    cases gk with
    | zero => exact absurd HA.out (by simp [joustref00_Effect.l0])
    | succ k2 =>
     have H := HA.out
     clear HA
     simp only [joustref00_Effect.l0] at H
     by_cases c50 : x5_2 = true
     ·subst c50
      have H1 : (if x6_2 < (l0_11.length : Int) then (if 0 ≤ x6_2 then (if x6_2 < (l1_11.length : Int) then (if ((rd_T52 l0_11 x6_2).f0) = ((rd_T52 l1_11 x6_2).f0) then (if ((rd_T52 l0_11 x6_2).f1) = ((rd_T52 l1_11 x6_2).f1) then (if (((rd_T52 l0_11 x6_2).f3) == ((rd_T52 l1_11 x6_2).f3)) = true then (if (((rd_T52 l0_11 x6_2).f4.f0) == ((rd_T52 l1_11 x6_2).f4.f0) && (((rd_T52 l0_11 x6_2).f4.f1) == ((rd_T52 l1_11 x6_2).f4.f1) && (((rd_T52 l0_11 x6_2).f4.f2) == ((rd_T52 l1_11 x6_2).f4.f2)))) = true then ((joustref00_Expr.f ((rd_T52 l0_11 x6_2).f2.f0) ((rd_T52 l0_11 x6_2).f2.f1) ((rd_T52 l0_11 x6_2).f2.f2) ((rd_T52 l0_11 x6_2).f2.f3.f0) ((rd_T52 l0_11 x6_2).f2.f3.f1) ((rd_T52 l0_11 x6_2).f2.f3.f2) ((rd_T52 l0_11 x6_2).f2.f4) ((rd_T52 l1_11 x6_2).f2.f0) ((rd_T52 l1_11 x6_2).f2.f1) ((rd_T52 l1_11 x6_2).f2.f2) ((rd_T52 l1_11 x6_2).f2.f3.f0) ((rd_T52 l1_11 x6_2).f2.f3.f1) ((rd_T52 l1_11 x6_2).f2.f3.f2) ((rd_T52 l1_11 x6_2).f2.f4)).bind fun t108 => (joustref00_Effect.l0 k2 t108 (wrap64 (x6_2 + 1)) a0_0 a0_1 a0_2 l0_3 a0_4 a0_5 a0_6 a0_7 a0_8 a0_9 a0_10 l0_11 a1_0 a1_1 a1_2 l1_3 a1_4 a1_5 a1_6 a1_7 a1_8 a1_9 a1_10 l1_11)) else (none)) else (none)) else (none)) else (none)) else (none)) else (none)) else (some true)) = some true := by rw [if_pos rfl] at H; exact H
      clear H
      have H := H1
      clear H1
      by_cases c51 : x6_2 < (l0_11.length : Int)
      ·rw [if_pos c51] at H
       have c51b0 : decide (x6_2 < (l0_11.length : Int)) = true := decide_eq_true c51
       clear c51
       by_cases c52 : 0 ≤ x6_2
       ·rw [if_pos c52] at H
        have c52b0 : decide (0 ≤ x6_2) = true := decide_eq_true c52
        clear c52
        by_cases c53 : x6_2 < (l1_11.length : Int)
        ·rw [if_pos c53] at H
         have c53b0 : decide (x6_2 < (l1_11.length : Int)) = true := decide_eq_true c53
         clear c53
         by_cases c54 : ((rd_T52 l0_11 x6_2).f0) = ((rd_T52 l1_11 x6_2).f0)
         ·rw [if_pos c54] at H
          have c54b0 : (((rd_T52 l0_11 x6_2).f0) == ((rd_T52 l1_11 x6_2).f0)) = true := beq_iff_eq.mpr c54
          have c54b1 : (((rd_T52 l0_11 x6_2).f0) != ((rd_T52 l1_11 x6_2).f0)) = false := bne_eq_false_iff_eq.mpr c54
          clear c54
          by_cases c55 : ((rd_T52 l0_11 x6_2).f1) = ((rd_T52 l1_11 x6_2).f1)
          ·rw [if_pos c55] at H
           have c55b0 : (((rd_T52 l0_11 x6_2).f1) == ((rd_T52 l1_11 x6_2).f1)) = true := beq_iff_eq.mpr c55
           have c55b1 : (((rd_T52 l0_11 x6_2).f1) != ((rd_T52 l1_11 x6_2).f1)) = false := bne_eq_false_iff_eq.mpr c55
           clear c55
           by_cases c56 : (((rd_T52 l0_11 x6_2).f3) == ((rd_T52 l1_11 x6_2).f3)) = true
           ·rw [if_pos c56] at H
            have c56b0 : (((rd_T52 l0_11 x6_2).f3) == ((rd_T52 l1_11 x6_2).f3)) = true := c56
            (try (have c56b1 : decide (((rd_T52 l0_11 x6_2).f3) = ((rd_T52 l1_11 x6_2).f3)) = true := by simpa using c56))
            (try (have c56b2 : (((rd_T52 l0_11 x6_2).f3) == ((rd_T52 l1_11 x6_2).f3)) = true := by simpa using c56))
            clear c56
            by_cases c57 : (((rd_T52 l0_11 x6_2).f4.f0) == ((rd_T52 l1_11 x6_2).f4.f0) && (((rd_T52 l0_11 x6_2).f4.f1) == ((rd_T52 l1_11 x6_2).f4.f1) && (((rd_T52 l0_11 x6_2).f4.f2) == ((rd_T52 l1_11 x6_2).f4.f2)))) = true
            ·rw [if_pos c57] at H
             have c57b0 : (((rd_T52 l0_11 x6_2).f4.f0) == ((rd_T52 l1_11 x6_2).f4.f0) && (((rd_T52 l0_11 x6_2).f4.f1) == ((rd_T52 l1_11 x6_2).f4.f1) && (((rd_T52 l0_11 x6_2).f4.f2) == ((rd_T52 l1_11 x6_2).f4.f2)))) = true := c57
             (try (have c57b1 : decide (((rd_T52 l0_11 x6_2).f4.f0) = ((rd_T52 l1_11 x6_2).f4.f0) && (((rd_T52 l0_11 x6_2).f4.f1) == ((rd_T52 l1_11 x6_2).f4.f1) && (((rd_T52 l0_11 x6_2).f4.f2) == ((rd_T52 l1_11 x6_2).f4.f2)))) = true := by simpa using c57))
             (try (have c57b2 : (((rd_T52 l0_11 x6_2).f4.f0) == ((rd_T52 l1_11 x6_2).f4.f0) && (((rd_T52 l0_11 x6_2).f4.f1) == ((rd_T52 l1_11 x6_2).f4.f1) && (((rd_T52 l0_11 x6_2).f4.f2) == ((rd_T52 l1_11 x6_2).f4.f2)))) = true := by simpa using c57))
             clear c57
             replace H := Option.bind_eq_some_iff.mp H
             obtain ⟨t108, A580, H⟩ := H
             replace H : (joustref00_Effect.l0 k2 t108 (wrap64 (x6_2 + 1)) a0_0 a0_1 a0_2 l0_3 a0_4 a0_5 a0_6 a0_7 a0_8 a0_9 a0_10 l0_11 a1_0 a1_1 a1_2 l1_3 a1_4 a1_5 a1_6 a1_7 a1_8 a1_9 a1_10 l1_11) = some true := H
             have A58 := Aside0.mk A580
             clear A580
             have H' := Aside0.mk H
             clear H
             have hnb59 := NB101_102.out
             have hnc59 := NB102_101.out
             have hcz60_0 : wr.cell? ⟨gb101, 0, none⟩ = some (.int .u8 a0_0) := (blk_cell BK101.out 0).trans rfl
             have hcz60_1 : wr.cell? ⟨gb101, 1, none⟩ = some (.int .u8 a0_1) := (blk_cell BK101.out 1).trans rfl
             have hcz60_2 : wr.cell? ⟨gb101, 2, none⟩ = some (.int .u8 a0_2) := (blk_cell BK101.out 2).trans rfl
             have hcz60_3 : wr.cell? ⟨gb101, 3, none⟩ = some (.slice A0_3 l0_3.length c0_3) := (blk_cell BK101.out 3).trans rfl
             have hcz60_4 : wr.cell? ⟨gb101, 4, none⟩ = some (.int .i64 a0_4) := (blk_cell BK101.out 4).trans rfl
             have hcz60_5 : wr.cell? ⟨gb101, 5, none⟩ = some (.int .i64 a0_5) := (blk_cell BK101.out 5).trans rfl
             have hcz60_6 : wr.cell? ⟨gb101, 6, none⟩ = some (.bool a0_6) := (blk_cell BK101.out 6).trans rfl
             have hcz60_7 : wr.cell? ⟨gb101, 7, none⟩ = some (.int .i64 a0_7) := (blk_cell BK101.out 7).trans rfl
             have hcz60_8 : wr.cell? ⟨gb101, 8, none⟩ = some (.int .u8 a0_8) := (blk_cell BK101.out 8).trans rfl
             have hcz60_9 : wr.cell? ⟨gb101, 9, none⟩ = some (.int .u8 a0_9) := (blk_cell BK101.out 9).trans rfl
             have hcz60_10 : wr.cell? ⟨gb101, 10, none⟩ = some (.int .u8 a0_10) := (blk_cell BK101.out 10).trans rfl
             have hcz60_11 : wr.cell? ⟨gb101, 11, none⟩ = some (.slice A0_11 l0_11.length c0_11) := (blk_cell BK101.out 11).trans rfl
             have hfz60_0 := blk_frozen BK101.out 0
             have hfz60_1 := blk_frozen BK101.out 1
             have hfz60_2 := blk_frozen BK101.out 2
             have hfz60_3 := blk_frozen BK101.out 3
             have hfz60_4 := blk_frozen BK101.out 4
             have hfz60_5 := blk_frozen BK101.out 5
             have hfz60_6 := blk_frozen BK101.out 6
             have hfz60_7 := blk_frozen BK101.out 7
             have hfz60_8 := blk_frozen BK101.out 8
             have hfz60_9 := blk_frozen BK101.out 9
             have hfz60_10 := blk_frozen BK101.out 10
             have hfz60_11 := blk_frozen BK101.out 11
             try go_wp2
             have n0_ := Aside0.mk (blk_drew BK101.out)
             have n1_ := Aside0.mk (blk_drew BK102.out)
             have n2_ := Aside0.mk (below_drew1 HB.out)
             clear BK101
             clear BK102
             clear HB
             have BK101 := n0_
             have BK102 := n1_
             have HB := n2_
             clear n0_ n1_ n2_
             have p104 : 0 ≤ (x6_2 : Int) := of_decide_eq_true (by first | (with_reducible assumption) | assumption)
             have q104 : x6_2 < (l0_11.length : Int) := of_decide_eq_true (by first | (with_reducible assumption) | assumption)
             obtain ⟨ad104, A104_8, c104_8, e104, hx104_0, hx104_1, hx104_2, hx104_3, hx104_4, hx104_5, hx104_6, hx104_7, hx104_8, hx104_9, hx104_10, hx104_11, hx104_12, hl104_8, hi104_8⟩ := at_T52 HR0_11.out x6_2 p104 q104
             have hw104_12 := hx104_12
             have hw104_11 := hx104_11
             have hw104_10 := hx104_10
             have hw104_9 := hx104_9
             have hw104_8 := hx104_8
             have hw104_7 := hx104_7
             have hw104_6 := hx104_6
             have hw104_5 := hx104_5
             have hw104_4 := hx104_4
             have hw104_3 := hx104_3
             have hw104_2 := hx104_2
             have hw104_1 := hx104_1
             have hw104_0 := hx104_0
             cases e104
             replace hx104_0 := (HB.out.cell (World.block_lt_of_cell? w _ hx104_0)).trans hx104_0
             replace hx104_1 := (HB.out.cell (World.block_lt_of_cell? w _ hx104_1)).trans hx104_1
             replace hx104_2 := (HB.out.cell (World.block_lt_of_cell? w _ hx104_2)).trans hx104_2
             replace hx104_3 := (HB.out.cell (World.block_lt_of_cell? w _ hx104_3)).trans hx104_3
             replace hx104_4 := (HB.out.cell (World.block_lt_of_cell? w _ hx104_4)).trans hx104_4
             replace hx104_5 := (HB.out.cell (World.block_lt_of_cell? w _ hx104_5)).trans hx104_5
             replace hx104_6 := (HB.out.cell (World.block_lt_of_cell? w _ hx104_6)).trans hx104_6
             replace hx104_7 := (HB.out.cell (World.block_lt_of_cell? w _ hx104_7)).trans hx104_7
             replace hx104_8 := (HB.out.cell (World.block_lt_of_cell? w _ hx104_8)).trans hx104_8
             replace hx104_9 := (HB.out.cell (World.block_lt_of_cell? w _ hx104_9)).trans hx104_9
             replace hx104_10 := (HB.out.cell (World.block_lt_of_cell? w _ hx104_10)).trans hx104_10
             replace hx104_11 := (HB.out.cell (World.block_lt_of_cell? w _ hx104_11)).trans hx104_11
             replace hx104_12 := (HB.out.cell (World.block_lt_of_cell? w _ hx104_12)).trans hx104_12
             have HR104_8 := Aside0.mk hi104_8
             have HC104_8 := Aside0.mk hl104_8
             clear hi104_8 hl104_8
             replace p104 := eq_true p104
             replace q104 := eq_true q104
             have p105 : 0 ≤ (x6_2 : Int) := of_decide_eq_true (by first | (with_reducible assumption) | assumption)
             have q105 : x6_2 < (l1_11.length : Int) := of_decide_eq_true (by first | (with_reducible assumption) | assumption)
             obtain ⟨ad105, A105_8, c105_8, e105, hx105_0, hx105_1, hx105_2, hx105_3, hx105_4, hx105_5, hx105_6, hx105_7, hx105_8, hx105_9, hx105_10, hx105_11, hx105_12, hl105_8, hi105_8⟩ := at_T52 HR1_11.out x6_2 p105 q105
             have hw105_12 := hx105_12
             have hw105_11 := hx105_11
             have hw105_10 := hx105_10
             have hw105_9 := hx105_9
             have hw105_8 := hx105_8
             have hw105_7 := hx105_7
             have hw105_6 := hx105_6
             have hw105_5 := hx105_5
             have hw105_4 := hx105_4
             have hw105_3 := hx105_3
             have hw105_2 := hx105_2
             have hw105_1 := hx105_1
             have hw105_0 := hx105_0
             cases e105
             replace hx105_0 := (HB.out.cell (World.block_lt_of_cell? w _ hx105_0)).trans hx105_0
             replace hx105_1 := (HB.out.cell (World.block_lt_of_cell? w _ hx105_1)).trans hx105_1
             replace hx105_2 := (HB.out.cell (World.block_lt_of_cell? w _ hx105_2)).trans hx105_2
             replace hx105_3 := (HB.out.cell (World.block_lt_of_cell? w _ hx105_3)).trans hx105_3
             replace hx105_4 := (HB.out.cell (World.block_lt_of_cell? w _ hx105_4)).trans hx105_4
             replace hx105_5 := (HB.out.cell (World.block_lt_of_cell? w _ hx105_5)).trans hx105_5
             replace hx105_6 := (HB.out.cell (World.block_lt_of_cell? w _ hx105_6)).trans hx105_6
             replace hx105_7 := (HB.out.cell (World.block_lt_of_cell? w _ hx105_7)).trans hx105_7
             replace hx105_8 := (HB.out.cell (World.block_lt_of_cell? w _ hx105_8)).trans hx105_8
             replace hx105_9 := (HB.out.cell (World.block_lt_of_cell? w _ hx105_9)).trans hx105_9
             replace hx105_10 := (HB.out.cell (World.block_lt_of_cell? w _ hx105_10)).trans hx105_10
             replace hx105_11 := (HB.out.cell (World.block_lt_of_cell? w _ hx105_11)).trans hx105_11
             replace hx105_12 := (HB.out.cell (World.block_lt_of_cell? w _ hx105_12)).trans hx105_12
             have HR105_8 := Aside0.mk hi105_8
             have HC105_8 := Aside0.mk hl105_8
             clear hi105_8 hl105_8
             replace p105 := eq_true p105
             replace q105 := eq_true q105
             refine start_ (n := 14) (S := fun w' => w'.cell? ⟨gb101, 0, none⟩ = some (.int .u8 a0_0) ∧ w'.cell? ⟨gb101, 1, none⟩ = some (.int .u8 a0_1) ∧ w'.cell? ⟨gb101, 2, none⟩ = some (.int .u8 a0_2) ∧ w'.cell? ⟨gb101, 3, none⟩ = some (.slice A0_3 l0_3.length c0_3) ∧ w'.cell? ⟨gb101, 4, none⟩ = some (.int .i64 a0_4) ∧ w'.cell? ⟨gb101, 5, none⟩ = some (.int .i64 a0_5) ∧ w'.cell? ⟨gb101, 6, none⟩ = some (.bool a0_6) ∧ w'.cell? ⟨gb101, 7, none⟩ = some (.int .i64 a0_7) ∧ w'.cell? ⟨gb101, 8, none⟩ = some (.int .u8 a0_8) ∧ w'.cell? ⟨gb101, 9, none⟩ = some (.int .u8 a0_9) ∧ w'.cell? ⟨gb101, 10, none⟩ = some (.int .u8 a0_10) ∧ w'.cell? ⟨gb101, 11, none⟩ = some (.slice (some ad104) l0_11.length c0_11) ∧ w'.cell? ⟨gb102, 0, none⟩ = some (.int .u8 a1_0) ∧ w'.cell? ⟨gb102, 1, none⟩ = some (.int .u8 a1_1) ∧ w'.cell? ⟨gb102, 2, none⟩ = some (.int .u8 a1_2) ∧ w'.cell? ⟨gb102, 3, none⟩ = some (.slice A1_3 l1_3.length c1_3) ∧ w'.cell? ⟨gb102, 4, none⟩ = some (.int .i64 a1_4) ∧ w'.cell? ⟨gb102, 5, none⟩ = some (.int .i64 a1_5) ∧ w'.cell? ⟨gb102, 6, none⟩ = some (.bool a1_6) ∧ w'.cell? ⟨gb102, 7, none⟩ = some (.int .i64 a1_7) ∧ w'.cell? ⟨gb102, 8, none⟩ = some (.int .u8 a1_8) ∧ w'.cell? ⟨gb102, 9, none⟩ = some (.int .u8 a1_9) ∧ w'.cell? ⟨gb102, 10, none⟩ = some (.int .u8 a1_10) ∧ w'.cell? ⟨gb102, 11, none⟩ = some (.slice (some ad105) l1_11.length c1_11) ∧ w'.cell? (ad104.add ((x6_2).toNat * 13)) = some (.int .u8 ((rd_T52 l0_11 x6_2).f0)) ∧ w'.cell? ⟨(ad104.add ((x6_2).toNat * 13)).block, (ad104.add ((x6_2).toNat * 13)).off + 1, none⟩ = some (.int .u8 ((rd_T52 l0_11 x6_2).f1)) ∧ w'.cell? ⟨(ad104.add ((x6_2).toNat * 13)).block, (ad104.add ((x6_2).toNat * 13)).off + 2, none⟩ = some (.int .u8 ((rd_T52 l0_11 x6_2).f2.f0)) ∧ w'.cell? ⟨(ad104.add ((x6_2).toNat * 13)).block, (ad104.add ((x6_2).toNat * 13)).off + 3, none⟩ = some (.int .i64 ((rd_T52 l0_11 x6_2).f2.f1)) ∧ w'.cell? ⟨(ad104.add ((x6_2).toNat * 13)).block, (ad104.add ((x6_2).toNat * 13)).off + 4, none⟩ = some (.int .u8 ((rd_T52 l0_11 x6_2).f2.f2)) ∧ w'.cell? ⟨(ad104.add ((x6_2).toNat * 13)).block, (ad104.add ((x6_2).toNat * 13)).off + 5, none⟩ = some (.int .u8 ((rd_T52 l0_11 x6_2).f2.f3.f0)) ∧ w'.cell? ⟨(ad104.add ((x6_2).toNat * 13)).block, (ad104.add ((x6_2).toNat * 13)).off + 6, none⟩ = some (.int .u8 ((rd_T52 l0_11 x6_2).f2.f3.f1)) ∧ w'.cell? ⟨(ad104.add ((x6_2).toNat * 13)).block, (ad104.add ((x6_2).toNat * 13)).off + 7, none⟩ = some (.int .u8 ((rd_T52 l0_11 x6_2).f2.f3.f2)) ∧ w'.cell? ⟨(ad104.add ((x6_2).toNat * 13)).block, (ad104.add ((x6_2).toNat * 13)).off + 8, none⟩ = some (.slice A104_8 ((rd_T52 l0_11 x6_2).f2.f4).length c104_8) ∧ w'.cell? ⟨(ad104.add ((x6_2).toNat * 13)).block, (ad104.add ((x6_2).toNat * 13)).off + 9, none⟩ = some (.bool ((rd_T52 l0_11 x6_2).f3)) ∧ w'.cell? ⟨(ad104.add ((x6_2).toNat * 13)).block, (ad104.add ((x6_2).toNat * 13)).off + 10, none⟩ = some (.int .u8 ((rd_T52 l0_11 x6_2).f4.f0)) ∧ w'.cell? ⟨(ad104.add ((x6_2).toNat * 13)).block, (ad104.add ((x6_2).toNat * 13)).off + 11, none⟩ = some (.int .u8 ((rd_T52 l0_11 x6_2).f4.f1)) ∧ w'.cell? ⟨(ad104.add ((x6_2).toNat * 13)).block, (ad104.add ((x6_2).toNat * 13)).off + 12, none⟩ = some (.int .u8 ((rd_T52 l0_11 x6_2).f4.f2)) ∧ w'.cell? (ad105.add ((x6_2).toNat * 13)) = some (.int .u8 ((rd_T52 l1_11 x6_2).f0)) ∧ w'.cell? ⟨(ad105.add ((x6_2).toNat * 13)).block, (ad105.add ((x6_2).toNat * 13)).off + 1, none⟩ = some (.int .u8 ((rd_T52 l1_11 x6_2).f1)) ∧ w'.cell? ⟨(ad105.add ((x6_2).toNat * 13)).block, (ad105.add ((x6_2).toNat * 13)).off + 2, none⟩ = some (.int .u8 ((rd_T52 l1_11 x6_2).f2.f0)) ∧ w'.cell? ⟨(ad105.add ((x6_2).toNat * 13)).block, (ad105.add ((x6_2).toNat * 13)).off + 3, none⟩ = some (.int .i64 ((rd_T52 l1_11 x6_2).f2.f1)) ∧ w'.cell? ⟨(ad105.add ((x6_2).toNat * 13)).block, (ad105.add ((x6_2).toNat * 13)).off + 4, none⟩ = some (.int .u8 ((rd_T52 l1_11 x6_2).f2.f2)) ∧ w'.cell? ⟨(ad105.add ((x6_2).toNat * 13)).block, (ad105.add ((x6_2).toNat * 13)).off + 5, none⟩ = some (.int .u8 ((rd_T52 l1_11 x6_2).f2.f3.f0)) ∧ w'.cell? ⟨(ad105.add ((x6_2).toNat * 13)).block, (ad105.add ((x6_2).toNat * 13)).off + 6, none⟩ = some (.int .u8 ((rd_T52 l1_11 x6_2).f2.f3.f1)) ∧ w'.cell? ⟨(ad105.add ((x6_2).toNat * 13)).block, (ad105.add ((x6_2).toNat * 13)).off + 7, none⟩ = some (.int .u8 ((rd_T52 l1_11 x6_2).f2.f3.f2)) ∧ w'.cell? ⟨(ad105.add ((x6_2).toNat * 13)).block, (ad105.add ((x6_2).toNat * 13)).off + 8, none⟩ = some (.slice A105_8 ((rd_T52 l1_11 x6_2).f2.f4).length c105_8) ∧ w'.cell? ⟨(ad105.add ((x6_2).toNat * 13)).block, (ad105.add ((x6_2).toNat * 13)).off + 9, none⟩ = some (.bool ((rd_T52 l1_11 x6_2).f3)) ∧ w'.cell? ⟨(ad105.add ((x6_2).toNat * 13)).block, (ad105.add ((x6_2).toNat * 13)).off + 10, none⟩ = some (.int .u8 ((rd_T52 l1_11 x6_2).f4.f0)) ∧ w'.cell? ⟨(ad105.add ((x6_2).toNat * 13)).block, (ad105.add ((x6_2).toNat * 13)).off + 11, none⟩ = some (.int .u8 ((rd_T52 l1_11 x6_2).f4.f1)) ∧ w'.cell? ⟨(ad105.add ((x6_2).toNat * 13)).block, (ad105.add ((x6_2).toNat * 13)).off + 12, none⟩ = some (.int .u8 ((rd_T52 l1_11 x6_2).f4.f2))) (ds := []) #[false, false, false, false, false, false, false, false, false, false, false, false, false, false] (by kernel_rfl) rfl rfl ⟨(blk_cell BK101.out 0).trans rfl, (blk_cell BK101.out 1).trans rfl, (blk_cell BK101.out 2).trans rfl, (blk_cell BK101.out 3).trans rfl, (blk_cell BK101.out 4).trans rfl, (blk_cell BK101.out 5).trans rfl, (blk_cell BK101.out 6).trans rfl, (blk_cell BK101.out 7).trans rfl, (blk_cell BK101.out 8).trans rfl, (blk_cell BK101.out 9).trans rfl, (blk_cell BK101.out 10).trans rfl, (blk_cell BK101.out 11).trans rfl, (blk_cell BK102.out 0).trans rfl, (blk_cell BK102.out 1).trans rfl, (blk_cell BK102.out 2).trans rfl, (blk_cell BK102.out 3).trans rfl, (blk_cell BK102.out 4).trans rfl, (blk_cell BK102.out 5).trans rfl, (blk_cell BK102.out 6).trans rfl, (blk_cell BK102.out 7).trans rfl, (blk_cell BK102.out 8).trans rfl, (blk_cell BK102.out 9).trans rfl, (blk_cell BK102.out 10).trans rfl, (blk_cell BK102.out 11).trans rfl, ((HB.out.cell (World.block_lt_of_cell? w _ hw104_0)).trans hw104_0), ((HB.out.cell (World.block_lt_of_cell? w _ hw104_1)).trans hw104_1), ((HB.out.cell (World.block_lt_of_cell? w _ hw104_2)).trans hw104_2), ((HB.out.cell (World.block_lt_of_cell? w _ hw104_3)).trans hw104_3), ((HB.out.cell (World.block_lt_of_cell? w _ hw104_4)).trans hw104_4), ((HB.out.cell (World.block_lt_of_cell? w _ hw104_5)).trans hw104_5), ((HB.out.cell (World.block_lt_of_cell? w _ hw104_6)).trans hw104_6), ((HB.out.cell (World.block_lt_of_cell? w _ hw104_7)).trans hw104_7), ((HB.out.cell (World.block_lt_of_cell? w _ hw104_8)).trans hw104_8), ((HB.out.cell (World.block_lt_of_cell? w _ hw104_9)).trans hw104_9), ((HB.out.cell (World.block_lt_of_cell? w _ hw104_10)).trans hw104_10), ((HB.out.cell (World.block_lt_of_cell? w _ hw104_11)).trans hw104_11), ((HB.out.cell (World.block_lt_of_cell? w _ hw104_12)).trans hw104_12), ((HB.out.cell (World.block_lt_of_cell? w _ hw105_0)).trans hw105_0), ((HB.out.cell (World.block_lt_of_cell? w _ hw105_1)).trans hw105_1), ((HB.out.cell (World.block_lt_of_cell? w _ hw105_2)).trans hw105_2), ((HB.out.cell (World.block_lt_of_cell? w _ hw105_3)).trans hw105_3), ((HB.out.cell (World.block_lt_of_cell? w _ hw105_4)).trans hw105_4), ((HB.out.cell (World.block_lt_of_cell? w _ hw105_5)).trans hw105_5), ((HB.out.cell (World.block_lt_of_cell? w _ hw105_6)).trans hw105_6), ((HB.out.cell (World.block_lt_of_cell? w _ hw105_7)).trans hw105_7), ((HB.out.cell (World.block_lt_of_cell? w _ hw105_8)).trans hw105_8), ((HB.out.cell (World.block_lt_of_cell? w _ hw105_9)).trans hw105_9), ((HB.out.cell (World.block_lt_of_cell? w _ hw105_10)).trans hw105_10), ((HB.out.cell (World.block_lt_of_cell? w _ hw105_11)).trans hw105_11), ((HB.out.cell (World.block_lt_of_cell? w _ hw105_12)).trans hw105_12)⟩ (fun hHeld => ?_); refine with_tabW joustref00_Effect.tab5 joustref00_Effect.bits5 (fun HT_ HW_ => ?_)
             generalize wr.drew = w61 at BK101 BK102 HB HR104_8 HR105_8 hx104_0 hx104_1 hx104_10 hx104_11 hx104_12 hx104_2 hx104_3 hx104_4 hx104_5 hx104_6 hx104_7 hx104_8 hx104_9 hx105_0 hx105_1 hx105_10 hx105_11 hx105_12 hx105_2 hx105_3 hx105_4 hx105_5 hx105_6 hx105_7 hx105_8 hx105_9 hHeld ⊢
             refine pure_ (i := 0) (N := some 89) (v := ?_) (a' := ?_) #[true, false, false, false, false, false, false, false, false, false, false, false, false, false] rfl rfl (any_of HT_.out (by kernel_rfl)) (fun _ _ _ h => h) (Or.inl ⟨by rfl, ?_⟩) ?_ ?_
             rotate_left
             ·intro w'
              go_simp
              with_reducible rfl
             rotate_left
             ·simp only [Act.put, List.setIfInBounds_toArray, List.set_cons_zero, List.set_cons_succ, i64_w, i32_w]
              rfl
             refine pure_ (i := 2) (N := some 91) (v := ?_) (a' := ?_) #[true, false, true, false, false, false, false, false, false, false, false, false, false, false] rfl rfl (any_of HT_.out (by kernel_rfl)) (fun _ _ _ h => h) (Or.inl ⟨by rfl, ?_⟩) ?_ ?_
             rotate_left
             ·intro w'
              go_simp
              with_reducible rfl
             rotate_left
             ·simp only [Act.put, List.setIfInBounds_toArray, List.set_cons_zero, List.set_cons_succ, i64_w, i32_w]
              rfl
             refine pure_ (i := 5) (N := some 94) (v := ?_) (a' := ?_) #[true, false, true, false, false, true, false, false, false, false, false, false, false, false] rfl rfl (any_of HT_.out (by kernel_rfl)) (fun _ _ _ h => h) (Or.inl ⟨by rfl, ?_⟩) ?_ ?_
             rotate_left
             ·intro w'
              go_simp
              with_reducible rfl
             rotate_left
             ·simp only [Act.put, List.setIfInBounds_toArray, List.set_cons_zero, List.set_cons_succ, i64_w, i32_w]
              rfl
             refine pure_ (i := 7) (N := some 96) (v := ?_) (a' := ?_) #[true, false, true, false, false, true, false, true, false, false, false, false, false, false] rfl rfl (any_of HT_.out (by kernel_rfl)) (fun _ _ _ h => h) (Or.inl ⟨by rfl, ?_⟩) ?_ ?_
             rotate_left
             ·intro w'
              go_simp
              with_reducible rfl
             rotate_left
             ·simp only [Act.put, List.setIfInBounds_toArray, List.set_cons_zero, List.set_cons_succ, i64_w, i32_w]
              rfl
             refine take_ (i := 1) (N := some 90) (v := ?_) (a' := ?_) #[true, true, true, false, false, true, false, true, false, false, false, false, false, false] rfl rfl (take_ofW HT_.out HW_.out (by kernel_rfl)) (fun _ _ _ h => h) (Or.inl ⟨by rfl, ?_⟩) hHeld ?_ ?_
             rotate_left
             ·rintro w' ⟨s0, s1, s2, s3, s4, s5, s6, s7, s8, s9, s10, s11, s12, s13, s14, s15, s16, s17, s18, s19, s20, s21, s22, s23, s24, s25, s26, s27, s28, s29, s30, s31, s32, s33, s34, s35, s36, s37, s38, s39, s40, s41, s42, s43, s44, s45, s46, s47, s48, s49⟩
              go_simp
              with_reducible rfl
             rotate_left
             ·simp only [Act.put, List.setIfInBounds_toArray, List.set_cons_zero, List.set_cons_succ, i64_w, i32_w]
              rfl
             refine pure_ (i := 3) (N := some 92) (v := ?_) (a' := ?_) #[true, true, true, true, false, true, false, true, false, false, false, false, false, false] rfl rfl (any_of HT_.out (by kernel_rfl)) (fun _ _ _ h => h) (Or.inl ⟨by rfl, ?_⟩) ?_ ?_
             rotate_left
             ·intro w'
              go_simp
              with_reducible rfl
             rotate_left
             ·simp only [Act.put, List.setIfInBounds_toArray, List.set_cons_zero, List.set_cons_succ, i64_w, i32_w]
              rfl
             refine take_ (i := 4) (N := some 93) (v := ?_) (a' := ?_) #[true, true, true, true, true, true, false, true, false, false, false, false, false, false] rfl rfl (take_ofW HT_.out HW_.out (by kernel_rfl)) (fun _ _ _ h => h) (Or.inl ⟨by rfl, ?_⟩) hHeld ?_ ?_
             rotate_left
             ·rintro w' ⟨s0, s1, s2, s3, s4, s5, s6, s7, s8, s9, s10, s11, s12, s13, s14, s15, s16, s17, s18, s19, s20, s21, s22, s23, s24, s25, s26, s27, s28, s29, s30, s31, s32, s33, s34, s35, s36, s37, s38, s39, s40, s41, s42, s43, s44, s45, s46, s47, s48, s49⟩
              go_simp
              with_reducible rfl
             rotate_left
             ·simp only [Act.put, List.setIfInBounds_toArray, List.set_cons_zero, List.set_cons_succ, i64_w, i32_w]
              rfl
             refine take_ (i := 6) (N := some 95) (v := ?_) (a' := ?_) #[true, true, true, true, true, true, true, true, false, false, false, false, false, false] rfl rfl (take_ofW HT_.out HW_.out (by kernel_rfl)) (fun _ _ _ h => h) (Or.inl ⟨by rfl, ?_⟩) hHeld ?_ ?_
             rotate_left
             ·rintro w' ⟨s0, s1, s2, s3, s4, s5, s6, s7, s8, s9, s10, s11, s12, s13, s14, s15, s16, s17, s18, s19, s20, s21, s22, s23, s24, s25, s26, s27, s28, s29, s30, s31, s32, s33, s34, s35, s36, s37, s38, s39, s40, s41, s42, s43, s44, s45, s46, s47, s48, s49⟩
              go_simp
              with_reducible rfl
             rotate_left
             ·simp only [Act.put, List.setIfInBounds_toArray, List.set_cons_zero, List.set_cons_succ, i64_w, i32_w]
              rfl
             refine pure_ (i := 8) (N := some 97) (v := ?_) (a' := ?_) #[true, true, true, true, true, true, true, true, true, false, false, false, false, false] rfl rfl (any_of HT_.out (by kernel_rfl)) (fun _ _ _ h => h) (Or.inl ⟨by rfl, ?_⟩) ?_ ?_
             rotate_left
             ·intro w'
              go_simp
              with_reducible rfl
             rotate_left
             ·simp only [Act.put, List.setIfInBounds_toArray, List.set_cons_zero, List.set_cons_succ, i64_w, i32_w]
              rfl
             refine take_ (i := 9) (N := some 98) (v := ?_) (a' := ?_) #[true, true, true, true, true, true, true, true, true, true, false, false, false, false] rfl rfl (take_ofW HT_.out HW_.out (by kernel_rfl)) (fun _ _ _ h => h) (Or.inl ⟨by rfl, ?_⟩) hHeld ?_ ?_
             rotate_left
             ·rintro w' ⟨s0, s1, s2, s3, s4, s5, s6, s7, s8, s9, s10, s11, s12, s13, s14, s15, s16, s17, s18, s19, s20, s21, s22, s23, s24, s25, s26, s27, s28, s29, s30, s31, s32, s33, s34, s35, s36, s37, s38, s39, s40, s41, s42, s43, s44, s45, s46, s47, s48, s49⟩
              go_simp
              with_reducible rfl
             rotate_left
             ·simp only [Act.put, List.setIfInBounds_toArray, List.set_cons_zero, List.set_cons_succ, i64_w, i32_w]
              rfl
             refine join_ (σ := Nat × Nat) 2 #[true, true, true, true, true, true, true, true, true, true, true, true, false, false] (fun s_ => [(7, .pointer (some ⟨s_.1, 0, none⟩)), (8, .pointer (some ⟨s_.2, 0, none⟩))]) (fun s_ w' => (w'.cell? ⟨gb101, 0, none⟩ = some (.int .u8 a0_0) ∧ w'.cell? ⟨gb101, 1, none⟩ = some (.int .u8 a0_1) ∧ w'.cell? ⟨gb101, 2, none⟩ = some (.int .u8 a0_2) ∧ w'.cell? ⟨gb101, 3, none⟩ = some (.slice A0_3 l0_3.length c0_3) ∧ w'.cell? ⟨gb101, 4, none⟩ = some (.int .i64 a0_4) ∧ w'.cell? ⟨gb101, 5, none⟩ = some (.int .i64 a0_5) ∧ w'.cell? ⟨gb101, 6, none⟩ = some (.bool a0_6) ∧ w'.cell? ⟨gb101, 7, none⟩ = some (.int .i64 a0_7) ∧ w'.cell? ⟨gb101, 8, none⟩ = some (.int .u8 a0_8) ∧ w'.cell? ⟨gb101, 9, none⟩ = some (.int .u8 a0_9) ∧ w'.cell? ⟨gb101, 10, none⟩ = some (.int .u8 a0_10) ∧ w'.cell? ⟨gb101, 11, none⟩ = some (.slice (some ad104) l0_11.length c0_11) ∧ w'.cell? ⟨gb102, 0, none⟩ = some (.int .u8 a1_0) ∧ w'.cell? ⟨gb102, 1, none⟩ = some (.int .u8 a1_1) ∧ w'.cell? ⟨gb102, 2, none⟩ = some (.int .u8 a1_2) ∧ w'.cell? ⟨gb102, 3, none⟩ = some (.slice A1_3 l1_3.length c1_3) ∧ w'.cell? ⟨gb102, 4, none⟩ = some (.int .i64 a1_4) ∧ w'.cell? ⟨gb102, 5, none⟩ = some (.int .i64 a1_5) ∧ w'.cell? ⟨gb102, 6, none⟩ = some (.bool a1_6) ∧ w'.cell? ⟨gb102, 7, none⟩ = some (.int .i64 a1_7) ∧ w'.cell? ⟨gb102, 8, none⟩ = some (.int .u8 a1_8) ∧ w'.cell? ⟨gb102, 9, none⟩ = some (.int .u8 a1_9) ∧ w'.cell? ⟨gb102, 10, none⟩ = some (.int .u8 a1_10) ∧ w'.cell? ⟨gb102, 11, none⟩ = some (.slice (some ad105) l1_11.length c1_11) ∧ w'.cell? (ad104.add ((x6_2).toNat * 13)) = some (.int .u8 ((rd_T52 l0_11 x6_2).f0)) ∧ w'.cell? ⟨(ad104.add ((x6_2).toNat * 13)).block, (ad104.add ((x6_2).toNat * 13)).off + 1, none⟩ = some (.int .u8 ((rd_T52 l0_11 x6_2).f1)) ∧ w'.cell? ⟨(ad104.add ((x6_2).toNat * 13)).block, (ad104.add ((x6_2).toNat * 13)).off + 2, none⟩ = some (.int .u8 ((rd_T52 l0_11 x6_2).f2.f0)) ∧ w'.cell? ⟨(ad104.add ((x6_2).toNat * 13)).block, (ad104.add ((x6_2).toNat * 13)).off + 3, none⟩ = some (.int .i64 ((rd_T52 l0_11 x6_2).f2.f1)) ∧ w'.cell? ⟨(ad104.add ((x6_2).toNat * 13)).block, (ad104.add ((x6_2).toNat * 13)).off + 4, none⟩ = some (.int .u8 ((rd_T52 l0_11 x6_2).f2.f2)) ∧ w'.cell? ⟨(ad104.add ((x6_2).toNat * 13)).block, (ad104.add ((x6_2).toNat * 13)).off + 5, none⟩ = some (.int .u8 ((rd_T52 l0_11 x6_2).f2.f3.f0)) ∧ w'.cell? ⟨(ad104.add ((x6_2).toNat * 13)).block, (ad104.add ((x6_2).toNat * 13)).off + 6, none⟩ = some (.int .u8 ((rd_T52 l0_11 x6_2).f2.f3.f1)) ∧ w'.cell? ⟨(ad104.add ((x6_2).toNat * 13)).block, (ad104.add ((x6_2).toNat * 13)).off + 7, none⟩ = some (.int .u8 ((rd_T52 l0_11 x6_2).f2.f3.f2)) ∧ w'.cell? ⟨(ad104.add ((x6_2).toNat * 13)).block, (ad104.add ((x6_2).toNat * 13)).off + 8, none⟩ = some (.slice A104_8 ((rd_T52 l0_11 x6_2).f2.f4).length c104_8) ∧ w'.cell? ⟨(ad104.add ((x6_2).toNat * 13)).block, (ad104.add ((x6_2).toNat * 13)).off + 9, none⟩ = some (.bool ((rd_T52 l0_11 x6_2).f3)) ∧ w'.cell? ⟨(ad104.add ((x6_2).toNat * 13)).block, (ad104.add ((x6_2).toNat * 13)).off + 10, none⟩ = some (.int .u8 ((rd_T52 l0_11 x6_2).f4.f0)) ∧ w'.cell? ⟨(ad104.add ((x6_2).toNat * 13)).block, (ad104.add ((x6_2).toNat * 13)).off + 11, none⟩ = some (.int .u8 ((rd_T52 l0_11 x6_2).f4.f1)) ∧ w'.cell? ⟨(ad104.add ((x6_2).toNat * 13)).block, (ad104.add ((x6_2).toNat * 13)).off + 12, none⟩ = some (.int .u8 ((rd_T52 l0_11 x6_2).f4.f2)) ∧ w'.cell? (ad105.add ((x6_2).toNat * 13)) = some (.int .u8 ((rd_T52 l1_11 x6_2).f0)) ∧ w'.cell? ⟨(ad105.add ((x6_2).toNat * 13)).block, (ad105.add ((x6_2).toNat * 13)).off + 1, none⟩ = some (.int .u8 ((rd_T52 l1_11 x6_2).f1)) ∧ w'.cell? ⟨(ad105.add ((x6_2).toNat * 13)).block, (ad105.add ((x6_2).toNat * 13)).off + 2, none⟩ = some (.int .u8 ((rd_T52 l1_11 x6_2).f2.f0)) ∧ w'.cell? ⟨(ad105.add ((x6_2).toNat * 13)).block, (ad105.add ((x6_2).toNat * 13)).off + 3, none⟩ = some (.int .i64 ((rd_T52 l1_11 x6_2).f2.f1)) ∧ w'.cell? ⟨(ad105.add ((x6_2).toNat * 13)).block, (ad105.add ((x6_2).toNat * 13)).off + 4, none⟩ = some (.int .u8 ((rd_T52 l1_11 x6_2).f2.f2)) ∧ w'.cell? ⟨(ad105.add ((x6_2).toNat * 13)).block, (ad105.add ((x6_2).toNat * 13)).off + 5, none⟩ = some (.int .u8 ((rd_T52 l1_11 x6_2).f2.f3.f0)) ∧ w'.cell? ⟨(ad105.add ((x6_2).toNat * 13)).block, (ad105.add ((x6_2).toNat * 13)).off + 6, none⟩ = some (.int .u8 ((rd_T52 l1_11 x6_2).f2.f3.f1)) ∧ w'.cell? ⟨(ad105.add ((x6_2).toNat * 13)).block, (ad105.add ((x6_2).toNat * 13)).off + 7, none⟩ = some (.int .u8 ((rd_T52 l1_11 x6_2).f2.f3.f2)) ∧ w'.cell? ⟨(ad105.add ((x6_2).toNat * 13)).block, (ad105.add ((x6_2).toNat * 13)).off + 8, none⟩ = some (.slice A105_8 ((rd_T52 l1_11 x6_2).f2.f4).length c105_8) ∧ w'.cell? ⟨(ad105.add ((x6_2).toNat * 13)).block, (ad105.add ((x6_2).toNat * 13)).off + 9, none⟩ = some (.bool ((rd_T52 l1_11 x6_2).f3)) ∧ w'.cell? ⟨(ad105.add ((x6_2).toNat * 13)).block, (ad105.add ((x6_2).toNat * 13)).off + 10, none⟩ = some (.int .u8 ((rd_T52 l1_11 x6_2).f4.f0)) ∧ w'.cell? ⟨(ad105.add ((x6_2).toNat * 13)).block, (ad105.add ((x6_2).toNat * 13)).off + 11, none⟩ = some (.int .u8 ((rd_T52 l1_11 x6_2).f4.f1)) ∧ w'.cell? ⟨(ad105.add ((x6_2).toNat * 13)).block, (ad105.add ((x6_2).toNat * 13)).off + 12, none⟩ = some (.int .u8 ((rd_T52 l1_11 x6_2).f4.f2))) ∧ (w'.heap[gb101]? = some (.cells #[.int .u8 a0_0, .int .u8 a0_1, .int .u8 a0_2, .slice A0_3 l0_3.length c0_3, .int .i64 a0_4, .int .i64 a0_5, .bool a0_6, .int .i64 a0_7, .int .u8 a0_8, .int .u8 a0_9, .int .u8 a0_10, .slice (some ad104) l0_11.length c0_11] 43 (0, 0))) ∧ (w'.heap[gb102]? = some (.cells #[.int .u8 a1_0, .int .u8 a1_1, .int .u8 a1_2, .slice A1_3 l1_3.length c1_3, .int .i64 a1_4, .int .i64 a1_5, .bool a1_6, .int .i64 a1_7, .int .u8 a1_8, .int .u8 a1_9, .int .u8 a1_10, .slice (some ad105) l1_11.length c1_11] 43 (0, 0))) ∧ (w'.heap[s_.1]? = some (.cells #[.int .u8 0, .int .u8 0, .int .u8 0, .int .i64 0, .int .u8 0, .int .u8 0, .int .u8 0, .int .u8 0, .slice none 0 0, .bool false, .int .u8 0, .int .u8 0, .int .u8 0] 52 (0, 0))) ∧ (w'.heap[s_.2]? = some (.cells #[.int .u8 0, .int .u8 0, .int .u8 0, .int .i64 0, .int .u8 0, .int .u8 0, .int .u8 0, .int .u8 0, .slice none 0 0, .bool false, .int .u8 0, .int .u8 0, .int .u8 0] 52 (0, 0))) ∧ (w.heap.size ≤ s_.1) ∧ (w.heap.size ≤ s_.1) ∧ (gb101 ≠ s_.1) ∧ (s_.1 ≠ gb101) ∧ (gb102 ≠ s_.1) ∧ (s_.1 ≠ gb102) ∧ (s_.2 ≠ s_.1) ∧ (s_.1 ≠ s_.2) ∧ (w.heap.size ≤ s_.2) ∧ (w.heap.size ≤ s_.2) ∧ (gb101 ≠ s_.2) ∧ (s_.2 ≠ gb101) ∧ (gb102 ≠ s_.2) ∧ (s_.2 ≠ gb102) ∧ (Below w.heap.size w w')) ?_ ?_
             rotate_left
             ·intro hCont
              refine two_ (i := 10) (j := 11) (Ni := some 7) (Nj := some 8) #[true, true, true, true, true, true, true, true, true, true, true, false, false, false] #[true, true, true, true, true, true, true, true, true, true, false, true, false, false] rfl rfl rfl rfl (two_of HT_.out (by kernel_rfl)) (by decide) (by decide) (fun K hK => ?_) (fun K hK => ?_)
              ·skip
               refine box_step ?hg (N := 7) ?hd (cs := #[.int .u8 0, .int .u8 0, .int .u8 0, .int .i64 0, .int .u8 0, .int .u8 0, .int .u8 0, .int .u8 0, .slice none 0 0, .bool false, .int .u8 0, .int .u8 0, .int .u8 0]) (t := 52) ?hr ?_; (case hd => rfl); (case hg => rfl); (case hr => first | (go_simp; done) | (go_simp; rfl))
               intro gb106 hg w62 hbox hb
               have n0_ := Aside0.mk (blk_below (g := gb101) (o := .cells #[.int .u8 a0_0, .int .u8 a0_1, .int .u8 a0_2, .slice A0_3 l0_3.length c0_3, .int .i64 a0_4, .int .i64 a0_5, .bool a0_6, .int .i64 a0_7, .int .u8 a0_8, .int .u8 a0_9, .int .u8 a0_10, .slice (some ad104) l0_11.length c0_11] 43 (0, 0)) (by (with_reducible repeat (first | refine blk_drewN ?_ _ | refine blk_drew ?_ | refine blk_alloc ?_ _)); exact BK101.out) hb)
               have n1_ := Aside0.mk (blk_below (g := gb102) (o := .cells #[.int .u8 a1_0, .int .u8 a1_1, .int .u8 a1_2, .slice A1_3 l1_3.length c1_3, .int .i64 a1_4, .int .i64 a1_5, .bool a1_6, .int .i64 a1_7, .int .u8 a1_8, .int .u8 a1_9, .int .u8 a1_10, .slice (some ad105) l1_11.length c1_11] 43 (0, 0)) (by (with_reducible repeat (first | refine blk_drewN ?_ _ | refine blk_drew ?_ | refine blk_alloc ?_ _)); exact BK102.out) hb)
               have n2_ := Aside0.mk (below_step (by repeat (first | (with_reducible first | exact HB.out | apply below_alloc | apply pw_below_drewN | apply below_drew1 | refine below_set ?_ GE101.out | refine below_set ?_ GE102.out) | exact HB.out)) hb)
               have n3_ := Aside0.mk (hbox)
               have n4_ := Aside0.mk ((by rw [hg]; exact (below_size (by repeat (first | (with_reducible first | exact HB.out | apply below_alloc | apply pw_below_drewN | apply below_drew1 | refine below_set ?_ GE101.out | refine below_set ?_ GE102.out) | exact HB.out))) : w.heap.size ≤ gb106))
               have n5_ := Aside0.mk ((by rw [hg]; exact (below_size (by repeat (first | (with_reducible first | exact HB.out | apply below_alloc | apply pw_below_drewN | apply below_drew1 | refine below_set ?_ GE101.out | refine below_set ?_ GE102.out) | exact HB.out))) : w.heap.size ≤ gb106))
               have n6_ := Aside0.mk ((by rw [hg]; exact Nat.ne_of_lt (blk_lt (g := gb101) (o := .cells #[.int .u8 a0_0, .int .u8 a0_1, .int .u8 a0_2, .slice A0_3 l0_3.length c0_3, .int .i64 a0_4, .int .i64 a0_5, .bool a0_6, .int .i64 a0_7, .int .u8 a0_8, .int .u8 a0_9, .int .u8 a0_10, .slice (some ad104) l0_11.length c0_11] 43 (0, 0)) (by (with_reducible repeat (first | refine blk_drewN ?_ _ | refine blk_drew ?_ | refine blk_alloc ?_ _)); exact BK101.out)) : gb101 ≠ gb106))
               have n7_ := Aside0.mk ((by rw [hg]; exact Nat.ne_of_gt (blk_lt (g := gb101) (o := .cells #[.int .u8 a0_0, .int .u8 a0_1, .int .u8 a0_2, .slice A0_3 l0_3.length c0_3, .int .i64 a0_4, .int .i64 a0_5, .bool a0_6, .int .i64 a0_7, .int .u8 a0_8, .int .u8 a0_9, .int .u8 a0_10, .slice (some ad104) l0_11.length c0_11] 43 (0, 0)) (by (with_reducible repeat (first | refine blk_drewN ?_ _ | refine blk_drew ?_ | refine blk_alloc ?_ _)); exact BK101.out)) : gb106 ≠ gb101))
               have n8_ := Aside0.mk ((by rw [hg]; exact Nat.ne_of_lt (blk_lt (g := gb102) (o := .cells #[.int .u8 a1_0, .int .u8 a1_1, .int .u8 a1_2, .slice A1_3 l1_3.length c1_3, .int .i64 a1_4, .int .i64 a1_5, .bool a1_6, .int .i64 a1_7, .int .u8 a1_8, .int .u8 a1_9, .int .u8 a1_10, .slice (some ad105) l1_11.length c1_11] 43 (0, 0)) (by (with_reducible repeat (first | refine blk_drewN ?_ _ | refine blk_drew ?_ | refine blk_alloc ?_ _)); exact BK102.out)) : gb102 ≠ gb106))
               have n9_ := Aside0.mk ((by rw [hg]; exact Nat.ne_of_gt (blk_lt (g := gb102) (o := .cells #[.int .u8 a1_0, .int .u8 a1_1, .int .u8 a1_2, .slice A1_3 l1_3.length c1_3, .int .i64 a1_4, .int .i64 a1_5, .bool a1_6, .int .i64 a1_7, .int .u8 a1_8, .int .u8 a1_9, .int .u8 a1_10, .slice (some ad105) l1_11.length c1_11] 43 (0, 0)) (by (with_reducible repeat (first | refine blk_drewN ?_ _ | refine blk_drew ?_ | refine blk_alloc ?_ _)); exact BK102.out)) : gb106 ≠ gb102))
               clear BK101
               clear BK102
               clear HB
               have BK101 := n0_
               have BK102 := n1_
               have HB := n2_
               have BK106 := n3_
               have GW106 := n4_
               have GE106 := n5_
               have NB101_106 := n6_
               have NB106_101 := n7_
               have NB102_106 := n8_
               have NB106_102 := n9_
               clear n0_ n1_ n2_ n3_ n4_ n5_ n6_ n7_ n8_ n9_
               clear hb hbox hg
               refine hK.out _ _ ⟨(blk_cell BK101.out 0).trans rfl, (blk_cell BK101.out 1).trans rfl, (blk_cell BK101.out 2).trans rfl, (blk_cell BK101.out 3).trans rfl, (blk_cell BK101.out 4).trans rfl, (blk_cell BK101.out 5).trans rfl, (blk_cell BK101.out 6).trans rfl, (blk_cell BK101.out 7).trans rfl, (blk_cell BK101.out 8).trans rfl, (blk_cell BK101.out 9).trans rfl, (blk_cell BK101.out 10).trans rfl, (blk_cell BK101.out 11).trans rfl, (blk_cell BK102.out 0).trans rfl, (blk_cell BK102.out 1).trans rfl, (blk_cell BK102.out 2).trans rfl, (blk_cell BK102.out 3).trans rfl, (blk_cell BK102.out 4).trans rfl, (blk_cell BK102.out 5).trans rfl, (blk_cell BK102.out 6).trans rfl, (blk_cell BK102.out 7).trans rfl, (blk_cell BK102.out 8).trans rfl, (blk_cell BK102.out 9).trans rfl, (blk_cell BK102.out 10).trans rfl, (blk_cell BK102.out 11).trans rfl, ((HB.out.cell (World.block_lt_of_cell? w _ hw104_0)).trans hw104_0), ((HB.out.cell (World.block_lt_of_cell? w _ hw104_1)).trans hw104_1), ((HB.out.cell (World.block_lt_of_cell? w _ hw104_2)).trans hw104_2), ((HB.out.cell (World.block_lt_of_cell? w _ hw104_3)).trans hw104_3), ((HB.out.cell (World.block_lt_of_cell? w _ hw104_4)).trans hw104_4), ((HB.out.cell (World.block_lt_of_cell? w _ hw104_5)).trans hw104_5), ((HB.out.cell (World.block_lt_of_cell? w _ hw104_6)).trans hw104_6), ((HB.out.cell (World.block_lt_of_cell? w _ hw104_7)).trans hw104_7), ((HB.out.cell (World.block_lt_of_cell? w _ hw104_8)).trans hw104_8), ((HB.out.cell (World.block_lt_of_cell? w _ hw104_9)).trans hw104_9), ((HB.out.cell (World.block_lt_of_cell? w _ hw104_10)).trans hw104_10), ((HB.out.cell (World.block_lt_of_cell? w _ hw104_11)).trans hw104_11), ((HB.out.cell (World.block_lt_of_cell? w _ hw104_12)).trans hw104_12), ((HB.out.cell (World.block_lt_of_cell? w _ hw105_0)).trans hw105_0), ((HB.out.cell (World.block_lt_of_cell? w _ hw105_1)).trans hw105_1), ((HB.out.cell (World.block_lt_of_cell? w _ hw105_2)).trans hw105_2), ((HB.out.cell (World.block_lt_of_cell? w _ hw105_3)).trans hw105_3), ((HB.out.cell (World.block_lt_of_cell? w _ hw105_4)).trans hw105_4), ((HB.out.cell (World.block_lt_of_cell? w _ hw105_5)).trans hw105_5), ((HB.out.cell (World.block_lt_of_cell? w _ hw105_6)).trans hw105_6), ((HB.out.cell (World.block_lt_of_cell? w _ hw105_7)).trans hw105_7), ((HB.out.cell (World.block_lt_of_cell? w _ hw105_8)).trans hw105_8), ((HB.out.cell (World.block_lt_of_cell? w _ hw105_9)).trans hw105_9), ((HB.out.cell (World.block_lt_of_cell? w _ hw105_10)).trans hw105_10), ((HB.out.cell (World.block_lt_of_cell? w _ hw105_11)).trans hw105_11), ((HB.out.cell (World.block_lt_of_cell? w _ hw105_12)).trans hw105_12)⟩ (fun hHeld => ?_)
               clear hK K
               refine norm_ (a' := ?_) ?_ ?_
               rotate_left
               ·show Act.put _ (some 7) _ = _
                simp only [Act.put, List.setIfInBounds_toArray, List.set_cons_zero, List.set_cons_succ, i64_w, i32_w]
                rfl
               refine one_ (i := 11) (N := some 8) #[true, true, true, true, true, true, true, true, true, true, true, true, false, false] rfl rfl (one_of HT_.out (by kernel_rfl)) (by decide) (fun K hK => ?_)
               refine box_step ?hg (N := 8) ?hd (cs := #[.int .u8 0, .int .u8 0, .int .u8 0, .int .i64 0, .int .u8 0, .int .u8 0, .int .u8 0, .int .u8 0, .slice none 0 0, .bool false, .int .u8 0, .int .u8 0, .int .u8 0]) (t := 52) ?hr ?_; (case hd => rfl); (case hg => rfl); (case hr => first | (go_simp; done) | (go_simp; rfl))
               intro gb107 hg w63 hbox hb
               have n0_ := Aside0.mk (blk_below (g := gb101) (o := .cells #[.int .u8 a0_0, .int .u8 a0_1, .int .u8 a0_2, .slice A0_3 l0_3.length c0_3, .int .i64 a0_4, .int .i64 a0_5, .bool a0_6, .int .i64 a0_7, .int .u8 a0_8, .int .u8 a0_9, .int .u8 a0_10, .slice (some ad104) l0_11.length c0_11] 43 (0, 0)) (by (with_reducible repeat (first | refine blk_drewN ?_ _ | refine blk_drew ?_ | refine blk_alloc ?_ _)); exact BK101.out) hb)
               have n1_ := Aside0.mk (blk_below (g := gb102) (o := .cells #[.int .u8 a1_0, .int .u8 a1_1, .int .u8 a1_2, .slice A1_3 l1_3.length c1_3, .int .i64 a1_4, .int .i64 a1_5, .bool a1_6, .int .i64 a1_7, .int .u8 a1_8, .int .u8 a1_9, .int .u8 a1_10, .slice (some ad105) l1_11.length c1_11] 43 (0, 0)) (by (with_reducible repeat (first | refine blk_drewN ?_ _ | refine blk_drew ?_ | refine blk_alloc ?_ _)); exact BK102.out) hb)
               have n2_ := Aside0.mk (blk_below (g := gb106) (o := .cells #[.int .u8 0, .int .u8 0, .int .u8 0, .int .i64 0, .int .u8 0, .int .u8 0, .int .u8 0, .int .u8 0, .slice none 0 0, .bool false, .int .u8 0, .int .u8 0, .int .u8 0] 52 (0, 0)) (by (with_reducible repeat (first | refine blk_drewN ?_ _ | refine blk_drew ?_ | refine blk_alloc ?_ _)); exact BK106.out) hb)
               have n3_ := Aside0.mk (below_step (by repeat (first | (with_reducible first | exact HB.out | apply below_alloc | apply pw_below_drewN | apply below_drew1 | refine below_set ?_ GE101.out | refine below_set ?_ GE102.out | refine below_set ?_ GE106.out) | exact HB.out)) hb)
               have n4_ := Aside0.mk (hbox)
               have n5_ := Aside0.mk ((by rw [hg]; exact (below_size (by repeat (first | (with_reducible first | exact HB.out | apply below_alloc | apply pw_below_drewN | apply below_drew1 | refine below_set ?_ GE101.out | refine below_set ?_ GE102.out | refine below_set ?_ GE106.out) | exact HB.out))) : w.heap.size ≤ gb107))
               have n6_ := Aside0.mk ((by rw [hg]; exact (below_size (by repeat (first | (with_reducible first | exact HB.out | apply below_alloc | apply pw_below_drewN | apply below_drew1 | refine below_set ?_ GE101.out | refine below_set ?_ GE102.out | refine below_set ?_ GE106.out) | exact HB.out))) : w.heap.size ≤ gb107))
               have n7_ := Aside0.mk ((by rw [hg]; exact Nat.ne_of_lt (blk_lt (g := gb101) (o := .cells #[.int .u8 a0_0, .int .u8 a0_1, .int .u8 a0_2, .slice A0_3 l0_3.length c0_3, .int .i64 a0_4, .int .i64 a0_5, .bool a0_6, .int .i64 a0_7, .int .u8 a0_8, .int .u8 a0_9, .int .u8 a0_10, .slice (some ad104) l0_11.length c0_11] 43 (0, 0)) (by (with_reducible repeat (first | refine blk_drewN ?_ _ | refine blk_drew ?_ | refine blk_alloc ?_ _)); exact BK101.out)) : gb101 ≠ gb107))
               have n8_ := Aside0.mk ((by rw [hg]; exact Nat.ne_of_gt (blk_lt (g := gb101) (o := .cells #[.int .u8 a0_0, .int .u8 a0_1, .int .u8 a0_2, .slice A0_3 l0_3.length c0_3, .int .i64 a0_4, .int .i64 a0_5, .bool a0_6, .int .i64 a0_7, .int .u8 a0_8, .int .u8 a0_9, .int .u8 a0_10, .slice (some ad104) l0_11.length c0_11] 43 (0, 0)) (by (with_reducible repeat (first | refine blk_drewN ?_ _ | refine blk_drew ?_ | refine blk_alloc ?_ _)); exact BK101.out)) : gb107 ≠ gb101))
               have n9_ := Aside0.mk ((by rw [hg]; exact Nat.ne_of_lt (blk_lt (g := gb102) (o := .cells #[.int .u8 a1_0, .int .u8 a1_1, .int .u8 a1_2, .slice A1_3 l1_3.length c1_3, .int .i64 a1_4, .int .i64 a1_5, .bool a1_6, .int .i64 a1_7, .int .u8 a1_8, .int .u8 a1_9, .int .u8 a1_10, .slice (some ad105) l1_11.length c1_11] 43 (0, 0)) (by (with_reducible repeat (first | refine blk_drewN ?_ _ | refine blk_drew ?_ | refine blk_alloc ?_ _)); exact BK102.out)) : gb102 ≠ gb107))
               have n10_ := Aside0.mk ((by rw [hg]; exact Nat.ne_of_gt (blk_lt (g := gb102) (o := .cells #[.int .u8 a1_0, .int .u8 a1_1, .int .u8 a1_2, .slice A1_3 l1_3.length c1_3, .int .i64 a1_4, .int .i64 a1_5, .bool a1_6, .int .i64 a1_7, .int .u8 a1_8, .int .u8 a1_9, .int .u8 a1_10, .slice (some ad105) l1_11.length c1_11] 43 (0, 0)) (by (with_reducible repeat (first | refine blk_drewN ?_ _ | refine blk_drew ?_ | refine blk_alloc ?_ _)); exact BK102.out)) : gb107 ≠ gb102))
               have n11_ := Aside0.mk ((by rw [hg]; exact Nat.ne_of_lt (blk_lt (g := gb106) (o := .cells #[.int .u8 0, .int .u8 0, .int .u8 0, .int .i64 0, .int .u8 0, .int .u8 0, .int .u8 0, .int .u8 0, .slice none 0 0, .bool false, .int .u8 0, .int .u8 0, .int .u8 0] 52 (0, 0)) (by (with_reducible repeat (first | refine blk_drewN ?_ _ | refine blk_drew ?_ | refine blk_alloc ?_ _)); exact BK106.out)) : gb106 ≠ gb107))
               have n12_ := Aside0.mk ((by rw [hg]; exact Nat.ne_of_gt (blk_lt (g := gb106) (o := .cells #[.int .u8 0, .int .u8 0, .int .u8 0, .int .i64 0, .int .u8 0, .int .u8 0, .int .u8 0, .int .u8 0, .slice none 0 0, .bool false, .int .u8 0, .int .u8 0, .int .u8 0] 52 (0, 0)) (by (with_reducible repeat (first | refine blk_drewN ?_ _ | refine blk_drew ?_ | refine blk_alloc ?_ _)); exact BK106.out)) : gb107 ≠ gb106))
               clear BK101
               clear BK102
               clear BK106
               clear HB
               have BK101 := n0_
               have BK102 := n1_
               have BK106 := n2_
               have HB := n3_
               have BK107 := n4_
               have GW107 := n5_
               have GE107 := n6_
               have NB101_107 := n7_
               have NB107_101 := n8_
               have NB102_107 := n9_
               have NB107_102 := n10_
               have NB106_107 := n11_
               have NB107_106 := n12_
               clear n0_ n1_ n2_ n3_ n4_ n5_ n6_ n7_ n8_ n9_ n10_ n11_ n12_
               clear hb hbox hg
               refine hK.out _ _ ⟨(blk_cell BK101.out 0).trans rfl, (blk_cell BK101.out 1).trans rfl, (blk_cell BK101.out 2).trans rfl, (blk_cell BK101.out 3).trans rfl, (blk_cell BK101.out 4).trans rfl, (blk_cell BK101.out 5).trans rfl, (blk_cell BK101.out 6).trans rfl, (blk_cell BK101.out 7).trans rfl, (blk_cell BK101.out 8).trans rfl, (blk_cell BK101.out 9).trans rfl, (blk_cell BK101.out 10).trans rfl, (blk_cell BK101.out 11).trans rfl, (blk_cell BK102.out 0).trans rfl, (blk_cell BK102.out 1).trans rfl, (blk_cell BK102.out 2).trans rfl, (blk_cell BK102.out 3).trans rfl, (blk_cell BK102.out 4).trans rfl, (blk_cell BK102.out 5).trans rfl, (blk_cell BK102.out 6).trans rfl, (blk_cell BK102.out 7).trans rfl, (blk_cell BK102.out 8).trans rfl, (blk_cell BK102.out 9).trans rfl, (blk_cell BK102.out 10).trans rfl, (blk_cell BK102.out 11).trans rfl, ((HB.out.cell (World.block_lt_of_cell? w _ hw104_0)).trans hw104_0), ((HB.out.cell (World.block_lt_of_cell? w _ hw104_1)).trans hw104_1), ((HB.out.cell (World.block_lt_of_cell? w _ hw104_2)).trans hw104_2), ((HB.out.cell (World.block_lt_of_cell? w _ hw104_3)).trans hw104_3), ((HB.out.cell (World.block_lt_of_cell? w _ hw104_4)).trans hw104_4), ((HB.out.cell (World.block_lt_of_cell? w _ hw104_5)).trans hw104_5), ((HB.out.cell (World.block_lt_of_cell? w _ hw104_6)).trans hw104_6), ((HB.out.cell (World.block_lt_of_cell? w _ hw104_7)).trans hw104_7), ((HB.out.cell (World.block_lt_of_cell? w _ hw104_8)).trans hw104_8), ((HB.out.cell (World.block_lt_of_cell? w _ hw104_9)).trans hw104_9), ((HB.out.cell (World.block_lt_of_cell? w _ hw104_10)).trans hw104_10), ((HB.out.cell (World.block_lt_of_cell? w _ hw104_11)).trans hw104_11), ((HB.out.cell (World.block_lt_of_cell? w _ hw104_12)).trans hw104_12), ((HB.out.cell (World.block_lt_of_cell? w _ hw105_0)).trans hw105_0), ((HB.out.cell (World.block_lt_of_cell? w _ hw105_1)).trans hw105_1), ((HB.out.cell (World.block_lt_of_cell? w _ hw105_2)).trans hw105_2), ((HB.out.cell (World.block_lt_of_cell? w _ hw105_3)).trans hw105_3), ((HB.out.cell (World.block_lt_of_cell? w _ hw105_4)).trans hw105_4), ((HB.out.cell (World.block_lt_of_cell? w _ hw105_5)).trans hw105_5), ((HB.out.cell (World.block_lt_of_cell? w _ hw105_6)).trans hw105_6), ((HB.out.cell (World.block_lt_of_cell? w _ hw105_7)).trans hw105_7), ((HB.out.cell (World.block_lt_of_cell? w _ hw105_8)).trans hw105_8), ((HB.out.cell (World.block_lt_of_cell? w _ hw105_9)).trans hw105_9), ((HB.out.cell (World.block_lt_of_cell? w _ hw105_10)).trans hw105_10), ((HB.out.cell (World.block_lt_of_cell? w _ hw105_11)).trans hw105_11), ((HB.out.cell (World.block_lt_of_cell? w _ hw105_12)).trans hw105_12)⟩ (fun hHeld => ?_)
               clear hK K
               refine norm_ (a' := ?_) ?_ ?_
               rotate_left
               ·show Act.put _ (some 8) _ = _
                simp only [Act.put, List.setIfInBounds_toArray, List.set_cons_zero, List.set_cons_succ, i64_w, i32_w]
                rfl
               exact norm_ (by simp only [putAll, Act.put, List.setIfInBounds_toArray, List.set_cons_zero, List.set_cons_succ]) (hCont (gb106, gb107) _ ⟨hHeld, (by (with_reducible repeat (first | refine blk_drewN ?_ _ | refine blk_drew ?_ | refine blk_alloc ?_ _)); exact BK101.out), (by (with_reducible repeat (first | refine blk_drewN ?_ _ | refine blk_drew ?_ | refine blk_alloc ?_ _)); exact BK102.out), (by (with_reducible repeat (first | refine blk_drewN ?_ _ | refine blk_drew ?_ | refine blk_alloc ?_ _)); exact BK106.out), (by (with_reducible repeat (first | refine blk_drewN ?_ _ | refine blk_drew ?_ | refine blk_alloc ?_ _)); exact BK107.out), GW106.out, GE106.out, NB101_106.out, NB106_101.out, NB102_106.out, NB106_102.out, NB107_106.out, NB106_107.out, GW107.out, GE107.out, NB101_107.out, NB107_101.out, NB102_107.out, NB107_102.out, (by repeat (first | (with_reducible first | exact HB.out | apply below_alloc | apply pw_below_drewN | apply below_drew1 | refine below_set ?_ GE101.out | refine below_set ?_ GE102.out | refine below_set ?_ GE106.out | refine below_set ?_ GE107.out) | exact HB.out))⟩)
              ·skip
               refine box_step ?hg (N := 8) ?hd (cs := #[.int .u8 0, .int .u8 0, .int .u8 0, .int .i64 0, .int .u8 0, .int .u8 0, .int .u8 0, .int .u8 0, .slice none 0 0, .bool false, .int .u8 0, .int .u8 0, .int .u8 0]) (t := 52) ?hr ?_; (case hd => rfl); (case hg => rfl); (case hr => first | (go_simp; done) | (go_simp; rfl))
               intro gb107 hg w62 hbox hb
               have n0_ := Aside0.mk (blk_below (g := gb101) (o := .cells #[.int .u8 a0_0, .int .u8 a0_1, .int .u8 a0_2, .slice A0_3 l0_3.length c0_3, .int .i64 a0_4, .int .i64 a0_5, .bool a0_6, .int .i64 a0_7, .int .u8 a0_8, .int .u8 a0_9, .int .u8 a0_10, .slice (some ad104) l0_11.length c0_11] 43 (0, 0)) (by (with_reducible repeat (first | refine blk_drewN ?_ _ | refine blk_drew ?_ | refine blk_alloc ?_ _)); exact BK101.out) hb)
               have n1_ := Aside0.mk (blk_below (g := gb102) (o := .cells #[.int .u8 a1_0, .int .u8 a1_1, .int .u8 a1_2, .slice A1_3 l1_3.length c1_3, .int .i64 a1_4, .int .i64 a1_5, .bool a1_6, .int .i64 a1_7, .int .u8 a1_8, .int .u8 a1_9, .int .u8 a1_10, .slice (some ad105) l1_11.length c1_11] 43 (0, 0)) (by (with_reducible repeat (first | refine blk_drewN ?_ _ | refine blk_drew ?_ | refine blk_alloc ?_ _)); exact BK102.out) hb)
               have n2_ := Aside0.mk (below_step (by repeat (first | (with_reducible first | exact HB.out | apply below_alloc | apply pw_below_drewN | apply below_drew1 | refine below_set ?_ GE101.out | refine below_set ?_ GE102.out) | exact HB.out)) hb)
               have n3_ := Aside0.mk (hbox)
               have n4_ := Aside0.mk ((by rw [hg]; exact (below_size (by repeat (first | (with_reducible first | exact HB.out | apply below_alloc | apply pw_below_drewN | apply below_drew1 | refine below_set ?_ GE101.out | refine below_set ?_ GE102.out) | exact HB.out))) : w.heap.size ≤ gb107))
               have n5_ := Aside0.mk ((by rw [hg]; exact (below_size (by repeat (first | (with_reducible first | exact HB.out | apply below_alloc | apply pw_below_drewN | apply below_drew1 | refine below_set ?_ GE101.out | refine below_set ?_ GE102.out) | exact HB.out))) : w.heap.size ≤ gb107))
               have n6_ := Aside0.mk ((by rw [hg]; exact Nat.ne_of_lt (blk_lt (g := gb101) (o := .cells #[.int .u8 a0_0, .int .u8 a0_1, .int .u8 a0_2, .slice A0_3 l0_3.length c0_3, .int .i64 a0_4, .int .i64 a0_5, .bool a0_6, .int .i64 a0_7, .int .u8 a0_8, .int .u8 a0_9, .int .u8 a0_10, .slice (some ad104) l0_11.length c0_11] 43 (0, 0)) (by (with_reducible repeat (first | refine blk_drewN ?_ _ | refine blk_drew ?_ | refine blk_alloc ?_ _)); exact BK101.out)) : gb101 ≠ gb107))
               have n7_ := Aside0.mk ((by rw [hg]; exact Nat.ne_of_gt (blk_lt (g := gb101) (o := .cells #[.int .u8 a0_0, .int .u8 a0_1, .int .u8 a0_2, .slice A0_3 l0_3.length c0_3, .int .i64 a0_4, .int .i64 a0_5, .bool a0_6, .int .i64 a0_7, .int .u8 a0_8, .int .u8 a0_9, .int .u8 a0_10, .slice (some ad104) l0_11.length c0_11] 43 (0, 0)) (by (with_reducible repeat (first | refine blk_drewN ?_ _ | refine blk_drew ?_ | refine blk_alloc ?_ _)); exact BK101.out)) : gb107 ≠ gb101))
               have n8_ := Aside0.mk ((by rw [hg]; exact Nat.ne_of_lt (blk_lt (g := gb102) (o := .cells #[.int .u8 a1_0, .int .u8 a1_1, .int .u8 a1_2, .slice A1_3 l1_3.length c1_3, .int .i64 a1_4, .int .i64 a1_5, .bool a1_6, .int .i64 a1_7, .int .u8 a1_8, .int .u8 a1_9, .int .u8 a1_10, .slice (some ad105) l1_11.length c1_11] 43 (0, 0)) (by (with_reducible repeat (first | refine blk_drewN ?_ _ | refine blk_drew ?_ | refine blk_alloc ?_ _)); exact BK102.out)) : gb102 ≠ gb107))
               have n9_ := Aside0.mk ((by rw [hg]; exact Nat.ne_of_gt (blk_lt (g := gb102) (o := .cells #[.int .u8 a1_0, .int .u8 a1_1, .int .u8 a1_2, .slice A1_3 l1_3.length c1_3, .int .i64 a1_4, .int .i64 a1_5, .bool a1_6, .int .i64 a1_7, .int .u8 a1_8, .int .u8 a1_9, .int .u8 a1_10, .slice (some ad105) l1_11.length c1_11] 43 (0, 0)) (by (with_reducible repeat (first | refine blk_drewN ?_ _ | refine blk_drew ?_ | refine blk_alloc ?_ _)); exact BK102.out)) : gb107 ≠ gb102))
               clear BK101
               clear BK102
               clear HB
               have BK101 := n0_
               have BK102 := n1_
               have HB := n2_
               have BK107 := n3_
               have GW107 := n4_
               have GE107 := n5_
               have NB101_107 := n6_
               have NB107_101 := n7_
               have NB102_107 := n8_
               have NB107_102 := n9_
               clear n0_ n1_ n2_ n3_ n4_ n5_ n6_ n7_ n8_ n9_
               clear hb hbox hg
               refine hK.out _ _ ⟨(blk_cell BK101.out 0).trans rfl, (blk_cell BK101.out 1).trans rfl, (blk_cell BK101.out 2).trans rfl, (blk_cell BK101.out 3).trans rfl, (blk_cell BK101.out 4).trans rfl, (blk_cell BK101.out 5).trans rfl, (blk_cell BK101.out 6).trans rfl, (blk_cell BK101.out 7).trans rfl, (blk_cell BK101.out 8).trans rfl, (blk_cell BK101.out 9).trans rfl, (blk_cell BK101.out 10).trans rfl, (blk_cell BK101.out 11).trans rfl, (blk_cell BK102.out 0).trans rfl, (blk_cell BK102.out 1).trans rfl, (blk_cell BK102.out 2).trans rfl, (blk_cell BK102.out 3).trans rfl, (blk_cell BK102.out 4).trans rfl, (blk_cell BK102.out 5).trans rfl, (blk_cell BK102.out 6).trans rfl, (blk_cell BK102.out 7).trans rfl, (blk_cell BK102.out 8).trans rfl, (blk_cell BK102.out 9).trans rfl, (blk_cell BK102.out 10).trans rfl, (blk_cell BK102.out 11).trans rfl, ((HB.out.cell (World.block_lt_of_cell? w _ hw104_0)).trans hw104_0), ((HB.out.cell (World.block_lt_of_cell? w _ hw104_1)).trans hw104_1), ((HB.out.cell (World.block_lt_of_cell? w _ hw104_2)).trans hw104_2), ((HB.out.cell (World.block_lt_of_cell? w _ hw104_3)).trans hw104_3), ((HB.out.cell (World.block_lt_of_cell? w _ hw104_4)).trans hw104_4), ((HB.out.cell (World.block_lt_of_cell? w _ hw104_5)).trans hw104_5), ((HB.out.cell (World.block_lt_of_cell? w _ hw104_6)).trans hw104_6), ((HB.out.cell (World.block_lt_of_cell? w _ hw104_7)).trans hw104_7), ((HB.out.cell (World.block_lt_of_cell? w _ hw104_8)).trans hw104_8), ((HB.out.cell (World.block_lt_of_cell? w _ hw104_9)).trans hw104_9), ((HB.out.cell (World.block_lt_of_cell? w _ hw104_10)).trans hw104_10), ((HB.out.cell (World.block_lt_of_cell? w _ hw104_11)).trans hw104_11), ((HB.out.cell (World.block_lt_of_cell? w _ hw104_12)).trans hw104_12), ((HB.out.cell (World.block_lt_of_cell? w _ hw105_0)).trans hw105_0), ((HB.out.cell (World.block_lt_of_cell? w _ hw105_1)).trans hw105_1), ((HB.out.cell (World.block_lt_of_cell? w _ hw105_2)).trans hw105_2), ((HB.out.cell (World.block_lt_of_cell? w _ hw105_3)).trans hw105_3), ((HB.out.cell (World.block_lt_of_cell? w _ hw105_4)).trans hw105_4), ((HB.out.cell (World.block_lt_of_cell? w _ hw105_5)).trans hw105_5), ((HB.out.cell (World.block_lt_of_cell? w _ hw105_6)).trans hw105_6), ((HB.out.cell (World.block_lt_of_cell? w _ hw105_7)).trans hw105_7), ((HB.out.cell (World.block_lt_of_cell? w _ hw105_8)).trans hw105_8), ((HB.out.cell (World.block_lt_of_cell? w _ hw105_9)).trans hw105_9), ((HB.out.cell (World.block_lt_of_cell? w _ hw105_10)).trans hw105_10), ((HB.out.cell (World.block_lt_of_cell? w _ hw105_11)).trans hw105_11), ((HB.out.cell (World.block_lt_of_cell? w _ hw105_12)).trans hw105_12)⟩ (fun hHeld => ?_)
               clear hK K
               refine norm_ (a' := ?_) ?_ ?_
               rotate_left
               ·show Act.put _ (some 8) _ = _
                simp only [Act.put, List.setIfInBounds_toArray, List.set_cons_zero, List.set_cons_succ, i64_w, i32_w]
                rfl
               refine one_ (i := 10) (N := some 7) #[true, true, true, true, true, true, true, true, true, true, true, true, false, false] rfl rfl (one_of HT_.out (by kernel_rfl)) (by decide) (fun K hK => ?_)
               refine box_step ?hg (N := 7) ?hd (cs := #[.int .u8 0, .int .u8 0, .int .u8 0, .int .i64 0, .int .u8 0, .int .u8 0, .int .u8 0, .int .u8 0, .slice none 0 0, .bool false, .int .u8 0, .int .u8 0, .int .u8 0]) (t := 52) ?hr ?_; (case hd => rfl); (case hg => rfl); (case hr => first | (go_simp; done) | (go_simp; rfl))
               intro gb106 hg w63 hbox hb
               have n0_ := Aside0.mk (blk_below (g := gb101) (o := .cells #[.int .u8 a0_0, .int .u8 a0_1, .int .u8 a0_2, .slice A0_3 l0_3.length c0_3, .int .i64 a0_4, .int .i64 a0_5, .bool a0_6, .int .i64 a0_7, .int .u8 a0_8, .int .u8 a0_9, .int .u8 a0_10, .slice (some ad104) l0_11.length c0_11] 43 (0, 0)) (by (with_reducible repeat (first | refine blk_drewN ?_ _ | refine blk_drew ?_ | refine blk_alloc ?_ _)); exact BK101.out) hb)
               have n1_ := Aside0.mk (blk_below (g := gb102) (o := .cells #[.int .u8 a1_0, .int .u8 a1_1, .int .u8 a1_2, .slice A1_3 l1_3.length c1_3, .int .i64 a1_4, .int .i64 a1_5, .bool a1_6, .int .i64 a1_7, .int .u8 a1_8, .int .u8 a1_9, .int .u8 a1_10, .slice (some ad105) l1_11.length c1_11] 43 (0, 0)) (by (with_reducible repeat (first | refine blk_drewN ?_ _ | refine blk_drew ?_ | refine blk_alloc ?_ _)); exact BK102.out) hb)
               have n2_ := Aside0.mk (blk_below (g := gb107) (o := .cells #[.int .u8 0, .int .u8 0, .int .u8 0, .int .i64 0, .int .u8 0, .int .u8 0, .int .u8 0, .int .u8 0, .slice none 0 0, .bool false, .int .u8 0, .int .u8 0, .int .u8 0] 52 (0, 0)) (by (with_reducible repeat (first | refine blk_drewN ?_ _ | refine blk_drew ?_ | refine blk_alloc ?_ _)); exact BK107.out) hb)
               have n3_ := Aside0.mk (below_step (by repeat (first | (with_reducible first | exact HB.out | apply below_alloc | apply pw_below_drewN | apply below_drew1 | refine below_set ?_ GE101.out | refine below_set ?_ GE102.out | refine below_set ?_ GE107.out) | exact HB.out)) hb)
               have n4_ := Aside0.mk (hbox)
               have n5_ := Aside0.mk ((by rw [hg]; exact (below_size (by repeat (first | (with_reducible first | exact HB.out | apply below_alloc | apply pw_below_drewN | apply below_drew1 | refine below_set ?_ GE101.out | refine below_set ?_ GE102.out | refine below_set ?_ GE107.out) | exact HB.out))) : w.heap.size ≤ gb106))
               have n6_ := Aside0.mk ((by rw [hg]; exact (below_size (by repeat (first | (with_reducible first | exact HB.out | apply below_alloc | apply pw_below_drewN | apply below_drew1 | refine below_set ?_ GE101.out | refine below_set ?_ GE102.out | refine below_set ?_ GE107.out) | exact HB.out))) : w.heap.size ≤ gb106))
               have n7_ := Aside0.mk ((by rw [hg]; exact Nat.ne_of_lt (blk_lt (g := gb101) (o := .cells #[.int .u8 a0_0, .int .u8 a0_1, .int .u8 a0_2, .slice A0_3 l0_3.length c0_3, .int .i64 a0_4, .int .i64 a0_5, .bool a0_6, .int .i64 a0_7, .int .u8 a0_8, .int .u8 a0_9, .int .u8 a0_10, .slice (some ad104) l0_11.length c0_11] 43 (0, 0)) (by (with_reducible repeat (first | refine blk_drewN ?_ _ | refine blk_drew ?_ | refine blk_alloc ?_ _)); exact BK101.out)) : gb101 ≠ gb106))
               have n8_ := Aside0.mk ((by rw [hg]; exact Nat.ne_of_gt (blk_lt (g := gb101) (o := .cells #[.int .u8 a0_0, .int .u8 a0_1, .int .u8 a0_2, .slice A0_3 l0_3.length c0_3, .int .i64 a0_4, .int .i64 a0_5, .bool a0_6, .int .i64 a0_7, .int .u8 a0_8, .int .u8 a0_9, .int .u8 a0_10, .slice (some ad104) l0_11.length c0_11] 43 (0, 0)) (by (with_reducible repeat (first | refine blk_drewN ?_ _ | refine blk_drew ?_ | refine blk_alloc ?_ _)); exact BK101.out)) : gb106 ≠ gb101))
               have n9_ := Aside0.mk ((by rw [hg]; exact Nat.ne_of_lt (blk_lt (g := gb102) (o := .cells #[.int .u8 a1_0, .int .u8 a1_1, .int .u8 a1_2, .slice A1_3 l1_3.length c1_3, .int .i64 a1_4, .int .i64 a1_5, .bool a1_6, .int .i64 a1_7, .int .u8 a1_8, .int .u8 a1_9, .int .u8 a1_10, .slice (some ad105) l1_11.length c1_11] 43 (0, 0)) (by (with_reducible repeat (first | refine blk_drewN ?_ _ | refine blk_drew ?_ | refine blk_alloc ?_ _)); exact BK102.out)) : gb102 ≠ gb106))
               have n10_ := Aside0.mk ((by rw [hg]; exact Nat.ne_of_gt (blk_lt (g := gb102) (o := .cells #[.int .u8 a1_0, .int .u8 a1_1, .int .u8 a1_2, .slice A1_3 l1_3.length c1_3, .int .i64 a1_4, .int .i64 a1_5, .bool a1_6, .int .i64 a1_7, .int .u8 a1_8, .int .u8 a1_9, .int .u8 a1_10, .slice (some ad105) l1_11.length c1_11] 43 (0, 0)) (by (with_reducible repeat (first | refine blk_drewN ?_ _ | refine blk_drew ?_ | refine blk_alloc ?_ _)); exact BK102.out)) : gb106 ≠ gb102))
               have n11_ := Aside0.mk ((by rw [hg]; exact Nat.ne_of_lt (blk_lt (g := gb107) (o := .cells #[.int .u8 0, .int .u8 0, .int .u8 0, .int .i64 0, .int .u8 0, .int .u8 0, .int .u8 0, .int .u8 0, .slice none 0 0, .bool false, .int .u8 0, .int .u8 0, .int .u8 0] 52 (0, 0)) (by (with_reducible repeat (first | refine blk_drewN ?_ _ | refine blk_drew ?_ | refine blk_alloc ?_ _)); exact BK107.out)) : gb107 ≠ gb106))
               have n12_ := Aside0.mk ((by rw [hg]; exact Nat.ne_of_gt (blk_lt (g := gb107) (o := .cells #[.int .u8 0, .int .u8 0, .int .u8 0, .int .i64 0, .int .u8 0, .int .u8 0, .int .u8 0, .int .u8 0, .slice none 0 0, .bool false, .int .u8 0, .int .u8 0, .int .u8 0] 52 (0, 0)) (by (with_reducible repeat (first | refine blk_drewN ?_ _ | refine blk_drew ?_ | refine blk_alloc ?_ _)); exact BK107.out)) : gb106 ≠ gb107))
               clear BK101
               clear BK102
               clear BK107
               clear HB
               have BK101 := n0_
               have BK102 := n1_
               have BK107 := n2_
               have HB := n3_
               have BK106 := n4_
               have GW106 := n5_
               have GE106 := n6_
               have NB101_106 := n7_
               have NB106_101 := n8_
               have NB102_106 := n9_
               have NB106_102 := n10_
               have NB107_106 := n11_
               have NB106_107 := n12_
               clear n0_ n1_ n2_ n3_ n4_ n5_ n6_ n7_ n8_ n9_ n10_ n11_ n12_
               clear hb hbox hg
               refine hK.out _ _ ⟨(blk_cell BK101.out 0).trans rfl, (blk_cell BK101.out 1).trans rfl, (blk_cell BK101.out 2).trans rfl, (blk_cell BK101.out 3).trans rfl, (blk_cell BK101.out 4).trans rfl, (blk_cell BK101.out 5).trans rfl, (blk_cell BK101.out 6).trans rfl, (blk_cell BK101.out 7).trans rfl, (blk_cell BK101.out 8).trans rfl, (blk_cell BK101.out 9).trans rfl, (blk_cell BK101.out 10).trans rfl, (blk_cell BK101.out 11).trans rfl, (blk_cell BK102.out 0).trans rfl, (blk_cell BK102.out 1).trans rfl, (blk_cell BK102.out 2).trans rfl, (blk_cell BK102.out 3).trans rfl, (blk_cell BK102.out 4).trans rfl, (blk_cell BK102.out 5).trans rfl, (blk_cell BK102.out 6).trans rfl, (blk_cell BK102.out 7).trans rfl, (blk_cell BK102.out 8).trans rfl, (blk_cell BK102.out 9).trans rfl, (blk_cell BK102.out 10).trans rfl, (blk_cell BK102.out 11).trans rfl, ((HB.out.cell (World.block_lt_of_cell? w _ hw104_0)).trans hw104_0), ((HB.out.cell (World.block_lt_of_cell? w _ hw104_1)).trans hw104_1), ((HB.out.cell (World.block_lt_of_cell? w _ hw104_2)).trans hw104_2), ((HB.out.cell (World.block_lt_of_cell? w _ hw104_3)).trans hw104_3), ((HB.out.cell (World.block_lt_of_cell? w _ hw104_4)).trans hw104_4), ((HB.out.cell (World.block_lt_of_cell? w _ hw104_5)).trans hw104_5), ((HB.out.cell (World.block_lt_of_cell? w _ hw104_6)).trans hw104_6), ((HB.out.cell (World.block_lt_of_cell? w _ hw104_7)).trans hw104_7), ((HB.out.cell (World.block_lt_of_cell? w _ hw104_8)).trans hw104_8), ((HB.out.cell (World.block_lt_of_cell? w _ hw104_9)).trans hw104_9), ((HB.out.cell (World.block_lt_of_cell? w _ hw104_10)).trans hw104_10), ((HB.out.cell (World.block_lt_of_cell? w _ hw104_11)).trans hw104_11), ((HB.out.cell (World.block_lt_of_cell? w _ hw104_12)).trans hw104_12), ((HB.out.cell (World.block_lt_of_cell? w _ hw105_0)).trans hw105_0), ((HB.out.cell (World.block_lt_of_cell? w _ hw105_1)).trans hw105_1), ((HB.out.cell (World.block_lt_of_cell? w _ hw105_2)).trans hw105_2), ((HB.out.cell (World.block_lt_of_cell? w _ hw105_3)).trans hw105_3), ((HB.out.cell (World.block_lt_of_cell? w _ hw105_4)).trans hw105_4), ((HB.out.cell (World.block_lt_of_cell? w _ hw105_5)).trans hw105_5), ((HB.out.cell (World.block_lt_of_cell? w _ hw105_6)).trans hw105_6), ((HB.out.cell (World.block_lt_of_cell? w _ hw105_7)).trans hw105_7), ((HB.out.cell (World.block_lt_of_cell? w _ hw105_8)).trans hw105_8), ((HB.out.cell (World.block_lt_of_cell? w _ hw105_9)).trans hw105_9), ((HB.out.cell (World.block_lt_of_cell? w _ hw105_10)).trans hw105_10), ((HB.out.cell (World.block_lt_of_cell? w _ hw105_11)).trans hw105_11), ((HB.out.cell (World.block_lt_of_cell? w _ hw105_12)).trans hw105_12)⟩ (fun hHeld => ?_)
               clear hK K
               refine norm_ (a' := ?_) ?_ ?_
               rotate_left
               ·show Act.put _ (some 7) _ = _
                simp only [Act.put, List.setIfInBounds_toArray, List.set_cons_zero, List.set_cons_succ, i64_w, i32_w]
                rfl
               exact norm_ (by simp only [putAll, Act.put, List.setIfInBounds_toArray, List.set_cons_zero, List.set_cons_succ]) (hCont (gb106, gb107) _ ⟨hHeld, (by (with_reducible repeat (first | refine blk_drewN ?_ _ | refine blk_drew ?_ | refine blk_alloc ?_ _)); exact BK101.out), (by (with_reducible repeat (first | refine blk_drewN ?_ _ | refine blk_drew ?_ | refine blk_alloc ?_ _)); exact BK102.out), (by (with_reducible repeat (first | refine blk_drewN ?_ _ | refine blk_drew ?_ | refine blk_alloc ?_ _)); exact BK106.out), (by (with_reducible repeat (first | refine blk_drewN ?_ _ | refine blk_drew ?_ | refine blk_alloc ?_ _)); exact BK107.out), GW106.out, GE106.out, NB101_106.out, NB106_101.out, NB102_106.out, NB106_102.out, NB107_106.out, NB106_107.out, GW107.out, GE107.out, NB101_107.out, NB107_101.out, NB102_107.out, NB107_102.out, (by repeat (first | (with_reducible first | exact HB.out | apply below_alloc | apply pw_below_drewN | apply below_drew1 | refine below_set ?_ GE101.out | refine below_set ?_ GE102.out | refine below_set ?_ GE107.out | refine below_set ?_ GE106.out) | exact HB.out))⟩)
             rintro ⟨gb106, gb107⟩ w64 ⟨hS_, h0_, h1_, h2_, h3_, h4_, h5_, h6_, h7_, h8_, h9_, h10_, h11_, h12_, h13_, h14_, h15_, h16_, h17_, h18_⟩
             have n0_ : Aside0 (w64.heap[gb101]? = some (.cells #[.int .u8 a0_0, .int .u8 a0_1, .int .u8 a0_2, .slice A0_3 l0_3.length c0_3, .int .i64 a0_4, .int .i64 a0_5, .bool a0_6, .int .i64 a0_7, .int .u8 a0_8, .int .u8 a0_9, .int .u8 a0_10, .slice (some ad104) l0_11.length c0_11] 43 (0, 0))) := ⟨h0_⟩
             have n1_ : Aside0 (w64.heap[gb102]? = some (.cells #[.int .u8 a1_0, .int .u8 a1_1, .int .u8 a1_2, .slice A1_3 l1_3.length c1_3, .int .i64 a1_4, .int .i64 a1_5, .bool a1_6, .int .i64 a1_7, .int .u8 a1_8, .int .u8 a1_9, .int .u8 a1_10, .slice (some ad105) l1_11.length c1_11] 43 (0, 0))) := ⟨h1_⟩
             have n2_ : Aside0 (w64.heap[gb106]? = some (.cells #[.int .u8 0, .int .u8 0, .int .u8 0, .int .i64 0, .int .u8 0, .int .u8 0, .int .u8 0, .int .u8 0, .slice none 0 0, .bool false, .int .u8 0, .int .u8 0, .int .u8 0] 52 (0, 0))) := ⟨h2_⟩
             have n3_ : Aside0 (w64.heap[gb107]? = some (.cells #[.int .u8 0, .int .u8 0, .int .u8 0, .int .i64 0, .int .u8 0, .int .u8 0, .int .u8 0, .int .u8 0, .slice none 0 0, .bool false, .int .u8 0, .int .u8 0, .int .u8 0] 52 (0, 0))) := ⟨h3_⟩
             have n4_ : Aside0 (w.heap.size ≤ gb106) := ⟨h4_⟩
             have n5_ : Aside0 (w.heap.size ≤ gb106) := ⟨h5_⟩
             have n6_ : Aside0 (gb101 ≠ gb106) := ⟨h6_⟩
             have n7_ : Aside0 (gb106 ≠ gb101) := ⟨h7_⟩
             have n8_ : Aside0 (gb102 ≠ gb106) := ⟨h8_⟩
             have n9_ : Aside0 (gb106 ≠ gb102) := ⟨h9_⟩
             have n10_ : Aside0 (gb107 ≠ gb106) := ⟨h10_⟩
             have n11_ : Aside0 (gb106 ≠ gb107) := ⟨h11_⟩
             have n12_ : Aside0 (w.heap.size ≤ gb107) := ⟨h12_⟩
             have n13_ : Aside0 (w.heap.size ≤ gb107) := ⟨h13_⟩
             have n14_ : Aside0 (gb101 ≠ gb107) := ⟨h14_⟩
             have n15_ : Aside0 (gb107 ≠ gb101) := ⟨h15_⟩
             have n16_ : Aside0 (gb102 ≠ gb107) := ⟨h16_⟩
             have n17_ : Aside0 (gb107 ≠ gb102) := ⟨h17_⟩
             have n18_ : Aside0 (Below w.heap.size w w64) := ⟨h18_⟩
             clear BK101
             clear BK102
             clear HB
             clear h0_ h1_ h2_ h3_ h4_ h5_ h6_ h7_ h8_ h9_ h10_ h11_ h12_ h13_ h14_ h15_ h16_ h17_ h18_
             have BK101 := n0_
             have BK102 := n1_
             have BK106 := n2_
             have BK107 := n3_
             have GW106 := n4_
             have GE106 := n5_
             have NB101_106 := n6_
             have NB106_101 := n7_
             have NB102_106 := n8_
             have NB106_102 := n9_
             have NB107_106 := n10_
             have NB106_107 := n11_
             have GW107 := n12_
             have GE107 := n13_
             have NB101_107 := n14_
             have NB107_101 := n15_
             have NB102_107 := n16_
             have NB107_102 := n17_
             have HB := n18_
             clear n0_ n1_ n2_ n3_ n4_ n5_ n6_ n7_ n8_ n9_ n10_ n11_ n12_ n13_ n14_ n15_ n16_ n17_ n18_
             have hHeld : w64.cell? ⟨gb101, 0, none⟩ = some (.int .u8 a0_0) ∧ w64.cell? ⟨gb101, 1, none⟩ = some (.int .u8 a0_1) ∧ w64.cell? ⟨gb101, 2, none⟩ = some (.int .u8 a0_2) ∧ w64.cell? ⟨gb101, 3, none⟩ = some (.slice A0_3 l0_3.length c0_3) ∧ w64.cell? ⟨gb101, 4, none⟩ = some (.int .i64 a0_4) ∧ w64.cell? ⟨gb101, 5, none⟩ = some (.int .i64 a0_5) ∧ w64.cell? ⟨gb101, 6, none⟩ = some (.bool a0_6) ∧ w64.cell? ⟨gb101, 7, none⟩ = some (.int .i64 a0_7) ∧ w64.cell? ⟨gb101, 8, none⟩ = some (.int .u8 a0_8) ∧ w64.cell? ⟨gb101, 9, none⟩ = some (.int .u8 a0_9) ∧ w64.cell? ⟨gb101, 10, none⟩ = some (.int .u8 a0_10) ∧ w64.cell? ⟨gb101, 11, none⟩ = some (.slice (some ad104) l0_11.length c0_11) ∧ w64.cell? ⟨gb102, 0, none⟩ = some (.int .u8 a1_0) ∧ w64.cell? ⟨gb102, 1, none⟩ = some (.int .u8 a1_1) ∧ w64.cell? ⟨gb102, 2, none⟩ = some (.int .u8 a1_2) ∧ w64.cell? ⟨gb102, 3, none⟩ = some (.slice A1_3 l1_3.length c1_3) ∧ w64.cell? ⟨gb102, 4, none⟩ = some (.int .i64 a1_4) ∧ w64.cell? ⟨gb102, 5, none⟩ = some (.int .i64 a1_5) ∧ w64.cell? ⟨gb102, 6, none⟩ = some (.bool a1_6) ∧ w64.cell? ⟨gb102, 7, none⟩ = some (.int .i64 a1_7) ∧ w64.cell? ⟨gb102, 8, none⟩ = some (.int .u8 a1_8) ∧ w64.cell? ⟨gb102, 9, none⟩ = some (.int .u8 a1_9) ∧ w64.cell? ⟨gb102, 10, none⟩ = some (.int .u8 a1_10) ∧ w64.cell? ⟨gb102, 11, none⟩ = some (.slice (some ad105) l1_11.length c1_11) ∧ w64.cell? (ad104.add ((x6_2).toNat * 13)) = some (.int .u8 ((rd_T52 l0_11 x6_2).f0)) ∧ w64.cell? ⟨(ad104.add ((x6_2).toNat * 13)).block, (ad104.add ((x6_2).toNat * 13)).off + 1, none⟩ = some (.int .u8 ((rd_T52 l0_11 x6_2).f1)) ∧ w64.cell? ⟨(ad104.add ((x6_2).toNat * 13)).block, (ad104.add ((x6_2).toNat * 13)).off + 2, none⟩ = some (.int .u8 ((rd_T52 l0_11 x6_2).f2.f0)) ∧ w64.cell? ⟨(ad104.add ((x6_2).toNat * 13)).block, (ad104.add ((x6_2).toNat * 13)).off + 3, none⟩ = some (.int .i64 ((rd_T52 l0_11 x6_2).f2.f1)) ∧ w64.cell? ⟨(ad104.add ((x6_2).toNat * 13)).block, (ad104.add ((x6_2).toNat * 13)).off + 4, none⟩ = some (.int .u8 ((rd_T52 l0_11 x6_2).f2.f2)) ∧ w64.cell? ⟨(ad104.add ((x6_2).toNat * 13)).block, (ad104.add ((x6_2).toNat * 13)).off + 5, none⟩ = some (.int .u8 ((rd_T52 l0_11 x6_2).f2.f3.f0)) ∧ w64.cell? ⟨(ad104.add ((x6_2).toNat * 13)).block, (ad104.add ((x6_2).toNat * 13)).off + 6, none⟩ = some (.int .u8 ((rd_T52 l0_11 x6_2).f2.f3.f1)) ∧ w64.cell? ⟨(ad104.add ((x6_2).toNat * 13)).block, (ad104.add ((x6_2).toNat * 13)).off + 7, none⟩ = some (.int .u8 ((rd_T52 l0_11 x6_2).f2.f3.f2)) ∧ w64.cell? ⟨(ad104.add ((x6_2).toNat * 13)).block, (ad104.add ((x6_2).toNat * 13)).off + 8, none⟩ = some (.slice A104_8 ((rd_T52 l0_11 x6_2).f2.f4).length c104_8) ∧ w64.cell? ⟨(ad104.add ((x6_2).toNat * 13)).block, (ad104.add ((x6_2).toNat * 13)).off + 9, none⟩ = some (.bool ((rd_T52 l0_11 x6_2).f3)) ∧ w64.cell? ⟨(ad104.add ((x6_2).toNat * 13)).block, (ad104.add ((x6_2).toNat * 13)).off + 10, none⟩ = some (.int .u8 ((rd_T52 l0_11 x6_2).f4.f0)) ∧ w64.cell? ⟨(ad104.add ((x6_2).toNat * 13)).block, (ad104.add ((x6_2).toNat * 13)).off + 11, none⟩ = some (.int .u8 ((rd_T52 l0_11 x6_2).f4.f1)) ∧ w64.cell? ⟨(ad104.add ((x6_2).toNat * 13)).block, (ad104.add ((x6_2).toNat * 13)).off + 12, none⟩ = some (.int .u8 ((rd_T52 l0_11 x6_2).f4.f2)) ∧ w64.cell? (ad105.add ((x6_2).toNat * 13)) = some (.int .u8 ((rd_T52 l1_11 x6_2).f0)) ∧ w64.cell? ⟨(ad105.add ((x6_2).toNat * 13)).block, (ad105.add ((x6_2).toNat * 13)).off + 1, none⟩ = some (.int .u8 ((rd_T52 l1_11 x6_2).f1)) ∧ w64.cell? ⟨(ad105.add ((x6_2).toNat * 13)).block, (ad105.add ((x6_2).toNat * 13)).off + 2, none⟩ = some (.int .u8 ((rd_T52 l1_11 x6_2).f2.f0)) ∧ w64.cell? ⟨(ad105.add ((x6_2).toNat * 13)).block, (ad105.add ((x6_2).toNat * 13)).off + 3, none⟩ = some (.int .i64 ((rd_T52 l1_11 x6_2).f2.f1)) ∧ w64.cell? ⟨(ad105.add ((x6_2).toNat * 13)).block, (ad105.add ((x6_2).toNat * 13)).off + 4, none⟩ = some (.int .u8 ((rd_T52 l1_11 x6_2).f2.f2)) ∧ w64.cell? ⟨(ad105.add ((x6_2).toNat * 13)).block, (ad105.add ((x6_2).toNat * 13)).off + 5, none⟩ = some (.int .u8 ((rd_T52 l1_11 x6_2).f2.f3.f0)) ∧ w64.cell? ⟨(ad105.add ((x6_2).toNat * 13)).block, (ad105.add ((x6_2).toNat * 13)).off + 6, none⟩ = some (.int .u8 ((rd_T52 l1_11 x6_2).f2.f3.f1)) ∧ w64.cell? ⟨(ad105.add ((x6_2).toNat * 13)).block, (ad105.add ((x6_2).toNat * 13)).off + 7, none⟩ = some (.int .u8 ((rd_T52 l1_11 x6_2).f2.f3.f2)) ∧ w64.cell? ⟨(ad105.add ((x6_2).toNat * 13)).block, (ad105.add ((x6_2).toNat * 13)).off + 8, none⟩ = some (.slice A105_8 ((rd_T52 l1_11 x6_2).f2.f4).length c105_8) ∧ w64.cell? ⟨(ad105.add ((x6_2).toNat * 13)).block, (ad105.add ((x6_2).toNat * 13)).off + 9, none⟩ = some (.bool ((rd_T52 l1_11 x6_2).f3)) ∧ w64.cell? ⟨(ad105.add ((x6_2).toNat * 13)).block, (ad105.add ((x6_2).toNat * 13)).off + 10, none⟩ = some (.int .u8 ((rd_T52 l1_11 x6_2).f4.f0)) ∧ w64.cell? ⟨(ad105.add ((x6_2).toNat * 13)).block, (ad105.add ((x6_2).toNat * 13)).off + 11, none⟩ = some (.int .u8 ((rd_T52 l1_11 x6_2).f4.f1)) ∧ w64.cell? ⟨(ad105.add ((x6_2).toNat * 13)).block, (ad105.add ((x6_2).toNat * 13)).off + 12, none⟩ = some (.int .u8 ((rd_T52 l1_11 x6_2).f4.f2)) := hS_
             refine norm_ (a' := ?_) ?_ ?_
             rotate_left
             ·simp only [putAll, Act.put, List.setIfInBounds_toArray, List.set_cons_zero, List.set_cons_succ]
              rfl
             refine one_ (i := 12) (N := none) #[true, true, true, true, true, true, true, true, true, true, true, true, true, false] rfl rfl (one_of HT_.out (by kernel_rfl)) (by decide) (fun K hK => ?_)
             refine skip_row (by rfl) rfl rfl gb106 #[.int .u8 ((rd_T52 l0_11 x6_2).f0), .int .u8 ((rd_T52 l0_11 x6_2).f1), .int .u8 ((rd_T52 l0_11 x6_2).f2.f0), .int .i64 ((rd_T52 l0_11 x6_2).f2.f1), .int .u8 ((rd_T52 l0_11 x6_2).f2.f2), .int .u8 ((rd_T52 l0_11 x6_2).f2.f3.f0), .int .u8 ((rd_T52 l0_11 x6_2).f2.f3.f1), .int .u8 ((rd_T52 l0_11 x6_2).f2.f3.f2), .slice A104_8 ((rd_T52 l0_11 x6_2).f2.f4).length c104_8, .bool ((rd_T52 l0_11 x6_2).f3), .int .u8 ((rd_T52 l0_11 x6_2).f4.f0), .int .u8 ((rd_T52 l0_11 x6_2).f4.f1), .int .u8 ((rd_T52 l0_11 x6_2).f4.f2)] rfl rfl BK106.out (by kernel_rfl) rfl (by kernel_rfl) ?_
             intro w65 hF6 hG6
             have n1_ := Aside0.mk (blk_grown BK101.out hG6 (fun e => NB101_106.out (Option.some.inj e)))
             have n2_ := Aside0.mk (blk_grown BK102.out hG6 (fun e => NB102_106.out (Option.some.inj e)))
             have n3_ := Aside0.mk hF6
             have n4_ := Aside0.mk (blk_grown BK107.out hG6 (fun e => NB107_106.out (Option.some.inj e)))
             have n5_ := Aside0.mk (pw_below_grown HB.out (some gb106) HB.out.size hG6 (fun k e => by cases e; exact GE106.out))
             clear BK101 BK102 BK106 BK107 HB hF6
             have BK101 := n1_; have BK102 := n2_; have BK106 := n3_; have BK107 := n4_; have HB := n5_
             clear n1_ n2_ n3_ n4_ n5_
             refine hK.out _ _ ⟨far_grown hG6 NB101_106.out hHeld.1, far_grown hG6 NB101_106.out hHeld.2.1, far_grown hG6 NB101_106.out hHeld.2.2.1, far_grown hG6 NB101_106.out hHeld.2.2.2.1, far_grown hG6 NB101_106.out hHeld.2.2.2.2.1, far_grown hG6 NB101_106.out hHeld.2.2.2.2.2.1, far_grown hG6 NB101_106.out hHeld.2.2.2.2.2.2.1, far_grown hG6 NB101_106.out hHeld.2.2.2.2.2.2.2.1, far_grown hG6 NB101_106.out hHeld.2.2.2.2.2.2.2.2.1, far_grown hG6 NB101_106.out hHeld.2.2.2.2.2.2.2.2.2.1, far_grown hG6 NB101_106.out hHeld.2.2.2.2.2.2.2.2.2.2.1, far_grown hG6 NB101_106.out hHeld.2.2.2.2.2.2.2.2.2.2.2.1, far_grown hG6 NB102_106.out hHeld.2.2.2.2.2.2.2.2.2.2.2.2.1, far_grown hG6 NB102_106.out hHeld.2.2.2.2.2.2.2.2.2.2.2.2.2.1, far_grown hG6 NB102_106.out hHeld.2.2.2.2.2.2.2.2.2.2.2.2.2.2.1, far_grown hG6 NB102_106.out hHeld.2.2.2.2.2.2.2.2.2.2.2.2.2.2.2.1, far_grown hG6 NB102_106.out hHeld.2.2.2.2.2.2.2.2.2.2.2.2.2.2.2.2.1, far_grown hG6 NB102_106.out hHeld.2.2.2.2.2.2.2.2.2.2.2.2.2.2.2.2.2.1, far_grown hG6 NB102_106.out hHeld.2.2.2.2.2.2.2.2.2.2.2.2.2.2.2.2.2.2.1, far_grown hG6 NB102_106.out hHeld.2.2.2.2.2.2.2.2.2.2.2.2.2.2.2.2.2.2.2.1, far_grown hG6 NB102_106.out hHeld.2.2.2.2.2.2.2.2.2.2.2.2.2.2.2.2.2.2.2.2.1, far_grown hG6 NB102_106.out hHeld.2.2.2.2.2.2.2.2.2.2.2.2.2.2.2.2.2.2.2.2.2.1, far_grown hG6 NB102_106.out hHeld.2.2.2.2.2.2.2.2.2.2.2.2.2.2.2.2.2.2.2.2.2.2.1, far_grown hG6 NB102_106.out hHeld.2.2.2.2.2.2.2.2.2.2.2.2.2.2.2.2.2.2.2.2.2.2.2.1, far_grown hG6 (row_ne hw104_0 GW106.out) hHeld.2.2.2.2.2.2.2.2.2.2.2.2.2.2.2.2.2.2.2.2.2.2.2.2.1, far_grown hG6 (row_ne hw104_1 GW106.out) hHeld.2.2.2.2.2.2.2.2.2.2.2.2.2.2.2.2.2.2.2.2.2.2.2.2.2.1, far_grown hG6 (row_ne hw104_2 GW106.out) hHeld.2.2.2.2.2.2.2.2.2.2.2.2.2.2.2.2.2.2.2.2.2.2.2.2.2.2.1, far_grown hG6 (row_ne hw104_3 GW106.out) hHeld.2.2.2.2.2.2.2.2.2.2.2.2.2.2.2.2.2.2.2.2.2.2.2.2.2.2.2.1, far_grown hG6 (row_ne hw104_4 GW106.out) hHeld.2.2.2.2.2.2.2.2.2.2.2.2.2.2.2.2.2.2.2.2.2.2.2.2.2.2.2.2.1, far_grown hG6 (row_ne hw104_5 GW106.out) hHeld.2.2.2.2.2.2.2.2.2.2.2.2.2.2.2.2.2.2.2.2.2.2.2.2.2.2.2.2.2.1, far_grown hG6 (row_ne hw104_6 GW106.out) hHeld.2.2.2.2.2.2.2.2.2.2.2.2.2.2.2.2.2.2.2.2.2.2.2.2.2.2.2.2.2.2.1, far_grown hG6 (row_ne hw104_7 GW106.out) hHeld.2.2.2.2.2.2.2.2.2.2.2.2.2.2.2.2.2.2.2.2.2.2.2.2.2.2.2.2.2.2.2.1, far_grown hG6 (row_ne hw104_8 GW106.out) hHeld.2.2.2.2.2.2.2.2.2.2.2.2.2.2.2.2.2.2.2.2.2.2.2.2.2.2.2.2.2.2.2.2.1, far_grown hG6 (row_ne hw104_9 GW106.out) hHeld.2.2.2.2.2.2.2.2.2.2.2.2.2.2.2.2.2.2.2.2.2.2.2.2.2.2.2.2.2.2.2.2.2.1, far_grown hG6 (row_ne hw104_10 GW106.out) hHeld.2.2.2.2.2.2.2.2.2.2.2.2.2.2.2.2.2.2.2.2.2.2.2.2.2.2.2.2.2.2.2.2.2.2.1, far_grown hG6 (row_ne hw104_11 GW106.out) hHeld.2.2.2.2.2.2.2.2.2.2.2.2.2.2.2.2.2.2.2.2.2.2.2.2.2.2.2.2.2.2.2.2.2.2.2.1, far_grown hG6 (row_ne hw104_12 GW106.out) hHeld.2.2.2.2.2.2.2.2.2.2.2.2.2.2.2.2.2.2.2.2.2.2.2.2.2.2.2.2.2.2.2.2.2.2.2.2.1, far_grown hG6 (row_ne hw105_0 GW106.out) hHeld.2.2.2.2.2.2.2.2.2.2.2.2.2.2.2.2.2.2.2.2.2.2.2.2.2.2.2.2.2.2.2.2.2.2.2.2.2.1, far_grown hG6 (row_ne hw105_1 GW106.out) hHeld.2.2.2.2.2.2.2.2.2.2.2.2.2.2.2.2.2.2.2.2.2.2.2.2.2.2.2.2.2.2.2.2.2.2.2.2.2.2.1, far_grown hG6 (row_ne hw105_2 GW106.out) hHeld.2.2.2.2.2.2.2.2.2.2.2.2.2.2.2.2.2.2.2.2.2.2.2.2.2.2.2.2.2.2.2.2.2.2.2.2.2.2.2.1, far_grown hG6 (row_ne hw105_3 GW106.out) hHeld.2.2.2.2.2.2.2.2.2.2.2.2.2.2.2.2.2.2.2.2.2.2.2.2.2.2.2.2.2.2.2.2.2.2.2.2.2.2.2.2.1, far_grown hG6 (row_ne hw105_4 GW106.out) hHeld.2.2.2.2.2.2.2.2.2.2.2.2.2.2.2.2.2.2.2.2.2.2.2.2.2.2.2.2.2.2.2.2.2.2.2.2.2.2.2.2.2.1, far_grown hG6 (row_ne hw105_5 GW106.out) hHeld.2.2.2.2.2.2.2.2.2.2.2.2.2.2.2.2.2.2.2.2.2.2.2.2.2.2.2.2.2.2.2.2.2.2.2.2.2.2.2.2.2.2.1, far_grown hG6 (row_ne hw105_6 GW106.out) hHeld.2.2.2.2.2.2.2.2.2.2.2.2.2.2.2.2.2.2.2.2.2.2.2.2.2.2.2.2.2.2.2.2.2.2.2.2.2.2.2.2.2.2.2.1, far_grown hG6 (row_ne hw105_7 GW106.out) hHeld.2.2.2.2.2.2.2.2.2.2.2.2.2.2.2.2.2.2.2.2.2.2.2.2.2.2.2.2.2.2.2.2.2.2.2.2.2.2.2.2.2.2.2.2.1, far_grown hG6 (row_ne hw105_8 GW106.out) hHeld.2.2.2.2.2.2.2.2.2.2.2.2.2.2.2.2.2.2.2.2.2.2.2.2.2.2.2.2.2.2.2.2.2.2.2.2.2.2.2.2.2.2.2.2.2.1, far_grown hG6 (row_ne hw105_9 GW106.out) hHeld.2.2.2.2.2.2.2.2.2.2.2.2.2.2.2.2.2.2.2.2.2.2.2.2.2.2.2.2.2.2.2.2.2.2.2.2.2.2.2.2.2.2.2.2.2.2.1, far_grown hG6 (row_ne hw105_10 GW106.out) hHeld.2.2.2.2.2.2.2.2.2.2.2.2.2.2.2.2.2.2.2.2.2.2.2.2.2.2.2.2.2.2.2.2.2.2.2.2.2.2.2.2.2.2.2.2.2.2.2.1, far_grown hG6 (row_ne hw105_11 GW106.out) hHeld.2.2.2.2.2.2.2.2.2.2.2.2.2.2.2.2.2.2.2.2.2.2.2.2.2.2.2.2.2.2.2.2.2.2.2.2.2.2.2.2.2.2.2.2.2.2.2.2.1, far_grown hG6 (row_ne hw105_12 GW106.out) hHeld.2.2.2.2.2.2.2.2.2.2.2.2.2.2.2.2.2.2.2.2.2.2.2.2.2.2.2.2.2.2.2.2.2.2.2.2.2.2.2.2.2.2.2.2.2.2.2.2.2⟩ (fun hHeld => ?_)
             clear hK K hG6
             refine one_ (i := 13) (N := none) #[true, true, true, true, true, true, true, true, true, true, true, true, true, true] rfl rfl (one_of HT_.out (by kernel_rfl)) (by decide) (fun K hK => ?_)
             refine skip_row (by rfl) rfl rfl gb107 #[.int .u8 ((rd_T52 l1_11 x6_2).f0), .int .u8 ((rd_T52 l1_11 x6_2).f1), .int .u8 ((rd_T52 l1_11 x6_2).f2.f0), .int .i64 ((rd_T52 l1_11 x6_2).f2.f1), .int .u8 ((rd_T52 l1_11 x6_2).f2.f2), .int .u8 ((rd_T52 l1_11 x6_2).f2.f3.f0), .int .u8 ((rd_T52 l1_11 x6_2).f2.f3.f1), .int .u8 ((rd_T52 l1_11 x6_2).f2.f3.f2), .slice A105_8 ((rd_T52 l1_11 x6_2).f2.f4).length c105_8, .bool ((rd_T52 l1_11 x6_2).f3), .int .u8 ((rd_T52 l1_11 x6_2).f4.f0), .int .u8 ((rd_T52 l1_11 x6_2).f4.f1), .int .u8 ((rd_T52 l1_11 x6_2).f4.f2)] rfl rfl BK107.out (by kernel_rfl) rfl (by kernel_rfl) ?_
             intro w66 hF7 hG7
             have n1_ := Aside0.mk (blk_grown BK101.out hG7 (fun e => NB101_107.out (Option.some.inj e)))
             have n2_ := Aside0.mk (blk_grown BK102.out hG7 (fun e => NB102_107.out (Option.some.inj e)))
             have n3_ := Aside0.mk (blk_grown BK106.out hG7 (fun e => NB106_107.out (Option.some.inj e)))
             have n4_ := Aside0.mk hF7
             have n5_ := Aside0.mk (pw_below_grown HB.out (some gb107) HB.out.size hG7 (fun k e => by cases e; exact GE107.out))
             clear BK101 BK102 BK106 BK107 HB hF7
             have BK101 := n1_; have BK102 := n2_; have BK106 := n3_; have BK107 := n4_; have HB := n5_
             clear n1_ n2_ n3_ n4_ n5_
             refine hK.out _ _ ⟨far_grown hG7 NB101_107.out hHeld.1, far_grown hG7 NB101_107.out hHeld.2.1, far_grown hG7 NB101_107.out hHeld.2.2.1, far_grown hG7 NB101_107.out hHeld.2.2.2.1, far_grown hG7 NB101_107.out hHeld.2.2.2.2.1, far_grown hG7 NB101_107.out hHeld.2.2.2.2.2.1, far_grown hG7 NB101_107.out hHeld.2.2.2.2.2.2.1, far_grown hG7 NB101_107.out hHeld.2.2.2.2.2.2.2.1, far_grown hG7 NB101_107.out hHeld.2.2.2.2.2.2.2.2.1, far_grown hG7 NB101_107.out hHeld.2.2.2.2.2.2.2.2.2.1, far_grown hG7 NB101_107.out hHeld.2.2.2.2.2.2.2.2.2.2.1, far_grown hG7 NB101_107.out hHeld.2.2.2.2.2.2.2.2.2.2.2.1, far_grown hG7 NB102_107.out hHeld.2.2.2.2.2.2.2.2.2.2.2.2.1, far_grown hG7 NB102_107.out hHeld.2.2.2.2.2.2.2.2.2.2.2.2.2.1, far_grown hG7 NB102_107.out hHeld.2.2.2.2.2.2.2.2.2.2.2.2.2.2.1, far_grown hG7 NB102_107.out hHeld.2.2.2.2.2.2.2.2.2.2.2.2.2.2.2.1, far_grown hG7 NB102_107.out hHeld.2.2.2.2.2.2.2.2.2.2.2.2.2.2.2.2.1, far_grown hG7 NB102_107.out hHeld.2.2.2.2.2.2.2.2.2.2.2.2.2.2.2.2.2.1, far_grown hG7 NB102_107.out hHeld.2.2.2.2.2.2.2.2.2.2.2.2.2.2.2.2.2.2.1, far_grown hG7 NB102_107.out hHeld.2.2.2.2.2.2.2.2.2.2.2.2.2.2.2.2.2.2.2.1, far_grown hG7 NB102_107.out hHeld.2.2.2.2.2.2.2.2.2.2.2.2.2.2.2.2.2.2.2.2.1, far_grown hG7 NB102_107.out hHeld.2.2.2.2.2.2.2.2.2.2.2.2.2.2.2.2.2.2.2.2.2.1, far_grown hG7 NB102_107.out hHeld.2.2.2.2.2.2.2.2.2.2.2.2.2.2.2.2.2.2.2.2.2.2.1, far_grown hG7 NB102_107.out hHeld.2.2.2.2.2.2.2.2.2.2.2.2.2.2.2.2.2.2.2.2.2.2.2.1, far_grown hG7 (row_ne hw104_0 GW107.out) hHeld.2.2.2.2.2.2.2.2.2.2.2.2.2.2.2.2.2.2.2.2.2.2.2.2.1, far_grown hG7 (row_ne hw104_1 GW107.out) hHeld.2.2.2.2.2.2.2.2.2.2.2.2.2.2.2.2.2.2.2.2.2.2.2.2.2.1, far_grown hG7 (row_ne hw104_2 GW107.out) hHeld.2.2.2.2.2.2.2.2.2.2.2.2.2.2.2.2.2.2.2.2.2.2.2.2.2.2.1, far_grown hG7 (row_ne hw104_3 GW107.out) hHeld.2.2.2.2.2.2.2.2.2.2.2.2.2.2.2.2.2.2.2.2.2.2.2.2.2.2.2.1, far_grown hG7 (row_ne hw104_4 GW107.out) hHeld.2.2.2.2.2.2.2.2.2.2.2.2.2.2.2.2.2.2.2.2.2.2.2.2.2.2.2.2.1, far_grown hG7 (row_ne hw104_5 GW107.out) hHeld.2.2.2.2.2.2.2.2.2.2.2.2.2.2.2.2.2.2.2.2.2.2.2.2.2.2.2.2.2.1, far_grown hG7 (row_ne hw104_6 GW107.out) hHeld.2.2.2.2.2.2.2.2.2.2.2.2.2.2.2.2.2.2.2.2.2.2.2.2.2.2.2.2.2.2.1, far_grown hG7 (row_ne hw104_7 GW107.out) hHeld.2.2.2.2.2.2.2.2.2.2.2.2.2.2.2.2.2.2.2.2.2.2.2.2.2.2.2.2.2.2.2.1, far_grown hG7 (row_ne hw104_8 GW107.out) hHeld.2.2.2.2.2.2.2.2.2.2.2.2.2.2.2.2.2.2.2.2.2.2.2.2.2.2.2.2.2.2.2.2.1, far_grown hG7 (row_ne hw104_9 GW107.out) hHeld.2.2.2.2.2.2.2.2.2.2.2.2.2.2.2.2.2.2.2.2.2.2.2.2.2.2.2.2.2.2.2.2.2.1, far_grown hG7 (row_ne hw104_10 GW107.out) hHeld.2.2.2.2.2.2.2.2.2.2.2.2.2.2.2.2.2.2.2.2.2.2.2.2.2.2.2.2.2.2.2.2.2.2.1, far_grown hG7 (row_ne hw104_11 GW107.out) hHeld.2.2.2.2.2.2.2.2.2.2.2.2.2.2.2.2.2.2.2.2.2.2.2.2.2.2.2.2.2.2.2.2.2.2.2.1, far_grown hG7 (row_ne hw104_12 GW107.out) hHeld.2.2.2.2.2.2.2.2.2.2.2.2.2.2.2.2.2.2.2.2.2.2.2.2.2.2.2.2.2.2.2.2.2.2.2.2.1, far_grown hG7 (row_ne hw105_0 GW107.out) hHeld.2.2.2.2.2.2.2.2.2.2.2.2.2.2.2.2.2.2.2.2.2.2.2.2.2.2.2.2.2.2.2.2.2.2.2.2.2.1, far_grown hG7 (row_ne hw105_1 GW107.out) hHeld.2.2.2.2.2.2.2.2.2.2.2.2.2.2.2.2.2.2.2.2.2.2.2.2.2.2.2.2.2.2.2.2.2.2.2.2.2.2.1, far_grown hG7 (row_ne hw105_2 GW107.out) hHeld.2.2.2.2.2.2.2.2.2.2.2.2.2.2.2.2.2.2.2.2.2.2.2.2.2.2.2.2.2.2.2.2.2.2.2.2.2.2.2.1, far_grown hG7 (row_ne hw105_3 GW107.out) hHeld.2.2.2.2.2.2.2.2.2.2.2.2.2.2.2.2.2.2.2.2.2.2.2.2.2.2.2.2.2.2.2.2.2.2.2.2.2.2.2.2.1, far_grown hG7 (row_ne hw105_4 GW107.out) hHeld.2.2.2.2.2.2.2.2.2.2.2.2.2.2.2.2.2.2.2.2.2.2.2.2.2.2.2.2.2.2.2.2.2.2.2.2.2.2.2.2.2.1, far_grown hG7 (row_ne hw105_5 GW107.out) hHeld.2.2.2.2.2.2.2.2.2.2.2.2.2.2.2.2.2.2.2.2.2.2.2.2.2.2.2.2.2.2.2.2.2.2.2.2.2.2.2.2.2.2.1, far_grown hG7 (row_ne hw105_6 GW107.out) hHeld.2.2.2.2.2.2.2.2.2.2.2.2.2.2.2.2.2.2.2.2.2.2.2.2.2.2.2.2.2.2.2.2.2.2.2.2.2.2.2.2.2.2.2.1, far_grown hG7 (row_ne hw105_7 GW107.out) hHeld.2.2.2.2.2.2.2.2.2.2.2.2.2.2.2.2.2.2.2.2.2.2.2.2.2.2.2.2.2.2.2.2.2.2.2.2.2.2.2.2.2.2.2.2.1, far_grown hG7 (row_ne hw105_8 GW107.out) hHeld.2.2.2.2.2.2.2.2.2.2.2.2.2.2.2.2.2.2.2.2.2.2.2.2.2.2.2.2.2.2.2.2.2.2.2.2.2.2.2.2.2.2.2.2.2.1, far_grown hG7 (row_ne hw105_9 GW107.out) hHeld.2.2.2.2.2.2.2.2.2.2.2.2.2.2.2.2.2.2.2.2.2.2.2.2.2.2.2.2.2.2.2.2.2.2.2.2.2.2.2.2.2.2.2.2.2.2.1, far_grown hG7 (row_ne hw105_10 GW107.out) hHeld.2.2.2.2.2.2.2.2.2.2.2.2.2.2.2.2.2.2.2.2.2.2.2.2.2.2.2.2.2.2.2.2.2.2.2.2.2.2.2.2.2.2.2.2.2.2.2.1, far_grown hG7 (row_ne hw105_11 GW107.out) hHeld.2.2.2.2.2.2.2.2.2.2.2.2.2.2.2.2.2.2.2.2.2.2.2.2.2.2.2.2.2.2.2.2.2.2.2.2.2.2.2.2.2.2.2.2.2.2.2.2.1, far_grown hG7 (row_ne hw105_12 GW107.out) hHeld.2.2.2.2.2.2.2.2.2.2.2.2.2.2.2.2.2.2.2.2.2.2.2.2.2.2.2.2.2.2.2.2.2.2.2.2.2.2.2.2.2.2.2.2.2.2.2.2.2⟩ (fun hHeld => ?_)
             clear hK K hG7
             refine done_ (done_of HT_.out (by kernel_rfl)) ?_
             clear hHeld
             have hz106_0 : w66.cell? ⟨gb106, 0, none⟩ = some (.int .u8 ((rd_T52 l0_11 x6_2).f0)) := (blk_cell BK106.out 0).trans rfl
             have hf106_0 := blk_frozen BK106.out 0
             have hz106_1 : w66.cell? ⟨gb106, 1, none⟩ = some (.int .u8 ((rd_T52 l0_11 x6_2).f1)) := (blk_cell BK106.out 1).trans rfl
             have hf106_1 := blk_frozen BK106.out 1
             have hz106_2 : w66.cell? ⟨gb106, 2, none⟩ = some (.int .u8 ((rd_T52 l0_11 x6_2).f2.f0)) := (blk_cell BK106.out 2).trans rfl
             have hf106_2 := blk_frozen BK106.out 2
             have hz106_3 : w66.cell? ⟨gb106, 3, none⟩ = some (.int .i64 ((rd_T52 l0_11 x6_2).f2.f1)) := (blk_cell BK106.out 3).trans rfl
             have hf106_3 := blk_frozen BK106.out 3
             have hz106_4 : w66.cell? ⟨gb106, 4, none⟩ = some (.int .u8 ((rd_T52 l0_11 x6_2).f2.f2)) := (blk_cell BK106.out 4).trans rfl
             have hf106_4 := blk_frozen BK106.out 4
             have hz106_5 : w66.cell? ⟨gb106, 5, none⟩ = some (.int .u8 ((rd_T52 l0_11 x6_2).f2.f3.f0)) := (blk_cell BK106.out 5).trans rfl
             have hf106_5 := blk_frozen BK106.out 5
             have hz106_6 : w66.cell? ⟨gb106, 6, none⟩ = some (.int .u8 ((rd_T52 l0_11 x6_2).f2.f3.f1)) := (blk_cell BK106.out 6).trans rfl
             have hf106_6 := blk_frozen BK106.out 6
             have hz106_7 : w66.cell? ⟨gb106, 7, none⟩ = some (.int .u8 ((rd_T52 l0_11 x6_2).f2.f3.f2)) := (blk_cell BK106.out 7).trans rfl
             have hf106_7 := blk_frozen BK106.out 7
             have hz106_8 : w66.cell? ⟨gb106, 8, none⟩ = some (.slice A104_8 ((rd_T52 l0_11 x6_2).f2.f4).length c104_8) := (blk_cell BK106.out 8).trans rfl
             have hf106_8 := blk_frozen BK106.out 8
             have hz106_9 : w66.cell? ⟨gb106, 9, none⟩ = some (.bool ((rd_T52 l0_11 x6_2).f3)) := (blk_cell BK106.out 9).trans rfl
             have hf106_9 := blk_frozen BK106.out 9
             have hz106_10 : w66.cell? ⟨gb106, 10, none⟩ = some (.int .u8 ((rd_T52 l0_11 x6_2).f4.f0)) := (blk_cell BK106.out 10).trans rfl
             have hf106_10 := blk_frozen BK106.out 10
             have hz106_11 : w66.cell? ⟨gb106, 11, none⟩ = some (.int .u8 ((rd_T52 l0_11 x6_2).f4.f1)) := (blk_cell BK106.out 11).trans rfl
             have hf106_11 := blk_frozen BK106.out 11
             have hz106_12 : w66.cell? ⟨gb106, 12, none⟩ = some (.int .u8 ((rd_T52 l0_11 x6_2).f4.f2)) := (blk_cell BK106.out 12).trans rfl
             have hf106_12 := blk_frozen BK106.out 12
             have hz107_0 : w66.cell? ⟨gb107, 0, none⟩ = some (.int .u8 ((rd_T52 l1_11 x6_2).f0)) := (blk_cell BK107.out 0).trans rfl
             have hf107_0 := blk_frozen BK107.out 0
             have hz107_1 : w66.cell? ⟨gb107, 1, none⟩ = some (.int .u8 ((rd_T52 l1_11 x6_2).f1)) := (blk_cell BK107.out 1).trans rfl
             have hf107_1 := blk_frozen BK107.out 1
             have hz107_2 : w66.cell? ⟨gb107, 2, none⟩ = some (.int .u8 ((rd_T52 l1_11 x6_2).f2.f0)) := (blk_cell BK107.out 2).trans rfl
             have hf107_2 := blk_frozen BK107.out 2
             have hz107_3 : w66.cell? ⟨gb107, 3, none⟩ = some (.int .i64 ((rd_T52 l1_11 x6_2).f2.f1)) := (blk_cell BK107.out 3).trans rfl
             have hf107_3 := blk_frozen BK107.out 3
             have hz107_4 : w66.cell? ⟨gb107, 4, none⟩ = some (.int .u8 ((rd_T52 l1_11 x6_2).f2.f2)) := (blk_cell BK107.out 4).trans rfl
             have hf107_4 := blk_frozen BK107.out 4
             have hz107_5 : w66.cell? ⟨gb107, 5, none⟩ = some (.int .u8 ((rd_T52 l1_11 x6_2).f2.f3.f0)) := (blk_cell BK107.out 5).trans rfl
             have hf107_5 := blk_frozen BK107.out 5
             have hz107_6 : w66.cell? ⟨gb107, 6, none⟩ = some (.int .u8 ((rd_T52 l1_11 x6_2).f2.f3.f1)) := (blk_cell BK107.out 6).trans rfl
             have hf107_6 := blk_frozen BK107.out 6
             have hz107_7 : w66.cell? ⟨gb107, 7, none⟩ = some (.int .u8 ((rd_T52 l1_11 x6_2).f2.f3.f2)) := (blk_cell BK107.out 7).trans rfl
             have hf107_7 := blk_frozen BK107.out 7
             have hz107_8 : w66.cell? ⟨gb107, 8, none⟩ = some (.slice A105_8 ((rd_T52 l1_11 x6_2).f2.f4).length c105_8) := (blk_cell BK107.out 8).trans rfl
             have hf107_8 := blk_frozen BK107.out 8
             have hz107_9 : w66.cell? ⟨gb107, 9, none⟩ = some (.bool ((rd_T52 l1_11 x6_2).f3)) := (blk_cell BK107.out 9).trans rfl
             have hf107_9 := blk_frozen BK107.out 9
             have hz107_10 : w66.cell? ⟨gb107, 10, none⟩ = some (.int .u8 ((rd_T52 l1_11 x6_2).f4.f0)) := (blk_cell BK107.out 10).trans rfl
             have hf107_10 := blk_frozen BK107.out 10
             have hz107_11 : w66.cell? ⟨gb107, 11, none⟩ = some (.int .u8 ((rd_T52 l1_11 x6_2).f4.f1)) := (blk_cell BK107.out 11).trans rfl
             have hf107_11 := blk_frozen BK107.out 11
             have hz107_12 : w66.cell? ⟨gb107, 12, none⟩ = some (.int .u8 ((rd_T52 l1_11 x6_2).f4.f2)) := (blk_cell BK107.out 12).trans rfl
             have hf107_12 := blk_frozen BK107.out 12
             go_wp2_with (first | (go_at_call 30; (with_reducible refine (joustref00_Expr.calls ((rd_T52 l0_11 x6_2).f2.f0) ((rd_T52 l0_11 x6_2).f2.f1) ((rd_T52 l0_11 x6_2).f2.f2) ((rd_T52 l0_11 x6_2).f2.f3.f0) ((rd_T52 l0_11 x6_2).f2.f3.f1) ((rd_T52 l0_11 x6_2).f2.f3.f2) _ _ ((rd_T52 l0_11 x6_2).f2.f4) ((rd_T52 l1_11 x6_2).f2.f0) ((rd_T52 l1_11 x6_2).f2.f1) ((rd_T52 l1_11 x6_2).f2.f2) ((rd_T52 l1_11 x6_2).f2.f3.f0) ((rd_T52 l1_11 x6_2).f2.f3.f1) ((rd_T52 l1_11 x6_2).f2.f3.f2) _ _ ((rd_T52 l1_11 x6_2).f2.f4) t108 _ ?side1 ?side2 ?side3 ?side4 A58.out).mono ?_); (case side1 => exact Kd.C_below HR104_8.out HB.out); (case side2 => exact HC104_8.out); (case side3 => exact Kd.C_below HR105_8.out HB.out); (case side4 => exact HC105_8.out); rintro e w98 ⟨rfl, hb⟩; have n1_ := Aside0.mk (blk_below BK101.out hb); have n2_ := Aside0.mk (blk_below BK102.out hb); have n5_ := Aside0.mk (below_step HB.out hb); clear BK101; clear BK102; clear BK106; clear BK107; clear HB; have BK101 := n1_; have BK102 := n2_; have HB := n5_; clear n1_ n2_ n5_; clear hb))
             go_roundg k2
             case measure => have := HJ2.out; have := HK2.out; omega
             case rel => exact ⟨(t108), (wrap64 (x6_2 + 1)), (by first | rfl | (simp; done) | (simp [*]; done)), (by first | rfl | (simp; done) | (simp [*]; done)), H', ⟨by have := HJ2.out; have := HK2.out; omega⟩, BK101, BK102, HB⟩
            ·rw [if_neg c57] at H
             exact absurd H (by simp)
           ·rw [if_neg c56] at H
            exact absurd H (by simp)
          ·rw [if_neg c55] at H
           exact absurd H (by simp)
         ·rw [if_neg c54] at H
          exact absurd H (by simp)
        ·rw [if_neg c53] at H
         exact absurd H (by simp)
       ·rw [if_neg c52] at H
        exact absurd H (by simp)
      ·rw [if_neg c51] at H
       have c51b0 : decide (x6_2 < (l0_11.length : Int)) = false := decide_eq_false c51
       clear c51
       have hT_ := Option.some.inj H
       have hnb255 := NB101_102.out
       have hnc255 := NB102_101.out
       have hcz256_0 : wr.cell? ⟨gb101, 0, none⟩ = some (.int .u8 a0_0) := (blk_cell BK101.out 0).trans rfl
       have hcz256_1 : wr.cell? ⟨gb101, 1, none⟩ = some (.int .u8 a0_1) := (blk_cell BK101.out 1).trans rfl
       have hcz256_2 : wr.cell? ⟨gb101, 2, none⟩ = some (.int .u8 a0_2) := (blk_cell BK101.out 2).trans rfl
       have hcz256_3 : wr.cell? ⟨gb101, 3, none⟩ = some (.slice A0_3 l0_3.length c0_3) := (blk_cell BK101.out 3).trans rfl
       have hcz256_4 : wr.cell? ⟨gb101, 4, none⟩ = some (.int .i64 a0_4) := (blk_cell BK101.out 4).trans rfl
       have hcz256_5 : wr.cell? ⟨gb101, 5, none⟩ = some (.int .i64 a0_5) := (blk_cell BK101.out 5).trans rfl
       have hcz256_6 : wr.cell? ⟨gb101, 6, none⟩ = some (.bool a0_6) := (blk_cell BK101.out 6).trans rfl
       have hcz256_7 : wr.cell? ⟨gb101, 7, none⟩ = some (.int .i64 a0_7) := (blk_cell BK101.out 7).trans rfl
       have hcz256_8 : wr.cell? ⟨gb101, 8, none⟩ = some (.int .u8 a0_8) := (blk_cell BK101.out 8).trans rfl
       have hcz256_9 : wr.cell? ⟨gb101, 9, none⟩ = some (.int .u8 a0_9) := (blk_cell BK101.out 9).trans rfl
       have hcz256_10 : wr.cell? ⟨gb101, 10, none⟩ = some (.int .u8 a0_10) := (blk_cell BK101.out 10).trans rfl
       have hcz256_11 : wr.cell? ⟨gb101, 11, none⟩ = some (.slice A0_11 l0_11.length c0_11) := (blk_cell BK101.out 11).trans rfl
       have hfz256_0 := blk_frozen BK101.out 0
       have hfz256_1 := blk_frozen BK101.out 1
       have hfz256_2 := blk_frozen BK101.out 2
       have hfz256_3 := blk_frozen BK101.out 3
       have hfz256_4 := blk_frozen BK101.out 4
       have hfz256_5 := blk_frozen BK101.out 5
       have hfz256_6 := blk_frozen BK101.out 6
       have hfz256_7 := blk_frozen BK101.out 7
       have hfz256_8 := blk_frozen BK101.out 8
       have hfz256_9 := blk_frozen BK101.out 9
       have hfz256_10 := blk_frozen BK101.out 10
       have hfz256_11 := blk_frozen BK101.out 11
       go_wp2
       go_ret
       exact ⟨by first | rfl | (simp [errW_none, errW_some] <;> rfl) | (simp [*, errW_none, errW_some] <;> rfl), by repeat (first | (with_reducible first | exact HB.out | apply below_alloc | apply pw_below_drewN | apply below_drew1 | refine below_set ?_ GE101.out | refine below_set ?_ GE102.out) | exact HB.out)⟩
     ·replace c50 := Bool.eq_false_iff.mpr c50
      subst c50
      have H1 : (some false) = some true := by rw [if_neg (show ¬ (false = true) by decide)] at H; exact H
      clear H
      have H := H1
      clear H1
      exact absurd H (by simp)

end Go.Proofs.YtmgdkkkkanjadaaGreatDoor.CmpV
namespace Go.Proofs.YtmgdkkkkanjadaaGreatDoor.HandS
open Go.RowKit Go.Proofs.YtmgdkkkkanjadaaGreatDoorW.PrintWords Go.Proofs.YtmgdkkkkanjadaaGreatDoorW.PrintLast Go.Proofs.YtmgdkkkkanjadaaGreatDoorW.PrintMore Go.Proofs.YtmgdkkkkanjadaaGreatDoor.X Go.Proofs.YtmgdkkkkanjadaaGreatDoor.HandS Go.Proofs.YtmgdkkkkanjadaaGreatDoor.Iter
def joustref00_Effect.f (a0_0 : Int) (a0_1 : Int) (a0_2 : Int) (l0_3 : List (S50)) (a0_4 : Int) (a0_5 : Int) (a0_6 : Bool) (a0_7 : Int) (a0_8 : Int) (a0_9 : Int) (a0_10 : Int) (l0_11 : List (S52)) (a1_0 : Int) (a1_1 : Int) (a1_2 : Int) (l1_3 : List (S50)) (a1_4 : Int) (a1_5 : Int) (a1_6 : Bool) (a1_7 : Int) (a1_8 : Int) (a1_9 : Int) (a1_10 : Int) (l1_11 : List (S52)) : Option Bool := if CmpV.joustref00_Effect.g 20 a0_0 a0_1 a0_2 l0_3 a0_4 a0_5 a0_6 a0_7 a0_8 a0_9 a0_10 l0_11 a1_0 a1_1 a1_2 l1_3 a1_4 a1_5 a1_6 a1_7 a1_8 a1_9 a1_10 l1_11 = some true then some true else none
theorem joustref00_Effect.calls (a0_0 : Int) (a0_1 : Int) (a0_2 : Int) (A0_3 : Option Addr) (c0_3 : Nat) (l0_3 : List (S50)) (a0_4 : Int) (a0_5 : Int) (a0_6 : Bool) (a0_7 : Int) (a0_8 : Int) (a0_9 : Int) (a0_10 : Int) (A0_11 : Option Addr) (c0_11 : Nat) (l0_11 : List (S52)) (a1_0 : Int) (a1_1 : Int) (a1_2 : Int) (A1_3 : Option Addr) (c1_3 : Nat) (l1_3 : List (S50)) (a1_4 : Int) (a1_5 : Int) (a1_6 : Bool) (a1_7 : Int) (a1_8 : Int) (a1_9 : Int) (a1_10 : Int) (A1_11 : Option Addr) (c1_11 : Nat) (l1_11 : List (S52)) (r : Bool) (w : World) (hr0_3 : Kd.C k50 w A0_3 l0_3.length l0_3) (hc0_3 : l0_3.length ≤ c0_3) (hr0_11 : Kd.C k52 w A0_11 l0_11.length l0_11) (hc0_11 : l0_11.length ≤ c0_11) (hr1_3 : Kd.C k50 w A1_3 l1_3.length l1_3) (hc1_3 : l1_3.length ≤ c1_3) (hr1_11 : Kd.C k52 w A1_11 l1_11.length l1_11) (hc1_11 : l1_11.length ≤ c1_11) (h : joustref00_Effect.f a0_0 a0_1 a0_2 l0_3 a0_4 a0_5 a0_6 a0_7 a0_8 a0_9 a0_10 l0_11 a1_0 a1_1 a1_2 l1_3 a1_4 a1_5 a1_6 a1_7 a1_8 a1_9 a1_10 l1_11 = some r) :
  Calls Tryz.prog 64 #[.agg #[.int .u8 a0_0, .int .u8 a0_1, .int .u8 a0_2, .slice A0_3 l0_3.length c0_3, .int .i64 a0_4, .int .i64 a0_5, .bool a0_6, .int .i64 a0_7, .int .u8 a0_8, .int .u8 a0_9, .int .u8 a0_10, .slice A0_11 l0_11.length c0_11], .agg #[.int .u8 a1_0, .int .u8 a1_1, .int .u8 a1_2, .slice A1_3 l1_3.length c1_3, .int .i64 a1_4, .int .i64 a1_5, .bool a1_6, .int .i64 a1_7, .int .u8 a1_8, .int .u8 a1_9, .int .u8 a1_10, .slice A1_11 l1_11.length c1_11]] w fun e w' => e = .returned (.bool r) ∧ Below w.heap.size w w' := by
  unfold joustref00_Effect.f at h
  split at h
  · next h1 =>
    obtain rfl := Option.some.inj h
    exact CmpV.joustref00_Effect.calls_true 20 a0_0 a0_1 a0_2 A0_3 c0_3 l0_3 a0_4 a0_5 a0_6 a0_7 a0_8 a0_9 a0_10 A0_11 c0_11 l0_11 a1_0 a1_1 a1_2 A1_3 c1_3 l1_3 a1_4 a1_5 a1_6 a1_7 a1_8 a1_9 a1_10 A1_11 c1_11 l1_11 w hr0_3 hc0_3 hr0_11 hc0_11 hr1_3 hc1_3 hr1_11 hc1_11 h1
  · cases h
end Go.Proofs.YtmgdkkkkanjadaaGreatDoor.HandS
