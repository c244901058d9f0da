/-
  limits.Read and its reader: each method comes to a plain step over tokens. Conditions: what the listed package variables hold.
-/
import Derived.Test.YtgcmgfljbadljaaGreatDoorHandF
import Derived.Test.YtgcmgfljbadljaaGreatDoorL23
import Derived.Maps.AppendAt
import Derived.Outline
namespace Go.Proofs.YtgcmgfljbadljaaGreatDoor.HandR
set_option linter.unusedVariables false
set_option linter.unusedSimpArgs false
open Go.RowKit Go.Shelf Go.Lib Go.Proofs.YtgcmgfljbadljaaGreatDoorW.PrintWords Go.Proofs.YtgcmgfljbadljaaGreatDoorW.PrintLast Go.Proofs.YtgcmgfljbadljaaGreatDoorW.PrintMore Go.Proofs.YtgcmgfljbadljaaGreatDoor.L Go.Proofs.YtgcmgfljbadljaaGreatDoor.HandS Go.Proofs.YtgcmgfljbadljaaGreatDoor.HandF

theorem grown_set (w : World) (b i : Nat) (u : Value) : w.grownBy (w.setCell ⟨b, i, none⟩ u) (some b) :=
  ⟨rfl, rfl, rfl, by simp [World.setCell], fun k hk hne => Below.heap_setCell w ⟨b, i, none⟩ u k (fun e => hne (by rw [e]))⟩
/-- The reader's block. -/
def rdr (B o n c : Nat) (e l k : Int) : Obj := .cells #[.slice (some ⟨B, o, none⟩) n c, .int .i64 e, .int .i64 l, .int .i64 k] 72 (0, 0)
/-- A token lies at a place. -/
def Tk (w : World) (B o : Nat) (t : S74) : Prop := w.cell? ⟨B, o, none⟩ = some (.int .u8 t.f0) ∧ w.cell? ⟨B, o + 1, none⟩ = some (.string t.f1) ∧ w.cell? ⟨B, o + 2, none⟩ = some (.int .i64 t.f2.f0) ∧ w.cell? ⟨B, o + 3, none⟩ = some (.int .i64 t.f2.f1)
theorem Tk.grown {w w' : World} {B o : Nat} {t : S74} {b : Nat} (h : Tk w B o t) (hg : w.grownBy w' (some b)) (hne : B ≠ b) : Tk w' B o t := by
  have hn : ∀ i : Nat, some (Addr.mk B i none).block ≠ some b := fun i e => hne (by injection e)
  exact ⟨hg.cell h.1 (hn _), hg.cell h.2.1 (hn _), hg.cell h.2.2.1 (hn _), hg.cell h.2.2.2 (hn _)⟩
set_option maxHeartbeats 1000000 in
theorem fail (b B o n c : Nat) (e l k : Int) (x : Int) (t : S74) (w : World) (hb : w.heap[b]? = some (rdr B o n c e l k)) (ht : Tk w B o t) (hn : 0 < n) (hne : B ≠ b) :
    Calls Tryz.prog 62 #[.pointer (some ⟨b, 0, none⟩), .int .i64 x] w fun en w' => en = .returned (.tuple #[]) ∧ w.grownBy w' (some b) ∧ w'.heap[b]? = some (if e = 0 then rdr B o n c x t.f2.f0 t.f2.f1 else rdr B o n c e l k) := by
  unfold rdr at *
  obtain ⟨t0, t1, t2, t3⟩ := ht
  have c0 : w.cell? ⟨b, 0, none⟩ = some (.slice (some ⟨B, o, none⟩) n c) := (blk_cell hb 0).trans rfl
  have c1 : w.cell? ⟨b, 1, none⟩ = some (.int .i64 e) := (blk_cell hb 1).trans rfl
  have c2 : w.cell? ⟨b, 2, none⟩ = some (.int .i64 l) := (blk_cell hb 2).trans rfl
  have c3 : w.cell? ⟨b, 3, none⟩ = some (.int .i64 k) := (blk_cell hb 3).trans rfl
  have f1 := blk_frozen hb 1
  have f2 := blk_frozen hb 2
  have f3 := blk_frozen hb 3
  have hu72 := Tryz.underlying72
  have hu52 := Tryz.underlying52
  have hu50 := Tryz.underlying50
  have hu74 := Tryz.underlying74
  have HB := Aside0.mk hb
  clear hb
  by_cases he : e = 0
  · rw [if_pos he]
    subst he
    go_enter Tryz.func62, Tryz.ntmps62
    go_wp2
    refine bodyPost_end (results_none rfl _ _ _) rfl ?_
    exact ⟨rfl, ((grown_set _ _ _ _).trans (grown_set _ _ _ _)).trans (grown_set _ _ _ _), blk_put (blk_put (blk_put HB.out 1 _ rfl) 2 _ rfl) 3 _ rfl⟩
  · rw [if_neg he]
    have he' : (e == 0) = false := beq_eq_false_iff_ne.2 he
    clear he
    go_enter Tryz.func62, Tryz.ntmps62
    go_wp2
    refine bodyPost_end (results_none rfl _ _ _) rfl ?_
    exact ⟨rfl, World.grownBy.refl _ _, HB.out⟩

theorem Tk.alloc {w : World} {B o : Nat} {t : S74} {b : Nat} (h : Tk w B o t) (ob : Obj) (hne : B ≠ b) : Tk (w.alloc ob) B o t := h.grown (World.grownBy_alloc w ob (some b)) hne
theorem new_grown1 {w w' : World} {b : Nat} {o1 o2 : Obj} (hb : b < w.heap.size) (h : ((w.alloc o1).alloc o2).grownBy w' (some b)) : w'.heap[w.heap.size]? = some o1 := by
  refine blk_grown ?_ h (fun e => by injection e with e; omega)
  show ((w.heap.push o1).push o2)[w.heap.size]? = some o1
  simp [Array.getElem?_push]
theorem new_grown2 {w w' : World} {b : Nat} {o1 o2 : Obj} (hb : b < w.heap.size) (h : ((w.alloc o1).alloc o2).grownBy w' (some b)) : w'.heap[w.heap.size + 1]? = some o2 := by
  refine blk_grown ?_ h (fun e => by injection e with e; omega)
  show ((w.heap.push o1).push o2)[w.heap.size + 1]? = some o2
  rw [show w.heap.size + 1 = (w.heap.push o1).size from by simp]
  exact Array.getElem?_push_size
theorem cells4 {w : World} {g T : Nat} {v0 v1 v2 v3 : Value} (h : w.heap[g]? = some (.cells #[v0, v1, v2, v3] T (0, 0))) :
    (w.cell? ⟨g, 0, none⟩ = some v0 ∧ w.cell? ⟨g, 1, none⟩ = some v1 ∧ w.cell? ⟨g, 2, none⟩ = some v2 ∧ w.cell? ⟨g, 3, none⟩ = some v3) ∧ (w.frozen? ⟨g, 0, none⟩ = false ∧ w.frozen? ⟨g, 1, none⟩ = false ∧ w.frozen? ⟨g, 2, none⟩ = false ∧ w.frozen? ⟨g, 3, none⟩ = false) :=
  ⟨⟨(blk_cell h 0).trans rfl, (blk_cell h 1).trans rfl, (blk_cell h 2).trans rfl, (blk_cell h 3).trans rfl⟩, ⟨blk_frozen h 0, blk_frozen h 1, blk_frozen h 2, blk_frozen h 3⟩⟩
theorem grown_far {w W : World} {b : Nat} (h : w.grownBy W (some b)) {p : Addr} (hp : w.heap.size ≤ p.block) (u : Value) : w.grownBy (W.setCell p u) (some b) :=
  ⟨h.os, h.tape, h.output, by simpa [World.setCell] using h.size, fun k hk hne => (Below.heap_setCell W p u k (by omega)).trans (h.block k hk hne)⟩
theorem grown_below_ (w : World) (o1 o2 : Obj) : Below w.heap.size w ((w.alloc o1).alloc o2) := below_alloc (below_alloc (Below.refl _ _) _) _
theorem set_size (w : World) (p : Addr) (u : Value) : (w.setCell p u).heap.size = w.heap.size := by simp [World.setCell]
theorem new_set (w : World) (p : Addr) (u : Value) (o1 o2 : Obj) : (((w.setCell p u).alloc o1).alloc o2).heap[w.heap.size]? = some o1 := by
  have h := set_size w p u
  rw [← h]
  generalize w.setCell p u = W
  show ((W.heap.push o1).push o2)[W.heap.size]? = some o1
  simp [Array.getElem?_push]
/-- What a reader is behind a token that was asked for. -/
def took (B o n c : Nat) (e l k : Int) (bad : Bool) (t : S74) : Obj :=
  if bad = true then (if e = 0 then rdr B o n c 5 t.f2.f0 t.f2.f1 else rdr B o n c e l k) else if e = 0 ∧ 1 < n then rdr B (o + 4) (n - 1) (c - 1) e l k else rdr B o n c e l k
set_option maxHeartbeats 2000000 in
set_option maxRecDepth 100000 in
theorem take (b B o n c : Nat) (e l k : Int) (K : Int) (A : Option Addr) (m mc : Nat) (cb : Bool) (t : S74) (w : World) (hb : w.heap[b]? = some (rdr B o n c e l k)) (ht : Tk w B o t) (hn : 0 < n) (hnc : n ≤ c) (hcm : c ≤ 9223372036854775807) (hne : B ≠ b)
    (hcon : 0 < m → ∀ W, Below w.heap.size w W → Calls Tryz.prog 61 #[.slice A m mc, .string t.f1] W fun en w' => en = .returned (.bool cb) ∧ w' = W)
    (bad : Bool) (hbad : bad = (!(t.f0 == K) || (decide (0 < m) && !cb))) :
    Calls Tryz.prog 33 #[.pointer (some ⟨b, 0, none⟩), .int .u8 K, .slice A m mc] w fun en w' => en = .returned (.agg #[.int .u8 t.f0, .string t.f1, .int .i64 t.f2.f0, .int .i64 t.f2.f1]) ∧ w.grownBy w' (some b) ∧ w'.heap[b]? = some (took B o n c e l k bad t) := by
  have hblt := blk_lt hb
  have hfail := fun x W (hg : w.grownBy W (some b)) (hb2 : W.heap[b]? = some (rdr B o n c e l k)) => fail b B o n c e l k x t W hb2 (ht.grown hg hne) hn hne
  have ht0 := ht
  obtain ⟨t0, t1, t2, t3⟩ := ht
  have HB := Aside0.mk hb
  have HF := Aside0.mk hfail
  have HC := Aside0.mk hcon
  have hcc0 : w.cell? ⟨b, 0, none⟩ = some (.slice (some ⟨B, o, none⟩) n c) := (blk_cell (by unfold rdr at hb; exact hb) 0).trans rfl
  have hu72 := Tryz.underlying72
  have hu52 := Tryz.underlying52
  have hu50 := Tryz.underlying50
  have hu74 := Tryz.underlying74
  clear hb hfail hcon
  have hBlt : B < w.heap.size := by
    have := World.block_lt_of_cell? w _ t0
    exact this
  cases hk : (t.f0 == K) with
  | false =>
    have hk2 : (t.f0 != K) = true := by unfold bne; rw [hk]; rfl
    have Hbad : Aside0 (bad = true) := Aside0.mk (by rw [hbad, hk]; rfl)
    clear hbad
    go_enter Tryz.func33, Tryz.ntmps33
    go_wp2_with fail
    refine (HF.out 5 _ ((World.grownBy_alloc w _ _).trans (World.grownBy_alloc _ _ _)) (blk_alloc (blk_alloc HB.out _) _)).mono ?_
    rintro en w3 ⟨rfl, hg3, hb3⟩
    have hg := ((World.grownBy_alloc w (.cells #[.int .u8 0, .string ⟨#[]⟩, .int .i64 0, .int .i64 0] 74 (0, 0)) (some b)).trans (World.grownBy_alloc _ (.cells #[.int .u8 t.f0, .string t.f1, .int .i64 t.f2.f0, .int .i64 t.f2.f1] 74 (0, 0)) (some b))).trans hg3
    have p6 := new_grown1 hblt hg3
    have p7 := new_grown2 hblt hg3
    clear hg3
    by_cases he : e = 0
    · rw [if_pos he] at hb3
      have Hfin : Aside0 (took B o n c e l k bad t = rdr B o n c 5 t.f2.f0 t.f2.f1) := Aside0.mk (by unfold took; rw [if_pos Hbad.out, if_pos he])
      clear he
      unfold rdr at hb3
      obtain ⟨d6, g6⟩ := cells4 p6
      obtain ⟨d7, g7⟩ := cells4 p7
      obtain ⟨db, gb⟩ := cells4 hb3
      have P6 := Aside0.mk p6
      have PB := Aside0.mk hb3
      have G := Aside0.mk hg
      clear p6 p7 hb3 hg
      go_wp2_with fail
      refine bodyPost_ret (results_cell_row rfl _ _ w.heap.size 74 #[.int .u8 t.f0, .string t.f1, .int .i64 t.f2.f0, .int .i64 t.f2.f1] (0, 0) _ rfl (blk_put (blk_put (blk_put (blk_put P6.out 0 _ rfl) 1 _ rfl) 2 _ rfl) 3 _ rfl) Tryz.underlying74 rfl (by kernel_rfl)) rfl ?_
      exact ⟨rfl, grown_far (grown_far (grown_far (grown_far G.out (Nat.le_refl _) _) (Nat.le_refl _) _) (Nat.le_refl _) _) (Nat.le_refl _) _, by rw [Hfin.out]; exact blk_far (blk_far (blk_far (blk_far PB.out (Nat.ne_of_lt hblt) _) (Nat.ne_of_lt hblt) _) (Nat.ne_of_lt hblt) _) (Nat.ne_of_lt hblt) _⟩
    · rw [if_neg he] at hb3
      have Hfin : Aside0 (took B o n c e l k bad t = rdr B o n c e l k) := Aside0.mk (by unfold took; rw [if_pos Hbad.out, if_neg he])
      have he' : (e == 0) = false := beq_eq_false_iff_ne.2 he
      clear he
      unfold rdr at hb3
      obtain ⟨d6, g6⟩ := cells4 p6
      obtain ⟨d7, g7⟩ := cells4 p7
      obtain ⟨db, gb⟩ := cells4 hb3
      have P6 := Aside0.mk p6
      have PB := Aside0.mk hb3
      have G := Aside0.mk hg
      clear p6 p7 hb3 hg
      go_wp2_with fail
      refine bodyPost_ret (results_cell_row rfl _ _ w.heap.size 74 #[.int .u8 t.f0, .string t.f1, .int .i64 t.f2.f0, .int .i64 t.f2.f1] (0, 0) _ rfl (blk_put (blk_put (blk_put (blk_put P6.out 0 _ rfl) 1 _ rfl) 2 _ rfl) 3 _ rfl) Tryz.underlying74 rfl (by kernel_rfl)) rfl ?_
      exact ⟨rfl, grown_far (grown_far (grown_far (grown_far G.out (Nat.le_refl _) _) (Nat.le_refl _) _) (Nat.le_refl _) _) (Nat.le_refl _) _, by rw [Hfin.out]; exact blk_far (blk_far (blk_far (blk_far PB.out (Nat.ne_of_lt hblt) _) (Nat.ne_of_lt hblt) _) (Nat.ne_of_lt hblt) _) (Nat.ne_of_lt hblt) _⟩
  | true =>
    have hk2 : (t.f0 != K) = false := by unfold bne; rw [hk]; rfl
    by_cases hm : 0 < m
    · have hcon2 := HC.out hm
      have Hcon := Aside0.mk hcon2
      clear hcon2
      cases cb with
      | false =>
        have Hbad : Aside0 (bad = true) := Aside0.mk (by rw [hbad, hk, decide_eq_true hm]; rfl)
        clear hbad
        go_enter Tryz.func33, Tryz.ntmps33
        go_wp2_with (go_at_call 61; refine (Hcon.out _ (grown_below_ w _ _)).mono ?_; rintro en w' ⟨rfl, rfl⟩)
        refine (HF.out 5 _ ((World.grownBy_alloc w _ _).trans (World.grownBy_alloc _ _ _)) (blk_alloc (blk_alloc HB.out _) _)).mono ?_
        rintro en w3 ⟨rfl, hg3, hb3⟩
        have hg := ((World.grownBy_alloc w (.cells #[.int .u8 0, .string ⟨#[]⟩, .int .i64 0, .int .i64 0] 74 (0, 0)) (some b)).trans (World.grownBy_alloc _ (.cells #[.int .u8 t.f0, .string t.f1, .int .i64 t.f2.f0, .int .i64 t.f2.f1] 74 (0, 0)) (some b))).trans hg3
        have p6 := new_grown1 hblt hg3
        have p7 := new_grown2 hblt hg3
        clear hg3
        by_cases he : e = 0
        · rw [if_pos he] at hb3
          have Hfin : Aside0 (took B o n c e l k bad t = rdr B o n c 5 t.f2.f0 t.f2.f1) := Aside0.mk (by unfold took; rw [if_pos Hbad.out, if_pos he])
          clear he
          unfold rdr at hb3
          obtain ⟨d6, g6⟩ := cells4 p6
          obtain ⟨d7, g7⟩ := cells4 p7
          obtain ⟨db, gb⟩ := cells4 hb3
          have P6 := Aside0.mk p6
          have PB := Aside0.mk hb3
          have G := Aside0.mk hg
          clear p6 p7 hb3 hg
          go_wp2_with fail
          refine bodyPost_ret (results_cell_row rfl _ _ w.heap.size 74 #[.int .u8 t.f0, .string t.f1, .int .i64 t.f2.f0, .int .i64 t.f2.f1] (0, 0) _ rfl (blk_put (blk_put (blk_put (blk_put P6.out 0 _ rfl) 1 _ rfl) 2 _ rfl) 3 _ rfl) Tryz.underlying74 rfl (by kernel_rfl)) rfl ?_
          exact ⟨rfl, grown_far (grown_far (grown_far (grown_far G.out (Nat.le_refl _) _) (Nat.le_refl _) _) (Nat.le_refl _) _) (Nat.le_refl _) _, by rw [Hfin.out]; exact blk_far (blk_far (blk_far (blk_far PB.out (Nat.ne_of_lt hblt) _) (Nat.ne_of_lt hblt) _) (Nat.ne_of_lt hblt) _) (Nat.ne_of_lt hblt) _⟩
        · rw [if_neg he] at hb3
          have Hfin : Aside0 (took B o n c e l k bad t = rdr B o n c e l k) := Aside0.mk (by unfold took; rw [if_pos Hbad.out, if_neg he])
          have he' : (e == 0) = false := beq_eq_false_iff_ne.2 he
          clear he
          unfold rdr at hb3
          obtain ⟨d6, g6⟩ := cells4 p6
          obtain ⟨d7, g7⟩ := cells4 p7
          obtain ⟨db, gb⟩ := cells4 hb3
          have P6 := Aside0.mk p6
          have PB := Aside0.mk hb3
          have G := Aside0.mk hg
          clear p6 p7 hb3 hg
          go_wp2_with fail
          refine bodyPost_ret (results_cell_row rfl _ _ w.heap.size 74 #[.int .u8 t.f0, .string t.f1, .int .i64 t.f2.f0, .int .i64 t.f2.f1] (0, 0) _ rfl (blk_put (blk_put (blk_put (blk_put P6.out 0 _ rfl) 1 _ rfl) 2 _ rfl) 3 _ rfl) Tryz.underlying74 rfl (by kernel_rfl)) rfl ?_
          exact ⟨rfl, grown_far (grown_far (grown_far (grown_far G.out (Nat.le_refl _) _) (Nat.le_refl _) _) (Nat.le_refl _) _) (Nat.le_refl _) _, by rw [Hfin.out]; exact blk_far (blk_far (blk_far (blk_far PB.out (Nat.ne_of_lt hblt) _) (Nat.ne_of_lt hblt) _) (Nat.ne_of_lt hblt) _) (Nat.ne_of_lt hblt) _⟩
      | true =>
        have Hbad : Aside0 (bad = false) := Aside0.mk (by rw [hbad, hk, decide_eq_true hm]; rfl)
        clear hbad
        have hb0 := HB.out
        unfold rdr at hb0
        obtain ⟨db, gb⟩ := cells4 hb0
        clear hb0
        by_cases he : e = 0
        · by_cases h1 : 1 < n
          · have Hfin : Aside0 (took B o n c e l k bad t = rdr B (o + 4) (n - 1) (c - 1) e l k) := Aside0.mk (by unfold took; rw [Hbad.out, if_neg Bool.false_ne_true, if_pos ⟨he, h1⟩])
            subst he
            have hc1 : 1 ≤ c := by omega
            have hc2 : c ≠ 1 := by omega
            go_enter Tryz.func33, Tryz.ntmps33
            go_wp2_with (go_at_call 61; refine (Hcon.out _ (grown_below_ w _ _)).mono ?_; rintro en w' ⟨rfl, rfl⟩)
            refine bodyPost_ret (results_cell_row rfl _ _ w.heap.size 74 #[.int .u8 t.f0, .string t.f1, .int .i64 t.f2.f0, .int .i64 t.f2.f1] (0, 0) _ rfl (new_set w _ _ _ _) Tryz.underlying74 rfl (by kernel_rfl)) rfl ?_
            exact ⟨rfl, ((grown_set w b 0 _).trans (World.grownBy_alloc _ _ _)).trans (World.grownBy_alloc _ _ _), by rw [Hfin.out]; exact blk_alloc (blk_alloc (blk_put (by have h_ := HB.out; unfold rdr at h_; exact h_) 0 _ rfl) _) _⟩
          · have Hfin : Aside0 (took B o n c e l k bad t = rdr B o n c e l k) := Aside0.mk (by unfold took; rw [Hbad.out, if_neg Bool.false_ne_true, if_neg (fun h => h1 h.2)])
            subst he
            go_enter Tryz.func33, Tryz.ntmps33
            go_wp2_with (go_at_call 61; refine (Hcon.out _ (grown_below_ w _ _)).mono ?_; rintro en w' ⟨rfl, rfl⟩)
            refine bodyPost_ret (results_cell_row rfl _ _ w.heap.size 74 #[.int .u8 t.f0, .string t.f1, .int .i64 t.f2.f0, .int .i64 t.f2.f1] (0, 0) _ rfl (new_grown1 hblt (World.grownBy.refl _ _)) Tryz.underlying74 rfl (by kernel_rfl)) rfl ?_
            exact ⟨rfl, (World.grownBy_alloc w _ _).trans (World.grownBy_alloc _ _ _), by rw [Hfin.out]; exact blk_alloc (blk_alloc HB.out _) _⟩
        · have Hfin : Aside0 (took B o n c e l k bad t = rdr B o n c e l k) := Aside0.mk (by unfold took; rw [Hbad.out, if_neg Bool.false_ne_true, if_neg (fun h => he h.1)])
          have he' : (e == 0) = false := beq_eq_false_iff_ne.2 he
          clear he
          go_enter Tryz.func33, Tryz.ntmps33
          go_wp2_with (go_at_call 61; refine (Hcon.out _ (grown_below_ w _ _)).mono ?_; rintro en w' ⟨rfl, rfl⟩)
          refine bodyPost_ret (results_cell_row rfl _ _ w.heap.size 74 #[.int .u8 t.f0, .string t.f1, .int .i64 t.f2.f0, .int .i64 t.f2.f1] (0, 0) _ rfl (new_grown1 hblt (World.grownBy.refl _ _)) Tryz.underlying74 rfl (by kernel_rfl)) rfl ?_
          exact ⟨rfl, (World.grownBy_alloc w _ _).trans (World.grownBy_alloc _ _ _), by rw [Hfin.out]; exact blk_alloc (blk_alloc HB.out _) _⟩
    · have hm0 : m = 0 := by omega
      have Hbad : Aside0 (bad = false) := Aside0.mk (by rw [hbad, hk, decide_eq_false hm]; rfl)
      clear hbad
      subst hm0
      have hb0 := HB.out
      unfold rdr at hb0
      obtain ⟨db, gb⟩ := cells4 hb0
      clear hb0
      by_cases he : e = 0
      · by_cases h1 : 1 < n
        · have Hfin : Aside0 (took B o n c e l k bad t = rdr B (o + 4) (n - 1) (c - 1) e l k) := Aside0.mk (by unfold took; rw [Hbad.out, if_neg Bool.false_ne_true, if_pos ⟨he, h1⟩])
          subst he
          have hc1 : 1 ≤ c := by omega
          have hc2 : c ≠ 1 := by omega
          go_enter Tryz.func33, Tryz.ntmps33
          go_wp2_with fail
          refine bodyPost_ret (results_cell_row rfl _ _ w.heap.size 74 #[.int .u8 t.f0, .string t.f1, .int .i64 t.f2.f0, .int .i64 t.f2.f1] (0, 0) _ rfl (new_set w _ _ _ _) Tryz.underlying74 rfl (by kernel_rfl)) rfl ?_
          exact ⟨rfl, ((grown_set w b 0 _).trans (World.grownBy_alloc _ _ _)).trans (World.grownBy_alloc _ _ _), by rw [Hfin.out]; exact blk_alloc (blk_alloc (blk_put (by have h_ := HB.out; unfold rdr at h_; exact h_) 0 _ rfl) _) _⟩
        · have Hfin : Aside0 (took B o n c e l k bad t = rdr B o n c e l k) := Aside0.mk (by unfold took; rw [Hbad.out, if_neg Bool.false_ne_true, if_neg (fun h => h1 h.2)])
          subst he
          go_enter Tryz.func33, Tryz.ntmps33
          go_wp2_with fail
          refine bodyPost_ret (results_cell_row rfl _ _ w.heap.size 74 #[.int .u8 t.f0, .string t.f1, .int .i64 t.f2.f0, .int .i64 t.f2.f1] (0, 0) _ rfl (new_grown1 hblt (World.grownBy.refl _ _)) Tryz.underlying74 rfl (by kernel_rfl)) rfl ?_
          exact ⟨rfl, (World.grownBy_alloc w _ _).trans (World.grownBy_alloc _ _ _), by rw [Hfin.out]; exact blk_alloc (blk_alloc HB.out _) _⟩
      · have Hfin : Aside0 (took B o n c e l k bad t = rdr B o n c e l k) := Aside0.mk (by unfold took; rw [Hbad.out, if_neg Bool.false_ne_true, if_neg (fun h => he h.1)])
        have he' : (e == 0) = false := beq_eq_false_iff_ne.2 he
        clear he
        go_enter Tryz.func33, Tryz.ntmps33
        go_wp2_with fail
        refine bodyPost_ret (results_cell_row rfl _ _ w.heap.size 74 #[.int .u8 t.f0, .string t.f1, .int .i64 t.f2.f0, .int .i64 t.f2.f1] (0, 0) _ rfl (new_grown1 hblt (World.grownBy.refl _ _)) Tryz.underlying74 rfl (by kernel_rfl)) rfl ?_
        exact ⟨rfl, (World.grownBy_alloc w _ _).trans (World.grownBy_alloc _ _ _), by rw [Hfin.out]; exact blk_alloc (blk_alloc HB.out _) _⟩
end Go.Proofs.YtgcmgfljbadljaaGreatDoor.HandR
