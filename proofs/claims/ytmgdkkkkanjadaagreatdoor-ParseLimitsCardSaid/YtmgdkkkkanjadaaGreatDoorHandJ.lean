/-
  parse's reader: a card. Conditions: what the listed package variables hold.
-/
import Derived.Test.YtmgdkkkkanjadaaGreatDoorHandI
namespace Go.Proofs.YtmgdkkkkanjadaaGreatDoor.HandJ
set_option linter.unusedVariables false
set_option linter.unusedSimpArgs false
open Go.RowKit Go.Shelf Go.Lib Go.Proofs.YtmgdkkkkanjadaaGreatDoorW.PrintWords Go.Proofs.YtmgdkkkkanjadaaGreatDoorW.PrintLast Go.Proofs.YtmgdkkkkanjadaaGreatDoorW.PrintMore Go.Proofs.YtmgdkkkkanjadaaGreatDoor.X Go.Proofs.YtmgdkkkkanjadaaGreatDoor.HandS Go.Proofs.YtmgdkkkkanjadaaGreatDoor.HandA Go.Proofs.YtmgdkkkkanjadaaGreatDoor.HandB Go.Proofs.YtmgdkkkkanjadaaGreatDoor.HandC Go.Proofs.YtmgdkkkkanjadaaGreatDoor.HandD Go.Proofs.YtmgdkkkkanjadaaGreatDoor.HandE Go.Proofs.YtmgdkkkkanjadaaGreatDoor.HandF Go.Proofs.YtmgdkkkkanjadaaGreatDoor.HandG Go.Proofs.YtmgdkkkkanjadaaGreatDoor.HandH Go.Proofs.YtmgdkkkkanjadaaGreatDoor.HandI

abbrev sBegin : ByteArray := ⟨#[123]⟩
abbrev sEnd : ByteArray := ⟨#[125]⟩
def modeIs (T : List S69) (j : Nat) : Bool := decide (0 ≤ amongS T wModes j)
def bodyS (T : List S69) (k : Int) (nm : ByteArray) (a b c : Int) (j : Nat) : Option (Out S38) :=
  obind (mustS T sBegin j) fun _ j => obind (listF (modeIs T) (effectS T) 4 [] j) fun es j => obind (mustS T sEnd j) fun _ j => some (.ok ⟨nm, k, a, b, c, es⟩ j)
def cardS (T : List S69) (j : Nat) : Option (Out S38) :=
  obind (oneS T wKinds j) fun k j => obind (ofS T 1 j) fun nm j =>
    if k = 0 then obind (numS T j) fun a j => obind (numS T j) fun b j => obind (numS T j) fun c j => bodyS T k nm a b c j
    else bodyS T k nm 0 0 0 j
theorem card_cases {T : List S69} {k : Int} {nm : ByteArray} {j : Nat} {o : Out S38} (h : (if k = 0 then obind (numS T j) fun a j => obind (numS T j) fun b j => obind (numS T j) fun c j => bodyS T k nm a b c j else bodyS T k nm 0 0 0 j) = some o) :
    (k = 0 ∧ (obind (numS T j) fun a j => obind (numS T j) fun b j => obind (numS T j) fun c j => bodyS T 0 nm a b c j) = some o) ∨ ((k == 0) = false ∧ bodyS T k nm 0 0 0 j = some o) := by
  by_cases hk : k = 0
  · subst hk
    exact .inl ⟨rfl, by rw [if_pos rfl] at h; exact h⟩
  · exact .inr ⟨beq_eq_false_iff_ne.2 hk, by rw [if_neg hk] at h; exact h⟩
abbrev C38 (nm : ByteArray) (k a b c : Int) (v5 : Value) : Array Value := #[.string nm, .int .u8 k, .int .i64 a, .int .i64 b, .int .i64 c, v5]
theorem kindsB (w : World) : Calls Tryz.prog 16 #[] w fun e w' => ∃ kb, e = .returned (.slice (some ⟨kb, 0, none⟩) 5 5) ∧ Wd w' kb wKinds ∧ Below w.heap.size w w' :=
  (kinds_ w).mono (by rintro e w1 ⟨rfl, rfl⟩; exact ⟨_, rfl, Wd.new _ _, below_alloc (Below.refl _ _) _⟩)
set_option maxHeartbeats 1000000 in
set_option maxRecDepth 100000 in
theorem c44 (x : Cx) (p : Nat) (w : World) (j : Nat) (h : Rd x w j) (hrow : w.heap[p]? = some (.cells #[.pointer (some ⟨x.r, 0, none⟩)] 54 (0, 0))) :
    Calls Tryz.prog 44 #[.pointer (some ⟨p, 0, none⟩)] w fun e w' => e = .returned (.bool (modeIs x.T j)) ∧ Below w.heap.size w w' := by
  have HR := Aside0.mk h
  have HPL := Aside0.mk (blk_lt hrow)
  have p0 := blk_cell hrow 0
  unfold modeIs
  clear h hrow
  go_enter Tryz.func44, Tryz.ntmps44
  go_wp2_with fail
  go_region_law (first
    | (refine goesP_ Tryz.func45 (by kernel_rfl) rfl #[] (by rfl) rfl rfl (by (try simp only [List.map_toArray, List.map_cons, List.map_nil]); first | done | rfl) ?_
       refine (modesB _).mono ?_
       rintro e w1 ⟨kb, rfl, hwd, hb⟩
       replace hb := below_step (below_drew1 (Below.refl w.heap.size w)) hb
       have HB := Aside0.mk hb
       have HR := Aside0.mk (HR.out.below_ hb)
       have HWD := Aside0.mk hwd
       have p1 := (hb.cell (p := ⟨p, 0, none⟩) HPL.out).trans p0
       clear hb hwd)
    | (refine goesP_ Tryz.func15 (by kernel_rfl) rfl #[.pointer (some ⟨x.r, 0, none⟩), .slice (some ⟨kb, 0, none⟩) 7 7] (by rfl) rfl rfl (by (try simp only [List.map_toArray, List.map_cons, List.map_nil]); first | done | rfl) ?_
       refine (among_ x _ _ HR.out wModes kb 7 HWD.out (by decide)).mono ?_
       rintro e w2 ⟨rfl, rfl⟩))
  all_goals
    go_wp2
    go_ret
    exact ⟨rfl, HB.out⟩
set_option maxHeartbeats 1000000 in
set_option maxRecDepth 100000 in
/-- Pool's: does a card begin -/
theorem c14 (x : Cx) (w : World) (j : Nat) (h : Rd x w j) : Calls Tryz.prog 14 #[.pointer (some ⟨x.r, 0, none⟩)] w fun e w' => e = .returned (.bool (decide (0 ≤ amongS x.T wKinds j))) ∧ Below w.heap.size w w' := by
  have HR := Aside0.mk h
  clear h
  go_enter Tryz.func14, Tryz.ntmps14
  go_wp2_with (first
    | (go_at_call 16; refine (kindsB _).mono ?_; rintro e w1 ⟨kb, rfl, hwd, hb⟩; have HR := Aside0.mk (HR.out.below_ hb); have HWD := Aside0.mk hwd; have HB := Aside0.mk hb; clear hb hwd)
    | (go_at_call 15; refine (among_ x _ _ HR.out wKinds kb 5 HWD.out (by decide)).mono ?_; rintro e w2 ⟨rfl, rfl⟩))
  go_ret
  exact ⟨rfl, HB.out⟩
def wExpr : List ByteArray := [sLife, sCount, sPower, sOpen]
def exprIs (T : List S69) (j : Nat) : Bool := (tkAt T j).f0 == 2 || decide (0 ≤ amongS T wExpr j)
set_option maxHeartbeats 1000000 in
set_option maxRecDepth 100000 in
/-- Exprs': does an expression begin -/
theorem c25 (x : Cx) (w : World) (j : Nat) (h : Rd x w j) : Calls Tryz.prog 25 #[.pointer (some ⟨x.r, 0, none⟩)] w fun e w' => e = .returned (.bool (exprIs x.T j)) ∧ Below w.heap.size w w' := by
  have HB := Aside0.mk (below_alloc (Below.refl w.heap.size w) (.cells (wExpr.map Value.string).toArray 9))
  have HI := Aside0.mk (among_ x _ j (h.below_ HB.out) wExpr w.heap.size 4 (Wd.new w wExpr) (by decide))
  have hu71 := Tryz.underlying71
  have hu69 := Tryz.underlying69
  obtain ⟨o', n, cc, c0, hn, hcc, t0, t1, t2, t3⟩ := h.head
  unfold exprIs
  by_cases hk : (tkAt x.T j).f0 = 2
  · rw [hk] at t0 ⊢
    clear h t1 t2 t3 hcc HI hk
    go_enter Tryz.func25, Tryz.ntmps25
    go_wp2
    go_ret
    exact ⟨rfl, Below.refl _ _⟩
  · obtain ⟨q, hq⟩ : ∃ q, (tkAt x.T j).f0 = q := ⟨_, rfl⟩
    rw [hq] at t0 hk ⊢
    have n2 : (q == 2) = false := beq_eq_false_iff_ne.2 hk
    rw [n2, Bool.false_or]
    clear h t1 t2 t3 hcc hk hq
    go_enter Tryz.func25, Tryz.ntmps25
    go_wp2_with (go_at_call 15; refine HI.out.mono ?_; rintro e w2 ⟨rfl, rfl⟩)
    go_ret
    exact ⟨rfl, HB.out⟩
end Go.Proofs.YtmgdkkkkanjadaaGreatDoor.HandJ
