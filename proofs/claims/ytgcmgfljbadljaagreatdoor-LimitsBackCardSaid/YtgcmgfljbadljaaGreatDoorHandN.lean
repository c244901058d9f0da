/-
  limits' reader: numbers, and what is next. Conditions: what the listed package variables hold.
-/
import Derived.Test.YtgcmgfljbadljaaGreatDoorHandR
namespace Go.Proofs.YtgcmgfljbadljaaGreatDoor.HandR
set_option linter.unusedVariables false
set_option linter.unusedSimpArgs false
open Go.RowKit Go.Shelf Go.Lib Go.Proofs.YtgcmgfljbadljaaGreatDoorW.PrintWords Go.Proofs.YtgcmgfljbadljaaGreatDoorW.PrintLast Go.Proofs.YtgcmgfljbadljaaGreatDoorW.PrintMore Go.Proofs.YtgcmgfljbadljaaGreatDoor.L Go.Proofs.YtgcmgfljbadljaaGreatDoor.HandS Go.Proofs.YtgcmgfljbadljaaGreatDoor.HandF

/-! ### a reader over its tokens: which is next, and the first fault -/
structure Rd where
  j : Nat
  e : Int
  l : Int
  k : Int
def tkAt (T : List S74) (j : Nat) : S74 := rd_T74 T (j : Int)
def failS (T : List S74) (x : Int) (s : Rd) : Rd := if s.e = 0 then ⟨s.j, x, (tkAt T s.j).f2.f0, (tkAt T s.j).f2.f1⟩ else s
def badS (K : Int) (ts : List ByteArray) (t : S74) : Bool := !(t.f0 == K) || (decide (0 < ts.length) && !Lib.containsS ts t.f1)
def nextS (T : List S74) (s : Rd) : Rd := if s.e = 0 ∧ s.j + 1 < T.length then ⟨s.j + 1, s.e, s.l, s.k⟩ else s
def takeS (T : List S74) (K : Int) (ts : List ByteArray) (s : Rd) : Rd := nextS T (if badS K ts (tkAt T s.j) = true then failS T 5 s else s)
/-- The reader's block over a row of tokens at B. -/
def rdB (B n c : Nat) (s : Rd) : Obj := rdr B (4 * s.j) (n - s.j) (c - s.j) s.e s.l s.k
/-- The tokens lie in block B. -/
def Tks (w : World) (B : Nat) (T : List S74) : Prop := ∀ j, j < T.length → Tk w B (4 * j) (tkAt T j)
theorem Tks.grown {w w' : World} {B : Nat} {T : List S74} {b : Nat} (h : Tks w B T) (hg : w.grownBy w' (some b)) (hne : B ≠ b) : Tks w' B T := fun j hj => (h j hj).grown hg hne
/-- A row of texts, or none. -/
def Txs (w : World) (A : Option Addr) (ts : List ByteArray) : Prop := ts.length ≤ 9223372036854775807 ∧ (0 < ts.length → ∃ b off, A = some ⟨b, off, none⟩ ∧ b < w.heap.size ∧ ∀ j, j < ts.length → w.cell? ⟨b, off + j, none⟩ = some (.string (ts.getD j ByteArray.empty)))
theorem Txs.contains {w : World} {A : Option Addr} {ts : List ByteArray} (h : Txs w A ts) (mc : Nat) (x : ByteArray) : 0 < ts.length → ∀ W, Below w.heap.size w W → Calls Tryz.prog 61 #[.slice A ts.length mc, .string x] W fun en w' => en = .returned (.bool (Lib.containsS ts x)) ∧ w' = W := by
  intro h0 W hb
  obtain ⟨b, off, rfl, hlt, hc⟩ := h.2 h0
  have := Tryz.slices_Contains_string b off ts.length mc ts x W (Nat.le_refl _) h.1 (fun j hj => (hb.cell (p := ⟨b, off + j, none⟩) hlt).trans (hc j hj))
  rw [List.take_length] at this
  exact this
/-- A reader stands on a token. -/
structure On (T : List S74) (s : Rd) : Prop where
  lt : s.j < T.length
theorem failS_j (T : List S74) (x : Int) (s : Rd) : (failS T x s).j = s.j := by unfold failS; split <;> rfl
theorem nextS_on {T : List S74} {s : Rd} (h : On T s) : On T (nextS T s) := by
  unfold nextS
  split
  · rename_i h1; exact ⟨h1.2⟩
  · exact h
theorem failS_on {T : List S74} {s : Rd} (x : Int) (h : On T s) : On T (failS T x s) := ⟨by rw [failS_j]; exact h.lt⟩
theorem takeS_on {T : List S74} {s : Rd} (K : Int) (ts : List ByteArray) (h : On T s) : On T (takeS T K ts s) := by
  unfold takeS
  apply nextS_on
  split
  · exact failS_on 5 h
  · exact h
def isWordS (T : List S74) (ts : List ByteArray) (s : Rd) : Bool := (s.e == 0) && (((tkAt T s.j).f0 == 1) && Lib.containsS ts (tkAt T s.j).f1)
/-- A number is taken: what it is, and the reader behind it. -/
def numberS (T : List S74) (most : Int) (s : Rd) : Option (Int × Rd) :=
  (strconv_Atoi.f (tkAt T s.j).f1).bind fun v => some (v.1, takeS T 2 [] (if v.2.isNone = true ∧ (tkAt T s.j).f0 = 2 ∧ v.1 > most then failS T 3 s else s))
theorem Tk.drop {w : World} {B o : Nat} {t : S74} (h : Tk w B o t) : w.cell? ⟨B, o, none⟩ = some (.int .u8 t.f0) ∧ w.cell? ⟨B, o + 1, none⟩ = some (.string t.f1) := ⟨h.1, h.2.1⟩
theorem numberS_on {T : List S74} {most : Int} {s s' : Rd} {v : Int} (h : On T s) (hn : numberS T most s = some (v, s')) : On T s' := by
  unfold numberS at hn
  obtain ⟨x, _, h2⟩ := Option.bind_eq_some_iff.mp hn
  injection h2 with h2
  obtain ⟨-, rfl⟩ := Prod.mk.inj h2
  apply takeS_on
  split
  · exact failS_on 3 h
  · exact h
theorem Tks.below {w w' : World} {B : Nat} {T : List S74} (h : Tks w B T) (hb : Below w.heap.size w w') : Tks w' B T := by
  intro j hj
  have := h j hj
  have hlt : B < w.heap.size := World.block_lt_of_cell? w _ this.1
  exact ⟨(hb.cell (p := ⟨B, _, none⟩) hlt).trans this.1, (hb.cell (p := ⟨B, _, none⟩) hlt).trans this.2.1, (hb.cell (p := ⟨B, _, none⟩) hlt).trans this.2.2.1, (hb.cell (p := ⟨B, _, none⟩) hlt).trans this.2.2.2⟩
theorem Txs.none_ (w : World) : Txs w none [] := ⟨by simp, fun h => by cases h⟩
section
variable (T : List S74) (b B c : Nat) (hc : T.length ≤ c) (hcm : c ≤ 9223372036854775807) (hne : B ≠ b)
include hc hcm hne
set_option linter.unusedSectionVars false
theorem fail_ (s : Rd) (x : Int) (w : World) (ho : On T s) (ht : Tks w B T) (hb : w.heap[b]? = some (rdB B T.length c s)) :
    Calls Tryz.prog 62 #[.pointer (some ⟨b, 0, none⟩), .int .i64 x] w fun en w' => en = .returned (.tuple #[]) ∧ w.grownBy w' (some b) ∧ w'.heap[b]? = some (rdB B T.length c (failS T x s)) := by
  have hlt := ho.lt
  refine (fail b B (4 * s.j) (T.length - s.j) (c - s.j) s.e s.l s.k x (tkAt T s.j) w hb (ht _ hlt) (by omega) hne).mono ?_
  rintro en w' ⟨rfl, hg, hb2⟩
  refine ⟨rfl, hg, hb2.trans ?_⟩
  unfold failS rdB
  split <;> rfl
theorem take_ (s : Rd) (K : Int) (A : Option Addr) (mc : Nat) (ts : List ByteArray) (w : World) (ho : On T s) (ht : Tks w B T) (hb : w.heap[b]? = some (rdB B T.length c s)) (hx : Txs w A ts) :
    Calls Tryz.prog 33 #[.pointer (some ⟨b, 0, none⟩), .int .u8 K, .slice A ts.length mc] w fun en w' => en = .returned (.agg #[.int .u8 (tkAt T s.j).f0, .string (tkAt T s.j).f1, .int .i64 (tkAt T s.j).f2.f0, .int .i64 (tkAt T s.j).f2.f1]) ∧ w.grownBy w' (some b) ∧ w'.heap[b]? = some (rdB B T.length c (takeS T K ts s)) := by
  have hlt := ho.lt
  refine (take b B (4 * s.j) (T.length - s.j) (c - s.j) s.e s.l s.k K A ts.length mc (Lib.containsS ts (tkAt T s.j).f1) (tkAt T s.j) w hb (ht _ hlt) (by omega) (by omega) (by omega) hne (hx.contains mc _) (badS K ts (tkAt T s.j)) rfl).mono ?_
  rintro en w' ⟨rfl, hg, hb2⟩
  refine ⟨rfl, hg, hb2.trans ?_⟩
  unfold takeS took
  cases badS K ts (tkAt T s.j) with
  | true =>
    rw [if_pos rfl, if_pos rfl]
    unfold failS nextS rdB
    by_cases he : s.e = 0
    · rw [if_pos he, if_pos he, if_neg (fun h => by cases h.1)]
    · rw [if_neg he, if_neg he, if_neg (fun h => he h.1)]
  | false =>
    rw [if_neg Bool.false_ne_true, if_neg Bool.false_ne_true]
    unfold nextS rdB
    by_cases he : s.e = 0 ∧ s.j + 1 < T.length
    · rw [if_pos he, if_pos ⟨he.1, by omega⟩]
      show some (rdr B (4 * s.j + 4) (T.length - s.j - 1) (c - s.j - 1) s.e s.l s.k) = some (rdr B (4 * (s.j + 1)) (T.length - (s.j + 1)) (c - (s.j + 1)) s.e s.l s.k)
      rw [show 4 * s.j + 4 = 4 * (s.j + 1) from by omega, show T.length - s.j - 1 = T.length - (s.j + 1) from by omega, show c - s.j - 1 = c - (s.j + 1) from by omega]
    · rw [if_neg he, if_neg (fun h => he ⟨h.1, by omega⟩)]

omit hcm hne in
theorem next_ (s : Rd) (A : Option Addr) (mc : Nat) (ts : List ByteArray) (w : World) (ho : On T s) (ht : Tks w B T) (hb : w.heap[b]? = some (rdB B T.length c s)) (hx : Txs w A ts) (h0 : 0 < ts.length) :
    Calls Tryz.prog 35 #[.pointer (some ⟨b, 0, none⟩), .slice A ts.length mc] w fun en w' => en = .returned (.bool (isWordS T ts s)) ∧ w' = w := by
  have hlt := ho.lt
  have hcon := hx.contains mc (tkAt T s.j).f1 h0 w (Below.refl _ _)
  obtain ⟨t0, t1⟩ := (ht _ hlt).drop
  unfold rdB rdr at hb
  obtain ⟨⟨d0, d1, d2, d3⟩, gb⟩ := cells4 hb
  have hu72 := Tryz.underlying72
  have hu52 := Tryz.underlying52
  have hu74 := Tryz.underlying74
  have hn : 0 < T.length - s.j := by omega
  unfold isWordS
  generalize tkAt T s.j = t at *
  generalize Lib.containsS ts t.f1 = cb at *
  generalize T.length - s.j = n at *
  generalize c - s.j = cc at *
  have HC := Aside0.mk hcon
  clear hcon hb ht hx ho hlt
  cases he : (s.e == 0) with
  | false =>
    go_enter Tryz.func35, Tryz.ntmps35
    go_wp2_with fail
    go_ret
    exact ⟨by rw [Bool.false_and]; rfl, rfl⟩
  | true =>
    cases hk : (t.f0 == 1) with
    | false =>
      go_enter Tryz.func35, Tryz.ntmps35
      go_wp2_with fail
      go_ret
      exact ⟨by rfl, rfl⟩
    | true =>
      go_enter Tryz.func35, Tryz.ntmps35
      go_wp2_with (go_at_call 61; refine HC.out.mono ?_; rintro en w' ⟨rfl, rfl⟩)
      go_ret
      exact ⟨by rfl, rfl⟩
set_option maxHeartbeats 1000000 in
set_option maxRecDepth 100000 in
theorem number_ (s s' : Rd) (most v : Int) (w : World) (hG : Tabs w) (ho : On T s) (ht : Tks w B T) (hb : w.heap[b]? = some (rdB B T.length c s)) (h : numberS T most s = some (v, s')) :
    Calls Tryz.prog 34 #[.pointer (some ⟨b, 0, none⟩), .int .i64 most] w fun en w' => en = .returned (.int .i64 v) ∧ w.grownBy w' (some b) ∧ w'.heap[b]? = some (rdB B T.length c s') := by
  unfold numberS at h
  obtain ⟨⟨v0, err⟩, hA, h2⟩ := Option.bind_eq_some_iff.mp h
  injection h2 with h2
  obtain ⟨rfl, rfl⟩ := Prod.mk.inj h2
  clear h h2
  generalize hs2 : (if (v0, err).2.isNone = true ∧ (tkAt T s.j).f0 = 2 ∧ (v0, err).1 > most then failS T 3 s else s) = s2
  have HS2 := Aside0.mk hs2
  clear hs2
  have hblt := blk_lt hb
  have hlt := ho.lt
  have hAt := strconv_Atoi.calls (tkAt T s.j).f1 v0 err w hG hA
  have hfail := fun W (hg : w.grownBy W (some b)) (hb2 : W.heap[b]? = some (rdB B T.length c s)) => fail_ T b B c hc hcm hne s 3 W ho (ht.grown hg hne) hb2
  have htake1 : ∀ W, w.grownBy W (some b) → W.heap[b]? = some (rdB B T.length c s) → Calls Tryz.prog 33 #[.pointer (some ⟨b, 0, none⟩), .int .u8 2, .slice none 0 0] W fun en w' => en = .returned (.agg #[.int .u8 (tkAt T s.j).f0, .string (tkAt T s.j).f1, .int .i64 (tkAt T s.j).f2.f0, .int .i64 (tkAt T s.j).f2.f1]) ∧ W.grownBy w' (some b) ∧ w'.heap[b]? = some (rdB B T.length c (takeS T 2 [] s)) :=
    fun W hg hb2 => take_ T b B c hc hcm hne s 2 none 0 [] W ho (ht.grown hg hne) hb2 (Txs.none_ W)
  have htake2 : ∀ W, w.grownBy W (some b) → W.heap[b]? = some (rdB B T.length c (failS T 3 s)) → Calls Tryz.prog 33 #[.pointer (some ⟨b, 0, none⟩), .int .u8 2, .slice none 0 0] W fun en w' => en = .returned (.agg #[.int .u8 (tkAt T (failS T 3 s).j).f0, .string (tkAt T (failS T 3 s).j).f1, .int .i64 (tkAt T (failS T 3 s).j).f2.f0, .int .i64 (tkAt T (failS T 3 s).j).f2.f1]) ∧ W.grownBy w' (some b) ∧ w'.heap[b]? = some (rdB B T.length c (takeS T 2 [] (failS T 3 s))) :=
    fun W hg hb2 => take_ T b B c hc hcm hne (failS T 3 s) 2 none 0 [] W (failS_on 3 ho) (ht.grown hg hne) hb2 (Txs.none_ W)
  have hcell := hb
  unfold rdB rdr at hcell
  obtain ⟨t0, t1⟩ := (ht _ hlt).drop
  obtain ⟨⟨d0, d1, d2, d3⟩, gb⟩ := cells4 hcell
  have hn : 0 < T.length - s.j := by omega
  have hu72 := Tryz.underlying72
  have hu52 := Tryz.underlying52
  have hu74 := Tryz.underlying74
  have HB := Aside0.mk hb
  have HT := Aside0.mk ht
  have HA := Aside0.mk hAt
  have HF := Aside0.mk hfail
  have H1 := Aside0.mk htake1
  have H2 := Aside0.mk htake2
  clear hb ht hAt hfail htake1 htake2 hcell hA hG ho gb
  go_enter Tryz.func34, Tryz.ntmps34
  go_wp2_with fail
  refine HA.out.mono ?_
  rintro en w1 ⟨N_, rfl, hb1⟩
  have hg1 : w.grownBy w1 (some b) := grown_of_below hb1 (some b)
  have hbk : w1.heap[b]? = some (rdB B T.length c s) := (hb1.block b hblt).trans HB.out
  have hcell := hbk
  unfold rdB rdr at hcell
  obtain ⟨⟨d0', d1', d2', d3'⟩, _⟩ := cells4 hcell
  have hB1 := Aside0.mk hb1
  have t0' : w1.cell? ⟨B, 4 * s.j, none⟩ = some (.int .u8 (tkAt T s.j).f0) := (hb1.cell (p := ⟨B, _, none⟩) (World.block_lt_of_cell? w _ t0)).trans t0
  have HB1 := Aside0.mk hbk
  have G1 := Aside0.mk hg1
  clear hbk hcell hb1 hg1
  generalize hkk : (tkAt T s.j).f0 = kd at *
  have HKK := Aside0.mk hkk
  clear hkk
  cases err with
  | some x =>
    simp only [errV_some]
    go_wp2_with fail
    refine (H1.out _ G1.out HB1.out).mono ?_
    rintro en w2 ⟨rfl, hg2', hb2'⟩
    have hg2 := Aside0.mk hg2'
    have hb2 := Aside0.mk hb2'
    clear hg2' hb2'
    go_wp2_with fail
    go_ret
    exact ⟨rfl, G1.out.trans hg2.out, by rw [← HS2.out, if_neg (fun h => by cases h.1)]; exact hb2.out⟩
  | none =>
    simp only [errV_none]
    cases hk : (kd == 2) with
    | false =>
      go_wp2_with fail
      refine (H1.out _ G1.out HB1.out).mono ?_
      rintro en w2 ⟨rfl, hg2', hb2'⟩
      have hg2 := Aside0.mk hg2'
      have hb2 := Aside0.mk hb2'
      clear hg2' hb2'
      go_wp2_with fail
      go_ret
      exact ⟨rfl, G1.out.trans hg2.out, by rw [← HS2.out, if_neg (fun h => by rw [h.2.1] at hk; cases hk)]; exact hb2.out⟩
    | true =>
      have hk2 : kd = 2 := beq_iff_eq.1 hk
      have HK2 := Aside0.mk hk2
      clear hk2
      by_cases hm : v0 > most
      · have hm' : decide (most < v0) = true := decide_eq_true hm
        have HM := Aside0.mk hm
        clear hm
        go_wp2_with fail
        refine (HF.out _ G1.out HB1.out).mono ?_
        rintro en w2 ⟨rfl, hg2, hb2⟩
        have G2 := Aside0.mk (G1.out.trans hg2)
        have HB2 := Aside0.mk hb2
        clear hg2 hb2
        go_wp2_with fail
        refine (H2.out _ G2.out HB2.out).mono ?_
        rintro en w3 ⟨rfl, hg3', hb3'⟩
        have hg3 := Aside0.mk hg3'
        have hb3 := Aside0.mk hb3'
        clear hg3' hb3'
        go_wp2_with fail
        go_ret
        exact ⟨rfl, G2.out.trans hg3.out, by rw [← HS2.out, if_pos ⟨rfl, HK2.out, HM.out⟩]; exact hb3.out⟩
      · have hm' : decide (most < v0) = false := decide_eq_false hm
        have HM := Aside0.mk hm
        clear hm
        go_wp2_with fail
        refine (H1.out _ G1.out HB1.out).mono ?_
        rintro en w2 ⟨rfl, hg2', hb2'⟩
        have hg2 := Aside0.mk hg2'
        have hb2 := Aside0.mk hb2'
        clear hg2' hb2'
        go_wp2_with fail
        go_ret
        exact ⟨rfl, G1.out.trans hg2.out, by rw [← HS2.out, if_neg (fun h => absurd h.2.2 (by show ¬ v0 > most; have := HM.out; omega))]; exact hb2.out⟩
end
end Go.Proofs.YtgcmgfljbadljaaGreatDoor.HandR
