/-
  limits.Read as the print's stub: its function, more rounds, the calls. Conditions: what the listed package variables hold.
-/
import Derived.Test.YtgcmgfljbadljaaGreatDoorHandC
import Derived.Test.YtgcmgfljbadljaaGreatDoorL23
import Derived.Deep.RegionHeld
import Derived.Deep.RegionLaw
/-
  limits' reader: a format read whole. Conditions: what the listed package variables hold.
-/
namespace Go.Proofs.YtgcmgfljbadljaaGreatDoor.HandR
set_option linter.unusedVariables false
set_option linter.unusedSimpArgs false
open Go.RowKit Go.Shelf Go.Lib Go.Proofs.YtgcmgfljbadljaaGreatDoorW.PrintWords Go.Proofs.YtgcmgfljbadljaaGreatDoorW.PrintLast Go.Proofs.YtgcmgfljbadljaaGreatDoorW.PrintMore Go.Proofs.YtgcmgfljbadljaaGreatDoor.L Go.Proofs.YtgcmgfljbadljaaGreatDoor.HandS Go.Proofs.YtgcmgfljbadljaaGreatDoor.HandF

abbrev tFormat : ByteArray := ⟨#[102, 111, 114, 109, 97, 116]⟩
abbrev tOpen : ByteArray := ⟨#[123]⟩
abbrev tShut : ByteArray := ⟨#[125]⟩
abbrev tBudget : ByteArray := ⟨#[98, 117, 100, 103, 101, 116]⟩
abbrev tUnits : ByteArray := ⟨#[117, 110, 105, 116, 115]⟩
abbrev tBan : ByteArray := ⟨#[98, 97, 110]⟩
abbrev tLimit : ByteArray := ⟨#[108, 105, 109, 105, 116]⟩
/-- The reader behind a format's name and its brace. -/
def nameS (T : List S74) : Rd := takeS T 1 [tFormat] ⟨0, 0, 0, 0⟩
def openS (T : List S74) : Rd := takeS T 1 [tBudget] (takeS T 3 [tOpen] (takeS T 1 [] (nameS T)))
/-- Name, budget, units. -/
def headS (T : List S74) : Option (ByteArray × Int × Int × Rd) :=
  (numberS T 4000 (openS T)).bind fun m => (numberS T 40 (takeS T 1 [tUnits] m.2)).bind fun c => some ((tkAt T (nameS T).j).f1, m.1, c.1, c.2)
/-- The cards. -/
def cardsS (T : List S74) : Nat → List S42 → Rd → Option (List S42 × Rd)
  | 0, _, _ => none
  | k + 1, L, s => if isWordS T [tBan, tLimit] s = true then (if L.length < 1000000000000 then (cardS T L s).bind fun x => cardsS T k (L ++ [x.1]) x.2 else none) else some (L, s)
def tailS (T : List S74) (s : Rd) : Rd := takeS T 0 [] (takeS T 3 [tShut] s)
def readS (k : Nat) (a0 : ByteArray) (x : List S74 × Int × Int × Int) : Option (ByteArray × Int × Int × (List (S42)) × Int × Int × Int) :=
  if (!(x.2.1 == 0)) = true then some (⟨#[]⟩, 0, 0, [], x.2.1, x.2.2.1, x.2.2.2) else
  if x.1.length = 0 then none else
  (headS x.1).bind fun h => (cardsS x.1 k [] h.2.2.2).bind fun y =>
    let s := tailS x.1 y.2
    if (!(s.e == 0)) = true then some (⟨#[]⟩, 0, 0, [], s.e, s.l, s.k) else some (h.1, h.2.1, h.2.2.1, y.1, 0, 0, 0)
def readF (k : Nat) (a0 : ByteArray) : Option (ByteArray × Int × Int × (List (S42)) × Int × Int × Int) := (scan_Tokens.f k a0).bind (readS k a0)

/-- The reader's own world: behind W0, the two results' blocks, the reader, the format. -/
structure St (W0 wc : World) (T : List S74) (B c b q : Nat) (s : Rd) (nm : ByteArray) (bu un : Int) (v : Value) (L : List S42) : Prop where
  below : Below W0.heap.size W0 wc
  f2 : wc.heap[W0.heap.size]? = some (.cells #[.string ⟨#[]⟩, .int .i64 0, .int .i64 0, .slice none 0 0] 24 (0, 0))
  f3 : wc.heap[W0.heap.size + 1]? = some (.cells #[.int .i64 0, .int .i64 0, .int .i64 0] 52 (0, 0))
  tB : ∃ cells, wc.heap[B]? = some (.cells cells 74 (0, 0))
  fb : wc.heap[b]? = some (rdB B T.length c s)
  fq : wc.heap[q]? = some (.cells #[.string nm, .int .i64 bu, .int .i64 un, v] 24 (0, 0))
  tk : Tks wc B T
  rv : Kd.R k42 42 wc W0.heap.size (fun _ => True) v L
  hb : W0.heap.size ≤ b
  hq : W0.heap.size < q
theorem k42_E : ∀ q, q ∈ 42 :: k42.E → q = 42 := by decide
theorem St.bB {W0 wc : World} {T : List S74} {B c b q : Nat} {s : Rd} {nm : ByteArray} {bu un : Int} {v : Value} {L : List S42} (h : St W0 wc T B c b q s nm bu un v L) : B ≠ b := by
  obtain ⟨cells, hB⟩ := h.tB
  exact blk_ne hB h.fb (by decide)
theorem St.qb {W0 wc : World} {T : List S74} {B c b q : Nat} {s : Rd} {nm : ByteArray} {bu un : Int} {v : Value} {L : List S42} (h : St W0 wc T B c b q s nm bu un v L) : q ≠ b := blk_ne h.fq h.fb (by decide)
theorem St.b2 {W0 wc : World} {T : List S74} {B c b q : Nat} {s : Rd} {nm : ByteArray} {bu un : Int} {v : Value} {L : List S42} (h : St W0 wc T B c b q s nm bu un v L) : W0.heap.size ≠ b := blk_ne h.f2 h.fb (by decide)
theorem St.b3 {W0 wc : World} {T : List S74} {B c b q : Nat} {s : Rd} {nm : ByteArray} {bu un : Int} {v : Value} {L : List S42} (h : St W0 wc T B c b q s nm bu un v L) : W0.heap.size + 1 ≠ b := blk_ne h.f3 h.fb (by decide)
theorem St.q3 {W0 wc : World} {T : List S74} {B c b q : Nat} {s : Rd} {nm : ByteArray} {bu un : Int} {v : Value} {L : List S42} (h : St W0 wc T B c b q s nm bu un v L) : W0.heap.size + 1 ≠ q := blk_ne h.f3 h.fq (by decide)
/-- A call has changed the reader. -/
theorem St.call {W0 wc w' : World} {T : List S74} {B c b q : Nat} {s s' : Rd} {nm : ByteArray} {bu un : Int} {v : Value} {L : List S42} (h : St W0 wc T B c b q s nm bu un v L)
    (hg : wc.grownBy w' (some b)) (hb : w'.heap[b]? = some (rdB B T.length c s')) : St W0 w' T B c b q s' nm bu un v L := by
  have hbB := h.bB
  have hqb := h.qb
  have h2 := h.b2
  have h3 := h.b3
  obtain ⟨cells, hB⟩ := h.tB
  exact ⟨pw_below_grown h.below (some b) h.below.size hg (fun k e => by injection e with e; have := h.hb; omega), blk_grown h.f2 hg (fun e => h2 (by injection e)), blk_grown h.f3 hg (fun e => h3 (by injection e)),
    ⟨cells, blk_grown hB hg (fun e => hbB (by injection e))⟩, hb, blk_grown h.fq hg (fun e => hqb (by injection e)), h.tk.grown hg hbB,
    Kd.R_drop (Kd.R_grown (Kd.R_types h.rv h.fb (fun q hq => by rw [k42_E q hq]; decide)) hg (fun k hk e => hk.2 (by injection e))), h.hb, h.hq⟩
theorem St.step {W0 wc w' : World} {T : List S74} {B c b q : Nat} {s : Rd} {nm : ByteArray} {bu un : Int} {v : Value} {L : List S42} (h : St W0 wc T B c b q s nm bu un v L)
    (hg : Below wc.heap.size wc w') : St W0 w' T B c b q s nm bu un v L := h.call (grown_of_below hg (some b)) (blk_below h.fb hg)
theorem St.alloc {W0 wc : World} {T : List S74} {B c b q : Nat} {s : Rd} {nm : ByteArray} {bu un : Int} {v : Value} {L : List S42} (h : St W0 wc T B c b q s nm bu un v L) (o : Obj) : St W0 (wc.alloc o) T B c b q s nm bu un v L :=
  h.step (below_alloc (Below.refl _ _) o)
theorem St.set {W0 wc : World} {T : List S74} {B c b q : Nat} {s : Rd} {nm nm' : ByteArray} {bu bu' un un' : Int} {v v' : Value} {L L' : List S42} (h : St W0 wc T B c b q s nm bu un v L) (i : Nat) (u : Value)
    (hset : (#[.string nm, .int .i64 bu, .int .i64 un, v] : Array Value).setIfInBounds i u = #[.string nm', .int .i64 bu', .int .i64 un', v'])
    (hr : Kd.R k42 42 wc W0.heap.size (fun _ => True) v' L') : St W0 (wc.setCell ⟨q, i, none⟩ u) T B c b q s nm' bu' un' v' L' := by
  have hqb := h.qb
  have h2 := h.hq
  have h3 := h.q3
  obtain ⟨cells, hB⟩ := h.tB
  have hqB : B ≠ q := blk_ne hB h.fq (by decide)
  refine ⟨below_set h.below (Nat.le_of_lt h2), blk_far h.f2 (by show W0.heap.size ≠ q; omega) _, blk_far h.f3 (by show W0.heap.size + 1 ≠ q; omega) _, ⟨cells, blk_far hB hqB _⟩, blk_far h.fb (fun e => hqb e.symm) _, ?_, h.tk.grown (grown_set _ _ _ _) hqB, Kd.R_set hr h.fq (fun q hq => by rw [k42_E q hq]; decide) _ _, h.hb, h.hq⟩
  exact blk_put h.fq i u hset
theorem R_tks {w : World} {base : Nat} {ok : Nat → Prop} {v : Value} {T : List S74} (h : Kd.R k74 74 w base ok v T) (hn : 0 < T.length) :
    ∃ B c, v = .slice (some ⟨B, 0, none⟩) T.length c ∧ base ≤ B ∧ T.length ≤ c ∧ c ≤ 9223372036854775807 ∧ Tks w B T ∧ ∃ cells, w.heap[B]? = some (.cells cells 74 (0, 0)) := by
  obtain ⟨inner, ho⟩ := Kd.R_own h
  rcases ho.2 with ⟨rfl, h0⟩ | ⟨g, cap, cur, rfl, hg, hh, hl, hm, r⟩
  · omega
  · refine ⟨g, cap, rfl, hg, hl, hm, ?_, cur, hh⟩
    intro j hj
    have hC := (Kd.R_reads' h).2.2
    obtain ⟨ad, e, a0, a1, a2, a3⟩ := at_T74 hC (j : Int) (by omega) (by omega)
    injection e with e
    subst e
    have hz : Addr.add ⟨g, 0, none⟩ ((j : Int).toNat * 4) = ⟨g, 4 * j, none⟩ := by
      rw [Int.toNat_natCast]
      unfold Addr.add
      split
      · rename_i h0
        rw [show 4 * j = 0 by omega]
      · rw [show 0 + j * 4 = 4 * j by omega]
    rw [hz] at a0 a1 a2 a3
    exact ⟨a0, a1, a2, a3⟩
theorem alloc_size (w : World) (o : Obj) : (w.alloc o).heap.size = w.heap.size + 1 := Array.size_push ..
theorem txs1' (W : World) (n : Nat) (hn : n = W.heap.size) (x : ByteArray) : Txs (W.alloc (.cells #[.string x] 9 (0, 0))) (some ⟨n, 0, none⟩) [x] := by
  subst hn
  refine ⟨by simp, fun _ => ⟨W.heap.size, 0, rfl, blk_lt (blk_new W _), ?_⟩⟩
  intro j hj
  have hj : j = 0 := by simpa using hj
  subst hj
  exact (blk_cell (blk_new W _) 0).trans rfl
theorem txs1 (W : World) (x : ByteArray) : Txs (W.alloc (.cells #[.string x] 9 (0, 0))) (some ⟨W.heap.size, 0, none⟩) [x] := by
  refine ⟨by simp, fun _ => ⟨W.heap.size, 0, rfl, blk_lt (blk_new W _), ?_⟩⟩
  intro j hj
  have hj : j = 0 := by simpa using hj
  subst hj
  exact (blk_cell (blk_new W _) 0).trans rfl
theorem txs2 (W : World) (x y : ByteArray) : Txs (W.alloc (.cells #[.string x, .string y] 9 (0, 0))) (some ⟨W.heap.size, 0, none⟩) [x, y] := by
  refine ⟨by simp, fun _ => ⟨W.heap.size, 0, rfl, blk_lt (blk_new W _), ?_⟩⟩
  intro j hj
  have hj : j = 0 ∨ j = 1 := by have : j < 2 := hj; omega
  rcases hj with rfl | rfl
  · exact (blk_cell (blk_new W _) 0).trans rfl
  · exact (blk_cell (blk_new W _) 1).trans rfl
section
variable {W0 wc : World} {T : List S74} {B c b q : Nat} {s s' : Rd} {nm : ByteArray} {bu un : Int} {v : Value} {L : List S42}
theorem St.take (hc : T.length ≤ c) (hcm : c ≤ 9223372036854775807) (h : St W0 wc T B c b q s nm bu un v L) (ho : On T s) (K : Int) (A : Option Addr) (n mc : Nat) (ts : List ByteArray) (hx : Txs wc A ts) (hn : n = ts.length) :
    Calls Tryz.prog 33 #[.pointer (some ⟨b, 0, none⟩), .int .u8 K, .slice A n mc] wc fun en w' => en = .returned (.agg #[.int .u8 (tkAt T s.j).f0, .string (tkAt T s.j).f1, .int .i64 (tkAt T s.j).f2.f0, .int .i64 (tkAt T s.j).f2.f1]) ∧ St W0 w' T B c b q (takeS T K ts s) nm bu un v L := by
  subst hn
  refine (take_ T b B c hc hcm h.bB s K A mc ts wc ho h.tk h.fb hx).mono ?_
  rintro en w' ⟨rfl, hg, hb⟩
  exact ⟨rfl, h.call hg hb⟩
theorem St.number (hc : T.length ≤ c) (hcm : c ≤ 9223372036854775807) (h : St W0 wc T B c b q s nm bu un v L) (ho : On T s) (hG : Tabs W0) {most x : Int} (hn : numberS T most s = some (x, s')) :
    Calls Tryz.prog 34 #[.pointer (some ⟨b, 0, none⟩), .int .i64 most] wc fun en w' => en = .returned (.int .i64 x) ∧ St W0 w' T B c b q s' nm bu un v L := by
  refine (number_ T b B c hc hcm h.bB s s' most x wc (hG.below h.below) ho h.tk h.fb hn).mono ?_
  rintro en w' ⟨rfl, hg, hb⟩
  exact ⟨rfl, h.call hg hb⟩
theorem St.next (hc : T.length ≤ c) (hcm : c ≤ 9223372036854775807) (h : St W0 wc T B c b q s nm bu un v L) (ho : On T s) (A : Option Addr) (n mc : Nat) (ts : List ByteArray) (hx : Txs wc A ts) (hn : n = ts.length) (h0 : 0 < ts.length) :
    Calls Tryz.prog 35 #[.pointer (some ⟨b, 0, none⟩), .slice A n mc] wc fun en w' => en = .returned (.bool (isWordS T ts s)) ∧ St W0 w' T B c b q s nm bu un v L := by
  subst hn
  refine (next_ T b B c hc s A mc ts wc ho h.tk h.fb hx h0).mono ?_
  rintro en w' ⟨rfl, rfl⟩
  exact ⟨rfl, h⟩
theorem St.card (hc : T.length ≤ c) (hcm : c ≤ 9223372036854775807) (h : St W0 wc T B c b q s nm bu un v L) (ho : On T s) (hG : Tabs W0) (hl : L.length < 1000000000000) {x : S42} (hx : cardS T L s = some (x, s')) :
    Calls Tryz.prog 36 #[.pointer (some ⟨b, 0, none⟩), .agg #[.string nm, .int .i64 bu, .int .i64 un, v]] wc fun en w' => en = .returned (.agg #[.string x.f0, .int .i64 x.f1, .int .i64 x.f2]) ∧ St W0 w' T B c b q s' nm bu un v L := by
  obtain ⟨A, cc, rfl, hlc, hC⟩ := Kd.R_reads h.rv
  refine (card_ T b B c hc hcm h.bB W0 wc h.below h.hb hG s s' ho h.tk h.fb nm bu un A cc L hC hlc ?_ (by omega) x hx).mono ?_
  · rintro ad rfl hp e
    exact Kd.R_ne h.rv h.fb (by decide) (by rw [← e]; rfl)
  · rintro en w' ⟨rfl, hg, hb⟩
    exact ⟨rfl, h.call hg hb⟩
end
theorem below_trans_ {w w1 w2 : World} (h1 : Below w.heap.size w w1) (h2 : Below w1.heap.size w1 w2) : Below w.heap.size w w2 := by
  exact below_step h1 h2
theorem two_size (w : World) (o1 o2 : Obj) : ((w.alloc o1).alloc o2).heap.size = w.heap.size + 2 := by
  show ((w.heap.push o1).push o2).size = _
  simp
theorem new_two (w : World) (o1 o2 : Obj) : ((w.alloc o1).alloc o2).heap[w.heap.size]? = some o1 ∧ ((w.alloc o1).alloc o2).heap[w.heap.size + 1]? = some o2 := by
  refine ⟨?_, ?_⟩
  · show ((w.heap.push o1).push o2)[w.heap.size]? = some o1
    simp [Array.getElem?_push]
  · show ((w.heap.push o1).push o2)[w.heap.size + 1]? = some o2
    rw [show w.heap.size + 1 = (w.heap.push o1).size from by simp]
    exact Array.getElem?_push_size
theorem St.start {w w1 : World} {T : List S74} {B c : Nat} (e l k : Int) (z2 : w1.heap[w.heap.size]? = some (.cells #[.string ⟨#[]⟩, .int .i64 0, .int .i64 0, .slice none 0 0] 24 (0, 0))) (z3 : w1.heap[w.heap.size + 1]? = some (.cells #[.int .i64 0, .int .i64 0, .int .i64 0] 52 (0, 0)))
    (hb : Below w.heap.size w w1) (hsz : w.heap.size + 2 ≤ w1.heap.size) (hB : ∃ cells, w1.heap[B]? = some (.cells cells 74 (0, 0))) (ht : Tks w1 B T) :
    St w (((w1.alloc (.cells #[.int .i64 e, .int .i64 l, .int .i64 k] 52 (0, 0))).alloc (.cells #[.slice (some ⟨B, 0, none⟩) T.length c, .int .i64 0, .int .i64 0, .int .i64 0] 72 (0, 0))).alloc (.cells #[.string ⟨#[]⟩, .int .i64 0, .int .i64 0, .slice none 0 0] 24 (0, 0)))
      T B c (w1.heap.size + 1) (w1.heap.size + 1 + 1) ⟨0, 0, 0, 0⟩ ⟨#[]⟩ 0 0 (.slice none 0 0) [] := by
  have ha := below_alloc (below_alloc (below_alloc (Below.refl w1.heap.size w1) (.cells #[.int .i64 e, .int .i64 l, .int .i64 k] 52 (0, 0))) (.cells #[.slice (some ⟨B, 0, none⟩) T.length c, .int .i64 0, .int .i64 0, .int .i64 0] 72 (0, 0))) (.cells #[.string ⟨#[]⟩, .int .i64 0, .int .i64 0, .slice none 0 0] 24 (0, 0))
  obtain ⟨cells, hB⟩ := hB
  refine ⟨below_step hb ha, blk_below z2 ha, blk_below z3 ha, ⟨cells, blk_below hB ha⟩, blk_alloc (new_two w1 _ _).2 _, ?_, ht.below ha, Kd.R_nil _ _ _ _ _, by omega, by omega⟩
  have := (new_two (w1.alloc (.cells #[.int .i64 e, .int .i64 l, .int .i64 k] 52 (0, 0))) (.cells #[.slice (some ⟨B, 0, none⟩) T.length c, .int .i64 0, .int .i64 0, .int .i64 0] 72 (0, 0)) (.cells #[.string ⟨#[]⟩, .int .i64 0, .int .i64 0, .slice none 0 0] 24 (0, 0))).2
  rwa [alloc_size] at this
theorem ret16 {w W : World} {tmps : Array Value} {ds : List Deferred} {r1 : ByteArray} {r2 r3 r5 r6 r7 : Int} {r4 : List S42} {v : Value} {cs2 cs3 : Array Value}
    (p2 : tmps.getD 2 undef = .pointer (some ⟨w.heap.size, 0, none⟩)) (p3 : tmps.getD 3 undef = .pointer (some ⟨w.heap.size + 1, 0, none⟩)) (hds : ds = [])
    (f2 : W.heap[w.heap.size]? = some (.cells cs2 24 (0, 0))) (e2 : cs2 = #[.string r1, .int .i64 r2, .int .i64 r3, v])
    (f3 : W.heap[w.heap.size + 1]? = some (.cells cs3 52 (0, 0))) (e3 : cs3 = #[.int .i64 r5, .int .i64 r6, .int .i64 r7])
    (hb : Below w.heap.size w W) (hv : Kd.R k42 42 W w.heap.size (fun _ => True) v r4) :
    bodyPost Tryz.prog Tryz.f16 (fun e w' => ∃ v3_ : Value, e = .returned (.tuple #[.agg #[.string r1, .int .i64 r2, .int .i64 r3, v3_], .agg #[.int .i64 r5, .int .i64 r6, .int .i64 r7]]) ∧ Kd.R k42 42 w' w.heap.size (fun _ => True) v3_ r4 ∧ Below w.heap.size w w') Exit.ret ⟨tmps, ds⟩ W := by
  subst hds e2 e3
  exact bodyPost_ret (results_cc rfl tmps W w.heap.size (w.heap.size + 1) 24 52 _ _ (0, 0) (0, 0) _ _ p2 f2 Tryz.underlying24 rfl (by kernel_rfl) p3 f3 Tryz.underlying52 rfl (by kernel_rfl)) rfl ⟨v, rfl, hv, hb⟩
/-- The two results' blocks, written over. -/
theorem zero_fault {W : World} {g2 g3 : Nat} (ne : g2 ≠ g3) {a0 a1 a2 a3 b0 b1 b2 : Value} (f2 : W.heap[g2]? = some (.cells #[a0, a1, a2, a3] 24 (0, 0))) (f3 : W.heap[g3]? = some (.cells #[b0, b1, b2] 52 (0, 0))) (x0 x1 x2 x3 y0 y1 y2 : Value) :
    (((((((W.setCell ⟨g2, 0, none⟩ x0).setCell ⟨g2, 1, none⟩ x1).setCell ⟨g2, 2, none⟩ x2).setCell ⟨g2, 3, none⟩ x3).setCell ⟨g3, 0, none⟩ y0).setCell ⟨g3, 1, none⟩ y1).setCell ⟨g3, 2, none⟩ y2).heap[g2]? = some (.cells #[x0, x1, x2, x3] 24 (0, 0)) ∧
    (((((((W.setCell ⟨g2, 0, none⟩ x0).setCell ⟨g2, 1, none⟩ x1).setCell ⟨g2, 2, none⟩ x2).setCell ⟨g2, 3, none⟩ x3).setCell ⟨g3, 0, none⟩ y0).setCell ⟨g3, 1, none⟩ y1).setCell ⟨g3, 2, none⟩ y2).heap[g3]? = some (.cells #[y0, y1, y2] 52 (0, 0)) := by
  have c1 := blk_put (cs' := #[x0, a1, a2, a3]) f2 0 x0 rfl
  have c2 := blk_put (cs' := #[x0, x1, a2, a3]) c1 1 x1 rfl
  have c3 := blk_put (cs' := #[x0, x1, x2, a3]) c2 2 x2 rfl
  have c4 := blk_put (cs' := #[x0, x1, x2, x3]) c3 3 x3 rfl
  have d1 := blk_far (p := ⟨g2, 0, none⟩) f3 (fun e => ne e.symm) x0
  have d2 := blk_far (p := ⟨g2, 1, none⟩) d1 (fun e => ne e.symm) x1
  have d3 := blk_far (p := ⟨g2, 2, none⟩) d2 (fun e => ne e.symm) x2
  have d4 := blk_far (p := ⟨g2, 3, none⟩) d3 (fun e => ne e.symm) x3
  have d5 := blk_put (cs' := #[y0, b1, b2]) d4 0 y0 rfl
  have d6 := blk_put (cs' := #[y0, y1, b2]) d5 1 y1 rfl
  have d7 := blk_put (cs' := #[y0, y1, y2]) d6 2 y2 rfl
  exact ⟨blk_far (p := ⟨g3, 2, none⟩) (blk_far (p := ⟨g3, 1, none⟩) (blk_far (p := ⟨g3, 0, none⟩) c4 ne y0) ne y1) ne y2, d7⟩
theorem zero_R {W : World} {b g2 g3 : Nat} {a0 a1 a2 a3 b0 b1 b2 v : Value} {L : List S42} (h : Kd.R k42 42 W b (fun _ => True) v L) (f2 : W.heap[g2]? = some (.cells #[a0, a1, a2, a3] 24 (0, 0))) (f3 : W.heap[g3]? = some (.cells #[b0, b1, b2] 52 (0, 0))) (x0 x1 x2 x3 y0 y1 y2 : Value) :
    Kd.R k42 42 (((((((W.setCell ⟨g2, 0, none⟩ x0).setCell ⟨g2, 1, none⟩ x1).setCell ⟨g2, 2, none⟩ x2).setCell ⟨g2, 3, none⟩ x3).setCell ⟨g3, 0, none⟩ y0).setCell ⟨g3, 1, none⟩ y1).setCell ⟨g3, 2, none⟩ y2) b (fun _ => True) v L := by
  have h2 := Kd.R_types (Kd.R_types h f2 (fun q hq => by rw [k42_E q hq]; decide)) f3 (fun q hq => by rw [k42_E q hq]; decide)
  have c1 := Kd.R_far (p := ⟨g2, 0, none⟩) h2 (fun k hk => hk.1.2) x0
  have c2 := Kd.R_far (p := ⟨g2, 1, none⟩) c1 (fun k hk => hk.1.2) x1
  have c3 := Kd.R_far (p := ⟨g2, 2, none⟩) c2 (fun k hk => hk.1.2) x2
  have c4 := Kd.R_far (p := ⟨g2, 3, none⟩) c3 (fun k hk => hk.1.2) x3
  have c5 := Kd.R_far (p := ⟨g3, 0, none⟩) c4 (fun k hk => hk.2) y0
  have c6 := Kd.R_far (p := ⟨g3, 1, none⟩) c5 (fun k hk => hk.2) y1
  have c7 := Kd.R_far (p := ⟨g3, 2, none⟩) c6 (fun k hk => hk.2) y2
  exact Kd.R_mono c7 (fun _ _ => trivial)
theorem zero_below {w W : World} {g2 g3 : Nat} (h : Below w.heap.size w W) (h2 : w.heap.size ≤ g2) (h3 : w.heap.size ≤ g3) (x0 x1 x2 x3 y0 y1 y2 : Value) :
    Below w.heap.size w (((((((W.setCell ⟨g2, 0, none⟩ x0).setCell ⟨g2, 1, none⟩ x1).setCell ⟨g2, 2, none⟩ x2).setCell ⟨g2, 3, none⟩ x3).setCell ⟨g3, 0, none⟩ y0).setCell ⟨g3, 1, none⟩ y1).setCell ⟨g3, 2, none⟩ y2) :=
  below_set (below_set (below_set (below_set (below_set (below_set (below_set h h2) h2) h2) h2) h3) h3) h3
theorem cardS_on {T : List S74} {L : List S42} {s s' : Rd} {x : S42} (h : On T s) (hc : cardS T L s = some (x, s')) : On T s' := by
  unfold cardS at hc
  obtain ⟨⟨m, c, s3⟩, h1, h2⟩ := Option.bind_eq_some_iff.mp hc
  injection h2 with h2
  obtain ⟨-, rfl⟩ := Prod.mk.inj h2
  exact takeS_on 1 [] (orderS_on (termsS_on (fullS_on h) h1))
theorem C42_new (W : World) (x : S42) : Kd.C k42 (W.alloc (.cells #[.string x.f0, .int .i64 x.f1, .int .i64 x.f2] 42 (0, 0))) (some ⟨W.heap.size, 0, none⟩) 1 [x] := by
  have h : Kd.R k42 42 (W.alloc (.cells #[.string x.f0, .int .i64 x.f1, .int .i64 x.f2] 42 (0, 0))) W.heap.size (fun _ => True) (.slice (some ⟨W.heap.size, 0, none⟩) 1 1) [x] :=
    ⟨fun _ _ => trivial, [.string x.f0, .int .i64 x.f1, .int .i64 x.f2], ⟨rfl, .inr ⟨W.heap.size, 1, #[.string x.f0, .int .i64 x.f1, .int .i64 x.f2], rfl, Nat.le_refl _, blk_new W _, Nat.le_refl _, by decide, rfl, rfl⟩⟩, by
      refine ⟨rfl, fun j p hp => ?_⟩
      cases j with
      | zero => injection hp with hp; subst hp; exact k42_mkM _ _ _ _
      | succ j => cases hp⟩
  exact (Kd.R_reads' h).2.2
theorem St.append {W0 W w' : World} {T : List S74} {B c b q : Nat} {s : Rd} {nm : ByteArray} {bu un : Int} {v v1 : Value} {L L1 : List S42} (h : St W0 W T B c b q s nm bu un v L) (hg : W.grownBy w' v.ownBlock) (hb : Below W0.heap.size W0 w')
    (ho : Kd.R k42 42 w' W0.heap.size (fun _ => True) v1 L1) : w'.heap[q]? = some (.cells #[.string nm, .int .i64 bu, .int .i64 un, v] 24 (0, 0)) ∧ St W0 (w'.setCell ⟨q, 3, none⟩ v1) T B c b q s nm bu un v1 L1 := by
  obtain ⟨cells, hB⟩ := h.tB
  have hqb := h.qb
  have h2 := h.hq
  have h3 := h.q3
  have fq := blk_grown h.fq hg (Kd.R_ne h.rv h.fq (by decide))
  have hqB : B ≠ q := blk_ne hB h.fq (by decide)
  have hnB := Kd.R_ne h.rv hB (by decide)
  have htk : Tks w' B T := fun j hj => by
    obtain ⟨a0, a1, a2, a3⟩ := h.tk j hj
    exact ⟨hg.cell a0 hnB, hg.cell a1 hnB, hg.cell a2 hnB, hg.cell a3 hnB⟩
  refine ⟨fq, below_set hb (Nat.le_of_lt h2), blk_far (blk_grown h.f2 hg (Kd.R_ne h.rv h.f2 (by decide))) (by show W0.heap.size ≠ q; omega) _, blk_far (blk_grown h.f3 hg (Kd.R_ne h.rv h.f3 (by decide))) (by show W0.heap.size + 1 ≠ q; omega) _,
    ⟨cells, blk_far (blk_grown hB hg hnB) hqB _⟩, blk_far (blk_grown h.fb hg (Kd.R_ne h.rv h.fb (by decide))) (fun e => hqb e.symm) _, blk_put fq 3 v1 rfl, htk.grown (grown_set _ _ _ _) hqB, Kd.R_set ho fq (fun q hq => by rw [k42_E q hq]; decide) _ _, h.hb, h.hq⟩
set_option maxHeartbeats 3000000 in
set_option maxRecDepth 100000 in
theorem readF_calls (k : Nat) (a0 : ByteArray) (r1 : ByteArray) (r2 : Int) (r3 : Int) (r4 : List (S42)) (r5 : Int) (r6 : Int) (r7 : Int) (w : World) (hG : Tabs w) (h : readF k a0 = some (r1, r2, r3, r4, r5, r6, r7)) :
    Calls Tryz.prog 16 #[.string a0] w fun e w' => ∃ v3_ : Value, e = .returned (.tuple #[.agg #[.string r1, .int .i64 r2, .int .i64 r3, v3_], .agg #[.int .i64 r5, .int .i64 r6, .int .i64 r7]]) ∧ Kd.R k42 42 w' w.heap.size (fun _ => True) v3_ r4 ∧ Below w.heap.size w w' := by
  unfold readF at h
  obtain ⟨⟨T, e, l, kk⟩, hT, h2⟩ := Option.bind_eq_some_iff.mp h
  clear h
  unfold readS at h2
  simp only at h2
  have HG := Aside0.mk hG
  have HT := Aside0.mk hT
  clear hG hT
  have hu72 := Tryz.underlying72
  have hu52 := Tryz.underlying52
  have hu74 := Tryz.underlying74
  have hu24 := Tryz.underlying24
  have hu42 := Tryz.underlying42
  go_enter Tryz.func16, Tryz.ntmps16
  have hb0 := grown_below_ w (.cells #[.string ⟨#[]⟩, .int .i64 0, .int .i64 0, .slice none 0 0] 24 (0, 0)) (.cells #[.int .i64 0, .int .i64 0, .int .i64 0] 52 (0, 0))
  have HB0 := Aside0.mk hb0
  clear hb0
  go_wp2_with fail
  refine (scan_Tokens.calls k a0 T e l kk _ (HG.out.below HB0.out) HT.out).mono ?_
  rintro en w1 ⟨v0, rfl, hr1, hb1⟩
  have HR1 := Aside0.mk hr1
  have HB1 := Aside0.mk hb1
  clear hr1 hb1
  have hsz : w.heap.size + 2 ≤ w1.heap.size := Nat.le_trans (Nat.le_of_eq (two_size w _ _).symm) HB1.out.size
  have n1 : w1.heap.size ≠ w.heap.size := by omega
  have n2 : w1.heap.size ≠ w.heap.size + 1 := by omega
  have n3 : w.heap.size ≠ w1.heap.size := by omega
  have n4 : w.heap.size + 1 ≠ w1.heap.size := by omega
  have q1 : w.heap.size ≠ w.heap.size + 1 := by omega
  have q2 : w.heap.size + 1 ≠ w.heap.size := by omega
  cases he : (e == 0) with
  | false =>
    have hf2 := blk_alloc (blk_below (new_two w (.cells #[.string ⟨#[]⟩, .int .i64 0, .int .i64 0, .slice none 0 0] 24 (0, 0)) (.cells #[.int .i64 0, .int .i64 0, .int .i64 0] 52 (0, 0))).1 HB1.out) (.cells #[.int .i64 e, .int .i64 l, .int .i64 kk] 52 (0, 0))
    have hf3 := blk_alloc (blk_below (new_two w (.cells #[.string ⟨#[]⟩, .int .i64 0, .int .i64 0, .slice none 0 0] 24 (0, 0)) (.cells #[.int .i64 0, .int .i64 0, .int .i64 0] 52 (0, 0))).2 HB1.out) (.cells #[.int .i64 e, .int .i64 l, .int .i64 kk] 52 (0, 0))
    have F2 := Aside0.mk hf2
    have F3 := Aside0.mk hf3
    obtain ⟨⟨d0, d1, d2, d3⟩, g0, g1, g2, g3⟩ := cells4 hf2
    obtain ⟨⟨x0, x1, x2⟩, y0, y1, y2⟩ := cells3 hf3
    clear hf2 hf3
    rw [if_pos (by rw [he]; rfl)] at h2
    have H2 := Aside0.mk h2
    clear h2
    go_wp2_with fail
    go_region
    all_goals go_wp2_with fail
    all_goals
      have h2 := H2.out
      simp only [Option.some.injEq, Prod.mk.injEq] at h2
      obtain ⟨rfl, rfl, rfl, rfl, rfl, rfl, rfl⟩ := h2
      have zf := zero_fault q1 F2.out F3.out (.string ⟨#[]⟩) (.int .i64 0) (.int .i64 0) (.slice none 0 0) (.int .i64 e) (.int .i64 l) (.int .i64 kk)
      have zb := zero_below (below_alloc (below_trans_ (grown_below_ w _ _) HB1.out) (.cells #[.int .i64 e, .int .i64 l, .int .i64 kk] 52 (0, 0))) (Nat.le_refl _) (Nat.le_succ _) (.string ⟨#[]⟩) (.int .i64 0) (.int .i64 0) (.slice none 0 0) (.int .i64 e) (.int .i64 l) (.int .i64 kk)
      exact ret16 rfl rfl rfl (blk_drew zf.1) rfl (blk_drew zf.2) rfl (below_drew zb) (Kd.R_nil _ _ _ _ _)
  | true =>
    rw [if_neg (by rw [he]; decide)] at h2
    by_cases hT0 : T.length = 0
    · rw [if_pos hT0] at h2; cases h2
    rw [if_neg hT0] at h2
    obtain ⟨⟨nm, bu, un, s7⟩, hH, h3⟩ := Option.bind_eq_some_iff.mp h2
    obtain ⟨⟨L, s8⟩, hC, h4⟩ := Option.bind_eq_some_iff.mp h3
    clear h2 h3
    unfold headS at hH
    obtain ⟨⟨bu', s5⟩, hm, hH2⟩ := Option.bind_eq_some_iff.mp hH
    obtain ⟨⟨un', s7'⟩, hn, hH3⟩ := Option.bind_eq_some_iff.mp hH2
    injection hH3 with hH3
    simp only [Prod.mk.injEq] at hH3
    obtain ⟨rfl, rfl, rfl, rfl⟩ := hH3
    clear hH hH2
    have H4 := Aside0.mk h4
    have HM := Aside0.mk hm
    have HN := Aside0.mk hn
    have HC := Aside0.mk hC
    clear h4 hm hn hC
    have o0 : On T ⟨0, 0, 0, 0⟩ := ⟨by show 0 < T.length; omega⟩
    have O1 := Aside0.mk (takeS_on 1 [tFormat] o0)
    have O2 := Aside0.mk (takeS_on 1 [] O1.out)
    have O3 := Aside0.mk (takeS_on 3 [tOpen] O2.out)
    have O4 := Aside0.mk (takeS_on 1 [tBudget] O3.out)
    have O5 := Aside0.mk (numberS_on O4.out HM.out)
    have O6 := Aside0.mk (takeS_on 1 [tUnits] O5.out)
    have O7 := Aside0.mk (numberS_on O6.out HN.out)
    have O0 := Aside0.mk o0
    clear o0
    obtain ⟨B, c, rfl, hBb, hTc, hcm, ht, hB⟩ := R_tks HR1.out (by omega)
    have ST0 := Aside0.mk (St.start (c := c) e l kk (blk_below (new_two w _ _).1 HB1.out) (blk_below (new_two w _ _).2 HB1.out) (below_trans_ (grown_below_ w _ _) HB1.out) hsz hB ht)
    clear hB ht
    go_wp2_with fail
    refine ((ST0.out.alloc _).take hTc hcm O0.out 1 _ 1 1 [tFormat] (txs1' _ _ (by simp only [alloc_size]) _) rfl).mono ?_
    rintro en w2 ⟨rfl, st⟩
    have ST1 := Aside0.mk st
    clear st ST0
    go_wp2_with fail
    refine (ST1.out.take hTc hcm O1.out 1 none 0 0 [] (Txs.none_ _) rfl).mono ?_
    rintro en w3 ⟨rfl, st⟩
    have ST2 := Aside0.mk st
    obtain ⟨⟨d0, d1, d2, d3⟩, g0, g1, g2, g3⟩ := cells4 st.fq
    clear st ST1
    go_wp2_with fail
    rw [field74_1]
    go_wp2_with fail
    have ST3 := Aside0.mk (ST2.out.set 0 (.string (tkAt T (nameS T).j).f1) rfl ST2.out.rv)
    clear ST2 d0 d1 d2 d3 g0 g1 g2 g3
    refine ((ST3.out.alloc _).take hTc hcm O2.out 3 _ 1 1 [tOpen] (txs1' _ _ (set_size _ _ _).symm _) rfl).mono ?_
    rintro en w4 ⟨rfl, st⟩
    have ST4 := Aside0.mk st
    clear st ST3
    go_wp2_with fail
    refine ((ST4.out.alloc _).take hTc hcm O3.out 1 _ 1 1 [tBudget] (txs1' _ _ rfl _) rfl).mono ?_
    rintro en w5 ⟨rfl, st⟩
    have ST5 := Aside0.mk st
    clear st ST4
    go_wp2_with fail
    refine (ST5.out.number hTc hcm O4.out HG.out HM.out).mono ?_
    rintro en w6 ⟨rfl, st⟩
    have ST6 := Aside0.mk st
    obtain ⟨⟨d0, d1, d2, d3⟩, g0, g1, g2, g3⟩ := cells4 st.fq
    clear st ST5
    go_wp2_with fail
    have ST7 := Aside0.mk (ST6.out.set 1 (.int .i64 bu') rfl ST6.out.rv)
    clear ST6 d0 d1 d2 d3 g0 g1 g2 g3
    refine ((ST7.out.alloc _).take hTc hcm O5.out 1 _ 1 1 [tUnits] (txs1' _ _ (set_size _ _ _).symm _) rfl).mono ?_
    rintro en w7 ⟨rfl, st⟩
    have ST8 := Aside0.mk st
    clear st ST7
    go_wp2_with fail
    refine (ST8.out.number hTc hcm O6.out HG.out HN.out).mono ?_
    rintro en w8 ⟨rfl, st⟩
    have ST9 := Aside0.mk st
    obtain ⟨⟨d0, d1, d2, d3⟩, g0, g1, g2, g3⟩ := cells4 st.fq
    clear st ST8
    go_wp2_with fail
    have ST10 := Aside0.mk (ST9.out.set 2 (.int .i64 un') rfl ST9.out.rv)
    clear ST9 d0 d1 d2 d3 g0 g1 g2 g3
    go_loopg [] k (fun g wr => ∃ (v : Value) (L0 : List S42) (s0 : Rd), Aside0 (St w wr T B c (w1.heap.size + 1) (w1.heap.size + 1 + 1) s0 (tkAt T (nameS T).j).f1 bu' un' v L0) ∧ Aside0 (cardsS T g L0 s0 = some (L, s8)) ∧ Aside0 (On T s0))
    case atStart => exact ⟨_, [], _, ST10, HC, O7⟩
    case round =>
      obtain ⟨v, L0, s0, STr, HCr, Or⟩ := hrel
      obtain ⟨g, rfl⟩ : ∃ g, gk = g + 1 := by
        cases gk with
        | zero => have := HCr.out; rw [cardsS] at this; cases this
        | succ g => exact ⟨g, rfl⟩
      go_wp2_with fail
      refine ((STr.out.alloc _).next hTc hcm Or.out _ 2 2 [tBan, tLimit] (txs2 _ _ _) rfl (by decide)).mono ?_
      rintro en w9 ⟨rfl, st⟩
      have ST11 := Aside0.mk st
      clear st STr
      cases hw : isWordS T [tBan, tLimit] s0 with
      | true =>
        have hcr := HCr.out
        rw [cardsS, if_pos hw] at hcr
        by_cases hl : L0.length < 1000000000000
        · rw [if_pos hl] at hcr
          obtain ⟨⟨x, s1⟩, hx, hcr2⟩ := Option.bind_eq_some_iff.mp hcr
          have HX := Aside0.mk hx
          have HC2 := Aside0.mk hcr2
          clear hcr hcr2 hx HCr
          obtain ⟨Av, cv, rfl⟩ := Kd.R_slice ST11.out.rv
          obtain ⟨⟨d0, d1, d2, d3⟩, g0, g1, g2, g3⟩ := cells4 ST11.out.fq
          go_wp2_with fail
          go_region_law (first
            | (refine goes_ Tryz.func36 (by kernel_rfl) rfl #[.pointer (some ⟨w1.heap.size + 1, 0, none⟩), .agg #[.string (tkAt T (nameS T).j).f1, .int .i64 bu', .int .i64 un', .slice Av L0.length cv]] (by rfl) rfl rfl (by (try simp only [List.map_toArray, List.map_cons, List.map_nil]); first | done | rfl) ?_
               refine ((ST11.out.step (below_drew (Below.refl _ _))).card hTc hcm Or.out HG.out hl HX.out).mono ?_
               rintro en w12 ⟨rfl, st⟩
               refine ⟨_, rfl, ?_⟩
               have ST12 := Aside0.mk st
               obtain ⟨⟨d0', d1', d2', d3'⟩, g0', g1', g2', g3'⟩ := cells4 st.fq
               obtain ⟨⟨h0', h1', h2', h3'⟩, i0', i1', i2', i3'⟩ := cells4 (st.alloc (.cells #[.string x.f0, .int .i64 x.f1, .int .i64 x.f2] 42 (0, 0))).fq
               have nq1 : w1.heap.size + 1 + 1 ≠ w12.heap.size := Nat.ne_of_lt (blk_lt st.fq)
               have nq2 : w12.heap.size ≠ w1.heap.size + 1 + 1 := fun e => nq1 e.symm
               clear st)
            | (refine Kd.R_append_rows_step k42 (w0 := w) w.heap.size (by rfl) (.tmp 47) (.tmp 51) 22 42 (.agg #[(.string ⟨#[]⟩), (.int .i64 0), (.int .i64 0)]) 32 rfl Tryz.underlying22 info42 rfl (by decide) (by omega) (.slice Av L0.length cv) L0 [x] _ _ _ (fun _ => True) (fun _ => False) rfl rfl ?aO ?aR (fun _ _ h => h) (fun _ h => h.elim) (fun _ _ => trivial) ?aB ?aS (by omega) ?_
               case aO => exact (ST12.out.alloc _).rv
               case aR => exact C42_new _ x
               case aB => exact (ST12.out.alloc _).below
               case aS => exact (ST12.out.alloc _).below.size
               intro v1 w13 ho hb hg hat
               obtain ⟨A1, c1, rfl⟩ := Kd.R_slice ho
               have sa := (ST12.out.alloc _).append hg hb ho
               obtain ⟨⟨e0, e1, e2, e3⟩, k0, k1, k2, k3⟩ := cells4 sa.1
               have SA := Aside0.mk sa.2
               clear sa))
          all_goals
            go_wp2_with fail
            go_roundg g
            case measure => omega
            case rel =>
              rw [show (L0 ++ [x]).length = L0.length + 1 from by simp] at SA
              exact ⟨_, _, _, SA, HC2, Aside0.mk (cardS_on Or.out HX.out)⟩
        · rw [if_neg hl] at hcr
          cases hcr
      | false =>
        have hcr := HCr.out
        rw [cardsS, if_neg (by rw [hw]; decide)] at hcr
        injection hcr with hcr
        obtain ⟨rfl, rfl⟩ := Prod.mk.inj hcr
        clear hcr HCr
        go_wp2_with fail
        refine ((ST11.out.alloc _).take hTc hcm Or.out 3 _ 1 1 [tShut] (txs1' _ _ rfl _) rfl).mono ?_
        rintro en w10 ⟨rfl, st⟩
        have ST12 := Aside0.mk st
        clear st ST11
        go_wp2_with fail
        refine (ST12.out.take hTc hcm (takeS_on 3 [tShut] Or.out) 0 none 0 0 [] (Txs.none_ _) rfl).mono ?_
        rintro en w11 ⟨rfl, st⟩
        have ST13 := Aside0.mk st
        have hcell := st.fb
        unfold rdB rdr at hcell
        obtain ⟨⟨d0, d1, d2, d3⟩, g0, g1, g2, g3⟩ := cells4 hcell
        clear st ST12 hcell
        have H5 := H4.out
        change (if (!((takeS T 0 [] (takeS T 3 [tShut] s0)).e == 0)) = true then some (⟨#[]⟩, 0, 0, [], (takeS T 0 [] (takeS T 3 [tShut] s0)).e, (takeS T 0 [] (takeS T 3 [tShut] s0)).l, (takeS T 0 [] (takeS T 3 [tShut] s0)).k) else some ((tkAt T (nameS T).j).f1, bu', un', L0, 0, 0, 0)) = _ at H5
        have hf2 := ST13.out.f2
        have hf3 := ST13.out.f3
        have hfq := ST13.out.fq
        obtain ⟨⟨z0, z1, z2, z3⟩, u0, u1, u2, u3⟩ := cells4 hf2
        obtain ⟨⟨x0, x1, x2⟩, y0, y1, y2⟩ := cells3 hf3
        obtain ⟨⟨p0, p1, p2, p3⟩, v0, v1, v2, v3⟩ := cells4 hfq
        clear hf2 hf3 hfq
        have m1 : w1.heap.size + 1 ≠ w.heap.size := by omega
        have m2 : w.heap.size ≠ w1.heap.size + 1 := by omega
        have m3 : w1.heap.size + 1 + 1 ≠ w.heap.size := by omega
        have m4 : w.heap.size ≠ w1.heap.size + 1 + 1 := by omega
        generalize hS : takeS T 0 [] (takeS T 3 [tShut] s0) = S at *
        cases hE : (S.e == 0) with
        | false =>
          rw [if_pos (by rw [hE]; rfl)] at H5
          have H6 := Aside0.mk H5
          clear H5
          go_wp2_with fail
          go_region
          all_goals go_wp2_with fail
          have h2 := H6.out
          simp only [Option.some.injEq, Prod.mk.injEq] at h2
          obtain ⟨rfl, rfl, rfl, rfl, rfl, rfl, rfl⟩ := h2
          have zf := zero_fault q1 ST13.out.f2 ST13.out.f3 (.string ⟨#[]⟩) (.int .i64 0) (.int .i64 0) (.slice none 0 0) (.int .i64 S.e) (.int .i64 S.l) (.int .i64 S.k)
          have zb := zero_below ST13.out.below (Nat.le_refl _) (Nat.le_succ _) (.string ⟨#[]⟩) (.int .i64 0) (.int .i64 0) (.slice none 0 0) (.int .i64 S.e) (.int .i64 S.l) (.int .i64 S.k)
          exact ret16 rfl rfl rfl (blk_drew zf.1) rfl (blk_drew zf.2) rfl (below_drew zb) (Kd.R_nil _ _ _ _ _)
        | true =>
          rw [if_neg (by rw [hE]; decide)] at H5
          have H6 := Aside0.mk H5
          clear H5
          obtain ⟨Av, cv, rfl⟩ := Kd.R_slice ST13.out.rv
          go_wp2_with fail
          have h2 := H6.out
          simp only [Option.some.injEq, Prod.mk.injEq] at h2
          obtain ⟨rfl, rfl, rfl, rfl, rfl, rfl, rfl⟩ := h2
          have zf := zero_fault q1 ST13.out.f2 ST13.out.f3 (.string (tkAt T (nameS T).j).f1) (.int .i64 bu') (.int .i64 un') (.slice Av L0.length cv) (.int .i64 0) (.int .i64 0) (.int .i64 0)
          have zb := zero_below ST13.out.below (Nat.le_refl _) (Nat.le_succ _) (.string (tkAt T (nameS T).j).f1) (.int .i64 bu') (.int .i64 un') (.slice Av L0.length cv) (.int .i64 0) (.int .i64 0) (.int .i64 0)
          have zr := zero_R ST13.out.rv ST13.out.f2 ST13.out.f3 (.string (tkAt T (nameS T).j).f1) (.int .i64 bu') (.int .i64 un') (.slice Av L0.length cv) (.int .i64 0) (.int .i64 0) (.int .i64 0)
          exact ret16 rfl rfl rfl zf.1 rfl zf.2 rfl zb zr
end Go.Proofs.YtgcmgfljbadljaaGreatDoor.HandR
namespace Go.Proofs.YtgcmgfljbadljaaGreatDoor.HandS
set_option linter.unusedVariables false
open Go.RowKit Go.Shelf Go.Lib Go.Proofs.YtgcmgfljbadljaaGreatDoorW.PrintWords Go.Proofs.YtgcmgfljbadljaaGreatDoorW.PrintLast Go.Proofs.YtgcmgfljbadljaaGreatDoorW.PrintMore Go.Proofs.YtgcmgfljbadljaaGreatDoor.L Go.Proofs.YtgcmgfljbadljaaGreatDoor.HandS Go.Proofs.YtgcmgfljbadljaaGreatDoor.HandF Go.Proofs.YtgcmgfljbadljaaGreatDoor.HandR

theorem cardsS_mono (T : List S74) : ∀ (k : Nat) (L : List S42) (s : Rd), LeO (cardsS T k L s) (cardsS T (k + 1) L s) := by
  intro k
  induction k with
  | zero => intro L s; exact LeO.none _
  | succ k ih =>
    intro L s
    rw [cardsS, cardsS]
    refine LeO.ite ?_ ?_
    · refine LeO.ite ?_ (LeO.refl _)
      exact LeO.bind (LeO.refl _) (fun x => ih _ _)
    · exact LeO.refl _
def limits_Read.f (k : Nat) (a0 : ByteArray) : Option (ByteArray × Int × Int × (List (S42)) × Int × Int × Int) := readF k a0
theorem limits_Read.mono : ∀ a0 k, LeO (limits_Read.f k a0) (limits_Read.f (k + 1) a0) := by
  intro a0 k
  unfold limits_Read.f readF
  refine LeO.bind (scan_Tokens.mono _ _) (fun x => ?_)
  unfold readS
  refine LeO.ite (LeO.refl _) ?_
  refine LeO.ite (LeO.refl _) ?_
  refine LeO.bind (LeO.refl _) (fun h => ?_)
  exact LeO.bind (cardsS_mono _ _ _ _) (fun y => LeO.refl _)
theorem limits_Read.calls (k : Nat) (a0 : ByteArray) (r1 : ByteArray) (r2 : Int) (r3 : Int) (r4 : List (S42)) (r5 : Int) (r6 : Int) (r7 : Int) (w : World) (hG : Tabs w) (h : limits_Read.f k a0 = some (r1, r2, r3, r4, r5, r6, r7)) :
    Calls Tryz.prog 16 #[.string a0] w fun e w' => ∃ v3_ : Value, e = .returned (.tuple #[.agg #[.string r1, .int .i64 r2, .int .i64 r3, v3_], .agg #[.int .i64 r5, .int .i64 r6, .int .i64 r7]]) ∧ Kd.R k42 42 w' w.heap.size (fun _ => True) v3_ r4 ∧ Below w.heap.size w w' :=
  readF_calls k a0 r1 r2 r3 r4 r5 r6 r7 w hG h
end Go.Proofs.YtgcmgfljbadljaaGreatDoor.HandS
