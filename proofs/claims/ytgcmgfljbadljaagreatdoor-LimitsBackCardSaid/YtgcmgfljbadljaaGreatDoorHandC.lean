/-
  limits' reader: what is said of a card. Conditions: what the listed package variables hold.
-/
import Derived.Test.YtgcmgfljbadljaaGreatDoorHandN
import Derived.Deep.DeepCutAuto
import Derived.Deep.CutBlock
namespace Go.Proofs.YtgcmgfljbadljaaGreatDoor.HandR
set_option linter.unusedVariables false
set_option linter.unusedSimpArgs false
open Go.RowKit Go.Shelf Go.Lib Go.Proofs.YtgcmgfljbadljaaGreatDoorW.PrintWords Go.Proofs.YtgcmgfljbadljaaGreatDoorW.PrintLast Go.Proofs.YtgcmgfljbadljaaGreatDoorW.PrintMore Go.Proofs.YtgcmgfljbadljaaGreatDoor.L Go.Proofs.YtgcmgfljbadljaaGreatDoor.HandS Go.Proofs.YtgcmgfljbadljaaGreatDoor.HandF

def fullS (T : List S74) (L : List S42) (s : Rd) : Rd := if L.length = 64 then failS T 3 s else s
/-- 'limit' and its two numbers, or 'ban'. -/
def termsS (T : List S74) (s : Rd) : Option (Int × Int × Rd) :=
  if ((tkAt T s.j).f1.toList == [108, 105, 109, 105, 116]) = true then
    (numberS T 3 (takeS T 1 [] s)).bind fun m => (numberS T 100 m.2).bind fun c => some (m.1, c.1, c.2)
  else some (0, 0, takeS T 1 [] s)
def orderS (T : List S74) (L : List S42) (s : Rd) : Rd :=
  if ((tkAt T s.j).f0 == 1) = true then (if isAt L (tkAt T s.j).f1 (bsI L (tkAt T s.j).f1) = true then failS T 7 s else if bsI L (tkAt T s.j).f1 < L.length then failS T 9 s else s) else s
def cardS (T : List S74) (L : List S42) (s : Rd) : Option (S42 × Rd) :=
  (termsS T (fullS T L s)).bind fun x => some (⟨(tkAt T (orderS T L x.2.2).j).f1, x.1, x.2.1⟩, takeS T 1 [] (orderS T L x.2.2))
theorem fullS_on {T : List S74} {L : List S42} {s : Rd} (h : On T s) : On T (fullS T L s) := by
  unfold fullS
  split
  · exact failS_on 3 h
  · exact h
theorem termsS_on {T : List S74} {s s' : Rd} {m c : Int} (h : On T s) (hs : termsS T s = some (m, c, s')) : On T s' := by
  unfold termsS at hs
  split at hs
  · obtain ⟨x, h1, h2⟩ := Option.bind_eq_some_iff.mp hs
    obtain ⟨y, h3, h4⟩ := Option.bind_eq_some_iff.mp h2
    injection h4 with h4
    have h5 := numberS_on (takeS_on 1 [] h) h1
    have h6 := numberS_on h5 h3
    simp only [Prod.mk.injEq] at h4
    rw [← h4.2.2]
    exact h6
  · injection hs with hs
    simp only [Prod.mk.injEq] at hs
    rw [← hs.2.2]
    exact takeS_on 1 [] h
theorem orderS_on {T : List S74} {L : List S42} {s : Rd} (h : On T s) : On T (orderS T L s) := by
  unfold orderS
  split
  · split
    · exact failS_on 7 h
    · split
      · exact failS_on 9 h
      · exact h
  · exact h
theorem C42_grown {w W : World} {A : Option Addr} {n b : Nat} {xs : List S42} (h : Kd.C k42 w A n xs) (hf : ∀ ad, A = some ad → 0 < n → ad.block ≠ b) (hg : w.grownBy W (some b)) : Kd.C k42 W A n xs :=
  Kd.C_foot_ne (g := b) (fun hk => by obtain rfl := k42_open hk; exact k42_mk _ _) h hf W ⟨hg.size, fun i hi h1 _ => hg.block i hi (fun e => h1 (by injection e))⟩
/-- Two blocks of one's own, and the reader. -/
structure Own (W wc : World) (b : Nat) (o3 o4 ob : Obj) : Prop where
  g : W.grownBy wc (some b)
  f3 : wc.heap[W.heap.size]? = some o3
  f4 : wc.heap[W.heap.size + 1]? = some o4
  fb : wc.heap[b]? = some ob
theorem Own.call {W wc w' : World} {b : Nat} {o3 o4 ob ob' : Obj} (h : Own W wc b o3 o4 ob) (hlt : b < W.heap.size) (hg : wc.grownBy w' (some b)) (hb : w'.heap[b]? = some ob') : Own W w' b o3 o4 ob' :=
  ⟨h.g.trans hg, blk_grown h.f3 hg (fun e => by injection e with e; omega), blk_grown h.f4 hg (fun e => by injection e with e; omega), hb⟩
theorem cells3 {w : World} {g T : Nat} {v0 v1 v2 : Value} (h : w.heap[g]? = some (.cells #[v0, v1, v2] T (0, 0))) :
    (w.cell? ⟨g, 0, none⟩ = some v0 ∧ w.cell? ⟨g, 1, none⟩ = some v1 ∧ w.cell? ⟨g, 2, none⟩ = some v2) ∧ (w.frozen? ⟨g, 0, none⟩ = false ∧ w.frozen? ⟨g, 1, none⟩ = false ∧ w.frozen? ⟨g, 2, none⟩ = false) :=
  ⟨⟨(blk_cell h 0).trans rfl, (blk_cell h 1).trans rfl, (blk_cell h 2).trans rfl⟩, ⟨blk_frozen h 0, blk_frozen h 1, blk_frozen h 2⟩⟩
theorem field74_1 (a : Int) (x : ByteArray) (c d : Int) (w : World) : Sem.run Tryz.prog (Instr.field 74 (.agg #[.int .u8 a, .string x, .int .i64 c, .int .i64 d]) 1) w = Result.ok (.string x) w := by kernel_rfl
abbrev fmtO (nm : ByteArray) (bu un : Int) (A0 : Option Addr) (n c0 : Nat) : Obj := .cells #[.string nm, .int .i64 bu, .int .i64 un, .slice A0 n c0] 24 (0, 0)
abbrev limO (nm : ByteArray) (m c : Int) : Obj := .cells #[.string nm, .int .i64 m, .int .i64 c] 42 (0, 0)
theorem Own.alloc {W wc : World} {b : Nat} {o3 o4 ob : Obj} (h : Own W wc b o3 o4 ob) (o : Obj) : Own W (wc.alloc o) b o3 o4 ob :=
  ⟨h.g.trans (World.grownBy_alloc wc o (some b)), blk_alloc h.f3 o, blk_alloc h.f4 o, blk_alloc h.fb o⟩
theorem Own.below {W wc w' : World} {b : Nat} {o3 o4 ob : Obj} (h : Own W wc b o3 o4 ob) (hb : Below wc.heap.size wc w') : Own W w' b o3 o4 ob :=
  ⟨h.g.trans (grown_of_below hb (some b)), blk_below h.f3 hb, blk_below h.f4 hb, blk_below h.fb hb⟩
theorem Own.put0 {W wc : World} {b : Nat} {nm : ByteArray} {bu un : Int} {A0 : Option Addr} {n c0 : Nat} {x : ByteArray} {m c : Int} {cs : Array Value} {t : Nat} (h : Own W wc b (fmtO nm bu un A0 n c0) (limO x m c) (.cells cs t (0, 0))) (hlt : b < W.heap.size) (y : ByteArray) :
    Own W (wc.setCell ⟨W.heap.size + 1, 0, none⟩ (.string y)) b (fmtO nm bu un A0 n c0) (limO y m c) (.cells cs t (0, 0)) :=
  ⟨grown_far h.g (by show W.heap.size ≤ W.heap.size + 1; omega) _, blk_far h.f3 (by show W.heap.size ≠ W.heap.size + 1; omega) _, blk_put h.f4 0 _ rfl, blk_far h.fb (by show b ≠ W.heap.size + 1; omega) _⟩
theorem Own.put1 {W wc : World} {b : Nat} {nm : ByteArray} {bu un : Int} {A0 : Option Addr} {n c0 : Nat} {x : ByteArray} {m c : Int} {cs : Array Value} {t : Nat} (h : Own W wc b (fmtO nm bu un A0 n c0) (limO x m c) (.cells cs t (0, 0))) (hlt : b < W.heap.size) (y : Int) :
    Own W (wc.setCell ⟨W.heap.size + 1, 1, none⟩ (.int .i64 y)) b (fmtO nm bu un A0 n c0) (limO x y c) (.cells cs t (0, 0)) :=
  ⟨grown_far h.g (by show W.heap.size ≤ W.heap.size + 1; omega) _, blk_far h.f3 (by show W.heap.size ≠ W.heap.size + 1; omega) _, blk_put h.f4 1 _ rfl, blk_far h.fb (by show b ≠ W.heap.size + 1; omega) _⟩
theorem Own.put2 {W wc : World} {b : Nat} {nm : ByteArray} {bu un : Int} {A0 : Option Addr} {n c0 : Nat} {x : ByteArray} {m c : Int} {cs : Array Value} {t : Nat} (h : Own W wc b (fmtO nm bu un A0 n c0) (limO x m c) (.cells cs t (0, 0))) (hlt : b < W.heap.size) (y : Int) :
    Own W (wc.setCell ⟨W.heap.size + 1, 2, none⟩ (.int .i64 y)) b (fmtO nm bu un A0 n c0) (limO x m y) (.cells cs t (0, 0)) :=
  ⟨grown_far h.g (by show W.heap.size ≤ W.heap.size + 1; omega) _, blk_far h.f3 (by show W.heap.size ≠ W.heap.size + 1; omega) _, blk_put h.f4 2 _ rfl, blk_far h.fb (by show b ≠ W.heap.size + 1; omega) _⟩
set_option maxHeartbeats 4000000 in
set_option maxRecDepth 100000 in
theorem card_ (T : List S74) (b B c : Nat) (hc : T.length ≤ c) (hcm : c ≤ 9223372036854775807) (hne : B ≠ b) (w0 W : World) (hw0 : Below w0.heap.size w0 W) (hb0 : w0.heap.size ≤ b) (hG : Tabs w0)
    (s s' : Rd) (ho : On T s) (ht : Tks W B T) (hb : W.heap[b]? = some (rdB B T.length c s)) (nm : ByteArray) (bu un : Int) (A0 : Option Addr) (c0 : Nat) (L : List S42) (hL : Kd.C k42 W A0 L.length L) (hLc : L.length ≤ c0) (hA : ∀ ad, A0 = some ad → 0 < L.length → ad.block ≠ b) (hLm : L.length < 2305843009213693952)
    (x : S42) (h : cardS T L s = some (x, s')) :
    Calls Tryz.prog 36 #[.pointer (some ⟨b, 0, none⟩), .agg #[.string nm, .int .i64 bu, .int .i64 un, .slice A0 L.length c0]] W fun en w' => en = .returned (.agg #[.string x.f0, .int .i64 x.f1, .int .i64 x.f2]) ∧ W.grownBy w' (some b) ∧ w'.heap[b]? = some (rdB B T.length c s') := by
  unfold cardS at h
  obtain ⟨⟨m, cc, s3⟩, hT, h2⟩ := Option.bind_eq_some_iff.mp h
  injection h2 with h2
  obtain ⟨rfl, rfl⟩ := Prod.mk.inj h2
  clear h h2
  have hblt := blk_lt hb
  have o1 := fullS_on (L := L) ho
  have o3 := termsS_on o1 hT
  have o4 := orderS_on (L := L) o3
  have hbel : ∀ W', W.grownBy W' (some b) → Below w0.heap.size w0 W' := fun W' hg => pw_below_grown hw0 (some b) hw0.size hg (fun k e => by injection e with e; omega)
  have hF : ∀ (y : Int) (s : Rd) W', On T s → W.grownBy W' (some b) → W'.heap[b]? = some (rdB B T.length c s) → Calls Tryz.prog 62 #[.pointer (some ⟨b, 0, none⟩), .int .i64 y] W' fun en w' => en = .returned (.tuple #[]) ∧ W'.grownBy w' (some b) ∧ w'.heap[b]? = some (rdB B T.length c (failS T y s)) :=
    fun y s W' o hg hb2 => fail_ T b B c hc hcm hne s y W' o (ht.grown hg hne) hb2
  have hTk : ∀ (s : Rd) W', On T s → W.grownBy W' (some b) → W'.heap[b]? = some (rdB B T.length c s) → Calls Tryz.prog 33 #[.pointer (some ⟨b, 0, none⟩), .int .u8 1, .slice none 0 0] W' fun en w' => en = .returned (.agg #[.int .u8 (tkAt T s.j).f0, .string (tkAt T s.j).f1, .int .i64 (tkAt T s.j).f2.f0, .int .i64 (tkAt T s.j).f2.f1]) ∧ W'.grownBy w' (some b) ∧ w'.heap[b]? = some (rdB B T.length c (takeS T 1 [] s)) :=
    fun s W' o hg hb2 => take_ T b B c hc hcm hne s 1 none 0 [] W' o (ht.grown hg hne) hb2 (Txs.none_ W')
  have hN : ∀ (most v : Int) (s s' : Rd) W', On T s → W.grownBy W' (some b) → W'.heap[b]? = some (rdB B T.length c s) → numberS T most s = some (v, s') → Calls Tryz.prog 34 #[.pointer (some ⟨b, 0, none⟩), .int .i64 most] W' fun en w' => en = .returned (.int .i64 v) ∧ W'.grownBy w' (some b) ∧ w'.heap[b]? = some (rdB B T.length c s') :=
    fun most v s s' W' o hg hb2 hn => number_ T b B c hc hcm hne s s' most v W' (hG.below (hbel W' hg)) o (ht.grown hg hne) hb2 hn
  have hFd : ∀ (y : ByteArray) W', W.grownBy W' (some b) → Calls Tryz.prog 52 #[.agg #[.string nm, .int .i64 bu, .int .i64 un, .slice A0 L.length c0], .string y] W' fun en w' => en = .returned (.tuple #[.int .i64 (bsI L y : Nat), .bool (isAt L y (bsI L y))]) ∧ Below W'.heap.size W' w' :=
    fun y W' hg => limits_find.calls nm bu un A0 c0 L y _ _ W' (C42_grown hL hA hg) hLc (by unfold limits_find.f; rw [if_pos hLm])
  have hTkc : ∀ (s : Rd) W', On T s → W.grownBy W' (some b) → Tk W' B (4 * s.j) (tkAt T s.j) := fun s W' o hg => (ht.grown hg hne) _ o.lt
  have HB := Aside0.mk hb
  have HF := Aside0.mk hF
  have HT := Aside0.mk hTk
  have HN := Aside0.mk hN
  have HFD := Aside0.mk hFd
  have HTK := Aside0.mk hTkc
  have HTm := Aside0.mk hT
  have O0 := Aside0.mk ho
  have O1 := Aside0.mk o1
  have O3 := Aside0.mk o3
  have O4 := Aside0.mk o4
  clear hb hF hTk hN hFd hTkc hT ho o1 o3 o4 hL ht hG hbel hw0 hA
  have hu72 := Tryz.underlying72
  have hu52 := Tryz.underlying52
  have hu74 := Tryz.underlying74
  have hu24 := Tryz.underlying24
  have hu42 := Tryz.underlying42
  go_enter Tryz.func36, Tryz.ntmps36
  have own0 : Own W ((W.alloc (fmtO nm bu un A0 L.length c0)).alloc (limO ⟨#[]⟩ 0 0)) b (fmtO nm bu un A0 L.length c0) (limO ⟨#[]⟩ 0 0) (rdB B T.length c s) :=
    ⟨grown_of_below (grown_below_ W _ _) (some b), new_grown1 hblt ⟨rfl, rfl, rfl, Nat.le_refl _, fun _ _ _ => rfl⟩, new_grown2 hblt ⟨rfl, rfl, rfl, Nat.le_refl _, fun _ _ _ => rfl⟩, ((grown_below_ W _ _).block b hblt).trans HB.out⟩
  have OWN0 := Aside0.mk own0
  clear own0
  go_upto_if 11 with (fail)
  go_cut [] from 8 (fun wc => Aside0 (Own W wc b (fmtO nm bu un A0 L.length c0) (limO ⟨#[]⟩ 0 0) (rdB B T.length c (fullS T L s))))
  case first =>
    by_cases h64 : L.length = 64
    · have hd : ((L.length : Int) == 64) = true := by rw [h64]; rfl
      have H64 := Aside0.mk h64
      clear h64
      go_wp2_with fail
      refine (HF.out 3 s _ O0.out OWN0.out.g OWN0.out.fb).mono ?_
      rintro en w2 ⟨rfl, hg2', hb2'⟩
      have OWN1 := Aside0.mk (OWN0.out.call hblt hg2' hb2')
      clear hg2' hb2'
      go_wp2_with fail
      go_meet
      case rel => exact ⟨by unfold fullS; rw [if_pos H64.out]; exact OWN1.out⟩
    · have hd : ((L.length : Int) == 64) = false := beq_eq_false_iff_ne.2 (by omega)
      have H64 := Aside0.mk h64
      clear h64
      go_wp2_with fail
      go_meet
      case rel => exact ⟨by unfold fullS; rw [if_neg H64.out]; exact OWN0.out⟩
  case rest =>
    obtain ⟨own1⟩ := hcut
    have OWN1 := Aside0.mk own1
    clear own1 OWN0 HB
    go_wp2_with fail
    refine (HT.out _ _ O1.out OWN1.out.g OWN1.out.fb).mono ?_
    rintro en w2 ⟨rfl, hg2', hb2'⟩
    have OWN2 := Aside0.mk (OWN1.out.call hblt hg2' hb2')
    clear hg2' hb2' OWN1
    go_upto_if 17 with (fail)
    rw [field74_1]
    go_upto_if 17 with (fail)
    go_cut [] from 8 (fun wc => Aside0 (Own W wc b (fmtO nm bu un A0 L.length c0) (limO ⟨#[]⟩ m cc) (rdB B T.length c s3)))
    case first =>
      have ht := HTm.out
      unfold termsS at ht
      cases hk : ((tkAt T (fullS T L s).j).f1.toList == [108, 105, 109, 105, 116]) with
      | true =>
        rw [if_pos hk] at ht
        obtain ⟨⟨m1, s1⟩, h1, h2⟩ := Option.bind_eq_some_iff.mp ht
        obtain ⟨⟨c1, s2⟩, h3, h4⟩ := Option.bind_eq_some_iff.mp h2
        injection h4 with h4
        obtain ⟨rfl, h5⟩ := Prod.mk.inj h4
        obtain ⟨rfl, rfl⟩ := Prod.mk.inj h5
        have N1 := Aside0.mk h1
        have N2 := Aside0.mk h3
        clear h1 h2 h3 h4 h5 ht
        have P1 := Aside0.mk (takeS_on 1 [] O1.out)
        have P2 := Aside0.mk (numberS_on P1.out N1.out)
        go_wp2_with fail
        refine (HN.out 3 _ _ _ _ P1.out OWN2.out.g OWN2.out.fb N1.out).mono ?_
        rintro en w3 ⟨rfl, hg2', hb2'⟩
        have own3 := OWN2.out.call hblt hg2' hb2'
        have OWN3 := Aside0.mk own3
        clear hg2' hb2' OWN2
        obtain ⟨⟨x0, x1, x2⟩, y0, y1, y2⟩ := cells3 own3.f4
        clear own3
        go_wp2_with fail
        have OWN4 := Aside0.mk (OWN3.out.put1 hblt m1)
        clear OWN3 x0 x1 x2 y0 y1 y2
        refine (HN.out 100 _ _ _ _ P2.out OWN4.out.g OWN4.out.fb N2.out).mono ?_
        rintro en w5 ⟨rfl, hg2', hb2'⟩
        have own3 := OWN4.out.call hblt hg2' hb2'
        have OWN3 := Aside0.mk own3
        clear hg2' hb2' OWN4
        obtain ⟨⟨x0, x1, x2⟩, y0, y1, y2⟩ := cells3 own3.f4
        clear own3
        go_wp2_with fail
        go_meet
        case rel => exact ⟨OWN3.out.put2 hblt c1⟩
      | false =>
        rw [if_neg (by rw [hk]; decide)] at ht
        injection ht with ht
        obtain ⟨rfl, h5⟩ := Prod.mk.inj ht
        obtain ⟨rfl, rfl⟩ := Prod.mk.inj h5
        clear h5 ht
        go_wp2_with fail
        go_meet
        case rel => exact ⟨OWN2.out⟩
    case rest =>
      obtain ⟨own3⟩ := hcut
      have OWN3 := Aside0.mk own3
      clear own3 OWN2
      have hcell := OWN3.out.fb
      unfold rdB rdr at hcell
      obtain ⟨⟨d0, d1, d2, d3⟩, gb⟩ := cells4 hcell
      clear hcell
      have hn : 0 < T.length - s3.j := by have := O3.out.lt; omega
      obtain ⟨t0, t1, t2, t3⟩ := HTK.out _ _ O3.out OWN3.out.g
      go_upto_if 32 with (fail)
      have OWN4 := Aside0.mk (OWN3.out.alloc (.cells #[.int .u8 (tkAt T s3.j).f0, .string (tkAt T s3.j).f1, .int .i64 (tkAt T s3.j).f2.f0, .int .i64 (tkAt T s3.j).f2.f1] 74 (0, 0)))
      clear OWN3 d0 d1 d2 d3 gb t0 t1 t2 t3
      go_cut [] from 8 (fun wc => Aside0 (Own W wc b (fmtO nm bu un A0 L.length c0) (limO ⟨#[]⟩ m cc) (rdB B T.length c (orderS T L s3))))
      case first =>
        cases hk : ((tkAt T s3.j).f0 == 1) with
        | true =>
          have hf3 := OWN4.out.f3
          obtain ⟨⟨d0, d1, d2, d3⟩, gb⟩ := cells4 hf3
          clear hf3
          have HK := Aside0.mk hk
          clear hk
          go_wp2_with fail
          refine (HFD.out _ _ OWN4.out.g).mono ?_
          rintro en w5 ⟨rfl, hb5⟩
          have own5 := OWN4.out.below hb5
          have OWN5 := Aside0.mk own5
          clear OWN4 hb5 d0 d1 d2 d3 gb
          have hf3 := own5.f3
          clear own5
          obtain ⟨⟨d0, d1, d2, d3⟩, gb⟩ := cells4 hf3
          clear hf3
          cases hi : isAt L (tkAt T s3.j).f1 (bsI L (tkAt T s3.j).f1) with
          | true =>
            have HI := Aside0.mk hi
            clear hi
            go_wp2_with fail
            refine (HF.out 7 _ _ O3.out OWN5.out.g OWN5.out.fb).mono ?_
            rintro en w6 ⟨rfl, hg2', hb2'⟩
            have OWN6 := Aside0.mk (OWN5.out.call hblt hg2' hb2')
            clear hg2' hb2' OWN5
            go_wp2_with fail
            go_meet
            case rel => exact ⟨by unfold orderS; rw [if_pos HK.out, if_pos HI.out]; exact OWN6.out⟩
          | false =>
            have HI := Aside0.mk hi
            clear hi
            by_cases hl : bsI L (tkAt T s3.j).f1 < L.length
            · have hl' : decide (bsI L (tkAt T s3.j).f1 < L.length) = true := decide_eq_true hl
              have HL := Aside0.mk hl
              clear hl
              go_wp2_with fail
              refine (HF.out 9 _ _ O3.out OWN5.out.g OWN5.out.fb).mono ?_
              rintro en w6 ⟨rfl, hg2', hb2'⟩
              have OWN6 := Aside0.mk (OWN5.out.call hblt hg2' hb2')
              clear hg2' hb2' OWN5
              go_wp2_with fail
              go_meet
              case rel => exact ⟨by unfold orderS; rw [if_pos HK.out, if_neg (by rw [HI.out]; decide), if_pos HL.out]; exact OWN6.out⟩
            · have hl' : decide (bsI L (tkAt T s3.j).f1 < L.length) = false := decide_eq_false hl
              have HL := Aside0.mk hl
              clear hl
              go_wp2_with fail
              go_meet
              case rel => exact ⟨by unfold orderS; rw [if_pos HK.out, if_neg (by rw [HI.out]; decide), if_neg HL.out]; exact OWN5.out⟩
        | false =>
          have HK := Aside0.mk hk
          go_wp2_with fail
          go_meet
          case rel => exact ⟨by unfold orderS; rw [if_neg (by rw [HK.out]; decide)]; exact OWN4.out⟩
      case rest =>
        obtain ⟨own5⟩ := hcut
        have OWN5 := Aside0.mk own5
        clear own5 OWN4
        go_wp2_with fail
        refine (HT.out _ _ O4.out OWN5.out.g OWN5.out.fb).mono ?_
        rintro en w6 ⟨rfl, hg2', hb2'⟩
        have own6 := OWN5.out.call hblt hg2' hb2'
        have OWN6 := Aside0.mk own6
        clear hg2' hb2' OWN5
        obtain ⟨⟨x0, x1, x2⟩, y0, y1, y2⟩ := cells3 own6.f4
        clear own6
        go_wp2_with fail
        rw [field74_1]
        go_wp2_with fail
        have own7 := (((OWN6.out.put0 hblt (tkAt T (orderS T L s3).j).f1).put0 hblt (tkAt T (orderS T L s3).j).f1).put1 hblt m).put2 hblt cc
        exact bodyPost_ret (results_cell_row rfl _ _ (W.heap.size + 1) 42 #[.string (tkAt T (orderS T L s3).j).f1, .int .i64 m, .int .i64 cc] (0, 0) _ rfl own7.f4 Tryz.underlying42 rfl (by kernel_rfl)) rfl ⟨rfl, own7.g, own7.fb⟩
end Go.Proofs.YtgcmgfljbadljaaGreatDoor.HandR
