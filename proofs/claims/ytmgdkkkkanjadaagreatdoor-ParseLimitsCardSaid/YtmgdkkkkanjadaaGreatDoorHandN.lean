/-
  parse's all: the same at cards. Conditions: what the listed package variables hold.
-/
import Derived.Test.YtmgdkkkkanjadaaGreatDoorHandM
namespace Go.Proofs.YtmgdkkkkanjadaaGreatDoor.HandN
set_option linter.unusedVariables false
set_option linter.unusedSimpArgs false
open Go.RowKit Go.Shelf Go.Lib Go.Proofs.YtmgdkkkkanjadaaGreatDoorW.PrintWords Go.Proofs.YtmgdkkkkanjadaaGreatDoorW.PrintLast Go.Proofs.YtmgdkkkkanjadaaGreatDoorW.PrintMore Go.Proofs.YtmgdkkkkanjadaaGreatDoor.X Go.Proofs.YtmgdkkkkanjadaaGreatDoor.HandS Go.Proofs.YtmgdkkkkanjadaaGreatDoor.HandA Go.Proofs.YtmgdkkkkanjadaaGreatDoor.HandB Go.Proofs.YtmgdkkkkanjadaaGreatDoor.HandC Go.Proofs.YtmgdkkkkanjadaaGreatDoor.HandD Go.Proofs.YtmgdkkkkanjadaaGreatDoor.HandE Go.Proofs.YtmgdkkkkanjadaaGreatDoor.HandF Go.Proofs.YtmgdkkkkanjadaaGreatDoor.HandG Go.Proofs.YtmgdkkkkanjadaaGreatDoor.HandH Go.Proofs.YtmgdkkkkanjadaaGreatDoor.HandI Go.Proofs.YtmgdkkkkanjadaaGreatDoor.HandJ Go.Proofs.YtmgdkkkkanjadaaGreatDoor.HandK Go.Proofs.YtmgdkkkkanjadaaGreatDoor.HandL Go.Proofs.YtmgdkkkkanjadaaGreatDoor.HandM

def cardIs (T : List S69) (j : Nat) : Bool := decide (0 ≤ amongS T wKinds j)
theorem start13 (f g : FuncId) (W w1 : World) (hb : Below ((((W.alloc (.cells #[.func (.func f) #[] #[]] 57)).alloc (.cells #[.func (.func g) #[] #[]] 58)).alloc (.cells #[.slice none 0 0] 23)).alloc (.cells #[.int .i64 0, .int .i64 0, .int .i64 0] 28)).heap.size
      ((((W.alloc (.cells #[.func (.func f) #[] #[]] 57)).alloc (.cells #[.func (.func g) #[] #[]] 58)).alloc (.cells #[.slice none 0 0] 23)).alloc (.cells #[.int .i64 0, .int .i64 0, .int .i64 0] 28)) w1) :
    w1.heap[W.heap.size]? = some (.cells #[.func (.func f) #[] #[]] 57 (0, 0)) ∧ w1.heap[W.heap.size + 1]? = some (.cells #[.func (.func g) #[] #[]] 58 (0, 0)) ∧ w1.heap[W.heap.size + 1 + 1]? = some (.cells #[.slice none 0 0] 23 (0, 0)) ∧
      w1.heap[W.heap.size + 1 + 1 + 1]? = some (.cells #[.int .i64 0, .int .i64 0, .int .i64 0] 28 (0, 0)) ∧ Below W.heap.size W w1 ∧ W.heap.size + 4 ≤ w1.heap.size := by
  have h1 := blk_new W (.cells #[.func (.func f) #[] #[]] 57)
  have h2 := blk_new (W.alloc (.cells #[.func (.func f) #[] #[]] 57)) (.cells #[.func (.func g) #[] #[]] 58)
  have h3 := blk_new ((W.alloc (.cells #[.func (.func f) #[] #[]] 57)).alloc (.cells #[.func (.func g) #[] #[]] 58)) (.cells #[.slice none 0 0] 23)
  have h4 := blk_new (((W.alloc (.cells #[.func (.func f) #[] #[]] 57)).alloc (.cells #[.func (.func g) #[] #[]] 58)).alloc (.cells #[.slice none 0 0] 23)) (.cells #[.int .i64 0, .int .i64 0, .int .i64 0] 28)
  simp only [size_alloc] at h2 h3 h4
  refine ⟨blk_below (blk_alloc (blk_alloc (blk_alloc h1 _) _) _) hb, blk_below (blk_alloc (blk_alloc h2 _) _) hb, blk_below (blk_alloc h3 _) hb, blk_below h4 hb, below_step (below_alloc (below_alloc (below_alloc (below_alloc (Below.refl _ _) _) _) _) _) hb, ?_⟩
  have := hb.size
  simp only [size_alloc] at this
  omega
set_option maxHeartbeats 4000000 in
set_option maxRecDepth 100000 in
theorem all13 (k : Nat) (s : ByteArray) (T : List S69) (hs : scan_Tokens.f k s = some (T, 0, 0, 0)) (hT : 0 < T.length) (W : World) (hG : Tabs W) {r : List S38 × Int × Int × Int} (hr : allF cardIs cardS 64 T = some r) :
    Calls Tryz.prog 13 #[.string s, .int .i64 64, .func (.func 14) #[] #[], .func (.func 17) #[] #[]] W fun e w' => ∃ v0 : Value, e = .returned (.tuple #[v0, .agg #[.int .i64 r.2.1, .int .i64 r.2.2.1, .int .i64 r.2.2.2]]) ∧ Kd.R k38 38 w' W.heap.size (fun _ => True) v0 r.1 ∧ Below W.heap.size W w' := by
  have hmf : ∀ (fn : Fn) (first cap : Array Value) (w : World), (Instr.makeFunc fn first cap).run Tryz.prog w = .ok (.func fn first cap) w := fun _ _ _ _ => rfl
  have hu71 := Tryz.underlying71
  have hu69 := Tryz.underlying69
  have HG := Aside0.mk hG
  have HS := Aside0.mk hs
  have HT := Aside0.mk hT
  obtain ⟨o, ho, hor⟩ := allF_cases hr
  have HRR := Aside0.mk ho
  have HOR := Aside0.mk hor
  clear hG hs hT hr ho hor
  go_enter_defers Tryz.func13, Tryz.ntmps13
  go_wp2_with (first
    | (go_at_call 31; refine (scan_Tokens.calls k s T 0 0 0 _ (HG.out.below (below_alloc (below_alloc (below_alloc (below_alloc (Below.refl _ _) _) _) _) _)) HS.out).mono ?_; rintro e w1 ⟨v0, rfl, hR, hb⟩; obtain ⟨k6, k7, k8, k9, hB, hgs⟩ := start13 14 17 W w1 hb; obtain ⟨B, c, rfl, hB1, hB2, hc1, hc2, htk⟩ := toks hR HT.out;
       have HB := Aside0.mk hB; have K6 := Aside0.mk k6; have K7 := Aside0.mk k7; have K8 := Aside0.mk k8; have K9 := Aside0.mk k9; have HC1 := Aside0.mk hc1; have HC2 := Aside0.mk hc2; have HB2 := Aside0.mk hB2; have HTK := Aside0.mk htk; have HGS := Aside0.mk hgs; simp only [size_alloc] at hB1; have HB1 := Aside0.mk hB1;
       have c0 := blk_cell k9 0; have c1 := blk_cell k9 1; have c2 := blk_cell k9 2; have f0 := blk_frozen k9 0; have f1 := blk_frozen k9 1; have f2 := blk_frozen k9 2; have s0 := setCell_same (v := .int .i64 0) (c0.trans rfl); have s1 := setCell_same (v := .int .i64 0) (c1.trans rfl); have s2 := setCell_same (v := .int .i64 0) (c2.trans rfl); clear hb hB k6 k7 k8 k9 hgs hR hB1 hB2 hc1 hc2 htk))
  have hx := all_start T B c w1 HT.out HC1.out HC2.out HB2.out HTK.out
  have hgs := HGS.out
  have r6 := blk_alloc (blk_alloc K6.out (.cells #[.slice (some ⟨B, 0, none⟩) T.length c] 71)) (.cells #[.pointer (some ⟨w1.heap.size, 0, none⟩)] 54)
  have r7 := blk_alloc (blk_alloc K7.out (.cells #[.slice (some ⟨B, 0, none⟩) T.length c] 71)) (.cells #[.pointer (some ⟨w1.heap.size, 0, none⟩)] 54)
  have r8 := blk_alloc (blk_alloc K8.out (.cells #[.slice (some ⟨B, 0, none⟩) T.length c] 71)) (.cells #[.pointer (some ⟨w1.heap.size, 0, none⟩)] 54)
  have r9 := blk_alloc (blk_alloc K9.out (.cells #[.slice (some ⟨B, 0, none⟩) T.length c] 71)) (.cells #[.pointer (some ⟨w1.heap.size, 0, none⟩)] 54)
  have rq := blk_new (w1.alloc (.cells #[.slice (some ⟨B, 0, none⟩) T.length c] 71)) (.cells #[.pointer (some ⟨w1.heap.size, 0, none⟩)] 54)
  rw [size_alloc] at rq
  have hGW : Tabs w1 := HG.out.below HB.out
  have hbW := below_step HB.out (below_alloc (below_alloc (Below.refl w1.heap.size w1) (.cells #[.slice (some ⟨B, 0, none⟩) T.length c] 71)) (.cells #[.pointer (some ⟨w1.heap.size, 0, none⟩)] 54))
  generalize hW2 : ((w1.alloc (.cells #[.slice (some ⟨B, 0, none⟩) T.length c] 71)).alloc (.cells #[.pointer (some ⟨w1.heap.size, 0, none⟩)] 54)) = W2 at *
  refine (list33a ⟨T, B, c, w1.heap.size, w1⟩ W2 0 64 (by decide) W.heap.size (W.heap.size + 1) (w1.heap.size + 1) (cardIs T) (cardS T) (fun wr jj hg hr => c34 _ _ _ wr jj hr ((blk_cell (own_grown r6 hg (by show W.heap.size ≠ w1.heap.size; omega)) 0).trans rfl) ((blk_cell (own_grown rq hg (by show w1.heap.size + 1 ≠ w1.heap.size; omega)) 0).trans rfl))
    (fun wr jj oo hg hr ho => c35 _ hGW _ _ wr jj hr ((blk_cell (own_grown r7 hg (by show W.heap.size + 1 ≠ w1.heap.size; omega)) 0).trans rfl) ((blk_cell (own_grown rq hg (by show w1.heap.size + 1 ≠ w1.heap.size; omega)) 0).trans rfl) ho) hx HRR.out).mono ?_
  intro e w2 hp
  cases o with
  | bad ek j =>
    obtain ⟨rfl, hr2, hg2⟩ := hp
    have hor := HOR.out
    rw [allO] at hor
    injection hor with hor
    subst hor
    have k8 := own_grown r8 hg2 (by show W.heap.size + 1 + 1 ≠ w1.heap.size; omega)
    have k9 := own_grown r9 hg2 (by show W.heap.size + 1 + 1 + 1 ≠ w1.heap.size; omega)
    have hb2 := pw_below_grown hbW (some w1.heap.size) hbW.size hg2 (fun k e => by cases e; omega)
    refine leaves_cons (f := 32) (args := #[.pointer (some ⟨W.heap.size + 1 + 1, 0, none⟩), .pointer (some ⟨W.heap.size + 1 + 1 + 1, 0, none⟩)]) (by simp) (by simp [go_sem]) ?_
    refine (end32p (W.heap.size + 1 + 1) (W.heap.size + 1 + 1 + 1) ek _ _ (.slice none 0 0) 0 0 0 w2 (by omega) k8 k9 ⟨_, _, _, rfl⟩).mono ?_
    rintro e u' w3 ⟨rfl, rfl, hl, hf, h1, h2, h3, h4, h5⟩
    have q0 := (blk_cell hl 0)
    have q1 := (blk_cell hf 0)
    have q2 := (blk_cell hf 1)
    have q3 := (blk_cell hf 2)
    simp [Leaves, settle, results, Tryz.results13, go_sem, q0, q1, q2, q3]
    exact ⟨Kd.R_nil _ _ _ _ _, h1.trans hb2.os, h2.trans hb2.tape, h3.trans hb2.output, Nat.le_trans hb2.size h4, fun i hi => (h5 i (Nat.lt_of_lt_of_le hi hb2.size) (by omega) (by omega)).trans (hb2.block i hi)⟩
  | ok xs j =>
    obtain ⟨v, rfl, hL, hr2, hg2⟩ := hp
    obtain ⟨A, c', rfl⟩ := Kd.R_slice hL
    have hb2 := pw_below_grown hbW (some w1.heap.size) hbW.size hg2 (fun k e => by cases e; omega)
    have k8 := own_grown r8 hg2 (by show W.heap.size + 1 + 1 ≠ w1.heap.size; omega)
    have k9 := own_grown r9 hg2 (by show W.heap.size + 1 + 1 + 1 ≠ w1.heap.size; omega)
    have kq := own_grown rq hg2 (by show w1.heap.size + 1 ≠ w1.heap.size; omega)
    have d0 := blk_cell k8 0
    have e0 := blk_frozen k8 0
    have hgs3 := grown_set w2 (W.heap.size + 1 + 1) 0 (.slice A xs.length c')
    have j8 := blk_put k8 0 (.slice A xs.length c') (cs' := #[.slice A xs.length c']) rfl
    have j9 := own_grown k9 hgs3 (by omega)
    have jq := own_grown kq hgs3 (by omega)
    have hb3 := pw_below_grown hb2 (some (W.heap.size + 1 + 1)) hb2.size hgs3 (fun k e => by cases e; omega)
    have hB1 : W.heap.size + 1 + 1 + 1 + 1 ≤ B := HB1.out
    have hr3 : Rd ⟨T, B, c, w1.heap.size, W⟩ (w2.setCell ⟨W.heap.size + 1 + 1, 0, none⟩ (.slice A xs.length c')) j := ⟨hr2.lt, own_grown hr2.row hgs3 (by show w1.heap.size ≠ W.heap.size + 1 + 1; omega), fun i hi => (hr2.tk i hi).grown hgs3 (by show B ≠ W.heap.size + 1 + 1; omega), hr2.hc, hr2.hm, hr2.ne, hb3, by show W.heap.size ≤ w1.heap.size; omega⟩
    have HR3 := Aside0.mk hr3
    have hlt := hx.rlt
    have hlr := R_keepG hL hgs3 (by have h9 : w1.heap.size < W2.heap.size := hlt; omega)
    have HLR := Aside0.mk (Kd.R_lower hlr (Nat.le_trans (by show W.heap.size ≤ w1.heap.size; omega) (Nat.le_of_lt hlt)))
    have HW2 := Aside0.mk hbW
    have J8 := Aside0.mk j8
    have J9 := Aside0.mk j9
    have HB3 := Aside0.mk hb3
    have p0 := blk_cell jq 0
    have q8 := blk_cell j8 0
    have g8 := blk_frozen j8 0
    have q0 := blk_cell j9 0
    have q1 := blk_cell j9 1
    have q2 := blk_cell j9 2
    have g0 := blk_frozen j9 0
    have g1 := blk_frozen j9 1
    have g2 := blk_frozen j9 2
    have s8 : (w2.setCell ⟨W.heap.size + 1 + 1, 0, none⟩ (.slice A xs.length c')).setCell ⟨W.heap.size + 1 + 1, 0, none⟩ (.slice A xs.length c') = (w2.setCell ⟨W.heap.size + 1 + 1, 0, none⟩ (.slice A xs.length c')) := setCell_same (q8.trans rfl)
    have u0 : (w2.setCell ⟨W.heap.size + 1 + 1, 0, none⟩ (.slice A xs.length c')).setCell ⟨W.heap.size + 1 + 1 + 1, 0, none⟩ (.int .i64 0) = (w2.setCell ⟨W.heap.size + 1 + 1, 0, none⟩ (.slice A xs.length c')) := setCell_same (q0.trans rfl)
    have u1 : (w2.setCell ⟨W.heap.size + 1 + 1, 0, none⟩ (.slice A xs.length c')).setCell ⟨W.heap.size + 1 + 1 + 1, 1, none⟩ (.int .i64 0) = (w2.setCell ⟨W.heap.size + 1 + 1, 0, none⟩ (.slice A xs.length c')) := setCell_same (q1.trans rfl)
    have u2 : (w2.setCell ⟨W.heap.size + 1 + 1, 0, none⟩ (.slice A xs.length c')).setCell ⟨W.heap.size + 1 + 1 + 1, 2, none⟩ (.int .i64 0) = (w2.setCell ⟨W.heap.size + 1 + 1, 0, none⟩ (.slice A xs.length c')) := setCell_same (q2.trans rfl)
    obtain ⟨o', n, cc, c0, hn, hcc, t0, t1, t2, t3⟩ := hr3.head
    have hor := HOR.out
    rw [allO] at hor
    by_cases hz : (tkAt T j).f0 = 0
    · rw [if_pos hz] at hor
      injection hor with hor
      subst hor
      rw [hz] at t0
      clear hr3 hL hlr hlt j8 j9 jq k8 k9 kq hgs3 hb3 hb2 hr2 hg2 t1 t2 t3 hcc hx r6 r7 r8 r9 rq hGW hbW
      go_wp2_with fail
      generalize (w2.setCell ⟨W.heap.size + 1 + 1, 0, none⟩ (.slice A xs.length c')) = w3 at *
      go_region
      all_goals
        go_wp2
        refine leaves_cons (f := 32) (args := #[.pointer (some ⟨W.heap.size + 1 + 1, 0, none⟩), .pointer (some ⟨W.heap.size + 1 + 1 + 1, 0, none⟩)]) (by simp) (by simp [go_sem]) ?_
        refine (end32r _ _ _).mono ?_
        rintro e u' w4 ⟨rfl, rfl, rfl⟩
        have hbd := below_drew1 (Below.refl w3.heap.size w3)
        have hR := Kd.R_below HLR.out hbd
        have hB := below_step HB3.out hbd
        simp [Leaves, settle, results, Tryz.results13, go_sem, q8, q0, q1, q2]
        exact ⟨hR, hB⟩
    · rw [if_neg hz] at hor
      injection hor with hor
      subst hor
      obtain ⟨q, hq⟩ : ∃ q, (tkAt T j).f0 = q := ⟨_, rfl⟩
      replace hz : ¬ q = 0 := by rw [← hq]; exact hz
      replace t0 : (w2.setCell ⟨W.heap.size + 1 + 1, 0, none⟩ (.slice A xs.length c')).cell? ⟨B, o', none⟩ = some (.int .u8 q) := by rw [← hq]; exact t0
      have n0 : (q == 0) = false := beq_eq_false_iff_ne.2 hz
      have m0 : (q != 0) = true := bne_iff_ne.2 hz
      clear hr3 hL hlr hlt j8 j9 jq k8 k9 kq hgs3 hb3 hb2 hr2 hg2 t1 t2 t3 hcc hx r6 r7 r8 r9 rq hGW hbW hq
      go_wp2_with (go_at_call 36; refine (fail_ _ _ _ HR3.out 5).mono ?_; rintro e w4 ⟨rfl, rfl⟩)
      refine leaves_cons (f := 32) (args := #[.pointer (some ⟨W.heap.size + 1 + 1, 0, none⟩), .pointer (some ⟨W.heap.size + 1 + 1 + 1, 0, none⟩)]) (by simp) (by simp [go_sem]) ?_
      refine (end32p (W.heap.size + 1 + 1) (W.heap.size + 1 + 1 + 1) 5 _ _ (.slice A xs.length c') 0 0 0 _ (by omega) J8.out J9.out ⟨_, _, _, rfl⟩).mono ?_
      rintro e u' w4 ⟨rfl, rfl, hl, hf, h1, h2, h3, h4, h5⟩
      have y0 := (blk_cell hl 0)
      have y1 := (blk_cell hf 0)
      have y2 := (blk_cell hf 1)
      have y3 := (blk_cell hf 2)
      have hb3 := HB3.out
      simp [Leaves, settle, results, Tryz.results13, go_sem, y0, y1, y2, y3]
      exact ⟨Kd.R_nil _ _ _ _ _, h1.trans hb3.os, h2.trans hb3.tape, h3.trans hb3.output, Nat.le_trans hb3.size h4, fun i hi => (h5 i (Nat.lt_of_lt_of_le hi hb3.size) (by omega) (by omega)).trans (hb3.block i hi)⟩
end Go.Proofs.YtmgdkkkkanjadaaGreatDoor.HandN
