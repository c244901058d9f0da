/- parse.Pool of the empty text: no cards, no fault. -/
import Derived.Test.YtiepfpojkblmbaaGreatHandH
import Derived.Recover
namespace Go.Proofs.YtiepfpojkblmbaaGreat.HandI
set_option linter.unusedVariables false
set_option linter.unusedSimpArgs false
open Go.Proofs.YtiepfpojkblmbaaGreat.HandC Go.RowKit Go.Lib Go.Proofs.YtiepfpojkblmbaaGreatW.PrintWords Go.Proofs.YtiepfpojkblmbaaGreatW.PrintLast Go.Proofs.YtiepfpojkblmbaaGreatW.PrintMore Go.Proofs.YtiepfpojkblmbaaGreat.HandH

/-- a reader that stands on the end -/
structure Ends (r : Nat) (W : World) : Prop where
  row : ∃ g c, W.heap[r]? = some (.cells #[.slice (some ⟨g, 0, none⟩) 1 c] 228 (0, 0)) ∧ W.cell? ⟨g, 0, none⟩ = some (.int .u8 0)
theorem Ends.below {r : Nat} {W W1 : World} (h : Ends r W) (hb : Below W.heap.size W W1) : Ends r W1 := by
  obtain ⟨g, c, h1, h2⟩ := h.row
  exact ⟨g, c, blk_below h1 hb, (hb.cell (p := ⟨g, 0, none⟩) (World.block_lt_of_cell? _ _ h2)).trans h2⟩
theorem is0 (r : Nat) (W : World) (h : Ends r W) (s : ByteArray) : Calls Tryz.prog 125 #[.pointer (some ⟨r, 0, none⟩), .string s] W fun e w' => e = .returned (.bool false) ∧ w' = W := by
  obtain ⟨g, c, h1, h2⟩ := h.row
  have c0 := blk_cell h1 0
  clear h h1
  go_enter Tryz.func125, Tryz.ntmps125
  go_wp2
  go_ret
  exact ⟨rfl, rfl⟩
def KS : List ByteArray := [⟨#[117, 110, 105, 116]⟩, ⟨#[115, 112, 101, 108, 108]⟩, ⟨#[113, 117, 105, 99, 107]⟩, ⟨#[116, 114, 97, 112]⟩, ⟨#[99, 111, 117, 110, 116, 101, 114]⟩]
theorem index0 (r k : Nat) (W : World) (h : Ends r W) (hk : ∀ j, j < 5 → ∃ s, W.cell? ⟨k, j, none⟩ = some (.string s)) :
    Calls Tryz.prog 124 #[.slice (some ⟨k, 0, none⟩) 5 5, .func (.func 125) #[.pointer (some ⟨r, 0, none⟩)] #[]] W fun e w' => e = .returned (.int .i64 (-1)) ∧ w' = W := by
  have HI := Aside0.mk (is0 r W h)
  have HK := Aside0.mk hk
  clear h hk
  go_enter Tryz.func124, Tryz.ntmps124
  go_wp2_with fail
  go_loopg [8] 5 (fun g s8 wr => ∃ i : Nat, s8 = .int .i64 (i : Int) ∧ i ≤ 5 ∧ 5 - i ≤ g ∧ wr = W)
  case atStart => exact ⟨0, rfl, by decide, by decide, rfl⟩
  case round =>
    obtain ⟨i, rfl, h1, h2, rfl⟩ := hrel
    by_cases hlt : i < 5
    · have hlt' : decide ((i : Int) < 5) = true := decide_eq_true (by omega)
      have hi0 : (0 ≤ (i : Int)) = True := eq_true (by omega)
      have hi1 : ((i : Int) < 5) = True := eq_true (by omega)
      have ei : wrap64 ((i : Int) + 1) = ((i + 1 : Nat) : Int) := by unfold wrap64; omega
      have et : (i : Int).toNat = i := Int.toNat_natCast i
      obtain ⟨s, hs⟩ := HK.out i hlt
      obtain ⟨g, rfl⟩ : ∃ g, gk = g + 1 := ⟨gk - 1, by omega⟩
      go_wp2_with (go_at_call 125; refine (HI.out _).mono ?_; rintro e w2 ⟨rfl, rfl⟩)
      go_roundg g
      case measure => omega
      case rel => exact ⟨i + 1, rfl, by omega, by omega, rfl⟩
    · have hlt' : decide ((i : Int) < 5) = false := decide_eq_false (by omega)
      go_wp2_with fail
      go_ret
      exact ⟨rfl, rfl⟩
theorem kinds0 (W : World) : Calls Tryz.prog 116 #[] W fun e w' => e = .returned (.slice (some ⟨W.heap.size, 0, none⟩) 5 5) ∧ w' = W.alloc (.cells (KS.map Value.string).toArray 9) := by
  go_enter Tryz.func116, Tryz.ntmps116
  go_wp2
  go_ret
  exact ⟨rfl, rfl⟩
theorem among0 (r k : Nat) (W : World) (h : Ends r W) (hk : ∀ j, j < 5 → ∃ s, W.cell? ⟨k, j, none⟩ = some (.string s)) :
    Calls Tryz.prog 115 #[.pointer (some ⟨r, 0, none⟩), .slice (some ⟨k, 0, none⟩) 5 5] W fun e w' => e = .returned (.int .i64 (-1)) ∧ w' = W := by
  have HI := Aside0.mk (index0 r k W h hk)
  clear h hk
  go_enter Tryz.func115, Tryz.ntmps115
  go_wp2_with (go_at_call 124; refine HI.out.mono ?_; rintro e w2 ⟨rfl, rfl⟩)
  go_ret
  exact ⟨rfl, rfl⟩
theorem begins0 (r : Nat) (W : World) (h : Ends r W) : Calls Tryz.prog 114 #[.pointer (some ⟨r, 0, none⟩)] W fun e w' => e = .returned (.bool false) ∧ Below W.heap.size W w' := by
  have hb := below_alloc (Below.refl W.heap.size W) (.cells (KS.map Value.string).toArray 9)
  have HA := Aside0.mk (among0 r W.heap.size _ (h.below hb) (fun j hj => by
    have hc := blk_cell (blk_new W (.cells (KS.map Value.string).toArray 9)) j
    rw [hc]
    have : j < (KS.map Value.string).toArray.size := hj
    rw [Array.getElem?_eq_getElem this]
    exact ⟨_, by simp; rfl⟩))
  have HB := Aside0.mk hb
  clear h hb
  go_enter Tryz.func114, Tryz.ntmps114
  go_wp2_with (first
    | (go_at_call 116; refine (kinds0 _).mono ?_; rintro e w2 ⟨rfl, rfl⟩)
    | (go_at_call 115; refine HA.out.mono ?_; rintro e w2 ⟨rfl, rfl⟩))
  go_ret
  exact ⟨rfl, HB.out⟩
theorem c121 (r b1 b2 : Nat) (W : World) (h : Ends r W) (h1 : W.cell? ⟨b1, 0, none⟩ = some (.func (.func 114) #[] #[])) (h2 : W.cell? ⟨b2, 0, none⟩ = some (.pointer (some ⟨r, 0, none⟩))) :
    Calls Tryz.prog 121 #[.pointer (some ⟨b1, 0, none⟩), .pointer (some ⟨b2, 0, none⟩)] W fun e w' => e = .returned (.bool false) ∧ Below W.heap.size W w' := by
  have HA := Aside0.mk (begins0 r W h)
  clear h
  go_enter Tryz.func121, Tryz.ntmps121
  go_wp2_with (go_at_call 114; refine HA.out.mono ?_; rintro e w2 ⟨rfl, hb⟩)
  go_ret
  exact ⟨rfl, hb⟩
theorem list0 (r b1 b2 : Nat) (fv : Value) (W : World) (h : Ends r W) (h1 : W.cell? ⟨b1, 0, none⟩ = some (.func (.func 114) #[] #[])) (h2 : W.cell? ⟨b2, 0, none⟩ = some (.pointer (some ⟨r, 0, none⟩))) :
    Calls Tryz.prog 120 #[.pointer (some ⟨r, 0, none⟩), .int .i64 64, .func (.func 121) #[] #[.pointer (some ⟨b1, 0, none⟩), .pointer (some ⟨b2, 0, none⟩)], fv] W fun e w' => e = .returned (.slice none 0 0) ∧ Below W.heap.size W w' := by
  have HA := Aside0.mk (c121 r b1 b2 W h h1 h2)
  clear h h1 h2
  go_enter Tryz.func120, Tryz.ntmps120
  go_wp2_with fail
  go_loopg [8] 1 (fun g s8 wr => s8 = .slice none 0 0 ∧ wr = W)
  case atStart => exact ⟨rfl, rfl⟩
  case round =>
    obtain ⟨rfl, rfl⟩ := hrel
    go_wp2_with (go_at_call 121; refine HA.out.mono ?_; rintro e w2 ⟨rfl, hb⟩)
    go_ret
    exact ⟨rfl, hb⟩
theorem end119 (p q : Value) (w : World) : CallsD Tryz.prog 119 #[p, q] .returning w fun e u' w' => e = .returned (.tuple #[]) ∧ u' = .returning ∧ w' = w := by
  refine callsD_of_wpS Tryz.func119 rfl fun c₀ cs hu => ?_
  apply wpS_seq
  apply wpS_region
  simp [wpOpsS, go_sem, recoverD, hu, Tryz.ntmps119, Exit.thenS]
  refine wpS_of_wp ?_
  go_wp2
  cases c₀
  simp_all [bodyPostS, results, Tryz.results119]
theorem start4 (W w1 : World) (hb : Below ((((W.alloc (.cells #[.func (.func 114) #[] #[]] 220)).alloc (.cells #[.func (.func 117) #[] #[]] 221)).alloc (.cells #[.slice none 0 0] 30)).alloc (.cells #[.int .i64 0, .int .i64 0, .int .i64 0] 213)).heap.size
      ((((W.alloc (.cells #[.func (.func 114) #[] #[]] 220)).alloc (.cells #[.func (.func 117) #[] #[]] 221)).alloc (.cells #[.slice none 0 0] 30)).alloc (.cells #[.int .i64 0, .int .i64 0, .int .i64 0] 213)) w1) :
    w1.heap[W.heap.size]? = some (.cells #[.func (.func 114) #[] #[]] 220 (0, 0)) ∧ w1.heap[W.heap.size + 1 + 1]? = some (.cells #[.slice none 0 0] 30 (0, 0)) ∧ w1.heap[W.heap.size + 1 + 1 + 1]? = some (.cells #[.int .i64 0, .int .i64 0, .int .i64 0] 213 (0, 0)) ∧ Below W.heap.size W w1 ∧ W.heap.size + 4 ≤ w1.heap.size := by
  have h1 := blk_new W (.cells #[.func (.func 114) #[] #[]] 220)
  have h3 := blk_new ((W.alloc (.cells #[.func (.func 114) #[] #[]] 220)).alloc (.cells #[.func (.func 117) #[] #[]] 221)) (.cells #[.slice none 0 0] 30)
  have h4 := blk_new (((W.alloc (.cells #[.func (.func 114) #[] #[]] 220)).alloc (.cells #[.func (.func 117) #[] #[]] 221)).alloc (.cells #[.slice none 0 0] 30)) (.cells #[.int .i64 0, .int .i64 0, .int .i64 0] 213)
  simp only [size_alloc] at h3 h4
  refine ⟨blk_below (blk_alloc (blk_alloc (blk_alloc h1 _) _) _) hb, blk_below (blk_alloc h3 _) hb, blk_below h4 hb, below_step (below_alloc (below_alloc (below_alloc (below_alloc (Below.refl _ _) _) _) _) _) hb, ?_⟩
  have := hb.size
  simp only [size_alloc] at this
  omega
/-- the world at the list: what the reader's blocks hold, then and behind it -/
structure Mid (W w1 w2 : World) (g c : Nat) : Prop where
  k8 : w2.heap[W.heap.size + 1 + 1]? = some (.cells #[.slice none 0 0] 30 (0, 0))
  k9 : w2.heap[W.heap.size + 1 + 1 + 1]? = some (.cells #[.int .i64 0, .int .i64 0, .int .i64 0] 213 (0, 0))
  kr : w2.heap[w1.heap.size]? = some (.cells #[.slice (some ⟨g, 0, none⟩) 1 c] 228 (0, 0))
  kp : w2.heap[w1.heap.size + 1]? = some (.cells #[.pointer (some ⟨w1.heap.size, 0, none⟩)] 217 (0, 0))
  kg : w2.cell? ⟨g, 0, none⟩ = some (.int .u8 0)
  below : Below W.heap.size W w2
theorem list_mid (W w1 : World) (g c : Nat) (fv : Value) (k6 : w1.heap[W.heap.size]? = some (.cells #[.func (.func 114) #[] #[]] 220 (0, 0))) (k8 : w1.heap[W.heap.size + 1 + 1]? = some (.cells #[.slice none 0 0] 30 (0, 0)))
    (k9 : w1.heap[W.heap.size + 1 + 1 + 1]? = some (.cells #[.int .i64 0, .int .i64 0, .int .i64 0] 213 (0, 0))) (hc : w1.cell? ⟨g, 0, none⟩ = some (.int .u8 0)) (hB : Below W.heap.size W w1) :
    Calls Tryz.prog 120 #[.pointer (some ⟨w1.heap.size, 0, none⟩), .int .i64 64, .func (.func 121) #[] #[.pointer (some ⟨W.heap.size, 0, none⟩), .pointer (some ⟨w1.heap.size + 1, 0, none⟩)], fv]
      ((w1.alloc (.cells #[.slice (some ⟨g, 0, none⟩) 1 c] 228)).alloc (.cells #[.pointer (some ⟨w1.heap.size, 0, none⟩)] 217)) fun e w' => e = .returned (.slice none 0 0) ∧ Mid W w1 w' g c := by
  have hr := blk_new w1 (.cells #[.slice (some ⟨g, 0, none⟩) 1 c] 228)
  have hp := blk_new (w1.alloc (.cells #[.slice (some ⟨g, 0, none⟩) 1 c] 228)) (.cells #[.pointer (some ⟨w1.heap.size, 0, none⟩)] 217)
  rw [size_alloc] at hp
  have hb1 : Below w1.heap.size w1 (w1.alloc (.cells #[.slice (some ⟨g, 0, none⟩) 1 c] 228)) := below_alloc (Below.refl _ _) _
  have hb2 : Below w1.heap.size w1 ((w1.alloc (.cells #[.slice (some ⟨g, 0, none⟩) 1 c] 228)).alloc (.cells #[.pointer (some ⟨w1.heap.size, 0, none⟩)] 217)) := below_alloc hb1 _
  have hg := World.block_lt_of_cell? _ _ hc
  have hE : Ends w1.heap.size ((w1.alloc (.cells #[.slice (some ⟨g, 0, none⟩) 1 c] 228)).alloc (.cells #[.pointer (some ⟨w1.heap.size, 0, none⟩)] 217)) := ⟨g, c, blk_alloc hr _, (hb2.cell (p := ⟨g, 0, none⟩) hg).trans hc⟩
  refine (list0 w1.heap.size W.heap.size (w1.heap.size + 1) fv _ hE ((blk_cell (blk_below k6 hb2) 0).trans rfl) ((blk_cell hp 0).trans rfl)).mono ?_
  rintro e w2 ⟨rfl, hb⟩
  exact ⟨rfl, blk_below (blk_below k8 hb2) hb, blk_below (blk_below k9 hb2) hb, blk_below (blk_alloc hr _) hb, blk_below hp hb, (hb.cell (p := ⟨g, 0, none⟩) (Nat.lt_of_lt_of_le hg hb2.size)).trans ((hb2.cell (p := ⟨g, 0, none⟩) hg).trans hc), below_step (below_step hB hb2) hb⟩
set_option maxHeartbeats 2000000 in
set_option maxRecDepth 100000 in
theorem all0 (W : World) : Calls Tryz.prog 113 #[.string ⟨#[]⟩, .int .i64 64, .func (.func 114) #[] #[], .func (.func 117) #[] #[]] W fun e w' => e = .returned (.tuple #[.slice none 0 0, .agg #[.int .i64 0, .int .i64 0, .int .i64 0]]) ∧ Below W.heap.size W w' := by
  have hmf : ∀ (fn : Fn) (first cap : Array Value) (w : World), (Instr.makeFunc fn first cap).run Tryz.prog w = .ok (.func fn first cap) w := fun _ _ _ _ => rfl
  go_enter_defers Tryz.func113, Tryz.ntmps113
  go_wp2_with (first
    | (go_at_call 118; refine (tokens0 _).mono ?_; rintro e w1 ⟨g, c, rfl, hc, hg, hb⟩; obtain ⟨k6, k8, k9, hB, hgs⟩ := start4 W w1 hb;
       have HB := Aside0.mk hB; have K6 := Aside0.mk k6; have K8 := Aside0.mk k8; have K9 := Aside0.mk k9; have HC := Aside0.mk hc; have HGS := Aside0.mk hgs;
       have c0 := blk_cell k9 0; have c1 := blk_cell k9 1; have c2 := blk_cell k9 2; have f0 := blk_frozen k9 0; have f1 := blk_frozen k9 1; have f2 := blk_frozen k9 2; have s0 := setCell_same (v := .int .i64 0) (c0.trans rfl); have s1 := setCell_same (v := .int .i64 0) (c1.trans rfl); have s2 := setCell_same (v := .int .i64 0) (c2.trans rfl); clear hb hB k6 k8 k9 hg hgs))
  refine (list_mid W w1 g c _ K6.out K8.out K9.out HC.out HB.out).mono ?_
  rintro e w2 ⟨rfl, hm⟩
  have HM := Aside0.mk hm
  have q8 := blk_cell hm.k8 0
  have g8 := blk_frozen hm.k8 0
  have q0 := blk_cell hm.k9 0
  have q1 := blk_cell hm.k9 1
  have q2 := blk_cell hm.k9 2
  have g0 := blk_frozen hm.k9 0
  have g1 := blk_frozen hm.k9 1
  have g2 := blk_frozen hm.k9 2
  have qr := blk_cell hm.kr 0
  have qp := blk_cell hm.kp 0
  have qg := hm.kg
  have s8 : w2.setCell ⟨W.heap.size + 1 + 1, 0, none⟩ (.slice none 0 0) = w2 := setCell_same (q8.trans rfl)
  have t0 : w2.setCell ⟨W.heap.size + 1 + 1 + 1, 0, none⟩ (.int .i64 0) = w2 := setCell_same (q0.trans rfl)
  have t1 : w2.setCell ⟨W.heap.size + 1 + 1 + 1, 1, none⟩ (.int .i64 0) = w2 := setCell_same (q1.trans rfl)
  have t2 : w2.setCell ⟨W.heap.size + 1 + 1 + 1, 2, none⟩ (.int .i64 0) = w2 := setCell_same (q2.trans rfl)
  clear hm
  go_wp2_with fail
  go_region
  go_wp2
  refine leaves_cons (f := 119) (args := #[.pointer (some ⟨W.heap.size + 1 + 1, 0, none⟩), .pointer (some ⟨W.heap.size + 1 + 1 + 1, 0, none⟩)]) (by simp) (by simp [go_sem]) ?_
  refine (end119 _ _ _).mono ?_
  rintro e u' w3 ⟨rfl, rfl, rfl⟩
  have hbd : Below W.heap.size W w2.drew := below_drew1 HM.out.below
  simp [Leaves, settle, results, Tryz.results113, go_sem, q8, q0, q1, q2]
  exact hbd
theorem ppool0 (W : World) : Calls Tryz.prog 112 #[.string ⟨#[]⟩] W fun e w' => e = .returned (.tuple #[.slice none 0 0, .agg #[.int .i64 0, .int .i64 0, .int .i64 0]]) ∧ Below W.heap.size W w' := by
  have HN := Aside0.mk (blk_new W (.cells #[.int .i64 0, .int .i64 0, .int .i64 0] 213))
  have HB := Aside0.mk (below_alloc (Below.refl W.heap.size W) (.cells #[.int .i64 0, .int .i64 0, .int .i64 0] 213))
  go_enter Tryz.func112, Tryz.ntmps112
  go_wp2_with (go_at_call 113; refine (all0 _).mono ?_; rintro e w2 ⟨rfl, hb⟩; have k9 := blk_below HN.out hb; have HK := Aside0.mk k9; have HB2 := Aside0.mk (below_step HB.out hb); have q0 := blk_cell k9 0; have q1 := blk_cell k9 1; have q2 := blk_cell k9 2; have f0 := blk_frozen k9 0; have f1 := blk_frozen k9 1; have f2 := blk_frozen k9 2; have t0 : w2.setCell ⟨W.heap.size, 0, none⟩ (.int .i64 0) = w2 := setCell_same (q0.trans rfl); have t1 : w2.setCell ⟨W.heap.size, 1, none⟩ (.int .i64 0) = w2 := setCell_same (q1.trans rfl); have t2 : w2.setCell ⟨W.heap.size, 2, none⟩ (.int .i64 0) = w2 := setCell_same (q2.trans rfl); clear hb k9)
  refine bodyPost_ret (results_tc rfl _ _ W.heap.size 213 #[.int .i64 0, .int .i64 0, .int .i64 0] (0, 0) _ rfl HK.out Tryz.underlying213 rfl (by kernel_rfl)) rfl ?_
  exact ⟨rfl, HB2.out⟩
end Go.Proofs.YtiepfpojkblmbaaGreat.HandI
