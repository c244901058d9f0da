/- Get of nothing, and of too many zero bytes; what lives() tells. -/
import Derived.Test.YtiepfpojkblmbaaGreatHandF
import Derived.Test.YtiepfpojkblmbaaGreatHandK
import Derived.Lib.SlBytesConst
namespace Go.Proofs.YtiepfpojkblmbaaGreat.HandV
set_option linter.unusedVariables false
set_option linter.unusedSimpArgs false
open Go.RowKit Go.Lib Go.Proofs.YtiepfpojkblmbaaGreatW.PrintWords Go.Proofs.YtiepfpojkblmbaaGreatW.PrintLast Go.Proofs.YtiepfpojkblmbaaGreatW.PrintMore Go.Proofs.YtiepfpojkblmbaaGreat.U Go.Proofs.YtiepfpojkblmbaaGreat.HandQ Go.Proofs.YtiepfpojkblmbaaGreat.HandC Go.Proofs.YtiepfpojkblmbaaGreat.HandG Go.Proofs.YtiepfpojkblmbaaGreat.HandD Go.Proofs.YtiepfpojkblmbaaGreat.HandJ

theorem size_alloc (w : World) (o : Obj) : (w.alloc o).heap.size = w.heap.size + 1 := Array.size_push ..
/-- Get: the world at the reading -/
theorem begun (W : World) (A : Option Addr) (k c : Nat) (hk : k ≤ c) (hc : 0 ≤ c) (hA : 0 < k → ∃ g o, A = some ⟨g, o, none⟩ ∧ g < W.heap.size ∧ ∀ j, j < k → W.cell? ⟨g, o + j, none⟩ = some (.int .u8 0)) :
    Zr (W.heap.size + 1) (W.heap.size + 1 + 1) (((W.alloc (.cells Z 45)).alloc (.cells #[.slice A k c, .bool false] 55)).alloc (.cells Z 45)) (((W.alloc (.cells Z 45)).alloc (.cells #[.slice A k c, .bool false] 55)).alloc (.cells Z 45)) (k + 1) := by
  have h1 := blk_new (W.alloc (.cells Z 45)) (.cells #[.slice A k c, .bool false] 55)
  have h2 := blk_new ((W.alloc (.cells Z 45)).alloc (.cells #[.slice A k c, .bool false] 55)) (.cells Z 45)
  simp only [size_alloc] at h1 h2
  have hb : Below W.heap.size W (((W.alloc (.cells Z 45)).alloc (.cells #[.slice A k c, .bool false] 55)).alloc (.cells Z 45)) := below_alloc (below_alloc (below_alloc (Below.refl _ _) _) _) _
  refine ⟨⟨.inl ⟨A, k, c, rfl, hk, hc, blk_alloc h1 _, fun h0 => ?_⟩⟩, World.grownBy.refl _ _, by omega, h2⟩
  obtain ⟨g, o, e, hg, hcell⟩ := hA h0
  exact ⟨g, o, e, by omega, Nat.lt_of_lt_of_le hg hb.size, fun j hj => (hb.cell (p := ⟨g, o + j, none⟩) hg).trans (hcell j hj)⟩
/-- behind the reading -/
structure Done (W w2 : World) (bad : Bool) (r : Nat) : Prop where
  row : ∃ A c, w2.heap[W.heap.size + 1]? = some (.cells #[.slice A r c, .bool bad] 55 (0, 0))
  res : w2.heap[W.heap.size]? = some (.cells Z 45 (0, 0))
  below : Below W.heap.size W w2
theorem done_ {W w2 : World} {A : Option Addr} {k c m : Nat} (h : Zr (W.heap.size + 1) (W.heap.size + 1 + 1) (((W.alloc (.cells Z 45)).alloc (.cells #[.slice A k c, .bool false] 55)).alloc (.cells Z 45)) w2 m) (bad : Bool) (r : Nat) (hr : m = 0 ∧ bad = true ∧ r = 0 ∨ m = r + 1 ∧ bad = false) : Done W w2 bad r := by
  have hb : Below W.heap.size W (((W.alloc (.cells Z 45)).alloc (.cells #[.slice A k c, .bool false] 55)).alloc (.cells Z 45)) := below_alloc (below_alloc (below_alloc (Below.refl _ _) _) _) _
  refine ⟨?_, ?_, ?_⟩
  · rcases h.rr.row with ⟨A', k', c', h1, h2, h3, h4, h5⟩ | ⟨h1, A', c', h2, h3⟩
    · rcases hr with ⟨e, _⟩ | ⟨e, rfl⟩
      · omega
      · exact ⟨A', c', by rw [h4, show r = k' by omega]⟩
    · rcases hr with ⟨e, rfl, rfl⟩ | ⟨e, _⟩
      · exact ⟨A', c', h3⟩
      · omega
  · exact blk_grown (blk_alloc (blk_alloc (blk_new W _) _) _) h.gw (fun e => by have := Option.some.inj e; omega)
  · exact pw_below_grown hb (some (W.heap.size + 1)) hb.size h.gw (fun k e => by have := Option.some.inj e; omega)
theorem setRow_same {W : World} {g : Nat} {cs : Array Value} {t : TypeId} (h : W.heap[g]? = some (.cells cs t (0, 0))) : W.setRow g cs = W := by
  have hb : g < W.heap.size := blk_lt h
  have hh : (W.setRow g cs).heap = W.heap := by
    apply Array.ext (by simp [World.setRow])
    intro k h1 h2
    simp only [World.setRow]
    rw [Array.getElem_modify]
    split
    · rename_i e
      subst e
      have hc : W.heap[g] = .cells cs t (0, 0) := by
        have := Array.getElem?_eq_getElem hb
        rw [h] at this
        exact (Option.some.inj this).symm
      rw [hc]
    · rfl
  exact (fun (w : World) (x : Array Obj) (e : x = w.heap) => (by subst e; rfl : ({ w with heap := x } : World) = w)) W _ hh
section
variable {ops : Array Oper} {rest : List Oper} {o : Oper} {a : Act} {Q : Exit → Act → World → Prop}
/-- a duel of zeros stored where one lies -/
theorem zero_store {W : World} (hgd : o.guard = none) {x y : Operand} (ho : o.op = .store 45 x y) (hN : o.dst = none) (g : Nat) (hx : a.eval x = .pointer (some ⟨g, 0, none⟩)) (hy : a.eval y = .agg Z) (hg : W.heap[g]? = some (.cells Z 45 (0, 0)))
    (h : wpList Tryz.prog ops Q rest a W) : wpList Tryz.prog ops Q (o :: rest) a W := by
  refine wpList_plain hgd fun K hK => ?_
  refine wp_store_row 45 x y ho g Z hx hy 45 Z hg (by kernel_rfl) rfl (by kernel_rfl) ?_
  rw [setRow_same hg, hN]
  exact hK _ _ h
end
set_option maxHeartbeats 4000000 in
set_option maxRecDepth 100000 in
theorem get_ (W : World) (A : Option Addr) (k c m : Nat) (hk : k ≤ c) (hk2 : k ≤ 1000) (hc : 0 ≤ c) (hA : 0 < k → ∃ g o, A = some ⟨g, o, none⟩ ∧ g < W.heap.size ∧ ∀ j, j < k → W.cell? ⟨g, o + j, none⟩ = some (.int .u8 0)) (bad : Bool) (r : Nat) (hr : k + 1 - 37 = 0 ∧ bad = true ∧ r = 0 ∨ k + 1 - 37 = r + 1 ∧ bad = false) (hbr : bad = false → 0 < r) :
    Calls Tryz.prog 7 #[.slice A k c] W fun e w' => e = .returned (.tuple #[.agg Z, .int .i64 5]) ∧ Below W.heap.size W w' := by
  have HW := Aside0.mk (HandK.whole (begun W A k c hk hc hA))
  have HR := Aside0.mk hr
  have HBR := Aside0.mk hbr
  have l1 : decide (1048576 < (k : Int)) = false := decide_eq_false (by omega)
  clear hr hbr hA
  go_enter Tryz.func7, Tryz.ntmps7
  have hl3 : bad = false → decide (0 < (r : Int)) = true := fun e => decide_eq_true (by have := HBR.out e; omega)
  have hl4 : bad = false → (0 < r) = True := fun e => eq_true (HBR.out e)
  go_wp2_with (first
    | (go_at_call 9; refine HW.out.mono ?_; rintro e w2 ⟨rfl, h2⟩; have hd := done_ h2 bad r HR.out; obtain ⟨A2, c2, hrow⟩ := hd.row; have q0 : w2.cell? ⟨W.heap.size + 1, 0, none⟩ = some (.slice A2 r c2) := blk_cell hrow 0; have q1 : w2.cell? ⟨W.heap.size + 1, 1, none⟩ = some (.bool bad) := blk_cell hrow 1; have HD := Aside0.mk hd; clear h2 hd hrow; (cases bad <;> first | (have l3 := hl3 rfl; have l4 := hl4 rfl) | skip))
    | ((with_reducible refine gate_store (t := 45) (p := 2) rfl ?_); refine zero_store rfl rfl rfl W.heap.size rfl rfl HD.out.res ?_))
  all_goals
    refine bodyPost_ret (results_ct rfl _ _ W.heap.size 45 Z (0, 0) _ rfl HD.out.res Tryz.underlying45 rfl (by kernel_rfl)) rfl ?_
    exact ⟨rfl, HD.out.below⟩
/-- bytes of zeros, read -/
theorem zeros_at {W : World} {A : Option Addr} {k : Nat} {l : List Int} (h : (Kd.int .u8).C W A k l) (hl : l = List.replicate k 0) : 0 < k → ∃ g o, A = some ⟨g, o, none⟩ ∧ g < W.heap.size ∧ ∀ j, j < k → W.cell? ⟨g, o + j, none⟩ = some (.int .u8 0) := by
  intro h0
  have hcell : ∃ ad, A = some ad ∧ ∀ j, j < k → W.cell? (ad.add j) = some (.int .u8 0) := by
    obtain ⟨hlen, hm, hrd⟩ := h
    obtain ⟨ad, e, hrd⟩ := hrd h0
    refine ⟨ad, e, fun j hj => ?_⟩
    obtain ⟨cs, e1, e2, e3⟩ := hrd j 0 (by rw [hl, List.getElem?_replicate, if_pos hj])
    have e4 : cs = [.int .u8 0] := e2
    subst e4
    have e5 := e3 0 _ rfl
    have e6 : j * (Kd.int .u8).sz + 0 = j := Nat.mul_one j
    rw [e6] at e5
    exact e5
  obtain ⟨⟨g, o, sp⟩, rfl, hcell⟩ := hcell
  have h1 := hcell 0 h0
  have hadd : (⟨g, o, sp⟩ : Addr).add 0 = ⟨g, o, sp⟩ := rfl
  rw [hadd] at h1
  have hsp : sp = none := by
    cases sp with
    | none => rfl
    | some x =>
      exfalso
      simp only [World.cell?] at h1
      split at h1
      · simp at h1
      · cases h1
  subst hsp
  refine ⟨g, o, rfl, World.block_lt_of_cell? _ _ h1, fun j hj => ?_⟩
  have h2 := hcell j hj
  have ha : (⟨g, o, none⟩ : Addr).add j = ⟨g, o + j, none⟩ := by unfold Addr.add; split <;> simp_all
  rw [ha] at h2
  exact h2
theorem byte1 {W : World} {g : Nat} {x : Int} {fr : Nat × Nat} (h : W.heap[g]? = some (.cells #[.int .u8 x] 5 fr)) : (Kd.int .u8).C W (some ⟨g, 0, none⟩) 1 [x] := by
  refine ⟨rfl, by decide, fun _ => ⟨_, rfl, fun j p hj => ⟨[.int .u8 p], rfl, rfl, fun i u hu => ?_⟩⟩⟩
  obtain ⟨hl, hp⟩ := List.getElem?_eq_some_iff.1 hj
  have hj0 : j = 0 := by simp at hl; omega
  subst hj0
  have hi : i = 0 := by
    have := (List.getElem?_eq_some_iff.1 hu).1
    simp at this
    omega
  subst hi
  simp at hu hp
  subst hu hp
  show W.cell? ⟨g, 0, none⟩ = _
  simp only [World.cell?, h]
  rfl
theorem ints0 (W : World) : Calls Tryz.prog 8 #[.slice none 0 0, .slice none 0 0] W fun e w' => e = .returned (.bool true) ∧ w' = W := by
  go_enter Tryz.func8, Tryz.ntmps8
  go_wp2_with fail
  go_loopg [5, 6] 1 (fun g s5 s6 wr => s5 = .bool true ∧ s6 = .int .i64 0 ∧ wr = W)
  case atStart => exact ⟨rfl, rfl, rfl⟩
  case round =>
    obtain ⟨rfl, rfl, rfl⟩ := hrel
    go_wp2_with fail
    go_ret
    exact ⟨rfl, rfl⟩
abbrev zs (k : Nat) : List Int := List.replicate k 0
theorem fnv0 : ((HandT.fnv [] : Nat) : Int) = 14695981039346656037 := by kernel_rfl
theorem fnv1 : ((HandT.fnv [97] : Nat) : Int) = 12638187200555641996 := by kernel_rfl
theorem zs_b (k : Nat) : Bs (zs k) := fun x hx => by have := List.eq_of_mem_replicate hx; subst this; decide
theorem zs_more : zs 37 ++ [0] = zs 38 := rfl
theorem sum0 (W : World) : Calls Tryz.prog 5 #[.slice none 0 0] W fun e w' => e = .returned (.int .u64 14695981039346656037) ∧ Below W.heap.size W w' := by
  refine (HandT.sum_call [] (fun x hx => by cases hx) (by decide) none 0 0 rfl (by decide) W ⟨rfl, by decide, fun h => absurd h (Nat.lt_irrefl 0)⟩).mono ?_
  rintro e w' ⟨h, hd⟩
  rw [fnv0] at h
  exact ⟨h, hd.below⟩
theorem sum1 (W : World) (g : Nat) {fr : Nat × Nat} (h : W.heap[g]? = some (.cells #[.int .u8 97] 5 fr)) : Calls Tryz.prog 5 #[.slice (some ⟨g, 0, none⟩) 1 1] W fun e w' => e = .returned (.int .u64 12638187200555641996) ∧ Below W.heap.size W w' := by
  refine (HandT.sum_call [97] (fun x hx => by have := List.mem_singleton.1 hx; subst this; decide) (by decide) _ 1 1 rfl (by decide) W (byte1 h)).mono ?_
  rintro e w' ⟨h, hd⟩
  rw [fnv1] at h
  exact ⟨h, hd.below⟩
theorem get38 (V : World) (A : Option Addr) (c : Nat) (hc : 38 ≤ c) (hC : (Kd.int .u8).C V A 38 (zs 38)) : Calls Tryz.prog 7 #[.slice A 38 c] V fun e w' => e = .returned (.tuple #[.agg Z, .int .i64 5]) ∧ Below V.heap.size V w' :=
  get_ V A 38 c 0 hc (by decide) (Nat.zero_le _) (zeros_at hC rfl) false 1 (.inr ⟨rfl, rfl⟩) (fun _ => by decide)
theorem get0 (V : World) : Calls Tryz.prog 7 #[.slice none 0 0] V fun e w' => e = .returned (.tuple #[.agg Z, .int .i64 5]) ∧ Below V.heap.size V w' :=
  get_ V none 0 0 0 (by decide) (by decide) (by decide) (fun h => absurd h (Nat.lt_irrefl 0)) true 0 (.inl ⟨rfl, rfl, rfl⟩) (fun h => by cases h)
set_option maxHeartbeats 4000000 in
set_option maxRecDepth 100000 in
theorem lives : HandT.Lives := by
  intro W
  have e37 : (zs 37).length = 37 := rfl
  have kc := fun (w : World) (C : Array Value) (n c : Nat) => Lib.run_convert_bytes_const (P := Tryz.prog) w 22 5 C n c Tryz.underlying22 Tryz.underlying5
  go_enter Tryz.func4, Tryz.ntmps4
  go_wp2_with (first
    | (go_at_call 6; (with_reducible refine Calls.mono (HandF.put0 _) ?_); rintro e w1 ⟨A1, c1, rfl, hc1, hC1, hb1⟩; have HC1 := Aside0.mk hC1; have HL1 := Aside0.mk hc1; have BL := Aside0.mk hb1; clear hC1 hc1 hb1)
    | (go_at_call 7; (with_reducible refine Calls.mono (get0 w1) ?_); rintro e w2 ⟨rfl, hb2⟩; have HB2 := Aside0.mk hb2; have HC2 := Aside0.mk (Kd.C_below HC1.out hb2); have BL2 := Aside0.mk (below_step BL.out hb2); clear hb2)
    | ((with_reducible refine gate_store (t := 45) (p := 3) rfl ?_); refine zero_store rfl rfl rfl w2.heap.size rfl rfl (blk_new w2 _) ?_)
    | ((with_reducible refine gate_dst (N := 18) rfl ?_); refine HandT.str_event rfl rfl (Kd.C_below HC2.out (below_alloc (Below.refl _ _) _)) rfl ?_)
    | ((with_reducible refine gate_dst (N := 19) rfl ?_); refine HandT.made_event rfl rfl (zs 37) (zs_b 37) (by decide) rfl ?_; rw [e37]; rintro g3 cap3 w3 hg hby hbw; have BM := Aside0.mk (below_step (below_alloc BL2.out _) hbw); have BY := Aside0.mk hby; have GE := Aside0.mk (Nat.le_trans (below_size (below_alloc BL2.out _)) hg); clear hby hbw hg)
    | ((with_reducible refine gate_dst (N := 21) rfl ?_); refine HandT.more_event rfl rfl BY.out 0 (by decide) rfl rfl ?_; rw [zs_more]; rintro A5 c5 w5 hc5 hC5 hB5; have BL5 := Aside0.mk (hB5 W _ GE.out (below_size BM.out) BM.out); have HC5 := Aside0.mk hC5; have HL5 := Aside0.mk hc5; clear hB5 hC5 hc5)
    | (go_at_call 7; (with_reducible refine Calls.mono (get38 _ A5 c5 HL5.out HC5.out) ?_); rintro e w6 ⟨rfl, hb6⟩; have BL6 := Aside0.mk (below_step BL5.out hb6); clear hb6)
    | ((with_reducible refine gate_store (t := 45) (p := 5) rfl ?_); refine zero_store rfl rfl rfl w6.heap.size rfl rfl (blk_new w6 _) ?_)
    | (go_at_call 5; (with_reducible refine Calls.mono (sum0 _) ?_); rintro e w7 ⟨rfl, hd7⟩; have BL7 := Aside0.mk (below_step (below_alloc BL6.out _) hd7); clear hd7)
    | (go_at_call 5; (with_reducible refine Calls.mono (sum1 _ w7.heap.size (blk_new w7 _)) ?_); rintro e w8 ⟨rfl, hd8⟩; have BL8 := Aside0.mk (below_step (below_alloc BL7.out _) hd8); clear hd8)
    | (go_at_call 8; (with_reducible refine Calls.mono (ints0 _) ?_); rintro e w9 ⟨rfl, rfl⟩))
  go_ret
  exact ⟨rfl, BL8.out⟩
end Go.Proofs.YtiepfpojkblmbaaGreat.HandV
