/- The law SaveSums walked: with lives() as a premise. -/
import Derived.Test.YtiepfpojkblmbaaGreatHandQ
namespace Go.Proofs.YtiepfpojkblmbaaGreat.HandT
set_option linter.unusedVariables false
set_option linter.unusedSimpArgs false
open Go.RowKit Go.Lib Go.Proofs.YtiepfpojkblmbaaGreatW.PrintWords Go.Proofs.YtiepfpojkblmbaaGreatW.PrintLast Go.Proofs.YtiepfpojkblmbaaGreatW.PrintMore Go.Proofs.YtiepfpojkblmbaaGreat.U Go.Proofs.YtiepfpojkblmbaaGreat.SumsPure Go.Proofs.YtiepfpojkblmbaaGreat.HandQ

/-- what lives() must do -/
def Lives : Prop := ∀ W : World, Calls Tryz.prog 4 #[] W fun e w' => e = .returned (.bool true) ∧ Below W.heap.size W w'
def fnv (l : List Int) : Nat := sumFrom 14695981039346656037 (nats l)
/-- Sum called -/
theorem sum_call (l : List Int) (hb : Bs l) (hl : l.length ≤ 1000000000) (A : Option Addr) (n c : Nat) (hn : l.length = n) (hc : n ≤ c) (W : World) (hr : (Kd.int .u8).C W A n l) :
    Calls Tryz.prog 5 #[.slice A n c] W fun e w' => e = .returned (.int .u64 ((fnv l : Nat) : Int)) ∧ Drawn0 W w' := by
  subst hn
  exact save_Sum.calls (l.length + 1) A c l _ W hr hc (Sum_f l hb hl)
set_option maxHeartbeats 4000000 in
set_option maxRecDepth 100000 in
theorem few (hL : Lives) (A : Option Addr) (c : Nat) (l : List Int) (pos oth more : Int) (w : World) (h : l.length = 0 ∨ 3000 < l.length) :
    Calls Tryz.prog 3 #[.slice A l.length c, .int .i64 pos, .int .u8 oth, .int .u8 more] w fun e w' => e = .returned (.bool true) ∧ Below w.heap.size w w' := by
  obtain ⟨n, hn⟩ : ∃ n, l.length = n := ⟨_, rfl⟩
  rw [hn] at h ⊢
  clear hn
  rcases h with h0 | h0
  · subst h0
    go_enter Tryz.func3, Tryz.ntmps3
    go_wp2_with (refine (hL _).mono ?_; rintro e w2 ⟨rfl, hbw⟩)
    go_ret
    exact ⟨rfl, hbw⟩
  · have d0 : decide ((n : Int) = 0) = false := decide_eq_false (by omega)
    have d1 : decide (3000 < (n : Int)) = true := decide_eq_true (by omega)
    go_enter Tryz.func3, Tryz.ntmps3
    go_wp2_with (refine (hL _).mono ?_; rintro e w2 ⟨rfl, hbw⟩)
    go_ret
    exact ⟨rfl, hbw⟩
section
variable {ops : Array Oper} {rest : List Oper} {o : Oper} {a : Act} {Q : Exit → Act → World → Prop}
theorem made_event {W : World} (hgd : o.guard = none) {x : Operand} (hop : o.op = .convert 9 22 x) (l : List Int) (hb : Bs l) (hl : l.length ≤ 1000000) (hx : a.eval x = .string (strOfNums l))
    (h : ∀ g cap w1, W.heap.size ≤ g → By w1 g l.length cap l → Below W.heap.size W w1 → wpList Tryz.prog ops Q rest (a.put o.dst (.slice (some ⟨g, 0, none⟩) l.length cap)) w1) : wpList Tryz.prog ops Q (o :: rest) a W := by
  have hr := print_bytes (P := Tryz.prog) 9 22 5 Tryz.underlying9 Tryz.underlying22 Tryz.underlying5 (strOfNums l) W
  rw [strOfNums_size] at hr
  have hm := By.made W l hb hl
  rw [strOfNums_size] at hm
  refine Kd.event_run hgd (w1 := bytesWorld W 5 (strOfNums l)) (v := .slice (some ⟨W.heap.size, 0, none⟩) l.length (grownCap W l.length 0 5)) ?_ (h _ _ _ (Nat.le_refl _) hm (bytes_below (Below.refl _ _) (Nat.le_refl _) 5 _))
  unfold execOp
  rw [hop]
  simp only [hx]
  go_simp
theorem str_event {W : World} (hgd : o.guard = none) {x : Operand} (hop : o.op = .convert 22 9 x) {A : Option Addr} {n c : Nat} {l : List Int} (hC : (Kd.int .u8).C W A n l) (hx : a.eval x = .slice A n c)
    (h : wpList Tryz.prog ops Q rest (a.put o.dst (.string (strOfNums l))) W) : wpList Tryz.prog ops Q (o :: rest) a W := by
  have hr := Kd.C_string (P := Tryz.prog) (A := A) (c := c) Tryz.underlying22 Tryz.underlying5 Tryz.underlying9 hC
  refine Kd.event_run hgd (w1 := W) (v := .string (strOfNums l)) ?_ h
  unfold execOp
  rw [hop]
  simp only [hx]
  go_simp
theorem more_event {W : World} (hgd : o.guard = none) {s x : Operand} (hop : o.op = .call { callee := .builtin .append, args := #[s, x], argTypes := #[22, 22] })
    {g n cap : Nat} {xs : List Int} (hby : By W g n cap xs) (y : Int) (hn : n ≤ 1000000) (hs : a.eval s = .slice (some ⟨g, 0, none⟩) n cap) (hx : a.eval x = .slice (some ⟨W.heap.size, 0, none⟩) 1 1)
    (h : ∀ A c w1, n + 1 ≤ c → (Kd.int .u8).C w1 A (n + 1) (xs ++ [y]) → (∀ (w0 : World) (base : Nat), base ≤ g → base ≤ W.heap.size → Below base w0 W → Below base w0 w1) → wpList Tryz.prog ops Q rest (a.put o.dst (.slice A (n + 1) c)) w1) :
    wpList Tryz.prog ops Q (o :: rest) a (W.alloc (.cells #[.int .u8 y] 5)) := by
  have hby2 : By (W.alloc (.cells #[.int .u8 y] 5)) g n cap xs := hby.below (below_alloc (Below.refl _ _) _)
  obtain ⟨A, c, w1, hrun, h1, h2, h3⟩ := hby2.more W.heap.size y (heap_alloc_new W _) (Nat.ne_of_gt hby.lt) hn o.type
  refine Kd.event_run hgd (w1 := w1) (v := .slice A (n + 1) c) ?_ (h A c w1 h1 h2 fun w0 base hb hB h4 => h3 w0 base hb (h4.alloc hB _))
  simp [execOp, hop, resolve, invoke, builtin, hs, hx, hrun, Result.andThen]
end
abbrev Xi (pos : Int) (n : Nat) : Int := (wrap64 (pos.tmod ↑n + ↑n)).tmod ↑n
theorem Xi_ok (pos : Int) (n : Nat) (h0 : n ≠ 0) (h1 : n ≤ 3000) : 0 ≤ Xi pos n ∧ Xi pos n < n := by
  have a1 : -(n : Int) < pos.tmod n := Int.lt_tmod_of_pos _ (by omega)
  have a2 : pos.tmod n < n := Int.tmod_lt_of_pos _ (by omega)
  have a3 : wrap64 (pos.tmod ↑n + ↑n) = pos.tmod n + n := by unfold wrap64; omega
  unfold Xi
  rw [a3]
  exact ⟨Int.tmod_nonneg _ (by omega), Int.tmod_lt_of_pos _ (by omega)⟩
theorem xor_byte (x y : Int) (hx : 0 ≤ x ∧ x < 256) (hy : 0 ≤ y ∧ y < 256) : Go.bits .xor .u8 x y = ((x.toNat ^^^ y.toNat : Nat) : Int) := by
  obtain ⟨p, rfl⟩ := Int.eq_ofNat_of_zero_le hx.1
  obtain ⟨q, rfl⟩ := Int.eq_ofNat_of_zero_le hy.1
  rw [xor_u8 p q (by omega) (by omega)]
  rfl
theorem differ (l : List Int) (hb : Bs l) (i : Nat) (hi : i < l.length) (oth : Int) (ho : 0 ≤ oth ∧ oth < 256) :
    Bs (l.set i (Go.bits .xor .u8 l[i] oth)) ∧ (fnv (l.set i (Go.bits .xor .u8 l[i] oth)) = fnv l ↔ oth = 0) := by
  have hli := hb l[i] (List.getElem_mem hi)
  have hx := xor_byte l[i] oth hli ho
  have hlt : l[i].toNat ^^^ oth.toNat < 2 ^ 8 := Nat.xor_lt_two_pow (by omega) (by omega)
  constructor
  · intro x hm
    rcases List.mem_or_eq_of_mem_set hm with h | h
    · exact hb x h
    · rw [h, hx]; omega
  · have h1 : nats (l.set i (Go.bits .xor .u8 l[i] oth)) = (nats l).set i (l[i].toNat ^^^ oth.toNat) := by
      rw [nats, List.map_set, hx, Int.toNat_natCast]; rfl
    have hni : i < (nats l).length := by rw [nats, List.length_map]; exact hi
    have h2 := sumFrom_set (nats l) (nats_lt hb) i 14695981039346656037 (l[i].toNat ^^^ oth.toNat) hni (by decide) (by omega)
    have h3 : (nats l)[i] = l[i].toNat := by simp [nats]
    rw [fnv, fnv, h1, h2, h3, xor_other]
    omega
theorem last (l : List Int) (hb : Bs l) (more : Int) (hm : 0 ≤ more ∧ more < 256) :
    Bs (l ++ [more]) ∧ IntKind.u64.wrap (Go.bits .xor .u64 ((fnv l : Nat) : Int) (IntKind.u64.wrap more) * 1099511628211) = ((fnv (l ++ [more]) : Nat) : Int) := by
  constructor
  · intro x hx
    rcases List.mem_append.mp hx with h | h
    · exact hb x h
    · rw [List.mem_singleton.mp h]; exact hm
  · rw [step_prog (fnv l) more (sumFrom_lt _ _ (by decide)) hm, fnv, fnv, show nats (l ++ [more]) = nats l ++ [more.toNat] from List.map_append .., sumFrom_snoc]
theorem By.get_ {W : World} {g n cap : Nat} {xs : List Int} (h : By W g n cap xs) (X : Int) (hj : X.toNat < n) : W.cell? ⟨g, X.toNat, none⟩ = some (.int .u8 (rd xs X)) := h.get X.toNat hj
theorem By.free_ {W : World} {g n cap : Nat} {xs : List Int} (h : By W g n cap xs) (X : Int) (hj : X.toNat < n) : W.frozen? ⟨g, X.toNat, none⟩ = false := h.free X.toNat (by obtain ⟨_, _, _, _, _, _, h5, _, _⟩ := h; omega)
theorem sum_set {w1 : World} {g n cap : Nat} {l : List Int} (hy : By w1 g n cap l) (X V : Int) (hb : Bs (l.set X.toNat V)) (hl : l.length ≤ 1000000000) :
    Calls Tryz.prog 5 #[.slice (some ⟨g, 0, none⟩) n cap] (w1.setCell ⟨g, X.toNat, none⟩ (.int .u8 V)) fun e w' => e = .returned (.int .u64 ((fnv (l.set X.toNat V) : Nat) : Int)) ∧ ∀ w0 : World, Below w0.heap.size w0 w1 → w0.heap.size ≤ g → Below w0.heap.size w0 w' := by
  have h5 : n ≤ cap ∧ l.length = n := by obtain ⟨_, _, _, _, _, h4, h5, _, _⟩ := hy; exact ⟨h5, h4⟩
  refine (sum_call (l.set X.toNat V) hb (by rw [List.length_set]; exact hl) (some ⟨g, 0, none⟩) n cap (by rw [List.length_set]; exact h5.2) h5.1 _ (hy.set_ _ _).reads).mono ?_
  rintro e w2 ⟨rfl, hd⟩
  exact ⟨rfl, fun w0 hB hg => below_step (hB.setCell (p := ⟨g, X.toNat, none⟩) hg (.int .u8 V)) hd.below⟩
set_option maxHeartbeats 400000 in
set_option maxRecDepth 100000 in

theorem many_ (bb : Bool) (hL : Lives) (A : Option Addr) (c : Nat) (l : List Int) (pos oth more : Int) (w : World) (hr : (Kd.int .u8).C w A l.length l) (hc : l.length ≤ c) (hb : Bs l) (h0 : l.length ≠ 0) (h1 : l.length ≤ 3000)
    (ho : 0 ≤ oth ∧ oth < 256) (hm : 0 ≤ more ∧ more < 256) (e0 : (oth == 0) = bb) (e0' : decide (oth = 0) = bb)
    (e1 : (fnv (l.set (Xi pos l.length).toNat (Go.bits .xor .u8 (rd l (Xi pos l.length)) oth)) == fnv l) = bb) (e2 : decide (fnv (l.set (Xi pos l.length).toNat (Go.bits .xor .u8 (rd l (Xi pos l.length)) oth)) = fnv l) = bb) (e3 : decide (((fnv (l.set (Xi pos l.length).toNat (Go.bits .xor .u8 (rd l (Xi pos l.length)) oth)) : Nat) : Int) = ((fnv l : Nat) : Int)) = bb) (e4 : (((fnv (l.set (Xi pos l.length).toNat (Go.bits .xor .u8 (rd l (Xi pos l.length)) oth)) : Nat) : Int) == ((fnv l : Nat) : Int)) = bb) :
    Calls Tryz.prog 3 #[.slice A l.length c, .int .i64 pos, .int .u8 oth, .int .u8 more] w fun e w' => e = .returned (.bool true) ∧ Below w.heap.size w w' := by
  have HR := Aside0.mk hr
  have HC := Aside0.mk hc
  have HB := Aside0.mk hb
  have hX := Xi_ok pos l.length h0 h1
  have hXt : (Xi pos l.length).toNat < l.length := by have := hX.1; have := hX.2; clear hX; omega
  have hrd : rd l (Xi pos l.length) = l[(Xi pos l.length).toNat]'hXt := by simp [rd, List.getD_eq_getElem?_getD, List.getElem?_eq_getElem hXt]
  have HD := differ l hb (Xi pos l.length).toNat hXt oth ho
  rw [← hrd] at HD
  have HM := last l hb more hm
  clear hrd hr hc hb
  have hl6 : Aside0 (l.length ≤ 1000000) := ⟨Nat.le_trans h1 (by decide)⟩
  have hl9 : Aside0 (l.length ≤ 1000000000) := ⟨Nat.le_trans h1 (by decide)⟩
  obtain ⟨n, hn⟩ : ∃ n, l.length = n := ⟨_, rfl⟩
  have HN := Aside0.mk hn
  rw [hn] at h0 h1 hX hXt HD HR HC e1 e2 e3 e4 ⊢
  have d0 : decide ((n : Int) = 0) = false := decide_eq_false (by clear hX hXt HD HM; omega)
  have d1 : decide (3000 < (n : Int)) = false := decide_eq_false (by clear hX hXt HD HM; omega)
  have hx0 : (0 ≤ (wrap64 (pos.tmod ↑n + ↑n)).tmod ↑n) = True := eq_true hX.1
  have hx1 : ((wrap64 (pos.tmod ↑n + ↑n)).tmod ↑n < (n : Int)) = True := eq_true hX.2
  have HXT := Aside0.mk hXt
  have HSUM := Aside0.mk HM.2
  have HM1 := Aside0.mk HM.1
  have HD1 := Aside0.mk HD.1
  have HD2 := Aside0.mk HD.2
  clear HD HM ho hm hX hXt hn
  have hn6 : Aside0 (n ≤ 1000000) := ⟨Nat.le_trans h1 (by decide)⟩
  have hl1 : Aside0 ((l ++ [more]).length ≤ 1000000000) := ⟨by rw [List.length_append, HN.out]; exact Nat.le_trans (Nat.add_le_add_right h1 1) (by decide)⟩
  have hl2 : Aside0 ((l ++ [more]).length = n + 1) := ⟨by rw [List.length_append, HN.out]; rfl⟩
  have hL2 : ∀ W : World, Calls Tryz.prog 4 #[] W fun e w' => e = .returned (.bool true) ∧ Below W.heap.size W w' := hL
  go_enter Tryz.func3, Tryz.ntmps3
  cases bb <;>
  (go_wp2_with (first
    | ((with_reducible refine gate_dst (N := 23) rfl ?_); refine str_event rfl rfl (Kd.C_below HR.out BL.out) rfl ?_)
    | ((with_reducible refine gate_dst (N := 24) rfl ?_); refine made_event rfl rfl l HB.out hl6.out rfl ?_; rw [HN.out]; rintro g cap w1 hg hby hbw;
       have kx := By.get_ hby (Xi pos n) HXT.out;
       have kf := By.free_ hby (Xi pos n) HXT.out;
       have BM := Aside0.mk (below_step BL.out hbw); have BY := Aside0.mk hby; have GE := Aside0.mk (Nat.le_trans (below_size BL.out) hg); clear hby hbw hg BL)
    | ((with_reducible refine gate_dst (N := 53) rfl ?_); go_loud (refine gate_guard (by rfl) ?_); dsimp only; go_loud (refine str_event rfl rfl (Kd.C_below HR.out BL.out) rfl ?_))
    | ((with_reducible refine gate_dst (N := 54) rfl ?_); refine gate_guard (by rfl) ?_; dsimp only; refine made_event rfl rfl l HB.out hl6.out rfl ?_; rw [HN.out]; rintro g2 cap2 w4 hg hby hbw;
       have BM := Aside0.mk (below_step BL.out hbw); have BY := Aside0.mk hby; have GE := Aside0.mk (Nat.le_trans (below_size BL.out) hg); clear hby hbw hg BL)
    | ((with_reducible refine gate_dst (N := 57) rfl ?_); refine gate_guard (by rfl) ?_; dsimp only; refine more_event rfl rfl BY.out more hn6.out rfl rfl ?_; rintro A2 c2 w5 hc2 hC2 hB2;
       have BL := Aside0.mk (hB2 w _ GE.out (below_size BM.out) BM.out); have HC2 := Aside0.mk hC2; have HD3 := Aside0.mk hc2; clear hB2 hC2 hc2 BM BY GE)
    | ((with_reducible refine Calls.mono (sum_call l HB.out hl9.out A n c HN.out HC.out _ HR.out) ?_); rintro e w2 ⟨rfl, hd⟩; have BL := Aside0.mk hd.below; clear hd)
    | ((with_reducible refine Calls.mono (sum_set BY.out (Xi pos n) (Go.bits .xor .u8 (rd l (Xi pos n)) oth) HD1.out hl9.out) ?_); rintro e w3 ⟨rfl, hd⟩; have BL := Aside0.mk (hd w BM.out GE.out); clear hd kx kf BM BY GE)
    | ((with_reducible refine Calls.mono (sum_call (l ++ [more]) HM1.out hl1.out A2 (n + 1) c2 hl2.out HD3.out _ HC2.out) ?_); rintro e w6 ⟨rfl, hd⟩; have BL3 := Aside0.mk (below_step BL.out hd.below); have hsum := HSUM.out; clear hd BL HC2)
    | ((with_reducible refine Calls.mono (hL2 _) ?_); rintro e w7 ⟨rfl, hbw⟩)))
  · go_ret
    exact ⟨rfl, below_step BL3.out hbw⟩
  · go_ret
    exact ⟨rfl, below_step BL3.out hbw⟩
/-- the whole law, with lives() as a premise -/
theorem sums (hL : Lives) (A : Option Addr) (c : Nat) (l : List Int) (pos oth more : Int) (w : World) (hr : (Kd.int .u8).C w A l.length l) (hc : l.length ≤ c) (hb : Bs l)
    (ho : 0 ≤ oth ∧ oth < 256) (hm : 0 ≤ more ∧ more < 256) :
    Calls Tryz.prog 3 #[.slice A l.length c, .int .i64 pos, .int .u8 oth, .int .u8 more] w fun e w' => e = .returned (.bool true) ∧ Below w.heap.size w w' := by
  by_cases h : l.length = 0 ∨ 3000 < l.length
  · exact few hL A c l pos oth more w h
  · have h0 : l.length ≠ 0 := fun h0 => h (.inl h0)
    have h1 : l.length ≤ 3000 := Nat.le_of_not_lt fun h1 => h (.inr h1)
    have hX := Xi_ok pos l.length h0 h1
    have hXt : (Xi pos l.length).toNat < l.length := by have := hX.1; have := hX.2; clear hX; omega
    have hrd : rd l (Xi pos l.length) = l[(Xi pos l.length).toNat]'hXt := by simp [rd, List.getD_eq_getElem?_getD, List.getElem?_eq_getElem hXt]
    have HD := (differ l hb (Xi pos l.length).toNat hXt oth ho).2
    rw [← hrd] at HD
    have beq_dec : ∀ a b : Int, (a == b) = decide (a = b) := fun a b => rfl
    have beq_decN : ∀ a b : Nat, (a == b) = decide (a = b) := fun a b => rfl
    have hcast : ∀ a b : Nat, decide (((a : Nat) : Int) = ((b : Nat) : Int)) = decide (a = b) := fun a b => decide_eq_decide.mpr Int.ofNat_inj
    refine many_ (decide (oth = 0)) hL A c l pos oth more w hr hc hb h0 h1 ho hm ?_ rfl ?_ ?_ ?_ ?_
    · exact beq_dec _ _
    · rw [beq_decN]; exact decide_eq_decide.mpr HD
    · exact decide_eq_decide.mpr HD
    · rw [hcast]; exact decide_eq_decide.mpr HD
    · rw [beq_dec, hcast]; exact decide_eq_decide.mpr HD
end Go.Proofs.YtiepfpojkblmbaaGreat.HandT
