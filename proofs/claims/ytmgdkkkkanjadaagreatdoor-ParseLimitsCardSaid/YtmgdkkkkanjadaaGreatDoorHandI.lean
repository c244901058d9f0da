/-
  parse's reader: an effect. Conditions: what the listed package variables hold.
-/
import Derived.Test.YtmgdkkkkanjadaaGreatDoorHandH
namespace Go.Proofs.YtmgdkkkkanjadaaGreatDoor.HandI
set_option linter.unusedVariables false
set_option linter.unusedSimpArgs false
open Go.RowKit Go.Shelf Go.Lib Go.Proofs.YtmgdkkkkanjadaaGreatDoorW.PrintWords Go.Proofs.YtmgdkkkkanjadaaGreatDoorW.PrintLast Go.Proofs.YtmgdkkkkanjadaaGreatDoorW.PrintMore Go.Proofs.YtmgdkkkkanjadaaGreatDoor.X Go.Proofs.YtmgdkkkkanjadaaGreatDoor.HandS Go.Proofs.YtmgdkkkkanjadaaGreatDoor.HandA Go.Proofs.YtmgdkkkkanjadaaGreatDoor.HandB Go.Proofs.YtmgdkkkkanjadaaGreatDoor.HandC Go.Proofs.YtmgdkkkkanjadaaGreatDoor.HandD Go.Proofs.YtmgdkkkkanjadaaGreatDoor.HandE Go.Proofs.YtmgdkkkkanjadaaGreatDoor.HandF Go.Proofs.YtmgdkkkkanjadaaGreatDoor.HandG Go.Proofs.YtmgdkkkkanjadaaGreatDoor.HandH

abbrev sUpon : ByteArray := ⟨#[117, 112, 111, 110]⟩
abbrev sPays : ByteArray := ⟨#[112, 97, 121, 115]⟩
abbrev sDrops : ByteArray := ⟨#[100, 114, 111, 112, 115]⟩
abbrev sSpends : ByteArray := ⟨#[115, 112, 101, 110, 100, 115]⟩
abbrev sPicks : ByteArray := ⟨#[112, 105, 99, 107, 115]⟩
abbrev sColon : ByteArray := ⟨#[58]⟩
def noS {α : Type} (T : List S69) (s : ByteArray) (k : Nat → Option (Out α)) (j : Nat) : Option (Out α) := obind (mayS T s j) fun b j => match b with
  | true => none
  | false => k j
def effectS (T : List S69) (j : Nat) : Option (Out S43) :=
  obind (oneS T wModes j) fun m j => noS T sUpon (fun j =>
  obind (listF (fun j => isS T sNeeds j) (needS T) 6 [] j) fun ns j => noS T sPays (fun j => noS T sDrops (fun j =>
  obind (mayS T sSpends j) fun sp j => noS T sPicks (fun j =>
  obind (mustS T sColon j) fun _ j =>
  obind (listF (stepIs T) (stepS T) 6 [] j) fun ss j => some (.ok ⟨m, 0, 0, ns, 0, 0, sp, 0, z40, ss⟩ j)) j) j) j) j
abbrev C43 (m : Int) (v3 : Value) (sp : Bool) (v11 : Value) : Array Value := #[.int .u8 m, .int .u8 0, .int .u8 0, v3, .int .i64 0, .int .i64 0, .bool sp, .int .i64 0, .int .u8 0, .int .u8 0, .int .u8 0, v11]
/-- a walk's two blocks behind a call of the reader: the reader's pointer, the row that is built -/
structure Two (x : Cx) (w wr : World) (t : TypeId) (cells : Array Value) (j : Nat) : Prop where
  rd : Rd x wr j
  gr : w.grownBy wr (some x.r)
  box : wr.heap[w.heap.size]? = some (.cells #[.pointer (some ⟨x.r, 0, none⟩)] 54 (0, 0))
  res : wr.heap[w.heap.size + 1]? = some (.cells cells t (0, 0))
  rl : x.r < w.heap.size
  Bl : x.B < w.heap.size
  Wl : x.W0.heap.size ≤ w.heap.size
theorem Two.start {x : Cx} {w : World} {j : Nat} (h : Rd x w j) (t : TypeId) (cells : Array Value) : Two x w ((w.alloc (.cells #[.pointer (some ⟨x.r, 0, none⟩)] 54)).alloc (.cells cells t)) t cells j := by
  have h2 := blk_new (w.alloc (.cells #[.pointer (some ⟨x.r, 0, none⟩)] 54)) (.cells cells t)
  rw [size_alloc] at h2
  exact ⟨h.below_ (below_alloc (below_alloc (Below.refl _ _) _) _), (World.grownBy_alloc w _ _).trans (World.grownBy_alloc _ _ _), blk_alloc (blk_new w _) _, h2, h.rlt, h.Blt, Nat.le_of_lt (Nat.lt_of_le_of_lt h.hr h.rlt)⟩
theorem Two.call {x : Cx} {w wr w1 : World} {t : TypeId} {cells : Array Value} {j i : Nat} (h : Two x w wr t cells j) (hr : Rd x w1 i) (hg : wr.grownBy w1 (some x.r)) : Two x w w1 t cells i :=
  ⟨hr, h.gr.trans hg, own_grown h.box hg (Nat.ne_of_gt h.rl), own_grown h.res hg (by have := h.rl; omega), h.rl, h.Bl, h.Wl⟩
theorem Two.below {x : Cx} {w wr w1 : World} {t : TypeId} {cells : Array Value} {j : Nat} (h : Two x w wr t cells j) (hb : Below wr.heap.size wr w1) : Two x w w1 t cells j :=
  h.call (h.rd.below_ hb) (grown_of_below hb _)
theorem Two.drew {x : Cx} {w wr : World} {t : TypeId} {cells : Array Value} {j : Nat} (h : Two x w wr t cells j) : Two x w wr.drew t cells j := h.below (below_drew1 (Below.refl _ _))
theorem Two.set {x : Cx} {w wr : World} {t : TypeId} {cells : Array Value} {j : Nat} (h : Two x w wr t cells j) (i : Nat) (v : Value) (cells' : Array Value) (e : cells.setIfInBounds i v = cells') : Two x w (wr.setCell ⟨w.heap.size + 1, i, none⟩ v) t cells' j :=
  ⟨h.rd.far (by have := h.Wl; omega) (by have := h.Bl; omega) (by have := h.rl; omega) i v, grown_far h.gr (p := ⟨w.heap.size + 1, i, none⟩) (Nat.le_succ _) v, blk_far h.box (p := ⟨w.heap.size + 1, i, none⟩) (by show w.heap.size ≠ w.heap.size + 1; omega) v, blk_put h.res i v e, h.rl, h.Bl, h.Wl⟩
theorem Two.p0 {x : Cx} {w wr : World} {t : TypeId} {cells : Array Value} {j : Nat} (h : Two x w wr t cells j) : wr.cell? ⟨w.heap.size, 0, none⟩ = some (.pointer (some ⟨x.r, 0, none⟩)) := (blk_cell h.box 0).trans rfl
theorem Two.cell {x : Cx} {w wr : World} {t : TypeId} {cells : Array Value} {j : Nat} (h : Two x w wr t cells j) (i : Nat) : wr.cell? ⟨w.heap.size + 1, i, none⟩ = cells[i]? := blk_cell h.res i
theorem Two.fr {x : Cx} {w wr : World} {t : TypeId} {cells : Array Value} {j : Nat} (h : Two x w wr t cells j) (i : Nat) : wr.frozen? ⟨w.heap.size + 1, i, none⟩ = false := blk_frozen h.res i
theorem no_true {α : Type} {a : Bool} {k : Option (Out α)} {o : Out α} (h : (match a with | true => none | false => k) = some o) : a = false ∧ k = some o := by
  cases a with
  | true => cases h
  | false => exact ⟨rfl, h⟩
structure Ef (x : Cx) (w wr : World) (m : Int) (v3 : Value) (ns : List S50) (sp : Bool) (j : Nat) : Prop where
  two : Two x w wr 43 (C43 m v3 sp (.slice none 0 0)) j
  l3 : k50.R 50 wr (w.heap.size + 1 + 1) (fun _ => True) v3 ns
theorem Ef.call {x : Cx} {w wr w1 : World} {m : Int} {v3 : Value} {ns : List S50} {sp : Bool} {j i : Nat} (h : Ef x w wr m v3 ns sp j) (hr : Rd x w1 i) (hg : wr.grownBy w1 (some x.r)) : Ef x w w1 m v3 ns sp i :=
  ⟨h.two.call hr hg, R_keepG h.l3 hg (by have := h.two.rl; omega)⟩
theorem Ef.set3 {x : Cx} {w wr : World} {m : Int} {v3 v : Value} {ns ms : List S50} {sp : Bool} {j : Nat} (h : Ef x w wr m v3 ns sp j) (hR : k50.R 50 wr (w.heap.size + 1 + 1) (fun _ => True) v ms) : Ef x w (wr.setCell ⟨w.heap.size + 1, 3, none⟩ v) m v ms sp j :=
  ⟨h.two.set 3 v _ rfl, R_keepG hR (grown_set _ _ _ _) (Nat.lt_succ_self _)⟩
theorem Ef.set6 {x : Cx} {w wr : World} {m : Int} {v3 : Value} {ns : List S50} {sp : Bool} {j : Nat} (h : Ef x w wr m v3 ns sp j) (b : Bool) : Ef x w (wr.setCell ⟨w.heap.size + 1, 6, none⟩ (.bool b)) m v3 ns b j :=
  ⟨h.two.set 6 (.bool b) _ rfl, R_keepG h.l3 (grown_set _ _ _ _) (Nat.lt_succ_self _)⟩
theorem modesB (w : World) : Calls Tryz.prog 45 #[] w fun e w' => ∃ kb, e = .returned (.slice (some ⟨kb, 0, none⟩) 7 7) ∧ Wd w' kb wModes ∧ Below w.heap.size w w' :=
  (modes_ w).mono (by rintro e w1 ⟨rfl, rfl⟩; exact ⟨_, rfl, Wd.new _ _, below_alloc (Below.refl _ _) _⟩)
set_option maxHeartbeats 4000000 in
set_option maxRecDepth 100000 in
theorem effect_ (x : Cx) (hG : Tabs x.W0) (w : World) (j : Nat) (h : Rd x w j) {o : Out S43} (ho : effectS x.T j = some o) :
    Calls Tryz.prog 46 #[.pointer (some ⟨x.r, 0, none⟩)] w (Post x w (rItem k43 w.heap.size) o) := by
  have T2 := Aside0.mk (Two.start h 43 Z43)
  have HT := Aside0.mk hG
  unfold effectS at ho
  have HO := Aside0.mk ho
  have hsz : (w.alloc (.cells #[.pointer (some ⟨x.r, 0, none⟩)] 54)).heap.size = w.heap.size + 1 := size_alloc _ _
  have hD := T2.out.drew
  have p0 := hD.p0
  clear h ho hG hD
  go_enter Tryz.func46, Tryz.ntmps46
  go_wp2_with fail
  go_region_law (first
    | (refine goesP_ Tryz.func45 (by kernel_rfl) rfl #[] (by rfl) rfl rfl (by (try simp only [List.map_toArray, List.map_cons, List.map_nil]); first | done | rfl) ?_
       refine (modesB _).mono ?_
       rintro e w1 ⟨kb, rfl, hwd, hb⟩
       have T2 := Aside0.mk (T2.out.drew.below hb)
       have HWD := Aside0.mk hwd
       have p0 := T2.out.p0
       clear hb hwd)
    | (refine goesP_ Tryz.func39 (by kernel_rfl) rfl #[.pointer (some ⟨x.r, 0, none⟩), .slice (some ⟨kb, 0, none⟩) 7 7] (by rfl) rfl rfl (by (try simp only [List.map_toArray, List.map_cons, List.map_nil]); first | done | rfl) ?_
       refine step_ x HO.out (fun o1 h1 => one_ x _ _ T2.out.rd wModes _ 7 HWD.out (by decide) h1) (fun e k w' he hr hg => by subst he; exact ⟨rfl, rfl, hr, T2.out.gr.trans hg⟩) ?_
       rintro m i v w2 hq rfl hr hg
       have T2 := Aside0.mk (T2.out.call hr hg)
       have d0 := T2.out.cell 0
       have e0 := T2.out.fr 0
       have HO := Aside0.mk hq
       clear hq hr hg))
  all_goals
    have e0 : Ef x w (w2.setCell ⟨w.heap.size + 1, 0, none⟩ (.int .u8 m)) m (.slice none 0 0) [] false i := ⟨T2.out.set 0 (.int .u8 m) _ rfl, Kd.R_nil _ _ _ _ _⟩
    have E := Aside0.mk e0
    have p0 := e0.two.p0
    clear e0
    go_wp2_with (first
      | (go_at_call 70; refine step_ x (p := mayS x.T _ _) HO.out (fun o1 h1 => may_ x _ _ E.out.two.rd _ h1) (fun e k w' he hr hg => by subst he; exact ⟨rfl, rfl, hr, E.out.two.gr.trans hg⟩) ?_; rintro a i v w1 hq rfl hr hg; obtain ⟨rfl, hq⟩ := no_true hq; have hE := E.out.call hr hg; have E := Aside0.mk hE; have p0 := hE.two.p0; have HO := Aside0.mk hq; clear hq hr hg hE)
      | (go_at_call 70; refine step_ x HO.out (fun o1 h1 => may_ x _ _ E.out.two.rd _ h1) (fun e k w' he hr hg => by subst he; exact ⟨rfl, rfl, hr, E.out.two.gr.trans hg⟩) ?_; rintro sp i v w1 hq rfl hr hg; have hE := E.out.call hr hg; have d6 := hE.two.cell 6; have e6 := hE.two.fr 6; have hE6 := hE.set6 sp; have E := Aside0.mk hE6; have p0 := hE6.two.p0; have HO := Aside0.mk hq; clear hq hr hg hE hE6)
      | (go_at_call 57; refine step_ x HO.out (fun o1 h1 => list57a x _ _ 6 (by decide) w.heap.size _ _ (fun wr jj hg hr => c73 x _ wr jj hr ((blk_cell (own_grown E.out.two.box hg (Nat.ne_of_gt E.out.two.rl)) 0).trans rfl)) (fun wr jj oo hg hr ho => c74 x HT.out _ wr jj hr (Nat.ne_of_gt E.out.two.rl) (own_grown E.out.two.box hg (Nat.ne_of_gt E.out.two.rl)) ho) E.out.two.rd h1) (fun e k w' he hr hg => by subst he; exact ⟨rfl, rfl, hr, E.out.two.gr.trans hg⟩) ?_; rintro ns i v w1 hq hL hr hg; replace hL := Kd.R_lower hL (Nat.succ_le_of_lt (blk_lt E.out.two.res)); obtain ⟨A3, c3, rfl⟩ := Kd.R_slice hL; have hE := E.out.call hr hg; have d3 := hE.two.cell 3; have e3 := hE.two.fr 3; have hE3 := hE.set3 hL; have E := Aside0.mk hE3; have p0 := hE3.two.p0; have HO := Aside0.mk hq; clear hq hr hg hE hE3 hL)
      | (go_at_call 42; refine step_ x HO.out (fun o1 h1 => must_ x _ _ E.out.two.rd _ h1) (fun e k w' he hr hg => by subst he; exact ⟨rfl, rfl, hr, E.out.two.gr.trans hg⟩) ?_; rintro ua i uv w1 hq rfl hr hg; have hE := E.out.call hr hg; have E := Aside0.mk hE; have p0 := hE.two.p0; have HO := Aside0.mk hq; clear hq hr hg hE)
      | (go_at_call 76; refine step_ x HO.out (fun o1 h1 => list76a x _ _ 6 (by decide) w.heap.size _ _ (fun wr jj hg hr => c77 x _ wr jj hr (own_grown E.out.two.box hg (Nat.ne_of_gt E.out.two.rl))) (fun wr jj oo hg hr ho => stepP_ x HT.out wr jj hr ho) E.out.two.rd h1) (fun e k w' he hr hg => by subst he; exact ⟨rfl, rfl, hr, E.out.two.gr.trans hg⟩) ?_; rintro ss i v w1 hq hL hr hg; injection hq with hq; subst hq; replace hL := Kd.R_lower hL (Nat.succ_le_of_lt (blk_lt E.out.two.res)); obtain ⟨A11, c11, rfl⟩ := Kd.R_slice hL; have hE := E.out.call hr hg; have E := Aside0.mk hE; have HL11 := Aside0.mk hL; have d11 := hE.two.cell 11; have e11 := hE.two.fr 11; have hT3 := hE.two.set 11 (.slice A11 ss.length c11) _ rfl; have T3 := Aside0.mk hT3; have a0 := T3.out.cell 0; have a1 := T3.out.cell 1; have a2 := T3.out.cell 2; have a3 := T3.out.cell 3; have a4 := T3.out.cell 4; have a5 := T3.out.cell 5; have a6 := T3.out.cell 6; have a7 := T3.out.cell 7; have a8 := T3.out.cell 8; have a9 := T3.out.cell 9; have a10 := T3.out.cell 10; have a11 := T3.out.cell 11; clear hr hg hE hT3 hL)
      | ((with_reducible refine gate_store (t := 43) (p := 2) rfl ?_); refine store_row rfl rfl rfl (w.heap.size + 1) _ rfl rfl T3.out.res (by kernel_rfl) rfl (by kernel_rfl) ?_; intro w12 hf2 hg2; have HF2 := Aside0.mk hf2; have HG2 := Aside0.mk hg2; clear hf2 hg2))
    have hrl := E.out.two.rl
    have hBl := E.out.two.Bl
    have hWl := E.out.two.Wl
    refine bodyPost_ret (results_cell_row rfl _ _ (w.heap.size + 1) 43 _ (0, 0) _ rfl HF2.out Tryz.underlying43 rfl (by kernel_rfl)) rfl ?_
    exact ⟨_, rfl, ⟨_, rfl, k43_mkM _ _ _ ⟨m, 0, 0, ns, 0, 0, sp, 0, z40, ss⟩ (Kd.R_lower (R_keepG (R_keepG E.out.l3 (grown_set _ _ _ _) (Nat.lt_succ_self _)) HG2.out (Nat.lt_succ_self _)) (by omega)) (Kd.R_lower (R_keepG (R_keepG HL11.out (grown_set _ _ _ _) (Nat.lt_succ_self _)) HG2.out (Nat.lt_succ_self _)) (by omega))⟩, T3.out.rd.other HG2.out (by omega) (by omega) (by omega), grown_other T3.out.gr HG2.out (Nat.le_succ _)⟩
end Go.Proofs.YtmgdkkkkanjadaaGreatDoor.HandI
