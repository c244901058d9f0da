/-
  joustref00's comparisons of effects and cards: of what is the same they answer true. Conditions: none.
-/
import Derived.Test.YtmgdkkkkanjadaaGreatDoorHandJ
import Derived.Deep.CutBlock
/-
  joustref00's comparisons: of what is the same they answer true. Conditions: none.
-/
namespace Go.Proofs.YtmgdkkkkanjadaaGreatDoor.CmpA
set_option linter.unusedVariables false
set_option linter.unusedSimpArgs false
open Go.RowKit Go.Shelf Go.Lib Go.Proofs.YtmgdkkkkanjadaaGreatDoorW.PrintWords Go.Proofs.YtmgdkkkkanjadaaGreatDoorW.PrintLast Go.Proofs.YtmgdkkkkanjadaaGreatDoorW.PrintMore Go.Proofs.YtmgdkkkkanjadaaGreatDoor.X Go.Proofs.YtmgdkkkkanjadaaGreatDoor.HandS Go.Proofs.YtmgdkkkkanjadaaGreatDoor.HandA Go.Proofs.YtmgdkkkkanjadaaGreatDoor.HandB Go.Proofs.YtmgdkkkkanjadaaGreatDoor.HandC Go.Proofs.YtmgdkkkkanjadaaGreatDoor.HandF Go.Proofs.YtmgdkkkkanjadaaGreatDoor.HandG Go.Proofs.YtmgdkkkkanjadaaGreatDoor.HandI
/-- a call that compares: it answers true -/
def Yes (f : Nat) (args : Array Value) (w : World) : Prop := Calls Tryz.prog f args w fun e w' => e = .returned (.bool true) ∧ Below w.heap.size w w'
def SameL {α : Type} (d : Kd α) (f : Nat) (xs : List α) : Prop := ∀ (w : World) (A B : Option Addr) (c c' : Nat), d.C w A xs.length xs → d.C w B xs.length xs → Yes f #[.slice A xs.length c, .slice B xs.length c'] w
def SameE (x : S50) : Prop := ∀ (w : World) (A B : Option Addr) (c c' : Nat), k50.C w A x.f4.length x.f4 → k50.C w B x.f4.length x.f4 → Yes 30 #[.agg #[.int .u8 x.f0, .int .i64 x.f1, .int .u8 x.f2, .int .u8 x.f3.f0, .int .u8 x.f3.f1, .int .u8 x.f3.f2, .slice A x.f4.length c], .agg #[.int .u8 x.f0, .int .i64 x.f1, .int .u8 x.f2, .int .u8 x.f3.f0, .int .u8 x.f3.f1, .int .u8 x.f3.f2, (.slice B x.f4.length c')]] w
set_option maxHeartbeats 4000000 in
set_option maxRecDepth 100000 in
theorem exprS_ (x : S50) (h : SameL k50 11 x.f4) : SameE x:=by
  intro w A B c c' hA hB
  have h1:=blk_new w (.cells #[.int .u8 x.f0,.int .i64 x.f1,.int .u8 x.f2,.int .u8 x.f3.f0,.int .u8 x.f3.f1,.int .u8 x.f3.f2,.slice A x.f4.length c] 50)
  have h2:=blk_new (w.alloc (.cells #[.int .u8 x.f0,.int .i64 x.f1,.int .u8 x.f2,.int .u8 x.f3.f0,.int .u8 x.f3.f1,.int .u8 x.f3.f2,.slice A x.f4.length c] 50)) (.cells #[.int .u8 x.f0,.int .i64 x.f1,.int .u8 x.f2,.int .u8 x.f3.f0,.int .u8 x.f3.f1,.int .u8 x.f3.f2,(.slice B x.f4.length c')] 50)
  have hsz:=size_alloc w (.cells #[.int .u8 x.f0,.int .i64 x.f1,.int .u8 x.f2,.int .u8 x.f3.f0,.int .u8 x.f3.f1,.int .u8 x.f3.f2,.slice A x.f4.length c] 50)
  rw [hsz] at h2
  have h1:=blk_alloc h1 (.cells #[.int .u8 x.f0,.int .i64 x.f1,.int .u8 x.f2,.int .u8 x.f3.f0,.int .u8 x.f3.f1,.int .u8 x.f3.f2,(.slice B x.f4.length c')] 50)
  have HB:=Aside0.mk (below_alloc (below_alloc (Below.refl w.heap.size w) (.cells #[.int .u8 x.f0,.int .i64 x.f1,.int .u8 x.f2,.int .u8 x.f3.f0,.int .u8 x.f3.f1,.int .u8 x.f3.f2,.slice A x.f4.length c] 50)) (.cells #[.int .u8 x.f0,.int .i64 x.f1,.int .u8 x.f2,.int .u8 x.f3.f0,.int .u8 x.f3.f1,.int .u8 x.f3.f2,(.slice B x.f4.length c')] 50))
  have HC := Aside0.mk (h _ A B c c' (Kd.C_below hA HB.out) (Kd.C_below hB HB.out))
  have a0:=(blk_cell h1 0).trans rfl
  have a1:=(blk_cell h1 1).trans rfl
  have a2:=(blk_cell h1 2).trans rfl
  have a3:=(blk_cell h1 3).trans rfl
  have a4:=(blk_cell h1 4).trans rfl
  have a5:=(blk_cell h1 5).trans rfl
  have a6:=(blk_cell h1 6).trans rfl
  have b0:=(blk_cell h2 0).trans rfl
  have b1:=(blk_cell h2 1).trans rfl
  have b2:=(blk_cell h2 2).trans rfl
  have b3:=(blk_cell h2 3).trans rfl
  have b4:=(blk_cell h2 4).trans rfl
  have b5:=(blk_cell h2 5).trans rfl
  have b6:=(blk_cell h2 6).trans rfl
  have hu50:=Tryz.underlying50
  have hu40:=Tryz.underlying40
  obtain ⟨x0,x1,x2,⟨y0,y1,y2⟩,x4⟩:=x
  have q0:=beq_self_eq_true x0
  have q1:=beq_self_eq_true x1
  have q2:=beq_self_eq_true x2
  have q3:=beq_self_eq_true y0
  have q4:=beq_self_eq_true y1
  have q5:=beq_self_eq_true y2
  clear h hA hB h1 h2
  unfold Yes
  go_enter Tryz.func30,Tryz.ntmps30
  go_wp2_with (go_at_call 11;refine HC.out.mono ?_;rintro e w1 ⟨rfl,hb⟩;have HB1:=Aside0.mk hb;clear hb)
  go_ret
  exact ⟨rfl,below_step HB.out HB1.out⟩
set_option maxHeartbeats 16000000 in
set_option maxRecDepth 100000 in
theorem exprs_of (xs : List S50) (h : ∀ x ∈ xs,SameE x) : SameL k50 11 xs:=by
  intro w A B c c' hA hB
  have HA:=Aside0.mk hA
  have HB:=Aside0.mk hB
  have HX:=Aside0.mk h
  have hn:=beq_self_eq_true (xs.length : Int)
  have hu50:=Tryz.underlying50
  obtain ⟨n,hnn⟩ : ∃ n,xs.length = n:=⟨_,rfl⟩
  have HN:=Aside0.mk hnn
  have HM:=Aside0.mk (Kd.C_max hA)
  rw [hnn] at HA HB hn HM ⊢
  clear h hA hB hnn
  unfold Yes
  go_enter Tryz.func11,Tryz.ntmps11
  go_wp2_with fail
  go_loopg [5,6] n (fun g s5 s6 wr=>∃ i : Nat,s5 = .bool true ∧ s6 = .int .i64 (i : Int) ∧ i ≤ n ∧ n - i ≤ g ∧ Aside0 (Below w.heap.size w wr))
  case atStart=>exact ⟨0,rfl,rfl,Nat.zero_le _,Nat.le_refl _,⟨Below.refl _ _⟩⟩
  case round =>
    obtain ⟨i,rfl,rfl,h1,h2,HW⟩:=hrel
    by_cases hlt : i < n
    · have hlt' : decide ((i : Int) < (n : Int)) = true := decide_eq_true (by omega)
      have hi0 : (0 ≤ (i : Int)) = True:=eq_true (by omega)
      have hi1 : ((i : Int) < (n : Int)) = True:=eq_true (by omega)
      have hi2 : (i < n) = True:=eq_true hlt
      have hi3 : decide (i < n) = true:=decide_eq_true hlt
      have ei : wrap64 ((i : Int) + 1) = ((i + 1 : Nat) : Int):=by have:=HM.out;unfold wrap64;omega
      have et : (i : Int).toNat = i:=Int.toNat_natCast i
      obtain ⟨g,rfl⟩ : ∃ g,gk = g + 1:=⟨gk - 1,by omega⟩
      have HXI:=Aside0.mk (HX.out (rd_T50 xs i) (by unfold rd_T50;rw [et,List.getD_eq_getElem?_getD,List.getElem?_eq_getElem (by rw [HN.out];exact hlt)];exact List.getElem_mem _))
      go_wp2_with fail
      have HW:=Aside0.mk (below_drew1 HW.out)
      have hp:=of_eq_true hi0
      have hq:=of_eq_true hi1
      obtain ⟨ad,A6,c6,eA,a0,a1,a2,a3,a4,a5,a6,hl6,HCA⟩:=at_T50 (Kd.C_below HA.out HW.out) i hp hq
      obtain ⟨bd,B6,d6,eB,b0,b1,b2,b3,b4,b5,b6,hm6,HCB⟩:=at_T50 (Kd.C_below HB.out HW.out) i hp hq
      subst eA eB
      have HCC:=Aside0.mk (HXI.out _ A6 B6 c6 d6 HCA HCB)
      have a0w : wr.cell? _ = _:=a0
      have a1w : wr.cell? _ = _:=a1
      have a2w : wr.cell? _ = _:=a2
      have a3w : wr.cell? _ = _:=a3
      have a4w : wr.cell? _ = _:=a4
      have a5w : wr.cell? _ = _:=a5
      have a6w : wr.cell? _ = _:=a6
      have b0w : wr.cell? _ = _:=b0
      have b1w : wr.cell? _ = _:=b1
      have b2w : wr.cell? _ = _:=b2
      have b3w : wr.cell? _ = _:=b3
      have b4w : wr.cell? _ = _:=b4
      have b5w : wr.cell? _ = _:=b5
      have b6w : wr.cell? _ = _:=b6
      clear HCA HCB hl6 hm6 hp hq
      rw [et] at a0 a1 a2 a3 a4 a5 a6 b0 b1 b2 b3 b4 b5 b6 a0w a1w a2w a3w a4w a5w a6w b0w b1w b2w b3w b4w b5w b6w
      generalize rd_T50 xs i = x at *
      go_region_law (first
        | (refine goesP_ Tryz.func30 (by kernel_rfl) rfl #[.agg #[.int .u8 x.f0,.int .i64 x.f1,.int .u8 x.f2,.int .u8 x.f3.f0,.int .u8 x.f3.f1,.int .u8 x.f3.f2,.slice A6 x.f4.length c6],.agg #[.int .u8 x.f0,.int .i64 x.f1,.int .u8 x.f2,.int .u8 x.f3.f0,.int .u8 x.f3.f1,.int .u8 x.f3.f2,(.slice B6 x.f4.length d6)]] (by rfl) rfl rfl (by (try simp only [List.map_toArray,List.map_cons,List.map_nil]);first | done | rfl) ?_
           refine HCC.out.mono ?_
           rintro e w8 ⟨rfl,hb⟩
           have HW8:=Aside0.mk (below_step HW.out hb)
           clear hb))
      all_goals
        go_wp2_with fail
        go_roundg g
        case measure=>omega
        case rel=>exact ⟨i + 1,rfl,by first | rfl | rw [ei],by omega,by omega,HW8⟩
    · have hlt' : decide ((i : Int) < (n : Int)) = false := decide_eq_false (by omega)
      have hi3 : decide (i < n) = false:=decide_eq_false hlt
      have hi4 : (i < n) = False:=eq_false hlt
      have hi5 : ((i : Int) < (n : Int)) = False:=eq_false (by omega)
      go_wp2_with fail
      go_ret
      exact ⟨rfl,HW.out⟩
end Go.Proofs.YtmgdkkkkanjadaaGreatDoor.CmpA
namespace Go.Proofs.YtmgdkkkkanjadaaGreatDoor.CmpA
set_option linter.unusedVariables false
set_option linter.unusedSimpArgs false
open Go.RowKit Go.Shelf Go.Lib Go.Proofs.YtmgdkkkkanjadaaGreatDoorW.PrintWords Go.Proofs.YtmgdkkkkanjadaaGreatDoorW.PrintLast Go.Proofs.YtmgdkkkkanjadaaGreatDoorW.PrintMore Go.Proofs.YtmgdkkkkanjadaaGreatDoor.X Go.Proofs.YtmgdkkkkanjadaaGreatDoor.HandS Go.Proofs.YtmgdkkkkanjadaaGreatDoor.HandA Go.Proofs.YtmgdkkkkanjadaaGreatDoor.HandB Go.Proofs.YtmgdkkkkanjadaaGreatDoor.HandC Go.Proofs.YtmgdkkkkanjadaaGreatDoor.HandF Go.Proofs.YtmgdkkkkanjadaaGreatDoor.HandG Go.Proofs.YtmgdkkkkanjadaaGreatDoor.HandI
theorem same_E : ∀ x : S50,SameE x
  | ⟨a,b,c,d,e⟩=>exprS_ ⟨a,b,c,d,e⟩ (exprs_of e (fun y hy=>same_E y))
theorem same_L (xs : List S50) : SameL k50 11 xs:=exprs_of xs (fun y _=>same_E y)
def SameF (x : S43) : Prop := ∀ (w : World) (A B A2 B2 : Option Addr) (c c' e e' : Nat), k50.C w A x.f3.length x.f3 → k50.C w B x.f3.length x.f3 → k52.C w A2 x.f9.length x.f9 → k52.C w B2 x.f9.length x.f9 →
  Yes 64 #[.agg #[.int .u8 x.f0,.int .u8 x.f1,.int .u8 x.f2,.slice A x.f3.length c,.int .i64 x.f4,.int .i64 x.f5,.bool x.f6,.int .i64 x.f7,.int .u8 x.f8.f0,.int .u8 x.f8.f1,.int .u8 x.f8.f2,.slice A2 x.f9.length e],.agg #[.int .u8 x.f0,.int .u8 x.f1,.int .u8 x.f2,.slice B x.f3.length c',.int .i64 x.f4,.int .i64 x.f5,.bool x.f6,.int .i64 x.f7,.int .u8 x.f8.f0,.int .u8 x.f8.f1,.int .u8 x.f8.f2,(.slice B2 x.f9.length e')]] w
def SameC (x : S38) : Prop := ∀ (w : World) (A B : Option Addr) (c c' : Nat), k43.C w A x.f5.length x.f5 → k43.C w B x.f5.length x.f5 →
  Yes 29 #[.agg #[.string x.f0,.int .u8 x.f1,.int .i64 x.f2,.int .i64 x.f3,.int .i64 x.f4,.slice A x.f5.length c],.agg #[.string x.f0,.int .u8 x.f1,.int .i64 x.f2,.int .i64 x.f3,.int .i64 x.f4,(.slice B x.f5.length c')]] w
section
theorem skip_row {ops : Array Oper} {oi : Oper} {a : Act} {W : World} {K : Act → World → Prop} {Q : Exit → Act → World → Prop} (hw : Region.wanted oi (yielded ops a.tmps) = true) (hN : oi.dst = none) {ty : TypeId} {u y : Operand} (ho : oi.op = .store ty u y) (g : Nat) (cells : Array Value)
    (hx : a.eval u = .pointer (some ⟨g,0,none⟩)) (hy : a.eval y = .agg cells) {t : TypeId} {old : Array Value} (hg : W.heap[g]? = some (.cells old t (0,0))) (hi : (Tryz.prog.info? ty).map (·.size) = some cells.size) (hold : old.size = cells.size) (h1 : cells.all (·.oneCell') = true)
    (h : ∀ W1,W1.heap[g]? = some (.cells cells t (0,0)) → W.grownBy W1 (some g) → K a W1) : if Region.wanted oi (yielded ops a.tmps) = true then Oper.wp Tryz.prog oi a W K Q else K (a.put none undef) W:=by
  rw [if_pos hw]
  refine wp_store_row ty u y ho g cells hx hy t old hg hi hold h1 ?_
  rw [hN]
  exact h _ (setRow_at hg) (grown_setRow W g cells)
end
def T5 : Bool × List (List Nat × List Nat):=(true,[([],[]),([0],[0]),([],[]),([1,2],[1,2]),([3],[3]),([],[]),([5],[5]),([],[]),([6,7],[6,7]),([8],[8]),([],[]),([],[]),([10,4,0,1,2,3,4,10,11],[4,10]),([11,9,12,0,1,2,3,4,5,6,7,8,9,10,11,12],[9,11])])
def B5 : List Nat:=[0,1,0,7,15,0,32,0,224,480,0,0,3103,8191]
theorem tab5 : rtab .any (opsOf Tryz.f64 5) = T5:=by kernel_rfl
theorem bits5 : waitsOk T5.2 B5 = true:=by kernel_rfl
set_option maxHeartbeats 32000000 in
set_option maxRecDepth 100000 in
theorem effect_of (x : S43) : SameF x:=by
  intro w A B A2 B2 c c' e e' hA hB hA2 hB2
  obtain ⟨x0,x1,x2,x3,x4,x5,x6,x7,⟨y0,y1,y2⟩,xs⟩:=x
  dsimp only at hA hB hA2 hB2 ⊢
  obtain ⟨n,hnn⟩ : ∃ n,xs.length = n:=⟨_,rfl⟩
  have HN:=Aside0.mk hnn
  have HM:=Aside0.mk (Kd.C_max hA2)
  rw [hnn] at hA2 hB2 HM ⊢
  have h1:=blk_alloc (blk_new w (.cells #[.int .u8 x0,.int .u8 x1,.int .u8 x2,.slice A x3.length c,.int .i64 x4,.int .i64 x5,.bool x6,.int .i64 x7,.int .u8 y0,.int .u8 y1,.int .u8 y2,.slice A2 n e] 43)) (.cells #[.int .u8 x0,.int .u8 x1,.int .u8 x2,.slice B x3.length c',.int .i64 x4,.int .i64 x5,.bool x6,.int .i64 x7,.int .u8 y0,.int .u8 y1,.int .u8 y2,(.slice B2 n e')] 43)
  have h2:=blk_new (w.alloc (.cells #[.int .u8 x0,.int .u8 x1,.int .u8 x2,.slice A x3.length c,.int .i64 x4,.int .i64 x5,.bool x6,.int .i64 x7,.int .u8 y0,.int .u8 y1,.int .u8 y2,.slice A2 n e] 43)) (.cells #[.int .u8 x0,.int .u8 x1,.int .u8 x2,.slice B x3.length c',.int .i64 x4,.int .i64 x5,.bool x6,.int .i64 x7,.int .u8 y0,.int .u8 y1,.int .u8 y2,(.slice B2 n e')] 43)
  rw [size_alloc] at h2
  have HW:=Aside0.mk (below_alloc (below_alloc (Below.refl w.heap.size w) (.cells #[.int .u8 x0,.int .u8 x1,.int .u8 x2,.slice A x3.length c,.int .i64 x4,.int .i64 x5,.bool x6,.int .i64 x7,.int .u8 y0,.int .u8 y1,.int .u8 y2,.slice A2 n e] 43)) (.cells #[.int .u8 x0,.int .u8 x1,.int .u8 x2,.slice B x3.length c',.int .i64 x4,.int .i64 x5,.bool x6,.int .i64 x7,.int .u8 y0,.int .u8 y1,.int .u8 y2,(.slice B2 n e')] 43))
  have HC := Aside0.mk (same_L x3 _ A B c c' (Kd.C_below hA HW.out) (Kd.C_below hB HW.out))
  have a0:=(blk_cell h1 0).trans rfl
  have b0:=(blk_cell h2 0).trans rfl
  have a1:=(blk_cell h1 1).trans rfl
  have b1:=(blk_cell h2 1).trans rfl
  have a2:=(blk_cell h1 2).trans rfl
  have b2:=(blk_cell h2 2).trans rfl
  have a3:=(blk_cell h1 3).trans rfl
  have b3:=(blk_cell h2 3).trans rfl
  have a4:=(blk_cell h1 4).trans rfl
  have b4:=(blk_cell h2 4).trans rfl
  have a5:=(blk_cell h1 5).trans rfl
  have b5:=(blk_cell h2 5).trans rfl
  have a6:=(blk_cell h1 6).trans rfl
  have b6:=(blk_cell h2 6).trans rfl
  have a7:=(blk_cell h1 7).trans rfl
  have b7:=(blk_cell h2 7).trans rfl
  have a8:=(blk_cell h1 8).trans rfl
  have b8:=(blk_cell h2 8).trans rfl
  have a9:=(blk_cell h1 9).trans rfl
  have b9:=(blk_cell h2 9).trans rfl
  have a10:=(blk_cell h1 10).trans rfl
  have b10:=(blk_cell h2 10).trans rfl
  have a11:=(blk_cell h1 11).trans rfl
  have b11:=(blk_cell h2 11).trans rfl
  have HA:=Aside0.mk hA2
  have HB:=Aside0.mk hB2
  have H1:=Aside0.mk h1
  have H2:=Aside0.mk h2
  have hu43:=Tryz.underlying43
  have hu40:=Tryz.underlying40
  have hu52:=Tryz.underlying52
  have hu50:=Tryz.underlying50
  have q0:=beq_self_eq_true x0
  have q1:=beq_self_eq_true x1
  have q2:=beq_self_eq_true x2
  have q3:=beq_self_eq_true x4
  have q4:=beq_self_eq_true x5
  have q5:=beq_self_eq_true x6
  have q6:=beq_self_eq_true x7
  have q7:=beq_self_eq_true y0
  have q8:=beq_self_eq_true y1
  have q9:=beq_self_eq_true y2
  have q10:=beq_self_eq_true (n : Int)
  clear hA hB hA2 hB2 h1 h2 hnn
  unfold Yes
  go_enter Tryz.func64,Tryz.ntmps64
  go_wp2_with (first | (go_at_call 11;refine HC.out.mono ?_;rintro e1 w1 ⟨rfl,hb⟩;have HW1:=Aside0.mk (below_step HW.out hb);have H3:=Aside0.mk (blk_below H1.out hb);have H4:=Aside0.mk (blk_below H2.out hb);clear hb a0 a1 a2 a3 a4 a5 a6 a7 a8 a9 a10 a11 b0 b1 b2 b3 b4 b5 b6 b7 b8 b9 b10 b11;have a11:=(blk_cell H3.out 11).trans rfl;have b11:=(blk_cell H4.out 11).trans rfl))
  clear a11 b11
  go_loopg [5,6] n (fun g s5 s6 wr=>∃ i : Nat,s5 = .bool true ∧ s6 = .int .i64 (i : Int) ∧ i ≤ n ∧ n - i ≤ g ∧ Aside0 (Below w.heap.size w wr) ∧ Aside0 (wr.heap[w.heap.size]? = some (.cells #[.int .u8 x0,.int .u8 x1,.int .u8 x2,.slice A x3.length c,.int .i64 x4,.int .i64 x5,.bool x6,.int .i64 x7,.int .u8 y0,.int .u8 y1,.int .u8 y2,.slice A2 n e] 43 (0,0))) ∧ Aside0 (wr.heap[w.heap.size + 1]? = some (.cells #[.int .u8 x0,.int .u8 x1,.int .u8 x2,.slice B x3.length c',.int .i64 x4,.int .i64 x5,.bool x6,.int .i64 x7,.int .u8 y0,.int .u8 y1,.int .u8 y2,.slice B2 n e'] 43 (0,0))))
  case atStart=>exact ⟨0,rfl,rfl,Nat.zero_le _,Nat.le_refl _,HW1,H3,H4⟩
  case round =>
    clear HW H1 H2 HW1 H3 H4 HC
    obtain ⟨i,rfl,rfl,h1,h2,HW,H1,H2⟩:=hrel
    have z1 : wr.cell? ⟨w.heap.size,11,none⟩ = _:=(blk_cell H1.out 11).trans rfl
    have z2 : wr.cell? ⟨w.heap.size + 1,11,none⟩ = _:=(blk_cell H2.out 11).trans rfl
    by_cases hlt : i < n
    · have hlt' : decide ((i : Int) < (n : Int)) = true := decide_eq_true (by omega)
      have hi0 : (0 ≤ (i : Int)) = True:=eq_true (by omega)
      have hi1 : ((i : Int) < (n : Int)) = True:=eq_true (by omega)
      have hi2 : (i < n) = True:=eq_true hlt
      have hi3 : decide (i < n) = true:=decide_eq_true hlt
      have ei : wrap64 ((i : Int) + 1) = ((i + 1 : Nat) : Int):=by have:=HM.out;unfold wrap64;omega
      have et : (i : Int).toNat = i:=Int.toNat_natCast i
      obtain ⟨g,rfl⟩ : ∃ g,gk = g + 1:=⟨gk - 1,by omega⟩
      go_wp2_with fail
      have HW:=Aside0.mk (below_drew1 HW.out)
      have H1:=Aside0.mk (blk_drew H1.out)
      have H2:=Aside0.mk (blk_drew H2.out)
      have z1 : wr.drew.cell? ⟨w.heap.size,11,none⟩ = _:=z1
      have z2 : wr.drew.cell? ⟨w.heap.size + 1,11,none⟩ = _:=z2
      obtain ⟨ad,A8,c8,eA,a0,a1,a2,a3,a4,a5,a6,a7,a8,a9,a10,a11,a12,hl8,HC8⟩:=at_T52 (Kd.C_below HA.out HW.out) i (of_eq_true hi0) (of_eq_true hi1)
      obtain ⟨bd,B8,d8,eB,b0,b1,b2,b3,b4,b5,b6,b7,b8,b9,b10,b11,b12,hm8,HD8⟩:=at_T52 (Kd.C_below HB.out HW.out) i (of_eq_true hi0) (of_eq_true hi1)
      subst eA eB
      have HCC:=Aside0.mk (fun (w2 : World) (hb : Below wr.drew.heap.size wr.drew w2)=>same_E (rd_T52 xs i).f2 w2 A8 B8 c8 d8 (Kd.C_below HC8 hb) (Kd.C_below HD8 hb))
      clear HC8 HD8 hl8 hm8
      rw [et] at a0 a1 a2 a3 a4 a5 a6 a7 a8 a9 a10 a11 a12 b0 b1 b2 b3 b4 b5 b6 b7 b8 b9 b10 b11 b12
      generalize rd_T52 xs i = s at *
      refine start_ (n := 14) (S := fun w' => Below wr.drew.heap.size wr.drew w') (ds := []) #[false, false, false, false, false, false, false, false, false, false, false, false, false, false] (by kernel_rfl) rfl rfl (Below.refl _ _) (fun hS => ?_); refine with_tabW tab5 bits5 (fun HT_ HW_ => ?_)
      have HS:=Aside0.mk (show Below wr.drew.heap.size wr.drew wr.drew from hS)
      clear hS
      generalize wr.drew = w1 at *
      refine pure_ (i := 0) (N := some 89) (v := ?_) (a' := ?_) #[true, false, false, false, false, false, false, false, false, false, false, false, false, false] rfl rfl (any_of HT_.out (by kernel_rfl)) (fun _ _ _ h => h) (Or.inl ⟨by rfl, ?_⟩) ?_ ?_
      rotate_left
      · intro w';go_simp;with_reducible rfl
      rotate_left
      · simp only [Act.put,List.setIfInBounds_toArray,List.set_cons_zero,List.set_cons_succ,i64_w,i32_w];rfl
      refine pure_ (i := 2) (N := some 91) (v := ?_) (a' := ?_) #[true, false, true, false, false, false, false, false, false, false, false, false, false, false] rfl rfl (any_of HT_.out (by kernel_rfl)) (fun _ _ _ h => h) (Or.inl ⟨by rfl, ?_⟩) ?_ ?_
      rotate_left
      · intro w';go_simp;with_reducible rfl
      rotate_left
      · simp only [Act.put,List.setIfInBounds_toArray,List.set_cons_zero,List.set_cons_succ,i64_w,i32_w];rfl
      refine pure_ (i := 5) (N := some 94) (v := ?_) (a' := ?_) #[true, false, true, false, false, true, false, false, false, false, false, false, false, false] rfl rfl (any_of HT_.out (by kernel_rfl)) (fun _ _ _ h => h) (Or.inl ⟨by rfl, ?_⟩) ?_ ?_
      rotate_left
      · intro w';go_simp;with_reducible rfl
      rotate_left
      · simp only [Act.put,List.setIfInBounds_toArray,List.set_cons_zero,List.set_cons_succ,i64_w,i32_w];rfl
      refine pure_ (i := 7) (N := some 96) (v := ?_) (a' := ?_) #[true, false, true, false, false, true, false, true, false, false, false, false, false, false] rfl rfl (any_of HT_.out (by kernel_rfl)) (fun _ _ _ h => h) (Or.inl ⟨by rfl, ?_⟩) ?_ ?_
      rotate_left
      · intro w';go_simp;with_reducible rfl
      rotate_left
      · simp only [Act.put,List.setIfInBounds_toArray,List.set_cons_zero,List.set_cons_succ,i64_w,i32_w];rfl
      refine take_ (i := 1) (N := some 90) (v := ?_) (a' := ?_) #[true, true, true, false, false, true, false, true, false, false, false, false, false, false] rfl rfl (take_ofW HT_.out HW_.out (by kernel_rfl)) (fun _ _ _ h => h) (Or.inl ⟨by rfl, ?_⟩) HS.out ?_ ?_
      rotate_left
      · intro w' hS
        have k0:=pw_cell_below hS z1
        clear hS;go_simp;with_reducible rfl
      rotate_left
      · simp only [Act.put,List.setIfInBounds_toArray,List.set_cons_zero,List.set_cons_succ,i64_w,i32_w];rfl
      refine pure_ (i := 3) (N := some 92) (v := ?_) (a' := ?_) #[true, true, true, true, false, true, false, true, false, false, false, false, false, false] rfl rfl (any_of HT_.out (by kernel_rfl)) (fun _ _ _ h => h) (Or.inl ⟨by rfl, ?_⟩) ?_ ?_
      rotate_left
      · intro w';go_simp;with_reducible rfl
      rotate_left
      · simp only [Act.put,List.setIfInBounds_toArray,List.set_cons_zero,List.set_cons_succ,i64_w,i32_w];rfl
      refine take_ (i := 4) (N := some 93) (v := ?_) (a' := ?_) #[true, true, true, true, true, true, false, true, false, false, false, false, false, false] rfl rfl (take_ofW HT_.out HW_.out (by kernel_rfl)) (fun _ _ _ h => h) (Or.inl ⟨by rfl, ?_⟩) HS.out ?_ ?_
      rotate_left
      · intro w' hS
        have k0:=pw_cell_below hS a0;have k1:=pw_cell_below hS a1;have k2:=pw_cell_below hS a2;have k3:=pw_cell_below hS a3;have k4:=pw_cell_below hS a4;have k5:=pw_cell_below hS a5;have k6:=pw_cell_below hS a6;have k7:=pw_cell_below hS a7;have k8:=pw_cell_below hS a8;have k9:=pw_cell_below hS a9;have k10:=pw_cell_below hS a10;have k11:=pw_cell_below hS a11;have k12:=pw_cell_below hS a12
        clear hS;go_simp;with_reducible rfl
      rotate_left
      · simp only [Act.put,List.setIfInBounds_toArray,List.set_cons_zero,List.set_cons_succ,i64_w,i32_w];rfl
      refine take_ (i := 6) (N := some 95) (v := ?_) (a' := ?_) #[true, true, true, true, true, true, true, true, false, false, false, false, false, false] rfl rfl (take_ofW HT_.out HW_.out (by kernel_rfl)) (fun _ _ _ h => h) (Or.inl ⟨by rfl, ?_⟩) HS.out ?_ ?_
      rotate_left
      · intro w' hS
        have k0:=pw_cell_below hS z2
        clear hS;go_simp;with_reducible rfl
      rotate_left
      · simp only [Act.put,List.setIfInBounds_toArray,List.set_cons_zero,List.set_cons_succ,i64_w,i32_w];rfl
      refine pure_ (i := 8) (N := some 97) (v := ?_) (a' := ?_) #[true, true, true, true, true, true, true, true, true, false, false, false, false, false] rfl rfl (any_of HT_.out (by kernel_rfl)) (fun _ _ _ h => h) (Or.inl ⟨by rfl, ?_⟩) ?_ ?_
      rotate_left
      · intro w';go_simp;with_reducible rfl
      rotate_left
      · simp only [Act.put,List.setIfInBounds_toArray,List.set_cons_zero,List.set_cons_succ,i64_w,i32_w];rfl
      refine take_ (i := 9) (N := some 98) (v := ?_) (a' := ?_) #[true, true, true, true, true, true, true, true, true, true, false, false, false, false] rfl rfl (take_ofW HT_.out HW_.out (by kernel_rfl)) (fun _ _ _ h => h) (Or.inl ⟨by rfl, ?_⟩) HS.out ?_ ?_
      rotate_left
      · intro w' hS
        have k0:=pw_cell_below hS b0;have k1:=pw_cell_below hS b1;have k2:=pw_cell_below hS b2;have k3:=pw_cell_below hS b3;have k4:=pw_cell_below hS b4;have k5:=pw_cell_below hS b5;have k6:=pw_cell_below hS b6;have k7:=pw_cell_below hS b7;have k8:=pw_cell_below hS b8;have k9:=pw_cell_below hS b9;have k10:=pw_cell_below hS b10;have k11:=pw_cell_below hS b11;have k12:=pw_cell_below hS b12
        clear hS;go_simp;with_reducible rfl
      rotate_left
      · simp only [Act.put,List.setIfInBounds_toArray,List.set_cons_zero,List.set_cons_succ,i64_w,i32_w];rfl
      refine join_ (σ := Nat × Nat) 2 #[true, true, true, true, true, true, true, true, true, true, true, true, false, false] (fun s_ => [(7, .pointer (some ⟨s_.1, 0, none⟩)), (8, .pointer (some ⟨s_.2, 0, none⟩))]) (fun s_ w' => Below w1.heap.size w1 w' ∧ w'.heap[s_.1]? = some (.cells #[.int .u8 0, .int .u8 0, .int .u8 0, .int .i64 0, .int .u8 0, .int .u8 0, .int .u8 0, .int .u8 0, .slice none 0 0, .bool false, .int .u8 0, .int .u8 0, .int .u8 0] 52 (0, 0)) ∧ w'.heap[s_.2]? = some (.cells #[.int .u8 0, .int .u8 0, .int .u8 0, .int .i64 0, .int .u8 0, .int .u8 0, .int .u8 0, .int .u8 0, .slice none 0 0, .bool false, .int .u8 0, .int .u8 0, .int .u8 0] 52 (0, 0)) ∧ s_.1 ≠ s_.2 ∧ w1.heap.size ≤ s_.1 ∧ w1.heap.size ≤ s_.2) ?_ ?_
      rotate_left
      · intro hCont
        refine two_ (i:=10) (j:=11) (Ni:=some 7) (Nj:=some 8) #[true,true,true,true,true,true,true,true,true,true,true,false,false,false] #[true,true,true,true,true,true,true,true,true,true,false,true,false,false] rfl rfl rfl rfl (two_of HT_.out (by kernel_rfl)) (by decide) (by decide) (fun K hK=>?_) (fun K hK=>?_)
        · refine box_step ?hg (N:=7) ?hd (cs:=#[.int .u8 0,.int .u8 0,.int .u8 0,.int .i64 0,.int .u8 0,.int .u8 0,.int .u8 0,.int .u8 0,.slice none 0 0,.bool false,.int .u8 0,.int .u8 0,.int .u8 0]) (t:=52) ?hr ?_;(case hd=>rfl);(case hg=>rfl);(case hr=>first | (go_simp;done) | (go_simp;rfl))
          intro p hp w2 hbx hb
          have hS2:=below_step HS.out hb
          refine hK.out _ _ hS2 (fun _=>?_)
          clear hK K
          refine norm_ (a' := ?_) ?_ ?_
          rotate_left
          · show Act.put _ (some 7) _ = _
            simp only [Act.put,List.setIfInBounds_toArray,List.set_cons_zero,List.set_cons_succ,i64_w,i32_w];rfl
          refine one_ (i:=11) (N:=some 8) #[true,true,true,true,true,true,true,true,true,true,true,true,false,false] rfl rfl (one_of HT_.out (by kernel_rfl)) (by decide) (fun K hK=>?_)
          refine box_step ?hg (N:=8) ?hd (cs:=#[.int .u8 0,.int .u8 0,.int .u8 0,.int .i64 0,.int .u8 0,.int .u8 0,.int .u8 0,.int .u8 0,.slice none 0 0,.bool false,.int .u8 0,.int .u8 0,.int .u8 0]) (t:=52) ?hr ?_;(case hd=>rfl);(case hg=>rfl);(case hr=>first | (go_simp;done) | (go_simp;rfl))
          intro q hq w3 hbx2 hb2
          have hS3:=below_step hS2 hb2
          have l1 : p < q:=by rw [hq];exact blk_lt hbx
          have l2 : w1.heap.size ≤ p:=Nat.le_of_eq hp.symm
          refine hK.out _ _ hS3 (fun _=>hCont (p,q) w3 ⟨hS3,blk_below hbx hb2,hbx2,Nat.ne_of_lt l1,l2,Nat.le_trans l2 (Nat.le_of_lt l1)⟩)
        · refine box_step ?hg (N:=8) ?hd (cs:=#[.int .u8 0,.int .u8 0,.int .u8 0,.int .i64 0,.int .u8 0,.int .u8 0,.int .u8 0,.int .u8 0,.slice none 0 0,.bool false,.int .u8 0,.int .u8 0,.int .u8 0]) (t:=52) ?hr ?_;(case hd=>rfl);(case hg=>rfl);(case hr=>first | (go_simp;done) | (go_simp;rfl))
          intro p hp w2 hbx hb
          have hS2:=below_step HS.out hb
          refine hK.out _ _ hS2 (fun _=>?_)
          clear hK K
          refine norm_ (a' := ?_) ?_ ?_
          rotate_left
          · show Act.put _ (some 8) _ = _
            simp only [Act.put,List.setIfInBounds_toArray,List.set_cons_zero,List.set_cons_succ,i64_w,i32_w];rfl
          refine one_ (i:=10) (N:=some 7) #[true,true,true,true,true,true,true,true,true,true,true,true,false,false] rfl rfl (one_of HT_.out (by kernel_rfl)) (by decide) (fun K hK=>?_)
          refine box_step ?hg (N:=7) ?hd (cs:=#[.int .u8 0,.int .u8 0,.int .u8 0,.int .i64 0,.int .u8 0,.int .u8 0,.int .u8 0,.int .u8 0,.slice none 0 0,.bool false,.int .u8 0,.int .u8 0,.int .u8 0]) (t:=52) ?hr ?_;(case hd=>rfl);(case hg=>rfl);(case hr=>first | (go_simp;done) | (go_simp;rfl))
          intro q hq w3 hbx2 hb2
          have hS3:=below_step hS2 hb2
          have l1 : p < q:=by rw [hq];exact blk_lt hbx
          have l2 : w1.heap.size ≤ p:=Nat.le_of_eq hp.symm
          refine hK.out _ _ hS3 (fun _=>hCont (q,p) w3 ⟨hS3,hbx2,blk_below hbx hb2,Nat.ne_of_gt l1,Nat.le_trans l2 (Nat.le_of_lt l1),l2⟩)
      rintro ⟨p,q⟩ w4 ⟨hS4,hp1,hq1,hne,hlp,hlq⟩
      dsimp only at hp1 hq1 hne hlp hlq
      refine norm_ (a' := ?_) ?_ ?_
      rotate_left
      · simp only [putAll,Act.put,List.setIfInBounds_toArray,List.set_cons_zero,List.set_cons_succ];rfl
      refine one_ (i:=12) (N:=none) #[true,true,true,true,true,true,true,true,true,true,true,true,true,false] rfl rfl (one_of HT_.out (by kernel_rfl)) (by decide) (fun K hK=>?_)
      refine skip_row (by rfl) rfl rfl p #[.int .u8 s.f0,.int .u8 s.f1,.int .u8 s.f2.f0,.int .i64 s.f2.f1,.int .u8 s.f2.f2,.int .u8 s.f2.f3.f0,.int .u8 s.f2.f3.f1,.int .u8 s.f2.f3.f2,.slice A8 s.f2.f4.length c8,.bool s.f3,.int .u8 s.f4.f0,.int .u8 s.f4.f1,.int .u8 s.f4.f2] rfl rfl hp1 (by kernel_rfl) rfl (by kernel_rfl) ?_
      intro w5 hp2 hG
      have hq2:=blk_grown hq1 hG (fun e=>hne (Option.some.inj e).symm)
      have hS5:=pw_below_grown hS4 (some p) hS4.size hG (fun k e=>by cases e;exact hlp)
      refine hK.out _ _ hS5 (fun _=>?_)
      clear hK K hG
      refine one_ (i:=13) (N:=none) #[true,true,true,true,true,true,true,true,true,true,true,true,true,true] rfl rfl (one_of HT_.out (by kernel_rfl)) (by decide) (fun K hK=>?_)
      refine skip_row (by rfl) rfl rfl q #[.int .u8 s.f0,.int .u8 s.f1,.int .u8 s.f2.f0,.int .i64 s.f2.f1,.int .u8 s.f2.f2,.int .u8 s.f2.f3.f0,.int .u8 s.f2.f3.f1,.int .u8 s.f2.f3.f2,.slice B8 s.f2.f4.length d8,.bool s.f3,.int .u8 s.f4.f0,.int .u8 s.f4.f1,.int .u8 s.f4.f2] rfl rfl hq2 (by kernel_rfl) rfl (by kernel_rfl) ?_
      intro w6 hq3 hG
      have hp3:=blk_grown hp2 hG (fun e=>hne (Option.some.inj e))
      have hS6:=pw_below_grown hS5 (some q) hS5.size hG (fun k e=>by cases e;exact hlq)
      refine hK.out _ _ hS6 (fun _=>?_)
      clear hK K hG
      refine done_ (done_of HT_.out (by kernel_rfl)) ?_
      have HE:=Aside0.mk (HCC.out w6 hS6)
      have HW6:=Aside0.mk (below_step HW.out hS6)
      have H16:=Aside0.mk (blk_below H1.out hS6)
      have H26:=Aside0.mk (blk_below H2.out hS6)
      clear HT_ HW_ HS HCC HW H1 H2 hS4 hS5 hS6 hp1 hp2 hq1 hq2 hne hlp hlq z1 z2 a0 a1 a2 a3 a4 a5 a6 a7 a8 a9 a10 a11 a12 b0 b1 b2 b3 b4 b5 b6 b7 b8 b9 b10 b11 b12
      have a0:=(blk_cell hp3 0).trans rfl
      have b0:=(blk_cell hq3 0).trans rfl
      have a1:=(blk_cell hp3 1).trans rfl
      have b1:=(blk_cell hq3 1).trans rfl
      have a2:=(blk_cell hp3 2).trans rfl
      have b2:=(blk_cell hq3 2).trans rfl
      have a3:=(blk_cell hp3 3).trans rfl
      have b3:=(blk_cell hq3 3).trans rfl
      have a4:=(blk_cell hp3 4).trans rfl
      have b4:=(blk_cell hq3 4).trans rfl
      have a5:=(blk_cell hp3 5).trans rfl
      have b5:=(blk_cell hq3 5).trans rfl
      have a6:=(blk_cell hp3 6).trans rfl
      have b6:=(blk_cell hq3 6).trans rfl
      have a7:=(blk_cell hp3 7).trans rfl
      have b7:=(blk_cell hq3 7).trans rfl
      have a8:=(blk_cell hp3 8).trans rfl
      have b8:=(blk_cell hq3 8).trans rfl
      have a9:=(blk_cell hp3 9).trans rfl
      have b9:=(blk_cell hq3 9).trans rfl
      have a10:=(blk_cell hp3 10).trans rfl
      have b10:=(blk_cell hq3 10).trans rfl
      have a11:=(blk_cell hp3 11).trans rfl
      have b11:=(blk_cell hq3 11).trans rfl
      have a12:=(blk_cell hp3 12).trans rfl
      have b12:=(blk_cell hq3 12).trans rfl
      obtain ⟨s0,s1,⟨t0,t1,t2,⟨u0,u1,u2⟩,t4⟩,s3,⟨v0,v1,v2⟩⟩:=s
      clear q0 q1 q2 q3 q4 q5 q6 q7 q8 q9 q10 hp3 hq3
      have q0:=beq_self_eq_true s0
      have q1:=beq_self_eq_true s1
      have q2:=beq_self_eq_true s3
      have q3:=beq_self_eq_true v0
      have q4:=beq_self_eq_true v1
      have q5:=beq_self_eq_true v2
      dsimp only at HE
      go_wp2_with (go_at_call 30;refine HE.out.mono ?_;rintro e1 w7 ⟨rfl,hb⟩;have HW7:=Aside0.mk (below_step HW6.out hb);have H17:=Aside0.mk (blk_below H16.out hb);have H27:=Aside0.mk (blk_below H26.out hb);clear hb)
      go_roundg g
      case measure=>omega
      case rel=>exact ⟨i + 1,rfl,by first | rfl | rw [ei],by omega,by omega,HW7,H17,H27⟩
    · have hlt' : decide ((i : Int) < (n : Int)) = false := decide_eq_false (by omega)
      have hi3 : decide (i < n) = false:=decide_eq_false hlt
      have hi4 : (i < n) = False:=eq_false hlt
      have hi5 : ((i : Int) < (n : Int)) = False:=eq_false (by omega)
      go_wp2_with fail
      go_ret
      exact ⟨rfl,HW.out⟩
set_option maxHeartbeats 16000000 in
set_option maxRecDepth 100000 in
theorem cards_of (xs : List S38) (h : ∀ x ∈ xs,SameC x) : SameL k38 10 xs:=by
  intro w A B c c' hA hB
  have HA:=Aside0.mk hA
  have HB:=Aside0.mk hB
  have HX:=Aside0.mk h
  have hn:=beq_self_eq_true (xs.length : Int)
  have hu38:=Tryz.underlying38
  obtain ⟨n,hnn⟩ : ∃ n,xs.length = n:=⟨_,rfl⟩
  have HN:=Aside0.mk hnn
  have HM:=Aside0.mk (Kd.C_max hA)
  rw [hnn] at HA HB hn HM ⊢
  clear h hA hB hnn
  unfold Yes
  go_enter Tryz.func10,Tryz.ntmps10
  go_wp2_with fail
  go_loopg [5,6] n (fun g s5 s6 wr=>∃ i : Nat,s5 = .bool true ∧ s6 = .int .i64 (i : Int) ∧ i ≤ n ∧ n - i ≤ g ∧ Aside0 (Below w.heap.size w wr))
  case atStart=>exact ⟨0,rfl,rfl,Nat.zero_le _,Nat.le_refl _,⟨Below.refl _ _⟩⟩
  case round =>
    obtain ⟨i,rfl,rfl,h1,h2,HW⟩:=hrel
    by_cases hlt : i < n
    · have hlt' : decide ((i : Int) < (n : Int)) = true := decide_eq_true (by omega)
      have hi0 : (0 ≤ (i : Int)) = True:=eq_true (by omega)
      have hi1 : ((i : Int) < (n : Int)) = True:=eq_true (by omega)
      have hi2 : (i < n) = True:=eq_true hlt
      have hi3 : decide (i < n) = true:=decide_eq_true hlt
      have ei : wrap64 ((i : Int) + 1) = ((i + 1 : Nat) : Int):=by have:=HM.out;unfold wrap64;omega
      have et : (i : Int).toNat = i:=Int.toNat_natCast i
      obtain ⟨g,rfl⟩ : ∃ g,gk = g + 1:=⟨gk - 1,by omega⟩
      have HXI:=Aside0.mk (HX.out (rd_T38 xs i) (by unfold rd_T38;rw [et,List.getD_eq_getElem?_getD,List.getElem?_eq_getElem (by rw [HN.out];exact hlt)];exact List.getElem_mem _))
      go_wp2_with fail
      have HW:=Aside0.mk (below_drew1 HW.out)
      have hp:=of_eq_true hi0
      have hq:=of_eq_true hi1
      obtain ⟨ad,A6,c6,eA,a0,a1,a2,a3,a4,a5,hl6,HCA⟩:=at_T38 (Kd.C_below HA.out HW.out) i hp hq
      obtain ⟨bd,B6,d6,eB,b0,b1,b2,b3,b4,b5,hm6,HCB⟩:=at_T38 (Kd.C_below HB.out HW.out) i hp hq
      subst eA eB
      have HCC:=Aside0.mk (HXI.out _ A6 B6 c6 d6 HCA HCB)
      have a0w : wr.cell? _ = _:=a0
      have a1w : wr.cell? _ = _:=a1
      have a2w : wr.cell? _ = _:=a2
      have a3w : wr.cell? _ = _:=a3
      have a4w : wr.cell? _ = _:=a4
      have a5w : wr.cell? _ = _:=a5
      have b0w : wr.cell? _ = _:=b0
      have b1w : wr.cell? _ = _:=b1
      have b2w : wr.cell? _ = _:=b2
      have b3w : wr.cell? _ = _:=b3
      have b4w : wr.cell? _ = _:=b4
      have b5w : wr.cell? _ = _:=b5
      clear HCA HCB hl6 hm6 hp hq
      rw [et] at a0 a1 a2 a3 a4 a5 b0 b1 b2 b3 b4 b5 a0w a1w a2w a3w a4w a5w b0w b1w b2w b3w b4w b5w
      generalize rd_T38 xs i = x at *
      go_region_law (first
        | (refine goesP_ Tryz.func29 (by kernel_rfl) rfl #[.agg #[.string x.f0,.int .u8 x.f1,.int .i64 x.f2,.int .i64 x.f3,.int .i64 x.f4,.slice A6 x.f5.length c6],.agg #[.string x.f0,.int .u8 x.f1,.int .i64 x.f2,.int .i64 x.f3,.int .i64 x.f4,(.slice B6 x.f5.length d6)]] (by rfl) rfl rfl (by (try simp only [List.map_toArray,List.map_cons,List.map_nil]);first | done | rfl) ?_
           refine HCC.out.mono ?_
           rintro e w8 ⟨rfl,hb⟩
           have HW8:=Aside0.mk (below_step HW.out hb)
           clear hb))
      all_goals
        go_wp2_with fail
        go_roundg g
        case measure=>omega
        case rel=>exact ⟨i + 1,rfl,by first | rfl | rw [ei],by omega,by omega,HW8⟩
    · have hlt' : decide ((i : Int) < (n : Int)) = false := decide_eq_false (by omega)
      have hi3 : decide (i < n) = false:=decide_eq_false hlt
      have hi4 : (i < n) = False:=eq_false hlt
      have hi5 : ((i : Int) < (n : Int)) = False:=eq_false (by omega)
      go_wp2_with fail
      go_ret
      exact ⟨rfl,HW.out⟩
set_option maxHeartbeats 16000000 in
set_option maxRecDepth 100000 in
theorem card_of (x : S38) : SameC x:=by
  have h : ∀ e ∈ x.f5,SameF e:=fun e _=>effect_of e
  intro w A B c c' hA hB
  have h1:=blk_new w (.cells #[.string x.f0,.int .u8 x.f1,.int .i64 x.f2,.int .i64 x.f3,.int .i64 x.f4,.slice A x.f5.length c] 38)
  have h2:=blk_new (w.alloc (.cells #[.string x.f0,.int .u8 x.f1,.int .i64 x.f2,.int .i64 x.f3,.int .i64 x.f4,.slice A x.f5.length c] 38)) (.cells #[.string x.f0,.int .u8 x.f1,.int .i64 x.f2,.int .i64 x.f3,.int .i64 x.f4,(.slice B x.f5.length c')] 38)
  have hsz:=size_alloc w (.cells #[.string x.f0,.int .u8 x.f1,.int .i64 x.f2,.int .i64 x.f3,.int .i64 x.f4,.slice A x.f5.length c] 38)
  rw [hsz] at h2
  have h1:=blk_alloc h1 (.cells #[.string x.f0,.int .u8 x.f1,.int .i64 x.f2,.int .i64 x.f3,.int .i64 x.f4,(.slice B x.f5.length c')] 38)
  have HW:=Aside0.mk (below_alloc (below_alloc (Below.refl w.heap.size w) (.cells #[.string x.f0,.int .u8 x.f1,.int .i64 x.f2,.int .i64 x.f3,.int .i64 x.f4,.slice A x.f5.length c] 38)) (.cells #[.string x.f0,.int .u8 x.f1,.int .i64 x.f2,.int .i64 x.f3,.int .i64 x.f4,(.slice B x.f5.length c')] 38))
  obtain ⟨x0,x1,x2,x3,x4,xs⟩:=x
  obtain ⟨n,hnn⟩ : ∃ n,xs.length = n:=⟨_,rfl⟩
  have HN:=Aside0.mk hnn
  have HM:=Aside0.mk (Kd.C_max hA)
  dsimp only at *
  rw [hnn] at hA hB h1 h2 HW HM ⊢
  have HA:=Aside0.mk hA
  have HB:=Aside0.mk hB
  have HX:=Aside0.mk h
  have a0:=(blk_cell h1 0).trans rfl
  have a1:=(blk_cell h1 1).trans rfl
  have a2:=(blk_cell h1 2).trans rfl
  have a3:=(blk_cell h1 3).trans rfl
  have a4:=(blk_cell h1 4).trans rfl
  have a5:=(blk_cell h1 5).trans rfl
  have b0:=(blk_cell h2 0).trans rfl
  have b1:=(blk_cell h2 1).trans rfl
  have b2:=(blk_cell h2 2).trans rfl
  have b3:=(blk_cell h2 3).trans rfl
  have b4:=(blk_cell h2 4).trans rfl
  have b5:=(blk_cell h2 5).trans rfl
  have H1:=Aside0.mk h1
  have H2:=Aside0.mk h2
  have hu38:=Tryz.underlying38
  have hu43:=Tryz.underlying43
  have q0:=beq_self_eq_true x0.toList
  have q1:=beq_self_eq_true x1
  have q2:=beq_self_eq_true x2
  have q3:=beq_self_eq_true x3
  have q4:=beq_self_eq_true x4
  have q5:=beq_self_eq_true (n : Int)
  clear h hA hB h1 h2 hnn hsz
  unfold Yes
  go_enter Tryz.func29,Tryz.ntmps29
  go_wp2_with fail
  clear a0 a1 a2 a3 a4 a5 b0 b1 b2 b3 b4 b5
  go_loopg [5,6] n (fun g s5 s6 wr=>∃ i : Nat,s5 = .bool true ∧ s6 = .int .i64 (i : Int) ∧ i ≤ n ∧ n - i ≤ g ∧ Aside0 (Below w.heap.size w wr) ∧ Aside0 (wr.heap[w.heap.size]? = some (.cells #[.string x0,.int .u8 x1,.int .i64 x2,.int .i64 x3,.int .i64 x4,.slice A n c] 38 (0,0))) ∧ Aside0 (wr.heap[w.heap.size + 1]? = some (.cells #[.string x0,.int .u8 x1,.int .i64 x2,.int .i64 x3,.int .i64 x4,.slice B n c'] 38 (0,0))))
  case atStart=>exact ⟨0,rfl,rfl,Nat.zero_le _,Nat.le_refl _,HW,H1,H2⟩
  case round =>
    clear HW H1 H2
    obtain ⟨i,rfl,rfl,h1,h2,HW,H1,H2⟩:=hrel
    have z1 : wr.cell? ⟨w.heap.size,5,none⟩ = _:=(blk_cell H1.out 5).trans rfl
    have z2 : wr.cell? ⟨w.heap.size + 1,5,none⟩ = _:=(blk_cell H2.out 5).trans rfl
    by_cases hlt : i < n
    · have hlt' : decide ((i : Int) < (n : Int)) = true := decide_eq_true (by omega)
      have hi0 : (0 ≤ (i : Int)) = True:=eq_true (by omega)
      have hi1 : ((i : Int) < (n : Int)) = True:=eq_true (by omega)
      have hi2 : (i < n) = True:=eq_true hlt
      have hi3 : decide (i < n) = true:=decide_eq_true hlt
      have ei : wrap64 ((i : Int) + 1) = ((i + 1 : Nat) : Int):=by have:=HM.out;unfold wrap64;omega
      have et : (i : Int).toNat = i:=Int.toNat_natCast i
      obtain ⟨g,rfl⟩ : ∃ g,gk = g + 1:=⟨gk - 1,by omega⟩
      have HXI:=Aside0.mk (HX.out (rd_T43 xs i) (by unfold rd_T43;rw [et,List.getD_eq_getElem?_getD,List.getElem?_eq_getElem (by rw [HN.out];exact hlt)];exact List.getElem_mem _))
      go_wp2_with fail
      have HW:=Aside0.mk (below_drew1 HW.out)
      have z3 : wr.drew.cell? ⟨w.heap.size,5,none⟩ = _:=z1
      have z4 : wr.drew.cell? ⟨w.heap.size + 1,5,none⟩ = _:=z2
      have H1:=Aside0.mk (blk_drew H1.out)
      have H2:=Aside0.mk (blk_drew H2.out)
      have hp:=of_eq_true hi0
      have hq:=of_eq_true hi1
      obtain ⟨ad,A3,c3,A6,c6,eA,a0,a1,a2,a3,a4,a5,a6,a7,a8,a9,a10,a11,hl3,HC3,hl6,HCA⟩:=at_T43 (Kd.C_below HA.out HW.out) i hp hq
      obtain ⟨bd,B3,d3,B6,d6,eB,b0,b1,b2,b3,b4,b5,b6,b7,b8,b9,b10,b11,hm3,HD3,hm6,HCB⟩:=at_T43 (Kd.C_below HB.out HW.out) i hp hq
      subst eA eB
      have HCC:=Aside0.mk (HXI.out _ A3 B3 A6 B6 c3 d3 c6 d6 HC3 HD3 HCA HCB)
      clear HC3 HD3 HCA HCB hl6 hm6 hl3 hm3 hp hq
      rw [et] at a0 a1 a2 a3 a4 a5 a6 a7 a8 a9 a10 a11 b0 b1 b2 b3 b4 b5 b6 b7 b8 b9 b10 b11
      generalize rd_T43 xs i = x at *
      have a0w : wr.cell? _ = _:=a0
      have a1w : wr.cell? _ = _:=a1
      have a2w : wr.cell? _ = _:=a2
      have a3w : wr.cell? _ = _:=a3
      have a4w : wr.cell? _ = _:=a4
      have a5w : wr.cell? _ = _:=a5
      have a6w : wr.cell? _ = _:=a6
      have a7w : wr.cell? _ = _:=a7
      have a8w : wr.cell? _ = _:=a8
      have a9w : wr.cell? _ = _:=a9
      have a10w : wr.cell? _ = _:=a10
      have a11w : wr.cell? _ = _:=a11
      have b0w : wr.cell? _ = _:=b0
      have b1w : wr.cell? _ = _:=b1
      have b2w : wr.cell? _ = _:=b2
      have b3w : wr.cell? _ = _:=b3
      have b4w : wr.cell? _ = _:=b4
      have b5w : wr.cell? _ = _:=b5
      have b6w : wr.cell? _ = _:=b6
      have b7w : wr.cell? _ = _:=b7
      have b8w : wr.cell? _ = _:=b8
      have b9w : wr.cell? _ = _:=b9
      have b10w : wr.cell? _ = _:=b10
      have b11w : wr.cell? _ = _:=b11
      go_region_law (first
        | (refine goesP_ Tryz.func64 (by kernel_rfl) rfl #[.agg #[.int .u8 x.f0,.int .u8 x.f1,.int .u8 x.f2,.slice A3 x.f3.length c3,.int .i64 x.f4,.int .i64 x.f5,.bool x.f6,.int .i64 x.f7,.int .u8 x.f8.f0,.int .u8 x.f8.f1,.int .u8 x.f8.f2,.slice A6 x.f9.length c6],.agg #[.int .u8 x.f0,.int .u8 x.f1,.int .u8 x.f2,.slice B3 x.f3.length d3,.int .i64 x.f4,.int .i64 x.f5,.bool x.f6,.int .i64 x.f7,.int .u8 x.f8.f0,.int .u8 x.f8.f1,.int .u8 x.f8.f2,(.slice B6 x.f9.length d6)]] (by rfl) rfl rfl (by (try simp only [List.map_toArray,List.map_cons,List.map_nil]);first | done | rfl) ?_
           refine HCC.out.mono ?_
           rintro e w8 ⟨rfl,hb⟩
           have HW8:=Aside0.mk (below_step HW.out hb)
           have H18:=Aside0.mk (blk_below H1.out hb)
           have H28:=Aside0.mk (blk_below H2.out hb)
           clear hb))
      all_goals
        go_wp2_with fail
        go_roundg g
        case measure=>omega
        case rel=>exact ⟨i + 1,rfl,by first | rfl | rw [ei],by omega,by omega,HW8,H18,H28⟩
    · have hlt' : decide ((i : Int) < (n : Int)) = false := decide_eq_false (by omega)
      have hi3 : decide (i < n) = false:=decide_eq_false hlt
      have hi4 : (i < n) = False:=eq_false hlt
      have hi5 : ((i : Int) < (n : Int)) = False:=eq_false (by omega)
      go_wp2_with fail
      go_ret
      exact ⟨rfl,HW.out⟩
theorem same_C (xs : List S38) : SameL k38 10 xs:=cards_of xs (fun y _=>card_of y)
end Go.Proofs.YtmgdkkkkanjadaaGreatDoor.CmpA
