/-
  parse's reader: a card, whole. Conditions: what the listed package variables hold.
-/
import Derived.Test.YtmgdkkkkanjadaaGreatDoorHandJ
namespace Go.Proofs.YtmgdkkkkanjadaaGreatDoor.HandK
set_option linter.unusedVariables false
set_option linter.unusedSimpArgs false
open Go.RowKit Go.Shelf Go.Lib Go.Proofs.YtmgdkkkkanjadaaGreatDoorW.PrintWords Go.Proofs.YtmgdkkkkanjadaaGreatDoorW.PrintLast Go.Proofs.YtmgdkkkkanjadaaGreatDoorW.PrintMore Go.Proofs.YtmgdkkkkanjadaaGreatDoor.X Go.Proofs.YtmgdkkkkanjadaaGreatDoor.HandS Go.Proofs.YtmgdkkkkanjadaaGreatDoor.HandA Go.Proofs.YtmgdkkkkanjadaaGreatDoor.HandB Go.Proofs.YtmgdkkkkanjadaaGreatDoor.HandC Go.Proofs.YtmgdkkkkanjadaaGreatDoor.HandD Go.Proofs.YtmgdkkkkanjadaaGreatDoor.HandE Go.Proofs.YtmgdkkkkanjadaaGreatDoor.HandF Go.Proofs.YtmgdkkkkanjadaaGreatDoor.HandG Go.Proofs.YtmgdkkkkanjadaaGreatDoor.HandH Go.Proofs.YtmgdkkkkanjadaaGreatDoor.HandI Go.Proofs.YtmgdkkkkanjadaaGreatDoor.HandJ

structure Cf (x : Cx) (w wr : World) (nm : ByteArray) (k a b c : Int) (v5 : Value) (es : List S43) (j : Nat) : Prop where
  two : Two x w wr 38 (C38 nm k a b c v5) j
  l5 : k43.R 43 wr (w.heap.size + 1 + 1) (fun _=>True) v5 es
theorem Cf.call {x : Cx} {w wr w1 : World} {nm : ByteArray} {k a b c : Int} {v5 : Value} {es : List S43} {j i : Nat} (h : Cf x w wr nm k a b c v5 es j) (hr : Rd x w1 i) (hg : wr.grownBy w1 (some x.r)) : Cf x w w1 nm k a b c v5 es i :=
  ⟨h.two.call hr hg,R_keepG h.l5 hg (by have:=h.two.rl;omega)⟩
theorem Cf.set5 {x : Cx} {w wr : World} {nm : ByteArray} {k a b c : Int} {v5 v : Value} {es fs : List S43} {j : Nat} (h : Cf x w wr nm k a b c v5 es j) (hR : k43.R 43 wr (w.heap.size + 1 + 1) (fun _=>True) v fs) : Cf x w (wr.setCell ⟨w.heap.size + 1,5,none⟩ v) nm k a b c v fs j :=
  ⟨h.two.set 5 v _ rfl,R_keepG hR (grown_set _ _ _ _) (Nat.lt_succ_self _)⟩
set_option maxHeartbeats 4000000 in
set_option maxRecDepth 100000 in
theorem card_ (x : Cx) (hG : Tabs x.W0) (w : World) (j : Nat) (h : Rd x w j) {o : Out S38} (ho : cardS x.T j = some o) :
    Calls Tryz.prog 17 #[.pointer (some ⟨x.r,0,none⟩)] w (Post x w (rItem k38 w.heap.size) o):=by
  have T2:=Aside0.mk (Two.start h 38 Z38)
  have HT:=Aside0.mk hG
  unfold cardS at ho
  have HO:=Aside0.mk ho
  have hsz : (w.alloc (.cells #[.pointer (some ⟨x.r,0,none⟩)] 54)).heap.size = w.heap.size + 1:=size_alloc _ _
  have hD:=T2.out.drew
  have p0:=hD.p0
  clear h ho hG hD
  go_enter Tryz.func17,Tryz.ntmps17
  go_wp2_with fail
  go_region_law (first
    | (refine goesP_ Tryz.func16 (by kernel_rfl) rfl #[] (by rfl) rfl rfl (by (try simp only [List.map_toArray,List.map_cons,List.map_nil]);first | done | rfl) ?_
       refine (kindsB _).mono ?_
       rintro e w1 ⟨kb,rfl,hwd,hb⟩
       have T2:=Aside0.mk (T2.out.drew.below hb)
       have HWD:=Aside0.mk hwd
       have p0:=T2.out.p0
       clear hb hwd)
    | (refine goesP_ Tryz.func39 (by kernel_rfl) rfl #[.pointer (some ⟨x.r,0,none⟩),.slice (some ⟨kb,0,none⟩) 5 5] (by rfl) rfl rfl (by (try simp only [List.map_toArray,List.map_cons,List.map_nil]);first | done | rfl) ?_
       refine step_ x HO.out (fun o1 h1 => one_ x _ _ T2.out.rd wKinds _ 5 HWD.out (by decide) h1) (fun e k w' he hr hg => by subst he; exact ⟨rfl, rfl, hr, T2.out.gr.trans hg⟩) ?_
       rintro kk i v w2 hq rfl hr hg
       have T2:=Aside0.mk (T2.out.call hr hg)
       have d0:=T2.out.cell 1
       have e0:=T2.out.fr 1
       have HO:=Aside0.mk hq
       clear hq hr hg))
  all_goals
    have t3 : Two x w (w2.setCell ⟨w.heap.size + 1,1,none⟩ (.int .u8 kk)) 38 (C38 ⟨#[]⟩ kk 0 0 0 (.slice none 0 0)) i:=T2.out.set 1 (.int .u8 kk) _ rfl
    have T2:=Aside0.mk t3
    have p0:=t3.p0
    clear t3
    go_wp2_with (first
      | (go_at_call 40; refine step_ x HO.out (fun o1 h1 => of_ x _ _ T2.out.rd 1 h1) (fun e k w' he hr hg => by subst he; exact ⟨rfl, rfl, hr, T2.out.gr.trans hg⟩) ?_; rintro nm i3 v3 w3 hq rfl hr hg; clear HO; have t3 := T2.out.call hr hg; have d0 := t3.cell 0; have e0 := t3.fr 0; have t4 := t3.set 0 (.string nm) (C38 nm kk 0 0 0 (.slice none 0 0)) rfl; have T2 := Aside0.mk t4; have p0 := t4.p0; have d1 := t4.cell 1; clear t3 t4 hr hg; have hu := card_cases hq; clear hq; rcases hu with ⟨rfl, hq⟩ | ⟨hk, hq⟩ <;> have HO := Aside0.mk hq <;> clear hq)
      | fail)
    · have t5:=T2.out.drew
      have T2:=Aside0.mk t5
      have p0:=t5.p0
      clear t5
      go_region_law (first
    | ((refine goesP_ Tryz.func41 (by kernel_rfl) rfl #[.pointer (some ⟨x.r,0,none⟩)] (by rfl) rfl rfl (by (try simp only [List.map_toArray,List.map_cons,List.map_nil]);first | done | rfl) ?_)
       refine step_ x (show (obind (numS x.T _) fun a j => obind (numS x.T j) fun b j => obind (numS x.T j) fun c j => bodyS x.T 0 nm a b c j) = some o from HO.out) (fun o1 h1 => number_ x _ _ HT.out T2.out.rd h1) (fun e k w' he hr hg => by subst he; exact ⟨rfl, rfl, hr, T2.out.gr.trans hg⟩) ?_
       rintro a i w4v w4 hq rfl hr hg
       have t3:=T2.out.call hr hg
       have T2:=Aside0.mk t3
       have p0:=t3.p0
       have g2:=t3.cell 2
       have g3:=t3.cell 3
       have g4:=t3.cell 4
       have f2:=t3.fr 2
       have f3:=t3.fr 3
       have f4:=t3.fr 4
       have HO:=Aside0.mk hq
       clear hq hr hg t3)
    | ((refine goesP_ Tryz.func41 (by kernel_rfl) rfl #[.pointer (some ⟨x.r,0,none⟩)] (by rfl) rfl rfl (by (try simp only [List.map_toArray,List.map_cons,List.map_nil]);first | done | rfl) ?_)
       refine step_ x (show (obind (numS x.T _) fun b j => obind (numS x.T j) fun c j => bodyS x.T 0 nm a b c j) = some o from HO.out) (fun o1 h1 => number_ x _ _ HT.out T2.out.rd h1) (fun e k w' he hr hg => by subst he; exact ⟨rfl, rfl, hr, T2.out.gr.trans hg⟩) ?_
       rintro b i w5v w5 hq rfl hr hg
       have t3:=T2.out.call hr hg
       have T2:=Aside0.mk t3
       have p0:=t3.p0
       have g2:=t3.cell 2
       have g3:=t3.cell 3
       have g4:=t3.cell 4
       have f2:=t3.fr 2
       have f3:=t3.fr 3
       have f4:=t3.fr 4
       have HO:=Aside0.mk hq
       clear hq hr hg t3)
    | ((refine goesP_ Tryz.func41 (by kernel_rfl) rfl #[.pointer (some ⟨x.r,0,none⟩)] (by rfl) rfl rfl (by (try simp only [List.map_toArray,List.map_cons,List.map_nil]);first | done | rfl) ?_)
       refine step_ x (show (obind (numS x.T _) fun c j => bodyS x.T 0 nm a b c j) = some o from HO.out) (fun o1 h1 => number_ x _ _ HT.out T2.out.rd h1) (fun e k w' he hr hg => by subst he; exact ⟨rfl, rfl, hr, T2.out.gr.trans hg⟩) ?_
       rintro c i w6v w6 hq rfl hr hg
       have t3:=T2.out.call hr hg
       have T2:=Aside0.mk t3
       have p0:=t3.p0
       have g2:=t3.cell 2
       have g3:=t3.cell 3
       have g4:=t3.cell 4
       have f2:=t3.fr 2
       have f3:=t3.fr 3
       have f4:=t3.fr 4
       have HO:=Aside0.mk hq
       clear hq hr hg t3))
      all_goals
        have hC : Cf x w (((w6.setCell ⟨w.heap.size + 1,2,none⟩ (.int .i64 a)).setCell ⟨w.heap.size + 1,3,none⟩ (.int .i64 b)).setCell ⟨w.heap.size + 1,4,none⟩ (.int .i64 c)) nm 0 a b c (.slice none 0 0) [] i:=⟨((T2.out.set 2 (.int .i64 a) (C38 nm 0 a 0 0 (.slice none 0 0)) rfl).set 3 (.int .i64 b) (C38 nm 0 a b 0 (.slice none 0 0)) rfl).set 4 (.int .i64 c) (C38 nm 0 a b c (.slice none 0 0)) rfl,Kd.R_nil _ _ _ _ _⟩
        have CF:=Aside0.mk hC
        have p0:=hC.two.p0
        clear hC
        go_wp2_with (first
          | (go_at_call 42; refine step_ x (p := mustS x.T _ _) HO.out (fun o1 h1 => must_ x _ _ CF.out.two.rd _ h1) (fun e k w' he hr hg => by subst he; exact ⟨rfl, rfl, hr, CF.out.two.gr.trans hg⟩) ?_; rintro ua i7 uv w7 hq rfl hr hg; have hC := CF.out.call hr hg; have CF := Aside0.mk hC; have p0 := hC.two.p0; have a0 := hC.two.cell 0; have a1 := hC.two.cell 1; have a2 := hC.two.cell 2; have a3 := hC.two.cell 3; have a4 := hC.two.cell 4; have a5 := hC.two.cell 5; have HO := Aside0.mk hq; clear hq hr hg hC)
          | (go_at_call 43; refine step_ x HO.out (fun o1 h1 => list43a x _ _ 4 (by decide) w.heap.size _ _ (fun wr jj hg hr => c44 x _ wr jj hr (own_grown CF.out.two.box hg (Nat.ne_of_gt CF.out.two.rl))) (fun wr jj oo hg hr ho => effect_ x HT.out wr jj hr ho) CF.out.two.rd h1) (fun e k w' he hr hg => by subst he; exact ⟨rfl, rfl, hr, CF.out.two.gr.trans hg⟩) ?_; rintro es i8 v8 w8 hq hL hr hg; replace hL := Kd.R_lower hL (Nat.succ_le_of_lt (blk_lt CF.out.two.res)); obtain ⟨A5, c5, rfl⟩ := Kd.R_slice hL; have hC := CF.out.call hr hg; have d5 := hC.two.cell 5; have e5 := hC.two.fr 5; have hC5 := hC.set5 hL; have CF := Aside0.mk hC5; have p0 := hC5.two.p0; have HO := Aside0.mk hq; clear hq hr hg hC hC5 hL)
          | ((with_reducible refine gate_store (t:=38) (p:=2) rfl ?_);refine store_row rfl rfl rfl (w.heap.size + 1) _ rfl rfl CF.out.two.res (by kernel_rfl) rfl (by kernel_rfl) ?_;intro w12 hf2 hg2;have HF2:=Aside0.mk hf2;have HG2:=Aside0.mk hg2;clear hf2 hg2))
        have hq:=HO.out
        injection hq with hq
        subst hq
        have hrl:=CF.out.two.rl
        have hBl:=CF.out.two.Bl
        have hWl:=CF.out.two.Wl
        refine bodyPost_ret (results_cell_row rfl _ _ (w.heap.size + 1) 38 _ (0,0) _ rfl HF2.out Tryz.underlying38 rfl (by kernel_rfl)) rfl ?_
        exact ⟨_,rfl,⟨_,rfl,k38_mkM _ _ _ ⟨nm,0,a,b,c,es⟩ (Kd.R_lower (R_keepG CF.out.l5 HG2.out (Nat.lt_succ_self _)) (by omega))⟩,CF.out.two.rd.other HG2.out (by omega) (by omega) (by omega),grown_other CF.out.two.gr HG2.out (Nat.le_succ _)⟩
    · have hC : Cf x w (w3.setCell ⟨w.heap.size + 1,0,none⟩ (.string nm)) nm kk 0 0 0 (.slice none 0 0) [] i3:=⟨T2.out,Kd.R_nil _ _ _ _ _⟩
      have CF:=Aside0.mk hC
      clear hC
      go_wp2_with (first
        | (go_at_call 42; refine step_ x (p := mustS x.T _ _) HO.out (fun o1 h1 => must_ x _ _ CF.out.two.rd _ h1) (fun e k w' he hr hg => by subst he; exact ⟨rfl, rfl, hr, CF.out.two.gr.trans hg⟩) ?_; rintro ua i7 uv w7 hq rfl hr hg; have hC := CF.out.call hr hg; have CF := Aside0.mk hC; have p0 := hC.two.p0; have a0 := hC.two.cell 0; have a1 := hC.two.cell 1; have a2 := hC.two.cell 2; have a3 := hC.two.cell 3; have a4 := hC.two.cell 4; have a5 := hC.two.cell 5; have HO := Aside0.mk hq; clear hq hr hg hC)
        | (go_at_call 43; refine step_ x HO.out (fun o1 h1 => list43a x _ _ 4 (by decide) w.heap.size _ _ (fun wr jj hg hr => c44 x _ wr jj hr (own_grown CF.out.two.box hg (Nat.ne_of_gt CF.out.two.rl))) (fun wr jj oo hg hr ho => effect_ x HT.out wr jj hr ho) CF.out.two.rd h1) (fun e k w' he hr hg => by subst he; exact ⟨rfl, rfl, hr, CF.out.two.gr.trans hg⟩) ?_; rintro es i8 v8 w8 hq hL hr hg; replace hL := Kd.R_lower hL (Nat.succ_le_of_lt (blk_lt CF.out.two.res)); obtain ⟨A5, c5, rfl⟩ := Kd.R_slice hL; have hC := CF.out.call hr hg; have d5 := hC.two.cell 5; have e5 := hC.two.fr 5; have hC5 := hC.set5 hL; have CF := Aside0.mk hC5; have p0 := hC5.two.p0; have HO := Aside0.mk hq; clear hq hr hg hC hC5 hL)
        | ((with_reducible refine gate_store (t:=38) (p:=2) rfl ?_);refine store_row rfl rfl rfl (w.heap.size + 1) _ rfl rfl CF.out.two.res (by kernel_rfl) rfl (by kernel_rfl) ?_;intro w12 hf2 hg2;have HF2:=Aside0.mk hf2;have HG2:=Aside0.mk hg2;clear hf2 hg2))
      have hq:=HO.out
      injection hq with hq
      subst hq
      have hrl:=CF.out.two.rl
      have hBl:=CF.out.two.Bl
      have hWl:=CF.out.two.Wl
      refine bodyPost_ret (results_cell_row rfl _ _ (w.heap.size + 1) 38 _ (0,0) _ rfl HF2.out Tryz.underlying38 rfl (by kernel_rfl)) rfl ?_
      exact ⟨_,rfl,⟨_,rfl,k38_mkM _ _ _ ⟨nm,kk,0,0,0,es⟩ (Kd.R_lower (R_keepG CF.out.l5 HG2.out (Nat.lt_succ_self _)) (by omega))⟩,CF.out.two.rd.other HG2.out (by omega) (by omega) (by omega),grown_other CF.out.two.gr HG2.out (Nat.le_succ _)⟩
end Go.Proofs.YtmgdkkkkanjadaaGreatDoor.HandK
