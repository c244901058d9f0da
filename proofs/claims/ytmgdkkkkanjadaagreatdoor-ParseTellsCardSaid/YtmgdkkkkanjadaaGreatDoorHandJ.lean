/-
  parse's reader: a card. Conditions: what the listed package variables hold.
-/
import Derived.Test.YtmgdkkkkanjadaaGreatDoorHandH
/-
  parse's reader: an effect. Conditions: what the listed package variables hold.
-/
namespace Go.Proofs.YtmgdkkkkanjadaaGreatDoor.HandI
set_option linter.unusedVariables false
set_option linter.unusedSimpArgs false
open Go.RowKit Go.Shelf Go.Lib Go.Proofs.YtmgdkkkkanjadaaGreatDoorW.PrintWords Go.Proofs.YtmgdkkkkanjadaaGreatDoorW.PrintLast Go.Proofs.YtmgdkkkkanjadaaGreatDoorW.PrintMore Go.Proofs.YtmgdkkkkanjadaaGreatDoor.X Go.Proofs.YtmgdkkkkanjadaaGreatDoor.HandS Go.Proofs.YtmgdkkkkanjadaaGreatDoor.HandA Go.Proofs.YtmgdkkkkanjadaaGreatDoor.HandB Go.Proofs.YtmgdkkkkanjadaaGreatDoor.HandC Go.Proofs.YtmgdkkkkanjadaaGreatDoor.HandD Go.Proofs.YtmgdkkkkanjadaaGreatDoor.HandE Go.Proofs.YtmgdkkkkanjadaaGreatDoor.HandF Go.Proofs.YtmgdkkkkanjadaaGreatDoor.HandG Go.Proofs.YtmgdkkkkanjadaaGreatDoor.HandH

abbrev sUpon : ByteArray:=⟨#[117,112,111,110]⟩
abbrev sPays : ByteArray:=⟨#[112,97,121,115]⟩
abbrev sDrops : ByteArray:=⟨#[100,114,111,112,115]⟩
abbrev sSpends : ByteArray:=⟨#[115,112,101,110,100,115]⟩
abbrev sPicks : ByteArray:=⟨#[112,105,99,107,115]⟩
abbrev sColon : ByteArray:=⟨#[58]⟩
/-- an effect, piece by piece: e so far -/
def ef5 (T : List S69) (e : S43) (j : Nat) : Option (Out S43):=obind (listF (stepIs T) (stepS T) 6 [] j) fun ss j=>some (.ok ⟨e.f0,e.f1,e.f2,e.f3,e.f4,e.f5,e.f6,e.f7,e.f8,ss⟩ j)
def ef4 (T : List S69) (e : S43) (j : Nat) : Option (Out S43):=obind (mustS T sColon j) fun _ j=>ef5 T e j
def ef3 (T : List S69) (e : S43) (j : Nat) : Option (Out S43):=obind (mayS T sPicks j) fun b j=>match b with
  | true=>obind (numS T j) fun n j=>obind (selS T j) fun s j=>ef4 T ⟨e.f0,e.f1,e.f2,e.f3,e.f4,e.f5,e.f6,n,⟨s.1,s.2.1,s.2.2⟩,e.f9⟩ j
  | false=>ef4 T e j
def ef2 (T : List S69) (e : S43) (j : Nat) : Option (Out S43):=obind (mayS T sSpends j) fun b j=>ef3 T ⟨e.f0,e.f1,e.f2,e.f3,e.f4,e.f5,b,e.f7,e.f8,e.f9⟩ j
def efD (T : List S69) (e : S43) (j : Nat) : Option (Out S43):=obind (mayS T sDrops j) fun b j=>match b with
  | true=>obind (numS T j) fun n j=>ef2 T ⟨e.f0,e.f1,e.f2,e.f3,e.f4,n,e.f6,e.f7,e.f8,e.f9⟩ j
  | false=>ef2 T e j
def efP (T : List S69) (e : S43) (j : Nat) : Option (Out S43):=obind (mayS T sPays j) fun b j=>match b with
  | true=>obind (numS T j) fun n j=>efD T ⟨e.f0,e.f1,e.f2,e.f3,n,e.f5,e.f6,e.f7,e.f8,e.f9⟩ j
  | false=>efD T e j
def efN (T : List S69) (e : S43) (j : Nat) : Option (Out S43):=obind (listF (fun j=>isS T sNeeds j) (needS T) 6 [] j) fun ns j=>efP T ⟨e.f0,e.f1,e.f2,ns,e.f4,e.f5,e.f6,e.f7,e.f8,e.f9⟩ j
def efU (T : List S69) (e : S43) (j : Nat) : Option (Out S43):=obind (mayS T sUpon j) fun b j=>match b with
  | true=>obind (oneS T wEvents j) fun ev j=>obind (sideS T j) fun s j=>efN T ⟨e.f0,(ev + 1) % 256,s,e.f3,e.f4,e.f5,e.f6,e.f7,e.f8,e.f9⟩ j
  | false=>efN T e j
abbrev ef0 (m : Int) : S43:=⟨m,0,0,[],0,0,false,0,z40,[]⟩
def effectS (T : List S69) (j : Nat) : Option (Out S43):=obind (oneS T wModes j) fun m j=>efU T (ef0 m) j
abbrev E43 (e : S43) (v3 v11 : Value) : Array Value:=#[.int .u8 e.f0,.int .u8 e.f1,.int .u8 e.f2,v3,.int .i64 e.f4,.int .i64 e.f5,.bool e.f6,.int .i64 e.f7,.int .u8 e.f8.f0,.int .u8 e.f8.f1,.int .u8 e.f8.f2,v11]
/-- a walk's two blocks behind a call of the reader: the reader's pointer, the row that is built -/
structure Two (x : Cx) (w wr : World) (t : TypeId) (cells : Array Value) (j : Nat) : Prop where
  rd : Rd x wr j
  gr : w.grownBy wr (some x.r)
  box : wr.heap[w.heap.size]? = some (.cells #[.pointer (some ⟨x.r,0,none⟩)] 54 (0,0))
  res : wr.heap[w.heap.size + 1]? = some (.cells cells t (0,0))
  rl : x.r < w.heap.size
  Bl : x.B < w.heap.size
  Wl : x.W0.heap.size ≤ w.heap.size
theorem Two.start {x : Cx} {w : World} {j : Nat} (h : Rd x w j) (t : TypeId) (cells : Array Value) : Two x w ((w.alloc (.cells #[.pointer (some ⟨x.r,0,none⟩)] 54)).alloc (.cells cells t)) t cells j:=by
  have h2:=blk_new (w.alloc (.cells #[.pointer (some ⟨x.r,0,none⟩)] 54)) (.cells cells t)
  rw [size_alloc] at h2
  exact ⟨h.below_ (below_alloc (below_alloc (Below.refl _ _) _) _),(World.grownBy_alloc w _ _).trans (World.grownBy_alloc _ _ _),blk_alloc (blk_new w _) _,h2,h.rlt,h.Blt,Nat.le_of_lt (Nat.lt_of_le_of_lt h.hr h.rlt)⟩
theorem Two.call {x : Cx} {w wr w1 : World} {t : TypeId} {cells : Array Value} {j i : Nat} (h : Two x w wr t cells j) (hr : Rd x w1 i) (hg : wr.grownBy w1 (some x.r)) : Two x w w1 t cells i :=
  ⟨hr,h.gr.trans hg,own_grown h.box hg (Nat.ne_of_gt h.rl),own_grown h.res hg (by have:=h.rl;omega),h.rl,h.Bl,h.Wl⟩
theorem Two.below {x : Cx} {w wr w1 : World} {t : TypeId} {cells : Array Value} {j : Nat} (h : Two x w wr t cells j) (hb : Below wr.heap.size wr w1) : Two x w w1 t cells j :=
  h.call (h.rd.below_ hb) (grown_of_below hb _)
theorem Two.drew {x : Cx} {w wr : World} {t : TypeId} {cells : Array Value} {j : Nat} (h : Two x w wr t cells j) : Two x w wr.drew t cells j:=h.below (below_drew1 (Below.refl _ _))
theorem Two.set {x : Cx} {w wr : World} {t : TypeId} {cells : Array Value} {j : Nat} (h : Two x w wr t cells j) (i : Nat) (v : Value) (cells' : Array Value) (e : cells.setIfInBounds i v = cells') : Two x w (wr.setCell ⟨w.heap.size + 1, i, none⟩ v) t cells' j :=
  ⟨h.rd.far (by have:=h.Wl;omega) (by have:=h.Bl;omega) (by have:=h.rl;omega) i v,grown_far h.gr (p:=⟨w.heap.size + 1,i,none⟩) (Nat.le_succ _) v,blk_far h.box (p:=⟨w.heap.size + 1,i,none⟩) (by show w.heap.size ≠ w.heap.size + 1;omega) v,blk_put h.res i v e,h.rl,h.Bl,h.Wl⟩
theorem Two.p0 {x : Cx} {w wr : World} {t : TypeId} {cells : Array Value} {j : Nat} (h : Two x w wr t cells j) : wr.cell? ⟨w.heap.size,0,none⟩ = some (.pointer (some ⟨x.r,0,none⟩)):=(blk_cell h.box 0).trans rfl
theorem Two.cell {x : Cx} {w wr : World} {t : TypeId} {cells : Array Value} {j : Nat} (h : Two x w wr t cells j) (i : Nat) : wr.cell? ⟨w.heap.size + 1,i,none⟩ = cells[i]?:=blk_cell h.res i
theorem Two.fr {x : Cx} {w wr : World} {t : TypeId} {cells : Array Value} {j : Nat} (h : Two x w wr t cells j) (i : Nat) : wr.frozen? ⟨w.heap.size + 1,i,none⟩ = false:=blk_frozen h.res i
structure Ef (x : Cx) (w wr : World) (e : S43) (v3 : Value) (j : Nat) : Prop where
  two : Two x w wr 43 (E43 e v3 (.slice none 0 0)) j
  l3 : k50.R 50 wr (w.heap.size + 1 + 1) (fun _=>True) v3 e.f3
theorem Ef.call {x : Cx} {w wr w1 : World} {e : S43} {v3 : Value} {j i : Nat} (h : Ef x w wr e v3 j) (hr : Rd x w1 i) (hg : wr.grownBy w1 (some x.r)) : Ef x w w1 e v3 i :=
  ⟨h.two.call hr hg,R_keepG h.l3 hg (by have:=h.two.rl;omega)⟩
theorem Ef.set3 {x : Cx} {w wr : World} {e : S43} {v3 v : Value} {ms : List S50} {j : Nat} (h : Ef x w wr e v3 j) (hR : k50.R 50 wr (w.heap.size + 1 + 1) (fun _=>True) v ms) : Ef x w (wr.setCell ⟨w.heap.size + 1,3,none⟩ v) ⟨e.f0,e.f1,e.f2,ms,e.f4,e.f5,e.f6,e.f7,e.f8,e.f9⟩ v j :=
  ⟨h.two.set 3 v _ rfl,R_keepG hR (grown_set _ _ _ _) (Nat.lt_succ_self _)⟩
/-- a cell of the row beside the needs -/
theorem Ef.put {x : Cx} {w wr : World} {e : S43} {v3 : Value} {j : Nat} (h : Ef x w wr e v3 j) (i : Nat) (v : Value) (e' : S43) (he : (E43 e v3 (.slice none 0 0)).setIfInBounds i v = E43 e' v3 (.slice none 0 0)) (h3 : e'.f3 = e.f3) : Ef x w (wr.setCell ⟨w.heap.size + 1, i, none⟩ v) e' v3 j :=
  ⟨h.two.set i v _ he,by rw [h3];exact R_keepG h.l3 (grown_set _ _ _ _) (Nat.lt_succ_self _)⟩
theorem modesB (w : World) : Calls Tryz.prog 45 #[] w fun e w' => ∃ kb, e = .returned (.slice (some ⟨kb, 0, none⟩) 7 7) ∧ Wd w' kb wModes ∧ Below w.heap.size w w' :=
  (modes_ w).mono (by rintro e w1 ⟨rfl,rfl⟩;exact ⟨_,rfl,Wd.new _ _,below_alloc (Below.refl _ _) _⟩)
theorem eventsB (w : World) : Calls Tryz.prog 71 #[] w fun e w' => ∃ kb, e = .returned (.slice (some ⟨kb, 0, none⟩) 8 8) ∧ Wd w' kb wEvents ∧ Below w.heap.size w w' :=
  (events_ w).mono (by rintro e w1 ⟨rfl,rfl⟩;exact ⟨_,rfl,Wd.new _ _,below_alloc (Below.refl _ _) _⟩)
set_option maxHeartbeats 4000000 in
set_option maxRecDepth 100000 in
theorem effect_ (x : Cx) (hG : Tabs x.W0) (w : World) (j : Nat) (h : Rd x w j) {o : Out S43} (ho : effectS x.T j = some o) :
    Calls Tryz.prog 46 #[.pointer (some ⟨x.r,0,none⟩)] w (Post x w (rItem k43 w.heap.size) o):=by
  have T2:=Aside0.mk (Two.start h 43 Z43)
  have HT:=Aside0.mk hG
  unfold effectS at ho
  have HO:=Aside0.mk ho
  have hsz : (w.alloc (.cells #[.pointer (some ⟨x.r,0,none⟩)] 54)).heap.size = w.heap.size + 1:=size_alloc _ _
  have hD:=T2.out.drew
  have p0:=hD.p0
  clear h ho hG hD
  go_enter Tryz.func46,Tryz.ntmps46
  go_upto_region 1 with fail
  go_cut [] from 3 (fun wc=>∃ (e : S43) (v3 : Value) (j1 : Nat),Aside0 (Ef x w wc e v3 j1) ∧ Aside0 (efU x.T e j1 = some o))
  case first =>
    go_region_law (first
      | (refine goesP_ Tryz.func45 (by kernel_rfl) rfl #[] (by rfl) rfl rfl (by (try simp only [List.map_toArray,List.map_cons,List.map_nil]);first | done | rfl) ?_
         refine (modesB _).mono ?_
         rintro e w1 ⟨kb,rfl,hwd,hb⟩
         have T2:=Aside0.mk (T2.out.drew.below hb)
         have HWD:=Aside0.mk hwd
         have p0:=T2.out.p0
         clear hb hwd)
      | (refine goesP_ Tryz.func39 (by kernel_rfl) rfl #[.pointer (some ⟨x.r,0,none⟩),.slice (some ⟨kb,0,none⟩) 7 7] (by rfl) rfl rfl (by (try simp only [List.map_toArray,List.map_cons,List.map_nil]);first | done | rfl) ?_
         refine step_ x HO.out (fun o1 h1 => one_ x _ _ T2.out.rd wModes _ 7 HWD.out (by decide) h1) (fun e k w' he hr hg => by subst he; exact ⟨rfl, rfl, hr, T2.out.gr.trans hg⟩) ?_
         rintro m i v w2 hq rfl hr hg
         have T2:=Aside0.mk (T2.out.call hr hg)
         have d0:=T2.out.cell 0
         have e0:=T2.out.fr 0
         have HO:=Aside0.mk hq
         clear hq hr hg))
    all_goals
      have hE : Ef x w (w2.setCell ⟨w.heap.size + 1,0,none⟩ (.int .u8 m)) (ef0 m) (.slice none 0 0) i:=⟨T2.out.set 0 (.int .u8 m) _ rfl,Kd.R_nil _ _ _ _ _⟩
      go_wp2_with fail
      go_meet
      case rel=>exact ⟨_,_,_,⟨hE⟩,HO⟩
  case rest =>
    clear p0 T2 HO
    obtain ⟨e,v3,j1,E,HO1⟩:=hcut
    have p0:=E.out.two.p0
    have HO:=Aside0.mk (show obind (mayS x.T sUpon j1) _ = some o from HO1.out)
    go_upto_if 8 with (go_at_call 70; refine step_ x HO.out (fun o1 h1 => may_ x _ _ E.out.two.rd _ h1) (fun e k w' he hr hg => by subst he; exact ⟨rfl, rfl, hr, E.out.two.gr.trans hg⟩) ?_; rintro b i v w1 hq rfl hr hg; have hE := E.out.call hr hg; have E := Aside0.mk hE; have p0 := hE.two.p0; have HO := Aside0.mk hq; clear hq hr hg hE)
    go_cut [] from 3 (fun wc=>∃ (e2 : S43) (v4 : Value) (j2 : Nat),Aside0 (Ef x w wc e2 v4 j2) ∧ Aside0 (efN x.T e2 j2 = some o))
    case first =>
      rcases b with _ | _
      · go_wp2_with fail
        go_meet
        case rel=>exact ⟨_,_,_,E,HO⟩
      · have hD:=E.out.two.drew
        go_wp2_with fail
        have p0:=hD.p0
        clear hD
        go_region_law (first
          | (refine goesP_ Tryz.func71 (by kernel_rfl) rfl #[] (by rfl) rfl rfl (by (try simp only [List.map_toArray,List.map_cons,List.map_nil]);first | done | rfl) ?_
             refine (eventsB _).mono ?_
             rintro e' w3 ⟨kb, rfl, hwd, hb⟩
             have hE:=(E.out.call (E.out.two.drew.rd) (grown_of_below (below_drew1 (Below.refl _ _)) _))
             have E:=Aside0.mk (hE.call (hE.two.rd.below_ hb) (grown_of_below hb _))
             have HWD:=Aside0.mk hwd
             have p0:=E.out.two.p0
             clear hb hwd hE)
          | (refine goesP_ Tryz.func39 (by kernel_rfl) rfl #[.pointer (some ⟨x.r,0,none⟩),.slice (some ⟨kb,0,none⟩) 8 8] (by rfl) rfl rfl (by (try simp only [List.map_toArray,List.map_cons,List.map_nil]);first | done | rfl) ?_
             refine step_ x HO.out (fun o1 h1 => one_ x _ _ E.out.two.rd wEvents _ 8 HWD.out (by decide) h1) (fun e k w' he hr hg => by subst he; exact ⟨rfl, rfl, hr, E.out.two.gr.trans hg⟩) ?_
             rintro ev i2 v w4 hq rfl hr hg
             have hE:=E.out.call hr hg
             have E:=Aside0.mk hE
             have p0:=hE.two.p0
             have d0:=hE.two.cell 1
             have e0:=hE.two.fr 1
             have HO:=Aside0.mk hq
             clear hq hr hg hE))
        all_goals
          have hE:=E.out.put 1 (.int .u8 ((ev + 1) % 256)) ⟨e.f0,(ev + 1) % 256,e.f2,e.f3,e.f4,e.f5,e.f6,e.f7,e.f8,e.f9⟩ rfl rfl
          have p0:=hE.two.p0
          have E:=Aside0.mk hE
          clear hE
          go_wp2_with (go_at_call 72; refine step_ x HO.out (fun o1 h1 => side_ x _ _ E.out.two.rd h1) (fun e k w' he hr hg => by subst he; exact ⟨rfl, rfl, hr, E.out.two.gr.trans hg⟩) ?_; rintro sd i3 v5 w5 hq rfl hr hg; have hE := E.out.call hr hg; have E := Aside0.mk hE; have d2 := hE.two.cell 2; have e2 := hE.two.fr 2; have HO := Aside0.mk hq; clear hq hr hg hE)
          have hE:=E.out.put 2 (.int .u8 sd) ⟨e.f0,(ev + 1) % 256,sd,e.f3,e.f4,e.f5,e.f6,e.f7,e.f8,e.f9⟩ rfl rfl
          go_meet
          case rel=>exact ⟨_,_,_,⟨hE⟩,HO⟩
    case rest =>
    clear p0 E HO HO1
    obtain ⟨e,v3,j1,E,HO1⟩:=hcut
    have p0:=E.out.two.p0
    have HO:=Aside0.mk (show obind (listF (fun j=>isS x.T sNeeds j) (needS x.T) 6 [] j1) _ = some o from HO1.out)
    go_upto_region 6 with (go_at_call 57; refine step_ x HO.out (fun o1 h1 => list57a x _ _ 6 (by decide) w.heap.size _ _ (fun wr jj hg hr => c73 x _ wr jj hr ((blk_cell (own_grown E.out.two.box hg (Nat.ne_of_gt E.out.two.rl)) 0).trans rfl)) (fun wr jj oo hg hr ho => c74 x HT.out _ wr jj hr (Nat.ne_of_gt E.out.two.rl) (own_grown E.out.two.box hg (Nat.ne_of_gt E.out.two.rl)) ho) E.out.two.rd h1) (fun e k w' he hr hg => by subst he; exact ⟨rfl, rfl, hr, E.out.two.gr.trans hg⟩) ?_; rintro ns i v w1 hq hL hr hg; replace hL := Kd.R_lower hL (Nat.succ_le_of_lt (blk_lt E.out.two.res)); obtain ⟨A3, c3, rfl⟩ := Kd.R_slice hL; have hE := E.out.call hr hg; have d3 := hE.two.cell 3; have e3 := hE.two.fr 3; have hE3 := hE.set3 hL; have E := Aside0.mk hE3; have p0 := hE3.two.p0; have HO1 := Aside0.mk hq; clear hq hr hg hE hE3 hL)
    have hcut : ∃ (e2 : S43) (v4 : Value) (j2 : Nat) ,Aside0 (Ef x w _ e2 v4 j2) ∧ Aside0 (efP x.T e2 j2 = some o):=⟨_,_,_,E,HO1⟩
    clear p0 E HO HO1
    obtain ⟨e,v3,j1,E,HO1⟩:=hcut
    have p0:=E.out.two.p0
    have HO:=Aside0.mk (show obind (mayS x.T sPays j1) _ = some o from HO1.out)
    go_upto_if 23 with (go_at_call 70; refine step_ x HO.out (fun o1 h1 => may_ x _ _ E.out.two.rd _ h1) (fun e k w' he hr hg => by subst he; exact ⟨rfl, rfl, hr, E.out.two.gr.trans hg⟩) ?_; rintro b i v w1 hq rfl hr hg; have hE := E.out.call hr hg; have E := Aside0.mk hE; have p0 := hE.two.p0; have HO := Aside0.mk hq; clear hq hr hg hE)
    go_cut [] from 3 (fun wc=>∃ (e2 : S43) (v4 : Value) (j2 : Nat),Aside0 (Ef x w wc e2 v4 j2) ∧ Aside0 (efD x.T e2 j2 = some o))
    case first =>
      rcases b with _ | _
      · go_wp2_with fail
        go_meet
        case rel=>exact ⟨_,_,_,E,HO⟩
      · go_wp2_with (go_at_call 41; refine step_ x HO.out (fun o1 h1 => number_ x _ _ HT.out E.out.two.rd h1) (fun e k w' he hr hg => by subst he; exact ⟨rfl, rfl, hr, E.out.two.gr.trans hg⟩) ?_; rintro n i2 v2 w2 hq rfl hr hg; have hE := E.out.call hr hg; have E := Aside0.mk hE; have HO := Aside0.mk hq; have d0 := hE.two.cell 4; have e0 := hE.two.fr 4; clear hq hr hg hE)
        have hE:=E.out.put 4 (.int .i64 n) ⟨e.f0,e.f1,e.f2,e.f3,n,e.f5,e.f6,e.f7,e.f8,e.f9⟩ rfl rfl
        go_meet
        case rel=>exact ⟨_,_,_,⟨hE⟩,HO⟩
    case rest =>
    clear p0 E HO HO1
    obtain ⟨e,v3,j1,E,HO1⟩:=hcut
    have p0:=E.out.two.p0
    have HO:=Aside0.mk (show obind (mayS x.T sDrops j1) _ = some o from HO1.out)
    go_upto_if 28 with (go_at_call 70; refine step_ x HO.out (fun o1 h1 => may_ x _ _ E.out.two.rd _ h1) (fun e k w' he hr hg => by subst he; exact ⟨rfl, rfl, hr, E.out.two.gr.trans hg⟩) ?_; rintro b i v w1 hq rfl hr hg; have hE := E.out.call hr hg; have E := Aside0.mk hE; have p0 := hE.two.p0; have HO := Aside0.mk hq; clear hq hr hg hE)
    go_cut [] from 3 (fun wc=>∃ (e2 : S43) (v4 : Value) (j2 : Nat),Aside0 (Ef x w wc e2 v4 j2) ∧ Aside0 (ef2 x.T e2 j2 = some o))
    case first =>
      rcases b with _ | _
      · go_wp2_with fail
        go_meet
        case rel=>exact ⟨_,_,_,E,HO⟩
      · go_wp2_with (go_at_call 41; refine step_ x HO.out (fun o1 h1 => number_ x _ _ HT.out E.out.two.rd h1) (fun e k w' he hr hg => by subst he; exact ⟨rfl, rfl, hr, E.out.two.gr.trans hg⟩) ?_; rintro n i2 v2 w2 hq rfl hr hg; have hE := E.out.call hr hg; have E := Aside0.mk hE; have HO := Aside0.mk hq; have d0 := hE.two.cell 5; have e0 := hE.two.fr 5; clear hq hr hg hE)
        have hE:=E.out.put 5 (.int .i64 n) ⟨e.f0,e.f1,e.f2,e.f3,e.f4,n,e.f6,e.f7,e.f8,e.f9⟩ rfl rfl
        go_meet
        case rel=>exact ⟨_,_,_,⟨hE⟩,HO⟩
    case rest =>
    clear p0 E HO HO1
    obtain ⟨e,v3,j1,E,HO1⟩:=hcut
    have p0:=E.out.two.p0
    have HO:=Aside0.mk (show obind (mayS x.T sSpends j1) _ = some o from HO1.out)
    go_upto_region 11 with (go_at_call 70; refine step_ x HO.out (fun o1 h1 => may_ x _ _ E.out.two.rd _ h1) (fun e k w' he hr hg => by subst he; exact ⟨rfl, rfl, hr, E.out.two.gr.trans hg⟩) ?_; rintro sp i v w1 hq rfl hr hg; have hE := E.out.call hr hg; have d6 := hE.two.cell 6; have e6 := hE.two.fr 6; have hE6 := hE.put 6 (.bool sp) ⟨e.f0, e.f1, e.f2, e.f3, e.f4, e.f5, sp, e.f7, e.f8, e.f9⟩ rfl rfl; have E := Aside0.mk hE6; have p0 := hE6.two.p0; have HO1 := Aside0.mk hq; clear hq hr hg hE hE6)
    have hcut : ∃ (e2 : S43) (v4 : Value) (j2 : Nat) ,Aside0 (Ef x w _ e2 v4 j2) ∧ Aside0 (ef3 x.T e2 j2 = some o):=⟨_,_,_,E,HO1⟩
    clear p0 E HO HO1
    obtain ⟨e,v3,j1,E,HO1⟩:=hcut
    have p0:=E.out.two.p0
    have HO:=Aside0.mk (show obind (mayS x.T sPicks j1) _ = some o from HO1.out)
    go_upto_if 36 with (go_at_call 70; refine step_ x HO.out (fun o1 h1 => may_ x _ _ E.out.two.rd _ h1) (fun e k w' he hr hg => by subst he; exact ⟨rfl, rfl, hr, E.out.two.gr.trans hg⟩) ?_; rintro b i v w1 hq rfl hr hg; have hE := E.out.call hr hg; have E := Aside0.mk hE; have p0 := hE.two.p0; have HO := Aside0.mk hq; clear hq hr hg hE)
    go_cut [] from 3 (fun wc=>∃ (e2 : S43) (v4 : Value) (j2 : Nat),Aside0 (Ef x w wc e2 v4 j2) ∧ Aside0 (ef4 x.T e2 j2 = some o))
    case first =>
      rcases b with _ | _
      · go_wp2_with fail
        go_meet
        case rel=>exact ⟨_,_,_,E,HO⟩
      · go_wp2_with (first
        | (go_at_call 41; refine step_ x HO.out (fun o1 h1 => number_ x _ _ HT.out E.out.two.rd h1) (fun e k w' he hr hg => by subst he; exact ⟨rfl, rfl, hr, E.out.two.gr.trans hg⟩) ?_; rintro n i2 v2 w2 hq rfl hr hg; have hE := E.out.call hr hg; have d7 := hE.two.cell 7; have e7 := hE.two.fr 7; have hE7 := hE.put 7 (.int .i64 n) ⟨e.f0, e.f1, e.f2, e.f3, e.f4, e.f5, e.f6, n, e.f8, e.f9⟩ rfl rfl; have E := Aside0.mk hE7; have p0 := hE7.two.p0; have HO := Aside0.mk hq; clear hq hr hg hE hE7)
        | (go_at_call 75; refine step_ x HO.out (fun o1 h1 => sel_ x _ _ E.out.two.rd h1) (fun e k w' he hr hg => by subst he; exact ⟨rfl, rfl, hr, E.out.two.gr.trans hg⟩) ?_; rintro s i3 v3' w3 hq rfl hr hg; have hE := E.out.call hr hg; have d8 := hE.two.cell 8; have e8 := hE.two.fr 8; have d9 := hE.two.cell 9; have e9 := hE.two.fr 9; have d10 := hE.two.cell 10; have e10 := hE.two.fr 10; have hE8 := ((hE.put 8 (.int .u8 s.1) ⟨e.f0, e.f1, e.f2, e.f3, e.f4, e.f5, e.f6, n, ⟨s.1, e.f8.f1, e.f8.f2⟩, e.f9⟩ rfl rfl).put 9 (.int .u8 s.2.1) ⟨e.f0, e.f1, e.f2, e.f3, e.f4, e.f5, e.f6, n, ⟨s.1, s.2.1, e.f8.f2⟩, e.f9⟩ rfl rfl).put 10 (.int .u8 s.2.2) ⟨e.f0, e.f1, e.f2, e.f3, e.f4, e.f5, e.f6, n, ⟨s.1, s.2.1, s.2.2⟩, e.f9⟩ rfl rfl; have E := Aside0.mk hE8; have HO := Aside0.mk hq; clear hq hr hg hE hE8))
        go_meet
        case rel=>exact ⟨_,_,_,E,HO⟩
    case rest =>
    clear p0 E HO HO1
    obtain ⟨e,v3,j1,E,HO1⟩:=hcut
    have p0:=E.out.two.p0
    obtain ⟨A3,c3,rfl⟩:=Kd.R_slice E.out.l3
    have HO:=Aside0.mk (show obind (mustS x.T sColon j1) _ = some o from HO1.out)
    go_wp2_with (first
      | (go_at_call 42; refine step_ x HO.out (fun o1 h1 => must_ x _ _ E.out.two.rd _ h1) (fun e k w' he hr hg => by subst he; exact ⟨rfl, rfl, hr, E.out.two.gr.trans hg⟩) ?_; rintro ua i uv w1 hq rfl hr hg; have hE := E.out.call hr hg; have E := Aside0.mk hE; have p0 := hE.two.p0; have HO := Aside0.mk (show obind (listF (stepIs x.T) (stepS x.T) 6 [] i) _ = some o from hq); clear hq hr hg hE)
      | (go_at_call 76; refine step_ x HO.out (fun o1 h1 => list76a x _ _ 6 (by decide) w.heap.size _ _ (fun wr jj hg hr => c77 x _ wr jj hr (own_grown E.out.two.box hg (Nat.ne_of_gt E.out.two.rl))) (fun wr jj oo hg hr ho => stepP_ x HT.out wr jj hr ho) E.out.two.rd h1) (fun e k w' he hr hg => by subst he; exact ⟨rfl, rfl, hr, E.out.two.gr.trans hg⟩) ?_; rintro ss i v w1 hq hL hr hg; injection hq with hq; subst hq; replace hL := Kd.R_lower hL (Nat.succ_le_of_lt (blk_lt E.out.two.res)); obtain ⟨A11, c11, rfl⟩ := Kd.R_slice hL; have hE := E.out.call hr hg; have E := Aside0.mk hE; have HL11 := Aside0.mk hL; have d11 := hE.two.cell 11; have e11 := hE.two.fr 11; have hT3 := hE.two.set 11 (.slice A11 ss.length c11) (E43 e (.slice A3 e.f3.length c3) (.slice A11 ss.length c11)) rfl; have T3 := Aside0.mk hT3; have a0 := T3.out.cell 0; have a1 := T3.out.cell 1; have a2 := T3.out.cell 2; have a3 := T3.out.cell 3; have a4 := T3.out.cell 4; have a5 := T3.out.cell 5; have a6 := T3.out.cell 6; have a7 := T3.out.cell 7; have a8 := T3.out.cell 8; have a9 := T3.out.cell 9; have a10 := T3.out.cell 10; have a11 := T3.out.cell 11; clear hr hg hE hT3 hL)
      | ((with_reducible refine gate_store (t:=43) (p:=2) rfl ?_);refine store_row rfl rfl rfl (w.heap.size + 1) _ rfl rfl T3.out.res (by kernel_rfl) rfl (by kernel_rfl) ?_;intro w12 hf2 hg2;have HF2:=Aside0.mk hf2;have HG2:=Aside0.mk hg2;clear hf2 hg2))
    have hrl:=E.out.two.rl
    have hBl:=E.out.two.Bl
    have hWl:=E.out.two.Wl
    refine bodyPost_ret (results_cell_row rfl _ _ (w.heap.size + 1) 43 _ (0,0) _ rfl HF2.out Tryz.underlying43 rfl (by kernel_rfl)) rfl ?_
    exact ⟨_,rfl,⟨_,rfl,k43_mkM _ _ _ ⟨e.f0,e.f1,e.f2,e.f3,e.f4,e.f5,e.f6,e.f7,e.f8,ss⟩ (Kd.R_lower (R_keepG (R_keepG E.out.l3 (grown_set _ _ _ _) (Nat.lt_succ_self _)) HG2.out (Nat.lt_succ_self _)) (by omega)) (Kd.R_lower (R_keepG (R_keepG HL11.out (grown_set _ _ _ _) (Nat.lt_succ_self _)) HG2.out (Nat.lt_succ_self _)) (by omega))⟩,T3.out.rd.other HG2.out (by omega) (by omega) (by omega),grown_other T3.out.gr HG2.out (Nat.le_succ _)⟩
end Go.Proofs.YtmgdkkkkanjadaaGreatDoor.HandI
namespace Go.Proofs.YtmgdkkkkanjadaaGreatDoor.HandJ
set_option linter.unusedVariables false
set_option linter.unusedSimpArgs false
open Go.RowKit Go.Shelf Go.Lib Go.Proofs.YtmgdkkkkanjadaaGreatDoorW.PrintWords Go.Proofs.YtmgdkkkkanjadaaGreatDoorW.PrintLast Go.Proofs.YtmgdkkkkanjadaaGreatDoorW.PrintMore Go.Proofs.YtmgdkkkkanjadaaGreatDoor.X Go.Proofs.YtmgdkkkkanjadaaGreatDoor.HandS Go.Proofs.YtmgdkkkkanjadaaGreatDoor.HandA Go.Proofs.YtmgdkkkkanjadaaGreatDoor.HandB Go.Proofs.YtmgdkkkkanjadaaGreatDoor.HandC Go.Proofs.YtmgdkkkkanjadaaGreatDoor.HandD Go.Proofs.YtmgdkkkkanjadaaGreatDoor.HandE Go.Proofs.YtmgdkkkkanjadaaGreatDoor.HandF Go.Proofs.YtmgdkkkkanjadaaGreatDoor.HandG Go.Proofs.YtmgdkkkkanjadaaGreatDoor.HandH Go.Proofs.YtmgdkkkkanjadaaGreatDoor.HandI

abbrev sBegin : ByteArray:=⟨#[123]⟩
abbrev sEnd : ByteArray:=⟨#[125]⟩
def modeIs (T : List S69) (j : Nat) : Bool:=decide (0 ≤ amongS T wModes j)
def bodyS (T : List S69) (k : Int) (nm : ByteArray) (a b c : Int) (j : Nat) : Option (Out S38) :=
  obind (mustS T sBegin j) fun _ j=>obind (listF (modeIs T) (effectS T) 4 [] j) fun es j=>obind (mustS T sEnd j) fun _ j=>some (.ok ⟨nm,k,a,b,c,es⟩ j)
def cardS (T : List S69) (j : Nat) : Option (Out S38) :=
  obind (oneS T wKinds j) fun k j=>obind (ofS T 1 j) fun nm j =>
    if k = 0 then obind (numS T j) fun a j=>obind (numS T j) fun b j=>obind (numS T j) fun c j=>bodyS T k nm a b c j
    else bodyS T k nm 0 0 0 j
theorem card_cases {T : List S69} {k : Int} {nm : ByteArray} {j : Nat} {o : Out S38} (h : (if k = 0 then obind (numS T j) fun a j=>obind (numS T j) fun b j=>obind (numS T j) fun c j=>bodyS T k nm a b c j else bodyS T k nm 0 0 0 j) = some o) :
    (k = 0 ∧ (obind (numS T j) fun a j=>obind (numS T j) fun b j=>obind (numS T j) fun c j=>bodyS T 0 nm a b c j) = some o) ∨ ((k == 0) = false ∧ bodyS T k nm 0 0 0 j = some o):=by
  by_cases hk : k = 0
  · subst hk
    exact .inl ⟨rfl,by rw [if_pos rfl] at h;exact h⟩
  · exact .inr ⟨beq_eq_false_iff_ne.2 hk,by rw [if_neg hk] at h;exact h⟩
abbrev C38 (nm : ByteArray) (k a b c : Int) (v5 : Value) : Array Value:=#[.string nm,.int .u8 k,.int .i64 a,.int .i64 b,.int .i64 c,v5]
theorem kindsB (w : World) : Calls Tryz.prog 16 #[] w fun e w' => ∃ kb, e = .returned (.slice (some ⟨kb, 0, none⟩) 5 5) ∧ Wd w' kb wKinds ∧ Below w.heap.size w w' :=
  (kinds_ w).mono (by rintro e w1 ⟨rfl,rfl⟩;exact ⟨_,rfl,Wd.new _ _,below_alloc (Below.refl _ _) _⟩)
set_option maxHeartbeats 1000000 in
set_option maxRecDepth 100000 in
theorem c44 (x : Cx) (p : Nat) (w : World) (j : Nat) (h : Rd x w j) (hrow : w.heap[p]? = some (.cells #[.pointer (some ⟨x.r,0,none⟩)] 54 (0,0))) :
    Calls Tryz.prog 44 #[.pointer (some ⟨p, 0, none⟩)] w fun e w' => e = .returned (.bool (modeIs x.T j)) ∧ Below w.heap.size w w' := by
  have HR:=Aside0.mk h
  have HPL:=Aside0.mk (blk_lt hrow)
  have p0:=blk_cell hrow 0
  unfold modeIs
  clear h hrow
  go_enter Tryz.func44,Tryz.ntmps44
  go_wp2_with fail
  go_region_law (first
    | (refine goesP_ Tryz.func45 (by kernel_rfl) rfl #[] (by rfl) rfl rfl (by (try simp only [List.map_toArray,List.map_cons,List.map_nil]);first | done | rfl) ?_
       refine (modesB _).mono ?_
       rintro e w1 ⟨kb,rfl,hwd,hb⟩
       replace hb:=below_step (below_drew1 (Below.refl w.heap.size w)) hb
       have HB:=Aside0.mk hb
       have HR:=Aside0.mk (HR.out.below_ hb)
       have HWD:=Aside0.mk hwd
       have p1:=(hb.cell (p:=⟨p,0,none⟩) HPL.out).trans p0
       clear hb hwd)
    | (refine goesP_ Tryz.func15 (by kernel_rfl) rfl #[.pointer (some ⟨x.r,0,none⟩),.slice (some ⟨kb,0,none⟩) 7 7] (by rfl) rfl rfl (by (try simp only [List.map_toArray,List.map_cons,List.map_nil]);first | done | rfl) ?_
       refine (among_ x _ _ HR.out wModes kb 7 HWD.out (by decide)).mono ?_
       rintro e w2 ⟨rfl,rfl⟩))
  all_goals
    go_wp2
    go_ret
    exact ⟨rfl,HB.out⟩
set_option maxHeartbeats 1000000 in
set_option maxRecDepth 100000 in
/-- Pool's: does a card begin -/
theorem c14 (x : Cx) (w : World) (j : Nat) (h : Rd x w j) : Calls Tryz.prog 14 #[.pointer (some ⟨x.r, 0, none⟩)] w fun e w' => e = .returned (.bool (decide (0 ≤ amongS x.T wKinds j))) ∧ Below w.heap.size w w' := by
  have HR:=Aside0.mk h
  clear h
  go_enter Tryz.func14,Tryz.ntmps14
  go_wp2_with (first
    | (go_at_call 16;refine (kindsB _).mono ?_;rintro e w1 ⟨kb,rfl,hwd,hb⟩;have HR:=Aside0.mk (HR.out.below_ hb);have HWD:=Aside0.mk hwd;have HB:=Aside0.mk hb;clear hb hwd)
    | (go_at_call 15;refine (among_ x _ _ HR.out wKinds kb 5 HWD.out (by decide)).mono ?_;rintro e w2 ⟨rfl,rfl⟩))
  go_ret
  exact ⟨rfl,HB.out⟩
def wExpr : List ByteArray:=[sLife,sCount,sPower,sOpen]
def exprIs (T : List S69) (j : Nat) : Bool:=(tkAt T j).f0 == 2 || decide (0 ≤ amongS T wExpr j)
set_option maxHeartbeats 1000000 in
set_option maxRecDepth 100000 in
/-- Exprs': does an expression begin -/
theorem c25 (x : Cx) (w : World) (j : Nat) (h : Rd x w j) : Calls Tryz.prog 25 #[.pointer (some ⟨x.r, 0, none⟩)] w fun e w' => e = .returned (.bool (exprIs x.T j)) ∧ Below w.heap.size w w' := by
  have HB:=Aside0.mk (below_alloc (Below.refl w.heap.size w) (.cells (wExpr.map Value.string).toArray 9))
  have HI:=Aside0.mk (among_ x _ j (h.below_ HB.out) wExpr w.heap.size 4 (Wd.new w wExpr) (by decide))
  have hu71:=Tryz.underlying71
  have hu69:=Tryz.underlying69
  obtain ⟨o',n,cc,c0,hn,hcc,t0,t1,t2,t3⟩:=h.head
  unfold exprIs
  by_cases hk : (tkAt x.T j).f0 = 2
  · rw [hk] at t0 ⊢
    clear h t1 t2 t3 hcc HI hk
    go_enter Tryz.func25,Tryz.ntmps25
    go_wp2
    go_ret
    exact ⟨rfl,Below.refl _ _⟩
  · obtain ⟨q,hq⟩ : ∃ q,(tkAt x.T j).f0 = q:=⟨_,rfl⟩
    rw [hq] at t0 hk ⊢
    have n2 : (q == 2) = false:=beq_eq_false_iff_ne.2 hk
    rw [n2,Bool.false_or]
    clear h t1 t2 t3 hcc hk hq
    go_enter Tryz.func25,Tryz.ntmps25
    go_wp2_with (go_at_call 15;refine HI.out.mono ?_;rintro e w2 ⟨rfl,rfl⟩)
    go_ret
    exact ⟨rfl,HB.out⟩
end Go.Proofs.YtmgdkkkkanjadaaGreatDoor.HandJ
