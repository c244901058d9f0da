/-
  parse's reader: lists, each of at most so many. Conditions: what the functions handed in keep.
-/
import Derived.Test.YtmgdkkkkanjadaaGreatDoorHandF
namespace Go.Proofs.YtmgdkkkkanjadaaGreatDoor.HandG
set_option linter.unusedVariables false
set_option linter.unusedSimpArgs false
open Go.RowKit Go.Shelf Go.Lib Go.Proofs.YtmgdkkkkanjadaaGreatDoorW.PrintWords Go.Proofs.YtmgdkkkkanjadaaGreatDoorW.PrintLast Go.Proofs.YtmgdkkkkanjadaaGreatDoorW.PrintMore Go.Proofs.YtmgdkkkkanjadaaGreatDoor.X Go.Proofs.YtmgdkkkkanjadaaGreatDoor.HandS Go.Proofs.YtmgdkkkkanjadaaGreatDoor.HandA Go.Proofs.YtmgdkkkkanjadaaGreatDoor.HandB Go.Proofs.YtmgdkkkkanjadaaGreatDoor.HandC Go.Proofs.YtmgdkkkkanjadaaGreatDoor.HandD Go.Proofs.YtmgdkkkkanjadaaGreatDoor.HandE Go.Proofs.YtmgdkkkkanjadaaGreatDoor.HandF

def listF {α : Type} (bg : Nat → Bool) (rd : Nat → Option (Out α)) : Nat → List α → Nat → Option (Out (List α))
  | 0,xs,j=>if bg j = true then some (.bad 3 j) else some (.ok xs j)
  | m + 1,xs,j=>if bg j = true then obind (rd j) fun a j=>listF bg rd m (xs ++ [a]) j else some (.ok xs j)
theorem listF_end {α : Type} {bg : Nat → Bool} {rd : Nat → Option (Out α)} {m : Nat} {xs : List α} {j : Nat} {o : Out (List α)} (h : listF bg rd m xs j = some o) (hb : bg j = false) : o = .ok xs j:=by
  cases m <;> rw [listF,if_neg (by rw [hb];decide)] at h <;> injection h with h <;> exact h.symm
def rItem {α : Type} (d : Kd α) (base : Nat) (e : α) (v : Value) (w : World) : Prop:=∃ cs : List Value,v = .agg cs.toArray ∧ d.M w base (fun _=>True) e cs
def rList {α : Type} (d : Kd α) (t : TypeId) (base : Nat) (xs : List α) (v : Value) (w : World) : Prop:=d.R t w base (fun _=>True) v xs
theorem R_keepG {α : Type} {d : Kd α} {t : TypeId} {wr w1 : World} {base r : Nat} {vr : Value} {xs : List α} (h : d.R t wr base (fun _=>True) vr xs) (hg : wr.grownBy w1 (some r)) (hr : r < base) : d.R t w1 base (fun _=>True) vr xs :=
  Kd.R_mono (Kd.R_grown (Kd.R_bound h) hg (fun k hk e=>by have:=hk.2.1;have:=Option.some.inj e;omega)) (fun _ _=>trivial)
abbrev Z43 : Array Value:=#[.int .u8 0,.int .u8 0,.int .u8 0,.slice none 0 0,.int .i64 0,.int .i64 0,.bool false,.int .i64 0,.int .u8 0,.int .u8 0,.int .u8 0,.slice none 0 0]
abbrev Z38 : Array Value:=#[.string ⟨#[]⟩,.int .u8 0,.int .i64 0,.int .i64 0,.int .i64 0,.slice none 0 0]
theorem info43 : (Tryz.prog.info? 43).map (fun i=>(i.zero,i.size,i.bytes)) = some (some (.agg Z43),12,96):=by kernel_rfl
theorem info52 : (Tryz.prog.info? 52).map (fun i=>(i.zero,i.size,i.bytes)) = some (some (.agg (Z52 0)),13,64):=by kernel_rfl
theorem info38 : (Tryz.prog.info? 38).map (fun i=>(i.zero,i.size,i.bytes)) = some (some (.agg Z38),6,72):=by kernel_rfl
set_option maxHeartbeats 2000000 in
set_option maxRecDepth 100000 in
theorem list57a (x : Cx) (w : World) (j : Nat) (most : Nat) (hm : most ≤ 1000) (p : Nat) (bg : Nat → Bool) (rd : Nat → Option (Out S50))
    (hB : ∀ (wr : World) (j : Nat), w.grownBy wr (some x.r) → Rd x wr j → Calls Tryz.prog 73 #[.pointer (some ⟨p, 0, none⟩)] wr (fun e w' => e = .returned (.bool (bg j)) ∧ Below wr.heap.size wr w'))
    (hV : ∀ (wr : World) (j : Nat) (o : Out S50),w.grownBy wr (some x.r) → Rd x wr j → rd j = some o → Calls Tryz.prog 74 #[.pointer (some ⟨p,0,none⟩)] wr (Post x wr (rItem k50 wr.heap.size) o))
    (h : Rd x w j) {o : Out (List S50)} (ho : listF bg rd most [] j = some o) :
    Calls Tryz.prog 57 #[.pointer (some ⟨x.r,0,none⟩),.int .i64 (most : Int),.func (.func 73) #[] #[.pointer (some ⟨p,0,none⟩)],.func (.func 74) #[] #[.pointer (some ⟨p,0,none⟩)]] w (Post x w (rList k50 50 w.heap.size) o):=by
  have HR0:=Aside0.mk h
  have HB:=Aside0.mk hB
  have HV:=Aside0.mk hV
  have HM:=Aside0.mk hm
  have HO:=Aside0.mk ho
  have HXR:=Aside0.mk h.rlt
  have HXB:=Aside0.mk h.Blt
  have HXW:=Aside0.mk (Nat.le_of_lt (Nat.lt_of_le_of_lt h.hr h.rlt))
  have HG0:=Aside0.mk (World.grownBy.refl w (some x.r))
  clear hB hV h ho hm
  go_enter Tryz.func57,Tryz.ntmps57
  go_wp2_with fail
  go_loopg [8] most (fun g s8 wr=>∃ (m n : Nat) (xs : List S50) (jj : Nat) (A : Option Addr) (c : Nat),s8 = .slice A n c ∧ n + m = most ∧ m ≤ g ∧ Aside0 (xs.length = n) ∧ Aside0 (Rd x wr jj) ∧ Aside0 (w.grownBy wr (some x.r)) ∧
    Aside0 (k50.R 50 wr w.heap.size (fun _=>True) (.slice A n c) xs) ∧ Aside0 (listF bg rd m xs jj = some o))
  case atStart=>exact ⟨most,0,[],j,none,0,rfl,by omega,Nat.le_refl _,⟨rfl⟩,HR0,HG0,⟨Kd.R_nil _ _ _ _ _⟩,HO⟩
  case round =>
    obtain ⟨m,n,xs,jj,A,c,rfl,h1,h2,HN,HR,HG,HL,HS⟩:=hrel
    cases hb : bg jj with
    | false =>
      have he:=listF_end HS.out hb
      subst he
      have HBB:=Aside0.mk hb
      clear hb
      go_wp2_with (go_at_call 73;refine (HB.out _ _ HG.out HR.out).mono ?_;rw [HBB.out];rintro e w2 ⟨rfl,hb2⟩;have HR:=Aside0.mk (HR.out.below_ hb2);have HG:=Aside0.mk (HG.out.trans (grown_of_below hb2 _));have HL:=Aside0.mk (Kd.R_below HL.out hb2))
      go_ret
      exact ⟨_,rfl,HL.out,HR.out,HG.out⟩
    | true =>
      have HBB:=Aside0.mk hb
      clear hb
      cases m with
      | zero =>
        have hs:=HS.out
        rw [listF,if_pos HBB.out] at hs
        injection hs with hs
        subst hs
        have hn : n = most:=by omega
        subst hn
        have hq : ((n : Int) == (n : Int)) = true:=beq_self_eq_true _
        go_wp2_with (first
          | (go_at_call 73;refine (HB.out _ _ HG.out HR.out).mono ?_;rw [HBB.out];rintro e w2 ⟨rfl,hb2⟩;have HR:=Aside0.mk (HR.out.below_ hb2);have HG:=Aside0.mk (HG.out.trans (grown_of_below hb2 (some x.r))))
          | (go_at_call 36;refine (fail_ x _ _ HR.out 3).mono ?_;rintro e w4 ⟨rfl,rfl⟩;exact ⟨rfl,rfl,HR.out,HG.out⟩))
      | succ m =>
        have hs:=HS.out
        rw [listF,if_pos HBB.out] at hs
        have HS:=Aside0.mk hs
        have hq : ((n : Int) == (most : Int)) = false:=beq_eq_false_iff_ne.2 (by omega)
        have HNL:=Aside0.mk (show n < 1000 by have:=HM.out;omega)
        clear hs
        obtain ⟨g,rfl⟩ : ∃ g,gk = g + 1:=⟨gk - 1,by omega⟩
        go_wp2_with (first
          | (go_at_call 73;refine (HB.out _ _ HG.out HR.out).mono ?_;rw [HBB.out];rintro e w2 ⟨rfl,hb2⟩;have HR:=Aside0.mk (HR.out.below_ hb2);have HG:=Aside0.mk (HG.out.trans (grown_of_below hb2 (some x.r)));have HL:=Aside0.mk (Kd.R_below HL.out hb2))
          | (go_at_call 74; refine step_ x HS.out (fun o1 h1 => HV.out _ _ _ HG.out HR.out h1) (fun e k w' he hr hg => by subst he; exact ⟨rfl, rfl, hr, HG.out.trans hg⟩) ?_; rintro a i v w8 hq ⟨cs, rfl, hM⟩ hr hg; have HMM := Aside0.mk hM; have HL8 := Aside0.mk (R_keepG HL.out hg HXR.out); have HR := Aside0.mk hr; have HGG := Aside0.mk (HG.out.trans hg); have HS := Aside0.mk hq; obtain ⟨v6, rfl, hR6⟩ := k50_openM hM; clear hR6; clear hM hr hg hq)
          | ((with_reducible refine gate_dst (N:=21) rfl ?_);refine Kd.R_append k50 (w0:=w8) w.heap.size rfl (.tmp 17) (.tmp 20) 31 50 (.agg Z50) 48 rfl Tryz.underlying31 info50 rfl (by decide) (by decide) (.slice A n c) xs a [.int .u8 a.f0,.int .i64 a.f1,.int .u8 a.f2,.int .u8 a.f3.f0,.int .u8 a.f3.f1,.int .u8 a.f3.f2,v6] (fun _=>True) (fun k=>True ∧ some k ≠ (Value.slice A n c).ownBlock) rfl rfl ?aM (fun k hk=>⟨trivial,hk.2⟩) (fun _ _=>trivial) HL8.out (Below.refl _ _) HGG.out.size ?aL ?_
             case aM =>
               obtain ⟨inner,ho⟩:=Kd.R_own HL.out
               exact k50.M_lower HG.out.size (Kd.M_new HMM.out ho)
             case aL=>have:=HN.out;have:=HNL.out;omega
             intro v1 w9 ho9 hb9 hg9 hat9
             obtain ⟨A1,c1,rfl⟩:=Kd.R_slice ho9
             rw [show (xs ++ [a]).length = n + 1 from by rw [List.length_append,HN.out];rfl] at ho9 ⊢
             have HL9:=Aside0.mk ho9
             have HR9:=Aside0.mk (HR.out.under hb9 HXR.out HXB.out HXW.out)
             have HG9:=Aside0.mk (grown_under HGG.out hb9 (Nat.le_refl _))
             clear ho9 hb9 hg9 hat9))
        go_roundg g
        case measure=>omega
        case rel=>exact ⟨m,n + 1,xs ++ [a],i,A1,c1,rfl,by omega,by omega,⟨by rw [List.length_append,HN.out];rfl⟩,HR9,HG9,HL9,HS⟩
set_option maxHeartbeats 2000000 in
set_option maxRecDepth 100000 in
theorem list57b (x : Cx) (w : World) (j : Nat) (most : Nat) (hm : most ≤ 1000) (p p2 q : Nat) (bg : Nat → Bool) (rd : Nat → Option (Out S50))
    (hB : ∀ (wr : World) (j : Nat), w.grownBy wr (some x.r) → Rd x wr j → Calls Tryz.prog 58 #[.pointer (some ⟨p, 0, none⟩), .pointer (some ⟨q, 0, none⟩)] wr (fun e w' => e = .returned (.bool (bg j)) ∧ Below wr.heap.size wr w'))
    (hV : ∀ (wr : World) (j : Nat) (o : Out S50),w.grownBy wr (some x.r) → Rd x wr j → rd j = some o → Calls Tryz.prog 59 #[.pointer (some ⟨p2,0,none⟩),.pointer (some ⟨q,0,none⟩)] wr (Post x wr (rItem k50 wr.heap.size) o))
    (h : Rd x w j) {o : Out (List S50)} (ho : listF bg rd most [] j = some o) :
    Calls Tryz.prog 57 #[.pointer (some ⟨x.r,0,none⟩),.int .i64 (most : Int),.func (.func 58) #[] #[.pointer (some ⟨p,0,none⟩),.pointer (some ⟨q,0,none⟩)],.func (.func 59) #[] #[.pointer (some ⟨p2,0,none⟩),.pointer (some ⟨q,0,none⟩)]] w (Post x w (rList k50 50 w.heap.size) o):=by
  have HR0:=Aside0.mk h
  have HB:=Aside0.mk hB
  have HV:=Aside0.mk hV
  have HM:=Aside0.mk hm
  have HO:=Aside0.mk ho
  have HXR:=Aside0.mk h.rlt
  have HXB:=Aside0.mk h.Blt
  have HXW:=Aside0.mk (Nat.le_of_lt (Nat.lt_of_le_of_lt h.hr h.rlt))
  have HG0:=Aside0.mk (World.grownBy.refl w (some x.r))
  clear hB hV h ho hm
  go_enter Tryz.func57,Tryz.ntmps57
  go_wp2_with fail
  go_loopg [8] most (fun g s8 wr=>∃ (m n : Nat) (xs : List S50) (jj : Nat) (A : Option Addr) (c : Nat),s8 = .slice A n c ∧ n + m = most ∧ m ≤ g ∧ Aside0 (xs.length = n) ∧ Aside0 (Rd x wr jj) ∧ Aside0 (w.grownBy wr (some x.r)) ∧
    Aside0 (k50.R 50 wr w.heap.size (fun _=>True) (.slice A n c) xs) ∧ Aside0 (listF bg rd m xs jj = some o))
  case atStart=>exact ⟨most,0,[],j,none,0,rfl,by omega,Nat.le_refl _,⟨rfl⟩,HR0,HG0,⟨Kd.R_nil _ _ _ _ _⟩,HO⟩
  case round =>
    obtain ⟨m,n,xs,jj,A,c,rfl,h1,h2,HN,HR,HG,HL,HS⟩:=hrel
    cases hb : bg jj with
    | false =>
      have he:=listF_end HS.out hb
      subst he
      have HBB:=Aside0.mk hb
      clear hb
      go_wp2_with (go_at_call 58;refine (HB.out _ _ HG.out HR.out).mono ?_;rw [HBB.out];rintro e w2 ⟨rfl,hb2⟩;have HR:=Aside0.mk (HR.out.below_ hb2);have HG:=Aside0.mk (HG.out.trans (grown_of_below hb2 _));have HL:=Aside0.mk (Kd.R_below HL.out hb2))
      go_ret
      exact ⟨_,rfl,HL.out,HR.out,HG.out⟩
    | true =>
      have HBB:=Aside0.mk hb
      clear hb
      cases m with
      | zero =>
        have hs:=HS.out
        rw [listF,if_pos HBB.out] at hs
        injection hs with hs
        subst hs
        have hn : n = most:=by omega
        subst hn
        have hq : ((n : Int) == (n : Int)) = true:=beq_self_eq_true _
        go_wp2_with (first
          | (go_at_call 58;refine (HB.out _ _ HG.out HR.out).mono ?_;rw [HBB.out];rintro e w2 ⟨rfl,hb2⟩;have HR:=Aside0.mk (HR.out.below_ hb2);have HG:=Aside0.mk (HG.out.trans (grown_of_below hb2 (some x.r))))
          | (go_at_call 36;refine (fail_ x _ _ HR.out 3).mono ?_;rintro e w4 ⟨rfl,rfl⟩;exact ⟨rfl,rfl,HR.out,HG.out⟩))
      | succ m =>
        have hs:=HS.out
        rw [listF,if_pos HBB.out] at hs
        have HS:=Aside0.mk hs
        have hq : ((n : Int) == (most : Int)) = false:=beq_eq_false_iff_ne.2 (by omega)
        have HNL:=Aside0.mk (show n < 1000 by have:=HM.out;omega)
        clear hs
        obtain ⟨g,rfl⟩ : ∃ g,gk = g + 1:=⟨gk - 1,by omega⟩
        go_wp2_with (first
          | (go_at_call 58;refine (HB.out _ _ HG.out HR.out).mono ?_;rw [HBB.out];rintro e w2 ⟨rfl,hb2⟩;have HR:=Aside0.mk (HR.out.below_ hb2);have HG:=Aside0.mk (HG.out.trans (grown_of_below hb2 (some x.r)));have HL:=Aside0.mk (Kd.R_below HL.out hb2))
          | (go_at_call 59; refine step_ x HS.out (fun o1 h1 => HV.out _ _ _ HG.out HR.out h1) (fun e k w' he hr hg => by subst he; exact ⟨rfl, rfl, hr, HG.out.trans hg⟩) ?_; rintro a i v w8 hq ⟨cs, rfl, hM⟩ hr hg; have HMM := Aside0.mk hM; have HL8 := Aside0.mk (R_keepG HL.out hg HXR.out); have HR := Aside0.mk hr; have HGG := Aside0.mk (HG.out.trans hg); have HS := Aside0.mk hq; obtain ⟨v6, rfl, hR6⟩ := k50_openM hM; clear hR6; clear hM hr hg hq)
          | ((with_reducible refine gate_dst (N:=21) rfl ?_);refine Kd.R_append k50 (w0:=w8) w.heap.size rfl (.tmp 17) (.tmp 20) 31 50 (.agg Z50) 48 rfl Tryz.underlying31 info50 rfl (by decide) (by decide) (.slice A n c) xs a [.int .u8 a.f0,.int .i64 a.f1,.int .u8 a.f2,.int .u8 a.f3.f0,.int .u8 a.f3.f1,.int .u8 a.f3.f2,v6] (fun _=>True) (fun k=>True ∧ some k ≠ (Value.slice A n c).ownBlock) rfl rfl ?aM (fun k hk=>⟨trivial,hk.2⟩) (fun _ _=>trivial) HL8.out (Below.refl _ _) HGG.out.size ?aL ?_
             case aM =>
               obtain ⟨inner,ho⟩:=Kd.R_own HL.out
               exact k50.M_lower HG.out.size (Kd.M_new HMM.out ho)
             case aL=>have:=HN.out;have:=HNL.out;omega
             intro v1 w9 ho9 hb9 hg9 hat9
             obtain ⟨A1,c1,rfl⟩:=Kd.R_slice ho9
             rw [show (xs ++ [a]).length = n + 1 from by rw [List.length_append,HN.out];rfl] at ho9 ⊢
             have HL9:=Aside0.mk ho9
             have HR9:=Aside0.mk (HR.out.under hb9 HXR.out HXB.out HXW.out)
             have HG9:=Aside0.mk (grown_under HGG.out hb9 (Nat.le_refl _))
             clear ho9 hb9 hg9 hat9))
        go_roundg g
        case measure=>omega
        case rel=>exact ⟨m,n + 1,xs ++ [a],i,A1,c1,rfl,by omega,by omega,⟨by rw [List.length_append,HN.out];rfl⟩,HR9,HG9,HL9,HS⟩
set_option maxHeartbeats 2000000 in
set_option maxRecDepth 100000 in
theorem list43a (x : Cx) (w : World) (j : Nat) (most : Nat) (hm : most ≤ 1000) (p : Nat) (bg : Nat → Bool) (rd : Nat → Option (Out S43))
    (hB : ∀ (wr : World) (j : Nat), w.grownBy wr (some x.r) → Rd x wr j → Calls Tryz.prog 44 #[.pointer (some ⟨p, 0, none⟩)] wr (fun e w' => e = .returned (.bool (bg j)) ∧ Below wr.heap.size wr w'))
    (hV : ∀ (wr : World) (j : Nat) (o : Out S43),w.grownBy wr (some x.r) → Rd x wr j → rd j = some o → Calls Tryz.prog 46 #[.pointer (some ⟨x.r,0,none⟩)] wr (Post x wr (rItem k43 wr.heap.size) o))
    (h : Rd x w j) {o : Out (List S43)} (ho : listF bg rd most [] j = some o) :
    Calls Tryz.prog 43 #[.pointer (some ⟨x.r,0,none⟩),.int .i64 (most : Int),.func (.func 44) #[] #[.pointer (some ⟨p,0,none⟩)],.func (.func 46) #[.pointer (some ⟨x.r,0,none⟩)] #[]] w (Post x w (rList k43 43 w.heap.size) o):=by
  have HR0:=Aside0.mk h
  have HB:=Aside0.mk hB
  have HV:=Aside0.mk hV
  have HM:=Aside0.mk hm
  have HO:=Aside0.mk ho
  have HXR:=Aside0.mk h.rlt
  have HXB:=Aside0.mk h.Blt
  have HXW:=Aside0.mk (Nat.le_of_lt (Nat.lt_of_le_of_lt h.hr h.rlt))
  have HG0:=Aside0.mk (World.grownBy.refl w (some x.r))
  clear hB hV h ho hm
  go_enter Tryz.func43,Tryz.ntmps43
  go_wp2_with fail
  go_loopg [8] most (fun g s8 wr=>∃ (m n : Nat) (xs : List S43) (jj : Nat) (A : Option Addr) (c : Nat),s8 = .slice A n c ∧ n + m = most ∧ m ≤ g ∧ Aside0 (xs.length = n) ∧ Aside0 (Rd x wr jj) ∧ Aside0 (w.grownBy wr (some x.r)) ∧
    Aside0 (k43.R 43 wr w.heap.size (fun _=>True) (.slice A n c) xs) ∧ Aside0 (listF bg rd m xs jj = some o))
  case atStart=>exact ⟨most,0,[],j,none,0,rfl,by omega,Nat.le_refl _,⟨rfl⟩,HR0,HG0,⟨Kd.R_nil _ _ _ _ _⟩,HO⟩
  case round =>
    obtain ⟨m,n,xs,jj,A,c,rfl,h1,h2,HN,HR,HG,HL,HS⟩:=hrel
    cases hb : bg jj with
    | false =>
      have he:=listF_end HS.out hb
      subst he
      have HBB:=Aside0.mk hb
      clear hb
      go_wp2_with (go_at_call 44;refine (HB.out _ _ HG.out HR.out).mono ?_;rw [HBB.out];rintro e w2 ⟨rfl,hb2⟩;have HR:=Aside0.mk (HR.out.below_ hb2);have HG:=Aside0.mk (HG.out.trans (grown_of_below hb2 _));have HL:=Aside0.mk (Kd.R_below HL.out hb2))
      go_ret
      exact ⟨_,rfl,HL.out,HR.out,HG.out⟩
    | true =>
      have HBB:=Aside0.mk hb
      clear hb
      cases m with
      | zero =>
        have hs:=HS.out
        rw [listF,if_pos HBB.out] at hs
        injection hs with hs
        subst hs
        have hn : n = most:=by omega
        subst hn
        have hq : ((n : Int) == (n : Int)) = true:=beq_self_eq_true _
        go_wp2_with (first
          | (go_at_call 44;refine (HB.out _ _ HG.out HR.out).mono ?_;rw [HBB.out];rintro e w2 ⟨rfl,hb2⟩;have HR:=Aside0.mk (HR.out.below_ hb2);have HG:=Aside0.mk (HG.out.trans (grown_of_below hb2 (some x.r))))
          | (go_at_call 36;refine (fail_ x _ _ HR.out 3).mono ?_;rintro e w4 ⟨rfl,rfl⟩;exact ⟨rfl,rfl,HR.out,HG.out⟩))
      | succ m =>
        have hs:=HS.out
        rw [listF,if_pos HBB.out] at hs
        have HS:=Aside0.mk hs
        have hq : ((n : Int) == (most : Int)) = false:=beq_eq_false_iff_ne.2 (by omega)
        have HNL:=Aside0.mk (show n < 1000 by have:=HM.out;omega)
        clear hs
        obtain ⟨g,rfl⟩ : ∃ g,gk = g + 1:=⟨gk - 1,by omega⟩
        go_wp2_with (first
          | (go_at_call 44;refine (HB.out _ _ HG.out HR.out).mono ?_;rw [HBB.out];rintro e w2 ⟨rfl,hb2⟩;have HR:=Aside0.mk (HR.out.below_ hb2);have HG:=Aside0.mk (HG.out.trans (grown_of_below hb2 (some x.r)));have HL:=Aside0.mk (Kd.R_below HL.out hb2))
          | (go_at_call 46; refine step_ x HS.out (fun o1 h1 => HV.out _ _ _ HG.out HR.out h1) (fun e k w' he hr hg => by subst he; exact ⟨rfl, rfl, hr, HG.out.trans hg⟩) ?_; rintro a i v w8 hq ⟨cs, rfl, hM⟩ hr hg; have HMM := Aside0.mk hM; have HL8 := Aside0.mk (R_keepG HL.out hg HXR.out); have HR := Aside0.mk hr; have HGG := Aside0.mk (HG.out.trans hg); have HS := Aside0.mk hq; obtain ⟨v6, v7, rfl, hR6, hR7⟩ := k43_openM hM; clear hR6 hR7; clear hM hr hg hq)
          | ((with_reducible refine gate_dst (N:=21) rfl ?_);refine Kd.R_append k43 (w0:=w8) w.heap.size rfl (.tmp 17) (.tmp 20) 36 43 (.agg Z43) 96 rfl Tryz.underlying36 info43 rfl (by decide) (by decide) (.slice A n c) xs a [.int .u8 a.f0,.int .u8 a.f1,.int .u8 a.f2,v6,.int .i64 a.f4,.int .i64 a.f5,.bool a.f6,.int .i64 a.f7,.int .u8 a.f8.f0,.int .u8 a.f8.f1,.int .u8 a.f8.f2,v7] (fun _=>True) (fun k=>True ∧ some k ≠ (Value.slice A n c).ownBlock) rfl rfl ?aM (fun k hk=>⟨trivial,hk.2⟩) (fun _ _=>trivial) HL8.out (Below.refl _ _) HGG.out.size ?aL ?_
             case aM =>
               obtain ⟨inner,ho⟩:=Kd.R_own HL.out
               exact k43.M_lower HG.out.size (Kd.M_new HMM.out ho)
             case aL=>have:=HN.out;have:=HNL.out;omega
             intro v1 w9 ho9 hb9 hg9 hat9
             obtain ⟨A1,c1,rfl⟩:=Kd.R_slice ho9
             rw [show (xs ++ [a]).length = n + 1 from by rw [List.length_append,HN.out];rfl] at ho9 ⊢
             have HL9:=Aside0.mk ho9
             have HR9:=Aside0.mk (HR.out.under hb9 HXR.out HXB.out HXW.out)
             have HG9:=Aside0.mk (grown_under HGG.out hb9 (Nat.le_refl _))
             clear ho9 hb9 hg9 hat9))
        go_roundg g
        case measure=>omega
        case rel=>exact ⟨m,n + 1,xs ++ [a],i,A1,c1,rfl,by omega,by omega,⟨by rw [List.length_append,HN.out];rfl⟩,HR9,HG9,HL9,HS⟩
set_option maxHeartbeats 2000000 in
set_option maxRecDepth 100000 in
theorem list76a (x : Cx) (w : World) (j : Nat) (most : Nat) (hm : most ≤ 1000) (p : Nat) (bg : Nat → Bool) (rd : Nat → Option (Out S52))
    (hB : ∀ (wr : World) (j : Nat), w.grownBy wr (some x.r) → Rd x wr j → Calls Tryz.prog 77 #[.pointer (some ⟨p, 0, none⟩)] wr (fun e w' => e = .returned (.bool (bg j)) ∧ Below wr.heap.size wr w'))
    (hV : ∀ (wr : World) (j : Nat) (o : Out S52),w.grownBy wr (some x.r) → Rd x wr j → rd j = some o → Calls Tryz.prog 79 #[.pointer (some ⟨x.r,0,none⟩)] wr (Post x wr (rItem k52 wr.heap.size) o))
    (h : Rd x w j) {o : Out (List S52)} (ho : listF bg rd most [] j = some o) :
    Calls Tryz.prog 76 #[.pointer (some ⟨x.r,0,none⟩),.int .i64 (most : Int),.func (.func 77) #[] #[.pointer (some ⟨p,0,none⟩)],.func (.func 79) #[.pointer (some ⟨x.r,0,none⟩)] #[]] w (Post x w (rList k52 52 w.heap.size) o):=by
  have HR0:=Aside0.mk h
  have HB:=Aside0.mk hB
  have HV:=Aside0.mk hV
  have HM:=Aside0.mk hm
  have HO:=Aside0.mk ho
  have HXR:=Aside0.mk h.rlt
  have HXB:=Aside0.mk h.Blt
  have HXW:=Aside0.mk (Nat.le_of_lt (Nat.lt_of_le_of_lt h.hr h.rlt))
  have HG0:=Aside0.mk (World.grownBy.refl w (some x.r))
  clear hB hV h ho hm
  go_enter Tryz.func76,Tryz.ntmps76
  go_wp2_with fail
  go_loopg [8] most (fun g s8 wr=>∃ (m n : Nat) (xs : List S52) (jj : Nat) (A : Option Addr) (c : Nat),s8 = .slice A n c ∧ n + m = most ∧ m ≤ g ∧ Aside0 (xs.length = n) ∧ Aside0 (Rd x wr jj) ∧ Aside0 (w.grownBy wr (some x.r)) ∧
    Aside0 (k52.R 52 wr w.heap.size (fun _=>True) (.slice A n c) xs) ∧ Aside0 (listF bg rd m xs jj = some o))
  case atStart=>exact ⟨most,0,[],j,none,0,rfl,by omega,Nat.le_refl _,⟨rfl⟩,HR0,HG0,⟨Kd.R_nil _ _ _ _ _⟩,HO⟩
  case round =>
    obtain ⟨m,n,xs,jj,A,c,rfl,h1,h2,HN,HR,HG,HL,HS⟩:=hrel
    cases hb : bg jj with
    | false =>
      have he:=listF_end HS.out hb
      subst he
      have HBB:=Aside0.mk hb
      clear hb
      go_wp2_with (go_at_call 77;refine (HB.out _ _ HG.out HR.out).mono ?_;rw [HBB.out];rintro e w2 ⟨rfl,hb2⟩;have HR:=Aside0.mk (HR.out.below_ hb2);have HG:=Aside0.mk (HG.out.trans (grown_of_below hb2 _));have HL:=Aside0.mk (Kd.R_below HL.out hb2))
      go_ret
      exact ⟨_,rfl,HL.out,HR.out,HG.out⟩
    | true =>
      have HBB:=Aside0.mk hb
      clear hb
      cases m with
      | zero =>
        have hs:=HS.out
        rw [listF,if_pos HBB.out] at hs
        injection hs with hs
        subst hs
        have hn : n = most:=by omega
        subst hn
        have hq : ((n : Int) == (n : Int)) = true:=beq_self_eq_true _
        go_wp2_with (first
          | (go_at_call 77;refine (HB.out _ _ HG.out HR.out).mono ?_;rw [HBB.out];rintro e w2 ⟨rfl,hb2⟩;have HR:=Aside0.mk (HR.out.below_ hb2);have HG:=Aside0.mk (HG.out.trans (grown_of_below hb2 (some x.r))))
          | (go_at_call 36;refine (fail_ x _ _ HR.out 3).mono ?_;rintro e w4 ⟨rfl,rfl⟩;exact ⟨rfl,rfl,HR.out,HG.out⟩))
      | succ m =>
        have hs:=HS.out
        rw [listF,if_pos HBB.out] at hs
        have HS:=Aside0.mk hs
        have hq : ((n : Int) == (most : Int)) = false:=beq_eq_false_iff_ne.2 (by omega)
        have HNL:=Aside0.mk (show n < 1000 by have:=HM.out;omega)
        clear hs
        obtain ⟨g,rfl⟩ : ∃ g,gk = g + 1:=⟨gk - 1,by omega⟩
        go_wp2_with (first
          | (go_at_call 77;refine (HB.out _ _ HG.out HR.out).mono ?_;rw [HBB.out];rintro e w2 ⟨rfl,hb2⟩;have HR:=Aside0.mk (HR.out.below_ hb2);have HG:=Aside0.mk (HG.out.trans (grown_of_below hb2 (some x.r)));have HL:=Aside0.mk (Kd.R_below HL.out hb2))
          | (go_at_call 79; refine step_ x HS.out (fun o1 h1 => HV.out _ _ _ HG.out HR.out h1) (fun e k w' he hr hg => by subst he; exact ⟨rfl, rfl, hr, HG.out.trans hg⟩) ?_; rintro a i v w8 hq ⟨cs, rfl, hM⟩ hr hg; have HMM := Aside0.mk hM; have HL8 := Aside0.mk (R_keepG HL.out hg HXR.out); have HR := Aside0.mk hr; have HGG := Aside0.mk (HG.out.trans hg); have HS := Aside0.mk hq; obtain ⟨v6, rfl, hR6⟩ := k52_openM hM; clear hR6; clear hM hr hg hq)
          | ((with_reducible refine gate_dst (N:=21) rfl ?_);refine Kd.R_append k52 (w0:=w8) w.heap.size rfl (.tmp 17) (.tmp 20) 41 52 (.agg (Z52 0)) 64 rfl Tryz.underlying41 info52 rfl (by decide) (by decide) (.slice A n c) xs a [.int .u8 a.f0,.int .u8 a.f1,.int .u8 a.f2.f0,.int .i64 a.f2.f1,.int .u8 a.f2.f2,.int .u8 a.f2.f3.f0,.int .u8 a.f2.f3.f1,.int .u8 a.f2.f3.f2,v6,.bool a.f3,.int .u8 a.f4.f0,.int .u8 a.f4.f1,.int .u8 a.f4.f2] (fun _=>True) (fun k=>True ∧ some k ≠ (Value.slice A n c).ownBlock) rfl rfl ?aM (fun k hk=>⟨trivial,hk.2⟩) (fun _ _=>trivial) HL8.out (Below.refl _ _) HGG.out.size ?aL ?_
             case aM =>
               obtain ⟨inner,ho⟩:=Kd.R_own HL.out
               exact k52.M_lower HG.out.size (Kd.M_new HMM.out ho)
             case aL=>have:=HN.out;have:=HNL.out;omega
             intro v1 w9 ho9 hb9 hg9 hat9
             obtain ⟨A1,c1,rfl⟩:=Kd.R_slice ho9
             rw [show (xs ++ [a]).length = n + 1 from by rw [List.length_append,HN.out];rfl] at ho9 ⊢
             have HL9:=Aside0.mk ho9
             have HR9:=Aside0.mk (HR.out.under hb9 HXR.out HXB.out HXW.out)
             have HG9:=Aside0.mk (grown_under HGG.out hb9 (Nat.le_refl _))
             clear ho9 hb9 hg9 hat9))
        go_roundg g
        case measure=>omega
        case rel=>exact ⟨m,n + 1,xs ++ [a],i,A1,c1,rfl,by omega,by omega,⟨by rw [List.length_append,HN.out];rfl⟩,HR9,HG9,HL9,HS⟩
set_option maxHeartbeats 2000000 in
set_option maxRecDepth 100000 in
theorem list33a (x : Cx) (w : World) (j : Nat) (most : Nat) (hm : most ≤ 1000) (p p2 q : Nat) (bg : Nat → Bool) (rd : Nat → Option (Out S38))
    (hB : ∀ (wr : World) (j : Nat), w.grownBy wr (some x.r) → Rd x wr j → Calls Tryz.prog 34 #[.pointer (some ⟨p, 0, none⟩), .pointer (some ⟨q, 0, none⟩)] wr (fun e w' => e = .returned (.bool (bg j)) ∧ Below wr.heap.size wr w'))
    (hV : ∀ (wr : World) (j : Nat) (o : Out S38),w.grownBy wr (some x.r) → Rd x wr j → rd j = some o → Calls Tryz.prog 35 #[.pointer (some ⟨p2,0,none⟩),.pointer (some ⟨q,0,none⟩)] wr (Post x wr (rItem k38 wr.heap.size) o))
    (h : Rd x w j) {o : Out (List S38)} (ho : listF bg rd most [] j = some o) :
    Calls Tryz.prog 33 #[.pointer (some ⟨x.r,0,none⟩),.int .i64 (most : Int),.func (.func 34) #[] #[.pointer (some ⟨p,0,none⟩),.pointer (some ⟨q,0,none⟩)],.func (.func 35) #[] #[.pointer (some ⟨p2,0,none⟩),.pointer (some ⟨q,0,none⟩)]] w (Post x w (rList k38 38 w.heap.size) o):=by
  have HR0:=Aside0.mk h
  have HB:=Aside0.mk hB
  have HV:=Aside0.mk hV
  have HM:=Aside0.mk hm
  have HO:=Aside0.mk ho
  have HXR:=Aside0.mk h.rlt
  have HXB:=Aside0.mk h.Blt
  have HXW:=Aside0.mk (Nat.le_of_lt (Nat.lt_of_le_of_lt h.hr h.rlt))
  have HG0:=Aside0.mk (World.grownBy.refl w (some x.r))
  clear hB hV h ho hm
  go_enter Tryz.func33,Tryz.ntmps33
  go_wp2_with fail
  go_loopg [8] most (fun g s8 wr=>∃ (m n : Nat) (xs : List S38) (jj : Nat) (A : Option Addr) (c : Nat),s8 = .slice A n c ∧ n + m = most ∧ m ≤ g ∧ Aside0 (xs.length = n) ∧ Aside0 (Rd x wr jj) ∧ Aside0 (w.grownBy wr (some x.r)) ∧
    Aside0 (k38.R 38 wr w.heap.size (fun _=>True) (.slice A n c) xs) ∧ Aside0 (listF bg rd m xs jj = some o))
  case atStart=>exact ⟨most,0,[],j,none,0,rfl,by omega,Nat.le_refl _,⟨rfl⟩,HR0,HG0,⟨Kd.R_nil _ _ _ _ _⟩,HO⟩
  case round =>
    obtain ⟨m,n,xs,jj,A,c,rfl,h1,h2,HN,HR,HG,HL,HS⟩:=hrel
    cases hb : bg jj with
    | false =>
      have he:=listF_end HS.out hb
      subst he
      have HBB:=Aside0.mk hb
      clear hb
      go_wp2_with (go_at_call 34;refine (HB.out _ _ HG.out HR.out).mono ?_;rw [HBB.out];rintro e w2 ⟨rfl,hb2⟩;have HR:=Aside0.mk (HR.out.below_ hb2);have HG:=Aside0.mk (HG.out.trans (grown_of_below hb2 _));have HL:=Aside0.mk (Kd.R_below HL.out hb2))
      go_ret
      exact ⟨_,rfl,HL.out,HR.out,HG.out⟩
    | true =>
      have HBB:=Aside0.mk hb
      clear hb
      cases m with
      | zero =>
        have hs:=HS.out
        rw [listF,if_pos HBB.out] at hs
        injection hs with hs
        subst hs
        have hn : n = most:=by omega
        subst hn
        have hq : ((n : Int) == (n : Int)) = true:=beq_self_eq_true _
        go_wp2_with (first
          | (go_at_call 34;refine (HB.out _ _ HG.out HR.out).mono ?_;rw [HBB.out];rintro e w2 ⟨rfl,hb2⟩;have HR:=Aside0.mk (HR.out.below_ hb2);have HG:=Aside0.mk (HG.out.trans (grown_of_below hb2 (some x.r))))
          | (go_at_call 36;refine (fail_ x _ _ HR.out 3).mono ?_;rintro e w4 ⟨rfl,rfl⟩;exact ⟨rfl,rfl,HR.out,HG.out⟩))
      | succ m =>
        have hs:=HS.out
        rw [listF,if_pos HBB.out] at hs
        have HS:=Aside0.mk hs
        have hq : ((n : Int) == (most : Int)) = false:=beq_eq_false_iff_ne.2 (by omega)
        have HNL:=Aside0.mk (show n < 1000 by have:=HM.out;omega)
        clear hs
        obtain ⟨g,rfl⟩ : ∃ g,gk = g + 1:=⟨gk - 1,by omega⟩
        go_wp2_with (first
          | (go_at_call 34;refine (HB.out _ _ HG.out HR.out).mono ?_;rw [HBB.out];rintro e w2 ⟨rfl,hb2⟩;have HR:=Aside0.mk (HR.out.below_ hb2);have HG:=Aside0.mk (HG.out.trans (grown_of_below hb2 (some x.r)));have HL:=Aside0.mk (Kd.R_below HL.out hb2))
          | (go_at_call 35; refine step_ x HS.out (fun o1 h1 => HV.out _ _ _ HG.out HR.out h1) (fun e k w' he hr hg => by subst he; exact ⟨rfl, rfl, hr, HG.out.trans hg⟩) ?_; rintro a i v w8 hq ⟨cs, rfl, hM⟩ hr hg; have HMM := Aside0.mk hM; have HL8 := Aside0.mk (R_keepG HL.out hg HXR.out); have HR := Aside0.mk hr; have HGG := Aside0.mk (HG.out.trans hg); have HS := Aside0.mk hq; obtain ⟨v6, rfl, hR6⟩ := k38_openM hM; clear hR6; clear hM hr hg hq)
          | ((with_reducible refine gate_dst (N:=21) rfl ?_);refine Kd.R_append k38 (w0:=w8) w.heap.size rfl (.tmp 17) (.tmp 20) 23 38 (.agg Z38) 72 rfl Tryz.underlying23 info38 rfl (by decide) (by decide) (.slice A n c) xs a [.string a.f0,.int .u8 a.f1,.int .i64 a.f2,.int .i64 a.f3,.int .i64 a.f4,v6] (fun _=>True) (fun k=>True ∧ some k ≠ (Value.slice A n c).ownBlock) rfl rfl ?aM (fun k hk=>⟨trivial,hk.2⟩) (fun _ _=>trivial) HL8.out (Below.refl _ _) HGG.out.size ?aL ?_
             case aM =>
               obtain ⟨inner,ho⟩:=Kd.R_own HL.out
               exact k38.M_lower HG.out.size (Kd.M_new HMM.out ho)
             case aL=>have:=HN.out;have:=HNL.out;omega
             intro v1 w9 ho9 hb9 hg9 hat9
             obtain ⟨A1,c1,rfl⟩:=Kd.R_slice ho9
             rw [show (xs ++ [a]).length = n + 1 from by rw [List.length_append,HN.out];rfl] at ho9 ⊢
             have HL9:=Aside0.mk ho9
             have HR9:=Aside0.mk (HR.out.under hb9 HXR.out HXB.out HXW.out)
             have HG9:=Aside0.mk (grown_under HGG.out hb9 (Nat.le_refl _))
             clear ho9 hb9 hg9 hat9))
        go_roundg g
        case measure=>omega
        case rel=>exact ⟨m,n + 1,xs ++ [a],i,A1,c1,rfl,by omega,by omega,⟨by rw [List.length_append,HN.out];rfl⟩,HR9,HG9,HL9,HS⟩
end Go.Proofs.YtmgdkkkkanjadaaGreatDoor.HandG
