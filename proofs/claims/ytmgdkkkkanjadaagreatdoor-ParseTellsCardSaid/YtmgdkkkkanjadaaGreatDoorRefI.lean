/-
  joustref02's Pool, Exprs: what is read, from the tokens. Conditions: what joustref01.Tokens answers.
-/
import Derived.Test.YtmgdkkkkanjadaaGreatDoorRefH
namespace Go.Proofs.YtmgdkkkkanjadaaGreatDoor.RefA
set_option linter.unusedVariables false
set_option linter.unusedSimpArgs false
open Go.RowKit Go.Shelf Go.Lib Go.Proofs.YtmgdkkkkanjadaaGreatDoorW.PrintWords Go.Proofs.YtmgdkkkkanjadaaGreatDoorW.PrintLast Go.Proofs.YtmgdkkkkanjadaaGreatDoorW.PrintMore Go.Proofs.YtmgdkkkkanjadaaGreatDoor.X Go.Proofs.YtmgdkkkkanjadaaGreatDoor.HandS Go.Proofs.YtmgdkkkkanjadaaGreatDoor.HandA Go.Proofs.YtmgdkkkkanjadaaGreatDoor.HandB Go.Proofs.YtmgdkkkkanjadaaGreatDoor.HandC Go.Proofs.YtmgdkkkkanjadaaGreatDoor.HandF Go.Proofs.YtmgdkkkkanjadaaGreatDoor.HandG Go.Proofs.YtmgdkkkkanjadaaGreatDoor.HandH Go.Proofs.YtmgdkkkkanjadaaGreatDoor.HandI Go.Proofs.YtmgdkkkkanjadaaGreatDoor.HandJ Go.Proofs.YtmgdkkkkanjadaaGreatDoor.HandK
def doneQ (T : List S69) : St → Bool
  | .ok j=>(tkAt T j).f0 == 0
  | .bad _ _ _=>true
attribute [local go_sem] field69_0
set_option maxRecDepth 100000
theorem doneBad (w : World) (r : Nat) (e : Int) (hc : w.cell? ⟨r,2,none⟩ = some (.int .i64 e)) (he : e ≠ 0) :
    Calls Tryz.prog 19 #[.pointer (some ⟨r, 0, none⟩)] w fun e' w' => e' = .returned (.bool true) ∧ w' = w := by
  have hu66:=Tryz.underlying66
  have hu28:=Tryz.underlying28
  have h0 : (e != 0) = true:=bne_iff_ne.2 he
  go_enter Tryz.func19,Tryz.ntmps19
  go_wp2
  go_ret
  exact ⟨rfl,rfl⟩
theorem doneE (x : Cx) (w : World) (st : St) (h : Qd x w st) :
    Calls Tryz.prog 19 #[.pointer (some ⟨x.r, 0, none⟩)] w fun e w' => e = .returned (.bool (doneQ x.T st)) ∧ Below w.heap.size w w' := by
  have HN:=Aside0.mk (next_ x w st h)
  obtain ⟨a,ha,haj,c0,c1,c2,hrow⟩:=h.cells
  cases st with
  | bad k l c => exact (doneBad w x.r k c2 (h.nz k l c rfl)).mono (by rintro e w' ⟨rfl, rfl⟩; exact ⟨rfl, Below.refl _ _⟩)
  | ok j =>
    have c2 : w.cell? ⟨x.r,2,none⟩ = some (.int .i64 0):=c2
    have hu66:=Tryz.underlying66
    have hu28:=Tryz.underlying28
    have hu69:=Tryz.underlying69
    clear h ha haj c0 c1 hrow
    show Calls Tryz.prog 19 #[.pointer (some ⟨x.r, 0, none⟩)] w fun e w' => e = .returned (.bool ((tkAt x.T j).f0 == 0)) ∧ Below w.heap.size w w'
    have hn : nextQ x.T (.ok j) = tkAt x.T j:=rfl
    rw [hn] at HN
    generalize tkAt x.T j = t at *
    obtain ⟨k,y,l0,c0⟩:=t
    go_enter Tryz.func19,Tryz.ntmps19
    go_wp2_with (go_at_call 48;refine HN.out.mono ?_;rintro e w1 ⟨rfl,hq,hb⟩;have HB:=Aside0.mk hb;clear hq hb)
    go_ret
    exact ⟨rfl,HB.out⟩
def wBegin : List ByteArray:=[⟨#[108,105,102,101]⟩,⟨#[99,111,117,110,116]⟩,⟨#[112,111,119,101,114]⟩,⟨#[40]⟩]
def beginQ (T : List S69) (st : St) : Bool:=(nextQ T st).f0 == 2 || anyF T st wBegin
theorem beginE (x : Cx) (w : World) (st : St) (h : Qd x w st) :
    Calls Tryz.prog 27 #[.pointer (some ⟨x.r, 0, none⟩)] w fun e w' => e = .returned (.bool (beginQ x.T st)) ∧ Below w.heap.size w w' := by
  have HN:=Aside0.mk (next_ x w st h)
  have hu69:=Tryz.underlying69
  have HX:=Aside0.mk h
  clear h
  unfold beginQ
  generalize ht : nextQ x.T st = t at *
  obtain ⟨k,y,l0,c0⟩:=t
  clear ht
  by_cases h2 : k = 2
  · subst h2
    go_enter Tryz.func27,Tryz.ntmps27
    go_wp2_with (go_at_call 48;refine HN.out.mono ?_;rintro e w1 ⟨rfl,hq,hb⟩;have HB:=Aside0.mk hb;clear hq hb)
    go_ret
    exact ⟨rfl,HB.out⟩
  · have n2 : (k == 2) = false:=beq_eq_false_iff_ne.2 h2
    show Calls Tryz.prog 27 #[.pointer (some ⟨x.r, 0, none⟩)] w fun e w' => e = .returned (.bool (k == 2 || anyF x.T st wBegin)) ∧ Below w.heap.size w w'
    rw [n2,Bool.false_or]
    clear h2
    go_enter Tryz.func27,Tryz.ntmps27
    go_wp2_with (first
      | (go_at_call 48;refine HN.out.mono ?_;rintro e w1 ⟨rfl,hq,hb⟩;have HQ:=Aside0.mk hq;have HB:=Aside0.mk hb;clear hq hb)
      | (go_at_call 20;refine (amongR_ x _ st (HQ.out.below_ (below_alloc (Below.refl _ _) (.cells (wBegin.map Value.string).toArray 9))) wBegin w1.heap.size 4 (Wd.new w1 wBegin) (Nat.ne_of_gt HQ.out.rlt) (by decide)).mono ?_;rintro e w2 ⟨rfl,hq,hb⟩;have HB2:=Aside0.mk hb;clear hq hb))
    go_ret
    exact ⟨rfl,below_step (below_alloc HB.out _) HB2.out⟩
/-! ### the lists -/
def limQ (T : List S69) (bg : St → Bool) (most n : Nat) (st : St) : St:=if most ≤ n ∧ bg st = true then failQ T 3 st else st
def listQ {α : Type} (T : List S69) (bg : St → Bool) (most : Nat) (rd : St → α × St) : Nat → List α → St → Option (List α × St)
  | 0,_,_=>none
  | g + 1,xs,st=>if doneQ T st = true then some (xs,st) else listQ T bg most rd g (xs ++ [(rd (limQ T bg most xs.length st)).1]) (rd (limQ T bg most xs.length st)).2
def tellQ {α : Type} (r : List α × St) : List α × Int × Int × Int:=if r.2.e = 0 then (r.1,0,0,0) else ([],r.2.e,r.2.l,r.2.c)
theorem lim_ways (T : List S69) (bg : St → Bool) (most n : Nat) (st : St) (M : Int) (hM : (most : Int) = M) :
    (limQ T bg most n st = st ∧ bg st = bg st ∧ (M ≤ (n : Int)) = False ∧ decide (M ≤ (n : Int)) = false ∧ (most ≤ n) = False ∧ decide (most ≤ n) = false)
    ∨ (limQ T bg most n st = st ∧ bg st = false ∧ (M ≤ (n : Int)) = True ∧ decide (M ≤ (n : Int)) = true ∧ (most ≤ n) = True ∧ decide (most ≤ n) = true)
    ∨ (limQ T bg most n st = failQ T 3 st ∧ bg st = true ∧ (M ≤ (n : Int)) = True ∧ decide (M ≤ (n : Int)) = true ∧ (most ≤ n) = True ∧ decide (most ≤ n) = true):=by
  subst hM
  unfold limQ
  by_cases h : most ≤ n
  · have h2 : (most : Int) ≤ (n : Int):=by omega
    cases hb : bg st with
    | false=>exact .inr (.inl ⟨if_neg (fun h=>nomatch h.2),rfl,eq_true h2,decide_eq_true h2,eq_true h,decide_eq_true h⟩)
    | true=>exact .inr (.inr ⟨if_pos ⟨h,rfl⟩,rfl,eq_true h2,decide_eq_true h2,eq_true h,decide_eq_true h⟩)
  · have h2 : ¬ (most : Int) ≤ (n : Int):=by omega
    exact .inl ⟨if_neg (fun hh=>h hh.1),rfl,eq_false h2,decide_eq_false h2,eq_false h,decide_eq_false h⟩
structure Pl {α : Type} (d : Kd α) (ty : TypeId) (x : Cx) (w wr : World) (q : Nat) (v : Value) (xs : List α) (st : St) : Prop where
  qd : Qd x wr st
  gr : w.grownBy wr (some x.r)
  res : wr.heap[q]? = some (.cells #[.int .i64 0,.int .i64 0,.int .i64 0] 28 (0,0))
  row : d.R ty wr w.heap.size (fun _=>True) v xs
  rl : x.r < w.heap.size
  Bl : x.B < w.heap.size
  Wl : x.W0.heap.size ≤ w.heap.size
  ql : q < w.heap.size
  qr : q ≠ x.r
section
variable {α : Type} {d : Kd α} {ty : TypeId} {x : Cx} {w wr w1 w8 w9 : World} {q : Nat} {v v1 : Value} {xs ys : List α} {st st1 : St}
theorem Pl.call (h : Pl d ty x w wr q v xs st) (hq : Qd x w1 st1) (hg : wr.grownBy w1 (some x.r)) : Pl d ty x w w1 q v xs st1 :=
  ⟨hq,h.gr.trans hg,own_grown h.res hg h.qr,R_keepG h.row hg h.rl,h.rl,h.Bl,h.Wl,h.ql,h.qr⟩
theorem Pl.below (h : Pl d ty x w wr q v xs st) (hb : Below wr.heap.size wr w1) : Pl d ty x w w1 q v xs st:=h.call (h.qd.below_ hb) (grown_of_below hb _)
theorem Pl.add (h : Pl d ty x w w8 q v xs st) (hb : Below w.heap.size w8 w9) (hR : d.R ty w9 w.heap.size (fun _=>True) v1 ys) : Pl d ty x w w9 q v1 ys st :=
  ⟨h.qd.under hb h.rl h.Bl h.Wl,grown_under h.gr hb (Nat.le_refl _),by rw [hb.block q h.ql];exact h.res,hR,h.rl,h.Bl,h.Wl,h.ql,h.qr⟩
theorem listQ_end {T : List S69} {bg : St → Bool} {most : Nat} {rd : St → α × St} {g : Nat} {r : List α × St} (h : listQ T bg most rd g xs st = some r) (hd : doneQ T st = true) : (xs,st) = r:=by
  cases g with
  | zero=>cases h
  | succ g =>
    rw [listQ,if_pos hd] at h
    exact Option.some.inj h
theorem listQ_go {T : List S69} {bg : St → Bool} {most : Nat} {rd : St → α × St} {g : Nat} {r : List α × St} {a : α} (h : listQ T bg most rd (g + 1) xs st = some r) (hd : doneQ T st = false) (hr : rd (limQ T bg most xs.length st) = (a,st1)) : listQ T bg most rd g (xs ++ [a]) st1 = some r:=by
  rw [listQ,if_neg (by rw [hd];decide),hr] at h
  exact h
end
/-- the reader, as it is made -/
def Made (T : List S69) (W : World) (s : ByteArray) : Prop := Calls Tryz.prog 18 #[.string s] W fun e w' => ∃ x : Cx, x.T = T ∧ x.W0 = W ∧ e = .returned (.pointer (some ⟨x.r, 0, none⟩)) ∧ Qd x w' (.ok 0) ∧ Below W.heap.size W w' ∧ W.heap.size ≤ x.r
def kindQ (T : List S69) (st : St) : Bool:=anyF T st wKinds
set_option maxHeartbeats 16000000 in
set_option maxRecDepth 100000 in
theorem pool_ok (T : List S69) (s : ByteArray) (W : World) (G : Nat) (hG : G ≤ 1000000) (hm : Made T (W.alloc (.cells #[.int .i64 0,.int .i64 0,.int .i64 0] 28)) s) {r : List S38 × St} (hr : listQ T (kindQ T) 64 (cardQ T) G [] (.ok 0) = some r) :
    Calls Tryz.prog 7 #[.string s] W fun e w' => ∃ v0 : Value, e = .returned (.tuple #[v0, .agg #[.int .i64 (tellQ r).2.1, .int .i64 (tellQ r).2.2.1, .int .i64 (tellQ r).2.2.2]]) ∧ Kd.R k38 38 w' W.heap.size (fun _ => True) v0 (tellQ r).1 ∧ Below W.heap.size W w' := by
  have HM:=Aside0.mk hm
  have HS:=Aside0.mk hr
  have HF:=Aside0.mk (blk_new W (.cells #[.int .i64 0,.int .i64 0,.int .i64 0] 28))
  have HB:=Aside0.mk (below_alloc (Below.refl W.heap.size W) (.cells #[.int .i64 0,.int .i64 0,.int .i64 0] 28))
  have HSZ:=Aside0.mk (size_alloc W (.cells #[.int .i64 0,.int .i64 0,.int .i64 0] 28))
  have HGG:=Aside0.mk hG
  have hu28:=Tryz.underlying28
  have hu66:=Tryz.underlying66
  clear hm hr hG
  go_enter Tryz.func7,Tryz.ntmps7
  go_upto_block 0 with (go_at_call 18;refine HM.out.mono ?_;rintro e1 w ⟨x,hxT,hx,rfl,hq,hb,hrr⟩;subst hxT;have HX:=Aside0.mk (show x.W0.heap.size = W.heap.size + 1 by rw [hx];exact size_alloc _ _);have HQ:=Aside0.mk hq;have HF:=Aside0.mk (blk_below HF.out hb);have HB:=Aside0.mk (below_step HB.out hb);have HRR:=Aside0.mk hrr;clear hq hb hrr hx)
  have LP:=Aside0.mk (show Pl k38 38 x w w W.heap.size (.slice none 0 0) ([] : List S38) (.ok 0) from ⟨HQ.out,World.grownBy.refl _ _,HF.out,Kd.R_nil _ _ _ _ _,HQ.out.rlt,HQ.out.Blt,Nat.le_of_lt (Nat.lt_of_le_of_lt HQ.out.hr HQ.out.rlt),blk_lt HF.out,by have h1:=HQ.out.hr;have h2:=HX.out;omega⟩)
  clear HQ HF HRR HM
  go_cut [5] from 8 (fun s5 wc=>∃ (xs : List S38) (st : St) (A : Option Addr) (n c : Nat),s5 = .slice A n c ∧ Aside0 (Pl k38 38 x w wc W.heap.size (.slice A n c) xs st) ∧ Aside0 ((xs,st) = r))
  case first =>
    go_wp2_with fail
    go_loopg [5] G (fun g s5 wr=>∃ (n : Nat) (xs : List S38) (st1 : St) (A : Option Addr) (c : Nat),s5 = .slice A n c ∧ Aside0 (xs.length = n) ∧ Aside0 (n + g ≤ G) ∧ Aside0 (Pl k38 38 x w wr W.heap.size (.slice A n c) xs st1) ∧ Aside0 (listQ x.T (kindQ x.T) 64 (cardQ x.T) g xs st1 = some r))
    case atStart=>exact ⟨0,[],.ok 0,none,0,rfl,⟨rfl⟩,⟨by omega⟩,LP,HS⟩
    case round =>
      clear LP HS
      obtain ⟨n,xs,st1,A,c,rfl,HN,HNG,LP,HS⟩:=hrel
      rcases hd : doneQ x.T st1 with _ | _
      · have HD:=Aside0.mk hd
        clear hd
        obtain ⟨g,rfl⟩ : ∃ g,gk = g + 1:=by
          cases gk with
          | zero=>exact absurd HS.out (by intro h;cases h)
          | succ g=>exact ⟨g,rfl⟩
        have HNL:=Aside0.mk (show n < 1000000 by have:=HNG.out;have:=HGG.out;omega)
        rcases lim_ways x.T (kindQ x.T) 64 n st1 64 rfl with ⟨hl,hbg,g1,g2,g3,g4⟩ | ⟨hl,hbg,g1,g2,g3,g4⟩ | ⟨hl,hbg,g1,g2,g3,g4⟩
        all_goals
          have HL:=Aside0.mk hl
          have HBG:=Aside0.mk hbg
          clear hl hbg
          go_wp2_with (first
            | (go_at_call 19;refine (doneE x _ _ LP.out.qd).mono ?_;rintro e1 w2 ⟨rfl,hb⟩;rw [HD.out];have LP:=Aside0.mk (LP.out.below hb);clear hb)
            | (go_at_call 21;refine (kindsC _).mono ?_;rintro e1 w3 ⟨kb,rfl,hwd,hkb,hb⟩;have HKR:=Aside0.mk (show kb ≠ x.r from Nat.ne_of_gt (Nat.lt_of_lt_of_le LP.out.qd.rlt hkb));have LP:=Aside0.mk (LP.out.below hb);have HWD:=Aside0.mk hwd;clear hwd hkb hb)
            | (go_at_call 20;refine (amongR_ x _ _ LP.out.qd wKinds kb 5 HWD.out HKR.out (by decide)).mono ?_;rintro e1 w5 ⟨rfl,hq,hb⟩;rw [show anyF x.T st1 wKinds = _ from HBG.out];have LP:=Aside0.mk (LP.out.below hb);clear hq hb)
            | (go_at_call 22;refine (fails_ x _ _ LP.out.qd 3 (by decide)).mono ?_;rintro e1 w4 ⟨rfl,hq,hg⟩;have LP:=Aside0.mk (LP.out.call hq hg);clear hq hg)
            | (go_at_call 23;refine (cardE x _ _ LP.out.qd).mono ?_;rintro e1 w8 ⟨a,st8,v,h1,rfl,⟨cs,rfl,hM⟩,hq,hg⟩;obtain ⟨v5,rfl,hR5⟩:=k38_openM hM;have H8:=Aside0.mk ((congrArg (cardQ x.T) (show limQ x.T (kindQ x.T) 64 xs.length st1 = _ by rw [HN.out];exact HL.out)).trans h1);have LP8:=Aside0.mk (LP.out.call hq hg);have HMM:=Aside0.mk hM;clear h1 hM hq hg)
            | ((with_reducible refine gate_dst (N:=25) rfl ?_);refine Kd.R_append k38 (w0:=w8) w.heap.size rfl (.tmp 21) (.tmp 24) 23 38 (.agg Z38) 72 rfl Tryz.underlying23 info38 rfl (by decide) (by decide) (.slice A n c) xs a [.string a.f0,.int .u8 a.f1,.int .i64 a.f2,.int .i64 a.f3,.int .i64 a.f4,v5] (fun _=>True) (fun k=>True ∧ some k ≠ (Value.slice A n c).ownBlock) rfl rfl ?aM (fun k hk=>⟨trivial,hk.2⟩) (fun _ _=>trivial) LP8.out.row (Below.refl _ _) LP8.out.gr.size ?aL ?_
               case aM =>
                 obtain ⟨inner,ho⟩:=Kd.R_own LP.out.row
                 exact k38.M_lower LP.out.gr.size (Kd.M_new HMM.out ho)
               case aL=>have:=HN.out;have:=HNL.out;omega
               intro v1 w9 ho9 hb9 hg9 hat9
               obtain ⟨A1,c1,rfl⟩:=Kd.R_slice ho9
               rw [show (xs ++ [a]).length = n + 1 from by rw [List.length_append,HN.out];rfl] at ho9 ⊢
               have LP9:=Aside0.mk (LP8.out.add hb9 ho9)
               clear ho9 hb9 hg9 hat9))
          go_roundg g
          case measure=>omega
          case rel=>exact ⟨n + 1,xs ++ [a],st8,A1,c1,rfl,⟨by rw [List.length_append,HN.out];rfl⟩,⟨by have:=HNG.out;omega⟩,LP9,⟨listQ_go HS.out HD.out H8.out⟩⟩
      · have HD:=Aside0.mk hd
        have HE:=Aside0.mk (listQ_end HS.out hd)
        clear hd
        go_wp2_with (go_at_call 19;refine (doneE x _ _ LP.out.qd).mono ?_;rintro e1 w2 ⟨rfl,hb⟩;rw [HD.out];have LP:=Aside0.mk (LP.out.below hb);clear hb)
        go_meet
        case rel=>exact ⟨_,_,_,_,_,rfl,LP,HE⟩
  case rest =>
  clear LP HS
  obtain ⟨xs,st,A,n,c,rfl,LP,HE⟩:=hcut
  obtain ⟨a,ha,haj,c0,c1,c2,hrow⟩:=LP.out.qd.cells
  have hb : Below W.heap.size W wc:=pw_below_grown HB.out (some x.r) HB.out.size LP.out.gr (fun k e=>by cases e;have:=LP.out.qd.hr;have:=HX.out;omega)
  have HBW:=Aside0.mk hb
  clear hb
  have hr:=HE.out
  subst hr
  have HRW:=Aside0.mk hrow
  clear hrow c0 c1 ha haj
  by_cases h0 : st.e = 0
  · have m0 : (st.e != 0) = false:=by rw [h0];rfl
    have HT:=Aside0.mk (show tellQ (xs,st) = (xs,0,0,0) from if_pos h0)
    clear h0
    go_wp2_with ((with_reducible refine gate_store (t:=28) (p:=3) rfl ?_);refine store_row rfl rfl rfl W.heap.size _ rfl rfl LP.out.res (by kernel_rfl) rfl (by kernel_rfl) ?_;intro w3 hf3 hg3;have HF3:=Aside0.mk hf3;have HG3:=Aside0.mk hg3;clear hf3 hg3)
    refine bodyPost_ret (results_tc rfl _ _ W.heap.size 28 _ (0,0) _ rfl HF3.out Tryz.underlying28 rfl (by kernel_rfl)) rfl ?_
    rw [HT.out]
    exact ⟨_,rfl,Kd.R_lower (R_keepG LP.out.row HG3.out LP.out.ql) (Nat.le_of_lt LP.out.ql),pw_below_grown HBW.out (some W.heap.size) HBW.out.size HG3.out (fun k e=>by cases e;exact Nat.le_refl _)⟩
  · have m0 : (st.e != 0) = true:=bne_iff_ne.2 h0
    have HT:=Aside0.mk (show tellQ (xs,st) = ([],st.e,st.l,st.c) from if_neg h0)
    clear h0
    go_wp2_with fail
    have LPD:=Aside0.mk (LP.out.below (below_drew1 (Below.refl _ _)))
    obtain ⟨a,ha,haj,c0,c1,c2,hrow⟩:=LPD.out.qd.cells
    have c3:=(blk_cell hrow 3).trans rfl
    have c4:=(blk_cell hrow 4).trans rfl
    have d0:=(blk_cell LPD.out.res 0).trans rfl
    have b0:=(blk_cell LP.out.res 0).trans rfl
    have f0:=blk_frozen LPD.out.res 0
    have h0:=blk_frozen LP.out.res 0
    have d1:=(blk_cell LPD.out.res 1).trans rfl
    have b1:=(blk_cell LP.out.res 1).trans rfl
    have f1:=blk_frozen LPD.out.res 1
    have h1:=blk_frozen LP.out.res 1
    have d2:=(blk_cell LPD.out.res 2).trans rfl
    have b2:=(blk_cell LP.out.res 2).trans rfl
    have f2:=blk_frozen LPD.out.res 2
    have h2:=blk_frozen LP.out.res 2
    clear hrow ha haj
    go_region_law (fail)
    all_goals
      go_wp2
      refine bodyPost_ret (results_tc rfl _ _ W.heap.size 28 #[.int .i64 st.e,.int .i64 st.l,.int .i64 st.c] (0,0) _ rfl (blk_drew (blk_put (blk_put (blk_put LP.out.res 0 _ rfl) 1 _ rfl) 2 _ rfl)) Tryz.underlying28 rfl (by kernel_rfl)) rfl ?_
      rw [HT.out]
      exact ⟨_,rfl,Kd.R_nil _ _ _ _ _,below_drew1 (pw_below_grown HBW.out (some W.heap.size) HBW.out.size (((grown_set _ _ 0 _).trans (grown_set _ _ 1 _)).trans (grown_set _ _ 2 _)) (fun k e=>by cases e;exact Nat.le_refl _))⟩
set_option maxHeartbeats 16000000 in
set_option maxRecDepth 100000 in
theorem exprs_ok (T : List S69) (s : ByteArray) (W : World) (G : Nat) (hG : G ≤ 1000000) (hm : Made T (W.alloc (.cells #[.int .i64 0,.int .i64 0,.int .i64 0] 28)) s) {r : List S50 × St} (hr : listQ T (beginQ T) 6 ((fun T=>exprQ T 6) T) G [] (.ok 0) = some r) :
    Calls Tryz.prog 9 #[.string s] W fun e w' => ∃ v0 : Value, e = .returned (.tuple #[v0, .agg #[.int .i64 (tellQ r).2.1, .int .i64 (tellQ r).2.2.1, .int .i64 (tellQ r).2.2.2]]) ∧ Kd.R k50 50 w' W.heap.size (fun _ => True) v0 (tellQ r).1 ∧ Below W.heap.size W w' := by
  have HM:=Aside0.mk hm
  have HS:=Aside0.mk hr
  have HF:=Aside0.mk (blk_new W (.cells #[.int .i64 0,.int .i64 0,.int .i64 0] 28))
  have HB:=Aside0.mk (below_alloc (Below.refl W.heap.size W) (.cells #[.int .i64 0,.int .i64 0,.int .i64 0] 28))
  have HSZ:=Aside0.mk (size_alloc W (.cells #[.int .i64 0,.int .i64 0,.int .i64 0] 28))
  have HGG:=Aside0.mk hG
  have hu28:=Tryz.underlying28
  have hu66:=Tryz.underlying66
  clear hm hr hG
  go_enter Tryz.func9,Tryz.ntmps9
  go_upto_block 0 with (go_at_call 18;refine HM.out.mono ?_;rintro e1 w ⟨x,hxT,hx,rfl,hq,hb,hrr⟩;subst hxT;have HX:=Aside0.mk (show x.W0.heap.size = W.heap.size + 1 by rw [hx];exact size_alloc _ _);have HQ:=Aside0.mk hq;have HF:=Aside0.mk (blk_below HF.out hb);have HB:=Aside0.mk (below_step HB.out hb);have HRR:=Aside0.mk hrr;clear hq hb hrr hx)
  have LP:=Aside0.mk (show Pl k50 50 x w w W.heap.size (.slice none 0 0) ([] : List S50) (.ok 0) from ⟨HQ.out,World.grownBy.refl _ _,HF.out,Kd.R_nil _ _ _ _ _,HQ.out.rlt,HQ.out.Blt,Nat.le_of_lt (Nat.lt_of_le_of_lt HQ.out.hr HQ.out.rlt),blk_lt HF.out,by have h1:=HQ.out.hr;have h2:=HX.out;omega⟩)
  clear HQ HF HRR HM
  go_cut [5] from 8 (fun s5 wc=>∃ (xs : List S50) (st : St) (A : Option Addr) (n c : Nat),s5 = .slice A n c ∧ Aside0 (Pl k50 50 x w wc W.heap.size (.slice A n c) xs st) ∧ Aside0 ((xs,st) = r))
  case first =>
    go_wp2_with fail
    go_loopg [5] G (fun g s5 wr=>∃ (n : Nat) (xs : List S50) (st1 : St) (A : Option Addr) (c : Nat),s5 = .slice A n c ∧ Aside0 (xs.length = n) ∧ Aside0 (n + g ≤ G) ∧ Aside0 (Pl k50 50 x w wr W.heap.size (.slice A n c) xs st1) ∧ Aside0 (listQ x.T (beginQ x.T) 6 ((fun T=>exprQ T 6) x.T) g xs st1 = some r))
    case atStart=>exact ⟨0,[],.ok 0,none,0,rfl,⟨rfl⟩,⟨by omega⟩,LP,HS⟩
    case round =>
      clear LP HS
      obtain ⟨n,xs,st1,A,c,rfl,HN,HNG,LP,HS⟩:=hrel
      rcases hd : doneQ x.T st1 with _ | _
      · have HD:=Aside0.mk hd
        clear hd
        obtain ⟨g,rfl⟩ : ∃ g,gk = g + 1:=by
          cases gk with
          | zero=>exact absurd HS.out (by intro h;cases h)
          | succ g=>exact ⟨g,rfl⟩
        have HNL:=Aside0.mk (show n < 1000000 by have:=HNG.out;have:=HGG.out;omega)
        rcases lim_ways x.T (beginQ x.T) 6 n st1 6 rfl with ⟨hl,hbg,g1,g2,g3,g4⟩ | ⟨hl,hbg,g1,g2,g3,g4⟩ | ⟨hl,hbg,g1,g2,g3,g4⟩
        all_goals
          have HL:=Aside0.mk hl
          have HBG:=Aside0.mk hbg
          clear hl hbg
          go_wp2_with (first
            | (go_at_call 19;refine (doneE x _ _ LP.out.qd).mono ?_;rintro e1 w2 ⟨rfl,hb⟩;rw [HD.out];have LP:=Aside0.mk (LP.out.below hb);clear hb)
            | (go_at_call 27;refine (beginE x _ _ LP.out.qd).mono ?_;rintro e1 w5 ⟨rfl,hb⟩;rw [HBG.out];have LP:=Aside0.mk (LP.out.below hb);clear hb)
            | (go_at_call 22;refine (fails_ x _ _ LP.out.qd 3 (by decide)).mono ?_;rintro e1 w4 ⟨rfl,hq,hg⟩;have LP:=Aside0.mk (LP.out.call hq hg);clear hq hg)
            | (go_at_call 28;refine (exprE x _ _ LP.out.qd).mono ?_;rintro e1 w8 ⟨a,st8,v,h1,rfl,⟨cs,rfl,hM⟩,hq,hg⟩;obtain ⟨v6,rfl,hR6⟩:=k50_openM hM;have H8:=Aside0.mk ((congrArg ((fun T=>exprQ T 6) x.T) (show limQ x.T (beginQ x.T) 6 xs.length st1 = _ by rw [HN.out];exact HL.out)).trans h1);have LP8:=Aside0.mk (LP.out.call hq hg);have HMM:=Aside0.mk hM;clear h1 hM hq hg)
            | ((with_reducible refine gate_dst (N:=24) rfl ?_);refine Kd.R_append k50 (w0:=w8) w.heap.size rfl (.tmp 20) (.tmp 23) 31 50 (.agg Z50) 48 rfl Tryz.underlying31 info50 rfl (by decide) (by decide) (.slice A n c) xs a [.int .u8 a.f0,.int .i64 a.f1,.int .u8 a.f2,.int .u8 a.f3.f0,.int .u8 a.f3.f1,.int .u8 a.f3.f2,v6] (fun _=>True) (fun k=>True ∧ some k ≠ (Value.slice A n c).ownBlock) rfl rfl ?aM (fun k hk=>⟨trivial,hk.2⟩) (fun _ _=>trivial) LP8.out.row (Below.refl _ _) LP8.out.gr.size ?aL ?_
               case aM =>
                 obtain ⟨inner,ho⟩:=Kd.R_own LP.out.row
                 exact k50.M_lower LP.out.gr.size (Kd.M_new HMM.out ho)
               case aL=>have:=HN.out;have:=HNL.out;omega
               intro v1 w9 ho9 hb9 hg9 hat9
               obtain ⟨A1,c1,rfl⟩:=Kd.R_slice ho9
               rw [show (xs ++ [a]).length = n + 1 from by rw [List.length_append,HN.out];rfl] at ho9 ⊢
               have LP9:=Aside0.mk (LP8.out.add hb9 ho9)
               clear ho9 hb9 hg9 hat9))
          go_roundg g
          case measure=>omega
          case rel=>exact ⟨n + 1,xs ++ [a],st8,A1,c1,rfl,⟨by rw [List.length_append,HN.out];rfl⟩,⟨by have:=HNG.out;omega⟩,LP9,⟨listQ_go HS.out HD.out H8.out⟩⟩
      · have HD:=Aside0.mk hd
        have HE:=Aside0.mk (listQ_end HS.out hd)
        clear hd
        go_wp2_with (go_at_call 19;refine (doneE x _ _ LP.out.qd).mono ?_;rintro e1 w2 ⟨rfl,hb⟩;rw [HD.out];have LP:=Aside0.mk (LP.out.below hb);clear hb)
        go_meet
        case rel=>exact ⟨_,_,_,_,_,rfl,LP,HE⟩
  case rest =>
  clear LP HS
  obtain ⟨xs,st,A,n,c,rfl,LP,HE⟩:=hcut
  obtain ⟨a,ha,haj,c0,c1,c2,hrow⟩:=LP.out.qd.cells
  have hb : Below W.heap.size W wc:=pw_below_grown HB.out (some x.r) HB.out.size LP.out.gr (fun k e=>by cases e;have:=LP.out.qd.hr;have:=HX.out;omega)
  have HBW:=Aside0.mk hb
  clear hb
  have hr:=HE.out
  subst hr
  have HRW:=Aside0.mk hrow
  clear hrow c0 c1 ha haj
  by_cases h0 : st.e = 0
  · have m0 : (st.e != 0) = false:=by rw [h0];rfl
    have HT:=Aside0.mk (show tellQ (xs,st) = (xs,0,0,0) from if_pos h0)
    clear h0
    go_wp2_with ((with_reducible refine gate_store (t:=28) (p:=3) rfl ?_);refine store_row rfl rfl rfl W.heap.size _ rfl rfl LP.out.res (by kernel_rfl) rfl (by kernel_rfl) ?_;intro w3 hf3 hg3;have HF3:=Aside0.mk hf3;have HG3:=Aside0.mk hg3;clear hf3 hg3)
    refine bodyPost_ret (results_tc rfl _ _ W.heap.size 28 _ (0,0) _ rfl HF3.out Tryz.underlying28 rfl (by kernel_rfl)) rfl ?_
    rw [HT.out]
    exact ⟨_,rfl,Kd.R_lower (R_keepG LP.out.row HG3.out LP.out.ql) (Nat.le_of_lt LP.out.ql),pw_below_grown HBW.out (some W.heap.size) HBW.out.size HG3.out (fun k e=>by cases e;exact Nat.le_refl _)⟩
  · have m0 : (st.e != 0) = true:=bne_iff_ne.2 h0
    have HT:=Aside0.mk (show tellQ (xs,st) = ([],st.e,st.l,st.c) from if_neg h0)
    clear h0
    go_wp2_with fail
    have LPD:=Aside0.mk (LP.out.below (below_drew1 (Below.refl _ _)))
    obtain ⟨a,ha,haj,c0,c1,c2,hrow⟩:=LPD.out.qd.cells
    have c3:=(blk_cell hrow 3).trans rfl
    have c4:=(blk_cell hrow 4).trans rfl
    have d0:=(blk_cell LPD.out.res 0).trans rfl
    have b0:=(blk_cell LP.out.res 0).trans rfl
    have f0:=blk_frozen LPD.out.res 0
    have h0:=blk_frozen LP.out.res 0
    have d1:=(blk_cell LPD.out.res 1).trans rfl
    have b1:=(blk_cell LP.out.res 1).trans rfl
    have f1:=blk_frozen LPD.out.res 1
    have h1:=blk_frozen LP.out.res 1
    have d2:=(blk_cell LPD.out.res 2).trans rfl
    have b2:=(blk_cell LP.out.res 2).trans rfl
    have f2:=blk_frozen LPD.out.res 2
    have h2:=blk_frozen LP.out.res 2
    clear hrow ha haj
    go_region_law (fail)
    all_goals
      go_wp2
      refine bodyPost_ret (results_tc rfl _ _ W.heap.size 28 #[.int .i64 st.e,.int .i64 st.l,.int .i64 st.c] (0,0) _ rfl (blk_drew (blk_put (blk_put (blk_put LP.out.res 0 _ rfl) 1 _ rfl) 2 _ rfl)) Tryz.underlying28 rfl (by kernel_rfl)) rfl ?_
      rw [HT.out]
      exact ⟨_,rfl,Kd.R_nil _ _ _ _ _,below_drew1 (pw_below_grown HBW.out (some W.heap.size) HBW.out.size (((grown_set _ _ 0 _).trans (grown_set _ _ 1 _)).trans (grown_set _ _ 2 _)) (fun k e=>by cases e;exact Nat.le_refl _))⟩
end Go.Proofs.YtmgdkkkkanjadaaGreatDoor.RefA
