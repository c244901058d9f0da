/-
  ParseTells: the statement's function answers true, of every text. Conditions: what the two readers answer of it, and that lives() is true.
-/
import Derived.Test.YtmgdkkkkanjadaaGreatDoorHandA
import Derived.Test.YtmgdkkkkanjadaaGreatDoorCmpB
import Derived.Test.YtmgdkkkkanjadaaGreatDoorX10
/-
  ParseTells: cards of the call's own, written into: where their names and their effects' costs lie, each store leaves the rest. Conditions: none.
-/
namespace Go.Proofs.YtmgdkkkkanjadaaGreatDoor.ShpP
set_option linter.unusedVariables false
set_option linter.unusedSimpArgs false
open Go.RowKit Go.Shelf Go.Lib Go.Proofs.YtmgdkkkkanjadaaGreatDoorW.PrintWords Go.Proofs.YtmgdkkkkanjadaaGreatDoorW.PrintLast Go.Proofs.YtmgdkkkkanjadaaGreatDoorW.PrintMore Go.Proofs.YtmgdkkkkanjadaaGreatDoor.X Go.Proofs.YtmgdkkkkanjadaaGreatDoor.HandS Go.Proofs.YtmgdkkkkanjadaaGreatDoor.HandA
abbrev at6 (ad : Addr) (k j : Nat) : Addr:=⟨(ad.add (k * 6)).block,(ad.add (k * 6)).off + j,none⟩
abbrev at12 (ad : Addr) (k j : Nat) : Addr:=⟨(ad.add (k * 12)).block,(ad.add (k * 12)).off + j,none⟩
def Eff (lo hi : Nat) (E : Option Addr) (m : Nat) (w : World) : Prop :=
  ∀ j < m,∃ ed,E = some ed ∧ lo ≤ ed.block ∧ ed.block < hi ∧ (∃ p,w.cell? (at12 ed j 4) = some (.int .i64 p)) ∧ w.frozen? (at12 ed j 4) = false
def Shape (lo hi : Nat) (A : Option Addr) (xs : List S38) (w : World) : Prop :=
  ∀ k < xs.length,∃ ad,A = some ad ∧ lo ≤ ad.block ∧ ad.block < hi ∧ (∃ s,w.cell? (ad.add (k * 6)) = some (.string s)) ∧ w.frozen? (ad.add (k * 6)) = false ∧
    ∃ E c,w.cell? (at6 ad k 5) = some (.slice E (rd_T38 xs k).f5.length c) ∧ Eff lo hi E (rd_T38 xs k).f5.length w
def Kin (x y : Value) : Prop:=(∃ a b,x = .string a ∧ y = .string b) ∨ ∃ a b,x = .int .i64 a ∧ y = .int .i64 b
theorem cell_set {w : World} {p : Addr} {u old : Value} (hp : w.cell? p = some old) (q : Addr) : (p = q ∧ (w.setCell p u).cell? q = some u) ∨ (p ≠ q ∧ (w.setCell p u).cell? q = w.cell? q):=by
  by_cases e : p = q
  · subst e;exact .inl ⟨rfl,World.cell?_setCell_same _ _ _ hp⟩
  · exact .inr ⟨e,World.cell?_setCell_other _ _ _ _ e⟩
section
variable {lo hi m : Nat} {A E : Option Addr} {xs : List S38} {w : World} {p : Addr} {u old : Value}
theorem Eff.set (h : Eff lo hi E m w) (hp : w.cell? p = some old) (hk : Kin old u) : Eff lo hi E m (w.setCell p u):=by
  intro j hj
  obtain ⟨ed,e1,h1,h2,⟨x,h3⟩,h4⟩:=h j hj
  refine ⟨ed,e1,h1,h2,?_,by rw [World.frozen?_setCell];exact h4⟩
  rcases cell_set (u:=u) hp (at12 ed j 4) with ⟨rfl,e⟩ | ⟨_,e⟩
  · rw [hp] at h3
    injection h3 with h3
    subst h3
    rcases hk with ⟨a,b,q,_⟩ | ⟨a,b,q,rfl⟩
    · cases q
    · exact ⟨b,e⟩
  · exact ⟨x,e.trans h3⟩
theorem Shape.set (h : Shape lo hi A xs w) (hp : w.cell? p = some old) (hk : Kin old u) : Shape lo hi A xs (w.setCell p u):=by
  intro k hkk
  obtain ⟨ad,e1,h1,h2,⟨s,h3⟩,h4,E,c,h5,h6⟩:=h k hkk
  refine ⟨ad,e1,h1,h2,?_,by rw [World.frozen?_setCell];exact h4,E,c,?_,h6.set hp hk⟩
  · rcases cell_set (u:=u) hp (ad.add (k * 6)) with ⟨rfl,e⟩ | ⟨_,e⟩
    · rw [hp] at h3
      injection h3 with h3
      subst h3
      rcases hk with ⟨a,b,q,rfl⟩ | ⟨a,b,q,rfl⟩
      · exact ⟨b,e⟩
      · cases q
    · exact ⟨s,e.trans h3⟩
  · rcases cell_set (u:=u) hp (at6 ad k 5) with ⟨e0,e⟩ | ⟨_,e⟩
    · rw [← e0,hp] at h5
      injection h5 with h5
      subst h5
      rcases hk with ⟨a,b,q,_⟩ | ⟨a,b,q,_⟩ <;> cases q
    · exact e.trans h5
end
theorem own_at {w : World} {base e size n m c : Nat} {ad : Addr} {xs : List Value} (h : w.ownsRow base e size (.slice (some ad) m c) n xs) : ∃ g,ad = ⟨g,0,none⟩ ∧ base ≤ g ∧ (Value.slice (some ad) m c).ownBlock = some g ∧ ∀ i,w.frozen? ⟨g,i,none⟩ = false:=by
  have h0:=own_typed h
  have h1:=own_base h
  rcases h.2 with ⟨hv,_⟩ | ⟨g,cap',cur,hv,_⟩
  · cases hv
  · injection hv with ha _ _
    injection ha with ha
    subst ha
    have e : (Value.slice (some ⟨g,0,none⟩) m c).ownBlock = some g:=by simp [Value.ownBlock]
    obtain ⟨cells,hc⟩:=h0 g e
    exact ⟨g,rfl,h1 g e,e,fun i=>blk_frozen hc i⟩
theorem shape_of {w : World} {lo hi : Nat} {A : Option Addr} {c : Nat} {xs : List S38} (h : Kd.R k38 38 w lo (fun k=>k < hi) (.slice A xs.length c) xs) : Shape lo hi A xs w:=by
  intro k hk
  obtain ⟨A',c',e0,_,hC⟩:=Kd.R_reads h
  injection e0 with e0 _ _
  subst e0
  obtain ⟨ad,_,rfl,_⟩:=Kd.C_get hC z38 (k : Int) (Int.natCast_nonneg _) (Int.ofNat_lt.2 hk)
  obtain ⟨inner,ho⟩:=Kd.R_own h
  obtain ⟨g,rfl,b1,b2,b3⟩:=own_at ho
  have b2:=h.1 g b2
  obtain ⟨cs,_,hM,hcell⟩:=Kd.R_get h z38 (k : Int) (Int.natCast_nonneg _) (Int.ofNat_lt.2 hk)
  rw [Int.toNat_natCast] at hcell hM
  obtain ⟨v5,rfl,hR⟩:=k38_openM hM
  have q0:=hcell 0 _ rfl
  have q5:=hcell 5 _ rfl
  have hx : rd_T38 xs k = xs.getD k z38:=by unfold rd_T38;rw [Int.toNat_natCast]
  rw [← hx] at hR
  obtain ⟨E,c2,rfl,_,hC2⟩:=Kd.R_reads hR
  refine ⟨_,rfl,b1,b2,⟨_,q0⟩,by rw [add_at];exact b3 _,E,c2,by unfold at6;rw [← add_field _ _ 5 (by omega),hx];rw [hx] at q5;exact q5,fun j hj=>?_⟩
  obtain ⟨ed,_,rfl,_⟩:=Kd.C_get hC2 z43 (j : Int) (Int.natCast_nonneg _) (Int.ofNat_lt.2 hj)
  obtain ⟨inner2,ho2⟩:=Kd.R_own hR
  obtain ⟨g2,rfl,d1,d2,d3⟩:=own_at ho2
  have d2:=(hR.1 g2 d2).1
  obtain ⟨cs2,_,hM2,hcell2⟩:=Kd.R_get hR z43 (j : Int) (Int.natCast_nonneg _) (Int.ofNat_lt.2 hj)
  rw [Int.toNat_natCast] at hcell2
  obtain ⟨v3,v11,rfl,_,_⟩:=k43_openM hM2
  exact ⟨_,rfl,d1,d2,⟨_,by unfold at12;rw [← add_field _ _ 4 (by omega)];exact hcell2 4 _ rfl⟩,by unfold at12;rw [← add_field _ _ 4 (by omega),add_at];exact d3 _⟩
end Go.Proofs.YtmgdkkkkanjadaaGreatDoor.ShpP
namespace Go.Proofs.YtmgdkkkkanjadaaGreatDoor.LawP
set_option linter.unusedVariables false
set_option linter.unusedSimpArgs false
open Go.RowKit Go.Shelf Go.Lib Go.Proofs.YtmgdkkkkanjadaaGreatDoorW.PrintWords Go.Proofs.YtmgdkkkkanjadaaGreatDoorW.PrintLast Go.Proofs.YtmgdkkkkanjadaaGreatDoorW.PrintMore Go.Proofs.YtmgdkkkkanjadaaGreatDoor.X Go.Proofs.YtmgdkkkkanjadaaGreatDoor.HandS Go.Proofs.YtmgdkkkkanjadaaGreatDoor.HandA Go.Proofs.YtmgdkkkkanjadaaGreatDoor.HandC Go.Proofs.YtmgdkkkkanjadaaGreatDoor.ShpP
/-- the memory as the walk goes: faults in their blocks, cards and expressions of the call's own -/
structure Z (W w : World) (Bs : List (Nat × Array Value)) (As : List (Nat × Nat × Value × List S38)) (Es : List (Nat × Value × List S50)) : Prop where
  below : Below W.heap.size W w
  blk : ∀ x ∈ Bs,w.heap[x.1]? = some (.cells x.2 28 (0,0))
  cards : ∀ x ∈ As,Kd.R k38 38 w x.1 (fun k=>k < x.2.1) x.2.2.1 x.2.2.2
  exprs : ∀ x ∈ Es,Kd.R k50 50 w x.1 (fun _=>True) x.2.1 x.2.2
section
variable {W w w' : World} {Bs : List (Nat × Array Value)} {As : List (Nat × Nat × Value × List S38)} {Es : List (Nat × Value × List S50)}
theorem Z.call (h : Z W w Bs As Es) (hb : Below w.heap.size w w') : Z W w' Bs As Es :=
  ⟨below_step h.below hb,fun x hx=>blk_below (h.blk x hx) hb,fun x hx=>Kd.R_below (h.cards x hx) hb,fun x hx=>Kd.R_below (h.exprs x hx) hb⟩
theorem Z.card (h : Z W w Bs As Es) {b : Nat} {v : Value} {xs : List S38} (hR : Kd.R k38 38 w b (fun _=>True) v xs) : Z W w Bs ((b,w.heap.size,v,xs) :: As) Es :=
  ⟨h.below,h.blk,fun x hx=>(by rcases List.mem_cons.1 hx with rfl | hx2;exact Kd.R_mono (Kd.R_bound hR) (fun k hk=>hk.2.2.1);exact h.cards x hx2),h.exprs⟩
theorem Z.expr (h : Z W w Bs As Es) {b : Nat} {v : Value} {xs : List S50} (hR : Kd.R k50 50 w b (fun _=>True) v xs) : Z W w Bs As ((b,v,xs) :: Es) :=
  ⟨h.below,h.blk,h.cards,fun x hx=>(by rcases List.mem_cons.1 hx with rfl | hx2;exact hR;exact h.exprs x hx2)⟩
theorem keep_below {o : Obj} (hg : (w.alloc o).grownBy w' (some w.heap.size)) : Below w.heap.size w w' :=
  pw_below_grown (below_alloc (Below.refl _ _) o) (some w.heap.size) (by rw [size_alloc];exact Nat.le_succ _) hg (fun k e=>by cases e;exact Nat.le_refl _)
theorem Z.keep (h : Z W w Bs As Es) {o : Obj} {cs : Array Value} (hg : (w.alloc o).grownBy w' (some w.heap.size)) (hf : w'.heap[w.heap.size]? = some (.cells cs 28 (0, 0))) : Z W w' ((w.heap.size, cs) :: Bs) As Es :=
  ⟨(h.call (keep_below hg)).below,fun x hx=>(by rcases List.mem_cons.1 hx with rfl | hx2;exact hf;exact (h.call (keep_below hg)).blk x hx2),(h.call (keep_below hg)).cards,(h.call (keep_below hg)).exprs⟩
theorem Z.b (h : Z W w Bs As Es) {g : Nat} {cs : Array Value} (hm : (g,cs) ∈ Bs) : w.heap[g]? = some (.cells cs 28 (0,0)):=h.blk _ hm
theorem Z.c (h : Z W w Bs As Es) {b hi : Nat} {v : Value} {xs : List S38} (hm : (b,hi,v,xs) ∈ As) : Kd.R k38 38 w b (fun k=>k < hi) v xs:=h.cards _ hm
theorem Z.e (h : Z W w Bs As Es) {b : Nat} {v : Value} {xs : List S50} (hm : (b,v,xs) ∈ Es) : Kd.R k50 50 w b (fun _=>True) v xs:=h.exprs _ hm
end
abbrev Gives {α : Type} (k : Kd α) (t f : Nat) (s : ByteArray) (xs : List α) (a b c : Int) (W : World) : Prop :=
  Calls Tryz.prog f #[.string s] W fun e w' => ∃ v0 : Value, e = .returned (.tuple #[v0, .agg #[.int .i64 a, .int .i64 b, .int .i64 c]]) ∧ Kd.R k t w' W.heap.size (fun _ => True) v0 xs ∧ Below W.heap.size W w'
theorem add_blk (ad : Addr) (m : Nat) : (ad.add m).block = ad.block:=by unfold Addr.add;split <;> rfl
theorem step_i {i n : Nat} (h : i < n) (hm : n ≤ 9223372036854775807) : wrap64 ((i : Int) + 1) = ((i + 1 : Nat) : Int):=by unfold wrap64;omega
theorem eff_max {xs : List S38} {i m n : Nat} (hm : (rd_T38 xs (i : Int)).f5.length = m) {w : World} {b : Nat} {ok : Nat → Prop} {A : Option Addr} {c : Nat} (h : Kd.R k38 38 w b ok (.slice A n c) xs) (hn : xs.length = n) (hi : i < n) : m ≤ 9223372036854775807:=by
  obtain ⟨_,_,_,_,hC⟩:=Kd.R_reads h
  rw [hn] at hC
  obtain ⟨_,_,_,_,_,_,_,_,_,_,_,h5⟩:=at_T38 hC (i : Int) (Int.natCast_nonneg _) (Int.ofNat_lt.2 hi)
  rw [← hm]
  exact Kd.C_max h5
theorem row_n {xs : List S38} {n b : Nat} {w : World} {ok : Nat → Prop} {v : Value} (h : Kd.R k38 38 w b ok v xs) (hn : xs.length = n) : ∃ A c,v = .slice A n c ∧ k38.C w A n xs:=by
  obtain ⟨A,c,e,_,hC⟩:=Kd.R_reads h
  rw [hn] at e hC
  exact ⟨A,c,e,hC⟩
theorem row_C {xs : List S38} {n b c : Nat} {w : World} {ok : Nat → Prop} {A : Option Addr} (h : Kd.R k38 38 w b ok (.slice A n c) xs) (hn : xs.length = n) : k38.C w A n xs:=by
  obtain ⟨A',c',e,hC⟩:=row_n h hn
  injection e with e
  exact e ▸ hC
theorem same_n {xs : List S38} {n : Nat} {w : World} {A B : Option Addr} (hn : xs.length = n) (hA : k38.C w A n xs) (hB : k38.C w B n xs) : ∀ c c',CmpA.Yes 10 #[.slice A n c,.slice B n c'] w:=by
  subst hn
  exact fun c c' => CmpA.same_C xs w A B c c' hA hB
attribute [local go_sem high] eqA28
set_option maxHeartbeats 8000000 in
set_option maxRecDepth 100000 in
theorem told (s : ByteArray) (hlen : ¬ 3000 < s.size) (xs : List S38) (ys : List S50) (a0 a1 a2 b0 b1 b2 : Int)
    (hP : ∀ w,Tabs w → Gives k38 38 6 s xs a0 a1 a2 w ∧ Gives k38 38 7 s xs a0 a1 a2 w) (hE : ∀ w,Tabs w → Gives k50 50 8 s ys b0 b1 b2 w ∧ Gives k50 50 9 s ys b0 b1 b2 w)
    (hL : ∀ w, Tabs w → Calls Tryz.prog 5 #[] w fun e w' => e = .returned (.bool true) ∧ Below w.heap.size w w')
    (W : World) (hG : Tabs W) : Calls Tryz.prog 3 #[.string s] W fun e w' => e = .returned (.bool true) ∧ Below W.heap.size W w' := by
  have HT:=Aside0.mk hG
  have HZ:=Aside0.mk (⟨Below.refl _ _,fun _ h=>(by cases h),fun _ h=>(by cases h),fun _ h=>(by cases h)⟩ : Z W W [] [] [])
  have hl : decide ((3000 : Int) < (s.size : Int)) = false:=decide_eq_false (by omega)
  have hl2 : decide (3000 < s.size) = false:=decide_eq_false (by omega)
  have HL:=Aside0.mk hL
  have HP:=Aside0.mk hP
  have HE:=Aside0.mk hE
  clear hG hlen hP hE hL
  go_enter Tryz.func3,Tryz.ntmps3
  go_upto_region 7 with (first
    | (go_at_call 6;(with_reducible refine Calls.mono (HP.out _ (HT.out.below HZ.out.below)).1 ?_);rintro e w1 ⟨v1,rfl,hR,hb⟩;have HN:=Aside0.mk ((HZ.out.call hb).card hR);clear HZ hR hb;have HZ:=HN;clear HN)
    | (go_at_call 7;(with_reducible refine Calls.mono (HP.out _ (HT.out.below HZ.out.below)).2 ?_);rintro e w2 ⟨v2,rfl,hR,hb⟩;have HN:=Aside0.mk ((HZ.out.call hb).card hR);clear HZ hR hb;have HZ:=HN;clear HN)
    | (go_at_call 8;(with_reducible refine Calls.mono (HE.out _ (HT.out.below HZ.out.below)).1 ?_);rintro e w3 ⟨v3,rfl,hR,hb⟩;have HN:=Aside0.mk ((HZ.out.call hb).expr hR);clear HZ hR hb;have HZ:=HN;clear HN)
    | (go_at_call 9;(with_reducible refine Calls.mono (HE.out _ (HT.out.below HZ.out.below)).2 ?_);rintro e w4 ⟨v4,rfl,hR,hb⟩;have HN:=Aside0.mk ((HZ.out.call hb).expr hR);clear HZ hR hb;have HZ:=HN;clear HN)
    | ((with_reducible refine gate_store (t:=28) (p:=4) rfl ?_);refine store_row rfl rfl rfl _ _ rfl rfl (blk_new _ _) (by kernel_rfl) rfl (by kernel_rfl) ?_;intro u1 hf hg;have LE:=Aside0.mk (keep_below hg).size;have HN:=Aside0.mk (HZ.out.keep hg hf);clear HZ hf hg;have HZ:=HN;clear HN)
    | ((with_reducible refine gate_store (t:=28) (p:=6) rfl ?_);refine store_row rfl rfl rfl _ _ rfl rfl (blk_new _ _) (by kernel_rfl) rfl (by kernel_rfl) ?_;intro u2 hf hg;have HN:=Aside0.mk (HZ.out.keep hg hf);clear HZ hf hg;have HZ:=HN;clear HN)
    | ((with_reducible refine gate_store (t:=28) (p:=8) rfl ?_);refine store_row rfl rfl rfl _ _ rfl rfl (blk_new _ _) (by kernel_rfl) rfl (by kernel_rfl) ?_;intro u3 hf hg;have HN:=Aside0.mk (HZ.out.keep hg hf);clear HZ hf hg;have HZ:=HN;clear HN)
    | ((with_reducible refine gate_store (t:=28) (p:=10) rfl ?_);refine store_row rfl rfl rfl _ _ rfl rfl (blk_new _ _) (by kernel_rfl) rfl (by kernel_rfl) ?_;intro u4 hf hg;have HN:=Aside0.mk (HZ.out.keep hg hf);clear HZ hf hg;have HZ:=HN;clear HN))
  obtain ⟨A1,c1,rfl,_,hC1⟩:=Kd.R_reads (HZ.out.c (b:=W.heap.size) (hi:=w1.heap.size) (v:=v1) (xs:=xs) (by simp))
  obtain ⟨A2,c2,rfl,_,hC2⟩:=Kd.R_reads (HZ.out.c (b:=u1.heap.size) (hi:=w2.heap.size) (v:=v2) (xs:=xs) (by simp))
  obtain ⟨A3,c3,rfl,_,hC3⟩:=Kd.R_reads (HZ.out.e (b:=u2.heap.size) (v:=v3) (xs:=ys) (by simp))
  obtain ⟨A4,c4,rfl,_,hC4⟩:=Kd.R_reads (HZ.out.e (b:=u3.heap.size) (v:=v4) (xs:=ys) (by simp))
  have HC:=Aside0.mk (CmpA.same_C xs u4 A1 A2 c1 c2 hC1 hC2)
  have HD:=Aside0.mk (fun (w : World) (hb : Below u4.heap.size u4 w)=>CmpA.same_L ys w A3 A4 c3 c4 (Kd.C_below hC3 hb) (Kd.C_below hC4 hb))
  clear hC1 hC2 hC3 hC4
  have p0:=beq_self_eq_true a0
  have p1:=beq_self_eq_true a1
  have p2:=beq_self_eq_true a2
  have p3:=beq_self_eq_true b0
  have p4:=beq_self_eq_true b1
  have p5:=beq_self_eq_true b2
  go_upto_if 58 with (first
    | (go_at_call 10;refine Calls.mono HC.out ?_;rintro e w5 ⟨rfl,hb⟩;have HN:=Aside0.mk (HZ.out.call hb);have HD2:=Aside0.mk (HD.out w5 hb);clear HZ hb HC HD;have HZ:=HN;clear HN
       have f1:=HZ.out.b (g:=w1.heap.size) (cs:=#[.int .i64 a0,.int .i64 a1,.int .i64 a2]) (by simp)
       have f2:=HZ.out.b (g:=w2.heap.size) (cs:=#[.int .i64 a0,.int .i64 a1,.int .i64 a2]) (by simp)
       have g0:=(blk_cell f1 0).trans rfl
       have g1:=(blk_cell f1 1).trans rfl
       have g2:=(blk_cell f1 2).trans rfl
       have g3:=(blk_cell f2 0).trans rfl
       have g4:=(blk_cell f2 1).trans rfl
       have g5:=(blk_cell f2 2).trans rfl
       clear f1 f2)
    | (go_at_call 11;refine Calls.mono HD2.out ?_;rintro e w6 ⟨rfl,hb⟩;have HN:=Aside0.mk (HZ.out.call hb);clear HZ hb HD2 g0 g1 g2 g3 g4 g5;have HZ:=HN;clear HN
       have f1:=HZ.out.b (g:=w3.heap.size) (cs:=#[.int .i64 b0,.int .i64 b1,.int .i64 b2]) (by simp)
       have f2:=HZ.out.b (g:=w4.heap.size) (cs:=#[.int .i64 b0,.int .i64 b1,.int .i64 b2]) (by simp)
       have g0:=(blk_cell f1 0).trans rfl
       have g1:=(blk_cell f1 1).trans rfl
       have g2:=(blk_cell f1 2).trans rfl
       have g3:=(blk_cell f2 0).trans rfl
       have g4:=(blk_cell f2 1).trans rfl
       have g5:=(blk_cell f2 2).trans rfl
       clear f1 f2))
  clear g0 g1 g2 g3 g4 g5 p0 p1 p2 p3 p4 p5
  obtain ⟨n,hnn⟩ : ∃ n,xs.length = n:=⟨_,rfl⟩
  have HN:=Aside0.mk hnn
  have hR1:=HZ.out.c (b:=W.heap.size) (hi:=w1.heap.size) (v:=.slice A1 xs.length c1) (xs:=xs) (by simp)
  have hR2:=HZ.out.c (b:=u1.heap.size) (hi:=w2.heap.size) (v:=.slice A2 xs.length c2) (xs:=xs) (by simp)
  have hR2 := Kd.R_mono (Kd.R_bound hR2) (ok' := fun k => u1.heap.size ≤ k) (fun k hk => hk.2.1)
  have hSh:=shape_of hR1
  rw [hnn] at hR2 ⊢
  have HB:=Aside0.mk HZ.out.below
  have HR:=Aside0.mk hR2
  have HH:=Aside0.mk hSh
  obtain ⟨_,_,_,_,hC1⟩:=Kd.R_reads hR1
  have HM:=Aside0.mk (Kd.C_max hC1)
  rw [hnn] at HM
  have hu23:=Tryz.underlying23
  clear HZ hR1 hR2 hSh hnn hC1
  go_wp2_with fail
  go_loopg [61] n (fun g s61 wr=>∃ i : Nat,s61 = .int .i64 (i : Int) ∧ i ≤ n ∧ n - i ≤ g ∧ Aside0 (Below W.heap.size W wr) ∧ Aside0 (Kd.R k38 38 wr u1.heap.size (fun k=>u1.heap.size ≤ k) (.slice A2 n c2) xs) ∧ Aside0 (Shape W.heap.size w1.heap.size A1 xs wr))
  case atStart=>exact ⟨0,rfl,Nat.zero_le _,Nat.le_refl _,HB,HR,HH⟩
  case round =>
    clear HB HR HH
    obtain ⟨i,rfl,h1,h2,HB,HR,HH⟩:=hrel
    by_cases hlt : i < n
    · obtain ⟨g,rfl⟩ : ∃ g,gk = g + 1:=⟨gk - 1,by omega⟩
      have hm1 : n - (i + 1) ≤ g:=by omega
      have hlt' : decide ((i : Int) < (n : Int)) = true := decide_eq_true (Int.ofNat_lt.2 hlt)
      have hi0 : (0 ≤ (i : Int)) = True:=eq_true (Int.natCast_nonneg _)
      have hi1 : ((i : Int) < (n : Int)) = True:=eq_true (Int.ofNat_lt.2 hlt)
      have hi2 : (i < n) = True:=eq_true hlt
      have hi3 : decide (i < n) = true:=decide_eq_true hlt
      have EI:=Aside0.mk (step_i hlt HM.out)
      have et : (i : Int).toNat = i:=Int.toNat_natCast i
      obtain ⟨ad,rfl,l1,l2,⟨s0,q0⟩,q1,-⟩:=HH.out i (by rw [HN.out];exact hlt)
      go_upto_region 13 with fail
      have HB1:=Aside0.mk (HB.out.setCell (p:=ad.add (i * 6)) (by rw [add_blk];exact l1) (.string ⟨#[]⟩))
      have HR1:=Aside0.mk (Kd.R_far HR.out (p:=ad.add (i * 6)) (fun k hk=>by rw [add_blk];have:=LE.out;omega) (.string ⟨#[]⟩))
      have HH1:=Aside0.mk (HH.out.set (u:=.string ⟨#[]⟩) q0 (.inl ⟨_,_,rfl,rfl⟩))
      clear HB HR HH q0 q1
      generalize wr.setCell (ad.add (i * 6)) (.string ⟨#[]⟩) = wa at HB1 HR1 HH1 ⊢
      obtain ⟨_,e0,-,-,-,-,E,c,q5,hE⟩:=HH1.out i (by rw [HN.out];exact hlt)
      cases e0
      obtain ⟨m,hm⟩ : ∃ m,(rd_T38 xs (i : Int)).f5.length = m:=⟨_,rfl⟩
      rw [hm] at q5
      have HQ:=Aside0.mk hm
      have ML:=Aside0.mk (eff_max hm HR1.out HN.out hlt)
      clear hm hE
      unfold at6 at q5
      go_wp2_with fail
      clear q5
      go_loopg [74] m (fun g s74 wq=>∃ j : Nat,s74 = .int .i64 (j : Int) ∧ j ≤ m ∧ m - j ≤ g ∧ Aside0 (Below W.heap.size W wq) ∧ Aside0 (Kd.R k38 38 wq u1.heap.size (fun k=>u1.heap.size ≤ k) (.slice A2 n c2) xs) ∧ Aside0 (Shape W.heap.size w1.heap.size (some ad) xs wq))
      case atStart=>exact ⟨0,rfl,Nat.zero_le _,Nat.le_refl _,HB1,HR1,HH1⟩
      case round =>
        clear HB1 HR1 HH1
        obtain ⟨j,rfl,h3,h4,HB,HR,HH⟩:=hrel
        by_cases hjt : j < m
        · obtain ⟨g2,rfl⟩ : ∃ g2,gk = g2 + 1:=⟨gk - 1,by omega⟩
          have hm2 : m - (j + 1) ≤ g2:=by omega
          have hj' : decide ((j : Int) < (m : Int)) = true := decide_eq_true (Int.ofNat_lt.2 hjt)
          have hj0 : (0 ≤ (j : Int)) = True:=eq_true (Int.natCast_nonneg _)
          have hj1 : ((j : Int) < (m : Int)) = True:=eq_true (Int.ofNat_lt.2 hjt)
          have hj2 : (j < m) = True:=eq_true hjt
          have hj3 : decide (j < m) = true:=decide_eq_true hjt
          have ej : (j : Int).toNat = j:=Int.toNat_natCast j
          obtain ⟨_,e0,-,-,-,-,E2,c5,q5,hE2⟩:=HH.out i (by rw [HN.out];exact hlt)
          cases e0
          rw [HQ.out] at q5 hE2
          have EJ:=Aside0.mk (step_i hjt ML.out)
          obtain ⟨ed,rfl,d1,d2,⟨x4,q4⟩,q6⟩:=hE2 j hjt
          clear hE2
          have HB1:=Aside0.mk (HB.out.setCell (p:=at12 ed j 4) (by show W.heap.size ≤ (ed.add (j * 12)).block;rw [add_blk];exact d1) (.int .i64 7))
          have HR1:=Aside0.mk (Kd.R_far HR.out (p:=at12 ed j 4) (fun k hk=>by show k ≠ (ed.add (j * 12)).block;rw [add_blk];have:=LE.out;omega) (.int .i64 7))
          have HH1:=Aside0.mk (HH.out.set (u:=.int .i64 7) q4 (.inr ⟨_,_,rfl,rfl⟩))
          clear HB HR HH
          unfold at6 at q5
          unfold at12 at q4 q6
          go_wp2_with fail
          go_roundg g2
          case measure=>exact Nat.lt_succ_self _
          case rel=>exact ⟨j + 1,by first | rfl | rw [EJ.out],hjt,hm2,HB1,HR1,HH1⟩
        · have hj' : decide ((j : Int) < (m : Int)) = false := decide_eq_false (fun e => hjt (Int.ofNat_lt.1 e))
          have hj3 : decide (j < m) = false:=decide_eq_false hjt
          go_wp2_with fail
          go_roundg g
          case measure=>exact Nat.lt_succ_self _
          case rel=>exact ⟨i + 1,by first | rfl | rw [EI.out],hlt,hm1,HB,HR,HH⟩
    · have hlt' : decide ((i : Int) < (n : Int)) = false := decide_eq_false (fun e => hlt (Int.ofNat_lt.1 e))
      have hi3 : decide (i < n) = false:=decide_eq_false hlt
      have HC2:=Aside0.mk (row_C HR.out HN.out)
      clear HR HH
      go_wp2_with (first
        | (go_at_call 6;(with_reducible refine Calls.mono (HP.out _ (HT.out.below HB.out)).1 ?_);rintro e w7 ⟨v5,rfl,hR,hb⟩
           obtain ⟨A5,c5,rfl,hC5⟩:=row_n hR HN.out
           have HC5:=Aside0.mk hC5
           have HC3:=Aside0.mk (Kd.C_below HC2.out hb)
           have HB1:=Aside0.mk (below_step HB.out hb)
           clear HB HC2 hC5 hR hb)
        | ((with_reducible refine gate_store (t:=28) (p:=14) rfl ?_);refine store_row rfl rfl rfl _ _ rfl rfl (blk_new _ _) (by kernel_rfl) rfl (by kernel_rfl) ?_;intro u5 hf hg
           have HB2:=Aside0.mk (below_step HB1.out (keep_below hg))
           have HC:=Aside0.mk (same_n HN.out (Kd.C_below HC5.out (keep_below hg)) (Kd.C_below HC3.out (keep_below hg)))
           clear hf hg HB1 HC3 HC5)
        | (go_at_call 10;refine Calls.mono (HC.out _ _) ?_;rintro e w8 ⟨rfl,hb⟩;have HB3:=Aside0.mk (below_step HB2.out hb);clear HB2 HC hb)
        | (go_at_call 5;(with_reducible refine Calls.mono (HL.out _ (HT.out.below HB3.out)) ?_);rintro e w9 ⟨rfl,hb⟩;have HB4:=Aside0.mk (below_step HB3.out hb);clear HB3 hb))
      go_ret
      exact ⟨rfl,HB4.out⟩
set_option maxRecDepth 100000 in
theorem long (s : ByteArray) (hlen : 3000 < s.size) (hL : ∀ w, Tabs w → Calls Tryz.prog 5 #[] w fun e w' => e = .returned (.bool true) ∧ Below w.heap.size w w')
    (W : World) (hG : Tabs W) : Calls Tryz.prog 3 #[.string s] W fun e w' => e = .returned (.bool true) ∧ Below W.heap.size W w' := by
  have HL:=Aside0.mk (hL W hG)
  have hl : decide ((3000 : Int) < (s.size : Int)) = true:=decide_eq_true (by omega)
  have hl2 : decide (3000 < s.size) = true:=decide_eq_true (by omega)
  clear hL hG
  go_enter Tryz.func3,Tryz.ntmps3
  go_wp2_with (go_at_call 5;(with_reducible refine Calls.mono HL.out ?_);rintro e w1 ⟨rfl,hb⟩;have HB:=Aside0.mk hb;clear hb)
  go_ret
  exact ⟨rfl,HB.out⟩
end Go.Proofs.YtmgdkkkkanjadaaGreatDoor.LawP
