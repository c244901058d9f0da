/-
  joustlaw02.lives returns true. Conditions: what the listed package variables hold.
-/
import Derived.Test.YtmgdkkkkanjadaaGreatDoorX10
import Derived.Test.YtmgdkkkkanjadaaGreatDoorCmpB
import Derived.Test.YtmgdkkkkanjadaaGreatDoorEval
namespace Go.Proofs.YtmgdkkkkanjadaaGreatDoor.LivP
set_option linter.unusedVariables false
set_option linter.unusedSimpArgs false
open Go.RowKit Go.Shelf Go.Lib Go.Proofs.YtmgdkkkkanjadaaGreatDoorW.PrintWords Go.Proofs.YtmgdkkkkanjadaaGreatDoorW.PrintLast Go.Proofs.YtmgdkkkkanjadaaGreatDoorW.PrintMore Go.Proofs.YtmgdkkkkanjadaaGreatDoor.X Go.Proofs.YtmgdkkkkanjadaaGreatDoor.HandS Go.Proofs.YtmgdkkkkanjadaaGreatDoor.HandA Go.Proofs.YtmgdkkkkanjadaaGreatDoor.HandC Go.Proofs.YtmgdkkkkanjadaaGreatDoor.Eval

structure Lv (W w : World) (Bs : List (Nat × Array Value × TypeId)) (Rs : List (Option Addr × List S50)) (Cs : List (Option Addr × List S38)) : Prop where
  below : Below W.heap.size W w
  blk : ∀ x ∈ Bs,w.heap[x.1]? = some (.cells x.2.1 x.2.2 (0,0))
  rows : ∀ x ∈ Rs,Kd.C k50 w x.1 x.2.length x.2
  cards : ∀ x ∈ Cs,Kd.C k38 w x.1 x.2.length x.2
theorem Lv.start (W : World) : Lv W W [] [] []:=⟨Below.refl _ _,fun _ h=>(by cases h),fun _ h=>(by cases h),fun _ h=>(by cases h)⟩
section
variable {W w w' : World} {Bs : List (Nat × Array Value × TypeId)} {Rs : List (Option Addr × List S50)} {Cs : List (Option Addr × List S38)}
theorem Lv.call (h : Lv W w Bs Rs Cs) (hb : Below w.heap.size w w') : Lv W w' Bs Rs Cs :=
  ⟨below_step h.below hb,fun x hx=>blk_below (h.blk x hx) hb,fun x hx=>Kd.C_below (h.rows x hx) hb,fun x hx=>Kd.C_below (h.cards x hx) hb⟩
theorem Lv.row (h : Lv W w Bs Rs Cs) {A : Option Addr} {xs : List S50} (hC : Kd.C k50 w A xs.length xs) : Lv W w Bs ((A,xs) :: Rs) Cs :=
  ⟨h.below,h.blk,fun x hx=>(by rcases List.mem_cons.1 hx with rfl | hx2;exact hC;exact h.rows x hx2),h.cards⟩
theorem Lv.card (h : Lv W w Bs Rs Cs) {A : Option Addr} {xs : List S38} (hC : Kd.C k38 w A xs.length xs) : Lv W w Bs Rs ((A,xs) :: Cs) :=
  ⟨h.below,h.blk,h.rows,fun x hx=>(by rcases List.mem_cons.1 hx with rfl | hx2;exact hC;exact h.cards x hx2)⟩
theorem keep_below {o : Obj} (hg : (w.alloc o).grownBy w' (some w.heap.size)) : Below w.heap.size w w' :=
  pw_below_grown (below_alloc (Below.refl _ _) o) (some w.heap.size) (by rw [size_alloc];exact Nat.le_succ _) hg (fun k e=>by cases e;exact Nat.le_refl _)
theorem Lv.keep (h : Lv W w Bs Rs Cs) {o : Obj} {cs : Array Value} {t : TypeId} (hg : (w.alloc o).grownBy w' (some w.heap.size)) (hf : w'.heap[w.heap.size]? = some (.cells cs t (0, 0))) : Lv W w' ((w.heap.size, cs, t) :: Bs) Rs Cs :=
  ⟨(h.call (keep_below hg)).below,fun x hx=>(by rcases List.mem_cons.1 hx with rfl | hx2;exact hf;exact (h.call (keep_below hg)).blk x hx2),(h.call (keep_below hg)).rows,(h.call (keep_below hg)).cards⟩
theorem Lv.new (h : Lv W w Bs Rs Cs) (cs : Array Value) (t : TypeId) (g : Nat) (e : w.heap.size = g) : Lv W (w.alloc (.cells cs t)) ((g,cs,t) :: Bs) Rs Cs :=
  have hb:=below_alloc (Below.refl w.heap.size w) (.cells cs t)
  ⟨(h.call hb).below,fun x hx=>(by subst e;rcases List.mem_cons.1 hx with rfl | hx2;exact blk_new _ _;exact (h.call hb).blk x hx2),(h.call hb).rows,(h.call hb).cards⟩
theorem lit_C {α : Type} (d : Kd α) (W : World) (e : TypeId) {xs : List α} {inner : List Value} (hr : Reps (d.K W) d.sz xs inner) (hm : xs.length ≤ 9223372036854775807) : d.C (W.alloc (.cells inner.toArray e)) (some ⟨W.heap.size,0,none⟩) xs.length xs:=by
  obtain ⟨A,c,he,_,hrow⟩:=(OwnRow.lit (e:=e) W W.heap.size hr (Nat.le_refl _) hm).reads
  injection he with h1 h2 h3
  subst h1
  exact hrow.imp_ (Below.refl _ _) (fun _ _ hp=>d.K_below (below_alloc (Below.refl _ _) _) hp)
end
theorem q1 : parse_Exprs.f 60 ⟨#[51,32,108,105,102,101,32,109,105,110,101,32,40,43,32,49,32,112,111,119,101,114,41]⟩ = some ([⟨0,3,0,z40,[]⟩,⟨1,0,0,z40,[]⟩,⟨4,0,0,z40,[⟨0,1,0,z40,[]⟩,⟨3,0,0,z40,[]⟩]⟩],0,0,0):=e1
theorem q2 : parse_Exprs.f 60 ⟨#[40,110,111,116,41]⟩ = some ([],5,1,5):=e2
theorem q3 : parse_Exprs.f 60 ⟨#[40,41]⟩ = some ([],5,1,2):=e3
theorem q4 : parse_Exprs.f 60 ⟨#[99,111,117,110,116,32,109,105,110,101,32,114,111,119,32,117,110,105,116]⟩ = some ([⟨2,0,0,⟨0,2,1⟩,[]⟩],0,0,0):=e4
theorem lit_D {α : Type} (d : Kd α) (W : World) (e : TypeId) (g : Nat) {xs : List α} {inner : List Value} (hr : Reps (d.K W) d.sz xs inner) (hm : xs.length ≤ 9223372036854775807) (hg : W.heap.size = g) : d.C (W.alloc (.cells inner.toArray e)) (some ⟨g,0,none⟩) xs.length xs:=by
  subst hg
  exact lit_C d W e hr hm
theorem ogre_reps (w : World) : Reps (k38.K w) k38.sz [(⟨⟨#[111,103,114,101]⟩,0,4,1800,0,[]⟩ : S38)] [.string ⟨#[111,103,114,101]⟩,.int .u8 0,.int .i64 4,.int .i64 1800,.int .i64 0,.slice none 0 0] :=
  Reps.c6 (k38_mk w ⟨⟨#[111,103,114,101]⟩,0,4,1800,0,[]⟩ (Nat.le_refl _) (Kd.C_nil _ _)) (Reps.none _ _)
def stepV : S52:=⟨2,1,⟨0,500,0,z40,[]⟩,false,z40⟩
def effV : S43:=⟨0,0,0,[],0,0,false,0,z40,[stepV]⟩
def rainV : S38:=⟨⟨#[114,97,105,110]⟩,1,0,0,0,[effV]⟩
theorem step_reps (w : World) : Reps (k52.K w) k52.sz [stepV] [.int .u8 2,.int .u8 1,.int .u8 0,.int .i64 500,.int .u8 0,.int .u8 0,.int .u8 0,.int .u8 0,.slice none 0 0,.bool false,.int .u8 0,.int .u8 0,.int .u8 0] :=
  Reps.front (k52_mk w stepV (Nat.le_refl _) (Kd.C_nil _ _)) rfl (Reps.none _ _) rfl
theorem eff_reps (w : World) {g : Nat} (h : Kd.C k52 w (some ⟨g,0,none⟩) 1 [stepV]) : Reps (k43.K w) k43.sz [effV] [.int .u8 0,.int .u8 0,.int .u8 0,.slice none 0 0,.int .i64 0,.int .i64 0,.bool false,.int .i64 0,.int .u8 0,.int .u8 0,.int .u8 0,.slice (some ⟨g,0,none⟩) 1 1] :=
  Reps.front (k43_mk w effV (Nat.le_refl _) (Kd.C_nil _ _) (Nat.le_refl 1) h) rfl (Reps.none _ _) rfl
theorem rain_reps (w : World) {g : Nat} (h : Kd.C k43 w (some ⟨g,0,none⟩) 1 [effV]) : Reps (k38.K w) k38.sz [rainV] [.string ⟨#[114,97,105,110]⟩,.int .u8 1,.int .i64 0,.int .i64 0,.int .i64 0,.slice (some ⟨g,0,none⟩) 1 1] :=
  Reps.front (k38_mk w rainV (Nat.le_refl 1) h) rfl (Reps.none _ _) rfl
theorem sum_reps (w : World) : Reps (k50.K w) k50.sz [(⟨0,1,0,z40,[]⟩ : S50),⟨3,0,0,z40,[]⟩] [.int .u8 0,.int .i64 1,.int .u8 0,.int .u8 0,.int .u8 0,.int .u8 0,.slice none 0 0,.int .u8 3,.int .i64 0,.int .u8 0,.int .u8 0,.int .u8 0,.int .u8 0,.slice none 0 0] :=
  Reps.c7 (k50_mk w ⟨0,1,0,z40,[]⟩ (Nat.le_refl _) (Kd.C_nil _ _)) (Reps.c7 (k50_mk w ⟨3,0,0,z40,[]⟩ (Nat.le_refl _) (Kd.C_nil _ _)) (Reps.none _ _))

section
variable {W w : World} {Bs : List (Nat × Array Value × TypeId)} {Rs : List (Option Addr × List S50)} {Cs : List (Option Addr × List S38)}
def Lv.S (_ : Lv W w Bs Rs Cs) : World → Prop := fun w' => Lv W w' Bs Rs Cs
theorem Lv.b0 {x0 : Nat × Array Value × TypeId} (h : Lv W w (x0 :: Bs) Rs Cs) : w.heap[x0.1]? = some (.cells x0.2.1 x0.2.2 (0,0)):=h.blk _ (List.mem_cons_self ..)
theorem Lv.r0 {x0 : Option Addr × List S50} (h : Lv W w Bs (x0 :: Rs) Cs) : Kd.C k50 w x0.1 x0.2.length x0.2:=h.rows _ (List.mem_cons_self ..)
theorem Lv.c0 {x0 : Option Addr × List S38} (h : Lv W w Bs Rs (x0 :: Cs)) : Kd.C k38 w x0.1 x0.2.length x0.2:=h.cards _ (List.mem_cons_self ..)
theorem Lv.b1 {x0 x1 : Nat × Array Value × TypeId} (h : Lv W w (x0 :: x1 :: Bs) Rs Cs) : w.heap[x1.1]? = some (.cells x1.2.1 x1.2.2 (0,0)):=h.blk _ (List.mem_cons_of_mem _ (List.mem_cons_self ..))
theorem Lv.r1 {x0 x1 : Option Addr × List S50} (h : Lv W w Bs (x0 :: x1 :: Rs) Cs) : Kd.C k50 w x1.1 x1.2.length x1.2:=h.rows _ (List.mem_cons_of_mem _ (List.mem_cons_self ..))
theorem Lv.c1 {x0 x1 : Option Addr × List S38} (h : Lv W w Bs Rs (x0 :: x1 :: Cs)) : Kd.C k38 w x1.1 x1.2.length x1.2:=h.cards _ (List.mem_cons_of_mem _ (List.mem_cons_self ..))
theorem Lv.b2 {x0 x1 x2 : Nat × Array Value × TypeId} (h : Lv W w (x0 :: x1 :: x2 :: Bs) Rs Cs) : w.heap[x2.1]? = some (.cells x2.2.1 x2.2.2 (0,0)):=h.blk _ (List.mem_cons_of_mem _ (List.mem_cons_of_mem _ (List.mem_cons_self ..)))
theorem Lv.r2 {x0 x1 x2 : Option Addr × List S50} (h : Lv W w Bs (x0 :: x1 :: x2 :: Rs) Cs) : Kd.C k50 w x2.1 x2.2.length x2.2:=h.rows _ (List.mem_cons_of_mem _ (List.mem_cons_of_mem _ (List.mem_cons_self ..)))
theorem Lv.c2 {x0 x1 x2 : Option Addr × List S38} (h : Lv W w Bs Rs (x0 :: x1 :: x2 :: Cs)) : Kd.C k38 w x2.1 x2.2.length x2.2:=h.cards _ (List.mem_cons_of_mem _ (List.mem_cons_of_mem _ (List.mem_cons_self ..)))
theorem Lv.b3 {x0 x1 x2 x3 : Nat × Array Value × TypeId} (h : Lv W w (x0 :: x1 :: x2 :: x3 :: Bs) Rs Cs) : w.heap[x3.1]? = some (.cells x3.2.1 x3.2.2 (0,0)):=h.blk _ (List.mem_cons_of_mem _ (List.mem_cons_of_mem _ (List.mem_cons_of_mem _ (List.mem_cons_self ..))))
theorem Lv.r3 {x0 x1 x2 x3 : Option Addr × List S50} (h : Lv W w Bs (x0 :: x1 :: x2 :: x3 :: Rs) Cs) : Kd.C k50 w x3.1 x3.2.length x3.2:=h.rows _ (List.mem_cons_of_mem _ (List.mem_cons_of_mem _ (List.mem_cons_of_mem _ (List.mem_cons_self ..))))
theorem Lv.c3 {x0 x1 x2 x3 : Option Addr × List S38} (h : Lv W w Bs Rs (x0 :: x1 :: x2 :: x3 :: Cs)) : Kd.C k38 w x3.1 x3.2.length x3.2:=h.cards _ (List.mem_cons_of_mem _ (List.mem_cons_of_mem _ (List.mem_cons_of_mem _ (List.mem_cons_self ..))))
theorem Lv.b4 {x0 x1 x2 x3 x4 : Nat × Array Value × TypeId} (h : Lv W w (x0 :: x1 :: x2 :: x3 :: x4 :: Bs) Rs Cs) : w.heap[x4.1]? = some (.cells x4.2.1 x4.2.2 (0,0)):=h.blk _ (List.mem_cons_of_mem _ (List.mem_cons_of_mem _ (List.mem_cons_of_mem _ (List.mem_cons_of_mem _ (List.mem_cons_self ..)))))
theorem Lv.r4 {x0 x1 x2 x3 x4 : Option Addr × List S50} (h : Lv W w Bs (x0 :: x1 :: x2 :: x3 :: x4 :: Rs) Cs) : Kd.C k50 w x4.1 x4.2.length x4.2:=h.rows _ (List.mem_cons_of_mem _ (List.mem_cons_of_mem _ (List.mem_cons_of_mem _ (List.mem_cons_of_mem _ (List.mem_cons_self ..)))))
theorem Lv.c4 {x0 x1 x2 x3 x4 : Option Addr × List S38} (h : Lv W w Bs Rs (x0 :: x1 :: x2 :: x3 :: x4 :: Cs)) : Kd.C k38 w x4.1 x4.2.length x4.2:=h.cards _ (List.mem_cons_of_mem _ (List.mem_cons_of_mem _ (List.mem_cons_of_mem _ (List.mem_cons_of_mem _ (List.mem_cons_self ..)))))
theorem Lv.b5 {x0 x1 x2 x3 x4 x5 : Nat × Array Value × TypeId} (h : Lv W w (x0 :: x1 :: x2 :: x3 :: x4 :: x5 :: Bs) Rs Cs) : w.heap[x5.1]? = some (.cells x5.2.1 x5.2.2 (0,0)):=h.blk _ (List.mem_cons_of_mem _ (List.mem_cons_of_mem _ (List.mem_cons_of_mem _ (List.mem_cons_of_mem _ (List.mem_cons_of_mem _ (List.mem_cons_self ..))))))
theorem Lv.c5 {x0 x1 x2 x3 x4 x5 : Option Addr × List S38} (h : Lv W w Bs Rs (x0 :: x1 :: x2 :: x3 :: x4 :: x5 :: Cs)) : Kd.C k38 w x5.1 x5.2.length x5.2:=h.cards _ (List.mem_cons_of_mem _ (List.mem_cons_of_mem _ (List.mem_cons_of_mem _ (List.mem_cons_of_mem _ (List.mem_cons_of_mem _ (List.mem_cons_self ..))))))
theorem Lv.b6 {x0 x1 x2 x3 x4 x5 x6 : Nat × Array Value × TypeId} (h : Lv W w (x0 :: x1 :: x2 :: x3 :: x4 :: x5 :: x6 :: Bs) Rs Cs) : w.heap[x6.1]? = some (.cells x6.2.1 x6.2.2 (0,0)):=h.blk _ (List.mem_cons_of_mem _ (List.mem_cons_of_mem _ (List.mem_cons_of_mem _ (List.mem_cons_of_mem _ (List.mem_cons_of_mem _ (List.mem_cons_of_mem _ (List.mem_cons_self ..)))))))
theorem Lv.r6 {x0 x1 x2 x3 x4 x5 x6 : Option Addr × List S50} (h : Lv W w Bs (x0 :: x1 :: x2 :: x3 :: x4 :: x5 :: x6 :: Rs) Cs) : Kd.C k50 w x6.1 x6.2.length x6.2:=h.rows _ (List.mem_cons_of_mem _ (List.mem_cons_of_mem _ (List.mem_cons_of_mem _ (List.mem_cons_of_mem _ (List.mem_cons_of_mem _ (List.mem_cons_of_mem _ (List.mem_cons_self ..)))))))
theorem Lv.c6 {x0 x1 x2 x3 x4 x5 x6 : Option Addr × List S38} (h : Lv W w Bs Rs (x0 :: x1 :: x2 :: x3 :: x4 :: x5 :: x6 :: Cs)) : Kd.C k38 w x6.1 x6.2.length x6.2:=h.cards _ (List.mem_cons_of_mem _ (List.mem_cons_of_mem _ (List.mem_cons_of_mem _ (List.mem_cons_of_mem _ (List.mem_cons_of_mem _ (List.mem_cons_of_mem _ (List.mem_cons_self ..)))))))
theorem Lv.b7 {x0 x1 x2 x3 x4 x5 x6 x7 : Nat × Array Value × TypeId} (h : Lv W w (x0 :: x1 :: x2 :: x3 :: x4 :: x5 :: x6 :: x7 :: Bs) Rs Cs) : w.heap[x7.1]? = some (.cells x7.2.1 x7.2.2 (0,0)):=h.blk _ (List.mem_cons_of_mem _ (List.mem_cons_of_mem _ (List.mem_cons_of_mem _ (List.mem_cons_of_mem _ (List.mem_cons_of_mem _ (List.mem_cons_of_mem _ (List.mem_cons_of_mem _ (List.mem_cons_self ..))))))))
theorem Lv.r7 {x0 x1 x2 x3 x4 x5 x6 x7 : Option Addr × List S50} (h : Lv W w Bs (x0 :: x1 :: x2 :: x3 :: x4 :: x5 :: x6 :: x7 :: Rs) Cs) : Kd.C k50 w x7.1 x7.2.length x7.2:=h.rows _ (List.mem_cons_of_mem _ (List.mem_cons_of_mem _ (List.mem_cons_of_mem _ (List.mem_cons_of_mem _ (List.mem_cons_of_mem _ (List.mem_cons_of_mem _ (List.mem_cons_of_mem _ (List.mem_cons_self ..))))))))
theorem Lv.c7 {x0 x1 x2 x3 x4 x5 x6 x7 : Option Addr × List S38} (h : Lv W w Bs Rs (x0 :: x1 :: x2 :: x3 :: x4 :: x5 :: x6 :: x7 :: Cs)) : Kd.C k38 w x7.1 x7.2.length x7.2:=h.cards _ (List.mem_cons_of_mem _ (List.mem_cons_of_mem _ (List.mem_cons_of_mem _ (List.mem_cons_of_mem _ (List.mem_cons_of_mem _ (List.mem_cons_of_mem _ (List.mem_cons_of_mem _ (List.mem_cons_self ..))))))))
end
theorem l_reps (w : World) {g : Nat} (h : Kd.C k50 w (some ⟨g,0,none⟩) 2 [(⟨0,1,0,z40,[]⟩ : S50),⟨3,0,0,z40,[]⟩]) : Reps (k50.K w) k50.sz [(⟨0,3,0,z40,[]⟩ : S50),⟨1,0,0,z40,[]⟩,⟨4,0,0,z40,[⟨0,1,0,z40,[]⟩,⟨3,0,0,z40,[]⟩]⟩] [.int .u8 0,.int .i64 3,.int .u8 0,.int .u8 0,.int .u8 0,.int .u8 0,.slice none 0 0,.int .u8 1,.int .i64 0,.int .u8 0,.int .u8 0,.int .u8 0,.int .u8 0,.slice none 0 0,.int .u8 4,.int .i64 0,.int .u8 0,.int .u8 0,.int .u8 0,.int .u8 0,.slice (some ⟨g,0,none⟩) 2 2] :=
  Reps.c7 (k50_mk w ⟨0,3,0,z40,[]⟩ (Nat.le_refl _) (Kd.C_nil _ _)) (Reps.c7 (k50_mk w ⟨1,0,0,z40,[]⟩ (Nat.le_refl _) (Kd.C_nil _ _)) (Reps.c7 (k50_mk w ⟨4,0,0,z40,[⟨0,1,0,z40,[]⟩,⟨3,0,0,z40,[]⟩]⟩ (Nat.le_refl 2) h) (Reps.none _ _)))
attribute [local go_sem high] eqA28
def T6 : Bool × List (List Nat × List Nat):=(true,[([],[]),([0],[0]),([1],[1]),([2],[2]),([3],[3]),([3],[3]),([3],[3]),([3],[3]),([5,6,7,3],[3,5,6,7]),([4,8,3,3],[3,4,8]),([9,3],[3,9]),([3,10],[3,10]),([11,9],[11]),([12],[12]),([12,12],[12]),([13,14,12],[12,13,14]),([12,15],[12,15]),([16,14],[16]),([17],[17]),([17,17],[17]),([18,19,17],[17,18,19]),([17,20],[17,20]),([21,19],[21]),([22],[22]),([23,22],[22,23]),([24,22],[22,24]),([22,25],[22,25]),([26,22],[26]),([27],[27]),([28,27],[27,28]),([29,27],[27,29]),([27,30],[27,30]),([31,27],[31]),([32],[32]),([33,32],[32,33]),([34,32],[32,34]),([35,32],[32,35]),([36,32],[32,36]),([37,32],[32,37]),([32,38],[32,38])])
def B6 : List Nat:=[0,1,3,7,15,15,15,15,239,511,1023,2047,4095,8191,8191,32767,65535,131071,262143,262143,1048575,2097151,4194303,8388607,16777215,33554431,67108863,134217727,268435455,536870911,1073741823,2147483647,4294967295,8589934591,17179869183,34359738367,68719476735,137438953471,274877906943,549755813887]
theorem tab6 : rtab .any (opsOf Tryz.f5 6) = T6:=by kernel_rfl
theorem bits6 : waitsOk T6.2 B6 = true:=by kernel_rfl
def T13 : Bool × List (List Nat × List Nat):=(true,[([],[]),([0],[0]),([1],[1]),([2],[2]),([3],[3]),([3],[3]),([4,5,3,3],[3,4,5]),([3,6],[3,6]),([7,6],[7]),([8],[8]),([9,8],[8,9]),([10,8],[8,10]),([8,11],[8,11]),([12,8],[12]),([13],[13]),([13],[13]),([14,15,13,13],[13,14,15]),([13,16],[13,16]),([17,16],[17]),([18],[18]),([18,18],[18]),([19,20,18],[18,19,20]),([18,21],[18,21]),([22,20,0,1,2,3,4,5,6,7,8,9,10,11,12,13,14,15,16,17,18,19,20,21,22],[22])])
def B13 : List Nat:=[0,1,3,7,15,15,63,127,255,511,1023,2047,4095,8191,16383,16383,65535,131071,262143,524287,524287,2097151,4194303,8388607]
theorem tab13 : rtab .any (opsOf Tryz.f5 13) = T13:=by kernel_rfl
theorem bits13 : waitsOk T13.2 B13 = true:=by kernel_rfl
theorem s1 : parse_Pool.f 60 ⟨#[117,110,105,116,32,111,103,114,101,32,52,32,49,56,48,48,32,48,32,123,32,125]⟩ = some ([⟨⟨#[111,103,114,101]⟩,0,4,1800,0,[]⟩],0,0,0):=p1
theorem s2 : parse_Pool.f 200 ⟨#[115,112,101,108,108,32,114,97,105,110,32,123,32,112,108,97,121,58,32,100,97,109,97,103,101,32,116,104,101,105,114,115,32,53,48,48,59,32,125]⟩ = some ([⟨⟨#[114,97,105,110]⟩,1,0,0,0,[⟨0,0,0,[],0,0,false,0,z40,[⟨2,1,⟨0,500,0,z40,[]⟩,false,z40⟩]⟩]⟩],0,0,0):=p2
theorem s3 : parse_Pool.f 60 ⟨#[117,110,105,116,32,51]⟩ = some ([],5,1,6):=p3
set_option maxHeartbeats 4000000 in
set_option maxRecDepth 100000 in
theorem lives (W : World) (hG : Tabs W) : Calls Tryz.prog 5 #[] W fun e w' => e = .returned (.bool true) ∧ Below W.heap.size W w' := by
  have HT:=Aside0.mk hG
  have HL:=Aside0.mk (Lv.start W)
  clear hG
  go_enter Tryz.func5,Tryz.ntmps5
  go_upto_region 6 with (first
    | (go_at_call 8;(with_reducible refine Calls.mono (parse_Exprs.calls 60 ⟨#[51,32,108,105,102,101,32,109,105,110,101,32,40,43,32,49,32,112,111,119,101,114,41]⟩ [⟨0,3,0,z40,[]⟩,⟨1,0,0,z40,[]⟩,⟨4,0,0,z40,[⟨0,1,0,z40,[]⟩,⟨3,0,0,z40,[]⟩]⟩] 0 0 0 _ (HT.out.below HL.out.below) q1) ?_);rintro e w1 ⟨v0,rfl,hR,hb⟩;obtain ⟨A1,c1,rfl,hc1,hC1⟩:=Kd.R_reads hR;have HN:=Aside0.mk ((HL.out.call hb).row hC1);have HC1:=Aside0.mk hc1;clear HL hR hb hC1 hc1;have HL:=HN;clear HN)
    | ((with_reducible refine gate_store (t:=28) (p:=2) rfl ?_);refine store_row rfl rfl rfl _ _ rfl rfl (blk_new _ _) (by kernel_rfl) rfl (by kernel_rfl) ?_;intro u1 hf hg;have HN:=Aside0.mk (HL.out.keep hg hf);clear HL hf hg;have HL:=HN;clear HN)
    | (go_at_call 8;(with_reducible refine Calls.mono (parse_Exprs.calls 60 ⟨#[40,110,111,116,41]⟩ [] 5 1 5 _ (HT.out.below HL.out.below) q2) ?_);rintro e w2 ⟨v0,rfl,hR,hb⟩;obtain ⟨A2,c2,rfl,hc2,hC2⟩:=Kd.R_reads hR;have HN:=Aside0.mk ((HL.out.call hb).row hC2);have HC2:=Aside0.mk hc2;clear HL hR hb hC2 hc2;have HL:=HN;clear HN)
    | ((with_reducible refine gate_store (t:=28) (p:=4) rfl ?_);refine store_row rfl rfl rfl _ _ rfl rfl (blk_new _ _) (by kernel_rfl) rfl (by kernel_rfl) ?_;intro u2 hf hg;have HN:=Aside0.mk (HL.out.keep hg hf);clear HL hf hg;have HL:=HN;clear HN)
    | (go_at_call 8;(with_reducible refine Calls.mono (parse_Exprs.calls 60 ⟨#[40,41]⟩ [] 5 1 2 _ (HT.out.below HL.out.below) q3) ?_);rintro e w3 ⟨v0,rfl,hR,hb⟩;obtain ⟨A3,c3,rfl,hc3,hC3⟩:=Kd.R_reads hR;have HN:=Aside0.mk ((HL.out.call hb).row hC3);have HC3:=Aside0.mk hc3;clear HL hR hb hC3 hc3;have HL:=HN;clear HN)
    | ((with_reducible refine gate_store (t:=28) (p:=6) rfl ?_);refine store_row rfl rfl rfl _ _ rfl rfl (blk_new _ _) (by kernel_rfl) rfl (by kernel_rfl) ?_;intro u3 hf hg;have HN:=Aside0.mk (HL.out.keep hg hf);clear HL hf hg;have HL:=HN;clear HN)
    | (go_at_call 8;(with_reducible refine Calls.mono (parse_Exprs.calls 60 ⟨#[99,111,117,110,116,32,109,105,110,101,32,114,111,119,32,117,110,105,116]⟩ [⟨2,0,0,⟨0,2,1⟩,[]⟩] 0 0 0 _ (HT.out.below HL.out.below) q4) ?_);rintro e w4 ⟨v0,rfl,hR,hb⟩;obtain ⟨A4,c4,rfl,hc4,hC4⟩:=Kd.R_reads hR;have HN:=Aside0.mk ((HL.out.call hb).row hC4);have HC4:=Aside0.mk hc4;clear HL hR hb hC4 hc4;have HL:=HN;clear HN)
    | ((with_reducible refine gate_store (t:=28) (p:=8) rfl ?_);refine store_row rfl rfl rfl _ _ rfl rfl (blk_new _ _) (by kernel_rfl) rfl (by kernel_rfl) ?_;intro u4 hf hg;have HN:=Aside0.mk (HL.out.keep hg hf);clear HL hf hg;have HL:=HN;clear HN))
  have HN:=Aside0.mk (((HL.out.call (below_alloc (Below.refl _ _) _)).row (lit_C k50 u4 50 (sum_reps u4) (by decide))).new #[.int .u8 4,.int .i64 0,.int .u8 0,.int .u8 0,.int .u8 0,.int .u8 0,.slice (some ⟨u4.heap.size,0,none⟩) 2 2] 50 (u4.heap.size + 1) (size_alloc _ _))
  clear HL
  have HL:=HN
  clear HN
  obtain ⟨ad4,A6,c6,he,-⟩:=at_T50 HL.out.r1 0 (by decide) (show (0 : Int) < ((1 : Nat) : Int) by decide)
  subst he
  clear A6 c6
  refine start_ (n:=40) (S:=HL.out.S) (ds:=[]) #[false,false,false,false,false,false,false,false,false,false,false,false,false,false,false,false,false,false,false,false,false,false,false,false,false,false,false,false,false,false,false,false,false,false,false,false,false,false,false,false] (by kernel_rfl) rfl rfl (HL.out.call (below_drew (Below.refl _ _))) (fun hHeld0=>?_);refine with_tabW tab6 bits6 (fun HT_ HW_=>?_)
  have hHeld:=Aside0.mk (show Lv W _ _ _ _ from hHeld0)
  clear hHeld0
  generalize ((u4.alloc (.cells #[.int .u8 0,.int .i64 1,.int .u8 0,.int .u8 0,.int .u8 0,.int .u8 0,.slice none 0 0,.int .u8 3,.int .i64 0,.int .u8 0,.int .u8 0,.int .u8 0,.int .u8 0,.slice none 0 0] 50)).alloc (.cells #[.int .u8 4,.int .i64 0,.int .u8 0,.int .u8 0,.int .u8 0,.int .u8 0,.slice (some ⟨u4.heap.size,0,none⟩) 2 2] 50)).drew = u6 at hHeld ⊢
  refine pure_ (i := 0) (N := some 38) (v := ?_) (a' := ?_) #[true, false, false, false, false, false, false, false, false, false, false, false, false, false, false, false, false, false, false, false, false, false, false, false, false, false, false, false, false, false, false, false, false, false, false, false, false, false, false, false] rfl rfl (any_of HT_.out (by kernel_rfl)) (fun _ _ _ h => h) (Or.inl ⟨by rfl, ?_⟩) ?_ ?_
  rotate_left
  · intro w'
    go_simp
    with_reducible rfl
  rotate_left
  · simp only [Act.put,List.setIfInBounds_toArray,List.set_cons_zero,List.set_cons_succ,i64_w,i32_w]
    rfl
  refine take_ (i := 1) (N := some 39) (v := ?_) (a' := ?_) #[true, true, false, false, false, false, false, false, false, false, false, false, false, false, false, false, false, false, false, false, false, false, false, false, false, false, false, false, false, false, false, false, false, false, false, false, false, false, false, false] rfl rfl (take_ofW HT_.out HW_.out (by kernel_rfl)) (fun _ _ _ h => h) (Or.inl ⟨by rfl, ?_⟩) hHeld.out ?_ ?_
  rotate_left
  · intro w' hS0
    have hS : Lv W w' _ _ _ := hS0
    have s0 : w'.cell? ⟨_,0,none⟩ = some (.int .i64 0):=(blk_cell hS.b4 0).trans rfl
    go_simp
    with_reducible rfl
  rotate_left
  · simp only [Act.put,List.setIfInBounds_toArray,List.set_cons_zero,List.set_cons_succ,i64_w,i32_w]
    rfl
  refine pure_ (i := 2) (N := some 40) (v := ?_) (a' := ?_) #[true, true, true, false, false, false, false, false, false, false, false, false, false, false, false, false, false, false, false, false, false, false, false, false, false, false, false, false, false, false, false, false, false, false, false, false, false, false, false, false] rfl rfl (any_of HT_.out (by kernel_rfl)) (fun _ _ _ h => h) (Or.inl ⟨by rfl, ?_⟩) ?_ ?_
  rotate_left
  · intro w'
    go_simp
    with_reducible rfl
  rotate_left
  · simp only [Act.put,List.setIfInBounds_toArray,List.set_cons_zero,List.set_cons_succ,i64_w,i32_w]
    rfl
  refine pure_ (i := 3) (N := some 41) (v := ?_) (a' := ?_) #[true, true, true, true, false, false, false, false, false, false, false, false, false, false, false, false, false, false, false, false, false, false, false, false, false, false, false, false, false, false, false, false, false, false, false, false, false, false, false, false] rfl rfl (any_of HT_.out (by kernel_rfl)) (fun _ _ _ h => h) (Or.inl ⟨by rfl, ?_⟩) ?_ ?_
  rotate_left
  · intro w'
    go_simp
    with_reducible rfl
  rotate_left
  · simp only [Act.put,List.setIfInBounds_toArray,List.set_cons_zero,List.set_cons_succ,i64_w,i32_w]
    rfl
  refine pure_ (i := 4) (N := some 42) (v := ?_) (a' := ?_) #[true, true, true, true, true, false, false, false, false, false, false, false, false, false, false, false, false, false, false, false, false, false, false, false, false, false, false, false, false, false, false, false, false, false, false, false, false, false, false, false] rfl rfl (any_of HT_.out (by kernel_rfl)) (fun _ _ _ h => h) (Or.inl ⟨by rfl, ?_⟩) ?_ ?_
  rotate_left
  · intro w'
    go_simp
    with_reducible rfl
  rotate_left
  · simp only [Act.put,List.setIfInBounds_toArray,List.set_cons_zero,List.set_cons_succ,i64_w,i32_w]
    rfl
  refine pure_ (i := 5) (N := some 43) (v := ?_) (a' := ?_) #[true, true, true, true, true, true, false, false, false, false, false, false, false, false, false, false, false, false, false, false, false, false, false, false, false, false, false, false, false, false, false, false, false, false, false, false, false, false, false, false] rfl rfl (any_of HT_.out (by kernel_rfl)) (fun _ _ _ h => h) (Or.inl ⟨by rfl, ?_⟩) ?_ ?_
  rotate_left
  · intro w'
    go_simp
    with_reducible rfl
  rotate_left
  · simp only [Act.put,List.setIfInBounds_toArray,List.set_cons_zero,List.set_cons_succ,i64_w,i32_w]
    rfl
  refine pure_ (i := 6) (N := some 44) (v := ?_) (a' := ?_) #[true, true, true, true, true, true, true, false, false, false, false, false, false, false, false, false, false, false, false, false, false, false, false, false, false, false, false, false, false, false, false, false, false, false, false, false, false, false, false, false] rfl rfl (any_of HT_.out (by kernel_rfl)) (fun _ _ _ h => h) (Or.inl ⟨by rfl, ?_⟩) ?_ ?_
  rotate_left
  · intro w'
    go_simp
    with_reducible rfl
  rotate_left
  · simp only [Act.put,List.setIfInBounds_toArray,List.set_cons_zero,List.set_cons_succ,i64_w,i32_w]
    rfl
  refine take_ (i := 7) (N := some 45) (v := ?_) (a' := ?_) #[true, true, true, true, true, true, true, true, false, false, false, false, false, false, false, false, false, false, false, false, false, false, false, false, false, false, false, false, false, false, false, false, false, false, false, false, false, false, false, false] rfl rfl (take_ofW HT_.out HW_.out (by kernel_rfl)) (fun _ _ _ h => h) (Or.inl ⟨by rfl, ?_⟩) hHeld.out ?_ ?_
  rotate_left
  · intro w' hS0
    have hS : Lv W w' _ _ _ := hS0
    have s0 : w'.cell? ⟨_,0,none⟩ = some (.int .u8 4):=(blk_cell hS.b0 0).trans rfl
    have s1 : w'.cell? ⟨_,1,none⟩ = some (.int .i64 0):=(blk_cell hS.b0 1).trans rfl
    have s2 : w'.cell? ⟨_,2,none⟩ = some (.int .u8 0):=(blk_cell hS.b0 2).trans rfl
    have s3 : w'.cell? ⟨_,3,none⟩ = some (.int .u8 0):=(blk_cell hS.b0 3).trans rfl
    have s4 : w'.cell? ⟨_,4,none⟩ = some (.int .u8 0):=(blk_cell hS.b0 4).trans rfl
    have s5 : w'.cell? ⟨_,5,none⟩ = some (.int .u8 0):=(blk_cell hS.b0 5).trans rfl
    have s6 : w'.cell? ⟨_,6,none⟩ = some (.slice (some ⟨_,0,none⟩) 2 2):=(blk_cell hS.b0 6).trans rfl
    go_simp
    with_reducible rfl
  rotate_left
  · simp only [Act.put,List.setIfInBounds_toArray,List.set_cons_zero,List.set_cons_succ,i64_w,i32_w]
    rfl
  refine one_ (i:=8) (N:=some 46) #[true,true,true,true,true,true,true,true,true,false,false,false,false,false,false,false,false,false,false,false,false,false,false,false,false,false,false,false,false,false,false,false,false,false,false,false,false,false,false,false] rfl rfl (one_of HT_.out (by kernel_rfl)) (by decide) (fun K hK=>?_)
  refine value_ (v:=.slice (some ⟨u6.heap.size,0,none⟩) 3 3) (w1:=u6.alloc (.cells #[.int .u8 0,.int .i64 3,.int .u8 0,.int .u8 0,.int .u8 0,.int .u8 0,.slice none 0 0,.int .u8 1,.int .i64 0,.int .u8 0,.int .u8 0,.int .u8 0,.int .u8 0,.slice none 0 0,.int .u8 4,.int .i64 0,.int .u8 0,.int .u8 0,.int .u8 0,.int .u8 0,.slice (some ⟨u4.heap.size,0,none⟩) 2 2] 50)) (by rfl) rfl (by go_simp;try rfl) ?_
  have HN:=Aside0.mk (hHeld.out.call (below_alloc (Below.refl u6.heap.size u6) (.cells #[.int .u8 0,.int .i64 3,.int .u8 0,.int .u8 0,.int .u8 0,.int .u8 0,.slice none 0 0,.int .u8 1,.int .i64 0,.int .u8 0,.int .u8 0,.int .u8 0,.int .u8 0,.slice none 0 0,.int .u8 4,.int .i64 0,.int .u8 0,.int .u8 0,.int .u8 0,.int .u8 0,.slice (some ⟨u4.heap.size,0,none⟩) 2 2] 50)))
  have HC:=Aside0.mk (lit_C k50 u6 50 (l_reps u6 (hHeld.out.rows _ (List.mem_cons_self ..))) (by decide))
  refine hK.out _ _ HN.out (fun _=>?_)
  clear hK K hHeld
  have hHeld:=HN
  clear HN
  refine norm_ (a' := ?_) ?_ ?_
  rotate_left
  · show Act.put _ (some 46) _ = _
    simp only [Act.put,List.setIfInBounds_toArray,List.set_cons_zero,List.set_cons_succ,i64_w,i32_w]
    rfl
  refine one_ (i:=9) (N:=some 47) #[true,true,true,true,true,true,true,true,true,true,false,false,false,false,false,false,false,false,false,false,false,false,false,false,false,false,false,false,false,false,false,false,false,false,false,false,false,false,false,false] rfl rfl (one_of HT_.out (by kernel_rfl)) (by decide) (fun K hK=>?_)
  refine goes_ Tryz.func11 (by kernel_rfl) rfl #[.slice A1 3 c1,.slice (some ⟨u6.heap.size,0,none⟩) 3 3] (by rfl) rfl rfl (by (try simp only [List.map_toArray,List.map_cons,List.map_nil]);first | done | rfl) ?_
  refine Calls.mono (CmpA.same_L [⟨0,3,0,z40,[]⟩,⟨1,0,0,z40,[]⟩,⟨4,0,0,z40,[⟨0,1,0,z40,[]⟩,⟨3,0,0,z40,[]⟩]⟩] _ A1 _ c1 3 hHeld.out.r4 HC.out) ?_
  rintro e w9 ⟨rfl,hb⟩
  refine ⟨_,rfl,?_⟩
  have HN:=Aside0.mk (hHeld.out.call hb)
  refine hK.out _ _ HN.out (fun _=>?_)
  clear hK K hHeld hb
  have hHeld:=HN
  clear HN
  clear HC
  refine norm_ (a' := ?_) ?_ ?_
  rotate_left
  · show Act.put _ (some 47) _ = _
    simp only [Act.put,List.setIfInBounds_toArray,List.set_cons_zero,List.set_cons_succ,i64_w,i32_w]
    rfl
  refine pure_ (i := 10) (N := some 48) (v := ?_) (a' := ?_) #[true, true, true, true, true, true, true, true, true, true, true, false, false, false, false, false, false, false, false, false, false, false, false, false, false, false, false, false, false, false, false, false, false, false, false, false, false, false, false, false] rfl rfl (any_of HT_.out (by kernel_rfl)) (fun _ _ _ h => h) (Or.inl ⟨by rfl, ?_⟩) ?_ ?_
  rotate_left
  · intro w'
    go_simp
    with_reducible rfl
  rotate_left
  · simp only [Act.put,List.setIfInBounds_toArray,List.set_cons_zero,List.set_cons_succ,i64_w,i32_w]
    rfl
  refine pure_ (i := 11) (N := some 49) (v := ?_) (a' := ?_) #[true, true, true, true, true, true, true, true, true, true, true, true, false, false, false, false, false, false, false, false, false, false, false, false, false, false, false, false, false, false, false, false, false, false, false, false, false, false, false, false] rfl rfl (any_of HT_.out (by kernel_rfl)) (fun _ _ _ h => h) (Or.inl ⟨by rfl, ?_⟩) ?_ ?_
  rotate_left
  · intro w'
    go_simp
    with_reducible rfl
  rotate_left
  · simp only [Act.put,List.setIfInBounds_toArray,List.set_cons_zero,List.set_cons_succ,i64_w,i32_w]
    rfl
  refine pure_ (i := 12) (N := some 50) (v := ?_) (a' := ?_) #[true, true, true, true, true, true, true, true, true, true, true, true, true, false, false, false, false, false, false, false, false, false, false, false, false, false, false, false, false, false, false, false, false, false, false, false, false, false, false, false] rfl rfl (any_of HT_.out (by kernel_rfl)) (fun _ _ _ h => h) (Or.inl ⟨by rfl, ?_⟩) ?_ ?_
  rotate_left
  · intro w'
    go_simp
    with_reducible rfl
  rotate_left
  · simp only [Act.put,List.setIfInBounds_toArray,List.set_cons_zero,List.set_cons_succ,i64_w,i32_w]
    rfl
  refine take_ (i := 13) (N := some 51) (v := ?_) (a' := ?_) #[true, true, true, true, true, true, true, true, true, true, true, true, true, true, false, false, false, false, false, false, false, false, false, false, false, false, false, false, false, false, false, false, false, false, false, false, false, false, false, false] rfl rfl (take_ofW HT_.out HW_.out (by kernel_rfl)) (fun _ _ _ h => h) (Or.inl ⟨by rfl, ?_⟩) hHeld.out ?_ ?_
  rotate_left
  · intro w' hS0
    have hS : Lv W w' _ _ _ := hS0
    have s0 : w'.cell? ⟨_,0,none⟩ = some (.int .i64 5):=(blk_cell hS.b3 0).trans rfl
    have s1 : w'.cell? ⟨_,1,none⟩ = some (.int .i64 1):=(blk_cell hS.b3 1).trans rfl
    have s2 : w'.cell? ⟨_,2,none⟩ = some (.int .i64 5):=(blk_cell hS.b3 2).trans rfl
    go_simp
    with_reducible rfl
  rotate_left
  · simp only [Act.put,List.setIfInBounds_toArray,List.set_cons_zero,List.set_cons_succ,i64_w,i32_w]
    rfl
  refine one_ (i:=14) (N:=some 52) #[true,true,true,true,true,true,true,true,true,true,true,true,true,true,true,false,false,false,false,false,false,false,false,false,false,false,false,false,false,false,false,false,false,false,false,false,false,false,false,false] rfl rfl (one_of HT_.out (by kernel_rfl)) (by decide) (fun K hK=>?_)
  refine goes_ Tryz.func12 (by kernel_rfl) rfl #[.int .i64 5,.int .i64 5] (by rfl) rfl rfl (by (try simp only [List.map_toArray,List.map_cons,List.map_nil]);first | done | rfl) ?_
  refine Calls.mono (joustlaw02_at.calls 5 5 5 1 5 _ rfl) ?_
  rintro e w9 ⟨rfl,hb⟩
  refine ⟨_,rfl,?_⟩
  have HN:=Aside0.mk (hHeld.out.call hb)
  refine hK.out _ _ HN.out (fun _=>?_)
  clear hK K hHeld hb
  have hHeld:=HN
  clear HN
  refine norm_ (a' := ?_) ?_ ?_
  rotate_left
  · show Act.put _ (some 52) _ = _
    simp only [Act.put,List.setIfInBounds_toArray,List.set_cons_zero,List.set_cons_succ,i64_w,i32_w]
    rfl
  refine pure_ (i := 15) (N := some 53) (v := ?_) (a' := ?_) #[true, true, true, true, true, true, true, true, true, true, true, true, true, true, true, true, false, false, false, false, false, false, false, false, false, false, false, false, false, false, false, false, false, false, false, false, false, false, false, false] rfl rfl (any_of HT_.out (by kernel_rfl)) (fun _ _ _ h => h) (Or.inl ⟨by rfl, ?_⟩) ?_ ?_
  rotate_left
  · intro w'
    go_simp
    with_reducible rfl
  rotate_left
  · simp only [Act.put,List.setIfInBounds_toArray,List.set_cons_zero,List.set_cons_succ,i64_w,i32_w]
    rfl
  refine pure_ (i := 16) (N := some 54) (v := ?_) (a' := ?_) #[true, true, true, true, true, true, true, true, true, true, true, true, true, true, true, true, true, false, false, false, false, false, false, false, false, false, false, false, false, false, false, false, false, false, false, false, false, false, false, false] rfl rfl (any_of HT_.out (by kernel_rfl)) (fun _ _ _ h => h) (Or.inl ⟨by rfl, ?_⟩) ?_ ?_
  rotate_left
  · intro w'
    go_simp
    with_reducible rfl
  rotate_left
  · simp only [Act.put,List.setIfInBounds_toArray,List.set_cons_zero,List.set_cons_succ,i64_w,i32_w]
    rfl
  refine pure_ (i := 17) (N := some 55) (v := ?_) (a' := ?_) #[true, true, true, true, true, true, true, true, true, true, true, true, true, true, true, true, true, true, false, false, false, false, false, false, false, false, false, false, false, false, false, false, false, false, false, false, false, false, false, false] rfl rfl (any_of HT_.out (by kernel_rfl)) (fun _ _ _ h => h) (Or.inl ⟨by rfl, ?_⟩) ?_ ?_
  rotate_left
  · intro w'
    go_simp
    with_reducible rfl
  rotate_left
  · simp only [Act.put,List.setIfInBounds_toArray,List.set_cons_zero,List.set_cons_succ,i64_w,i32_w]
    rfl
  refine take_ (i := 18) (N := some 56) (v := ?_) (a' := ?_) #[true, true, true, true, true, true, true, true, true, true, true, true, true, true, true, true, true, true, true, false, false, false, false, false, false, false, false, false, false, false, false, false, false, false, false, false, false, false, false, false] rfl rfl (take_ofW HT_.out HW_.out (by kernel_rfl)) (fun _ _ _ h => h) (Or.inl ⟨by rfl, ?_⟩) hHeld.out ?_ ?_
  rotate_left
  · intro w' hS0
    have hS : Lv W w' _ _ _ := hS0
    have s0 : w'.cell? ⟨_,0,none⟩ = some (.int .i64 5):=(blk_cell hS.b2 0).trans rfl
    have s1 : w'.cell? ⟨_,1,none⟩ = some (.int .i64 1):=(blk_cell hS.b2 1).trans rfl
    have s2 : w'.cell? ⟨_,2,none⟩ = some (.int .i64 2):=(blk_cell hS.b2 2).trans rfl
    go_simp
    with_reducible rfl
  rotate_left
  · simp only [Act.put,List.setIfInBounds_toArray,List.set_cons_zero,List.set_cons_succ,i64_w,i32_w]
    rfl
  refine one_ (i:=19) (N:=some 57) #[true,true,true,true,true,true,true,true,true,true,true,true,true,true,true,true,true,true,true,true,false,false,false,false,false,false,false,false,false,false,false,false,false,false,false,false,false,false,false,false] rfl rfl (one_of HT_.out (by kernel_rfl)) (by decide) (fun K hK=>?_)
  refine goes_ Tryz.func12 (by kernel_rfl) rfl #[.int .i64 5,.int .i64 2] (by rfl) rfl rfl (by (try simp only [List.map_toArray,List.map_cons,List.map_nil]);first | done | rfl) ?_
  refine Calls.mono (joustlaw02_at.calls 5 2 5 1 2 _ rfl) ?_
  rintro e w9 ⟨rfl,hb⟩
  refine ⟨_,rfl,?_⟩
  have HN:=Aside0.mk (hHeld.out.call hb)
  refine hK.out _ _ HN.out (fun _=>?_)
  clear hK K hHeld hb
  have hHeld:=HN
  clear HN
  refine norm_ (a' := ?_) ?_ ?_
  rotate_left
  · show Act.put _ (some 57) _ = _
    simp only [Act.put,List.setIfInBounds_toArray,List.set_cons_zero,List.set_cons_succ,i64_w,i32_w]
    rfl
  refine pure_ (i := 20) (N := some 58) (v := ?_) (a' := ?_) #[true, true, true, true, true, true, true, true, true, true, true, true, true, true, true, true, true, true, true, true, true, false, false, false, false, false, false, false, false, false, false, false, false, false, false, false, false, false, false, false] rfl rfl (any_of HT_.out (by kernel_rfl)) (fun _ _ _ h => h) (Or.inl ⟨by rfl, ?_⟩) ?_ ?_
  rotate_left
  · intro w'
    go_simp
    with_reducible rfl
  rotate_left
  · simp only [Act.put,List.setIfInBounds_toArray,List.set_cons_zero,List.set_cons_succ,i64_w,i32_w]
    rfl
  refine pure_ (i := 21) (N := some 59) (v := ?_) (a' := ?_) #[true, true, true, true, true, true, true, true, true, true, true, true, true, true, true, true, true, true, true, true, true, true, false, false, false, false, false, false, false, false, false, false, false, false, false, false, false, false, false, false] rfl rfl (any_of HT_.out (by kernel_rfl)) (fun _ _ _ h => h) (Or.inl ⟨by rfl, ?_⟩) ?_ ?_
  rotate_left
  · intro w'
    go_simp
    with_reducible rfl
  rotate_left
  · simp only [Act.put,List.setIfInBounds_toArray,List.set_cons_zero,List.set_cons_succ,i64_w,i32_w]
    rfl
  refine pure_ (i := 22) (N := some 60) (v := ?_) (a' := ?_) #[true, true, true, true, true, true, true, true, true, true, true, true, true, true, true, true, true, true, true, true, true, true, true, false, false, false, false, false, false, false, false, false, false, false, false, false, false, false, false, false] rfl rfl (any_of HT_.out (by kernel_rfl)) (fun _ _ _ h => h) (Or.inl ⟨by rfl, ?_⟩) ?_ ?_
  rotate_left
  · intro w'
    go_simp
    with_reducible rfl
  rotate_left
  · simp only [Act.put,List.setIfInBounds_toArray,List.set_cons_zero,List.set_cons_succ,i64_w,i32_w]
    rfl
  refine pure_ (i := 23) (N := some 61) (v := ?_) (a' := ?_) #[true, true, true, true, true, true, true, true, true, true, true, true, true, true, true, true, true, true, true, true, true, true, true, true, false, false, false, false, false, false, false, false, false, false, false, false, false, false, false, false] rfl rfl (any_of HT_.out (by kernel_rfl)) (fun _ _ _ h => h) (Or.inl ⟨by rfl, ?_⟩) ?_ ?_
  rotate_left
  · intro w'
    go_simp
    with_reducible rfl
  rotate_left
  · simp only [Act.put,List.setIfInBounds_toArray,List.set_cons_zero,List.set_cons_succ,i64_w,i32_w]
    rfl
  refine take_ (i := 24) (N := some 62) (v := ?_) (a' := ?_) #[true, true, true, true, true, true, true, true, true, true, true, true, true, true, true, true, true, true, true, true, true, true, true, true, true, false, false, false, false, false, false, false, false, false, false, false, false, false, false, false] rfl rfl (take_ofW HT_.out HW_.out (by kernel_rfl)) (fun _ _ _ h => h) (Or.inl ⟨by rfl, ?_⟩) hHeld.out ?_ ?_
  rotate_left
  · intro w' hS0
    have hS : Lv W w' _ _ _ := hS0
    have s0 : w'.cell? ⟨_,0,none⟩ = some (.int .i64 0):=(blk_cell hS.b1 0).trans rfl
    go_simp
    with_reducible rfl
  rotate_left
  · simp only [Act.put,List.setIfInBounds_toArray,List.set_cons_zero,List.set_cons_succ,i64_w,i32_w]
    rfl
  refine pure_ (i := 25) (N := some 63) (v := ?_) (a' := ?_) #[true, true, true, true, true, true, true, true, true, true, true, true, true, true, true, true, true, true, true, true, true, true, true, true, true, true, false, false, false, false, false, false, false, false, false, false, false, false, false, false] rfl rfl (any_of HT_.out (by kernel_rfl)) (fun _ _ _ h => h) (Or.inl ⟨by rfl, ?_⟩) ?_ ?_
  rotate_left
  · intro w'
    go_simp
    with_reducible rfl
  rotate_left
  · simp only [Act.put,List.setIfInBounds_toArray,List.set_cons_zero,List.set_cons_succ,i64_w,i32_w]
    rfl
  refine pure_ (i := 26) (N := some 64) (v := ?_) (a' := ?_) #[true, true, true, true, true, true, true, true, true, true, true, true, true, true, true, true, true, true, true, true, true, true, true, true, true, true, true, false, false, false, false, false, false, false, false, false, false, false, false, false] rfl rfl (any_of HT_.out (by kernel_rfl)) (fun _ _ _ h => h) (Or.inl ⟨by rfl, ?_⟩) ?_ ?_
  rotate_left
  · intro w'
    go_simp
    with_reducible rfl
  rotate_left
  · simp only [Act.put,List.setIfInBounds_toArray,List.set_cons_zero,List.set_cons_succ,i64_w,i32_w]
    rfl
  refine pure_ (i := 27) (N := some 65) (v := ?_) (a' := ?_) #[true, true, true, true, true, true, true, true, true, true, true, true, true, true, true, true, true, true, true, true, true, true, true, true, true, true, true, true, false, false, false, false, false, false, false, false, false, false, false, false] rfl rfl (any_of HT_.out (by kernel_rfl)) (fun _ _ _ h => h) (Or.inl ⟨by rfl, ?_⟩) ?_ ?_
  rotate_left
  · intro w'
    go_simp
    with_reducible rfl
  rotate_left
  · simp only [Act.put,List.setIfInBounds_toArray,List.set_cons_zero,List.set_cons_succ,i64_w,i32_w]
    rfl
  refine pure_ (i := 28) (N := some 66) (v := ?_) (a' := ?_) #[true, true, true, true, true, true, true, true, true, true, true, true, true, true, true, true, true, true, true, true, true, true, true, true, true, true, true, true, true, false, false, false, false, false, false, false, false, false, false, false] rfl rfl (any_of HT_.out (by kernel_rfl)) (fun _ _ _ h => h) (Or.inl ⟨by rfl, ?_⟩) ?_ ?_
  rotate_left
  · intro w'
    go_simp
    with_reducible rfl
  rotate_left
  · simp only [Act.put,List.setIfInBounds_toArray,List.set_cons_zero,List.set_cons_succ,i64_w,i32_w]
    rfl
  refine pure_ (i := 29) (N := some 67) (v := ?_) (a' := ?_) #[true, true, true, true, true, true, true, true, true, true, true, true, true, true, true, true, true, true, true, true, true, true, true, true, true, true, true, true, true, true, false, false, false, false, false, false, false, false, false, false] rfl rfl (any_of HT_.out (by kernel_rfl)) (fun _ _ _ h => h) (Or.inl ⟨by rfl, ?_⟩) ?_ ?_
  rotate_left
  · intro w'
    go_simp
    with_reducible rfl
  rotate_left
  · simp only [Act.put,List.setIfInBounds_toArray,List.set_cons_zero,List.set_cons_succ,i64_w,i32_w]
    rfl
  refine pure_ (i := 30) (N := some 68) (v := ?_) (a' := ?_) #[true, true, true, true, true, true, true, true, true, true, true, true, true, true, true, true, true, true, true, true, true, true, true, true, true, true, true, true, true, true, true, false, false, false, false, false, false, false, false, false] rfl rfl (any_of HT_.out (by kernel_rfl)) (fun _ _ _ h => h) (Or.inl ⟨by rfl, ?_⟩) ?_ ?_
  rotate_left
  · intro w'
    go_simp
    with_reducible rfl
  rotate_left
  · simp only [Act.put,List.setIfInBounds_toArray,List.set_cons_zero,List.set_cons_succ,i64_w,i32_w]
    rfl
  refine pure_ (i := 31) (N := some 69) (v := ?_) (a' := ?_) #[true, true, true, true, true, true, true, true, true, true, true, true, true, true, true, true, true, true, true, true, true, true, true, true, true, true, true, true, true, true, true, true, false, false, false, false, false, false, false, false] rfl rfl (any_of HT_.out (by kernel_rfl)) (fun _ _ _ h => h) (Or.inl ⟨by rfl, ?_⟩) ?_ ?_
  rotate_left
  · intro w'
    go_simp
    with_reducible rfl
  rotate_left
  · simp only [Act.put,List.setIfInBounds_toArray,List.set_cons_zero,List.set_cons_succ,i64_w,i32_w]
    rfl
  refine pure_ (i := 32) (N := some 70) (v := ?_) (a' := ?_) #[true, true, true, true, true, true, true, true, true, true, true, true, true, true, true, true, true, true, true, true, true, true, true, true, true, true, true, true, true, true, true, true, true, false, false, false, false, false, false, false] rfl rfl (any_of HT_.out (by kernel_rfl)) (fun _ _ _ h => h) (Or.inl ⟨by rfl, ?_⟩) ?_ ?_
  rotate_left
  · intro w'
    go_simp
    with_reducible rfl
  rotate_left
  · simp only [Act.put,List.setIfInBounds_toArray,List.set_cons_zero,List.set_cons_succ,i64_w,i32_w]
    rfl
  refine pure_ (i := 33) (N := some 71) (v := ?_) (a' := ?_) #[true, true, true, true, true, true, true, true, true, true, true, true, true, true, true, true, true, true, true, true, true, true, true, true, true, true, true, true, true, true, true, true, true, true, false, false, false, false, false, false] rfl rfl (any_of HT_.out (by kernel_rfl)) (fun _ _ _ h => h) (Or.inl ⟨by rfl, ?_⟩) ?_ ?_
  rotate_left
  · intro w'
    go_simp
    with_reducible rfl
  rotate_left
  · simp only [Act.put,List.setIfInBounds_toArray,List.set_cons_zero,List.set_cons_succ,i64_w,i32_w]
    rfl
  refine pure_ (i := 34) (N := some 72) (v := ?_) (a' := ?_) #[true, true, true, true, true, true, true, true, true, true, true, true, true, true, true, true, true, true, true, true, true, true, true, true, true, true, true, true, true, true, true, true, true, true, true, false, false, false, false, false] rfl rfl (any_of HT_.out (by kernel_rfl)) (fun _ _ _ h => h) (Or.inl ⟨by rfl, ?_⟩) ?_ ?_
  rotate_left
  · intro w'
    go_simp
    with_reducible rfl
  rotate_left
  · simp only [Act.put,List.setIfInBounds_toArray,List.set_cons_zero,List.set_cons_succ,i64_w,i32_w]
    rfl
  refine pure_ (i := 35) (N := some 73) (v := ?_) (a' := ?_) #[true, true, true, true, true, true, true, true, true, true, true, true, true, true, true, true, true, true, true, true, true, true, true, true, true, true, true, true, true, true, true, true, true, true, true, true, false, false, false, false] rfl rfl (any_of HT_.out (by kernel_rfl)) (fun _ _ _ h => h) (Or.inl ⟨by rfl, ?_⟩) ?_ ?_
  rotate_left
  · intro w'
    go_simp
    with_reducible rfl
  rotate_left
  · simp only [Act.put,List.setIfInBounds_toArray,List.set_cons_zero,List.set_cons_succ,i64_w,i32_w]
    rfl
  refine pure_ (i := 36) (N := some 74) (v := ?_) (a' := ?_) #[true, true, true, true, true, true, true, true, true, true, true, true, true, true, true, true, true, true, true, true, true, true, true, true, true, true, true, true, true, true, true, true, true, true, true, true, true, false, false, false] rfl rfl (any_of HT_.out (by kernel_rfl)) (fun _ _ _ h => h) (Or.inl ⟨by rfl, ?_⟩) ?_ ?_
  rotate_left
  · intro w'
    go_simp
    with_reducible rfl
  rotate_left
  · simp only [Act.put,List.setIfInBounds_toArray,List.set_cons_zero,List.set_cons_succ,i64_w,i32_w]
    rfl
  refine take_ (i := 37) (N := some 75) (v := ?_) (a' := ?_) #[true, true, true, true, true, true, true, true, true, true, true, true, true, true, true, true, true, true, true, true, true, true, true, true, true, true, true, true, true, true, true, true, true, true, true, true, true, true, false, false] rfl rfl (take_ofW HT_.out HW_.out (by kernel_rfl)) (fun _ _ _ h => h) (Or.inl ⟨by rfl, ?_⟩) hHeld.out ?_ ?_
  rotate_left
  · intro w' hS0
    have hS : Lv W w' _ _ _ := hS0
    obtain ⟨ad,A6,c6,he,x0,x1,x2,x3,x4,x5,-,-,-⟩:=at_T50 hS.r1 0 (by decide) (show (0 : Int) < ((1 : Nat) : Int) by decide)
    cases he
    have y5 : w'.cell? ⟨ad4.block,ad4.off + 3 + 2,none⟩ = some (.int .u8 1):=x5
    clear x0 x1 x2 x3 x4 x5
    go_simp
    with_reducible rfl
  rotate_left
  · simp only [Act.put,List.setIfInBounds_toArray,List.set_cons_zero,List.set_cons_succ,i64_w,i32_w]
    rfl
  refine pure_ (i := 38) (N := some 76) (v := ?_) (a' := ?_) #[true, true, true, true, true, true, true, true, true, true, true, true, true, true, true, true, true, true, true, true, true, true, true, true, true, true, true, true, true, true, true, true, true, true, true, true, true, true, true, false] rfl rfl (any_of HT_.out (by kernel_rfl)) (fun _ _ _ h => h) (Or.inl ⟨by rfl, ?_⟩) ?_ ?_
  rotate_left
  · intro w'
    go_simp
    with_reducible rfl
  rotate_left
  · simp only [Act.put,List.setIfInBounds_toArray,List.set_cons_zero,List.set_cons_succ,i64_w,i32_w]
    rfl
  refine pure_ (i := 39) (N := some 77) (v := ?_) (a' := ?_) #[true, true, true, true, true, true, true, true, true, true, true, true, true, true, true, true, true, true, true, true, true, true, true, true, true, true, true, true, true, true, true, true, true, true, true, true, true, true, true, true] rfl rfl (any_of HT_.out (by kernel_rfl)) (fun _ _ _ h => h) (Or.inl ⟨by rfl, ?_⟩) ?_ ?_
  rotate_left
  · intro w'
    go_simp
    with_reducible rfl
  rotate_left
  · simp only [Act.put,List.setIfInBounds_toArray,List.set_cons_zero,List.set_cons_succ,i64_w,i32_w]
    rfl
  refine done_ (done_of HT_.out (by kernel_rfl)) ?_
  clear HT_ HW_
  have HM:=hHeld
  clear hHeld
  go_upto_region 13 with (first
    | (go_at_call 6;(with_reducible refine Calls.mono (parse_Pool.calls 60 ⟨#[117,110,105,116,32,111,103,114,101,32,52,32,49,56,48,48,32,48,32,123,32,125]⟩ [⟨⟨#[111,103,114,101]⟩,0,4,1800,0,[]⟩] 0 0 0 _ (HT.out.below HM.out.below) s1) ?_);rintro e v1 ⟨v0,rfl,hR,hb⟩;obtain ⟨D1,d1,rfl,hd1,hD1⟩:=Kd.R_reads hR;have HN:=Aside0.mk ((HM.out.call hb).card hD1);have HD1:=Aside0.mk hd1;clear HM hR hb hD1 hd1;have HM:=HN;clear HN)
    | ((with_reducible refine gate_store (t:=28) (p:=11) rfl ?_);refine store_row rfl rfl rfl _ _ rfl rfl (blk_new _ _) (by kernel_rfl) rfl (by kernel_rfl) ?_;intro x1 hf hg;have HN:=Aside0.mk (HM.out.keep hg hf);clear HM hf hg;have HM:=HN;clear HN)
    | (go_at_call 6;(with_reducible refine Calls.mono (parse_Pool.calls 200 ⟨#[115,112,101,108,108,32,114,97,105,110,32,123,32,112,108,97,121,58,32,100,97,109,97,103,101,32,116,104,101,105,114,115,32,53,48,48,59,32,125]⟩ [⟨⟨#[114,97,105,110]⟩,1,0,0,0,[⟨0,0,0,[],0,0,false,0,z40,[⟨2,1,⟨0,500,0,z40,[]⟩,false,z40⟩]⟩]⟩] 0 0 0 _ (HT.out.below HM.out.below) s2) ?_);rintro e v2 ⟨v0,rfl,hR,hb⟩;obtain ⟨D2,d2,rfl,hd2,hD2⟩:=Kd.R_reads hR;have HN:=Aside0.mk ((HM.out.call hb).card hD2);have HD2:=Aside0.mk hd2;clear HM hR hb hD2 hd2;have HM:=HN;clear HN)
    | ((with_reducible refine gate_store (t:=28) (p:=13) rfl ?_);refine store_row rfl rfl rfl _ _ rfl rfl (blk_new _ _) (by kernel_rfl) rfl (by kernel_rfl) ?_;intro x2 hf hg;have HN:=Aside0.mk (HM.out.keep hg hf);clear HM hf hg;have HM:=HN;clear HN)
    | (go_at_call 6;(with_reducible refine Calls.mono (parse_Pool.calls 60 ⟨#[117,110,105,116,32,51]⟩ [] 5 1 6 _ (HT.out.below HM.out.below) s3) ?_);rintro e v3 ⟨v0,rfl,hR,hb⟩;obtain ⟨D3,d3,rfl,hd3,hD3⟩:=Kd.R_reads hR;have HN:=Aside0.mk ((HM.out.call hb).card hD3);have HD3:=Aside0.mk hd3;clear HM hR hb hD3 hd3;have HM:=HN;clear HN)
    | ((with_reducible refine gate_store (t:=28) (p:=15) rfl ?_);refine store_row rfl rfl rfl _ _ rfl rfl (blk_new _ _) (by kernel_rfl) rfl (by kernel_rfl) ?_;intro x3 hf hg;have HN:=Aside0.mk (HM.out.keep hg hf);clear HM hf hg;have HM:=HN;clear HN))
  have h1:=lit_D k38 x3 38 x3.heap.size (ogre_reps x3) (by decide) rfl
  have h2:=lit_D k52 (x3.alloc (.cells #[.string ⟨#[111,103,114,101]⟩,.int .u8 0,.int .i64 4,.int .i64 1800,.int .i64 0,.slice none 0 0] 38)) 52 (x3.heap.size + 1) (step_reps _) (by decide) (size_alloc _ _)
  have h3:=lit_D k43 ((x3.alloc (.cells #[.string ⟨#[111,103,114,101]⟩,.int .u8 0,.int .i64 4,.int .i64 1800,.int .i64 0,.slice none 0 0] 38)).alloc (.cells #[.int .u8 2,.int .u8 1,.int .u8 0,.int .i64 500,.int .u8 0,.int .u8 0,.int .u8 0,.int .u8 0,.slice none 0 0,.bool false,.int .u8 0,.int .u8 0,.int .u8 0] 52)) 43 (x3.heap.size + 1 + 1) (eff_reps _ h2) (by decide) (by rw [size_alloc,size_alloc])
  have h4:=lit_D k38 (((x3.alloc (.cells #[.string ⟨#[111,103,114,101]⟩,.int .u8 0,.int .i64 4,.int .i64 1800,.int .i64 0,.slice none 0 0] 38)).alloc (.cells #[.int .u8 2,.int .u8 1,.int .u8 0,.int .i64 500,.int .u8 0,.int .u8 0,.int .u8 0,.int .u8 0,.slice none 0 0,.bool false,.int .u8 0,.int .u8 0,.int .u8 0] 52)).alloc (.cells #[.int .u8 0,.int .u8 0,.int .u8 0,.slice none 0 0,.int .i64 0,.int .i64 0,.bool false,.int .i64 0,.int .u8 0,.int .u8 0,.int .u8 0,.slice (some ⟨x3.heap.size + 1,0,none⟩) 1 1] 43)) 38 (x3.heap.size + 1 + 1 + 1) (rain_reps _ h3) (by decide) (by rw [size_alloc,size_alloc,size_alloc])
  have HN:=Aside0.mk (((((HM.out.call (below_alloc (Below.refl x3.heap.size x3) (.cells #[.string ⟨#[111,103,114,101]⟩,.int .u8 0,.int .i64 4,.int .i64 1800,.int .i64 0,.slice none 0 0] 38))).card h1).call (below_alloc (Below.refl _ (x3.alloc (.cells #[.string ⟨#[111,103,114,101]⟩,.int .u8 0,.int .i64 4,.int .i64 1800,.int .i64 0,.slice none 0 0] 38))) (.cells #[.int .u8 2,.int .u8 1,.int .u8 0,.int .i64 500,.int .u8 0,.int .u8 0,.int .u8 0,.int .u8 0,.slice none 0 0,.bool false,.int .u8 0,.int .u8 0,.int .u8 0] 52))).call (below_alloc (Below.refl _ ((x3.alloc (.cells #[.string ⟨#[111,103,114,101]⟩,.int .u8 0,.int .i64 4,.int .i64 1800,.int .i64 0,.slice none 0 0] 38)).alloc (.cells #[.int .u8 2,.int .u8 1,.int .u8 0,.int .i64 500,.int .u8 0,.int .u8 0,.int .u8 0,.int .u8 0,.slice none 0 0,.bool false,.int .u8 0,.int .u8 0,.int .u8 0] 52))) (.cells #[.int .u8 0,.int .u8 0,.int .u8 0,.slice none 0 0,.int .i64 0,.int .i64 0,.bool false,.int .i64 0,.int .u8 0,.int .u8 0,.int .u8 0,.slice (some ⟨x3.heap.size + 1,0,none⟩) 1 1] 43))).call (below_alloc (Below.refl _ (((x3.alloc (.cells #[.string ⟨#[111,103,114,101]⟩,.int .u8 0,.int .i64 4,.int .i64 1800,.int .i64 0,.slice none 0 0] 38)).alloc (.cells #[.int .u8 2,.int .u8 1,.int .u8 0,.int .i64 500,.int .u8 0,.int .u8 0,.int .u8 0,.int .u8 0,.slice none 0 0,.bool false,.int .u8 0,.int .u8 0,.int .u8 0] 52)).alloc (.cells #[.int .u8 0,.int .u8 0,.int .u8 0,.slice none 0 0,.int .i64 0,.int .i64 0,.bool false,.int .i64 0,.int .u8 0,.int .u8 0,.int .u8 0,.slice (some ⟨x3.heap.size + 1,0,none⟩) 1 1] 43))) (.cells #[.string ⟨#[114,97,105,110]⟩,.int .u8 1,.int .i64 0,.int .i64 0,.int .i64 0,.slice (some ⟨x3.heap.size + 1 + 1,0,none⟩) 1 1] 38)) |>.card h4)
  clear h1 h2 h3 h4 HM
  have HM:=HN
  clear HN
  refine start_ (n:=24) (S:=HM.out.S) (ds:=[]) #[false,false,false,false,false,false,false,false,false,false,false,false,false,false,false,false,false,false,false,false,false,false,false,false] (by kernel_rfl) rfl rfl (HM.out.call (below_drew (Below.refl _ _))) (fun hHeld0=>?_);refine with_tabW tab13 bits13 (fun HT_ HW_=>?_)
  have hHeld:=Aside0.mk (show Lv W _ _ _ _ from hHeld0)
  clear hHeld0
  generalize ((((x3.alloc (.cells #[.string ⟨#[111,103,114,101]⟩,.int .u8 0,.int .i64 4,.int .i64 1800,.int .i64 0,.slice none 0 0] 38)).alloc (.cells #[.int .u8 2,.int .u8 1,.int .u8 0,.int .i64 500,.int .u8 0,.int .u8 0,.int .u8 0,.int .u8 0,.slice none 0 0,.bool false,.int .u8 0,.int .u8 0,.int .u8 0] 52)).alloc (.cells #[.int .u8 0,.int .u8 0,.int .u8 0,.slice none 0 0,.int .i64 0,.int .i64 0,.bool false,.int .i64 0,.int .u8 0,.int .u8 0,.int .u8 0,.slice (some ⟨x3.heap.size + 1,0,none⟩) 1 1] 43)).alloc (.cells #[.string ⟨#[114,97,105,110]⟩,.int .u8 1,.int .i64 0,.int .i64 0,.int .i64 0,.slice (some ⟨x3.heap.size + 1 + 1,0,none⟩) 1 1] 38)).drew = x4 at hHeld ⊢
  refine pure_ (i := 0) (N := some 99) (v := ?_) (a' := ?_) #[true, false, false, false, false, false, false, false, false, false, false, false, false, false, false, false, false, false, false, false, false, false, false, false] rfl rfl (any_of HT_.out (by kernel_rfl)) (fun _ _ _ h => h) (Or.inl ⟨by rfl, ?_⟩) ?_ ?_
  rotate_left
  · intro w'
    go_simp
    with_reducible rfl
  rotate_left
  · simp only [Act.put,List.setIfInBounds_toArray,List.set_cons_zero,List.set_cons_succ,i64_w,i32_w]
    rfl
  refine take_ (i := 1) (N := some 100) (v := ?_) (a' := ?_) #[true, true, false, false, false, false, false, false, false, false, false, false, false, false, false, false, false, false, false, false, false, false, false, false] rfl rfl (take_ofW HT_.out HW_.out (by kernel_rfl)) (fun _ _ _ h => h) (Or.inl ⟨by rfl, ?_⟩) hHeld.out ?_ ?_
  rotate_left
  · intro w' hS0
    have hS : Lv W w' _ _ _ := hS0
    have s0 : w'.cell? ⟨_,0,none⟩ = some (.int .i64 0):=(blk_cell hS.b2 0).trans rfl
    go_simp
    with_reducible rfl
  rotate_left
  · simp only [Act.put,List.setIfInBounds_toArray,List.set_cons_zero,List.set_cons_succ,i64_w,i32_w]
    rfl
  refine pure_ (i := 2) (N := some 101) (v := ?_) (a' := ?_) #[true, true, true, false, false, false, false, false, false, false, false, false, false, false, false, false, false, false, false, false, false, false, false, false] rfl rfl (any_of HT_.out (by kernel_rfl)) (fun _ _ _ h => h) (Or.inl ⟨by rfl, ?_⟩) ?_ ?_
  rotate_left
  · intro w'
    go_simp
    with_reducible rfl
  rotate_left
  · simp only [Act.put,List.setIfInBounds_toArray,List.set_cons_zero,List.set_cons_succ,i64_w,i32_w]
    rfl
  refine pure_ (i := 3) (N := some 102) (v := ?_) (a' := ?_) #[true, true, true, true, false, false, false, false, false, false, false, false, false, false, false, false, false, false, false, false, false, false, false, false] rfl rfl (any_of HT_.out (by kernel_rfl)) (fun _ _ _ h => h) (Or.inl ⟨by rfl, ?_⟩) ?_ ?_
  rotate_left
  · intro w'
    go_simp
    with_reducible rfl
  rotate_left
  · simp only [Act.put,List.setIfInBounds_toArray,List.set_cons_zero,List.set_cons_succ,i64_w,i32_w]
    rfl
  refine pure_ (i := 4) (N := some 103) (v := ?_) (a' := ?_) #[true, true, true, true, true, false, false, false, false, false, false, false, false, false, false, false, false, false, false, false, false, false, false, false] rfl rfl (any_of HT_.out (by kernel_rfl)) (fun _ _ _ h => h) (Or.inl ⟨by rfl, ?_⟩) ?_ ?_
  rotate_left
  · intro w'
    go_simp
    with_reducible rfl
  rotate_left
  · simp only [Act.put,List.setIfInBounds_toArray,List.set_cons_zero,List.set_cons_succ,i64_w,i32_w]
    rfl
  refine pure_ (i := 5) (N := some 104) (v := ?_) (a' := ?_) #[true, true, true, true, true, true, false, false, false, false, false, false, false, false, false, false, false, false, false, false, false, false, false, false] rfl rfl (any_of HT_.out (by kernel_rfl)) (fun _ _ _ h => h) (Or.inl ⟨by rfl, ?_⟩) ?_ ?_
  rotate_left
  · intro w'
    go_simp
    with_reducible rfl
  rotate_left
  · simp only [Act.put,List.setIfInBounds_toArray,List.set_cons_zero,List.set_cons_succ,i64_w,i32_w]
    rfl
  refine one_ (i:=6) (N:=some 105) #[true,true,true,true,true,true,true,false,false,false,false,false,false,false,false,false,false,false,false,false,false,false,false,false] rfl rfl (one_of HT_.out (by kernel_rfl)) (by decide) (fun K hK=>?_)
  refine goes_ Tryz.func10 (by kernel_rfl) rfl #[.slice D1 1 d1,.slice (some ⟨x3.heap.size,0,none⟩) 1 1] (by rfl) rfl rfl (by (try simp only [List.map_toArray,List.map_cons,List.map_nil]);first | done | rfl) ?_
  refine Calls.mono (CmpA.same_C [⟨⟨#[111,103,114,101]⟩,0,4,1800,0,[]⟩] _ D1 _ d1 1 hHeld.out.c4 hHeld.out.c1) ?_
  rintro e w9 ⟨rfl,hb⟩
  refine ⟨_,rfl,?_⟩
  have HN:=Aside0.mk (hHeld.out.call hb)
  refine hK.out _ _ HN.out (fun _=>?_)
  clear hK K hHeld hb
  have hHeld:=HN
  clear HN
  refine norm_ (a' := ?_) ?_ ?_
  rotate_left
  · show Act.put _ (some 105) _ = _
    simp only [Act.put,List.setIfInBounds_toArray,List.set_cons_zero,List.set_cons_succ,i64_w,i32_w]
    rfl
  refine pure_ (i := 7) (N := some 106) (v := ?_) (a' := ?_) #[true, true, true, true, true, true, true, true, false, false, false, false, false, false, false, false, false, false, false, false, false, false, false, false] rfl rfl (any_of HT_.out (by kernel_rfl)) (fun _ _ _ h => h) (Or.inl ⟨by rfl, ?_⟩) ?_ ?_
  rotate_left
  · intro w'
    go_simp
    with_reducible rfl
  rotate_left
  · simp only [Act.put,List.setIfInBounds_toArray,List.set_cons_zero,List.set_cons_succ,i64_w,i32_w]
    rfl
  refine pure_ (i := 8) (N := some 107) (v := ?_) (a' := ?_) #[true, true, true, true, true, true, true, true, true, false, false, false, false, false, false, false, false, false, false, false, false, false, false, false] rfl rfl (any_of HT_.out (by kernel_rfl)) (fun _ _ _ h => h) (Or.inl ⟨by rfl, ?_⟩) ?_ ?_
  rotate_left
  · intro w'
    go_simp
    with_reducible rfl
  rotate_left
  · simp only [Act.put,List.setIfInBounds_toArray,List.set_cons_zero,List.set_cons_succ,i64_w,i32_w]
    rfl
  refine pure_ (i := 9) (N := some 108) (v := ?_) (a' := ?_) #[true, true, true, true, true, true, true, true, true, true, false, false, false, false, false, false, false, false, false, false, false, false, false, false] rfl rfl (any_of HT_.out (by kernel_rfl)) (fun _ _ _ h => h) (Or.inl ⟨by rfl, ?_⟩) ?_ ?_
  rotate_left
  · intro w'
    go_simp
    with_reducible rfl
  rotate_left
  · simp only [Act.put,List.setIfInBounds_toArray,List.set_cons_zero,List.set_cons_succ,i64_w,i32_w]
    rfl
  refine take_ (i := 10) (N := some 109) (v := ?_) (a' := ?_) #[true, true, true, true, true, true, true, true, true, true, true, false, false, false, false, false, false, false, false, false, false, false, false, false] rfl rfl (take_ofW HT_.out HW_.out (by kernel_rfl)) (fun _ _ _ h => h) (Or.inl ⟨by rfl, ?_⟩) hHeld.out ?_ ?_
  rotate_left
  · intro w' hS0
    have hS : Lv W w' _ _ _ := hS0
    have s0 : w'.cell? ⟨_,0,none⟩ = some (.int .i64 0):=(blk_cell hS.b1 0).trans rfl
    go_simp
    with_reducible rfl
  rotate_left
  · simp only [Act.put,List.setIfInBounds_toArray,List.set_cons_zero,List.set_cons_succ,i64_w,i32_w]
    rfl
  refine pure_ (i := 11) (N := some 110) (v := ?_) (a' := ?_) #[true, true, true, true, true, true, true, true, true, true, true, true, false, false, false, false, false, false, false, false, false, false, false, false] rfl rfl (any_of HT_.out (by kernel_rfl)) (fun _ _ _ h => h) (Or.inl ⟨by rfl, ?_⟩) ?_ ?_
  rotate_left
  · intro w'
    go_simp
    with_reducible rfl
  rotate_left
  · simp only [Act.put,List.setIfInBounds_toArray,List.set_cons_zero,List.set_cons_succ,i64_w,i32_w]
    rfl
  refine pure_ (i := 12) (N := some 111) (v := ?_) (a' := ?_) #[true, true, true, true, true, true, true, true, true, true, true, true, true, false, false, false, false, false, false, false, false, false, false, false] rfl rfl (any_of HT_.out (by kernel_rfl)) (fun _ _ _ h => h) (Or.inl ⟨by rfl, ?_⟩) ?_ ?_
  rotate_left
  · intro w'
    go_simp
    with_reducible rfl
  rotate_left
  · simp only [Act.put,List.setIfInBounds_toArray,List.set_cons_zero,List.set_cons_succ,i64_w,i32_w]
    rfl
  refine pure_ (i := 13) (N := some 112) (v := ?_) (a' := ?_) #[true, true, true, true, true, true, true, true, true, true, true, true, true, true, false, false, false, false, false, false, false, false, false, false] rfl rfl (any_of HT_.out (by kernel_rfl)) (fun _ _ _ h => h) (Or.inl ⟨by rfl, ?_⟩) ?_ ?_
  rotate_left
  · intro w'
    go_simp
    with_reducible rfl
  rotate_left
  · simp only [Act.put,List.setIfInBounds_toArray,List.set_cons_zero,List.set_cons_succ,i64_w,i32_w]
    rfl
  refine pure_ (i := 14) (N := some 113) (v := ?_) (a' := ?_) #[true, true, true, true, true, true, true, true, true, true, true, true, true, true, true, false, false, false, false, false, false, false, false, false] rfl rfl (any_of HT_.out (by kernel_rfl)) (fun _ _ _ h => h) (Or.inl ⟨by rfl, ?_⟩) ?_ ?_
  rotate_left
  · intro w'
    go_simp
    with_reducible rfl
  rotate_left
  · simp only [Act.put,List.setIfInBounds_toArray,List.set_cons_zero,List.set_cons_succ,i64_w,i32_w]
    rfl
  refine pure_ (i := 15) (N := some 114) (v := ?_) (a' := ?_) #[true, true, true, true, true, true, true, true, true, true, true, true, true, true, true, true, false, false, false, false, false, false, false, false] rfl rfl (any_of HT_.out (by kernel_rfl)) (fun _ _ _ h => h) (Or.inl ⟨by rfl, ?_⟩) ?_ ?_
  rotate_left
  · intro w'
    go_simp
    with_reducible rfl
  rotate_left
  · simp only [Act.put,List.setIfInBounds_toArray,List.set_cons_zero,List.set_cons_succ,i64_w,i32_w]
    rfl
  refine one_ (i:=16) (N:=some 115) #[true,true,true,true,true,true,true,true,true,true,true,true,true,true,true,true,true,false,false,false,false,false,false,false] rfl rfl (one_of HT_.out (by kernel_rfl)) (by decide) (fun K hK=>?_)
  refine goes_ Tryz.func10 (by kernel_rfl) rfl #[.slice D2 1 d2,.slice (some ⟨x3.heap.size + 1 + 1 + 1,0,none⟩) 1 1] (by rfl) rfl rfl (by (try simp only [List.map_toArray,List.map_cons,List.map_nil]);first | done | rfl) ?_
  refine Calls.mono (CmpA.same_C [rainV] _ D2 _ d2 1 hHeld.out.c3 hHeld.out.c0) ?_
  rintro e w9 ⟨rfl,hb⟩
  refine ⟨_,rfl,?_⟩
  have HN:=Aside0.mk (hHeld.out.call hb)
  refine hK.out _ _ HN.out (fun _=>?_)
  clear hK K hHeld hb
  have hHeld:=HN
  clear HN
  refine norm_ (a' := ?_) ?_ ?_
  rotate_left
  · show Act.put _ (some 115) _ = _
    simp only [Act.put,List.setIfInBounds_toArray,List.set_cons_zero,List.set_cons_succ,i64_w,i32_w]
    rfl
  refine pure_ (i := 17) (N := some 116) (v := ?_) (a' := ?_) #[true, true, true, true, true, true, true, true, true, true, true, true, true, true, true, true, true, true, false, false, false, false, false, false] rfl rfl (any_of HT_.out (by kernel_rfl)) (fun _ _ _ h => h) (Or.inl ⟨by rfl, ?_⟩) ?_ ?_
  rotate_left
  · intro w'
    go_simp
    with_reducible rfl
  rotate_left
  · simp only [Act.put,List.setIfInBounds_toArray,List.set_cons_zero,List.set_cons_succ,i64_w,i32_w]
    rfl
  refine pure_ (i := 18) (N := some 117) (v := ?_) (a' := ?_) #[true, true, true, true, true, true, true, true, true, true, true, true, true, true, true, true, true, true, true, false, false, false, false, false] rfl rfl (any_of HT_.out (by kernel_rfl)) (fun _ _ _ h => h) (Or.inl ⟨by rfl, ?_⟩) ?_ ?_
  rotate_left
  · intro w'
    go_simp
    with_reducible rfl
  rotate_left
  · simp only [Act.put,List.setIfInBounds_toArray,List.set_cons_zero,List.set_cons_succ,i64_w,i32_w]
    rfl
  refine take_ (i := 19) (N := some 118) (v := ?_) (a' := ?_) #[true, true, true, true, true, true, true, true, true, true, true, true, true, true, true, true, true, true, true, true, false, false, false, false] rfl rfl (take_ofW HT_.out HW_.out (by kernel_rfl)) (fun _ _ _ h => h) (Or.inl ⟨by rfl, ?_⟩) hHeld.out ?_ ?_
  rotate_left
  · intro w' hS0
    have hS : Lv W w' _ _ _ := hS0
    have s0 : w'.cell? ⟨_,0,none⟩ = some (.int .i64 5):=(blk_cell hS.b0 0).trans rfl
    have s1 : w'.cell? ⟨_,1,none⟩ = some (.int .i64 1):=(blk_cell hS.b0 1).trans rfl
    have s2 : w'.cell? ⟨_,2,none⟩ = some (.int .i64 6):=(blk_cell hS.b0 2).trans rfl
    go_simp
    with_reducible rfl
  rotate_left
  · simp only [Act.put,List.setIfInBounds_toArray,List.set_cons_zero,List.set_cons_succ,i64_w,i32_w]
    rfl
  refine one_ (i:=20) (N:=some 119) #[true,true,true,true,true,true,true,true,true,true,true,true,true,true,true,true,true,true,true,true,true,false,false,false] rfl rfl (one_of HT_.out (by kernel_rfl)) (by decide) (fun K hK=>?_)
  refine goes_ Tryz.func12 (by kernel_rfl) rfl #[.int .i64 5,.int .i64 6] (by rfl) rfl rfl (by (try simp only [List.map_toArray,List.map_cons,List.map_nil]);first | done | rfl) ?_
  refine Calls.mono (joustlaw02_at.calls 5 6 5 1 6 _ rfl) ?_
  rintro e w9 ⟨rfl,hb⟩
  refine ⟨_,rfl,?_⟩
  have HN:=Aside0.mk (hHeld.out.call hb)
  refine hK.out _ _ HN.out (fun _=>?_)
  clear hK K hHeld hb
  have hHeld:=HN
  clear HN
  refine norm_ (a' := ?_) ?_ ?_
  rotate_left
  · show Act.put _ (some 119) _ = _
    simp only [Act.put,List.setIfInBounds_toArray,List.set_cons_zero,List.set_cons_succ,i64_w,i32_w]
    rfl
  refine pure_ (i := 21) (N := some 120) (v := ?_) (a' := ?_) #[true, true, true, true, true, true, true, true, true, true, true, true, true, true, true, true, true, true, true, true, true, true, false, false] rfl rfl (any_of HT_.out (by kernel_rfl)) (fun _ _ _ h => h) (Or.inl ⟨by rfl, ?_⟩) ?_ ?_
  rotate_left
  · intro w'
    go_simp
    with_reducible rfl
  rotate_left
  · simp only [Act.put,List.setIfInBounds_toArray,List.set_cons_zero,List.set_cons_succ,i64_w,i32_w]
    rfl
  refine pure_ (i := 22) (N := some 121) (v := ?_) (a' := ?_) #[true, true, true, true, true, true, true, true, true, true, true, true, true, true, true, true, true, true, true, true, true, true, true, false] rfl rfl (any_of HT_.out (by kernel_rfl)) (fun _ _ _ h => h) (Or.inl ⟨by rfl, ?_⟩) ?_ ?_
  rotate_left
  · intro w'
    go_simp
    with_reducible rfl
  rotate_left
  · simp only [Act.put,List.setIfInBounds_toArray,List.set_cons_zero,List.set_cons_succ,i64_w,i32_w]
    rfl
  refine pure_ (i := 23) (N := some 0) (v := ?_) (a' := ?_) #[true, true, true, true, true, true, true, true, true, true, true, true, true, true, true, true, true, true, true, true, true, true, true, true] rfl rfl (any_of HT_.out (by kernel_rfl)) (fun _ _ _ h => h) (Or.inl ⟨by rfl, ?_⟩) ?_ ?_
  rotate_left
  · intro w'
    go_simp
    with_reducible rfl
  rotate_left
  · simp only [Act.put,List.setIfInBounds_toArray,List.set_cons_zero,List.set_cons_succ,i64_w,i32_w]
    rfl
  refine done_ (done_of HT_.out (by kernel_rfl)) ?_
  go_wp2
  go_ret
  exact ⟨rfl,hHeld.out.below⟩
end Go.Proofs.YtmgdkkkkanjadaaGreatDoor.LivP
