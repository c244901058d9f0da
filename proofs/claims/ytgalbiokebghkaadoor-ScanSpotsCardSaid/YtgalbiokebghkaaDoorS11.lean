/- Written by a program of this claim's author (stubprint.py, over the kit's print) out of the translation: Go functions as Lean functions, and that the calls come to them. -/
import Derived.Test.YtgalbiokebghkaaDoorS0
import Derived.Test.YtgalbiokebghkaaDoorS1
import Derived.Test.YtgalbiokebghkaaDoorS2
import Derived.Test.YtgalbiokebghkaaDoorS8
import Derived.Test.YtgalbiokebghkaaDoorS9
import Derived.Test.YtgalbiokebghkaaDoorS10
import Derived.Test.YtgalbiokebghkaaDoorHandS
namespace Go.Proofs.YtgalbiokebghkaaDoor.S
open Go.RowKit Go.Proofs.YtgalbiokebghkaaDoorW.PrintWords Go.Proofs.YtgalbiokebghkaaDoorW.PrintLast Go.Proofs.YtgalbiokebghkaaDoorW.PrintMore Go.Proofs.YtgalbiokebghkaaDoor.HandS Go.Proofs.YtgalbiokebghkaaDoor.Iter
attribute [local go_sem] max2_int min2_int max_two min_two max_three min_three max_four min_four   -- for this text's walks alone
set_option linter.unusedVariables false
set_option linter.unusedSimpArgs false

attribute [local go_sem high] eqA37 eqA39
/-! ### joustlaw01_lives: function 14 -/
mutual
def joustlaw01_lives.j0 : Nat → Bool → Int → Int → Int → Int → Int → Int → Int → Int → Int → Option (Bool)
 | 0,_,_,_,_,_,_,_,_,_,_ => none
 | k + 1,x79,x228000,x228001,x228002,x235000,x235001,x235002,x242000,x242001,x242002 => if x79 = true then (some false) else (if (!(x228000 == 5) || ((!(x228001 == 1) || (!(x228002 == 1))))) = true then (joustlaw01_lives.j1 k true) else (if (!(x235000 == x228000) || ((!(x235001 == x228001) || (!(x235002 == x228002))))) = true then (joustlaw01_lives.j1 k true) else (joustlaw01_lives.j1 k (!(x242000 == 4) || ((!(x242001 == 2) || (!(x242002 == 2))))))))
def joustlaw01_lives.j1 : Nat → Bool → Option (Bool)
 | 0,_ => none
 | k + 1,x94 => if x94 = true then (some false) else ((scan_Word.f k (⟨#[195,169,49]⟩ : ByteArray)).bind fun t246 => (if t246 = true then ((scan_Word.f k (⟨#[97,45]⟩ : ByteArray)).bind fun t247 => (if t247 = true then (some false) else ((scan_Where.f k (⟨#[97,10,98]⟩ : ByteArray) 2).bind fun bt248 => (some (bt248.1 == 2 && (bt248.2 == 1)))))) else (some false)))
end
def joustlaw01_lives.f (k : Nat)  : Option (Bool):=(scan_Tokens.f k (⟨#[97,98,45,99,32,49,50,10,123]⟩ : ByteArray)).bind fun bt204 => ((some (([(⟨1,(⟨#[97,98,45,99]⟩ : ByteArray),(⟨1,1⟩ : S37)⟩ : S48),(⟨2,(⟨#[49,50]⟩ : ByteArray),(⟨1,6⟩ : S37)⟩ : S48),(⟨3,(⟨#[123]⟩ : ByteArray),(⟨2,1⟩ : S37)⟩ : S48),(⟨0,(⟨#[]⟩ : ByteArray),(⟨2,2⟩ : S37)⟩ : S48)] : List (S48)) : List (S48))).bind fun y211 => ((scan_Tokens.f k (⟨#[97,45]⟩ : ByteArray)).bind fun bt214 => ((scan_Tokens.f k (⟨#[48,48,55]⟩ : ByteArray)).bind fun bt221 => ((scan_Tokens.f k (⟨#[51,120]⟩ : ByteArray)).bind fun bt228 => ((scan_Tokens.f k (⟨#[97,10,195,169,33]⟩ : ByteArray)).bind fun bt235 => ((joustref00_Tokens.f k bt204.1 y211).bind fun t242 => (if t242 = true then ((joustref00_Spots.f k bt204.1 y211).bind fun t243 => (if t243 = true then (if bt204.2.1 = 0 then (if bt214.2.1 = 0 then (if (bt214.1.length : Int) = 3 then (if 0 < (bt214.1.length : Int) then (if ((rd_T48 bt214.1 0).f1).toList = ([97] : List UInt8) then (if 1 < (bt214.1.length : Int) then (joustlaw01_lives.j0 k (((rd_T48 bt214.1 1).f1).toList != ([45] : List UInt8)) bt221.2.1 bt221.2.2.1 bt221.2.2.2 bt228.2.1 bt228.2.2.1 bt228.2.2.2 bt235.2.1 bt235.2.2.1 bt235.2.2.2) else (none)) else (joustlaw01_lives.j0 k true bt221.2.1 bt221.2.2.1 bt221.2.2.2 bt228.2.1 bt228.2.2.1 bt228.2.2.2 bt235.2.1 bt235.2.2.1 bt235.2.2.2)) else (none)) else (joustlaw01_lives.j0 k true bt221.2.1 bt221.2.2.1 bt221.2.2.2 bt228.2.1 bt228.2.2.1 bt228.2.2.2 bt235.2.1 bt235.2.2.1 bt235.2.2.2)) else (joustlaw01_lives.j0 k true bt221.2.1 bt221.2.2.1 bt221.2.2.2 bt228.2.1 bt228.2.2.1 bt228.2.2.2 bt235.2.1 bt235.2.2.1 bt235.2.2.2)) else (joustlaw01_lives.j0 k true bt221.2.1 bt221.2.2.1 bt221.2.2.2 bt228.2.1 bt228.2.2.1 bt228.2.2.2 bt235.2.1 bt235.2.2.1 bt235.2.2.2)) else (joustlaw01_lives.j0 k true bt221.2.1 bt221.2.2.1 bt221.2.2.2 bt228.2.1 bt228.2.2.1 bt228.2.2.2 bt235.2.1 bt235.2.2.1 bt235.2.2.2))) else (joustlaw01_lives.j0 k true bt221.2.1 bt221.2.2.1 bt221.2.2.2 bt228.2.1 bt228.2.2.1 bt228.2.2.2 bt235.2.1 bt235.2.2.1 bt235.2.2.2))))))))
theorem joustlaw01_lives.mono_l : ∀ k,(∀ y0 y1 y2 y3 y4 y5 y6 y7 y8 y9,LeO (joustlaw01_lives.j0 k y0 y1 y2 y3 y4 y5 y6 y7 y8 y9) (joustlaw01_lives.j0 (k + 1) y0 y1 y2 y3 y4 y5 y6 y7 y8 y9)) ∧ (∀ y0,LeO (joustlaw01_lives.j1 k y0) (joustlaw01_lives.j1 (k + 1) y0))
 | 0 => ⟨fun _ _ _ _ _ _ _ _ _ _ r h => by simp [joustlaw01_lives.j0] at h,fun _ r h => by simp [joustlaw01_lives.j1] at h⟩
 | k + 1 => by
  obtain ⟨ih0,ih1⟩:=joustlaw01_lives.mono_l k
  refine ⟨?_,?_⟩
  ·intro y0 y1 y2 y3 y4 y5 y6 y7 y8 y9
   unfold joustlaw01_lives.j0
   repeat' first
   | (with_reducible exact ih0 _ _ _ _ _ _ _ _ _ _)
   | (with_reducible exact ih1 _)
   | (with_reducible exact joustref00_Spots.mono _ _ _)
   | (with_reducible exact joustref00_Tokens.mono _ _ _)
   | (with_reducible exact scan_Tokens.mono _ _)
   | (with_reducible exact scan_Where.mono _ _ _)
   | (with_reducible exact scan_Word.mono _ _)
   | (with_reducible exact LeO.refl _)
   | (with_reducible exact LeO.none _)
   | (with_reducible refine LeO.ite ?_ ?_)
   | (with_reducible refine LeO.bind ?_ (fun _ => ?_))
   | exact ih0 _ _ _ _ _ _ _ _ _ _
   | exact ih1 _
   | exact joustref00_Spots.mono _ _ _
   | exact joustref00_Tokens.mono _ _ _
   | exact scan_Tokens.mono _ _
   | exact scan_Where.mono _ _ _
   | exact scan_Word.mono _ _
   | exact LeO.none _
   | refine LeO.ite ?_ ?_
   | refine LeO.bind ?_ (fun _ => ?_)
  ·intro y0
   unfold joustlaw01_lives.j1
   repeat' first
   | (with_reducible exact ih0 _ _ _ _ _ _ _ _ _ _)
   | (with_reducible exact ih1 _)
   | (with_reducible exact joustref00_Spots.mono _ _ _)
   | (with_reducible exact joustref00_Tokens.mono _ _ _)
   | (with_reducible exact scan_Tokens.mono _ _)
   | (with_reducible exact scan_Where.mono _ _ _)
   | (with_reducible exact scan_Word.mono _ _)
   | (with_reducible exact LeO.refl _)
   | (with_reducible exact LeO.none _)
   | (with_reducible refine LeO.ite ?_ ?_)
   | (with_reducible refine LeO.bind ?_ (fun _ => ?_))
   | exact ih0 _ _ _ _ _ _ _ _ _ _
   | exact ih1 _
   | exact joustref00_Spots.mono _ _ _
   | exact joustref00_Tokens.mono _ _ _
   | exact scan_Tokens.mono _ _
   | exact scan_Where.mono _ _ _
   | exact scan_Word.mono _ _
   | exact LeO.none _
   | refine LeO.ite ?_ ?_
   | refine LeO.bind ?_ (fun _ => ?_)
theorem joustlaw01_lives.mono : ∀ k,LeO (joustlaw01_lives.f k ) (joustlaw01_lives.f (k + 1) ):=by
 intro  k
 obtain ⟨ih0,ih1⟩:=joustlaw01_lives.mono_l k
 unfold joustlaw01_lives.f
 repeat' first
   | (with_reducible exact ih0 _ _ _ _ _ _ _ _ _ _)
   | (with_reducible exact ih1 _)
   | (with_reducible exact joustref00_Spots.mono _ _ _)
   | (with_reducible exact joustref00_Tokens.mono _ _ _)
   | (with_reducible exact scan_Tokens.mono _ _)
   | (with_reducible exact scan_Where.mono _ _ _)
   | (with_reducible exact scan_Word.mono _ _)
   | (with_reducible exact LeO.refl _)
   | (with_reducible exact LeO.none _)
   | (with_reducible refine LeO.ite ?_ ?_)
   | (with_reducible refine LeO.bind ?_ (fun _ => ?_))
   | exact ih0 _ _ _ _ _ _ _ _ _ _
   | exact ih1 _
   | exact joustref00_Spots.mono _ _ _
   | exact joustref00_Tokens.mono _ _ _
   | exact scan_Tokens.mono _ _
   | exact scan_Where.mono _ _ _
   | exact scan_Word.mono _ _
   | exact LeO.none _
   | refine LeO.ite ?_ ?_
   | refine LeO.bind ?_ (fun _ => ?_)
set_option maxHeartbeats 8000000 in
set_option maxRecDepth 100000 in
theorem joustlaw01_lives.calls_true (k : Nat)  (w : World) (hG : Tabs w) (h : joustlaw01_lives.f k  = some true) :
  Calls Tryd.prog 14 #[] w fun e w' => e = .returned (.bool true) ∧ Below w.heap.size w w':=by
 have hu39:=Tryd.underlying39
 have hu37:=Tryd.underlying37
 have hu48:=Tryd.underlying48
 have HG:=Aside0.mk hG
 clear hG
 have HB:=Aside0.mk (Below.refl w.heap.size w)
 have H : ((scan_Tokens.f k (⟨#[97,98,45,99,32,49,50,10,123]⟩ : ByteArray)).bind fun bt204 => ((some (([(⟨1,(⟨#[97,98,45,99]⟩ : ByteArray),(⟨1,1⟩ : S37)⟩ : S48),(⟨2,(⟨#[49,50]⟩ : ByteArray),(⟨1,6⟩ : S37)⟩ : S48),(⟨3,(⟨#[123]⟩ : ByteArray),(⟨2,1⟩ : S37)⟩ : S48),(⟨0,(⟨#[]⟩ : ByteArray),(⟨2,2⟩ : S37)⟩ : S48)] : List (S48)) : List (S48))).bind fun y211 => ((scan_Tokens.f k (⟨#[97,45]⟩ : ByteArray)).bind fun bt214 => ((scan_Tokens.f k (⟨#[48,48,55]⟩ : ByteArray)).bind fun bt221 => ((scan_Tokens.f k (⟨#[51,120]⟩ : ByteArray)).bind fun bt228 => ((scan_Tokens.f k (⟨#[97,10,195,169,33]⟩ : ByteArray)).bind fun bt235 => ((joustref00_Tokens.f k bt204.1 y211).bind fun t242 => (if t242 = true then ((joustref00_Spots.f k bt204.1 y211).bind fun t243 => (if t243 = true then (if bt204.2.1 = 0 then (if bt214.2.1 = 0 then (if (bt214.1.length : Int) = 3 then (if 0 < (bt214.1.length : Int) then (if ((rd_T48 bt214.1 0).f1).toList = ([97] : List UInt8) then (if 1 < (bt214.1.length : Int) then (joustlaw01_lives.j0 k (((rd_T48 bt214.1 1).f1).toList != ([45] : List UInt8)) bt221.2.1 bt221.2.2.1 bt221.2.2.2 bt228.2.1 bt228.2.2.1 bt228.2.2.2 bt235.2.1 bt235.2.2.1 bt235.2.2.2) else (none)) else (joustlaw01_lives.j0 k true bt221.2.1 bt221.2.2.1 bt221.2.2.2 bt228.2.1 bt228.2.2.1 bt228.2.2.2 bt235.2.1 bt235.2.2.1 bt235.2.2.2)) else (none)) else (joustlaw01_lives.j0 k true bt221.2.1 bt221.2.2.1 bt221.2.2.2 bt228.2.1 bt228.2.2.1 bt228.2.2.2 bt235.2.1 bt235.2.2.1 bt235.2.2.2)) else (joustlaw01_lives.j0 k true bt221.2.1 bt221.2.2.1 bt221.2.2.2 bt228.2.1 bt228.2.2.1 bt228.2.2.2 bt235.2.1 bt235.2.2.1 bt235.2.2.2)) else (joustlaw01_lives.j0 k true bt221.2.1 bt221.2.2.1 bt221.2.2.2 bt228.2.1 bt228.2.2.1 bt228.2.2.2 bt235.2.1 bt235.2.2.1 bt235.2.2.2)) else (joustlaw01_lives.j0 k true bt221.2.1 bt221.2.2.1 bt221.2.2.2 bt228.2.1 bt228.2.2.1 bt228.2.2.2 bt235.2.1 bt235.2.2.1 bt235.2.2.2))) else (joustlaw01_lives.j0 k true bt221.2.1 bt221.2.2.1 bt221.2.2.2 bt228.2.1 bt228.2.2.1 bt228.2.2.2 bt235.2.1 bt235.2.2.1 bt235.2.2.2))))))))) = some true:=h
 clear h
 replace H:=Option.bind_eq_some_iff.mp H
 obtain ⟨⟨t204,t207,t208,t209⟩,A10,H⟩:=H
 replace H : ((some (([(⟨1,(⟨#[97,98,45,99]⟩ : ByteArray),(⟨1,1⟩ : S37)⟩ : S48),(⟨2,(⟨#[49,50]⟩ : ByteArray),(⟨1,6⟩ : S37)⟩ : S48),(⟨3,(⟨#[123]⟩ : ByteArray),(⟨2,1⟩ : S37)⟩ : S48),(⟨0,(⟨#[]⟩ : ByteArray),(⟨2,2⟩ : S37)⟩ : S48)] : List (S48)) : List (S48))).bind fun y211 => ((scan_Tokens.f k (⟨#[97,45]⟩ : ByteArray)).bind fun bt214 => ((scan_Tokens.f k (⟨#[48,48,55]⟩ : ByteArray)).bind fun bt221 => ((scan_Tokens.f k (⟨#[51,120]⟩ : ByteArray)).bind fun bt228 => ((scan_Tokens.f k (⟨#[97,10,195,169,33]⟩ : ByteArray)).bind fun bt235 => ((joustref00_Tokens.f k t204 y211).bind fun t242 => (if t242 = true then ((joustref00_Spots.f k t204 y211).bind fun t243 => (if t243 = true then (if t207 = 0 then (if bt214.2.1 = 0 then (if (bt214.1.length : Int) = 3 then (if 0 < (bt214.1.length : Int) then (if ((rd_T48 bt214.1 0).f1).toList = ([97] : List UInt8) then (if 1 < (bt214.1.length : Int) then (joustlaw01_lives.j0 k (((rd_T48 bt214.1 1).f1).toList != ([45] : List UInt8)) bt221.2.1 bt221.2.2.1 bt221.2.2.2 bt228.2.1 bt228.2.2.1 bt228.2.2.2 bt235.2.1 bt235.2.2.1 bt235.2.2.2) else (none)) else (joustlaw01_lives.j0 k true bt221.2.1 bt221.2.2.1 bt221.2.2.2 bt228.2.1 bt228.2.2.1 bt228.2.2.2 bt235.2.1 bt235.2.2.1 bt235.2.2.2)) else (none)) else (joustlaw01_lives.j0 k true bt221.2.1 bt221.2.2.1 bt221.2.2.2 bt228.2.1 bt228.2.2.1 bt228.2.2.2 bt235.2.1 bt235.2.2.1 bt235.2.2.2)) else (joustlaw01_lives.j0 k true bt221.2.1 bt221.2.2.1 bt221.2.2.2 bt228.2.1 bt228.2.2.1 bt228.2.2.2 bt235.2.1 bt235.2.2.1 bt235.2.2.2)) else (joustlaw01_lives.j0 k true bt221.2.1 bt221.2.2.1 bt221.2.2.2 bt228.2.1 bt228.2.2.1 bt228.2.2.2 bt235.2.1 bt235.2.2.1 bt235.2.2.2)) else (joustlaw01_lives.j0 k true bt221.2.1 bt221.2.2.1 bt221.2.2.2 bt228.2.1 bt228.2.2.1 bt228.2.2.2 bt235.2.1 bt235.2.2.1 bt235.2.2.2))) else (joustlaw01_lives.j0 k true bt221.2.1 bt221.2.2.1 bt221.2.2.2 bt228.2.1 bt228.2.2.1 bt228.2.2.2 bt235.2.1 bt235.2.2.1 bt235.2.2.2)))))))) = some true:=H
 have A1:=Aside0.mk A10
 clear A10
 obtain ⟨y211,hy211⟩ : ∃ y_ : List (S48),y_ = (([(⟨1,(⟨#[97,98,45,99]⟩ : ByteArray),(⟨1,1⟩ : S37)⟩ : S48),(⟨2,(⟨#[49,50]⟩ : ByteArray),(⟨1,6⟩ : S37)⟩ : S48),(⟨3,(⟨#[123]⟩ : ByteArray),(⟨2,1⟩ : S37)⟩ : S48),(⟨0,(⟨#[]⟩ : ByteArray),(⟨2,2⟩ : S37)⟩ : S48)] : List (S48))):=⟨_,rfl⟩
 replace H : ((scan_Tokens.f k (⟨#[97,45]⟩ : ByteArray)).bind fun bt214 => ((scan_Tokens.f k (⟨#[48,48,55]⟩ : ByteArray)).bind fun bt221 => ((scan_Tokens.f k (⟨#[51,120]⟩ : ByteArray)).bind fun bt228 => ((scan_Tokens.f k (⟨#[97,10,195,169,33]⟩ : ByteArray)).bind fun bt235 => ((joustref00_Tokens.f k t204 y211).bind fun t242 => (if t242 = true then ((joustref00_Spots.f k t204 y211).bind fun t243 => (if t243 = true then (if t207 = 0 then (if bt214.2.1 = 0 then (if (bt214.1.length : Int) = 3 then (if 0 < (bt214.1.length : Int) then (if ((rd_T48 bt214.1 0).f1).toList = ([97] : List UInt8) then (if 1 < (bt214.1.length : Int) then (joustlaw01_lives.j0 k (((rd_T48 bt214.1 1).f1).toList != ([45] : List UInt8)) bt221.2.1 bt221.2.2.1 bt221.2.2.2 bt228.2.1 bt228.2.2.1 bt228.2.2.2 bt235.2.1 bt235.2.2.1 bt235.2.2.2) else (none)) else (joustlaw01_lives.j0 k true bt221.2.1 bt221.2.2.1 bt221.2.2.2 bt228.2.1 bt228.2.2.1 bt228.2.2.2 bt235.2.1 bt235.2.2.1 bt235.2.2.2)) else (none)) else (joustlaw01_lives.j0 k true bt221.2.1 bt221.2.2.1 bt221.2.2.2 bt228.2.1 bt228.2.2.1 bt228.2.2.2 bt235.2.1 bt235.2.2.1 bt235.2.2.2)) else (joustlaw01_lives.j0 k true bt221.2.1 bt221.2.2.1 bt221.2.2.2 bt228.2.1 bt228.2.2.1 bt228.2.2.2 bt235.2.1 bt235.2.2.1 bt235.2.2.2)) else (joustlaw01_lives.j0 k true bt221.2.1 bt221.2.2.1 bt221.2.2.2 bt228.2.1 bt228.2.2.1 bt228.2.2.2 bt235.2.1 bt235.2.2.1 bt235.2.2.2)) else (joustlaw01_lives.j0 k true bt221.2.1 bt221.2.2.1 bt221.2.2.2 bt228.2.1 bt228.2.2.1 bt228.2.2.2 bt235.2.1 bt235.2.2.1 bt235.2.2.2))) else (joustlaw01_lives.j0 k true bt221.2.1 bt221.2.2.1 bt221.2.2.2 bt228.2.1 bt228.2.2.1 bt228.2.2.2 bt235.2.1 bt235.2.2.1 bt235.2.2.2))))))) = some true:=by first | (rw [hy211];with_reducible exact H) | (have H2_:=(Option.bind_some _ _).symm.trans H;rw [hy211];with_reducible exact H2_) | (have H2_:=(Option.bind_some _ _).symm.trans H;with_reducible exact H2_) | with_reducible exact H | (rw [hy211];exact H) | exact H
 have Ny211:=Aside0.mk hy211
 clear hy211
 replace H:=Option.bind_eq_some_iff.mp H
 obtain ⟨⟨t214,t217,t218,t219⟩,A20,H⟩:=H
 replace H : ((scan_Tokens.f k (⟨#[48,48,55]⟩ : ByteArray)).bind fun bt221 => ((scan_Tokens.f k (⟨#[51,120]⟩ : ByteArray)).bind fun bt228 => ((scan_Tokens.f k (⟨#[97,10,195,169,33]⟩ : ByteArray)).bind fun bt235 => ((joustref00_Tokens.f k t204 y211).bind fun t242 => (if t242 = true then ((joustref00_Spots.f k t204 y211).bind fun t243 => (if t243 = true then (if t207 = 0 then (if t217 = 0 then (if (t214.length : Int) = 3 then (if 0 < (t214.length : Int) then (if ((rd_T48 t214 0).f1).toList = ([97] : List UInt8) then (if 1 < (t214.length : Int) then (joustlaw01_lives.j0 k (((rd_T48 t214 1).f1).toList != ([45] : List UInt8)) bt221.2.1 bt221.2.2.1 bt221.2.2.2 bt228.2.1 bt228.2.2.1 bt228.2.2.2 bt235.2.1 bt235.2.2.1 bt235.2.2.2) else (none)) else (joustlaw01_lives.j0 k true bt221.2.1 bt221.2.2.1 bt221.2.2.2 bt228.2.1 bt228.2.2.1 bt228.2.2.2 bt235.2.1 bt235.2.2.1 bt235.2.2.2)) else (none)) else (joustlaw01_lives.j0 k true bt221.2.1 bt221.2.2.1 bt221.2.2.2 bt228.2.1 bt228.2.2.1 bt228.2.2.2 bt235.2.1 bt235.2.2.1 bt235.2.2.2)) else (joustlaw01_lives.j0 k true bt221.2.1 bt221.2.2.1 bt221.2.2.2 bt228.2.1 bt228.2.2.1 bt228.2.2.2 bt235.2.1 bt235.2.2.1 bt235.2.2.2)) else (joustlaw01_lives.j0 k true bt221.2.1 bt221.2.2.1 bt221.2.2.2 bt228.2.1 bt228.2.2.1 bt228.2.2.2 bt235.2.1 bt235.2.2.1 bt235.2.2.2)) else (joustlaw01_lives.j0 k true bt221.2.1 bt221.2.2.1 bt221.2.2.2 bt228.2.1 bt228.2.2.1 bt228.2.2.2 bt235.2.1 bt235.2.2.1 bt235.2.2.2))) else (joustlaw01_lives.j0 k true bt221.2.1 bt221.2.2.1 bt221.2.2.2 bt228.2.1 bt228.2.2.1 bt228.2.2.2 bt235.2.1 bt235.2.2.1 bt235.2.2.2)))))) = some true:=H
 have A2:=Aside0.mk A20
 clear A20
 replace H:=Option.bind_eq_some_iff.mp H
 obtain ⟨⟨t221,t224,t225,t226⟩,A30,H⟩:=H
 replace H : ((scan_Tokens.f k (⟨#[51,120]⟩ : ByteArray)).bind fun bt228 => ((scan_Tokens.f k (⟨#[97,10,195,169,33]⟩ : ByteArray)).bind fun bt235 => ((joustref00_Tokens.f k t204 y211).bind fun t242 => (if t242 = true then ((joustref00_Spots.f k t204 y211).bind fun t243 => (if t243 = true then (if t207 = 0 then (if t217 = 0 then (if (t214.length : Int) = 3 then (if 0 < (t214.length : Int) then (if ((rd_T48 t214 0).f1).toList = ([97] : List UInt8) then (if 1 < (t214.length : Int) then (joustlaw01_lives.j0 k (((rd_T48 t214 1).f1).toList != ([45] : List UInt8)) t224 t225 t226 bt228.2.1 bt228.2.2.1 bt228.2.2.2 bt235.2.1 bt235.2.2.1 bt235.2.2.2) else (none)) else (joustlaw01_lives.j0 k true t224 t225 t226 bt228.2.1 bt228.2.2.1 bt228.2.2.2 bt235.2.1 bt235.2.2.1 bt235.2.2.2)) else (none)) else (joustlaw01_lives.j0 k true t224 t225 t226 bt228.2.1 bt228.2.2.1 bt228.2.2.2 bt235.2.1 bt235.2.2.1 bt235.2.2.2)) else (joustlaw01_lives.j0 k true t224 t225 t226 bt228.2.1 bt228.2.2.1 bt228.2.2.2 bt235.2.1 bt235.2.2.1 bt235.2.2.2)) else (joustlaw01_lives.j0 k true t224 t225 t226 bt228.2.1 bt228.2.2.1 bt228.2.2.2 bt235.2.1 bt235.2.2.1 bt235.2.2.2)) else (joustlaw01_lives.j0 k true t224 t225 t226 bt228.2.1 bt228.2.2.1 bt228.2.2.2 bt235.2.1 bt235.2.2.1 bt235.2.2.2))) else (joustlaw01_lives.j0 k true t224 t225 t226 bt228.2.1 bt228.2.2.1 bt228.2.2.2 bt235.2.1 bt235.2.2.1 bt235.2.2.2))))) = some true:=H
 have A3:=Aside0.mk A30
 clear A30
 replace H:=Option.bind_eq_some_iff.mp H
 obtain ⟨⟨t228,t231,t232,t233⟩,A40,H⟩:=H
 replace H : ((scan_Tokens.f k (⟨#[97,10,195,169,33]⟩ : ByteArray)).bind fun bt235 => ((joustref00_Tokens.f k t204 y211).bind fun t242 => (if t242 = true then ((joustref00_Spots.f k t204 y211).bind fun t243 => (if t243 = true then (if t207 = 0 then (if t217 = 0 then (if (t214.length : Int) = 3 then (if 0 < (t214.length : Int) then (if ((rd_T48 t214 0).f1).toList = ([97] : List UInt8) then (if 1 < (t214.length : Int) then (joustlaw01_lives.j0 k (((rd_T48 t214 1).f1).toList != ([45] : List UInt8)) t224 t225 t226 t231 t232 t233 bt235.2.1 bt235.2.2.1 bt235.2.2.2) else (none)) else (joustlaw01_lives.j0 k true t224 t225 t226 t231 t232 t233 bt235.2.1 bt235.2.2.1 bt235.2.2.2)) else (none)) else (joustlaw01_lives.j0 k true t224 t225 t226 t231 t232 t233 bt235.2.1 bt235.2.2.1 bt235.2.2.2)) else (joustlaw01_lives.j0 k true t224 t225 t226 t231 t232 t233 bt235.2.1 bt235.2.2.1 bt235.2.2.2)) else (joustlaw01_lives.j0 k true t224 t225 t226 t231 t232 t233 bt235.2.1 bt235.2.2.1 bt235.2.2.2)) else (joustlaw01_lives.j0 k true t224 t225 t226 t231 t232 t233 bt235.2.1 bt235.2.2.1 bt235.2.2.2))) else (joustlaw01_lives.j0 k true t224 t225 t226 t231 t232 t233 bt235.2.1 bt235.2.2.1 bt235.2.2.2)))) = some true:=H
 have A4:=Aside0.mk A40
 clear A40
 replace H:=Option.bind_eq_some_iff.mp H
 obtain ⟨⟨t235,t238,t239,t240⟩,A50,H⟩:=H
 replace H : ((joustref00_Tokens.f k t204 y211).bind fun t242 => (if t242 = true then ((joustref00_Spots.f k t204 y211).bind fun t243 => (if t243 = true then (if t207 = 0 then (if t217 = 0 then (if (t214.length : Int) = 3 then (if 0 < (t214.length : Int) then (if ((rd_T48 t214 0).f1).toList = ([97] : List UInt8) then (if 1 < (t214.length : Int) then (joustlaw01_lives.j0 k (((rd_T48 t214 1).f1).toList != ([45] : List UInt8)) t224 t225 t226 t231 t232 t233 t238 t239 t240) else (none)) else (joustlaw01_lives.j0 k true t224 t225 t226 t231 t232 t233 t238 t239 t240)) else (none)) else (joustlaw01_lives.j0 k true t224 t225 t226 t231 t232 t233 t238 t239 t240)) else (joustlaw01_lives.j0 k true t224 t225 t226 t231 t232 t233 t238 t239 t240)) else (joustlaw01_lives.j0 k true t224 t225 t226 t231 t232 t233 t238 t239 t240)) else (joustlaw01_lives.j0 k true t224 t225 t226 t231 t232 t233 t238 t239 t240))) else (joustlaw01_lives.j0 k true t224 t225 t226 t231 t232 t233 t238 t239 t240))) = some true:=H
 have A5:=Aside0.mk A50
 clear A50
 have HC6:=Aside0.mk H
 clear H
 go_enter Tryd.func14,Tryd.ntmps14
 go_upto_region 7 with (first | ((with_reducible refine gate_callee (f:=15) rfl ?_);refine goesL_ (some 13) rfl rfl Tryd.func15 (by kernel_rfl) rfl #[.string (⟨#[97,98,45,99,32,49,50,10,123]⟩ : ByteArray)] rfl (by (try simp only [List.map_toArray,List.map_cons,List.map_nil]);first | done | rfl | (simp only [List.length_drop,List.length_take];rfl)) ?_;(with_reducible refine (scan_Tokens.calls k (⟨#[97,98,45,99,32,49,50,10,123]⟩ : ByteArray) t204 t207 t208 t209 _ ?side1 A1.out).mono ?_);(case side1 => exact Tabs.below HG.out (by repeat (first | (with_reducible first | exact HB.out | apply below_alloc | apply pw_below_drewN | apply below_drew1) | exact HB.out)));rintro e w7 ⟨v205,rfl,ho0,hb⟩;refine ⟨_,rfl,?_⟩;have n0_:=Aside0.mk (Kd.R_lower ho0 (below_size (by repeat (first | (with_reducible first | exact HB.out | apply below_alloc | apply pw_below_drewN | apply below_drew1) | exact HB.out))));have n1_:=Aside0.mk (below_step (by repeat (first | (with_reducible first | exact HB.out | apply below_alloc | apply pw_below_drewN | apply below_drew1) | exact HB.out)) hb);clear HB;have HO206:=n0_;have HB:=n1_;clear n0_ n1_;(try clear hb);(try clear hb2);(try clear hk);(try clear hi);(try clear ho0)) | ((with_reducible refine gate_dst (N:=2) rfl ?_);(try (refine gate_guard (by rfl) ?_;dsimp only));refine box_event ?hg (N:=2) ?hd (cs:=#[.int .i64 0,.int .i64 0,.int .i64 0]) (t:=39) ?hr ?_;(case hd => rfl);(case hg => rfl);(case hr => first | (go_simp;done) | (go_simp;rfl));intro gb210 hg w8 hbox hb;have n0_:=Aside0.mk (Kd.R_below (by (with_reducible repeat (first | apply Kd.R_alloc | apply Kd.R_drewN | apply Kd.R_drew));exact HO206.out) hb);have n1_:=Aside0.mk (below_step (by repeat (first | (with_reducible first | exact HB.out | apply below_alloc | apply pw_below_drewN | apply below_drew1) | exact HB.out)) hb);have n2_:=Aside0.mk (hbox);have n3_:=Aside0.mk ((by rw [hg];exact (below_size (by repeat (first | (with_reducible first | exact HB.out | apply below_alloc | apply pw_below_drewN | apply below_drew1) | exact HB.out))) : w.heap.size ≤ gb210));have n4_:=Aside0.mk ((by rw [hg];exact (below_size (by repeat (first | (with_reducible first | exact HB.out | apply below_alloc | apply pw_below_drewN | apply below_drew1) | exact HB.out))) : w.heap.size ≤ gb210));clear HO206;clear HB;have HO206:=n0_;have HB:=n1_;have BK210:=n2_;have GW210:=n3_;have GE210:=n4_;clear n0_ n1_ n2_ n3_ n4_;clear hb hbox hg;have hcz9_0 : w8.cell? ⟨gb210,0,none⟩ = some (.int .i64 0):=(blk_cell BK210.out 0).trans rfl;have hcz9_1 : w8.cell? ⟨gb210,1,none⟩ = some (.int .i64 0):=(blk_cell BK210.out 1).trans rfl;have hcz9_2 : w8.cell? ⟨gb210,2,none⟩ = some (.int .i64 0):=(blk_cell BK210.out 2).trans rfl;have hfz9_0:=blk_frozen BK210.out 0;have hfz9_1:=blk_frozen BK210.out 1;have hfz9_2:=blk_frozen BK210.out 2) | ((with_reducible refine gate_dst (N:=24) rfl ?_);(try (refine gate_guard (by rfl) ?_;dsimp only));refine Kd.R_lit k48 _ 48 ?hg (N:=24) ?hd (xs:=([(⟨1,(⟨#[97,98,45,99]⟩ : ByteArray),(⟨1,1⟩ : S37)⟩ : S48),(⟨2,(⟨#[49,50]⟩ : ByteArray),(⟨1,6⟩ : S37)⟩ : S48),(⟨3,(⟨#[123]⟩ : ByteArray),(⟨2,1⟩ : S37)⟩ : S48),(⟨0,(⟨#[]⟩ : ByteArray),(⟨2,2⟩ : S37)⟩ : S48)] : List (S48))) (inner:=[.int .u8 1,.string (⟨#[97,98,45,99]⟩ : ByteArray),.int .i64 1,.int .i64 1,.int .u8 2,.string (⟨#[49,50]⟩ : ByteArray),.int .i64 1,.int .i64 6,.int .u8 3,.string (⟨#[123]⟩ : ByteArray),.int .i64 2,.int .i64 1,.int .u8 0,.string (⟨#[]⟩ : ByteArray),.int .i64 2,.int .i64 2]) (ok:=fun _ => True) (okp:=fun _ => True) ?hr ?hp (fun _ hk => hk) trivial (Below.refl _ _) (Nat.le_refl _) (by simp) ?_;(case hd => rfl);(case hg => rfl);(case hr => first | (go_simp;done) | (go_simp;rfl));(case hp => exact (Reps.c4 (show Kd.M k48 _ _ _ (⟨1,(⟨#[97,98,45,99]⟩ : ByteArray),(⟨1,1⟩ : S37)⟩ : S48) [.int .u8 1,.string (⟨#[97,98,45,99]⟩ : ByteArray),.int .i64 1,.int .i64 1] from (k48_mkM _ _ _ (⟨1,(⟨#[97,98,45,99]⟩ : ByteArray),(⟨1,1⟩ : S37)⟩ : S48) )) (Reps.c4 (show Kd.M k48 _ _ _ (⟨2,(⟨#[49,50]⟩ : ByteArray),(⟨1,6⟩ : S37)⟩ : S48) [.int .u8 2,.string (⟨#[49,50]⟩ : ByteArray),.int .i64 1,.int .i64 6] from (k48_mkM _ _ _ (⟨2,(⟨#[49,50]⟩ : ByteArray),(⟨1,6⟩ : S37)⟩ : S48) )) (Reps.c4 (show Kd.M k48 _ _ _ (⟨3,(⟨#[123]⟩ : ByteArray),(⟨2,1⟩ : S37)⟩ : S48) [.int .u8 3,.string (⟨#[123]⟩ : ByteArray),.int .i64 2,.int .i64 1] from (k48_mkM _ _ _ (⟨3,(⟨#[123]⟩ : ByteArray),(⟨2,1⟩ : S37)⟩ : S48) )) (Reps.c4 (show Kd.M k48 _ _ _ (⟨0,(⟨#[]⟩ : ByteArray),(⟨2,2⟩ : S37)⟩ : S48) [.int .u8 0,.string (⟨#[]⟩ : ByteArray),.int .i64 2,.int .i64 2] from (k48_mkM _ _ _ (⟨0,(⟨#[]⟩ : ByteArray),(⟨2,2⟩ : S37)⟩ : S48) )) (Reps.none _ _))))));intro v212 w10 ho11 hb hg_ hnew_;clear hg_ hnew_;(first | rw [← Ny211.out] at ho11 | (simp only [Int.reduceToNat] at ho11;rw [← Ny211.out] at ho11));have n0_:=Aside0.mk (Kd.R_elder' (by (with_reducible repeat (first | apply Kd.R_alloc | apply Kd.R_drewN | apply Kd.R_drew));exact (Kd.R_mono (Kd.R_far (p:=⟨gb210,2,none⟩) (Kd.R_far (p:=⟨gb210,1,none⟩) (Kd.R_far (p:=⟨gb210,0,none⟩) (Kd.R_types HO206.out BK210.out (by decide)) (fun _ hk => hk.2) (.int .i64 t207)) (fun _ hk => hk.2) (.int .i64 t208)) (fun _ hk => hk.2) (.int .i64 t209)) (fun _ h_ => h_.1))) (Kd.R_base ho11) hb);have n1_:=Aside0.mk (Kd.R_lower (Kd.R_new' ho11 (Kd.R_lt (by (with_reducible repeat (first | apply Kd.R_alloc | apply Kd.R_drewN | apply Kd.R_drew));exact (Kd.R_mono (Kd.R_far (p:=⟨gb210,2,none⟩) (Kd.R_far (p:=⟨gb210,1,none⟩) (Kd.R_far (p:=⟨gb210,0,none⟩) (Kd.R_types HO206.out BK210.out (by decide)) (fun _ hk => hk.2) (.int .i64 t207)) (fun _ hk => hk.2) (.int .i64 t208)) (fun _ hk => hk.2) (.int .i64 t209)) (fun _ h_ => h_.1))))) (below_size (by repeat (first | (with_reducible first | exact HB.out | apply below_alloc | apply pw_below_drewN | apply below_drew1 | refine below_set ?_ GE210.out) | exact HB.out))));have n2_:=Aside0.mk (blk_below (g:=gb210) (o:=.cells #[.int .i64 t207,.int .i64 t208,.int .i64 t209] 39 (0,0)) (by (with_reducible repeat (first | refine blk_drewN ?_ _ | refine blk_drew ?_ | refine blk_alloc ?_ _));refine blk_put (cs:=#[.int .i64 t207,.int .i64 t208,.int .i64 0]) ?_ 2 _ rfl;(with_reducible repeat (first | refine blk_drewN ?_ _ | refine blk_drew ?_ | refine blk_alloc ?_ _));refine blk_put (cs:=#[.int .i64 t207,.int .i64 0,.int .i64 0]) ?_ 1 _ rfl;(with_reducible repeat (first | refine blk_drewN ?_ _ | refine blk_drew ?_ | refine blk_alloc ?_ _));refine blk_put (cs:=#[.int .i64 0,.int .i64 0,.int .i64 0]) ?_ 0 _ rfl;(with_reducible repeat (first | refine blk_drewN ?_ _ | refine blk_drew ?_ | refine blk_alloc ?_ _));exact BK210.out) hb);have n3_:=Aside0.mk (below_step (by repeat (first | (with_reducible first | exact HB.out | apply below_alloc | apply pw_below_drewN | apply below_drew1 | refine below_set ?_ GE210.out) | exact HB.out)) hb);clear HO206;clear BK210;clear HB;have HO206:=n0_;have HO213:=n1_;have BK210:=n2_;have HB:=n3_;clear n0_ n1_ n2_ n3_;clear hb ho11) | ((with_reducible refine gate_callee (f:=15) rfl ?_);refine goesL_ (some 26) rfl rfl Tryd.func15 (by kernel_rfl) rfl #[.string (⟨#[97,45]⟩ : ByteArray)] rfl (by (try simp only [List.map_toArray,List.map_cons,List.map_nil]);first | done | rfl | (simp only [List.length_drop,List.length_take];rfl)) ?_;(with_reducible refine (scan_Tokens.calls k (⟨#[97,45]⟩ : ByteArray) t214 t217 t218 t219 _ ?side1 A2.out).mono ?_);(case side1 => exact Tabs.below HG.out (by repeat (first | (with_reducible first | exact HB.out | apply below_alloc | apply pw_below_drewN | apply below_drew1 | refine below_set ?_ GE210.out) | exact HB.out)));rintro e w12 ⟨v215,rfl,ho0,hb⟩;refine ⟨_,rfl,?_⟩;have n0_:=Aside0.mk (Kd.R_elder' (by (with_reducible repeat (first | apply Kd.R_alloc | apply Kd.R_drewN | apply Kd.R_drew));exact HO206.out) (Kd.R_base ho0) hb);have n1_:=Aside0.mk (Kd.R_elder' (by (with_reducible repeat (first | apply Kd.R_alloc | apply Kd.R_drewN | apply Kd.R_drew));exact HO213.out) (Kd.R_base ho0) hb);have n2_:=Aside0.mk (Kd.R_lower (Kd.R_new' (Kd.R_new' ho0 (Kd.R_lt (by (with_reducible repeat (first | apply Kd.R_alloc | apply Kd.R_drewN | apply Kd.R_drew));exact HO206.out))) (Kd.R_lt (by (with_reducible repeat (first | apply Kd.R_alloc | apply Kd.R_drewN | apply Kd.R_drew));exact HO213.out))) (below_size (by repeat (first | (with_reducible first | exact HB.out | apply below_alloc | apply pw_below_drewN | apply below_drew1 | refine below_set ?_ GE210.out) | exact HB.out))));have n3_:=Aside0.mk (blk_below (g:=gb210) (o:=.cells #[.int .i64 t207,.int .i64 t208,.int .i64 t209] 39 (0,0)) (by (with_reducible repeat (first | refine blk_drewN ?_ _ | refine blk_drew ?_ | refine blk_alloc ?_ _));exact BK210.out) hb);have n4_:=Aside0.mk (below_step (by repeat (first | (with_reducible first | exact HB.out | apply below_alloc | apply pw_below_drewN | apply below_drew1 | refine below_set ?_ GE210.out) | exact HB.out)) hb);clear HO206;clear HO213;clear BK210;clear HB;have HO206:=n0_;have HO213:=n1_;have HO216:=n2_;have BK210:=n3_;have HB:=n4_;clear n0_ n1_ n2_ n3_ n4_;(try clear hb);(try clear hb2);(try clear hk);(try clear hi);(try clear ho0)) | ((with_reducible refine gate_dst (N:=5) rfl ?_);(try (refine gate_guard (by rfl) ?_;dsimp only));refine box_event ?hg (N:=5) ?hd (cs:=#[.int .i64 0,.int .i64 0,.int .i64 0]) (t:=39) ?hr ?_;(case hd => rfl);(case hg => rfl);(case hr => first | (go_simp;done) | (go_simp;rfl));intro gb220 hg w13 hbox hb;have n0_:=Aside0.mk (Kd.R_below (by (with_reducible repeat (first | apply Kd.R_alloc | apply Kd.R_drewN | apply Kd.R_drew));exact HO206.out) hb);have n1_:=Aside0.mk (Kd.R_below (by (with_reducible repeat (first | apply Kd.R_alloc | apply Kd.R_drewN | apply Kd.R_drew));exact HO213.out) hb);have n2_:=Aside0.mk (Kd.R_below (by (with_reducible repeat (first | apply Kd.R_alloc | apply Kd.R_drewN | apply Kd.R_drew));exact HO216.out) hb);have n3_:=Aside0.mk (blk_below (g:=gb210) (o:=.cells #[.int .i64 t207,.int .i64 t208,.int .i64 t209] 39 (0,0)) (by (with_reducible repeat (first | refine blk_drewN ?_ _ | refine blk_drew ?_ | refine blk_alloc ?_ _));exact BK210.out) hb);have n4_:=Aside0.mk (below_step (by repeat (first | (with_reducible first | exact HB.out | apply below_alloc | apply pw_below_drewN | apply below_drew1 | refine below_set ?_ GE210.out) | exact HB.out)) hb);have n5_:=Aside0.mk (hbox);have n6_:=Aside0.mk ((by rw [hg];exact (below_size (by repeat (first | (with_reducible first | exact HB.out | apply below_alloc | apply pw_below_drewN | apply below_drew1 | refine below_set ?_ GE210.out) | exact HB.out))) : w.heap.size ≤ gb220));have n7_:=Aside0.mk ((by rw [hg];exact (below_size (by repeat (first | (with_reducible first | exact HB.out | apply below_alloc | apply pw_below_drewN | apply below_drew1 | refine below_set ?_ GE210.out) | exact HB.out))) : w.heap.size ≤ gb220));have n8_:=Aside0.mk ((by rw [hg];exact Nat.ne_of_lt (blk_lt (g:=gb210) (o:=.cells #[.int .i64 t207,.int .i64 t208,.int .i64 t209] 39 (0,0)) (by (with_reducible repeat (first | refine blk_drewN ?_ _ | refine blk_drew ?_ | refine blk_alloc ?_ _));exact BK210.out)) : gb210 ≠ gb220));have n9_:=Aside0.mk ((by rw [hg];exact Nat.ne_of_gt (blk_lt (g:=gb210) (o:=.cells #[.int .i64 t207,.int .i64 t208,.int .i64 t209] 39 (0,0)) (by (with_reducible repeat (first | refine blk_drewN ?_ _ | refine blk_drew ?_ | refine blk_alloc ?_ _));exact BK210.out)) : gb220 ≠ gb210));clear HO206;clear HO213;clear HO216;clear BK210;clear HB;have HO206:=n0_;have HO213:=n1_;have HO216:=n2_;have BK210:=n3_;have HB:=n4_;have BK220:=n5_;have GW220:=n6_;have GE220:=n7_;have NB210_220:=n8_;have NB220_210:=n9_;clear n0_ n1_ n2_ n3_ n4_ n5_ n6_ n7_ n8_ n9_;clear hb hbox hg;have hnb14:=NB220_210.out;have hnc14:=NB210_220.out;have hcz15_0 : w13.cell? ⟨gb220,0,none⟩ = some (.int .i64 0):=(blk_cell BK220.out 0).trans rfl;have hcz15_1 : w13.cell? ⟨gb220,1,none⟩ = some (.int .i64 0):=(blk_cell BK220.out 1).trans rfl;have hcz15_2 : w13.cell? ⟨gb220,2,none⟩ = some (.int .i64 0):=(blk_cell BK220.out 2).trans rfl;have hfz15_0:=blk_frozen BK220.out 0;have hfz15_1:=blk_frozen BK220.out 1;have hfz15_2:=blk_frozen BK220.out 2) | ((with_reducible refine gate_callee (f:=15) rfl ?_);refine goesL_ (some 30) rfl rfl Tryd.func15 (by kernel_rfl) rfl #[.string (⟨#[48,48,55]⟩ : ByteArray)] rfl (by (try simp only [List.map_toArray,List.map_cons,List.map_nil]);first | done | rfl | (simp only [List.length_drop,List.length_take];rfl)) ?_;(with_reducible refine (scan_Tokens.calls k (⟨#[48,48,55]⟩ : ByteArray) t221 t224 t225 t226 _ ?side1 A3.out).mono ?_);(case side1 => exact Tabs.below HG.out (by repeat (first | (with_reducible first | exact HB.out | apply below_alloc | apply pw_below_drewN | apply below_drew1 | refine below_set ?_ GE210.out | refine below_set ?_ GE220.out) | exact HB.out)));rintro e w16 ⟨v222,rfl,ho0,hb⟩;refine ⟨_,rfl,?_⟩;have n0_:=Aside0.mk (Kd.R_elder' (by (with_reducible repeat (first | apply Kd.R_alloc | apply Kd.R_drewN | apply Kd.R_drew));exact (Kd.R_mono (Kd.R_far (p:=⟨gb220,2,none⟩) (Kd.R_far (p:=⟨gb220,1,none⟩) (Kd.R_far (p:=⟨gb220,0,none⟩) (Kd.R_types HO206.out BK220.out (by decide)) (fun _ hk => hk.2) (.int .i64 t217)) (fun _ hk => hk.2) (.int .i64 t218)) (fun _ hk => hk.2) (.int .i64 t219)) (fun _ h_ => h_.1))) (Kd.R_base ho0) hb);have n1_:=Aside0.mk (Kd.R_elder' (by (with_reducible repeat (first | apply Kd.R_alloc | apply Kd.R_drewN | apply Kd.R_drew));exact (Kd.R_mono (Kd.R_far (p:=⟨gb220,2,none⟩) (Kd.R_far (p:=⟨gb220,1,none⟩) (Kd.R_far (p:=⟨gb220,0,none⟩) (Kd.R_types HO213.out BK220.out (by decide)) (fun _ hk => hk.2) (.int .i64 t217)) (fun _ hk => hk.2) (.int .i64 t218)) (fun _ hk => hk.2) (.int .i64 t219)) (fun _ h_ => h_.1))) (Kd.R_base ho0) hb);have n2_:=Aside0.mk (Kd.R_elder' (by (with_reducible repeat (first | apply Kd.R_alloc | apply Kd.R_drewN | apply Kd.R_drew));exact (Kd.R_mono (Kd.R_far (p:=⟨gb220,2,none⟩) (Kd.R_far (p:=⟨gb220,1,none⟩) (Kd.R_far (p:=⟨gb220,0,none⟩) (Kd.R_types HO216.out BK220.out (by decide)) (fun _ hk => hk.2) (.int .i64 t217)) (fun _ hk => hk.2) (.int .i64 t218)) (fun _ hk => hk.2) (.int .i64 t219)) (fun _ h_ => h_.1))) (Kd.R_base ho0) hb);have n3_:=Aside0.mk (Kd.R_lower (Kd.R_new' (Kd.R_new' (Kd.R_new' ho0 (Kd.R_lt (by (with_reducible repeat (first | apply Kd.R_alloc | apply Kd.R_drewN | apply Kd.R_drew));exact (Kd.R_mono (Kd.R_far (p:=⟨gb220,2,none⟩) (Kd.R_far (p:=⟨gb220,1,none⟩) (Kd.R_far (p:=⟨gb220,0,none⟩) (Kd.R_types HO206.out BK220.out (by decide)) (fun _ hk => hk.2) (.int .i64 t217)) (fun _ hk => hk.2) (.int .i64 t218)) (fun _ hk => hk.2) (.int .i64 t219)) (fun _ h_ => h_.1))))) (Kd.R_lt (by (with_reducible repeat (first | apply Kd.R_alloc | apply Kd.R_drewN | apply Kd.R_drew));exact (Kd.R_mono (Kd.R_far (p:=⟨gb220,2,none⟩) (Kd.R_far (p:=⟨gb220,1,none⟩) (Kd.R_far (p:=⟨gb220,0,none⟩) (Kd.R_types HO213.out BK220.out (by decide)) (fun _ hk => hk.2) (.int .i64 t217)) (fun _ hk => hk.2) (.int .i64 t218)) (fun _ hk => hk.2) (.int .i64 t219)) (fun _ h_ => h_.1))))) (Kd.R_lt (by (with_reducible repeat (first | apply Kd.R_alloc | apply Kd.R_drewN | apply Kd.R_drew));exact (Kd.R_mono (Kd.R_far (p:=⟨gb220,2,none⟩) (Kd.R_far (p:=⟨gb220,1,none⟩) (Kd.R_far (p:=⟨gb220,0,none⟩) (Kd.R_types HO216.out BK220.out (by decide)) (fun _ hk => hk.2) (.int .i64 t217)) (fun _ hk => hk.2) (.int .i64 t218)) (fun _ hk => hk.2) (.int .i64 t219)) (fun _ h_ => h_.1))))) (below_size (by repeat (first | (with_reducible first | exact HB.out | apply below_alloc | apply pw_below_drewN | apply below_drew1 | refine below_set ?_ GE210.out | refine below_set ?_ GE220.out) | exact HB.out))));have n4_:=Aside0.mk (blk_below (g:=gb210) (o:=.cells #[.int .i64 t207,.int .i64 t208,.int .i64 t209] 39 (0,0)) (by (with_reducible repeat (first | refine blk_drewN ?_ _ | refine blk_drew ?_ | refine blk_alloc ?_ _));refine blk_far ?_ NB210_220.out _;(with_reducible repeat (first | refine blk_drewN ?_ _ | refine blk_drew ?_ | refine blk_alloc ?_ _));refine blk_far ?_ NB210_220.out _;(with_reducible repeat (first | refine blk_drewN ?_ _ | refine blk_drew ?_ | refine blk_alloc ?_ _));refine blk_far ?_ NB210_220.out _;(with_reducible repeat (first | refine blk_drewN ?_ _ | refine blk_drew ?_ | refine blk_alloc ?_ _));exact BK210.out) hb);have n5_:=Aside0.mk (blk_below (g:=gb220) (o:=.cells #[.int .i64 t217,.int .i64 t218,.int .i64 t219] 39 (0,0)) (by (with_reducible repeat (first | refine blk_drewN ?_ _ | refine blk_drew ?_ | refine blk_alloc ?_ _));refine blk_put (cs:=#[.int .i64 t217,.int .i64 t218,.int .i64 0]) ?_ 2 _ rfl;(with_reducible repeat (first | refine blk_drewN ?_ _ | refine blk_drew ?_ | refine blk_alloc ?_ _));refine blk_put (cs:=#[.int .i64 t217,.int .i64 0,.int .i64 0]) ?_ 1 _ rfl;(with_reducible repeat (first | refine blk_drewN ?_ _ | refine blk_drew ?_ | refine blk_alloc ?_ _));refine blk_put (cs:=#[.int .i64 0,.int .i64 0,.int .i64 0]) ?_ 0 _ rfl;(with_reducible repeat (first | refine blk_drewN ?_ _ | refine blk_drew ?_ | refine blk_alloc ?_ _));exact BK220.out) hb);have n6_:=Aside0.mk (below_step (by repeat (first | (with_reducible first | exact HB.out | apply below_alloc | apply pw_below_drewN | apply below_drew1 | refine below_set ?_ GE210.out | refine below_set ?_ GE220.out) | exact HB.out)) hb);clear HO206;clear HO213;clear HO216;clear BK210;clear BK220;clear HB;have HO206:=n0_;have HO213:=n1_;have HO216:=n2_;have HO223:=n3_;have BK210:=n4_;have BK220:=n5_;have HB:=n6_;clear n0_ n1_ n2_ n3_ n4_ n5_ n6_;(try clear hb);(try clear hb2);(try clear hk);(try clear hi);(try clear ho0)) | ((with_reducible refine gate_dst (N:=7) rfl ?_);(try (refine gate_guard (by rfl) ?_;dsimp only));refine box_event ?hg (N:=7) ?hd (cs:=#[.int .i64 0,.int .i64 0,.int .i64 0]) (t:=39) ?hr ?_;(case hd => rfl);(case hg => rfl);(case hr => first | (go_simp;done) | (go_simp;rfl));intro gb227 hg w17 hbox hb;have n0_:=Aside0.mk (Kd.R_below (by (with_reducible repeat (first | apply Kd.R_alloc | apply Kd.R_drewN | apply Kd.R_drew));exact HO206.out) hb);have n1_:=Aside0.mk (Kd.R_below (by (with_reducible repeat (first | apply Kd.R_alloc | apply Kd.R_drewN | apply Kd.R_drew));exact HO213.out) hb);have n2_:=Aside0.mk (Kd.R_below (by (with_reducible repeat (first | apply Kd.R_alloc | apply Kd.R_drewN | apply Kd.R_drew));exact HO216.out) hb);have n3_:=Aside0.mk (Kd.R_below (by (with_reducible repeat (first | apply Kd.R_alloc | apply Kd.R_drewN | apply Kd.R_drew));exact HO223.out) hb);have n4_:=Aside0.mk (blk_below (g:=gb210) (o:=.cells #[.int .i64 t207,.int .i64 t208,.int .i64 t209] 39 (0,0)) (by (with_reducible repeat (first | refine blk_drewN ?_ _ | refine blk_drew ?_ | refine blk_alloc ?_ _));exact BK210.out) hb);have n5_:=Aside0.mk (blk_below (g:=gb220) (o:=.cells #[.int .i64 t217,.int .i64 t218,.int .i64 t219] 39 (0,0)) (by (with_reducible repeat (first | refine blk_drewN ?_ _ | refine blk_drew ?_ | refine blk_alloc ?_ _));exact BK220.out) hb);have n6_:=Aside0.mk (below_step (by repeat (first | (with_reducible first | exact HB.out | apply below_alloc | apply pw_below_drewN | apply below_drew1 | refine below_set ?_ GE210.out | refine below_set ?_ GE220.out) | exact HB.out)) hb);have n7_:=Aside0.mk (hbox);have n8_:=Aside0.mk ((by rw [hg];exact (below_size (by repeat (first | (with_reducible first | exact HB.out | apply below_alloc | apply pw_below_drewN | apply below_drew1 | refine below_set ?_ GE210.out | refine below_set ?_ GE220.out) | exact HB.out))) : w.heap.size ≤ gb227));have n9_:=Aside0.mk ((by rw [hg];exact (below_size (by repeat (first | (with_reducible first | exact HB.out | apply below_alloc | apply pw_below_drewN | apply below_drew1 | refine below_set ?_ GE210.out | refine below_set ?_ GE220.out) | exact HB.out))) : w.heap.size ≤ gb227));have n10_:=Aside0.mk ((by rw [hg];exact Nat.ne_of_lt (blk_lt (g:=gb210) (o:=.cells #[.int .i64 t207,.int .i64 t208,.int .i64 t209] 39 (0,0)) (by (with_reducible repeat (first | refine blk_drewN ?_ _ | refine blk_drew ?_ | refine blk_alloc ?_ _));exact BK210.out)) : gb210 ≠ gb227));have n11_:=Aside0.mk ((by rw [hg];exact Nat.ne_of_gt (blk_lt (g:=gb210) (o:=.cells #[.int .i64 t207,.int .i64 t208,.int .i64 t209] 39 (0,0)) (by (with_reducible repeat (first | refine blk_drewN ?_ _ | refine blk_drew ?_ | refine blk_alloc ?_ _));exact BK210.out)) : gb227 ≠ gb210));have n12_:=Aside0.mk ((by rw [hg];exact Nat.ne_of_lt (blk_lt (g:=gb220) (o:=.cells #[.int .i64 t217,.int .i64 t218,.int .i64 t219] 39 (0,0)) (by (with_reducible repeat (first | refine blk_drewN ?_ _ | refine blk_drew ?_ | refine blk_alloc ?_ _));exact BK220.out)) : gb220 ≠ gb227));have n13_:=Aside0.mk ((by rw [hg];exact Nat.ne_of_gt (blk_lt (g:=gb220) (o:=.cells #[.int .i64 t217,.int .i64 t218,.int .i64 t219] 39 (0,0)) (by (with_reducible repeat (first | refine blk_drewN ?_ _ | refine blk_drew ?_ | refine blk_alloc ?_ _));exact BK220.out)) : gb227 ≠ gb220));clear HO206;clear HO213;clear HO216;clear HO223;clear BK210;clear BK220;clear HB;have HO206:=n0_;have HO213:=n1_;have HO216:=n2_;have HO223:=n3_;have BK210:=n4_;have BK220:=n5_;have HB:=n6_;have BK227:=n7_;have GW227:=n8_;have GE227:=n9_;have NB210_227:=n10_;have NB227_210:=n11_;have NB220_227:=n12_;have NB227_220:=n13_;clear n0_ n1_ n2_ n3_ n4_ n5_ n6_ n7_ n8_ n9_ n10_ n11_ n12_ n13_;clear hb hbox hg;have hnb18:=NB227_210.out;have hnc18:=NB210_227.out;have hnb19:=NB227_220.out;have hnc19:=NB220_227.out;have hcz20_0 : w17.cell? ⟨gb227,0,none⟩ = some (.int .i64 0):=(blk_cell BK227.out 0).trans rfl;have hcz20_1 : w17.cell? ⟨gb227,1,none⟩ = some (.int .i64 0):=(blk_cell BK227.out 1).trans rfl;have hcz20_2 : w17.cell? ⟨gb227,2,none⟩ = some (.int .i64 0):=(blk_cell BK227.out 2).trans rfl;have hfz20_0:=blk_frozen BK227.out 0;have hfz20_1:=blk_frozen BK227.out 1;have hfz20_2:=blk_frozen BK227.out 2) | ((with_reducible refine gate_callee (f:=15) rfl ?_);refine goesL_ (some 34) rfl rfl Tryd.func15 (by kernel_rfl) rfl #[.string (⟨#[51,120]⟩ : ByteArray)] rfl (by (try simp only [List.map_toArray,List.map_cons,List.map_nil]);first | done | rfl | (simp only [List.length_drop,List.length_take];rfl)) ?_;(with_reducible refine (scan_Tokens.calls k (⟨#[51,120]⟩ : ByteArray) t228 t231 t232 t233 _ ?side1 A4.out).mono ?_);(case side1 => exact Tabs.below HG.out (by repeat (first | (with_reducible first | exact HB.out | apply below_alloc | apply pw_below_drewN | apply below_drew1 | refine below_set ?_ GE210.out | refine below_set ?_ GE220.out | refine below_set ?_ GE227.out) | exact HB.out)));rintro e w21 ⟨v229,rfl,ho0,hb⟩;refine ⟨_,rfl,?_⟩;have n0_:=Aside0.mk (Kd.R_elder' (by (with_reducible repeat (first | apply Kd.R_alloc | apply Kd.R_drewN | apply Kd.R_drew));exact (Kd.R_mono (Kd.R_far (p:=⟨gb227,2,none⟩) (Kd.R_far (p:=⟨gb227,1,none⟩) (Kd.R_far (p:=⟨gb227,0,none⟩) (Kd.R_types HO206.out BK227.out (by decide)) (fun _ hk => hk.2) (.int .i64 t224)) (fun _ hk => hk.2) (.int .i64 t225)) (fun _ hk => hk.2) (.int .i64 t226)) (fun _ h_ => h_.1))) (Kd.R_base ho0) hb);have n1_:=Aside0.mk (Kd.R_elder' (by (with_reducible repeat (first | apply Kd.R_alloc | apply Kd.R_drewN | apply Kd.R_drew));exact (Kd.R_mono (Kd.R_far (p:=⟨gb227,2,none⟩) (Kd.R_far (p:=⟨gb227,1,none⟩) (Kd.R_far (p:=⟨gb227,0,none⟩) (Kd.R_types HO213.out BK227.out (by decide)) (fun _ hk => hk.2) (.int .i64 t224)) (fun _ hk => hk.2) (.int .i64 t225)) (fun _ hk => hk.2) (.int .i64 t226)) (fun _ h_ => h_.1))) (Kd.R_base ho0) hb);have n2_:=Aside0.mk (Kd.R_elder' (by (with_reducible repeat (first | apply Kd.R_alloc | apply Kd.R_drewN | apply Kd.R_drew));exact (Kd.R_mono (Kd.R_far (p:=⟨gb227,2,none⟩) (Kd.R_far (p:=⟨gb227,1,none⟩) (Kd.R_far (p:=⟨gb227,0,none⟩) (Kd.R_types HO216.out BK227.out (by decide)) (fun _ hk => hk.2) (.int .i64 t224)) (fun _ hk => hk.2) (.int .i64 t225)) (fun _ hk => hk.2) (.int .i64 t226)) (fun _ h_ => h_.1))) (Kd.R_base ho0) hb);have n3_:=Aside0.mk (Kd.R_elder' (by (with_reducible repeat (first | apply Kd.R_alloc | apply Kd.R_drewN | apply Kd.R_drew));exact (Kd.R_mono (Kd.R_far (p:=⟨gb227,2,none⟩) (Kd.R_far (p:=⟨gb227,1,none⟩) (Kd.R_far (p:=⟨gb227,0,none⟩) (Kd.R_types HO223.out BK227.out (by decide)) (fun _ hk => hk.2) (.int .i64 t224)) (fun _ hk => hk.2) (.int .i64 t225)) (fun _ hk => hk.2) (.int .i64 t226)) (fun _ h_ => h_.1))) (Kd.R_base ho0) hb);have n4_:=Aside0.mk (Kd.R_lower (Kd.R_new' (Kd.R_new' (Kd.R_new' (Kd.R_new' ho0 (Kd.R_lt (by (with_reducible repeat (first | apply Kd.R_alloc | apply Kd.R_drewN | apply Kd.R_drew));exact (Kd.R_mono (Kd.R_far (p:=⟨gb227,2,none⟩) (Kd.R_far (p:=⟨gb227,1,none⟩) (Kd.R_far (p:=⟨gb227,0,none⟩) (Kd.R_types HO206.out BK227.out (by decide)) (fun _ hk => hk.2) (.int .i64 t224)) (fun _ hk => hk.2) (.int .i64 t225)) (fun _ hk => hk.2) (.int .i64 t226)) (fun _ h_ => h_.1))))) (Kd.R_lt (by (with_reducible repeat (first | apply Kd.R_alloc | apply Kd.R_drewN | apply Kd.R_drew));exact (Kd.R_mono (Kd.R_far (p:=⟨gb227,2,none⟩) (Kd.R_far (p:=⟨gb227,1,none⟩) (Kd.R_far (p:=⟨gb227,0,none⟩) (Kd.R_types HO213.out BK227.out (by decide)) (fun _ hk => hk.2) (.int .i64 t224)) (fun _ hk => hk.2) (.int .i64 t225)) (fun _ hk => hk.2) (.int .i64 t226)) (fun _ h_ => h_.1))))) (Kd.R_lt (by (with_reducible repeat (first | apply Kd.R_alloc | apply Kd.R_drewN | apply Kd.R_drew));exact (Kd.R_mono (Kd.R_far (p:=⟨gb227,2,none⟩) (Kd.R_far (p:=⟨gb227,1,none⟩) (Kd.R_far (p:=⟨gb227,0,none⟩) (Kd.R_types HO216.out BK227.out (by decide)) (fun _ hk => hk.2) (.int .i64 t224)) (fun _ hk => hk.2) (.int .i64 t225)) (fun _ hk => hk.2) (.int .i64 t226)) (fun _ h_ => h_.1))))) (Kd.R_lt (by (with_reducible repeat (first | apply Kd.R_alloc | apply Kd.R_drewN | apply Kd.R_drew));exact (Kd.R_mono (Kd.R_far (p:=⟨gb227,2,none⟩) (Kd.R_far (p:=⟨gb227,1,none⟩) (Kd.R_far (p:=⟨gb227,0,none⟩) (Kd.R_types HO223.out BK227.out (by decide)) (fun _ hk => hk.2) (.int .i64 t224)) (fun _ hk => hk.2) (.int .i64 t225)) (fun _ hk => hk.2) (.int .i64 t226)) (fun _ h_ => h_.1))))) (below_size (by repeat (first | (with_reducible first | exact HB.out | apply below_alloc | apply pw_below_drewN | apply below_drew1 | refine below_set ?_ GE210.out | refine below_set ?_ GE220.out | refine below_set ?_ GE227.out) | exact HB.out))));have n5_:=Aside0.mk (blk_below (g:=gb210) (o:=.cells #[.int .i64 t207,.int .i64 t208,.int .i64 t209] 39 (0,0)) (by (with_reducible repeat (first | refine blk_drewN ?_ _ | refine blk_drew ?_ | refine blk_alloc ?_ _));refine blk_far ?_ NB210_227.out _;(with_reducible repeat (first | refine blk_drewN ?_ _ | refine blk_drew ?_ | refine blk_alloc ?_ _));refine blk_far ?_ NB210_227.out _;(with_reducible repeat (first | refine blk_drewN ?_ _ | refine blk_drew ?_ | refine blk_alloc ?_ _));refine blk_far ?_ NB210_227.out _;(with_reducible repeat (first | refine blk_drewN ?_ _ | refine blk_drew ?_ | refine blk_alloc ?_ _));exact BK210.out) hb);have n6_:=Aside0.mk (blk_below (g:=gb220) (o:=.cells #[.int .i64 t217,.int .i64 t218,.int .i64 t219] 39 (0,0)) (by (with_reducible repeat (first | refine blk_drewN ?_ _ | refine blk_drew ?_ | refine blk_alloc ?_ _));refine blk_far ?_ NB220_227.out _;(with_reducible repeat (first | refine blk_drewN ?_ _ | refine blk_drew ?_ | refine blk_alloc ?_ _));refine blk_far ?_ NB220_227.out _;(with_reducible repeat (first | refine blk_drewN ?_ _ | refine blk_drew ?_ | refine blk_alloc ?_ _));refine blk_far ?_ NB220_227.out _;(with_reducible repeat (first | refine blk_drewN ?_ _ | refine blk_drew ?_ | refine blk_alloc ?_ _));exact BK220.out) hb);have n7_:=Aside0.mk (blk_below (g:=gb227) (o:=.cells #[.int .i64 t224,.int .i64 t225,.int .i64 t226] 39 (0,0)) (by (with_reducible repeat (first | refine blk_drewN ?_ _ | refine blk_drew ?_ | refine blk_alloc ?_ _));refine blk_put (cs:=#[.int .i64 t224,.int .i64 t225,.int .i64 0]) ?_ 2 _ rfl;(with_reducible repeat (first | refine blk_drewN ?_ _ | refine blk_drew ?_ | refine blk_alloc ?_ _));refine blk_put (cs:=#[.int .i64 t224,.int .i64 0,.int .i64 0]) ?_ 1 _ rfl;(with_reducible repeat (first | refine blk_drewN ?_ _ | refine blk_drew ?_ | refine blk_alloc ?_ _));refine blk_put (cs:=#[.int .i64 0,.int .i64 0,.int .i64 0]) ?_ 0 _ rfl;(with_reducible repeat (first | refine blk_drewN ?_ _ | refine blk_drew ?_ | refine blk_alloc ?_ _));exact BK227.out) hb);have n8_:=Aside0.mk (below_step (by repeat (first | (with_reducible first | exact HB.out | apply below_alloc | apply pw_below_drewN | apply below_drew1 | refine below_set ?_ GE210.out | refine below_set ?_ GE220.out | refine below_set ?_ GE227.out) | exact HB.out)) hb);clear HO206;clear HO213;clear HO216;clear HO223;clear BK210;clear BK220;clear BK227;clear HB;have HO206:=n0_;have HO213:=n1_;have HO216:=n2_;have HO223:=n3_;have HO230:=n4_;have BK210:=n5_;have BK220:=n6_;have BK227:=n7_;have HB:=n8_;clear n0_ n1_ n2_ n3_ n4_ n5_ n6_ n7_ n8_;(try clear hb);(try clear hb2);(try clear hk);(try clear hi);(try clear ho0)) | ((with_reducible refine gate_dst (N:=9) rfl ?_);(try (refine gate_guard (by rfl) ?_;dsimp only));refine box_event ?hg (N:=9) ?hd (cs:=#[.int .i64 0,.int .i64 0,.int .i64 0]) (t:=39) ?hr ?_;(case hd => rfl);(case hg => rfl);(case hr => first | (go_simp;done) | (go_simp;rfl));intro gb234 hg w22 hbox hb;have n0_:=Aside0.mk (Kd.R_below (by (with_reducible repeat (first | apply Kd.R_alloc | apply Kd.R_drewN | apply Kd.R_drew));exact HO206.out) hb);have n1_:=Aside0.mk (Kd.R_below (by (with_reducible repeat (first | apply Kd.R_alloc | apply Kd.R_drewN | apply Kd.R_drew));exact HO213.out) hb);have n2_:=Aside0.mk (Kd.R_below (by (with_reducible repeat (first | apply Kd.R_alloc | apply Kd.R_drewN | apply Kd.R_drew));exact HO216.out) hb);have n3_:=Aside0.mk (Kd.R_below (by (with_reducible repeat (first | apply Kd.R_alloc | apply Kd.R_drewN | apply Kd.R_drew));exact HO223.out) hb);have n4_:=Aside0.mk (Kd.R_below (by (with_reducible repeat (first | apply Kd.R_alloc | apply Kd.R_drewN | apply Kd.R_drew));exact HO230.out) hb);have n5_:=Aside0.mk (blk_below (g:=gb210) (o:=.cells #[.int .i64 t207,.int .i64 t208,.int .i64 t209] 39 (0,0)) (by (with_reducible repeat (first | refine blk_drewN ?_ _ | refine blk_drew ?_ | refine blk_alloc ?_ _));exact BK210.out) hb);have n6_:=Aside0.mk (blk_below (g:=gb220) (o:=.cells #[.int .i64 t217,.int .i64 t218,.int .i64 t219] 39 (0,0)) (by (with_reducible repeat (first | refine blk_drewN ?_ _ | refine blk_drew ?_ | refine blk_alloc ?_ _));exact BK220.out) hb);have n7_:=Aside0.mk (blk_below (g:=gb227) (o:=.cells #[.int .i64 t224,.int .i64 t225,.int .i64 t226] 39 (0,0)) (by (with_reducible repeat (first | refine blk_drewN ?_ _ | refine blk_drew ?_ | refine blk_alloc ?_ _));exact BK227.out) hb);have n8_:=Aside0.mk (below_step (by repeat (first | (with_reducible first | exact HB.out | apply below_alloc | apply pw_below_drewN | apply below_drew1 | refine below_set ?_ GE210.out | refine below_set ?_ GE220.out | refine below_set ?_ GE227.out) | exact HB.out)) hb);have n9_:=Aside0.mk (hbox);have n10_:=Aside0.mk ((by rw [hg];exact (below_size (by repeat (first | (with_reducible first | exact HB.out | apply below_alloc | apply pw_below_drewN | apply below_drew1 | refine below_set ?_ GE210.out | refine below_set ?_ GE220.out | refine below_set ?_ GE227.out) | exact HB.out))) : w.heap.size ≤ gb234));have n11_:=Aside0.mk ((by rw [hg];exact (below_size (by repeat (first | (with_reducible first | exact HB.out | apply below_alloc | apply pw_below_drewN | apply below_drew1 | refine below_set ?_ GE210.out | refine below_set ?_ GE220.out | refine below_set ?_ GE227.out) | exact HB.out))) : w.heap.size ≤ gb234));have n12_:=Aside0.mk ((by rw [hg];exact Nat.ne_of_lt (blk_lt (g:=gb210) (o:=.cells #[.int .i64 t207,.int .i64 t208,.int .i64 t209] 39 (0,0)) (by (with_reducible repeat (first | refine blk_drewN ?_ _ | refine blk_drew ?_ | refine blk_alloc ?_ _));exact BK210.out)) : gb210 ≠ gb234));have n13_:=Aside0.mk ((by rw [hg];exact Nat.ne_of_gt (blk_lt (g:=gb210) (o:=.cells #[.int .i64 t207,.int .i64 t208,.int .i64 t209] 39 (0,0)) (by (with_reducible repeat (first | refine blk_drewN ?_ _ | refine blk_drew ?_ | refine blk_alloc ?_ _));exact BK210.out)) : gb234 ≠ gb210));have n14_:=Aside0.mk ((by rw [hg];exact Nat.ne_of_lt (blk_lt (g:=gb220) (o:=.cells #[.int .i64 t217,.int .i64 t218,.int .i64 t219] 39 (0,0)) (by (with_reducible repeat (first | refine blk_drewN ?_ _ | refine blk_drew ?_ | refine blk_alloc ?_ _));exact BK220.out)) : gb220 ≠ gb234));have n15_:=Aside0.mk ((by rw [hg];exact Nat.ne_of_gt (blk_lt (g:=gb220) (o:=.cells #[.int .i64 t217,.int .i64 t218,.int .i64 t219] 39 (0,0)) (by (with_reducible repeat (first | refine blk_drewN ?_ _ | refine blk_drew ?_ | refine blk_alloc ?_ _));exact BK220.out)) : gb234 ≠ gb220));have n16_:=Aside0.mk ((by rw [hg];exact Nat.ne_of_lt (blk_lt (g:=gb227) (o:=.cells #[.int .i64 t224,.int .i64 t225,.int .i64 t226] 39 (0,0)) (by (with_reducible repeat (first | refine blk_drewN ?_ _ | refine blk_drew ?_ | refine blk_alloc ?_ _));exact BK227.out)) : gb227 ≠ gb234));have n17_:=Aside0.mk ((by rw [hg];exact Nat.ne_of_gt (blk_lt (g:=gb227) (o:=.cells #[.int .i64 t224,.int .i64 t225,.int .i64 t226] 39 (0,0)) (by (with_reducible repeat (first | refine blk_drewN ?_ _ | refine blk_drew ?_ | refine blk_alloc ?_ _));exact BK227.out)) : gb234 ≠ gb227));clear HO206;clear HO213;clear HO216;clear HO223;clear HO230;clear BK210;clear BK220;clear BK227;clear HB;have HO206:=n0_;have HO213:=n1_;have HO216:=n2_;have HO223:=n3_;have HO230:=n4_;have BK210:=n5_;have BK220:=n6_;have BK227:=n7_;have HB:=n8_;have BK234:=n9_;have GW234:=n10_;have GE234:=n11_;have NB210_234:=n12_;have NB234_210:=n13_;have NB220_234:=n14_;have NB234_220:=n15_;have NB227_234:=n16_;have NB234_227:=n17_;clear n0_ n1_ n2_ n3_ n4_ n5_ n6_ n7_ n8_ n9_ n10_ n11_ n12_ n13_ n14_ n15_ n16_ n17_;clear hb hbox hg;have hnb23:=NB234_210.out;have hnc23:=NB210_234.out;have hnb24:=NB234_220.out;have hnc24:=NB220_234.out;have hnb25:=NB234_227.out;have hnc25:=NB227_234.out;have hcz26_0 : w22.cell? ⟨gb234,0,none⟩ = some (.int .i64 0):=(blk_cell BK234.out 0).trans rfl;have hcz26_1 : w22.cell? ⟨gb234,1,none⟩ = some (.int .i64 0):=(blk_cell BK234.out 1).trans rfl;have hcz26_2 : w22.cell? ⟨gb234,2,none⟩ = some (.int .i64 0):=(blk_cell BK234.out 2).trans rfl;have hfz26_0:=blk_frozen BK234.out 0;have hfz26_1:=blk_frozen BK234.out 1;have hfz26_2:=blk_frozen BK234.out 2) | ((with_reducible refine gate_callee (f:=15) rfl ?_);refine goesL_ (some 38) rfl rfl Tryd.func15 (by kernel_rfl) rfl #[.string (⟨#[97,10,195,169,33]⟩ : ByteArray)] rfl (by (try simp only [List.map_toArray,List.map_cons,List.map_nil]);first | done | rfl | (simp only [List.length_drop,List.length_take];rfl)) ?_;(with_reducible refine (scan_Tokens.calls k (⟨#[97,10,195,169,33]⟩ : ByteArray) t235 t238 t239 t240 _ ?side1 A5.out).mono ?_);(case side1 => exact Tabs.below HG.out (by repeat (first | (with_reducible first | exact HB.out | apply below_alloc | apply pw_below_drewN | apply below_drew1 | refine below_set ?_ GE210.out | refine below_set ?_ GE220.out | refine below_set ?_ GE227.out | refine below_set ?_ GE234.out) | exact HB.out)));rintro e w27 ⟨v236,rfl,ho0,hb⟩;refine ⟨_,rfl,?_⟩;have n0_:=Aside0.mk (Kd.R_elder' (by (with_reducible repeat (first | apply Kd.R_alloc | apply Kd.R_drewN | apply Kd.R_drew));exact (Kd.R_mono (Kd.R_far (p:=⟨gb234,2,none⟩) (Kd.R_far (p:=⟨gb234,1,none⟩) (Kd.R_far (p:=⟨gb234,0,none⟩) (Kd.R_types HO206.out BK234.out (by decide)) (fun _ hk => hk.2) (.int .i64 t231)) (fun _ hk => hk.2) (.int .i64 t232)) (fun _ hk => hk.2) (.int .i64 t233)) (fun _ h_ => h_.1))) (Kd.R_base ho0) hb);have n1_:=Aside0.mk (Kd.R_elder' (by (with_reducible repeat (first | apply Kd.R_alloc | apply Kd.R_drewN | apply Kd.R_drew));exact (Kd.R_mono (Kd.R_far (p:=⟨gb234,2,none⟩) (Kd.R_far (p:=⟨gb234,1,none⟩) (Kd.R_far (p:=⟨gb234,0,none⟩) (Kd.R_types HO213.out BK234.out (by decide)) (fun _ hk => hk.2) (.int .i64 t231)) (fun _ hk => hk.2) (.int .i64 t232)) (fun _ hk => hk.2) (.int .i64 t233)) (fun _ h_ => h_.1))) (Kd.R_base ho0) hb);have n2_:=Aside0.mk (Kd.R_elder' (by (with_reducible repeat (first | apply Kd.R_alloc | apply Kd.R_drewN | apply Kd.R_drew));exact (Kd.R_mono (Kd.R_far (p:=⟨gb234,2,none⟩) (Kd.R_far (p:=⟨gb234,1,none⟩) (Kd.R_far (p:=⟨gb234,0,none⟩) (Kd.R_types HO216.out BK234.out (by decide)) (fun _ hk => hk.2) (.int .i64 t231)) (fun _ hk => hk.2) (.int .i64 t232)) (fun _ hk => hk.2) (.int .i64 t233)) (fun _ h_ => h_.1))) (Kd.R_base ho0) hb);have n3_:=Aside0.mk (Kd.R_elder' (by (with_reducible repeat (first | apply Kd.R_alloc | apply Kd.R_drewN | apply Kd.R_drew));exact (Kd.R_mono (Kd.R_far (p:=⟨gb234,2,none⟩) (Kd.R_far (p:=⟨gb234,1,none⟩) (Kd.R_far (p:=⟨gb234,0,none⟩) (Kd.R_types HO223.out BK234.out (by decide)) (fun _ hk => hk.2) (.int .i64 t231)) (fun _ hk => hk.2) (.int .i64 t232)) (fun _ hk => hk.2) (.int .i64 t233)) (fun _ h_ => h_.1))) (Kd.R_base ho0) hb);have n4_:=Aside0.mk (Kd.R_elder' (by (with_reducible repeat (first | apply Kd.R_alloc | apply Kd.R_drewN | apply Kd.R_drew));exact (Kd.R_mono (Kd.R_far (p:=⟨gb234,2,none⟩) (Kd.R_far (p:=⟨gb234,1,none⟩) (Kd.R_far (p:=⟨gb234,0,none⟩) (Kd.R_types HO230.out BK234.out (by decide)) (fun _ hk => hk.2) (.int .i64 t231)) (fun _ hk => hk.2) (.int .i64 t232)) (fun _ hk => hk.2) (.int .i64 t233)) (fun _ h_ => h_.1))) (Kd.R_base ho0) hb);have n5_:=Aside0.mk (Kd.R_lower (Kd.R_new' (Kd.R_new' (Kd.R_new' (Kd.R_new' (Kd.R_new' ho0 (Kd.R_lt (by (with_reducible repeat (first | apply Kd.R_alloc | apply Kd.R_drewN | apply Kd.R_drew));exact (Kd.R_mono (Kd.R_far (p:=⟨gb234,2,none⟩) (Kd.R_far (p:=⟨gb234,1,none⟩) (Kd.R_far (p:=⟨gb234,0,none⟩) (Kd.R_types HO206.out BK234.out (by decide)) (fun _ hk => hk.2) (.int .i64 t231)) (fun _ hk => hk.2) (.int .i64 t232)) (fun _ hk => hk.2) (.int .i64 t233)) (fun _ h_ => h_.1))))) (Kd.R_lt (by (with_reducible repeat (first | apply Kd.R_alloc | apply Kd.R_drewN | apply Kd.R_drew));exact (Kd.R_mono (Kd.R_far (p:=⟨gb234,2,none⟩) (Kd.R_far (p:=⟨gb234,1,none⟩) (Kd.R_far (p:=⟨gb234,0,none⟩) (Kd.R_types HO213.out BK234.out (by decide)) (fun _ hk => hk.2) (.int .i64 t231)) (fun _ hk => hk.2) (.int .i64 t232)) (fun _ hk => hk.2) (.int .i64 t233)) (fun _ h_ => h_.1))))) (Kd.R_lt (by (with_reducible repeat (first | apply Kd.R_alloc | apply Kd.R_drewN | apply Kd.R_drew));exact (Kd.R_mono (Kd.R_far (p:=⟨gb234,2,none⟩) (Kd.R_far (p:=⟨gb234,1,none⟩) (Kd.R_far (p:=⟨gb234,0,none⟩) (Kd.R_types HO216.out BK234.out (by decide)) (fun _ hk => hk.2) (.int .i64 t231)) (fun _ hk => hk.2) (.int .i64 t232)) (fun _ hk => hk.2) (.int .i64 t233)) (fun _ h_ => h_.1))))) (Kd.R_lt (by (with_reducible repeat (first | apply Kd.R_alloc | apply Kd.R_drewN | apply Kd.R_drew));exact (Kd.R_mono (Kd.R_far (p:=⟨gb234,2,none⟩) (Kd.R_far (p:=⟨gb234,1,none⟩) (Kd.R_far (p:=⟨gb234,0,none⟩) (Kd.R_types HO223.out BK234.out (by decide)) (fun _ hk => hk.2) (.int .i64 t231)) (fun _ hk => hk.2) (.int .i64 t232)) (fun _ hk => hk.2) (.int .i64 t233)) (fun _ h_ => h_.1))))) (Kd.R_lt (by (with_reducible repeat (first | apply Kd.R_alloc | apply Kd.R_drewN | apply Kd.R_drew));exact (Kd.R_mono (Kd.R_far (p:=⟨gb234,2,none⟩) (Kd.R_far (p:=⟨gb234,1,none⟩) (Kd.R_far (p:=⟨gb234,0,none⟩) (Kd.R_types HO230.out BK234.out (by decide)) (fun _ hk => hk.2) (.int .i64 t231)) (fun _ hk => hk.2) (.int .i64 t232)) (fun _ hk => hk.2) (.int .i64 t233)) (fun _ h_ => h_.1))))) (below_size (by repeat (first | (with_reducible first | exact HB.out | apply below_alloc | apply pw_below_drewN | apply below_drew1 | refine below_set ?_ GE210.out | refine below_set ?_ GE220.out | refine below_set ?_ GE227.out | refine below_set ?_ GE234.out) | exact HB.out))));have n6_:=Aside0.mk (blk_below (g:=gb210) (o:=.cells #[.int .i64 t207,.int .i64 t208,.int .i64 t209] 39 (0,0)) (by (with_reducible repeat (first | refine blk_drewN ?_ _ | refine blk_drew ?_ | refine blk_alloc ?_ _));refine blk_far ?_ NB210_234.out _;(with_reducible repeat (first | refine blk_drewN ?_ _ | refine blk_drew ?_ | refine blk_alloc ?_ _));refine blk_far ?_ NB210_234.out _;(with_reducible repeat (first | refine blk_drewN ?_ _ | refine blk_drew ?_ | refine blk_alloc ?_ _));refine blk_far ?_ NB210_234.out _;(with_reducible repeat (first | refine blk_drewN ?_ _ | refine blk_drew ?_ | refine blk_alloc ?_ _));exact BK210.out) hb);have n7_:=Aside0.mk (blk_below (g:=gb220) (o:=.cells #[.int .i64 t217,.int .i64 t218,.int .i64 t219] 39 (0,0)) (by (with_reducible repeat (first | refine blk_drewN ?_ _ | refine blk_drew ?_ | refine blk_alloc ?_ _));refine blk_far ?_ NB220_234.out _;(with_reducible repeat (first | refine blk_drewN ?_ _ | refine blk_drew ?_ | refine blk_alloc ?_ _));refine blk_far ?_ NB220_234.out _;(with_reducible repeat (first | refine blk_drewN ?_ _ | refine blk_drew ?_ | refine blk_alloc ?_ _));refine blk_far ?_ NB220_234.out _;(with_reducible repeat (first | refine blk_drewN ?_ _ | refine blk_drew ?_ | refine blk_alloc ?_ _));exact BK220.out) hb);have n8_:=Aside0.mk (blk_below (g:=gb227) (o:=.cells #[.int .i64 t224,.int .i64 t225,.int .i64 t226] 39 (0,0)) (by (with_reducible repeat (first | refine blk_drewN ?_ _ | refine blk_drew ?_ | refine blk_alloc ?_ _));refine blk_far ?_ NB227_234.out _;(with_reducible repeat (first | refine blk_drewN ?_ _ | refine blk_drew ?_ | refine blk_alloc ?_ _));refine blk_far ?_ NB227_234.out _;(with_reducible repeat (first | refine blk_drewN ?_ _ | refine blk_drew ?_ | refine blk_alloc ?_ _));refine blk_far ?_ NB227_234.out _;(with_reducible repeat (first | refine blk_drewN ?_ _ | refine blk_drew ?_ | refine blk_alloc ?_ _));exact BK227.out) hb);have n9_:=Aside0.mk (blk_below (g:=gb234) (o:=.cells #[.int .i64 t231,.int .i64 t232,.int .i64 t233] 39 (0,0)) (by (with_reducible repeat (first | refine blk_drewN ?_ _ | refine blk_drew ?_ | refine blk_alloc ?_ _));refine blk_put (cs:=#[.int .i64 t231,.int .i64 t232,.int .i64 0]) ?_ 2 _ rfl;(with_reducible repeat (first | refine blk_drewN ?_ _ | refine blk_drew ?_ | refine blk_alloc ?_ _));refine blk_put (cs:=#[.int .i64 t231,.int .i64 0,.int .i64 0]) ?_ 1 _ rfl;(with_reducible repeat (first | refine blk_drewN ?_ _ | refine blk_drew ?_ | refine blk_alloc ?_ _));refine blk_put (cs:=#[.int .i64 0,.int .i64 0,.int .i64 0]) ?_ 0 _ rfl;(with_reducible repeat (first | refine blk_drewN ?_ _ | refine blk_drew ?_ | refine blk_alloc ?_ _));exact BK234.out) hb);have n10_:=Aside0.mk (below_step (by repeat (first | (with_reducible first | exact HB.out | apply below_alloc | apply pw_below_drewN | apply below_drew1 | refine below_set ?_ GE210.out | refine below_set ?_ GE220.out | refine below_set ?_ GE227.out | refine below_set ?_ GE234.out) | exact HB.out)) hb);clear HO206;clear HO213;clear HO216;clear HO223;clear HO230;clear BK210;clear BK220;clear BK227;clear BK234;clear HB;have HO206:=n0_;have HO213:=n1_;have HO216:=n2_;have HO223:=n3_;have HO230:=n4_;have HO237:=n5_;have BK210:=n6_;have BK220:=n7_;have BK227:=n8_;have BK234:=n9_;have HB:=n10_;clear n0_ n1_ n2_ n3_ n4_ n5_ n6_ n7_ n8_ n9_ n10_;(try clear hb);(try clear hb2);(try clear hk);(try clear hi);(try clear ho0)) | ((with_reducible refine gate_dst (N:=11) rfl ?_);(try (refine gate_guard (by rfl) ?_;dsimp only));refine box_event ?hg (N:=11) ?hd (cs:=#[.int .i64 0,.int .i64 0,.int .i64 0]) (t:=39) ?hr ?_;(case hd => rfl);(case hg => rfl);(case hr => first | (go_simp;done) | (go_simp;rfl));intro gb241 hg w28 hbox hb;have n0_:=Aside0.mk (Kd.R_below (by (with_reducible repeat (first | apply Kd.R_alloc | apply Kd.R_drewN | apply Kd.R_drew));exact HO206.out) hb);have n1_:=Aside0.mk (Kd.R_below (by (with_reducible repeat (first | apply Kd.R_alloc | apply Kd.R_drewN | apply Kd.R_drew));exact HO213.out) hb);have n2_:=Aside0.mk (Kd.R_below (by (with_reducible repeat (first | apply Kd.R_alloc | apply Kd.R_drewN | apply Kd.R_drew));exact HO216.out) hb);have n3_:=Aside0.mk (Kd.R_below (by (with_reducible repeat (first | apply Kd.R_alloc | apply Kd.R_drewN | apply Kd.R_drew));exact HO223.out) hb);have n4_:=Aside0.mk (Kd.R_below (by (with_reducible repeat (first | apply Kd.R_alloc | apply Kd.R_drewN | apply Kd.R_drew));exact HO230.out) hb);have n5_:=Aside0.mk (Kd.R_below (by (with_reducible repeat (first | apply Kd.R_alloc | apply Kd.R_drewN | apply Kd.R_drew));exact HO237.out) hb);have n6_:=Aside0.mk (blk_below (g:=gb210) (o:=.cells #[.int .i64 t207,.int .i64 t208,.int .i64 t209] 39 (0,0)) (by (with_reducible repeat (first | refine blk_drewN ?_ _ | refine blk_drew ?_ | refine blk_alloc ?_ _));exact BK210.out) hb);have n7_:=Aside0.mk (blk_below (g:=gb220) (o:=.cells #[.int .i64 t217,.int .i64 t218,.int .i64 t219] 39 (0,0)) (by (with_reducible repeat (first | refine blk_drewN ?_ _ | refine blk_drew ?_ | refine blk_alloc ?_ _));exact BK220.out) hb);have n8_:=Aside0.mk (blk_below (g:=gb227) (o:=.cells #[.int .i64 t224,.int .i64 t225,.int .i64 t226] 39 (0,0)) (by (with_reducible repeat (first | refine blk_drewN ?_ _ | refine blk_drew ?_ | refine blk_alloc ?_ _));exact BK227.out) hb);have n9_:=Aside0.mk (blk_below (g:=gb234) (o:=.cells #[.int .i64 t231,.int .i64 t232,.int .i64 t233] 39 (0,0)) (by (with_reducible repeat (first | refine blk_drewN ?_ _ | refine blk_drew ?_ | refine blk_alloc ?_ _));exact BK234.out) hb);have n10_:=Aside0.mk (below_step (by repeat (first | (with_reducible first | exact HB.out | apply below_alloc | apply pw_below_drewN | apply below_drew1 | refine below_set ?_ GE210.out | refine below_set ?_ GE220.out | refine below_set ?_ GE227.out | refine below_set ?_ GE234.out) | exact HB.out)) hb);have n11_:=Aside0.mk (hbox);have n12_:=Aside0.mk ((by rw [hg];exact (below_size (by repeat (first | (with_reducible first | exact HB.out | apply below_alloc | apply pw_below_drewN | apply below_drew1 | refine below_set ?_ GE210.out | refine below_set ?_ GE220.out | refine below_set ?_ GE227.out | refine below_set ?_ GE234.out) | exact HB.out))) : w.heap.size ≤ gb241));have n13_:=Aside0.mk ((by rw [hg];exact (below_size (by repeat (first | (with_reducible first | exact HB.out | apply below_alloc | apply pw_below_drewN | apply below_drew1 | refine below_set ?_ GE210.out | refine below_set ?_ GE220.out | refine below_set ?_ GE227.out | refine below_set ?_ GE234.out) | exact HB.out))) : w.heap.size ≤ gb241));have n14_:=Aside0.mk ((by rw [hg];exact Nat.ne_of_lt (blk_lt (g:=gb210) (o:=.cells #[.int .i64 t207,.int .i64 t208,.int .i64 t209] 39 (0,0)) (by (with_reducible repeat (first | refine blk_drewN ?_ _ | refine blk_drew ?_ | refine blk_alloc ?_ _));exact BK210.out)) : gb210 ≠ gb241));have n15_:=Aside0.mk ((by rw [hg];exact Nat.ne_of_gt (blk_lt (g:=gb210) (o:=.cells #[.int .i64 t207,.int .i64 t208,.int .i64 t209] 39 (0,0)) (by (with_reducible repeat (first | refine blk_drewN ?_ _ | refine blk_drew ?_ | refine blk_alloc ?_ _));exact BK210.out)) : gb241 ≠ gb210));have n16_:=Aside0.mk ((by rw [hg];exact Nat.ne_of_lt (blk_lt (g:=gb220) (o:=.cells #[.int .i64 t217,.int .i64 t218,.int .i64 t219] 39 (0,0)) (by (with_reducible repeat (first | refine blk_drewN ?_ _ | refine blk_drew ?_ | refine blk_alloc ?_ _));exact BK220.out)) : gb220 ≠ gb241));have n17_:=Aside0.mk ((by rw [hg];exact Nat.ne_of_gt (blk_lt (g:=gb220) (o:=.cells #[.int .i64 t217,.int .i64 t218,.int .i64 t219] 39 (0,0)) (by (with_reducible repeat (first | refine blk_drewN ?_ _ | refine blk_drew ?_ | refine blk_alloc ?_ _));exact BK220.out)) : gb241 ≠ gb220));have n18_:=Aside0.mk ((by rw [hg];exact Nat.ne_of_lt (blk_lt (g:=gb227) (o:=.cells #[.int .i64 t224,.int .i64 t225,.int .i64 t226] 39 (0,0)) (by (with_reducible repeat (first | refine blk_drewN ?_ _ | refine blk_drew ?_ | refine blk_alloc ?_ _));exact BK227.out)) : gb227 ≠ gb241));have n19_:=Aside0.mk ((by rw [hg];exact Nat.ne_of_gt (blk_lt (g:=gb227) (o:=.cells #[.int .i64 t224,.int .i64 t225,.int .i64 t226] 39 (0,0)) (by (with_reducible repeat (first | refine blk_drewN ?_ _ | refine blk_drew ?_ | refine blk_alloc ?_ _));exact BK227.out)) : gb241 ≠ gb227));have n20_:=Aside0.mk ((by rw [hg];exact Nat.ne_of_lt (blk_lt (g:=gb234) (o:=.cells #[.int .i64 t231,.int .i64 t232,.int .i64 t233] 39 (0,0)) (by (with_reducible repeat (first | refine blk_drewN ?_ _ | refine blk_drew ?_ | refine blk_alloc ?_ _));exact BK234.out)) : gb234 ≠ gb241));have n21_:=Aside0.mk ((by rw [hg];exact Nat.ne_of_gt (blk_lt (g:=gb234) (o:=.cells #[.int .i64 t231,.int .i64 t232,.int .i64 t233] 39 (0,0)) (by (with_reducible repeat (first | refine blk_drewN ?_ _ | refine blk_drew ?_ | refine blk_alloc ?_ _));exact BK234.out)) : gb241 ≠ gb234));clear HO206;clear HO213;clear HO216;clear HO223;clear HO230;clear HO237;clear BK210;clear BK220;clear BK227;clear BK234;clear HB;have HO206:=n0_;have HO213:=n1_;have HO216:=n2_;have HO223:=n3_;have HO230:=n4_;have HO237:=n5_;have BK210:=n6_;have BK220:=n7_;have BK227:=n8_;have BK234:=n9_;have HB:=n10_;have BK241:=n11_;have GW241:=n12_;have GE241:=n13_;have NB210_241:=n14_;have NB241_210:=n15_;have NB220_241:=n16_;have NB241_220:=n17_;have NB227_241:=n18_;have NB241_227:=n19_;have NB234_241:=n20_;have NB241_234:=n21_;clear n0_ n1_ n2_ n3_ n4_ n5_ n6_ n7_ n8_ n9_ n10_ n11_ n12_ n13_ n14_ n15_ n16_ n17_ n18_ n19_ n20_ n21_;clear hb hbox hg;have hnb29:=NB241_210.out;have hnc29:=NB210_241.out;have hnb30:=NB241_220.out;have hnc30:=NB220_241.out;have hnb31:=NB241_227.out;have hnc31:=NB227_241.out;have hnb32:=NB241_234.out;have hnc32:=NB234_241.out;have hcz33_0 : w28.cell? ⟨gb241,0,none⟩ = some (.int .i64 0):=(blk_cell BK241.out 0).trans rfl;have hcz33_1 : w28.cell? ⟨gb241,1,none⟩ = some (.int .i64 0):=(blk_cell BK241.out 1).trans rfl;have hcz33_2 : w28.cell? ⟨gb241,2,none⟩ = some (.int .i64 0):=(blk_cell BK241.out 2).trans rfl;have hfz33_0:=blk_frozen BK241.out 0;have hfz33_1:=blk_frozen BK241.out 1;have hfz33_2:=blk_frozen BK241.out 2))
 (try simp only [Act.put,List.setIfInBounds_toArray,List.set_cons_zero,List.set_cons_succ])
 go_cut [79] (fun v79 wc => ∃ (kq : Nat) (x79_5 : Bool),v79 = .bool x79_5 ∧ Aside0 (joustlaw01_lives.j0 kq x79_5 t224 t225 t226 t231 t232 t233 t238 t239 t240 = some true) ∧ Aside0 (kq ≤ k) ∧ Aside0 (wc.heap[gb210]? = some (.cells #[.int .i64 t207,.int .i64 t208,.int .i64 t209] 39 (0,0))) ∧ Aside0 (wc.heap[gb220]? = some (.cells #[.int .i64 t217,.int .i64 t218,.int .i64 t219] 39 (0,0))) ∧ Aside0 (wc.heap[gb227]? = some (.cells #[.int .i64 t224,.int .i64 t225,.int .i64 t226] 39 (0,0))) ∧ Aside0 (wc.heap[gb234]? = some (.cells #[.int .i64 t231,.int .i64 t232,.int .i64 t233] 39 (0,0))) ∧ Aside0 (wc.heap[gb241]? = some (.cells #[.int .i64 t238,.int .i64 t239,.int .i64 t240] 39 (0,0))) ∧ Aside0 (Below w.heap.size w wc))
 case first =>
  have H:=HC6.out
  clear HC6
  replace H:=Option.bind_eq_some_iff.mp H
  obtain ⟨t242,A340,H⟩:=H
  replace H : (if t242 = true then ((joustref00_Spots.f k t204 y211).bind fun t243 => (if t243 = true then (if t207 = 0 then (if t217 = 0 then (if (t214.length : Int) = 3 then (if 0 < (t214.length : Int) then (if ((rd_T48 t214 0).f1).toList = ([97] : List UInt8) then (if 1 < (t214.length : Int) then (joustlaw01_lives.j0 k (((rd_T48 t214 1).f1).toList != ([45] : List UInt8)) t224 t225 t226 t231 t232 t233 t238 t239 t240) else (none)) else (joustlaw01_lives.j0 k true t224 t225 t226 t231 t232 t233 t238 t239 t240)) else (none)) else (joustlaw01_lives.j0 k true t224 t225 t226 t231 t232 t233 t238 t239 t240)) else (joustlaw01_lives.j0 k true t224 t225 t226 t231 t232 t233 t238 t239 t240)) else (joustlaw01_lives.j0 k true t224 t225 t226 t231 t232 t233 t238 t239 t240)) else (joustlaw01_lives.j0 k true t224 t225 t226 t231 t232 t233 t238 t239 t240))) else (joustlaw01_lives.j0 k true t224 t225 t226 t231 t232 t233 t238 t239 t240)) = some true:=H
  have A34:=Aside0.mk A340
  clear A340
  by_cases c35 : t242 = true
  ·subst c35
   have H1 : ((joustref00_Spots.f k t204 y211).bind fun t243 => (if t243 = true then (if t207 = 0 then (if t217 = 0 then (if (t214.length : Int) = 3 then (if 0 < (t214.length : Int) then (if ((rd_T48 t214 0).f1).toList = ([97] : List UInt8) then (if 1 < (t214.length : Int) then (joustlaw01_lives.j0 k (((rd_T48 t214 1).f1).toList != ([45] : List UInt8)) t224 t225 t226 t231 t232 t233 t238 t239 t240) else (none)) else (joustlaw01_lives.j0 k true t224 t225 t226 t231 t232 t233 t238 t239 t240)) else (none)) else (joustlaw01_lives.j0 k true t224 t225 t226 t231 t232 t233 t238 t239 t240)) else (joustlaw01_lives.j0 k true t224 t225 t226 t231 t232 t233 t238 t239 t240)) else (joustlaw01_lives.j0 k true t224 t225 t226 t231 t232 t233 t238 t239 t240)) else (joustlaw01_lives.j0 k true t224 t225 t226 t231 t232 t233 t238 t239 t240))) = some true:=by rw [if_pos rfl] at H;exact H
   clear H
   have H:=H1
   clear H1
   replace H:=Option.bind_eq_some_iff.mp H
   obtain ⟨t243,A360,H⟩:=H
   replace H : (if t243 = true then (if t207 = 0 then (if t217 = 0 then (if (t214.length : Int) = 3 then (if 0 < (t214.length : Int) then (if ((rd_T48 t214 0).f1).toList = ([97] : List UInt8) then (if 1 < (t214.length : Int) then (joustlaw01_lives.j0 k (((rd_T48 t214 1).f1).toList != ([45] : List UInt8)) t224 t225 t226 t231 t232 t233 t238 t239 t240) else (none)) else (joustlaw01_lives.j0 k true t224 t225 t226 t231 t232 t233 t238 t239 t240)) else (none)) else (joustlaw01_lives.j0 k true t224 t225 t226 t231 t232 t233 t238 t239 t240)) else (joustlaw01_lives.j0 k true t224 t225 t226 t231 t232 t233 t238 t239 t240)) else (joustlaw01_lives.j0 k true t224 t225 t226 t231 t232 t233 t238 t239 t240)) else (joustlaw01_lives.j0 k true t224 t225 t226 t231 t232 t233 t238 t239 t240)) = some true:=H
   have A36:=Aside0.mk A360
   clear A360
   by_cases c37 : t243 = true
   ·subst c37
    have H1 : (if t207 = 0 then (if t217 = 0 then (if (t214.length : Int) = 3 then (if 0 < (t214.length : Int) then (if ((rd_T48 t214 0).f1).toList = ([97] : List UInt8) then (if 1 < (t214.length : Int) then (joustlaw01_lives.j0 k (((rd_T48 t214 1).f1).toList != ([45] : List UInt8)) t224 t225 t226 t231 t232 t233 t238 t239 t240) else (none)) else (joustlaw01_lives.j0 k true t224 t225 t226 t231 t232 t233 t238 t239 t240)) else (none)) else (joustlaw01_lives.j0 k true t224 t225 t226 t231 t232 t233 t238 t239 t240)) else (joustlaw01_lives.j0 k true t224 t225 t226 t231 t232 t233 t238 t239 t240)) else (joustlaw01_lives.j0 k true t224 t225 t226 t231 t232 t233 t238 t239 t240)) = some true:=by rw [if_pos rfl] at H;exact H
    clear H
    have H:=H1
    clear H1
    by_cases c38 : t207 = 0
    ·rw [if_pos c38] at H
     have c38b0 : (t207 == 0) = true:=beq_iff_eq.mpr c38
     have c38b1 : (t207 != 0) = false:=bne_eq_false_iff_eq.mpr c38
     clear c38
     (first | rw [c38b0] | (simp only [i64_w,i32_w];rw [c38b0]) | skip)
     by_cases c39 : t217 = 0
     ·rw [if_pos c39] at H
      have c39b0 : (t217 == 0) = true:=beq_iff_eq.mpr c39
      have c39b1 : (t217 != 0) = false:=bne_eq_false_iff_eq.mpr c39
      clear c39
      by_cases c40 : (t214.length : Int) = 3
      ·rw [if_pos c40] at H
       have c40b0 : ((t214.length : Int) == 3) = true:=beq_iff_eq.mpr c40
       have c40b1 : ((t214.length : Int) != 3) = false:=bne_eq_false_iff_eq.mpr c40
       clear c40
       by_cases c41 : 0 < (t214.length : Int)
       ·rw [if_pos c41] at H
        have c41b0 : decide (0 < (t214.length : Int)) = true:=decide_eq_true c41
        have c41b1 : decide (0 < t214.length) = true:=decide_eq_true (by omega)
        clear c41
        by_cases c42 : ((rd_T48 t214 0).f1).toList = ([97] : List UInt8)
        ·rw [if_pos c42] at H
         have c42b0 : (((rd_T48 t214 0).f1).toList == ([97] : List UInt8)) = true:=beq_iff_eq.mpr c42
         have c42b1 : (((rd_T48 t214 0).f1).toList != ([97] : List UInt8)) = false:=bne_eq_false_iff_eq.mpr c42
         clear c42
         by_cases c43 : 1 < (t214.length : Int)
         ·rw [if_pos c43] at H
          have c43b0 : decide (1 < (t214.length : Int)) = true:=decide_eq_true c43
          have c43b1 : decide (1 < t214.length) = true:=decide_eq_true (by omega)
          clear c43
          have H':=Aside0.mk H
          clear H
          obtain ⟨Ao44,co44,eo44⟩:=Kd.R_slice HO206.out
          subst eo44
          obtain ⟨Ao45,co45,eo45⟩:=Kd.R_slice HO213.out
          subst eo45
          go_wp2_with (first | ((with_reducible refine gate_callee (f:=17) rfl ?_);refine goesL_ (some 43) rfl rfl Tryd.func17 (by kernel_rfl) rfl #[.slice Ao44 t204.length co44,.slice Ao45 y211.length co45] rfl (by (try simp only [List.map_toArray,List.map_cons,List.map_nil]);first | done | rfl | (simp only [List.length_drop,List.length_take];rfl)) ?_;(with_reducible refine (joustref00_Tokens.calls k _ _ t204 _ _ y211 true _ ?side1 ?side2 ?side3 ?side4 A34.out).mono ?_);(case side1 => refine (Kd.R_reads' (e:=48) (base:=w.heap.size) (ok:=fun k_ => (((((True ∧ some k_ ≠ (.slice Ao45 y211.length co45 : Value).ownBlock) ∧ some k_ ≠ (v215 : Value).ownBlock) ∧ some k_ ≠ (v222 : Value).ownBlock) ∧ some k_ ≠ (v229 : Value).ownBlock) ∧ some k_ ≠ (v236 : Value).ownBlock)) (n:=t204.length) (c:=co44) ?_).2.2;exact (by (with_reducible repeat (first | apply Kd.R_alloc | apply Kd.R_drewN | apply Kd.R_drew));exact (Kd.R_mono (Kd.R_far (p:=⟨gb241,2,none⟩) (Kd.R_far (p:=⟨gb241,1,none⟩) (Kd.R_far (p:=⟨gb241,0,none⟩) (Kd.R_types HO206.out BK241.out (by decide)) (fun _ hk => hk.2) (.int .i64 t238)) (fun _ hk => hk.2) (.int .i64 t239)) (fun _ hk => hk.2) (.int .i64 t240)) (fun _ h_ => h_.1))));(case side2 => exact (Kd.R_reads' HO206.out).2.1);(case side3 => refine (Kd.R_reads' (e:=48) (base:=w.heap.size) (ok:=fun k_ => (((((True ∧ some k_ ≠ (.slice Ao44 t204.length co44 : Value).ownBlock) ∧ some k_ ≠ (v215 : Value).ownBlock) ∧ some k_ ≠ (v222 : Value).ownBlock) ∧ some k_ ≠ (v229 : Value).ownBlock) ∧ some k_ ≠ (v236 : Value).ownBlock)) (n:=y211.length) (c:=co45) ?_).2.2;exact (by (with_reducible repeat (first | apply Kd.R_alloc | apply Kd.R_drewN | apply Kd.R_drew));exact (Kd.R_mono (Kd.R_far (p:=⟨gb241,2,none⟩) (Kd.R_far (p:=⟨gb241,1,none⟩) (Kd.R_far (p:=⟨gb241,0,none⟩) (Kd.R_types HO213.out BK241.out (by decide)) (fun _ hk => hk.2) (.int .i64 t238)) (fun _ hk => hk.2) (.int .i64 t239)) (fun _ hk => hk.2) (.int .i64 t240)) (fun _ h_ => h_.1))));(case side4 => exact (Kd.R_reads' HO213.out).2.1);rintro e w' ⟨rfl,⟨nd,rfl⟩⟩;refine ⟨_,rfl,?_⟩) | (go_at_call 18;(with_reducible refine (joustref00_Spots.calls k _ _ t204 _ _ y211 true _ ?side1 ?side2 ?side3 ?side4 A36.out).mono ?_);(case side1 => refine (Kd.R_reads' (e:=48) (base:=w.heap.size) (ok:=fun k_ => (((((True ∧ some k_ ≠ (.slice Ao45 y211.length co45 : Value).ownBlock) ∧ some k_ ≠ (v215 : Value).ownBlock) ∧ some k_ ≠ (v222 : Value).ownBlock) ∧ some k_ ≠ (v229 : Value).ownBlock) ∧ some k_ ≠ (v236 : Value).ownBlock)) (n:=t204.length) (c:=co44) ?_).2.2;exact (by (with_reducible repeat (first | apply Kd.R_alloc | apply Kd.R_drewN | apply Kd.R_drew));exact (Kd.R_mono (Kd.R_far (p:=⟨gb241,2,none⟩) (Kd.R_far (p:=⟨gb241,1,none⟩) (Kd.R_far (p:=⟨gb241,0,none⟩) (Kd.R_types HO206.out BK241.out (by decide)) (fun _ hk => hk.2) (.int .i64 t238)) (fun _ hk => hk.2) (.int .i64 t239)) (fun _ hk => hk.2) (.int .i64 t240)) (fun _ h_ => h_.1))));(case side2 => exact (Kd.R_reads' HO206.out).2.1);(case side3 => refine (Kd.R_reads' (e:=48) (base:=w.heap.size) (ok:=fun k_ => (((((True ∧ some k_ ≠ (.slice Ao44 t204.length co44 : Value).ownBlock) ∧ some k_ ≠ (v215 : Value).ownBlock) ∧ some k_ ≠ (v222 : Value).ownBlock) ∧ some k_ ≠ (v229 : Value).ownBlock) ∧ some k_ ≠ (v236 : Value).ownBlock)) (n:=y211.length) (c:=co45) ?_).2.2;exact (by (with_reducible repeat (first | apply Kd.R_alloc | apply Kd.R_drewN | apply Kd.R_drew));exact (Kd.R_mono (Kd.R_far (p:=⟨gb241,2,none⟩) (Kd.R_far (p:=⟨gb241,1,none⟩) (Kd.R_far (p:=⟨gb241,0,none⟩) (Kd.R_types HO213.out BK241.out (by decide)) (fun _ hk => hk.2) (.int .i64 t238)) (fun _ hk => hk.2) (.int .i64 t239)) (fun _ hk => hk.2) (.int .i64 t240)) (fun _ h_ => h_.1))));(case side4 => exact (Kd.R_reads' HO213.out).2.1);rintro e w' ⟨rfl,⟨nd,rfl⟩⟩;have hnb46:=NB210_220.out;have hnc46:=NB220_210.out;have hnb47:=NB210_227.out;have hnc47:=NB227_210.out;have hnb48:=NB210_234.out;have hnc48:=NB234_210.out;have hnb49:=NB210_241.out;have hnc49:=NB241_210.out;have hcz50_0 : w28.cell? ⟨gb210,0,none⟩ = some (.int .i64 t207):=(blk_cell BK210.out 0).trans rfl;have hcz50_1 : w28.cell? ⟨gb210,1,none⟩ = some (.int .i64 t208):=(blk_cell BK210.out 1).trans rfl;have hcz50_2 : w28.cell? ⟨gb210,2,none⟩ = some (.int .i64 t209):=(blk_cell BK210.out 2).trans rfl;have hfz50_0:=blk_frozen BK210.out 0;have hfz50_1:=blk_frozen BK210.out 1;have hfz50_2:=blk_frozen BK210.out 2;have hnb51:=NB220_227.out;have hnc51:=NB227_220.out;have hnb52:=NB220_234.out;have hnc52:=NB234_220.out;have hnb53:=NB220_241.out;have hnc53:=NB241_220.out;have hcz54_0 : w28.cell? ⟨gb220,0,none⟩ = some (.int .i64 t217):=(blk_cell BK220.out 0).trans rfl;have hcz54_1 : w28.cell? ⟨gb220,1,none⟩ = some (.int .i64 t218):=(blk_cell BK220.out 1).trans rfl;have hcz54_2 : w28.cell? ⟨gb220,2,none⟩ = some (.int .i64 t219):=(blk_cell BK220.out 2).trans rfl;have hfz54_0:=blk_frozen BK220.out 0;have hfz54_1:=blk_frozen BK220.out 1;have hfz54_2:=blk_frozen BK220.out 2;obtain ⟨Ao55,co55,eo55⟩:=Kd.R_slice HO216.out;subst eo55;have p244 : 0 ≤ (0 : Int):=(by omega);have q244 : 0 < (t214.length : Int):=of_decide_eq_true (by first | (with_reducible assumption) | assumption);obtain ⟨ad244,e244,hx244_0,hx244_1,hx244_2,hx244_3⟩:=at_T48 (Kd.R_reads' HO216.out).2.2 0 p244 q244;cases e244;have qi244 : (0 < t214.length) = True:=eq_true (by omega);(try rw [show ((0 : Int)).toNat = 0 from rfl] at hx244_0);(try rw [show 0 * 4 = 0 from rfl] at hx244_0);(try rw [Addr.add_zero'] at hx244_0);(try rw [show ((0 : Int)).toNat = 0 from rfl] at hx244_1);(try rw [show 0 * 4 = 0 from rfl] at hx244_1);(try rw [Addr.add_zero'] at hx244_1);(try rw [show ((0 : Int)).toNat = 0 from rfl] at hx244_2);(try rw [show 0 * 4 = 0 from rfl] at hx244_2);(try rw [Addr.add_zero'] at hx244_2);(try rw [show ((0 : Int)).toNat = 0 from rfl] at hx244_3);(try rw [show 0 * 4 = 0 from rfl] at hx244_3);(try rw [Addr.add_zero'] at hx244_3);have hn244_0 : ad244.block ≠ gb241:=Kd.own_blk (Kd.R_ne HO216.out BK241.out (by decide));have hn244_1 : ad244.block ≠ gb241:=Kd.own_blk (Kd.R_ne HO216.out BK241.out (by decide));have hn244_2 : ad244.block ≠ gb241:=Kd.own_blk (Kd.R_ne HO216.out BK241.out (by decide));replace hx244_0:=(cell_far (p:=⟨gb241,0,none⟩) (by first | (rw [add_block];exact hn244_0) | (show (Addr.add _ _).block ≠ _;rw [add_block];exact hn244_0) | exact hn244_0) (.int .i64 t238)).trans hx244_0;replace hx244_1:=(cell_far (p:=⟨gb241,0,none⟩) (by first | (rw [add_block];exact hn244_0) | (show (Addr.add _ _).block ≠ _;rw [add_block];exact hn244_0) | exact hn244_0) (.int .i64 t238)).trans hx244_1;replace hx244_2:=(cell_far (p:=⟨gb241,0,none⟩) (by first | (rw [add_block];exact hn244_0) | (show (Addr.add _ _).block ≠ _;rw [add_block];exact hn244_0) | exact hn244_0) (.int .i64 t238)).trans hx244_2;replace hx244_3:=(cell_far (p:=⟨gb241,0,none⟩) (by first | (rw [add_block];exact hn244_0) | (show (Addr.add _ _).block ≠ _;rw [add_block];exact hn244_0) | exact hn244_0) (.int .i64 t238)).trans hx244_3;replace hx244_0:=(cell_far (p:=⟨gb241,1,none⟩) (by first | (rw [add_block];exact hn244_1) | (show (Addr.add _ _).block ≠ _;rw [add_block];exact hn244_1) | exact hn244_1) (.int .i64 t239)).trans hx244_0;replace hx244_1:=(cell_far (p:=⟨gb241,1,none⟩) (by first | (rw [add_block];exact hn244_1) | (show (Addr.add _ _).block ≠ _;rw [add_block];exact hn244_1) | exact hn244_1) (.int .i64 t239)).trans hx244_1;replace hx244_2:=(cell_far (p:=⟨gb241,1,none⟩) (by first | (rw [add_block];exact hn244_1) | (show (Addr.add _ _).block ≠ _;rw [add_block];exact hn244_1) | exact hn244_1) (.int .i64 t239)).trans hx244_2;replace hx244_3:=(cell_far (p:=⟨gb241,1,none⟩) (by first | (rw [add_block];exact hn244_1) | (show (Addr.add _ _).block ≠ _;rw [add_block];exact hn244_1) | exact hn244_1) (.int .i64 t239)).trans hx244_3;replace hx244_0:=(cell_far (p:=⟨gb241,2,none⟩) (by first | (rw [add_block];exact hn244_2) | (show (Addr.add _ _).block ≠ _;rw [add_block];exact hn244_2) | exact hn244_2) (.int .i64 t240)).trans hx244_0;replace hx244_1:=(cell_far (p:=⟨gb241,2,none⟩) (by first | (rw [add_block];exact hn244_2) | (show (Addr.add _ _).block ≠ _;rw [add_block];exact hn244_2) | exact hn244_2) (.int .i64 t240)).trans hx244_1;replace hx244_2:=(cell_far (p:=⟨gb241,2,none⟩) (by first | (rw [add_block];exact hn244_2) | (show (Addr.add _ _).block ≠ _;rw [add_block];exact hn244_2) | exact hn244_2) (.int .i64 t240)).trans hx244_2;replace hx244_3:=(cell_far (p:=⟨gb241,2,none⟩) (by first | (rw [add_block];exact hn244_2) | (show (Addr.add _ _).block ≠ _;rw [add_block];exact hn244_2) | exact hn244_2) (.int .i64 t240)).trans hx244_3;clear hn244_0;clear hn244_1;clear hn244_2;replace p244:=eq_true p244;replace q244:=eq_true q244;have p245 : 0 ≤ (1 : Int):=(by omega);have q245 : 1 < (t214.length : Int):=of_decide_eq_true (by first | (with_reducible assumption) | assumption);obtain ⟨ad245,e245,hx245_0,hx245_1,hx245_2,hx245_3⟩:=at_T48 (Kd.R_reads' HO216.out).2.2 1 p245 q245;obtain rfl : ad244 = ad245:=(by injection e245);(try simp only [show (1 : Int).toNat = 1 from rfl,Nat.reduceMul,Nat.reduceEqDiff,Go.Addr.add,↓reduceIte] at hx245_0);(try simp only [show (1 : Int).toNat = 1 from rfl,Nat.reduceMul,Nat.reduceEqDiff,Go.Addr.add,↓reduceIte] at hx245_1);(try simp only [show (1 : Int).toNat = 1 from rfl,Nat.reduceMul,Nat.reduceEqDiff,Go.Addr.add,↓reduceIte] at hx245_2);(try simp only [show (1 : Int).toNat = 1 from rfl,Nat.reduceMul,Nat.reduceEqDiff,Go.Addr.add,↓reduceIte] at hx245_3);have qi245 : (1 < t214.length) = True:=eq_true (by omega);(try rw [show ((1 : Int)).toNat = 1 from rfl] at hx245_0);(try rw [show 1 * 4 = 4 from rfl] at hx245_0);(try rw [show ((1 : Int)).toNat = 1 from rfl] at hx245_1);(try rw [show 1 * 4 = 4 from rfl] at hx245_1);(try rw [show ((1 : Int)).toNat = 1 from rfl] at hx245_2);(try rw [show 1 * 4 = 4 from rfl] at hx245_2);(try rw [show ((1 : Int)).toNat = 1 from rfl] at hx245_3);(try rw [show 1 * 4 = 4 from rfl] at hx245_3);have hn245_0 : ad244.block ≠ gb241:=Kd.own_blk (Kd.R_ne HO216.out BK241.out (by decide));have hn245_1 : ad244.block ≠ gb241:=Kd.own_blk (Kd.R_ne HO216.out BK241.out (by decide));have hn245_2 : ad244.block ≠ gb241:=Kd.own_blk (Kd.R_ne HO216.out BK241.out (by decide));replace hx245_0:=(cell_far (p:=⟨gb241,0,none⟩) (by first | (rw [add_block];exact hn245_0) | (show (Addr.add _ _).block ≠ _;rw [add_block];exact hn245_0) | exact hn245_0) (.int .i64 t238)).trans hx245_0;replace hx245_1:=(cell_far (p:=⟨gb241,0,none⟩) (by first | (rw [add_block];exact hn245_0) | (show (Addr.add _ _).block ≠ _;rw [add_block];exact hn245_0) | exact hn245_0) (.int .i64 t238)).trans hx245_1;replace hx245_2:=(cell_far (p:=⟨gb241,0,none⟩) (by first | (rw [add_block];exact hn245_0) | (show (Addr.add _ _).block ≠ _;rw [add_block];exact hn245_0) | exact hn245_0) (.int .i64 t238)).trans hx245_2;replace hx245_3:=(cell_far (p:=⟨gb241,0,none⟩) (by first | (rw [add_block];exact hn245_0) | (show (Addr.add _ _).block ≠ _;rw [add_block];exact hn245_0) | exact hn245_0) (.int .i64 t238)).trans hx245_3;replace hx245_0:=(cell_far (p:=⟨gb241,1,none⟩) (by first | (rw [add_block];exact hn245_1) | (show (Addr.add _ _).block ≠ _;rw [add_block];exact hn245_1) | exact hn245_1) (.int .i64 t239)).trans hx245_0;replace hx245_1:=(cell_far (p:=⟨gb241,1,none⟩) (by first | (rw [add_block];exact hn245_1) | (show (Addr.add _ _).block ≠ _;rw [add_block];exact hn245_1) | exact hn245_1) (.int .i64 t239)).trans hx245_1;replace hx245_2:=(cell_far (p:=⟨gb241,1,none⟩) (by first | (rw [add_block];exact hn245_1) | (show (Addr.add _ _).block ≠ _;rw [add_block];exact hn245_1) | exact hn245_1) (.int .i64 t239)).trans hx245_2;replace hx245_3:=(cell_far (p:=⟨gb241,1,none⟩) (by first | (rw [add_block];exact hn245_1) | (show (Addr.add _ _).block ≠ _;rw [add_block];exact hn245_1) | exact hn245_1) (.int .i64 t239)).trans hx245_3;replace hx245_0:=(cell_far (p:=⟨gb241,2,none⟩) (by first | (rw [add_block];exact hn245_2) | (show (Addr.add _ _).block ≠ _;rw [add_block];exact hn245_2) | exact hn245_2) (.int .i64 t240)).trans hx245_0;replace hx245_1:=(cell_far (p:=⟨gb241,2,none⟩) (by first | (rw [add_block];exact hn245_2) | (show (Addr.add _ _).block ≠ _;rw [add_block];exact hn245_2) | exact hn245_2) (.int .i64 t240)).trans hx245_1;replace hx245_2:=(cell_far (p:=⟨gb241,2,none⟩) (by first | (rw [add_block];exact hn245_2) | (show (Addr.add _ _).block ≠ _;rw [add_block];exact hn245_2) | exact hn245_2) (.int .i64 t240)).trans hx245_2;replace hx245_3:=(cell_far (p:=⟨gb241,2,none⟩) (by first | (rw [add_block];exact hn245_2) | (show (Addr.add _ _).block ≠ _;rw [add_block];exact hn245_2) | exact hn245_2) (.int .i64 t240)).trans hx245_3;clear hn245_0;clear hn245_1;clear hn245_2;replace p245:=eq_true p245;replace q245:=eq_true q245))
          go_meet
          case rel => exact ⟨_,((((rd_T48 t214 1).f1).toList != ([45] : List UInt8))),(by first | rfl | (simp;done) | (simp [*];done)),H',⟨by first | omega | exact Nat.le_refl _⟩,⟨by (with_reducible repeat (first | refine blk_drewN ?_ _ | refine blk_drew ?_ | refine blk_alloc ?_ _));refine blk_far ?_ NB210_241.out _;(with_reducible repeat (first | refine blk_drewN ?_ _ | refine blk_drew ?_ | refine blk_alloc ?_ _));refine blk_far ?_ NB210_241.out _;(with_reducible repeat (first | refine blk_drewN ?_ _ | refine blk_drew ?_ | refine blk_alloc ?_ _));refine blk_far ?_ NB210_241.out _;(with_reducible repeat (first | refine blk_drewN ?_ _ | refine blk_drew ?_ | refine blk_alloc ?_ _));exact BK210.out⟩,⟨by (with_reducible repeat (first | refine blk_drewN ?_ _ | refine blk_drew ?_ | refine blk_alloc ?_ _));refine blk_far ?_ NB220_241.out _;(with_reducible repeat (first | refine blk_drewN ?_ _ | refine blk_drew ?_ | refine blk_alloc ?_ _));refine blk_far ?_ NB220_241.out _;(with_reducible repeat (first | refine blk_drewN ?_ _ | refine blk_drew ?_ | refine blk_alloc ?_ _));refine blk_far ?_ NB220_241.out _;(with_reducible repeat (first | refine blk_drewN ?_ _ | refine blk_drew ?_ | refine blk_alloc ?_ _));exact BK220.out⟩,⟨by (with_reducible repeat (first | refine blk_drewN ?_ _ | refine blk_drew ?_ | refine blk_alloc ?_ _));refine blk_far ?_ NB227_241.out _;(with_reducible repeat (first | refine blk_drewN ?_ _ | refine blk_drew ?_ | refine blk_alloc ?_ _));refine blk_far ?_ NB227_241.out _;(with_reducible repeat (first | refine blk_drewN ?_ _ | refine blk_drew ?_ | refine blk_alloc ?_ _));refine blk_far ?_ NB227_241.out _;(with_reducible repeat (first | refine blk_drewN ?_ _ | refine blk_drew ?_ | refine blk_alloc ?_ _));exact BK227.out⟩,⟨by (with_reducible repeat (first | refine blk_drewN ?_ _ | refine blk_drew ?_ | refine blk_alloc ?_ _));refine blk_far ?_ NB234_241.out _;(with_reducible repeat (first | refine blk_drewN ?_ _ | refine blk_drew ?_ | refine blk_alloc ?_ _));refine blk_far ?_ NB234_241.out _;(with_reducible repeat (first | refine blk_drewN ?_ _ | refine blk_drew ?_ | refine blk_alloc ?_ _));refine blk_far ?_ NB234_241.out _;(with_reducible repeat (first | refine blk_drewN ?_ _ | refine blk_drew ?_ | refine blk_alloc ?_ _));exact BK234.out⟩,⟨by (with_reducible repeat (first | refine blk_drewN ?_ _ | refine blk_drew ?_ | refine blk_alloc ?_ _));refine blk_put (cs:=#[.int .i64 t238,.int .i64 t239,.int .i64 0]) ?_ 2 _ rfl;(with_reducible repeat (first | refine blk_drewN ?_ _ | refine blk_drew ?_ | refine blk_alloc ?_ _));refine blk_put (cs:=#[.int .i64 t238,.int .i64 0,.int .i64 0]) ?_ 1 _ rfl;(with_reducible repeat (first | refine blk_drewN ?_ _ | refine blk_drew ?_ | refine blk_alloc ?_ _));refine blk_put (cs:=#[.int .i64 0,.int .i64 0,.int .i64 0]) ?_ 0 _ rfl;(with_reducible repeat (first | refine blk_drewN ?_ _ | refine blk_drew ?_ | refine blk_alloc ?_ _));exact BK241.out⟩,⟨by repeat (first | (with_reducible first | exact HB.out | apply below_alloc | apply pw_below_drewN | apply below_drew1 | refine below_set ?_ GE210.out | refine below_set ?_ GE220.out | refine below_set ?_ GE227.out | refine below_set ?_ GE234.out | refine below_set ?_ GE241.out) | exact HB.out)⟩⟩
         ·rw [if_neg c43] at H
          exact absurd H (by simp)
        ·rw [if_neg c42] at H
         have c42b0 : (((rd_T48 t214 0).f1).toList == ([97] : List UInt8)) = false:=beq_eq_false_iff_ne.mpr c42
         have c42b1 : (((rd_T48 t214 0).f1).toList != ([97] : List UInt8)) = true:=bne_iff_ne.mpr c42
         have H':=Aside0.mk H
         clear H
         obtain ⟨Ao56,co56,eo56⟩:=Kd.R_slice HO206.out
         subst eo56
         obtain ⟨Ao57,co57,eo57⟩:=Kd.R_slice HO213.out
         subst eo57
         go_wp2_with (first | ((with_reducible refine gate_callee (f:=17) rfl ?_);refine goesL_ (some 43) rfl rfl Tryd.func17 (by kernel_rfl) rfl #[.slice Ao56 t204.length co56,.slice Ao57 y211.length co57] rfl (by (try simp only [List.map_toArray,List.map_cons,List.map_nil]);first | done | rfl | (simp only [List.length_drop,List.length_take];rfl)) ?_;(with_reducible refine (joustref00_Tokens.calls k _ _ t204 _ _ y211 true _ ?side1 ?side2 ?side3 ?side4 A34.out).mono ?_);(case side1 => refine (Kd.R_reads' (e:=48) (base:=w.heap.size) (ok:=fun k_ => (((((True ∧ some k_ ≠ (.slice Ao57 y211.length co57 : Value).ownBlock) ∧ some k_ ≠ (v215 : Value).ownBlock) ∧ some k_ ≠ (v222 : Value).ownBlock) ∧ some k_ ≠ (v229 : Value).ownBlock) ∧ some k_ ≠ (v236 : Value).ownBlock)) (n:=t204.length) (c:=co56) ?_).2.2;exact (by (with_reducible repeat (first | apply Kd.R_alloc | apply Kd.R_drewN | apply Kd.R_drew));exact (Kd.R_mono (Kd.R_far (p:=⟨gb241,2,none⟩) (Kd.R_far (p:=⟨gb241,1,none⟩) (Kd.R_far (p:=⟨gb241,0,none⟩) (Kd.R_types HO206.out BK241.out (by decide)) (fun _ hk => hk.2) (.int .i64 t238)) (fun _ hk => hk.2) (.int .i64 t239)) (fun _ hk => hk.2) (.int .i64 t240)) (fun _ h_ => h_.1))));(case side2 => exact (Kd.R_reads' HO206.out).2.1);(case side3 => refine (Kd.R_reads' (e:=48) (base:=w.heap.size) (ok:=fun k_ => (((((True ∧ some k_ ≠ (.slice Ao56 t204.length co56 : Value).ownBlock) ∧ some k_ ≠ (v215 : Value).ownBlock) ∧ some k_ ≠ (v222 : Value).ownBlock) ∧ some k_ ≠ (v229 : Value).ownBlock) ∧ some k_ ≠ (v236 : Value).ownBlock)) (n:=y211.length) (c:=co57) ?_).2.2;exact (by (with_reducible repeat (first | apply Kd.R_alloc | apply Kd.R_drewN | apply Kd.R_drew));exact (Kd.R_mono (Kd.R_far (p:=⟨gb241,2,none⟩) (Kd.R_far (p:=⟨gb241,1,none⟩) (Kd.R_far (p:=⟨gb241,0,none⟩) (Kd.R_types HO213.out BK241.out (by decide)) (fun _ hk => hk.2) (.int .i64 t238)) (fun _ hk => hk.2) (.int .i64 t239)) (fun _ hk => hk.2) (.int .i64 t240)) (fun _ h_ => h_.1))));(case side4 => exact (Kd.R_reads' HO213.out).2.1);rintro e w' ⟨rfl,⟨nd,rfl⟩⟩;refine ⟨_,rfl,?_⟩) | (go_at_call 18;(with_reducible refine (joustref00_Spots.calls k _ _ t204 _ _ y211 true _ ?side1 ?side2 ?side3 ?side4 A36.out).mono ?_);(case side1 => refine (Kd.R_reads' (e:=48) (base:=w.heap.size) (ok:=fun k_ => (((((True ∧ some k_ ≠ (.slice Ao57 y211.length co57 : Value).ownBlock) ∧ some k_ ≠ (v215 : Value).ownBlock) ∧ some k_ ≠ (v222 : Value).ownBlock) ∧ some k_ ≠ (v229 : Value).ownBlock) ∧ some k_ ≠ (v236 : Value).ownBlock)) (n:=t204.length) (c:=co56) ?_).2.2;exact (by (with_reducible repeat (first | apply Kd.R_alloc | apply Kd.R_drewN | apply Kd.R_drew));exact (Kd.R_mono (Kd.R_far (p:=⟨gb241,2,none⟩) (Kd.R_far (p:=⟨gb241,1,none⟩) (Kd.R_far (p:=⟨gb241,0,none⟩) (Kd.R_types HO206.out BK241.out (by decide)) (fun _ hk => hk.2) (.int .i64 t238)) (fun _ hk => hk.2) (.int .i64 t239)) (fun _ hk => hk.2) (.int .i64 t240)) (fun _ h_ => h_.1))));(case side2 => exact (Kd.R_reads' HO206.out).2.1);(case side3 => refine (Kd.R_reads' (e:=48) (base:=w.heap.size) (ok:=fun k_ => (((((True ∧ some k_ ≠ (.slice Ao56 t204.length co56 : Value).ownBlock) ∧ some k_ ≠ (v215 : Value).ownBlock) ∧ some k_ ≠ (v222 : Value).ownBlock) ∧ some k_ ≠ (v229 : Value).ownBlock) ∧ some k_ ≠ (v236 : Value).ownBlock)) (n:=y211.length) (c:=co57) ?_).2.2;exact (by (with_reducible repeat (first | apply Kd.R_alloc | apply Kd.R_drewN | apply Kd.R_drew));exact (Kd.R_mono (Kd.R_far (p:=⟨gb241,2,none⟩) (Kd.R_far (p:=⟨gb241,1,none⟩) (Kd.R_far (p:=⟨gb241,0,none⟩) (Kd.R_types HO213.out BK241.out (by decide)) (fun _ hk => hk.2) (.int .i64 t238)) (fun _ hk => hk.2) (.int .i64 t239)) (fun _ hk => hk.2) (.int .i64 t240)) (fun _ h_ => h_.1))));(case side4 => exact (Kd.R_reads' HO213.out).2.1);rintro e w' ⟨rfl,⟨nd,rfl⟩⟩;have hnb58:=NB210_220.out;have hnc58:=NB220_210.out;have hnb59:=NB210_227.out;have hnc59:=NB227_210.out;have hnb60:=NB210_234.out;have hnc60:=NB234_210.out;have hnb61:=NB210_241.out;have hnc61:=NB241_210.out;have hcz62_0 : w28.cell? ⟨gb210,0,none⟩ = some (.int .i64 t207):=(blk_cell BK210.out 0).trans rfl;have hcz62_1 : w28.cell? ⟨gb210,1,none⟩ = some (.int .i64 t208):=(blk_cell BK210.out 1).trans rfl;have hcz62_2 : w28.cell? ⟨gb210,2,none⟩ = some (.int .i64 t209):=(blk_cell BK210.out 2).trans rfl;have hfz62_0:=blk_frozen BK210.out 0;have hfz62_1:=blk_frozen BK210.out 1;have hfz62_2:=blk_frozen BK210.out 2;have hnb63:=NB220_227.out;have hnc63:=NB227_220.out;have hnb64:=NB220_234.out;have hnc64:=NB234_220.out;have hnb65:=NB220_241.out;have hnc65:=NB241_220.out;have hcz66_0 : w28.cell? ⟨gb220,0,none⟩ = some (.int .i64 t217):=(blk_cell BK220.out 0).trans rfl;have hcz66_1 : w28.cell? ⟨gb220,1,none⟩ = some (.int .i64 t218):=(blk_cell BK220.out 1).trans rfl;have hcz66_2 : w28.cell? ⟨gb220,2,none⟩ = some (.int .i64 t219):=(blk_cell BK220.out 2).trans rfl;have hfz66_0:=blk_frozen BK220.out 0;have hfz66_1:=blk_frozen BK220.out 1;have hfz66_2:=blk_frozen BK220.out 2;obtain ⟨Ao67,co67,eo67⟩:=Kd.R_slice HO216.out;subst eo67;have p244 : 0 ≤ (0 : Int):=(by omega);have q244 : 0 < (t214.length : Int):=of_decide_eq_true (by first | (with_reducible assumption) | assumption);obtain ⟨ad244,e244,hx244_0,hx244_1,hx244_2,hx244_3⟩:=at_T48 (Kd.R_reads' HO216.out).2.2 0 p244 q244;cases e244;have qi244 : (0 < t214.length) = True:=eq_true (by omega);(try rw [show ((0 : Int)).toNat = 0 from rfl] at hx244_0);(try rw [show 0 * 4 = 0 from rfl] at hx244_0);(try rw [Addr.add_zero'] at hx244_0);(try rw [show ((0 : Int)).toNat = 0 from rfl] at hx244_1);(try rw [show 0 * 4 = 0 from rfl] at hx244_1);(try rw [Addr.add_zero'] at hx244_1);(try rw [show ((0 : Int)).toNat = 0 from rfl] at hx244_2);(try rw [show 0 * 4 = 0 from rfl] at hx244_2);(try rw [Addr.add_zero'] at hx244_2);(try rw [show ((0 : Int)).toNat = 0 from rfl] at hx244_3);(try rw [show 0 * 4 = 0 from rfl] at hx244_3);(try rw [Addr.add_zero'] at hx244_3);have hn244_0 : ad244.block ≠ gb241:=Kd.own_blk (Kd.R_ne HO216.out BK241.out (by decide));have hn244_1 : ad244.block ≠ gb241:=Kd.own_blk (Kd.R_ne HO216.out BK241.out (by decide));have hn244_2 : ad244.block ≠ gb241:=Kd.own_blk (Kd.R_ne HO216.out BK241.out (by decide));replace hx244_0:=(cell_far (p:=⟨gb241,0,none⟩) (by first | (rw [add_block];exact hn244_0) | (show (Addr.add _ _).block ≠ _;rw [add_block];exact hn244_0) | exact hn244_0) (.int .i64 t238)).trans hx244_0;replace hx244_1:=(cell_far (p:=⟨gb241,0,none⟩) (by first | (rw [add_block];exact hn244_0) | (show (Addr.add _ _).block ≠ _;rw [add_block];exact hn244_0) | exact hn244_0) (.int .i64 t238)).trans hx244_1;replace hx244_2:=(cell_far (p:=⟨gb241,0,none⟩) (by first | (rw [add_block];exact hn244_0) | (show (Addr.add _ _).block ≠ _;rw [add_block];exact hn244_0) | exact hn244_0) (.int .i64 t238)).trans hx244_2;replace hx244_3:=(cell_far (p:=⟨gb241,0,none⟩) (by first | (rw [add_block];exact hn244_0) | (show (Addr.add _ _).block ≠ _;rw [add_block];exact hn244_0) | exact hn244_0) (.int .i64 t238)).trans hx244_3;replace hx244_0:=(cell_far (p:=⟨gb241,1,none⟩) (by first | (rw [add_block];exact hn244_1) | (show (Addr.add _ _).block ≠ _;rw [add_block];exact hn244_1) | exact hn244_1) (.int .i64 t239)).trans hx244_0;replace hx244_1:=(cell_far (p:=⟨gb241,1,none⟩) (by first | (rw [add_block];exact hn244_1) | (show (Addr.add _ _).block ≠ _;rw [add_block];exact hn244_1) | exact hn244_1) (.int .i64 t239)).trans hx244_1;replace hx244_2:=(cell_far (p:=⟨gb241,1,none⟩) (by first | (rw [add_block];exact hn244_1) | (show (Addr.add _ _).block ≠ _;rw [add_block];exact hn244_1) | exact hn244_1) (.int .i64 t239)).trans hx244_2;replace hx244_3:=(cell_far (p:=⟨gb241,1,none⟩) (by first | (rw [add_block];exact hn244_1) | (show (Addr.add _ _).block ≠ _;rw [add_block];exact hn244_1) | exact hn244_1) (.int .i64 t239)).trans hx244_3;replace hx244_0:=(cell_far (p:=⟨gb241,2,none⟩) (by first | (rw [add_block];exact hn244_2) | (show (Addr.add _ _).block ≠ _;rw [add_block];exact hn244_2) | exact hn244_2) (.int .i64 t240)).trans hx244_0;replace hx244_1:=(cell_far (p:=⟨gb241,2,none⟩) (by first | (rw [add_block];exact hn244_2) | (show (Addr.add _ _).block ≠ _;rw [add_block];exact hn244_2) | exact hn244_2) (.int .i64 t240)).trans hx244_1;replace hx244_2:=(cell_far (p:=⟨gb241,2,none⟩) (by first | (rw [add_block];exact hn244_2) | (show (Addr.add _ _).block ≠ _;rw [add_block];exact hn244_2) | exact hn244_2) (.int .i64 t240)).trans hx244_2;replace hx244_3:=(cell_far (p:=⟨gb241,2,none⟩) (by first | (rw [add_block];exact hn244_2) | (show (Addr.add _ _).block ≠ _;rw [add_block];exact hn244_2) | exact hn244_2) (.int .i64 t240)).trans hx244_3;clear hn244_0;clear hn244_1;clear hn244_2;replace p244:=eq_true p244;replace q244:=eq_true q244))
         go_meet
         case rel => exact ⟨_,(true),(by first | rfl | (simp;done) | (simp [*];done)),H',⟨by first | omega | exact Nat.le_refl _⟩,⟨by (with_reducible repeat (first | refine blk_drewN ?_ _ | refine blk_drew ?_ | refine blk_alloc ?_ _));refine blk_far ?_ NB210_241.out _;(with_reducible repeat (first | refine blk_drewN ?_ _ | refine blk_drew ?_ | refine blk_alloc ?_ _));refine blk_far ?_ NB210_241.out _;(with_reducible repeat (first | refine blk_drewN ?_ _ | refine blk_drew ?_ | refine blk_alloc ?_ _));refine blk_far ?_ NB210_241.out _;(with_reducible repeat (first | refine blk_drewN ?_ _ | refine blk_drew ?_ | refine blk_alloc ?_ _));exact BK210.out⟩,⟨by (with_reducible repeat (first | refine blk_drewN ?_ _ | refine blk_drew ?_ | refine blk_alloc ?_ _));refine blk_far ?_ NB220_241.out _;(with_reducible repeat (first | refine blk_drewN ?_ _ | refine blk_drew ?_ | refine blk_alloc ?_ _));refine blk_far ?_ NB220_241.out _;(with_reducible repeat (first | refine blk_drewN ?_ _ | refine blk_drew ?_ | refine blk_alloc ?_ _));refine blk_far ?_ NB220_241.out _;(with_reducible repeat (first | refine blk_drewN ?_ _ | refine blk_drew ?_ | refine blk_alloc ?_ _));exact BK220.out⟩,⟨by (with_reducible repeat (first | refine blk_drewN ?_ _ | refine blk_drew ?_ | refine blk_alloc ?_ _));refine blk_far ?_ NB227_241.out _;(with_reducible repeat (first | refine blk_drewN ?_ _ | refine blk_drew ?_ | refine blk_alloc ?_ _));refine blk_far ?_ NB227_241.out _;(with_reducible repeat (first | refine blk_drewN ?_ _ | refine blk_drew ?_ | refine blk_alloc ?_ _));refine blk_far ?_ NB227_241.out _;(with_reducible repeat (first | refine blk_drewN ?_ _ | refine blk_drew ?_ | refine blk_alloc ?_ _));exact BK227.out⟩,⟨by (with_reducible repeat (first | refine blk_drewN ?_ _ | refine blk_drew ?_ | refine blk_alloc ?_ _));refine blk_far ?_ NB234_241.out _;(with_reducible repeat (first | refine blk_drewN ?_ _ | refine blk_drew ?_ | refine blk_alloc ?_ _));refine blk_far ?_ NB234_241.out _;(with_reducible repeat (first | refine blk_drewN ?_ _ | refine blk_drew ?_ | refine blk_alloc ?_ _));refine blk_far ?_ NB234_241.out _;(with_reducible repeat (first | refine blk_drewN ?_ _ | refine blk_drew ?_ | refine blk_alloc ?_ _));exact BK234.out⟩,⟨by (with_reducible repeat (first | refine blk_drewN ?_ _ | refine blk_drew ?_ | refine blk_alloc ?_ _));refine blk_put (cs:=#[.int .i64 t238,.int .i64 t239,.int .i64 0]) ?_ 2 _ rfl;(with_reducible repeat (first | refine blk_drewN ?_ _ | refine blk_drew ?_ | refine blk_alloc ?_ _));refine blk_put (cs:=#[.int .i64 t238,.int .i64 0,.int .i64 0]) ?_ 1 _ rfl;(with_reducible repeat (first | refine blk_drewN ?_ _ | refine blk_drew ?_ | refine blk_alloc ?_ _));refine blk_put (cs:=#[.int .i64 0,.int .i64 0,.int .i64 0]) ?_ 0 _ rfl;(with_reducible repeat (first | refine blk_drewN ?_ _ | refine blk_drew ?_ | refine blk_alloc ?_ _));exact BK241.out⟩,⟨by repeat (first | (with_reducible first | exact HB.out | apply below_alloc | apply pw_below_drewN | apply below_drew1 | refine below_set ?_ GE210.out | refine below_set ?_ GE220.out | refine below_set ?_ GE227.out | refine below_set ?_ GE234.out | refine below_set ?_ GE241.out) | exact HB.out)⟩⟩
       ·rw [if_neg c41] at H
        exact absurd H (by simp)
      ·rw [if_neg c40] at H
       have c40b0 : ((t214.length : Int) == 3) = false:=beq_eq_false_iff_ne.mpr c40
       have c40b1 : ((t214.length : Int) != 3) = true:=bne_iff_ne.mpr c40
       have H':=Aside0.mk H
       clear H
       obtain ⟨Ao68,co68,eo68⟩:=Kd.R_slice HO206.out
       subst eo68
       obtain ⟨Ao69,co69,eo69⟩:=Kd.R_slice HO213.out
       subst eo69
       go_wp2_with (first | ((with_reducible refine gate_callee (f:=17) rfl ?_);refine goesL_ (some 43) rfl rfl Tryd.func17 (by kernel_rfl) rfl #[.slice Ao68 t204.length co68,.slice Ao69 y211.length co69] rfl (by (try simp only [List.map_toArray,List.map_cons,List.map_nil]);first | done | rfl | (simp only [List.length_drop,List.length_take];rfl)) ?_;(with_reducible refine (joustref00_Tokens.calls k _ _ t204 _ _ y211 true _ ?side1 ?side2 ?side3 ?side4 A34.out).mono ?_);(case side1 => refine (Kd.R_reads' (e:=48) (base:=w.heap.size) (ok:=fun k_ => (((((True ∧ some k_ ≠ (.slice Ao69 y211.length co69 : Value).ownBlock) ∧ some k_ ≠ (v215 : Value).ownBlock) ∧ some k_ ≠ (v222 : Value).ownBlock) ∧ some k_ ≠ (v229 : Value).ownBlock) ∧ some k_ ≠ (v236 : Value).ownBlock)) (n:=t204.length) (c:=co68) ?_).2.2;exact (by (with_reducible repeat (first | apply Kd.R_alloc | apply Kd.R_drewN | apply Kd.R_drew));exact (Kd.R_mono (Kd.R_far (p:=⟨gb241,2,none⟩) (Kd.R_far (p:=⟨gb241,1,none⟩) (Kd.R_far (p:=⟨gb241,0,none⟩) (Kd.R_types HO206.out BK241.out (by decide)) (fun _ hk => hk.2) (.int .i64 t238)) (fun _ hk => hk.2) (.int .i64 t239)) (fun _ hk => hk.2) (.int .i64 t240)) (fun _ h_ => h_.1))));(case side2 => exact (Kd.R_reads' HO206.out).2.1);(case side3 => refine (Kd.R_reads' (e:=48) (base:=w.heap.size) (ok:=fun k_ => (((((True ∧ some k_ ≠ (.slice Ao68 t204.length co68 : Value).ownBlock) ∧ some k_ ≠ (v215 : Value).ownBlock) ∧ some k_ ≠ (v222 : Value).ownBlock) ∧ some k_ ≠ (v229 : Value).ownBlock) ∧ some k_ ≠ (v236 : Value).ownBlock)) (n:=y211.length) (c:=co69) ?_).2.2;exact (by (with_reducible repeat (first | apply Kd.R_alloc | apply Kd.R_drewN | apply Kd.R_drew));exact (Kd.R_mono (Kd.R_far (p:=⟨gb241,2,none⟩) (Kd.R_far (p:=⟨gb241,1,none⟩) (Kd.R_far (p:=⟨gb241,0,none⟩) (Kd.R_types HO213.out BK241.out (by decide)) (fun _ hk => hk.2) (.int .i64 t238)) (fun _ hk => hk.2) (.int .i64 t239)) (fun _ hk => hk.2) (.int .i64 t240)) (fun _ h_ => h_.1))));(case side4 => exact (Kd.R_reads' HO213.out).2.1);rintro e w' ⟨rfl,⟨nd,rfl⟩⟩;refine ⟨_,rfl,?_⟩) | (go_at_call 18;(with_reducible refine (joustref00_Spots.calls k _ _ t204 _ _ y211 true _ ?side1 ?side2 ?side3 ?side4 A36.out).mono ?_);(case side1 => refine (Kd.R_reads' (e:=48) (base:=w.heap.size) (ok:=fun k_ => (((((True ∧ some k_ ≠ (.slice Ao69 y211.length co69 : Value).ownBlock) ∧ some k_ ≠ (v215 : Value).ownBlock) ∧ some k_ ≠ (v222 : Value).ownBlock) ∧ some k_ ≠ (v229 : Value).ownBlock) ∧ some k_ ≠ (v236 : Value).ownBlock)) (n:=t204.length) (c:=co68) ?_).2.2;exact (by (with_reducible repeat (first | apply Kd.R_alloc | apply Kd.R_drewN | apply Kd.R_drew));exact (Kd.R_mono (Kd.R_far (p:=⟨gb241,2,none⟩) (Kd.R_far (p:=⟨gb241,1,none⟩) (Kd.R_far (p:=⟨gb241,0,none⟩) (Kd.R_types HO206.out BK241.out (by decide)) (fun _ hk => hk.2) (.int .i64 t238)) (fun _ hk => hk.2) (.int .i64 t239)) (fun _ hk => hk.2) (.int .i64 t240)) (fun _ h_ => h_.1))));(case side2 => exact (Kd.R_reads' HO206.out).2.1);(case side3 => refine (Kd.R_reads' (e:=48) (base:=w.heap.size) (ok:=fun k_ => (((((True ∧ some k_ ≠ (.slice Ao68 t204.length co68 : Value).ownBlock) ∧ some k_ ≠ (v215 : Value).ownBlock) ∧ some k_ ≠ (v222 : Value).ownBlock) ∧ some k_ ≠ (v229 : Value).ownBlock) ∧ some k_ ≠ (v236 : Value).ownBlock)) (n:=y211.length) (c:=co69) ?_).2.2;exact (by (with_reducible repeat (first | apply Kd.R_alloc | apply Kd.R_drewN | apply Kd.R_drew));exact (Kd.R_mono (Kd.R_far (p:=⟨gb241,2,none⟩) (Kd.R_far (p:=⟨gb241,1,none⟩) (Kd.R_far (p:=⟨gb241,0,none⟩) (Kd.R_types HO213.out BK241.out (by decide)) (fun _ hk => hk.2) (.int .i64 t238)) (fun _ hk => hk.2) (.int .i64 t239)) (fun _ hk => hk.2) (.int .i64 t240)) (fun _ h_ => h_.1))));(case side4 => exact (Kd.R_reads' HO213.out).2.1);rintro e w' ⟨rfl,⟨nd,rfl⟩⟩;have hnb70:=NB210_220.out;have hnc70:=NB220_210.out;have hnb71:=NB210_227.out;have hnc71:=NB227_210.out;have hnb72:=NB210_234.out;have hnc72:=NB234_210.out;have hnb73:=NB210_241.out;have hnc73:=NB241_210.out;have hcz74_0 : w28.cell? ⟨gb210,0,none⟩ = some (.int .i64 t207):=(blk_cell BK210.out 0).trans rfl;have hcz74_1 : w28.cell? ⟨gb210,1,none⟩ = some (.int .i64 t208):=(blk_cell BK210.out 1).trans rfl;have hcz74_2 : w28.cell? ⟨gb210,2,none⟩ = some (.int .i64 t209):=(blk_cell BK210.out 2).trans rfl;have hfz74_0:=blk_frozen BK210.out 0;have hfz74_1:=blk_frozen BK210.out 1;have hfz74_2:=blk_frozen BK210.out 2;have hnb75:=NB220_227.out;have hnc75:=NB227_220.out;have hnb76:=NB220_234.out;have hnc76:=NB234_220.out;have hnb77:=NB220_241.out;have hnc77:=NB241_220.out;have hcz78_0 : w28.cell? ⟨gb220,0,none⟩ = some (.int .i64 t217):=(blk_cell BK220.out 0).trans rfl;have hcz78_1 : w28.cell? ⟨gb220,1,none⟩ = some (.int .i64 t218):=(blk_cell BK220.out 1).trans rfl;have hcz78_2 : w28.cell? ⟨gb220,2,none⟩ = some (.int .i64 t219):=(blk_cell BK220.out 2).trans rfl;have hfz78_0:=blk_frozen BK220.out 0;have hfz78_1:=blk_frozen BK220.out 1;have hfz78_2:=blk_frozen BK220.out 2;obtain ⟨Ao79,co79,eo79⟩:=Kd.R_slice HO216.out;subst eo79))
       go_meet
       case rel => exact ⟨_,(true),(by first | rfl | (simp;done) | (simp [*];done)),H',⟨by first | omega | exact Nat.le_refl _⟩,⟨by (with_reducible repeat (first | refine blk_drewN ?_ _ | refine blk_drew ?_ | refine blk_alloc ?_ _));refine blk_far ?_ NB210_241.out _;(with_reducible repeat (first | refine blk_drewN ?_ _ | refine blk_drew ?_ | refine blk_alloc ?_ _));refine blk_far ?_ NB210_241.out _;(with_reducible repeat (first | refine blk_drewN ?_ _ | refine blk_drew ?_ | refine blk_alloc ?_ _));refine blk_far ?_ NB210_241.out _;(with_reducible repeat (first | refine blk_drewN ?_ _ | refine blk_drew ?_ | refine blk_alloc ?_ _));exact BK210.out⟩,⟨by (with_reducible repeat (first | refine blk_drewN ?_ _ | refine blk_drew ?_ | refine blk_alloc ?_ _));refine blk_far ?_ NB220_241.out _;(with_reducible repeat (first | refine blk_drewN ?_ _ | refine blk_drew ?_ | refine blk_alloc ?_ _));refine blk_far ?_ NB220_241.out _;(with_reducible repeat (first | refine blk_drewN ?_ _ | refine blk_drew ?_ | refine blk_alloc ?_ _));refine blk_far ?_ NB220_241.out _;(with_reducible repeat (first | refine blk_drewN ?_ _ | refine blk_drew ?_ | refine blk_alloc ?_ _));exact BK220.out⟩,⟨by (with_reducible repeat (first | refine blk_drewN ?_ _ | refine blk_drew ?_ | refine blk_alloc ?_ _));refine blk_far ?_ NB227_241.out _;(with_reducible repeat (first | refine blk_drewN ?_ _ | refine blk_drew ?_ | refine blk_alloc ?_ _));refine blk_far ?_ NB227_241.out _;(with_reducible repeat (first | refine blk_drewN ?_ _ | refine blk_drew ?_ | refine blk_alloc ?_ _));refine blk_far ?_ NB227_241.out _;(with_reducible repeat (first | refine blk_drewN ?_ _ | refine blk_drew ?_ | refine blk_alloc ?_ _));exact BK227.out⟩,⟨by (with_reducible repeat (first | refine blk_drewN ?_ _ | refine blk_drew ?_ | refine blk_alloc ?_ _));refine blk_far ?_ NB234_241.out _;(with_reducible repeat (first | refine blk_drewN ?_ _ | refine blk_drew ?_ | refine blk_alloc ?_ _));refine blk_far ?_ NB234_241.out _;(with_reducible repeat (first | refine blk_drewN ?_ _ | refine blk_drew ?_ | refine blk_alloc ?_ _));refine blk_far ?_ NB234_241.out _;(with_reducible repeat (first | refine blk_drewN ?_ _ | refine blk_drew ?_ | refine blk_alloc ?_ _));exact BK234.out⟩,⟨by (with_reducible repeat (first | refine blk_drewN ?_ _ | refine blk_drew ?_ | refine blk_alloc ?_ _));refine blk_put (cs:=#[.int .i64 t238,.int .i64 t239,.int .i64 0]) ?_ 2 _ rfl;(with_reducible repeat (first | refine blk_drewN ?_ _ | refine blk_drew ?_ | refine blk_alloc ?_ _));refine blk_put (cs:=#[.int .i64 t238,.int .i64 0,.int .i64 0]) ?_ 1 _ rfl;(with_reducible repeat (first | refine blk_drewN ?_ _ | refine blk_drew ?_ | refine blk_alloc ?_ _));refine blk_put (cs:=#[.int .i64 0,.int .i64 0,.int .i64 0]) ?_ 0 _ rfl;(with_reducible repeat (first | refine blk_drewN ?_ _ | refine blk_drew ?_ | refine blk_alloc ?_ _));exact BK241.out⟩,⟨by repeat (first | (with_reducible first | exact HB.out | apply below_alloc | apply pw_below_drewN | apply below_drew1 | refine below_set ?_ GE210.out | refine below_set ?_ GE220.out | refine below_set ?_ GE227.out | refine below_set ?_ GE234.out | refine below_set ?_ GE241.out) | exact HB.out)⟩⟩
     ·rw [if_neg c39] at H
      have c39b0 : (t217 == 0) = false:=beq_eq_false_iff_ne.mpr c39
      have c39b1 : (t217 != 0) = true:=bne_iff_ne.mpr c39
      have H':=Aside0.mk H
      clear H
      obtain ⟨Ao80,co80,eo80⟩:=Kd.R_slice HO206.out
      subst eo80
      obtain ⟨Ao81,co81,eo81⟩:=Kd.R_slice HO213.out
      subst eo81
      go_wp2_with (first | ((with_reducible refine gate_callee (f:=17) rfl ?_);refine goesL_ (some 43) rfl rfl Tryd.func17 (by kernel_rfl) rfl #[.slice Ao80 t204.length co80,.slice Ao81 y211.length co81] rfl (by (try simp only [List.map_toArray,List.map_cons,List.map_nil]);first | done | rfl | (simp only [List.length_drop,List.length_take];rfl)) ?_;(with_reducible refine (joustref00_Tokens.calls k _ _ t204 _ _ y211 true _ ?side1 ?side2 ?side3 ?side4 A34.out).mono ?_);(case side1 => refine (Kd.R_reads' (e:=48) (base:=w.heap.size) (ok:=fun k_ => (((((True ∧ some k_ ≠ (.slice Ao81 y211.length co81 : Value).ownBlock) ∧ some k_ ≠ (v215 : Value).ownBlock) ∧ some k_ ≠ (v222 : Value).ownBlock) ∧ some k_ ≠ (v229 : Value).ownBlock) ∧ some k_ ≠ (v236 : Value).ownBlock)) (n:=t204.length) (c:=co80) ?_).2.2;exact (by (with_reducible repeat (first | apply Kd.R_alloc | apply Kd.R_drewN | apply Kd.R_drew));exact (Kd.R_mono (Kd.R_far (p:=⟨gb241,2,none⟩) (Kd.R_far (p:=⟨gb241,1,none⟩) (Kd.R_far (p:=⟨gb241,0,none⟩) (Kd.R_types HO206.out BK241.out (by decide)) (fun _ hk => hk.2) (.int .i64 t238)) (fun _ hk => hk.2) (.int .i64 t239)) (fun _ hk => hk.2) (.int .i64 t240)) (fun _ h_ => h_.1))));(case side2 => exact (Kd.R_reads' HO206.out).2.1);(case side3 => refine (Kd.R_reads' (e:=48) (base:=w.heap.size) (ok:=fun k_ => (((((True ∧ some k_ ≠ (.slice Ao80 t204.length co80 : Value).ownBlock) ∧ some k_ ≠ (v215 : Value).ownBlock) ∧ some k_ ≠ (v222 : Value).ownBlock) ∧ some k_ ≠ (v229 : Value).ownBlock) ∧ some k_ ≠ (v236 : Value).ownBlock)) (n:=y211.length) (c:=co81) ?_).2.2;exact (by (with_reducible repeat (first | apply Kd.R_alloc | apply Kd.R_drewN | apply Kd.R_drew));exact (Kd.R_mono (Kd.R_far (p:=⟨gb241,2,none⟩) (Kd.R_far (p:=⟨gb241,1,none⟩) (Kd.R_far (p:=⟨gb241,0,none⟩) (Kd.R_types HO213.out BK241.out (by decide)) (fun _ hk => hk.2) (.int .i64 t238)) (fun _ hk => hk.2) (.int .i64 t239)) (fun _ hk => hk.2) (.int .i64 t240)) (fun _ h_ => h_.1))));(case side4 => exact (Kd.R_reads' HO213.out).2.1);rintro e w' ⟨rfl,⟨nd,rfl⟩⟩;refine ⟨_,rfl,?_⟩) | (go_at_call 18;(with_reducible refine (joustref00_Spots.calls k _ _ t204 _ _ y211 true _ ?side1 ?side2 ?side3 ?side4 A36.out).mono ?_);(case side1 => refine (Kd.R_reads' (e:=48) (base:=w.heap.size) (ok:=fun k_ => (((((True ∧ some k_ ≠ (.slice Ao81 y211.length co81 : Value).ownBlock) ∧ some k_ ≠ (v215 : Value).ownBlock) ∧ some k_ ≠ (v222 : Value).ownBlock) ∧ some k_ ≠ (v229 : Value).ownBlock) ∧ some k_ ≠ (v236 : Value).ownBlock)) (n:=t204.length) (c:=co80) ?_).2.2;exact (by (with_reducible repeat (first | apply Kd.R_alloc | apply Kd.R_drewN | apply Kd.R_drew));exact (Kd.R_mono (Kd.R_far (p:=⟨gb241,2,none⟩) (Kd.R_far (p:=⟨gb241,1,none⟩) (Kd.R_far (p:=⟨gb241,0,none⟩) (Kd.R_types HO206.out BK241.out (by decide)) (fun _ hk => hk.2) (.int .i64 t238)) (fun _ hk => hk.2) (.int .i64 t239)) (fun _ hk => hk.2) (.int .i64 t240)) (fun _ h_ => h_.1))));(case side2 => exact (Kd.R_reads' HO206.out).2.1);(case side3 => refine (Kd.R_reads' (e:=48) (base:=w.heap.size) (ok:=fun k_ => (((((True ∧ some k_ ≠ (.slice Ao80 t204.length co80 : Value).ownBlock) ∧ some k_ ≠ (v215 : Value).ownBlock) ∧ some k_ ≠ (v222 : Value).ownBlock) ∧ some k_ ≠ (v229 : Value).ownBlock) ∧ some k_ ≠ (v236 : Value).ownBlock)) (n:=y211.length) (c:=co81) ?_).2.2;exact (by (with_reducible repeat (first | apply Kd.R_alloc | apply Kd.R_drewN | apply Kd.R_drew));exact (Kd.R_mono (Kd.R_far (p:=⟨gb241,2,none⟩) (Kd.R_far (p:=⟨gb241,1,none⟩) (Kd.R_far (p:=⟨gb241,0,none⟩) (Kd.R_types HO213.out BK241.out (by decide)) (fun _ hk => hk.2) (.int .i64 t238)) (fun _ hk => hk.2) (.int .i64 t239)) (fun _ hk => hk.2) (.int .i64 t240)) (fun _ h_ => h_.1))));(case side4 => exact (Kd.R_reads' HO213.out).2.1);rintro e w' ⟨rfl,⟨nd,rfl⟩⟩;have hnb82:=NB210_220.out;have hnc82:=NB220_210.out;have hnb83:=NB210_227.out;have hnc83:=NB227_210.out;have hnb84:=NB210_234.out;have hnc84:=NB234_210.out;have hnb85:=NB210_241.out;have hnc85:=NB241_210.out;have hcz86_0 : w28.cell? ⟨gb210,0,none⟩ = some (.int .i64 t207):=(blk_cell BK210.out 0).trans rfl;have hcz86_1 : w28.cell? ⟨gb210,1,none⟩ = some (.int .i64 t208):=(blk_cell BK210.out 1).trans rfl;have hcz86_2 : w28.cell? ⟨gb210,2,none⟩ = some (.int .i64 t209):=(blk_cell BK210.out 2).trans rfl;have hfz86_0:=blk_frozen BK210.out 0;have hfz86_1:=blk_frozen BK210.out 1;have hfz86_2:=blk_frozen BK210.out 2;have hnb87:=NB220_227.out;have hnc87:=NB227_220.out;have hnb88:=NB220_234.out;have hnc88:=NB234_220.out;have hnb89:=NB220_241.out;have hnc89:=NB241_220.out;have hcz90_0 : w28.cell? ⟨gb220,0,none⟩ = some (.int .i64 t217):=(blk_cell BK220.out 0).trans rfl;have hcz90_1 : w28.cell? ⟨gb220,1,none⟩ = some (.int .i64 t218):=(blk_cell BK220.out 1).trans rfl;have hcz90_2 : w28.cell? ⟨gb220,2,none⟩ = some (.int .i64 t219):=(blk_cell BK220.out 2).trans rfl;have hfz90_0:=blk_frozen BK220.out 0;have hfz90_1:=blk_frozen BK220.out 1;have hfz90_2:=blk_frozen BK220.out 2))
      go_meet
      case rel => exact ⟨_,(true),(by first | rfl | (simp;done) | (simp [*];done)),H',⟨by first | omega | exact Nat.le_refl _⟩,⟨by (with_reducible repeat (first | refine blk_drewN ?_ _ | refine blk_drew ?_ | refine blk_alloc ?_ _));refine blk_far ?_ NB210_241.out _;(with_reducible repeat (first | refine blk_drewN ?_ _ | refine blk_drew ?_ | refine blk_alloc ?_ _));refine blk_far ?_ NB210_241.out _;(with_reducible repeat (first | refine blk_drewN ?_ _ | refine blk_drew ?_ | refine blk_alloc ?_ _));refine blk_far ?_ NB210_241.out _;(with_reducible repeat (first | refine blk_drewN ?_ _ | refine blk_drew ?_ | refine blk_alloc ?_ _));exact BK210.out⟩,⟨by (with_reducible repeat (first | refine blk_drewN ?_ _ | refine blk_drew ?_ | refine blk_alloc ?_ _));refine blk_far ?_ NB220_241.out _;(with_reducible repeat (first | refine blk_drewN ?_ _ | refine blk_drew ?_ | refine blk_alloc ?_ _));refine blk_far ?_ NB220_241.out _;(with_reducible repeat (first | refine blk_drewN ?_ _ | refine blk_drew ?_ | refine blk_alloc ?_ _));refine blk_far ?_ NB220_241.out _;(with_reducible repeat (first | refine blk_drewN ?_ _ | refine blk_drew ?_ | refine blk_alloc ?_ _));exact BK220.out⟩,⟨by (with_reducible repeat (first | refine blk_drewN ?_ _ | refine blk_drew ?_ | refine blk_alloc ?_ _));refine blk_far ?_ NB227_241.out _;(with_reducible repeat (first | refine blk_drewN ?_ _ | refine blk_drew ?_ | refine blk_alloc ?_ _));refine blk_far ?_ NB227_241.out _;(with_reducible repeat (first | refine blk_drewN ?_ _ | refine blk_drew ?_ | refine blk_alloc ?_ _));refine blk_far ?_ NB227_241.out _;(with_reducible repeat (first | refine blk_drewN ?_ _ | refine blk_drew ?_ | refine blk_alloc ?_ _));exact BK227.out⟩,⟨by (with_reducible repeat (first | refine blk_drewN ?_ _ | refine blk_drew ?_ | refine blk_alloc ?_ _));refine blk_far ?_ NB234_241.out _;(with_reducible repeat (first | refine blk_drewN ?_ _ | refine blk_drew ?_ | refine blk_alloc ?_ _));refine blk_far ?_ NB234_241.out _;(with_reducible repeat (first | refine blk_drewN ?_ _ | refine blk_drew ?_ | refine blk_alloc ?_ _));refine blk_far ?_ NB234_241.out _;(with_reducible repeat (first | refine blk_drewN ?_ _ | refine blk_drew ?_ | refine blk_alloc ?_ _));exact BK234.out⟩,⟨by (with_reducible repeat (first | refine blk_drewN ?_ _ | refine blk_drew ?_ | refine blk_alloc ?_ _));refine blk_put (cs:=#[.int .i64 t238,.int .i64 t239,.int .i64 0]) ?_ 2 _ rfl;(with_reducible repeat (first | refine blk_drewN ?_ _ | refine blk_drew ?_ | refine blk_alloc ?_ _));refine blk_put (cs:=#[.int .i64 t238,.int .i64 0,.int .i64 0]) ?_ 1 _ rfl;(with_reducible repeat (first | refine blk_drewN ?_ _ | refine blk_drew ?_ | refine blk_alloc ?_ _));refine blk_put (cs:=#[.int .i64 0,.int .i64 0,.int .i64 0]) ?_ 0 _ rfl;(with_reducible repeat (first | refine blk_drewN ?_ _ | refine blk_drew ?_ | refine blk_alloc ?_ _));exact BK241.out⟩,⟨by repeat (first | (with_reducible first | exact HB.out | apply below_alloc | apply pw_below_drewN | apply below_drew1 | refine below_set ?_ GE210.out | refine below_set ?_ GE220.out | refine below_set ?_ GE227.out | refine below_set ?_ GE234.out | refine below_set ?_ GE241.out) | exact HB.out)⟩⟩
    ·rw [if_neg c38] at H
     have c38b0 : (t207 == 0) = false:=beq_eq_false_iff_ne.mpr c38
     have c38b1 : (t207 != 0) = true:=bne_iff_ne.mpr c38
     (first | rw [c38b0] | (simp only [i64_w,i32_w];rw [c38b0]) | skip)
     have H':=Aside0.mk H
     clear H
     obtain ⟨Ao91,co91,eo91⟩:=Kd.R_slice HO206.out
     subst eo91
     obtain ⟨Ao92,co92,eo92⟩:=Kd.R_slice HO213.out
     subst eo92
     go_wp2_with (first | ((with_reducible refine gate_callee (f:=17) rfl ?_);refine goesL_ (some 43) rfl rfl Tryd.func17 (by kernel_rfl) rfl #[.slice Ao91 t204.length co91,.slice Ao92 y211.length co92] rfl (by (try simp only [List.map_toArray,List.map_cons,List.map_nil]);first | done | rfl | (simp only [List.length_drop,List.length_take];rfl)) ?_;(with_reducible refine (joustref00_Tokens.calls k _ _ t204 _ _ y211 true _ ?side1 ?side2 ?side3 ?side4 A34.out).mono ?_);(case side1 => refine (Kd.R_reads' (e:=48) (base:=w.heap.size) (ok:=fun k_ => (((((True ∧ some k_ ≠ (.slice Ao92 y211.length co92 : Value).ownBlock) ∧ some k_ ≠ (v215 : Value).ownBlock) ∧ some k_ ≠ (v222 : Value).ownBlock) ∧ some k_ ≠ (v229 : Value).ownBlock) ∧ some k_ ≠ (v236 : Value).ownBlock)) (n:=t204.length) (c:=co91) ?_).2.2;exact (by (with_reducible repeat (first | apply Kd.R_alloc | apply Kd.R_drewN | apply Kd.R_drew));exact (Kd.R_mono (Kd.R_far (p:=⟨gb241,2,none⟩) (Kd.R_far (p:=⟨gb241,1,none⟩) (Kd.R_far (p:=⟨gb241,0,none⟩) (Kd.R_types HO206.out BK241.out (by decide)) (fun _ hk => hk.2) (.int .i64 t238)) (fun _ hk => hk.2) (.int .i64 t239)) (fun _ hk => hk.2) (.int .i64 t240)) (fun _ h_ => h_.1))));(case side2 => exact (Kd.R_reads' HO206.out).2.1);(case side3 => refine (Kd.R_reads' (e:=48) (base:=w.heap.size) (ok:=fun k_ => (((((True ∧ some k_ ≠ (.slice Ao91 t204.length co91 : Value).ownBlock) ∧ some k_ ≠ (v215 : Value).ownBlock) ∧ some k_ ≠ (v222 : Value).ownBlock) ∧ some k_ ≠ (v229 : Value).ownBlock) ∧ some k_ ≠ (v236 : Value).ownBlock)) (n:=y211.length) (c:=co92) ?_).2.2;exact (by (with_reducible repeat (first | apply Kd.R_alloc | apply Kd.R_drewN | apply Kd.R_drew));exact (Kd.R_mono (Kd.R_far (p:=⟨gb241,2,none⟩) (Kd.R_far (p:=⟨gb241,1,none⟩) (Kd.R_far (p:=⟨gb241,0,none⟩) (Kd.R_types HO213.out BK241.out (by decide)) (fun _ hk => hk.2) (.int .i64 t238)) (fun _ hk => hk.2) (.int .i64 t239)) (fun _ hk => hk.2) (.int .i64 t240)) (fun _ h_ => h_.1))));(case side4 => exact (Kd.R_reads' HO213.out).2.1);rintro e w' ⟨rfl,⟨nd,rfl⟩⟩;refine ⟨_,rfl,?_⟩) | (go_at_call 18;(with_reducible refine (joustref00_Spots.calls k _ _ t204 _ _ y211 true _ ?side1 ?side2 ?side3 ?side4 A36.out).mono ?_);(case side1 => refine (Kd.R_reads' (e:=48) (base:=w.heap.size) (ok:=fun k_ => (((((True ∧ some k_ ≠ (.slice Ao92 y211.length co92 : Value).ownBlock) ∧ some k_ ≠ (v215 : Value).ownBlock) ∧ some k_ ≠ (v222 : Value).ownBlock) ∧ some k_ ≠ (v229 : Value).ownBlock) ∧ some k_ ≠ (v236 : Value).ownBlock)) (n:=t204.length) (c:=co91) ?_).2.2;exact (by (with_reducible repeat (first | apply Kd.R_alloc | apply Kd.R_drewN | apply Kd.R_drew));exact (Kd.R_mono (Kd.R_far (p:=⟨gb241,2,none⟩) (Kd.R_far (p:=⟨gb241,1,none⟩) (Kd.R_far (p:=⟨gb241,0,none⟩) (Kd.R_types HO206.out BK241.out (by decide)) (fun _ hk => hk.2) (.int .i64 t238)) (fun _ hk => hk.2) (.int .i64 t239)) (fun _ hk => hk.2) (.int .i64 t240)) (fun _ h_ => h_.1))));(case side2 => exact (Kd.R_reads' HO206.out).2.1);(case side3 => refine (Kd.R_reads' (e:=48) (base:=w.heap.size) (ok:=fun k_ => (((((True ∧ some k_ ≠ (.slice Ao91 t204.length co91 : Value).ownBlock) ∧ some k_ ≠ (v215 : Value).ownBlock) ∧ some k_ ≠ (v222 : Value).ownBlock) ∧ some k_ ≠ (v229 : Value).ownBlock) ∧ some k_ ≠ (v236 : Value).ownBlock)) (n:=y211.length) (c:=co92) ?_).2.2;exact (by (with_reducible repeat (first | apply Kd.R_alloc | apply Kd.R_drewN | apply Kd.R_drew));exact (Kd.R_mono (Kd.R_far (p:=⟨gb241,2,none⟩) (Kd.R_far (p:=⟨gb241,1,none⟩) (Kd.R_far (p:=⟨gb241,0,none⟩) (Kd.R_types HO213.out BK241.out (by decide)) (fun _ hk => hk.2) (.int .i64 t238)) (fun _ hk => hk.2) (.int .i64 t239)) (fun _ hk => hk.2) (.int .i64 t240)) (fun _ h_ => h_.1))));(case side4 => exact (Kd.R_reads' HO213.out).2.1);rintro e w' ⟨rfl,⟨nd,rfl⟩⟩;have hnb93:=NB210_220.out;have hnc93:=NB220_210.out;have hnb94:=NB210_227.out;have hnc94:=NB227_210.out;have hnb95:=NB210_234.out;have hnc95:=NB234_210.out;have hnb96:=NB210_241.out;have hnc96:=NB241_210.out;have hcz97_0 : w28.cell? ⟨gb210,0,none⟩ = some (.int .i64 t207):=(blk_cell BK210.out 0).trans rfl;have hcz97_1 : w28.cell? ⟨gb210,1,none⟩ = some (.int .i64 t208):=(blk_cell BK210.out 1).trans rfl;have hcz97_2 : w28.cell? ⟨gb210,2,none⟩ = some (.int .i64 t209):=(blk_cell BK210.out 2).trans rfl;have hfz97_0:=blk_frozen BK210.out 0;have hfz97_1:=blk_frozen BK210.out 1;have hfz97_2:=blk_frozen BK210.out 2))
     go_meet
     case rel => exact ⟨_,(true),(by first | rfl | (simp;done) | (simp [*];done)),H',⟨by first | omega | exact Nat.le_refl _⟩,⟨by (with_reducible repeat (first | refine blk_drewN ?_ _ | refine blk_drew ?_ | refine blk_alloc ?_ _));refine blk_far ?_ NB210_241.out _;(with_reducible repeat (first | refine blk_drewN ?_ _ | refine blk_drew ?_ | refine blk_alloc ?_ _));refine blk_far ?_ NB210_241.out _;(with_reducible repeat (first | refine blk_drewN ?_ _ | refine blk_drew ?_ | refine blk_alloc ?_ _));refine blk_far ?_ NB210_241.out _;(with_reducible repeat (first | refine blk_drewN ?_ _ | refine blk_drew ?_ | refine blk_alloc ?_ _));exact BK210.out⟩,⟨by (with_reducible repeat (first | refine blk_drewN ?_ _ | refine blk_drew ?_ | refine blk_alloc ?_ _));refine blk_far ?_ NB220_241.out _;(with_reducible repeat (first | refine blk_drewN ?_ _ | refine blk_drew ?_ | refine blk_alloc ?_ _));refine blk_far ?_ NB220_241.out _;(with_reducible repeat (first | refine blk_drewN ?_ _ | refine blk_drew ?_ | refine blk_alloc ?_ _));refine blk_far ?_ NB220_241.out _;(with_reducible repeat (first | refine blk_drewN ?_ _ | refine blk_drew ?_ | refine blk_alloc ?_ _));exact BK220.out⟩,⟨by (with_reducible repeat (first | refine blk_drewN ?_ _ | refine blk_drew ?_ | refine blk_alloc ?_ _));refine blk_far ?_ NB227_241.out _;(with_reducible repeat (first | refine blk_drewN ?_ _ | refine blk_drew ?_ | refine blk_alloc ?_ _));refine blk_far ?_ NB227_241.out _;(with_reducible repeat (first | refine blk_drewN ?_ _ | refine blk_drew ?_ | refine blk_alloc ?_ _));refine blk_far ?_ NB227_241.out _;(with_reducible repeat (first | refine blk_drewN ?_ _ | refine blk_drew ?_ | refine blk_alloc ?_ _));exact BK227.out⟩,⟨by (with_reducible repeat (first | refine blk_drewN ?_ _ | refine blk_drew ?_ | refine blk_alloc ?_ _));refine blk_far ?_ NB234_241.out _;(with_reducible repeat (first | refine blk_drewN ?_ _ | refine blk_drew ?_ | refine blk_alloc ?_ _));refine blk_far ?_ NB234_241.out _;(with_reducible repeat (first | refine blk_drewN ?_ _ | refine blk_drew ?_ | refine blk_alloc ?_ _));refine blk_far ?_ NB234_241.out _;(with_reducible repeat (first | refine blk_drewN ?_ _ | refine blk_drew ?_ | refine blk_alloc ?_ _));exact BK234.out⟩,⟨by (with_reducible repeat (first | refine blk_drewN ?_ _ | refine blk_drew ?_ | refine blk_alloc ?_ _));refine blk_put (cs:=#[.int .i64 t238,.int .i64 t239,.int .i64 0]) ?_ 2 _ rfl;(with_reducible repeat (first | refine blk_drewN ?_ _ | refine blk_drew ?_ | refine blk_alloc ?_ _));refine blk_put (cs:=#[.int .i64 t238,.int .i64 0,.int .i64 0]) ?_ 1 _ rfl;(with_reducible repeat (first | refine blk_drewN ?_ _ | refine blk_drew ?_ | refine blk_alloc ?_ _));refine blk_put (cs:=#[.int .i64 0,.int .i64 0,.int .i64 0]) ?_ 0 _ rfl;(with_reducible repeat (first | refine blk_drewN ?_ _ | refine blk_drew ?_ | refine blk_alloc ?_ _));exact BK241.out⟩,⟨by repeat (first | (with_reducible first | exact HB.out | apply below_alloc | apply pw_below_drewN | apply below_drew1 | refine below_set ?_ GE210.out | refine below_set ?_ GE220.out | refine below_set ?_ GE227.out | refine below_set ?_ GE234.out | refine below_set ?_ GE241.out) | exact HB.out)⟩⟩
   ·replace c37:=Bool.eq_false_iff.mpr c37
    subst c37
    have H1 : (joustlaw01_lives.j0 k true t224 t225 t226 t231 t232 t233 t238 t239 t240) = some true:=by rw [if_neg (show ¬ (false = true) by decide)] at H;exact H
    clear H
    have H:=H1
    clear H1
    have H':=Aside0.mk H
    clear H
    obtain ⟨Ao98,co98,eo98⟩:=Kd.R_slice HO206.out
    subst eo98
    obtain ⟨Ao99,co99,eo99⟩:=Kd.R_slice HO213.out
    subst eo99
    go_wp2_with (first | ((with_reducible refine gate_callee (f:=17) rfl ?_);refine goesL_ (some 43) rfl rfl Tryd.func17 (by kernel_rfl) rfl #[.slice Ao98 t204.length co98,.slice Ao99 y211.length co99] rfl (by (try simp only [List.map_toArray,List.map_cons,List.map_nil]);first | done | rfl | (simp only [List.length_drop,List.length_take];rfl)) ?_;(with_reducible refine (joustref00_Tokens.calls k _ _ t204 _ _ y211 true _ ?side1 ?side2 ?side3 ?side4 A34.out).mono ?_);(case side1 => refine (Kd.R_reads' (e:=48) (base:=w.heap.size) (ok:=fun k_ => (((((True ∧ some k_ ≠ (.slice Ao99 y211.length co99 : Value).ownBlock) ∧ some k_ ≠ (v215 : Value).ownBlock) ∧ some k_ ≠ (v222 : Value).ownBlock) ∧ some k_ ≠ (v229 : Value).ownBlock) ∧ some k_ ≠ (v236 : Value).ownBlock)) (n:=t204.length) (c:=co98) ?_).2.2;exact (by (with_reducible repeat (first | apply Kd.R_alloc | apply Kd.R_drewN | apply Kd.R_drew));exact (Kd.R_mono (Kd.R_far (p:=⟨gb241,2,none⟩) (Kd.R_far (p:=⟨gb241,1,none⟩) (Kd.R_far (p:=⟨gb241,0,none⟩) (Kd.R_types HO206.out BK241.out (by decide)) (fun _ hk => hk.2) (.int .i64 t238)) (fun _ hk => hk.2) (.int .i64 t239)) (fun _ hk => hk.2) (.int .i64 t240)) (fun _ h_ => h_.1))));(case side2 => exact (Kd.R_reads' HO206.out).2.1);(case side3 => refine (Kd.R_reads' (e:=48) (base:=w.heap.size) (ok:=fun k_ => (((((True ∧ some k_ ≠ (.slice Ao98 t204.length co98 : Value).ownBlock) ∧ some k_ ≠ (v215 : Value).ownBlock) ∧ some k_ ≠ (v222 : Value).ownBlock) ∧ some k_ ≠ (v229 : Value).ownBlock) ∧ some k_ ≠ (v236 : Value).ownBlock)) (n:=y211.length) (c:=co99) ?_).2.2;exact (by (with_reducible repeat (first | apply Kd.R_alloc | apply Kd.R_drewN | apply Kd.R_drew));exact (Kd.R_mono (Kd.R_far (p:=⟨gb241,2,none⟩) (Kd.R_far (p:=⟨gb241,1,none⟩) (Kd.R_far (p:=⟨gb241,0,none⟩) (Kd.R_types HO213.out BK241.out (by decide)) (fun _ hk => hk.2) (.int .i64 t238)) (fun _ hk => hk.2) (.int .i64 t239)) (fun _ hk => hk.2) (.int .i64 t240)) (fun _ h_ => h_.1))));(case side4 => exact (Kd.R_reads' HO213.out).2.1);rintro e w' ⟨rfl,⟨nd,rfl⟩⟩;refine ⟨_,rfl,?_⟩) | (go_at_call 18;(with_reducible refine (joustref00_Spots.calls k _ _ t204 _ _ y211 false _ ?side1 ?side2 ?side3 ?side4 A36.out).mono ?_);(case side1 => refine (Kd.R_reads' (e:=48) (base:=w.heap.size) (ok:=fun k_ => (((((True ∧ some k_ ≠ (.slice Ao99 y211.length co99 : Value).ownBlock) ∧ some k_ ≠ (v215 : Value).ownBlock) ∧ some k_ ≠ (v222 : Value).ownBlock) ∧ some k_ ≠ (v229 : Value).ownBlock) ∧ some k_ ≠ (v236 : Value).ownBlock)) (n:=t204.length) (c:=co98) ?_).2.2;exact (by (with_reducible repeat (first | apply Kd.R_alloc | apply Kd.R_drewN | apply Kd.R_drew));exact (Kd.R_mono (Kd.R_far (p:=⟨gb241,2,none⟩) (Kd.R_far (p:=⟨gb241,1,none⟩) (Kd.R_far (p:=⟨gb241,0,none⟩) (Kd.R_types HO206.out BK241.out (by decide)) (fun _ hk => hk.2) (.int .i64 t238)) (fun _ hk => hk.2) (.int .i64 t239)) (fun _ hk => hk.2) (.int .i64 t240)) (fun _ h_ => h_.1))));(case side2 => exact (Kd.R_reads' HO206.out).2.1);(case side3 => refine (Kd.R_reads' (e:=48) (base:=w.heap.size) (ok:=fun k_ => (((((True ∧ some k_ ≠ (.slice Ao98 t204.length co98 : Value).ownBlock) ∧ some k_ ≠ (v215 : Value).ownBlock) ∧ some k_ ≠ (v222 : Value).ownBlock) ∧ some k_ ≠ (v229 : Value).ownBlock) ∧ some k_ ≠ (v236 : Value).ownBlock)) (n:=y211.length) (c:=co99) ?_).2.2;exact (by (with_reducible repeat (first | apply Kd.R_alloc | apply Kd.R_drewN | apply Kd.R_drew));exact (Kd.R_mono (Kd.R_far (p:=⟨gb241,2,none⟩) (Kd.R_far (p:=⟨gb241,1,none⟩) (Kd.R_far (p:=⟨gb241,0,none⟩) (Kd.R_types HO213.out BK241.out (by decide)) (fun _ hk => hk.2) (.int .i64 t238)) (fun _ hk => hk.2) (.int .i64 t239)) (fun _ hk => hk.2) (.int .i64 t240)) (fun _ h_ => h_.1))));(case side4 => exact (Kd.R_reads' HO213.out).2.1);rintro e w' ⟨rfl,⟨nd,rfl⟩⟩))
    go_meet
    case rel => exact ⟨_,(true),(by first | rfl | (simp;done) | (simp [*];done)),H',⟨by first | omega | exact Nat.le_refl _⟩,⟨by (with_reducible repeat (first | refine blk_drewN ?_ _ | refine blk_drew ?_ | refine blk_alloc ?_ _));refine blk_far ?_ NB210_241.out _;(with_reducible repeat (first | refine blk_drewN ?_ _ | refine blk_drew ?_ | refine blk_alloc ?_ _));refine blk_far ?_ NB210_241.out _;(with_reducible repeat (first | refine blk_drewN ?_ _ | refine blk_drew ?_ | refine blk_alloc ?_ _));refine blk_far ?_ NB210_241.out _;(with_reducible repeat (first | refine blk_drewN ?_ _ | refine blk_drew ?_ | refine blk_alloc ?_ _));exact BK210.out⟩,⟨by (with_reducible repeat (first | refine blk_drewN ?_ _ | refine blk_drew ?_ | refine blk_alloc ?_ _));refine blk_far ?_ NB220_241.out _;(with_reducible repeat (first | refine blk_drewN ?_ _ | refine blk_drew ?_ | refine blk_alloc ?_ _));refine blk_far ?_ NB220_241.out _;(with_reducible repeat (first | refine blk_drewN ?_ _ | refine blk_drew ?_ | refine blk_alloc ?_ _));refine blk_far ?_ NB220_241.out _;(with_reducible repeat (first | refine blk_drewN ?_ _ | refine blk_drew ?_ | refine blk_alloc ?_ _));exact BK220.out⟩,⟨by (with_reducible repeat (first | refine blk_drewN ?_ _ | refine blk_drew ?_ | refine blk_alloc ?_ _));refine blk_far ?_ NB227_241.out _;(with_reducible repeat (first | refine blk_drewN ?_ _ | refine blk_drew ?_ | refine blk_alloc ?_ _));refine blk_far ?_ NB227_241.out _;(with_reducible repeat (first | refine blk_drewN ?_ _ | refine blk_drew ?_ | refine blk_alloc ?_ _));refine blk_far ?_ NB227_241.out _;(with_reducible repeat (first | refine blk_drewN ?_ _ | refine blk_drew ?_ | refine blk_alloc ?_ _));exact BK227.out⟩,⟨by (with_reducible repeat (first | refine blk_drewN ?_ _ | refine blk_drew ?_ | refine blk_alloc ?_ _));refine blk_far ?_ NB234_241.out _;(with_reducible repeat (first | refine blk_drewN ?_ _ | refine blk_drew ?_ | refine blk_alloc ?_ _));refine blk_far ?_ NB234_241.out _;(with_reducible repeat (first | refine blk_drewN ?_ _ | refine blk_drew ?_ | refine blk_alloc ?_ _));refine blk_far ?_ NB234_241.out _;(with_reducible repeat (first | refine blk_drewN ?_ _ | refine blk_drew ?_ | refine blk_alloc ?_ _));exact BK234.out⟩,⟨by (with_reducible repeat (first | refine blk_drewN ?_ _ | refine blk_drew ?_ | refine blk_alloc ?_ _));refine blk_put (cs:=#[.int .i64 t238,.int .i64 t239,.int .i64 0]) ?_ 2 _ rfl;(with_reducible repeat (first | refine blk_drewN ?_ _ | refine blk_drew ?_ | refine blk_alloc ?_ _));refine blk_put (cs:=#[.int .i64 t238,.int .i64 0,.int .i64 0]) ?_ 1 _ rfl;(with_reducible repeat (first | refine blk_drewN ?_ _ | refine blk_drew ?_ | refine blk_alloc ?_ _));refine blk_put (cs:=#[.int .i64 0,.int .i64 0,.int .i64 0]) ?_ 0 _ rfl;(with_reducible repeat (first | refine blk_drewN ?_ _ | refine blk_drew ?_ | refine blk_alloc ?_ _));exact BK241.out⟩,⟨by repeat (first | (with_reducible first | exact HB.out | apply below_alloc | apply pw_below_drewN | apply below_drew1 | refine below_set ?_ GE210.out | refine below_set ?_ GE220.out | refine below_set ?_ GE227.out | refine below_set ?_ GE234.out | refine below_set ?_ GE241.out) | exact HB.out)⟩⟩
  ·replace c35:=Bool.eq_false_iff.mpr c35
   subst c35
   have H1 : (joustlaw01_lives.j0 k true t224 t225 t226 t231 t232 t233 t238 t239 t240) = some true:=by rw [if_neg (show ¬ (false = true) by decide)] at H;exact H
   clear H
   have H:=H1
   clear H1
   have H':=Aside0.mk H
   clear H
   obtain ⟨Ao100,co100,eo100⟩:=Kd.R_slice HO206.out
   subst eo100
   obtain ⟨Ao101,co101,eo101⟩:=Kd.R_slice HO213.out
   subst eo101
   go_wp2_with (first | ((with_reducible refine gate_callee (f:=17) rfl ?_);refine goesL_ (some 43) rfl rfl Tryd.func17 (by kernel_rfl) rfl #[.slice Ao100 t204.length co100,.slice Ao101 y211.length co101] rfl (by (try simp only [List.map_toArray,List.map_cons,List.map_nil]);first | done | rfl | (simp only [List.length_drop,List.length_take];rfl)) ?_;(with_reducible refine (joustref00_Tokens.calls k _ _ t204 _ _ y211 false _ ?side1 ?side2 ?side3 ?side4 A34.out).mono ?_);(case side1 => refine (Kd.R_reads' (e:=48) (base:=w.heap.size) (ok:=fun k_ => (((((True ∧ some k_ ≠ (.slice Ao101 y211.length co101 : Value).ownBlock) ∧ some k_ ≠ (v215 : Value).ownBlock) ∧ some k_ ≠ (v222 : Value).ownBlock) ∧ some k_ ≠ (v229 : Value).ownBlock) ∧ some k_ ≠ (v236 : Value).ownBlock)) (n:=t204.length) (c:=co100) ?_).2.2;exact (by (with_reducible repeat (first | apply Kd.R_alloc | apply Kd.R_drewN | apply Kd.R_drew));exact (Kd.R_mono (Kd.R_far (p:=⟨gb241,2,none⟩) (Kd.R_far (p:=⟨gb241,1,none⟩) (Kd.R_far (p:=⟨gb241,0,none⟩) (Kd.R_types HO206.out BK241.out (by decide)) (fun _ hk => hk.2) (.int .i64 t238)) (fun _ hk => hk.2) (.int .i64 t239)) (fun _ hk => hk.2) (.int .i64 t240)) (fun _ h_ => h_.1))));(case side2 => exact (Kd.R_reads' HO206.out).2.1);(case side3 => refine (Kd.R_reads' (e:=48) (base:=w.heap.size) (ok:=fun k_ => (((((True ∧ some k_ ≠ (.slice Ao100 t204.length co100 : Value).ownBlock) ∧ some k_ ≠ (v215 : Value).ownBlock) ∧ some k_ ≠ (v222 : Value).ownBlock) ∧ some k_ ≠ (v229 : Value).ownBlock) ∧ some k_ ≠ (v236 : Value).ownBlock)) (n:=y211.length) (c:=co101) ?_).2.2;exact (by (with_reducible repeat (first | apply Kd.R_alloc | apply Kd.R_drewN | apply Kd.R_drew));exact (Kd.R_mono (Kd.R_far (p:=⟨gb241,2,none⟩) (Kd.R_far (p:=⟨gb241,1,none⟩) (Kd.R_far (p:=⟨gb241,0,none⟩) (Kd.R_types HO213.out BK241.out (by decide)) (fun _ hk => hk.2) (.int .i64 t238)) (fun _ hk => hk.2) (.int .i64 t239)) (fun _ hk => hk.2) (.int .i64 t240)) (fun _ h_ => h_.1))));(case side4 => exact (Kd.R_reads' HO213.out).2.1);rintro e w' ⟨rfl,⟨nd,rfl⟩⟩;refine ⟨_,rfl,?_⟩))
   go_meet
   case rel => exact ⟨_,(true),(by first | rfl | (simp;done) | (simp [*];done)),H',⟨by first | omega | exact Nat.le_refl _⟩,⟨by (with_reducible repeat (first | refine blk_drewN ?_ _ | refine blk_drew ?_ | refine blk_alloc ?_ _));refine blk_far ?_ NB210_241.out _;(with_reducible repeat (first | refine blk_drewN ?_ _ | refine blk_drew ?_ | refine blk_alloc ?_ _));refine blk_far ?_ NB210_241.out _;(with_reducible repeat (first | refine blk_drewN ?_ _ | refine blk_drew ?_ | refine blk_alloc ?_ _));refine blk_far ?_ NB210_241.out _;(with_reducible repeat (first | refine blk_drewN ?_ _ | refine blk_drew ?_ | refine blk_alloc ?_ _));exact BK210.out⟩,⟨by (with_reducible repeat (first | refine blk_drewN ?_ _ | refine blk_drew ?_ | refine blk_alloc ?_ _));refine blk_far ?_ NB220_241.out _;(with_reducible repeat (first | refine blk_drewN ?_ _ | refine blk_drew ?_ | refine blk_alloc ?_ _));refine blk_far ?_ NB220_241.out _;(with_reducible repeat (first | refine blk_drewN ?_ _ | refine blk_drew ?_ | refine blk_alloc ?_ _));refine blk_far ?_ NB220_241.out _;(with_reducible repeat (first | refine blk_drewN ?_ _ | refine blk_drew ?_ | refine blk_alloc ?_ _));exact BK220.out⟩,⟨by (with_reducible repeat (first | refine blk_drewN ?_ _ | refine blk_drew ?_ | refine blk_alloc ?_ _));refine blk_far ?_ NB227_241.out _;(with_reducible repeat (first | refine blk_drewN ?_ _ | refine blk_drew ?_ | refine blk_alloc ?_ _));refine blk_far ?_ NB227_241.out _;(with_reducible repeat (first | refine blk_drewN ?_ _ | refine blk_drew ?_ | refine blk_alloc ?_ _));refine blk_far ?_ NB227_241.out _;(with_reducible repeat (first | refine blk_drewN ?_ _ | refine blk_drew ?_ | refine blk_alloc ?_ _));exact BK227.out⟩,⟨by (with_reducible repeat (first | refine blk_drewN ?_ _ | refine blk_drew ?_ | refine blk_alloc ?_ _));refine blk_far ?_ NB234_241.out _;(with_reducible repeat (first | refine blk_drewN ?_ _ | refine blk_drew ?_ | refine blk_alloc ?_ _));refine blk_far ?_ NB234_241.out _;(with_reducible repeat (first | refine blk_drewN ?_ _ | refine blk_drew ?_ | refine blk_alloc ?_ _));refine blk_far ?_ NB234_241.out _;(with_reducible repeat (first | refine blk_drewN ?_ _ | refine blk_drew ?_ | refine blk_alloc ?_ _));exact BK234.out⟩,⟨by (with_reducible repeat (first | refine blk_drewN ?_ _ | refine blk_drew ?_ | refine blk_alloc ?_ _));refine blk_put (cs:=#[.int .i64 t238,.int .i64 t239,.int .i64 0]) ?_ 2 _ rfl;(with_reducible repeat (first | refine blk_drewN ?_ _ | refine blk_drew ?_ | refine blk_alloc ?_ _));refine blk_put (cs:=#[.int .i64 t238,.int .i64 0,.int .i64 0]) ?_ 1 _ rfl;(with_reducible repeat (first | refine blk_drewN ?_ _ | refine blk_drew ?_ | refine blk_alloc ?_ _));refine blk_put (cs:=#[.int .i64 0,.int .i64 0,.int .i64 0]) ?_ 0 _ rfl;(with_reducible repeat (first | refine blk_drewN ?_ _ | refine blk_drew ?_ | refine blk_alloc ?_ _));exact BK241.out⟩,⟨by repeat (first | (with_reducible first | exact HB.out | apply below_alloc | apply pw_below_drewN | apply below_drew1 | refine below_set ?_ GE210.out | refine below_set ?_ GE220.out | refine below_set ?_ GE227.out | refine below_set ?_ GE234.out | refine below_set ?_ GE241.out) | exact HB.out)⟩⟩
 case rest =>
  clear HC6
  try clear c1
  try clear c2
  try clear p2
  try clear q2
  try clear hx2
  try clear qi2
  try clear c3
  try clear c4
  try clear c5
  try clear c6
  try clear c7
  try clear c8
  try clear c9
  try clear c14
  try clear c15
  try clear c17
  try clear c18
  try clear c19
  try clear c23
  try clear c24
  try clear p24
  try clear q24
  try clear hx24
  try clear qi24
  try clear c25
  try clear c29
  try clear c30
  try clear c31
  try clear c32
  try clear c35
  try clear c37
  try clear c38
  try clear c38b0
  try clear c38b1
  try clear c39
  try clear c39b0
  try clear c39b1
  try clear c40
  try clear c40b0
  try clear c40b1
  try clear c41
  try clear c41b0
  try clear c41b1
  try clear c42
  try clear c42b0
  try clear c42b1
  try clear c43
  try clear c43b0
  try clear c43b1
  try clear c46
  try clear c47
  try clear c48
  try clear c49
  try clear c51
  try clear c52
  try clear c53
  try clear c58
  try clear c59
  try clear c60
  try clear c61
  try clear c63
  try clear c64
  try clear c65
  try clear c70
  try clear c71
  try clear c72
  try clear c73
  try clear c75
  try clear c76
  try clear c77
  try clear c82
  try clear c83
  try clear c84
  try clear c85
  try clear c87
  try clear c88
  try clear c89
  try clear c93
  try clear c94
  try clear c95
  try clear c96
  try clear hcz15_0
  try clear hcz15_1
  try clear hcz15_2
  try clear hcz20_0
  try clear hcz20_1
  try clear hcz20_2
  try clear hcz26_0
  try clear hcz26_1
  try clear hcz26_2
  try clear hcz33_0
  try clear hcz33_1
  try clear hcz33_2
  try clear hcz50_0
  try clear hcz50_1
  try clear hcz50_2
  try clear hcz54_0
  try clear hcz54_1
  try clear hcz54_2
  try clear hcz62_0
  try clear hcz62_1
  try clear hcz62_2
  try clear hcz66_0
  try clear hcz66_1
  try clear hcz66_2
  try clear hcz74_0
  try clear hcz74_1
  try clear hcz74_2
  try clear hcz78_0
  try clear hcz78_1
  try clear hcz78_2
  try clear hcz86_0
  try clear hcz86_1
  try clear hcz86_2
  try clear hcz90_0
  try clear hcz90_1
  try clear hcz90_2
  try clear hcz97_0
  try clear hcz97_1
  try clear hcz97_2
  try clear hcz9_0
  try clear hcz9_1
  try clear hcz9_2
  try clear hfz15_0
  try clear hfz15_1
  try clear hfz15_2
  try clear hfz20_0
  try clear hfz20_1
  try clear hfz20_2
  try clear hfz26_0
  try clear hfz26_1
  try clear hfz26_2
  try clear hfz33_0
  try clear hfz33_1
  try clear hfz33_2
  try clear hfz50_0
  try clear hfz50_1
  try clear hfz50_2
  try clear hfz54_0
  try clear hfz54_1
  try clear hfz54_2
  try clear hfz62_0
  try clear hfz62_1
  try clear hfz62_2
  try clear hfz66_0
  try clear hfz66_1
  try clear hfz66_2
  try clear hfz74_0
  try clear hfz74_1
  try clear hfz74_2
  try clear hfz78_0
  try clear hfz78_1
  try clear hfz78_2
  try clear hfz86_0
  try clear hfz86_1
  try clear hfz86_2
  try clear hfz90_0
  try clear hfz90_1
  try clear hfz90_2
  try clear hfz97_0
  try clear hfz97_1
  try clear hfz97_2
  try clear hfz9_0
  try clear hfz9_1
  try clear hfz9_2
  try clear hx244_0
  try clear hx244_1
  try clear hx244_2
  try clear hx244_3
  try clear hx245_0
  try clear hx245_1
  try clear hx245_2
  try clear hx245_3
  try clear p244
  try clear p245
  try clear q244
  try clear q245
  obtain ⟨kq,x79_5,rfl,HA,HJ5,BK210,BK220,BK227,BK234,BK241,HB⟩:=hcut
  cases kq with
  | zero => exact absurd HA.out (by simp [joustlaw01_lives.j0])
  | succ kj5 =>
   have H:=HA.out
   clear HA
   simp only [joustlaw01_lives.j0] at H
   by_cases c102 : x79_5 = true
   ·subst c102
    have H1 : (some false) = some true:=by rw [if_pos rfl] at H;exact H
    clear H
    have H:=H1
    clear H1
    exact absurd H (by simp)
   ·replace c102:=Bool.eq_false_iff.mpr c102
    subst c102
    have H1 : (if (!(t224 == 5) || ((!(t225 == 1) || (!(t226 == 1))))) = true then (joustlaw01_lives.j1 kj5 true) else (if (!(t231 == t224) || ((!(t232 == t225) || (!(t233 == t226))))) = true then (joustlaw01_lives.j1 kj5 true) else (joustlaw01_lives.j1 kj5 (!(t238 == 4) || ((!(t239 == 2) || (!(t240 == 2)))))))) = some true:=by rw [if_neg (show ¬ (false = true) by decide)] at H;exact H
    clear H
    have H:=H1
    clear H1
    have HC103:=Aside0.mk H
    clear H
    go_upto_region 9 with (fail)
    go_cut [94] (fun v94 wc => ∃ (kq : Nat) (x94_102 : Bool),v94 = .bool x94_102 ∧ Aside0 (joustlaw01_lives.j1 kq x94_102 = some true) ∧ Aside0 (kq ≤ kj5) ∧ Aside0 (wc.heap[gb210]? = some (.cells #[.int .i64 t207,.int .i64 t208,.int .i64 t209] 39 (0,0))) ∧ Aside0 (wc.heap[gb220]? = some (.cells #[.int .i64 t217,.int .i64 t218,.int .i64 t219] 39 (0,0))) ∧ Aside0 (wc.heap[gb227]? = some (.cells #[.int .i64 t224,.int .i64 t225,.int .i64 t226] 39 (0,0))) ∧ Aside0 (wc.heap[gb234]? = some (.cells #[.int .i64 t231,.int .i64 t232,.int .i64 t233] 39 (0,0))) ∧ Aside0 (wc.heap[gb241]? = some (.cells #[.int .i64 t238,.int .i64 t239,.int .i64 t240] 39 (0,0))) ∧ Aside0 (Below w.heap.size w wc))
    case first =>
     have H:=HC103.out
     clear HC103
     by_cases c104 : (!(t224 == 5) || ((!(t225 == 1) || (!(t226 == 1))))) = true
     ·rw [if_pos c104] at H
      have c104b0 : (!(t224 == 5) || ((!(t225 == 1) || (!(t226 == 1))))) = true:=c104
      clear c104
      (first | rw [c104b0] | (simp only [i64_w,i32_w];rw [c104b0]) | skip)
      have H':=Aside0.mk H
      clear H
      have hnb105:=NB227_210.out
      have hnc105:=NB210_227.out
      have hnb106:=NB227_220.out
      have hnc106:=NB220_227.out
      have hnb107:=NB227_234.out
      have hnc107:=NB234_227.out
      have hnb108:=NB227_241.out
      have hnc108:=NB241_227.out
      have hcz109_0 : wc.cell? ⟨gb227,0,none⟩ = some (.int .i64 t224):=(blk_cell BK227.out 0).trans rfl
      have hcz109_1 : wc.cell? ⟨gb227,1,none⟩ = some (.int .i64 t225):=(blk_cell BK227.out 1).trans rfl
      have hcz109_2 : wc.cell? ⟨gb227,2,none⟩ = some (.int .i64 t226):=(blk_cell BK227.out 2).trans rfl
      have hfz109_0:=blk_frozen BK227.out 0
      have hfz109_1:=blk_frozen BK227.out 1
      have hfz109_2:=blk_frozen BK227.out 2
      go_wp2
      go_meet
      case rel => exact ⟨_,(true),(by first | rfl | (simp;done) | (simp [*];done)),H',⟨by have:=HJ5.out;first | omega | exact Nat.le_refl _⟩,⟨by (with_reducible repeat (first | refine blk_drewN ?_ _ | refine blk_drew ?_ | refine blk_alloc ?_ _));exact BK210.out⟩,⟨by (with_reducible repeat (first | refine blk_drewN ?_ _ | refine blk_drew ?_ | refine blk_alloc ?_ _));exact BK220.out⟩,⟨by (with_reducible repeat (first | refine blk_drewN ?_ _ | refine blk_drew ?_ | refine blk_alloc ?_ _));exact BK227.out⟩,⟨by (with_reducible repeat (first | refine blk_drewN ?_ _ | refine blk_drew ?_ | refine blk_alloc ?_ _));exact BK234.out⟩,⟨by (with_reducible repeat (first | refine blk_drewN ?_ _ | refine blk_drew ?_ | refine blk_alloc ?_ _));exact BK241.out⟩,⟨by repeat (first | (with_reducible first | exact HB.out | apply below_alloc | apply pw_below_drewN | apply below_drew1 | refine below_set ?_ GE210.out | refine below_set ?_ GE220.out | refine below_set ?_ GE227.out | refine below_set ?_ GE234.out | refine below_set ?_ GE241.out) | exact HB.out)⟩⟩
     ·rw [if_neg c104] at H
      have c104b0 : (!(t224 == 5) || ((!(t225 == 1) || (!(t226 == 1))))) = false:=by simpa using c104
      clear c104
      (first | rw [c104b0] | (simp only [i64_w,i32_w];rw [c104b0]) | skip)
      by_cases c110 : (!(t231 == t224) || ((!(t232 == t225) || (!(t233 == t226))))) = true
      ·rw [if_pos c110] at H
       have c110b0 : (!(t231 == t224) || ((!(t232 == t225) || (!(t233 == t226))))) = true:=c110
       clear c110
       have H':=Aside0.mk H
       clear H
       have hnb111:=NB227_210.out
       have hnc111:=NB210_227.out
       have hnb112:=NB227_220.out
       have hnc112:=NB220_227.out
       have hnb113:=NB227_234.out
       have hnc113:=NB234_227.out
       have hnb114:=NB227_241.out
       have hnc114:=NB241_227.out
       have hcz115_0 : wc.cell? ⟨gb227,0,none⟩ = some (.int .i64 t224):=(blk_cell BK227.out 0).trans rfl
       have hcz115_1 : wc.cell? ⟨gb227,1,none⟩ = some (.int .i64 t225):=(blk_cell BK227.out 1).trans rfl
       have hcz115_2 : wc.cell? ⟨gb227,2,none⟩ = some (.int .i64 t226):=(blk_cell BK227.out 2).trans rfl
       have hfz115_0:=blk_frozen BK227.out 0
       have hfz115_1:=blk_frozen BK227.out 1
       have hfz115_2:=blk_frozen BK227.out 2
       have hnb116:=NB234_210.out
       have hnc116:=NB210_234.out
       have hnb117:=NB234_220.out
       have hnc117:=NB220_234.out
       have hnb118:=NB234_241.out
       have hnc118:=NB241_234.out
       have hcz119_0 : wc.cell? ⟨gb234,0,none⟩ = some (.int .i64 t231):=(blk_cell BK234.out 0).trans rfl
       have hcz119_1 : wc.cell? ⟨gb234,1,none⟩ = some (.int .i64 t232):=(blk_cell BK234.out 1).trans rfl
       have hcz119_2 : wc.cell? ⟨gb234,2,none⟩ = some (.int .i64 t233):=(blk_cell BK234.out 2).trans rfl
       have hfz119_0:=blk_frozen BK234.out 0
       have hfz119_1:=blk_frozen BK234.out 1
       have hfz119_2:=blk_frozen BK234.out 2
       go_wp2
       go_meet
       case rel => exact ⟨_,(true),(by first | rfl | (simp;done) | (simp [*];done)),H',⟨by have:=HJ5.out;first | omega | exact Nat.le_refl _⟩,⟨by (with_reducible repeat (first | refine blk_drewN ?_ _ | refine blk_drew ?_ | refine blk_alloc ?_ _));exact BK210.out⟩,⟨by (with_reducible repeat (first | refine blk_drewN ?_ _ | refine blk_drew ?_ | refine blk_alloc ?_ _));exact BK220.out⟩,⟨by (with_reducible repeat (first | refine blk_drewN ?_ _ | refine blk_drew ?_ | refine blk_alloc ?_ _));exact BK227.out⟩,⟨by (with_reducible repeat (first | refine blk_drewN ?_ _ | refine blk_drew ?_ | refine blk_alloc ?_ _));exact BK234.out⟩,⟨by (with_reducible repeat (first | refine blk_drewN ?_ _ | refine blk_drew ?_ | refine blk_alloc ?_ _));exact BK241.out⟩,⟨by repeat (first | (with_reducible first | exact HB.out | apply below_alloc | apply pw_below_drewN | apply below_drew1 | refine below_set ?_ GE210.out | refine below_set ?_ GE220.out | refine below_set ?_ GE227.out | refine below_set ?_ GE234.out | refine below_set ?_ GE241.out) | exact HB.out)⟩⟩
      ·rw [if_neg c110] at H
       have c110b0 : (!(t231 == t224) || ((!(t232 == t225) || (!(t233 == t226))))) = false:=by simpa using c110
       clear c110
       have H':=Aside0.mk H
       clear H
       have hnb120:=NB227_210.out
       have hnc120:=NB210_227.out
       have hnb121:=NB227_220.out
       have hnc121:=NB220_227.out
       have hnb122:=NB227_234.out
       have hnc122:=NB234_227.out
       have hnb123:=NB227_241.out
       have hnc123:=NB241_227.out
       have hcz124_0 : wc.cell? ⟨gb227,0,none⟩ = some (.int .i64 t224):=(blk_cell BK227.out 0).trans rfl
       have hcz124_1 : wc.cell? ⟨gb227,1,none⟩ = some (.int .i64 t225):=(blk_cell BK227.out 1).trans rfl
       have hcz124_2 : wc.cell? ⟨gb227,2,none⟩ = some (.int .i64 t226):=(blk_cell BK227.out 2).trans rfl
       have hfz124_0:=blk_frozen BK227.out 0
       have hfz124_1:=blk_frozen BK227.out 1
       have hfz124_2:=blk_frozen BK227.out 2
       have hnb125:=NB234_210.out
       have hnc125:=NB210_234.out
       have hnb126:=NB234_220.out
       have hnc126:=NB220_234.out
       have hnb127:=NB234_241.out
       have hnc127:=NB241_234.out
       have hcz128_0 : wc.cell? ⟨gb234,0,none⟩ = some (.int .i64 t231):=(blk_cell BK234.out 0).trans rfl
       have hcz128_1 : wc.cell? ⟨gb234,1,none⟩ = some (.int .i64 t232):=(blk_cell BK234.out 1).trans rfl
       have hcz128_2 : wc.cell? ⟨gb234,2,none⟩ = some (.int .i64 t233):=(blk_cell BK234.out 2).trans rfl
       have hfz128_0:=blk_frozen BK234.out 0
       have hfz128_1:=blk_frozen BK234.out 1
       have hfz128_2:=blk_frozen BK234.out 2
       have hnb129:=NB241_210.out
       have hnc129:=NB210_241.out
       have hnb130:=NB241_220.out
       have hnc130:=NB220_241.out
       have hcz131_0 : wc.cell? ⟨gb241,0,none⟩ = some (.int .i64 t238):=(blk_cell BK241.out 0).trans rfl
       have hcz131_1 : wc.cell? ⟨gb241,1,none⟩ = some (.int .i64 t239):=(blk_cell BK241.out 1).trans rfl
       have hcz131_2 : wc.cell? ⟨gb241,2,none⟩ = some (.int .i64 t240):=(blk_cell BK241.out 2).trans rfl
       have hfz131_0:=blk_frozen BK241.out 0
       have hfz131_1:=blk_frozen BK241.out 1
       have hfz131_2:=blk_frozen BK241.out 2
       go_wp2
       go_meet
       case rel => exact ⟨_,((!(t238 == 4) || ((!(t239 == 2) || (!(t240 == 2)))))),(by first | rfl | (simp;done) | (simp [*];done)),H',⟨by have:=HJ5.out;first | omega | exact Nat.le_refl _⟩,⟨by (with_reducible repeat (first | refine blk_drewN ?_ _ | refine blk_drew ?_ | refine blk_alloc ?_ _));exact BK210.out⟩,⟨by (with_reducible repeat (first | refine blk_drewN ?_ _ | refine blk_drew ?_ | refine blk_alloc ?_ _));exact BK220.out⟩,⟨by (with_reducible repeat (first | refine blk_drewN ?_ _ | refine blk_drew ?_ | refine blk_alloc ?_ _));exact BK227.out⟩,⟨by (with_reducible repeat (first | refine blk_drewN ?_ _ | refine blk_drew ?_ | refine blk_alloc ?_ _));exact BK234.out⟩,⟨by (with_reducible repeat (first | refine blk_drewN ?_ _ | refine blk_drew ?_ | refine blk_alloc ?_ _));exact BK241.out⟩,⟨by repeat (first | (with_reducible first | exact HB.out | apply below_alloc | apply pw_below_drewN | apply below_drew1 | refine below_set ?_ GE210.out | refine below_set ?_ GE220.out | refine below_set ?_ GE227.out | refine below_set ?_ GE234.out | refine below_set ?_ GE241.out) | exact HB.out)⟩⟩
    case rest =>
     clear HC103
     try clear c1
     try clear c2
     try clear p2
     try clear q2
     try clear hx2
     try clear qi2
     try clear c3
     try clear c4
     try clear c5
     try clear c6
     try clear c7
     try clear c8
     try clear c9
     try clear c10
     try clear c11
     try clear c12
     try clear c13
     try clear c14
     try clear c15
     try clear c17
     try clear c18
     try clear c19
     try clear c23
     try clear c24
     try clear p24
     try clear q24
     try clear hx24
     try clear qi24
     try clear c25
     try clear c29
     try clear c30
     try clear c31
     try clear c32
     try clear c35
     try clear c37
     try clear c38
     try clear c38b0
     try clear c38b1
     try clear c39
     try clear c39b0
     try clear c39b1
     try clear c40
     try clear c40b0
     try clear c40b1
     try clear c41
     try clear c41b0
     try clear c41b1
     try clear c42
     try clear c42b0
     try clear c42b1
     try clear c43
     try clear c43b0
     try clear c43b1
     try clear c46
     try clear c47
     try clear c48
     try clear c49
     try clear c51
     try clear c52
     try clear c53
     try clear c58
     try clear c59
     try clear c60
     try clear c61
     try clear c63
     try clear c64
     try clear c65
     try clear c70
     try clear c71
     try clear c72
     try clear c73
     try clear c75
     try clear c76
     try clear c77
     try clear c82
     try clear c83
     try clear c84
     try clear c85
     try clear c87
     try clear c88
     try clear c89
     try clear c93
     try clear c94
     try clear c95
     try clear c96
     try clear c102
     try clear c104
     try clear c104b0
     try clear c105
     try clear c106
     try clear c107
     try clear c108
     try clear c110
     try clear c110b0
     try clear c111
     try clear c112
     try clear c113
     try clear c114
     try clear c116
     try clear c117
     try clear c118
     try clear c120
     try clear c121
     try clear c122
     try clear c123
     try clear c125
     try clear c126
     try clear c127
     try clear c129
     try clear c130
     try clear hcz109_0
     try clear hcz109_1
     try clear hcz109_2
     try clear hcz115_0
     try clear hcz115_1
     try clear hcz115_2
     try clear hcz119_0
     try clear hcz119_1
     try clear hcz119_2
     try clear hcz124_0
     try clear hcz124_1
     try clear hcz124_2
     try clear hcz128_0
     try clear hcz128_1
     try clear hcz128_2
     try clear hcz131_0
     try clear hcz131_1
     try clear hcz131_2
     try clear hcz15_0
     try clear hcz15_1
     try clear hcz15_2
     try clear hcz20_0
     try clear hcz20_1
     try clear hcz20_2
     try clear hcz26_0
     try clear hcz26_1
     try clear hcz26_2
     try clear hcz33_0
     try clear hcz33_1
     try clear hcz33_2
     try clear hcz50_0
     try clear hcz50_1
     try clear hcz50_2
     try clear hcz54_0
     try clear hcz54_1
     try clear hcz54_2
     try clear hcz62_0
     try clear hcz62_1
     try clear hcz62_2
     try clear hcz66_0
     try clear hcz66_1
     try clear hcz66_2
     try clear hcz74_0
     try clear hcz74_1
     try clear hcz74_2
     try clear hcz78_0
     try clear hcz78_1
     try clear hcz78_2
     try clear hcz86_0
     try clear hcz86_1
     try clear hcz86_2
     try clear hcz90_0
     try clear hcz90_1
     try clear hcz90_2
     try clear hcz97_0
     try clear hcz97_1
     try clear hcz97_2
     try clear hcz9_0
     try clear hcz9_1
     try clear hcz9_2
     try clear hfz109_0
     try clear hfz109_1
     try clear hfz109_2
     try clear hfz115_0
     try clear hfz115_1
     try clear hfz115_2
     try clear hfz119_0
     try clear hfz119_1
     try clear hfz119_2
     try clear hfz124_0
     try clear hfz124_1
     try clear hfz124_2
     try clear hfz128_0
     try clear hfz128_1
     try clear hfz128_2
     try clear hfz131_0
     try clear hfz131_1
     try clear hfz131_2
     try clear hfz15_0
     try clear hfz15_1
     try clear hfz15_2
     try clear hfz20_0
     try clear hfz20_1
     try clear hfz20_2
     try clear hfz26_0
     try clear hfz26_1
     try clear hfz26_2
     try clear hfz33_0
     try clear hfz33_1
     try clear hfz33_2
     try clear hfz50_0
     try clear hfz50_1
     try clear hfz50_2
     try clear hfz54_0
     try clear hfz54_1
     try clear hfz54_2
     try clear hfz62_0
     try clear hfz62_1
     try clear hfz62_2
     try clear hfz66_0
     try clear hfz66_1
     try clear hfz66_2
     try clear hfz74_0
     try clear hfz74_1
     try clear hfz74_2
     try clear hfz78_0
     try clear hfz78_1
     try clear hfz78_2
     try clear hfz86_0
     try clear hfz86_1
     try clear hfz86_2
     try clear hfz90_0
     try clear hfz90_1
     try clear hfz90_2
     try clear hfz97_0
     try clear hfz97_1
     try clear hfz97_2
     try clear hfz9_0
     try clear hfz9_1
     try clear hfz9_2
     try clear hx244_0
     try clear hx244_1
     try clear hx244_2
     try clear hx244_3
     try clear hx245_0
     try clear hx245_1
     try clear hx245_2
     try clear hx245_3
     try clear p2
     try clear p24
     try clear p244
     try clear p245
     try clear q2
     try clear q24
     try clear q244
     try clear q245
     obtain ⟨kq,x94_102,rfl,HA,HJ102,BK210,BK220,BK227,BK234,BK241,HB⟩:=hcut
     cases kq with
     | zero => exact absurd HA.out (by simp [joustlaw01_lives.j1])
     | succ kj102 =>
      have H:=HA.out
      clear HA
      simp only [joustlaw01_lives.j1] at H
      by_cases c132 : x94_102 = true
      ·subst c132
       have H1 : (some false) = some true:=by rw [if_pos rfl] at H;exact H
       clear H
       have H:=H1
       clear H1
       exact absurd H (by simp)
      ·replace c132:=Bool.eq_false_iff.mpr c132
       subst c132
       have H1 : ((scan_Word.f kj102 (⟨#[195,169,49]⟩ : ByteArray)).bind fun t246 => (if t246 = true then ((scan_Word.f kj102 (⟨#[97,45]⟩ : ByteArray)).bind fun t247 => (if t247 = true then (some false) else ((scan_Where.f kj102 (⟨#[97,10,98]⟩ : ByteArray) 2).bind fun bt248 => (some (bt248.1 == 2 && (bt248.2 == 1)))))) else (some false))) = some true:=by rw [if_neg (show ¬ (false = true) by decide)] at H;exact H
       clear H
       have H:=H1
       clear H1
       replace H:=Option.bind_eq_some_iff.mp H
       obtain ⟨t246,A1330,H⟩:=H
       replace H : (if t246 = true then ((scan_Word.f kj102 (⟨#[97,45]⟩ : ByteArray)).bind fun t247 => (if t247 = true then (some false) else ((scan_Where.f kj102 (⟨#[97,10,98]⟩ : ByteArray) 2).bind fun bt248 => (some (bt248.1 == 2 && (bt248.2 == 1)))))) else (some false)) = some true:=H
       have A133:=Aside0.mk A1330
       clear A1330
       by_cases c134 : t246 = true
       ·subst c134
        have H1 : ((scan_Word.f kj102 (⟨#[97,45]⟩ : ByteArray)).bind fun t247 => (if t247 = true then (some false) else ((scan_Where.f kj102 (⟨#[97,10,98]⟩ : ByteArray) 2).bind fun bt248 => (some (bt248.1 == 2 && (bt248.2 == 1)))))) = some true:=by rw [if_pos rfl] at H;exact H
        clear H
        have H:=H1
        clear H1
        replace H:=Option.bind_eq_some_iff.mp H
        obtain ⟨t247,A1350,H⟩:=H
        replace H : (if t247 = true then (some false) else ((scan_Where.f kj102 (⟨#[97,10,98]⟩ : ByteArray) 2).bind fun bt248 => (some (bt248.1 == 2 && (bt248.2 == 1))))) = some true:=H
        have A135:=Aside0.mk A1350
        clear A1350
        by_cases c136 : t247 = true
        ·subst c136
         have H1 : (some false) = some true:=by rw [if_pos rfl] at H;exact H
         clear H
         have H:=H1
         clear H1
         exact absurd H (by simp)
        ·replace c136:=Bool.eq_false_iff.mpr c136
         subst c136
         have H1 : ((scan_Where.f kj102 (⟨#[97,10,98]⟩ : ByteArray) 2).bind fun bt248 => (some (bt248.1 == 2 && (bt248.2 == 1)))) = some true:=by rw [if_neg (show ¬ (false = true) by decide)] at H;exact H
         clear H
         have H:=H1
         clear H1
         replace H:=Option.bind_eq_some_iff.mp H
         obtain ⟨⟨t248,t249⟩,A1370,H⟩:=H
         replace H : (some (t248 == 2 && (t249 == 1))) = some true:=H
         have A137:=Aside0.mk A1370
         clear A1370
         have hT_:=Option.some.inj H
         go_wp2_with (first | ((with_reducible refine gate_callee (f:=19) rfl ?_);refine goesL_ (some 95) rfl rfl Tryd.func19 (by kernel_rfl) rfl #[.string (⟨#[195,169,49]⟩ : ByteArray)] rfl (by (try simp only [List.map_toArray,List.map_cons,List.map_nil]);first | done | rfl | (simp only [List.length_drop,List.length_take];rfl)) ?_;(with_reducible refine (scan_Word.calls kj102 (⟨#[195,169,49]⟩ : ByteArray) true _ ?side1 A133.out).mono ?_);(case side1 => exact Tabs.below HG.out (by repeat (first | (with_reducible first | exact HB.out | apply below_alloc | apply pw_below_drewN | apply below_drew1 | refine below_set ?_ GE210.out | refine below_set ?_ GE220.out | refine below_set ?_ GE227.out | refine below_set ?_ GE234.out | refine below_set ?_ GE241.out) | exact HB.out)));rintro e w138 ⟨rfl,hb⟩;refine ⟨_,rfl,?_⟩;have n0_:=Aside0.mk (blk_below (g:=gb210) (o:=.cells #[.int .i64 t207,.int .i64 t208,.int .i64 t209] 39 (0,0)) (by (with_reducible repeat (first | refine blk_drewN ?_ _ | refine blk_drew ?_ | refine blk_alloc ?_ _));exact BK210.out) hb);have n1_:=Aside0.mk (blk_below (g:=gb220) (o:=.cells #[.int .i64 t217,.int .i64 t218,.int .i64 t219] 39 (0,0)) (by (with_reducible repeat (first | refine blk_drewN ?_ _ | refine blk_drew ?_ | refine blk_alloc ?_ _));exact BK220.out) hb);have n2_:=Aside0.mk (blk_below (g:=gb227) (o:=.cells #[.int .i64 t224,.int .i64 t225,.int .i64 t226] 39 (0,0)) (by (with_reducible repeat (first | refine blk_drewN ?_ _ | refine blk_drew ?_ | refine blk_alloc ?_ _));exact BK227.out) hb);have n3_:=Aside0.mk (blk_below (g:=gb234) (o:=.cells #[.int .i64 t231,.int .i64 t232,.int .i64 t233] 39 (0,0)) (by (with_reducible repeat (first | refine blk_drewN ?_ _ | refine blk_drew ?_ | refine blk_alloc ?_ _));exact BK234.out) hb);have n4_:=Aside0.mk (blk_below (g:=gb241) (o:=.cells #[.int .i64 t238,.int .i64 t239,.int .i64 t240] 39 (0,0)) (by (with_reducible repeat (first | refine blk_drewN ?_ _ | refine blk_drew ?_ | refine blk_alloc ?_ _));exact BK241.out) hb);have n5_:=Aside0.mk (below_step (by repeat (first | (with_reducible first | exact HB.out | apply below_alloc | apply pw_below_drewN | apply below_drew1 | refine below_set ?_ GE210.out | refine below_set ?_ GE220.out | refine below_set ?_ GE227.out | refine below_set ?_ GE234.out | refine below_set ?_ GE241.out) | exact HB.out)) hb);clear BK210;clear BK220;clear BK227;clear BK234;clear BK241;clear HB;have BK210:=n0_;have BK220:=n1_;have BK227:=n2_;have BK234:=n3_;have BK241:=n4_;have HB:=n5_;clear n0_ n1_ n2_ n3_ n4_ n5_;(try clear hb);(try clear hb2);(try clear hk);(try clear hi)) | (go_at_call 19;(with_reducible refine (scan_Word.calls kj102 (⟨#[97,45]⟩ : ByteArray) false _ ?side1 A135.out).mono ?_);(case side1 => exact Tabs.below HG.out (by repeat (first | (with_reducible first | exact HB.out | apply below_alloc | apply pw_below_drewN | apply below_drew1 | refine below_set ?_ GE210.out | refine below_set ?_ GE220.out | refine below_set ?_ GE227.out | refine below_set ?_ GE234.out | refine below_set ?_ GE241.out) | exact HB.out)));rintro e w139 ⟨rfl,hb⟩;have n0_:=Aside0.mk (blk_below (g:=gb210) (o:=.cells #[.int .i64 t207,.int .i64 t208,.int .i64 t209] 39 (0,0)) (by (with_reducible repeat (first | refine blk_drewN ?_ _ | refine blk_drew ?_ | refine blk_alloc ?_ _));exact BK210.out) hb);have n1_:=Aside0.mk (blk_below (g:=gb220) (o:=.cells #[.int .i64 t217,.int .i64 t218,.int .i64 t219] 39 (0,0)) (by (with_reducible repeat (first | refine blk_drewN ?_ _ | refine blk_drew ?_ | refine blk_alloc ?_ _));exact BK220.out) hb);have n2_:=Aside0.mk (blk_below (g:=gb227) (o:=.cells #[.int .i64 t224,.int .i64 t225,.int .i64 t226] 39 (0,0)) (by (with_reducible repeat (first | refine blk_drewN ?_ _ | refine blk_drew ?_ | refine blk_alloc ?_ _));exact BK227.out) hb);have n3_:=Aside0.mk (blk_below (g:=gb234) (o:=.cells #[.int .i64 t231,.int .i64 t232,.int .i64 t233] 39 (0,0)) (by (with_reducible repeat (first | refine blk_drewN ?_ _ | refine blk_drew ?_ | refine blk_alloc ?_ _));exact BK234.out) hb);have n4_:=Aside0.mk (blk_below (g:=gb241) (o:=.cells #[.int .i64 t238,.int .i64 t239,.int .i64 t240] 39 (0,0)) (by (with_reducible repeat (first | refine blk_drewN ?_ _ | refine blk_drew ?_ | refine blk_alloc ?_ _));exact BK241.out) hb);have n5_:=Aside0.mk (below_step (by repeat (first | (with_reducible first | exact HB.out | apply below_alloc | apply pw_below_drewN | apply below_drew1 | refine below_set ?_ GE210.out | refine below_set ?_ GE220.out | refine below_set ?_ GE227.out | refine below_set ?_ GE234.out | refine below_set ?_ GE241.out) | exact HB.out)) hb);clear BK210;clear BK220;clear BK227;clear BK234;clear BK241;clear HB;have BK210:=n0_;have BK220:=n1_;have BK227:=n2_;have BK234:=n3_;have BK241:=n4_;have HB:=n5_;clear n0_ n1_ n2_ n3_ n4_ n5_;(try clear hb);(try clear hb2);(try clear hk);(try clear hi)) | (go_at_call 21;(with_reducible refine (scan_Where.calls kj102 (⟨#[97,10,98]⟩ : ByteArray) 2 t248 t249 _ A137.out).mono ?_);rintro e w140 ⟨rfl,hb⟩;have n0_:=Aside0.mk (blk_below (g:=gb210) (o:=.cells #[.int .i64 t207,.int .i64 t208,.int .i64 t209] 39 (0,0)) (by (with_reducible repeat (first | refine blk_drewN ?_ _ | refine blk_drew ?_ | refine blk_alloc ?_ _));exact BK210.out) hb);have n1_:=Aside0.mk (blk_below (g:=gb220) (o:=.cells #[.int .i64 t217,.int .i64 t218,.int .i64 t219] 39 (0,0)) (by (with_reducible repeat (first | refine blk_drewN ?_ _ | refine blk_drew ?_ | refine blk_alloc ?_ _));exact BK220.out) hb);have n2_:=Aside0.mk (blk_below (g:=gb227) (o:=.cells #[.int .i64 t224,.int .i64 t225,.int .i64 t226] 39 (0,0)) (by (with_reducible repeat (first | refine blk_drewN ?_ _ | refine blk_drew ?_ | refine blk_alloc ?_ _));exact BK227.out) hb);have n3_:=Aside0.mk (blk_below (g:=gb234) (o:=.cells #[.int .i64 t231,.int .i64 t232,.int .i64 t233] 39 (0,0)) (by (with_reducible repeat (first | refine blk_drewN ?_ _ | refine blk_drew ?_ | refine blk_alloc ?_ _));exact BK234.out) hb);have n4_:=Aside0.mk (blk_below (g:=gb241) (o:=.cells #[.int .i64 t238,.int .i64 t239,.int .i64 t240] 39 (0,0)) (by (with_reducible repeat (first | refine blk_drewN ?_ _ | refine blk_drew ?_ | refine blk_alloc ?_ _));exact BK241.out) hb);have n5_:=Aside0.mk (below_step (by repeat (first | (with_reducible first | exact HB.out | apply below_alloc | apply pw_below_drewN | apply below_drew1 | refine below_set ?_ GE210.out | refine below_set ?_ GE220.out | refine below_set ?_ GE227.out | refine below_set ?_ GE234.out | refine below_set ?_ GE241.out) | exact HB.out)) hb);clear BK210;clear BK220;clear BK227;clear BK234;clear BK241;clear HB;have BK210:=n0_;have BK220:=n1_;have BK227:=n2_;have BK234:=n3_;have BK241:=n4_;have HB:=n5_;clear n0_ n1_ n2_ n3_ n4_ n5_;(try clear hb);(try clear hb2);(try clear hk);(try clear hi)))
         go_ret
         exact ⟨by first | rfl | (simp [errW_none,errW_some] <;> rfl) | (simp [*,errW_none,errW_some] <;> rfl),by repeat (first | (with_reducible first | exact HB.out | apply below_alloc | apply pw_below_drewN | apply below_drew1 | refine below_set ?_ GE210.out | refine below_set ?_ GE220.out | refine below_set ?_ GE227.out | refine below_set ?_ GE234.out | refine below_set ?_ GE241.out) | exact HB.out)⟩
       ·replace c134:=Bool.eq_false_iff.mpr c134
        subst c134
        have H1 : (some false) = some true:=by rw [if_neg (show ¬ (false = true) by decide)] at H;exact H
        clear H
        have H:=H1
        clear H1
        exact absurd H (by simp)

end Go.Proofs.YtgalbiokebghkaaDoor.S
