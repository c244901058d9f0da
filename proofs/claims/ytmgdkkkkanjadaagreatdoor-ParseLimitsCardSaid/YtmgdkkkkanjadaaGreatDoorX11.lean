/- Written by a program of this claim's author (stubprint.py, over the kit's print) out of the translation: Go functions as Lean functions, and that the calls come to them. -/
import Derived.Test.YtmgdkkkkanjadaaGreatDoorX0
import Derived.Test.YtmgdkkkkanjadaaGreatDoorX9
import Derived.Test.YtmgdkkkkanjadaaGreatDoorX10
import Derived.Test.YtmgdkkkkanjadaaGreatDoorHandS
import Derived.WalkLawsBesides
import Derived.Test.YtmgdkkkkanjadaaGreatDoorHandQ
import Derived.Test.YtmgdkkkkanjadaaGreatDoorHandY
namespace Go.Proofs.YtmgdkkkkanjadaaGreatDoor.X
open Go.RowKit Go.Proofs.YtmgdkkkkanjadaaGreatDoorW.PrintWords Go.Proofs.YtmgdkkkkanjadaaGreatDoorW.PrintLast Go.Proofs.YtmgdkkkkanjadaaGreatDoorW.PrintMore Go.Proofs.YtmgdkkkkanjadaaGreatDoor.HandS Go.Proofs.YtmgdkkkkanjadaaGreatDoor.Iter
attribute [local go_sem] max2_int min2_int max_two min_two max_three min_three max_four min_four   -- for this text's walks alone
set_option linter.unusedVariables false
set_option linter.unusedSimpArgs false

attribute [local go_sem high] eqA28
/-! ### joustlaw02_ParseLimits: function 4 -/
mutual
def joustlaw02_ParseLimits.l0 : Nat → List ByteArray → List Int → List ByteArray → List ByteArray → Int → Int → ByteArray → Int → Option (Bool)
 | 0,_,_,_,_,_,_,_,_ => none
 | k + 1,x5,x6,x7,x8,x9,x10,x11,x12 => if x12 < x10 then (if 0 ≤ x9 then (if x9 < (x5.length : Int) then (if x11.size + (rdOf ByteArray.empty x5 x9).size ≤ 9223372036854775807 then (joustlaw02_ParseLimits.l0 k x5 x6 x7 x8 x9 x10 (x11 ++ (rdOf ByteArray.empty x5 x9)) (wrap64 (x12 + 1))) else (none)) else (none)) else (none)) else (if 0 ≤ x9 then (if x9 < (x8.length : Int) then (if x11.size + (rdOf ByteArray.empty x8 x9).size ≤ 9223372036854775807 then (joustlaw02_ParseLimits.l1 k x5 x6 x7 x9 x10 (x11 ++ (rdOf ByteArray.empty x8 x9)) 0) else (none)) else (none)) else (none))
def joustlaw02_ParseLimits.j2 : Nat → List ByteArray → List Int → List ByteArray → Int → Int → ByteArray → Option (Bool)
 | 0,_,_,_,_,_,_ => none
 | k + 1,x5,x6,x7,x9,x10,x11 => (parse_Pool.f k x11).bind fun bt203 => (if x9 > 3 then ((parse_Exprs.f k x11).bind fun bt210 => (joustlaw02_ParseLimits.j3 k x5 x6 x7 x9 x10 bt210.2.1 bt210.2.2.1 bt210.2.2.2)) else (joustlaw02_ParseLimits.j3 k x5 x6 x7 x9 x10 bt203.2.1 bt203.2.2.1 bt203.2.2.2))
def joustlaw02_ParseLimits.j3 : Nat → List ByteArray → List Int → List ByteArray → Int → Int → Int → Int → Int → Option (Bool)
 | 0,_,_,_,_,_,_,_,_ => none
 | k + 1,x5,x6,x7,x9,x10,x210000,x210001,x210002 => if 0 ≤ x9 then (if x9 < (x6.length : Int) then (if x10 ≤ (rd x6 x9) then (if (x210000 == 0 && ((x210001 == 0 && (x210002 == 0)))) = true then ((joustlaw02_lives.f k).bind fun t217 => (some t217)) else (some false)) else (if x9 < (x7.length : Int) then (if x9 < (x5.length : Int) then ((joustlaw02_at.f 3 (wrap64 ((wrap64 (((rdOf ByteArray.empty x7 x9).size : Int) + (wrap64 ((rd x6 x9) * ((rdOf ByteArray.empty x5 x9).size : Int))))) + 1))).bind fun bt221 => (if (x210000 == bt221.1 && ((x210001 == bt221.2.1 && (x210002 == bt221.2.2)))) = true then ((joustlaw02_lives.f k).bind fun t224 => (some t224)) else (some false))) else (none)) else (none))) else (none)) else (none)
def joustlaw02_ParseLimits.l1 : Nat → List ByteArray → List Int → List ByteArray → Int → Int → ByteArray → Int → Option (Bool)
 | 0,_,_,_,_,_,_,_ => none
 | k + 1,x5,x6,x7,x9,x10,x11,x13 => if x13 < x10 then (if x9 = 4 then (if x11.size + 2 ≤ 9223372036854775807 then (joustlaw02_ParseLimits.l1 k x5 x6 x7 x9 x10 (x11 ++ (⟨#[41,32]⟩ : ByteArray)) (wrap64 (x13 + 1))) else (none)) else (joustlaw02_ParseLimits.j2 k x5 x6 x7 x9 x10 x11)) else (joustlaw02_ParseLimits.j2 k x5 x6 x7 x9 x10 x11)
end
def joustlaw02_ParseLimits.f (k : Nat) (a0 : Int) (a1 : Int) : Option (Bool):=(some (([64,4,6,6,5,6] : List Int) : List Int)).bind fun y190 => ((some (([(⟨#[]⟩ : ByteArray),(⟨#[116,114,97,112,32,116,32,123,32]⟩ : ByteArray),(⟨#[116,114,97,112,32,116,32,123,32,112,108,97,121,32]⟩ : ByteArray),(⟨#[116,114,97,112,32,116,32,123,32,112,108,97,121,32,58,32]⟩ : ByteArray),(⟨#[]⟩ : ByteArray),(⟨#[]⟩ : ByteArray)] : List ByteArray) : List ByteArray)).bind fun y193 => (if 0 ≤ (wrap64 (Int.tmod a1 6)) then (if (wrap64 (Int.tmod a1 6)) < (y190.length : Int) then (if (wrap64 ((rd y190 (wrap64 (Int.tmod a1 6))) + 4)) = 0 then (none) else (if (wrap64 (Int.tmod a1 6)) < (y193.length : Int) then (joustlaw02_ParseLimits.l0 k (([(⟨#[116,114,97,112,32,116,32,123,32,125,32]⟩ : ByteArray),(⟨#[112,108,97,121,32,58,32]⟩ : ByteArray),(⟨#[110,101,101,100,115,32,49,32]⟩ : ByteArray),(⟨#[110,101,103,97,116,101,32,59,32]⟩ : ByteArray),(⟨#[40,32,110,111,116,32]⟩ : ByteArray),(⟨#[49,32]⟩ : ByteArray)] : List ByteArray)) y190 y193 (([(⟨#[]⟩ : ByteArray),(⟨#[125,32]⟩ : ByteArray),(⟨#[58,32,125,32]⟩ : ByteArray),(⟨#[125,32]⟩ : ByteArray),(⟨#[49,32]⟩ : ByteArray),(⟨#[]⟩ : ByteArray)] : List ByteArray)) (wrap64 (Int.tmod a1 6)) (Int.tmod (wrap64 (a0)) (wrap64 ((rd y190 (wrap64 (Int.tmod a1 6))) + 4))) (rdOf ByteArray.empty y193 (wrap64 (Int.tmod a1 6))) 0) else (none))) else (none)) else (none)))
theorem joustlaw02_ParseLimits.mono_l : ∀ k,(∀ y0 y1 y2 y3 y4 y5 y6 y7,LeO (joustlaw02_ParseLimits.l0 k y0 y1 y2 y3 y4 y5 y6 y7) (joustlaw02_ParseLimits.l0 (k + 1) y0 y1 y2 y3 y4 y5 y6 y7)) ∧ (∀ y0 y1 y2 y3 y4 y5,LeO (joustlaw02_ParseLimits.j2 k y0 y1 y2 y3 y4 y5) (joustlaw02_ParseLimits.j2 (k + 1) y0 y1 y2 y3 y4 y5)) ∧ (∀ y0 y1 y2 y3 y4 y5 y6 y7,LeO (joustlaw02_ParseLimits.j3 k y0 y1 y2 y3 y4 y5 y6 y7) (joustlaw02_ParseLimits.j3 (k + 1) y0 y1 y2 y3 y4 y5 y6 y7)) ∧ (∀ y0 y1 y2 y3 y4 y5 y6,LeO (joustlaw02_ParseLimits.l1 k y0 y1 y2 y3 y4 y5 y6) (joustlaw02_ParseLimits.l1 (k + 1) y0 y1 y2 y3 y4 y5 y6))
 | 0 => ⟨fun _ _ _ _ _ _ _ _ r h => by simp [joustlaw02_ParseLimits.l0] at h,fun _ _ _ _ _ _ r h => by simp [joustlaw02_ParseLimits.j2] at h,fun _ _ _ _ _ _ _ _ r h => by simp [joustlaw02_ParseLimits.j3] at h,fun _ _ _ _ _ _ _ r h => by simp [joustlaw02_ParseLimits.l1] at h⟩
 | k + 1 => by
  obtain ⟨ih0,ih1,ih2,ih3⟩:=joustlaw02_ParseLimits.mono_l k;refine ⟨?_,?_,?_,?_⟩
  ·intro y0 y1 y2 y3 y4 y5 y6 y7
   unfold joustlaw02_ParseLimits.l0
   repeat' first
   | (with_reducible exact ih0 _ _ _ _ _ _ _ _)
   | (with_reducible exact ih1 _ _ _ _ _ _)
   | (with_reducible exact ih2 _ _ _ _ _ _ _ _)
   | (with_reducible exact ih3 _ _ _ _ _ _ _)
   | (with_reducible exact joustlaw02_lives.mono _)
   | (with_reducible exact parse_Exprs.mono _ _)
   | (with_reducible exact parse_Pool.mono _ _)
   | (with_reducible exact LeO.refl _)
   | (with_reducible exact LeO.none _)
   | (with_reducible refine LeO.ite ?_ ?_)
   | (with_reducible refine LeO.bind ?_ (fun _ => ?_))
   | exact ih0 _ _ _ _ _ _ _ _
   | exact ih1 _ _ _ _ _ _
   | exact ih2 _ _ _ _ _ _ _ _
   | exact ih3 _ _ _ _ _ _ _
   | exact joustlaw02_lives.mono _
   | exact parse_Exprs.mono _ _
   | exact parse_Pool.mono _ _
   | exact LeO.none _
   | refine LeO.ite ?_ ?_
   | refine LeO.bind ?_ (fun _ => ?_)
  ·intro y0 y1 y2 y3 y4 y5
   unfold joustlaw02_ParseLimits.j2
   repeat' first
   | (with_reducible exact ih0 _ _ _ _ _ _ _ _)
   | (with_reducible exact ih1 _ _ _ _ _ _)
   | (with_reducible exact ih2 _ _ _ _ _ _ _ _)
   | (with_reducible exact ih3 _ _ _ _ _ _ _)
   | (with_reducible exact joustlaw02_lives.mono _)
   | (with_reducible exact parse_Exprs.mono _ _)
   | (with_reducible exact parse_Pool.mono _ _)
   | (with_reducible exact LeO.refl _)
   | (with_reducible exact LeO.none _)
   | (with_reducible refine LeO.ite ?_ ?_)
   | (with_reducible refine LeO.bind ?_ (fun _ => ?_))
   | exact ih0 _ _ _ _ _ _ _ _
   | exact ih1 _ _ _ _ _ _
   | exact ih2 _ _ _ _ _ _ _ _
   | exact ih3 _ _ _ _ _ _ _
   | exact joustlaw02_lives.mono _
   | exact parse_Exprs.mono _ _
   | exact parse_Pool.mono _ _
   | exact LeO.none _
   | refine LeO.ite ?_ ?_
   | refine LeO.bind ?_ (fun _ => ?_)
  ·intro y0 y1 y2 y3 y4 y5 y6 y7
   unfold joustlaw02_ParseLimits.j3
   repeat' first
   | (with_reducible exact ih0 _ _ _ _ _ _ _ _)
   | (with_reducible exact ih1 _ _ _ _ _ _)
   | (with_reducible exact ih2 _ _ _ _ _ _ _ _)
   | (with_reducible exact ih3 _ _ _ _ _ _ _)
   | (with_reducible exact joustlaw02_lives.mono _)
   | (with_reducible exact parse_Exprs.mono _ _)
   | (with_reducible exact parse_Pool.mono _ _)
   | (with_reducible exact LeO.refl _)
   | (with_reducible exact LeO.none _)
   | (with_reducible refine LeO.ite ?_ ?_)
   | (with_reducible refine LeO.bind ?_ (fun _ => ?_))
   | exact ih0 _ _ _ _ _ _ _ _
   | exact ih1 _ _ _ _ _ _
   | exact ih2 _ _ _ _ _ _ _ _
   | exact ih3 _ _ _ _ _ _ _
   | exact joustlaw02_lives.mono _
   | exact parse_Exprs.mono _ _
   | exact parse_Pool.mono _ _
   | exact LeO.none _
   | refine LeO.ite ?_ ?_
   | refine LeO.bind ?_ (fun _ => ?_)
  ·intro y0 y1 y2 y3 y4 y5 y6
   unfold joustlaw02_ParseLimits.l1
   repeat' first
   | (with_reducible exact ih0 _ _ _ _ _ _ _ _)
   | (with_reducible exact ih1 _ _ _ _ _ _)
   | (with_reducible exact ih2 _ _ _ _ _ _ _ _)
   | (with_reducible exact ih3 _ _ _ _ _ _ _)
   | (with_reducible exact joustlaw02_lives.mono _)
   | (with_reducible exact parse_Exprs.mono _ _)
   | (with_reducible exact parse_Pool.mono _ _)
   | (with_reducible exact LeO.refl _)
   | (with_reducible exact LeO.none _)
   | (with_reducible refine LeO.ite ?_ ?_)
   | (with_reducible refine LeO.bind ?_ (fun _ => ?_))
   | exact ih0 _ _ _ _ _ _ _ _
   | exact ih1 _ _ _ _ _ _
   | exact ih2 _ _ _ _ _ _ _ _
   | exact ih3 _ _ _ _ _ _ _
   | exact joustlaw02_lives.mono _
   | exact parse_Exprs.mono _ _
   | exact parse_Pool.mono _ _
   | exact LeO.none _
   | refine LeO.ite ?_ ?_
   | refine LeO.bind ?_ (fun _ => ?_)
theorem joustlaw02_ParseLimits.mono : ∀ a0 a1 k,LeO (joustlaw02_ParseLimits.f k a0 a1) (joustlaw02_ParseLimits.f (k + 1) a0 a1):=by
 intro a0 a1 k;obtain ⟨ih0,ih1,ih2,ih3⟩:=joustlaw02_ParseLimits.mono_l k
 unfold joustlaw02_ParseLimits.f
 repeat' first
   | (with_reducible exact ih0 _ _ _ _ _ _ _ _)
   | (with_reducible exact ih1 _ _ _ _ _ _)
   | (with_reducible exact ih2 _ _ _ _ _ _ _ _)
   | (with_reducible exact ih3 _ _ _ _ _ _ _)
   | (with_reducible exact joustlaw02_lives.mono _)
   | (with_reducible exact parse_Exprs.mono _ _)
   | (with_reducible exact parse_Pool.mono _ _)
   | (with_reducible exact LeO.refl _)
   | (with_reducible exact LeO.none _)
   | (with_reducible refine LeO.ite ?_ ?_)
   | (with_reducible refine LeO.bind ?_ (fun _ => ?_))
   | exact ih0 _ _ _ _ _ _ _ _
   | exact ih1 _ _ _ _ _ _
   | exact ih2 _ _ _ _ _ _ _ _
   | exact ih3 _ _ _ _ _ _ _
   | exact joustlaw02_lives.mono _
   | exact parse_Exprs.mono _ _
   | exact parse_Pool.mono _ _
   | exact LeO.none _
   | refine LeO.ite ?_ ?_
   | refine LeO.bind ?_ (fun _ => ?_)
def joustlaw02_ParseLimits.T22 : Bool × List (List Nat × List Nat):=(true,[([],[]),([],[]),([],[]),([1,2],[1,2]),([3],[3]),([4],[4]),([],[]),([],[]),([6,7],[6,7]),([8],[8]),([],[]),([],[]),([10,11],[10,11]),([12],[12]),([13],[13]),([9,14],[9,14]),([5,15],[5,15]),([16],[16]),([17],[17]),([0,18],[0,18]),([19,18],[19]),([20,20],[20]),([20,21],[20,21]),([22,21,0,1,2,3,4,5,6,7,8,9,10,11,12,13,14,15,16,17,18,19,20,21,22],[22])])
def joustlaw02_ParseLimits.B22 : List Nat:=[0,0,0,6,14,30,0,0,192,448,0,0,3072,7168,15360,32704,65534,131070,262142,524287,1048575,2097151,4194303,8388607]
theorem joustlaw02_ParseLimits.tab22 : rtab .any (opsOf Tryz.f4 22) = joustlaw02_ParseLimits.T22:=by kernel_rfl
theorem joustlaw02_ParseLimits.bits22 : waitsOk joustlaw02_ParseLimits.T22.2 joustlaw02_ParseLimits.B22 = true:=by kernel_rfl
set_option maxHeartbeats 8000000 in
set_option maxRecDepth 100000 in
theorem joustlaw02_ParseLimits.calls_true (k : Nat) (a0 : Int) (a1 : Int) (w : World) (hG : Tabs w) (h : joustlaw02_ParseLimits.f k a0 a1 = some true) :
  Calls Tryz.prog 4 #[.int .u8 a0,.int .u8 a1] w fun e w' => e = .returned (.bool true) ∧ Below w.heap.size w w':=by
 have hu28:=Tryz.underlying28;have HG:=Aside0.mk hG;clear hG;have HB:=Aside0.mk (Below.refl w.heap.size w);have H : ((some (([64,4,6,6,5,6] : List Int) : List Int)).bind fun y190 => ((some (([(⟨#[]⟩ : ByteArray),(⟨#[116,114,97,112,32,116,32,123,32]⟩ : ByteArray),(⟨#[116,114,97,112,32,116,32,123,32,112,108,97,121,32]⟩ : ByteArray),(⟨#[116,114,97,112,32,116,32,123,32,112,108,97,121,32,58,32]⟩ : ByteArray),(⟨#[]⟩ : ByteArray),(⟨#[]⟩ : ByteArray)] : List ByteArray) : List ByteArray)).bind fun y193 => (if 0 ≤ (wrap64 (Int.tmod a1 6)) then (if (wrap64 (Int.tmod a1 6)) < (y190.length : Int) then (if (wrap64 ((rd y190 (wrap64 (Int.tmod a1 6))) + 4)) = 0 then (none) else (if (wrap64 (Int.tmod a1 6)) < (y193.length : Int) then (joustlaw02_ParseLimits.l0 k (([(⟨#[116,114,97,112,32,116,32,123,32,125,32]⟩ : ByteArray),(⟨#[112,108,97,121,32,58,32]⟩ : ByteArray),(⟨#[110,101,101,100,115,32,49,32]⟩ : ByteArray),(⟨#[110,101,103,97,116,101,32,59,32]⟩ : ByteArray),(⟨#[40,32,110,111,116,32]⟩ : ByteArray),(⟨#[49,32]⟩ : ByteArray)] : List ByteArray)) y190 y193 (([(⟨#[]⟩ : ByteArray),(⟨#[125,32]⟩ : ByteArray),(⟨#[58,32,125,32]⟩ : ByteArray),(⟨#[125,32]⟩ : ByteArray),(⟨#[49,32]⟩ : ByteArray),(⟨#[]⟩ : ByteArray)] : List ByteArray)) (wrap64 (Int.tmod a1 6)) (Int.tmod (wrap64 (a0)) (wrap64 ((rd y190 (wrap64 (Int.tmod a1 6))) + 4))) (rdOf ByteArray.empty y193 (wrap64 (Int.tmod a1 6))) 0) else (none))) else (none)) else (none)))) = some true:=h;clear h;obtain ⟨y187,hy187⟩ : ∃ y_ : List ByteArray,y_ = (([(⟨#[116,114,97,112,32,116,32,123,32,125,32]⟩ : ByteArray),(⟨#[112,108,97,121,32,58,32]⟩ : ByteArray),(⟨#[110,101,101,100,115,32,49,32]⟩ : ByteArray),(⟨#[110,101,103,97,116,101,32,59,32]⟩ : ByteArray),(⟨#[40,32,110,111,116,32]⟩ : ByteArray),(⟨#[49,32]⟩ : ByteArray)] : List ByteArray)):=⟨_,rfl⟩
 replace H : ((some (([64,4,6,6,5,6] : List Int) : List Int)).bind fun y190 => ((some (([(⟨#[]⟩ : ByteArray),(⟨#[116,114,97,112,32,116,32,123,32]⟩ : ByteArray),(⟨#[116,114,97,112,32,116,32,123,32,112,108,97,121,32]⟩ : ByteArray),(⟨#[116,114,97,112,32,116,32,123,32,112,108,97,121,32,58,32]⟩ : ByteArray),(⟨#[]⟩ : ByteArray),(⟨#[]⟩ : ByteArray)] : List ByteArray) : List ByteArray)).bind fun y193 => (if 0 ≤ (wrap64 (Int.tmod a1 6)) then (if (wrap64 (Int.tmod a1 6)) < (y190.length : Int) then (if (wrap64 ((rd y190 (wrap64 (Int.tmod a1 6))) + 4)) = 0 then (none) else (if (wrap64 (Int.tmod a1 6)) < (y193.length : Int) then (joustlaw02_ParseLimits.l0 k y187 y190 y193 (([(⟨#[]⟩ : ByteArray),(⟨#[125,32]⟩ : ByteArray),(⟨#[58,32,125,32]⟩ : ByteArray),(⟨#[125,32]⟩ : ByteArray),(⟨#[49,32]⟩ : ByteArray),(⟨#[]⟩ : ByteArray)] : List ByteArray)) (wrap64 (Int.tmod a1 6)) (Int.tmod (wrap64 (a0)) (wrap64 ((rd y190 (wrap64 (Int.tmod a1 6))) + 4))) (rdOf ByteArray.empty y193 (wrap64 (Int.tmod a1 6))) 0) else (none))) else (none)) else (none)))) = some true:=by first | (rw [hy187];with_reducible exact H) | (have H2_:=(Option.bind_some _ _).symm.trans H;rw [hy187];with_reducible exact H2_) | (have H2_:=(Option.bind_some _ _).symm.trans H;with_reducible exact H2_) | with_reducible exact H | (rw [hy187];exact H) | exact H
 have Ny187:=Aside0.mk hy187;clear hy187;obtain ⟨y190,hy190⟩ : ∃ y_ : List Int,y_ = (([64,4,6,6,5,6] : List Int)):=⟨_,rfl⟩;replace H : ((some (([(⟨#[]⟩ : ByteArray),(⟨#[116,114,97,112,32,116,32,123,32]⟩ : ByteArray),(⟨#[116,114,97,112,32,116,32,123,32,112,108,97,121,32]⟩ : ByteArray),(⟨#[116,114,97,112,32,116,32,123,32,112,108,97,121,32,58,32]⟩ : ByteArray),(⟨#[]⟩ : ByteArray),(⟨#[]⟩ : ByteArray)] : List ByteArray) : List ByteArray)).bind fun y193 => (if 0 ≤ (wrap64 (Int.tmod a1 6)) then (if (wrap64 (Int.tmod a1 6)) < (y190.length : Int) then (if (wrap64 ((rd y190 (wrap64 (Int.tmod a1 6))) + 4)) = 0 then (none) else (if (wrap64 (Int.tmod a1 6)) < (y193.length : Int) then (joustlaw02_ParseLimits.l0 k y187 y190 y193 (([(⟨#[]⟩ : ByteArray),(⟨#[125,32]⟩ : ByteArray),(⟨#[58,32,125,32]⟩ : ByteArray),(⟨#[125,32]⟩ : ByteArray),(⟨#[49,32]⟩ : ByteArray),(⟨#[]⟩ : ByteArray)] : List ByteArray)) (wrap64 (Int.tmod a1 6)) (Int.tmod (wrap64 (a0)) (wrap64 ((rd y190 (wrap64 (Int.tmod a1 6))) + 4))) (rdOf ByteArray.empty y193 (wrap64 (Int.tmod a1 6))) 0) else (none))) else (none)) else (none))) = some true:=by first | (rw [hy190];with_reducible exact H) | (have H2_:=(Option.bind_some _ _).symm.trans H;rw [hy190];with_reducible exact H2_) | (have H2_:=(Option.bind_some _ _).symm.trans H;with_reducible exact H2_) | with_reducible exact H | (rw [hy190];exact H) | exact H
 have Ny190:=Aside0.mk hy190;clear hy190;obtain ⟨y193,hy193⟩ : ∃ y_ : List ByteArray,y_ = (([(⟨#[]⟩ : ByteArray),(⟨#[116,114,97,112,32,116,32,123,32]⟩ : ByteArray),(⟨#[116,114,97,112,32,116,32,123,32,112,108,97,121,32]⟩ : ByteArray),(⟨#[116,114,97,112,32,116,32,123,32,112,108,97,121,32,58,32]⟩ : ByteArray),(⟨#[]⟩ : ByteArray),(⟨#[]⟩ : ByteArray)] : List ByteArray)):=⟨_,rfl⟩;replace H : (if 0 ≤ (wrap64 (Int.tmod a1 6)) then (if (wrap64 (Int.tmod a1 6)) < (y190.length : Int) then (if (wrap64 ((rd y190 (wrap64 (Int.tmod a1 6))) + 4)) = 0 then (none) else (if (wrap64 (Int.tmod a1 6)) < (y193.length : Int) then (joustlaw02_ParseLimits.l0 k y187 y190 y193 (([(⟨#[]⟩ : ByteArray),(⟨#[125,32]⟩ : ByteArray),(⟨#[58,32,125,32]⟩ : ByteArray),(⟨#[125,32]⟩ : ByteArray),(⟨#[49,32]⟩ : ByteArray),(⟨#[]⟩ : ByteArray)] : List ByteArray)) (wrap64 (Int.tmod a1 6)) (Int.tmod (wrap64 (a0)) (wrap64 ((rd y190 (wrap64 (Int.tmod a1 6))) + 4))) (rdOf ByteArray.empty y193 (wrap64 (Int.tmod a1 6))) 0) else (none))) else (none)) else (none)) = some true:=by first | (rw [hy193];with_reducible exact H) | (have H2_:=(Option.bind_some _ _).symm.trans H;rw [hy193];with_reducible exact H2_) | (have H2_:=(Option.bind_some _ _).symm.trans H;with_reducible exact H2_) | with_reducible exact H | (rw [hy193];exact H) | exact H
 have Ny193:=Aside0.mk hy193;clear hy193;obtain ⟨y196,hy196⟩ : ∃ y_ : List ByteArray,y_ = (([(⟨#[]⟩ : ByteArray),(⟨#[125,32]⟩ : ByteArray),(⟨#[58,32,125,32]⟩ : ByteArray),(⟨#[125,32]⟩ : ByteArray),(⟨#[49,32]⟩ : ByteArray),(⟨#[]⟩ : ByteArray)] : List ByteArray)):=⟨_,rfl⟩;replace H : (if 0 ≤ (wrap64 (Int.tmod a1 6)) then (if (wrap64 (Int.tmod a1 6)) < (y190.length : Int) then (if (wrap64 ((rd y190 (wrap64 (Int.tmod a1 6))) + 4)) = 0 then (none) else (if (wrap64 (Int.tmod a1 6)) < (y193.length : Int) then (joustlaw02_ParseLimits.l0 k y187 y190 y193 y196 (wrap64 (Int.tmod a1 6)) (Int.tmod (wrap64 (a0)) (wrap64 ((rd y190 (wrap64 (Int.tmod a1 6))) + 4))) (rdOf ByteArray.empty y193 (wrap64 (Int.tmod a1 6))) 0) else (none))) else (none)) else (none)) = some true:=by first | (rw [hy196];with_reducible exact H) | (have H2_:=(Option.bind_some _ _).symm.trans H;rw [hy196];with_reducible exact H2_) | (have H2_:=(Option.bind_some _ _).symm.trans H;with_reducible exact H2_) | with_reducible exact H | (rw [hy196];exact H) | exact H
 have Ny196:=Aside0.mk hy196;clear hy196;obtain ⟨ji3,hji3⟩ : ∃ j_ : Int,(wrap64 (Int.tmod a1 6)) = j_:=⟨_,rfl⟩;replace H : (if 0 ≤ (ji3) then (if (ji3) < (y190.length : Int) then (if (wrap64 ((rd y190 (ji3)) + 4)) = 0 then (none) else (if (ji3) < (y193.length : Int) then (joustlaw02_ParseLimits.l0 k y187 y190 y193 y196 ji3 (Int.tmod (wrap64 (a0)) (wrap64 ((rd y190 (ji3)) + 4))) (rdOf ByteArray.empty y193 (ji3)) 0) else (none))) else (none)) else (none)) = some true:=by first | (rw [hji3] at H;exact H) | (simp only [hji3] at H ⊢;exact H)
 have hji3w : (IntKind.i64.wrap (Int.tmod a1 6)) = ji3:=(i64_w _).trans hji3
 by_cases c4 : 0 ≤ (ji3)
 ·rw [if_pos c4] at H;have c4b0 : decide (0 ≤ (ji3)) = true:=decide_eq_true c4;clear c4
  by_cases c5 : (ji3) < (y190.length : Int)
  ·rw [if_pos c5] at H;have c5b0 : decide ((ji3) < (y190.length : Int)) = true:=decide_eq_true c5;clear c5
   by_cases c6 : (wrap64 ((rd y190 (ji3)) + 4)) = 0
   ·rw [if_pos c6] at H;exact absurd H (by simp)
   ·rw [if_neg c6] at H;have c6b0 : ((wrap64 ((rd y190 (ji3)) + 4)) == 0) = false:=beq_eq_false_iff_ne.mpr c6;have c6b1 : ((wrap64 ((rd y190 (ji3)) + 4)) != 0) = true:=bne_iff_ne.mpr c6
    by_cases c7 : (ji3) < (y193.length : Int)
    ·rw [if_pos c7] at H;have c7b0 : decide ((ji3) < (y193.length : Int)) = true:=decide_eq_true c7;clear c7;have H':=Aside0.mk H;clear H
     go_enter Tryz.func4,Tryz.ntmps4
     go_wp2_with (first | ((with_reducible refine gate_dst (N:=16) rfl ?_);refine Kd.R_lit Kd.string _ 9 ?hg (N:=16) ?hd (xs:=([(⟨#[116,114,97,112,32,116,32,123,32,125,32]⟩ : ByteArray),(⟨#[112,108,97,121,32,58,32]⟩ : ByteArray),(⟨#[110,101,101,100,115,32,49,32]⟩ : ByteArray),(⟨#[110,101,103,97,116,101,32,59,32]⟩ : ByteArray),(⟨#[40,32,110,111,116,32]⟩ : ByteArray),(⟨#[49,32]⟩ : ByteArray)] : List ByteArray)) (inner:=[.string (⟨#[116,114,97,112,32,116,32,123,32,125,32]⟩ : ByteArray),.string (⟨#[112,108,97,121,32,58,32]⟩ : ByteArray),.string (⟨#[110,101,101,100,115,32,49,32]⟩ : ByteArray),.string (⟨#[110,101,103,97,116,101,32,59,32]⟩ : ByteArray),.string (⟨#[40,32,110,111,116,32]⟩ : ByteArray),.string (⟨#[49,32]⟩ : ByteArray)]) (ok:=fun _ => True) (okp:=fun _ => True) ?hr ?hp (fun _ hk => hk) trivial (Below.refl _ _) (Nat.le_refl _) (by simp) ?_;(case hd => rfl);(case hg => rfl);(case hr => first | (go_simp;done) | (go_simp;rfl));(case hp => exact (Reps.one (show Kd.M Kd.string _ _ _ (⟨#[116,114,97,112,32,116,32,123,32,125,32]⟩ : ByteArray) [.string (⟨#[116,114,97,112,32,116,32,123,32,125,32]⟩ : ByteArray)] from rfl) (Reps.one (show Kd.M Kd.string _ _ _ (⟨#[112,108,97,121,32,58,32]⟩ : ByteArray) [.string (⟨#[112,108,97,121,32,58,32]⟩ : ByteArray)] from rfl) (Reps.one (show Kd.M Kd.string _ _ _ (⟨#[110,101,101,100,115,32,49,32]⟩ : ByteArray) [.string (⟨#[110,101,101,100,115,32,49,32]⟩ : ByteArray)] from rfl) (Reps.one (show Kd.M Kd.string _ _ _ (⟨#[110,101,103,97,116,101,32,59,32]⟩ : ByteArray) [.string (⟨#[110,101,103,97,116,101,32,59,32]⟩ : ByteArray)] from rfl) (Reps.one (show Kd.M Kd.string _ _ _ (⟨#[40,32,110,111,116,32]⟩ : ByteArray) [.string (⟨#[40,32,110,111,116,32]⟩ : ByteArray)] from rfl) (Reps.one (show Kd.M Kd.string _ _ _ (⟨#[49,32]⟩ : ByteArray) [.string (⟨#[49,32]⟩ : ByteArray)] from rfl) (Reps.none _ _))))))));intro v188 w8 ho9 hb hg_ hnew_;clear hg_ hnew_;(first | rw [← Ny187.out] at ho9 | (simp only [Int.reduceToNat] at ho9;rw [← Ny187.out] at ho9));have n0_:=Aside0.mk (Kd.R_lower ho9 (below_size (bl0 HB.out)));have n1_:=Aside0.mk (below_step (bl0 HB.out) hb);clear HB;have HO189:=n0_;have HB:=n1_;clear n0_ n1_;clear hb ho9) | ((with_reducible refine gate_dst (N:=17) rfl ?_);refine Kd.R_lit (Kd.int .i64) _ 3 ?hg (N:=17) ?hd (xs:=([64,4,6,6,5,6] : List Int)) (inner:=[.int .i64 64,.int .i64 4,.int .i64 6,.int .i64 6,.int .i64 5,.int .i64 6]) (ok:=fun _ => True) (okp:=fun _ => True) ?hr ?hp (fun _ hk => hk) trivial (Below.refl _ _) (Nat.le_refl _) (by simp) ?_;(case hd => rfl);(case hg => rfl);(case hr => first | (go_simp;done) | (go_simp;rfl));(case hp => exact (Reps.one (show Kd.M (Kd.int .i64) _ _ _ 64 [.int .i64 64] from rfl) (Reps.one (show Kd.M (Kd.int .i64) _ _ _ 4 [.int .i64 4] from rfl) (Reps.one (show Kd.M (Kd.int .i64) _ _ _ 6 [.int .i64 6] from rfl) (Reps.one (show Kd.M (Kd.int .i64) _ _ _ 6 [.int .i64 6] from rfl) (Reps.one (show Kd.M (Kd.int .i64) _ _ _ 5 [.int .i64 5] from rfl) (Reps.one (show Kd.M (Kd.int .i64) _ _ _ 6 [.int .i64 6] from rfl) (Reps.none _ _))))))));intro v191 w10 ho11 hb hg_ hnew_;clear hg_ hnew_;(first | rw [← Ny190.out] at ho11 | (simp only [Int.reduceToNat] at ho11;rw [← Ny190.out] at ho11));have n0_:=Aside0.mk (Kd.R_below (by (with_reducible repeat (first | apply Kd.R_alloc | apply Kd.R_drewN | apply Kd.R_drew));exact HO189.out) hb);have n1_:=Aside0.mk (Kd.R_lower ho11 (below_size (bl0 HB.out)));have n2_:=Aside0.mk (below_step (bl0 HB.out) hb);clear HO189;clear HB;have HO189:=n0_;have HO192:=n1_;have HB:=n2_;clear n0_ n1_ n2_;clear hb ho11) | ((with_reducible refine gate_dst (N:=18) rfl ?_);refine Kd.R_lit Kd.string _ 9 ?hg (N:=18) ?hd (xs:=([(⟨#[]⟩ : ByteArray),(⟨#[116,114,97,112,32,116,32,123,32]⟩ : ByteArray),(⟨#[116,114,97,112,32,116,32,123,32,112,108,97,121,32]⟩ : ByteArray),(⟨#[116,114,97,112,32,116,32,123,32,112,108,97,121,32,58,32]⟩ : ByteArray),(⟨#[]⟩ : ByteArray),(⟨#[]⟩ : ByteArray)] : List ByteArray)) (inner:=[.string (⟨#[]⟩ : ByteArray),.string (⟨#[116,114,97,112,32,116,32,123,32]⟩ : ByteArray),.string (⟨#[116,114,97,112,32,116,32,123,32,112,108,97,121,32]⟩ : ByteArray),.string (⟨#[116,114,97,112,32,116,32,123,32,112,108,97,121,32,58,32]⟩ : ByteArray),.string (⟨#[]⟩ : ByteArray),.string (⟨#[]⟩ : ByteArray)]) (ok:=fun _ => True) (okp:=fun _ => True) ?hr ?hp (fun _ hk => hk) trivial (Below.refl _ _) (Nat.le_refl _) (by simp) ?_;(case hd => rfl);(case hg => rfl);(case hr => first | (go_simp;done) | (go_simp;rfl));(case hp => exact (Reps.one (show Kd.M Kd.string _ _ _ (⟨#[]⟩ : ByteArray) [.string (⟨#[]⟩ : ByteArray)] from rfl) (Reps.one (show Kd.M Kd.string _ _ _ (⟨#[116,114,97,112,32,116,32,123,32]⟩ : ByteArray) [.string (⟨#[116,114,97,112,32,116,32,123,32]⟩ : ByteArray)] from rfl) (Reps.one (show Kd.M Kd.string _ _ _ (⟨#[116,114,97,112,32,116,32,123,32,112,108,97,121,32]⟩ : ByteArray) [.string (⟨#[116,114,97,112,32,116,32,123,32,112,108,97,121,32]⟩ : ByteArray)] from rfl) (Reps.one (show Kd.M Kd.string _ _ _ (⟨#[116,114,97,112,32,116,32,123,32,112,108,97,121,32,58,32]⟩ : ByteArray) [.string (⟨#[116,114,97,112,32,116,32,123,32,112,108,97,121,32,58,32]⟩ : ByteArray)] from rfl) (Reps.one (show Kd.M Kd.string _ _ _ (⟨#[]⟩ : ByteArray) [.string (⟨#[]⟩ : ByteArray)] from rfl) (Reps.one (show Kd.M Kd.string _ _ _ (⟨#[]⟩ : ByteArray) [.string (⟨#[]⟩ : ByteArray)] from rfl) (Reps.none _ _))))))));intro v194 w12 ho13 hb hg_ hnew_;clear hg_ hnew_;(first | rw [← Ny193.out] at ho13 | (simp only [Int.reduceToNat] at ho13;rw [← Ny193.out] at ho13));have n0_:=Aside0.mk (Kd.R_elder' (by (with_reducible repeat (first | apply Kd.R_alloc | apply Kd.R_drewN | apply Kd.R_drew));exact HO189.out) (Kd.R_base ho13) hb);have n1_:=Aside0.mk (Kd.R_below (by (with_reducible repeat (first | apply Kd.R_alloc | apply Kd.R_drewN | apply Kd.R_drew));exact HO192.out) hb);have n2_:=Aside0.mk (Kd.R_lower (Kd.R_new' ho13 (Kd.R_lt (by (with_reducible repeat (first | apply Kd.R_alloc | apply Kd.R_drewN | apply Kd.R_drew));exact HO189.out))) (below_size (bl0 HB.out)));have n3_:=Aside0.mk (below_step (bl0 HB.out) hb);clear HO189;clear HO192;clear HB;have HO189:=n0_;have HO192:=n1_;have HO195:=n2_;have HB:=n3_;clear n0_ n1_ n2_ n3_;clear hb ho13) | ((with_reducible refine gate_dst (N:=19) rfl ?_);refine Kd.R_lit Kd.string _ 9 ?hg (N:=19) ?hd (xs:=([(⟨#[]⟩ : ByteArray),(⟨#[125,32]⟩ : ByteArray),(⟨#[58,32,125,32]⟩ : ByteArray),(⟨#[125,32]⟩ : ByteArray),(⟨#[49,32]⟩ : ByteArray),(⟨#[]⟩ : ByteArray)] : List ByteArray)) (inner:=[.string (⟨#[]⟩ : ByteArray),.string (⟨#[125,32]⟩ : ByteArray),.string (⟨#[58,32,125,32]⟩ : ByteArray),.string (⟨#[125,32]⟩ : ByteArray),.string (⟨#[49,32]⟩ : ByteArray),.string (⟨#[]⟩ : ByteArray)]) (ok:=fun _ => True) (okp:=fun _ => True) ?hr ?hp (fun _ hk => hk) trivial (Below.refl _ _) (Nat.le_refl _) (by simp) ?_;(case hd => rfl);(case hg => rfl);(case hr => first | (go_simp;done) | (go_simp;rfl));(case hp => exact (Reps.one (show Kd.M Kd.string _ _ _ (⟨#[]⟩ : ByteArray) [.string (⟨#[]⟩ : ByteArray)] from rfl) (Reps.one (show Kd.M Kd.string _ _ _ (⟨#[125,32]⟩ : ByteArray) [.string (⟨#[125,32]⟩ : ByteArray)] from rfl) (Reps.one (show Kd.M Kd.string _ _ _ (⟨#[58,32,125,32]⟩ : ByteArray) [.string (⟨#[58,32,125,32]⟩ : ByteArray)] from rfl) (Reps.one (show Kd.M Kd.string _ _ _ (⟨#[125,32]⟩ : ByteArray) [.string (⟨#[125,32]⟩ : ByteArray)] from rfl) (Reps.one (show Kd.M Kd.string _ _ _ (⟨#[49,32]⟩ : ByteArray) [.string (⟨#[49,32]⟩ : ByteArray)] from rfl) (Reps.one (show Kd.M Kd.string _ _ _ (⟨#[]⟩ : ByteArray) [.string (⟨#[]⟩ : ByteArray)] from rfl) (Reps.none _ _))))))));intro v197 w14 ho15 hb hg_ hnew_;clear hg_ hnew_;(first | rw [← Ny196.out] at ho15 | (simp only [Int.reduceToNat] at ho15;rw [← Ny196.out] at ho15));have n0_:=Aside0.mk (Kd.R_elder' (by (with_reducible repeat (first | apply Kd.R_alloc | apply Kd.R_drewN | apply Kd.R_drew));exact HO189.out) (Kd.R_base ho15) hb);have n1_:=Aside0.mk (Kd.R_below (by (with_reducible repeat (first | apply Kd.R_alloc | apply Kd.R_drewN | apply Kd.R_drew));exact HO192.out) hb);have n2_:=Aside0.mk (Kd.R_elder' (by (with_reducible repeat (first | apply Kd.R_alloc | apply Kd.R_drewN | apply Kd.R_drew));exact HO195.out) (Kd.R_base ho15) hb);have n3_:=Aside0.mk (Kd.R_lower (Kd.R_new' (Kd.R_new' ho15 (Kd.R_lt (by (with_reducible repeat (first | apply Kd.R_alloc | apply Kd.R_drewN | apply Kd.R_drew));exact HO189.out))) (Kd.R_lt (by (with_reducible repeat (first | apply Kd.R_alloc | apply Kd.R_drewN | apply Kd.R_drew));exact HO195.out))) (below_size (bl0 HB.out)));have n4_:=Aside0.mk (below_step (bl0 HB.out) hb);clear HO189;clear HO192;clear HO195;clear HB;have HO189:=n0_;have HO192:=n1_;have HO195:=n2_;have HO198:=n3_;have HB:=n4_;clear n0_ n1_ n2_ n3_ n4_;clear hb ho15;obtain ⟨Ao16,co16,eo16⟩:=Kd.R_slice HO192.out;subst eo16;have p199 : 0 ≤ ((ji3) : Int):=of_decide_eq_true (by first | (with_reducible assumption) | assumption);have q199 : (ji3) < (y190.length : Int):=of_decide_eq_true (by first | (with_reducible assumption) | assumption);obtain ⟨ad199,e199,hx199_0⟩:=Kd.at_int (Kd.R_reads' HO192.out).2.2 (ji3) p199 q199;cases e199;replace p199:=eq_true p199;replace q199:=eq_true q199;obtain ⟨Ao17,co17,eo17⟩:=Kd.R_slice HO195.out;subst eo17;have p200 : 0 ≤ ((ji3) : Int):=of_decide_eq_true (by first | (with_reducible assumption) | assumption);have q200 : (ji3) < (y193.length : Int):=of_decide_eq_true (by first | (with_reducible assumption) | assumption);obtain ⟨ad200,e200,hx200_0⟩:=Kd.at_string (Kd.R_reads' HO195.out).2.2 (ji3) p200 q200;cases e200;replace p200:=eq_true p200;replace q200:=eq_true q200))
     (try simp only [Act.put,List.setIfInBounds_toArray,List.set_cons_zero,List.set_cons_succ])
     go_loopg [11,12] k (fun kq v11 v12 w' => ∃ (x11_1 : ByteArray) (x12_1 : Int),v11 = .string x11_1 ∧ v12 = .int .i64 x12_1 ∧ Aside0 (joustlaw02_ParseLimits.l0 kq y187 y190 y193 y196 ji3 (Int.tmod (wrap64 (a0)) (wrap64 ((rd y190 (ji3)) + 4))) x11_1 x12_1 = some true) ∧ Aside0 (kq ≤ k) ∧ Aside0 (Kd.R Kd.string 9 w' w.heap.size (fun k_ => some k_ ≠ ((.slice (some ad200) y193.length co17) : Value).ownBlock ∧ some k_ ≠ (v197 : Value).ownBlock) v188 y187) ∧ Aside0 (Kd.R (Kd.int .i64) 3 w' w.heap.size (fun _ => True) (.slice (some ad199) y190.length co16) y190) ∧ Aside0 (Kd.R Kd.string 9 w' w.heap.size (fun k_ => some k_ ≠ (v188 : Value).ownBlock ∧ some k_ ≠ (v197 : Value).ownBlock) (.slice (some ad200) y193.length co17) y193) ∧ Aside0 (Kd.R Kd.string 9 w' w.heap.size (fun k_ => some k_ ≠ (v188 : Value).ownBlock ∧ some k_ ≠ ((.slice (some ad200) y193.length co17) : Value).ownBlock) v197 y196) ∧ Aside0 (Below w.heap.size w w'))
     case atStart => exact ⟨(rdOf ByteArray.empty y193 (ji3)),(0),(by first | rfl | (simp;done) | (simp only [← hji3] <;> (first | rfl | simp)) | (simp [*];done)),(by first | rfl | (simp;done) | (simp [*];done)),H',⟨Nat.le_refl _⟩,⟨by (with_reducible repeat (first | apply Kd.R_alloc | apply Kd.R_drewN | apply Kd.R_drew));exact Kd.R_mono HO189.out (fun _ hk => ⟨hk.1.2,hk.2⟩)⟩,⟨by (with_reducible repeat (first | apply Kd.R_alloc | apply Kd.R_drewN | apply Kd.R_drew));exact HO192.out⟩,⟨by (with_reducible repeat (first | apply Kd.R_alloc | apply Kd.R_drewN | apply Kd.R_drew));exact Kd.R_mono HO195.out (fun _ hk => ⟨hk.1.2,hk.2⟩)⟩,⟨by (with_reducible repeat (first | apply Kd.R_alloc | apply Kd.R_drewN | apply Kd.R_drew));exact Kd.R_mono HO198.out (fun _ hk => ⟨hk.1.2,hk.2⟩)⟩,⟨bl0 HB.out⟩⟩
     case round =>
      clear H'
      try clear p1
      try clear q1
      try clear hx1
      try clear p2
      try clear q2
      try clear hx2
      try clear c4
      try clear c4b0
      try clear c5
      try clear c5b0
      try clear c6
      try clear c6b0
      try clear c6b1
      try clear p6
      try clear c7
      try clear c7b0
      try clear hx199_0
      try clear hx200_0
      try clear p199
      try clear p200
      try clear q199
      try clear q200
      obtain ⟨x11_1,x12_1,rfl,rfl,HA,HK1,HO_5,HO_6,HO_7,HO_8,HB⟩:=hrel
      cases gk with
      | zero => exact absurd HA.out (by simp [joustlaw02_ParseLimits.l0])
      | succ k1 =>
       have H:=HA.out;clear HA;simp only [joustlaw02_ParseLimits.l0] at H
       by_cases c18 : x12_1 < (Int.tmod (wrap64 (a0)) (wrap64 ((rd y190 (ji3)) + 4)))
       ·rw [if_pos c18] at H;have c18b0 : decide (x12_1 < (Int.tmod (wrap64 (a0)) (wrap64 ((rd y190 (ji3)) + 4)))) = true:=decide_eq_true c18;clear c18
        by_cases c19 : 0 ≤ ji3
        ·rw [if_pos c19] at H;have c19b0 : decide (0 ≤ ji3) = true:=decide_eq_true c19;clear c19
         by_cases c20 : ji3 < (y187.length : Int)
         ·rw [if_pos c20] at H;have c20b0 : decide (ji3 < (y187.length : Int)) = true:=decide_eq_true c20;clear c20
          by_cases c21 : x11_1.size + (rdOf ByteArray.empty y187 ji3).size ≤ 9223372036854775807
          ·rw [if_pos c21] at H;have c21b0:=eq_true c21;have c21b1 : decide (x11_1.size + (rdOf ByteArray.empty y187 ji3).size ≤ 9223372036854775807) = true:=decide_eq_true c21
           try have c21b2 : (9223372036854775807 < x11_1.size + (rdOf ByteArray.empty y187 ji3).size) = False:=eq_false (Nat.not_lt.2 c21)
           have H':=Aside0.mk H;clear H;obtain ⟨Ao22,co22,eo22⟩:=Kd.R_slice HO_5.out;subst eo22;have p201 : 0 ≤ (ji3 : Int):=of_decide_eq_true (by first | (with_reducible assumption) | assumption);have q201 : ji3 < (y187.length : Int):=of_decide_eq_true (by first | (with_reducible assumption) | assumption);obtain ⟨ad201,e201,hx201_0⟩:=Kd.at_string (Kd.R_reads' HO_5.out).2.2 ji3 p201 q201
           cases e201
           replace p201:=eq_true p201;replace q201:=eq_true q201
           go_wp2
           go_roundg k1
           case measure => have:=HK1.out;omega
           case rel => exact ⟨(x11_1 ++ (rdOf ByteArray.empty y187 ji3)),(wrap64 (x12_1 + 1)),(by first | rfl | (simp;done) | (simp only [← hji3] <;> (first | rfl | simp)) | (simp [*];done)),(by first | rfl | (simp;done) | (simp [*];done)),H',⟨by have:=HK1.out;omega⟩,⟨by (with_reducible repeat (first | apply Kd.R_alloc | apply Kd.R_drewN | apply Kd.R_drew));exact HO_5.out⟩,⟨by (with_reducible repeat (first | apply Kd.R_alloc | apply Kd.R_drewN | apply Kd.R_drew));exact HO_6.out⟩,⟨by (with_reducible repeat (first | apply Kd.R_alloc | apply Kd.R_drewN | apply Kd.R_drew));exact HO_7.out⟩,⟨by (with_reducible repeat (first | apply Kd.R_alloc | apply Kd.R_drewN | apply Kd.R_drew));exact HO_8.out⟩,⟨bl0 HB.out⟩⟩
          ·rw [if_neg c21] at H;exact absurd H (by simp)
         ·rw [if_neg c20] at H;exact absurd H (by simp)
        ·rw [if_neg c19] at H;exact absurd H (by simp)
       ·rw [if_neg c18] at H;have c18b0 : decide (x12_1 < (Int.tmod (wrap64 (a0)) (wrap64 ((rd y190 (ji3)) + 4)))) = false:=decide_eq_false c18;clear c18
        by_cases c23 : 0 ≤ ji3
        ·rw [if_pos c23] at H;have c23b0 : decide (0 ≤ ji3) = true:=decide_eq_true c23;clear c23
         by_cases c24 : ji3 < (y196.length : Int)
         ·rw [if_pos c24] at H;have c24b0 : decide (ji3 < (y196.length : Int)) = true:=decide_eq_true c24;clear c24
          by_cases c25 : x11_1.size + (rdOf ByteArray.empty y196 ji3).size ≤ 9223372036854775807
          ·rw [if_pos c25] at H;have c25b0:=eq_true c25;have c25b1 : decide (x11_1.size + (rdOf ByteArray.empty y196 ji3).size ≤ 9223372036854775807) = true:=decide_eq_true c25
           try have c25b2 : (9223372036854775807 < x11_1.size + (rdOf ByteArray.empty y196 ji3).size) = False:=eq_false (Nat.not_lt.2 c25)
           have HC26:=Aside0.mk H;clear H;obtain ⟨Ao27,co27,eo27⟩:=Kd.R_slice HO_8.out;subst eo27;have p202 : 0 ≤ (ji3 : Int):=of_decide_eq_true (by first | (with_reducible assumption) | assumption);have q202 : ji3 < (y196.length : Int):=of_decide_eq_true (by first | (with_reducible assumption) | assumption);obtain ⟨ad202,e202,hx202_0⟩:=Kd.at_string (Kd.R_reads' HO_8.out).2.2 ji3 p202 q202
           cases e202
           replace p202:=eq_true p202;replace q202:=eq_true q202
           go_upto_block 2 with (fail)
           go_cut [11] (fun v11 wc => ∃ (kq : Nat) (x11_25 : ByteArray),v11 = .string x11_25 ∧ Aside0 (joustlaw02_ParseLimits.j2 kq y187 y190 y193 ji3 (Int.tmod (wrap64 (a0)) (wrap64 ((rd y190 (ji3)) + 4))) x11_25 = some true) ∧ Aside0 (kq ≤ k1) ∧ Aside0 (Kd.R Kd.string 9 wc w.heap.size (fun k_ => some k_ ≠ ((.slice (some ad200) y193.length co17) : Value).ownBlock) v188 y187) ∧ Aside0 (Kd.R (Kd.int .i64) 3 wc w.heap.size (fun _ => True) (.slice (some ad199) y190.length co16) y190) ∧ Aside0 (Kd.R Kd.string 9 wc w.heap.size (fun k_ => some k_ ≠ (v188 : Value).ownBlock) (.slice (some ad200) y193.length co17) y193) ∧ Aside0 (Below w.heap.size w wc))
           case first =>
            have H:=HC26.out;clear HC26;have H':=Aside0.mk H;clear H
            go_wp2
            (try simp only [Act.put,List.setIfInBounds_toArray,List.set_cons_zero,List.set_cons_succ])
            go_loopg [11,13] k1 (fun kq v11 v13 w' => ∃ (x11_2 : ByteArray) (x13_2 : Int),v11 = .string x11_2 ∧ v13 = .int .i64 x13_2 ∧ Aside0 (joustlaw02_ParseLimits.l1 kq y187 y190 y193 ji3 (Int.tmod (wrap64 (a0)) (wrap64 ((rd y190 (ji3)) + 4))) x11_2 x13_2 = some true) ∧ Aside0 (kq ≤ k1) ∧ Aside0 (Kd.R Kd.string 9 w' w.heap.size (fun k_ => some k_ ≠ ((.slice (some ad200) y193.length co17) : Value).ownBlock) v188 y187) ∧ Aside0 (Kd.R (Kd.int .i64) 3 w' w.heap.size (fun _ => True) (.slice (some ad199) y190.length co16) y190) ∧ Aside0 (Kd.R Kd.string 9 w' w.heap.size (fun k_ => some k_ ≠ (v188 : Value).ownBlock) (.slice (some ad200) y193.length co17) y193) ∧ Aside0 (Below w.heap.size w w'))
            case atStart => exact ⟨(x11_1 ++ (rdOf ByteArray.empty y196 ji3)),(0),(by first | rfl | (simp;done) | (simp only [← hji3] <;> (first | rfl | simp)) | (simp [*];done)),(by first | rfl | (simp;done) | (simp [*];done)),H',⟨Nat.le_refl _⟩,⟨by (with_reducible repeat (first | apply Kd.R_alloc | apply Kd.R_drewN | apply Kd.R_drew));exact Kd.R_mono HO_5.out (fun _ hk => hk.1)⟩,⟨by (with_reducible repeat (first | apply Kd.R_alloc | apply Kd.R_drewN | apply Kd.R_drew));exact HO_6.out⟩,⟨by (with_reducible repeat (first | apply Kd.R_alloc | apply Kd.R_drewN | apply Kd.R_drew));exact Kd.R_mono HO_7.out (fun _ hk => hk.1)⟩,⟨bl0 HB.out⟩⟩
            case round =>
             clear H'
             try clear c1
             try clear p1
             try clear q1
             try clear hx1
             try clear c2
             try clear p2
             try clear q2
             try clear hx2
             try clear c4
             try clear c4b0
             try clear c5
             try clear c5b0
             try clear c6
             try clear c6b0
             try clear c6b1
             try clear p6
             try clear c7
             try clear c7b0
             try clear c18
             try clear c18b0
             try clear c19
             try clear c19b0
             try clear p19
             try clear q19
             try clear hx19
             try clear c20
             try clear c20b0
             try clear p20
             try clear q20
             try clear hx20
             try clear c21
             try clear c21b0
             try clear c21b1
             try clear c21b2
             try clear c23
             try clear c23b0
             try clear c24
             try clear c24b0
             try clear c25
             try clear c25b0
             try clear c25b1
             try clear c25b2
             try clear hx199_0
             try clear hx200_0
             try clear hx201_0
             try clear hx202_0
             try clear p1
             try clear p199
             try clear p2
             try clear p200
             try clear p201
             try clear p202
             try clear p6
             try clear q1
             try clear q199
             try clear q2
             try clear q200
             try clear q201
             try clear q202
             obtain ⟨x11_2,x13_2,rfl,rfl,HA,HK2,HO_5,HO_6,HO_7,HB⟩:=hrel
             cases gk with
             | zero => exact absurd HA.out (by simp [joustlaw02_ParseLimits.l1])
             | succ k2 =>
              have H:=HA.out;clear HA;simp only [joustlaw02_ParseLimits.l1] at H
              by_cases c28 : x13_2 < (Int.tmod (wrap64 (a0)) (wrap64 ((rd y190 (ji3)) + 4)))
              ·rw [if_pos c28] at H;have c28b0 : decide (x13_2 < (Int.tmod (wrap64 (a0)) (wrap64 ((rd y190 (ji3)) + 4)))) = true:=decide_eq_true c28;clear c28
               (first | rw [c28b0] | (simp only [i64_w,i32_w];rw [c28b0]) | skip)
               by_cases c29 : ji3 = 4
               ·rw [if_pos c29] at H;have c29b0 : (ji3 == 4) = true:=beq_iff_eq.mpr c29;have c29b1 : (ji3 != 4) = false:=bne_eq_false_iff_eq.mpr c29;clear c29
                by_cases c30 : x11_2.size + 2 ≤ 9223372036854775807
                ·rw [if_pos c30] at H;have c30b0:=eq_true c30;have c30b1 : decide (x11_2.size + 2 ≤ 9223372036854775807) = true:=decide_eq_true c30
                 try have c30b2 : (9223372036854775807 < x11_2.size + 2) = False:=eq_false (Nat.not_lt.2 c30)
                 have H':=Aside0.mk H;clear H
                 go_wp2
                 go_roundg k2
                 case measure => have:=HK1.out;have:=HK2.out;omega
                 case rel => exact ⟨(x11_2 ++ (⟨#[41,32]⟩ : ByteArray)),(wrap64 (x13_2 + 1)),(by first | rfl | (simp;done) | (simp [*];done)),(by first | rfl | (simp;done) | (simp [*];done)),H',⟨by have:=HK1.out;have:=HK2.out;omega⟩,⟨by (with_reducible repeat (first | apply Kd.R_alloc | apply Kd.R_drewN | apply Kd.R_drew));exact HO_5.out⟩,⟨by (with_reducible repeat (first | apply Kd.R_alloc | apply Kd.R_drewN | apply Kd.R_drew));exact HO_6.out⟩,⟨by (with_reducible repeat (first | apply Kd.R_alloc | apply Kd.R_drewN | apply Kd.R_drew));exact HO_7.out⟩,⟨bl0 HB.out⟩⟩
                ·rw [if_neg c30] at H;exact absurd H (by simp)
               ·rw [if_neg c29] at H;have c29b0 : (ji3 == 4) = false:=beq_eq_false_iff_ne.mpr c29;have c29b1 : (ji3 != 4) = true:=bne_iff_ne.mpr c29;have H':=Aside0.mk H;clear H
                go_wp2
                go_meet
                case rel => exact ⟨_,(x11_2),(by first | rfl | (simp;done) | (simp [*];done)),H',⟨by have:=HK1.out;have:=HK2.out;first | omega | exact Nat.le_refl _⟩,⟨by (with_reducible repeat (first | apply Kd.R_alloc | apply Kd.R_drewN | apply Kd.R_drew));exact HO_5.out⟩,⟨by (with_reducible repeat (first | apply Kd.R_alloc | apply Kd.R_drewN | apply Kd.R_drew));exact HO_6.out⟩,⟨by (with_reducible repeat (first | apply Kd.R_alloc | apply Kd.R_drewN | apply Kd.R_drew));exact HO_7.out⟩,⟨bl0 HB.out⟩⟩
              ·rw [if_neg c28] at H;have c28b0 : decide (x13_2 < (Int.tmod (wrap64 (a0)) (wrap64 ((rd y190 (ji3)) + 4)))) = false:=decide_eq_false c28;clear c28
               (first | rw [c28b0] | (simp only [i64_w,i32_w];rw [c28b0]) | skip)
               have H':=Aside0.mk H;clear H
               go_wp2
               go_meet
               case rel => exact ⟨_,(x11_2),(by first | rfl | (simp;done) | (simp [*];done)),H',⟨by have:=HK1.out;have:=HK2.out;first | omega | exact Nat.le_refl _⟩,⟨by (with_reducible repeat (first | apply Kd.R_alloc | apply Kd.R_drewN | apply Kd.R_drew));exact HO_5.out⟩,⟨by (with_reducible repeat (first | apply Kd.R_alloc | apply Kd.R_drewN | apply Kd.R_drew));exact HO_6.out⟩,⟨by (with_reducible repeat (first | apply Kd.R_alloc | apply Kd.R_drewN | apply Kd.R_drew));exact HO_7.out⟩,⟨bl0 HB.out⟩⟩
           case rest =>
            clear HC26
            try clear c1
            try clear p1
            try clear q1
            try clear hx1
            try clear c2
            try clear p2
            try clear q2
            try clear hx2
            try clear c3
            try clear c4
            try clear c4b0
            try clear c5
            try clear c5b0
            try clear c6
            try clear c6b0
            try clear c6b1
            try clear p6
            try clear c7
            try clear c7b0
            try clear c18
            try clear c18b0
            try clear c19
            try clear c19b0
            try clear p19
            try clear q19
            try clear hx19
            try clear c20
            try clear c20b0
            try clear p20
            try clear q20
            try clear hx20
            try clear c21
            try clear c21b0
            try clear c21b1
            try clear c21b2
            try clear c23
            try clear c23b0
            try clear c24
            try clear c24b0
            try clear c25
            try clear c25b0
            try clear c25b1
            try clear c25b2
            try clear c28
            try clear c28b0
            try clear c29
            try clear c29b0
            try clear c29b1
            try clear c30
            try clear c30b0
            try clear c30b1
            try clear c30b2
            try clear hx199_0
            try clear hx200_0
            try clear hx201_0
            try clear hx202_0
            try clear p1
            try clear p19
            try clear p199
            try clear p2
            try clear p20
            try clear p200
            try clear p201
            try clear p202
            try clear p6
            try clear q1
            try clear q19
            try clear q199
            try clear q2
            try clear q20
            try clear q200
            try clear q201
            try clear q202
            obtain ⟨kq,x11_25,rfl,HA,HJ25,HO_5,HO_6,HO_7,HB⟩:=hcut
            cases kq with
            | zero => exact absurd HA.out (by simp [joustlaw02_ParseLimits.j2])
            | succ kj25 =>
             have H:=HA.out;clear HA;simp only [joustlaw02_ParseLimits.j2] at H;replace H:=Option.bind_eq_some_iff.mp H;obtain ⟨⟨t203,t206,t207,t208⟩,A310,H⟩:=H
             (try dsimp only at H)
             have A31:=Aside0.mk A310;clear A310;have HC32:=Aside0.mk H;clear H
             go_upto_if 69 with (first | ((with_reducible refine gate_callee (f:=6) rfl ?_);refine goesL_ (some 65) rfl rfl Tryz.func6 (by kernel_rfl) rfl #[.string x11_25] rfl ea ?_;(with_reducible refine (parse_Pool.calls kj25 x11_25 t203 t206 t207 t208 _ ?side1 A31.out).mono ?_);(case side1 => exact Tabs.below HG.out (bl0 HB.out));rintro e w33 ⟨v204,rfl,ho0,hb⟩;refine ⟨_,rfl,?_⟩;have n0_:=Aside0.mk (Kd.R_below (by (with_reducible repeat (first | apply Kd.R_alloc | apply Kd.R_drewN | apply Kd.R_drew));exact HO_5.out) hb);have n1_:=Aside0.mk (Kd.R_below (by (with_reducible repeat (first | apply Kd.R_alloc | apply Kd.R_drewN | apply Kd.R_drew));exact HO_6.out) hb);have n2_:=Aside0.mk (Kd.R_below (by (with_reducible repeat (first | apply Kd.R_alloc | apply Kd.R_drewN | apply Kd.R_drew));exact HO_7.out) hb);have n3_:=Aside0.mk (Kd.R_lower ho0 (below_size (bl0 HB.out)));have n4_:=Aside0.mk (below_step (bl0 HB.out) hb);clear HO_5;clear HO_6;clear HO_7;clear HB;have HO_5:=n0_;have HO_6:=n1_;have HO_7:=n2_;have HO205:=n3_;have HB:=n4_;clear n0_ n1_ n2_ n3_ n4_;(try clear hb);(try clear hk);(try clear ho0)) | ((with_reducible refine gate_dst (N:=15) rfl ?_);refine box_event ?hg (N:=15) ?hd (cs:=#[.int .i64 0,.int .i64 0,.int .i64 0]) (t:=28) ?hr ?_;(case hd => rfl);(case hg => rfl);(case hr => first | (go_simp;done) | (go_simp;rfl));intro gb209 hg w34 hbox hb;have n0_:=Aside0.mk (Kd.R_below (by (with_reducible repeat (first | apply Kd.R_alloc | apply Kd.R_drewN | apply Kd.R_drew));exact HO_5.out) hb);have n1_:=Aside0.mk (Kd.R_below (by (with_reducible repeat (first | apply Kd.R_alloc | apply Kd.R_drewN | apply Kd.R_drew));exact HO_6.out) hb);have n2_:=Aside0.mk (Kd.R_below (by (with_reducible repeat (first | apply Kd.R_alloc | apply Kd.R_drewN | apply Kd.R_drew));exact HO_7.out) hb);have n3_:=Aside0.mk (Kd.R_below (by (with_reducible repeat (first | apply Kd.R_alloc | apply Kd.R_drewN | apply Kd.R_drew));exact HO205.out) hb);have n4_:=Aside0.mk (below_step (bl0 HB.out) hb);have n5_:=Aside0.mk (hbox);have n6_:=Aside0.mk ((by rw [hg];exact (below_size (bl0 HB.out)) : w.heap.size ≤ gb209));have n7_:=Aside0.mk ((by rw [hg];exact (below_size (bl0 HB.out)) : w.heap.size ≤ gb209));clear HO_5;clear HO_6;clear HO_7;clear HO205;clear HB;have HO_5:=n0_;have HO_6:=n1_;have HO_7:=n2_;have HO205:=n3_;have HB:=n4_;have BK209:=n5_;have GW209:=n6_;have GE209:=n7_;clear n0_ n1_ n2_ n3_ n4_ n5_ n6_ n7_;clear hb hbox hg;have hcz35_0:=bc BK209.out 0 (.int .i64 0) rfl;have hcz35_1:=bc BK209.out 1 (.int .i64 0) rfl;have hcz35_2:=bc BK209.out 2 (.int .i64 0) rfl;have hfz35_0:=blk_frozen BK209.out 0;have hfz35_1:=blk_frozen BK209.out 1;have hfz35_2:=blk_frozen BK209.out 2))
             (try simp only [Act.put,List.setIfInBounds_toArray,List.set_cons_zero,List.set_cons_succ])
             go_cut [] (fun wc => ∃ (kq : Nat) (x210000_31 : Int) (x210001_31 : Int) (x210002_31 : Int),Aside0 (joustlaw02_ParseLimits.j3 kq y187 y190 y193 ji3 (Int.tmod (wrap64 (a0)) (wrap64 ((rd y190 (ji3)) + 4))) x210000_31 x210001_31 x210002_31 = some true) ∧ Aside0 (kq ≤ kj25) ∧ Aside0 (Kd.R Kd.string 9 wc w.heap.size (fun k_ => some k_ ≠ ((.slice (some ad200) y193.length co17) : Value).ownBlock) v188 y187) ∧ Aside0 (Kd.R (Kd.int .i64) 3 wc w.heap.size (fun _ => True) (.slice (some ad199) y190.length co16) y190) ∧ Aside0 (Kd.R Kd.string 9 wc w.heap.size (fun k_ => some k_ ≠ (v188 : Value).ownBlock) (.slice (some ad200) y193.length co17) y193) ∧ Aside0 (wc.heap[gb209]? = some (.cells #[.int .i64 x210000_31,.int .i64 x210001_31,.int .i64 x210002_31] 28 (0,0))) ∧ Aside0 (Below w.heap.size w wc))
             case first =>
              have H:=HC32.out;clear HC32
              by_cases c36 : ji3 > 3
              ·rw [if_pos c36] at H;have c36b0 : decide (3 < ji3) = true:=decide_eq_true c36;clear c36
               (first | rw [c36b0] | (simp only [i64_w,i32_w];rw [c36b0]) | skip)
               replace H:=Option.bind_eq_some_iff.mp H;obtain ⟨⟨t210,t213,t214,t215⟩,A370,H⟩:=H
               (try dsimp only at H)
               have A37:=Aside0.mk A370;clear A370;have H':=Aside0.mk H;clear H
               go_wp2_with (first | ((with_reducible refine gate_callee (f:=8) rfl ?_);refine goesL_ (some 72) rfl rfl Tryz.func8 (by kernel_rfl) rfl #[.string x11_25] rfl ea ?_;(with_reducible refine (parse_Exprs.calls kj25 x11_25 t210 t213 t214 t215 _ ?side1 A37.out).mono ?_);(case side1 => exact Tabs.below HG.out (bl1 HB.out GE209.out));rintro e w38 ⟨v211,rfl,ho0,hb⟩;refine ⟨_,rfl,?_⟩;have n0_:=Aside0.mk (Kd.R_below (by (with_reducible repeat (first | apply Kd.R_alloc | apply Kd.R_drewN | apply Kd.R_drew));exact (Kd.R_mono (Kd.R_far (p:=⟨gb209,2,none⟩) (Kd.R_far (p:=⟨gb209,1,none⟩) (Kd.R_far (p:=⟨gb209,0,none⟩) (Kd.R_types HO_5.out BK209.out (by decide)) (fun _ hk => hk.2) (.int .i64 t206)) (fun _ hk => hk.2) (.int .i64 t207)) (fun _ hk => hk.2) (.int .i64 t208)) (fun _ h_ => h_.1))) hb);have n1_:=Aside0.mk (Kd.R_below (by (with_reducible repeat (first | apply Kd.R_alloc | apply Kd.R_drewN | apply Kd.R_drew));exact (Kd.R_mono (Kd.R_far (p:=⟨gb209,2,none⟩) (Kd.R_far (p:=⟨gb209,1,none⟩) (Kd.R_far (p:=⟨gb209,0,none⟩) (Kd.R_types HO_6.out BK209.out (by decide)) (fun _ hk => hk.2) (.int .i64 t206)) (fun _ hk => hk.2) (.int .i64 t207)) (fun _ hk => hk.2) (.int .i64 t208)) (fun _ h_ => h_.1))) hb);have n2_:=Aside0.mk (Kd.R_below (by (with_reducible repeat (first | apply Kd.R_alloc | apply Kd.R_drewN | apply Kd.R_drew));exact (Kd.R_mono (Kd.R_far (p:=⟨gb209,2,none⟩) (Kd.R_far (p:=⟨gb209,1,none⟩) (Kd.R_far (p:=⟨gb209,0,none⟩) (Kd.R_types HO_7.out BK209.out (by decide)) (fun _ hk => hk.2) (.int .i64 t206)) (fun _ hk => hk.2) (.int .i64 t207)) (fun _ hk => hk.2) (.int .i64 t208)) (fun _ h_ => h_.1))) hb);have n3_:=Aside0.mk (Kd.R_elder' (by (with_reducible repeat (first | apply Kd.R_alloc | apply Kd.R_drewN | apply Kd.R_drew));exact (Kd.R_mono (Kd.R_far (p:=⟨gb209,2,none⟩) (Kd.R_far (p:=⟨gb209,1,none⟩) (Kd.R_far (p:=⟨gb209,0,none⟩) (Kd.R_types HO205.out BK209.out (by decide)) (fun _ hk => hk.2) (.int .i64 t206)) (fun _ hk => hk.2) (.int .i64 t207)) (fun _ hk => hk.2) (.int .i64 t208)) (fun _ h_ => h_.1))) (Kd.R_base ho0) hb);have n4_:=Aside0.mk (Kd.R_lower ho0 (below_size (bl1 HB.out GE209.out)));have n5_:=Aside0.mk (blk_below (g:=gb209) (o:=.cells #[.int .i64 t206,.int .i64 t207,.int .i64 t208] 28 (0,0)) (by (with_reducible repeat (first | refine blk_drewN ?_ _ | refine blk_drew ?_ | refine blk_alloc ?_ _));refine blk_put (cs:=#[.int .i64 t206,.int .i64 t207,.int .i64 0]) ?_ 2 _ rfl;(with_reducible repeat (first | refine blk_drewN ?_ _ | refine blk_drew ?_ | refine blk_alloc ?_ _));refine blk_put (cs:=#[.int .i64 t206,.int .i64 0,.int .i64 0]) ?_ 1 _ rfl;(with_reducible repeat (first | refine blk_drewN ?_ _ | refine blk_drew ?_ | refine blk_alloc ?_ _));refine blk_put (cs:=#[.int .i64 0,.int .i64 0,.int .i64 0]) ?_ 0 _ rfl;(with_reducible repeat (first | refine blk_drewN ?_ _ | refine blk_drew ?_ | refine blk_alloc ?_ _));exact BK209.out) hb);have n6_:=Aside0.mk (below_step (bl1 HB.out GE209.out) hb);clear HO_5;clear HO_6;clear HO_7;clear HO205;clear BK209;clear HB;have HO_5:=n0_;have HO_6:=n1_;have HO_7:=n2_;have HO205:=n3_;have HO212:=n4_;have BK209:=n5_;have HB:=n6_;clear n0_ n1_ n2_ n3_ n4_ n5_ n6_;(try clear hb);(try clear hk);(try clear ho0);have hcz39_0:=bc BK209.out 0 (.int .i64 t206) rfl;have hcz39_1:=bc BK209.out 1 (.int .i64 t207) rfl;have hcz39_2:=bc BK209.out 2 (.int .i64 t208) rfl;have hfz39_0:=blk_frozen BK209.out 0;have hfz39_1:=blk_frozen BK209.out 1;have hfz39_2:=blk_frozen BK209.out 2))
               go_meet
               case rel => exact ⟨_,(t213),(t214),(t215),H',⟨by have:=HK1.out;have:=HJ25.out;first | omega | exact Nat.le_refl _⟩,⟨by (with_reducible repeat (first | apply Kd.R_alloc | apply Kd.R_drewN | apply Kd.R_drew));exact Kd.R_mono (Kd.R_far (p:=⟨gb209,2,none⟩) (Kd.R_far (p:=⟨gb209,1,none⟩) (Kd.R_far (p:=⟨gb209,0,none⟩) (Kd.R_types HO_5.out BK209.out (by decide)) (fun _ hk => hk.2) (.int .i64 t213)) (fun _ hk => hk.2) (.int .i64 t214)) (fun _ hk => hk.2) (.int .i64 t215)) (fun _ hk => hk.1)⟩,⟨by (with_reducible repeat (first | apply Kd.R_alloc | apply Kd.R_drewN | apply Kd.R_drew));exact Kd.R_mono (Kd.R_far (p:=⟨gb209,2,none⟩) (Kd.R_far (p:=⟨gb209,1,none⟩) (Kd.R_far (p:=⟨gb209,0,none⟩) (Kd.R_types HO_6.out BK209.out (by decide)) (fun _ hk => hk.2) (.int .i64 t213)) (fun _ hk => hk.2) (.int .i64 t214)) (fun _ hk => hk.2) (.int .i64 t215)) (fun _ hk => trivial)⟩,⟨by (with_reducible repeat (first | apply Kd.R_alloc | apply Kd.R_drewN | apply Kd.R_drew));exact Kd.R_mono (Kd.R_far (p:=⟨gb209,2,none⟩) (Kd.R_far (p:=⟨gb209,1,none⟩) (Kd.R_far (p:=⟨gb209,0,none⟩) (Kd.R_types HO_7.out BK209.out (by decide)) (fun _ hk => hk.2) (.int .i64 t213)) (fun _ hk => hk.2) (.int .i64 t214)) (fun _ hk => hk.2) (.int .i64 t215)) (fun _ hk => hk.1)⟩,⟨by (with_reducible repeat (first | refine blk_drewN ?_ _ | refine blk_drew ?_ | refine blk_alloc ?_ _));refine blk_put (cs:=#[.int .i64 t213,.int .i64 t214,.int .i64 t208]) ?_ 2 _ rfl;(with_reducible repeat (first | refine blk_drewN ?_ _ | refine blk_drew ?_ | refine blk_alloc ?_ _));refine blk_put (cs:=#[.int .i64 t213,.int .i64 t207,.int .i64 t208]) ?_ 1 _ rfl;(with_reducible repeat (first | refine blk_drewN ?_ _ | refine blk_drew ?_ | refine blk_alloc ?_ _));refine blk_put (cs:=#[.int .i64 t206,.int .i64 t207,.int .i64 t208]) ?_ 0 _ rfl;(with_reducible repeat (first | refine blk_drewN ?_ _ | refine blk_drew ?_ | refine blk_alloc ?_ _));exact BK209.out⟩,⟨bl1 HB.out GE209.out⟩⟩
              ·rw [if_neg c36] at H;have c36b0 : decide (3 < ji3) = false:=decide_eq_false c36;clear c36
               (first | rw [c36b0] | (simp only [i64_w,i32_w];rw [c36b0]) | skip)
               have H':=Aside0.mk H;clear H
               go_wp2
               go_meet
               case rel => exact ⟨_,(t206),(t207),(t208),H',⟨by have:=HK1.out;have:=HJ25.out;first | omega | exact Nat.le_refl _⟩,⟨by (with_reducible repeat (first | apply Kd.R_alloc | apply Kd.R_drewN | apply Kd.R_drew));exact Kd.R_mono (Kd.R_far (p:=⟨gb209,2,none⟩) (Kd.R_far (p:=⟨gb209,1,none⟩) (Kd.R_far (p:=⟨gb209,0,none⟩) (Kd.R_types HO_5.out BK209.out (by decide)) (fun _ hk => hk.2) (.int .i64 t206)) (fun _ hk => hk.2) (.int .i64 t207)) (fun _ hk => hk.2) (.int .i64 t208)) (fun _ hk => hk.1)⟩,⟨by (with_reducible repeat (first | apply Kd.R_alloc | apply Kd.R_drewN | apply Kd.R_drew));exact Kd.R_mono (Kd.R_far (p:=⟨gb209,2,none⟩) (Kd.R_far (p:=⟨gb209,1,none⟩) (Kd.R_far (p:=⟨gb209,0,none⟩) (Kd.R_types HO_6.out BK209.out (by decide)) (fun _ hk => hk.2) (.int .i64 t206)) (fun _ hk => hk.2) (.int .i64 t207)) (fun _ hk => hk.2) (.int .i64 t208)) (fun _ hk => trivial)⟩,⟨by (with_reducible repeat (first | apply Kd.R_alloc | apply Kd.R_drewN | apply Kd.R_drew));exact Kd.R_mono (Kd.R_far (p:=⟨gb209,2,none⟩) (Kd.R_far (p:=⟨gb209,1,none⟩) (Kd.R_far (p:=⟨gb209,0,none⟩) (Kd.R_types HO_7.out BK209.out (by decide)) (fun _ hk => hk.2) (.int .i64 t206)) (fun _ hk => hk.2) (.int .i64 t207)) (fun _ hk => hk.2) (.int .i64 t208)) (fun _ hk => hk.1)⟩,⟨by (with_reducible repeat (first | refine blk_drewN ?_ _ | refine blk_drew ?_ | refine blk_alloc ?_ _));refine blk_put (cs:=#[.int .i64 t206,.int .i64 t207,.int .i64 0]) ?_ 2 _ rfl;(with_reducible repeat (first | refine blk_drewN ?_ _ | refine blk_drew ?_ | refine blk_alloc ?_ _));refine blk_put (cs:=#[.int .i64 t206,.int .i64 0,.int .i64 0]) ?_ 1 _ rfl;(with_reducible repeat (first | refine blk_drewN ?_ _ | refine blk_drew ?_ | refine blk_alloc ?_ _));refine blk_put (cs:=#[.int .i64 0,.int .i64 0,.int .i64 0]) ?_ 0 _ rfl;(with_reducible repeat (first | refine blk_drewN ?_ _ | refine blk_drew ?_ | refine blk_alloc ?_ _));exact BK209.out⟩,⟨bl1 HB.out GE209.out⟩⟩
             case rest =>
              clear HC32
              try clear c1
              try clear p1
              try clear q1
              try clear hx1
              try clear c2
              try clear p2
              try clear q2
              try clear hx2
              try clear c3
              try clear c4
              try clear c4b0
              try clear c5
              try clear c5b0
              try clear c6
              try clear c6b0
              try clear c6b1
              try clear p6
              try clear c7
              try clear c7b0
              try clear c8
              try clear c18
              try clear c18b0
              try clear c19
              try clear c19b0
              try clear p19
              try clear q19
              try clear hx19
              try clear c20
              try clear c20b0
              try clear p20
              try clear q20
              try clear hx20
              try clear c21
              try clear c21b0
              try clear c21b1
              try clear c21b2
              try clear c23
              try clear c23b0
              try clear c24
              try clear c24b0
              try clear c25
              try clear c25b0
              try clear c25b1
              try clear c25b2
              try clear c28
              try clear c28b0
              try clear c29
              try clear c29b0
              try clear c29b1
              try clear c30
              try clear c30b0
              try clear c30b1
              try clear c30b2
              try clear c36
              try clear c36b0
              try clear hx199_0
              try clear hx200_0
              try clear hx201_0
              try clear hx202_0
              try clear p1
              try clear p19
              try clear p199
              try clear p2
              try clear p20
              try clear p200
              try clear p201
              try clear p202
              try clear p6
              try clear q1
              try clear q19
              try clear q199
              try clear q2
              try clear q20
              try clear q200
              try clear q201
              try clear q202
              obtain ⟨kq,x210000_31,x210001_31,x210002_31,HA,HJ31,HO_5,HO_6,HO_7,BK209,HB⟩:=hcut
              cases kq with
              | zero => exact absurd HA.out (by simp [joustlaw02_ParseLimits.j3])
              | succ kj31 =>
               have H:=HA.out;clear HA;simp only [joustlaw02_ParseLimits.j3] at H
               by_cases c40 : 0 ≤ ji3
               ·rw [if_pos c40] at H;have c40b0 : decide (0 ≤ ji3) = true:=decide_eq_true c40;clear c40
                by_cases c41 : ji3 < (y190.length : Int)
                ·rw [if_pos c41] at H;have c41b0 : decide (ji3 < (y190.length : Int)) = true:=decide_eq_true c41;clear c41
                 by_cases c42 : (Int.tmod (wrap64 (a0)) (wrap64 ((rd y190 (ji3)) + 4))) ≤ (rd y190 ji3)
                 ·rw [if_pos c42] at H;have c42b0 : decide ((Int.tmod (wrap64 (a0)) (wrap64 ((rd y190 (ji3)) + 4))) ≤ (rd y190 ji3)) = true:=decide_eq_true c42;clear c42
                  by_cases c43 : (x210000_31 == 0 && ((x210001_31 == 0 && (x210002_31 == 0)))) = true
                  ·rw [if_pos c43] at H;have c43b0 : (x210000_31 == 0 && ((x210001_31 == 0 && (x210002_31 == 0)))) = true:=c43
                   (try (have c43b1 : decide (x210000_31 = 0 && ((x210001_31 == 0 && (x210002_31 == 0)))) = true:=by simpa using c43))
                   (try (have c43b2 : (x210000_31 == 0 && ((x210001_31 == 0 && (x210002_31 == 0)))) = true:=by simpa using c43))
                   clear c43;replace H:=Option.bind_eq_some_iff.mp H;obtain ⟨t217,A440,H⟩:=H
                   (try dsimp only at H)
                   have A44:=Aside0.mk A440;clear A440;have hT_:=Option.some.inj H;have p216 : 0 ≤ (ji3 : Int):=of_decide_eq_true (by first | (with_reducible assumption) | assumption);have q216 : ji3 < (y190.length : Int):=of_decide_eq_true (by first | (with_reducible assumption) | assumption);obtain ⟨ad216,e216,hx216_0⟩:=Kd.at_int (Kd.R_reads' HO_6.out).2.2 ji3 p216 q216;obtain rfl : ad199 = ad216:=(by injection e216);replace p216:=eq_true p216;replace q216:=eq_true q216;have hcz45_0:=bc BK209.out 0 (.int .i64 x210000_31) rfl;have hcz45_1:=bc BK209.out 1 (.int .i64 x210001_31) rfl;have hcz45_2:=bc BK209.out 2 (.int .i64 x210002_31) rfl;have hfz45_0:=blk_frozen BK209.out 0;have hfz45_1:=blk_frozen BK209.out 1;have hfz45_2:=blk_frozen BK209.out 2
                   go_wp2_with (first | (go_at_call 5;(with_reducible refine (joustlaw02_lives.calls kj31  t217 _ ?side1 A44.out).mono ?_);(case side1 => exact Tabs.below HG.out (bl1 HB.out GE209.out));rintro e w46 ⟨rfl,hb⟩;replace HO_5:=Aside0.mk (Kd.R_below (by (with_reducible repeat (first | apply Kd.R_alloc | apply Kd.R_drewN | apply Kd.R_drew));exact HO_5.out) hb);replace HO_6:=Aside0.mk (Kd.R_below (by (with_reducible repeat (first | apply Kd.R_alloc | apply Kd.R_drewN | apply Kd.R_drew));exact HO_6.out) hb);replace HO_7:=Aside0.mk (Kd.R_below (by (with_reducible repeat (first | apply Kd.R_alloc | apply Kd.R_drewN | apply Kd.R_drew));exact HO_7.out) hb);replace BK209:=Aside0.mk (blk_below (g:=gb209) (o:=.cells #[.int .i64 x210000_31,.int .i64 x210001_31,.int .i64 x210002_31] 28 (0,0)) (bk BK209.out) hb);replace HB:=Aside0.mk (below_step (bl1 HB.out GE209.out) hb);(try clear hb);(try clear hk)))
                   go_ret
                   exact ⟨by first | rfl | (simp [errW_none,errW_some] <;> rfl) | (simp only [← hji3];first | rfl | (simp [errW_none,errW_some] <;> rfl)) | (simp [*,errW_none,errW_some] <;> rfl),bl1 HB.out GE209.out⟩
                  ·rw [if_neg c43] at H;have c43b0 : (x210000_31 == 0 && ((x210001_31 == 0 && (x210002_31 == 0)))) = false:=by simpa using c43
                   (try (have c43b1 : decide (x210000_31 = 0 && ((x210001_31 == 0 && (x210002_31 == 0)))) = false:=by simpa using c43))
                   (try (have c43b2 : (x210000_31 == 0 && ((x210001_31 == 0 && (x210002_31 == 0)))) = false:=by simpa using c43))
                   (try (have c43b3 : ¬ (x210000_31 = 0 && ((x210001_31 == 0 && (x210002_31 == 0)))):=by simpa using c43))
                   clear c43;exact absurd H (by simp)
                 ·rw [if_neg c42] at H;have c42b0 : decide ((Int.tmod (wrap64 (a0)) (wrap64 ((rd y190 (ji3)) + 4))) ≤ (rd y190 ji3)) = false:=decide_eq_false c42;clear c42
                  by_cases c47 : ji3 < (y193.length : Int)
                  ·rw [if_pos c47] at H;have c47b0 : decide (ji3 < (y193.length : Int)) = true:=decide_eq_true c47;clear c47
                   by_cases c48 : ji3 < (y187.length : Int)
                   ·rw [if_pos c48] at H;have c48b0 : decide (ji3 < (y187.length : Int)) = true:=decide_eq_true c48;clear c48;replace H:=Option.bind_eq_some_iff.mp H;obtain ⟨⟨t221,t222,t223⟩,A490,H⟩:=H
                    (try dsimp only at H)
                    have A49:=Aside0.mk A490;clear A490
                    by_cases c50 : (x210000_31 == t221 && ((x210001_31 == t222 && (x210002_31 == t223)))) = true
                    ·rw [if_pos c50] at H;have c50b0 : (x210000_31 == t221 && ((x210001_31 == t222 && (x210002_31 == t223)))) = true:=c50
                     (try (have c50b1 : decide (x210000_31 = t221 && ((x210001_31 == t222 && (x210002_31 == t223)))) = true:=by simpa using c50))
                     (try (have c50b2 : (x210000_31 == t221 && ((x210001_31 == t222 && (x210002_31 == t223)))) = true:=by simpa using c50))
                     clear c50;replace H:=Option.bind_eq_some_iff.mp H;obtain ⟨t224,A510,H⟩:=H
                     (try dsimp only at H)
                     have A51:=Aside0.mk A510;clear A510;have hT_:=Option.some.inj H;have p216 : 0 ≤ (ji3 : Int):=of_decide_eq_true (by first | (with_reducible assumption) | assumption);have q216 : ji3 < (y190.length : Int):=of_decide_eq_true (by first | (with_reducible assumption) | assumption);obtain ⟨ad216,e216,hx216_0⟩:=Kd.at_int (Kd.R_reads' HO_6.out).2.2 ji3 p216 q216;obtain rfl : ad199 = ad216:=(by injection e216);replace p216:=eq_true p216;replace q216:=eq_true q216
                     try go_wp2
                     replace HO_5:=Aside0.mk (Kd.R_drew HO_5.out);replace HO_6:=Aside0.mk (Kd.R_drew HO_6.out);replace HO_7:=Aside0.mk (Kd.R_drew HO_7.out);replace BK209:=Aside0.mk (blk_drew BK209.out);replace HB:=Aside0.mk (below_drew1 HB.out);have p218 : 0 ≤ (ji3 : Int):=of_decide_eq_true (by first | (with_reducible assumption) | assumption);have q218 : ji3 < (y193.length : Int):=of_decide_eq_true (by first | (with_reducible assumption) | assumption);obtain ⟨ad218,e218,hx218_0⟩:=Kd.at_string (Kd.R_reads' HO_7.out).2.2 ji3 p218 q218;obtain rfl : ad200 = ad218:=(by injection e218);replace p218:=eq_true p218;replace q218:=eq_true q218;have p219 : 0 ≤ (ji3 : Int):=of_decide_eq_true (by first | (with_reducible assumption) | assumption);have q219 : ji3 < (y190.length : Int):=of_decide_eq_true (by first | (with_reducible assumption) | assumption);obtain ⟨ad219,e219,hx219_0⟩:=Kd.at_int (Kd.R_reads' HO_6.out).2.2 ji3 p219 q219;obtain rfl : ad199 = ad219:=(by injection e219);replace p219:=eq_true p219;replace q219:=eq_true q219;obtain ⟨Ao53,co53,eo53⟩:=Kd.R_slice HO_5.out
                     (first | subst eo53 | (injection eo53 with f1_ f2_ f3_;have f4_:=f1_.symm;have f5_:=f3_.symm;clear f1_ f2_ f3_;subst f4_;subst f5_))
                     have p220 : 0 ≤ (ji3 : Int):=of_decide_eq_true (by first | (with_reducible assumption) | assumption);have q220 : ji3 < (y187.length : Int):=of_decide_eq_true (by first | (with_reducible assumption) | assumption);obtain ⟨ad220,e220,hx220_0⟩:=Kd.at_string (Kd.R_reads' HO_5.out).2.2 ji3 p220 q220
                     cases e220
                     replace p220:=eq_true p220;replace q220:=eq_true q220;refine start_ (n:=24) (S:=fun w' => w'.cell? ⟨gb209,0,none⟩ = some (.int .i64 x210000_31) ∧ w'.cell? ⟨gb209,1,none⟩ = some (.int .i64 x210001_31) ∧ w'.cell? ⟨gb209,2,none⟩ = some (.int .i64 x210002_31) ∧ w'.cell? (ad200.add (ji3).toNat) = some (.string (rdOf ByteArray.empty y193 ji3)) ∧ w'.cell? (ad199.add (ji3).toNat) = some (.int .i64 (rd y190 ji3)) ∧ w'.cell? (ad220.add (ji3).toNat) = some (.string (rdOf ByteArray.empty y187 ji3))) (ds:=[]) (pm 0 24) (by kernel_rfl) rfl rfl ⟨bc BK209.out 0 _ rfl,bc BK209.out 1 _ rfl,bc BK209.out 2 _ rfl,hx218_0,hx219_0,hx220_0⟩ (fun hHeld => ?_);refine with_tabW joustlaw02_ParseLimits.tab22 joustlaw02_ParseLimits.bits22 (fun HT_ HW_ => ?_);generalize wc.drew = w52 at HO_5 HO_6 HO_7 BK209 HB hx218_0 hx219_0 hx220_0 hHeld ⊢;refine pu 1 88 #[false,true,false,false,false,false,false,false,false,false,false,false,false,false,false,false,false,false,false,false,false,false,false,false] rfl rfl HT_.out (fun _ _ _ h => h) ?_;refine pu 2 89 #[false,true,true,false,false,false,false,false,false,false,false,false,false,false,false,false,false,false,false,false,false,false,false,false] rfl rfl HT_.out (fun _ _ _ h => h) ?_;refine pu 3 90 #[false,true,true,true,false,false,false,false,false,false,false,false,false,false,false,false,false,false,false,false,false,false,false,false] rfl rfl HT_.out (fun _ _ _ h => h) ?_;refine pu 6 93 #[false,true,true,true,false,false,true,false,false,false,false,false,false,false,false,false,false,false,false,false,false,false,false,false] rfl rfl HT_.out (fun _ _ _ h => h) ?_;refine pu 7 94 #[false,true,true,true,false,false,true,true,false,false,false,false,false,false,false,false,false,false,false,false,false,false,false,false] rfl rfl HT_.out (fun _ _ _ h => h) ?_;refine pu 8 95 #[false,true,true,true,false,false,true,true,true,false,false,false,false,false,false,false,false,false,false,false,false,false,false,false] rfl rfl HT_.out (fun _ _ _ h => h) ?_;refine pu 10 97 #[false,true,true,true,false,false,true,true,true,false,true,false,false,false,false,false,false,false,false,false,false,false,false,false] rfl rfl HT_.out (fun _ _ _ h => h) ?_;refine pu 11 98 #[false,true,true,true,false,false,true,true,true,false,true,true,false,false,false,false,false,false,false,false,false,false,false,false] rfl rfl HT_.out (fun _ _ _ h => h) ?_;refine pu 12 99 #[false,true,true,true,false,false,true,true,true,false,true,true,true,false,false,false,false,false,false,false,false,false,false,false] rfl rfl HT_.out (fun _ _ _ h => h) ?_;refine take_ (i:=0) (N:=some 87) (v:=?_) (a':=?_) #[true,true,true,true,false,false,true,true,true,false,true,true,true,false,false,false,false,false,false,false,false,false,false,false] rfl rfl (take_ofW HT_.out HW_.out (by kernel_rfl)) (fun _ _ _ h => h) (Or.inl ⟨by rfl,?_⟩) hHeld ?_ ?_;rotate_left
                     ·rintro w' ⟨s0,s1,s2,s3,s4,s5⟩;go_simp;with_reducible rfl
                     rotate_left
                     ·simp only [Act.put,List.setIfInBounds_toArray,List.set_cons_zero,List.set_cons_succ,i64_w,i32_w];rfl
                     refine take_ (i:=4) (N:=some 91) (v:=?_) (a':=?_) #[true,true,true,true,true,false,true,true,true,false,true,true,true,false,false,false,false,false,false,false,false,false,false,false] rfl rfl (take_ofW HT_.out HW_.out (by kernel_rfl)) (fun _ _ _ h => h) (Or.inl ⟨by rfl,?_⟩) hHeld ?_ ?_;rotate_left
                     ·rintro w' ⟨s0,s1,s2,s3,s4,s5⟩;go_simp;with_reducible rfl
                     rotate_left
                     ·simp only [Act.put,List.setIfInBounds_toArray,List.set_cons_zero,List.set_cons_succ,i64_w,i32_w];rfl
                     refine pu 5 92 #[true,true,true,true,true,true,true,true,true,false,true,true,true,false,false,false,false,false,false,false,false,false,false,false] rfl rfl HT_.out (fun _ _ _ h => h) ?_;refine take_ (i:=9) (N:=some 96) (v:=?_) (a':=?_) (pm 13 24) rfl rfl (take_ofW HT_.out HW_.out (by kernel_rfl)) (fun _ _ _ h => h) (Or.inl ⟨by rfl,?_⟩) hHeld ?_ ?_;rotate_left
                     ·rintro w' ⟨s0,s1,s2,s3,s4,s5⟩;go_simp;with_reducible rfl
                     rotate_left
                     ·simp only [Act.put,List.setIfInBounds_toArray,List.set_cons_zero,List.set_cons_succ,i64_w,i32_w];rfl
                     refine take_ (i:=13) (N:=some 100) (v:=?_) (a':=?_) (pm 14 24) rfl rfl (take_ofW HT_.out HW_.out (by kernel_rfl)) (fun _ _ _ h => h) (Or.inl ⟨by rfl,?_⟩) hHeld ?_ ?_;rotate_left
                     ·rintro w' ⟨s0,s1,s2,s3,s4,s5⟩;go_simp;with_reducible rfl
                     rotate_left
                     ·simp only [Act.put,List.setIfInBounds_toArray,List.set_cons_zero,List.set_cons_succ,i64_w,i32_w];rfl
                     refine pu 14 101 (pm 15 24) rfl rfl HT_.out (fun _ _ _ h => h) ?_;refine pu 15 102 (pm 16 24) rfl rfl HT_.out (fun _ _ _ h => h) ?_;refine pu 16 103 (pm 17 24) rfl rfl HT_.out (fun _ _ _ h => h) ?_;refine pu 17 104 (pm 18 24) rfl rfl HT_.out (fun _ _ _ h => h) ?_;refine one_ (i:=18) (N:=some 105) (pm 19 24) rfl rfl (one_of HT_.out (by kernel_rfl)) (by decide) (fun K hK => ?_);refine goes_ Tryz.func12 (by kernel_rfl) rfl #[.int .i64 3,.int .i64 (wrap64 ((wrap64 (((rdOf ByteArray.empty y193 ji3).size : Int) + (wrap64 ((rd y190 ji3) * ((rdOf ByteArray.empty y187 ji3).size : Int))))) + 1))] (by rfl) rfl rfl (by (try simp only [List.map_toArray,List.map_cons,List.map_nil]);first | done | (simp only [hji3];rfl) | rfl | (simp only [List.length_drop,List.length_take];rfl)) ?_
                     with_reducible refine (joustlaw02_at.calls 3 (wrap64 ((wrap64 (((rdOf ByteArray.empty y193 ji3).size : Int) + (wrap64 ((rd y190 ji3) * ((rdOf ByteArray.empty y187 ji3).size : Int))))) + 1)) t221 t222 t223 _ A49.out).mono ?_
                     rintro e w54 ⟨rfl,hb⟩;have HS3_:=(hb.cell (World.block_lt_of_cell? _ _ (hHeld.2.2.2.1))).trans (hHeld.2.2.2.1);have HS4_:=(hb.cell (World.block_lt_of_cell? _ _ (hHeld.2.2.2.2.1))).trans (hHeld.2.2.2.2.1);have HS5_:=(hb.cell (World.block_lt_of_cell? _ _ (hHeld.2.2.2.2.2))).trans (hHeld.2.2.2.2.2);refine ⟨_,rfl,?_⟩;replace HO_5:=Aside0.mk (Kd.R_below (by (with_reducible repeat (first | apply Kd.R_alloc | apply Kd.R_drewN | apply Kd.R_drew));exact HO_5.out) hb);replace HO_6:=Aside0.mk (Kd.R_below (by (with_reducible repeat (first | apply Kd.R_alloc | apply Kd.R_drewN | apply Kd.R_drew));exact HO_6.out) hb);replace HO_7:=Aside0.mk (Kd.R_below (by (with_reducible repeat (first | apply Kd.R_alloc | apply Kd.R_drewN | apply Kd.R_drew));exact HO_7.out) hb);replace BK209:=Aside0.mk (blk_below (g:=gb209) (o:=.cells #[.int .i64 x210000_31,.int .i64 x210001_31,.int .i64 x210002_31] 28 (0,0)) (bk BK209.out) hb);replace HB:=Aside0.mk (below_step (bl1 HB.out GE209.out) hb);(try clear hb);(try clear hk);refine hK.out _ _ ⟨bc BK209.out 0 _ rfl,bc BK209.out 1 _ rfl,bc BK209.out 2 _ rfl,HS3_,HS4_,HS5_⟩ (fun hHeld => ?_);clear hK K;refine norm_ (a':=?_) ?_ ?_;rotate_left
                     ·show Act.put _ (some 105) _ = _;simp only [Act.put,List.setIfInBounds_toArray,List.set_cons_zero,List.set_cons_succ,i64_w,i32_w];rfl
                     refine pu 19 106 (pm 20 24) rfl rfl HT_.out (fun _ _ _ h => h) ?_;refine pu 20 107 (pm 21 24) rfl rfl HT_.out (fun _ _ _ h => h) ?_;refine one_ (i:=21) (N:=some 108) (pm 22 24) rfl rfl (one_of HT_.out (by kernel_rfl)) (by decide) (fun K hK => ?_);refine goes_ Tryz.func5 (by kernel_rfl) rfl #[] (by rfl) rfl rfl ea ?_
                     with_reducible refine (joustlaw02_lives.calls kj31  t224 _ ?side1 A51.out).mono ?_
                     (case side1 => exact Tabs.below HG.out (bl1 HB.out GE209.out))
                     rintro e w55 ⟨rfl,hb⟩;have HS3_:=(hb.cell (World.block_lt_of_cell? _ _ (hHeld.2.2.2.1))).trans (hHeld.2.2.2.1);have HS4_:=(hb.cell (World.block_lt_of_cell? _ _ (hHeld.2.2.2.2.1))).trans (hHeld.2.2.2.2.1);have HS5_:=(hb.cell (World.block_lt_of_cell? _ _ (hHeld.2.2.2.2.2))).trans (hHeld.2.2.2.2.2);refine ⟨_,rfl,?_⟩;replace HO_5:=Aside0.mk (Kd.R_below (by (with_reducible repeat (first | apply Kd.R_alloc | apply Kd.R_drewN | apply Kd.R_drew));exact HO_5.out) hb);replace HO_6:=Aside0.mk (Kd.R_below (by (with_reducible repeat (first | apply Kd.R_alloc | apply Kd.R_drewN | apply Kd.R_drew));exact HO_6.out) hb);replace HO_7:=Aside0.mk (Kd.R_below (by (with_reducible repeat (first | apply Kd.R_alloc | apply Kd.R_drewN | apply Kd.R_drew));exact HO_7.out) hb);replace BK209:=Aside0.mk (blk_below (g:=gb209) (o:=.cells #[.int .i64 x210000_31,.int .i64 x210001_31,.int .i64 x210002_31] 28 (0,0)) (bk BK209.out) hb);replace HB:=Aside0.mk (below_step (bl1 HB.out GE209.out) hb);(try clear hb);(try clear hk);refine hK.out _ _ ⟨bc BK209.out 0 _ rfl,bc BK209.out 1 _ rfl,bc BK209.out 2 _ rfl,HS3_,HS4_,HS5_⟩ (fun hHeld => ?_);clear hK K;refine norm_ (a':=?_) ?_ ?_;rotate_left
                     ·show Act.put _ (some 108) _ = _;simp only [Act.put,List.setIfInBounds_toArray,List.set_cons_zero,List.set_cons_succ,i64_w,i32_w];rfl
                     refine pu 22 109 (pm 23 24) rfl rfl HT_.out (fun _ _ _ h => h) ?_;refine pu 23 4 (pm 24 24) rfl rfl HT_.out (fun _ _ _ h => h) ?_;refine done_ (done_of HT_.out (by kernel_rfl)) ?_
                     try go_wp2
                     go_ret
                     exact ⟨by first | rfl | (simp [errW_none,errW_some] <;> rfl) | (simp only [← hji3];first | rfl | (simp [errW_none,errW_some] <;> rfl)) | (simp [*,errW_none,errW_some] <;> rfl),bl1 HB.out GE209.out⟩
                    ·rw [if_neg c50] at H;have c50b0 : (x210000_31 == t221 && ((x210001_31 == t222 && (x210002_31 == t223)))) = false:=by simpa using c50
                     (try (have c50b1 : decide (x210000_31 = t221 && ((x210001_31 == t222 && (x210002_31 == t223)))) = false:=by simpa using c50))
                     (try (have c50b2 : (x210000_31 == t221 && ((x210001_31 == t222 && (x210002_31 == t223)))) = false:=by simpa using c50))
                     (try (have c50b3 : ¬ (x210000_31 = t221 && ((x210001_31 == t222 && (x210002_31 == t223)))):=by simpa using c50))
                     clear c50;exact absurd H (by simp)
                   ·rw [if_neg c48] at H;exact absurd H (by simp)
                  ·rw [if_neg c47] at H;exact absurd H (by simp)
                ·rw [if_neg c41] at H;exact absurd H (by simp)
               ·rw [if_neg c40] at H;exact absurd H (by simp)
          ·rw [if_neg c25] at H;exact absurd H (by simp)
         ·rw [if_neg c24] at H;exact absurd H (by simp)
        ·rw [if_neg c23] at H;exact absurd H (by simp)
    ·rw [if_neg c7] at H;exact absurd H (by simp)
  ·rw [if_neg c5] at H;exact absurd H (by simp)
 ·rw [if_neg c4] at H;exact absurd H (by simp)

end Go.Proofs.YtmgdkkkkanjadaaGreatDoor.X
