/- Written by a program of this claim's author (stubprint.py, over the kit's print) out of the translation: Go functions as Lean functions, and that the calls come to them. -/
import Derived.Test.YtgalbiokebghkaaDoorS0
import Derived.Test.YtgalbiokebghkaaDoorS1
import Derived.Test.YtgalbiokebghkaaDoorS8
import Derived.Test.YtgalbiokebghkaaDoorS10
import Derived.Test.YtgalbiokebghkaaDoorS11
import Derived.Test.YtgalbiokebghkaaDoorS12
import Derived.Test.YtgalbiokebghkaaDoorHandS
namespace Go.Proofs.YtgalbiokebghkaaDoor.S
open Go.RowKit Go.Proofs.YtgalbiokebghkaaDoorW.PrintWords Go.Proofs.YtgalbiokebghkaaDoorW.PrintLast Go.Proofs.YtgalbiokebghkaaDoorW.PrintMore Go.Proofs.YtgalbiokebghkaaDoor.HandS Go.Proofs.YtgalbiokebghkaaDoor.Iter
attribute [local go_sem] max2_int min2_int max_two min_two max_three min_three max_four min_four   -- for this text's walks alone
set_option linter.unusedVariables false
set_option linter.unusedSimpArgs false

attribute [local go_sem high] eqA37
/-! ### joustlaw01_ScanSpots: function 6 -/
mutual
def joustlaw01_ScanSpots.j0 : Nat → ByteArray → List (S48) → Bool → Option (Bool)
 | 0,_,_,_ => none
 | k + 1,x0,x3,x21 => if x21 = true then ((joustlaw01_lives.f k).bind fun t257 => (some t257)) else (joustlaw01_ScanSpots.l0 k x0 x3 0 false (x3.length : Int) 0)
def joustlaw01_ScanSpots.l0 : Nat → ByteArray → List (S48) → Int → Bool → Int → Int → Option (Bool)
 | 0,_,_,_,_,_,_ => none
 | k + 1,x0,x3,x5,x6,x24,x25 => if x25 < x24 then (if 0 ≤ x25 then (if x25 < (x3.length : Int) then (joustlaw01_ScanSpots.l1 k x0 x3 x5 x6 x25 x24 x25 ((rd_T48 x3 x25).f0) ((rd_T48 x3 x25).f1) ((rd_T48 x3 x25).f2.f0) ((rd_T48 x3 x25).f2.f1)) else (none)) else (none)) else (some false)
def joustlaw01_ScanSpots.l1 : Nat → ByteArray → List (S48) → Int → Bool → Int → Int → Int → Int → ByteArray → Int → Int → Option (Bool)
 | 0,_,_,_,_,_,_,_,_,_,_,_ => none
 | k + 1,x0,x3,x5,x6,x7,x24,x25,x260000,x260001,x260002,x260003 => if x5 < (x0.size : Int) then ((scan_Where.f k x0 x5).bind fun bt260 => (if (!(bt260.1 == x260002) || (!(bt260.2 == x260003))) = true then (joustlaw01_ScanSpots.j3 k x0 x3 x5 x6 x7 x24 x25 true x260000 x260001 x260002 x260003) else (joustlaw01_ScanSpots.j3 k x0 x3 x5 x6 x7 x24 x25 x6 x260000 x260001 x260002 x260003))) else (joustlaw01_ScanSpots.j3 k x0 x3 x5 x6 x7 x24 x25 false x260000 x260001 x260002 x260003)
def joustlaw01_ScanSpots.j3 : Nat → ByteArray → List (S48) → Int → Bool → Int → Int → Int → Bool → Int → ByteArray → Int → Int → Option (Bool)
 | 0,_,_,_,_,_,_,_,_,_,_,_,_ => none
 | k + 1,x0,x3,x5,x6,x7,x24,x25,x46,x260000,x260001,x260002,x260003 => if x46 = true then (if 0 ≤ x5 then (if x5 < (x0.size : Int) then (if (bt x0 x5) = 35 then (joustlaw01_ScanSpots.j4 k x0 x3 x5 true x7 x24 x25 x260000 x260001 x260002 x260003) else (joustlaw01_ScanSpots.j4 k x0 x3 x5 x6 x7 x24 x25 x260000 x260001 x260002 x260003)) else (none)) else (none)) else (if x260000 = 0 then (if x5 = (x0.size : Int) then (if x7 = (wrap64 ((x3.length : Int) - 1)) then (if x260001.toList = ([] : List UInt8) then ((scan_Where.f k x0 x5).bind fun bt262 => (if (bt262.1 == x260002 && (bt262.2 == x260003)) = true then ((joustlaw01_lives.f k).bind fun t264 => (some t264)) else (some false))) else (some false)) else (some false)) else (some false)) else (if x260001.toList = ([] : List UInt8) then (some false) else (if (wrap64 (x5 + (x260001.size : Int))) > (x0.size : Int) then (some false) else (if 0 ≤ x5 then (if x5 ≤ (wrap64 (x5 + (x260001.size : Int))) then (if (wrap64 (x5 + (x260001.size : Int))) ≤ (x0.size : Int) then (if (x0.extract (x5 : Int).toNat ((wrap64 (x5 + (x260001.size : Int))) : Int).toNat).toList = x260001.toList then ((scan_Word.f k x260001).bind fun t265 => (if ((x260000 == 1) != t265) = true then (some false) else (joustlaw01_ScanSpots.l0 k x0 x3 (wrap64 (x5 + (x260001.size : Int))) x6 x24 (wrap64 (x25 + 1))))) else (some false)) else (none)) else (none)) else (none)))))
def joustlaw01_ScanSpots.j4 : Nat → ByteArray → List (S48) → Int → Bool → Int → Int → Int → Int → ByteArray → Int → Int → Option (Bool)
 | 0,_,_,_,_,_,_,_,_,_,_,_ => none
 | k + 1,x0,x3,x5,x6,x7,x24,x25,x260000,x260001,x260002,x260003 => if 0 ≤ x5 then (if x5 < (x0.size : Int) then (if (bt x0 x5) = 10 then (if (bt x0 x5) = 32 then (joustlaw01_ScanSpots.l1 k x0 x3 (wrap64 (x5 + 1)) false x7 x24 x25 x260000 x260001 x260002 x260003) else (if (bt x0 x5) = 9 then (joustlaw01_ScanSpots.l1 k x0 x3 (wrap64 (x5 + 1)) false x7 x24 x25 x260000 x260001 x260002 x260003) else (joustlaw01_ScanSpots.l1 k x0 x3 (wrap64 (x5 + 1)) false x7 x24 x25 x260000 x260001 x260002 x260003))) else (if x6 = true then (joustlaw01_ScanSpots.l1 k x0 x3 (wrap64 (x5 + 1)) x6 x7 x24 x25 x260000 x260001 x260002 x260003) else (if (bt x0 x5) = 32 then (joustlaw01_ScanSpots.l1 k x0 x3 (wrap64 (x5 + 1)) x6 x7 x24 x25 x260000 x260001 x260002 x260003) else (if (bt x0 x5) = 9 then (joustlaw01_ScanSpots.l1 k x0 x3 (wrap64 (x5 + 1)) x6 x7 x24 x25 x260000 x260001 x260002 x260003) else (if (bt x0 x5) = 13 then (joustlaw01_ScanSpots.l1 k x0 x3 (wrap64 (x5 + 1)) x6 x7 x24 x25 x260000 x260001 x260002 x260003) else (some false)))))) else (none)) else (none)
end
def joustlaw01_ScanSpots.f (k : Nat) (a0 : ByteArray) : Option (Bool):=(scan_Tokens.f k a0).bind fun bt250 => (if (a0.size : Int) > 600 then (joustlaw01_ScanSpots.j0 k a0 bt250.1 true) else (joustlaw01_ScanSpots.j0 k a0 bt250.1 (bt250.2.1 != 0)))
theorem joustlaw01_ScanSpots.mono_l : ∀ k,(∀ y0 y1 y2,LeO (joustlaw01_ScanSpots.j0 k y0 y1 y2) (joustlaw01_ScanSpots.j0 (k + 1) y0 y1 y2)) ∧ (∀ y0 y1 y2 y3 y4 y5,LeO (joustlaw01_ScanSpots.l0 k y0 y1 y2 y3 y4 y5) (joustlaw01_ScanSpots.l0 (k + 1) y0 y1 y2 y3 y4 y5)) ∧ (∀ y0 y1 y2 y3 y4 y5 y6 y7 y8 y9 y10,LeO (joustlaw01_ScanSpots.l1 k y0 y1 y2 y3 y4 y5 y6 y7 y8 y9 y10) (joustlaw01_ScanSpots.l1 (k + 1) y0 y1 y2 y3 y4 y5 y6 y7 y8 y9 y10)) ∧ (∀ y0 y1 y2 y3 y4 y5 y6 y7 y8 y9 y10 y11,LeO (joustlaw01_ScanSpots.j3 k y0 y1 y2 y3 y4 y5 y6 y7 y8 y9 y10 y11) (joustlaw01_ScanSpots.j3 (k + 1) y0 y1 y2 y3 y4 y5 y6 y7 y8 y9 y10 y11)) ∧ (∀ y0 y1 y2 y3 y4 y5 y6 y7 y8 y9 y10,LeO (joustlaw01_ScanSpots.j4 k y0 y1 y2 y3 y4 y5 y6 y7 y8 y9 y10) (joustlaw01_ScanSpots.j4 (k + 1) y0 y1 y2 y3 y4 y5 y6 y7 y8 y9 y10))
 | 0 => ⟨fun _ _ _ r h => by simp [joustlaw01_ScanSpots.j0] at h,fun _ _ _ _ _ _ r h => by simp [joustlaw01_ScanSpots.l0] at h,fun _ _ _ _ _ _ _ _ _ _ _ r h => by simp [joustlaw01_ScanSpots.l1] at h,fun _ _ _ _ _ _ _ _ _ _ _ _ r h => by simp [joustlaw01_ScanSpots.j3] at h,fun _ _ _ _ _ _ _ _ _ _ _ r h => by simp [joustlaw01_ScanSpots.j4] at h⟩
 | k + 1 => by
  obtain ⟨ih0,ih1,ih2,ih3,ih4⟩:=joustlaw01_ScanSpots.mono_l k
  refine ⟨?_,?_,?_,?_,?_⟩
  ·intro y0 y1 y2
   unfold joustlaw01_ScanSpots.j0
   repeat' first
   | (with_reducible exact ih0 _ _ _)
   | (with_reducible exact ih1 _ _ _ _ _ _)
   | (with_reducible exact ih2 _ _ _ _ _ _ _ _ _ _ _)
   | (with_reducible exact ih3 _ _ _ _ _ _ _ _ _ _ _ _)
   | (with_reducible exact ih4 _ _ _ _ _ _ _ _ _ _ _)
   | (with_reducible exact joustlaw01_lives.mono _)
   | (with_reducible exact scan_Tokens.mono _ _)
   | (with_reducible exact scan_Where.mono _ _ _)
   | (with_reducible exact scan_Word.mono _ _)
   | (with_reducible exact LeO.refl _)
   | (with_reducible exact LeO.none _)
   | (with_reducible refine LeO.ite ?_ ?_)
   | (with_reducible refine LeO.bind ?_ (fun _ => ?_))
   | exact ih0 _ _ _
   | exact ih1 _ _ _ _ _ _
   | exact ih2 _ _ _ _ _ _ _ _ _ _ _
   | exact ih3 _ _ _ _ _ _ _ _ _ _ _ _
   | exact ih4 _ _ _ _ _ _ _ _ _ _ _
   | exact joustlaw01_lives.mono _
   | exact scan_Tokens.mono _ _
   | exact scan_Where.mono _ _ _
   | exact scan_Word.mono _ _
   | exact LeO.none _
   | refine LeO.ite ?_ ?_
   | refine LeO.bind ?_ (fun _ => ?_)
  ·intro y0 y1 y2 y3 y4 y5
   unfold joustlaw01_ScanSpots.l0
   repeat' first
   | (with_reducible exact ih0 _ _ _)
   | (with_reducible exact ih1 _ _ _ _ _ _)
   | (with_reducible exact ih2 _ _ _ _ _ _ _ _ _ _ _)
   | (with_reducible exact ih3 _ _ _ _ _ _ _ _ _ _ _ _)
   | (with_reducible exact ih4 _ _ _ _ _ _ _ _ _ _ _)
   | (with_reducible exact joustlaw01_lives.mono _)
   | (with_reducible exact scan_Tokens.mono _ _)
   | (with_reducible exact scan_Where.mono _ _ _)
   | (with_reducible exact scan_Word.mono _ _)
   | (with_reducible exact LeO.refl _)
   | (with_reducible exact LeO.none _)
   | (with_reducible refine LeO.ite ?_ ?_)
   | (with_reducible refine LeO.bind ?_ (fun _ => ?_))
   | exact ih0 _ _ _
   | exact ih1 _ _ _ _ _ _
   | exact ih2 _ _ _ _ _ _ _ _ _ _ _
   | exact ih3 _ _ _ _ _ _ _ _ _ _ _ _
   | exact ih4 _ _ _ _ _ _ _ _ _ _ _
   | exact joustlaw01_lives.mono _
   | exact scan_Tokens.mono _ _
   | exact scan_Where.mono _ _ _
   | exact scan_Word.mono _ _
   | exact LeO.none _
   | refine LeO.ite ?_ ?_
   | refine LeO.bind ?_ (fun _ => ?_)
  ·intro y0 y1 y2 y3 y4 y5 y6 y7 y8 y9 y10
   unfold joustlaw01_ScanSpots.l1
   repeat' first
   | (with_reducible exact ih0 _ _ _)
   | (with_reducible exact ih1 _ _ _ _ _ _)
   | (with_reducible exact ih2 _ _ _ _ _ _ _ _ _ _ _)
   | (with_reducible exact ih3 _ _ _ _ _ _ _ _ _ _ _ _)
   | (with_reducible exact ih4 _ _ _ _ _ _ _ _ _ _ _)
   | (with_reducible exact joustlaw01_lives.mono _)
   | (with_reducible exact scan_Tokens.mono _ _)
   | (with_reducible exact scan_Where.mono _ _ _)
   | (with_reducible exact scan_Word.mono _ _)
   | (with_reducible exact LeO.refl _)
   | (with_reducible exact LeO.none _)
   | (with_reducible refine LeO.ite ?_ ?_)
   | (with_reducible refine LeO.bind ?_ (fun _ => ?_))
   | exact ih0 _ _ _
   | exact ih1 _ _ _ _ _ _
   | exact ih2 _ _ _ _ _ _ _ _ _ _ _
   | exact ih3 _ _ _ _ _ _ _ _ _ _ _ _
   | exact ih4 _ _ _ _ _ _ _ _ _ _ _
   | exact joustlaw01_lives.mono _
   | exact scan_Tokens.mono _ _
   | exact scan_Where.mono _ _ _
   | exact scan_Word.mono _ _
   | exact LeO.none _
   | refine LeO.ite ?_ ?_
   | refine LeO.bind ?_ (fun _ => ?_)
  ·intro y0 y1 y2 y3 y4 y5 y6 y7 y8 y9 y10 y11
   unfold joustlaw01_ScanSpots.j3
   repeat' first
   | (with_reducible exact ih0 _ _ _)
   | (with_reducible exact ih1 _ _ _ _ _ _)
   | (with_reducible exact ih2 _ _ _ _ _ _ _ _ _ _ _)
   | (with_reducible exact ih3 _ _ _ _ _ _ _ _ _ _ _ _)
   | (with_reducible exact ih4 _ _ _ _ _ _ _ _ _ _ _)
   | (with_reducible exact joustlaw01_lives.mono _)
   | (with_reducible exact scan_Tokens.mono _ _)
   | (with_reducible exact scan_Where.mono _ _ _)
   | (with_reducible exact scan_Word.mono _ _)
   | (with_reducible exact LeO.refl _)
   | (with_reducible exact LeO.none _)
   | (with_reducible refine LeO.ite ?_ ?_)
   | (with_reducible refine LeO.bind ?_ (fun _ => ?_))
   | exact ih0 _ _ _
   | exact ih1 _ _ _ _ _ _
   | exact ih2 _ _ _ _ _ _ _ _ _ _ _
   | exact ih3 _ _ _ _ _ _ _ _ _ _ _ _
   | exact ih4 _ _ _ _ _ _ _ _ _ _ _
   | exact joustlaw01_lives.mono _
   | exact scan_Tokens.mono _ _
   | exact scan_Where.mono _ _ _
   | exact scan_Word.mono _ _
   | exact LeO.none _
   | refine LeO.ite ?_ ?_
   | refine LeO.bind ?_ (fun _ => ?_)
  ·intro y0 y1 y2 y3 y4 y5 y6 y7 y8 y9 y10
   unfold joustlaw01_ScanSpots.j4
   repeat' first
   | (with_reducible exact ih0 _ _ _)
   | (with_reducible exact ih1 _ _ _ _ _ _)
   | (with_reducible exact ih2 _ _ _ _ _ _ _ _ _ _ _)
   | (with_reducible exact ih3 _ _ _ _ _ _ _ _ _ _ _ _)
   | (with_reducible exact ih4 _ _ _ _ _ _ _ _ _ _ _)
   | (with_reducible exact joustlaw01_lives.mono _)
   | (with_reducible exact scan_Tokens.mono _ _)
   | (with_reducible exact scan_Where.mono _ _ _)
   | (with_reducible exact scan_Word.mono _ _)
   | (with_reducible exact LeO.refl _)
   | (with_reducible exact LeO.none _)
   | (with_reducible refine LeO.ite ?_ ?_)
   | (with_reducible refine LeO.bind ?_ (fun _ => ?_))
   | exact ih0 _ _ _
   | exact ih1 _ _ _ _ _ _
   | exact ih2 _ _ _ _ _ _ _ _ _ _ _
   | exact ih3 _ _ _ _ _ _ _ _ _ _ _ _
   | exact ih4 _ _ _ _ _ _ _ _ _ _ _
   | exact joustlaw01_lives.mono _
   | exact scan_Tokens.mono _ _
   | exact scan_Where.mono _ _ _
   | exact scan_Word.mono _ _
   | exact LeO.none _
   | refine LeO.ite ?_ ?_
   | refine LeO.bind ?_ (fun _ => ?_)
theorem joustlaw01_ScanSpots.mono : ∀ a0 k,LeO (joustlaw01_ScanSpots.f k a0) (joustlaw01_ScanSpots.f (k + 1) a0):=by
 intro a0 k
 obtain ⟨ih0,ih1,ih2,ih3,ih4⟩:=joustlaw01_ScanSpots.mono_l k
 unfold joustlaw01_ScanSpots.f
 repeat' first
   | (with_reducible exact ih0 _ _ _)
   | (with_reducible exact ih1 _ _ _ _ _ _)
   | (with_reducible exact ih2 _ _ _ _ _ _ _ _ _ _ _)
   | (with_reducible exact ih3 _ _ _ _ _ _ _ _ _ _ _ _)
   | (with_reducible exact ih4 _ _ _ _ _ _ _ _ _ _ _)
   | (with_reducible exact joustlaw01_lives.mono _)
   | (with_reducible exact scan_Tokens.mono _ _)
   | (with_reducible exact scan_Where.mono _ _ _)
   | (with_reducible exact scan_Word.mono _ _)
   | (with_reducible exact LeO.refl _)
   | (with_reducible exact LeO.none _)
   | (with_reducible refine LeO.ite ?_ ?_)
   | (with_reducible refine LeO.bind ?_ (fun _ => ?_))
   | exact ih0 _ _ _
   | exact ih1 _ _ _ _ _ _
   | exact ih2 _ _ _ _ _ _ _ _ _ _ _
   | exact ih3 _ _ _ _ _ _ _ _ _ _ _ _
   | exact ih4 _ _ _ _ _ _ _ _ _ _ _
   | exact joustlaw01_lives.mono _
   | exact scan_Tokens.mono _ _
   | exact scan_Where.mono _ _ _
   | exact scan_Word.mono _ _
   | exact LeO.none _
   | refine LeO.ite ?_ ?_
   | refine LeO.bind ?_ (fun _ => ?_)
def joustlaw01_ScanSpots.T9 : Bool × List (List Nat × List Nat):=(true,[([],[]),([],[]),([1],[1]),([0,2],[0,2]),([3],[3]),([4],[4]),([4],[4]),([5,6,4,4],[4,5,6]),([4],[4]),([8,4],[4,8]),([7,9,4],[4,7,9]),([10,7,4],[4,10]),([11],[11]),([11,12,4],[4,11,12]),([4,13],[4,13])])
def joustlaw01_ScanSpots.B9 : List Nat:=[0,0,2,7,15,31,31,127,31,287,1023,2047,4095,8191,16383]
theorem joustlaw01_ScanSpots.tab9 : rtab .any (opsOf Tryd.f6 9) = joustlaw01_ScanSpots.T9:=by kernel_rfl
theorem joustlaw01_ScanSpots.bits9 : waitsOk joustlaw01_ScanSpots.T9.2 joustlaw01_ScanSpots.B9 = true:=by kernel_rfl
def joustlaw01_ScanSpots.T18 : Bool × List (List Nat × List Nat):=(true,[([],[]),([],[]),([1],[1]),([0,2],[0,2]),([3],[3]),([4],[4]),([4],[4]),([6,4],[4,6]),([7,4],[4,7]),([5,8,4],[4,5,8]),([4,9],[4,9]),([10,4],[10]),([11],[11]),([12,11],[11,12]),([13,11],[11,13]),([11,14],[11,14]),([15,11],[15]),([16],[16]),([16],[16]),([17,18,16,16],[16,17,18]),([16],[16]),([20,16],[16,20]),([19,21,16],[16,19,21]),([16,22],[16,22]),([23,19],[23]),([24,24],[24]),([24,25],[24,25]),([26,25,0,1,2,3,4,5,6,7,8,9,10,11,12,13,14,15,16,17,18,19,20,21,22,23,24,25,26],[26])])
def joustlaw01_ScanSpots.B18 : List Nat:=[0,0,2,7,15,31,31,95,223,511,1023,2047,4095,8191,16383,32767,65535,131071,131071,524287,131071,1179647,4194303,8388607,16777215,33554431,67108863,134217727]
theorem joustlaw01_ScanSpots.tab18 : rtab .any (opsOf Tryd.f6 18) = joustlaw01_ScanSpots.T18:=by kernel_rfl
theorem joustlaw01_ScanSpots.bits18 : waitsOk joustlaw01_ScanSpots.T18.2 joustlaw01_ScanSpots.B18 = true:=by kernel_rfl
def joustlaw01_ScanSpots.T19 : Bool × List (List Nat × List Nat):=(true,[([],[]),([0],[0]),([1],[1]),([2],[2]),([3],[3]),([3],[3]),([5,3],[3,5]),([6,3],[3,6]),([4,7,3],[3,4,7]),([3],[3]),([9,3],[3,9]),([8,10,3],[3,8,10]),([3,11],[3,11]),([12,3],[12]),([13],[13]),([13],[13]),([13],[13]),([13],[13]),([17,13],[13,17]),([18,13],[13,18]),([16,19,13],[13,16,19]),([14,15,20,13],[13,14,15,20]),([13],[13]),([22,13],[13,22]),([21,23,13],[13,21,23]),([13,24],[13,24]),([25,13],[25]),([26],[26]),([27,26],[26,27]),([28,26],[26,28]),([26],[26]),([30,26],[26,30]),([31,26,26],[26,31]),([29,32,26],[26,29,32]),([26,33],[26,33])])
def joustlaw01_ScanSpots.B19 : List Nat:=[0,1,3,7,15,15,47,111,255,15,527,2047,4095,8191,16383,16383,16383,16383,147455,409599,999423,2097151,16383,4210687,16777215,33554431,67108863,134217727,268435455,536870911,134217727,1207959551,3355443199,8589934591,17179869183]
theorem joustlaw01_ScanSpots.tab19 : rtab .any (opsOf Tryd.f6 19) = joustlaw01_ScanSpots.T19:=by kernel_rfl
theorem joustlaw01_ScanSpots.bits19 : waitsOk joustlaw01_ScanSpots.T19.2 joustlaw01_ScanSpots.B19 = true:=by kernel_rfl
set_option maxHeartbeats 8000000 in
set_option maxRecDepth 100000 in
theorem joustlaw01_ScanSpots.calls_true (k : Nat) (a0 : ByteArray) (w : World) (hG : Tabs w) (h : joustlaw01_ScanSpots.f k a0 = some true) :
  Calls Tryd.prog 6 #[.string a0] w fun e w' => e = .returned (.bool true) ∧ Below w.heap.size w w':=by
 have hu39:=Tryd.underlying39
 have hu48:=Tryd.underlying48
 have hu37:=Tryd.underlying37
 have HG:=Aside0.mk hG
 clear hG
 have HB:=Aside0.mk (Below.refl w.heap.size w)
 have H : ((scan_Tokens.f k a0).bind fun bt250 => (if (a0.size : Int) > 600 then (joustlaw01_ScanSpots.j0 k a0 bt250.1 true) else (joustlaw01_ScanSpots.j0 k a0 bt250.1 (bt250.2.1 != 0)))) = some true:=h
 clear h
 replace H:=Option.bind_eq_some_iff.mp H
 obtain ⟨⟨t250,t253,t254,t255⟩,A20,H⟩:=H
 replace H : (if (a0.size : Int) > 600 then (joustlaw01_ScanSpots.j0 k a0 t250 true) else (joustlaw01_ScanSpots.j0 k a0 t250 (t253 != 0))) = some true:=H
 have A2:=Aside0.mk A20
 clear A20
 have HC3:=Aside0.mk H
 clear H
 go_enter Tryd.func6,Tryd.ntmps6
 go_upto_region 2 with (first | ((with_reducible refine gate_callee (f:=15) rfl ?_);refine goesL_ (some 11) rfl rfl Tryd.func15 (by kernel_rfl) rfl #[.string a0] rfl (by (try simp only [List.map_toArray,List.map_cons,List.map_nil]);first | done | rfl | (simp only [List.length_drop,List.length_take];rfl)) ?_;(with_reducible refine (scan_Tokens.calls k a0 t250 t253 t254 t255 _ ?side1 A2.out).mono ?_);(case side1 => exact Tabs.below HG.out (by repeat (first | (with_reducible first | exact HB.out | apply below_alloc | apply pw_below_drewN | apply below_drew1) | exact HB.out)));rintro e w4 ⟨v251,rfl,ho0,hb⟩;refine ⟨_,rfl,?_⟩;have n0_:=Aside0.mk (Kd.R_lower ho0 (below_size (by repeat (first | (with_reducible first | exact HB.out | apply below_alloc | apply pw_below_drewN | apply below_drew1) | exact HB.out))));have n1_:=Aside0.mk (below_step (by repeat (first | (with_reducible first | exact HB.out | apply below_alloc | apply pw_below_drewN | apply below_drew1) | exact HB.out)) hb);clear HB;have HO252:=n0_;have HB:=n1_;clear n0_ n1_;(try clear hb);(try clear hb2);(try clear hk);(try clear hi);(try clear ho0)) | ((with_reducible refine gate_dst (N:=4) rfl ?_);(try (refine gate_guard (by rfl) ?_;dsimp only));refine box_event ?hg (N:=4) ?hd (cs:=#[.int .i64 0,.int .i64 0,.int .i64 0]) (t:=39) ?hr ?_;(case hd => rfl);(case hg => rfl);(case hr => first | (go_simp;done) | (go_simp;rfl));intro gb256 hg w5 hbox hb;have n0_:=Aside0.mk (Kd.R_below (by (with_reducible repeat (first | apply Kd.R_alloc | apply Kd.R_drewN | apply Kd.R_drew));exact HO252.out) hb);have n1_:=Aside0.mk (below_step (by repeat (first | (with_reducible first | exact HB.out | apply below_alloc | apply pw_below_drewN | apply below_drew1) | exact HB.out)) hb);have n2_:=Aside0.mk (hbox);have n3_:=Aside0.mk ((by rw [hg];exact (below_size (by repeat (first | (with_reducible first | exact HB.out | apply below_alloc | apply pw_below_drewN | apply below_drew1) | exact HB.out))) : w.heap.size ≤ gb256));have n4_:=Aside0.mk ((by rw [hg];exact (below_size (by repeat (first | (with_reducible first | exact HB.out | apply below_alloc | apply pw_below_drewN | apply below_drew1) | exact HB.out))) : w.heap.size ≤ gb256));clear HO252;clear HB;have HO252:=n0_;have HB:=n1_;have BK256:=n2_;have GW256:=n3_;have GE256:=n4_;clear n0_ n1_ n2_ n3_ n4_;clear hb hbox hg;have hcz6_0 : w5.cell? ⟨gb256,0,none⟩ = some (.int .i64 0):=(blk_cell BK256.out 0).trans rfl;have hcz6_1 : w5.cell? ⟨gb256,1,none⟩ = some (.int .i64 0):=(blk_cell BK256.out 1).trans rfl;have hcz6_2 : w5.cell? ⟨gb256,2,none⟩ = some (.int .i64 0):=(blk_cell BK256.out 2).trans rfl;have hfz6_0:=blk_frozen BK256.out 0;have hfz6_1:=blk_frozen BK256.out 1;have hfz6_2:=blk_frozen BK256.out 2))
 (try simp only [Act.put,List.setIfInBounds_toArray,List.set_cons_zero,List.set_cons_succ])
 go_cut [21] (fun v21 wc => ∃ (kq : Nat) (x21_2 : Bool),v21 = .bool x21_2 ∧ Aside0 (joustlaw01_ScanSpots.j0 kq a0 t250 x21_2 = some true) ∧ Aside0 (kq ≤ k) ∧ Aside0 (Kd.R k48 48 wc w.heap.size (fun _ => True) v251 t250) ∧ Aside0 (wc.heap[gb256]? = some (.cells #[.int .i64 t253,.int .i64 t254,.int .i64 t255] 39 (0,0))) ∧ Aside0 (Below w.heap.size w wc))
 case first =>
  have H:=HC3.out
  clear HC3
  by_cases c7 : (a0.size : Int) > 600
  ·rw [if_pos c7] at H
   have c7b0 : decide (600 < (a0.size : Int)) = true:=decide_eq_true c7
   have c7b1 : decide (600 < a0.size) = true:=decide_eq_true (by omega)
   clear c7
   (first | rw [c7b0] | (simp only [i64_w,i32_w];rw [c7b0]) | skip)
   have H':=Aside0.mk H
   clear H
   go_wp2
   go_meet
   case rel => exact ⟨_,(true),(by first | rfl | (simp;done) | (simp [*];done)),H',⟨by first | omega | exact Nat.le_refl _⟩,⟨by (with_reducible repeat (first | apply Kd.R_alloc | apply Kd.R_drewN | apply Kd.R_drew));exact Kd.R_mono (Kd.R_far (p:=⟨gb256,2,none⟩) (Kd.R_far (p:=⟨gb256,1,none⟩) (Kd.R_far (p:=⟨gb256,0,none⟩) (Kd.R_types HO252.out BK256.out (by decide)) (fun _ hk => hk.2) (.int .i64 t253)) (fun _ hk => hk.2) (.int .i64 t254)) (fun _ hk => hk.2) (.int .i64 t255)) (fun _ hk => trivial)⟩,⟨by (with_reducible repeat (first | refine blk_drewN ?_ _ | refine blk_drew ?_ | refine blk_alloc ?_ _));refine blk_put (cs:=#[.int .i64 t253,.int .i64 t254,.int .i64 0]) ?_ 2 _ rfl;(with_reducible repeat (first | refine blk_drewN ?_ _ | refine blk_drew ?_ | refine blk_alloc ?_ _));refine blk_put (cs:=#[.int .i64 t253,.int .i64 0,.int .i64 0]) ?_ 1 _ rfl;(with_reducible repeat (first | refine blk_drewN ?_ _ | refine blk_drew ?_ | refine blk_alloc ?_ _));refine blk_put (cs:=#[.int .i64 0,.int .i64 0,.int .i64 0]) ?_ 0 _ rfl;(with_reducible repeat (first | refine blk_drewN ?_ _ | refine blk_drew ?_ | refine blk_alloc ?_ _));exact BK256.out⟩,⟨by repeat (first | (with_reducible first | exact HB.out | apply below_alloc | apply pw_below_drewN | apply below_drew1 | refine below_set ?_ GE256.out) | exact HB.out)⟩⟩
  ·rw [if_neg c7] at H
   have c7b0 : decide (600 < (a0.size : Int)) = false:=decide_eq_false c7
   have c7b1 : decide (600 < a0.size) = false:=decide_eq_false (by omega)
   clear c7
   (first | rw [c7b0] | (simp only [i64_w,i32_w];rw [c7b0]) | skip)
   have H':=Aside0.mk H
   clear H
   have hcz8_0 : w5.cell? ⟨gb256,0,none⟩ = some (.int .i64 0):=(blk_cell BK256.out 0).trans rfl
   have hcz8_1 : w5.cell? ⟨gb256,1,none⟩ = some (.int .i64 0):=(blk_cell BK256.out 1).trans rfl
   have hcz8_2 : w5.cell? ⟨gb256,2,none⟩ = some (.int .i64 0):=(blk_cell BK256.out 2).trans rfl
   have hfz8_0:=blk_frozen BK256.out 0
   have hfz8_1:=blk_frozen BK256.out 1
   have hfz8_2:=blk_frozen BK256.out 2
   go_wp2
   go_meet
   case rel => exact ⟨_,((t253 != 0)),(by first | rfl | (simp;done) | (simp [*];done)),H',⟨by first | omega | exact Nat.le_refl _⟩,⟨by (with_reducible repeat (first | apply Kd.R_alloc | apply Kd.R_drewN | apply Kd.R_drew));exact Kd.R_mono (Kd.R_far (p:=⟨gb256,2,none⟩) (Kd.R_far (p:=⟨gb256,1,none⟩) (Kd.R_far (p:=⟨gb256,0,none⟩) (Kd.R_types HO252.out BK256.out (by decide)) (fun _ hk => hk.2) (.int .i64 t253)) (fun _ hk => hk.2) (.int .i64 t254)) (fun _ hk => hk.2) (.int .i64 t255)) (fun _ hk => trivial)⟩,⟨by (with_reducible repeat (first | refine blk_drewN ?_ _ | refine blk_drew ?_ | refine blk_alloc ?_ _));refine blk_put (cs:=#[.int .i64 t253,.int .i64 t254,.int .i64 0]) ?_ 2 _ rfl;(with_reducible repeat (first | refine blk_drewN ?_ _ | refine blk_drew ?_ | refine blk_alloc ?_ _));refine blk_put (cs:=#[.int .i64 t253,.int .i64 0,.int .i64 0]) ?_ 1 _ rfl;(with_reducible repeat (first | refine blk_drewN ?_ _ | refine blk_drew ?_ | refine blk_alloc ?_ _));refine blk_put (cs:=#[.int .i64 0,.int .i64 0,.int .i64 0]) ?_ 0 _ rfl;(with_reducible repeat (first | refine blk_drewN ?_ _ | refine blk_drew ?_ | refine blk_alloc ?_ _));exact BK256.out⟩,⟨by repeat (first | (with_reducible first | exact HB.out | apply below_alloc | apply pw_below_drewN | apply below_drew1 | refine below_set ?_ GE256.out) | exact HB.out)⟩⟩
 case rest =>
  clear HC3
  try clear c1
  try clear p2
  try clear c6
  try clear c7
  try clear c7b0
  try clear c7b1
  try clear hcz6_0
  try clear hcz6_1
  try clear hcz6_2
  try clear hcz8_0
  try clear hcz8_1
  try clear hcz8_2
  try clear hfz6_0
  try clear hfz6_1
  try clear hfz6_2
  try clear hfz8_0
  try clear hfz8_1
  try clear hfz8_2
  obtain ⟨kq,x21_2,rfl,HA,HJ2,HO_3,BK256,HB⟩:=hcut
  cases kq with
  | zero => exact absurd HA.out (by simp [joustlaw01_ScanSpots.j0])
  | succ kj2 =>
   have H:=HA.out
   clear HA
   simp only [joustlaw01_ScanSpots.j0] at H
   by_cases c9 : x21_2 = true
   ·subst c9
    have H1 : ((joustlaw01_lives.f kj2).bind fun t257 => (some t257)) = some true:=by rw [if_pos rfl] at H;exact H
    clear H
    have H:=H1
    clear H1
    replace H:=Option.bind_eq_some_iff.mp H
    obtain ⟨t257,A100,H⟩:=H
    replace H : (some t257) = some true:=H
    have A10:=Aside0.mk A100
    clear A100
    have hT_:=Option.some.inj H
    go_wp2_with (first | ((with_reducible refine gate_callee (f:=14) rfl ?_);refine goesL_ (some 22) rfl rfl Tryd.func14 (by kernel_rfl) rfl #[] rfl (by (try simp only [List.map_toArray,List.map_cons,List.map_nil]);first | done | rfl | (simp only [List.length_drop,List.length_take];rfl)) ?_;(with_reducible refine (joustlaw01_lives.calls kj2  t257 _ ?side1 A10.out).mono ?_);(case side1 => exact Tabs.below HG.out (by repeat (first | (with_reducible first | exact HB.out | apply below_alloc | apply pw_below_drewN | apply below_drew1 | refine below_set ?_ GE256.out) | exact HB.out)));rintro e w11 ⟨rfl,hb⟩;refine ⟨_,rfl,?_⟩;have n0_:=Aside0.mk (Kd.R_below (by (with_reducible repeat (first | apply Kd.R_alloc | apply Kd.R_drewN | apply Kd.R_drew));exact HO_3.out) hb);have n1_:=Aside0.mk (blk_below (g:=gb256) (o:=.cells #[.int .i64 t253,.int .i64 t254,.int .i64 t255] 39 (0,0)) (by (with_reducible repeat (first | refine blk_drewN ?_ _ | refine blk_drew ?_ | refine blk_alloc ?_ _));exact BK256.out) hb);have n2_:=Aside0.mk (below_step (by repeat (first | (with_reducible first | exact HB.out | apply below_alloc | apply pw_below_drewN | apply below_drew1 | refine below_set ?_ GE256.out) | exact HB.out)) hb);clear HO_3;clear BK256;clear HB;have HO_3:=n0_;have BK256:=n1_;have HB:=n2_;clear n0_ n1_ n2_;(try clear hb);(try clear hb2);(try clear hk);(try clear hi)))
    go_ret
    exact ⟨by first | rfl | (simp [errW_none,errW_some] <;> rfl) | (simp [*,errW_none,errW_some] <;> rfl),by repeat (first | (with_reducible first | exact HB.out | apply below_alloc | apply pw_below_drewN | apply below_drew1 | refine below_set ?_ GE256.out) | exact HB.out)⟩
   ·replace c9:=Bool.eq_false_iff.mpr c9
    subst c9
    have H1 : (joustlaw01_ScanSpots.l0 kj2 a0 t250 0 false (t250.length : Int) 0) = some true:=by rw [if_neg (show ¬ (false = true) by decide)] at H;exact H
    clear H
    have H:=H1
    clear H1
    have H':=Aside0.mk H
    clear H
    obtain ⟨Ao12,co12,eo12⟩:=Kd.R_slice HO_3.out
    subst eo12
    go_wp2
    (try simp only [Act.put,List.setIfInBounds_toArray,List.set_cons_zero,List.set_cons_succ])
    go_loopg [5,6,25] kj2 (fun kq v5 v6 v25 w' => ∃ (x5_2 : Int) (x6_2 : Bool) (x25_2 : Int),v5 = .int .i64 x5_2 ∧ v6 = .bool x6_2 ∧ v25 = .int .i64 x25_2 ∧ Aside0 (joustlaw01_ScanSpots.l0 kq a0 t250 x5_2 x6_2 (t250.length : Int) x25_2 = some true) ∧ Aside0 (kq ≤ kj2) ∧ Aside0 (Kd.R k48 48 w' w.heap.size (fun _ => True) (.slice Ao12 t250.length co12) t250) ∧ Aside0 (w'.heap[gb256]? = some (.cells #[.int .i64 t253,.int .i64 t254,.int .i64 t255] 39 (0,0))) ∧ Aside0 (Below w.heap.size w w'))
    case atStart => exact ⟨(0),(false),(0),(by first | rfl | (simp;done) | (simp [*];done)),(by first | rfl | (simp;done) | (simp [*];done)),(by first | rfl | (simp;done) | (simp [*];done)),H',⟨Nat.le_refl _⟩,⟨by (with_reducible repeat (first | apply Kd.R_alloc | apply Kd.R_drewN | apply Kd.R_drew));exact HO_3.out⟩,⟨by (with_reducible repeat (first | refine blk_drewN ?_ _ | refine blk_drew ?_ | refine blk_alloc ?_ _));exact BK256.out⟩,⟨by repeat (first | (with_reducible first | exact HB.out | apply below_alloc | apply pw_below_drewN | apply below_drew1 | refine below_set ?_ GE256.out) | exact HB.out)⟩⟩
    case round =>
     clear H'
     try clear c1
     try clear p2
     try clear c6
     try clear c7
     try clear c7b0
     try clear c7b1
     try clear c9
     try clear hcz6_0
     try clear hcz6_1
     try clear hcz6_2
     try clear hcz8_0
     try clear hcz8_1
     try clear hcz8_2
     try clear hfz6_0
     try clear hfz6_1
     try clear hfz6_2
     try clear hfz8_0
     try clear hfz8_1
     try clear hfz8_2
     try clear p2
     obtain ⟨x5_2,x6_2,x25_2,rfl,rfl,rfl,HA,HK2,HO_3,BK256,HB⟩:=hrel
     cases gk with
     | zero => exact absurd HA.out (by simp [joustlaw01_ScanSpots.l0])
     | succ k2 =>
      have H:=HA.out
      clear HA
      simp only [joustlaw01_ScanSpots.l0] at H
      by_cases c13 : x25_2 < (t250.length : Int)
      ·rw [if_pos c13] at H
       have c13b0 : decide (x25_2 < (t250.length : Int)) = true:=decide_eq_true c13
       clear c13
       by_cases c14 : 0 ≤ x25_2
       ·rw [if_pos c14] at H
        have c14b0 : decide (0 ≤ x25_2) = true:=decide_eq_true c14
        clear c14
        by_cases c15 : x25_2 < (t250.length : Int)
        ·rw [if_pos c15] at H
         have c15b0 : decide (x25_2 < (t250.length : Int)) = true:=decide_eq_true c15
         clear c15
         have H':=Aside0.mk H
         clear H
         have p258 : 0 ≤ (x25_2 : Int):=of_decide_eq_true (by first | (with_reducible assumption) | assumption)
         have q258 : x25_2 < (t250.length : Int):=of_decide_eq_true (by first | (with_reducible assumption) | assumption)
         obtain ⟨ad258,e258,hx258_0,hx258_1,hx258_2,hx258_3⟩:=at_T48 (Kd.R_reads' HO_3.out).2.2 x25_2 p258 q258
         cases e258
         replace p258:=eq_true p258
         replace q258:=eq_true q258
         go_wp2_with (first | ((with_reducible refine gate_dst (N:=8) rfl ?_);(try (refine gate_guard (by rfl) ?_;dsimp only));refine box_event ?hg (N:=8) ?hd (cs:=#[.int .u8 0,.string (⟨#[]⟩ : ByteArray),.int .i64 0,.int .i64 0]) (t:=48) ?hr ?_;(case hd => rfl);(case hg => rfl);(case hr => first | (go_simp;done) | (go_simp;rfl));intro gb259 hg w16 hbox hb;have n0_:=Aside0.mk (Kd.R_below (Kd.R_elderB (by (with_reducible repeat (first | apply Kd.R_alloc | apply Kd.R_drewN | apply Kd.R_drew));exact HO_3.out) gb259 (Nat.le_of_eq hg.symm)) hb);have n1_:=Aside0.mk (blk_below (g:=gb256) (o:=.cells #[.int .i64 t253,.int .i64 t254,.int .i64 t255] 39 (0,0)) (by (with_reducible repeat (first | refine blk_drewN ?_ _ | refine blk_drew ?_ | refine blk_alloc ?_ _));exact BK256.out) hb);have n2_:=Aside0.mk (below_step (by repeat (first | (with_reducible first | exact HB.out | apply below_alloc | apply pw_below_drewN | apply below_drew1 | refine below_set ?_ GE256.out) | exact HB.out)) hb);have n3_:=Aside0.mk (hbox);have n4_:=Aside0.mk ((by rw [hg];exact (below_size (by repeat (first | (with_reducible first | exact HB.out | apply below_alloc | apply pw_below_drewN | apply below_drew1 | refine below_set ?_ GE256.out) | exact HB.out))) : w.heap.size ≤ gb259));have n5_:=Aside0.mk ((by rw [hg];exact (below_size (by repeat (first | (with_reducible first | exact HB.out | apply below_alloc | apply pw_below_drewN | apply below_drew1 | refine below_set ?_ GE256.out) | exact HB.out))) : w.heap.size ≤ gb259));have n6_:=Aside0.mk ((by rw [hg];exact Nat.ne_of_lt (blk_lt (g:=gb256) (o:=.cells #[.int .i64 t253,.int .i64 t254,.int .i64 t255] 39 (0,0)) (by (with_reducible repeat (first | refine blk_drewN ?_ _ | refine blk_drew ?_ | refine blk_alloc ?_ _));exact BK256.out)) : gb256 ≠ gb259));have n7_:=Aside0.mk ((by rw [hg];exact Nat.ne_of_gt (blk_lt (g:=gb256) (o:=.cells #[.int .i64 t253,.int .i64 t254,.int .i64 t255] 39 (0,0)) (by (with_reducible repeat (first | refine blk_drewN ?_ _ | refine blk_drew ?_ | refine blk_alloc ?_ _));exact BK256.out)) : gb259 ≠ gb256));clear HO_3;clear BK256;clear HB;have HO_3:=n0_;have BK256:=n1_;have HB:=n2_;have BK259:=n3_;have GW259:=n4_;have GE259:=n5_;have NB256_259:=n6_;have NB259_256:=n7_;clear n0_ n1_ n2_ n3_ n4_ n5_ n6_ n7_;clear hb hbox hg;have hnb17:=NB259_256.out;have hnc17:=NB256_259.out;have hcz18_0 : w16.cell? ⟨gb259,0,none⟩ = some (.int .u8 0):=(blk_cell BK259.out 0).trans rfl;have hcz18_1 : w16.cell? ⟨gb259,1,none⟩ = some (.string (⟨#[]⟩ : ByteArray)):=(blk_cell BK259.out 1).trans rfl;have hcz18_2 : w16.cell? ⟨gb259,2,none⟩ = some (.int .i64 0):=(blk_cell BK259.out 2).trans rfl;have hcz18_3 : w16.cell? ⟨gb259,3,none⟩ = some (.int .i64 0):=(blk_cell BK259.out 3).trans rfl;have hfz18_0:=blk_frozen BK259.out 0;have hfz18_1:=blk_frozen BK259.out 1;have hfz18_2:=blk_frozen BK259.out 2;have hfz18_3:=blk_frozen BK259.out 3))
         (try simp only [Act.put,List.setIfInBounds_toArray,List.set_cons_zero,List.set_cons_succ])
         go_loopg [5,6] k2 (fun kq v5 v6 w' => ∃ (x5_3 : Int) (x6_3 : Bool),v5 = .int .i64 x5_3 ∧ v6 = .bool x6_3 ∧ Aside0 (joustlaw01_ScanSpots.l1 kq a0 t250 x5_3 x6_3 x25_2 (t250.length : Int) x25_2 ((rd_T48 t250 x25_2).f0) ((rd_T48 t250 x25_2).f1) ((rd_T48 t250 x25_2).f2.f0) ((rd_T48 t250 x25_2).f2.f1) = some true) ∧ Aside0 (kq ≤ k2) ∧ Aside0 (Kd.R k48 48 w' w.heap.size (fun k_ => k_ ≠ gb259) (.slice (some ad258) t250.length co12) t250) ∧ Aside0 (w'.heap[gb256]? = some (.cells #[.int .i64 t253,.int .i64 t254,.int .i64 t255] 39 (0,0))) ∧ Aside0 (w'.heap[gb259]? = some (.cells #[.int .u8 ((rd_T48 t250 x25_2).f0),.string ((rd_T48 t250 x25_2).f1),.int .i64 ((rd_T48 t250 x25_2).f2.f0),.int .i64 ((rd_T48 t250 x25_2).f2.f1)] 48 (0,0))) ∧ Aside0 (Below w.heap.size w w'))
         case atStart => exact ⟨(x5_2),(x6_2),(by first | rfl | (simp;done) | (simp [*];done)),(by first | rfl | (simp;done) | (simp [*];done)),H',⟨Nat.le_refl _⟩,⟨by (with_reducible repeat (first | apply Kd.R_alloc | apply Kd.R_drewN | apply Kd.R_drew));exact Kd.R_mono (Kd.R_far (p:=⟨gb259,3,none⟩) (Kd.R_far (p:=⟨gb259,2,none⟩) (Kd.R_far (p:=⟨gb259,1,none⟩) (Kd.R_far (p:=⟨gb259,0,none⟩) (Kd.R_mono HO_3.out (fun k_ hk => (⟨hk,hk.2⟩ : _ ∧ k_ ≠ gb259))) (fun _ hk => hk.2) (.int .u8 ((rd_T48 t250 x25_2).f0))) (fun _ hk => hk.2) (.string ((rd_T48 t250 x25_2).f1))) (fun _ hk => hk.2) (.int .i64 ((rd_T48 t250 x25_2).f2.f0))) (fun _ hk => hk.2) (.int .i64 ((rd_T48 t250 x25_2).f2.f1))) (fun _ hk => hk.1.2)⟩,⟨by (with_reducible repeat (first | refine blk_drewN ?_ _ | refine blk_drew ?_ | refine blk_alloc ?_ _));refine blk_far ?_ NB256_259.out _;(with_reducible repeat (first | refine blk_drewN ?_ _ | refine blk_drew ?_ | refine blk_alloc ?_ _));refine blk_far ?_ NB256_259.out _;(with_reducible repeat (first | refine blk_drewN ?_ _ | refine blk_drew ?_ | refine blk_alloc ?_ _));refine blk_far ?_ NB256_259.out _;(with_reducible repeat (first | refine blk_drewN ?_ _ | refine blk_drew ?_ | refine blk_alloc ?_ _));refine blk_far ?_ NB256_259.out _;(with_reducible repeat (first | refine blk_drewN ?_ _ | refine blk_drew ?_ | refine blk_alloc ?_ _));exact BK256.out⟩,⟨by (with_reducible repeat (first | refine blk_drewN ?_ _ | refine blk_drew ?_ | refine blk_alloc ?_ _));refine blk_put (cs:=#[.int .u8 ((rd_T48 t250 x25_2).f0),.string ((rd_T48 t250 x25_2).f1),.int .i64 ((rd_T48 t250 x25_2).f2.f0),.int .i64 0]) ?_ 3 _ rfl;(with_reducible repeat (first | refine blk_drewN ?_ _ | refine blk_drew ?_ | refine blk_alloc ?_ _));refine blk_put (cs:=#[.int .u8 ((rd_T48 t250 x25_2).f0),.string ((rd_T48 t250 x25_2).f1),.int .i64 0,.int .i64 0]) ?_ 2 _ rfl;(with_reducible repeat (first | refine blk_drewN ?_ _ | refine blk_drew ?_ | refine blk_alloc ?_ _));refine blk_put (cs:=#[.int .u8 ((rd_T48 t250 x25_2).f0),.string (⟨#[]⟩ : ByteArray),.int .i64 0,.int .i64 0]) ?_ 1 _ rfl;(with_reducible repeat (first | refine blk_drewN ?_ _ | refine blk_drew ?_ | refine blk_alloc ?_ _));refine blk_put (cs:=#[.int .u8 0,.string (⟨#[]⟩ : ByteArray),.int .i64 0,.int .i64 0]) ?_ 0 _ rfl;(with_reducible repeat (first | refine blk_drewN ?_ _ | refine blk_drew ?_ | refine blk_alloc ?_ _));exact BK259.out⟩,⟨by repeat (first | (with_reducible first | exact HB.out | apply below_alloc | apply pw_below_drewN | apply below_drew1 | refine below_set ?_ GE256.out | refine below_set ?_ GE259.out) | exact HB.out)⟩⟩
         case round =>
          clear H'
          try clear c1
          try clear p2
          try clear q2
          try clear hx2
          try clear c6
          try clear c7
          try clear c7b0
          try clear c7b1
          try clear c9
          try clear c13
          try clear c13b0
          try clear c14
          try clear c14b0
          try clear c15
          try clear c15b0
          try clear c17
          try clear hcz18_0
          try clear hcz18_1
          try clear hcz18_2
          try clear hcz18_3
          try clear hcz6_0
          try clear hcz6_1
          try clear hcz6_2
          try clear hcz8_0
          try clear hcz8_1
          try clear hcz8_2
          try clear hfz18_0
          try clear hfz18_1
          try clear hfz18_2
          try clear hfz18_3
          try clear hfz6_0
          try clear hfz6_1
          try clear hfz6_2
          try clear hfz8_0
          try clear hfz8_1
          try clear hfz8_2
          try clear hx258_0
          try clear hx258_1
          try clear hx258_2
          try clear hx258_3
          try clear p2
          try clear p258
          try clear q258
          obtain ⟨x5_3,x6_3,rfl,rfl,HA,HK3,HO_3,BK256,BK259,HB⟩:=hrel
          cases gk with
          | zero => exact absurd HA.out (by simp [joustlaw01_ScanSpots.l1])
          | succ k3 =>
           have H:=HA.out
           clear HA
           simp only [joustlaw01_ScanSpots.l1] at H
           have HC19:=Aside0.mk H
           clear H
           go_upto_region 9 with (fail)
           go_cut [46] (fun v46 wc => ∃ (kq : Nat) (x46_18 : Bool),v46 = .bool x46_18 ∧ Aside0 (joustlaw01_ScanSpots.j3 kq a0 t250 x5_3 x6_3 x25_2 (t250.length : Int) x25_2 x46_18 ((rd_T48 t250 x25_2).f0) ((rd_T48 t250 x25_2).f1) ((rd_T48 t250 x25_2).f2.f0) ((rd_T48 t250 x25_2).f2.f1) = some true) ∧ Aside0 (kq ≤ k3) ∧ Aside0 (Kd.R k48 48 wc w.heap.size (fun k_ => k_ ≠ gb259) (.slice (some ad258) t250.length co12) t250) ∧ Aside0 (wc.heap[gb256]? = some (.cells #[.int .i64 t253,.int .i64 t254,.int .i64 t255] 39 (0,0))) ∧ Aside0 (wc.heap[gb259]? = some (.cells #[.int .u8 ((rd_T48 t250 x25_2).f0),.string ((rd_T48 t250 x25_2).f1),.int .i64 ((rd_T48 t250 x25_2).f2.f0),.int .i64 ((rd_T48 t250 x25_2).f2.f1)] 48 (0,0))) ∧ Aside0 (Below w.heap.size w wc))
           case first =>
            have H:=HC19.out
            clear HC19
            by_cases c20 : x5_3 < (a0.size : Int)
            ·rw [if_pos c20] at H
             have c20b0 : decide (x5_3 < (a0.size : Int)) = true:=decide_eq_true c20
             clear c20
             (first | rw [c20b0] | (simp only [i64_w,i32_w];rw [c20b0]) | skip)
             replace H:=Option.bind_eq_some_iff.mp H
             obtain ⟨⟨t260,t261⟩,A210,H⟩:=H
             replace H : (if (!(t260 == ((rd_T48 t250 x25_2).f2.f0)) || (!(t261 == ((rd_T48 t250 x25_2).f2.f1)))) = true then (joustlaw01_ScanSpots.j3 k3 a0 t250 x5_3 x6_3 x25_2 (t250.length : Int) x25_2 true ((rd_T48 t250 x25_2).f0) ((rd_T48 t250 x25_2).f1) ((rd_T48 t250 x25_2).f2.f0) ((rd_T48 t250 x25_2).f2.f1)) else (joustlaw01_ScanSpots.j3 k3 a0 t250 x5_3 x6_3 x25_2 (t250.length : Int) x25_2 x6_3 ((rd_T48 t250 x25_2).f0) ((rd_T48 t250 x25_2).f1) ((rd_T48 t250 x25_2).f2.f0) ((rd_T48 t250 x25_2).f2.f1))) = some true:=H
             have A21:=Aside0.mk A210
             clear A210
             by_cases c22 : (!(t260 == ((rd_T48 t250 x25_2).f2.f0)) || (!(t261 == ((rd_T48 t250 x25_2).f2.f1)))) = true
             ·rw [if_pos c22] at H
              have c22b0 : (!(t260 == ((rd_T48 t250 x25_2).f2.f0)) || (!(t261 == ((rd_T48 t250 x25_2).f2.f1)))) = true:=c22
              clear c22
              have H':=Aside0.mk H
              clear H
              try go_wp2
              have n0_:=Aside0.mk (Kd.R_drew HO_3.out)
              have n1_:=Aside0.mk (blk_drew BK256.out)
              have n2_:=Aside0.mk (blk_drew BK259.out)
              have n3_:=Aside0.mk (below_drew1 HB.out)
              clear HO_3
              clear BK256
              clear BK259
              clear HB
              have HO_3:=n0_
              have BK256:=n1_
              have BK259:=n2_
              have HB:=n3_
              clear n0_ n1_ n2_ n3_
              refine start_ (n:=15) (S:=fun w' => w'.cell? ⟨gb259,0,none⟩ = some (.int .u8 ((rd_T48 t250 x25_2).f0)) ∧ w'.cell? ⟨gb259,1,none⟩ = some (.string ((rd_T48 t250 x25_2).f1)) ∧ w'.cell? ⟨gb259,2,none⟩ = some (.int .i64 ((rd_T48 t250 x25_2).f2.f0)) ∧ w'.cell? ⟨gb259,3,none⟩ = some (.int .i64 ((rd_T48 t250 x25_2).f2.f1))) (ds:=[]) #[false,false,false,false,false,false,false,false,false,false,false,false,false,false,false] (by kernel_rfl) rfl rfl ⟨(blk_cell BK259.out 0).trans rfl,(blk_cell BK259.out 1).trans rfl,(blk_cell BK259.out 2).trans rfl,(blk_cell BK259.out 3).trans rfl⟩ (fun hHeld => ?_);refine with_tabW joustlaw01_ScanSpots.tab9 joustlaw01_ScanSpots.bits9 (fun HT_ HW_ => ?_)
              generalize wr.drew = w23 at HO_3 BK256 BK259 HB hHeld ⊢
              refine pure_ (i:=0) (N:=some 32) (v:=?_) (a':=?_) #[true,false,false,false,false,false,false,false,false,false,false,false,false,false,false] rfl rfl (any_of HT_.out (by kernel_rfl)) (fun _ _ _ h => h) (Or.inl ⟨by rfl,?_⟩) ?_ ?_
              rotate_left
              ·intro w'
               go_simp
               with_reducible rfl
              rotate_left
              ·simp only [Act.put,List.setIfInBounds_toArray,List.set_cons_zero,List.set_cons_succ,i64_w,i32_w]
               rfl
              refine pure_ (i:=1) (N:=some 33) (v:=?_) (a':=?_) #[true,true,false,false,false,false,false,false,false,false,false,false,false,false,false] rfl rfl (any_of HT_.out (by kernel_rfl)) (fun _ _ _ h => h) (Or.inl ⟨by rfl,?_⟩) ?_ ?_
              rotate_left
              ·intro w'
               go_simp
               with_reducible rfl
              rotate_left
              ·simp only [Act.put,List.setIfInBounds_toArray,List.set_cons_zero,List.set_cons_succ,i64_w,i32_w]
               rfl
              refine pure_ (i:=2) (N:=some 34) (v:=?_) (a':=?_) #[true,true,true,false,false,false,false,false,false,false,false,false,false,false,false] rfl rfl (any_of HT_.out (by kernel_rfl)) (fun _ _ _ h => h) (Or.inl ⟨by rfl,?_⟩) ?_ ?_
              rotate_left
              ·intro w'
               go_simp
               with_reducible rfl
              rotate_left
              ·simp only [Act.put,List.setIfInBounds_toArray,List.set_cons_zero,List.set_cons_succ,i64_w,i32_w]
               rfl
              refine pure_ (i:=3) (N:=some 35) (v:=?_) (a':=?_) #[true,true,true,true,false,false,false,false,false,false,false,false,false,false,false] rfl rfl (any_of HT_.out (by kernel_rfl)) (fun _ _ _ h => h) (Or.inl ⟨by rfl,?_⟩) ?_ ?_
              rotate_left
              ·intro w'
               go_simp
               with_reducible rfl
              rotate_left
              ·simp only [Act.put,List.setIfInBounds_toArray,List.set_cons_zero,List.set_cons_succ,i64_w,i32_w]
               rfl
              refine pure_ (i:=4) (N:=some 36) (v:=?_) (a':=?_) #[true,true,true,true,true,false,false,false,false,false,false,false,false,false,false] rfl rfl (any_of HT_.out (by kernel_rfl)) (fun _ _ _ h => h) (Or.inl ⟨by rfl,?_⟩) ?_ ?_
              rotate_left
              ·intro w'
               go_simp
               with_reducible rfl
              rotate_left
              ·simp only [Act.put,List.setIfInBounds_toArray,List.set_cons_zero,List.set_cons_succ,i64_w,i32_w]
               rfl
              refine pure_ (i:=5) (N:=some 37) (v:=?_) (a':=?_) #[true,true,true,true,true,true,false,false,false,false,false,false,false,false,false] rfl rfl (any_of HT_.out (by kernel_rfl)) (fun _ _ _ h => h) (Or.inl ⟨by rfl,?_⟩) ?_ ?_
              rotate_left
              ·intro w'
               go_simp
               with_reducible rfl
              rotate_left
              ·simp only [Act.put,List.setIfInBounds_toArray,List.set_cons_zero,List.set_cons_succ,i64_w,i32_w]
               rfl
              refine pure_ (i:=6) (N:=some 38) (v:=?_) (a':=?_) #[true,true,true,true,true,true,true,false,false,false,false,false,false,false,false] rfl rfl (any_of HT_.out (by kernel_rfl)) (fun _ _ _ h => h) (Or.inl ⟨by rfl,?_⟩) ?_ ?_
              rotate_left
              ·intro w'
               go_simp
               with_reducible rfl
              rotate_left
              ·simp only [Act.put,List.setIfInBounds_toArray,List.set_cons_zero,List.set_cons_succ,i64_w,i32_w]
               rfl
              refine pure_ (i:=8) (N:=some 40) (v:=?_) (a':=?_) #[true,true,true,true,true,true,true,false,true,false,false,false,false,false,false] rfl rfl (any_of HT_.out (by kernel_rfl)) (fun _ _ _ h => h) (Or.inl ⟨by rfl,?_⟩) ?_ ?_
              rotate_left
              ·intro w'
               go_simp
               with_reducible rfl
              rotate_left
              ·simp only [Act.put,List.setIfInBounds_toArray,List.set_cons_zero,List.set_cons_succ,i64_w,i32_w]
               rfl
              refine take_ (i:=9) (N:=some 41) (v:=?_) (a':=?_) #[true,true,true,true,true,true,true,false,true,true,false,false,false,false,false] rfl rfl (take_ofW HT_.out HW_.out (by kernel_rfl)) (fun _ _ _ h => h) (Or.inl ⟨by rfl,?_⟩) hHeld ?_ ?_
              rotate_left
              ·rintro w' ⟨s0,s1,s2,s3⟩
               go_simp
               with_reducible rfl
              rotate_left
              ·simp only [Act.put,List.setIfInBounds_toArray,List.set_cons_zero,List.set_cons_succ,i64_w,i32_w]
               rfl
              refine one_ (i:=7) (N:=some 39) #[true,true,true,true,true,true,true,true,true,true,false,false,false,false,false] rfl rfl (one_of HT_.out (by kernel_rfl)) (by decide) (fun K hK => ?_)
              refine goes_ Tryd.func21 (by kernel_rfl) rfl #[.string a0,.int .i64 x5_3] (by rfl) rfl rfl (by (try simp only [List.map_toArray,List.map_cons,List.map_nil]);first | done | rfl | (simp only [List.length_drop,List.length_take];rfl)) ?_
              with_reducible refine (scan_Where.calls k3 a0 x5_3 t260 t261 _ A21.out).mono ?_
              rintro e w24 ⟨rfl,hb⟩
              refine ⟨_,rfl,?_⟩
              have n0_:=Aside0.mk (Kd.R_below (by (with_reducible repeat (first | apply Kd.R_alloc | apply Kd.R_drewN | apply Kd.R_drew));exact HO_3.out) hb)
              have n1_:=Aside0.mk (blk_below (g:=gb256) (o:=.cells #[.int .i64 t253,.int .i64 t254,.int .i64 t255] 39 (0,0)) (by (with_reducible repeat (first | refine blk_drewN ?_ _ | refine blk_drew ?_ | refine blk_alloc ?_ _));exact BK256.out) hb)
              have n2_:=Aside0.mk (blk_below (g:=gb259) (o:=.cells #[.int .u8 ((rd_T48 t250 x25_2).f0),.string ((rd_T48 t250 x25_2).f1),.int .i64 ((rd_T48 t250 x25_2).f2.f0),.int .i64 ((rd_T48 t250 x25_2).f2.f1)] 48 (0,0)) (by (with_reducible repeat (first | refine blk_drewN ?_ _ | refine blk_drew ?_ | refine blk_alloc ?_ _));exact BK259.out) hb)
              have n3_:=Aside0.mk (below_step (by repeat (first | (with_reducible first | exact HB.out | apply below_alloc | apply pw_below_drewN | apply below_drew1 | refine below_set ?_ GE256.out | refine below_set ?_ GE259.out) | exact HB.out)) hb)
              clear HO_3
              clear BK256
              clear BK259
              clear HB
              have HO_3:=n0_
              have BK256:=n1_
              have BK259:=n2_
              have HB:=n3_
              clear n0_ n1_ n2_ n3_
              (try clear hb)
              (try clear hb2)
              (try clear hk)
              (try clear hi)
              refine hK.out _ _ ⟨(blk_cell BK259.out 0).trans rfl,(blk_cell BK259.out 1).trans rfl,(blk_cell BK259.out 2).trans rfl,(blk_cell BK259.out 3).trans rfl⟩ (fun hHeld => ?_)
              clear hK K
              refine norm_ (a':=?_) ?_ ?_
              rotate_left
              ·show Act.put _ (some 39) _ = _
               simp only [Act.put,List.setIfInBounds_toArray,List.set_cons_zero,List.set_cons_succ,i64_w,i32_w]
               rfl
              refine pure_ (i:=10) (N:=some 42) (v:=?_) (a':=?_) #[true,true,true,true,true,true,true,true,true,true,true,false,false,false,false] rfl rfl (any_of HT_.out (by kernel_rfl)) (fun _ _ _ h => h) (Or.inl ⟨by rfl,?_⟩) ?_ ?_
              rotate_left
              ·intro w'
               go_simp
               with_reducible rfl
              rotate_left
              ·simp only [Act.put,List.setIfInBounds_toArray,List.set_cons_zero,List.set_cons_succ,i64_w,i32_w]
               rfl
              refine pure_ (i:=11) (N:=some 43) (v:=?_) (a':=?_) #[true,true,true,true,true,true,true,true,true,true,true,true,false,false,false] rfl rfl (any_of HT_.out (by kernel_rfl)) (fun _ _ _ h => h) (Or.inl ⟨by rfl,?_⟩) ?_ ?_
              rotate_left
              ·intro w'
               go_simp
               with_reducible rfl
              rotate_left
              ·simp only [Act.put,List.setIfInBounds_toArray,List.set_cons_zero,List.set_cons_succ,i64_w,i32_w]
               rfl
              refine pure_ (i:=12) (N:=some 44) (v:=undef) (a':=?_) #[true,true,true,true,true,true,true,true,true,true,true,true,true,false,false] rfl rfl (any_of HT_.out (by kernel_rfl)) (fun _ _ _ h => h) (Or.inr ⟨by rfl,rfl⟩) ?_ ?_
              rotate_left
              ·simp only [Act.put,List.setIfInBounds_toArray,List.set_cons_zero,List.set_cons_succ,i64_w,i32_w]
               rfl
              refine pure_ (i:=13) (N:=some 45) (v:=?_) (a':=?_) #[true,true,true,true,true,true,true,true,true,true,true,true,true,true,false] rfl rfl (any_of HT_.out (by kernel_rfl)) (fun _ _ _ h => h) (Or.inl ⟨by rfl,?_⟩) ?_ ?_
              rotate_left
              ·intro w'
               go_simp
               with_reducible rfl
              rotate_left
              ·simp only [Act.put,List.setIfInBounds_toArray,List.set_cons_zero,List.set_cons_succ,i64_w,i32_w]
               rfl
              refine pure_ (i:=14) (N:=some 46) (v:=?_) (a':=?_) #[true,true,true,true,true,true,true,true,true,true,true,true,true,true,true] rfl rfl (any_of HT_.out (by kernel_rfl)) (fun _ _ _ h => h) (Or.inl ⟨by rfl,?_⟩) ?_ ?_
              rotate_left
              ·intro w'
               go_simp
               with_reducible rfl
              rotate_left
              ·simp only [Act.put,List.setIfInBounds_toArray,List.set_cons_zero,List.set_cons_succ,i64_w,i32_w]
               rfl
              refine done_ (done_of HT_.out (by kernel_rfl)) ?_
              try go_wp2
              go_meet
              case rel => exact ⟨_,(true),(by first | rfl | (simp;done) | (simp [*];done)),H',⟨by have:=HJ2.out;have:=HK2.out;have:=HK3.out;first | omega | exact Nat.le_refl _⟩,⟨by (with_reducible repeat (first | apply Kd.R_alloc | apply Kd.R_drewN | apply Kd.R_drew));exact HO_3.out⟩,⟨by (with_reducible repeat (first | refine blk_drewN ?_ _ | refine blk_drew ?_ | refine blk_alloc ?_ _));exact BK256.out⟩,⟨by (with_reducible repeat (first | refine blk_drewN ?_ _ | refine blk_drew ?_ | refine blk_alloc ?_ _));exact BK259.out⟩,⟨by repeat (first | (with_reducible first | exact HB.out | apply below_alloc | apply pw_below_drewN | apply below_drew1 | refine below_set ?_ GE256.out | refine below_set ?_ GE259.out) | exact HB.out)⟩⟩
             ·rw [if_neg c22] at H
              have c22b0 : (!(t260 == ((rd_T48 t250 x25_2).f2.f0)) || (!(t261 == ((rd_T48 t250 x25_2).f2.f1)))) = false:=by simpa using c22
              clear c22
              have H':=Aside0.mk H
              clear H
              try go_wp2
              have n0_:=Aside0.mk (Kd.R_drew HO_3.out)
              have n1_:=Aside0.mk (blk_drew BK256.out)
              have n2_:=Aside0.mk (blk_drew BK259.out)
              have n3_:=Aside0.mk (below_drew1 HB.out)
              clear HO_3
              clear BK256
              clear BK259
              clear HB
              have HO_3:=n0_
              have BK256:=n1_
              have BK259:=n2_
              have HB:=n3_
              clear n0_ n1_ n2_ n3_
              refine start_ (n:=15) (S:=fun w' => w'.cell? ⟨gb259,0,none⟩ = some (.int .u8 ((rd_T48 t250 x25_2).f0)) ∧ w'.cell? ⟨gb259,1,none⟩ = some (.string ((rd_T48 t250 x25_2).f1)) ∧ w'.cell? ⟨gb259,2,none⟩ = some (.int .i64 ((rd_T48 t250 x25_2).f2.f0)) ∧ w'.cell? ⟨gb259,3,none⟩ = some (.int .i64 ((rd_T48 t250 x25_2).f2.f1))) (ds:=[]) #[false,false,false,false,false,false,false,false,false,false,false,false,false,false,false] (by kernel_rfl) rfl rfl ⟨(blk_cell BK259.out 0).trans rfl,(blk_cell BK259.out 1).trans rfl,(blk_cell BK259.out 2).trans rfl,(blk_cell BK259.out 3).trans rfl⟩ (fun hHeld => ?_);refine with_tabW joustlaw01_ScanSpots.tab9 joustlaw01_ScanSpots.bits9 (fun HT_ HW_ => ?_)
              generalize wr.drew = w25 at HO_3 BK256 BK259 HB hHeld ⊢
              refine pure_ (i:=0) (N:=some 32) (v:=?_) (a':=?_) #[true,false,false,false,false,false,false,false,false,false,false,false,false,false,false] rfl rfl (any_of HT_.out (by kernel_rfl)) (fun _ _ _ h => h) (Or.inl ⟨by rfl,?_⟩) ?_ ?_
              rotate_left
              ·intro w'
               go_simp
               with_reducible rfl
              rotate_left
              ·simp only [Act.put,List.setIfInBounds_toArray,List.set_cons_zero,List.set_cons_succ,i64_w,i32_w]
               rfl
              refine pure_ (i:=1) (N:=some 33) (v:=?_) (a':=?_) #[true,true,false,false,false,false,false,false,false,false,false,false,false,false,false] rfl rfl (any_of HT_.out (by kernel_rfl)) (fun _ _ _ h => h) (Or.inl ⟨by rfl,?_⟩) ?_ ?_
              rotate_left
              ·intro w'
               go_simp
               with_reducible rfl
              rotate_left
              ·simp only [Act.put,List.setIfInBounds_toArray,List.set_cons_zero,List.set_cons_succ,i64_w,i32_w]
               rfl
              refine pure_ (i:=2) (N:=some 34) (v:=?_) (a':=?_) #[true,true,true,false,false,false,false,false,false,false,false,false,false,false,false] rfl rfl (any_of HT_.out (by kernel_rfl)) (fun _ _ _ h => h) (Or.inl ⟨by rfl,?_⟩) ?_ ?_
              rotate_left
              ·intro w'
               go_simp
               with_reducible rfl
              rotate_left
              ·simp only [Act.put,List.setIfInBounds_toArray,List.set_cons_zero,List.set_cons_succ,i64_w,i32_w]
               rfl
              refine pure_ (i:=3) (N:=some 35) (v:=?_) (a':=?_) #[true,true,true,true,false,false,false,false,false,false,false,false,false,false,false] rfl rfl (any_of HT_.out (by kernel_rfl)) (fun _ _ _ h => h) (Or.inl ⟨by rfl,?_⟩) ?_ ?_
              rotate_left
              ·intro w'
               go_simp
               with_reducible rfl
              rotate_left
              ·simp only [Act.put,List.setIfInBounds_toArray,List.set_cons_zero,List.set_cons_succ,i64_w,i32_w]
               rfl
              refine pure_ (i:=4) (N:=some 36) (v:=?_) (a':=?_) #[true,true,true,true,true,false,false,false,false,false,false,false,false,false,false] rfl rfl (any_of HT_.out (by kernel_rfl)) (fun _ _ _ h => h) (Or.inl ⟨by rfl,?_⟩) ?_ ?_
              rotate_left
              ·intro w'
               go_simp
               with_reducible rfl
              rotate_left
              ·simp only [Act.put,List.setIfInBounds_toArray,List.set_cons_zero,List.set_cons_succ,i64_w,i32_w]
               rfl
              refine pure_ (i:=5) (N:=some 37) (v:=?_) (a':=?_) #[true,true,true,true,true,true,false,false,false,false,false,false,false,false,false] rfl rfl (any_of HT_.out (by kernel_rfl)) (fun _ _ _ h => h) (Or.inl ⟨by rfl,?_⟩) ?_ ?_
              rotate_left
              ·intro w'
               go_simp
               with_reducible rfl
              rotate_left
              ·simp only [Act.put,List.setIfInBounds_toArray,List.set_cons_zero,List.set_cons_succ,i64_w,i32_w]
               rfl
              refine pure_ (i:=6) (N:=some 38) (v:=?_) (a':=?_) #[true,true,true,true,true,true,true,false,false,false,false,false,false,false,false] rfl rfl (any_of HT_.out (by kernel_rfl)) (fun _ _ _ h => h) (Or.inl ⟨by rfl,?_⟩) ?_ ?_
              rotate_left
              ·intro w'
               go_simp
               with_reducible rfl
              rotate_left
              ·simp only [Act.put,List.setIfInBounds_toArray,List.set_cons_zero,List.set_cons_succ,i64_w,i32_w]
               rfl
              refine pure_ (i:=8) (N:=some 40) (v:=?_) (a':=?_) #[true,true,true,true,true,true,true,false,true,false,false,false,false,false,false] rfl rfl (any_of HT_.out (by kernel_rfl)) (fun _ _ _ h => h) (Or.inl ⟨by rfl,?_⟩) ?_ ?_
              rotate_left
              ·intro w'
               go_simp
               with_reducible rfl
              rotate_left
              ·simp only [Act.put,List.setIfInBounds_toArray,List.set_cons_zero,List.set_cons_succ,i64_w,i32_w]
               rfl
              refine take_ (i:=9) (N:=some 41) (v:=?_) (a':=?_) #[true,true,true,true,true,true,true,false,true,true,false,false,false,false,false] rfl rfl (take_ofW HT_.out HW_.out (by kernel_rfl)) (fun _ _ _ h => h) (Or.inl ⟨by rfl,?_⟩) hHeld ?_ ?_
              rotate_left
              ·rintro w' ⟨s0,s1,s2,s3⟩
               go_simp
               with_reducible rfl
              rotate_left
              ·simp only [Act.put,List.setIfInBounds_toArray,List.set_cons_zero,List.set_cons_succ,i64_w,i32_w]
               rfl
              refine one_ (i:=7) (N:=some 39) #[true,true,true,true,true,true,true,true,true,true,false,false,false,false,false] rfl rfl (one_of HT_.out (by kernel_rfl)) (by decide) (fun K hK => ?_)
              refine goes_ Tryd.func21 (by kernel_rfl) rfl #[.string a0,.int .i64 x5_3] (by rfl) rfl rfl (by (try simp only [List.map_toArray,List.map_cons,List.map_nil]);first | done | rfl | (simp only [List.length_drop,List.length_take];rfl)) ?_
              with_reducible refine (scan_Where.calls k3 a0 x5_3 t260 t261 _ A21.out).mono ?_
              rintro e w26 ⟨rfl,hb⟩
              refine ⟨_,rfl,?_⟩
              have n0_:=Aside0.mk (Kd.R_below (by (with_reducible repeat (first | apply Kd.R_alloc | apply Kd.R_drewN | apply Kd.R_drew));exact HO_3.out) hb)
              have n1_:=Aside0.mk (blk_below (g:=gb256) (o:=.cells #[.int .i64 t253,.int .i64 t254,.int .i64 t255] 39 (0,0)) (by (with_reducible repeat (first | refine blk_drewN ?_ _ | refine blk_drew ?_ | refine blk_alloc ?_ _));exact BK256.out) hb)
              have n2_:=Aside0.mk (blk_below (g:=gb259) (o:=.cells #[.int .u8 ((rd_T48 t250 x25_2).f0),.string ((rd_T48 t250 x25_2).f1),.int .i64 ((rd_T48 t250 x25_2).f2.f0),.int .i64 ((rd_T48 t250 x25_2).f2.f1)] 48 (0,0)) (by (with_reducible repeat (first | refine blk_drewN ?_ _ | refine blk_drew ?_ | refine blk_alloc ?_ _));exact BK259.out) hb)
              have n3_:=Aside0.mk (below_step (by repeat (first | (with_reducible first | exact HB.out | apply below_alloc | apply pw_below_drewN | apply below_drew1 | refine below_set ?_ GE256.out | refine below_set ?_ GE259.out) | exact HB.out)) hb)
              clear HO_3
              clear BK256
              clear BK259
              clear HB
              have HO_3:=n0_
              have BK256:=n1_
              have BK259:=n2_
              have HB:=n3_
              clear n0_ n1_ n2_ n3_
              (try clear hb)
              (try clear hb2)
              (try clear hk)
              (try clear hi)
              refine hK.out _ _ ⟨(blk_cell BK259.out 0).trans rfl,(blk_cell BK259.out 1).trans rfl,(blk_cell BK259.out 2).trans rfl,(blk_cell BK259.out 3).trans rfl⟩ (fun hHeld => ?_)
              clear hK K
              refine norm_ (a':=?_) ?_ ?_
              rotate_left
              ·show Act.put _ (some 39) _ = _
               simp only [Act.put,List.setIfInBounds_toArray,List.set_cons_zero,List.set_cons_succ,i64_w,i32_w]
               rfl
              refine pure_ (i:=10) (N:=some 42) (v:=?_) (a':=?_) #[true,true,true,true,true,true,true,true,true,true,true,false,false,false,false] rfl rfl (any_of HT_.out (by kernel_rfl)) (fun _ _ _ h => h) (Or.inl ⟨by rfl,?_⟩) ?_ ?_
              rotate_left
              ·intro w'
               go_simp
               with_reducible rfl
              rotate_left
              ·simp only [Act.put,List.setIfInBounds_toArray,List.set_cons_zero,List.set_cons_succ,i64_w,i32_w]
               rfl
              refine pure_ (i:=11) (N:=some 43) (v:=?_) (a':=?_) #[true,true,true,true,true,true,true,true,true,true,true,true,false,false,false] rfl rfl (any_of HT_.out (by kernel_rfl)) (fun _ _ _ h => h) (Or.inl ⟨by rfl,?_⟩) ?_ ?_
              rotate_left
              ·intro w'
               go_simp
               with_reducible rfl
              rotate_left
              ·simp only [Act.put,List.setIfInBounds_toArray,List.set_cons_zero,List.set_cons_succ,i64_w,i32_w]
               rfl
              refine pure_ (i:=12) (N:=some 44) (v:=?_) (a':=?_) #[true,true,true,true,true,true,true,true,true,true,true,true,true,false,false] rfl rfl (any_of HT_.out (by kernel_rfl)) (fun _ _ _ h => h) (Or.inl ⟨by rfl,?_⟩) ?_ ?_
              rotate_left
              ·intro w'
               go_simp
               with_reducible rfl
              rotate_left
              ·simp only [Act.put,List.setIfInBounds_toArray,List.set_cons_zero,List.set_cons_succ,i64_w,i32_w]
               rfl
              refine pure_ (i:=13) (N:=some 45) (v:=?_) (a':=?_) #[true,true,true,true,true,true,true,true,true,true,true,true,true,true,false] rfl rfl (any_of HT_.out (by kernel_rfl)) (fun _ _ _ h => h) (Or.inl ⟨by rfl,?_⟩) ?_ ?_
              rotate_left
              ·intro w'
               go_simp
               with_reducible rfl
              rotate_left
              ·simp only [Act.put,List.setIfInBounds_toArray,List.set_cons_zero,List.set_cons_succ,i64_w,i32_w]
               rfl
              refine pure_ (i:=14) (N:=some 46) (v:=?_) (a':=?_) #[true,true,true,true,true,true,true,true,true,true,true,true,true,true,true] rfl rfl (any_of HT_.out (by kernel_rfl)) (fun _ _ _ h => h) (Or.inl ⟨by rfl,?_⟩) ?_ ?_
              rotate_left
              ·intro w'
               go_simp
               with_reducible rfl
              rotate_left
              ·simp only [Act.put,List.setIfInBounds_toArray,List.set_cons_zero,List.set_cons_succ,i64_w,i32_w]
               rfl
              refine done_ (done_of HT_.out (by kernel_rfl)) ?_
              try go_wp2
              go_meet
              case rel => exact ⟨_,(x6_3),(by first | rfl | (simp;done) | (simp [*];done)),H',⟨by have:=HJ2.out;have:=HK2.out;have:=HK3.out;first | omega | exact Nat.le_refl _⟩,⟨by (with_reducible repeat (first | apply Kd.R_alloc | apply Kd.R_drewN | apply Kd.R_drew));exact HO_3.out⟩,⟨by (with_reducible repeat (first | refine blk_drewN ?_ _ | refine blk_drew ?_ | refine blk_alloc ?_ _));exact BK256.out⟩,⟨by (with_reducible repeat (first | refine blk_drewN ?_ _ | refine blk_drew ?_ | refine blk_alloc ?_ _));exact BK259.out⟩,⟨by repeat (first | (with_reducible first | exact HB.out | apply below_alloc | apply pw_below_drewN | apply below_drew1 | refine below_set ?_ GE256.out | refine below_set ?_ GE259.out) | exact HB.out)⟩⟩
            ·rw [if_neg c20] at H
             have c20b0 : decide (x5_3 < (a0.size : Int)) = false:=decide_eq_false c20
             clear c20
             (first | rw [c20b0] | (simp only [i64_w,i32_w];rw [c20b0]) | skip)
             have H':=Aside0.mk H
             clear H
             try go_wp2
             have n0_:=Aside0.mk (Kd.R_drew HO_3.out)
             have n1_:=Aside0.mk (blk_drew BK256.out)
             have n2_:=Aside0.mk (blk_drew BK259.out)
             have n3_:=Aside0.mk (below_drew1 HB.out)
             clear HO_3
             clear BK256
             clear BK259
             clear HB
             have HO_3:=n0_
             have BK256:=n1_
             have BK259:=n2_
             have HB:=n3_
             clear n0_ n1_ n2_ n3_
             refine start_ (n:=15) (S:=fun w' => True) (ds:=[]) #[false,false,false,false,false,false,false,false,false,false,false,false,false,false,false] (by kernel_rfl) rfl rfl trivial (fun hHeld => ?_);refine with_tabW joustlaw01_ScanSpots.tab9 joustlaw01_ScanSpots.bits9 (fun HT_ HW_ => ?_)
             generalize wr.drew = w27 at HO_3 BK256 BK259 HB hHeld ⊢
             refine pure_ (i:=0) (N:=some 32) (v:=?_) (a':=?_) #[true,false,false,false,false,false,false,false,false,false,false,false,false,false,false] rfl rfl (any_of HT_.out (by kernel_rfl)) (fun _ _ _ h => h) (Or.inl ⟨by rfl,?_⟩) ?_ ?_
             rotate_left
             ·intro w'
              go_simp
              with_reducible rfl
             rotate_left
             ·simp only [Act.put,List.setIfInBounds_toArray,List.set_cons_zero,List.set_cons_succ,i64_w,i32_w]
              rfl
             refine pure_ (i:=1) (N:=some 33) (v:=?_) (a':=?_) #[true,true,false,false,false,false,false,false,false,false,false,false,false,false,false] rfl rfl (any_of HT_.out (by kernel_rfl)) (fun _ _ _ h => h) (Or.inl ⟨by rfl,?_⟩) ?_ ?_
             rotate_left
             ·intro w'
              go_simp
              with_reducible rfl
             rotate_left
             ·simp only [Act.put,List.setIfInBounds_toArray,List.set_cons_zero,List.set_cons_succ,i64_w,i32_w]
              rfl
             refine pure_ (i:=2) (N:=some 34) (v:=?_) (a':=?_) #[true,true,true,false,false,false,false,false,false,false,false,false,false,false,false] rfl rfl (any_of HT_.out (by kernel_rfl)) (fun _ _ _ h => h) (Or.inl ⟨by rfl,?_⟩) ?_ ?_
             rotate_left
             ·intro w'
              go_simp
              with_reducible rfl
             rotate_left
             ·simp only [Act.put,List.setIfInBounds_toArray,List.set_cons_zero,List.set_cons_succ,i64_w,i32_w]
              rfl
             refine pure_ (i:=3) (N:=some 35) (v:=?_) (a':=?_) #[true,true,true,true,false,false,false,false,false,false,false,false,false,false,false] rfl rfl (any_of HT_.out (by kernel_rfl)) (fun _ _ _ h => h) (Or.inl ⟨by rfl,?_⟩) ?_ ?_
             rotate_left
             ·intro w'
              go_simp
              with_reducible rfl
             rotate_left
             ·simp only [Act.put,List.setIfInBounds_toArray,List.set_cons_zero,List.set_cons_succ,i64_w,i32_w]
              rfl
             refine pure_ (i:=4) (N:=some 36) (v:=?_) (a':=?_) #[true,true,true,true,true,false,false,false,false,false,false,false,false,false,false] rfl rfl (any_of HT_.out (by kernel_rfl)) (fun _ _ _ h => h) (Or.inl ⟨by rfl,?_⟩) ?_ ?_
             rotate_left
             ·intro w'
              go_simp
              with_reducible rfl
             rotate_left
             ·simp only [Act.put,List.setIfInBounds_toArray,List.set_cons_zero,List.set_cons_succ,i64_w,i32_w]
              rfl
             refine pure_ (i:=5) (N:=some 37) (v:=undef) (a':=?_) #[true,true,true,true,true,true,false,false,false,false,false,false,false,false,false] rfl rfl (any_of HT_.out (by kernel_rfl)) (fun _ _ _ h => h) (Or.inr ⟨by rfl,rfl⟩) ?_ ?_
             rotate_left
             ·simp only [Act.put,List.setIfInBounds_toArray,List.set_cons_zero,List.set_cons_succ,i64_w,i32_w]
              rfl
             refine pure_ (i:=6) (N:=some 38) (v:=undef) (a':=?_) #[true,true,true,true,true,true,true,false,false,false,false,false,false,false,false] rfl rfl (any_of HT_.out (by kernel_rfl)) (fun _ _ _ h => h) (Or.inr ⟨by rfl,rfl⟩) ?_ ?_
             rotate_left
             ·simp only [Act.put,List.setIfInBounds_toArray,List.set_cons_zero,List.set_cons_succ,i64_w,i32_w]
              rfl
             refine pure_ (i:=7) (N:=some 39) (v:=undef) (a':=?_) #[true,true,true,true,true,true,true,true,false,false,false,false,false,false,false] rfl rfl (any_of HT_.out (by kernel_rfl)) (fun _ _ _ h => h) (Or.inr ⟨by rfl,rfl⟩) ?_ ?_
             rotate_left
             ·simp only [Act.put,List.setIfInBounds_toArray,List.set_cons_zero,List.set_cons_succ,i64_w,i32_w]
              rfl
             refine pure_ (i:=8) (N:=some 40) (v:=undef) (a':=?_) #[true,true,true,true,true,true,true,true,true,false,false,false,false,false,false] rfl rfl (any_of HT_.out (by kernel_rfl)) (fun _ _ _ h => h) (Or.inr ⟨by rfl,rfl⟩) ?_ ?_
             rotate_left
             ·simp only [Act.put,List.setIfInBounds_toArray,List.set_cons_zero,List.set_cons_succ,i64_w,i32_w]
              rfl
             refine pure_ (i:=9) (N:=some 41) (v:=undef) (a':=?_) #[true,true,true,true,true,true,true,true,true,true,false,false,false,false,false] rfl rfl (any_of HT_.out (by kernel_rfl)) (fun _ _ _ h => h) (Or.inr ⟨by rfl,rfl⟩) ?_ ?_
             rotate_left
             ·simp only [Act.put,List.setIfInBounds_toArray,List.set_cons_zero,List.set_cons_succ,i64_w,i32_w]
              rfl
             refine pure_ (i:=10) (N:=some 42) (v:=undef) (a':=?_) #[true,true,true,true,true,true,true,true,true,true,true,false,false,false,false] rfl rfl (any_of HT_.out (by kernel_rfl)) (fun _ _ _ h => h) (Or.inr ⟨by rfl,rfl⟩) ?_ ?_
             rotate_left
             ·simp only [Act.put,List.setIfInBounds_toArray,List.set_cons_zero,List.set_cons_succ,i64_w,i32_w]
              rfl
             refine pure_ (i:=11) (N:=some 43) (v:=undef) (a':=?_) #[true,true,true,true,true,true,true,true,true,true,true,true,false,false,false] rfl rfl (any_of HT_.out (by kernel_rfl)) (fun _ _ _ h => h) (Or.inr ⟨by rfl,rfl⟩) ?_ ?_
             rotate_left
             ·simp only [Act.put,List.setIfInBounds_toArray,List.set_cons_zero,List.set_cons_succ,i64_w,i32_w]
              rfl
             refine pure_ (i:=12) (N:=some 44) (v:=undef) (a':=?_) #[true,true,true,true,true,true,true,true,true,true,true,true,true,false,false] rfl rfl (any_of HT_.out (by kernel_rfl)) (fun _ _ _ h => h) (Or.inr ⟨by rfl,rfl⟩) ?_ ?_
             rotate_left
             ·simp only [Act.put,List.setIfInBounds_toArray,List.set_cons_zero,List.set_cons_succ,i64_w,i32_w]
              rfl
             refine pure_ (i:=13) (N:=some 45) (v:=undef) (a':=?_) #[true,true,true,true,true,true,true,true,true,true,true,true,true,true,false] rfl rfl (any_of HT_.out (by kernel_rfl)) (fun _ _ _ h => h) (Or.inr ⟨by rfl,rfl⟩) ?_ ?_
             rotate_left
             ·simp only [Act.put,List.setIfInBounds_toArray,List.set_cons_zero,List.set_cons_succ,i64_w,i32_w]
              rfl
             refine pure_ (i:=14) (N:=some 46) (v:=?_) (a':=?_) #[true,true,true,true,true,true,true,true,true,true,true,true,true,true,true] rfl rfl (any_of HT_.out (by kernel_rfl)) (fun _ _ _ h => h) (Or.inl ⟨by rfl,?_⟩) ?_ ?_
             rotate_left
             ·intro w'
              go_simp
              with_reducible rfl
             rotate_left
             ·simp only [Act.put,List.setIfInBounds_toArray,List.set_cons_zero,List.set_cons_succ,i64_w,i32_w]
              rfl
             refine done_ (done_of HT_.out (by kernel_rfl)) ?_
             try go_wp2
             go_meet
             case rel => exact ⟨_,(false),(by first | rfl | (simp;done) | (simp [*];done)),H',⟨by have:=HJ2.out;have:=HK2.out;have:=HK3.out;first | omega | exact Nat.le_refl _⟩,⟨by (with_reducible repeat (first | apply Kd.R_alloc | apply Kd.R_drewN | apply Kd.R_drew));exact HO_3.out⟩,⟨by (with_reducible repeat (first | refine blk_drewN ?_ _ | refine blk_drew ?_ | refine blk_alloc ?_ _));exact BK256.out⟩,⟨by (with_reducible repeat (first | refine blk_drewN ?_ _ | refine blk_drew ?_ | refine blk_alloc ?_ _));exact BK259.out⟩,⟨by repeat (first | (with_reducible first | exact HB.out | apply below_alloc | apply pw_below_drewN | apply below_drew1 | refine below_set ?_ GE256.out | refine below_set ?_ GE259.out) | exact HB.out)⟩⟩
           case rest =>
            clear HC19
            try clear c1
            try clear c2
            try clear p2
            try clear q2
            try clear hx2
            try clear c6
            try clear c7
            try clear c7b0
            try clear c7b1
            try clear c9
            try clear c13
            try clear c13b0
            try clear c14
            try clear c14b0
            try clear c15
            try clear c15b0
            try clear c17
            try clear c20
            try clear c20b0
            try clear c21
            try clear c22
            try clear c22b0
            try clear p25
            try clear q25
            try clear hx25
            try clear hcz18_0
            try clear hcz18_1
            try clear hcz18_2
            try clear hcz18_3
            try clear hcz6_0
            try clear hcz6_1
            try clear hcz6_2
            try clear hcz8_0
            try clear hcz8_1
            try clear hcz8_2
            try clear hfz18_0
            try clear hfz18_1
            try clear hfz18_2
            try clear hfz18_3
            try clear hfz6_0
            try clear hfz6_1
            try clear hfz6_2
            try clear hfz8_0
            try clear hfz8_1
            try clear hfz8_2
            try clear hx258_0
            try clear hx258_1
            try clear hx258_2
            try clear hx258_3
            try clear p2
            try clear p258
            try clear q2
            try clear q258
            obtain ⟨kq,x46_18,rfl,HA,HJ18,HO_3,BK256,BK259,HB⟩:=hcut
            cases kq with
            | zero => exact absurd HA.out (by simp [joustlaw01_ScanSpots.j3])
            | succ kj18 =>
             have H:=HA.out
             clear HA
             simp only [joustlaw01_ScanSpots.j3] at H
             by_cases c28 : x46_18 = true
             ·subst c28
              have H1 : (if 0 ≤ x5_3 then (if x5_3 < (a0.size : Int) then (if (bt a0 x5_3) = 35 then (joustlaw01_ScanSpots.j4 kj18 a0 t250 x5_3 true x25_2 (t250.length : Int) x25_2 ((rd_T48 t250 x25_2).f0) ((rd_T48 t250 x25_2).f1) ((rd_T48 t250 x25_2).f2.f0) ((rd_T48 t250 x25_2).f2.f1)) else (joustlaw01_ScanSpots.j4 kj18 a0 t250 x5_3 x6_3 x25_2 (t250.length : Int) x25_2 ((rd_T48 t250 x25_2).f0) ((rd_T48 t250 x25_2).f1) ((rd_T48 t250 x25_2).f2.f0) ((rd_T48 t250 x25_2).f2.f1))) else (none)) else (none)) = some true:=by rw [if_pos rfl] at H;exact H
              clear H
              have H:=H1
              clear H1
              by_cases c29 : 0 ≤ x5_3
              ·rw [if_pos c29] at H
               have c29b0 : decide (0 ≤ x5_3) = true:=decide_eq_true c29
               clear c29
               by_cases c30 : x5_3 < (a0.size : Int)
               ·rw [if_pos c30] at H
                have c30b0 : decide (x5_3 < (a0.size : Int)) = true:=decide_eq_true c30
                clear c30
                have HC32:=Aside0.mk H
                clear H
                have p31 : 0 ≤ (x5_3 : Int):=of_decide_eq_true (by first | (with_reducible assumption) | assumption)
                have q31 : x5_3 < (a0.size : Int):=of_decide_eq_true (by first | (with_reducible assumption) | assumption)
                have hx31:=bt_at a0 x5_3
                replace p31:=eq_true p31
                replace q31:=eq_true q31
                go_upto_if 50 with (fail)
                go_cut [6] (fun v6 wc => ∃ (kq : Nat) (x6_31 : Bool),v6 = .bool x6_31 ∧ Aside0 (joustlaw01_ScanSpots.j4 kq a0 t250 x5_3 x6_31 x25_2 (t250.length : Int) x25_2 ((rd_T48 t250 x25_2).f0) ((rd_T48 t250 x25_2).f1) ((rd_T48 t250 x25_2).f2.f0) ((rd_T48 t250 x25_2).f2.f1) = some true) ∧ Aside0 (kq ≤ kj18) ∧ Aside0 (Kd.R k48 48 wc w.heap.size (fun k_ => k_ ≠ gb259) (.slice (some ad258) t250.length co12) t250) ∧ Aside0 (wc.heap[gb256]? = some (.cells #[.int .i64 t253,.int .i64 t254,.int .i64 t255] 39 (0,0))) ∧ Aside0 (wc.heap[gb259]? = some (.cells #[.int .u8 ((rd_T48 t250 x25_2).f0),.string ((rd_T48 t250 x25_2).f1),.int .i64 ((rd_T48 t250 x25_2).f2.f0),.int .i64 ((rd_T48 t250 x25_2).f2.f1)] 48 (0,0))) ∧ Aside0 (Below w.heap.size w wc))
                case first =>
                 have H:=HC32.out
                 clear HC32
                 by_cases c33 : (bt a0 x5_3) = 35
                 ·rw [if_pos c33] at H
                  have c33b0 : ((bt a0 x5_3) == 35) = true:=beq_iff_eq.mpr c33
                  have c33b1 : ((bt a0 x5_3) != 35) = false:=bne_eq_false_iff_eq.mpr c33
                  clear c33
                  (first | rw [c33b0] | (simp only [i64_w,i32_w];rw [c33b0]) | skip)
                  have H':=Aside0.mk H
                  clear H
                  go_wp2
                  go_meet
                  case rel => exact ⟨_,(true),(by first | rfl | (simp;done) | (simp [*];done)),H',⟨by have:=HJ2.out;have:=HK2.out;have:=HK3.out;have:=HJ18.out;first | omega | exact Nat.le_refl _⟩,⟨by (with_reducible repeat (first | apply Kd.R_alloc | apply Kd.R_drewN | apply Kd.R_drew));exact HO_3.out⟩,⟨by (with_reducible repeat (first | refine blk_drewN ?_ _ | refine blk_drew ?_ | refine blk_alloc ?_ _));exact BK256.out⟩,⟨by (with_reducible repeat (first | refine blk_drewN ?_ _ | refine blk_drew ?_ | refine blk_alloc ?_ _));exact BK259.out⟩,⟨by repeat (first | (with_reducible first | exact HB.out | apply below_alloc | apply pw_below_drewN | apply below_drew1 | refine below_set ?_ GE256.out | refine below_set ?_ GE259.out) | exact HB.out)⟩⟩
                 ·rw [if_neg c33] at H
                  have c33b0 : ((bt a0 x5_3) == 35) = false:=beq_eq_false_iff_ne.mpr c33
                  have c33b1 : ((bt a0 x5_3) != 35) = true:=bne_iff_ne.mpr c33
                  (first | rw [c33b0] | (simp only [i64_w,i32_w];rw [c33b0]) | skip)
                  have H':=Aside0.mk H
                  clear H
                  go_wp2
                  go_meet
                  case rel => exact ⟨_,(x6_3),(by first | rfl | (simp;done) | (simp [*];done)),H',⟨by have:=HJ2.out;have:=HK2.out;have:=HK3.out;have:=HJ18.out;first | omega | exact Nat.le_refl _⟩,⟨by (with_reducible repeat (first | apply Kd.R_alloc | apply Kd.R_drewN | apply Kd.R_drew));exact HO_3.out⟩,⟨by (with_reducible repeat (first | refine blk_drewN ?_ _ | refine blk_drew ?_ | refine blk_alloc ?_ _));exact BK256.out⟩,⟨by (with_reducible repeat (first | refine blk_drewN ?_ _ | refine blk_drew ?_ | refine blk_alloc ?_ _));exact BK259.out⟩,⟨by repeat (first | (with_reducible first | exact HB.out | apply below_alloc | apply pw_below_drewN | apply below_drew1 | refine below_set ?_ GE256.out | refine below_set ?_ GE259.out) | exact HB.out)⟩⟩
                case rest =>
                 clear HC32
                 try clear c1
                 try clear c2
                 try clear p2
                 try clear q2
                 try clear hx2
                 try clear c3
                 try clear p3
                 try clear q3
                 try clear hx3
                 try clear c6
                 try clear c7
                 try clear c7b0
                 try clear c7b1
                 try clear c9
                 try clear c13
                 try clear c13b0
                 try clear c14
                 try clear c14b0
                 try clear c15
                 try clear c15b0
                 try clear c17
                 try clear c20
                 try clear c20b0
                 try clear c21
                 try clear c22
                 try clear c22b0
                 try clear p25
                 try clear q25
                 try clear hx25
                 try clear c28
                 try clear c29
                 try clear c29b0
                 try clear c30
                 try clear c30b0
                 try clear p31
                 try clear q31
                 try clear hx31
                 try clear c33
                 try clear c33b0
                 try clear c33b1
                 try clear hcz18_0
                 try clear hcz18_1
                 try clear hcz18_2
                 try clear hcz18_3
                 try clear hcz6_0
                 try clear hcz6_1
                 try clear hcz6_2
                 try clear hcz8_0
                 try clear hcz8_1
                 try clear hcz8_2
                 try clear hfz18_0
                 try clear hfz18_1
                 try clear hfz18_2
                 try clear hfz18_3
                 try clear hfz6_0
                 try clear hfz6_1
                 try clear hfz6_2
                 try clear hfz8_0
                 try clear hfz8_1
                 try clear hfz8_2
                 try clear hx258_0
                 try clear hx258_1
                 try clear hx258_2
                 try clear hx258_3
                 try clear p2
                 try clear p25
                 try clear p258
                 try clear p31
                 try clear q2
                 try clear q25
                 try clear q258
                 try clear q31
                 obtain ⟨kq,x6_31,rfl,HA,HJ31,HO_3,BK256,BK259,HB⟩:=hcut
                 cases kq with
                 | zero => exact absurd HA.out (by simp [joustlaw01_ScanSpots.j4])
                 | succ kj31 =>
                  have H:=HA.out
                  clear HA
                  simp only [joustlaw01_ScanSpots.j4] at H
                  by_cases c34 : 0 ≤ x5_3
                  ·rw [if_pos c34] at H
                   have c34b0 : decide (0 ≤ x5_3) = true:=decide_eq_true c34
                   clear c34
                   by_cases c35 : x5_3 < (a0.size : Int)
                   ·rw [if_pos c35] at H
                    have c35b0 : decide (x5_3 < (a0.size : Int)) = true:=decide_eq_true c35
                    clear c35
                    by_cases c37 : (bt a0 x5_3) = 10
                    ·rw [if_pos c37] at H
                     have c37b0 : ((bt a0 x5_3) == 10) = true:=beq_iff_eq.mpr c37
                     have c37b1 : ((bt a0 x5_3) != 10) = false:=bne_eq_false_iff_eq.mpr c37
                     clear c37
                     by_cases c39 : (bt a0 x5_3) = 32
                     ·rw [if_pos c39] at H
                      have c39b0 : ((bt a0 x5_3) == 32) = true:=beq_iff_eq.mpr c39
                      have c39b1 : ((bt a0 x5_3) != 32) = false:=bne_eq_false_iff_eq.mpr c39
                      clear c39
                      have H':=Aside0.mk H
                      clear H
                      have p36 : 0 ≤ (x5_3 : Int):=of_decide_eq_true (by first | (with_reducible assumption) | assumption)
                      have q36 : x5_3 < (a0.size : Int):=of_decide_eq_true (by first | (with_reducible assumption) | assumption)
                      have hx36:=bt_at a0 x5_3
                      replace p36:=eq_true p36
                      replace q36:=eq_true q36
                      have p38 : 0 ≤ (x5_3 : Int):=of_decide_eq_true (by first | (with_reducible assumption) | assumption)
                      have q38 : x5_3 < (a0.size : Int):=of_decide_eq_true (by first | (with_reducible assumption) | assumption)
                      have hx38:=bt_at a0 x5_3
                      replace p38:=eq_true p38
                      replace q38:=eq_true q38
                      go_wp2
                      go_roundg kj31
                      case measure => have:=HJ2.out;have:=HK2.out;have:=HK3.out;have:=HJ18.out;have:=HJ31.out;omega
                      case rel => exact ⟨(wrap64 (x5_3 + 1)),(false),(by first | rfl | (simp;done) | (simp [*];done)),(by first | rfl | (simp;done) | (simp [*];done)),H',⟨by have:=HJ2.out;have:=HK2.out;have:=HK3.out;have:=HJ18.out;have:=HJ31.out;omega⟩,⟨by (with_reducible repeat (first | apply Kd.R_alloc | apply Kd.R_drewN | apply Kd.R_drew));exact HO_3.out⟩,⟨by (with_reducible repeat (first | refine blk_drewN ?_ _ | refine blk_drew ?_ | refine blk_alloc ?_ _));exact BK256.out⟩,⟨by (with_reducible repeat (first | refine blk_drewN ?_ _ | refine blk_drew ?_ | refine blk_alloc ?_ _));exact BK259.out⟩,⟨by repeat (first | (with_reducible first | exact HB.out | apply below_alloc | apply pw_below_drewN | apply below_drew1 | refine below_set ?_ GE256.out | refine below_set ?_ GE259.out) | exact HB.out)⟩⟩
                     ·rw [if_neg c39] at H
                      have c39b0 : ((bt a0 x5_3) == 32) = false:=beq_eq_false_iff_ne.mpr c39
                      have c39b1 : ((bt a0 x5_3) != 32) = true:=bne_iff_ne.mpr c39
                      by_cases c41 : (bt a0 x5_3) = 9
                      ·rw [if_pos c41] at H
                       have c41b0 : ((bt a0 x5_3) == 9) = true:=beq_iff_eq.mpr c41
                       have c41b1 : ((bt a0 x5_3) != 9) = false:=bne_eq_false_iff_eq.mpr c41
                       clear c41
                       have H':=Aside0.mk H
                       clear H
                       have p36 : 0 ≤ (x5_3 : Int):=of_decide_eq_true (by first | (with_reducible assumption) | assumption)
                       have q36 : x5_3 < (a0.size : Int):=of_decide_eq_true (by first | (with_reducible assumption) | assumption)
                       have hx36:=bt_at a0 x5_3
                       replace p36:=eq_true p36
                       replace q36:=eq_true q36
                       have p38 : 0 ≤ (x5_3 : Int):=of_decide_eq_true (by first | (with_reducible assumption) | assumption)
                       have q38 : x5_3 < (a0.size : Int):=of_decide_eq_true (by first | (with_reducible assumption) | assumption)
                       have hx38:=bt_at a0 x5_3
                       replace p38:=eq_true p38
                       replace q38:=eq_true q38
                       have p40 : 0 ≤ (x5_3 : Int):=of_decide_eq_true (by first | (with_reducible assumption) | assumption)
                       have q40 : x5_3 < (a0.size : Int):=of_decide_eq_true (by first | (with_reducible assumption) | assumption)
                       have hx40:=bt_at a0 x5_3
                       replace p40:=eq_true p40
                       replace q40:=eq_true q40
                       go_wp2
                       go_roundg kj31
                       case measure => have:=HJ2.out;have:=HK2.out;have:=HK3.out;have:=HJ18.out;have:=HJ31.out;omega
                       case rel => exact ⟨(wrap64 (x5_3 + 1)),(false),(by first | rfl | (simp;done) | (simp [*];done)),(by first | rfl | (simp;done) | (simp [*];done)),H',⟨by have:=HJ2.out;have:=HK2.out;have:=HK3.out;have:=HJ18.out;have:=HJ31.out;omega⟩,⟨by (with_reducible repeat (first | apply Kd.R_alloc | apply Kd.R_drewN | apply Kd.R_drew));exact HO_3.out⟩,⟨by (with_reducible repeat (first | refine blk_drewN ?_ _ | refine blk_drew ?_ | refine blk_alloc ?_ _));exact BK256.out⟩,⟨by (with_reducible repeat (first | refine blk_drewN ?_ _ | refine blk_drew ?_ | refine blk_alloc ?_ _));exact BK259.out⟩,⟨by repeat (first | (with_reducible first | exact HB.out | apply below_alloc | apply pw_below_drewN | apply below_drew1 | refine below_set ?_ GE256.out | refine below_set ?_ GE259.out) | exact HB.out)⟩⟩
                      ·rw [if_neg c41] at H
                       have c41b0 : ((bt a0 x5_3) == 9) = false:=beq_eq_false_iff_ne.mpr c41
                       have c41b1 : ((bt a0 x5_3) != 9) = true:=bne_iff_ne.mpr c41
                       have H':=Aside0.mk H
                       clear H
                       have p36 : 0 ≤ (x5_3 : Int):=of_decide_eq_true (by first | (with_reducible assumption) | assumption)
                       have q36 : x5_3 < (a0.size : Int):=of_decide_eq_true (by first | (with_reducible assumption) | assumption)
                       have hx36:=bt_at a0 x5_3
                       replace p36:=eq_true p36
                       replace q36:=eq_true q36
                       have p38 : 0 ≤ (x5_3 : Int):=of_decide_eq_true (by first | (with_reducible assumption) | assumption)
                       have q38 : x5_3 < (a0.size : Int):=of_decide_eq_true (by first | (with_reducible assumption) | assumption)
                       have hx38:=bt_at a0 x5_3
                       replace p38:=eq_true p38
                       replace q38:=eq_true q38
                       have p40 : 0 ≤ (x5_3 : Int):=of_decide_eq_true (by first | (with_reducible assumption) | assumption)
                       have q40 : x5_3 < (a0.size : Int):=of_decide_eq_true (by first | (with_reducible assumption) | assumption)
                       have hx40:=bt_at a0 x5_3
                       replace p40:=eq_true p40
                       replace q40:=eq_true q40
                       have p42 : 0 ≤ (x5_3 : Int):=of_decide_eq_true (by first | (with_reducible assumption) | assumption)
                       have q42 : x5_3 < (a0.size : Int):=of_decide_eq_true (by first | (with_reducible assumption) | assumption)
                       have hx42:=bt_at a0 x5_3
                       replace p42:=eq_true p42
                       replace q42:=eq_true q42
                       go_wp2
                       go_roundg kj31
                       case measure => have:=HJ2.out;have:=HK2.out;have:=HK3.out;have:=HJ18.out;have:=HJ31.out;omega
                       case rel => exact ⟨(wrap64 (x5_3 + 1)),(false),(by first | rfl | (simp;done) | (simp [*];done)),(by first | rfl | (simp;done) | (simp [*];done)),H',⟨by have:=HJ2.out;have:=HK2.out;have:=HK3.out;have:=HJ18.out;have:=HJ31.out;omega⟩,⟨by (with_reducible repeat (first | apply Kd.R_alloc | apply Kd.R_drewN | apply Kd.R_drew));exact HO_3.out⟩,⟨by (with_reducible repeat (first | refine blk_drewN ?_ _ | refine blk_drew ?_ | refine blk_alloc ?_ _));exact BK256.out⟩,⟨by (with_reducible repeat (first | refine blk_drewN ?_ _ | refine blk_drew ?_ | refine blk_alloc ?_ _));exact BK259.out⟩,⟨by repeat (first | (with_reducible first | exact HB.out | apply below_alloc | apply pw_below_drewN | apply below_drew1 | refine below_set ?_ GE256.out | refine below_set ?_ GE259.out) | exact HB.out)⟩⟩
                    ·rw [if_neg c37] at H
                     have c37b0 : ((bt a0 x5_3) == 10) = false:=beq_eq_false_iff_ne.mpr c37
                     have c37b1 : ((bt a0 x5_3) != 10) = true:=bne_iff_ne.mpr c37
                     by_cases c43 : x6_31 = true
                     ·subst c43
                      have H1 : (joustlaw01_ScanSpots.l1 kj31 a0 t250 (wrap64 (x5_3 + 1)) true x25_2 (t250.length : Int) x25_2 ((rd_T48 t250 x25_2).f0) ((rd_T48 t250 x25_2).f1) ((rd_T48 t250 x25_2).f2.f0) ((rd_T48 t250 x25_2).f2.f1)) = some true:=by rw [if_pos rfl] at H;exact H
                      clear H
                      have H:=H1
                      clear H1
                      have H':=Aside0.mk H
                      clear H
                      have p36 : 0 ≤ (x5_3 : Int):=of_decide_eq_true (by first | (with_reducible assumption) | assumption)
                      have q36 : x5_3 < (a0.size : Int):=of_decide_eq_true (by first | (with_reducible assumption) | assumption)
                      have hx36:=bt_at a0 x5_3
                      replace p36:=eq_true p36
                      replace q36:=eq_true q36
                      go_wp2
                      go_roundg kj31
                      case measure => have:=HJ2.out;have:=HK2.out;have:=HK3.out;have:=HJ18.out;have:=HJ31.out;omega
                      case rel => exact ⟨(wrap64 (x5_3 + 1)),(true),(by first | rfl | (simp;done) | (simp [*];done)),(by first | rfl | (simp;done) | (simp [*];done)),H',⟨by have:=HJ2.out;have:=HK2.out;have:=HK3.out;have:=HJ18.out;have:=HJ31.out;omega⟩,⟨by (with_reducible repeat (first | apply Kd.R_alloc | apply Kd.R_drewN | apply Kd.R_drew));exact HO_3.out⟩,⟨by (with_reducible repeat (first | refine blk_drewN ?_ _ | refine blk_drew ?_ | refine blk_alloc ?_ _));exact BK256.out⟩,⟨by (with_reducible repeat (first | refine blk_drewN ?_ _ | refine blk_drew ?_ | refine blk_alloc ?_ _));exact BK259.out⟩,⟨by repeat (first | (with_reducible first | exact HB.out | apply below_alloc | apply pw_below_drewN | apply below_drew1 | refine below_set ?_ GE256.out | refine below_set ?_ GE259.out) | exact HB.out)⟩⟩
                     ·replace c43:=Bool.eq_false_iff.mpr c43
                      subst c43
                      have H1 : (if (bt a0 x5_3) = 32 then (joustlaw01_ScanSpots.l1 kj31 a0 t250 (wrap64 (x5_3 + 1)) false x25_2 (t250.length : Int) x25_2 ((rd_T48 t250 x25_2).f0) ((rd_T48 t250 x25_2).f1) ((rd_T48 t250 x25_2).f2.f0) ((rd_T48 t250 x25_2).f2.f1)) else (if (bt a0 x5_3) = 9 then (joustlaw01_ScanSpots.l1 kj31 a0 t250 (wrap64 (x5_3 + 1)) false x25_2 (t250.length : Int) x25_2 ((rd_T48 t250 x25_2).f0) ((rd_T48 t250 x25_2).f1) ((rd_T48 t250 x25_2).f2.f0) ((rd_T48 t250 x25_2).f2.f1)) else (if (bt a0 x5_3) = 13 then (joustlaw01_ScanSpots.l1 kj31 a0 t250 (wrap64 (x5_3 + 1)) false x25_2 (t250.length : Int) x25_2 ((rd_T48 t250 x25_2).f0) ((rd_T48 t250 x25_2).f1) ((rd_T48 t250 x25_2).f2.f0) ((rd_T48 t250 x25_2).f2.f1)) else (some false)))) = some true:=by rw [if_neg (show ¬ (false = true) by decide)] at H;exact H
                      clear H
                      have H:=H1
                      clear H1
                      by_cases c45 : (bt a0 x5_3) = 32
                      ·rw [if_pos c45] at H
                       have c45b0 : ((bt a0 x5_3) == 32) = true:=beq_iff_eq.mpr c45
                       have c45b1 : ((bt a0 x5_3) != 32) = false:=bne_eq_false_iff_eq.mpr c45
                       clear c45
                       have H':=Aside0.mk H
                       clear H
                       have p36 : 0 ≤ (x5_3 : Int):=of_decide_eq_true (by first | (with_reducible assumption) | assumption)
                       have q36 : x5_3 < (a0.size : Int):=of_decide_eq_true (by first | (with_reducible assumption) | assumption)
                       have hx36:=bt_at a0 x5_3
                       replace p36:=eq_true p36
                       replace q36:=eq_true q36
                       have p44 : 0 ≤ (x5_3 : Int):=of_decide_eq_true (by first | (with_reducible assumption) | assumption)
                       have q44 : x5_3 < (a0.size : Int):=of_decide_eq_true (by first | (with_reducible assumption) | assumption)
                       have hx44:=bt_at a0 x5_3
                       replace p44:=eq_true p44
                       replace q44:=eq_true q44
                       go_wp2
                       go_roundg kj31
                       case measure => have:=HJ2.out;have:=HK2.out;have:=HK3.out;have:=HJ18.out;have:=HJ31.out;omega
                       case rel => exact ⟨(wrap64 (x5_3 + 1)),(false),(by first | rfl | (simp;done) | (simp [*];done)),(by first | rfl | (simp;done) | (simp [*];done)),H',⟨by have:=HJ2.out;have:=HK2.out;have:=HK3.out;have:=HJ18.out;have:=HJ31.out;omega⟩,⟨by (with_reducible repeat (first | apply Kd.R_alloc | apply Kd.R_drewN | apply Kd.R_drew));exact HO_3.out⟩,⟨by (with_reducible repeat (first | refine blk_drewN ?_ _ | refine blk_drew ?_ | refine blk_alloc ?_ _));exact BK256.out⟩,⟨by (with_reducible repeat (first | refine blk_drewN ?_ _ | refine blk_drew ?_ | refine blk_alloc ?_ _));exact BK259.out⟩,⟨by repeat (first | (with_reducible first | exact HB.out | apply below_alloc | apply pw_below_drewN | apply below_drew1 | refine below_set ?_ GE256.out | refine below_set ?_ GE259.out) | exact HB.out)⟩⟩
                      ·rw [if_neg c45] at H
                       have c45b0 : ((bt a0 x5_3) == 32) = false:=beq_eq_false_iff_ne.mpr c45
                       have c45b1 : ((bt a0 x5_3) != 32) = true:=bne_iff_ne.mpr c45
                       by_cases c47 : (bt a0 x5_3) = 9
                       ·rw [if_pos c47] at H
                        have c47b0 : ((bt a0 x5_3) == 9) = true:=beq_iff_eq.mpr c47
                        have c47b1 : ((bt a0 x5_3) != 9) = false:=bne_eq_false_iff_eq.mpr c47
                        clear c47
                        have H':=Aside0.mk H
                        clear H
                        have p36 : 0 ≤ (x5_3 : Int):=of_decide_eq_true (by first | (with_reducible assumption) | assumption)
                        have q36 : x5_3 < (a0.size : Int):=of_decide_eq_true (by first | (with_reducible assumption) | assumption)
                        have hx36:=bt_at a0 x5_3
                        replace p36:=eq_true p36
                        replace q36:=eq_true q36
                        have p44 : 0 ≤ (x5_3 : Int):=of_decide_eq_true (by first | (with_reducible assumption) | assumption)
                        have q44 : x5_3 < (a0.size : Int):=of_decide_eq_true (by first | (with_reducible assumption) | assumption)
                        have hx44:=bt_at a0 x5_3
                        replace p44:=eq_true p44
                        replace q44:=eq_true q44
                        have p46 : 0 ≤ (x5_3 : Int):=of_decide_eq_true (by first | (with_reducible assumption) | assumption)
                        have q46 : x5_3 < (a0.size : Int):=of_decide_eq_true (by first | (with_reducible assumption) | assumption)
                        have hx46:=bt_at a0 x5_3
                        replace p46:=eq_true p46
                        replace q46:=eq_true q46
                        go_wp2
                        go_roundg kj31
                        case measure => have:=HJ2.out;have:=HK2.out;have:=HK3.out;have:=HJ18.out;have:=HJ31.out;omega
                        case rel => exact ⟨(wrap64 (x5_3 + 1)),(false),(by first | rfl | (simp;done) | (simp [*];done)),(by first | rfl | (simp;done) | (simp [*];done)),H',⟨by have:=HJ2.out;have:=HK2.out;have:=HK3.out;have:=HJ18.out;have:=HJ31.out;omega⟩,⟨by (with_reducible repeat (first | apply Kd.R_alloc | apply Kd.R_drewN | apply Kd.R_drew));exact HO_3.out⟩,⟨by (with_reducible repeat (first | refine blk_drewN ?_ _ | refine blk_drew ?_ | refine blk_alloc ?_ _));exact BK256.out⟩,⟨by (with_reducible repeat (first | refine blk_drewN ?_ _ | refine blk_drew ?_ | refine blk_alloc ?_ _));exact BK259.out⟩,⟨by repeat (first | (with_reducible first | exact HB.out | apply below_alloc | apply pw_below_drewN | apply below_drew1 | refine below_set ?_ GE256.out | refine below_set ?_ GE259.out) | exact HB.out)⟩⟩
                       ·rw [if_neg c47] at H
                        have c47b0 : ((bt a0 x5_3) == 9) = false:=beq_eq_false_iff_ne.mpr c47
                        have c47b1 : ((bt a0 x5_3) != 9) = true:=bne_iff_ne.mpr c47
                        by_cases c50 : (bt a0 x5_3) = 13
                        ·rw [if_pos c50] at H
                         have c50b0 : ((bt a0 x5_3) == 13) = true:=beq_iff_eq.mpr c50
                         have c50b1 : ((bt a0 x5_3) != 13) = false:=bne_eq_false_iff_eq.mpr c50
                         clear c50
                         have H':=Aside0.mk H
                         clear H
                         have p36 : 0 ≤ (x5_3 : Int):=of_decide_eq_true (by first | (with_reducible assumption) | assumption)
                         have q36 : x5_3 < (a0.size : Int):=of_decide_eq_true (by first | (with_reducible assumption) | assumption)
                         have hx36:=bt_at a0 x5_3
                         replace p36:=eq_true p36
                         replace q36:=eq_true q36
                         have p44 : 0 ≤ (x5_3 : Int):=of_decide_eq_true (by first | (with_reducible assumption) | assumption)
                         have q44 : x5_3 < (a0.size : Int):=of_decide_eq_true (by first | (with_reducible assumption) | assumption)
                         have hx44:=bt_at a0 x5_3
                         replace p44:=eq_true p44
                         replace q44:=eq_true q44
                         have p46 : 0 ≤ (x5_3 : Int):=of_decide_eq_true (by first | (with_reducible assumption) | assumption)
                         have q46 : x5_3 < (a0.size : Int):=of_decide_eq_true (by first | (with_reducible assumption) | assumption)
                         have hx46:=bt_at a0 x5_3
                         replace p46:=eq_true p46
                         replace q46:=eq_true q46
                         have p48 : 0 ≤ (x5_3 : Int):=of_decide_eq_true (by first | (with_reducible assumption) | assumption)
                         have q48 : x5_3 < (a0.size : Int):=of_decide_eq_true (by first | (with_reducible assumption) | assumption)
                         have hx48:=bt_at a0 x5_3
                         replace p48:=eq_true p48
                         replace q48:=eq_true q48
                         have p49 : 0 ≤ (x5_3 : Int):=of_decide_eq_true (by first | (with_reducible assumption) | assumption)
                         have q49 : x5_3 < (a0.size : Int):=of_decide_eq_true (by first | (with_reducible assumption) | assumption)
                         have hx49:=bt_at a0 x5_3
                         replace p49:=eq_true p49
                         replace q49:=eq_true q49
                         go_wp2
                         go_roundg kj31
                         case measure => have:=HJ2.out;have:=HK2.out;have:=HK3.out;have:=HJ18.out;have:=HJ31.out;omega
                         case rel => exact ⟨(wrap64 (x5_3 + 1)),(false),(by first | rfl | (simp;done) | (simp [*];done)),(by first | rfl | (simp;done) | (simp [*];done)),H',⟨by have:=HJ2.out;have:=HK2.out;have:=HK3.out;have:=HJ18.out;have:=HJ31.out;omega⟩,⟨by (with_reducible repeat (first | apply Kd.R_alloc | apply Kd.R_drewN | apply Kd.R_drew));exact HO_3.out⟩,⟨by (with_reducible repeat (first | refine blk_drewN ?_ _ | refine blk_drew ?_ | refine blk_alloc ?_ _));exact BK256.out⟩,⟨by (with_reducible repeat (first | refine blk_drewN ?_ _ | refine blk_drew ?_ | refine blk_alloc ?_ _));exact BK259.out⟩,⟨by repeat (first | (with_reducible first | exact HB.out | apply below_alloc | apply pw_below_drewN | apply below_drew1 | refine below_set ?_ GE256.out | refine below_set ?_ GE259.out) | exact HB.out)⟩⟩
                        ·rw [if_neg c50] at H
                         have c50b0 : ((bt a0 x5_3) == 13) = false:=beq_eq_false_iff_ne.mpr c50
                         have c50b1 : ((bt a0 x5_3) != 13) = true:=bne_iff_ne.mpr c50
                         exact absurd H (by simp)
                   ·rw [if_neg c35] at H
                    exact absurd H (by simp)
                  ·rw [if_neg c34] at H
                   exact absurd H (by simp)
               ·rw [if_neg c30] at H
                exact absurd H (by simp)
              ·rw [if_neg c29] at H
               exact absurd H (by simp)
             ·replace c28:=Bool.eq_false_iff.mpr c28
              subst c28
              have H1 : (if ((rd_T48 t250 x25_2).f0) = 0 then (if x5_3 = (a0.size : Int) then (if x25_2 = (wrap64 ((t250.length : Int) - 1)) then (if ((rd_T48 t250 x25_2).f1).toList = ([] : List UInt8) then ((scan_Where.f kj18 a0 x5_3).bind fun bt262 => (if (bt262.1 == ((rd_T48 t250 x25_2).f2.f0) && (bt262.2 == ((rd_T48 t250 x25_2).f2.f1))) = true then ((joustlaw01_lives.f kj18).bind fun t264 => (some t264)) else (some false))) else (some false)) else (some false)) else (some false)) else (if ((rd_T48 t250 x25_2).f1).toList = ([] : List UInt8) then (some false) else (if (wrap64 (x5_3 + (((rd_T48 t250 x25_2).f1).size : Int))) > (a0.size : Int) then (some false) else (if 0 ≤ x5_3 then (if x5_3 ≤ (wrap64 (x5_3 + (((rd_T48 t250 x25_2).f1).size : Int))) then (if (wrap64 (x5_3 + (((rd_T48 t250 x25_2).f1).size : Int))) ≤ (a0.size : Int) then (if (a0.extract (x5_3 : Int).toNat ((wrap64 (x5_3 + (((rd_T48 t250 x25_2).f1).size : Int))) : Int).toNat).toList = ((rd_T48 t250 x25_2).f1).toList then ((scan_Word.f kj18 ((rd_T48 t250 x25_2).f1)).bind fun t265 => (if ((((rd_T48 t250 x25_2).f0) == 1) != t265) = true then (some false) else (joustlaw01_ScanSpots.l0 kj18 a0 t250 (wrap64 (x5_3 + (((rd_T48 t250 x25_2).f1).size : Int))) x6_3 (t250.length : Int) (wrap64 (x25_2 + 1))))) else (some false)) else (none)) else (none)) else (none))))) = some true:=by rw [if_neg (show ¬ (false = true) by decide)] at H;exact H
              clear H
              have H:=H1
              clear H1
              by_cases c51 : ((rd_T48 t250 x25_2).f0) = 0
              ·rw [if_pos c51] at H
               have c51b0 : (((rd_T48 t250 x25_2).f0) == 0) = true:=beq_iff_eq.mpr c51
               have c51b1 : (((rd_T48 t250 x25_2).f0) != 0) = false:=bne_eq_false_iff_eq.mpr c51
               clear c51
               by_cases c52 : x5_3 = (a0.size : Int)
               ·rw [if_pos c52] at H
                have c52b0 : (x5_3 == (a0.size : Int)) = true:=beq_iff_eq.mpr c52
                have c52b1 : (x5_3 != (a0.size : Int)) = false:=bne_eq_false_iff_eq.mpr c52
                clear c52
                by_cases c53 : x25_2 = (wrap64 ((t250.length : Int) - 1))
                ·rw [if_pos c53] at H
                 have c53b0 : (x25_2 == (wrap64 ((t250.length : Int) - 1))) = true:=beq_iff_eq.mpr c53
                 have c53b1 : (x25_2 != (wrap64 ((t250.length : Int) - 1))) = false:=bne_eq_false_iff_eq.mpr c53
                 clear c53
                 by_cases c54 : ((rd_T48 t250 x25_2).f1).toList = ([] : List UInt8)
                 ·rw [if_pos c54] at H
                  have c54b0 : (((rd_T48 t250 x25_2).f1).toList == ([] : List UInt8)) = true:=beq_iff_eq.mpr c54
                  have c54b1 : (((rd_T48 t250 x25_2).f1).toList != ([] : List UInt8)) = false:=bne_eq_false_iff_eq.mpr c54
                  clear c54
                  replace H:=Option.bind_eq_some_iff.mp H
                  obtain ⟨⟨t262,t263⟩,A550,H⟩:=H
                  replace H : (if (t262 == ((rd_T48 t250 x25_2).f2.f0) && (t263 == ((rd_T48 t250 x25_2).f2.f1))) = true then ((joustlaw01_lives.f kj18).bind fun t264 => (some t264)) else (some false)) = some true:=H
                  have A55:=Aside0.mk A550
                  clear A550
                  by_cases c56 : (t262 == ((rd_T48 t250 x25_2).f2.f0) && (t263 == ((rd_T48 t250 x25_2).f2.f1))) = true
                  ·rw [if_pos c56] at H
                   have c56b0 : (t262 == ((rd_T48 t250 x25_2).f2.f0) && (t263 == ((rd_T48 t250 x25_2).f2.f1))) = true:=c56
                   (try (have c56b1 : decide (t262 = ((rd_T48 t250 x25_2).f2.f0) && (t263 == ((rd_T48 t250 x25_2).f2.f1))) = true:=by simpa using c56))
                   (try (have c56b2 : (t262 == ((rd_T48 t250 x25_2).f2.f0) && (t263 == ((rd_T48 t250 x25_2).f2.f1))) = true:=by simpa using c56))
                   clear c56
                   replace H:=Option.bind_eq_some_iff.mp H
                   obtain ⟨t264,A570,H⟩:=H
                   replace H : (some t264) = some true:=H
                   have A57:=Aside0.mk A570
                   clear A570
                   have hT_:=Option.some.inj H
                   have hnb58:=NB259_256.out
                   have hnc58:=NB256_259.out
                   have hcz59_0 : wc.cell? ⟨gb259,0,none⟩ = some (.int .u8 ((rd_T48 t250 x25_2).f0)):=(blk_cell BK259.out 0).trans rfl
                   have hcz59_1 : wc.cell? ⟨gb259,1,none⟩ = some (.string ((rd_T48 t250 x25_2).f1)):=(blk_cell BK259.out 1).trans rfl
                   have hcz59_2 : wc.cell? ⟨gb259,2,none⟩ = some (.int .i64 ((rd_T48 t250 x25_2).f2.f0)):=(blk_cell BK259.out 2).trans rfl
                   have hcz59_3 : wc.cell? ⟨gb259,3,none⟩ = some (.int .i64 ((rd_T48 t250 x25_2).f2.f1)):=(blk_cell BK259.out 3).trans rfl
                   have hfz59_0:=blk_frozen BK259.out 0
                   have hfz59_1:=blk_frozen BK259.out 1
                   have hfz59_2:=blk_frozen BK259.out 2
                   have hfz59_3:=blk_frozen BK259.out 3
                   try go_wp2
                   have n0_:=Aside0.mk (Kd.R_drew HO_3.out)
                   have n1_:=Aside0.mk (blk_drew BK256.out)
                   have n2_:=Aside0.mk (blk_drew BK259.out)
                   have n3_:=Aside0.mk (below_drew1 HB.out)
                   clear HO_3
                   clear BK256
                   clear BK259
                   clear HB
                   have HO_3:=n0_
                   have BK256:=n1_
                   have BK259:=n2_
                   have HB:=n3_
                   clear n0_ n1_ n2_ n3_
                   refine start_ (n:=28) (S:=fun w' => w'.cell? ⟨gb259,0,none⟩ = some (.int .u8 ((rd_T48 t250 x25_2).f0)) ∧ w'.cell? ⟨gb259,1,none⟩ = some (.string ((rd_T48 t250 x25_2).f1)) ∧ w'.cell? ⟨gb259,2,none⟩ = some (.int .i64 ((rd_T48 t250 x25_2).f2.f0)) ∧ w'.cell? ⟨gb259,3,none⟩ = some (.int .i64 ((rd_T48 t250 x25_2).f2.f1))) (ds:=[]) #[false,false,false,false,false,false,false,false,false,false,false,false,false,false,false,false,false,false,false,false,false,false,false,false,false,false,false,false] (by kernel_rfl) rfl rfl ⟨(blk_cell BK259.out 0).trans rfl,(blk_cell BK259.out 1).trans rfl,(blk_cell BK259.out 2).trans rfl,(blk_cell BK259.out 3).trans rfl⟩ (fun hHeld => ?_);refine with_tabW joustlaw01_ScanSpots.tab18 joustlaw01_ScanSpots.bits18 (fun HT_ HW_ => ?_)
                   generalize wc.drew = w60 at HO_3 BK256 BK259 HB hHeld ⊢
                   refine pure_ (i:=0) (N:=some 86) (v:=?_) (a':=?_) #[true,false,false,false,false,false,false,false,false,false,false,false,false,false,false,false,false,false,false,false,false,false,false,false,false,false,false,false] rfl rfl (any_of HT_.out (by kernel_rfl)) (fun _ _ _ h => h) (Or.inl ⟨by rfl,?_⟩) ?_ ?_
                   rotate_left
                   ·intro w'
                    go_simp
                    with_reducible rfl
                   rotate_left
                   ·simp only [Act.put,List.setIfInBounds_toArray,List.set_cons_zero,List.set_cons_succ,i64_w,i32_w]
                    rfl
                   refine pure_ (i:=1) (N:=some 87) (v:=?_) (a':=?_) #[true,true,false,false,false,false,false,false,false,false,false,false,false,false,false,false,false,false,false,false,false,false,false,false,false,false,false,false] rfl rfl (any_of HT_.out (by kernel_rfl)) (fun _ _ _ h => h) (Or.inl ⟨by rfl,?_⟩) ?_ ?_
                   rotate_left
                   ·intro w'
                    go_simp
                    with_reducible rfl
                   rotate_left
                   ·simp only [Act.put,List.setIfInBounds_toArray,List.set_cons_zero,List.set_cons_succ,i64_w,i32_w]
                    rfl
                   refine pure_ (i:=2) (N:=some 88) (v:=?_) (a':=?_) #[true,true,true,false,false,false,false,false,false,false,false,false,false,false,false,false,false,false,false,false,false,false,false,false,false,false,false,false] rfl rfl (any_of HT_.out (by kernel_rfl)) (fun _ _ _ h => h) (Or.inl ⟨by rfl,?_⟩) ?_ ?_
                   rotate_left
                   ·intro w'
                    go_simp
                    with_reducible rfl
                   rotate_left
                   ·simp only [Act.put,List.setIfInBounds_toArray,List.set_cons_zero,List.set_cons_succ,i64_w,i32_w]
                    rfl
                   refine pure_ (i:=3) (N:=some 89) (v:=?_) (a':=?_) #[true,true,true,true,false,false,false,false,false,false,false,false,false,false,false,false,false,false,false,false,false,false,false,false,false,false,false,false] rfl rfl (any_of HT_.out (by kernel_rfl)) (fun _ _ _ h => h) (Or.inl ⟨by rfl,?_⟩) ?_ ?_
                   rotate_left
                   ·intro w'
                    go_simp
                    with_reducible rfl
                   rotate_left
                   ·simp only [Act.put,List.setIfInBounds_toArray,List.set_cons_zero,List.set_cons_succ,i64_w,i32_w]
                    rfl
                   refine pure_ (i:=4) (N:=some 90) (v:=?_) (a':=?_) #[true,true,true,true,true,false,false,false,false,false,false,false,false,false,false,false,false,false,false,false,false,false,false,false,false,false,false,false] rfl rfl (any_of HT_.out (by kernel_rfl)) (fun _ _ _ h => h) (Or.inl ⟨by rfl,?_⟩) ?_ ?_
                   rotate_left
                   ·intro w'
                    go_simp
                    with_reducible rfl
                   rotate_left
                   ·simp only [Act.put,List.setIfInBounds_toArray,List.set_cons_zero,List.set_cons_succ,i64_w,i32_w]
                    rfl
                   refine pure_ (i:=5) (N:=some 91) (v:=?_) (a':=?_) #[true,true,true,true,true,true,false,false,false,false,false,false,false,false,false,false,false,false,false,false,false,false,false,false,false,false,false,false] rfl rfl (any_of HT_.out (by kernel_rfl)) (fun _ _ _ h => h) (Or.inl ⟨by rfl,?_⟩) ?_ ?_
                   rotate_left
                   ·intro w'
                    go_simp
                    with_reducible rfl
                   rotate_left
                   ·simp only [Act.put,List.setIfInBounds_toArray,List.set_cons_zero,List.set_cons_succ,i64_w,i32_w]
                    rfl
                   refine pure_ (i:=6) (N:=some 92) (v:=?_) (a':=?_) #[true,true,true,true,true,true,true,false,false,false,false,false,false,false,false,false,false,false,false,false,false,false,false,false,false,false,false,false] rfl rfl (any_of HT_.out (by kernel_rfl)) (fun _ _ _ h => h) (Or.inl ⟨by rfl,?_⟩) ?_ ?_
                   rotate_left
                   ·intro w'
                    go_simp
                    with_reducible rfl
                   rotate_left
                   ·simp only [Act.put,List.setIfInBounds_toArray,List.set_cons_zero,List.set_cons_succ,i64_w,i32_w]
                    rfl
                   refine pure_ (i:=7) (N:=some 93) (v:=?_) (a':=?_) #[true,true,true,true,true,true,true,true,false,false,false,false,false,false,false,false,false,false,false,false,false,false,false,false,false,false,false,false] rfl rfl (any_of HT_.out (by kernel_rfl)) (fun _ _ _ h => h) (Or.inl ⟨by rfl,?_⟩) ?_ ?_
                   rotate_left
                   ·intro w'
                    go_simp
                    with_reducible rfl
                   rotate_left
                   ·simp only [Act.put,List.setIfInBounds_toArray,List.set_cons_zero,List.set_cons_succ,i64_w,i32_w]
                    rfl
                   refine pure_ (i:=8) (N:=some 94) (v:=?_) (a':=?_) #[true,true,true,true,true,true,true,true,true,false,false,false,false,false,false,false,false,false,false,false,false,false,false,false,false,false,false,false] rfl rfl (any_of HT_.out (by kernel_rfl)) (fun _ _ _ h => h) (Or.inl ⟨by rfl,?_⟩) ?_ ?_
                   rotate_left
                   ·intro w'
                    go_simp
                    with_reducible rfl
                   rotate_left
                   ·simp only [Act.put,List.setIfInBounds_toArray,List.set_cons_zero,List.set_cons_succ,i64_w,i32_w]
                    rfl
                   refine pure_ (i:=9) (N:=some 95) (v:=?_) (a':=?_) #[true,true,true,true,true,true,true,true,true,true,false,false,false,false,false,false,false,false,false,false,false,false,false,false,false,false,false,false] rfl rfl (any_of HT_.out (by kernel_rfl)) (fun _ _ _ h => h) (Or.inl ⟨by rfl,?_⟩) ?_ ?_
                   rotate_left
                   ·intro w'
                    go_simp
                    with_reducible rfl
                   rotate_left
                   ·simp only [Act.put,List.setIfInBounds_toArray,List.set_cons_zero,List.set_cons_succ,i64_w,i32_w]
                    rfl
                   refine pure_ (i:=10) (N:=some 96) (v:=?_) (a':=?_) #[true,true,true,true,true,true,true,true,true,true,true,false,false,false,false,false,false,false,false,false,false,false,false,false,false,false,false,false] rfl rfl (any_of HT_.out (by kernel_rfl)) (fun _ _ _ h => h) (Or.inl ⟨by rfl,?_⟩) ?_ ?_
                   rotate_left
                   ·intro w'
                    go_simp
                    with_reducible rfl
                   rotate_left
                   ·simp only [Act.put,List.setIfInBounds_toArray,List.set_cons_zero,List.set_cons_succ,i64_w,i32_w]
                    rfl
                   refine pure_ (i:=11) (N:=some 97) (v:=?_) (a':=?_) #[true,true,true,true,true,true,true,true,true,true,true,true,false,false,false,false,false,false,false,false,false,false,false,false,false,false,false,false] rfl rfl (any_of HT_.out (by kernel_rfl)) (fun _ _ _ h => h) (Or.inl ⟨by rfl,?_⟩) ?_ ?_
                   rotate_left
                   ·intro w'
                    go_simp
                    with_reducible rfl
                   rotate_left
                   ·simp only [Act.put,List.setIfInBounds_toArray,List.set_cons_zero,List.set_cons_succ,i64_w,i32_w]
                    rfl
                   refine pure_ (i:=12) (N:=some 98) (v:=?_) (a':=?_) #[true,true,true,true,true,true,true,true,true,true,true,true,true,false,false,false,false,false,false,false,false,false,false,false,false,false,false,false] rfl rfl (any_of HT_.out (by kernel_rfl)) (fun _ _ _ h => h) (Or.inl ⟨by rfl,?_⟩) ?_ ?_
                   rotate_left
                   ·intro w'
                    go_simp
                    with_reducible rfl
                   rotate_left
                   ·simp only [Act.put,List.setIfInBounds_toArray,List.set_cons_zero,List.set_cons_succ,i64_w,i32_w]
                    rfl
                   refine take_ (i:=13) (N:=some 99) (v:=?_) (a':=?_) #[true,true,true,true,true,true,true,true,true,true,true,true,true,true,false,false,false,false,false,false,false,false,false,false,false,false,false,false] rfl rfl (take_ofW HT_.out HW_.out (by kernel_rfl)) (fun _ _ _ h => h) (Or.inl ⟨by rfl,?_⟩) hHeld ?_ ?_
                   rotate_left
                   ·rintro w' ⟨s0,s1,s2,s3⟩
                    go_simp
                    with_reducible rfl
                   rotate_left
                   ·simp only [Act.put,List.setIfInBounds_toArray,List.set_cons_zero,List.set_cons_succ,i64_w,i32_w]
                    rfl
                   refine pure_ (i:=14) (N:=some 100) (v:=?_) (a':=?_) #[true,true,true,true,true,true,true,true,true,true,true,true,true,true,true,false,false,false,false,false,false,false,false,false,false,false,false,false] rfl rfl (any_of HT_.out (by kernel_rfl)) (fun _ _ _ h => h) (Or.inl ⟨by rfl,?_⟩) ?_ ?_
                   rotate_left
                   ·intro w'
                    go_simp
                    with_reducible rfl
                   rotate_left
                   ·simp only [Act.put,List.setIfInBounds_toArray,List.set_cons_zero,List.set_cons_succ,i64_w,i32_w]
                    rfl
                   refine pure_ (i:=15) (N:=some 101) (v:=?_) (a':=?_) #[true,true,true,true,true,true,true,true,true,true,true,true,true,true,true,true,false,false,false,false,false,false,false,false,false,false,false,false] rfl rfl (any_of HT_.out (by kernel_rfl)) (fun _ _ _ h => h) (Or.inl ⟨by rfl,?_⟩) ?_ ?_
                   rotate_left
                   ·intro w'
                    go_simp
                    with_reducible rfl
                   rotate_left
                   ·simp only [Act.put,List.setIfInBounds_toArray,List.set_cons_zero,List.set_cons_succ,i64_w,i32_w]
                    rfl
                   refine pure_ (i:=16) (N:=some 102) (v:=?_) (a':=?_) #[true,true,true,true,true,true,true,true,true,true,true,true,true,true,true,true,true,false,false,false,false,false,false,false,false,false,false,false] rfl rfl (any_of HT_.out (by kernel_rfl)) (fun _ _ _ h => h) (Or.inl ⟨by rfl,?_⟩) ?_ ?_
                   rotate_left
                   ·intro w'
                    go_simp
                    with_reducible rfl
                   rotate_left
                   ·simp only [Act.put,List.setIfInBounds_toArray,List.set_cons_zero,List.set_cons_succ,i64_w,i32_w]
                    rfl
                   refine pure_ (i:=17) (N:=some 103) (v:=?_) (a':=?_) #[true,true,true,true,true,true,true,true,true,true,true,true,true,true,true,true,true,true,false,false,false,false,false,false,false,false,false,false] rfl rfl (any_of HT_.out (by kernel_rfl)) (fun _ _ _ h => h) (Or.inl ⟨by rfl,?_⟩) ?_ ?_
                   rotate_left
                   ·intro w'
                    go_simp
                    with_reducible rfl
                   rotate_left
                   ·simp only [Act.put,List.setIfInBounds_toArray,List.set_cons_zero,List.set_cons_succ,i64_w,i32_w]
                    rfl
                   refine pure_ (i:=18) (N:=some 104) (v:=?_) (a':=?_) #[true,true,true,true,true,true,true,true,true,true,true,true,true,true,true,true,true,true,true,false,false,false,false,false,false,false,false,false] rfl rfl (any_of HT_.out (by kernel_rfl)) (fun _ _ _ h => h) (Or.inl ⟨by rfl,?_⟩) ?_ ?_
                   rotate_left
                   ·intro w'
                    go_simp
                    with_reducible rfl
                   rotate_left
                   ·simp only [Act.put,List.setIfInBounds_toArray,List.set_cons_zero,List.set_cons_succ,i64_w,i32_w]
                    rfl
                   refine pure_ (i:=20) (N:=some 106) (v:=?_) (a':=?_) #[true,true,true,true,true,true,true,true,true,true,true,true,true,true,true,true,true,true,true,false,true,false,false,false,false,false,false,false] rfl rfl (any_of HT_.out (by kernel_rfl)) (fun _ _ _ h => h) (Or.inl ⟨by rfl,?_⟩) ?_ ?_
                   rotate_left
                   ·intro w'
                    go_simp
                    with_reducible rfl
                   rotate_left
                   ·simp only [Act.put,List.setIfInBounds_toArray,List.set_cons_zero,List.set_cons_succ,i64_w,i32_w]
                    rfl
                   refine take_ (i:=21) (N:=some 107) (v:=?_) (a':=?_) #[true,true,true,true,true,true,true,true,true,true,true,true,true,true,true,true,true,true,true,false,true,true,false,false,false,false,false,false] rfl rfl (take_ofW HT_.out HW_.out (by kernel_rfl)) (fun _ _ _ h => h) (Or.inl ⟨by rfl,?_⟩) hHeld ?_ ?_
                   rotate_left
                   ·rintro w' ⟨s0,s1,s2,s3⟩
                    go_simp
                    with_reducible rfl
                   rotate_left
                   ·simp only [Act.put,List.setIfInBounds_toArray,List.set_cons_zero,List.set_cons_succ,i64_w,i32_w]
                    rfl
                   refine one_ (i:=19) (N:=some 105) #[true,true,true,true,true,true,true,true,true,true,true,true,true,true,true,true,true,true,true,true,true,true,false,false,false,false,false,false] rfl rfl (one_of HT_.out (by kernel_rfl)) (by decide) (fun K hK => ?_)
                   refine goes_ Tryd.func21 (by kernel_rfl) rfl #[.string a0,.int .i64 x5_3] (by rfl) rfl rfl (by (try simp only [List.map_toArray,List.map_cons,List.map_nil]);first | done | rfl | (simp only [List.length_drop,List.length_take];rfl)) ?_
                   with_reducible refine (scan_Where.calls kj18 a0 x5_3 t262 t263 _ A55.out).mono ?_
                   rintro e w61 ⟨rfl,hb⟩
                   refine ⟨_,rfl,?_⟩
                   have n0_:=Aside0.mk (Kd.R_below (by (with_reducible repeat (first | apply Kd.R_alloc | apply Kd.R_drewN | apply Kd.R_drew));exact HO_3.out) hb)
                   have n1_:=Aside0.mk (blk_below (g:=gb256) (o:=.cells #[.int .i64 t253,.int .i64 t254,.int .i64 t255] 39 (0,0)) (by (with_reducible repeat (first | refine blk_drewN ?_ _ | refine blk_drew ?_ | refine blk_alloc ?_ _));exact BK256.out) hb)
                   have n2_:=Aside0.mk (blk_below (g:=gb259) (o:=.cells #[.int .u8 ((rd_T48 t250 x25_2).f0),.string ((rd_T48 t250 x25_2).f1),.int .i64 ((rd_T48 t250 x25_2).f2.f0),.int .i64 ((rd_T48 t250 x25_2).f2.f1)] 48 (0,0)) (by (with_reducible repeat (first | refine blk_drewN ?_ _ | refine blk_drew ?_ | refine blk_alloc ?_ _));exact BK259.out) hb)
                   have n3_:=Aside0.mk (below_step (by repeat (first | (with_reducible first | exact HB.out | apply below_alloc | apply pw_below_drewN | apply below_drew1 | refine below_set ?_ GE256.out | refine below_set ?_ GE259.out) | exact HB.out)) hb)
                   clear HO_3
                   clear BK256
                   clear BK259
                   clear HB
                   have HO_3:=n0_
                   have BK256:=n1_
                   have BK259:=n2_
                   have HB:=n3_
                   clear n0_ n1_ n2_ n3_
                   (try clear hb)
                   (try clear hb2)
                   (try clear hk)
                   (try clear hi)
                   refine hK.out _ _ ⟨(blk_cell BK259.out 0).trans rfl,(blk_cell BK259.out 1).trans rfl,(blk_cell BK259.out 2).trans rfl,(blk_cell BK259.out 3).trans rfl⟩ (fun hHeld => ?_)
                   clear hK K
                   refine norm_ (a':=?_) ?_ ?_
                   rotate_left
                   ·show Act.put _ (some 105) _ = _
                    simp only [Act.put,List.setIfInBounds_toArray,List.set_cons_zero,List.set_cons_succ,i64_w,i32_w]
                    rfl
                   refine pure_ (i:=22) (N:=some 108) (v:=?_) (a':=?_) #[true,true,true,true,true,true,true,true,true,true,true,true,true,true,true,true,true,true,true,true,true,true,true,false,false,false,false,false] rfl rfl (any_of HT_.out (by kernel_rfl)) (fun _ _ _ h => h) (Or.inl ⟨by rfl,?_⟩) ?_ ?_
                   rotate_left
                   ·intro w'
                    go_simp
                    with_reducible rfl
                   rotate_left
                   ·simp only [Act.put,List.setIfInBounds_toArray,List.set_cons_zero,List.set_cons_succ,i64_w,i32_w]
                    rfl
                   refine pure_ (i:=23) (N:=some 109) (v:=?_) (a':=?_) #[true,true,true,true,true,true,true,true,true,true,true,true,true,true,true,true,true,true,true,true,true,true,true,true,false,false,false,false] rfl rfl (any_of HT_.out (by kernel_rfl)) (fun _ _ _ h => h) (Or.inl ⟨by rfl,?_⟩) ?_ ?_
                   rotate_left
                   ·intro w'
                    go_simp
                    with_reducible rfl
                   rotate_left
                   ·simp only [Act.put,List.setIfInBounds_toArray,List.set_cons_zero,List.set_cons_succ,i64_w,i32_w]
                    rfl
                   refine pure_ (i:=24) (N:=some 110) (v:=?_) (a':=?_) #[true,true,true,true,true,true,true,true,true,true,true,true,true,true,true,true,true,true,true,true,true,true,true,true,true,false,false,false] rfl rfl (any_of HT_.out (by kernel_rfl)) (fun _ _ _ h => h) (Or.inl ⟨by rfl,?_⟩) ?_ ?_
                   rotate_left
                   ·intro w'
                    go_simp
                    with_reducible rfl
                   rotate_left
                   ·simp only [Act.put,List.setIfInBounds_toArray,List.set_cons_zero,List.set_cons_succ,i64_w,i32_w]
                    rfl
                   refine one_ (i:=25) (N:=some 111) #[true,true,true,true,true,true,true,true,true,true,true,true,true,true,true,true,true,true,true,true,true,true,true,true,true,true,false,false] rfl rfl (one_of HT_.out (by kernel_rfl)) (by decide) (fun K hK => ?_)
                   refine goes_ Tryd.func14 (by kernel_rfl) rfl #[] (by rfl) rfl rfl (by (try simp only [List.map_toArray,List.map_cons,List.map_nil]);first | done | rfl | (simp only [List.length_drop,List.length_take];rfl)) ?_
                   with_reducible refine (joustlaw01_lives.calls kj18  t264 _ ?side1 A57.out).mono ?_
                   (case side1 => exact Tabs.below HG.out (by repeat (first | (with_reducible first | exact HB.out | apply below_alloc | apply pw_below_drewN | apply below_drew1 | refine below_set ?_ GE256.out | refine below_set ?_ GE259.out) | exact HB.out)))
                   rintro e w62 ⟨rfl,hb⟩
                   refine ⟨_,rfl,?_⟩
                   have n0_:=Aside0.mk (Kd.R_below (by (with_reducible repeat (first | apply Kd.R_alloc | apply Kd.R_drewN | apply Kd.R_drew));exact HO_3.out) hb)
                   have n1_:=Aside0.mk (blk_below (g:=gb256) (o:=.cells #[.int .i64 t253,.int .i64 t254,.int .i64 t255] 39 (0,0)) (by (with_reducible repeat (first | refine blk_drewN ?_ _ | refine blk_drew ?_ | refine blk_alloc ?_ _));exact BK256.out) hb)
                   have n2_:=Aside0.mk (blk_below (g:=gb259) (o:=.cells #[.int .u8 ((rd_T48 t250 x25_2).f0),.string ((rd_T48 t250 x25_2).f1),.int .i64 ((rd_T48 t250 x25_2).f2.f0),.int .i64 ((rd_T48 t250 x25_2).f2.f1)] 48 (0,0)) (by (with_reducible repeat (first | refine blk_drewN ?_ _ | refine blk_drew ?_ | refine blk_alloc ?_ _));exact BK259.out) hb)
                   have n3_:=Aside0.mk (below_step (by repeat (first | (with_reducible first | exact HB.out | apply below_alloc | apply pw_below_drewN | apply below_drew1 | refine below_set ?_ GE256.out | refine below_set ?_ GE259.out) | exact HB.out)) hb)
                   clear HO_3
                   clear BK256
                   clear BK259
                   clear HB
                   have HO_3:=n0_
                   have BK256:=n1_
                   have BK259:=n2_
                   have HB:=n3_
                   clear n0_ n1_ n2_ n3_
                   (try clear hb)
                   (try clear hb2)
                   (try clear hk)
                   (try clear hi)
                   refine hK.out _ _ ⟨(blk_cell BK259.out 0).trans rfl,(blk_cell BK259.out 1).trans rfl,(blk_cell BK259.out 2).trans rfl,(blk_cell BK259.out 3).trans rfl⟩ (fun hHeld => ?_)
                   clear hK K
                   refine norm_ (a':=?_) ?_ ?_
                   rotate_left
                   ·show Act.put _ (some 111) _ = _
                    simp only [Act.put,List.setIfInBounds_toArray,List.set_cons_zero,List.set_cons_succ,i64_w,i32_w]
                    rfl
                   refine pure_ (i:=26) (N:=some 112) (v:=?_) (a':=?_) #[true,true,true,true,true,true,true,true,true,true,true,true,true,true,true,true,true,true,true,true,true,true,true,true,true,true,true,false] rfl rfl (any_of HT_.out (by kernel_rfl)) (fun _ _ _ h => h) (Or.inl ⟨by rfl,?_⟩) ?_ ?_
                   rotate_left
                   ·intro w'
                    go_simp
                    with_reducible rfl
                   rotate_left
                   ·simp only [Act.put,List.setIfInBounds_toArray,List.set_cons_zero,List.set_cons_succ,i64_w,i32_w]
                    rfl
                   refine pure_ (i:=27) (N:=some 2) (v:=?_) (a':=?_) #[true,true,true,true,true,true,true,true,true,true,true,true,true,true,true,true,true,true,true,true,true,true,true,true,true,true,true,true] rfl rfl (any_of HT_.out (by kernel_rfl)) (fun _ _ _ h => h) (Or.inl ⟨by rfl,?_⟩) ?_ ?_
                   rotate_left
                   ·intro w'
                    go_simp
                    with_reducible rfl
                   rotate_left
                   ·simp only [Act.put,List.setIfInBounds_toArray,List.set_cons_zero,List.set_cons_succ,i64_w,i32_w]
                    rfl
                   refine done_ (done_of HT_.out (by kernel_rfl)) ?_
                   try go_wp2
                   go_ret
                   exact ⟨by first | rfl | (simp [errW_none,errW_some] <;> rfl) | (simp [*,errW_none,errW_some] <;> rfl),by repeat (first | (with_reducible first | exact HB.out | apply below_alloc | apply pw_below_drewN | apply below_drew1 | refine below_set ?_ GE256.out | refine below_set ?_ GE259.out) | exact HB.out)⟩
                  ·rw [if_neg c56] at H
                   have c56b0 : (t262 == ((rd_T48 t250 x25_2).f2.f0) && (t263 == ((rd_T48 t250 x25_2).f2.f1))) = false:=by simpa using c56
                   (try (have c56b1 : decide (t262 = ((rd_T48 t250 x25_2).f2.f0) && (t263 == ((rd_T48 t250 x25_2).f2.f1))) = false:=by simpa using c56))
                   (try (have c56b2 : (t262 == ((rd_T48 t250 x25_2).f2.f0) && (t263 == ((rd_T48 t250 x25_2).f2.f1))) = false:=by simpa using c56))
                   (try (have c56b3 : ¬ (t262 = ((rd_T48 t250 x25_2).f2.f0) && (t263 == ((rd_T48 t250 x25_2).f2.f1))):=by simpa using c56))
                   clear c56
                   exact absurd H (by simp)
                 ·rw [if_neg c54] at H
                  have c54b0 : (((rd_T48 t250 x25_2).f1).toList == ([] : List UInt8)) = false:=beq_eq_false_iff_ne.mpr c54
                  have c54b1 : (((rd_T48 t250 x25_2).f1).toList != ([] : List UInt8)) = true:=bne_iff_ne.mpr c54
                  exact absurd H (by simp)
                ·rw [if_neg c53] at H
                 have c53b0 : (x25_2 == (wrap64 ((t250.length : Int) - 1))) = false:=beq_eq_false_iff_ne.mpr c53
                 have c53b1 : (x25_2 != (wrap64 ((t250.length : Int) - 1))) = true:=bne_iff_ne.mpr c53
                 exact absurd H (by simp)
               ·rw [if_neg c52] at H
                have c52b0 : (x5_3 == (a0.size : Int)) = false:=beq_eq_false_iff_ne.mpr c52
                have c52b1 : (x5_3 != (a0.size : Int)) = true:=bne_iff_ne.mpr c52
                exact absurd H (by simp)
              ·rw [if_neg c51] at H
               have c51b0 : (((rd_T48 t250 x25_2).f0) == 0) = false:=beq_eq_false_iff_ne.mpr c51
               have c51b1 : (((rd_T48 t250 x25_2).f0) != 0) = true:=bne_iff_ne.mpr c51
               by_cases c63 : ((rd_T48 t250 x25_2).f1).toList = ([] : List UInt8)
               ·rw [if_pos c63] at H
                have c63b0 : (((rd_T48 t250 x25_2).f1).toList == ([] : List UInt8)) = true:=beq_iff_eq.mpr c63
                have c63b1 : (((rd_T48 t250 x25_2).f1).toList != ([] : List UInt8)) = false:=bne_eq_false_iff_eq.mpr c63
                clear c63
                exact absurd H (by simp)
               ·rw [if_neg c63] at H
                have c63b0 : (((rd_T48 t250 x25_2).f1).toList == ([] : List UInt8)) = false:=beq_eq_false_iff_ne.mpr c63
                have c63b1 : (((rd_T48 t250 x25_2).f1).toList != ([] : List UInt8)) = true:=bne_iff_ne.mpr c63
                by_cases c64 : (wrap64 (x5_3 + (((rd_T48 t250 x25_2).f1).size : Int))) > (a0.size : Int)
                ·rw [if_pos c64] at H
                 have c64b0 : decide ((a0.size : Int) < (wrap64 (x5_3 + (((rd_T48 t250 x25_2).f1).size : Int)))) = true:=decide_eq_true c64
                 clear c64
                 exact absurd H (by simp)
                ·rw [if_neg c64] at H
                 have c64b0 : decide ((a0.size : Int) < (wrap64 (x5_3 + (((rd_T48 t250 x25_2).f1).size : Int)))) = false:=decide_eq_false c64
                 clear c64
                 by_cases c65 : 0 ≤ x5_3
                 ·rw [if_pos c65] at H
                  have c65b0:=eq_true c65
                  have c65b1 : decide (0 ≤ x5_3) = true:=decide_eq_true c65
                  clear c65
                  by_cases c66 : x5_3 ≤ (wrap64 (x5_3 + (((rd_T48 t250 x25_2).f1).size : Int)))
                  ·rw [if_pos c66] at H
                   have c66b0:=eq_true c66
                   have c66b1 : decide (x5_3 ≤ (wrap64 (x5_3 + (((rd_T48 t250 x25_2).f1).size : Int)))) = true:=decide_eq_true c66
                   by_cases c67 : (wrap64 (x5_3 + (((rd_T48 t250 x25_2).f1).size : Int))) ≤ (a0.size : Int)
                   ·rw [if_pos c67] at H
                    have c67b0:=eq_true c67
                    have c67b1 : decide ((wrap64 (x5_3 + (((rd_T48 t250 x25_2).f1).size : Int))) ≤ (a0.size : Int)) = true:=decide_eq_true c67
                    by_cases c68 : (a0.extract (x5_3 : Int).toNat ((wrap64 (x5_3 + (((rd_T48 t250 x25_2).f1).size : Int))) : Int).toNat).toList = ((rd_T48 t250 x25_2).f1).toList
                    ·rw [if_pos c68] at H
                     have c68b0 : ((a0.extract (x5_3 : Int).toNat ((wrap64 (x5_3 + (((rd_T48 t250 x25_2).f1).size : Int))) : Int).toNat).toList == ((rd_T48 t250 x25_2).f1).toList) = true:=beq_iff_eq.mpr c68
                     have c68b1 : ((a0.extract (x5_3 : Int).toNat ((wrap64 (x5_3 + (((rd_T48 t250 x25_2).f1).size : Int))) : Int).toNat).toList != ((rd_T48 t250 x25_2).f1).toList) = false:=bne_eq_false_iff_eq.mpr c68
                     clear c68
                     replace H:=Option.bind_eq_some_iff.mp H
                     obtain ⟨t265,A690,H⟩:=H
                     replace H : (if ((((rd_T48 t250 x25_2).f0) == 1) != t265) = true then (some false) else (joustlaw01_ScanSpots.l0 kj18 a0 t250 (wrap64 (x5_3 + (((rd_T48 t250 x25_2).f1).size : Int))) x6_3 (t250.length : Int) (wrap64 (x25_2 + 1)))) = some true:=H
                     have A69:=Aside0.mk A690
                     clear A690
                     by_cases c70 : ((((rd_T48 t250 x25_2).f0) == 1) != t265) = true
                     ·rw [if_pos c70] at H
                      have c70b0 : ((((rd_T48 t250 x25_2).f0) == 1) != t265) = true:=c70
                      (try (have c70b1 : decide ((((rd_T48 t250 x25_2).f0) == 1) = t265) = false:=by simpa using c70))
                      (try (have c70b2 : ((((rd_T48 t250 x25_2).f0) == 1) == t265) = false:=by simpa using c70))
                      (try (have c70b3 : ¬ ((((rd_T48 t250 x25_2).f0) == 1) = t265):=by simpa using c70))
                      clear c70
                      exact absurd H (by simp)
                     ·rw [if_neg c70] at H
                      have c70b0 : ((((rd_T48 t250 x25_2).f0) == 1) != t265) = false:=by simpa using c70
                      (try (have c70b1 : decide ((((rd_T48 t250 x25_2).f0) == 1) = t265) = true:=by simpa using c70))
                      (try (have c70b2 : ((((rd_T48 t250 x25_2).f0) == 1) == t265) = true:=by simpa using c70))
                      clear c70
                      have H':=Aside0.mk H
                      clear H
                      have hnb71:=NB259_256.out
                      have hnc71:=NB256_259.out
                      have hcz72_0 : wc.cell? ⟨gb259,0,none⟩ = some (.int .u8 ((rd_T48 t250 x25_2).f0)):=(blk_cell BK259.out 0).trans rfl
                      have hcz72_1 : wc.cell? ⟨gb259,1,none⟩ = some (.string ((rd_T48 t250 x25_2).f1)):=(blk_cell BK259.out 1).trans rfl
                      have hcz72_2 : wc.cell? ⟨gb259,2,none⟩ = some (.int .i64 ((rd_T48 t250 x25_2).f2.f0)):=(blk_cell BK259.out 2).trans rfl
                      have hcz72_3 : wc.cell? ⟨gb259,3,none⟩ = some (.int .i64 ((rd_T48 t250 x25_2).f2.f1)):=(blk_cell BK259.out 3).trans rfl
                      have hfz72_0:=blk_frozen BK259.out 0
                      have hfz72_1:=blk_frozen BK259.out 1
                      have hfz72_2:=blk_frozen BK259.out 2
                      have hfz72_3:=blk_frozen BK259.out 3
                      try go_wp2
                      have n0_:=Aside0.mk (Kd.R_drew HO_3.out)
                      have n1_:=Aside0.mk (blk_drew BK256.out)
                      have n2_:=Aside0.mk (blk_drew BK259.out)
                      have n3_:=Aside0.mk (below_drew1 HB.out)
                      clear HO_3
                      clear BK256
                      clear BK259
                      clear HB
                      have HO_3:=n0_
                      have BK256:=n1_
                      have BK259:=n2_
                      have HB:=n3_
                      clear n0_ n1_ n2_ n3_
                      refine start_ (n:=35) (S:=fun w' => w'.cell? ⟨gb259,0,none⟩ = some (.int .u8 ((rd_T48 t250 x25_2).f0)) ∧ w'.cell? ⟨gb259,1,none⟩ = some (.string ((rd_T48 t250 x25_2).f1)) ∧ w'.cell? ⟨gb259,2,none⟩ = some (.int .i64 ((rd_T48 t250 x25_2).f2.f0)) ∧ w'.cell? ⟨gb259,3,none⟩ = some (.int .i64 ((rd_T48 t250 x25_2).f2.f1))) (ds:=[]) #[false,false,false,false,false,false,false,false,false,false,false,false,false,false,false,false,false,false,false,false,false,false,false,false,false,false,false,false,false,false,false,false,false,false,false] (by kernel_rfl) rfl rfl ⟨(blk_cell BK259.out 0).trans rfl,(blk_cell BK259.out 1).trans rfl,(blk_cell BK259.out 2).trans rfl,(blk_cell BK259.out 3).trans rfl⟩ (fun hHeld => ?_);refine with_tabW joustlaw01_ScanSpots.tab19 joustlaw01_ScanSpots.bits19 (fun HT_ HW_ => ?_)
                      generalize wc.drew = w73 at HO_3 BK256 BK259 HB hHeld ⊢
                      refine pure_ (i:=0) (N:=some 113) (v:=?_) (a':=?_) #[true,false,false,false,false,false,false,false,false,false,false,false,false,false,false,false,false,false,false,false,false,false,false,false,false,false,false,false,false,false,false,false,false,false,false] rfl rfl (any_of HT_.out (by kernel_rfl)) (fun _ _ _ h => h) (Or.inl ⟨by rfl,?_⟩) ?_ ?_
                      rotate_left
                      ·intro w'
                       go_simp
                       with_reducible rfl
                      rotate_left
                      ·simp only [Act.put,List.setIfInBounds_toArray,List.set_cons_zero,List.set_cons_succ,i64_w,i32_w]
                       rfl
                      refine take_ (i:=1) (N:=some 114) (v:=?_) (a':=?_) #[true,true,false,false,false,false,false,false,false,false,false,false,false,false,false,false,false,false,false,false,false,false,false,false,false,false,false,false,false,false,false,false,false,false,false] rfl rfl (take_ofW HT_.out HW_.out (by kernel_rfl)) (fun _ _ _ h => h) (Or.inl ⟨by rfl,?_⟩) hHeld ?_ ?_
                      rotate_left
                      ·rintro w' ⟨s0,s1,s2,s3⟩
                       go_simp
                       with_reducible rfl
                      rotate_left
                      ·simp only [Act.put,List.setIfInBounds_toArray,List.set_cons_zero,List.set_cons_succ,i64_w,i32_w]
                       rfl
                      refine pure_ (i:=2) (N:=some 115) (v:=?_) (a':=?_) #[true,true,true,false,false,false,false,false,false,false,false,false,false,false,false,false,false,false,false,false,false,false,false,false,false,false,false,false,false,false,false,false,false,false,false] rfl rfl (any_of HT_.out (by kernel_rfl)) (fun _ _ _ h => h) (Or.inl ⟨by rfl,?_⟩) ?_ ?_
                      rotate_left
                      ·intro w'
                       go_simp
                       with_reducible rfl
                      rotate_left
                      ·simp only [Act.put,List.setIfInBounds_toArray,List.set_cons_zero,List.set_cons_succ,i64_w,i32_w]
                       rfl
                      refine pure_ (i:=3) (N:=some 116) (v:=?_) (a':=?_) #[true,true,true,true,false,false,false,false,false,false,false,false,false,false,false,false,false,false,false,false,false,false,false,false,false,false,false,false,false,false,false,false,false,false,false] rfl rfl (any_of HT_.out (by kernel_rfl)) (fun _ _ _ h => h) (Or.inl ⟨by rfl,?_⟩) ?_ ?_
                      rotate_left
                      ·intro w'
                       go_simp
                       with_reducible rfl
                      rotate_left
                      ·simp only [Act.put,List.setIfInBounds_toArray,List.set_cons_zero,List.set_cons_succ,i64_w,i32_w]
                       rfl
                      refine pure_ (i:=4) (N:=some 117) (v:=?_) (a':=?_) #[true,true,true,true,true,false,false,false,false,false,false,false,false,false,false,false,false,false,false,false,false,false,false,false,false,false,false,false,false,false,false,false,false,false,false] rfl rfl (any_of HT_.out (by kernel_rfl)) (fun _ _ _ h => h) (Or.inl ⟨by rfl,?_⟩) ?_ ?_
                      rotate_left
                      ·intro w'
                       go_simp
                       with_reducible rfl
                      rotate_left
                      ·simp only [Act.put,List.setIfInBounds_toArray,List.set_cons_zero,List.set_cons_succ,i64_w,i32_w]
                       rfl
                      refine pure_ (i:=5) (N:=some 118) (v:=?_) (a':=?_) #[true,true,true,true,true,true,false,false,false,false,false,false,false,false,false,false,false,false,false,false,false,false,false,false,false,false,false,false,false,false,false,false,false,false,false] rfl rfl (any_of HT_.out (by kernel_rfl)) (fun _ _ _ h => h) (Or.inl ⟨by rfl,?_⟩) ?_ ?_
                      rotate_left
                      ·intro w'
                       go_simp
                       with_reducible rfl
                      rotate_left
                      ·simp only [Act.put,List.setIfInBounds_toArray,List.set_cons_zero,List.set_cons_succ,i64_w,i32_w]
                       rfl
                      refine pure_ (i:=9) (N:=some 122) (v:=?_) (a':=?_) #[true,true,true,true,true,true,false,false,false,true,false,false,false,false,false,false,false,false,false,false,false,false,false,false,false,false,false,false,false,false,false,false,false,false,false] rfl rfl (any_of HT_.out (by kernel_rfl)) (fun _ _ _ h => h) (Or.inl ⟨by rfl,?_⟩) ?_ ?_
                      rotate_left
                      ·intro w'
                       go_simp
                       with_reducible rfl
                      rotate_left
                      ·simp only [Act.put,List.setIfInBounds_toArray,List.set_cons_zero,List.set_cons_succ,i64_w,i32_w]
                       rfl
                      refine pure_ (i:=10) (N:=some 123) (v:=?_) (a':=?_) #[true,true,true,true,true,true,false,false,false,true,true,false,false,false,false,false,false,false,false,false,false,false,false,false,false,false,false,false,false,false,false,false,false,false,false] rfl rfl (any_of HT_.out (by kernel_rfl)) (fun _ _ _ h => h) (Or.inl ⟨by rfl,?_⟩) ?_ ?_
                      rotate_left
                      ·intro w'
                       go_simp
                       with_reducible rfl
                      rotate_left
                      ·simp only [Act.put,List.setIfInBounds_toArray,List.set_cons_zero,List.set_cons_succ,i64_w,i32_w]
                       rfl
                      refine take_ (i:=6) (N:=some 119) (v:=?_) (a':=?_) #[true,true,true,true,true,true,true,false,false,true,true,false,false,false,false,false,false,false,false,false,false,false,false,false,false,false,false,false,false,false,false,false,false,false,false] rfl rfl (take_ofW HT_.out HW_.out (by kernel_rfl)) (fun _ _ _ h => h) (Or.inl ⟨by rfl,?_⟩) hHeld ?_ ?_
                      rotate_left
                      ·rintro w' ⟨s0,s1,s2,s3⟩
                       go_simp
                       with_reducible rfl
                      rotate_left
                      ·simp only [Act.put,List.setIfInBounds_toArray,List.set_cons_zero,List.set_cons_succ,i64_w,i32_w]
                       rfl
                      refine pure_ (i:=7) (N:=some 120) (v:=?_) (a':=?_) #[true,true,true,true,true,true,true,true,false,true,true,false,false,false,false,false,false,false,false,false,false,false,false,false,false,false,false,false,false,false,false,false,false,false,false] rfl rfl (any_of HT_.out (by kernel_rfl)) (fun _ _ _ h => h) (Or.inl ⟨by rfl,?_⟩) ?_ ?_
                      rotate_left
                      ·intro w'
                       go_simp
                       with_reducible rfl
                      rotate_left
                      ·simp only [Act.put,List.setIfInBounds_toArray,List.set_cons_zero,List.set_cons_succ,i64_w,i32_w]
                       rfl
                      refine pure_ (i:=8) (N:=some 121) (v:=?_) (a':=?_) #[true,true,true,true,true,true,true,true,true,true,true,false,false,false,false,false,false,false,false,false,false,false,false,false,false,false,false,false,false,false,false,false,false,false,false] rfl rfl (any_of HT_.out (by kernel_rfl)) (fun _ _ _ h => h) (Or.inl ⟨by rfl,?_⟩) ?_ ?_
                      rotate_left
                      ·intro w'
                       go_simp
                       with_reducible rfl
                      rotate_left
                      ·simp only [Act.put,List.setIfInBounds_toArray,List.set_cons_zero,List.set_cons_succ,i64_w,i32_w]
                       rfl
                      refine pure_ (i:=11) (N:=some 124) (v:=?_) (a':=?_) #[true,true,true,true,true,true,true,true,true,true,true,true,false,false,false,false,false,false,false,false,false,false,false,false,false,false,false,false,false,false,false,false,false,false,false] rfl rfl (any_of HT_.out (by kernel_rfl)) (fun _ _ _ h => h) (Or.inl ⟨by rfl,?_⟩) ?_ ?_
                      rotate_left
                      ·intro w'
                       go_simp
                       with_reducible rfl
                      rotate_left
                      ·simp only [Act.put,List.setIfInBounds_toArray,List.set_cons_zero,List.set_cons_succ,i64_w,i32_w]
                       rfl
                      refine pure_ (i:=12) (N:=some 125) (v:=?_) (a':=?_) #[true,true,true,true,true,true,true,true,true,true,true,true,true,false,false,false,false,false,false,false,false,false,false,false,false,false,false,false,false,false,false,false,false,false,false] rfl rfl (any_of HT_.out (by kernel_rfl)) (fun _ _ _ h => h) (Or.inl ⟨by rfl,?_⟩) ?_ ?_
                      rotate_left
                      ·intro w'
                       go_simp
                       with_reducible rfl
                      rotate_left
                      ·simp only [Act.put,List.setIfInBounds_toArray,List.set_cons_zero,List.set_cons_succ,i64_w,i32_w]
                       rfl
                      refine pure_ (i:=13) (N:=some 126) (v:=?_) (a':=?_) #[true,true,true,true,true,true,true,true,true,true,true,true,true,true,false,false,false,false,false,false,false,false,false,false,false,false,false,false,false,false,false,false,false,false,false] rfl rfl (any_of HT_.out (by kernel_rfl)) (fun _ _ _ h => h) (Or.inl ⟨by rfl,?_⟩) ?_ ?_
                      rotate_left
                      ·intro w'
                       go_simp
                       with_reducible rfl
                      rotate_left
                      ·simp only [Act.put,List.setIfInBounds_toArray,List.set_cons_zero,List.set_cons_succ,i64_w,i32_w]
                       rfl
                      refine pure_ (i:=14) (N:=some 127) (v:=?_) (a':=?_) #[true,true,true,true,true,true,true,true,true,true,true,true,true,true,true,false,false,false,false,false,false,false,false,false,false,false,false,false,false,false,false,false,false,false,false] rfl rfl (any_of HT_.out (by kernel_rfl)) (fun _ _ _ h => h) (Or.inl ⟨by rfl,?_⟩) ?_ ?_
                      rotate_left
                      ·intro w'
                       go_simp
                       with_reducible rfl
                      rotate_left
                      ·simp only [Act.put,List.setIfInBounds_toArray,List.set_cons_zero,List.set_cons_succ,i64_w,i32_w]
                       rfl
                      refine pure_ (i:=15) (N:=some 128) (v:=?_) (a':=?_) #[true,true,true,true,true,true,true,true,true,true,true,true,true,true,true,true,false,false,false,false,false,false,false,false,false,false,false,false,false,false,false,false,false,false,false] rfl rfl (any_of HT_.out (by kernel_rfl)) (fun _ _ _ h => h) (Or.inl ⟨by rfl,?_⟩) ?_ ?_
                      rotate_left
                      ·intro w'
                       go_simp
                       with_reducible rfl
                      rotate_left
                      ·simp only [Act.put,List.setIfInBounds_toArray,List.set_cons_zero,List.set_cons_succ,i64_w,i32_w]
                       rfl
                      refine pure_ (i:=16) (N:=some 129) (v:=?_) (a':=?_) #[true,true,true,true,true,true,true,true,true,true,true,true,true,true,true,true,true,false,false,false,false,false,false,false,false,false,false,false,false,false,false,false,false,false,false] rfl rfl (any_of HT_.out (by kernel_rfl)) (fun _ _ _ h => h) (Or.inl ⟨by rfl,?_⟩) ?_ ?_
                      rotate_left
                      ·intro w'
                       go_simp
                       with_reducible rfl
                      rotate_left
                      ·simp only [Act.put,List.setIfInBounds_toArray,List.set_cons_zero,List.set_cons_succ,i64_w,i32_w]
                       rfl
                      refine pure_ (i:=17) (N:=some 130) (v:=?_) (a':=?_) #[true,true,true,true,true,true,true,true,true,true,true,true,true,true,true,true,true,true,false,false,false,false,false,false,false,false,false,false,false,false,false,false,false,false,false] rfl rfl (any_of HT_.out (by kernel_rfl)) (fun _ _ _ h => h) (Or.inl ⟨by rfl,?_⟩) ?_ ?_
                      rotate_left
                      ·intro w'
                       go_simp
                       with_reducible rfl
                      rotate_left
                      ·simp only [Act.put,List.setIfInBounds_toArray,List.set_cons_zero,List.set_cons_succ,i64_w,i32_w]
                       rfl
                      refine pure_ (i:=22) (N:=some 135) (v:=?_) (a':=?_) #[true,true,true,true,true,true,true,true,true,true,true,true,true,true,true,true,true,true,false,false,false,false,true,false,false,false,false,false,false,false,false,false,false,false,false] rfl rfl (any_of HT_.out (by kernel_rfl)) (fun _ _ _ h => h) (Or.inl ⟨by rfl,?_⟩) ?_ ?_
                      rotate_left
                      ·intro w'
                       go_simp
                       with_reducible rfl
                      rotate_left
                      ·simp only [Act.put,List.setIfInBounds_toArray,List.set_cons_zero,List.set_cons_succ,i64_w,i32_w]
                       rfl
                      refine take_ (i:=18) (N:=some 131) (v:=?_) (a':=?_) #[true,true,true,true,true,true,true,true,true,true,true,true,true,true,true,true,true,true,true,false,false,false,true,false,false,false,false,false,false,false,false,false,false,false,false] rfl rfl (take_ofW HT_.out HW_.out (by kernel_rfl)) (fun _ _ _ h => h) (Or.inl ⟨by rfl,?_⟩) hHeld ?_ ?_
                      rotate_left
                      ·rintro w' ⟨s0,s1,s2,s3⟩
                       go_simp
                       with_reducible rfl
                      rotate_left
                      ·simp only [Act.put,List.setIfInBounds_toArray,List.set_cons_zero,List.set_cons_succ,i64_w,i32_w]
                       rfl
                      refine pure_ (i:=19) (N:=some 132) (v:=?_) (a':=?_) #[true,true,true,true,true,true,true,true,true,true,true,true,true,true,true,true,true,true,true,true,false,false,true,false,false,false,false,false,false,false,false,false,false,false,false] rfl rfl (any_of HT_.out (by kernel_rfl)) (fun _ _ _ h => h) (Or.inl ⟨by rfl,?_⟩) ?_ ?_
                      rotate_left
                      ·intro w'
                       go_simp
                       with_reducible rfl
                      rotate_left
                      ·simp only [Act.put,List.setIfInBounds_toArray,List.set_cons_zero,List.set_cons_succ,i64_w,i32_w]
                       rfl
                      refine pure_ (i:=20) (N:=some 133) (v:=?_) (a':=?_) #[true,true,true,true,true,true,true,true,true,true,true,true,true,true,true,true,true,true,true,true,true,false,true,false,false,false,false,false,false,false,false,false,false,false,false] rfl rfl (any_of HT_.out (by kernel_rfl)) (fun _ _ _ h => h) (Or.inl ⟨by rfl,?_⟩) ?_ ?_
                      rotate_left
                      ·intro w'
                       go_simp
                       with_reducible rfl
                      rotate_left
                      ·simp only [Act.put,List.setIfInBounds_toArray,List.set_cons_zero,List.set_cons_succ,i64_w,i32_w]
                       rfl
                      refine pure_ (i:=21) (N:=some 134) (v:=?_) (a':=?_) #[true,true,true,true,true,true,true,true,true,true,true,true,true,true,true,true,true,true,true,true,true,true,true,false,false,false,false,false,false,false,false,false,false,false,false] rfl rfl (any_of HT_.out (by kernel_rfl)) (fun _ _ _ h => h) (Or.inl ⟨by rfl,?_⟩) ?_ ?_
                      rotate_left
                      ·intro w'
                       go_simp
                       with_reducible rfl
                      rotate_left
                      ·simp only [Act.put,List.setIfInBounds_toArray,List.set_cons_zero,List.set_cons_succ,i64_w,i32_w]
                       rfl
                      refine take_ (i:=23) (N:=some 136) (v:=?_) (a':=?_) #[true,true,true,true,true,true,true,true,true,true,true,true,true,true,true,true,true,true,true,true,true,true,true,true,false,false,false,false,false,false,false,false,false,false,false] rfl rfl (take_ofW HT_.out HW_.out (by kernel_rfl)) (fun _ _ _ h => h) (Or.inl ⟨by rfl,?_⟩) hHeld ?_ ?_
                      rotate_left
                      ·rintro w' ⟨s0,s1,s2,s3⟩
                       go_simp
                       with_reducible rfl
                      rotate_left
                      ·simp only [Act.put,List.setIfInBounds_toArray,List.set_cons_zero,List.set_cons_succ,i64_w,i32_w]
                       rfl
                      refine pure_ (i:=24) (N:=some 137) (v:=?_) (a':=?_) #[true,true,true,true,true,true,true,true,true,true,true,true,true,true,true,true,true,true,true,true,true,true,true,true,true,false,false,false,false,false,false,false,false,false,false] rfl rfl (any_of HT_.out (by kernel_rfl)) (fun _ _ _ h => h) (Or.inl ⟨by rfl,?_⟩) ?_ ?_
                      rotate_left
                      ·intro w'
                       go_simp
                       with_reducible rfl
                      rotate_left
                      ·simp only [Act.put,List.setIfInBounds_toArray,List.set_cons_zero,List.set_cons_succ,i64_w,i32_w]
                       rfl
                      refine pure_ (i:=25) (N:=some 138) (v:=?_) (a':=?_) #[true,true,true,true,true,true,true,true,true,true,true,true,true,true,true,true,true,true,true,true,true,true,true,true,true,true,false,false,false,false,false,false,false,false,false] rfl rfl (any_of HT_.out (by kernel_rfl)) (fun _ _ _ h => h) (Or.inl ⟨by rfl,?_⟩) ?_ ?_
                      rotate_left
                      ·intro w'
                       go_simp
                       with_reducible rfl
                      rotate_left
                      ·simp only [Act.put,List.setIfInBounds_toArray,List.set_cons_zero,List.set_cons_succ,i64_w,i32_w]
                       rfl
                      refine pure_ (i:=26) (N:=some 139) (v:=?_) (a':=?_) #[true,true,true,true,true,true,true,true,true,true,true,true,true,true,true,true,true,true,true,true,true,true,true,true,true,true,true,false,false,false,false,false,false,false,false] rfl rfl (any_of HT_.out (by kernel_rfl)) (fun _ _ _ h => h) (Or.inl ⟨by rfl,?_⟩) ?_ ?_
                      rotate_left
                      ·intro w'
                       go_simp
                       with_reducible rfl
                      rotate_left
                      ·simp only [Act.put,List.setIfInBounds_toArray,List.set_cons_zero,List.set_cons_succ,i64_w,i32_w]
                       rfl
                      refine pure_ (i:=27) (N:=some 140) (v:=?_) (a':=?_) #[true,true,true,true,true,true,true,true,true,true,true,true,true,true,true,true,true,true,true,true,true,true,true,true,true,true,true,true,false,false,false,false,false,false,false] rfl rfl (any_of HT_.out (by kernel_rfl)) (fun _ _ _ h => h) (Or.inl ⟨by rfl,?_⟩) ?_ ?_
                      rotate_left
                      ·intro w'
                       go_simp
                       with_reducible rfl
                      rotate_left
                      ·simp only [Act.put,List.setIfInBounds_toArray,List.set_cons_zero,List.set_cons_succ,i64_w,i32_w]
                       rfl
                      refine pure_ (i:=30) (N:=some 143) (v:=?_) (a':=?_) #[true,true,true,true,true,true,true,true,true,true,true,true,true,true,true,true,true,true,true,true,true,true,true,true,true,true,true,true,false,false,true,false,false,false,false] rfl rfl (any_of HT_.out (by kernel_rfl)) (fun _ _ _ h => h) (Or.inl ⟨by rfl,?_⟩) ?_ ?_
                      rotate_left
                      ·intro w'
                       go_simp
                       with_reducible rfl
                      rotate_left
                      ·simp only [Act.put,List.setIfInBounds_toArray,List.set_cons_zero,List.set_cons_succ,i64_w,i32_w]
                       rfl
                      refine take_ (i:=28) (N:=some 141) (v:=?_) (a':=?_) #[true,true,true,true,true,true,true,true,true,true,true,true,true,true,true,true,true,true,true,true,true,true,true,true,true,true,true,true,true,false,true,false,false,false,false] rfl rfl (take_ofW HT_.out HW_.out (by kernel_rfl)) (fun _ _ _ h => h) (Or.inl ⟨by rfl,?_⟩) hHeld ?_ ?_
                      rotate_left
                      ·rintro w' ⟨s0,s1,s2,s3⟩
                       go_simp
                       with_reducible rfl
                      rotate_left
                      ·simp only [Act.put,List.setIfInBounds_toArray,List.set_cons_zero,List.set_cons_succ,i64_w,i32_w]
                       rfl
                      refine pure_ (i:=29) (N:=some 142) (v:=?_) (a':=?_) #[true,true,true,true,true,true,true,true,true,true,true,true,true,true,true,true,true,true,true,true,true,true,true,true,true,true,true,true,true,true,true,false,false,false,false] rfl rfl (any_of HT_.out (by kernel_rfl)) (fun _ _ _ h => h) (Or.inl ⟨by rfl,?_⟩) ?_ ?_
                      rotate_left
                      ·intro w'
                       go_simp
                       with_reducible rfl
                      rotate_left
                      ·simp only [Act.put,List.setIfInBounds_toArray,List.set_cons_zero,List.set_cons_succ,i64_w,i32_w]
                       rfl
                      refine take_ (i:=31) (N:=some 144) (v:=?_) (a':=?_) #[true,true,true,true,true,true,true,true,true,true,true,true,true,true,true,true,true,true,true,true,true,true,true,true,true,true,true,true,true,true,true,true,false,false,false] rfl rfl (take_ofW HT_.out HW_.out (by kernel_rfl)) (fun _ _ _ h => h) (Or.inl ⟨by rfl,?_⟩) hHeld ?_ ?_
                      rotate_left
                      ·rintro w' ⟨s0,s1,s2,s3⟩
                       go_simp
                       with_reducible rfl
                      rotate_left
                      ·simp only [Act.put,List.setIfInBounds_toArray,List.set_cons_zero,List.set_cons_succ,i64_w,i32_w]
                       rfl
                      refine one_ (i:=32) (N:=some 145) #[true,true,true,true,true,true,true,true,true,true,true,true,true,true,true,true,true,true,true,true,true,true,true,true,true,true,true,true,true,true,true,true,true,false,false] rfl rfl (one_of HT_.out (by kernel_rfl)) (by decide) (fun K hK => ?_)
                      refine goes_ Tryd.func19 (by kernel_rfl) rfl #[.string ((rd_T48 t250 x25_2).f1)] (by rfl) rfl rfl (by (try simp only [List.map_toArray,List.map_cons,List.map_nil]);first | done | rfl | (simp only [List.length_drop,List.length_take];rfl)) ?_
                      with_reducible refine (scan_Word.calls kj18 ((rd_T48 t250 x25_2).f1) t265 _ ?side1 A69.out).mono ?_
                      (case side1 => exact Tabs.below HG.out (by repeat (first | (with_reducible first | exact HB.out | apply below_alloc | apply pw_below_drewN | apply below_drew1 | refine below_set ?_ GE256.out | refine below_set ?_ GE259.out) | exact HB.out)))
                      rintro e w74 ⟨rfl,hb⟩
                      refine ⟨_,rfl,?_⟩
                      have n0_:=Aside0.mk (Kd.R_below (by (with_reducible repeat (first | apply Kd.R_alloc | apply Kd.R_drewN | apply Kd.R_drew));exact HO_3.out) hb)
                      have n1_:=Aside0.mk (blk_below (g:=gb256) (o:=.cells #[.int .i64 t253,.int .i64 t254,.int .i64 t255] 39 (0,0)) (by (with_reducible repeat (first | refine blk_drewN ?_ _ | refine blk_drew ?_ | refine blk_alloc ?_ _));exact BK256.out) hb)
                      have n2_:=Aside0.mk (blk_below (g:=gb259) (o:=.cells #[.int .u8 ((rd_T48 t250 x25_2).f0),.string ((rd_T48 t250 x25_2).f1),.int .i64 ((rd_T48 t250 x25_2).f2.f0),.int .i64 ((rd_T48 t250 x25_2).f2.f1)] 48 (0,0)) (by (with_reducible repeat (first | refine blk_drewN ?_ _ | refine blk_drew ?_ | refine blk_alloc ?_ _));exact BK259.out) hb)
                      have n3_:=Aside0.mk (below_step (by repeat (first | (with_reducible first | exact HB.out | apply below_alloc | apply pw_below_drewN | apply below_drew1 | refine below_set ?_ GE256.out | refine below_set ?_ GE259.out) | exact HB.out)) hb)
                      clear HO_3
                      clear BK256
                      clear BK259
                      clear HB
                      have HO_3:=n0_
                      have BK256:=n1_
                      have BK259:=n2_
                      have HB:=n3_
                      clear n0_ n1_ n2_ n3_
                      (try clear hb)
                      (try clear hb2)
                      (try clear hk)
                      (try clear hi)
                      refine hK.out _ _ ⟨(blk_cell BK259.out 0).trans rfl,(blk_cell BK259.out 1).trans rfl,(blk_cell BK259.out 2).trans rfl,(blk_cell BK259.out 3).trans rfl⟩ (fun hHeld => ?_)
                      clear hK K
                      refine norm_ (a':=?_) ?_ ?_
                      rotate_left
                      ·show Act.put _ (some 145) _ = _
                       simp only [Act.put,List.setIfInBounds_toArray,List.set_cons_zero,List.set_cons_succ,i64_w,i32_w]
                       rfl
                      refine pure_ (i:=33) (N:=some 146) (v:=?_) (a':=?_) #[true,true,true,true,true,true,true,true,true,true,true,true,true,true,true,true,true,true,true,true,true,true,true,true,true,true,true,true,true,true,true,true,true,true,false] rfl rfl (any_of HT_.out (by kernel_rfl)) (fun _ _ _ h => h) (Or.inl ⟨by rfl,?_⟩) ?_ ?_
                      rotate_left
                      ·intro w'
                       go_simp
                       with_reducible rfl
                      rotate_left
                      ·simp only [Act.put,List.setIfInBounds_toArray,List.set_cons_zero,List.set_cons_succ,i64_w,i32_w]
                       rfl
                      refine pure_ (i:=34) (N:=some 147) (v:=?_) (a':=?_) #[true,true,true,true,true,true,true,true,true,true,true,true,true,true,true,true,true,true,true,true,true,true,true,true,true,true,true,true,true,true,true,true,true,true,true] rfl rfl (any_of HT_.out (by kernel_rfl)) (fun _ _ _ h => h) (Or.inl ⟨by rfl,?_⟩) ?_ ?_
                      rotate_left
                      ·intro w'
                       go_simp
                       with_reducible rfl
                      rotate_left
                      ·simp only [Act.put,List.setIfInBounds_toArray,List.set_cons_zero,List.set_cons_succ,i64_w,i32_w]
                       rfl
                      refine done_ (done_of HT_.out (by kernel_rfl)) ?_
                      have hcz75_0 : w74.cell? ⟨gb259,0,none⟩ = some (.int .u8 ((rd_T48 t250 x25_2).f0)):=(blk_cell BK259.out 0).trans rfl
                      have hcz75_1 : w74.cell? ⟨gb259,1,none⟩ = some (.string ((rd_T48 t250 x25_2).f1)):=(blk_cell BK259.out 1).trans rfl
                      have hcz75_2 : w74.cell? ⟨gb259,2,none⟩ = some (.int .i64 ((rd_T48 t250 x25_2).f2.f0)):=(blk_cell BK259.out 2).trans rfl
                      have hcz75_3 : w74.cell? ⟨gb259,3,none⟩ = some (.int .i64 ((rd_T48 t250 x25_2).f2.f1)):=(blk_cell BK259.out 3).trans rfl
                      have hfz75_0:=blk_frozen BK259.out 0
                      have hfz75_1:=blk_frozen BK259.out 1
                      have hfz75_2:=blk_frozen BK259.out 2
                      have hfz75_3:=blk_frozen BK259.out 3
                      try go_wp2
                      go_roundg kj18
                      case measure => have:=HJ2.out;have:=HK2.out;have:=HK3.out;have:=HJ18.out;omega
                      case rel => exact ⟨(wrap64 (x5_3 + (((rd_T48 t250 x25_2).f1).size : Int))),(x6_3),(wrap64 (x25_2 + 1)),(by first | rfl | (simp;done) | (simp [*];done)),(by first | rfl | (simp;done) | (simp [*];done)),(by first | rfl | (simp;done) | (simp [*];done)),H',⟨by have:=HJ2.out;have:=HK2.out;have:=HK3.out;have:=HJ18.out;omega⟩,⟨by (with_reducible repeat (first | apply Kd.R_alloc | apply Kd.R_drewN | apply Kd.R_drew));exact Kd.R_mono HO_3.out (fun _ hk => trivial)⟩,⟨by (with_reducible repeat (first | refine blk_drewN ?_ _ | refine blk_drew ?_ | refine blk_alloc ?_ _));exact BK256.out⟩,⟨by repeat (first | (with_reducible first | exact HB.out | apply below_alloc | apply pw_below_drewN | apply below_drew1 | refine below_set ?_ GE256.out | refine below_set ?_ GE259.out) | exact HB.out)⟩⟩
                    ·rw [if_neg c68] at H
                     have c68b0 : ((a0.extract (x5_3 : Int).toNat ((wrap64 (x5_3 + (((rd_T48 t250 x25_2).f1).size : Int))) : Int).toNat).toList == ((rd_T48 t250 x25_2).f1).toList) = false:=beq_eq_false_iff_ne.mpr c68
                     have c68b1 : ((a0.extract (x5_3 : Int).toNat ((wrap64 (x5_3 + (((rd_T48 t250 x25_2).f1).size : Int))) : Int).toNat).toList != ((rd_T48 t250 x25_2).f1).toList) = true:=bne_iff_ne.mpr c68
                     exact absurd H (by simp)
                   ·rw [if_neg c67] at H
                    exact absurd H (by simp)
                  ·rw [if_neg c66] at H
                   exact absurd H (by simp)
                 ·rw [if_neg c65] at H
                  exact absurd H (by simp)
        ·rw [if_neg c15] at H
         exact absurd H (by simp)
       ·rw [if_neg c14] at H
        exact absurd H (by simp)
      ·rw [if_neg c13] at H
       have c13b0 : decide (x25_2 < (t250.length : Int)) = false:=decide_eq_false c13
       clear c13
       exact absurd H (by simp)

end Go.Proofs.YtgalbiokebghkaaDoor.S
