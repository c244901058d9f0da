/- Written by a program of this claim's author (stubprint.py, over the kit's print) out of the translation: Go functions as Lean functions, and that the calls come to them. -/
import Derived.Test.YtmgdkkkkanjadaaGreatDoorProg
import Derived.Below
import Derived.Deep.Draws
import Derived.Deep.AppendLies
import Derived.Maps.AppendAt
import Derived.OwnWalk
import Derived.Laws.BytesArg
import Derived.Laws.MakeOwn
import Derived.Laws.OwnMore
import Derived.Deep.OwnRows
import Derived.Tactics
import Derived.Lib.ConvBytes
import Derived.Laws.Slices
import Derived.WalkKit
import Derived.KernelRfl
import Derived.RowKit3
import Derived.Deep.LoopGhost
import Derived.Deep.QuietTactic
import Derived.BigQuiet
import Derived.WideLaws
import Derived.Deep.DeepCutAuto
import Derived.Deep.CutBlock
import Derived.Deep.RegionHeld3
import Derived.Laws.Rows
import Derived.Lib.AppendStr
import Derived.ArgAppend
import Derived.Laws.IdiomCopy
import Derived.OrdersHeld
import Derived.Laws.BitsLemmas
import Derived.RowKit
import Derived.Test.YtmgdkkkkanjadaaGreatDoorV0
namespace Go.Proofs.YtmgdkkkkanjadaaGreatDoor.X
open Go.RowKit Go.Proofs.YtmgdkkkkanjadaaGreatDoorW.PrintWords Go.Proofs.YtmgdkkkkanjadaaGreatDoorW.PrintLast Go.Proofs.YtmgdkkkkanjadaaGreatDoorW.PrintMore
attribute [local go_sem] max2_int min2_int max_two min_two max_three min_three max_four min_four   -- for this text's walks alone
set_option linter.unusedVariables false
set_option linter.unusedSimpArgs false

def errW : Option Int → Value
  | none => .nilIface
  | some c => .iface 0 (.int .i64 c)
def errV (N : Nat) : Option Int → Value
  | none => .nilIface
  | some _ => .iface 136 (.pointer (some ⟨N,0,none⟩))
theorem errV_none (N : Nat) : errV N none = .nilIface:=rfl
theorem errV_some (N : Nat) (c : Int) : errV N (some c) = .iface 136 (.pointer (some ⟨N,0,none⟩)):=rfl
theorem errW_none : errW none = .nilIface:=rfl
theorem errW_some (c : Int) : errW (some c) = .iface 0 (.int .i64 c):=rfl

theorem info3 : (Tryz.prog.info? 3).map (fun i => (i.zero,i.size,i.bytes)) = some (some (.int .i64 0),1,8):=by kernel_rfl
theorem info26 : (Tryz.prog.info? 26).map (fun i => (i.zero,i.size,i.bytes)) = some (some (.agg #[(.int .i64 0),(.int .i64 0)]),2,16):=by kernel_rfl
theorem info69 : (Tryz.prog.info? 69).map (fun i => (i.zero,i.size,i.bytes)) = some (some (.agg #[(.int .u8 0),(.string ⟨#[]⟩),(.int .i64 0),(.int .i64 0)]),4,40):=by kernel_rfl
-- the values' own types
/-! #### struct type 26 -/
structure S26 where
  f0 : Int
  f1 : Int
def z26 : S26:=⟨(0 : Int),(0 : Int)⟩
def k26 : Kd S26:=Kd.iso (Kd.pair (Kd.int .i64) (Kd.int .i64)) (fun x : S26 => (x.f0,x.f1))
theorem k26_open {w : World} {x : S26} {cs : List Value} (h : k26.K w x cs) : cs = [.int .i64 x.f0,.int .i64 x.f1]:=by
  obtain ⟨_,_,rfl,rfl,rfl⟩:=h;exact rfl
theorem k26_openM {w : World} {base : Nat} {ok : Nat → Prop} {x : S26} {cs : List Value} (h : k26.M w base ok x cs) : cs = [.int .i64 x.f0,.int .i64 x.f1]:=by
  obtain ⟨_,_,rfl,rfl,rfl⟩:=h;exact rfl
theorem k26_mkM (w : World) (base : Nat) (ok : Nat → Prop) (x : S26)  : k26.M w base ok x [.int .i64 x.f0,.int .i64 x.f1]:=⟨[.int .i64 x.f0],[.int .i64 x.f1],rfl,rfl,rfl⟩
def rd_T26 (xs : List S26) (i : Int) : S26:=xs.getD i.toNat z26
theorem at_T26 {w : World} {A : Option Addr} {n : Nat} {xs : List S26} (h : Kd.C k26 w A n xs) (i : Int) (h0 : 0 ≤ i) (h1 : i < n) : ∃ ad ,A = some ad ∧ w.cell? (ad.add (i.toNat * 2)) = some (.int .i64 (rd_T26 xs i).f0) ∧ w.cell? ⟨(ad.add (i.toNat * 2)).block,(ad.add (i.toNat * 2)).off + 1,none⟩ = some (.int .i64 (rd_T26 xs i).f1):=by
  obtain ⟨ad,c,e,_,hK,hc0⟩:=Kd.C_get h z26 i h0 h1;have hc : ∀ j u,c[j]? = some u → w.cell? (ad.add (i.toNat * 2 + j)) = some u:=hc0;obtain rfl:=k26_open hK;exact ⟨ad,e,hc 0 _ rfl,by rw [← add_field _ _ 1 (by omega)];exact hc 1 _ rfl⟩

/-! #### struct type 69 -/
structure S69 where
  f0 : Int
  f1 : ByteArray
  f2 : S26
def z69 : S69:=⟨(0 : Int),(⟨#[]⟩ : ByteArray),z26⟩
def k69 : Kd S69:=Kd.iso (Kd.pair (Kd.int .u8) (Kd.pair Kd.string k26)) (fun x : S69 => (x.f0,x.f1,x.f2))
theorem k69_openM {w : World} {base : Nat} {ok : Nat → Prop} {x : S69} {cs : List Value} (h : k69.M w base ok x cs) : cs = [.int .u8 x.f0,.string x.f1,.int .i64 x.f2.f0,.int .i64 x.f2.f1]:=by
  obtain ⟨_,_,rfl,rfl,⟨_,_,rfl,rfl,s2⟩⟩:=h;obtain rfl:=k26_openM s2;exact rfl
theorem k69_mkM (w : World) (base : Nat) (ok : Nat → Prop) (x : S69)  : k69.M w base ok x [.int .u8 x.f0,.string x.f1,.int .i64 x.f2.f0,.int .i64 x.f2.f1]:=⟨[.int .u8 x.f0],[.string x.f1,.int .i64 x.f2.f0,.int .i64 x.f2.f1],rfl,rfl,⟨[.string x.f1],[.int .i64 x.f2.f0,.int .i64 x.f2.f1],rfl,rfl,(k26_mkM w base ok x.f2 )⟩⟩
/-! #### struct type 40 -/
structure S40 where
  f0 : Int
  f1 : Int
  f2 : Int
def z40 : S40:=⟨(0 : Int),(0 : Int),(0 : Int)⟩
def k40 : Kd S40:=Kd.iso (Kd.pair (Kd.int .u8) (Kd.pair (Kd.int .u8) (Kd.int .u8))) (fun x : S40 => (x.f0,x.f1,x.f2))
theorem k40_open {w : World} {x : S40} {cs : List Value} (h : k40.K w x cs) : cs = [.int .u8 x.f0,.int .u8 x.f1,.int .u8 x.f2]:=by
  obtain ⟨_,_,rfl,rfl,⟨_,_,rfl,rfl,rfl⟩⟩:=h;exact rfl
theorem k40_openM {w : World} {base : Nat} {ok : Nat → Prop} {x : S40} {cs : List Value} (h : k40.M w base ok x cs) : cs = [.int .u8 x.f0,.int .u8 x.f1,.int .u8 x.f2]:=by
  obtain ⟨_,_,rfl,rfl,⟨_,_,rfl,rfl,rfl⟩⟩:=h;exact rfl
theorem k40_mk (w : World) (x : S40)  : k40.K w x [.int .u8 x.f0,.int .u8 x.f1,.int .u8 x.f2]:=⟨[.int .u8 x.f0],[.int .u8 x.f1,.int .u8 x.f2],rfl,rfl,⟨[.int .u8 x.f1],[.int .u8 x.f2],rfl,rfl,rfl⟩⟩
theorem k40_mkM (w : World) (base : Nat) (ok : Nat → Prop) (x : S40)  : k40.M w base ok x [.int .u8 x.f0,.int .u8 x.f1,.int .u8 x.f2]:=⟨[.int .u8 x.f0],[.int .u8 x.f1,.int .u8 x.f2],rfl,rfl,⟨[.int .u8 x.f1],[.int .u8 x.f2],rfl,rfl,rfl⟩⟩
/-! #### struct type 50, nested in itself -/
structure S50 where
  f0 : Int
  f1 : Int
  f2 : Int
  f3 : S40
  f4 : (List S50)
def z50 : S50:=⟨(0 : Int),(0 : Int),(0 : Int),z40,([] : List S50)⟩
def F50 (d : Kd S50) : Kd S50:=Kd.iso (Kd.pair (Kd.int .u8) (Kd.pair (Kd.int .i64) (Kd.pair (Kd.int .u8) (Kd.pair k40 (Kd.slice 50 d))))) (fun x : S50 => (x.f0,x.f1,x.f2,x.f3,x.f4))
theorem mono50 : Kd.Mono F50:=Kd.mono_iso _ (Kd.mono_pair (Kd.mono_const _) (Kd.mono_pair (Kd.mono_const _) (Kd.mono_pair (Kd.mono_const _) (Kd.mono_pair (Kd.mono_const _) (Kd.mono_slice 50 Kd.mono_id)))))
theorem sub50 : Kd.Sub F50 [50]:=Kd.sub_iso _ (Kd.sub_pair (Kd.sub_const _ (by decide)) (Kd.sub_pair (Kd.sub_const _ (by decide)) (Kd.sub_pair (Kd.sub_const _ (by decide)) (Kd.sub_pair (Kd.sub_const _ (by decide)) (Kd.sub_slice 50 (by decide) Kd.sub_id)))))
theorem sz50 : ∀ n,(Kd.upto F50 7 [50] n).sz = 7:=Kd.upto_sz (fun _ => rfl)
def k50 : Kd S50:=Kd.fix F50 7 [50] sz50 (Kd.upto_E sub50)
theorem k50_open {w : World} {x : S50} {cs : List Value} (h : k50.K w x cs) : ∃ A6 c6,cs = [.int .u8 x.f0,.int .i64 x.f1,.int .u8 x.f2,.int .u8 x.f3.f0,.int .u8 x.f3.f1,.int .u8 x.f3.f2,.slice A6 x.f4.length c6] ∧ x.f4.length ≤ c6 ∧ k50.C w A6 x.f4.length x.f4:=by
  obtain ⟨n,h⟩:=h
  cases n with
  | zero => exact h.elim
  | succ n =>
    obtain ⟨_,_,rfl,rfl,⟨_,_,rfl,rfl,⟨_,_,rfl,rfl,⟨_,_,rfl,s3,⟨A6,c6,rfl,l6,g6⟩⟩⟩⟩⟩:=h;obtain rfl:=k40_open s3;exact ⟨A6,c6,rfl,l6,Kd.fix_C g6⟩
theorem k50_openM {w : World} {base : Nat} {ok : Nat → Prop} {x : S50} {cs : List Value} (h : k50.M w base ok x cs) : ∃ v6,cs = [.int .u8 x.f0,.int .i64 x.f1,.int .u8 x.f2,.int .u8 x.f3.f0,.int .u8 x.f3.f1,.int .u8 x.f3.f2,v6] ∧ k50.R 50 w base ok v6 x.f4:=by
  obtain ⟨n,h⟩:=h
  cases n with
  | zero => exact h.elim
  | succ n =>
    obtain ⟨_,_,rfl,rfl,⟨_,_,rfl,rfl,⟨_,_,rfl,rfl,⟨_,_,rfl,s3,⟨v6,rfl,g6⟩⟩⟩⟩⟩:=h;obtain rfl:=k40_openM s3;exact ⟨v6,rfl,Kd.fix_R g6⟩
theorem k50_mk (w : World) (x : S50) {A6 : Option Addr} {c6 : Nat} (l6 : x.f4.length ≤ c6) (g6 : k50.C w A6 x.f4.length x.f4) : k50.K w x [.int .u8 x.f0,.int .i64 x.f1,.int .u8 x.f2,.int .u8 x.f3.f0,.int .u8 x.f3.f1,.int .u8 x.f3.f2,.slice A6 x.f4.length c6]:=by
  obtain ⟨n6,q6⟩:=Kd.fix_C_back mono50 g6;have r6:=Kd.upto_C_le mono50 sz50 (show n6 ≤ n6 by omega) q6;exact ⟨n6 + 1,⟨[.int .u8 x.f0],[.int .i64 x.f1,.int .u8 x.f2,.int .u8 x.f3.f0,.int .u8 x.f3.f1,.int .u8 x.f3.f2,.slice A6 x.f4.length c6],rfl,rfl,⟨[.int .i64 x.f1],[.int .u8 x.f2,.int .u8 x.f3.f0,.int .u8 x.f3.f1,.int .u8 x.f3.f2,.slice A6 x.f4.length c6],rfl,rfl,⟨[.int .u8 x.f2],[.int .u8 x.f3.f0,.int .u8 x.f3.f1,.int .u8 x.f3.f2,.slice A6 x.f4.length c6],rfl,rfl,⟨[.int .u8 x.f3.f0,.int .u8 x.f3.f1,.int .u8 x.f3.f2],[.slice A6 x.f4.length c6],rfl,(k40_mk w x.f3 ),⟨A6,c6,rfl,l6,r6⟩⟩⟩⟩⟩⟩
theorem k50_mkM (w : World) (base : Nat) (ok : Nat → Prop) (x : S50) {v6 : Value} (g6 : k50.R 50 w base ok v6 x.f4) : k50.M w base ok x [.int .u8 x.f0,.int .i64 x.f1,.int .u8 x.f2,.int .u8 x.f3.f0,.int .u8 x.f3.f1,.int .u8 x.f3.f2,v6]:=by
  obtain ⟨n6,q6⟩:=Kd.fix_R_back mono50 g6;have r6:=Kd.upto_R_le mono50 sz50 (show n6 ≤ n6 by omega) q6;exact ⟨n6 + 1,⟨[.int .u8 x.f0],[.int .i64 x.f1,.int .u8 x.f2,.int .u8 x.f3.f0,.int .u8 x.f3.f1,.int .u8 x.f3.f2,v6],rfl,rfl,⟨[.int .i64 x.f1],[.int .u8 x.f2,.int .u8 x.f3.f0,.int .u8 x.f3.f1,.int .u8 x.f3.f2,v6],rfl,rfl,⟨[.int .u8 x.f2],[.int .u8 x.f3.f0,.int .u8 x.f3.f1,.int .u8 x.f3.f2,v6],rfl,rfl,⟨[.int .u8 x.f3.f0,.int .u8 x.f3.f1,.int .u8 x.f3.f2],[v6],rfl,(k40_mkM w base ok x.f3 ),⟨v6,rfl,r6⟩⟩⟩⟩⟩⟩
def rd_T50 (xs : List S50) (i : Int) : S50:=xs.getD i.toNat z50
theorem at_T50 {w : World} {A : Option Addr} {n : Nat} {xs : List S50} (h : Kd.C k50 w A n xs) (i : Int) (h0 : 0 ≤ i) (h1 : i < n) : ∃ ad A6 c6,A = some ad ∧ w.cell? (ad.add (i.toNat * 7)) = some (.int .u8 (rd_T50 xs i).f0) ∧ w.cell? ⟨(ad.add (i.toNat * 7)).block,(ad.add (i.toNat * 7)).off + 1,none⟩ = some (.int .i64 (rd_T50 xs i).f1) ∧ w.cell? ⟨(ad.add (i.toNat * 7)).block,(ad.add (i.toNat * 7)).off + 2,none⟩ = some (.int .u8 (rd_T50 xs i).f2) ∧ w.cell? ⟨(ad.add (i.toNat * 7)).block,(ad.add (i.toNat * 7)).off + 3,none⟩ = some (.int .u8 (rd_T50 xs i).f3.f0) ∧ w.cell? ⟨(ad.add (i.toNat * 7)).block,(ad.add (i.toNat * 7)).off + 4,none⟩ = some (.int .u8 (rd_T50 xs i).f3.f1) ∧ w.cell? ⟨(ad.add (i.toNat * 7)).block,(ad.add (i.toNat * 7)).off + 5,none⟩ = some (.int .u8 (rd_T50 xs i).f3.f2) ∧ w.cell? ⟨(ad.add (i.toNat * 7)).block,(ad.add (i.toNat * 7)).off + 6,none⟩ = some (.slice A6 (rd_T50 xs i).f4.length c6) ∧ (rd_T50 xs i).f4.length ≤ c6 ∧ k50.C w A6 (rd_T50 xs i).f4.length (rd_T50 xs i).f4:=by
  obtain ⟨ad,c,e,_,hK,hc0⟩:=Kd.C_get h z50 i h0 h1;have hc : ∀ j u,c[j]? = some u → w.cell? (ad.add (i.toNat * 7 + j)) = some u:=hc0;obtain ⟨A6,c6,rfl,l6,g6⟩:=k50_open hK;exact ⟨ad,A6,c6,e,hc 0 _ rfl,by rw [← add_field _ _ 1 (by omega)];exact hc 1 _ rfl,by rw [← add_field _ _ 2 (by omega)];exact hc 2 _ rfl,by rw [← add_field _ _ 3 (by omega)];exact hc 3 _ rfl,by rw [← add_field _ _ 4 (by omega)];exact hc 4 _ rfl,by rw [← add_field _ _ 5 (by omega)];exact hc 5 _ rfl,by rw [← add_field _ _ 6 (by omega)];exact hc 6 _ rfl,l6,g6⟩

/-! #### struct type 52 -/
structure S52 where
  f0 : Int
  f1 : Int
  f2 : S50
  f3 : Bool
  f4 : S40
def z52 : S52:=⟨(0 : Int),(0 : Int),z50,false,z40⟩
def k52 : Kd S52:=Kd.iso (Kd.pair (Kd.int .u8) (Kd.pair (Kd.int .u8) (Kd.pair k50 (Kd.pair Kd.bool k40)))) (fun x : S52 => (x.f0,x.f1,x.f2,x.f3,x.f4))
theorem k52_open {w : World} {x : S52} {cs : List Value} (h : k52.K w x cs) : ∃ A8 c8,cs = [.int .u8 x.f0,.int .u8 x.f1,.int .u8 x.f2.f0,.int .i64 x.f2.f1,.int .u8 x.f2.f2,.int .u8 x.f2.f3.f0,.int .u8 x.f2.f3.f1,.int .u8 x.f2.f3.f2,.slice A8 x.f2.f4.length c8,.bool x.f3,.int .u8 x.f4.f0,.int .u8 x.f4.f1,.int .u8 x.f4.f2] ∧ x.f2.f4.length ≤ c8 ∧ k50.C w A8 x.f2.f4.length x.f2.f4:=by
  obtain ⟨_,_,rfl,rfl,⟨_,_,rfl,rfl,⟨_,_,rfl,s2,⟨_,_,rfl,rfl,s10⟩⟩⟩⟩:=h;obtain ⟨A8,c8,rfl,l8,g8⟩:=k50_open s2;obtain rfl:=k40_open s10;exact ⟨A8,c8,rfl,l8,g8⟩
theorem k52_openM {w : World} {base : Nat} {ok : Nat → Prop} {x : S52} {cs : List Value} (h : k52.M w base ok x cs) : ∃ v8,cs = [.int .u8 x.f0,.int .u8 x.f1,.int .u8 x.f2.f0,.int .i64 x.f2.f1,.int .u8 x.f2.f2,.int .u8 x.f2.f3.f0,.int .u8 x.f2.f3.f1,.int .u8 x.f2.f3.f2,v8,.bool x.f3,.int .u8 x.f4.f0,.int .u8 x.f4.f1,.int .u8 x.f4.f2] ∧ k50.R 50 w base ok v8 x.f2.f4:=by
  obtain ⟨_,_,rfl,rfl,⟨_,_,rfl,rfl,⟨_,_,rfl,s2,⟨_,_,rfl,rfl,s10⟩⟩⟩⟩:=h;obtain ⟨v8,rfl,g8⟩:=k50_openM s2;obtain rfl:=k40_openM s10;exact ⟨v8,rfl,g8⟩
theorem k52_mk (w : World) (x : S52) {A8 : Option Addr} {c8 : Nat} (l8 : x.f2.f4.length ≤ c8) (g8 : k50.C w A8 x.f2.f4.length x.f2.f4) : k52.K w x [.int .u8 x.f0,.int .u8 x.f1,.int .u8 x.f2.f0,.int .i64 x.f2.f1,.int .u8 x.f2.f2,.int .u8 x.f2.f3.f0,.int .u8 x.f2.f3.f1,.int .u8 x.f2.f3.f2,.slice A8 x.f2.f4.length c8,.bool x.f3,.int .u8 x.f4.f0,.int .u8 x.f4.f1,.int .u8 x.f4.f2]:=⟨[.int .u8 x.f0],[.int .u8 x.f1,.int .u8 x.f2.f0,.int .i64 x.f2.f1,.int .u8 x.f2.f2,.int .u8 x.f2.f3.f0,.int .u8 x.f2.f3.f1,.int .u8 x.f2.f3.f2,.slice A8 x.f2.f4.length c8,.bool x.f3,.int .u8 x.f4.f0,.int .u8 x.f4.f1,.int .u8 x.f4.f2],rfl,rfl,⟨[.int .u8 x.f1],[.int .u8 x.f2.f0,.int .i64 x.f2.f1,.int .u8 x.f2.f2,.int .u8 x.f2.f3.f0,.int .u8 x.f2.f3.f1,.int .u8 x.f2.f3.f2,.slice A8 x.f2.f4.length c8,.bool x.f3,.int .u8 x.f4.f0,.int .u8 x.f4.f1,.int .u8 x.f4.f2],rfl,rfl,⟨[.int .u8 x.f2.f0,.int .i64 x.f2.f1,.int .u8 x.f2.f2,.int .u8 x.f2.f3.f0,.int .u8 x.f2.f3.f1,.int .u8 x.f2.f3.f2,.slice A8 x.f2.f4.length c8],[.bool x.f3,.int .u8 x.f4.f0,.int .u8 x.f4.f1,.int .u8 x.f4.f2],rfl,(k50_mk w x.f2 l8 g8),⟨[.bool x.f3],[.int .u8 x.f4.f0,.int .u8 x.f4.f1,.int .u8 x.f4.f2],rfl,rfl,(k40_mk w x.f4 )⟩⟩⟩⟩
theorem k52_mkM (w : World) (base : Nat) (ok : Nat → Prop) (x : S52) {v8 : Value} (g8 : k50.R 50 w base ok v8 x.f2.f4) : k52.M w base ok x [.int .u8 x.f0,.int .u8 x.f1,.int .u8 x.f2.f0,.int .i64 x.f2.f1,.int .u8 x.f2.f2,.int .u8 x.f2.f3.f0,.int .u8 x.f2.f3.f1,.int .u8 x.f2.f3.f2,v8,.bool x.f3,.int .u8 x.f4.f0,.int .u8 x.f4.f1,.int .u8 x.f4.f2]:=⟨[.int .u8 x.f0],[.int .u8 x.f1,.int .u8 x.f2.f0,.int .i64 x.f2.f1,.int .u8 x.f2.f2,.int .u8 x.f2.f3.f0,.int .u8 x.f2.f3.f1,.int .u8 x.f2.f3.f2,v8,.bool x.f3,.int .u8 x.f4.f0,.int .u8 x.f4.f1,.int .u8 x.f4.f2],rfl,rfl,⟨[.int .u8 x.f1],[.int .u8 x.f2.f0,.int .i64 x.f2.f1,.int .u8 x.f2.f2,.int .u8 x.f2.f3.f0,.int .u8 x.f2.f3.f1,.int .u8 x.f2.f3.f2,v8,.bool x.f3,.int .u8 x.f4.f0,.int .u8 x.f4.f1,.int .u8 x.f4.f2],rfl,rfl,⟨[.int .u8 x.f2.f0,.int .i64 x.f2.f1,.int .u8 x.f2.f2,.int .u8 x.f2.f3.f0,.int .u8 x.f2.f3.f1,.int .u8 x.f2.f3.f2,v8],[.bool x.f3,.int .u8 x.f4.f0,.int .u8 x.f4.f1,.int .u8 x.f4.f2],rfl,(k50_mkM w base ok x.f2 g8),⟨[.bool x.f3],[.int .u8 x.f4.f0,.int .u8 x.f4.f1,.int .u8 x.f4.f2],rfl,rfl,(k40_mkM w base ok x.f4 )⟩⟩⟩⟩
def rd_T52 (xs : List S52) (i : Int) : S52:=xs.getD i.toNat z52
theorem at_T52 {w : World} {A : Option Addr} {n : Nat} {xs : List S52} (h : Kd.C k52 w A n xs) (i : Int) (h0 : 0 ≤ i) (h1 : i < n) : ∃ ad A8 c8,A = some ad ∧ w.cell? (ad.add (i.toNat * 13)) = some (.int .u8 (rd_T52 xs i).f0) ∧ w.cell? ⟨(ad.add (i.toNat * 13)).block,(ad.add (i.toNat * 13)).off + 1,none⟩ = some (.int .u8 (rd_T52 xs i).f1) ∧ w.cell? ⟨(ad.add (i.toNat * 13)).block,(ad.add (i.toNat * 13)).off + 2,none⟩ = some (.int .u8 (rd_T52 xs i).f2.f0) ∧ w.cell? ⟨(ad.add (i.toNat * 13)).block,(ad.add (i.toNat * 13)).off + 3,none⟩ = some (.int .i64 (rd_T52 xs i).f2.f1) ∧ w.cell? ⟨(ad.add (i.toNat * 13)).block,(ad.add (i.toNat * 13)).off + 4,none⟩ = some (.int .u8 (rd_T52 xs i).f2.f2) ∧ w.cell? ⟨(ad.add (i.toNat * 13)).block,(ad.add (i.toNat * 13)).off + 5,none⟩ = some (.int .u8 (rd_T52 xs i).f2.f3.f0) ∧ w.cell? ⟨(ad.add (i.toNat * 13)).block,(ad.add (i.toNat * 13)).off + 6,none⟩ = some (.int .u8 (rd_T52 xs i).f2.f3.f1) ∧ w.cell? ⟨(ad.add (i.toNat * 13)).block,(ad.add (i.toNat * 13)).off + 7,none⟩ = some (.int .u8 (rd_T52 xs i).f2.f3.f2) ∧ w.cell? ⟨(ad.add (i.toNat * 13)).block,(ad.add (i.toNat * 13)).off + 8,none⟩ = some (.slice A8 (rd_T52 xs i).f2.f4.length c8) ∧ w.cell? ⟨(ad.add (i.toNat * 13)).block,(ad.add (i.toNat * 13)).off + 9,none⟩ = some (.bool (rd_T52 xs i).f3) ∧ w.cell? ⟨(ad.add (i.toNat * 13)).block,(ad.add (i.toNat * 13)).off + 10,none⟩ = some (.int .u8 (rd_T52 xs i).f4.f0) ∧ w.cell? ⟨(ad.add (i.toNat * 13)).block,(ad.add (i.toNat * 13)).off + 11,none⟩ = some (.int .u8 (rd_T52 xs i).f4.f1) ∧ w.cell? ⟨(ad.add (i.toNat * 13)).block,(ad.add (i.toNat * 13)).off + 12,none⟩ = some (.int .u8 (rd_T52 xs i).f4.f2) ∧ (rd_T52 xs i).f2.f4.length ≤ c8 ∧ k50.C w A8 (rd_T52 xs i).f2.f4.length (rd_T52 xs i).f2.f4:=by
  obtain ⟨ad,c,e,_,hK,hc0⟩:=Kd.C_get h z52 i h0 h1;have hc : ∀ j u,c[j]? = some u → w.cell? (ad.add (i.toNat * 13 + j)) = some u:=hc0;obtain ⟨A8,c8,rfl,l8,g8⟩:=k52_open hK;exact ⟨ad,A8,c8,e,hc 0 _ rfl,by rw [← add_field _ _ 1 (by omega)];exact hc 1 _ rfl,by rw [← add_field _ _ 2 (by omega)];exact hc 2 _ rfl,by rw [← add_field _ _ 3 (by omega)];exact hc 3 _ rfl,by rw [← add_field _ _ 4 (by omega)];exact hc 4 _ rfl,by rw [← add_field _ _ 5 (by omega)];exact hc 5 _ rfl,by rw [← add_field _ _ 6 (by omega)];exact hc 6 _ rfl,by rw [← add_field _ _ 7 (by omega)];exact hc 7 _ rfl,by rw [← add_field _ _ 8 (by omega)];exact hc 8 _ rfl,by rw [← add_field _ _ 9 (by omega)];exact hc 9 _ rfl,by rw [← add_field _ _ 10 (by omega)];exact hc 10 _ rfl,by rw [← add_field _ _ 11 (by omega)];exact hc 11 _ rfl,by rw [← add_field _ _ 12 (by omega)];exact hc 12 _ rfl,l8,g8⟩

/-! #### struct type 43 -/
structure S43 where
  f0 : Int
  f1 : Int
  f2 : Int
  f3 : (List S50)
  f4 : Int
  f5 : Int
  f6 : Bool
  f7 : Int
  f8 : S40
  f9 : (List S52)
def z43 : S43:=⟨(0 : Int),(0 : Int),(0 : Int),([] : List S50),(0 : Int),(0 : Int),false,(0 : Int),z40,([] : List S52)⟩
def k43 : Kd S43:=Kd.iso (Kd.pair (Kd.int .u8) (Kd.pair (Kd.int .u8) (Kd.pair (Kd.int .u8) (Kd.pair (Kd.slice 50 k50) (Kd.pair (Kd.int .i64) (Kd.pair (Kd.int .i64) (Kd.pair Kd.bool (Kd.pair (Kd.int .i64) (Kd.pair k40 (Kd.slice 52 k52)))))))))) (fun x : S43 => (x.f0,x.f1,x.f2,x.f3,x.f4,x.f5,x.f6,x.f7,x.f8,x.f9))
theorem k43_open {w : World} {x : S43} {cs : List Value} (h : k43.K w x cs) : ∃ A3 c3 A11 c11,cs = [.int .u8 x.f0,.int .u8 x.f1,.int .u8 x.f2,.slice A3 x.f3.length c3,.int .i64 x.f4,.int .i64 x.f5,.bool x.f6,.int .i64 x.f7,.int .u8 x.f8.f0,.int .u8 x.f8.f1,.int .u8 x.f8.f2,.slice A11 x.f9.length c11] ∧ x.f3.length ≤ c3 ∧ k50.C w A3 x.f3.length x.f3 ∧ x.f9.length ≤ c11 ∧ k52.C w A11 x.f9.length x.f9:=by
  obtain ⟨_,_,rfl,rfl,⟨_,_,rfl,rfl,⟨_,_,rfl,rfl,⟨_,_,rfl,⟨A3,c3,rfl,l3,g3⟩,⟨_,_,rfl,rfl,⟨_,_,rfl,rfl,⟨_,_,rfl,rfl,⟨_,_,rfl,rfl,⟨_,_,rfl,s8,⟨A11,c11,rfl,l11,g11⟩⟩⟩⟩⟩⟩⟩⟩⟩⟩:=h;obtain rfl:=k40_open s8;exact ⟨A3,c3,A11,c11,rfl,l3,g3,l11,g11⟩
theorem k43_openM {w : World} {base : Nat} {ok : Nat → Prop} {x : S43} {cs : List Value} (h : k43.M w base ok x cs) : ∃ v3 v11,cs = [.int .u8 x.f0,.int .u8 x.f1,.int .u8 x.f2,v3,.int .i64 x.f4,.int .i64 x.f5,.bool x.f6,.int .i64 x.f7,.int .u8 x.f8.f0,.int .u8 x.f8.f1,.int .u8 x.f8.f2,v11] ∧ k50.R 50 w base ok v3 x.f3 ∧ k52.R 52 w base ok v11 x.f9:=by
  obtain ⟨_,_,rfl,rfl,⟨_,_,rfl,rfl,⟨_,_,rfl,rfl,⟨_,_,rfl,⟨v3,rfl,g3⟩,⟨_,_,rfl,rfl,⟨_,_,rfl,rfl,⟨_,_,rfl,rfl,⟨_,_,rfl,rfl,⟨_,_,rfl,s8,⟨v11,rfl,g11⟩⟩⟩⟩⟩⟩⟩⟩⟩⟩:=h;obtain rfl:=k40_openM s8;exact ⟨v3,v11,rfl,g3,g11⟩
theorem k43_mk (w : World) (x : S43) {A3 : Option Addr} {c3 : Nat} (l3 : x.f3.length ≤ c3) (g3 : k50.C w A3 x.f3.length x.f3) {A11 : Option Addr} {c11 : Nat} (l11 : x.f9.length ≤ c11) (g11 : k52.C w A11 x.f9.length x.f9) : k43.K w x [.int .u8 x.f0,.int .u8 x.f1,.int .u8 x.f2,.slice A3 x.f3.length c3,.int .i64 x.f4,.int .i64 x.f5,.bool x.f6,.int .i64 x.f7,.int .u8 x.f8.f0,.int .u8 x.f8.f1,.int .u8 x.f8.f2,.slice A11 x.f9.length c11]:=⟨[.int .u8 x.f0],[.int .u8 x.f1,.int .u8 x.f2,.slice A3 x.f3.length c3,.int .i64 x.f4,.int .i64 x.f5,.bool x.f6,.int .i64 x.f7,.int .u8 x.f8.f0,.int .u8 x.f8.f1,.int .u8 x.f8.f2,.slice A11 x.f9.length c11],rfl,rfl,⟨[.int .u8 x.f1],[.int .u8 x.f2,.slice A3 x.f3.length c3,.int .i64 x.f4,.int .i64 x.f5,.bool x.f6,.int .i64 x.f7,.int .u8 x.f8.f0,.int .u8 x.f8.f1,.int .u8 x.f8.f2,.slice A11 x.f9.length c11],rfl,rfl,⟨[.int .u8 x.f2],[.slice A3 x.f3.length c3,.int .i64 x.f4,.int .i64 x.f5,.bool x.f6,.int .i64 x.f7,.int .u8 x.f8.f0,.int .u8 x.f8.f1,.int .u8 x.f8.f2,.slice A11 x.f9.length c11],rfl,rfl,⟨[.slice A3 x.f3.length c3],[.int .i64 x.f4,.int .i64 x.f5,.bool x.f6,.int .i64 x.f7,.int .u8 x.f8.f0,.int .u8 x.f8.f1,.int .u8 x.f8.f2,.slice A11 x.f9.length c11],rfl,⟨A3,c3,rfl,l3,g3⟩,⟨[.int .i64 x.f4],[.int .i64 x.f5,.bool x.f6,.int .i64 x.f7,.int .u8 x.f8.f0,.int .u8 x.f8.f1,.int .u8 x.f8.f2,.slice A11 x.f9.length c11],rfl,rfl,⟨[.int .i64 x.f5],[.bool x.f6,.int .i64 x.f7,.int .u8 x.f8.f0,.int .u8 x.f8.f1,.int .u8 x.f8.f2,.slice A11 x.f9.length c11],rfl,rfl,⟨[.bool x.f6],[.int .i64 x.f7,.int .u8 x.f8.f0,.int .u8 x.f8.f1,.int .u8 x.f8.f2,.slice A11 x.f9.length c11],rfl,rfl,⟨[.int .i64 x.f7],[.int .u8 x.f8.f0,.int .u8 x.f8.f1,.int .u8 x.f8.f2,.slice A11 x.f9.length c11],rfl,rfl,⟨[.int .u8 x.f8.f0,.int .u8 x.f8.f1,.int .u8 x.f8.f2],[.slice A11 x.f9.length c11],rfl,(k40_mk w x.f8 ),⟨A11,c11,rfl,l11,g11⟩⟩⟩⟩⟩⟩⟩⟩⟩⟩
theorem k43_mkM (w : World) (base : Nat) (ok : Nat → Prop) (x : S43) {v3 : Value} (g3 : k50.R 50 w base ok v3 x.f3) {v11 : Value} (g11 : k52.R 52 w base ok v11 x.f9) : k43.M w base ok x [.int .u8 x.f0,.int .u8 x.f1,.int .u8 x.f2,v3,.int .i64 x.f4,.int .i64 x.f5,.bool x.f6,.int .i64 x.f7,.int .u8 x.f8.f0,.int .u8 x.f8.f1,.int .u8 x.f8.f2,v11]:=⟨[.int .u8 x.f0],[.int .u8 x.f1,.int .u8 x.f2,v3,.int .i64 x.f4,.int .i64 x.f5,.bool x.f6,.int .i64 x.f7,.int .u8 x.f8.f0,.int .u8 x.f8.f1,.int .u8 x.f8.f2,v11],rfl,rfl,⟨[.int .u8 x.f1],[.int .u8 x.f2,v3,.int .i64 x.f4,.int .i64 x.f5,.bool x.f6,.int .i64 x.f7,.int .u8 x.f8.f0,.int .u8 x.f8.f1,.int .u8 x.f8.f2,v11],rfl,rfl,⟨[.int .u8 x.f2],[v3,.int .i64 x.f4,.int .i64 x.f5,.bool x.f6,.int .i64 x.f7,.int .u8 x.f8.f0,.int .u8 x.f8.f1,.int .u8 x.f8.f2,v11],rfl,rfl,⟨[v3],[.int .i64 x.f4,.int .i64 x.f5,.bool x.f6,.int .i64 x.f7,.int .u8 x.f8.f0,.int .u8 x.f8.f1,.int .u8 x.f8.f2,v11],rfl,⟨v3,rfl,g3⟩,⟨[.int .i64 x.f4],[.int .i64 x.f5,.bool x.f6,.int .i64 x.f7,.int .u8 x.f8.f0,.int .u8 x.f8.f1,.int .u8 x.f8.f2,v11],rfl,rfl,⟨[.int .i64 x.f5],[.bool x.f6,.int .i64 x.f7,.int .u8 x.f8.f0,.int .u8 x.f8.f1,.int .u8 x.f8.f2,v11],rfl,rfl,⟨[.bool x.f6],[.int .i64 x.f7,.int .u8 x.f8.f0,.int .u8 x.f8.f1,.int .u8 x.f8.f2,v11],rfl,rfl,⟨[.int .i64 x.f7],[.int .u8 x.f8.f0,.int .u8 x.f8.f1,.int .u8 x.f8.f2,v11],rfl,rfl,⟨[.int .u8 x.f8.f0,.int .u8 x.f8.f1,.int .u8 x.f8.f2],[v11],rfl,(k40_mkM w base ok x.f8 ),⟨v11,rfl,g11⟩⟩⟩⟩⟩⟩⟩⟩⟩⟩
def rd_T43 (xs : List S43) (i : Int) : S43:=xs.getD i.toNat z43
theorem at_T43 {w : World} {A : Option Addr} {n : Nat} {xs : List S43} (h : Kd.C k43 w A n xs) (i : Int) (h0 : 0 ≤ i) (h1 : i < n) : ∃ ad A3 c3 A11 c11,A = some ad ∧ w.cell? (ad.add (i.toNat * 12)) = some (.int .u8 (rd_T43 xs i).f0) ∧ w.cell? ⟨(ad.add (i.toNat * 12)).block,(ad.add (i.toNat * 12)).off + 1,none⟩ = some (.int .u8 (rd_T43 xs i).f1) ∧ w.cell? ⟨(ad.add (i.toNat * 12)).block,(ad.add (i.toNat * 12)).off + 2,none⟩ = some (.int .u8 (rd_T43 xs i).f2) ∧ w.cell? ⟨(ad.add (i.toNat * 12)).block,(ad.add (i.toNat * 12)).off + 3,none⟩ = some (.slice A3 (rd_T43 xs i).f3.length c3) ∧ w.cell? ⟨(ad.add (i.toNat * 12)).block,(ad.add (i.toNat * 12)).off + 4,none⟩ = some (.int .i64 (rd_T43 xs i).f4) ∧ w.cell? ⟨(ad.add (i.toNat * 12)).block,(ad.add (i.toNat * 12)).off + 5,none⟩ = some (.int .i64 (rd_T43 xs i).f5) ∧ w.cell? ⟨(ad.add (i.toNat * 12)).block,(ad.add (i.toNat * 12)).off + 6,none⟩ = some (.bool (rd_T43 xs i).f6) ∧ w.cell? ⟨(ad.add (i.toNat * 12)).block,(ad.add (i.toNat * 12)).off + 7,none⟩ = some (.int .i64 (rd_T43 xs i).f7) ∧ w.cell? ⟨(ad.add (i.toNat * 12)).block,(ad.add (i.toNat * 12)).off + 8,none⟩ = some (.int .u8 (rd_T43 xs i).f8.f0) ∧ w.cell? ⟨(ad.add (i.toNat * 12)).block,(ad.add (i.toNat * 12)).off + 9,none⟩ = some (.int .u8 (rd_T43 xs i).f8.f1) ∧ w.cell? ⟨(ad.add (i.toNat * 12)).block,(ad.add (i.toNat * 12)).off + 10,none⟩ = some (.int .u8 (rd_T43 xs i).f8.f2) ∧ w.cell? ⟨(ad.add (i.toNat * 12)).block,(ad.add (i.toNat * 12)).off + 11,none⟩ = some (.slice A11 (rd_T43 xs i).f9.length c11) ∧ (rd_T43 xs i).f3.length ≤ c3 ∧ k50.C w A3 (rd_T43 xs i).f3.length (rd_T43 xs i).f3 ∧ (rd_T43 xs i).f9.length ≤ c11 ∧ k52.C w A11 (rd_T43 xs i).f9.length (rd_T43 xs i).f9:=by
  obtain ⟨ad,c,e,_,hK,hc0⟩:=Kd.C_get h z43 i h0 h1;have hc : ∀ j u,c[j]? = some u → w.cell? (ad.add (i.toNat * 12 + j)) = some u:=hc0;obtain ⟨A3,c3,A11,c11,rfl,l3,g3,l11,g11⟩:=k43_open hK;exact ⟨ad,A3,c3,A11,c11,e,hc 0 _ rfl,by rw [← add_field _ _ 1 (by omega)];exact hc 1 _ rfl,by rw [← add_field _ _ 2 (by omega)];exact hc 2 _ rfl,by rw [← add_field _ _ 3 (by omega)];exact hc 3 _ rfl,by rw [← add_field _ _ 4 (by omega)];exact hc 4 _ rfl,by rw [← add_field _ _ 5 (by omega)];exact hc 5 _ rfl,by rw [← add_field _ _ 6 (by omega)];exact hc 6 _ rfl,by rw [← add_field _ _ 7 (by omega)];exact hc 7 _ rfl,by rw [← add_field _ _ 8 (by omega)];exact hc 8 _ rfl,by rw [← add_field _ _ 9 (by omega)];exact hc 9 _ rfl,by rw [← add_field _ _ 10 (by omega)];exact hc 10 _ rfl,by rw [← add_field _ _ 11 (by omega)];exact hc 11 _ rfl,l3,g3,l11,g11⟩

/-! #### struct type 38 -/
structure S38 where
  f0 : ByteArray
  f1 : Int
  f2 : Int
  f3 : Int
  f4 : Int
  f5 : (List S43)
def z38 : S38:=⟨(⟨#[]⟩ : ByteArray),(0 : Int),(0 : Int),(0 : Int),(0 : Int),([] : List S43)⟩
def k38 : Kd S38:=Kd.iso (Kd.pair Kd.string (Kd.pair (Kd.int .u8) (Kd.pair (Kd.int .i64) (Kd.pair (Kd.int .i64) (Kd.pair (Kd.int .i64) (Kd.slice 43 k43)))))) (fun x : S38 => (x.f0,x.f1,x.f2,x.f3,x.f4,x.f5))
theorem k38_open {w : World} {x : S38} {cs : List Value} (h : k38.K w x cs) : ∃ A5 c5,cs = [.string x.f0,.int .u8 x.f1,.int .i64 x.f2,.int .i64 x.f3,.int .i64 x.f4,.slice A5 x.f5.length c5] ∧ x.f5.length ≤ c5 ∧ k43.C w A5 x.f5.length x.f5:=by
  obtain ⟨_,_,rfl,rfl,⟨_,_,rfl,rfl,⟨_,_,rfl,rfl,⟨_,_,rfl,rfl,⟨_,_,rfl,rfl,⟨A5,c5,rfl,l5,g5⟩⟩⟩⟩⟩⟩:=h;exact ⟨A5,c5,rfl,l5,g5⟩
theorem k38_openM {w : World} {base : Nat} {ok : Nat → Prop} {x : S38} {cs : List Value} (h : k38.M w base ok x cs) : ∃ v5,cs = [.string x.f0,.int .u8 x.f1,.int .i64 x.f2,.int .i64 x.f3,.int .i64 x.f4,v5] ∧ k43.R 43 w base ok v5 x.f5:=by
  obtain ⟨_,_,rfl,rfl,⟨_,_,rfl,rfl,⟨_,_,rfl,rfl,⟨_,_,rfl,rfl,⟨_,_,rfl,rfl,⟨v5,rfl,g5⟩⟩⟩⟩⟩⟩:=h;exact ⟨v5,rfl,g5⟩
theorem k38_mk (w : World) (x : S38) {A5 : Option Addr} {c5 : Nat} (l5 : x.f5.length ≤ c5) (g5 : k43.C w A5 x.f5.length x.f5) : k38.K w x [.string x.f0,.int .u8 x.f1,.int .i64 x.f2,.int .i64 x.f3,.int .i64 x.f4,.slice A5 x.f5.length c5]:=⟨[.string x.f0],[.int .u8 x.f1,.int .i64 x.f2,.int .i64 x.f3,.int .i64 x.f4,.slice A5 x.f5.length c5],rfl,rfl,⟨[.int .u8 x.f1],[.int .i64 x.f2,.int .i64 x.f3,.int .i64 x.f4,.slice A5 x.f5.length c5],rfl,rfl,⟨[.int .i64 x.f2],[.int .i64 x.f3,.int .i64 x.f4,.slice A5 x.f5.length c5],rfl,rfl,⟨[.int .i64 x.f3],[.int .i64 x.f4,.slice A5 x.f5.length c5],rfl,rfl,⟨[.int .i64 x.f4],[.slice A5 x.f5.length c5],rfl,rfl,⟨A5,c5,rfl,l5,g5⟩⟩⟩⟩⟩⟩
theorem k38_mkM (w : World) (base : Nat) (ok : Nat → Prop) (x : S38) {v5 : Value} (g5 : k43.R 43 w base ok v5 x.f5) : k38.M w base ok x [.string x.f0,.int .u8 x.f1,.int .i64 x.f2,.int .i64 x.f3,.int .i64 x.f4,v5]:=⟨[.string x.f0],[.int .u8 x.f1,.int .i64 x.f2,.int .i64 x.f3,.int .i64 x.f4,v5],rfl,rfl,⟨[.int .u8 x.f1],[.int .i64 x.f2,.int .i64 x.f3,.int .i64 x.f4,v5],rfl,rfl,⟨[.int .i64 x.f2],[.int .i64 x.f3,.int .i64 x.f4,v5],rfl,rfl,⟨[.int .i64 x.f3],[.int .i64 x.f4,v5],rfl,rfl,⟨[.int .i64 x.f4],[v5],rfl,rfl,⟨v5,rfl,g5⟩⟩⟩⟩⟩⟩
def rd_T38 (xs : List S38) (i : Int) : S38:=xs.getD i.toNat z38
theorem at_T38 {w : World} {A : Option Addr} {n : Nat} {xs : List S38} (h : Kd.C k38 w A n xs) (i : Int) (h0 : 0 ≤ i) (h1 : i < n) : ∃ ad A5 c5,A = some ad ∧ w.cell? (ad.add (i.toNat * 6)) = some (.string (rd_T38 xs i).f0) ∧ w.cell? ⟨(ad.add (i.toNat * 6)).block,(ad.add (i.toNat * 6)).off + 1,none⟩ = some (.int .u8 (rd_T38 xs i).f1) ∧ w.cell? ⟨(ad.add (i.toNat * 6)).block,(ad.add (i.toNat * 6)).off + 2,none⟩ = some (.int .i64 (rd_T38 xs i).f2) ∧ w.cell? ⟨(ad.add (i.toNat * 6)).block,(ad.add (i.toNat * 6)).off + 3,none⟩ = some (.int .i64 (rd_T38 xs i).f3) ∧ w.cell? ⟨(ad.add (i.toNat * 6)).block,(ad.add (i.toNat * 6)).off + 4,none⟩ = some (.int .i64 (rd_T38 xs i).f4) ∧ w.cell? ⟨(ad.add (i.toNat * 6)).block,(ad.add (i.toNat * 6)).off + 5,none⟩ = some (.slice A5 (rd_T38 xs i).f5.length c5) ∧ (rd_T38 xs i).f5.length ≤ c5 ∧ k43.C w A5 (rd_T38 xs i).f5.length (rd_T38 xs i).f5:=by
  obtain ⟨ad,c,e,_,hK,hc0⟩:=Kd.C_get h z38 i h0 h1;have hc : ∀ j u,c[j]? = some u → w.cell? (ad.add (i.toNat * 6 + j)) = some u:=hc0;obtain ⟨A5,c5,rfl,l5,g5⟩:=k38_open hK;exact ⟨ad,A5,c5,e,hc 0 _ rfl,by rw [← add_field _ _ 1 (by omega)];exact hc 1 _ rfl,by rw [← add_field _ _ 2 (by omega)];exact hc 2 _ rfl,by rw [← add_field _ _ 3 (by omega)];exact hc 3 _ rfl,by rw [← add_field _ _ 4 (by omega)];exact hc 4 _ rfl,by rw [← add_field _ _ 5 (by omega)];exact hc 5 _ rfl,l5,g5⟩

/-! #### struct type 28 -/
structure S28 where
  f0 : Int
  f1 : S26
end Go.Proofs.YtmgdkkkkanjadaaGreatDoor.X
