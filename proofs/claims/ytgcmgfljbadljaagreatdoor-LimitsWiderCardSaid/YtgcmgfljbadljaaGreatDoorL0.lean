/- Written by a program of this claim's author (stubprint.py, over the kit's print) out of the translation: Go functions as Lean functions, and that the calls come to them. -/
import Derived.Test.YtgcmgfljbadljaaGreatDoorProg
import Derived.Below
import Derived.Deep.Draws
import Derived.Deep.AppendLies
import Derived.Maps.AppendAt
import Derived.OwnWalk
import Derived.Laws.BytesArg
import Derived.Laws.MakeOwn
import Derived.Laws.OwnMore
import Derived.Deep.OwnRows
import Derived.Tactics
import Derived.Lib.ConvBytes
import Derived.Laws.Slices
import Derived.WalkKit
import Derived.KernelRfl
import Derived.RowKit3
import Derived.Deep.LoopGhost
import Derived.Deep.QuietTactic
import Derived.BigQuiet
import Derived.WideLaws
import Derived.Deep.DeepCutAuto
import Derived.Deep.CutBlock
import Derived.Deep.RegionHeld3
import Derived.Laws.Rows
import Derived.Lib.AppendStr
import Derived.ArgAppend
import Derived.Laws.IdiomCopy
import Derived.OrdersHeld
import Derived.Laws.BitsLemmas
import Derived.RowKit
import Derived.Test.YtgcmgfljbadljaaGreatDoorV0
namespace Go.Proofs.YtgcmgfljbadljaaGreatDoor.L
open Go.RowKit Go.Proofs.YtgcmgfljbadljaaGreatDoorW.PrintWords Go.Proofs.YtgcmgfljbadljaaGreatDoorW.PrintLast Go.Proofs.YtgcmgfljbadljaaGreatDoorW.PrintMore
attribute [local go_sem] max2_int min2_int max_two min_two max_three min_three max_four min_four   -- for this text's walks alone
set_option linter.unusedVariables false
set_option linter.unusedSimpArgs false



def errW : Option Int → Value
  | none => .nilIface
  | some c => .iface 0 (.int .i64 c)
def errV (N : Nat) : Option Int → Value
  | none => .nilIface
  | some _ => .iface 149 (.pointer (some ⟨N,0,none⟩))
theorem errV_none (N : Nat) : errV N none = .nilIface:=rfl
theorem errV_some (N : Nat) (c : Int) : errV N (some c) = .iface 149 (.pointer (some ⟨N,0,none⟩)):=rfl
theorem errW_none : errW none = .nilIface:=rfl
theorem errW_some (c : Int) : errW (some c) = .iface 0 (.int .i64 c):=rfl

theorem info3 : (Tryz.prog.info? 3).map (fun i => (i.zero,i.size,i.bytes)) = some (some (.int .i64 0),1,8):=by kernel_rfl
theorem info35 : (Tryz.prog.info? 35).map (fun i => (i.zero,i.size,i.bytes)) = some (some (.agg #[(.int .u8 0),(.int .i64 0)]),2,16):=by kernel_rfl
theorem info42 : (Tryz.prog.info? 42).map (fun i => (i.zero,i.size,i.bytes)) = some (some (.agg #[(.string ⟨#[]⟩),(.int .i64 0),(.int .i64 0)]),3,32):=by kernel_rfl
theorem info47 : (Tryz.prog.info? 47).map (fun i => (i.zero,i.size,i.bytes)) = some (some (.agg #[(.string ⟨#[]⟩),(.int .u8 0),(.int .i64 0),(.int .i64 0),(.int .i64 0),(.slice none 0 0)]),6,72):=by kernel_rfl
theorem info50 : (Tryz.prog.info? 50).map (fun i => (i.zero,i.size,i.bytes)) = some (some (.agg #[(.int .i64 0),(.int .i64 0)]),2,16):=by kernel_rfl
theorem info74 : (Tryz.prog.info? 74).map (fun i => (i.zero,i.size,i.bytes)) = some (some (.agg #[(.int .u8 0),(.string ⟨#[]⟩),(.int .i64 0),(.int .i64 0)]),4,40):=by kernel_rfl
-- the values' own types
/-! #### struct type 42 -/
structure S42 where
  f0 : ByteArray
  f1 : Int
  f2 : Int
def z42 : S42:=⟨(⟨#[]⟩ : ByteArray),(0 : Int),(0 : Int)⟩
def k42 : Kd S42:=Kd.iso (Kd.pair Kd.string (Kd.pair (Kd.int .i64) (Kd.int .i64))) (fun x : S42 => (x.f0,x.f1,x.f2))
theorem k42_open {w : World} {x : S42} {cs : List Value} (h : k42.K w x cs) : cs = [.string x.f0,.int .i64 x.f1,.int .i64 x.f2]:=by
  obtain ⟨_,_,rfl,rfl,⟨_,_,rfl,rfl,rfl⟩⟩:=h;exact rfl
theorem k42_openM {w : World} {base : Nat} {ok : Nat → Prop} {x : S42} {cs : List Value} (h : k42.M w base ok x cs) : cs = [.string x.f0,.int .i64 x.f1,.int .i64 x.f2]:=by
  obtain ⟨_,_,rfl,rfl,⟨_,_,rfl,rfl,rfl⟩⟩:=h;exact rfl
theorem k42_mk (w : World) (x : S42)  : k42.K w x [.string x.f0,.int .i64 x.f1,.int .i64 x.f2]:=⟨[.string x.f0],[.int .i64 x.f1,.int .i64 x.f2],rfl,rfl,⟨[.int .i64 x.f1],[.int .i64 x.f2],rfl,rfl,rfl⟩⟩
theorem k42_mkM (w : World) (base : Nat) (ok : Nat → Prop) (x : S42)  : k42.M w base ok x [.string x.f0,.int .i64 x.f1,.int .i64 x.f2]:=⟨[.string x.f0],[.int .i64 x.f1,.int .i64 x.f2],rfl,rfl,⟨[.int .i64 x.f1],[.int .i64 x.f2],rfl,rfl,rfl⟩⟩
def rd_T42 (xs : List S42) (i : Int) : S42:=xs.getD i.toNat z42
theorem at_T42 {w : World} {A : Option Addr} {n : Nat} {xs : List S42} (h : Kd.C k42 w A n xs) (i : Int) (h0 : 0 ≤ i) (h1 : i < n) : ∃ ad ,A = some ad ∧ w.cell? (ad.add (i.toNat * 3)) = some (.string (rd_T42 xs i).f0) ∧ w.cell? ⟨(ad.add (i.toNat * 3)).block,(ad.add (i.toNat * 3)).off + 1,none⟩ = some (.int .i64 (rd_T42 xs i).f1) ∧ w.cell? ⟨(ad.add (i.toNat * 3)).block,(ad.add (i.toNat * 3)).off + 2,none⟩ = some (.int .i64 (rd_T42 xs i).f2):=by
  obtain ⟨ad,c,e,_,hK,hc0⟩:=Kd.C_get h z42 i h0 h1;have hc : ∀ j u,c[j]? = some u → w.cell? (ad.add (i.toNat * 3 + j)) = some u:=hc0;obtain rfl:=k42_open hK;exact ⟨ad,e,hc 0 _ rfl,by rw [← add_field _ _ 1 (by omega)];exact hc 1 _ rfl,by rw [← add_field _ _ 2 (by omega)];exact hc 2 _ rfl⟩

/-! #### struct type 209 -/
structure S209 where
  f0 : Int
  f1 : Int
  f2 : Int
def z209 : S209:=⟨(0 : Int),(0 : Int),(0 : Int)⟩
def k209 : Kd S209:=Kd.iso (Kd.pair (Kd.int .u8) (Kd.pair (Kd.int .u8) (Kd.int .u8))) (fun x : S209 => (x.f0,x.f1,x.f2))
theorem k209_open {w : World} {x : S209} {cs : List Value} (h : k209.K w x cs) : cs = [.int .u8 x.f0,.int .u8 x.f1,.int .u8 x.f2]:=by
  obtain ⟨_,_,rfl,rfl,⟨_,_,rfl,rfl,rfl⟩⟩:=h;exact rfl
theorem k209_openM {w : World} {base : Nat} {ok : Nat → Prop} {x : S209} {cs : List Value} (h : k209.M w base ok x cs) : cs = [.int .u8 x.f0,.int .u8 x.f1,.int .u8 x.f2]:=by
  obtain ⟨_,_,rfl,rfl,⟨_,_,rfl,rfl,rfl⟩⟩:=h;exact rfl
theorem k209_mk (w : World) (x : S209)  : k209.K w x [.int .u8 x.f0,.int .u8 x.f1,.int .u8 x.f2]:=⟨[.int .u8 x.f0],[.int .u8 x.f1,.int .u8 x.f2],rfl,rfl,⟨[.int .u8 x.f1],[.int .u8 x.f2],rfl,rfl,rfl⟩⟩
theorem k209_mkM (w : World) (base : Nat) (ok : Nat → Prop) (x : S209)  : k209.M w base ok x [.int .u8 x.f0,.int .u8 x.f1,.int .u8 x.f2]:=⟨[.int .u8 x.f0],[.int .u8 x.f1,.int .u8 x.f2],rfl,rfl,⟨[.int .u8 x.f1],[.int .u8 x.f2],rfl,rfl,rfl⟩⟩
def rd_T209 (xs : List S209) (i : Int) : S209:=xs.getD i.toNat z209
theorem at_T209 {w : World} {A : Option Addr} {n : Nat} {xs : List S209} (h : Kd.C k209 w A n xs) (i : Int) (h0 : 0 ≤ i) (h1 : i < n) : ∃ ad ,A = some ad ∧ w.cell? (ad.add (i.toNat * 3)) = some (.int .u8 (rd_T209 xs i).f0) ∧ w.cell? ⟨(ad.add (i.toNat * 3)).block,(ad.add (i.toNat * 3)).off + 1,none⟩ = some (.int .u8 (rd_T209 xs i).f1) ∧ w.cell? ⟨(ad.add (i.toNat * 3)).block,(ad.add (i.toNat * 3)).off + 2,none⟩ = some (.int .u8 (rd_T209 xs i).f2):=by
  obtain ⟨ad,c,e,_,hK,hc0⟩:=Kd.C_get h z209 i h0 h1;have hc : ∀ j u,c[j]? = some u → w.cell? (ad.add (i.toNat * 3 + j)) = some u:=hc0;obtain rfl:=k209_open hK;exact ⟨ad,e,hc 0 _ rfl,by rw [← add_field _ _ 1 (by omega)];exact hc 1 _ rfl,by rw [← add_field _ _ 2 (by omega)];exact hc 2 _ rfl⟩

/-! #### struct type 214, nested in itself -/
structure S214 where
  f0 : Int
  f1 : Int
  f2 : Int
  f3 : S209
  f4 : (List S214)
def z214 : S214:=⟨(0 : Int),(0 : Int),(0 : Int),z209,([] : List S214)⟩
def F214 (d : Kd S214) : Kd S214:=Kd.iso (Kd.pair (Kd.int .u8) (Kd.pair (Kd.int .i64) (Kd.pair (Kd.int .u8) (Kd.pair k209 (Kd.slice 214 d))))) (fun x : S214 => (x.f0,x.f1,x.f2,x.f3,x.f4))
theorem mono214 : Kd.Mono F214:=Kd.mono_iso _ (Kd.mono_pair (Kd.mono_const _) (Kd.mono_pair (Kd.mono_const _) (Kd.mono_pair (Kd.mono_const _) (Kd.mono_pair (Kd.mono_const _) (Kd.mono_slice 214 Kd.mono_id)))))
theorem sub214 : Kd.Sub F214 [214]:=Kd.sub_iso _ (Kd.sub_pair (Kd.sub_const _ (by decide)) (Kd.sub_pair (Kd.sub_const _ (by decide)) (Kd.sub_pair (Kd.sub_const _ (by decide)) (Kd.sub_pair (Kd.sub_const _ (by decide)) (Kd.sub_slice 214 (by decide) Kd.sub_id)))))
theorem sz214 : ∀ n,(Kd.upto F214 7 [214] n).sz = 7:=Kd.upto_sz (fun _ => rfl)
def k214 : Kd S214:=Kd.fix F214 7 [214] sz214 (Kd.upto_E sub214)
theorem k214_open {w : World} {x : S214} {cs : List Value} (h : k214.K w x cs) : ∃ A6 c6,cs = [.int .u8 x.f0,.int .i64 x.f1,.int .u8 x.f2,.int .u8 x.f3.f0,.int .u8 x.f3.f1,.int .u8 x.f3.f2,.slice A6 x.f4.length c6] ∧ x.f4.length ≤ c6 ∧ k214.C w A6 x.f4.length x.f4:=by
  obtain ⟨n,h⟩:=h
  cases n with
  | zero => exact h.elim
  | succ n =>
    obtain ⟨_,_,rfl,rfl,⟨_,_,rfl,rfl,⟨_,_,rfl,rfl,⟨_,_,rfl,s3,⟨A6,c6,rfl,l6,g6⟩⟩⟩⟩⟩:=h;obtain rfl:=k209_open s3;exact ⟨A6,c6,rfl,l6,Kd.fix_C g6⟩
theorem k214_openM {w : World} {base : Nat} {ok : Nat → Prop} {x : S214} {cs : List Value} (h : k214.M w base ok x cs) : ∃ v6,cs = [.int .u8 x.f0,.int .i64 x.f1,.int .u8 x.f2,.int .u8 x.f3.f0,.int .u8 x.f3.f1,.int .u8 x.f3.f2,v6] ∧ k214.R 214 w base ok v6 x.f4:=by
  obtain ⟨n,h⟩:=h
  cases n with
  | zero => exact h.elim
  | succ n =>
    obtain ⟨_,_,rfl,rfl,⟨_,_,rfl,rfl,⟨_,_,rfl,rfl,⟨_,_,rfl,s3,⟨v6,rfl,g6⟩⟩⟩⟩⟩:=h;obtain rfl:=k209_openM s3;exact ⟨v6,rfl,Kd.fix_R g6⟩
theorem k214_mk (w : World) (x : S214) {A6 : Option Addr} {c6 : Nat} (l6 : x.f4.length ≤ c6) (g6 : k214.C w A6 x.f4.length x.f4) : k214.K w x [.int .u8 x.f0,.int .i64 x.f1,.int .u8 x.f2,.int .u8 x.f3.f0,.int .u8 x.f3.f1,.int .u8 x.f3.f2,.slice A6 x.f4.length c6]:=by
  obtain ⟨n6,q6⟩:=Kd.fix_C_back mono214 g6;have r6:=Kd.upto_C_le mono214 sz214 (show n6 ≤ n6 by omega) q6;exact ⟨n6 + 1,⟨[.int .u8 x.f0],[.int .i64 x.f1,.int .u8 x.f2,.int .u8 x.f3.f0,.int .u8 x.f3.f1,.int .u8 x.f3.f2,.slice A6 x.f4.length c6],rfl,rfl,⟨[.int .i64 x.f1],[.int .u8 x.f2,.int .u8 x.f3.f0,.int .u8 x.f3.f1,.int .u8 x.f3.f2,.slice A6 x.f4.length c6],rfl,rfl,⟨[.int .u8 x.f2],[.int .u8 x.f3.f0,.int .u8 x.f3.f1,.int .u8 x.f3.f2,.slice A6 x.f4.length c6],rfl,rfl,⟨[.int .u8 x.f3.f0,.int .u8 x.f3.f1,.int .u8 x.f3.f2],[.slice A6 x.f4.length c6],rfl,(k209_mk w x.f3 ),⟨A6,c6,rfl,l6,r6⟩⟩⟩⟩⟩⟩
theorem k214_mkM (w : World) (base : Nat) (ok : Nat → Prop) (x : S214) {v6 : Value} (g6 : k214.R 214 w base ok v6 x.f4) : k214.M w base ok x [.int .u8 x.f0,.int .i64 x.f1,.int .u8 x.f2,.int .u8 x.f3.f0,.int .u8 x.f3.f1,.int .u8 x.f3.f2,v6]:=by
  obtain ⟨n6,q6⟩:=Kd.fix_R_back mono214 g6;have r6:=Kd.upto_R_le mono214 sz214 (show n6 ≤ n6 by omega) q6;exact ⟨n6 + 1,⟨[.int .u8 x.f0],[.int .i64 x.f1,.int .u8 x.f2,.int .u8 x.f3.f0,.int .u8 x.f3.f1,.int .u8 x.f3.f2,v6],rfl,rfl,⟨[.int .i64 x.f1],[.int .u8 x.f2,.int .u8 x.f3.f0,.int .u8 x.f3.f1,.int .u8 x.f3.f2,v6],rfl,rfl,⟨[.int .u8 x.f2],[.int .u8 x.f3.f0,.int .u8 x.f3.f1,.int .u8 x.f3.f2,v6],rfl,rfl,⟨[.int .u8 x.f3.f0,.int .u8 x.f3.f1,.int .u8 x.f3.f2],[v6],rfl,(k209_mkM w base ok x.f3 ),⟨v6,rfl,r6⟩⟩⟩⟩⟩⟩
def rd_T214 (xs : List S214) (i : Int) : S214:=xs.getD i.toNat z214
theorem at_T214 {w : World} {A : Option Addr} {n : Nat} {xs : List S214} (h : Kd.C k214 w A n xs) (i : Int) (h0 : 0 ≤ i) (h1 : i < n) : ∃ ad A6 c6,A = some ad ∧ w.cell? (ad.add (i.toNat * 7)) = some (.int .u8 (rd_T214 xs i).f0) ∧ w.cell? ⟨(ad.add (i.toNat * 7)).block,(ad.add (i.toNat * 7)).off + 1,none⟩ = some (.int .i64 (rd_T214 xs i).f1) ∧ w.cell? ⟨(ad.add (i.toNat * 7)).block,(ad.add (i.toNat * 7)).off + 2,none⟩ = some (.int .u8 (rd_T214 xs i).f2) ∧ w.cell? ⟨(ad.add (i.toNat * 7)).block,(ad.add (i.toNat * 7)).off + 3,none⟩ = some (.int .u8 (rd_T214 xs i).f3.f0) ∧ w.cell? ⟨(ad.add (i.toNat * 7)).block,(ad.add (i.toNat * 7)).off + 4,none⟩ = some (.int .u8 (rd_T214 xs i).f3.f1) ∧ w.cell? ⟨(ad.add (i.toNat * 7)).block,(ad.add (i.toNat * 7)).off + 5,none⟩ = some (.int .u8 (rd_T214 xs i).f3.f2) ∧ w.cell? ⟨(ad.add (i.toNat * 7)).block,(ad.add (i.toNat * 7)).off + 6,none⟩ = some (.slice A6 (rd_T214 xs i).f4.length c6) ∧ (rd_T214 xs i).f4.length ≤ c6 ∧ k214.C w A6 (rd_T214 xs i).f4.length (rd_T214 xs i).f4:=by
  obtain ⟨ad,c,e,_,hK,hc0⟩:=Kd.C_get h z214 i h0 h1;have hc : ∀ j u,c[j]? = some u → w.cell? (ad.add (i.toNat * 7 + j)) = some u:=hc0;obtain ⟨A6,c6,rfl,l6,g6⟩:=k214_open hK;exact ⟨ad,A6,c6,e,hc 0 _ rfl,by rw [← add_field _ _ 1 (by omega)];exact hc 1 _ rfl,by rw [← add_field _ _ 2 (by omega)];exact hc 2 _ rfl,by rw [← add_field _ _ 3 (by omega)];exact hc 3 _ rfl,by rw [← add_field _ _ 4 (by omega)];exact hc 4 _ rfl,by rw [← add_field _ _ 5 (by omega)];exact hc 5 _ rfl,by rw [← add_field _ _ 6 (by omega)];exact hc 6 _ rfl,l6,g6⟩

def rd_L6 (xs : List (List S214)) (i : Int) : (List S214):=xs.getD i.toNat ([] : List S214)
theorem at_L6 {w : World} {A : Option Addr} {n : Nat} {xs : List (List S214)} (h : Kd.C (Kd.slice 214 k214) w A n xs) (i : Int) (h0 : 0 ≤ i) (h1 : i < n) : ∃ ad A0 c0,A = some ad ∧ w.cell? (ad.add i.toNat) = some (.slice A0 (rd_L6 xs i).length c0) ∧ (rd_L6 xs i).length ≤ c0 ∧ k214.C w A0 (rd_L6 xs i).length (rd_L6 xs i):=by
  obtain ⟨ad,c,e,_,hK,hc0⟩:=Kd.C_get h ([] : List S214) i h0 h1;have hc : ∀ j u,c[j]? = some u → w.cell? (ad.add (i.toNat * 1 + j)) = some u:=hc0;obtain ⟨A0,c0,rfl,l0,g0⟩:=hK;exact ⟨ad,A0,c0,e,by have hq:=hc 0 _ rfl;rwa [Nat.mul_one,Nat.add_zero] at hq,l0,g0⟩

/-! #### struct type 216 -/
structure S216 where
  f0 : Int
  f1 : Int
  f2 : S214
  f3 : Bool
  f4 : S209
def z216 : S216:=⟨(0 : Int),(0 : Int),z214,false,z209⟩
def k216 : Kd S216:=Kd.iso (Kd.pair (Kd.int .u8) (Kd.pair (Kd.int .u8) (Kd.pair k214 (Kd.pair Kd.bool k209)))) (fun x : S216 => (x.f0,x.f1,x.f2,x.f3,x.f4))
theorem k216_open {w : World} {x : S216} {cs : List Value} (h : k216.K w x cs) : ∃ A8 c8,cs = [.int .u8 x.f0,.int .u8 x.f1,.int .u8 x.f2.f0,.int .i64 x.f2.f1,.int .u8 x.f2.f2,.int .u8 x.f2.f3.f0,.int .u8 x.f2.f3.f1,.int .u8 x.f2.f3.f2,.slice A8 x.f2.f4.length c8,.bool x.f3,.int .u8 x.f4.f0,.int .u8 x.f4.f1,.int .u8 x.f4.f2] ∧ x.f2.f4.length ≤ c8 ∧ k214.C w A8 x.f2.f4.length x.f2.f4:=by
  obtain ⟨_,_,rfl,rfl,⟨_,_,rfl,rfl,⟨_,_,rfl,s2,⟨_,_,rfl,rfl,s10⟩⟩⟩⟩:=h;obtain ⟨A8,c8,rfl,l8,g8⟩:=k214_open s2;obtain rfl:=k209_open s10;exact ⟨A8,c8,rfl,l8,g8⟩
theorem k216_openM {w : World} {base : Nat} {ok : Nat → Prop} {x : S216} {cs : List Value} (h : k216.M w base ok x cs) : ∃ v8,cs = [.int .u8 x.f0,.int .u8 x.f1,.int .u8 x.f2.f0,.int .i64 x.f2.f1,.int .u8 x.f2.f2,.int .u8 x.f2.f3.f0,.int .u8 x.f2.f3.f1,.int .u8 x.f2.f3.f2,v8,.bool x.f3,.int .u8 x.f4.f0,.int .u8 x.f4.f1,.int .u8 x.f4.f2] ∧ k214.R 214 w base ok v8 x.f2.f4:=by
  obtain ⟨_,_,rfl,rfl,⟨_,_,rfl,rfl,⟨_,_,rfl,s2,⟨_,_,rfl,rfl,s10⟩⟩⟩⟩:=h;obtain ⟨v8,rfl,g8⟩:=k214_openM s2;obtain rfl:=k209_openM s10;exact ⟨v8,rfl,g8⟩
theorem k216_mk (w : World) (x : S216) {A8 : Option Addr} {c8 : Nat} (l8 : x.f2.f4.length ≤ c8) (g8 : k214.C w A8 x.f2.f4.length x.f2.f4) : k216.K w x [.int .u8 x.f0,.int .u8 x.f1,.int .u8 x.f2.f0,.int .i64 x.f2.f1,.int .u8 x.f2.f2,.int .u8 x.f2.f3.f0,.int .u8 x.f2.f3.f1,.int .u8 x.f2.f3.f2,.slice A8 x.f2.f4.length c8,.bool x.f3,.int .u8 x.f4.f0,.int .u8 x.f4.f1,.int .u8 x.f4.f2]:=⟨[.int .u8 x.f0],[.int .u8 x.f1,.int .u8 x.f2.f0,.int .i64 x.f2.f1,.int .u8 x.f2.f2,.int .u8 x.f2.f3.f0,.int .u8 x.f2.f3.f1,.int .u8 x.f2.f3.f2,.slice A8 x.f2.f4.length c8,.bool x.f3,.int .u8 x.f4.f0,.int .u8 x.f4.f1,.int .u8 x.f4.f2],rfl,rfl,⟨[.int .u8 x.f1],[.int .u8 x.f2.f0,.int .i64 x.f2.f1,.int .u8 x.f2.f2,.int .u8 x.f2.f3.f0,.int .u8 x.f2.f3.f1,.int .u8 x.f2.f3.f2,.slice A8 x.f2.f4.length c8,.bool x.f3,.int .u8 x.f4.f0,.int .u8 x.f4.f1,.int .u8 x.f4.f2],rfl,rfl,⟨[.int .u8 x.f2.f0,.int .i64 x.f2.f1,.int .u8 x.f2.f2,.int .u8 x.f2.f3.f0,.int .u8 x.f2.f3.f1,.int .u8 x.f2.f3.f2,.slice A8 x.f2.f4.length c8],[.bool x.f3,.int .u8 x.f4.f0,.int .u8 x.f4.f1,.int .u8 x.f4.f2],rfl,(k214_mk w x.f2 l8 g8),⟨[.bool x.f3],[.int .u8 x.f4.f0,.int .u8 x.f4.f1,.int .u8 x.f4.f2],rfl,rfl,(k209_mk w x.f4 )⟩⟩⟩⟩
theorem k216_mkM (w : World) (base : Nat) (ok : Nat → Prop) (x : S216) {v8 : Value} (g8 : k214.R 214 w base ok v8 x.f2.f4) : k216.M w base ok x [.int .u8 x.f0,.int .u8 x.f1,.int .u8 x.f2.f0,.int .i64 x.f2.f1,.int .u8 x.f2.f2,.int .u8 x.f2.f3.f0,.int .u8 x.f2.f3.f1,.int .u8 x.f2.f3.f2,v8,.bool x.f3,.int .u8 x.f4.f0,.int .u8 x.f4.f1,.int .u8 x.f4.f2]:=⟨[.int .u8 x.f0],[.int .u8 x.f1,.int .u8 x.f2.f0,.int .i64 x.f2.f1,.int .u8 x.f2.f2,.int .u8 x.f2.f3.f0,.int .u8 x.f2.f3.f1,.int .u8 x.f2.f3.f2,v8,.bool x.f3,.int .u8 x.f4.f0,.int .u8 x.f4.f1,.int .u8 x.f4.f2],rfl,rfl,⟨[.int .u8 x.f1],[.int .u8 x.f2.f0,.int .i64 x.f2.f1,.int .u8 x.f2.f2,.int .u8 x.f2.f3.f0,.int .u8 x.f2.f3.f1,.int .u8 x.f2.f3.f2,v8,.bool x.f3,.int .u8 x.f4.f0,.int .u8 x.f4.f1,.int .u8 x.f4.f2],rfl,rfl,⟨[.int .u8 x.f2.f0,.int .i64 x.f2.f1,.int .u8 x.f2.f2,.int .u8 x.f2.f3.f0,.int .u8 x.f2.f3.f1,.int .u8 x.f2.f3.f2,v8],[.bool x.f3,.int .u8 x.f4.f0,.int .u8 x.f4.f1,.int .u8 x.f4.f2],rfl,(k214_mkM w base ok x.f2 g8),⟨[.bool x.f3],[.int .u8 x.f4.f0,.int .u8 x.f4.f1,.int .u8 x.f4.f2],rfl,rfl,(k209_mkM w base ok x.f4 )⟩⟩⟩⟩
def rd_T216 (xs : List S216) (i : Int) : S216:=xs.getD i.toNat z216
theorem at_T216 {w : World} {A : Option Addr} {n : Nat} {xs : List S216} (h : Kd.C k216 w A n xs) (i : Int) (h0 : 0 ≤ i) (h1 : i < n) : ∃ ad A8 c8,A = some ad ∧ w.cell? (ad.add (i.toNat * 13)) = some (.int .u8 (rd_T216 xs i).f0) ∧ w.cell? ⟨(ad.add (i.toNat * 13)).block,(ad.add (i.toNat * 13)).off + 1,none⟩ = some (.int .u8 (rd_T216 xs i).f1) ∧ w.cell? ⟨(ad.add (i.toNat * 13)).block,(ad.add (i.toNat * 13)).off + 2,none⟩ = some (.int .u8 (rd_T216 xs i).f2.f0) ∧ w.cell? ⟨(ad.add (i.toNat * 13)).block,(ad.add (i.toNat * 13)).off + 3,none⟩ = some (.int .i64 (rd_T216 xs i).f2.f1) ∧ w.cell? ⟨(ad.add (i.toNat * 13)).block,(ad.add (i.toNat * 13)).off + 4,none⟩ = some (.int .u8 (rd_T216 xs i).f2.f2) ∧ w.cell? ⟨(ad.add (i.toNat * 13)).block,(ad.add (i.toNat * 13)).off + 5,none⟩ = some (.int .u8 (rd_T216 xs i).f2.f3.f0) ∧ w.cell? ⟨(ad.add (i.toNat * 13)).block,(ad.add (i.toNat * 13)).off + 6,none⟩ = some (.int .u8 (rd_T216 xs i).f2.f3.f1) ∧ w.cell? ⟨(ad.add (i.toNat * 13)).block,(ad.add (i.toNat * 13)).off + 7,none⟩ = some (.int .u8 (rd_T216 xs i).f2.f3.f2) ∧ w.cell? ⟨(ad.add (i.toNat * 13)).block,(ad.add (i.toNat * 13)).off + 8,none⟩ = some (.slice A8 (rd_T216 xs i).f2.f4.length c8) ∧ w.cell? ⟨(ad.add (i.toNat * 13)).block,(ad.add (i.toNat * 13)).off + 9,none⟩ = some (.bool (rd_T216 xs i).f3) ∧ w.cell? ⟨(ad.add (i.toNat * 13)).block,(ad.add (i.toNat * 13)).off + 10,none⟩ = some (.int .u8 (rd_T216 xs i).f4.f0) ∧ w.cell? ⟨(ad.add (i.toNat * 13)).block,(ad.add (i.toNat * 13)).off + 11,none⟩ = some (.int .u8 (rd_T216 xs i).f4.f1) ∧ w.cell? ⟨(ad.add (i.toNat * 13)).block,(ad.add (i.toNat * 13)).off + 12,none⟩ = some (.int .u8 (rd_T216 xs i).f4.f2) ∧ (rd_T216 xs i).f2.f4.length ≤ c8 ∧ k214.C w A8 (rd_T216 xs i).f2.f4.length (rd_T216 xs i).f2.f4:=by
  obtain ⟨ad,c,e,_,hK,hc0⟩:=Kd.C_get h z216 i h0 h1;have hc : ∀ j u,c[j]? = some u → w.cell? (ad.add (i.toNat * 13 + j)) = some u:=hc0;obtain ⟨A8,c8,rfl,l8,g8⟩:=k216_open hK;exact ⟨ad,A8,c8,e,hc 0 _ rfl,by rw [← add_field _ _ 1 (by omega)];exact hc 1 _ rfl,by rw [← add_field _ _ 2 (by omega)];exact hc 2 _ rfl,by rw [← add_field _ _ 3 (by omega)];exact hc 3 _ rfl,by rw [← add_field _ _ 4 (by omega)];exact hc 4 _ rfl,by rw [← add_field _ _ 5 (by omega)];exact hc 5 _ rfl,by rw [← add_field _ _ 6 (by omega)];exact hc 6 _ rfl,by rw [← add_field _ _ 7 (by omega)];exact hc 7 _ rfl,by rw [← add_field _ _ 8 (by omega)];exact hc 8 _ rfl,by rw [← add_field _ _ 9 (by omega)];exact hc 9 _ rfl,by rw [← add_field _ _ 10 (by omega)];exact hc 10 _ rfl,by rw [← add_field _ _ 11 (by omega)];exact hc 11 _ rfl,by rw [← add_field _ _ 12 (by omega)];exact hc 12 _ rfl,l8,g8⟩

def rd_L9 (xs : List (List S216)) (i : Int) : (List S216):=xs.getD i.toNat ([] : List S216)
theorem at_L9 {w : World} {A : Option Addr} {n : Nat} {xs : List (List S216)} (h : Kd.C (Kd.slice 216 k216) w A n xs) (i : Int) (h0 : 0 ≤ i) (h1 : i < n) : ∃ ad A0 c0,A = some ad ∧ w.cell? (ad.add i.toNat) = some (.slice A0 (rd_L9 xs i).length c0) ∧ (rd_L9 xs i).length ≤ c0 ∧ k216.C w A0 (rd_L9 xs i).length (rd_L9 xs i):=by
  obtain ⟨ad,c,e,_,hK,hc0⟩:=Kd.C_get h ([] : List S216) i h0 h1;have hc : ∀ j u,c[j]? = some u → w.cell? (ad.add (i.toNat * 1 + j)) = some u:=hc0;obtain ⟨A0,c0,rfl,l0,g0⟩:=hK;exact ⟨ad,A0,c0,e,by have hq:=hc 0 _ rfl;rwa [Nat.mul_one,Nat.add_zero] at hq,l0,g0⟩

/-! #### struct type 212 -/
structure S212 where
  f0 : Int
  f1 : Int
  f2 : Int
  f3 : (List S214)
  f4 : Int
  f5 : Int
  f6 : Bool
  f7 : Int
  f8 : S209
  f9 : (List S216)
def z212 : S212:=⟨(0 : Int),(0 : Int),(0 : Int),([] : List S214),(0 : Int),(0 : Int),false,(0 : Int),z209,([] : List S216)⟩
def k212 : Kd S212:=Kd.iso (Kd.pair (Kd.int .u8) (Kd.pair (Kd.int .u8) (Kd.pair (Kd.int .u8) (Kd.pair (Kd.slice 214 k214) (Kd.pair (Kd.int .i64) (Kd.pair (Kd.int .i64) (Kd.pair Kd.bool (Kd.pair (Kd.int .i64) (Kd.pair k209 (Kd.slice 216 k216)))))))))) (fun x : S212 => (x.f0,x.f1,x.f2,x.f3,x.f4,x.f5,x.f6,x.f7,x.f8,x.f9))
theorem k212_open {w : World} {x : S212} {cs : List Value} (h : k212.K w x cs) : ∃ A3 c3 A11 c11,cs = [.int .u8 x.f0,.int .u8 x.f1,.int .u8 x.f2,.slice A3 x.f3.length c3,.int .i64 x.f4,.int .i64 x.f5,.bool x.f6,.int .i64 x.f7,.int .u8 x.f8.f0,.int .u8 x.f8.f1,.int .u8 x.f8.f2,.slice A11 x.f9.length c11] ∧ x.f3.length ≤ c3 ∧ k214.C w A3 x.f3.length x.f3 ∧ x.f9.length ≤ c11 ∧ k216.C w A11 x.f9.length x.f9:=by
  obtain ⟨_,_,rfl,rfl,⟨_,_,rfl,rfl,⟨_,_,rfl,rfl,⟨_,_,rfl,⟨A3,c3,rfl,l3,g3⟩,⟨_,_,rfl,rfl,⟨_,_,rfl,rfl,⟨_,_,rfl,rfl,⟨_,_,rfl,rfl,⟨_,_,rfl,s8,⟨A11,c11,rfl,l11,g11⟩⟩⟩⟩⟩⟩⟩⟩⟩⟩:=h;obtain rfl:=k209_open s8;exact ⟨A3,c3,A11,c11,rfl,l3,g3,l11,g11⟩
theorem k212_openM {w : World} {base : Nat} {ok : Nat → Prop} {x : S212} {cs : List Value} (h : k212.M w base ok x cs) : ∃ v3 v11,cs = [.int .u8 x.f0,.int .u8 x.f1,.int .u8 x.f2,v3,.int .i64 x.f4,.int .i64 x.f5,.bool x.f6,.int .i64 x.f7,.int .u8 x.f8.f0,.int .u8 x.f8.f1,.int .u8 x.f8.f2,v11] ∧ k214.R 214 w base ok v3 x.f3 ∧ k216.R 216 w base ok v11 x.f9:=by
  obtain ⟨_,_,rfl,rfl,⟨_,_,rfl,rfl,⟨_,_,rfl,rfl,⟨_,_,rfl,⟨v3,rfl,g3⟩,⟨_,_,rfl,rfl,⟨_,_,rfl,rfl,⟨_,_,rfl,rfl,⟨_,_,rfl,rfl,⟨_,_,rfl,s8,⟨v11,rfl,g11⟩⟩⟩⟩⟩⟩⟩⟩⟩⟩:=h;obtain rfl:=k209_openM s8;exact ⟨v3,v11,rfl,g3,g11⟩
theorem k212_mk (w : World) (x : S212) {A3 : Option Addr} {c3 : Nat} (l3 : x.f3.length ≤ c3) (g3 : k214.C w A3 x.f3.length x.f3) {A11 : Option Addr} {c11 : Nat} (l11 : x.f9.length ≤ c11) (g11 : k216.C w A11 x.f9.length x.f9) : k212.K w x [.int .u8 x.f0,.int .u8 x.f1,.int .u8 x.f2,.slice A3 x.f3.length c3,.int .i64 x.f4,.int .i64 x.f5,.bool x.f6,.int .i64 x.f7,.int .u8 x.f8.f0,.int .u8 x.f8.f1,.int .u8 x.f8.f2,.slice A11 x.f9.length c11]:=⟨[.int .u8 x.f0],[.int .u8 x.f1,.int .u8 x.f2,.slice A3 x.f3.length c3,.int .i64 x.f4,.int .i64 x.f5,.bool x.f6,.int .i64 x.f7,.int .u8 x.f8.f0,.int .u8 x.f8.f1,.int .u8 x.f8.f2,.slice A11 x.f9.length c11],rfl,rfl,⟨[.int .u8 x.f1],[.int .u8 x.f2,.slice A3 x.f3.length c3,.int .i64 x.f4,.int .i64 x.f5,.bool x.f6,.int .i64 x.f7,.int .u8 x.f8.f0,.int .u8 x.f8.f1,.int .u8 x.f8.f2,.slice A11 x.f9.length c11],rfl,rfl,⟨[.int .u8 x.f2],[.slice A3 x.f3.length c3,.int .i64 x.f4,.int .i64 x.f5,.bool x.f6,.int .i64 x.f7,.int .u8 x.f8.f0,.int .u8 x.f8.f1,.int .u8 x.f8.f2,.slice A11 x.f9.length c11],rfl,rfl,⟨[.slice A3 x.f3.length c3],[.int .i64 x.f4,.int .i64 x.f5,.bool x.f6,.int .i64 x.f7,.int .u8 x.f8.f0,.int .u8 x.f8.f1,.int .u8 x.f8.f2,.slice A11 x.f9.length c11],rfl,⟨A3,c3,rfl,l3,g3⟩,⟨[.int .i64 x.f4],[.int .i64 x.f5,.bool x.f6,.int .i64 x.f7,.int .u8 x.f8.f0,.int .u8 x.f8.f1,.int .u8 x.f8.f2,.slice A11 x.f9.length c11],rfl,rfl,⟨[.int .i64 x.f5],[.bool x.f6,.int .i64 x.f7,.int .u8 x.f8.f0,.int .u8 x.f8.f1,.int .u8 x.f8.f2,.slice A11 x.f9.length c11],rfl,rfl,⟨[.bool x.f6],[.int .i64 x.f7,.int .u8 x.f8.f0,.int .u8 x.f8.f1,.int .u8 x.f8.f2,.slice A11 x.f9.length c11],rfl,rfl,⟨[.int .i64 x.f7],[.int .u8 x.f8.f0,.int .u8 x.f8.f1,.int .u8 x.f8.f2,.slice A11 x.f9.length c11],rfl,rfl,⟨[.int .u8 x.f8.f0,.int .u8 x.f8.f1,.int .u8 x.f8.f2],[.slice A11 x.f9.length c11],rfl,(k209_mk w x.f8 ),⟨A11,c11,rfl,l11,g11⟩⟩⟩⟩⟩⟩⟩⟩⟩⟩
theorem k212_mkM (w : World) (base : Nat) (ok : Nat → Prop) (x : S212) {v3 : Value} (g3 : k214.R 214 w base ok v3 x.f3) {v11 : Value} (g11 : k216.R 216 w base ok v11 x.f9) : k212.M w base ok x [.int .u8 x.f0,.int .u8 x.f1,.int .u8 x.f2,v3,.int .i64 x.f4,.int .i64 x.f5,.bool x.f6,.int .i64 x.f7,.int .u8 x.f8.f0,.int .u8 x.f8.f1,.int .u8 x.f8.f2,v11]:=⟨[.int .u8 x.f0],[.int .u8 x.f1,.int .u8 x.f2,v3,.int .i64 x.f4,.int .i64 x.f5,.bool x.f6,.int .i64 x.f7,.int .u8 x.f8.f0,.int .u8 x.f8.f1,.int .u8 x.f8.f2,v11],rfl,rfl,⟨[.int .u8 x.f1],[.int .u8 x.f2,v3,.int .i64 x.f4,.int .i64 x.f5,.bool x.f6,.int .i64 x.f7,.int .u8 x.f8.f0,.int .u8 x.f8.f1,.int .u8 x.f8.f2,v11],rfl,rfl,⟨[.int .u8 x.f2],[v3,.int .i64 x.f4,.int .i64 x.f5,.bool x.f6,.int .i64 x.f7,.int .u8 x.f8.f0,.int .u8 x.f8.f1,.int .u8 x.f8.f2,v11],rfl,rfl,⟨[v3],[.int .i64 x.f4,.int .i64 x.f5,.bool x.f6,.int .i64 x.f7,.int .u8 x.f8.f0,.int .u8 x.f8.f1,.int .u8 x.f8.f2,v11],rfl,⟨v3,rfl,g3⟩,⟨[.int .i64 x.f4],[.int .i64 x.f5,.bool x.f6,.int .i64 x.f7,.int .u8 x.f8.f0,.int .u8 x.f8.f1,.int .u8 x.f8.f2,v11],rfl,rfl,⟨[.int .i64 x.f5],[.bool x.f6,.int .i64 x.f7,.int .u8 x.f8.f0,.int .u8 x.f8.f1,.int .u8 x.f8.f2,v11],rfl,rfl,⟨[.bool x.f6],[.int .i64 x.f7,.int .u8 x.f8.f0,.int .u8 x.f8.f1,.int .u8 x.f8.f2,v11],rfl,rfl,⟨[.int .i64 x.f7],[.int .u8 x.f8.f0,.int .u8 x.f8.f1,.int .u8 x.f8.f2,v11],rfl,rfl,⟨[.int .u8 x.f8.f0,.int .u8 x.f8.f1,.int .u8 x.f8.f2],[v11],rfl,(k209_mkM w base ok x.f8 ),⟨v11,rfl,g11⟩⟩⟩⟩⟩⟩⟩⟩⟩⟩
def rd_T212 (xs : List S212) (i : Int) : S212:=xs.getD i.toNat z212
theorem at_T212 {w : World} {A : Option Addr} {n : Nat} {xs : List S212} (h : Kd.C k212 w A n xs) (i : Int) (h0 : 0 ≤ i) (h1 : i < n) : ∃ ad A3 c3 A11 c11,A = some ad ∧ w.cell? (ad.add (i.toNat * 12)) = some (.int .u8 (rd_T212 xs i).f0) ∧ w.cell? ⟨(ad.add (i.toNat * 12)).block,(ad.add (i.toNat * 12)).off + 1,none⟩ = some (.int .u8 (rd_T212 xs i).f1) ∧ w.cell? ⟨(ad.add (i.toNat * 12)).block,(ad.add (i.toNat * 12)).off + 2,none⟩ = some (.int .u8 (rd_T212 xs i).f2) ∧ w.cell? ⟨(ad.add (i.toNat * 12)).block,(ad.add (i.toNat * 12)).off + 3,none⟩ = some (.slice A3 (rd_T212 xs i).f3.length c3) ∧ w.cell? ⟨(ad.add (i.toNat * 12)).block,(ad.add (i.toNat * 12)).off + 4,none⟩ = some (.int .i64 (rd_T212 xs i).f4) ∧ w.cell? ⟨(ad.add (i.toNat * 12)).block,(ad.add (i.toNat * 12)).off + 5,none⟩ = some (.int .i64 (rd_T212 xs i).f5) ∧ w.cell? ⟨(ad.add (i.toNat * 12)).block,(ad.add (i.toNat * 12)).off + 6,none⟩ = some (.bool (rd_T212 xs i).f6) ∧ w.cell? ⟨(ad.add (i.toNat * 12)).block,(ad.add (i.toNat * 12)).off + 7,none⟩ = some (.int .i64 (rd_T212 xs i).f7) ∧ w.cell? ⟨(ad.add (i.toNat * 12)).block,(ad.add (i.toNat * 12)).off + 8,none⟩ = some (.int .u8 (rd_T212 xs i).f8.f0) ∧ w.cell? ⟨(ad.add (i.toNat * 12)).block,(ad.add (i.toNat * 12)).off + 9,none⟩ = some (.int .u8 (rd_T212 xs i).f8.f1) ∧ w.cell? ⟨(ad.add (i.toNat * 12)).block,(ad.add (i.toNat * 12)).off + 10,none⟩ = some (.int .u8 (rd_T212 xs i).f8.f2) ∧ w.cell? ⟨(ad.add (i.toNat * 12)).block,(ad.add (i.toNat * 12)).off + 11,none⟩ = some (.slice A11 (rd_T212 xs i).f9.length c11) ∧ (rd_T212 xs i).f3.length ≤ c3 ∧ k214.C w A3 (rd_T212 xs i).f3.length (rd_T212 xs i).f3 ∧ (rd_T212 xs i).f9.length ≤ c11 ∧ k216.C w A11 (rd_T212 xs i).f9.length (rd_T212 xs i).f9:=by
  obtain ⟨ad,c,e,_,hK,hc0⟩:=Kd.C_get h z212 i h0 h1;have hc : ∀ j u,c[j]? = some u → w.cell? (ad.add (i.toNat * 12 + j)) = some u:=hc0;obtain ⟨A3,c3,A11,c11,rfl,l3,g3,l11,g11⟩:=k212_open hK;exact ⟨ad,A3,c3,A11,c11,e,hc 0 _ rfl,by rw [← add_field _ _ 1 (by omega)];exact hc 1 _ rfl,by rw [← add_field _ _ 2 (by omega)];exact hc 2 _ rfl,by rw [← add_field _ _ 3 (by omega)];exact hc 3 _ rfl,by rw [← add_field _ _ 4 (by omega)];exact hc 4 _ rfl,by rw [← add_field _ _ 5 (by omega)];exact hc 5 _ rfl,by rw [← add_field _ _ 6 (by omega)];exact hc 6 _ rfl,by rw [← add_field _ _ 7 (by omega)];exact hc 7 _ rfl,by rw [← add_field _ _ 8 (by omega)];exact hc 8 _ rfl,by rw [← add_field _ _ 9 (by omega)];exact hc 9 _ rfl,by rw [← add_field _ _ 10 (by omega)];exact hc 10 _ rfl,by rw [← add_field _ _ 11 (by omega)];exact hc 11 _ rfl,l3,g3,l11,g11⟩

def rd_L11 (xs : List (List S212)) (i : Int) : (List S212):=xs.getD i.toNat ([] : List S212)
theorem at_L11 {w : World} {A : Option Addr} {n : Nat} {xs : List (List S212)} (h : Kd.C (Kd.slice 212 k212) w A n xs) (i : Int) (h0 : 0 ≤ i) (h1 : i < n) : ∃ ad A0 c0,A = some ad ∧ w.cell? (ad.add i.toNat) = some (.slice A0 (rd_L11 xs i).length c0) ∧ (rd_L11 xs i).length ≤ c0 ∧ k212.C w A0 (rd_L11 xs i).length (rd_L11 xs i):=by
  obtain ⟨ad,c,e,_,hK,hc0⟩:=Kd.C_get h ([] : List S212) i h0 h1;have hc : ∀ j u,c[j]? = some u → w.cell? (ad.add (i.toNat * 1 + j)) = some u:=hc0;obtain ⟨A0,c0,rfl,l0,g0⟩:=hK;exact ⟨ad,A0,c0,e,by have hq:=hc 0 _ rfl;rwa [Nat.mul_one,Nat.add_zero] at hq,l0,g0⟩

/-! #### struct type 47 -/
structure S47 where
  f0 : ByteArray
  f1 : Int
  f2 : Int
  f3 : Int
  f4 : Int
  f5 : (List S212)
def z47 : S47:=⟨(⟨#[]⟩ : ByteArray),(0 : Int),(0 : Int),(0 : Int),(0 : Int),([] : List S212)⟩
def k47 : Kd S47:=Kd.iso (Kd.pair Kd.string (Kd.pair (Kd.int .u8) (Kd.pair (Kd.int .i64) (Kd.pair (Kd.int .i64) (Kd.pair (Kd.int .i64) (Kd.slice 212 k212)))))) (fun x : S47 => (x.f0,x.f1,x.f2,x.f3,x.f4,x.f5))
theorem k47_open {w : World} {x : S47} {cs : List Value} (h : k47.K w x cs) : ∃ A5 c5,cs = [.string x.f0,.int .u8 x.f1,.int .i64 x.f2,.int .i64 x.f3,.int .i64 x.f4,.slice A5 x.f5.length c5] ∧ x.f5.length ≤ c5 ∧ k212.C w A5 x.f5.length x.f5:=by
  obtain ⟨_,_,rfl,rfl,⟨_,_,rfl,rfl,⟨_,_,rfl,rfl,⟨_,_,rfl,rfl,⟨_,_,rfl,rfl,⟨A5,c5,rfl,l5,g5⟩⟩⟩⟩⟩⟩:=h;exact ⟨A5,c5,rfl,l5,g5⟩
theorem k47_openM {w : World} {base : Nat} {ok : Nat → Prop} {x : S47} {cs : List Value} (h : k47.M w base ok x cs) : ∃ v5,cs = [.string x.f0,.int .u8 x.f1,.int .i64 x.f2,.int .i64 x.f3,.int .i64 x.f4,v5] ∧ k212.R 212 w base ok v5 x.f5:=by
  obtain ⟨_,_,rfl,rfl,⟨_,_,rfl,rfl,⟨_,_,rfl,rfl,⟨_,_,rfl,rfl,⟨_,_,rfl,rfl,⟨v5,rfl,g5⟩⟩⟩⟩⟩⟩:=h;exact ⟨v5,rfl,g5⟩
theorem k47_mk (w : World) (x : S47) {A5 : Option Addr} {c5 : Nat} (l5 : x.f5.length ≤ c5) (g5 : k212.C w A5 x.f5.length x.f5) : k47.K w x [.string x.f0,.int .u8 x.f1,.int .i64 x.f2,.int .i64 x.f3,.int .i64 x.f4,.slice A5 x.f5.length c5]:=⟨[.string x.f0],[.int .u8 x.f1,.int .i64 x.f2,.int .i64 x.f3,.int .i64 x.f4,.slice A5 x.f5.length c5],rfl,rfl,⟨[.int .u8 x.f1],[.int .i64 x.f2,.int .i64 x.f3,.int .i64 x.f4,.slice A5 x.f5.length c5],rfl,rfl,⟨[.int .i64 x.f2],[.int .i64 x.f3,.int .i64 x.f4,.slice A5 x.f5.length c5],rfl,rfl,⟨[.int .i64 x.f3],[.int .i64 x.f4,.slice A5 x.f5.length c5],rfl,rfl,⟨[.int .i64 x.f4],[.slice A5 x.f5.length c5],rfl,rfl,⟨A5,c5,rfl,l5,g5⟩⟩⟩⟩⟩⟩
theorem k47_mkM (w : World) (base : Nat) (ok : Nat → Prop) (x : S47) {v5 : Value} (g5 : k212.R 212 w base ok v5 x.f5) : k47.M w base ok x [.string x.f0,.int .u8 x.f1,.int .i64 x.f2,.int .i64 x.f3,.int .i64 x.f4,v5]:=⟨[.string x.f0],[.int .u8 x.f1,.int .i64 x.f2,.int .i64 x.f3,.int .i64 x.f4,v5],rfl,rfl,⟨[.int .u8 x.f1],[.int .i64 x.f2,.int .i64 x.f3,.int .i64 x.f4,v5],rfl,rfl,⟨[.int .i64 x.f2],[.int .i64 x.f3,.int .i64 x.f4,v5],rfl,rfl,⟨[.int .i64 x.f3],[.int .i64 x.f4,v5],rfl,rfl,⟨[.int .i64 x.f4],[v5],rfl,rfl,⟨v5,rfl,g5⟩⟩⟩⟩⟩⟩
def rd_T47 (xs : List S47) (i : Int) : S47:=xs.getD i.toNat z47
theorem at_T47 {w : World} {A : Option Addr} {n : Nat} {xs : List S47} (h : Kd.C k47 w A n xs) (i : Int) (h0 : 0 ≤ i) (h1 : i < n) : ∃ ad A5 c5,A = some ad ∧ w.cell? (ad.add (i.toNat * 6)) = some (.string (rd_T47 xs i).f0) ∧ w.cell? ⟨(ad.add (i.toNat * 6)).block,(ad.add (i.toNat * 6)).off + 1,none⟩ = some (.int .u8 (rd_T47 xs i).f1) ∧ w.cell? ⟨(ad.add (i.toNat * 6)).block,(ad.add (i.toNat * 6)).off + 2,none⟩ = some (.int .i64 (rd_T47 xs i).f2) ∧ w.cell? ⟨(ad.add (i.toNat * 6)).block,(ad.add (i.toNat * 6)).off + 3,none⟩ = some (.int .i64 (rd_T47 xs i).f3) ∧ w.cell? ⟨(ad.add (i.toNat * 6)).block,(ad.add (i.toNat * 6)).off + 4,none⟩ = some (.int .i64 (rd_T47 xs i).f4) ∧ w.cell? ⟨(ad.add (i.toNat * 6)).block,(ad.add (i.toNat * 6)).off + 5,none⟩ = some (.slice A5 (rd_T47 xs i).f5.length c5) ∧ (rd_T47 xs i).f5.length ≤ c5 ∧ k212.C w A5 (rd_T47 xs i).f5.length (rd_T47 xs i).f5:=by
  obtain ⟨ad,c,e,_,hK,hc0⟩:=Kd.C_get h z47 i h0 h1;have hc : ∀ j u,c[j]? = some u → w.cell? (ad.add (i.toNat * 6 + j)) = some u:=hc0;obtain ⟨A5,c5,rfl,l5,g5⟩:=k47_open hK;exact ⟨ad,A5,c5,e,hc 0 _ rfl,by rw [← add_field _ _ 1 (by omega)];exact hc 1 _ rfl,by rw [← add_field _ _ 2 (by omega)];exact hc 2 _ rfl,by rw [← add_field _ _ 3 (by omega)];exact hc 3 _ rfl,by rw [← add_field _ _ 4 (by omega)];exact hc 4 _ rfl,by rw [← add_field _ _ 5 (by omega)];exact hc 5 _ rfl,l5,g5⟩

def rd_L13 (xs : List (List S42)) (i : Int) : (List S42):=xs.getD i.toNat ([] : List S42)
theorem at_L13 {w : World} {A : Option Addr} {n : Nat} {xs : List (List S42)} (h : Kd.C (Kd.slice 42 k42) w A n xs) (i : Int) (h0 : 0 ≤ i) (h1 : i < n) : ∃ ad A0 c0,A = some ad ∧ w.cell? (ad.add i.toNat) = some (.slice A0 (rd_L13 xs i).length c0) ∧ (rd_L13 xs i).length ≤ c0 ∧ k42.C w A0 (rd_L13 xs i).length (rd_L13 xs i):=by
  obtain ⟨ad,c,e,_,hK,hc0⟩:=Kd.C_get h ([] : List S42) i h0 h1;have hc : ∀ j u,c[j]? = some u → w.cell? (ad.add (i.toNat * 1 + j)) = some u:=hc0;obtain ⟨A0,c0,rfl,l0,g0⟩:=hK;exact ⟨ad,A0,c0,e,by have hq:=hc 0 _ rfl;rwa [Nat.mul_one,Nat.add_zero] at hq,l0,g0⟩

/-! #### struct type 24 -/
structure S24 where
  f0 : ByteArray
  f1 : Int
  f2 : Int
  f3 : (List S42)
def z24 : S24:=⟨(⟨#[]⟩ : ByteArray),(0 : Int),(0 : Int),([] : List S42)⟩
def k24 : Kd S24:=Kd.iso (Kd.pair Kd.string (Kd.pair (Kd.int .i64) (Kd.pair (Kd.int .i64) (Kd.slice 42 k42)))) (fun x : S24 => (x.f0,x.f1,x.f2,x.f3))
theorem k24_open {w : World} {x : S24} {cs : List Value} (h : k24.K w x cs) : ∃ A3 c3,cs = [.string x.f0,.int .i64 x.f1,.int .i64 x.f2,.slice A3 x.f3.length c3] ∧ x.f3.length ≤ c3 ∧ k42.C w A3 x.f3.length x.f3:=by
  obtain ⟨_,_,rfl,rfl,⟨_,_,rfl,rfl,⟨_,_,rfl,rfl,⟨A3,c3,rfl,l3,g3⟩⟩⟩⟩:=h;exact ⟨A3,c3,rfl,l3,g3⟩
theorem k24_openM {w : World} {base : Nat} {ok : Nat → Prop} {x : S24} {cs : List Value} (h : k24.M w base ok x cs) : ∃ v3,cs = [.string x.f0,.int .i64 x.f1,.int .i64 x.f2,v3] ∧ k42.R 42 w base ok v3 x.f3:=by
  obtain ⟨_,_,rfl,rfl,⟨_,_,rfl,rfl,⟨_,_,rfl,rfl,⟨v3,rfl,g3⟩⟩⟩⟩:=h;exact ⟨v3,rfl,g3⟩
theorem k24_mk (w : World) (x : S24) {A3 : Option Addr} {c3 : Nat} (l3 : x.f3.length ≤ c3) (g3 : k42.C w A3 x.f3.length x.f3) : k24.K w x [.string x.f0,.int .i64 x.f1,.int .i64 x.f2,.slice A3 x.f3.length c3]:=⟨[.string x.f0],[.int .i64 x.f1,.int .i64 x.f2,.slice A3 x.f3.length c3],rfl,rfl,⟨[.int .i64 x.f1],[.int .i64 x.f2,.slice A3 x.f3.length c3],rfl,rfl,⟨[.int .i64 x.f2],[.slice A3 x.f3.length c3],rfl,rfl,⟨A3,c3,rfl,l3,g3⟩⟩⟩⟩
theorem k24_mkM (w : World) (base : Nat) (ok : Nat → Prop) (x : S24) {v3 : Value} (g3 : k42.R 42 w base ok v3 x.f3) : k24.M w base ok x [.string x.f0,.int .i64 x.f1,.int .i64 x.f2,v3]:=⟨[.string x.f0],[.int .i64 x.f1,.int .i64 x.f2,v3],rfl,rfl,⟨[.int .i64 x.f1],[.int .i64 x.f2,v3],rfl,rfl,⟨[.int .i64 x.f2],[v3],rfl,rfl,⟨v3,rfl,g3⟩⟩⟩⟩
def rd_T24 (xs : List S24) (i : Int) : S24:=xs.getD i.toNat z24
theorem at_T24 {w : World} {A : Option Addr} {n : Nat} {xs : List S24} (h : Kd.C k24 w A n xs) (i : Int) (h0 : 0 ≤ i) (h1 : i < n) : ∃ ad A3 c3,A = some ad ∧ w.cell? (ad.add (i.toNat * 4)) = some (.string (rd_T24 xs i).f0) ∧ w.cell? ⟨(ad.add (i.toNat * 4)).block,(ad.add (i.toNat * 4)).off + 1,none⟩ = some (.int .i64 (rd_T24 xs i).f1) ∧ w.cell? ⟨(ad.add (i.toNat * 4)).block,(ad.add (i.toNat * 4)).off + 2,none⟩ = some (.int .i64 (rd_T24 xs i).f2) ∧ w.cell? ⟨(ad.add (i.toNat * 4)).block,(ad.add (i.toNat * 4)).off + 3,none⟩ = some (.slice A3 (rd_T24 xs i).f3.length c3) ∧ (rd_T24 xs i).f3.length ≤ c3 ∧ k42.C w A3 (rd_T24 xs i).f3.length (rd_T24 xs i).f3:=by
  obtain ⟨ad,c,e,_,hK,hc0⟩:=Kd.C_get h z24 i h0 h1;have hc : ∀ j u,c[j]? = some u → w.cell? (ad.add (i.toNat * 4 + j)) = some u:=hc0;obtain ⟨A3,c3,rfl,l3,g3⟩:=k24_open hK;exact ⟨ad,A3,c3,e,hc 0 _ rfl,by rw [← add_field _ _ 1 (by omega)];exact hc 1 _ rfl,by rw [← add_field _ _ 2 (by omega)];exact hc 2 _ rfl,by rw [← add_field _ _ 3 (by omega)];exact hc 3 _ rfl,l3,g3⟩

def rd_L15 (xs : List (List S47)) (i : Int) : (List S47):=xs.getD i.toNat ([] : List S47)
theorem at_L15 {w : World} {A : Option Addr} {n : Nat} {xs : List (List S47)} (h : Kd.C (Kd.slice 47 k47) w A n xs) (i : Int) (h0 : 0 ≤ i) (h1 : i < n) : ∃ ad A0 c0,A = some ad ∧ w.cell? (ad.add i.toNat) = some (.slice A0 (rd_L15 xs i).length c0) ∧ (rd_L15 xs i).length ≤ c0 ∧ k47.C w A0 (rd_L15 xs i).length (rd_L15 xs i):=by
  obtain ⟨ad,c,e,_,hK,hc0⟩:=Kd.C_get h ([] : List S47) i h0 h1;have hc : ∀ j u,c[j]? = some u → w.cell? (ad.add (i.toNat * 1 + j)) = some u:=hc0;obtain ⟨A0,c0,rfl,l0,g0⟩:=hK;exact ⟨ad,A0,c0,e,by have hq:=hc 0 _ rfl;rwa [Nat.mul_one,Nat.add_zero] at hq,l0,g0⟩

def rd_L16 (xs : List (List Int)) (i : Int) : (List Int):=xs.getD i.toNat ([] : List Int)
theorem at_L16 {w : World} {A : Option Addr} {n : Nat} {xs : List (List Int)} (h : Kd.C (Kd.slice 3 (Kd.int .i64)) w A n xs) (i : Int) (h0 : 0 ≤ i) (h1 : i < n) : ∃ ad A0 c0,A = some ad ∧ w.cell? (ad.add i.toNat) = some (.slice A0 (rd_L16 xs i).length c0) ∧ (rd_L16 xs i).length ≤ c0 ∧ (Kd.int .i64).C w A0 (rd_L16 xs i).length (rd_L16 xs i):=by
  obtain ⟨ad,c,e,_,hK,hc0⟩:=Kd.C_get h ([] : List Int) i h0 h1;have hc : ∀ j u,c[j]? = some u → w.cell? (ad.add (i.toNat * 1 + j)) = some u:=hc0;obtain ⟨A0,c0,rfl,l0,g0⟩:=hK;exact ⟨ad,A0,c0,e,by have hq:=hc 0 _ rfl;rwa [Nat.mul_one,Nat.add_zero] at hq,l0,g0⟩

/-! #### struct type 35 -/
structure S35 where
  f0 : Int
  f1 : Int
def z35 : S35:=⟨(0 : Int),(0 : Int)⟩
def k35 : Kd S35:=Kd.iso (Kd.pair (Kd.int .u8) (Kd.int .i64)) (fun x : S35 => (x.f0,x.f1))
theorem k35_open {w : World} {x : S35} {cs : List Value} (h : k35.K w x cs) : cs = [.int .u8 x.f0,.int .i64 x.f1]:=by
  obtain ⟨_,_,rfl,rfl,rfl⟩:=h;exact rfl
theorem k35_openM {w : World} {base : Nat} {ok : Nat → Prop} {x : S35} {cs : List Value} (h : k35.M w base ok x cs) : cs = [.int .u8 x.f0,.int .i64 x.f1]:=by
  obtain ⟨_,_,rfl,rfl,rfl⟩:=h;exact rfl
theorem k35_mk (w : World) (x : S35)  : k35.K w x [.int .u8 x.f0,.int .i64 x.f1]:=⟨[.int .u8 x.f0],[.int .i64 x.f1],rfl,rfl,rfl⟩
theorem k35_mkM (w : World) (base : Nat) (ok : Nat → Prop) (x : S35)  : k35.M w base ok x [.int .u8 x.f0,.int .i64 x.f1]:=⟨[.int .u8 x.f0],[.int .i64 x.f1],rfl,rfl,rfl⟩
def rd_T35 (xs : List S35) (i : Int) : S35:=xs.getD i.toNat z35
theorem at_T35 {w : World} {A : Option Addr} {n : Nat} {xs : List S35} (h : Kd.C k35 w A n xs) (i : Int) (h0 : 0 ≤ i) (h1 : i < n) : ∃ ad ,A = some ad ∧ w.cell? (ad.add (i.toNat * 2)) = some (.int .u8 (rd_T35 xs i).f0) ∧ w.cell? ⟨(ad.add (i.toNat * 2)).block,(ad.add (i.toNat * 2)).off + 1,none⟩ = some (.int .i64 (rd_T35 xs i).f1):=by
  obtain ⟨ad,c,e,_,hK,hc0⟩:=Kd.C_get h z35 i h0 h1;have hc : ∀ j u,c[j]? = some u → w.cell? (ad.add (i.toNat * 2 + j)) = some u:=hc0;obtain rfl:=k35_open hK;exact ⟨ad,e,hc 0 _ rfl,by rw [← add_field _ _ 1 (by omega)];exact hc 1 _ rfl⟩

/-! #### struct type 50 -/
structure S50 where
  f0 : Int
  f1 : Int
def z50 : S50:=⟨(0 : Int),(0 : Int)⟩
def k50 : Kd S50:=Kd.iso (Kd.pair (Kd.int .i64) (Kd.int .i64)) (fun x : S50 => (x.f0,x.f1))
theorem k50_open {w : World} {x : S50} {cs : List Value} (h : k50.K w x cs) : cs = [.int .i64 x.f0,.int .i64 x.f1]:=by
  obtain ⟨_,_,rfl,rfl,rfl⟩:=h;exact rfl
theorem k50_openM {w : World} {base : Nat} {ok : Nat → Prop} {x : S50} {cs : List Value} (h : k50.M w base ok x cs) : cs = [.int .i64 x.f0,.int .i64 x.f1]:=by
  obtain ⟨_,_,rfl,rfl,rfl⟩:=h;exact rfl
theorem k50_mk (w : World) (x : S50)  : k50.K w x [.int .i64 x.f0,.int .i64 x.f1]:=⟨[.int .i64 x.f0],[.int .i64 x.f1],rfl,rfl,rfl⟩
theorem k50_mkM (w : World) (base : Nat) (ok : Nat → Prop) (x : S50)  : k50.M w base ok x [.int .i64 x.f0,.int .i64 x.f1]:=⟨[.int .i64 x.f0],[.int .i64 x.f1],rfl,rfl,rfl⟩
def rd_T50 (xs : List S50) (i : Int) : S50:=xs.getD i.toNat z50
theorem at_T50 {w : World} {A : Option Addr} {n : Nat} {xs : List S50} (h : Kd.C k50 w A n xs) (i : Int) (h0 : 0 ≤ i) (h1 : i < n) : ∃ ad ,A = some ad ∧ w.cell? (ad.add (i.toNat * 2)) = some (.int .i64 (rd_T50 xs i).f0) ∧ w.cell? ⟨(ad.add (i.toNat * 2)).block,(ad.add (i.toNat * 2)).off + 1,none⟩ = some (.int .i64 (rd_T50 xs i).f1):=by
  obtain ⟨ad,c,e,_,hK,hc0⟩:=Kd.C_get h z50 i h0 h1;have hc : ∀ j u,c[j]? = some u → w.cell? (ad.add (i.toNat * 2 + j)) = some u:=hc0;obtain rfl:=k50_open hK;exact ⟨ad,e,hc 0 _ rfl,by rw [← add_field _ _ 1 (by omega)];exact hc 1 _ rfl⟩

/-! #### struct type 52 -/
structure S52 where
  f0 : Int
  f1 : S50
def z52 : S52:=⟨(0 : Int),z50⟩
def k52 : Kd S52:=Kd.iso (Kd.pair (Kd.int .i64) k50) (fun x : S52 => (x.f0,x.f1))
theorem k52_open {w : World} {x : S52} {cs : List Value} (h : k52.K w x cs) : cs = [.int .i64 x.f0,.int .i64 x.f1.f0,.int .i64 x.f1.f1]:=by
  obtain ⟨_,_,rfl,rfl,s1⟩:=h;obtain rfl:=k50_open s1;exact rfl
theorem k52_openM {w : World} {base : Nat} {ok : Nat → Prop} {x : S52} {cs : List Value} (h : k52.M w base ok x cs) : cs = [.int .i64 x.f0,.int .i64 x.f1.f0,.int .i64 x.f1.f1]:=by
  obtain ⟨_,_,rfl,rfl,s1⟩:=h;obtain rfl:=k50_openM s1;exact rfl
theorem k52_mk (w : World) (x : S52)  : k52.K w x [.int .i64 x.f0,.int .i64 x.f1.f0,.int .i64 x.f1.f1]:=⟨[.int .i64 x.f0],[.int .i64 x.f1.f0,.int .i64 x.f1.f1],rfl,rfl,(k50_mk w x.f1 )⟩
theorem k52_mkM (w : World) (base : Nat) (ok : Nat → Prop) (x : S52)  : k52.M w base ok x [.int .i64 x.f0,.int .i64 x.f1.f0,.int .i64 x.f1.f1]:=⟨[.int .i64 x.f0],[.int .i64 x.f1.f0,.int .i64 x.f1.f1],rfl,rfl,(k50_mkM w base ok x.f1 )⟩
def rd_T52 (xs : List S52) (i : Int) : S52:=xs.getD i.toNat z52
theorem at_T52 {w : World} {A : Option Addr} {n : Nat} {xs : List S52} (h : Kd.C k52 w A n xs) (i : Int) (h0 : 0 ≤ i) (h1 : i < n) : ∃ ad ,A = some ad ∧ w.cell? (ad.add (i.toNat * 3)) = some (.int .i64 (rd_T52 xs i).f0) ∧ w.cell? ⟨(ad.add (i.toNat * 3)).block,(ad.add (i.toNat * 3)).off + 1,none⟩ = some (.int .i64 (rd_T52 xs i).f1.f0) ∧ w.cell? ⟨(ad.add (i.toNat * 3)).block,(ad.add (i.toNat * 3)).off + 2,none⟩ = some (.int .i64 (rd_T52 xs i).f1.f1):=by
  obtain ⟨ad,c,e,_,hK,hc0⟩:=Kd.C_get h z52 i h0 h1;have hc : ∀ j u,c[j]? = some u → w.cell? (ad.add (i.toNat * 3 + j)) = some u:=hc0;obtain rfl:=k52_open hK;exact ⟨ad,e,hc 0 _ rfl,by rw [← add_field _ _ 1 (by omega)];exact hc 1 _ rfl,by rw [← add_field _ _ 2 (by omega)];exact hc 2 _ rfl⟩

/-! #### struct type 74 -/
structure S74 where
  f0 : Int
  f1 : ByteArray
  f2 : S50
def z74 : S74:=⟨(0 : Int),(⟨#[]⟩ : ByteArray),z50⟩
def k74 : Kd S74:=Kd.iso (Kd.pair (Kd.int .u8) (Kd.pair Kd.string k50)) (fun x : S74 => (x.f0,x.f1,x.f2))
theorem k74_open {w : World} {x : S74} {cs : List Value} (h : k74.K w x cs) : cs = [.int .u8 x.f0,.string x.f1,.int .i64 x.f2.f0,.int .i64 x.f2.f1]:=by
  obtain ⟨_,_,rfl,rfl,⟨_,_,rfl,rfl,s2⟩⟩:=h;obtain rfl:=k50_open s2;exact rfl
theorem k74_openM {w : World} {base : Nat} {ok : Nat → Prop} {x : S74} {cs : List Value} (h : k74.M w base ok x cs) : cs = [.int .u8 x.f0,.string x.f1,.int .i64 x.f2.f0,.int .i64 x.f2.f1]:=by
  obtain ⟨_,_,rfl,rfl,⟨_,_,rfl,rfl,s2⟩⟩:=h;obtain rfl:=k50_openM s2;exact rfl
theorem k74_mk (w : World) (x : S74)  : k74.K w x [.int .u8 x.f0,.string x.f1,.int .i64 x.f2.f0,.int .i64 x.f2.f1]:=⟨[.int .u8 x.f0],[.string x.f1,.int .i64 x.f2.f0,.int .i64 x.f2.f1],rfl,rfl,⟨[.string x.f1],[.int .i64 x.f2.f0,.int .i64 x.f2.f1],rfl,rfl,(k50_mk w x.f2 )⟩⟩
theorem k74_mkM (w : World) (base : Nat) (ok : Nat → Prop) (x : S74)  : k74.M w base ok x [.int .u8 x.f0,.string x.f1,.int .i64 x.f2.f0,.int .i64 x.f2.f1]:=⟨[.int .u8 x.f0],[.string x.f1,.int .i64 x.f2.f0,.int .i64 x.f2.f1],rfl,rfl,⟨[.string x.f1],[.int .i64 x.f2.f0,.int .i64 x.f2.f1],rfl,rfl,(k50_mkM w base ok x.f2 )⟩⟩
def rd_T74 (xs : List S74) (i : Int) : S74:=xs.getD i.toNat z74
theorem at_T74 {w : World} {A : Option Addr} {n : Nat} {xs : List S74} (h : Kd.C k74 w A n xs) (i : Int) (h0 : 0 ≤ i) (h1 : i < n) : ∃ ad ,A = some ad ∧ w.cell? (ad.add (i.toNat * 4)) = some (.int .u8 (rd_T74 xs i).f0) ∧ w.cell? ⟨(ad.add (i.toNat * 4)).block,(ad.add (i.toNat * 4)).off + 1,none⟩ = some (.string (rd_T74 xs i).f1) ∧ w.cell? ⟨(ad.add (i.toNat * 4)).block,(ad.add (i.toNat * 4)).off + 2,none⟩ = some (.int .i64 (rd_T74 xs i).f2.f0) ∧ w.cell? ⟨(ad.add (i.toNat * 4)).block,(ad.add (i.toNat * 4)).off + 3,none⟩ = some (.int .i64 (rd_T74 xs i).f2.f1):=by
  obtain ⟨ad,c,e,_,hK,hc0⟩:=Kd.C_get h z74 i h0 h1;have hc : ∀ j u,c[j]? = some u → w.cell? (ad.add (i.toNat * 4 + j)) = some u:=hc0;obtain rfl:=k74_open hK;exact ⟨ad,e,hc 0 _ rfl,by rw [← add_field _ _ 1 (by omega)];exact hc 1 _ rfl,by rw [← add_field _ _ 2 (by omega)];exact hc 2 _ rfl,by rw [← add_field _ _ 3 (by omega)];exact hc 3 _ rfl⟩

end Go.Proofs.YtgcmgfljbadljaaGreatDoor.L
