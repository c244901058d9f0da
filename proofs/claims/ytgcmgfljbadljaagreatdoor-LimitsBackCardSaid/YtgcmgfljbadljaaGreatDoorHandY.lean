/-
  limits.Write as the print's stub: its function, more rounds, the calls. Conditions: what the listed package variables hold.
-/
import Derived.Test.YtgcmgfljbadljaaGreatDoorHandM
import Derived.Test.YtgcmgfljbadljaaGreatDoorHandF
import Derived.Shelf.Strings.BuilderK
import Derived.Lib.OthersKept
import Derived.Lib.UnsafeStr
import Derived.Lib.AppendStr
/-
  limits.Write: the text of a format, line by line, into a strings.Builder. Conditions: what the listed package variables hold; no more than 10^9 bytes.
-/
namespace Go.Proofs.YtgcmgfljbadljaaGreatDoor.HandW
set_option linter.unusedVariables false
set_option linter.unusedSimpArgs false
open Go.RowKit Go.Shelf Go.Lib Go.Proofs.YtgcmgfljbadljaaGreatDoorW.PrintWords Go.Proofs.YtgcmgfljbadljaaGreatDoorW.PrintLast Go.Proofs.YtgcmgfljbadljaaGreatDoorW.PrintMore Go.Proofs.YtgcmgfljbadljaaGreatDoor.L Go.Proofs.YtgcmgfljbadljaaGreatDoor.HandS Go.Proofs.YtgcmgfljbadljaaGreatDoor.HandF Go.Proofs.YtgcmgfljbadljaaGreatDoor.HandM

/-! ### what is asked of the library -/
structure TabsW (w : World) : Prop extends Tabs w where
  pow : Lib.TabIs Tryz.prog w "internal/strconv.uint64pow10" .u64 Lib.pow10Tab
theorem TabsW.below {w w' : World} (h : TabsW w) (hb : Below w.heap.size w w') : TabsW w' := ⟨h.toTabs.below hb, var_below h.pow hb⟩
def ren166 : Go.Shelf.Ren := ⟨fun | 166 => 44 | 240 => 73 | 276 => 92 | n => n, fun | 0 => 0 | 3 => 3 | 4 => 4 | 9 => 9 | 20 => 20 | 37 => 86 | 70 => 85 | 72 => 88 | 75 => 91 | 76 => 92 | 80 => 97 | 164 => 134 | 5 => 5 | n => n, fun | n => n⟩
theorem lays166 : Go.Proofs.Lays.n166 Tryz.prog ren166 := {
  mixed := by kernel_rfl
  f166 := Tryz.func44.trans (congrArg some (by kernel_rfl))
  f240 := Tryz.func73.trans (congrArg some (by kernel_rfl))
  f276 := Tryz.func92.trans (congrArg some (by kernel_rfl))
  t0 := Tryz.underlying0
  a0 := Tryz.isAgg0
  z0 := Tryz.sizeOf0
  v0 := Tryz.zeroValue0
  t3 := Tryz.underlying3
  a3 := Tryz.isAgg3
  z3 := Tryz.sizeOf3
  v3 := Tryz.zeroValue3
  t4 := Tryz.underlying4
  a4 := Tryz.isAgg4
  z4 := Tryz.sizeOf4
  v4 := Tryz.zeroValue4
  t9 := Tryz.underlying9
  a9 := Tryz.isAgg9
  z9 := Tryz.sizeOf9
  v9 := Tryz.zeroValue9
  t20 := Tryz.underlying20
  a20 := Tryz.isAgg20
  z20 := Tryz.sizeOf20
  v20 := Tryz.zeroValue20
  t37 := Tryz.underlying86
  a37 := Tryz.isAgg86
  z37 := Tryz.sizeOf86
  v37 := Tryz.zeroValue86
  t70 := Tryz.underlying85
  a70 := Tryz.isAgg85
  z70 := Tryz.sizeOf85
  v70 := Tryz.zeroValue85
  t72 := Tryz.underlying88
  a72 := Tryz.isAgg88
  z72 := Tryz.sizeOf88
  v72 := Tryz.zeroValue88
  t75 := Tryz.underlying91
  a75 := Tryz.isAgg91
  z75 := Tryz.sizeOf91
  v75 := Tryz.zeroValue91
  t164 := Tryz.underlying134
  a164 := Tryz.isAgg134
  z164 := Tryz.sizeOf134
  v164 := Tryz.zeroValue134 }
theorem extra166 : Builder.Extra Tryz.prog ren166 := {
  sizeBuilder := by kernel_rfl
  liesBuilder := by kernel_rfl
  t5 := Tryz.underlying5
  a5 := Tryz.isAgg5
  z5 := Tryz.sizeOf5
  v5 := Tryz.zeroValue5
  infoByte := by kernel_rfl
  cellsByte := by kernel_rfl
  sizeByte := by kernel_rfl
  neB5 := by decide }
theorem writeString (B b : Nat) (bs : List Value) (s : ByteArray) (w : World) (h : Lib.IsBuilderF 88 5 B b bs w) (hlen : bs.length + s.size ≤ 140737488355328) (hBw : B ≤ w.heap.size) :
    Calls Tryz.prog 44 #[.pointer (some ⟨b, 0, none⟩), .string s] w fun e w' => e = .returned (.tuple #[.int .i64 s.size, .nilIface]) ∧ (Lib.BuilderAtF 88 5 B b (.pointer (some ⟨b, 0, none⟩)) (bs ++ Lib.strCells s) w' ∧ Below B w w' ∧ Lib.OthersKept 5 (some b) w w') :=
  Any.Builder_WriteString_k lays166 extra166 B b bs s w h hlen hBw
theorem below_grown_ (w : World) (k : Nat) (os : Array Obj) : Below w.heap.size w (Sort.grow (w.drewN k) os) :=
  ⟨rfl, rfl, rfl, by show w.heap.size ≤ (w.heap ++ os).size; rw [Array.size_append]; omega, fun j hj => by show (w.heap ++ os)[j]? = w.heap[j]?; rw [Array.getElem?_append_left hj]⟩
abbrev itoaB (n : Int) : ByteArray := ⟨(Lib.itoa n).toArray⟩
theorem itoa (n : Int) (h0 : -9223372036854775808 ≤ n) (h1 : n ≤ 9223372036854775807) (w : World) (hG : TabsW w) :
    Calls Tryz.prog 46 #[.int .i64 n] w fun e w' => e = .returned (.string (itoaB n)) ∧ Below w.heap.size w w' := by
  refine (Tryz.strconv_Itoa n h0 h1 w hG.pow).mono ?_
  rintro e w' ⟨rfl, k, os, rfl⟩
  exact ⟨rfl, below_grown_ w k os⟩

/-! ### a line -/
theorem builder_below {T e : TypeId} {B b : Nat} {bs : List Value} {w w' : World} (h : IsBuilderF T e B b bs w) (hb : Below w.heap.size w w') : IsBuilderF T e B b bs w' := by
  have key : ∀ p, BuilderAtF T e B b p bs w → BuilderAtF T e B b p bs w' := by
    rintro p ⟨h1, v, h2, h3, h4⟩
    refine ⟨h1, v, blk_below h2 hb, ⟨h3.1, ?_⟩, h4⟩
    rcases h3.2 with h5 | ⟨g, cap, cur, fz, r1, r2, r3, r4⟩
    · exact .inl h5
    · exact .inr ⟨g, cap, cur, fz, r1, r2, blk_below r3 hb, r4⟩
  exact h.elim (fun x => .inl (key _ x)) (fun x => .inr (key _ x))
def lineL (ws : List ByteArray) : List UInt8 := Lib.join (ws.map (·.data.toList)) [32] ++ [32, 10]
theorem line (B b bk : Nat) (ws : List ByteArray) (acc : List UInt8) (w : World) (h : IsBuilderF 88 5 B b (byteCells acc) w) (hk : w.heap[bk]? = some (.cells (ws.map Value.string).toArray 9 (0, 0))) (hlen : acc.length + (lineL ws).length ≤ 100000000000) (hws : ws.length ≤ 1000) (hBw : B ≤ w.heap.size) :
    Calls Tryz.prog 43 #[.slice (some ⟨bk, 0, none⟩) ws.length ws.length, .pointer (some ⟨b, 0, none⟩)] w fun e w' => e = .returned (.tuple #[]) ∧ (IsBuilderF 88 5 B b (byteCells (acc ++ lineL ws)) w' ∧ Below B w w' ∧ OthersKept 5 (some b) w w') := by
  have hlt := blk_lt hk
  have hJ := Tryz.strings_Join bk 0 ws.length ws (⟨#[32]⟩ : ByteArray) w (fun j x hx => by
    have hjl : j < ws.length := (List.getElem?_eq_some_iff.1 hx).1
    have := blk_cell hk j
    rw [Nat.zero_add]
    refine this.trans ?_
    rw [List.getElem?_toArray, List.getElem?_map, hx]
    rfl) hlt (by omega) (Nat.le_refl _) (by
      have : (lineL ws).length = (Lib.join (ws.map (·.data.toList)) [32]).length + 2 := by unfold lineL; rw [List.length_append]; rfl
      show (Lib.join (ws.map (·.data.toList)) [32]).length ≤ _
      omega)
  have HJ := Aside0.mk hJ
  have HB := Aside0.mk h
  clear hJ h
  obtain ⟨J, hJ⟩ : ∃ J, (⟨(Lib.join (ws.map (·.data.toList)) (⟨#[32]⟩ : ByteArray).data.toList).toArray⟩ : ByteArray) = J := ⟨_, rfl⟩
  rw [hJ] at HJ
  have hL : lineL ws = (J ++ (⟨#[32, 10]⟩ : ByteArray)).data.toList := by
    rw [← hJ, ByteArray.data_append, Array.toList_append]
    rfl
  have hs : (J ++ (⟨#[32, 10]⟩ : ByteArray)).size = (lineL ws).length := by rw [hL, Array.length_toList]; rfl
  have hN : ∀ W : World, Below w.heap.size w W → Calls Tryz.prog 44 #[.pointer (some ⟨b, 0, none⟩), .string (J ++ (⟨#[32, 10]⟩ : ByteArray))] W fun e w' => e = .returned (.tuple #[.int .i64 (J ++ (⟨#[32, 10]⟩ : ByteArray)).size, .nilIface]) ∧ (Lib.BuilderAtF 88 5 B b (.pointer (some ⟨b, 0, none⟩)) (byteCells acc ++ Lib.strCells (J ++ (⟨#[32, 10]⟩ : ByteArray))) w' ∧ Below B W w' ∧ Lib.OthersKept 5 (some b) W w') := fun W hb =>
    writeString B b (byteCells acc) _ W (builder_below HB.out hb) (by rw [byteCells_length, hs]; omega) (Nat.le_trans hBw hb.size)
  have HN := Aside0.mk hN
  clear hN
  have hsz : (9223372036854775807 < J.size + 2) = False := eq_false (by rw [ByteArray.size_append] at hs; have : (⟨#[32, 10]⟩ : ByteArray).size = 2 := rfl; omega)
  go_enter Tryz.func43, Tryz.ntmps43
  go_wp2_with (first
    | (go_at_call 45; refine HJ.out.mono ?_; rintro e w1 ⟨rfl, hb1⟩; have HB1 := Aside0.mk hb1; clear hb1)
    | (go_at_call 44; refine (HN.out _ HB1.out).mono ?_; rintro e w2 ⟨rfl, hb2, hb3, hb4⟩))
  refine bodyPost_end (results_none rfl _ _ _) rfl ?_
  have hw : byteCells acc ++ Lib.strCells (J ++ (⟨#[32, 10]⟩ : ByteArray)) = byteCells (acc ++ lineL ws) := by
    rw [byteCells_append, hL]
    rfl
  refine ⟨rfl, .inr (by rw [← hw]; exact hb2), ?_, ?_⟩
  · exact Below.trans ((HB1.out).mono hBw) hb3
  · intro k o hk' hne ho
    exact hb4 k o (blk_below hk' HB1.out) hne ho

/-! ### the whole text -/
abbrev wFormat : ByteArray := ⟨#[102, 111, 114, 109, 97, 116]⟩
abbrev wOpen : ByteArray := ⟨#[123]⟩
abbrev wShut : ByteArray := ⟨#[125]⟩
abbrev wBudget : ByteArray := ⟨#[98, 117, 100, 103, 101, 116]⟩
abbrev wUnits : ByteArray := ⟨#[117, 110, 105, 116, 115]⟩
abbrev wBan : ByteArray := ⟨#[98, 97, 110]⟩
abbrev wLimit : ByteArray := ⟨#[108, 105, 109, 105, 116]⟩
def limitWs (x : S42) : List ByteArray := if x.f1 = 0 ∧ x.f2 = 0 then [wBan, x.f0] else [wLimit, itoaB x.f1, itoaB x.f2, x.f0]
def headL (n : ByteArray) (b u : Int) : List UInt8 := lineL [wFormat, n, wOpen] ++ lineL [wBudget, itoaB b, wUnits, itoaB u]
def limitsL : List S42 → List UInt8
  | [] => []
  | x :: l => lineL (limitWs x) ++ limitsL l
def writeL (n : ByteArray) (b u : Int) (l : List S42) : List UInt8 := headL n b u ++ (limitsL l ++ lineL [wShut])
theorem limitsL_append (a b : List S42) : limitsL (a ++ b) = limitsL a ++ limitsL b := by
  induction a with
  | nil => rfl
  | cons x a ih => rw [List.cons_append, limitsL, limitsL, ih, List.append_assoc]
/-- So far it is written: the builder is block q. -/
structure Wr (W0 W : World) (q : Nat) (n : ByteArray) (b u : Int) (A : Option Addr) (len c : Nat) (acc : List UInt8) : Prop where
  below : Below W0.heap.size W0 W
  fb : W.heap[W0.heap.size]? = some (.cells #[.string n, .int .i64 b, .int .i64 u, .slice A len c] 24 (0, 0))
  bd : IsBuilderF 88 5 W0.heap.size q (byteCells acc) W
  hq : W0.heap.size < q
section
variable {W0 W w' : World} {q : Nat} {n : ByteArray} {b u : Int} {A : Option Addr} {len c : Nat} {acc : List UInt8}
theorem Wr.step (h : Wr W0 W q n b u A len c acc) (hb : Below W.heap.size W w') : Wr W0 w' q n b u A len c acc := ⟨below_step h.below hb, blk_below h.fb hb, builder_below h.bd hb, h.hq⟩
theorem Wr.alloc (h : Wr W0 W q n b u A len c acc) (o : Obj) : Wr W0 (W.alloc o) q n b u A len c acc := h.step (below_alloc (Below.refl _ _) o)
theorem Wr.line (h : Wr W0 W q n b u A len c acc) (ws : List ByteArray) (bk : Nat) (hk : W.heap[bk]? = some (.cells (ws.map Value.string).toArray 9 (0, 0))) (hlen : acc.length + (lineL ws).length ≤ 100000000000) (hws : ws.length ≤ 1000) :
    Calls Tryz.prog 43 #[.slice (some ⟨bk, 0, none⟩) ws.length ws.length, .pointer (some ⟨q, 0, none⟩)] W fun e w' => e = .returned (.tuple #[]) ∧ (Wr W0 w' q n b u A len c (acc ++ lineL ws) ∧ OthersKept 5 (some q) W w') := by
  refine (HandW.line W0.heap.size q bk ws acc W h.bd hk hlen hws h.below.size).mono ?_
  rintro e w' ⟨rfl, h1, h2, h3⟩
  exact ⟨rfl, ⟨h.below.trans h2, h3 _ _ h.fb (fun e => by injection e with e; have := h.hq; omega) (fun c fz e => by injection e with _ e; cases e), h1, h.hq⟩, h3⟩
theorem fcells {q : Nat} {x0 x1 x2 x3 : Value} {t : Nat} (h : W.heap[q]? = some (.cells #[x0, x1, x2, x3] t (0, 0))) : W.cell? ⟨q, 0, none⟩ = some x0 ∧ W.cell? ⟨q, 1, none⟩ = some x1 ∧ W.cell? ⟨q, 2, none⟩ = some x2 ∧ W.cell? ⟨q, 3, none⟩ = some x3 :=
  ⟨(blk_cell h 0).trans rfl, (blk_cell h 1).trans rfl, (blk_cell h 2).trans rfl, (blk_cell h 3).trans rfl⟩
end
theorem goesV_ {P : Program} {ops : Array Oper} {Q : Exit → Act → World → Prop} {oi : Oper} {N : Option Tmp} {a : Act} {w : World} {K : Act → World → Prop} {f : FuncId} {fn : Func} {xs : Array Operand} {ts : Array TypeId} {cv : Operand} (hf : P.funcs[f]? = some fn) (hname : (fn.name == "runtime.NumGoroutine") = false) (hb : fn.body.isSome = true) (args cap full : Array Value)
    (hw : Region.wanted oi (yielded ops a.tmps) = true) (hN : oi.dst = N) (hop : oi.op = .call { callee := .value cv, args := xs, argTypes := ts }) (hcv : a.eval cv = .func (.func f) #[] cap) (hargs : xs.map a.eval = args) (hfull : args ++ cap = full)
    (h : Calls P f full w fun e w' => ∃ v, e = .returned v ∧ K (a.put N v) w') : if Region.wanted oi (yielded ops a.tmps) = true then Oper.wp P oi a w K Q else K (a.put N undef) w := by
  subst hfull
  refine call_ f (args ++ cap) hw hN ?_ h
  have he := enters_ hf hname hb (args ++ cap) w
  unfold execOp
  simp [hop, resolve, hcv, Deferred.ofValue, invoke, hargs, he]
theorem size_alloc (w : World) (o : Obj) : (w.alloc o).heap.size = w.heap.size + 1 := Array.size_push ..
theorem new_at {w : World} {o : Obj} {k : Nat} (h : k = w.heap.size) : (w.alloc o).heap[k]? = some o := by rw [h]; exact blk_new w o
theorem xcells {W : World} {q : Nat} {x0 x1 x2 : Value} {t : Nat} (h : W.heap[q]? = some (.cells #[x0, x1, x2] t (0, 0))) : W.cell? ⟨q, 0, none⟩ = some x0 ∧ W.cell? ⟨q, 1, none⟩ = some x1 ∧ W.cell? ⟨q, 2, none⟩ = some x2 :=
  ⟨(blk_cell h 0).trans rfl, (blk_cell h 1).trans rfl, (blk_cell h 2).trans rfl⟩
theorem limits_len (l : List S42) (i : Nat) (hi : i < l.length) : (limitsL (l.take i)).length + (lineL (limitWs (rd_T42 l (i : Int)))).length ≤ (limitsL l).length := by
  have e : l = l.take i ++ (rd_T42 l (i : Int) :: l.drop (i + 1)) := by
    have h2 : l.drop i = rd_T42 l (i : Int) :: l.drop (i + 1) := by
      rw [List.drop_eq_getElem_cons hi]
      unfold rd_T42
      rw [Int.toNat_natCast, List.getD_eq_getElem?_getD, List.getElem?_eq_getElem hi, Option.getD_some]
    rw [← h2, List.take_append_drop]
  have e2 : (limitsL l).length = (limitsL (l.take i)).length + ((lineL (limitWs (rd_T42 l (i : Int)))).length + (limitsL (l.drop (i + 1))).length) := by
    conv => lhs; rw [e]
    rw [limitsL_append, limitsL, List.length_append, List.length_append]
  omega
theorem limits_take (l : List S42) (i : Nat) (hi : i < l.length) : limitsL (l.take (i + 1)) = limitsL (l.take i) ++ lineL (limitWs (rd_T42 l (i : Int))) := by
  have h2 : rd_T42 l (i : Int) = l[i] := by
    unfold rd_T42
    rw [Int.toNat_natCast, List.getD_eq_getElem?_getD, List.getElem?_eq_getElem hi, Option.getD_some]
  rw [h2, List.take_succ_eq_append_getElem hi, limitsL_append, limitsL, limitsL, List.append_nil]
theorem rd42_mem (l : List S42) (i : Nat) (hi : i < l.length) : rd_T42 l (i : Int) ∈ l := by
  unfold rd_T42
  rw [Int.toNat_natCast, List.getD_eq_getElem?_getD, List.getElem?_eq_getElem hi]
  exact List.getElem_mem _
def fitsW (n : ByteArray) (b u : Int) (l : List S42) : Prop := (writeL n b u l).length ≤ 1000000000 ∧ (0 ≤ b ∧ b ≤ 1000000) ∧ (0 ≤ u ∧ u ≤ 1000000) ∧ ∀ x ∈ l, (0 ≤ x.f1 ∧ x.f1 ≤ 1000000) ∧ (0 ≤ x.f2 ∧ x.f2 ≤ 1000000)
set_option maxHeartbeats 3000000 in
set_option maxRecDepth 100000 in
theorem write (n : ByteArray) (b u : Int) (A : Option Addr) (c : Nat) (l : List S42) (w : World) (hr : Kd.C k42 w A l.length l) (hc : l.length ≤ c) (hG : TabsW w) (k : Nat) (ok : Bool) (hm : limits_May.f k n b u l = some ok) (hf : ok = true → fitsW n b u l) :
    Calls Tryz.prog 18 #[.agg #[.string n, .int .i64 b, .int .i64 u, .slice A l.length c]] w fun e w' => e = .returned (.tuple #[.string (if ok = true then ⟨(writeL n b u l).toArray⟩ else ⟨#[]⟩), .int .i64 (if ok = true then 0 else 2)]) ∧ Below w.heap.size w w' := by
  have hu24 := Tryz.underlying24
  have hu42 := Tryz.underlying42
  have HG := Aside0.mk hG
  have HR := Aside0.mk hr
  have HM := Aside0.mk hm
  have HF := Aside0.mk hf
  clear hG hr hm hf
  go_enter Tryz.func18, Tryz.ntmps18
  have HB0 := Aside0.mk (below_alloc (Below.refl w.heap.size w) (.cells #[.string n, .int .i64 b, .int .i64 u, .slice A l.length c] 24 (0, 0)))
  have F0 := Aside0.mk (blk_new w (.cells #[.string n, .int .i64 b, .int .i64 u, .slice A l.length c] 24 (0, 0)))
  go_wp2_with fail
  refine (limits_May.calls k n b u A c l ok _ (Kd.C_below HR.out HB0.out) hc (HG.out.toTabs.below HB0.out) HM.out).mono ?_
  rintro en w1 ⟨rfl, hb1⟩
  have F1 := Aside0.mk (blk_below F0.out hb1)
  have HB1 := Aside0.mk (below_step HB0.out hb1)
  clear hb1
  cases ok with
  | false =>
    go_wp2_with fail
    go_ret2
    exact ⟨rfl, HB1.out⟩
  | true =>
  obtain ⟨hlen, hbb, huu, hll⟩ := HF.out rfl
  have st2 : Wr w (w1.alloc (.cells #[.pointer none, .slice none 0 0] 88)) w1.heap.size n b u A l.length c [] := by
    have hlt := blk_lt F1.out
    refine ⟨below_alloc HB1.out _, blk_alloc F1.out _, .inl ⟨Nat.le_of_lt hlt, .slice none 0 0, blk_new w1 _, ⟨rfl, .inl ⟨rfl, rfl⟩⟩, fun e => by cases e⟩, hlt⟩
  have S2 := Aside0.mk st2
  obtain ⟨f0, f1, f2, f3⟩ := fcells st2.fb
  clear st2
  go_wp2_with fail
  have hlen2 : (lineL [wFormat, n, wOpen]).length + (lineL [wBudget, itoaB b, wUnits, itoaB u]).length + (limitsL l).length + (lineL [wShut]).length ≤ 1000000000 := by
    have := hlen
    unfold writeL headL at this
    simp only [List.length_append] at this
    omega
  have HL := Aside0.mk hlen2
  clear hlen hlen2
  refine ((S2.out.alloc _).line [wFormat, n, wOpen] (w1.heap.size + 1) (new_at (size_alloc _ _).symm) (by have := HL.out; rw [List.length_nil]; omega) (by simp)).mono ?_
  rintro en w3 ⟨rfl, st3, _⟩
  obtain ⟨g0, g1, g2, g3⟩ := fcells st3.fb
  have S3 := Aside0.mk st3
  have HBc := Aside0.mk (Below.refl w3.heap.size w3)
  clear st3
  have hI : ∀ z : Int, 0 ≤ z → z ≤ 1000000 → ∀ W : World, Below w3.heap.size w3 W → Calls Tryz.prog 46 #[.int .i64 z] W fun e w' => e = .returned (.string (itoaB z)) ∧ Below w3.heap.size w3 w' := fun z h0 h1 W hb =>
    (itoa z (by omega) (by omega) W (HG.out.below (below_step S3.out.below hb))).mono fun e w' h => ⟨h.1, below_step hb h.2⟩
  have HI := Aside0.mk hI
  clear hI
  go_wp2_with fail
  go_cut [] from 8 (fun wc => Aside0 (Wr w wc w1.heap.size n b u A l.length c (headL n b u)))
  case first =>
    go_region_law (first
      | (refine goes_ Tryz.func46 (by kernel_rfl) rfl #[.int .i64 b] (by rfl) rfl rfl (by (try simp only [List.map_toArray, List.map_cons, List.map_nil]); first | done | rfl) ?_
         refine (HI.out b hbb.1 hbb.2 _ (by repeat (first | exact HBc.out | apply below_drew | apply below_drew1 | apply pw_below_drewN | apply below_alloc))).mono ?_
         rintro en wq ⟨rfl, hbq⟩
         refine ⟨_, rfl, ?_⟩
         replace HBc := Aside0.mk hbq
         obtain ⟨g0, g1, g2, g3⟩ := fcells (S3.out.step hbq).fb
         clear hbq)
      | (refine goes_ Tryz.func46 (by kernel_rfl) rfl #[.int .i64 u] (by rfl) rfl rfl (by (try simp only [List.map_toArray, List.map_cons, List.map_nil]); first | done | rfl) ?_
         refine (HI.out u huu.1 huu.2 _ (by repeat (first | exact HBc.out | apply below_drew | apply below_drew1 | apply pw_below_drewN | apply below_alloc))).mono ?_
         rintro en wq ⟨rfl, hbq⟩
         refine ⟨_, rfl, ?_⟩
         replace HBc := Aside0.mk hbq
         obtain ⟨g0, g1, g2, g3⟩ := fcells (S3.out.step hbq).fb
         clear hbq)
      | (refine goesV_ Tryz.func43 (by kernel_rfl) rfl #[.slice (some ⟨_, 0, none⟩) 4 4] #[.pointer (some ⟨w1.heap.size, 0, none⟩)] #[.slice (some ⟨_, 0, none⟩) 4 4, .pointer (some ⟨w1.heap.size, 0, none⟩)] (by rfl) rfl rfl (by rfl) (by (try simp only [List.map_toArray, List.map_cons, List.map_nil]); first | done | rfl) rfl ?_
         refine (((S3.out.step HBc.out).alloc _).line [wBudget, itoaB b, wUnits, itoaB u] _ (new_at rfl) (by have := HL.out; rw [List.length_append, List.length_nil]; omega) (by simp)).mono ?_
         rintro en w5 ⟨rfl, st5, _⟩
         refine ⟨_, rfl, ?_⟩
         have S5 := Aside0.mk st5
         clear st5))
    all_goals
      go_wp2_with fail
      go_meet
      case rel => exact S5
  case rest =>
  have st5 := hcut
  obtain ⟨k0, k1, k2, k3⟩ := fcells st5.out.fb
  go_wp2_with fail
  go_loopg [29] l.length (fun g s29 wr => ∃ i : Nat, s29 = .int .i64 (i : Int) ∧ i ≤ l.length ∧ l.length - i ≤ g ∧ Aside0 (Wr w wr w1.heap.size n b u A l.length c (headL n b u ++ limitsL (l.take i))))
  case atStart => exact ⟨0, rfl, Nat.zero_le _, by omega, by rw [List.take_zero, limitsL, List.append_nil]; exact st5⟩
  case round =>
    obtain ⟨i, rfl, h1, h2, st⟩ := hrel
    by_cases hlt : i < l.length
    · have hlt' : decide ((i : Int) < (l.length : Int)) = true := decide_eq_true (by omega)
      have hlt'' : decide (i < l.length) = true := decide_eq_true hlt
      obtain ⟨g, rfl⟩ : ∃ g, gk = g + 1 := ⟨gk - 1, by omega⟩
      obtain ⟨ad, hA, e0, e1, e2⟩ := at_T42 (Kd.C_below HR.out st.out.below) (i : Int) (by omega) (by omega)
      subst hA
      have ei : wrap64 ((i : Int) + 1) = ((i + 1 : Nat) : Int) := by have := HR.out.2.1; unfold wrap64; omega
      have hmem := hll _ (rd42_mem l i hlt)
      have hlen3 := limits_len l i hlt
      have htake := limits_take l i hlt
      obtain ⟨x, hx⟩ : ∃ x, rd_T42 l (i : Int) = x := ⟨_, rfl⟩
      rw [hx] at e0 e1 e2 hmem hlen3 htake
      clear hx
      rw [Int.toNat_natCast] at e0 e1 e2
      obtain ⟨hm1, hm2⟩ : (0 ≤ x.f1 ∧ x.f1 ≤ 1000000) ∧ (0 ≤ x.f2 ∧ x.f2 ≤ 1000000) := hmem
      have HL2 : Aside0 ((headL n b u ++ limitsL (l.take i)).length + (lineL (limitWs x)).length ≤ 100000000000) := Aside0.mk (by
        have := HL.out
        rw [List.length_append, headL, List.length_append]
        omega)
      have HT := Aside0.mk htake
      clear hlen3 htake
      have X6 := Aside0.mk (blk_new wr (.cells #[.string x.f0, .int .i64 x.f1, .int .i64 x.f2] 42 (0, 0)))
      have S6 := Aside0.mk (st.out.alloc (.cells #[.string x.f0, .int .i64 x.f1, .int .i64 x.f2] 42 (0, 0)))
      clear st
      by_cases hz : x.f1 = 0 ∧ x.f2 = 0
      · have hw : limitWs x = [wBan, x.f0] := by unfold limitWs; rw [if_pos hz]
        rw [hw] at HL2 HT
        have q1 : (x.f1 == 0) = true := beq_iff_eq.2 hz.1
        have q2 : (x.f2 == 0) = true := beq_iff_eq.2 hz.2
        obtain ⟨y0, y1, y2⟩ := xcells X6.out
        clear hz hw
        go_wp2_with fail
        refine ((S6.out.alloc _).line [wBan, x.f0] _ (new_at (size_alloc _ _).symm) HL2.out (by simp)).mono ?_
        rintro en w7 ⟨rfl, st7, _⟩
        have S7 := Aside0.mk st7
        clear st7
        go_wp2_with fail
        go_roundg g
        case measure => omega
        case rel =>
          refine ⟨i + 1, by rw [ei], by omega, by omega, Aside0.mk ?_⟩
          rw [HT.out, ← List.append_assoc]
          exact S7.out
      · have hw : limitWs x = [wLimit, itoaB x.f1, itoaB x.f2, x.f0] := by unfold limitWs; rw [if_neg hz]
        rw [hw] at HL2 HT
        clear hw
        have HJ := Aside0.mk (show ∀ z : Int, 0 ≤ z → z ≤ 1000000 → ∀ W : World, Below (wr.alloc (.cells #[.string x.f0, .int .i64 x.f1, .int .i64 x.f2] 42 (0, 0))).heap.size (wr.alloc (.cells #[.string x.f0, .int .i64 x.f1, .int .i64 x.f2] 42 (0, 0))) W → Calls Tryz.prog 46 #[.int .i64 z] W fun e w' => e = .returned (.string (itoaB z)) ∧ Below (wr.alloc (.cells #[.string x.f0, .int .i64 x.f1, .int .i64 x.f2] 42 (0, 0))).heap.size (wr.alloc (.cells #[.string x.f0, .int .i64 x.f1, .int .i64 x.f2] 42 (0, 0))) w' from
          fun z h0 h1 W hb => (itoa z (by omega) (by omega) W (HG.out.below (below_step S6.out.below hb))).mono fun e w' h => ⟨h.1, below_step hb h.2⟩)
        have HBd := Aside0.mk (Below.refl (wr.alloc (.cells #[.string x.f0, .int .i64 x.f1, .int .i64 x.f2] 42 (0, 0))).heap.size (wr.alloc (.cells #[.string x.f0, .int .i64 x.f1, .int .i64 x.f2] 42 (0, 0))))
        obtain ⟨y0, y1, y2⟩ := xcells X6.out
        have hq : (x.f1 == 0) = false ∨ (x.f1 == 0) = true ∧ (x.f2 == 0) = false := by
          cases h1 : (x.f1 == 0) with
          | false => exact .inl rfl
          | true => exact .inr ⟨rfl, beq_eq_false_iff_ne.2 (fun h => hz ⟨beq_iff_eq.1 h1, h⟩)⟩
        clear hz
        rcases hq with q1 | ⟨q1, q2⟩
        all_goals
          go_wp2_with fail
          go_region_law (first
            | (refine goes_ Tryz.func46 (by kernel_rfl) rfl #[.int .i64 x.f1] (by rfl) rfl rfl (by (try simp only [List.map_toArray, List.map_cons, List.map_nil]); first | done | rfl) ?_
               refine (HJ.out x.f1 hm1.1 hm1.2 _ (by repeat (first | exact HBd.out | apply below_drew | apply below_drew1 | apply pw_below_drewN | apply below_alloc))).mono ?_
               rintro en wz ⟨rfl, hbz⟩
               refine ⟨_, rfl, ?_⟩
               replace HBd := Aside0.mk hbz
               obtain ⟨y0, y1, y2⟩ := xcells (blk_below X6.out hbz)
               clear hbz)
            | (refine goes_ Tryz.func46 (by kernel_rfl) rfl #[.int .i64 x.f2] (by rfl) rfl rfl (by (try simp only [List.map_toArray, List.map_cons, List.map_nil]); first | done | rfl) ?_
               refine (HJ.out x.f2 hm2.1 hm2.2 _ (by repeat (first | exact HBd.out | apply below_drew | apply below_drew1 | apply pw_below_drewN | apply below_alloc))).mono ?_
               rintro en wz ⟨rfl, hbz⟩
               refine ⟨_, rfl, ?_⟩
               replace HBd := Aside0.mk hbz
               obtain ⟨y0, y1, y2⟩ := xcells (blk_below X6.out hbz)
               clear hbz)
            | (refine goesV_ Tryz.func43 (by kernel_rfl) rfl #[.slice (some ⟨_, 0, none⟩) 4 4] #[.pointer (some ⟨w1.heap.size, 0, none⟩)] #[.slice (some ⟨_, 0, none⟩) 4 4, .pointer (some ⟨w1.heap.size, 0, none⟩)] (by rfl) rfl rfl (by rfl) (by (try simp only [List.map_toArray, List.map_cons, List.map_nil]); first | done | rfl) rfl ?_
               refine (((S6.out.step HBd.out).alloc _).line [wLimit, itoaB x.f1, itoaB x.f2, x.f0] _ (new_at rfl) HL2.out (by simp)).mono ?_
               rintro en w7 ⟨rfl, st7, _⟩
               refine ⟨_, rfl, ?_⟩
               have S7 := Aside0.mk st7
               clear st7))
          all_goals
            go_wp2_with fail
            go_roundg g
            case measure => omega
            case rel =>
              refine ⟨i + 1, by rw [ei], by omega, by omega, Aside0.mk ?_⟩
              rw [HT.out, ← List.append_assoc]
              exact S7.out
    · have hlt' : decide ((i : Int) < (l.length : Int)) = false := decide_eq_false (by omega)
      have hlt'' : decide (i < l.length) = false := decide_eq_false hlt
      have hall : limitsL (l.take i) = limitsL l := by rw [List.take_of_length_le (by omega)]
      rw [hall] at st
      have S8 := Aside0.mk st.out
      have hfin : headL n b u ++ limitsL l ++ lineL [wShut] = writeL n b u l := List.append_assoc ..
      clear st
      go_wp2_with fail
      refine ((S8.out.alloc _).line [wShut] _ (new_at rfl) (by have := HL.out; rw [List.length_append, headL, List.length_append]; omega) (by simp)).mono ?_
      rintro en w9 ⟨rfl, st9, _⟩
      rw [hfin] at st9
      have S9 := Aside0.mk st9
      clear st9 hfin
      go_wp2_with fail
      refine (Tryz.Builder_String_any_k w.heap.size w1.heap.size (writeL n b u l) w9 S9.out.bd S9.out.below.size).mono ?_
      rintro en w10 ⟨rfl, _, hb10, _⟩
      go_wp2_with fail
      go_ret2
      exact ⟨rfl, S9.out.below.trans hb10⟩
end Go.Proofs.YtgcmgfljbadljaaGreatDoor.HandW
namespace Go.Proofs.YtgcmgfljbadljaaGreatDoor.HandS
set_option linter.unusedVariables false
open Go.RowKit Go.Shelf Go.Lib Go.Proofs.YtgcmgfljbadljaaGreatDoorW.PrintWords Go.Proofs.YtgcmgfljbadljaaGreatDoorW.PrintLast Go.Proofs.YtgcmgfljbadljaaGreatDoorW.PrintMore Go.Proofs.YtgcmgfljbadljaaGreatDoor.L Go.Proofs.YtgcmgfljbadljaaGreatDoor.HandS Go.Proofs.YtgcmgfljbadljaaGreatDoor.HandF Go.Proofs.YtgcmgfljbadljaaGreatDoor.HandW

instance fitsDec (n : ByteArray) (b u : Int) (l : List S42) : Decidable (fitsW n b u l) := by unfold fitsW; infer_instance
def wrote (n : ByteArray) (b u : Int) (l : List S42) : Option (ByteArray × Int) := if fitsW n b u l then some (⟨(writeL n b u l).toArray⟩, 0) else none
theorem wrote_fits {n : ByteArray} {b u : Int} {l : List S42} (h : fitsW n b u l) : wrote n b u l = some (⟨(writeL n b u l).toArray⟩, 0) := if_pos h
theorem wrote_some {n : ByteArray} {b u : Int} {l : List S42} {r : ByteArray × Int} (h : wrote n b u l = some r) : fitsW n b u l ∧ r = (⟨(writeL n b u l).toArray⟩, 0) := by
  by_cases hf : fitsW n b u l
  · rw [wrote_fits hf] at h
    injection h with h
    exact ⟨hf, h.symm⟩
  · unfold wrote at h
    rw [if_neg hf] at h
    cases h
def limits_Write.f (k : Nat) (a0_0 : ByteArray) (a0_1 : Int) (a0_2 : Int) (l0_3 : List (S42)) : Option (ByteArray × Int) :=
  (limits_May.f k a0_0 a0_1 a0_2 l0_3).bind fun ok => if ok = true then wrote a0_0 a0_1 a0_2 l0_3 else some (⟨#[]⟩, 2)
theorem limits_Write.mono : ∀ a0_0 a0_1 a0_2 l0_3 k, LeO (limits_Write.f k a0_0 a0_1 a0_2 l0_3) (limits_Write.f (k + 1) a0_0 a0_1 a0_2 l0_3) := by
  intro a0_0 a0_1 a0_2 l0_3 k
  unfold limits_Write.f
  exact LeO.bind (limits_May.mono _ _ _ _ _) (fun _ => LeO.refl _)
theorem limits_Write.calls (k : Nat) (a0_0 : ByteArray) (a0_1 : Int) (a0_2 : Int) (A0_3 : Option Addr) (c0_3 : Nat) (l0_3 : List (S42)) (r1 : ByteArray) (r2 : Int) (w : World) (hr0_3 : Kd.C k42 w A0_3 l0_3.length l0_3) (hc0_3 : l0_3.length ≤ c0_3) (hG : TabsW w) (h : limits_Write.f k a0_0 a0_1 a0_2 l0_3 = some (r1, r2)) :
    Calls Tryz.prog 18 #[.agg #[.string a0_0, .int .i64 a0_1, .int .i64 a0_2, .slice A0_3 l0_3.length c0_3]] w fun e w' => e = .returned (.tuple #[.string r1, .int .i64 r2]) ∧ Below w.heap.size w w' := by
  unfold limits_Write.f at h
  obtain ⟨ok, hm, h2⟩ := Option.bind_eq_some_iff.mp h
  cases ok with
  | false =>
    rw [if_neg (by decide)] at h2
    injection h2 with h2
    obtain ⟨rfl, rfl⟩ := Prod.mk.inj h2
    exact write a0_0 a0_1 a0_2 A0_3 c0_3 l0_3 w hr0_3 hc0_3 hG k false hm (fun h => by cases h)
  | true =>
    rw [if_pos rfl] at h2
    obtain ⟨hf, he⟩ := wrote_some h2
    obtain ⟨rfl, rfl⟩ := Prod.mk.inj he
    exact write a0_0 a0_1 a0_2 A0_3 c0_3 l0_3 w hr0_3 hc0_3 hG k true hm (fun _ => hf)
end Go.Proofs.YtgcmgfljbadljaaGreatDoor.HandS
