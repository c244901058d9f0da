/-
  LimitsWider: whatever the format, the kinds, the deck and the numbers, the statement's function returns true, and all arguments read afterwards as before; its card is tied to the program's text.
  Conditions: the listed package variables hold what the program's text lays.
-/
import Derived.Test.YtgcmgfljbadljaaGreatDoorLawW
import Derived.Test.YtgcmgfljbadljaaGreatDoorOpnL
import Derived.Test.YtgcmgfljbadljaaGreatDoorOpn5
import Derived.Carry
import Derived.Test.YtgcmgfljbadljaaGreatDoorCards
import Derived.Test.YtgcmgfljbadljaaGreatDoorTie
import Derived.WalkKit
import Derived.ProofKit
import Derived.OpenShut
import Derived.ShutString
import Derived.SizedLaws
import Derived.Deep.DeepHandedRow
import Derived.Deep.DeepWitnessRowRef
import Derived.Lib.LaidTab
import Derived.Lib.LaidU8
import Derived.Lib.LaidRTab
import Derived.PinnedBridge
import Derived.Lay
import Derived.Stop.LaidErr
import Derived.Lib.SmallJoins
namespace Go.Proofs.YtgcmgfljbadljaaGreatDoor.rowW
set_option linter.unusedVariables false
set_option linter.unusedSimpArgs false
open Go.Proofs.YtgcmgfljbadljaaGreatDoorW.PrintWords
open Go.ChangeShapes Go.WideShapes Go.Proofs.YtgcmgfljbadljaaGreatDoor.L Go.ChangeAt Go.RowKit Go.Joins Go.Lib Go.Shelf
open Go.ChangeMaps (open_string shut_string)

theorem own : ownKnob Tryz.prog.godebug = none := by kernel_rfl
theorem laidOut : laidOutB Tryz.prog = true := by kernel_rfl
theorem cells5 : Tryz.prog.cellsOf 5 = 1 := by kernel_rfl
theorem cells9 : Tryz.prog.cellsOf 9 = 1 := by kernel_rfl
theorem cells131 : Tryz.prog.cellsOf 131 = 256 := by kernel_rfl
theorem cells190 : Tryz.prog.cellsOf 190 = 1 := by kernel_rfl

/-! ### what the row's list gives -/
theorem gProp : Tryz.prog.globalNamed "unicode.properties" = some 0 := by kernel_rfl
theorem gPropType : (Tryz.prog.globals[0]?).map (·.type) = some 131 := by kernel_rfl
theorem gSyn : Tryz.prog.globalNamed "strconv.ErrSyntax" = some 4 := by kernel_rfl
theorem gSynType : (Tryz.prog.globals[4]?).map (·.type) = some 91 := by kernel_rfl
theorem gRng : Tryz.prog.globalNamed "strconv.ErrRange" = some 5 := by kernel_rfl
theorem gRngType : (Tryz.prog.globals[5]?).map (·.type) = some 91 := by kernel_rfl
theorem star : "*" ++ "errors.errorString" = "*errors.errorString" := by decide
theorem row188 (u : TypeId) (h : Tryz.prog.typeName? 3 u = some "*errors.errorString") : u = 188 :=
  typeName_ptr_named (nm := "errors.errorString") (by rw [star]; kernel_rfl) (by kernel_rfl) (by decide) u (by rw [star]; exact h)
theorem propData : Rows.laid_unicode_properties (H := Unit) = Lib.tabData .u8 Lib.propertiesTab := by kernel_rfl
theorem acceptEq : Rows.laid_unicode_utf8_acceptRanges (H := Unit) = Lib.acceptData := by kernel_rfl
theorem extra8 : U8Extra Tryz.prog Tryz.lays197_ren := ⟨by kernel_rfl, by kernel_rfl, by kernel_rfl, by kernel_rfl, by kernel_rfl, by kernel_rfl, by kernel_rfl⟩
theorem extraR : RExtra Tryz.prog Tryz.lays200_ren := ⟨by kernel_rfl, by kernel_rfl, by kernel_rfl, by kernel_rfl, by kernel_rfl, by kernel_rfl, by kernel_rfl, by kernel_rfl⟩
set_option maxRecDepth 100000 in
theorem tabs {W : World} (h : laidMetH Tryz.prog Rows.limitsWiderRow.laid W) : HandS.Tabs W := by
  have h0 : laidMet Tryz.prog Rows.limitsWiderRow.laid W := h
  have h3 := h0.tail.tail.tail
  have h4 := h3.tail
  have h5 := h4.tail
  have h6 := h5.tail
  refine ⟨?_, ?_, ?_, ?_, ?_⟩
  · rw [propData] at h6
    exact Lib.tabIs_of_head gProp gPropType Tryz.underlying131 Tryz.underlying5 cells5 cells131 h6
  · have hr := Lib.laidMet.reads h0 (n := "unicode.Letter") (d := Rows.laid_unicode_Letter) (by simp [Rows.limitsWiderRow])
    have hr2 : Lib.VarReads Tryz.prog W "unicode.Letter" (Lib.rtabData letterT) := Pinned.letter_eq ▸ hr
    exact rvar_of_reads { Tryz.lays200 with } extraR (by kernel_rfl) (by kernel_rfl) hr2
  · have hr := Lib.laidMet.reads h0 (n := "unicode/utf8.first") (d := Rows.laid_unicode_utf8_first) (by simp [Rows.limitsWiderRow])
    have hr2 : Lib.VarReads Tryz.prog W "unicode/utf8.first" Lib.firstData := Pinned.utf8First_eq ▸ hr
    have ha := Lib.laidMet.reads h0 (n := "unicode/utf8.acceptRanges") (d := Rows.laid_unicode_utf8_acceptRanges) (by simp [Rows.limitsWiderRow])
    rw [acceptEq] at ha
    exact utf8Tabs_of_reads { Tryz.lays197 with } extra8 hr2 ha
  · obtain ⟨a0, s0, hv, -, -, -⟩ := laid_sentinel h5 gSyn gSynType Tryz.underlying91 row188 Tryz.underlying188 Tryz.underlying190 rfl rfl Tryz.underlying9 cells190 cells9
    exact ⟨_, _, hv⟩
  · obtain ⟨a0, s0, hv, -, -, -⟩ := laid_sentinel h4 gRng gRngType Tryz.underlying91 row188 Tryz.underlying188 Tryz.underlying190 rfl rfl Tryz.underlying9 cells190 cells9
    exact ⟨_, _, hv⟩

set_option maxRecDepth 100000 in
theorem contract (H : Type) (enc : TypeId × Value → H) (W : World) (base : Nat) (args : Array Value) (ds gs : List (DataW H)) (before : List MemPlace)
    (hval0 : ∀ (j : Nat) t v, Tryz.f4.params[j]? = some t → args[j]? = some v → Value.okWide Tryz.prog W .any base t v)
    (hW : DataW.Whole enc Tryz.prog Tryz.f4.params.toList Rows.limitsWiderSpec.vars false W args.toList ds gs before) (hL : laidMetH Tryz.prog Rows.limitsWiderRow.laid W)
    (hsz0 : (DataW.weightsEach Tryz.prog (Tryz.f4.params.toList ++ (OpenSpec.ofChange Rows.limitsWiderSpec).bare.plain.varTypes Tryz.prog) (ds ++ gs)).all (· ≤ reachBytes) = true) :
    Calls Tryz.prog 4 args W fun e W' => ∃ v, e = .returned v ∧ Rows.limitsWiderSpec.post enc Tryz.prog Tryz.f4 false true false false W args v W' := by
  have hval : ∀ (j : Nat) t v, Tryz.f4.params[j]? = some t → args[j]? = some v → Value.okWide Tryz.prog W .any base t v := hval0
  have hW' := hW
  obtain ⟨p, q, hA0, hV, rfl, hfz, hnd⟩ := hW
  have hA : DataW.TrodAll enc Tryz.prog W 0 (fun _ => true) true Tryz.f4.params.toList args.toList ds p := hA0
  have hsz : (DataW.weightsEach Tryz.prog (Tryz.f4.params.toList ++ (OpenSpec.ofChange Rows.limitsWiderSpec).bare.plain.varTypes Tryz.prog) (ds ++ gs)).all (· ≤ reachBytes) = true := hsz0
  rw [Tryz.params4] at hA hval hsz
  obtain ⟨v0, v1, v2, v3, v4, d0, d1, d2, d3, d4, p0, p1, p2, p3, p4, rfl, rfl, rfl, h0, h1, h2, h3, h4⟩ := Opn.trodAll_five hA
  obtain ⟨rfl, rfl⟩ := trodVars_none hV
  have k0 := h0
  have lt0 : ∀ x ∈ p0, x.block < W.heap.size := by obtain ⟨m, hm⟩ := k0; exact DataW.trod_lt m _ _ _ hm
  obtain ⟨cs, rfl, hcs⟩ := okWide_struct Tryz.underlying24 (hval 0 24 v0 rfl rfl)
  obtain ⟨F, hF, q0, q1⟩ := Opn.arg Opn.opn24 hsz (j := 0) rfl rfl h0
  obtain ⟨A3, c3, e, hl3, hr3⟩ := k24_open hF
  obtain rfl : cs = #[.string F.f0, .int .i64 F.f1, .int .i64 F.f2, .slice A3 F.f3.length c3] := by
    have e2 : cs.toList = [.string F.f0, .int .i64 F.f1, .int .i64 F.f2, .slice A3 F.f3.length c3] := e
    rw [← Array.toArray_toList (xs := cs), e2]
  have k1 := h1
  have lt1 : ∀ x ∈ p1, x.block < W.heap.size := by obtain ⟨m, hm⟩ := k1; exact DataW.trod_lt m _ _ _ hm
  obtain ⟨A1, len1, cap1, rfl⟩ := okWide_slice Tryz.underlying25 (hval 1 25 v1 rfl rfl)
  obtain ⟨K, ⟨B1, b1, e1, hb1, hs1⟩, -⟩ := Opn.arg Opn.opn25 hsz (j := 1) rfl rfl h1
  have e1' : [Value.slice A1 len1 cap1] = [.slice B1 K.length b1] := e1
  simp only [List.cons.injEq, and_true, Value.slice.injEq] at e1'
  obtain ⟨rfl, rfl, rfl⟩ := e1'
  have k2 := h2
  have lt2 : ∀ x ∈ p2, x.block < W.heap.size := by obtain ⟨m, hm⟩ := k2; exact DataW.trod_lt m _ _ _ hm
  obtain ⟨A2, len2, cap2, rfl⟩ := okWide_slice Tryz.underlying26 (hval 2 26 v2 rfl rfl)
  obtain ⟨D, ⟨B2, b2, e2, hb2, hs2⟩, -⟩ := Opn.arg Opn.opn26 hsz (j := 2) rfl rfl h2
  have e2' : [Value.slice A2 len2 cap2] = [.slice B2 D.length b2] := e2
  simp only [List.cons.injEq, and_true, Value.slice.injEq] at e2'
  obtain ⟨rfl, rfl, rfl⟩ := e2'
  obtain ⟨a3, rfl, rfl, rfl, w3⟩ := open_int Tryz.underlying5 (hval 3 5 v3 rfl rfl) h3
  have u3 : 0 ≤ a3 ∧ a3 ≤ 255 := by
    simp [Lit.wf, IntKind.min, IntKind.max, IntKind.signed, IntKind.bits] at w3
    omega
  obtain ⟨a4, rfl, rfl, rfl, w4⟩ := open_int Tryz.underlying5 (hval 4 5 v4 rfl rfl) h4
  have u4 : 0 ≤ a4 ∧ a4 ≤ 255 := by
    simp [Lit.wf, IntKind.min, IntKind.max, IntKind.signed, IntKind.bits] at w4
    omega
  clear hA0 hval0
  simp only [List.append_nil] at hW'
  have hB : PureL.Fits (2 * reachBytes + 1) F.f0 F.f3 := ⟨⟨Nat.le_trans q0 (by decide), by omega⟩, fun x hx => ⟨Nat.le_trans (q1 x hx) (by decide), by have := q1 x hx; omega⟩⟩
  obtain ⟨k, hk⟩ := PureW.lawWider F.f0 F.f1 F.f2 F.f3 K D a3 a4 u3.1 u3.2 u4.1 u4.2 hB
  refine (L.joustlaw30_LimitsWider.calls_true k F.f0 F.f1 F.f2 A3 c3 F.f3 A1 cap1 K A2 cap2 D a3 a4 W hr3 hl3 hs1 hb1 hs2 hb2 (tabs hL) hk).mono ?_
  rintro e W' ⟨rfl, bel⟩
  exact ⟨_, rfl, _, _, _, [], _, [], hW', trodAll_mk1 (shut_bool Tryz.underlying4 _), Opn.trodAll_mk5 (Below.trod laidOut (by kernel_rfl) (of_decide_eq_true (by kernel_rfl)) k0 bel lt0) (Below.trod laidOut (by kernel_rfl) (of_decide_eq_true (by kernel_rfl)) k1 bel lt1) (Below.trod laidOut (by kernel_rfl) (of_decide_eq_true (by kernel_rfl)) k2 bel lt2) (shut_int Tryz.underlying5 w3) (shut_int Tryz.underlying5 w4), rfl, bel.frame _, fun h => by cases h⟩

/-! ### one start that fits -/
noncomputable def laidWorld (os : Os) : World := World.laidAll Tryz.prog os Rows.limitsWiderRow.laid
def args0 : Array Value := #[.agg #[.string ⟨#[]⟩, .int .i64 0, .int .i64 0, .slice none 0 0], .slice none 0 0, .slice none 0 0, .int .u8 0, .int .u8 0]
theorem laid_met (os : Os) : laidMet Tryz.prog Rows.limitsWiderRow.laid ((laidWorld os).forCall (fun _ _ => 0) ⟨#[], args0, []⟩).memory :=
  laidMet_laidAll _ (by kernel_rfl) (by kernel_rfl)
theorem reads (os : Os) {H : Type} (enc : TypeId × Value → H) : ∃ places, DataW.whole enc Tryz.prog ((laidWorld os).forCall (fun _ _ => 0) ⟨#[], args0, []⟩).memory Tryz.f4.params.toList Rows.limitsWiderSpec.vars false args0.toList 8 = some ([.agg [.lit (.string []), .lit (.int .i64 0), .lit (.int .i64 0), .nil], .nil, .nil, .lit (.int .u8 0), .lit (.int .u8 0)], [], places) :=
  ⟨[], by kernel_rfl⟩

set_option maxRecDepth 100000 in
theorem lifted (os : Os) (started : os.Started) (H : Type) (enc : TypeId × Value → H) (F : Stop.Interp) :
    ReturnsInHanded {} Tryz.checked os 4 .any ((OpenSpec.ofChange Rows.limitsWiderSpec).preRow enc Tryz.prog Tryz.f4 Rows.limitsWiderRow.domain false Rows.limitsWiderRow.laid) (((OpenSpec.ofChange Rows.limitsWiderSpec).at F).post enc Tryz.prog Tryz.f4 false true false false) := by
  obtain ⟨places, hx⟩ := reads os enc
  refine returnsInHanded_of_row (C := Tryz.checked) (s := OpenSpec.ofChange Rows.limitsWiderSpec) own started (by kernel_rfl) Tryz.func4
    (witness_row_atRef (enc := enc) (C := Tryz.checked) false (laidWorld os) args0 (World.laidAll_os _ _ _) (by kernel_rfl) (by kernel_rfl) (by kernel_rfl)
      (OpenSpec.preRow_of_cond 8 hx (by kernel_rfl) (fun k hk => by cases hk) (by kernel_rfl) (laid_met os))) ?_
  intro W base args ds gs before hval hW _ _ hsz hL _ _
  exact contract H enc W base args ds gs before hval hW hL hsz

theorem said : Rows.LimitsWiderSaid :=
  OpenClaim.holds_of_cond 4 Tryz.f4 rfl rfl rfl rfl rfl rfl rfl ⟨rfl, rfl, rfl, rfl, rfl⟩ rfl rfl rfl rfl rfl (by kernel_rfl) Tryz.func4 (by kernel_rfl)
    (of_decide_eq_true (by kernel_rfl)) (by unfold Func.isWrapper; first | (rw [if_pos (by decide +kernel)]; kernel_rfl) | (rw [if_neg (by decide +kernel)]; exact ⟨rfl, rfl⟩))
    (fun os started H enc _ F => by rw [OpenClaim.pre_eq_preRow]; exact lifted os started H enc F)

/-- No parameter wants a stand-in; the program's own looks are on. -/
theorem plain (f : FuncId) (fn : Func) (hf : Tryz.pinned.checked.prog.funcNamed "joust/joustlaw30.LimitsWider" = some f) (hfn : Tryz.pinned.checked.prog.funcs[f]? = some fn) :
    true = Tryz.pinned.checked.prog.looks [] ∧ ∀ (j : Nat) t, fn.params[j]? = some t → Tryz.pinned.checked.prog.wantsStandIn t = false := by
  obtain rfl : f = 4 := Option.some.inj ((show Tryz.prog.funcNamed "joust/joustlaw30.LimitsWider" = some 4 by kernel_rfl).symm.trans hf) |>.symm
  obtain rfl : fn = Tryz.f4 := (Option.some.inj (Tryz.func4.symm.trans hfn)).symm
  refine ⟨by kernel_rfl, fun j t ht => ?_⟩
  rw [Tryz.params4] at ht
  have hm := Array.mem_of_getElem? ht
  simp only [List.mem_toArray, List.mem_cons, List.not_mem_nil, or_false] at hm
  rcases hm with rfl | rfl | rfl | rfl | rfl
  · exact (show Tryz.prog.wantsStandIn 24 = false by kernel_rfl)
  · exact (show Tryz.prog.wantsStandIn 25 = false by kernel_rfl)
  · exact (show Tryz.prog.wantsStandIn 26 = false by kernel_rfl)
  · exact (show Tryz.prog.wantsStandIn 5 = false by kernel_rfl)
  · exact (show Tryz.prog.wantsStandIn 5 = false by kernel_rfl)

/-- THE CARD. -/
theorem card : Rows.LimitsWiderCardSaid :=
  Claim7.holds_tied_plain_at .later [] _ _ _ _ said (fun _ h => by cases h) (by kernel_rfl) (fun _ h => by cases h) limitsWider_row_tie rfl ⟨rfl, rfl⟩ (by kernel_rfl) rfl plain (by kernel_rfl)
#print axioms card
end Go.Proofs.YtgcmgfljbadljaaGreatDoor.rowW
