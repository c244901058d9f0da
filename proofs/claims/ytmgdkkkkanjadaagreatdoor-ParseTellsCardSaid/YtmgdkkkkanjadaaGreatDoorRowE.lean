/-
  ParseTells: whatever the text, the statement's function returns true, and the text reads afterwards as before; its card is tied to the program's text.
  Conditions: the listed package variables hold what the program's text lays.
-/
import Derived.Test.YtmgdkkkkanjadaaGreatDoorLawP
import Derived.Test.YtmgdkkkkanjadaaGreatDoorSimC
import Derived.Test.YtmgdkkkkanjadaaGreatDoorLivP
import Derived.Carry
import Derived.Test.YtmgdkkkkanjadaaGreatDoorCards
import Derived.Test.YtmgdkkkkanjadaaGreatDoorTie
import Derived.WalkKit
import Derived.ProofKit
import Derived.OpenShut
import Derived.ShutString
import Derived.SizedLaws
import Derived.Deep.DeepHandedRow
import Derived.Deep.DeepWitnessRowRef
import Derived.Lib.LaidTab
import Derived.Lib.LaidU8
import Derived.Lib.LaidRTab
import Derived.PinnedBridge
import Derived.Lay
import Derived.Stop.LaidErr
import Derived.Lib.SmallJoins
namespace Go.Proofs.YtmgdkkkkanjadaaGreatDoor.rowE
set_option linter.unusedVariables false
set_option linter.unusedSimpArgs false
open Go.Proofs.YtmgdkkkkanjadaaGreatDoorW.PrintWords
open Go.ChangeShapes Go.WideShapes Go.ChangeAt Go.RowKit Go.Joins Go.Lib Go.Shelf
open Go.ChangeMaps (open_string shut_string)
open Go.Proofs.YtmgdkkkkanjadaaGreatDoor.X

theorem own : ownKnob Tryz.prog.godebug = none:=by kernel_rfl
theorem laidOut : laidOutB Tryz.prog = true:=by kernel_rfl
theorem cells5 : Tryz.prog.cellsOf 5 = 1:=by kernel_rfl
theorem cells9 : Tryz.prog.cellsOf 9 = 1:=by kernel_rfl
theorem cells126 : Tryz.prog.cellsOf 126 = 256:=by kernel_rfl
theorem cells179 : Tryz.prog.cellsOf 179 = 1:=by kernel_rfl

/-! ### what the row's list gives -/
theorem gProp : Tryz.prog.globalNamed "unicode.properties" = some 0 := by kernel_rfl
theorem gPropType : (Tryz.prog.globals[0]?).map (·.type) = some 126:=by kernel_rfl
theorem gSyn : Tryz.prog.globalNamed "strconv.ErrSyntax" = some 4 := by kernel_rfl
theorem gSynType : (Tryz.prog.globals[4]?).map (·.type) = some 101:=by kernel_rfl
theorem gRng : Tryz.prog.globalNamed "strconv.ErrRange" = some 5 := by kernel_rfl
theorem gRngType : (Tryz.prog.globals[5]?).map (·.type) = some 101:=by kernel_rfl
theorem star : "*" ++ "errors.errorString" = "*errors.errorString" := by decide
theorem row177 (u : TypeId) (h : Tryz.prog.typeName? 3 u = some "*errors.errorString") : u = 177 :=
  typeName_ptr_named (nm := "errors.errorString") (by rw [star]; kernel_rfl) (by kernel_rfl) (by decide) u (by rw [star]; exact h)
theorem propData : Rows.laid_unicode_properties (H:=Unit) = Lib.tabData .u8 Lib.propertiesTab:=by kernel_rfl
theorem acceptEq : Rows.laid_unicode_utf8_acceptRanges (H:=Unit) = Lib.acceptData:=by kernel_rfl
theorem extra8 : U8Extra Tryz.prog Tryz.lays197_ren:=⟨by kernel_rfl,by kernel_rfl,by kernel_rfl,by kernel_rfl,by kernel_rfl,by kernel_rfl,by kernel_rfl⟩
theorem extraR : RExtra Tryz.prog Tryz.lays200_ren:=⟨by kernel_rfl,by kernel_rfl,by kernel_rfl,by kernel_rfl,by kernel_rfl,by kernel_rfl,by kernel_rfl,by kernel_rfl⟩
set_option maxRecDepth 100000 in
theorem tabs {W : World} (h : laidMetH Tryz.prog Rows.parseTellsRow.laid W) : HandS.Tabs W:=by
  have h0 : laidMet Tryz.prog Rows.parseTellsRow.laid W:=h
  have h3:=h0.tail.tail.tail
  have h4:=h3.tail
  have h5:=h4.tail
  have h6:=h5.tail
  refine ⟨?_,?_,?_,?_,?_⟩
  · rw [propData] at h6
    exact Lib.tabIs_of_head gProp gPropType Tryz.underlying126 Tryz.underlying5 cells5 cells126 h6
  · have hr := Lib.laidMet.reads h0 (n := "unicode.Letter") (d := Rows.laid_unicode_Letter) (by simp [Rows.parseTellsRow])
    have hr2 : Lib.VarReads Tryz.prog W "unicode.Letter" (Lib.rtabData letterT) := Pinned.letter_eq ▸ hr
    exact rvar_of_reads { Tryz.lays200 with } extraR (by kernel_rfl) (by kernel_rfl) hr2
  · have hr := Lib.laidMet.reads h0 (n := "unicode/utf8.first") (d := Rows.laid_unicode_utf8_first) (by simp [Rows.parseTellsRow])
    have hr2 : Lib.VarReads Tryz.prog W "unicode/utf8.first" Lib.firstData := Pinned.utf8First_eq ▸ hr
    have ha := Lib.laidMet.reads h0 (n := "unicode/utf8.acceptRanges") (d := Rows.laid_unicode_utf8_acceptRanges) (by simp [Rows.parseTellsRow])
    rw [acceptEq] at ha
    exact utf8Tabs_of_reads { Tryz.lays197 with } extra8 hr2 ha
  · obtain ⟨a0,s0,hv,-,-,-⟩:=laid_sentinel h5 gSyn gSynType Tryz.underlying101 row177 Tryz.underlying177 Tryz.underlying179 rfl rfl Tryz.underlying9 cells179 cells9
    exact ⟨_,_,hv⟩
  · obtain ⟨a0,s0,hv,-,-,-⟩:=laid_sentinel h4 gRng gRngType Tryz.underlying101 row177 Tryz.underlying177 Tryz.underlying179 rfl rfl Tryz.underlying9 cells179 cells9
    exact ⟨_,_,hv⟩

set_option maxRecDepth 100000 in
theorem contract (H : Type) (enc : TypeId × Value → H) (W : World) (base : Nat) (args : Array Value) (ds gs : List (DataW H)) (before : List MemPlace)
    (hval0 : ∀ (j : Nat) t v,Tryz.f3.params[j]? = some t → args[j]? = some v → Value.okWide Tryz.prog W .any base t v)
    (hW : DataW.Whole enc Tryz.prog Tryz.f3.params.toList Rows.parseTellsSpec.vars false W args.toList ds gs before) (hL : laidMetH Tryz.prog Rows.parseTellsRow.laid W)
    (hsz0 : (DataW.weightsEach Tryz.prog (Tryz.f3.params.toList ++ (OpenSpec.ofChange Rows.parseTellsSpec).bare.plain.varTypes Tryz.prog) (ds ++ gs)).all (· ≤ reachBytes) = true) :
    Calls Tryz.prog 3 args W fun e W' => ∃ v, e = .returned v ∧ Rows.parseTellsSpec.post enc Tryz.prog Tryz.f3 false true false false W args v W' := by
  have hval : ∀ (j : Nat) t v,Tryz.f3.params[j]? = some t → args[j]? = some v → Value.okWide Tryz.prog W .any base t v:=hval0
  have hW' := hW
  obtain ⟨p,q,hA0,hV,rfl,hfz,hnd⟩:=hW
  have hA : DataW.TrodAll enc Tryz.prog W 0 (fun _=>true) true Tryz.f3.params.toList args.toList ds p:=hA0
  have hsz : (DataW.weightsEach Tryz.prog (Tryz.f3.params.toList ++ (OpenSpec.ofChange Rows.parseTellsSpec).bare.plain.varTypes Tryz.prog) (ds ++ gs)).all (· ≤ reachBytes) = true:=hsz0
  rw [Tryz.params3] at hA hval hsz
  obtain ⟨v0,d0,rfl,rfl,h0⟩:=trodAll_one hA
  obtain ⟨rfl,rfl⟩:=trodVars_none hV
  obtain ⟨s,rfl,rfl,rfl,hs⟩:=open_string Tryz.underlying9 (hval 0 9 v0 rfl rfl) h0
  clear hA0 hval0
  simp only [List.append_nil] at hW'
  refine Calls.mono (R := fun e W' => e = .returned (.bool true) ∧ Below W.heap.size W W') ?_ ?_
  · by_cases hl : 3000 < s.size
    · exact LawP.long s hl (fun w h=>LivP.lives w h) W (tabs hL)
    · have hs2 : s.size ≤ 1000000:=by omega
      exact LawP.told s hl _ _ _ _ _ _ _ _ (fun w h=>SimA.pool_both s hs2 w h) (fun w h=>SimA.exprs_both s hs2 w h) (fun w h=>LivP.lives w h) W (tabs hL)
  rintro e W' ⟨rfl, bel⟩
  exact ⟨_,rfl,_,_,_,[],[],[],hW',trodAll_mk1 (shut_bool Tryz.underlying4 _),trodAll_mk1 (shut_string Tryz.underlying9 hs),rfl,bel.frame _,fun h=>by cases h⟩

/-! ### one start that fits -/
noncomputable def laidWorld (os : Os) : World:=World.laidAll Tryz.prog os Rows.parseTellsRow.laid
def args0 : Array Value:=#[.string ⟨#[]⟩]
theorem laid_met (os : Os) : laidMet Tryz.prog Rows.parseTellsRow.laid ((laidWorld os).forCall (fun _ _=>0) ⟨#[],args0,[]⟩).memory :=
  laidMet_laidAll _ (by kernel_rfl) (by kernel_rfl)
theorem reads (os : Os) {H : Type} (enc : TypeId × Value → H) : ∃ places,DataW.whole enc Tryz.prog ((laidWorld os).forCall (fun _ _=>0) ⟨#[],args0,[]⟩).memory Tryz.f3.params.toList Rows.parseTellsSpec.vars false args0.toList 8 = some ([.lit (.string [])],[],places) :=
  ⟨[],by kernel_rfl⟩

set_option maxRecDepth 100000 in
theorem lifted (os : Os) (started : os.Started) (H : Type) (enc : TypeId × Value → H) (F : Stop.Interp) :
    ReturnsInHanded {} Tryz.checked os 3 .any ((OpenSpec.ofChange Rows.parseTellsSpec).preRow enc Tryz.prog Tryz.f3 Rows.parseTellsRow.domain false Rows.parseTellsRow.laid) (((OpenSpec.ofChange Rows.parseTellsSpec).at F).post enc Tryz.prog Tryz.f3 false true false false):=by
  obtain ⟨places,hx⟩:=reads os enc
  refine returnsInHanded_of_row (C:=Tryz.checked) (s:=OpenSpec.ofChange Rows.parseTellsSpec) own started (by kernel_rfl) Tryz.func3
    (witness_row_atRef (enc:=enc) (C:=Tryz.checked) false (laidWorld os) args0 (World.laidAll_os _ _ _) (by kernel_rfl) (by kernel_rfl) (by kernel_rfl)
      (OpenSpec.preRow_of_cond 8 hx (by kernel_rfl) (fun k hk=>by cases hk) (by kernel_rfl) (laid_met os))) ?_
  intro W base args ds gs before hval hW _ _ hsz hL _ _
  exact contract H enc W base args ds gs before hval hW hL hsz

theorem said : Rows.ParseTellsSaid :=
  OpenClaim.holds_of_cond 3 Tryz.f3 rfl rfl rfl rfl rfl rfl rfl ⟨rfl,rfl,rfl,rfl,rfl⟩ rfl rfl rfl rfl rfl (by kernel_rfl) Tryz.func3 (by kernel_rfl)
    (of_decide_eq_true (by kernel_rfl)) (by unfold Func.isWrapper;first | (rw [if_pos (by decide +kernel)];kernel_rfl) | (rw [if_neg (by decide +kernel)];exact ⟨rfl,rfl⟩))
    (fun os started H enc _ F=>by rw [OpenClaim.pre_eq_preRow];exact lifted os started H enc F)

/-- No parameter wants a stand-in; the program's own looks are on. -/
theorem plain (f : FuncId) (fn : Func) (hf : Tryz.pinned.checked.prog.funcNamed "joust/joustlaw02.ParseTells" = some f) (hfn : Tryz.pinned.checked.prog.funcs[f]? = some fn) :
    true = Tryz.pinned.checked.prog.looks [] ∧ ∀ (j : Nat) t,fn.params[j]? = some t → Tryz.pinned.checked.prog.wantsStandIn t = false:=by
  obtain rfl : f = 3 := Option.some.inj ((show Tryz.prog.funcNamed "joust/joustlaw02.ParseTells" = some 3 by kernel_rfl).symm.trans hf) |>.symm
  obtain rfl : fn = Tryz.f3:=(Option.some.inj (Tryz.func3.symm.trans hfn)).symm
  refine ⟨by kernel_rfl,fun j t ht=>?_⟩
  rw [Tryz.params3] at ht
  have hm:=Array.mem_of_getElem? ht
  simp only [List.mem_toArray,List.mem_cons,List.not_mem_nil,or_false] at hm
  subst hm
  exact (show Tryz.prog.wantsStandIn 9 = false by kernel_rfl)

/-- THE CARD. -/
theorem card : Rows.ParseTellsCardSaid :=
  Claim7.holds_tied_plain_at .later [] _ _ _ _ said (fun _ h=>by cases h) (by kernel_rfl) (fun _ h=>by cases h) parseTells_row_tie rfl ⟨rfl,rfl⟩ (by kernel_rfl) rfl plain (by kernel_rfl)
#print axioms card
end Go.Proofs.YtmgdkkkkanjadaaGreatDoor.rowE
