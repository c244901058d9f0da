/-
  Contracts of what scan and its document call: letters, runes, numerals, trimmed texts; each call comes to a plain function. Conditions: what the listed package variables hold.
-/
import Derived.Test.YtmgdkkkkanjadaaGreatDoorX0
import Derived.Test.YtmgdkkkkanjadaaGreatDoorIter
import Derived.Test.YtmgdkkkkanjadaaGreatDoorRuneS
import Derived.Shelf.Strings.SlTrimAscii
import Derived.Shelf.Utf8.RuneCount
namespace Go.Proofs.YtmgdkkkkanjadaaGreatDoor.HandS
set_option linter.unusedVariables false
set_option linter.unusedSimpArgs false
open Go.RowKit Go.Shelf Go.Lib Go.Proofs.YtmgdkkkkanjadaaGreatDoorW.PrintWords Go.Proofs.YtmgdkkkkanjadaaGreatDoorW.PrintLast Go.Proofs.YtmgdkkkkanjadaaGreatDoorW.PrintMore Go.Proofs.YtmgdkkkkanjadaaGreatDoor.X

/-- What the listed variables hold. -/
structure Tabs (w : World) : Prop where
  props : Lib.TabIs Tryz.prog w "unicode.properties" .u8 Lib.propertiesTab
  letters : RVar 1 letterT w
  runes : Lib.Utf8Tabs 2 3 w
  syn : ∃ tp p, w.var? Tryz.prog "strconv.ErrSyntax" = some #[.iface tp p]
  rng : ∃ tp p, w.var? Tryz.prog "strconv.ErrRange" = some #[.iface tp p]

theorem var_below {w w' : World} {n : String} {v : Array Value} (h : w.var? Tryz.prog n = some v) (hb : Below w.heap.size w w') : w'.var? Tryz.prog n = some v := by
  unfold World.var? at h ⊢
  cases hg : Tryz.prog.globalNamed n with
  | none=>rw [hg] at h;cases h
  | some g =>
    rw [hg] at h
    rw [Option.bind_some] at h ⊢
    by_cases hlt : g < w.heap.size
    · rw [hb.block g hlt];exact h
    · rw [Array.getElem?_eq_none (by omega)] at h
      cases h

theorem Tabs.below {w w' : World} (h : Tabs w) (hb : Below w.heap.size w w') : Tabs w' where
  props:=var_below h.props hb
  letters:=RVar_below h.letters hb
  runes:=Utf8Tabs_below h.runes hb
  syn:=by obtain ⟨tp,p,e⟩:=h.syn;exact ⟨tp,p,var_below e hb⟩
  rng:=by obtain ⟨tp,p,e⟩:=h.rng;exact ⟨tp,p,var_below e hb⟩

/-! ### runes and letters -/
def strings_HasPrefix.f (a0 : ByteArray) (a1 : ByteArray) : Option (Bool):=some (Lib.hasPrefix a0.data.toList a1.data.toList)
theorem strings_HasPrefix.calls (a0 : ByteArray) (a1 : ByteArray) (r : Bool) (w : World) (h : strings_HasPrefix.f a0 a1 = some r) :
    Calls Tryz.prog 94 #[.string a0, .string a1] w fun e w' => e = .returned (.bool r) ∧ Below w.heap.size w w' := by
  injection h with h
  subst h
  refine (Tryz.strings_HasPrefix a0 a1 w).mono ?_
  rintro e w' ⟨rfl, rfl⟩
  exact ⟨rfl,Below.refl _ _⟩

def unicode_IsLetter.f (a0 : Int) : Option (Bool):=if -2147483648 ≤ a0 ∧ a0 ≤ 2147483647 then some (isLetterU a0) else none
theorem unicode_IsLetter.calls (a0 : Int) (r : Bool) (w : World) (hG : Tabs w) (h : unicode_IsLetter.f a0 = some r) :
    Calls Tryz.prog 87 #[.int .i32 a0] w fun e w' => e = .returned (.bool r) ∧ Below w.heap.size w w' := by
  unfold unicode_IsLetter.f at h
  split at h
  · rename_i hb
    injection h with h
    subst h
    exact Tryz.unicode_IsLetter_all a0 w hb.1 hb.2 hG.props hG.letters
  · cases h

def utf8_DecodeRuneInString.f (a0 : ByteArray) : Option (Int × Int):=some ((Lib.decodeGo a0).1,(Lib.decodeGo a0).2)
theorem utf8_DecodeRuneInString.calls (a0 : ByteArray) (r1 : Int) (r2 : Int) (w : World) (hG : Tabs w) (h : utf8_DecodeRuneInString.f a0 = some (r1,r2)) :
    Calls Tryz.prog 80 #[.string a0] w fun e w' => e = .returned (.tuple #[.int .i32 r1, .int .i64 r2]) ∧ Below w.heap.size w w' := by
  injection h with h
  simp only [Prod.mk.injEq] at h
  obtain ⟨rfl,rfl⟩:=h
  exact Tryz.utf8_DecodeRuneInString a0 w hG.runes

def utf8_RuneCountInString.f (a0 : ByteArray) : Option (Int):=if a0.size < 9223372036854775807 then some (Lib.runeCount a0) else none
theorem utf8_RuneCountInString.calls (a0 : ByteArray) (r : Int) (w : World) (hG : Tabs w) (h : utf8_RuneCountInString.f a0 = some r) :
    Calls Tryz.prog 96 #[.string a0] w fun e w' => e = .returned (.int .i64 r) ∧ Below w.heap.size w w' := by
  unfold utf8_RuneCountInString.f at h
  split at h
  · rename_i hb
    injection h with h
    subst h
    refine (Any.utf8_RuneCountInString Tryz.lays195 a0 w hb).mono ?_
    rintro e w' ⟨rfl, pos, rfl⟩
    exact ⟨rfl,below_alloc (Below.refl _ _) _⟩
  · cases h

/-! ### trimmed texts -/
def strings_TrimLeft.f (a0 : ByteArray) (a1 : ByteArray) : Option (ByteArray) :=
  if a1.size < 4294967281 ∧ a1.data.toList.all (fun b=>decide (b.toNat < 128)) = true then some ⟨(Lib.trimLeftS a0.data.toList a1.data.toList).toArray⟩ else none
theorem strings_TrimLeft.calls (a0 : ByteArray) (a1 : ByteArray) (r : ByteArray) (w : World) (hG : Tabs w) (h : strings_TrimLeft.f a0 a1 = some r) :
    Calls Tryz.prog 115 #[.string a0, .string a1] w fun e w' => e = .returned (.string r) ∧ Below w.heap.size w w' := by
  unfold strings_TrimLeft.f at h
  split at h
  · rename_i hb
    injection h with h
    subst h
    exact Any.strings_TrimLeft_laid Tryz.lays161 (by kernel_rfl) a0 a1 w hb.1 (ascii_of_all hb.2)
  · cases h

def strings_TrimRight.f (a0 : ByteArray) (a1 : ByteArray) : Option (ByteArray) :=
  if a0.size ≤ 9223372036854775807 ∧ a1.size < 4294967281 ∧ a1.data.toList.all (fun b=>decide (b.toNat < 128)) = true then some ⟨(Lib.trimRightS a0.data.toList a1.data.toList).toArray⟩ else none
theorem strings_TrimRight.calls (a0 : ByteArray) (a1 : ByteArray) (r : ByteArray) (w : World) (hG : Tabs w) (h : strings_TrimRight.f a0 a1 = some r) :
    Calls Tryz.prog 114 #[.string a0, .string a1] w fun e w' => e = .returned (.string r) ∧ Below w.heap.size w w' := by
  unfold strings_TrimRight.f at h
  split at h
  · rename_i hb
    injection h with h
    subst h
    exact Any.strings_TrimRight_laid Tryz.lays162 (by kernel_rfl) a0 a1 w hb.1 hb.2.1 (ascii_of_all hb.2.2)
  · cases h

/-! ### marks -/
def strings_ContainsRune.f (a0 : ByteArray) (a1 : Int) : Option (Bool) :=
  if 0 ≤ a1 ∧ a1 < 128 then some (decide (0 ≤ Lib.indexByte a0.data.toList a1.toNat.toUInt8))
  else if a0.data.toList = RuneS.marks.data.toList ∧ 128 ≤ a1 ∧ a1 ≤ 1114111 then some false else none
theorem strings_ContainsRune.calls (a0 : ByteArray) (a1 : Int) (r : Bool) (w : World) (hG : Tabs w) (h : strings_ContainsRune.f a0 a1 = some r) :
    Calls Tryz.prog 99 #[.string a0, .int .i32 a1] w fun e w' => e = .returned (.bool r) ∧ Below w.heap.size w w' := by
  unfold strings_ContainsRune.f at h
  split at h
  · rename_i hb
    injection h with h
    subst h
    refine (Tryz.strings_ContainsRune_ascii a0 a1 w hb.1 hb.2).mono ?_
    rintro e w' ⟨rfl, rfl⟩
    exact ⟨rfl,Below.refl _ _⟩
  · split at h
    · rename_i hb
      injection h with h
      subst h
      have e0 : a0 = RuneS.marks:=by
        have:=hb.1
        obtain ⟨⟨l⟩⟩:=a0
        simp only at this
        rw [this]
      rw [e0]
      exact RuneS.containsRune_high a1 w hb.2.1 hb.2.2
    · cases h

/-! ### numerals -/
def strconv_Atoi.f (a0 : ByteArray) : Option (Int × Option Int) :=
  if a0.size ≤ 281474976710656 then
    match Lib.atoiAll a0.data.toList with
    | .ok v=>some (v,none)
    | .range=>some (Lib.atoiSat a0.data.toList,some 1)
    | _=>some (0,some 0)
  else none
theorem bytesWorld_below_ (w : World) (e : TypeId) (s : ByteArray) : Below w.heap.size w (Lib.bytesWorld w e s):=bytes_below (Below.refl _ _) (Nat.le_refl _) e s
theorem strconv_Atoi.calls (a0 : ByteArray) (r1 : Int) (r2 : Option Int) (w : World) (hG : Tabs w) (h : strconv_Atoi.f a0 = some (r1,r2)) :
    Calls Tryz.prog 69 #[.string a0] w fun e w' => ∃ N_ : Nat, e = .returned (.tuple #[.int .i64 r1, errV N_ r2]) ∧ Below w.heap.size w w' := by
  unfold strconv_Atoi.f at h
  split at h
  · rename_i hb
    cases hv : Lib.atoiAll a0.data.toList with
    | ok v =>
      rw [hv] at h
      injection h with h
      simp only [Prod.mk.injEq] at h
      obtain ⟨rfl,rfl⟩:=h
      refine (Tryz.strconv_Atoi_ok a0 (by omega) _ hv w).mono ?_
      rintro e w' ⟨rfl, rfl | ⟨t, rfl⟩⟩
      · exact ⟨0,rfl,Below.refl _ _⟩
      · exact ⟨0,rfl,bytesWorld_below_ _ _ _⟩
    | range =>
      rw [hv] at h
      injection h with h
      simp only [Prod.mk.injEq] at h
      obtain ⟨rfl,rfl⟩:=h
      obtain ⟨tp,p,hvar⟩:=hG.rng
      refine (Tryz.strconv_Atoi_range_var a0 hb hv tp p w hvar).mono ?_
      rintro e w' ⟨N, rfl, _, _, hbl⟩
      exact ⟨N,rfl,hbl⟩
    | _ =>
      rw [hv] at h
      injection h with h
      simp only [Prod.mk.injEq] at h
      obtain ⟨rfl,rfl⟩:=h
      obtain ⟨tp,p,hvar⟩:=hG.syn
      refine (Any.strconv_Atoi_syntax_var Tryz.laysC172 a0 hb hv tp p w hvar).mono ?_
      rintro e w' ⟨N, rfl, _, _, hbl⟩
      exact ⟨N,rfl,hbl⟩
  · cases h
end Go.Proofs.YtmgdkkkkanjadaaGreatDoor.HandS
