/-
  Contracts of what puzzles call: numerals, joined texts, whether a puzzle may be; each call comes to a plain function. Conditions: what the listed package variables hold.
-/
import Derived.Test.YtgalbiokebghkaaDoorP0
import Derived.Test.YtgalbiokebghkaaDoorPuz
import Derived.Test.YtgalbiokebghkaaDoorShelf
import Derived.WalkSpells
namespace Go.Proofs.YtgalbiokebghkaaDoor.HandP
set_option linter.unusedVariables false
set_option linter.unusedSimpArgs false
open Go.RowKit Go.Shelf Go.Proofs.YtgalbiokebghkaaDoorW.PrintWords Go.Proofs.YtgalbiokebghkaaDoorW.PrintLast Go.Proofs.YtgalbiokebghkaaDoorW.PrintMore Go.Proofs.YtgalbiokebghkaaDoor.P

/-- What the listed variables hold. -/
structure Tabs (w : World) : Prop where
  pow : Lib.TabIs Tryd.prog w "internal/strconv.uint64pow10" .u64 Lib.pow10Tab
  sp : Lib.TabIs Tryd.prog w "strings.asciiSpace" .u8 Lib.asciiSpaceTab
  white : Lib.WhiteTab 3 w
  syn : ∃ tp p, w.var? Tryd.prog "strconv.ErrSyntax" = some #[.iface tp p]
  rng : ∃ tp p, w.var? Tryd.prog "strconv.ErrRange" = some #[.iface tp p]

theorem var_below {w w' : World} {n : String} {v : Array Value} (h : w.var? Tryd.prog n = some v) (hb : Below w.heap.size w w') : w'.var? Tryd.prog n = some v := by
  unfold World.var? at h ⊢
  cases hg : Tryd.prog.globalNamed n with
  | none => rw [hg] at h; cases h
  | some g =>
    rw [hg] at h
    rw [Option.bind_some] at h ⊢
    by_cases hlt : g < w.heap.size
    · rw [hb.block g hlt]; exact h
    · rw [Array.getElem?_eq_none (by omega)] at h
      cases h

theorem Tabs.below {w w' : World} (h : Tabs w) (hb : Below w.heap.size w w') : Tabs w' where
  pow := var_below h.pow hb
  sp := var_below h.sp hb
  white := WhiteTab_below h.white hb
  syn := by obtain ⟨tp, p, e⟩ := h.syn; exact ⟨tp, p, var_below e hb⟩
  rng := by obtain ⟨tp, p, e⟩ := h.rng; exact ⟨tp, p, var_below e hb⟩

theorem below_grown_ (w : World) (k : Nat) (os : Array Obj) : Below w.heap.size w (Sort.grow (w.drewN k) os) :=
  ⟨rfl, rfl, rfl, by show w.heap.size ≤ (w.heap ++ os).size; rw [Array.size_append]; omega, fun j hj => by show (w.heap ++ os)[j]? = w.heap[j]?; rw [Array.getElem?_append_left hj]⟩

/-! ### strconv.Itoa -/
def strconv_Itoa.f (a0 : Int) : Option (ByteArray) := if -9223372036854775808 ≤ a0 ∧ a0 ≤ 9223372036854775807 then some ⟨(Lib.itoa a0).toArray⟩ else none
theorem strconv_Itoa.calls (a0 : Int) (r : ByteArray) (w : World) (hG : Tabs w) (h : strconv_Itoa.f a0 = some r) :
    Calls Tryd.prog 24 #[.int .i64 a0] w fun e w' => e = .returned (.string r) ∧ Below w.heap.size w w' := by
  unfold strconv_Itoa.f at h
  split at h
  · rename_i hb
    injection h with h
    subst h
    refine (Tryd.strconv_Itoa a0 hb.1 hb.2 w hG.pow).mono ?_
    rintro e w' ⟨rfl, k, os, rfl⟩
    exact ⟨rfl, below_grown_ w k os⟩
  · cases h

/-! ### rows of texts and numbers, at plain addresses -/
theorem addr_plain {w : World} {ad : Addr} {v : Value} (h : w.cell? ad = some v) : ad.spot = none := by
  unfold World.cell? at h
  split at h
  · split at h
    · cases h
    · rename_i h1; simpa using h1
  · cases h
theorem addr_add {ad : Addr} (h : ad.spot = none) (j : Nat) : ad.add j = ⟨ad.block, ad.off + j, none⟩ := by
  obtain ⟨b, o, s⟩ := ad
  simp only at h
  subst h
  unfold Addr.add
  split
  · subst_vars; rfl
  · rfl
theorem row_plain {w : World} {A : Option Addr} {xs : List ByteArray} (h : Kd.C Kd.string w A xs.length xs) (hn : 0 < xs.length) :
    ∃ b off, A = some ⟨b, off, none⟩ ∧ b < w.heap.size ∧ ∀ (j : Nat) x, xs[j]? = some x → w.cell? ⟨b, off + j, none⟩ = some (.string x) := by
  obtain ⟨ad, hA, h0⟩ := Kd.at_string h 0 (by omega) (by omega)
  have hs : ad.spot = none := addr_plain (ad := ad) (by simpa [Addr.add] using h0)
  refine ⟨ad.block, ad.off, by rw [hA]; obtain ⟨b, o, s⟩ := ad; simp only at hs; subst hs; rfl, ?_, ?_⟩
  · have := World.block_lt_of_cell? w _ h0
    simpa [Addr.add] using this
  · intro j x hj
    have hjl : j < xs.length := (List.getElem?_eq_some_iff.1 hj).1
    obtain ⟨ad', hA', h1⟩ := Kd.at_string h (j : Int) (by omega) (by omega)
    rw [hA] at hA'
    injection hA' with hA'
    subst hA'
    rw [Int.toNat_natCast, addr_add hs] at h1
    rw [h1]
    simp [rdOf, List.getD_eq_getElem?_getD, hj]
theorem nums_plain {w : World} {A : Option Addr} {xs : List Int} (h : Kd.C (Kd.int .i64) w A xs.length xs) (hn : 0 < xs.length) :
    ∃ b off, A = some ⟨b, off, none⟩ ∧ b < w.heap.size ∧ ∀ (j : Nat), j < xs.length → w.cell? ⟨b, off + j, none⟩ = some (.int .i64 xs[j]!) := by
  obtain ⟨ad, hA, h0⟩ := Kd.at_int h 0 (by omega) (by omega)
  have hs : ad.spot = none := addr_plain (ad := ad) (by simpa [Addr.add] using h0)
  refine ⟨ad.block, ad.off, by rw [hA]; obtain ⟨b, o, s⟩ := ad; simp only at hs; subst hs; rfl, ?_, ?_⟩
  · have := World.block_lt_of_cell? w _ h0
    simpa [Addr.add] using this
  · intro j hjl
    obtain ⟨ad', hA', h1⟩ := Kd.at_int h (j : Int) (by omega) (by omega)
    rw [hA] at hA'
    injection hA' with hA'
    subst hA'
    rw [Int.toNat_natCast, addr_add hs] at h1
    rw [h1]
    simp [rd, List.getD_eq_getElem?_getD, hjl]

/-! ### strings.Join -/
def strings_Join.f (l0 : List ByteArray) (a1 : ByteArray) : Option (ByteArray) := if l0.length ≤ 1000000 ∧ (Lib.join (l0.map (·.data.toList)) a1.data.toList).length ≤ 140737488355328 then some ⟨(Lib.join (l0.map (·.data.toList)) a1.data.toList).toArray⟩ else none
theorem strings_Join.calls (A0 : Option Addr) (c0 : Nat) (l0 : List ByteArray) (a1 : ByteArray) (r : ByteArray) (w : World) (hr0 : Kd.C Kd.string w A0 l0.length l0) (hc0 : l0.length ≤ c0) (h : strings_Join.f l0 a1 = some r) :
    Calls Tryd.prog 25 #[.slice A0 l0.length c0, .string a1] w fun e w' => e = .returned (.string r) ∧ Below w.heap.size w w' := by
  unfold strings_Join.f at h
  split at h
  · rename_i hb
    injection h with h
    subst h
    cases l0 with
    | nil =>
      refine (Tryd.strings_Join_none A0 c0 a1 w).mono ?_
      rintro e w' ⟨rfl, rfl⟩
      exact ⟨rfl, Below.refl _ _⟩
    | cons x r =>
      obtain ⟨b, off, hA, hbk, hc⟩ := row_plain hr0 (by simp)
      subst hA
      exact Tryd.strings_Join b off c0 (x :: r) a1 w hc hbk (by omega) hc0 hb.2
  · cases h

/-! ### puzzle.May -/
def odd (n : Int) : Bool := decide (n < 0) || decide (99999 < n)
theorem odd_pred (w : World) : PredAt Tryd.prog 26 #[] (Value.int .i64) odd w := fun W x _ => by
  unfold FnGives odd
  by_cases h1 : x < 0
  · go_enter Tryd.func26, Tryd.ntmps26
    go_wp2
    go_ret
    exact ⟨by simp [h1], 0, rfl⟩
  · by_cases h2 : 99999 < x
    · go_enter Tryd.func26, Tryd.ntmps26
      go_wp2
      go_ret
      exact ⟨by simp [h2], 0, rfl⟩
    · go_enter Tryd.func26, Tryd.ntmps26
      go_wp2
      go_ret
      exact ⟨by simp [h1, h2], 0, rfl⟩
theorem contains_odd (A : Option Addr) (c : Nat) (l : List Int) (w W : World) (hr : Kd.C (Kd.int .i64) w A l.length l) (hb : Below w.heap.size w W) :
    Calls Tryd.prog 27 #[.slice A l.length c, .func (.func 26) #[] #[]] W fun e w' => e = .returned (.bool (l.any odd)) ∧ ∃ q, w' = W.drewN q := by
  cases l with
  | nil =>
    refine (Tryd.slices_ContainsFunc_empty (α := Int) A c _ W).mono ?_
    rintro e w' ⟨rfl, rfl⟩
    exact ⟨rfl, 0, rfl⟩
  | cons x r =>
    obtain ⟨b, off, hA, hbk, hc⟩ := nums_plain hr (by simp)
    subst hA
    have hl := hr.2.1
    have := Tryd.slices_ContainsFunc (Value.int .i64) odd 26 #[] (enters_of Tryd.func26 (by kernel_rfl) rfl) b off (x :: r).length c (x :: r) W (odd_pred W) (Nat.le_refl _) hl (fun j hj => (hb.cell (p := ⟨b, off + j, none⟩) hbk).trans (hc j hj))
    rw [List.take_length] at this
    exact this
def puzzle_May.f (a0_0 : Int) (a0_1 : Int) (l0_2 : List Int) : Option (Bool) := some (Puz.mayB a0_0 a0_1 l0_2)
theorem puzzle_May.calls (a0_0 : Int) (a0_1 : Int) (A0_2 : Option Addr) (c0_2 : Nat) (l0_2 : List Int) (r : Bool) (w : World) (hr0_2 : Kd.C (Kd.int .i64) w A0_2 l0_2.length l0_2) (hc0_2 : l0_2.length ≤ c0_2) (h : puzzle_May.f a0_0 a0_1 l0_2 = some r) :
    Calls Tryd.prog 9 #[.agg #[.int .u8 a0_0, .int .i64 a0_1, .slice A0_2 l0_2.length c0_2]] w fun e w' => e = .returned (.bool r) ∧ Below w.heap.size w w' := by
  unfold puzzle_May.f at h
  injection h with h
  subst h
  have hC := fun W hb => contains_odd A0_2 c0_2 l0_2 w W hr0_2 hb
  have e5 : (l0_2.any odd) = l0_2.any fun n => decide (n < 0) || decide (99999 < n) := rfl
  unfold Puz.mayB
  rw [← e5]
  generalize l0_2.any odd = bb at hC ⊢
  have HR := Aside0.mk hr0_2
  have hC' := Aside0.mk hC
  clear hr0_2 hC e5
  by_cases h1 : a0_0 ≤ 1
  · by_cases h2 : 1 ≤ a0_1
    · by_cases h3 : a0_1 ≤ 12
      · by_cases h4 : l0_2.length ≤ 1000
        · go_enter Tryd.func9, Tryd.ntmps9
          go_wp2_with (go_at_call 27; refine (hC'.out _ ((Below.refl _ _).alloc (Nat.le_refl _) _)).mono ?_; rintro e w' ⟨rfl, q, rfl⟩)
          go_ret
          exact ⟨by simp [h1, h2, h3, h4], by repeat (first | exact Below.refl _ _ | apply pw_below_drewN | apply below_drew | apply below_alloc)⟩
        · go_enter Tryd.func9, Tryd.ntmps9
          go_wp2
          go_ret
          exact ⟨by simp [show ¬ l0_2.length ≤ 1000 from by omega], by repeat (first | exact Below.refl _ _ | apply pw_below_drewN | apply below_drew | apply below_alloc)⟩
      · go_enter Tryd.func9, Tryd.ntmps9
        go_wp2
        go_ret
        exact ⟨by simp [show ¬ a0_1 ≤ 12 from by omega], by repeat (first | exact Below.refl _ _ | apply pw_below_drewN | apply below_drew | apply below_alloc)⟩
    · go_enter Tryd.func9, Tryd.ntmps9
      go_wp2
      go_ret
      exact ⟨by simp [show ¬ 1 ≤ a0_1 from by omega], by repeat (first | exact Below.refl _ _ | apply pw_below_drewN | apply below_drew | apply below_alloc)⟩
  · go_enter Tryd.func9, Tryd.ntmps9
    go_wp2
    go_ret
    exact ⟨by simp [show ¬ a0_0 ≤ 1 from by omega], by repeat (first | exact Below.refl _ _ | apply pw_below_drewN | apply below_drew | apply below_alloc)⟩

/-! ### strings.Fields -/
def strings_Fields.f (a0 : ByteArray) : Option (List ByteArray) := if a0.size < 4294967281 then some ((Lib.fieldsU a0.data.toList).map fun x => ⟨x.toArray⟩) else none
theorem strings_Fields.calls (a0 : ByteArray) (r : List ByteArray) (w : World) (hG : Tabs w) (h : strings_Fields.f a0 = some r) :
    Calls Tryd.prog 28 #[.string a0] w fun e w' => ∃ v0_ : Value, e = .returned (v0_) ∧ Kd.R Kd.string 9 w' w.heap.size (fun _ => True) v0_ r ∧ Below w.heap.size w w' := by
  unfold strings_Fields.f at h
  split at h
  · rename_i hb
    injection h with h
    subst h
    refine (Tryd.strings_Fields_any a0 w hb hG.sp hG.white).mono ?_
    rintro e w' ⟨A, rfl, hA, ho, hbl⟩
    refine ⟨_, rfl, ?_, hbl⟩
    rw [Lib.fieldsU_eq]
    refine Kd.R_of_own (enc := Value.string) (h1 := fun _ => rfl) ?_ (fun _ _ => trivial)
    have e1 : encs Value.string ((Lib.fieldsD a0.data.toList).map fun x => (⟨x.toArray⟩ : ByteArray)) = (Lib.fieldsD a0.data.toList).map fun x => Value.string ⟨x.toArray⟩ := by simp [encs, List.map_map, Function.comp_def]
    rw [e1, List.length_map]
    exact ho
  · cases h

/-! ### strconv.Atoi -/
def strconv_Atoi.f (a0 : ByteArray) : Option (Int × Option Int) :=
  if a0.size ≤ 281474976710656 then
    match Lib.atoiAll a0.data.toList with
    | .ok v => some (v, none)
    | .range => some (Lib.atoiSat a0.data.toList, some 1)
    | _ => some (0, some 0)
  else none
theorem bytesWorld_below_ (w : World) (e : TypeId) (s : ByteArray) : Below w.heap.size w (Lib.bytesWorld w e s) := bytes_below (Below.refl _ _) (Nat.le_refl _) e s
theorem strconv_Atoi.calls (a0 : ByteArray) (r1 : Int) (r2 : Option Int) (w : World) (hG : Tabs w) (h : strconv_Atoi.f a0 = some (r1, r2)) :
    Calls Tryd.prog 29 #[.string a0] w fun e w' => ∃ N_ : Nat, e = .returned (.tuple #[.int .i64 r1, errV N_ r2]) ∧ Below w.heap.size w w' := by
  unfold strconv_Atoi.f at h
  split at h
  · rename_i hb
    cases hv : Lib.atoiAll a0.data.toList with
    | ok v =>
      rw [hv] at h
      injection h with h
      simp only [Prod.mk.injEq] at h
      obtain ⟨rfl, rfl⟩ := h
      refine (Tryd.strconv_Atoi_ok a0 (by omega) _ hv w).mono ?_
      rintro e w' ⟨rfl, rfl | ⟨t, rfl⟩⟩
      · exact ⟨0, rfl, Below.refl _ _⟩
      · exact ⟨0, rfl, bytesWorld_below_ _ _ _⟩
    | range =>
      rw [hv] at h
      injection h with h
      simp only [Prod.mk.injEq] at h
      obtain ⟨rfl, rfl⟩ := h
      obtain ⟨tp, p, hvar⟩ := hG.rng
      refine (Tryd.strconv_Atoi_range_var a0 hb hv tp p w hvar).mono ?_
      rintro e w' ⟨N, rfl, _, _, hbl⟩
      exact ⟨N, rfl, hbl⟩
    | _ =>
      rw [hv] at h
      injection h with h
      simp only [Prod.mk.injEq] at h
      obtain ⟨rfl, rfl⟩ := h
      obtain ⟨tp, p, hvar⟩ := hG.syn
      refine (Any.strconv_Atoi_syntax_var Tryd.laysC172 a0 hb hv tp p w hvar).mono ?_
      rintro e w' ⟨N, rfl, _, _, hbl⟩
      exact ⟨N, rfl, hbl⟩
  · cases h
end Go.Proofs.YtgalbiokebghkaaDoor.HandP
