/-
  strings.ContainsRune over the marks of a text, at a rune that is no ASCII: false. Conditions: none.
-/
import Derived.Test.YtmgdkkkkanjadaaGreatDoorShelf
import Derived.Lib.OthersKept
import Derived.Deep.LoopGhost
import Derived.Scope
import Derived.WalkMore
import Derived.Test.YtmgdkkkkanjadaaGreatDoorV0
namespace Go.Proofs.YtmgdkkkkanjadaaGreatDoor.RuneS
set_option linter.unusedVariables false
set_option linter.unusedSimpArgs false
open Go.RowKit Go.Shelf Go.Lib Go.Proofs.YtmgdkkkkanjadaaGreatDoorW.PrintWords Go.Proofs.YtmgdkkkkanjadaaGreatDoorW.PrintLast Go.Proofs.YtmgdkkkkanjadaaGreatDoorW.PrintMore

/-- The marks. -/
def marks : ByteArray:=⟨#[123,125,40,41,58,59,43,42,60,61,45]⟩
theorem marks_ascii (p : Nat) (h : p < marks.size) : (marks[p]'h).toNat < 128:=by
  have : ∀ p : Fin 11,(marks[p.1]'(show p.1 < 11 from p.2)).toNat < 128:=by decide
  exact this ⟨p,h⟩
set_option maxHeartbeats 2000000 in
set_option maxRecDepth 1000000 in
theorem indexRune_bad (w : World) :
    Calls Tryz.prog 116 #[.string marks, .int .i32 65533] w fun e w' => e = .returned (.int .i64 (-1)) ∧ Below w.heap.size w w' := by
  go_enter Tryz.func116,Tryz.ntmps116
  go_wp2
  go_loopg [] marks.size (fun g wx=>∃ pos : Nat,wx.heap[w.heap.size]? = some (.stringIter marks pos) ∧ Below w.heap.size w wx ∧ marks.size ≤ pos + g)
  case atStart=>exact ⟨0,World.iter_heap w marks 0,(Below.refl _ w).alloc (Nat.le_refl _) _,by omega⟩
  case round =>
    obtain ⟨pos,hit,hbw,hfu⟩:=hrel
    by_cases hp : pos < marks.size
    · obtain ⟨g,rfl⟩ : ∃ g,gk = g + 1:=⟨gk - 1,by omega⟩
      have ha:=marks_ascii pos hp
      have hnx : ∀ ty,(Instr.next (.pointer (some ⟨w.heap.size,0,none⟩)) true ty).run Tryz.prog wr = _:=fun ty=>Lib.run_next_ascii_at wr w.heap.size marks pos ty hit hp ha
      have hit2:=Lib.iterAt_heap wr w.heap.size marks pos (pos + 1) hit
      have hbw2:=Lib.below_iterAt hbw (k:=w.heap.size) (Nat.le_refl _) marks (pos + 1)
      obtain ⟨W,hWd⟩ : ∃ W,wr.iterAt w.heap.size marks (pos + 1) = W:=⟨_,rfl⟩
      obtain ⟨c,hc⟩ : ∃ c : Nat,(marks[pos]'hp).toNat = c:=⟨_,rfl⟩
      rw [hc] at hnx ha
      rw [hWd] at hnx hit2 hbw2
      have hne : ((c : Int) == 65533) = false:=beq_eq_false_iff_ne.2 (by omega)
      go_wp2
      go_roundg g
      case measure=>omega
      case rel=>exact ⟨pos + 1,hit2,hbw2,by omega⟩
    · have hnx : ∀ ty,(Instr.next (.pointer (some ⟨w.heap.size,0,none⟩)) true ty).run Tryz.prog wr = _:=fun ty=>Lib.run_next_end_at wr w.heap.size marks pos ty hit hp
      go_wp2
      go_ret
      exact ⟨rfl,hbw⟩
theorem indexByte_high (l : List UInt8) (b : UInt8) (h : ∀ x ∈ l,x.toNat < 128) (hb : 128 ≤ b.toNat) : Lib.indexByte l b = -1:=by
  induction l with
  | nil=>rfl
  | cons x l ih =>
    have hx:=h x (List.mem_cons_self ..)
    have hne : (x == b) = false:=beq_eq_false_iff_ne.2 (fun e=>by rw [e] at hx;omega)
    unfold Lib.indexByte
    rw [ih (fun y hy=>h y (List.mem_cons_of_mem _ hy)),hne]
    rfl
set_option maxHeartbeats 2000000 in
set_option maxRecDepth 1000000 in
theorem indexRune_none (r : Int) (w : World) (h0 : 128 ≤ r) (h1 : r ≤ 1114111) (hb : r ≠ 65533) (hvr : Lib.validRune r = false) :
    Calls Tryz.prog 116 #[.string marks, .int .i32 r] w fun e w' => e = .returned (.int .i64 (-1)) ∧ Below w.heap.size w w' := by
  have c0 : decide (0 ≤ r) = true:=decide_eq_true (by omega)
  have c1 : decide (r < 128) = false:=decide_eq_false (by omega)
  have c2 : (r == 65533) = false:=beq_eq_false_iff_ne.2 hb
  go_enter Tryz.func116,Tryz.ntmps116
  go_wp2_with (go_at_call 133; refine (Tryz.utf8_ValidRune _ _).mono ?_; rintro e w' ⟨rfl, hw⟩; rw [hw, hvr])
  go_ret
  exact ⟨rfl,Below.refl _ _⟩
set_option maxHeartbeats 4000000 in
set_option maxRecDepth 1000000 in
theorem indexRune_far (s rs t : ByteArray) (r : Int) (m x L : Int) (w : World) (h0 : 128 ≤ r) (h1 : r ≤ 1114111) (hb : r ≠ 65533) (he : Utf8.encode r = rs) (hvr : Lib.validRune r = true)
    (hm0 : 1 ≤ m) (hm1 : m < 1000) (hms : m < s.size) (hw1 : IntKind.i64.wrap ((rs.size : Int) - 1) = m)
    (hx : ∀ w,(Instr.index 9 (.string s) (.int .i64 m)).run Tryz.prog w = .ok (.int .u8 x) w)
    (hL : ∀ w,(Instr.index 9 (.string rs) (.int .i64 m)).run Tryz.prog w = .ok (.int .u8 L) w) (hne : (x != L) = true)
    (ht : ∀ w,(Instr.slice 9 (.string s) (some (.int .i64 (m + 1))) none none).run Tryz.prog w = .ok (.string t) w)
    (hib : Lib.indexByte t.data.toList L.toNat.toUInt8 = -1) :
    Calls Tryz.prog 116 #[.string s, .int .i32 r] w fun e w' => e = .returned (.int .i64 (-1)) ∧ Below w.heap.size w w' := by
  have c0 : decide (0 ≤ r) = true:=decide_eq_true (by omega)
  have c1 : decide (r < 128) = false:=decide_eq_false (by omega)
  have c2 : (r == 65533) = false:=beq_eq_false_iff_ne.2 hb
  have hw2 : IntKind.i64.wrap (m + 1) = m + 1:=wrap_small _ (by omega) (by omega)
  have c3 : decide (m < (s.size : Int)) = true:=decide_eq_true hms
  go_enter Tryz.func116,Tryz.ntmps116
  go_wp2_with (go_at_call 133; refine (Tryz.utf8_ValidRune _ _).mono ?_; rintro e w' ⟨rfl, hw⟩; rw [hw, hvr])
  apply wp_scope_straight
  go_wp2
  go_loopg [9] 0 (fun g v9 wx=>v9 = .int .i64 m ∧ Below w.heap.size w wx)
  case atStart=>exact ⟨rfl,Below.refl _ _⟩
  case round =>
    obtain ⟨rfl,hbw⟩:=hrel
    go_wp2
    apply wp_scope_straight
    go_wp2
    refine start_ (n := 7) (S := fun w' => True) (ds := []) #[false, false, false, false, false, false, false] (by kernel_rfl) rfl rfl trivial (fun hHeld => ?_)
    refine pure_ (i := 0) (N := some 27) (v := ?_) (a' := ?_) #[true, false, false, false, false, false, false] rfl rfl (by kernel_rfl) (fun _ _ _ h => h) (Or.inl ⟨by rfl, ?_⟩) ?_ ?_
    rotate_left
    · intro w'
      go_simp
      with_reducible rfl
    rotate_left
    · simp only [Act.put,List.setIfInBounds_toArray,List.set_cons_zero,List.set_cons_succ,i64_w,i32_w]
      rfl
    refine pure_ (i := 1) (N := some 28) (v := ?_) (a' := ?_) #[true, true, false, false, false, false, false] rfl rfl (by kernel_rfl) (fun _ _ _ h => h) (Or.inl ⟨by rfl, ?_⟩) ?_ ?_
    rotate_left
    · intro w'
      go_simp
      with_reducible rfl
    rotate_left
    · simp only [Act.put,List.setIfInBounds_toArray,List.set_cons_zero,List.set_cons_succ,i64_w,i32_w]
      rfl
    refine pure_ (i := 2) (N := some 29) (v := ?_) (a' := ?_) #[true, true, true, false, false, false, false] rfl rfl (by kernel_rfl) (fun _ _ _ h => h) (Or.inl ⟨by rfl, ?_⟩) ?_ ?_
    rotate_left
    · intro w'
      go_simp
      with_reducible rfl
    rotate_left
    · simp only [Act.put,List.setIfInBounds_toArray,List.set_cons_zero,List.set_cons_succ,i64_w,i32_w]
      rfl
    refine pure_ (i := 3) (N := some 30) (v := ?_) (a' := ?_) #[true, true, true, true, false, false, false] rfl rfl (by kernel_rfl) (fun _ _ _ h => h) (Or.inl ⟨by rfl, ?_⟩) ?_ ?_
    rotate_left
    · intro w'
      go_simp
      with_reducible rfl
    rotate_left
    · simp only [Act.put,List.setIfInBounds_toArray,List.set_cons_zero,List.set_cons_succ,i64_w,i32_w]
      rfl
    refine pure_ (i := 4) (N := some 31) (v := ?_) (a' := ?_) #[true, true, true, true, true, false, false] rfl rfl (by kernel_rfl) (fun _ _ _ h => h) (Or.inl ⟨by rfl, ?_⟩) ?_ ?_
    rotate_left
    · intro w'
      go_simp
      with_reducible rfl
    rotate_left
    · simp only [Act.put,List.setIfInBounds_toArray,List.set_cons_zero,List.set_cons_succ,i64_w,i32_w]
      rfl
    refine pure_ (i := 5) (N := some 32) (v := ?_) (a' := ?_) #[true, true, true, true, true, true, false] rfl rfl (by kernel_rfl) (fun _ _ _ h => h) (Or.inl ⟨by rfl, ?_⟩) ?_ ?_
    rotate_left
    · intro w'
      go_simp
      with_reducible rfl
    rotate_left
    · simp only [Act.put,List.setIfInBounds_toArray,List.set_cons_zero,List.set_cons_succ,i64_w,i32_w]
      rfl
    refine pure_ (i := 6) (N := some 33) (v := ?_) (a' := ?_) #[true, true, true, true, true, true, true] rfl rfl (by kernel_rfl) (fun _ _ _ h => h) (Or.inl ⟨by rfl, ?_⟩) ?_ ?_
    rotate_left
    · intro w'
      go_simp
      with_reducible rfl
    rotate_left
    · simp only [Act.put,List.setIfInBounds_toArray,List.set_cons_zero,List.set_cons_succ,i64_w,i32_w]
      rfl
    refine done_ (by kernel_rfl) ?_
    go_wp2
    refine start_ (n := 9) (S := fun w' => True) (ds := []) #[false, false, false, false, false, false, false, false, false] (by kernel_rfl) rfl rfl trivial (fun hHeld => ?_)
    refine pure_ (i := 0) (N := some 34) (v := ?_) (a' := ?_) #[true, false, false, false, false, false, false, false, false] rfl rfl (by kernel_rfl) (fun _ _ _ h => h) (Or.inl ⟨by rfl, ?_⟩) ?_ ?_
    rotate_left
    · intro w'
      go_simp
      with_reducible rfl
    rotate_left
    · simp only [Act.put,List.setIfInBounds_toArray,List.set_cons_zero,List.set_cons_succ,i64_w,i32_w]
      rfl
    refine pure_ (i := 1) (N := some 35) (v := ?_) (a' := ?_) #[true, true, false, false, false, false, false, false, false] rfl rfl (by kernel_rfl) (fun _ _ _ h => h) (Or.inl ⟨by rfl, ?_⟩) ?_ ?_
    rotate_left
    · intro w'
      go_simp
      with_reducible rfl
    rotate_left
    · simp only [Act.put,List.setIfInBounds_toArray,List.set_cons_zero,List.set_cons_succ,i64_w,i32_w]
      rfl
    refine pure_ (i := 2) (N := some 36) (v := ?_) (a' := ?_) #[true, true, true, false, false, false, false, false, false] rfl rfl (by kernel_rfl) (fun _ _ _ h => h) (Or.inl ⟨by rfl, ?_⟩) ?_ ?_
    rotate_left
    · intro w'
      go_simp
      with_reducible rfl
    rotate_left
    · simp only [Act.put,List.setIfInBounds_toArray,List.set_cons_zero,List.set_cons_succ,i64_w,i32_w]
      rfl
    refine pure_ (i := 3) (N := some 37) (v := ?_) (a' := ?_) #[true, true, true, true, false, false, false, false, false] rfl rfl (by kernel_rfl) (fun _ _ _ h => h) (Or.inl ⟨by rfl, ?_⟩) ?_ ?_
    rotate_left
    · intro w'
      go_simp
      with_reducible rfl
    rotate_left
    · simp only [Act.put,List.setIfInBounds_toArray,List.set_cons_zero,List.set_cons_succ,i64_w,i32_w]
      rfl
    refine pure_ (i := 4) (N := some 38) (v := ?_) (a' := ?_) #[true, true, true, true, true, false, false, false, false] rfl rfl (by kernel_rfl) (fun _ _ _ h => h) (Or.inl ⟨by rfl, ?_⟩) ?_ ?_
    rotate_left
    · intro w'
      go_simp
      with_reducible rfl
    rotate_left
    · simp only [Act.put,List.setIfInBounds_toArray,List.set_cons_zero,List.set_cons_succ,i64_w,i32_w]
      rfl
    refine pure_ (i := 5) (N := some 39) (v := ?_) (a' := ?_) #[true, true, true, true, true, true, false, false, false] rfl rfl (by kernel_rfl) (fun _ _ _ h => h) (Or.inl ⟨by rfl, ?_⟩) ?_ ?_
    rotate_left
    · intro w'
      go_simp
      with_reducible rfl
    rotate_left
    · simp only [Act.put,List.setIfInBounds_toArray,List.set_cons_zero,List.set_cons_succ,i64_w,i32_w]
      rfl
    refine pure_ (i := 6) (N := some 40) (v := ?_) (a' := ?_) #[true, true, true, true, true, true, true, false, false] rfl rfl (by kernel_rfl) (fun _ _ _ h => h) (Or.inl ⟨by rfl, ?_⟩) ?_ ?_
    rotate_left
    · intro w'
      go_simp
      with_reducible rfl
    rotate_left
    · simp only [Act.put,List.setIfInBounds_toArray,List.set_cons_zero,List.set_cons_succ,i64_w,i32_w]
      rfl
    refine one_ (i:=7) (N:=some 41) #[true,true,true,true,true,true,true,true,false] rfl rfl (by kernel_rfl) (by decide) (fun K hK=>?_)
    refine goes_ Tryz.func132 (by kernel_rfl) rfl #[.string t,.int .u8 L] (by rfl) rfl rfl (by simp only [List.map_toArray,List.map_cons,List.map_nil];rfl) ?_
    with_reducible refine (Tryz.strings_IndexByte _ _ _).mono ?_
    rintro e w3 ⟨rfl,hw3⟩
    refine ⟨_,rfl,?_⟩
    rw [hib]
    refine hK.out _ _ trivial (fun hHeld=>?_)
    clear hK K
    refine norm_ (a' := ?_) ?_ ?_
    rotate_left
    · show Act.put _ (some 41) _ = _
      simp only [Act.put,List.setIfInBounds_toArray,List.set_cons_zero,List.set_cons_succ,i64_w,i32_w]
      rfl
    refine pure_ (i := 8) (N := some 11) (v := ?_) (a' := ?_) #[true, true, true, true, true, true, true, true, true] rfl rfl (by kernel_rfl) (fun _ _ _ h => h) (Or.inl ⟨by rfl, ?_⟩) ?_ ?_
    rotate_left
    · intro w'
      go_simp
      with_reducible rfl
    rotate_left
    · simp only [Act.put,List.setIfInBounds_toArray,List.set_cons_zero,List.set_cons_succ,i64_w,i32_w]
      rfl
    refine done_ (by kernel_rfl) ?_
    go_wp2
    go_simp
    go_ret
    exact ⟨rfl,below_drew (below_drew hbw)⟩
theorem marks_all : ∀ x ∈ marks.data.toList,x.toNat < 128:=by decide
theorem indexRune_high (r : Int) (w : World) (h0 : 128 ≤ r) (h1 : r ≤ 1114111) :
    Calls Tryz.prog 116 #[.string marks, .int .i32 r] w fun e w' => e = .returned (.int .i64 (-1)) ∧ Below w.heap.size w w' := by
  by_cases hb : r = 65533
  · subst hb
    exact indexRune_bad w
  cases hvr : Lib.validRune r with
  | false=>exact indexRune_none r w h0 h1 hb hvr
  | true =>
    have hv : Utf8.valid r = true:=by
      simp only [Lib.validRune,decide_eq_true_eq] at hvr
      simp only [Utf8.valid,Bool.or_eq_true,Bool.and_eq_true,decide_eq_true_eq]
      omega
    obtain ⟨e1,e2,e3⟩:=encode_facts r hv h0
    obtain ⟨rs,hrs⟩ : ∃ rs,Utf8.encode r = rs:=⟨_,rfl⟩
    rw [hrs] at e1 e2 e3
    obtain ⟨m,hm⟩ : ∃ m : Nat,rs.size = m + 1:=⟨rs.size - 1,by omega⟩
    have hlt : m < rs.size:=by omega
    have hL:=e3 (by omega)
    have hL' : 128 ≤ (rs[m]'hlt).toNat := by
      have : rs.size - 1 = m:=by omega
      simp only [this] at hL
      exact hL
    have hsz : marks.size = 11:=rfl
    have hms : m < marks.size:=by omega
    refine indexRune_far marks rs (marks.extract (m + 1) marks.size) r m (marks[m]'hms).toNat (rs[m]'hlt).toNat w h0 h1 hb hrs hvr (by omega) (by omega) (by omega) ?_ ?_ ?_ ?_ ?_ ?_
    · rw [hm,show (((m + 1 : Nat) : Int) - 1) = (m : Int) from by omega]
      exact wrap_small _ (by omega) (by omega)
    · intro w
      rw [run_index_string (P:=Tryz.prog) w 9 marks .i64 m Tryz.underlying9,dif_pos ⟨by omega,by omega⟩]
      rfl
    · intro w
      rw [run_index_string (P:=Tryz.prog) w 9 rs .i64 m Tryz.underlying9,dif_pos ⟨by omega,by omega⟩]
      rfl
    · have:=marks_ascii m hms
      exact bne_iff_ne.2 (by omega)
    · intro w
      rw [run_slice_string_l (P:=Tryz.prog) w 9 marks Tryz.underlying9 .i64 ((m : Int) + 1) (by omega) (by omega)]
      rfl
    · refine indexByte_high _ _ (fun x hx=>marks_all x (mem_extract hx)) ?_
      rw [Int.toNat_natCast]
      rw [show (rs[m]'hlt).toNat.toUInt8 = rs[m]'hlt from by simp]
      exact hL'
theorem containsRune_high (r : Int) (w : World) (h0 : 128 ≤ r) (h1 : r ≤ 1114111) :
    Calls Tryz.prog 99 #[.string marks, .int .i32 r] w fun e w' => e = .returned (.bool false) ∧ Below w.heap.size w w' := by
  go_enter Tryz.func99,Tryz.ntmps99
  go_wp2_with (go_at_call 116; refine (indexRune_high _ _ h0 h1).mono ?_; rintro e w' ⟨rfl, hb⟩)
  go_ret
  exact ⟨rfl,hb⟩
end Go.Proofs.YtmgdkkkkanjadaaGreatDoor.RuneS
