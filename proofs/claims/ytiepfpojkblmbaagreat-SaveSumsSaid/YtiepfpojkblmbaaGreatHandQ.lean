/- Rows of bytes that a conversion of a string has made: read, stored to, appended to. -/
import Derived.Test.YtiepfpojkblmbaaGreatSumU
import Derived.ArgAppend
namespace Go.Proofs.YtiepfpojkblmbaaGreat.HandQ
set_option linter.unusedVariables false
set_option linter.unusedSimpArgs false
open Go.RowKit Go.Lib Go.Proofs.YtiepfpojkblmbaaGreatW.PrintWords Go.Proofs.YtiepfpojkblmbaaGreatW.PrintLast Go.Proofs.YtiepfpojkblmbaaGreatW.PrintMore Go.Proofs.YtiepfpojkblmbaaGreat.U Go.Proofs.YtiepfpojkblmbaaGreat.SumsPure

/-- the row at g: xs its first n bytes; its mark lies behind it -/
def By (W : World) (g n cap : Nat) (xs : List Int) : Prop :=
  ∃ cur fz, W.heap[g]? = some (.cells cur 5 fz) ∧ cap ≤ fz.1 ∧ cur.size = cap ∧ xs.length = n ∧ n ≤ cap ∧ cap ≤ maxLen ∧ cur.toList.take n = xs.map (Value.int .u8)
theorem By.lt {W : World} {g n cap : Nat} {xs : List Int} (h : By W g n cap xs) : g < W.heap.size := by
  obtain ⟨cur, fz, h1, _⟩ := h
  exact (Array.getElem?_eq_some_iff.1 h1).1
theorem By.get {W : World} {g n cap : Nat} {xs : List Int} (h : By W g n cap xs) (j : Nat) (hj : j < n) : W.cell? ⟨g, j, none⟩ = some (.int .u8 (xs.getD j 0)) := by
  obtain ⟨cur, fz, h1, h2, h3, h4, h5, h6, h7⟩ := h
  rw [cell_of_row W g j cur 5 fz h1]
  have h8 : (cur.toList.take n)[j]? = (xs.map (Value.int .u8))[j]? := by rw [h7]
  rw [List.getElem?_take_of_lt hj] at h8
  have h9 : j < xs.length := by omega
  rw [Array.getElem?_toList] at h8
  rw [h8]
  simp [List.getElem?_eq_getElem h9, List.getD_eq_getElem?_getD]
theorem By.free {W : World} {g n cap : Nat} {xs : List Int} (h : By W g n cap xs) (j : Nat) (hj : j < cap) : W.frozen? ⟨g, j, none⟩ = false := by
  obtain ⟨cur, fz, h1, h2, h3, h4, h5, h6, h7⟩ := h
  simp [World.frozen?, h1]
  omega
theorem By.there {W : World} {g n cap : Nat} {xs : List Int} (h : By W g n cap xs) (j : Nat) (hj : j < cap) : (W.cell? ⟨g, j, none⟩).isSome = true := by
  obtain ⟨cur, fz, h1, h2, h3, h4, h5, h6, h7⟩ := h
  rw [cell_of_row W g j cur 5 fz h1, Array.getElem?_eq_getElem (by omega)]
  rfl
theorem By.reads {W : World} {g n cap : Nat} {xs : List Int} (h : By W g n cap xs) : (Kd.int .u8).C W (some ⟨g, 0, none⟩) n xs := by
  have hn : xs.length = n := by obtain ⟨cur, fz, h1, h2, h3, h4, h5, h6, h7⟩ := h; exact h4
  have hm : n ≤ maxLen := by obtain ⟨cur, fz, h1, h2, h3, h4, h5, h6, h7⟩ := h; omega
  simp only [maxLen] at hm
  refine ⟨hn, hm, fun _ => ⟨_, rfl, fun j p hj => ⟨[.int .u8 p], rfl, rfl, fun i u hu => ?_⟩⟩⟩
  obtain ⟨hl, hp⟩ := List.getElem?_eq_some_iff.1 hj
  have hi : i = 0 := by
    rcases Nat.eq_zero_or_pos i with h0 | h0
    · exact h0
    · rw [List.getElem?_eq_none (by simp; omega)] at hu; cases hu
  subst hi
  simp at hu
  subst hu
  have h0 := h.get j (by omega)
  rw [show xs.getD j 0 = p by simp [List.getD_eq_getElem?_getD, hj]] at h0
  rw [add_plain]
  simpa [Kd.int, Kd.scalar] using h0
theorem By.below {W w1 : World} {g n cap : Nat} {xs : List Int} (h : By W g n cap xs) (hb : Below W.heap.size W w1) : By w1 g n cap xs := by
  have hlt := h.lt
  obtain ⟨cur, fz, h1, h2⟩ := h
  exact ⟨cur, fz, by rw [hb.block g hlt]; exact h1, h2⟩
theorem By.set_ {W : World} {g n cap : Nat} {xs : List Int} (h : By W g n cap xs) (j : Nat) (x : Int) : By (W.setCell ⟨g, j, none⟩ (.int .u8 x)) g n cap (xs.set j x) := by
  have hlt := h.lt
  obtain ⟨cur, fz, h1, h2, h3, h4, h5, h6, h7⟩ := h
  refine ⟨cur.setIfInBounds j (.int .u8 x), fz, ?_, h2, by simpa using h3, by simpa using h4, h5, h6, ?_⟩
  · simp [World.setCell, Array.getElem?_modify, h1]
  · rw [Array.toList_setIfInBounds, List.take_set, h7, List.map_set]
/-- made -/
theorem By.made (W : World) (xs : List Int) (hx : ∀ x ∈ xs, 0 ≤ x ∧ x < 256) (hl : xs.length ≤ 1000000) :
    By (bytesWorld W 5 (strOfNums xs)) W.heap.size xs.length (grownCap W (strOfNums xs).size 0 5) xs := by
  have hs : (strOfNums xs).size = xs.length := strOfNums_size xs
  have hge := grownCap_ge W (strOfNums xs).size 0 5
  have hle := grownCap_le_maxLen W (strOfNums xs).size 0 5 (by rw [hs]; simp only [maxLen]; omega)
  have hds : (strOfNums xs).data.size = xs.length := hs
  have hcs : (bytesCells W 5 (strOfNums xs)).size = grownCap W (strOfNums xs).size 0 5 := by
    simp only [bytesCells, Array.size_append, Array.size_map, Array.size_replicate, hds, hs] at hge ⊢
    omega
  refine ⟨_, _, bytesWorld_at_new W 5 (strOfNums xs), by rw [hcs]; exact Nat.le_refl _, hcs, rfl, by omega, hle, ?_⟩
  have h1 : (bytesCells W 5 (strOfNums xs)).toList.take xs.length = (strOfNums xs).data.toList.map fun b => Value.int .u8 b.toNat := by
    rw [bytesCells, Array.toList_append, Array.toList_map, List.take_left' (by simp [hds])]
  rw [h1, strOfNums_data, List.map_map]
  apply List.map_congr_left
  intro x hm
  have := hx x hm
  simp
  omega
theorem info5 : (Tryz.prog.info? 5).map (fun i => (i.zero, i.size, i.bytes)) = some (some (.int .u8 0), 1, 1) := by kernel_rfl
/-- one byte more -/
theorem By.more {W : World} {g n cap : Nat} {xs : List Int} (h : By W g n cap xs) (g2 : Nat) (y : Int) (h2 : W.heap[g2]? = some (.cells #[.int .u8 y] 5 (0, 0))) (hne : g2 ≠ g) (hn : n ≤ 1000000) (ty : TypeId) :
    ∃ A c w1, (Builtin.append_ #[22, 22] ty #[.slice (some ⟨g, 0, none⟩) n cap, .slice (some ⟨g2, 0, none⟩) 1 1]).run Tryz.prog W = .ok (.slice A (n + 1) c) w1 ∧ n + 1 ≤ c ∧ (Kd.int .u8).C w1 A (n + 1) (xs ++ [y]) ∧
      ∀ (w0 : World) (base : Nat), base ≤ g → Below base w0 W → Below base w0 w1 := by
  obtain ⟨i0, hi, hzz⟩ := Option.map_eq_some_iff.1 info5
  rw [Prod.mk.injEq, Prod.mk.injEq] at hzz
  obtain ⟨hz0, hz1, hz2⟩ := hzz
  have hxl : xs.length = n := by obtain ⟨cur, fz, h1, h2, h3, h4, h5, h6, h7⟩ := h; exact h4
  have hcm : cap ≤ maxLen := by obtain ⟨cur, fz, h1, h2, h3, h4, h5, h6, h7⟩ := h; exact h6
  have hnew : ∀ j u, ([Value.int .u8 y] : List Value)[j]? = some u → W.cell? ((⟨g2, 0, none⟩ : Addr).add j) = some u := World.news_of_block (cs := #[.int .u8 y]) h2
  by_cases hr : n + 1 ≤ cap
  · refine ⟨some ⟨g, 0, none⟩, cap, W.setCells g (0 + n * i0.size) [.int .u8 y], run_append_room_cells (P := Tryz.prog) W 22 ty 5 i0 Tryz.underlying22 hi g 0 n cap ⟨g2, 0, none⟩ 1 1 [.int .u8 y] (by rw [hz1]; rfl) hnew
      (by intro u hu; simp at hu; subst hu; rfl) hr (fun j hj => ?_) (fun j hj => ?_), hr, ?_, ?_⟩
    · simp at hj; subst hj; rw [hz1]; simpa using h.there n (by omega)
    · simp at hj; subst hj; rw [hz1]; simpa using h.free n (by omega)
    · have hb : By (W.setCell ⟨g, n, none⟩ (.int .u8 y)) g (n + 1) cap (xs ++ [y]) := by
        obtain ⟨cur, fz, h1, k2, h3, h4, h5, h6, h7⟩ := h
        refine ⟨cur.setIfInBounds n (.int .u8 y), fz, ?_, k2, by simpa using h3, by simp [h4], hr, h6, ?_⟩
        · simp [World.setCell, Array.getElem?_modify, h1]
        · rw [Array.toList_setIfInBounds, List.map_append, ← h7, List.take_add_one, List.take_set]
          have hlt : n < cur.toList.length := by simp; omega
          rw [List.getElem?_set_self hlt, List.set_eq_of_length_le (by simp; omega)]
          rfl
      rw [hz1]
      simpa [World.setCells] using hb.reads
    · intro w0 base hb hB
      rw [hz1]
      simpa [World.setCells] using hB.setCell (p := ⟨g, n, none⟩) hb (.int .u8 y)
  · obtain ⟨v, w1, hrun, hown, hg⟩ := run_append_arg_grows (P := Tryz.prog) W 22 ty 5 i0 (.int .u8 0) 1 1 Tryz.underlying22 hi hz0 hz1 hz2 rfl (by omega) ⟨g, 0, none⟩ n cap (xs.map (Value.int .u8)) (by simp [hxl])
      (fun j u hu => by
        have hj : j < n := by have := (List.getElem?_eq_some_iff.1 hu).1; simp at this; omega
        rw [add_plain, h.get j hj]
        simp [List.getD_eq_getElem?_getD] at hu ⊢
        obtain ⟨a, ha, rfl⟩ := hu
        simp [ha]) ⟨g2, 0, none⟩ 1 1 [.int .u8 y] rfl hnew (by omega) (by simp only [maxLen]; omega) (by omega)
    have hown' : w1.ownsRow W.heap.size 5 1 v (n + 1) (nums .u8 (xs ++ [y])) := by simpa [nums] using hown
    obtain ⟨A, c, rfl, hrd⟩ := own_reads hown'
    refine ⟨A, c, w1, hrun, ?_, ?_, ?_⟩
    · rcases hown'.2 with ⟨h0, h1⟩ | ⟨g', cap', cur, h0, _, _, hc, _⟩
      · omega
      · injection h0 with _ _ h0; omega
    · exact Kd.C_of_reads (enc := Value.int .u8) (d := (0 : Int)) (h1 := fun _ => rfl) ⟨hrd.1, hrd.2.1, fun h0 => by obtain ⟨ad, e, hc⟩ := hrd.2.2 h0; exact ⟨ad, e, fun j hj => hc j hj⟩⟩
    · intro w0 base hb hB
      exact hB.grown hg (by have := h.lt; omega) (fun k hk => by cases hk)
end Go.Proofs.YtiepfpojkblmbaaGreat.HandQ
