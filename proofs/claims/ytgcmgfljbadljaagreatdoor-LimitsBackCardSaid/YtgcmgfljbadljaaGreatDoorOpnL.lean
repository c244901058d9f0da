/-
  What the arguments of limits' statements read as: a format, kinds of cards, a deck.
-/
import Derived.Test.YtgcmgfljbadljaaGreatDoorL0
import Derived.ChangeArms
import Derived.Deep.Slices
import Derived.SizedLaws
/-
  What an argument of the call reads as, kind by kind: whole numbers, truths, texts, structs, rows of such, also nested; its texts and rows are no longer than its weight allows.
-/
namespace Go.Proofs.YtgcmgfljbadljaaGreatDoor.Opn
set_option linter.unusedVariables false
set_option linter.unusedSimpArgs false
open Go.RowKit Go.ChangeShapes Go.WideShapes Go.Proofs.YtgcmgfljbadljaaGreatDoorW.PrintWords

/-- Whatever cells are read as a value of type t (nested at most n deep), they are of the kind d, and Q is told of what they are. -/
def Opn {α : Type} (P : Program) (n : Nat) (t : TypeId) (d : Kd α) (Q : α → Prop) : Prop :=
  ∀ (H : Type) (enc : TypeId × Value → H) (W : World) (cs : List Value) (x : DataW H × List MemPlace), (∀ m ∈ x.1.weights P t, m ≤ reachBytes) → DataW.trod enc P W 0 (fun _ => true) true n t cs = some x → ∃ y : α, d.K W y cs ∧ Q y
section
variable {P : Program} {n : Nat} {t e : TypeId}
theorem zero {α : Type} {d : Kd α} {Q : α → Prop} : Opn P 0 t d Q := by
  intro H enc W cs x _ h
  simp [DataW.trod] at h
theorem int {k : IntKind} (hu : P.underlying t = some (.int k)) : Opn P n t (Kd.int k) (fun y => (Lit.int k y).wf = true) := by
  intro H enc W cs x _ h
  obtain ⟨y, rfl, _, hw⟩ := DataW.trod_int hu h
  exact ⟨y, rfl, hw⟩
theorem bool (hu : P.underlying t = some .bool) : Opn P n t Kd.bool (fun _ => True) := by
  intro H enc W cs x _ h
  obtain ⟨y, rfl, _⟩ := DataW.trod_bool hu h
  exact ⟨y, rfl, trivial⟩
theorem string (hu : P.underlying t = some .string) : Opn P n t Kd.string (fun y => y.size ≤ reachBytes) := by
  intro H enc W cs x hw h
  obtain ⟨y, rfl, rfl, _⟩ := DataW.trod_string hu h
  refine ⟨y, rfl, ?_⟩
  have := hw y.data.toList.length (by simp [DataW.weights])
  rwa [Array.length_toList] at this
theorem imp {α : Type} {d d' : Kd α} {Q Q' : α → Prop} (h : Opn P n t d Q) (hK : ∀ (w : World) (y : α) (cs : List Value), d.K w y cs → d'.K w y cs) (hQ : ∀ y, Q y → Q' y) : Opn P n t d' Q' := by
  intro H enc W cs x hw hx
  obtain ⟨y, h1, h2⟩ := h H enc W cs x hw hx
  exact ⟨y, hK _ _ _ h1, hQ _ h2⟩
theorem iso {α β : Type} {d : Kd α} {Q : α → Prop} (f : β → α) (g : α → β) (hfg : ∀ a, f (g a) = a) (h : Opn P n t d Q) : Opn P n t (Kd.iso d f) (fun y => Q (f y)) := by
  intro H enc W cs x hw hx
  obtain ⟨y, h1, h2⟩ := h H enc W cs x hw hx
  refine ⟨g y, ?_, ?_⟩
  · show d.K W (f (g y)) cs
    rw [hfg]; exact h1
  · show Q (f (g y))
    rw [hfg]; exact h2
/-- A struct's fields, from an offset on. -/
def Fs {α : Type} (P : Program) (n : Nat) (fs : List Field) (off : Nat) (d : Kd α) (Q : α → Prop) : Prop :=
  ∀ (H : Type) (enc : TypeId × Value → H) (W : World) (cs : List Value) (xs : List (DataW H × List MemPlace)), (∀ m ∈ DataW.weightsEach P (fs.map (·.type)) (xs.map (·.1)), m ≤ reachBytes) → cs.length = off + d.sz → xs.length = fs.length →
    (∀ (i : Nat) (f : Field), fs[i]? = some f → DataW.trod enc P W 0 (fun _ => true) true n f.type ((cs.drop f.offset).take (P.cellsOf f.type)) = xs[i]?) → ∃ y : α, d.K W y (cs.drop off) ∧ Q y
theorem one {α : Type} {f : Field} {off : Nat} {d : Kd α} {Q : α → Prop} (ho : f.offset = off) (hc : P.cellsOf f.type = d.sz) (h : Opn P n f.type d Q) : Fs P n [f] off d Q := by
  intro H enc W cs xs hw hl hx hf
  match xs, hx with
  | [x], _ =>
    have h0 := hf 0 f rfl
    rw [ho, hc, List.take_of_length_le (by rw [List.length_drop]; omega)] at h0
    exact h H enc W _ x (fun m hm => hw m (by simp only [List.map_cons, List.map_nil, DataW.weightsEach, List.append_nil]; exact hm)) h0
theorem cons {α β : Type} {f : Field} {fs : List Field} {off : Nat} {a : Kd α} {b : Kd β} {Q : α → Prop} {R : β → Prop} (ho : f.offset = off) (hc : P.cellsOf f.type = a.sz) (h : Opn P n f.type a Q) (h2 : Fs P n fs (off + a.sz) b R) :
    Fs P n (f :: fs) off (Kd.pair a b) (fun y => Q y.1 ∧ R y.2) := by
  intro H enc W cs xs hw hl hx hf
  match xs, hx with
  | x :: xs, hx =>
    have hsz : (Kd.pair a b).sz = a.sz + b.sz := rfl
    have h0 := hf 0 f rfl
    rw [ho, hc] at h0
    obtain ⟨y, hy, hq⟩ := h H enc W _ x (fun m hm => hw m (by simp only [List.map_cons, DataW.weightsEach]; exact List.mem_append_left _ hm)) h0
    obtain ⟨z, hz, hr⟩ := h2 H enc W cs xs (fun m hm => hw m (by simp only [List.map_cons, DataW.weightsEach]; exact List.mem_append_right _ hm)) (by omega) (by simpa using hx) (fun i g hg => hf (i + 1) g hg)
    refine ⟨(y, z), ⟨(cs.drop off).take a.sz, cs.drop (off + a.sz), ?_, hy, hz⟩, hq, hr⟩
    rw [← List.drop_drop, List.take_append_drop]
theorem struct {α : Type} {fs : Array Field} {d : Kd α} {Q : α → Prop} (hu : P.underlying t = some (.struct fs)) (hc : P.cellsOf t = d.sz) (h : Fs P n fs.toList 0 d Q) : Opn P (n + 1) t d Q := by
  intro H enc W cs x hw hx
  obtain ⟨xs, m, hm, rfl, hl, hxs, hf⟩ := DataW.trod_struct hu hx
  obtain rfl : m = n := by omega
  obtain ⟨y, hy, hq⟩ := h H enc W cs xs (fun q hq => hw q (by simp only [DataW.weights, hu]; exact hq)) (by omega) (by simpa using hxs) (fun i f hf' => hf i f (by simpa using hf'))
  rw [List.drop_zero] at hy
  exact ⟨y, hy, hq⟩
theorem weights_all {H : Type} {e : TypeId} {ds : List (DataW H)} {d : DataW H} (hd : d ∈ ds) {m : Nat} (hm : m ∈ d.weights P e) : m ∈ DataW.weightsAll P e ds := by
  induction ds with
  | nil => exact (List.not_mem_nil hd).elim
  | cons c ds ih =>
    simp only [DataW.weightsAll]
    rcases List.mem_cons.1 hd with rfl | hd
    · exact List.mem_append_left _ hm
    · exact List.mem_append_right _ (ih hd)
/-- A row: its elements, one by one. -/
theorem row {α : Type} {d : Kd α} {Q : α → Prop} (hu : P.underlying t = some (.slice e)) (hc : P.cellsOf e = d.sz) (h : ∀ m, m < n → Opn P m e d Q)
    {H : Type} {enc : TypeId × Value → H} {W : World} {cs : List Value} {x : DataW H × List MemPlace} (hw : ∀ m ∈ x.1.weights P t, m ≤ reachBytes) (hx : DataW.trod enc P W 0 (fun _ => true) true n t cs = some x) :
    ∃ (A : Option Addr) (cap : Nat) (ys : List α), cs = [.slice A ys.length cap] ∧ ys.length ≤ cap ∧ d.C W A ys.length ys ∧ (∀ y ∈ ys, Q y) ∧ ys.length * P.bytesOf e ≤ reachBytes := by
  rcases DataW.trod_slice hu hx with ⟨rfl, rfl⟩ | ⟨a, len, cap, elems, rest, m, hm, rfl, rfl, _, hlc, hcm, hel, hat, _, _⟩
  · exact ⟨none, 0, [], rfl, Nat.le_refl _, ⟨rfl, Nat.zero_le _, fun h => absurd h (Nat.lt_irrefl _)⟩, fun y hy => (List.not_mem_nil hy).elim, by simp⟩
  · have key : ∀ i, i < len → ∃ y : α, (∃ c, c.length = d.sz ∧ d.K W y c ∧ ∀ j u, c[j]? = some u → W.cell? (a.add (i * d.sz + j)) = some u) ∧ Q y := by
      intro i hi
      have h1 := hat i hi
      rw [List.getElem?_eq_getElem (show i < elems.length by omega)] at h1
      obtain ⟨c, h2, h3⟩ := Option.bind_eq_some_iff.1 h1
      obtain ⟨_, hcl, hcc⟩ := World.cells?_some h2
      obtain ⟨y, hy, hq⟩ := h m (by omega) H enc W c elems[i] (fun q hq => hw q (by
        simp only [DataW.weights, hu]
        refine List.mem_cons_of_mem _ (List.mem_append_left _ (weights_all ?_ hq))
        exact List.mem_map.2 ⟨_, List.getElem_mem _, rfl⟩)) h3
      refine ⟨y, ⟨c, by rw [hcl, hc], hy, fun j u hu' => ?_⟩, hq⟩
      have hj : j < c.length := (List.getElem?_eq_some_iff.1 hu').1
      have h4 := hcc j (by omega)
      rw [Deep.add_add, hu', hc] at h4
      exact h4
    have hb : (elems.length + rest.length) * P.bytesOf e ≤ reachBytes := by
      have := hw ((elems.length + rest.length) * P.bytesOf e) (by simp only [DataW.weights, hu, List.length_map]; exact List.mem_cons_self ..)
      exact this
    have hlb : len * P.bytesOf e ≤ reachBytes := Nat.le_trans (Nat.mul_le_mul_right _ (by omega)) hb
    rcases Nat.eq_zero_or_pos len with h0 | hpos
    · subst h0
      exact ⟨some a, cap, [], rfl, hlc, ⟨rfl, Nat.zero_le _, fun h => absurd h (Nat.lt_irrefl _)⟩, fun y hy => (List.not_mem_nil hy).elim, by simp⟩
    · have : Inhabited α := ⟨Classical.choose (key 0 hpos)⟩
      obtain ⟨f, hf⟩ := Deep.choose_lt key
      have hget : ∀ j y, ((List.range len).map f)[j]? = some y → j < len ∧ y = f j := by
        intro j y hj
        rw [List.getElem?_map] at hj
        obtain ⟨i, hi, rfl⟩ := Option.map_eq_some_iff.1 hj
        obtain ⟨h1, h2⟩ := List.getElem?_eq_some_iff.1 hi
        rw [List.getElem_range] at h2
        rw [List.length_range] at h1
        exact ⟨h1, by rw [h2]⟩
      have hlen : ((List.range len).map f).length = len := by rw [List.length_map, List.length_range]
      refine ⟨some a, cap, (List.range len).map f, by rw [hlen], by rw [hlen]; exact hlc, ⟨rfl, ?_, fun _ => ⟨a, rfl, fun j y hj => ?_⟩⟩, fun y hy => ?_, by rw [hlen]; exact hlb⟩
      · rw [hlen]
        have : maxLen = 9223372036854775807 := by decide
        omega
      · obtain ⟨h1, rfl⟩ := hget j y hj
        exact (hf j h1).1
      · obtain ⟨i, hi, rfl⟩ := List.mem_map.1 hy
        exact (hf i (List.mem_range.1 hi)).2
theorem slice {α : Type} {d : Kd α} {Q : α → Prop} (hu : P.underlying t = some (.slice e)) (hc : P.cellsOf e = d.sz) (h : ∀ m, m < n → Opn P m e d Q) : Opn P n t (Kd.slice e d) (fun ys => (∀ y ∈ ys, Q y) ∧ ys.length * P.bytesOf e ≤ reachBytes) := by
  intro H enc W cs x hw hx
  obtain ⟨A, cap, ys, rfl, h1, h2, h3, h4⟩ := row hu hc h hw hx
  exact ⟨ys, ⟨A, cap, rfl, h1, h2⟩, h3, h4⟩
/-- One argument of the call. -/
theorem arg {α : Type} {d : Kd α} {Q : α → Prop} {H : Type} {enc : TypeId × Value → H} {W : World} {v : Value} {x : DataW H} {ps : List MemPlace} {ts : List TypeId} {ds : List (DataW H)} {j : Nat} (h : ∀ n, Opn P n t d Q)
    (hsz : (DataW.weightsEach P ts ds).all (· ≤ reachBytes) = true) (ht : ts[j]? = some t) (hd : ds[j]? = some x) (hx : DataW.Trod enc P W 0 (fun _ => true) true t v x ps) : ∃ y : α, d.K W y v.cells.toList ∧ Q y := by
  obtain ⟨fuel, hf⟩ := hx
  refine h fuel H enc W _ (x, ps) (fun m hm => ?_) hf
  have := List.all_eq_true.1 hsz m (DataW.weights_mem_each ht hd m hm)
  exact of_decide_eq_true this
end
end Go.Proofs.YtgcmgfljbadljaaGreatDoor.Opn
namespace Go.Proofs.YtgcmgfljbadljaaGreatDoor.Opn
set_option linter.unusedVariables false
set_option linter.unusedSimpArgs false
open Go.RowKit Go.ChangeShapes Go.WideShapes Go.Proofs.YtgcmgfljbadljaaGreatDoorW.PrintWords Go.Proofs.YtgcmgfljbadljaaGreatDoor.L

theorem opn42 (n : Nat) : Opn Tryz.prog n 42 k42 (fun y => y.f0.size ≤ reachBytes) := by
  cases n with
  | zero => exact zero
  | succ n =>
    have h := iso (fun x : S42 => (x.f0, x.f1, x.f2)) (fun a => ⟨a.1, a.2.1, a.2.2⟩) (fun _ => rfl)
      (struct (n := n) (t := 42) Tryz.underlying42 (by kernel_rfl) (cons rfl (by kernel_rfl) (string Tryz.underlying9) (cons rfl (by kernel_rfl) (int Tryz.underlying3) (one rfl (by kernel_rfl) (int Tryz.underlying3)))))
    exact imp h (fun _ _ _ h => h) (fun _ h => h.1)
theorem opn209 (n : Nat) : Opn Tryz.prog n 209 k209 (fun _ => True) := by
  cases n with
  | zero => exact zero
  | succ n =>
    have h := iso (fun x : S209 => (x.f0, x.f1, x.f2)) (fun a => ⟨a.1, a.2.1, a.2.2⟩) (fun _ => rfl)
      (struct (n := n) (t := 209) Tryz.underlying209 (by kernel_rfl) (cons rfl (by kernel_rfl) (int Tryz.underlying5) (cons rfl (by kernel_rfl) (int Tryz.underlying5) (one rfl (by kernel_rfl) (int Tryz.underlying5)))))
    exact imp h (fun _ _ _ h => h) (fun _ _ => trivial)
theorem opn214 (n : Nat) : Opn Tryz.prog n 214 k214 (fun _ => True) := by
  induction n using Nat.strongRecOn with
  | ind n ih =>
    cases n with
    | zero => exact zero
    | succ n =>
      have h := iso (fun x : S214 => (x.f0, x.f1, x.f2, x.f3, x.f4)) (fun a => ⟨a.1, a.2.1, a.2.2.1, a.2.2.2.1, a.2.2.2.2⟩) (fun _ => rfl)
        (struct (n := n) (t := 214) Tryz.underlying214 (by kernel_rfl) (cons rfl (by kernel_rfl) (int Tryz.underlying5) (cons rfl (by kernel_rfl) (int Tryz.underlying3) (cons rfl (by kernel_rfl) (int Tryz.underlying5) (cons rfl (by kernel_rfl) (opn209 n) (one rfl (by kernel_rfl) (slice Tryz.underlying207 (by kernel_rfl) (fun m hm => ih m (by omega)))))))))
      refine imp h (fun w x cs h => ?_) (fun _ _ => trivial)
      obtain ⟨_, _, rfl, rfl, ⟨_, _, rfl, rfl, ⟨_, _, rfl, rfl, ⟨_, _, rfl, s3, ⟨A6, c6, rfl, l6, g6⟩⟩⟩⟩⟩ := h
      obtain rfl := k209_open s3
      exact k214_mk w x l6 g6
theorem opn216 (n : Nat) : Opn Tryz.prog n 216 k216 (fun _ => True) := by
  cases n with
  | zero => exact zero
  | succ n =>
    have h := iso (fun x : S216 => (x.f0, x.f1, x.f2, x.f3, x.f4)) (fun a => ⟨a.1, a.2.1, a.2.2.1, a.2.2.2.1, a.2.2.2.2⟩) (fun _ => rfl)
      (struct (n := n) (t := 216) Tryz.underlying216 (by kernel_rfl) (cons rfl (by kernel_rfl) (int Tryz.underlying5) (cons rfl (by kernel_rfl) (int Tryz.underlying5) (cons rfl (by kernel_rfl) (opn214 n) (cons rfl (by kernel_rfl) (bool Tryz.underlying4) (one rfl (by kernel_rfl) (opn209 n)))))))
    exact imp h (fun _ _ _ h => h) (fun _ _ => trivial)
theorem opn212 (n : Nat) : Opn Tryz.prog n 212 k212 (fun _ => True) := by
  cases n with
  | zero => exact zero
  | succ n =>
    have h := iso (fun x : S212 => (x.f0, x.f1, x.f2, x.f3, x.f4, x.f5, x.f6, x.f7, x.f8, x.f9)) (fun a => ⟨a.1, a.2.1, a.2.2.1, a.2.2.2.1, a.2.2.2.2.1, a.2.2.2.2.2.1, a.2.2.2.2.2.2.1, a.2.2.2.2.2.2.2.1, a.2.2.2.2.2.2.2.2.1, a.2.2.2.2.2.2.2.2.2⟩) (fun _ => rfl)
      (struct (n := n) (t := 212) Tryz.underlying212 (by kernel_rfl) (cons rfl (by kernel_rfl) (int Tryz.underlying5) (cons rfl (by kernel_rfl) (int Tryz.underlying5) (cons rfl (by kernel_rfl) (int Tryz.underlying5) (cons rfl (by kernel_rfl) (slice Tryz.underlying207 (by kernel_rfl) (fun m _ => opn214 m)) (cons rfl (by kernel_rfl) (int Tryz.underlying3) (cons rfl (by kernel_rfl) (int Tryz.underlying3) (cons rfl (by kernel_rfl) (bool Tryz.underlying4) (cons rfl (by kernel_rfl) (int Tryz.underlying3) (cons rfl (by kernel_rfl) (opn209 n) (one rfl (by kernel_rfl) (slice Tryz.underlying210 (by kernel_rfl) (fun m _ => opn216 m)))))))))))))
    exact imp h (fun _ _ _ h => h) (fun _ _ => trivial)
theorem opn47 (n : Nat) : Opn Tryz.prog n 47 k47 (fun y => y.f0.size ≤ reachBytes) := by
  cases n with
  | zero => exact zero
  | succ n =>
    have h := iso (fun x : S47 => (x.f0, x.f1, x.f2, x.f3, x.f4, x.f5)) (fun a => ⟨a.1, a.2.1, a.2.2.1, a.2.2.2.1, a.2.2.2.2.1, a.2.2.2.2.2⟩) (fun _ => rfl)
      (struct (n := n) (t := 47) Tryz.underlying47 (by kernel_rfl) (cons rfl (by kernel_rfl) (string Tryz.underlying9) (cons rfl (by kernel_rfl) (int Tryz.underlying5) (cons rfl (by kernel_rfl) (int Tryz.underlying3) (cons rfl (by kernel_rfl) (int Tryz.underlying3) (cons rfl (by kernel_rfl) (int Tryz.underlying3) (one rfl (by kernel_rfl) (slice Tryz.underlying45 (by kernel_rfl) (fun m _ => opn212 m)))))))))
    exact imp h (fun _ _ _ h => h) (fun _ h => h.1)
/-- A format. -/
theorem opn24 (n : Nat) : Opn Tryz.prog n 24 k24 (fun y => y.f0.size ≤ reachBytes ∧ ∀ x ∈ y.f3, x.f0.size ≤ reachBytes) := by
  cases n with
  | zero => exact zero
  | succ n =>
    have h := iso (fun x : S24 => (x.f0, x.f1, x.f2, x.f3)) (fun a => ⟨a.1, a.2.1, a.2.2.1, a.2.2.2⟩) (fun _ => rfl)
      (struct (n := n) (t := 24) Tryz.underlying24 (by kernel_rfl) (cons rfl (by kernel_rfl) (string Tryz.underlying9) (cons rfl (by kernel_rfl) (int Tryz.underlying3) (cons rfl (by kernel_rfl) (int Tryz.underlying3) (one rfl (by kernel_rfl) (slice Tryz.underlying22 (by kernel_rfl) (fun m _ => opn42 m)))))))
    exact imp h (fun _ _ _ h => h) (fun _ h => ⟨h.1, h.2.2.2.1⟩)
/-- Kinds. -/
theorem opn25 (n : Nat) : Opn Tryz.prog n 25 (Kd.slice 47 k47) (fun _ => True) := imp (slice Tryz.underlying25 (by kernel_rfl) (fun m _ => opn47 m)) (fun _ _ _ h => h) (fun _ _ => trivial)
/-- A deck. -/
theorem opn26 (n : Nat) : Opn Tryz.prog n 26 (Kd.slice 3 (Kd.int .i64)) (fun _ => True) := imp (slice Tryz.underlying26 (by kernel_rfl) (fun m _ => int Tryz.underlying3)) (fun _ _ _ h => h) (fun _ _ => trivial)
end Go.Proofs.YtgcmgfljbadljaaGreatDoor.Opn
