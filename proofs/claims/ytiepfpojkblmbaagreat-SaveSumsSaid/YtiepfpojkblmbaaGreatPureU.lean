/- The sum's plain law: one stepS is injective in the number and in the byte. -/
namespace Go.Proofs.YtiepfpojkblmbaaGreat.SumsPure
/-- one stepS of the sum -/
def stepS (n c : Nat) : Nat := (n ^^^ c) * 1099511628211 % 18446744073709551616
theorem sf_nil (n : Nat) (f : Nat → Nat → Nat) : List.foldl f n [] = n := rfl
theorem inv_ : 1099511628211 * 14886173955864302971 % 18446744073709551616 = 1 := by decide
theorem back_ (x : Nat) (h : x < 18446744073709551616) : (x * 1099511628211 % 18446744073709551616) * 14886173955864302971 % 18446744073709551616 = x := by
  rw [Nat.mod_mul_mod, Nat.mul_assoc, ← Nat.mul_mod_mod, inv_, Nat.mul_one, Nat.mod_eq_of_lt h]
theorem times_inj (x y : Nat) (hx : x < 18446744073709551616) (hy : y < 18446744073709551616)
    (h : x * 1099511628211 % 18446744073709551616 = y * 1099511628211 % 18446744073709551616) : x = y := by
  rw [← back_ x hx, ← back_ y hy, h]
theorem step_inj (n m c : Nat) (hn : n < 2 ^ 64) (hm : m < 2 ^ 64) (hc : c < 2 ^ 64) (h : stepS n c = stepS m c) : n = m := by
  have h2 := times_inj _ _ (Nat.xor_lt_two_pow hn hc) (Nat.xor_lt_two_pow hm hc) h
  have : (n ^^^ c) ^^^ c = (m ^^^ c) ^^^ c := by rw [h2]
  rwa [Nat.xor_assoc, Nat.xor_assoc, Nat.xor_self, Nat.xor_zero, Nat.xor_zero] at this
theorem step_inj' (n a c : Nat) (hn : n < 2 ^ 64) (ha : a < 2 ^ 64) (hc : c < 2 ^ 64) (h : stepS n a = stepS n c) : a = c := by
  have h2 := times_inj _ _ (Nat.xor_lt_two_pow hn ha) (Nat.xor_lt_two_pow hn hc) h
  have : n ^^^ (n ^^^ a) = n ^^^ (n ^^^ c) := by rw [h2]
  rwa [← Nat.xor_assoc, ← Nat.xor_assoc, Nat.xor_self, Nat.zero_xor, Nat.zero_xor] at this
theorem step_lt (n c : Nat) : stepS n c < 2 ^ 64 := Nat.mod_lt _ (by decide)
def sumFrom (n : Nat) (l : List Nat) : Nat := l.foldl stepS n
theorem sumFrom_nil (n : Nat) : sumFrom n [] = n := rfl
theorem sumFrom_cons (n c : Nat) (l : List Nat) : sumFrom n (c :: l) = sumFrom (stepS n c) l := List.foldl_cons ..
theorem sumFrom_lt (l : List Nat) : ∀ (n : Nat), n < 2 ^ 64 → sumFrom n l < 2 ^ 64 := by
  induction l with
  | nil => intro n h; rw [sumFrom_nil]; exact h
  | cons c l ih => intro n _; rw [sumFrom_cons]; exact ih _ (step_lt n c)
theorem sumFrom_inj (l : List Nat) (hl : ∀ c ∈ l, c < 2 ^ 64) : ∀ (n m : Nat), n < 2 ^ 64 → m < 2 ^ 64 → sumFrom n l = sumFrom m l → n = m := by
  induction l with
  | nil => intro n m _ _ h; rw [sumFrom_nil, sumFrom_nil] at h; exact h
  | cons c l ih =>
    intro n m hn hm h
    rw [sumFrom_cons, sumFrom_cons] at h
    exact step_inj n m c hn hm (hl c (List.mem_cons_self ..)) (ih (fun d hd => hl d (List.mem_cons_of_mem _ hd)) _ _ (step_lt n c) (step_lt m c) h)
theorem sumFrom_set (l : List Nat) (hl : ∀ c ∈ l, c < 2 ^ 64) : ∀ (i n v : Nat) (hi : i < l.length), n < 2 ^ 64 → v < 2 ^ 64 →
    (sumFrom n (l.set i v) = sumFrom n l ↔ v = l[i]) := by
  induction l with
  | nil => intro i n v hi; exact absurd hi (Nat.not_lt_zero i)
  | cons c l ih =>
    intro i n v hi hn hv
    cases i with
    | zero =>
      rw [List.set_cons_zero, sumFrom_cons, sumFrom_cons, List.getElem_cons_zero]
      refine ⟨fun h => ?_, fun h => ?_⟩
      · have h1 := sumFrom_inj l (fun d hd => hl d (List.mem_cons_of_mem _ hd)) _ _ (step_lt n v) (step_lt n c) h
        exact step_inj' n v c hn hv (hl c (List.mem_cons_self ..)) h1
      · rw [h]
    | succ i =>
      rw [List.set_cons_succ, sumFrom_cons, sumFrom_cons, List.getElem_cons_succ]
      have hi' : i < l.length := Nat.lt_of_succ_lt_succ hi
      exact ih (fun d hd => hl d (List.mem_cons_of_mem _ hd)) i (stepS n c) v hi' (step_lt n c) hv
theorem sumFrom_snoc (n : Nat) (l : List Nat) (c : Nat) : sumFrom n (l ++ [c]) = stepS (sumFrom n l) c := by
  unfold sumFrom; rw [List.foldl_append, List.foldl_cons, List.foldl_nil]
theorem xor_other (x o : Nat) : (x ^^^ o = x ↔ o = 0) := by
  refine ⟨fun h => ?_, fun h => by rw [h, Nat.xor_zero]⟩
  have : x ^^^ (x ^^^ o) = x ^^^ x := by rw [h]
  rwa [← Nat.xor_assoc, Nat.xor_self, Nat.zero_xor] at this
end Go.Proofs.YtiepfpojkblmbaaGreat.SumsPure
