/- Fields in which twice a thing is nought; finite sums. -/
namespace Go.Proofs.Ytelgefkfflgbeaa.Alg

/-- A field in which twice a thing is nought. -/
class Fd (F : Type) extends Add F, Mul F, Zero F, One F where
  add_assoc : ∀ a b c : F, a + b + c = a + (b + c)
  add_comm : ∀ a b : F, a + b = b + a
  add_zero : ∀ a : F, a + 0 = a
  add_self : ∀ a : F, a + a = 0
  mul_assoc : ∀ a b c : F, a * b * c = a * (b * c)
  mul_comm : ∀ a b : F, a * b = b * a
  mul_one : ∀ a : F, a * 1 = a
  mul_add : ∀ a b c : F, a * (b + c) = a * b + a * c
  inv : F → F
  mul_inv : ∀ a : F, a ≠ 0 → a * inv a = 1
  zero_ne_one : (0 : F) ≠ 1

section
variable {F : Type} [Fd F]
open Fd
theorem zero_add (a : F) : 0 + a = a := by rw [add_comm, add_zero]
theorem add_left_comm (a b c : F) : a + (b + c) = b + (a + c) := by rw [← add_assoc, add_comm a b, add_assoc]
theorem mul_left_comm (a b c : F) : a * (b * c) = b * (a * c) := by rw [← mul_assoc, mul_comm a b, mul_assoc]
theorem add_mul (a b c : F) : (a + b) * c = a * c + b * c := by rw [mul_comm, mul_add, mul_comm c a, mul_comm c b]
theorem one_mul (a : F) : 1 * a = a := by rw [mul_comm, mul_one]
theorem add_cancel (a b : F) : a + (a + b) = b := by rw [← add_assoc, add_self, zero_add]
theorem add_left_cancel {a b c : F} (h : a + b = a + c) : b = c := by rw [← add_cancel a b, h, add_cancel]
theorem add_right_cancel {a b c : F} (h : a + c = b + c) : a = b := add_left_cancel (a := c) (by rw [add_comm c a, add_comm c b, h])
theorem mul_zero (a : F) : a * 0 = 0 := by
  have h : a * (0 + 0) = a * 0 + a * 0 := mul_add a 0 0
  rw [add_zero] at h
  have h2 : a * 0 + 0 = a * 0 + a * 0 := by rw [add_zero]; exact h
  exact (add_left_cancel h2).symm
theorem zero_mul (a : F) : 0 * a = 0 := by rw [mul_comm, mul_zero]
theorem eq_of_add_zero {a b : F} (h : a + b = 0) : a = b := add_right_cancel (c := b) (by rw [h, add_self])
theorem add_eq_zero {a b : F} : a + b = 0 ↔ a = b := ⟨eq_of_add_zero, fun h => by rw [h, add_self]⟩
theorem inv_mul (a : F) (h : a ≠ 0) : inv a * a = 1 := by rw [mul_comm, mul_inv a h]
theorem mul_ne_zero {a b : F} (ha : a ≠ 0) (hb : b ≠ 0) : a * b ≠ 0 := by
  intro h
  apply hb
  have : inv a * (a * b) = b := by rw [← mul_assoc, inv_mul a ha, one_mul]
  rw [← this, h, mul_zero]
theorem mul_eq_zero {a b : F} (h : a * b = 0) : a = 0 ∨ b = 0 := by
  by_cases ha : a = 0
  · exact .inl ha
  · by_cases hb : b = 0
    · exact .inr hb
    · exact absurd h (mul_ne_zero ha hb)
theorem mul_left_cancel {a b c : F} (ha : a ≠ 0) (h : a * b = a * c) : b = c := by
  have hb : inv a * (a * b) = b := by rw [← mul_assoc, inv_mul a ha, one_mul]
  have hc : inv a * (a * c) = c := by rw [← mul_assoc, inv_mul a ha, one_mul]
  rw [← hb, h, hc]
theorem inv_ne_zero {a : F} (ha : a ≠ 0) : inv a ≠ 0 := by
  intro h
  have := mul_inv a ha
  rw [h, mul_zero] at this
  exact zero_ne_one this
theorem inv_unique {a b : F} (h : a * b = 1) : b = inv a := by
  have ha : a ≠ 0 := by intro e; rw [e, zero_mul] at h; exact zero_ne_one h
  exact mul_left_cancel ha (by rw [h, mul_inv a ha])

/-- The sum of the first n. -/
def sum : Nat → (Nat → F) → F
  | 0, _ => 0
  | n + 1, f => sum n f + f n
theorem sum_congr {n : Nat} {f g : Nat → F} (h : ∀ i, i < n → f i = g i) : sum n f = sum n g := by
  induction n with
  | zero => rfl
  | succ n ih => rw [sum, sum, ih (fun i hi => h i (by omega)), h n (by omega)]
theorem sum_zero (n : Nat) : sum n (fun _ => (0 : F)) = 0 := by
  induction n with
  | zero => rfl
  | succ n ih => rw [sum, ih, add_zero]
theorem sum_zero' {n : Nat} {f : Nat → F} (h : ∀ i, i < n → f i = 0) : sum n f = 0 := by rw [sum_congr h, sum_zero]
theorem sum_add (n : Nat) (f g : Nat → F) : sum n (fun i => f i + g i) = sum n f + sum n g := by
  induction n with
  | zero => simp only [sum]; rw [add_zero]
  | succ n ih =>
    simp only [sum]
    rw [ih, add_assoc, add_assoc, add_left_comm (sum n g)]
theorem mul_sum (n : Nat) (a : F) (f : Nat → F) : a * sum n f = sum n (fun i => a * f i) := by
  induction n with
  | zero => simp only [sum]; rw [mul_zero]
  | succ n ih => simp only [sum]; rw [mul_add, ih]
theorem sum_mul (n : Nat) (a : F) (f : Nat → F) : sum n f * a = sum n (fun i => f i * a) := by
  rw [mul_comm, mul_sum]
  exact sum_congr (fun i _ => mul_comm _ _)
theorem sum_comm (m n : Nat) (f : Nat → Nat → F) : sum m (fun i => sum n (fun j => f i j)) = sum n (fun j => sum m (fun i => f i j)) := by
  induction m with
  | zero => simp only [sum]; rw [sum_zero]
  | succ m ih => simp only [sum]; rw [ih, sum_add]
theorem sum_single {n : Nat} {f : Nat → F} (k : Nat) (hk : k < n) (h : ∀ i, i < n → i ≠ k → f i = 0) : sum n f = f k := by
  induction n with
  | zero => omega
  | succ n ih =>
    rw [sum]
    by_cases e : k = n
    · subst e
      rw [sum_zero' (fun i hi => h i (by omega) (by omega)), zero_add]
    · rw [ih (by omega) (fun i hi hne => h i (by omega) hne), h n (by omega) (by omega), add_zero]
theorem sum_front (n : Nat) (f : Nat → F) : sum (n + 1) f = f 0 + sum n (fun i => f (i + 1)) := by
  induction n with
  | zero => simp only [sum]; rw [zero_add, add_zero]
  | succ n ih => rw [sum, ih, sum, add_assoc]
theorem sum_split (m n : Nat) (f : Nat → F) : sum (m + n) f = sum m f + sum n (fun i => f (m + i)) := by
  induction n with
  | zero => simp only [sum]; rw [add_zero]; rfl
  | succ n ih => rw [← Nat.add_assoc, sum, ih, sum, add_assoc]

/-- Products may be taken together in any way. -/
theorem prod_assoc (n m : Nat) (x : Nat → F) (y : Nat → Nat → F) (z : Nat → F) :
    sum m (fun l => sum n (fun j => x j * y j l) * z l) = sum n (fun j => x j * sum m (fun l => y j l * z l)) := by
  have h1 : ∀ l, sum n (fun j => x j * y j l) * z l = sum n (fun j => x j * (y j l * z l)) := by
    intro l
    rw [sum_mul]
    exact sum_congr (fun j _ => mul_assoc _ _ _)
  rw [sum_congr (fun l _ => h1 l), sum_comm]
  exact sum_congr (fun j _ => (mul_sum _ _ _).symm)
end
end Go.Proofs.Ytelgefkfflgbeaa.Alg
