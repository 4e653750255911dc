/- Steps of a matrix over a field in which twice a thing is nought; polynomials and their noughts. -/
import Derived.Test.YtelgefkfflgbeaaFd
namespace Go.Proofs.Ytelgefkfflgbeaa.Alg
set_option linter.unusedVariables false
section
variable {F : Type} [Fd F]
open Fd
/-- A polynomial's value, by Horner. -/
def hor : List F → F → F
  | [], _ => 0
  | c :: l, x => c + x * hor l x
def quo (x0 : F) : List F → List F
  | [] => []
  | a :: l => hor (a :: l) x0 :: quo x0 l
theorem quo_len (x0 : F) : ∀ l : List F, (quo x0 l).length = l.length
  | [] => rfl
  | a :: l => by simp [quo, quo_len x0 l]
theorem quo_id (x x0 : F) : ∀ (l : List F) (c : F), hor (c :: l) x + hor (c :: l) x0 = (x + x0) * hor (quo x0 l) x
  | [], c => by simp only [hor, quo, mul_zero, add_zero, add_self]
  | a :: l, c => by
    have ih := quo_id x x0 l a
    have e : hor (c :: a :: l) x + hor (c :: a :: l) x0 = x * hor (a :: l) x + x0 * hor (a :: l) x0 := by
      show (c + x * hor (a :: l) x) + (c + x0 * hor (a :: l) x0) = _
      rw [add_assoc, add_left_comm (x * hor (a :: l) x), add_cancel]
    rw [e]
    show _ = (x + x0) * (hor (a :: l) x0 + x * hor (quo x0 l) x)
    have h2 : hor (a :: l) x = hor (a :: l) x0 + (x + x0) * hor (quo x0 l) x := by rw [← ih, add_comm (hor (a :: l) x), add_cancel]
    rw [h2]
    generalize hor (a :: l) x0 = P
    generalize hor (quo x0 l) x = Q
    rw [mul_add x P, mul_add (x + x0) P, add_mul x x0 P, mul_left_comm (x + x0) x Q, add_assoc, add_assoc, add_comm (x * ((x + x0) * Q))]
theorem hor_zero {l : List F} (h : ∀ a ∈ l, a = 0) (x : F) : hor l x = 0 := by
  induction l with
  | nil => rfl
  | cons a l ih => rw [hor, h a (by simp), ih (fun b hb => h b (by simp [hb])), mul_zero, add_zero]
theorem quo_zero {x0 : F} : ∀ {l : List F}, (∀ a ∈ quo x0 l, a = 0) → ∀ a ∈ l, a = 0
  | [], _, _, ha => by cases ha
  | b :: l, h, a, ha => by
    have hl := quo_zero (x0 := x0) (l := l) (fun c hc => h c (by simp [quo, hc]))
    have hb := h (hor (b :: l) x0) (by simp [quo])
    rw [hor, hor_zero hl, mul_zero, add_zero] at hb
    rcases List.mem_cons.1 ha with rfl | ha
    · exact hb
    · exact hl a ha
/-- A polynomial with more noughts than its degree is nought. -/
theorem noughts : ∀ (l pts : List F), pts.Nodup → l.length ≤ pts.length → (∀ p ∈ pts, hor l p = 0) → ∀ a ∈ l, a = 0
  | [], _, _, _, _, a, ha => by cases ha
  | c :: l, [], _, hl, _, _, _ => by simp at hl
  | c :: l, x0 :: pts, hn, hl, hz, a, ha => by
    have hn' := List.nodup_cons.1 hn
    have hq := noughts (quo x0 l) pts hn'.2 (by rw [quo_len]; simpa using hl) (fun p hp => by
      have h := quo_id p x0 l c
      rw [hz p (by simp [hp]), hz x0 (by simp), add_zero] at h
      rcases mul_eq_zero h.symm with h | h
      · exact absurd (eq_of_add_zero h ▸ hp) hn'.1
      · exact h)
    have h0 := quo_zero hq
    have hc := hz x0 (by simp)
    rw [hor, hor_zero h0, mul_zero, add_zero] at hc
    rcases List.mem_cons.1 ha with rfl | ha
    · exact hc
    · exact h0 a ha
termination_by l => l.length
decreasing_by simp [quo_len]
/-- One step: row k, made one at the column, goes to row t; the others are cleared there. -/
def stepF (M : Nat → Nat → F) (t k col : Nat) : Nat → Nat → F := fun i j =>
  if i = t then M k j * inv (M k col)
  else (if i = k then M t j else M i j) + (M k j * inv (M k col)) * (if i = k then M t col else M i col)
def dotF (m : Nat) (r c : Nat → F) : F := sum m (fun j => r j * c j)
theorem sum_scale (n : Nat) (a : F) (f : Nat → F) : sum n (fun i => f i * a) = sum n f * a := by
  induction n with
  | zero => simp only [sum]; rw [zero_mul]
  | succ n ih => simp only [sum]; rw [ih, add_mul]
theorem dotF_scale (m : Nat) (r c : Nat → F) (a : F) : dotF m (fun j => r j * a) c = dotF m r c * a := by
  unfold dotF
  rw [← sum_scale]
  exact sum_congr (fun i _ => by rw [mul_assoc, mul_comm a, ← mul_assoc])
theorem dotF_add (m : Nat) (r s c : Nat → F) : dotF m (fun j => r j + s j) c = dotF m r c + dotF m s c := by
  unfold dotF
  rw [← sum_add]
  exact sum_congr (fun i _ => by rw [add_mul])
/-- A step keeps what comes to nought. -/
theorem stepF_ker (M : Nat → Nat → F) (t k col n m : Nat) (c : Nat → F) (hk : k < n) (ht : t < n) (hp : M k col ≠ 0) :
    (∀ i, i < n → dotF m (stepF M t k col i) c = 0) ↔ (∀ i, i < n → dotF m (M i) c = 0) := by
  have e0 : dotF m (stepF M t k col t) c = dotF m (M k) c * inv (M k col) := by
    rw [← dotF_scale]; unfold dotF; exact sum_congr (fun j _ => by simp [stepF])
  have e1 : ∀ i, i ≠ t → dotF m (stepF M t k col i) c = dotF m (fun j => if i = k then M t j else M i j) c + dotF m (M k) c * inv (M k col) * (if i = k then M t col else M i col) := by
    intro i hi
    rw [← dotF_scale, ← dotF_scale, ← dotF_add]
    unfold dotF; exact sum_congr (fun j _ => by simp [stepF, hi])
  constructor
  · intro h
    have hK : dotF m (M k) c = 0 := by
      have := h t ht
      rw [e0] at this
      rcases mul_eq_zero this with h | h
      · exact h
      · exact absurd h (inv_ne_zero hp)
    intro i hi
    by_cases hik : i = k
    · rw [hik]; exact hK
    · by_cases hit : i = t
      · have hkt : k ≠ t := fun e => hik (by rw [hit, e])
        have := h k hk
        rw [e1 k hkt, hK, zero_mul, zero_mul, add_zero] at this
        rw [hit]
        rw [← this]
        unfold dotF; exact sum_congr (fun j _ => by simp)
      · have := h i hi
        rw [e1 i hit, hK, zero_mul, zero_mul, add_zero] at this
        rw [← this]
        unfold dotF; exact sum_congr (fun j _ => by simp [hik])
  · intro h i hi
    by_cases hit : i = t
    · rw [hit, e0, h k hk, zero_mul]
    · rw [e1 i hit, h k hk, zero_mul, zero_mul, add_zero]
      by_cases hik : i = k
      · rw [← h t ht]; unfold dotF; exact sum_congr (fun j _ => by simp [hik])
      · rw [← h i hi]; unfold dotF; exact sum_congr (fun j _ => by simp [hik])
/-- The first columns are the one's. -/
def OneTo (M : Nat → Nat → F) (n col : Nat) : Prop := ∀ i j, i < n → j < col → M i j = if i = j then 1 else 0
theorem stepF_one (M : Nat → Nat → F) (n k col : Nat) (h : OneTo M n col) (hk : k < n) (hc : col ≤ k) (hp : M k col ≠ 0) : OneTo (stepF M col k col) n (col + 1) := by
  intro i j hi hj
  unfold stepF
  by_cases hjc : j = col
  · subst hjc
    by_cases hij : i = j
    · rw [if_pos hij, if_pos hij, mul_inv _ hp]
    · rw [if_neg hij, if_neg hij, mul_inv _ hp, one_mul, add_self]
  · have hj' : j < col := by omega
    have hkj : M k j = 0 := by rw [h k j hk hj', if_neg (by omega)]
    by_cases hit : i = col
    · rw [if_pos hit, hkj, zero_mul, if_neg (by omega)]
    · rw [if_neg hit, hkj, zero_mul, zero_mul, add_zero]
      by_cases hik : i = k
      · rw [if_pos hik, h col j (by omega) hj', if_neg (by omega), if_neg (by omega)]
      · rw [if_neg hik, h i j hi hj']
theorem sum_at {n : Nat} {f : Nat → F} {a : Nat} (ha : a < n) (h : ∀ i, i < n → i ≠ a → f i = 0) : sum n f = f a := by
  induction n with
  | zero => omega
  | succ n ih =>
    simp only [sum]
    by_cases e : a = n
    · subst e
      rw [sum_zero' (fun i hi => h i (by omega) (by omega)), zero_add]
    · rw [ih (by omega) (fun i hi hne => h i (by omega) hne), h n (by omega) (fun e' => e e'.symm), add_zero]
theorem sum_at2 {n : Nat} {f : Nat → F} {a b : Nat} (ha : a < n) (hb : b < n) (hab : a ≠ b) (h : ∀ i, i < n → i ≠ a → i ≠ b → f i = 0) : sum n f = f a + f b := by
  have e : sum n f = sum n (fun i => (if i = a then f i else 0) + (if i = a then 0 else f i)) := sum_congr (fun i _ => by by_cases h : i = a <;> simp [h, add_zero, zero_add])
  rw [e, sum_add, sum_at (a := a) ha (fun i _ hne => by simp [hne]), sum_at (a := b) hb (fun i hi hne => by by_cases hia : i = a; (· simp [hia]); (· simp [hia]; exact h i hi hia hne))]
  simp [hab.symm]
/-- Without a pivot something else than nought comes to nought. -/
theorem no_pivot (M : Nat → Nat → F) (n m col : Nat) (h : OneTo M n col) (hcm : col < m) (hcn : col ≤ n) (hz : ∀ i, i < n → col ≤ i → M i col = 0) :
    ∀ i, i < n → dotF m (M i) (fun j => if j < col then M j col else if j = col then 1 else 0) = 0 := by
  intro i hi
  unfold dotF
  by_cases hic : i < col
  · rw [sum_at2 (a := i) (b := col) (by omega) hcm (by omega) (fun j _ h1 h2 => ?_)]
    · simp only [if_pos hic, Nat.lt_irrefl, if_false, if_true, mul_one]
      rw [h i i hi hic, if_pos rfl, one_mul, add_self]
    · by_cases hj : j < col
      · rw [h i j hi hj, if_neg (fun e => h1 e.symm), zero_mul]
      · simp only [if_neg hj, if_neg h2, mul_zero]
  · rw [sum_at (a := col) hcm (fun j _ h1 => ?_)]
    · simp only [Nat.lt_irrefl, if_false, if_true, mul_one]
      exact hz i hi (by omega)
    · by_cases hj : j < col
      · rw [h i j hi hj, if_neg (by omega), zero_mul]
      · simp only [if_neg hj, if_neg h1, mul_zero]
end
end Go.Proofs.Ytelgefkfflgbeaa.Alg
