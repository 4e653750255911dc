/- Polynomials' values: Lagrange. No program. -/
import Derived.Test.YtelgefkfflgbeaaSol3
namespace Go.Proofs.Ytelgefkfflgbeaa.Sol
open Go.Proofs.Ytelgefkfflgbeaa.Gf Go.Proofs.Ytelgefkfflgbeaa.Gi Go.Proofs.Ytelgefkfflgbeaa.Alg
set_option linter.unusedVariables false

/-- What the polynomial of the coefficients f comes to. -/
def ev (n : Nat) (f : Nat → Int) (z : Int) : G := sum n (fun j => pw (G.of z) j * G.of (f j))
theorem ev_hor (n : Nat) (f : Nat → Int) (z : Int) : hor ((line n f).map G.of) (G.of z) = ev n f z := by
  have := hor_sum (G.of z) n (fun j => G.of (f j))
  unfold ev
  rw [← this]
  unfold line
  rw [List.map_map]
  rfl
theorem ev_congr {n : Nat} {f g : Nat → Int} (h : ∀ j, j < n → f j = g j) (z : Int) : ev n f z = ev n g z := by
  unfold ev
  exact sum_congr (fun j hj => by rw [h j hj])
theorem ev_zero (n : Nat) (z : Int) : ev n (fun _ => 0) z = 0 := by
  unfold ev
  exact sum_zero' (fun i _ => by rw [G.of_zero, mul_zero])
theorem ev_one (z : Int) (f : Nat → Int) (h : f 0 = 1) : ev 1 f z = 1 := by
  unfold ev
  show (0 : G) + pw (G.of z) 0 * G.of (f 0) = 1
  rw [h, G.of_one, Fd.mul_one, zero_add]
  rfl
theorem ev_add (n : Nat) {o b : Nat → Int} {s : Int} (ho : ∀ j, Byt (o j)) (hb : ∀ j, Byt (b j)) (hs : Byt s) (z : Int) :
    ev n (fun j => xorI (o j) (gmI (b j) s)) z = ev n o z + ev n b z * G.of s := by
  unfold ev
  rw [← sum_scale, ← sum_add]
  exact sum_congr (fun j _ => by rw [of_xor (ho j) (gmI_byt (hb j)), of_gm (hb j) hs, Fd.mul_add, Fd.mul_assoc])
theorem ev_times (m : Nat) {f t : Nat → Int} {x : Int} (hf : ∀ j, Byt (f j)) (hx : Byt x) (ht : ∀ j, t j = xorI (if 0 < j ∧ j ≤ m then f (j - 1) else 0) (if j < m then gmI (f j) x else 0)) (z : Int) :
    ev (m + 1) t z = ev m f z * (G.of z + G.of x) := by
  have h1 : ev (m + 1) t z = sum (m + 1) (fun j => pw (G.of z) j * G.of (if 0 < j ∧ j ≤ m then f (j - 1) else 0)) + sum (m + 1) (fun j => pw (G.of z) j * G.of (if j < m then gmI (f j) x else 0)) := by
    unfold ev
    rw [← sum_add]
    refine sum_congr (fun j _ => ?_)
    rw [ht j, of_xor, Fd.mul_add]
    · split
      · exact hf _
      · exact byt0
    · split
      · exact gmI_byt (hf _)
      · exact byt0
  have h2 : sum (m + 1) (fun j => pw (G.of z) j * G.of (if j < m then gmI (f j) x else 0)) = ev m f z * G.of x := by
    show sum m (fun j => pw (G.of z) j * G.of (if j < m then gmI (f j) x else 0)) + pw (G.of z) m * G.of (if m < m then gmI (f m) x else 0) = _
    rw [if_neg (Nat.lt_irrefl m), G.of_zero, mul_zero, Fd.add_zero]
    unfold ev
    rw [← sum_scale]
    exact sum_congr (fun j hj => by rw [if_pos hj, of_gm (hf j) hx, Fd.mul_assoc])
  have h3 : sum (m + 1) (fun j => pw (G.of z) j * G.of (if 0 < j ∧ j ≤ m then f (j - 1) else 0)) = ev m f z * G.of z := by
    rw [sum_shift, if_neg (by omega), G.of_zero, mul_zero, zero_add]
    unfold ev
    rw [← sum_scale]
    refine sum_congr (fun j hj => ?_)
    rw [if_pos (by omega), Nat.add_sub_cancel]
    show pw (G.of z) j * G.of z * G.of (f j) = _
    rw [Fd.mul_assoc, Fd.mul_comm (G.of z), ← Fd.mul_assoc]
  rw [h1, h2, h3, ← Fd.mul_add]
/-- What the round over i holds of the sum so far. -/
def LagO (n : Nat) (x v : Nat → Int) (i : Nat) (o : Nat → Int) : Prop := (∀ j, Byt (o j)) ∧ ∀ j, j < n → ev n o (x j) = if j < i then G.of (v j) else 0
/-- What the round over k holds of the product so far. -/
def LagB (n : Nat) (x v : Nat → Int) (i k len : Nat) (b : Nat → Int) (s : Int) : Prop :=
  (∀ j, Byt (b j)) ∧ Byt s ∧ len = (if k ≤ i then k + 1 else k) ∧ (∀ j, j < k → j ≠ i → ev len b (x j) = 0) ∧ ev len b (x i) * G.of s = G.of (v i)
theorem lagO_start (n : Nat) (x v : Nat → Int) : LagO n x v 0 (fun _ => 0) := ⟨fun _ => byt0, fun j _ => by rw [ev_zero, if_neg (Nat.not_lt_zero j)]⟩
theorem lagB_start (n : Nat) (x v : Nat → Int) (i : Nat) (hv : Byt (v i)) : LagB n x v i 0 1 (fun _ => 1) (v i) :=
  ⟨fun _ => show Byt 1 from ⟨by decide, by decide⟩, hv, by rw [if_pos (Nat.zero_le i)], fun j hj => absurd hj (Nat.not_lt_zero j), by rw [ev_one _ _ rfl, Alg.one_mul]⟩
theorem lagB_skip {n : Nat} {x v : Nat → Int} {i len : Nat} {b : Nat → Int} {s : Int} (h : LagB n x v i i len b s) : LagB n x v i (i + 1) len b s := by
  obtain ⟨h1, h2, h3, h4, h5⟩ := h
  refine ⟨h1, h2, ?_, fun j hj hne => h4 j (by omega) hne, h5⟩
  rw [if_pos (Nat.le_refl i)] at h3
  rw [if_neg (by omega)]; exact h3
theorem lagB_step {n : Nat} {x v : Nat → Int} {i k len : Nat} {b t : Nat → Int} {s r : Int} (h : LagB n x v i k len b s) (hki : k ≠ i) (hx : ∀ j, Byt (x j)) (hr : Byt r) (h1 : gmI (xorI (x i) (x k)) r = 1)
    (htb : ∀ j, Byt (t j)) (ht : ∀ j, t j = xorI (if 0 < j ∧ j ≤ len then b (j - 1) else 0) (if j < len then gmI (b j) (x k) else 0)) : LagB n x v i (k + 1) (len + 1) t (gmI s r) := by
  obtain ⟨hb, hs, hl, h4, h5⟩ := h
  refine ⟨htb, gmI_byt hs, ?_, fun j hj hne => ?_, ?_⟩
  · by_cases e : k ≤ i
    · rw [if_pos e] at hl; rw [if_pos (by omega)]; omega
    · rw [if_neg e] at hl; rw [if_neg (by omega)]; omega
  · rw [ev_times len hb (hx k) ht]
    by_cases e : j = k
    · subst e; rw [Fd.add_self, mul_zero]
    · rw [h4 j (by omega) hne, zero_mul]
  · rw [ev_times len hb (hx k) ht, of_gm hs hr]
    have e1 : (G.of (x i) + G.of (x k)) * G.of r = 1 := by rw [← of_xor (hx i) (hx k), ← of_gm (xorI_byt (hx i) (hx k)) hr, h1, G.of_one]
    rw [← h5, Fd.mul_assoc, Alg.mul_left_comm (G.of (x i) + G.of (x k)), e1, Fd.mul_one]
theorem lagO_step {n : Nat} {x v : Nat → Int} {i : Nat} {o b : Nat → Int} {s : Int} (ho : LagO n x v i o) (hb : LagB n x v i n n b s) (hi : i < n) : LagO n x v (i + 1) (fun j => xorI (o j) (gmI (b j) s)) := by
  obtain ⟨h1, h2⟩ := ho
  obtain ⟨g1, g2, g3, g4, g5⟩ := hb
  refine ⟨fun j => xorI_byt (h1 j) (gmI_byt (g1 j)), fun j hj => ?_⟩
  rw [ev_add n h1 g1 g2, h2 j hj]
  by_cases e : j = i
  · subst e; rw [g5, if_neg (Nat.lt_irrefl j), if_pos (by omega), zero_add]
  · rw [g4 j hj e, zero_mul, Fd.add_zero]
    by_cases e2 : j < i
    · rw [if_pos e2, if_pos (by omega)]
    · rw [if_neg e2, if_neg (by omega)]
theorem xor_ne {a b : Int} (ha : Byt a) (hb : Byt b) (h : a ≠ b) : xorI a b ≠ 0 := by
  intro e
  have := of_xor ha hb
  rw [e, G.of_zero] at this
  exact h (G.of_inj ha hb (eq_of_add_zero this.symm))
theorem xor_same (a : Int) : xorI a a = 0 := by simp [xorI]
end Go.Proofs.Ytelgefkfflgbeaa.Sol
