/- Powers of 2 and of which power each element is. -/
import Derived.Test.YtpdigmgfpekocaaGfPow
namespace Go.Proofs.Ytpdigmgfpekocaa.Gf

/-- The powers of 2, from one on. -/
def pl : Nat → Nat → List Nat
  | 0, _ => []
  | n + 1, x => x :: pl n (gm x 2)
theorem pl_get (n : Nat) : ∀ (j i : Nat), i < n → (pl n (gp 2 j))[i]? = some (gp 2 (j + i)) := by
  induction n with
  | zero => intro j i h; omega
  | succ n ih =>
    intro j i h
    cases i with
    | zero => simp [pl]
    | succ i =>
      simp only [pl, List.getElem?_cons_succ, gp_succ]
      rw [ih (j + 1) i (by omega)]
      congr 2; omega
theorem pl_len (n : Nat) : ∀ x, (pl n x).length = n := by
  induction n with
  | zero => intro x; rfl
  | succ n ih => intro x; simp [pl, ih]
theorem has_log (a : Nat) (ha : a < 256) (h0 : a ≠ 0) : ∃ i, i < 255 ∧ gp 2 i = a := by
  have e : ∀ a, a < 256 → a ≠ 0 → a ∈ pl 255 1 := by decide +kernel
  obtain ⟨i, hi⟩ := List.mem_iff_getElem?.1 (e a ha h0)
  have hl : i < 255 := by
    have := (List.getElem?_eq_some_iff.1 hi).1
    rwa [pl_len] at this
  have := pl_get 255 0 i hl
  rw [show gp 2 0 = 1 from rfl, hi, Nat.zero_add] at this
  exact ⟨i, hl, (Option.some.inj this).symm⟩
theorem two_ne (i : Nat) : gp 2 i ≠ 0 := by
  induction i with
  | zero => decide
  | succ i ih =>
    intro h
    have := gm_cancel 2 (gp 2 i) 0 (by decide) (by decide) (gp_lt 2 (by decide) i) (by decide) (by rw [gm_comm 2 _ (by decide) (gp_lt 2 (by decide) i), gm_zero_right]; exact h)
    exact ih this
theorem two_order (d : Nat) (h0 : 0 < d) (hd : d < 255) : gp 2 d ≠ 1 := by
  have e : ∀ i, i < 254 → (pl 254 2)[i]? ≠ some 1 := by decide +kernel
  have := pl_get 254 1 (d - 1) (by omega)
  rw [show gp 2 1 = 2 by decide, show 1 + (d - 1) = d by omega] at this
  intro h
  exact e (d - 1) (by omega) (by rw [this, h])
theorem two_inj (i j : Nat) (hi : i < 255) (hj : j < 255) (h : gp 2 i = gp 2 j) : i = j := by
  have key : ∀ i j, i < j → j < 255 → gp 2 i ≠ gp 2 j := by
    intro i j hij hj h
    refine two_order (j - i) (by omega) (by omega) ?_
    have e : gm (gp 2 i) (gp 2 (j - i)) = gm (gp 2 i) 1 := by
      rw [← gp_add 2 (by decide), show i + (j - i) = j by omega, gm_one, h]
    exact gm_cancel _ _ _ (gp_lt 2 (by decide) i) (two_ne i) (gp_lt 2 (by decide) _) (by decide) e
  rcases Nat.lt_trichotomy i j with h' | h' | h'
  · exact absurd h (key i j h' hj)
  · exact h'
  · exact absurd h.symm (key j i h' hi)
theorem gp_mod255 (n : Nat) : gp 2 (n % 255) = gp 2 n := by
  have h : ∀ q r, gp 2 (255 * q + r) = gp 2 r := by
    intro q
    induction q with
    | zero => intro r; simp
    | succ q ih =>
      intro r
      rw [show 255 * (q + 1) + r = 255 + (255 * q + r) by omega, gp_add 2 (by decide), gp_255 2 (by decide) (by decide), gm_one_left _ (gp_lt 2 (by decide) _), ih]
  have := h (n / 255) (n % 255)
  rw [show 255 * (n / 255) + n % 255 = n by omega] at this
  exact this.symm
/-- Of which power of 2 an element is. -/
def lg (a : Nat) : Nat := (pl 255 1).idxOf a
theorem lg_lt (a : Nat) (ha : a < 256) (h0 : a ≠ 0) : lg a < 255 := by
  have e : ∀ a, a < 256 → a ≠ 0 → a ∈ pl 255 1 := by decide +kernel
  have := List.idxOf_lt_length_of_mem (e a ha h0)
  rwa [pl_len] at this
theorem gp_lg (a : Nat) (ha : a < 256) (h0 : a ≠ 0) : gp 2 (lg a) = a := by
  have h := lg_lt a ha h0
  have := pl_get 255 0 (lg a) h
  rw [show gp 2 0 = 1 from rfl, Nat.zero_add] at this
  have h2 : (pl 255 1)[lg a]? = some a := by
    rw [List.getElem?_eq_getElem (by rw [pl_len]; exact h)]
    exact congrArg some (List.getElem_idxOf (by rw [pl_len]; exact h))
  rw [h2] at this
  exact (Option.some.inj this).symm
theorem lg_gp (i : Nat) (hi : i < 255) : lg (gp 2 i) = i :=
  two_inj _ _ (lg_lt _ (gp_lt 2 (by decide) i) (two_ne i)) hi (gp_lg _ (gp_lt 2 (by decide) i) (two_ne i))
end Go.Proofs.Ytpdigmgfpekocaa.Gf
