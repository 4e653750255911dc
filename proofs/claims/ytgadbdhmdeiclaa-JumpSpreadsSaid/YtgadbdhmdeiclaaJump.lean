/- Where a number falls: plain arithmetic of the chapter on jumps. -/
namespace Go.Proofs.Ytgadbdhmdeiclaa.Jump

/-- The next number of a row. -/
def stp (key : Nat) : Nat := (key * 2862933555777941757 % 18446744073709551616 + 1) % 18446744073709551616
/-- The next place, behind a place 'p'. -/
def nx (key p : Nat) : Nat := (p + 1) * 2147483648 / (key / 8589934592 + 1)

theorem stp_lt (key : Nat) : stp key < 18446744073709551616 := Nat.mod_lt _ (by decide)
theorem nx_gt (key p : Nat) (h : key < 18446744073709551616) : p < nx key p := by
  unfold nx
  have hd : key / 8589934592 + 1 ≤ 2147483648 := by omega
  have h2 : p + 1 ≤ (p + 1) * 2147483648 / (key / 8589934592 + 1) := by
    rw [Nat.le_div_iff_mul_le (by omega)]
    exact Nat.mul_le_mul_left _ hd
  omega
theorem nx_le (key p : Nat) : nx key p ≤ (p + 1) * 2147483648 := Nat.div_le_self _ _

/-- From place 'p' on, to the last place below 'n'. -/
def fall : Nat → Nat → Nat → Nat → Nat
  | 0, _, p, _ => p
  | d + 1, key, p, n => if nx (stp key) p < n then fall d (stp key) (nx (stp key) p) n else p

theorem fall_lt (d : Nat) : ∀ key p n, p < n → fall d key p n < n := by
  induction d with
  | zero => intro key p n h; exact h
  | succ d ih =>
    intro key p n h
    simp only [fall]
    split
    · next h' => exact ih _ _ _ h'
    · exact h

/-- With one place more a number falls to where it did, or to the new place. -/
theorem fall_keeps (d : Nat) : ∀ key p n, p < n → n ≤ p + d → fall d key p n = fall (d + 1) key p (n + 1) ∨ fall (d + 1) key p (n + 1) = n := by
  induction d with
  | zero => intro key p n h h'; omega
  | succ d ih =>
    intro key p n h h'
    have hg := nx_gt (stp key) p (stp_lt key)
    rw [fall, fall]
    by_cases h1 : nx (stp key) p < n
    · rw [if_pos h1, if_pos (by omega)]
      exact ih _ _ _ h1 (by omega)
    · rw [if_neg h1]
      by_cases h2 : nx (stp key) p < n + 1
      · right
        rw [if_pos h2]
        have e : nx (stp key) p = n := by omega
        rw [e]
        have hg2 := nx_gt (stp (stp key)) n (stp_lt _)
        rw [fall, if_neg (by omega)]
      · left
        rw [if_neg h2]

theorem fall_more (d : Nat) : ∀ key p n e, n ≤ p + d → p < n → fall d key p n = fall (d + e) key p n := by
  induction d with
  | zero => intro key p n e h h'; omega
  | succ d ih =>
    intro key p n e h h'
    have hg := nx_gt (stp key) p (stp_lt key)
    rw [show d + 1 + e = (d + e) + 1 by omega]
    simp only [fall]
    by_cases h1 : nx (stp key) p < n
    · rw [if_pos h1, if_pos h1]; exact ih _ _ _ _ (by omega) h1
    · rw [if_neg h1, if_neg h1]

/-- The sum of bytes. -/
def key1 (h c : Nat) : Nat := (h ^^^ c) * 1099511628211 % 18446744073709551616
def keyL (h : Nat) (l : List Nat) : Nat := l.foldl key1 h
end Go.Proofs.Ytgadbdhmdeiclaa.Jump
