/- The printed powers are the plain ones. -/
import Derived.Test.YtelgefkfflgbeaaBVandThroughGfMul
import Derived.Test.YtelgefkfflgbeaaGfPow
namespace Go.Proofs.Ytelgefkfflgbeaa.BVandThrough
open Go Go.RowKit Go.Proofs.Ytelgefkfflgbeaa.PVandThrough Go.Proofs.Ytelgefkfflgbeaa.Gf Go.Proofs.Ytelgefkfflgbeaa.Bits Go.Proofs.YtelgefkfflgbeaaW.PrintWords Go.Proofs.YtelgefkfflgbeaaW.PrintLast

theorem gf_pow_loop (m : Nat) : ∀ (k a n p : Nat), a < 256 → p < 256 → n < 2 ^ m → n < 9223372036854775808 → 10 + m ≤ k →
    gf_Pow.l0 k a n p = some ((gm p (gp a n) : Nat) : Int) := by
  induction m with
  | zero =>
    intro k a n p ha hp hn hn2 hk
    obtain ⟨k, rfl⟩ : ∃ m, k = m + 1 := ⟨k - 1, by omega⟩
    have h0 : n = 0 := by simp at hn; exact hn
    subst h0
    simp only [gf_Pow.l0, gp]
    rw [if_neg (by omega), gm_one]
  | succ m ih =>
    intro k a n p ha hp hn hn2 hk
    obtain ⟨k, rfl⟩ : ∃ m, k = m + 1 := ⟨k - 1, by omega⟩
    simp only [gf_Pow.l0]
    by_cases h0 : n = 0
    · subst h0
      rw [if_neg (by omega), gp, gm_one]
    have hh : n / 2 < 2 ^ m := by rw [Nat.pow_succ] at hn; omega
    have hsq := gm_lt a a ha
    rw [if_pos (by omega), and1_i64 n hn2, show (n : Int) / 2 = ((n / 2 : Nat) : Int) by omega]
    rcases bit01 n with h | h
    · rw [if_neg (by omega), gf_mul k a a ha ha (by omega)]
      simp only [bnd]
      rw [ih k _ _ p hsq hp hh (by omega) (by omega), gp_sq a ha, show 2 * (n / 2) = n by omega]
    · rw [if_pos (by omega), gf_mul k p a hp ha (by omega)]
      simp only [bnd]
      rw [gf_mul k a a ha ha (by omega)]
      simp only [bnd]
      rw [ih k _ _ _ hsq (gm_lt p a hp) hh (by omega) (by omega), gp_sq a ha, gm_assoc _ _ _ hp ha (gp_lt a ha _), gm_comm a _ ha (gp_lt a ha _), gp_succ,
        show 2 * (n / 2) + 1 = n by omega]

theorem gf_pow (k a n : Nat) (ha : a < 256) (hn : n < 9223372036854775808) (hk : 80 ≤ k) : gf_Pow.f k a n = some ((gp a n : Nat) : Int) := by
  have h := gf_pow_loop 63 k a n 1 ha (by decide) hn hn (by omega)
  rw [gm_one_left _ (gp_lt a ha n)] at h
  exact h
theorem gf_pow_neg (k a : Nat) (n : Int) (hn : n ≤ 0) (hk : 1 ≤ k) : gf_Pow.f k a n = some 1 := by
  obtain ⟨k, rfl⟩ : ∃ m, k = m + 1 := ⟨k - 1, by omega⟩
  simp only [gf_Pow.f, gf_Pow.l0]
  rw [if_neg (by omega)]
end Go.Proofs.Ytelgefkfflgbeaa.BVandThrough
