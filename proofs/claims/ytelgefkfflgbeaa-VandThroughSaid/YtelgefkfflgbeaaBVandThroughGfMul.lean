/- The printed product of two elements is the plain one. -/
import Derived.Test.YtelgefkfflgbeaaPVandThroughx4
import Derived.Test.YtelgefkfflgbeaaPVandThroughx5
import Derived.Test.YtelgefkfflgbeaaGf
import Derived.Test.YtelgefkfflgbeaaBits
namespace Go.Proofs.Ytelgefkfflgbeaa.BVandThrough
open Go Go.RowKit Go.Proofs.Ytelgefkfflgbeaa.PVandThrough Go.Proofs.Ytelgefkfflgbeaa.Gf Go.Proofs.Ytelgefkfflgbeaa.Bits Go.Proofs.YtelgefkfflgbeaaW.PrintWords Go.Proofs.YtelgefkfflgbeaaW.PrintLast

theorem xt_is (x : Nat) (h : x < 256) : (if 255 < x * 2 then x * 2 ^^^ 285 else x * 2) = xt x := by
  have e : ∀ x, x < 256 → (if 255 < x * 2 then x * 2 ^^^ 285 else x * 2) = xt x := by decide +kernel
  exact e x h

theorem gf_mul_loop (n : Nat) : ∀ (k b p x : Nat), b < 2 ^ n → p < 256 → x < 256 → n < k → n ≤ 8 → gf_Mul.l0 k b p x = some ((gmA n b p x : Nat) : Int) := by
  induction n with
  | zero =>
    intro k b p x hb hp hx hk hn
    obtain ⟨k, rfl⟩ : ∃ m, k = m + 1 := ⟨k - 1, by omega⟩
    simp only [gf_Mul.l0, gmA]
    rw [if_neg (by simp at hb; omega)]
    congr 1; omega
  | succ n ih =>
    intro k b p x hb hp hx hk hn
    obtain ⟨k, rfl⟩ : ∃ m, k = m + 1 := ⟨k - 1, by omega⟩
    have hb8 : b < 256 := Nat.lt_of_lt_of_le hb (Nat.pow_le_pow_right (by decide) hn)
    by_cases h0 : b = 0
    · subst h0
      simp only [gf_Mul.l0]
      rw [if_neg (by omega), gmA_zero]
      congr 1; omega
    have hx2 : wrap64 ((x : Int) * 2) = ((x * 2 : Nat) : Int) := by rw [wrap64_in _ (by omega) (by omega)]; omega
    have hb2 : (b : Int) / 2 = ((b / 2 : Nat) : Int) := by omega
    have hlt : b / 2 < 2 ^ n := by rw [Nat.pow_succ] at hb; omega
    have e1 : bits .xor .i64 (p : Int) (x : Int) = ((p ^^^ x : Nat) : Int) := xor_i64 p x (by omega) (by omega)
    have e2 : bits .xor .i64 ((x * 2 : Nat) : Int) 285 = ((x * 2 ^^^ 285 : Nat) : Int) := xor_i64 (x * 2) 285 (by omega) (by omega)
    have hpx : p ^^^ x < 256 := by
      have : p ^^^ x < 2 ^ 8 := Nat.xor_lt_two_pow (by omega) (by omega)
      simpa using this
    simp only [gf_Mul.l0, gmA]
    rw [if_pos (by omega), and1_u8 b hb8, hx2, hb2, e1, e2]
    have hxt := xt_is x hx
    have hxl := xt_lt x
    rcases bit01 b with h | h
    · rw [if_neg (by omega), h, Nat.zero_mul, Nat.xor_zero]
      by_cases hc : 255 < x * 2
      · rw [if_pos (by omega)]
        rw [if_pos hc] at hxt
        rw [hxt, ih k _ _ _ hlt hp hxl (by omega) (by omega)]
      · rw [if_neg (by omega)]
        rw [if_neg hc] at hxt
        rw [hxt, ih k _ _ _ hlt hp hxl (by omega) (by omega)]
    · rw [if_pos (by omega), h, Nat.one_mul]
      by_cases hc : 255 < x * 2
      · rw [if_pos (by omega)]
        rw [if_pos hc] at hxt
        rw [hxt, ih k _ _ _ hlt hpx hxl (by omega) (by omega)]
      · rw [if_neg (by omega)]
        rw [if_neg hc] at hxt
        rw [hxt, ih k _ _ _ hlt hpx hxl (by omega) (by omega)]

theorem gf_mul (k a b : Nat) (ha : a < 256) (hb : b < 256) (hk : 9 ≤ k) : gf_Mul.f k a b = some ((gm a b : Nat) : Int) := by
  unfold gf_Mul.f gm
  rw [wrap64_nat a (by omega)]
  exact gf_mul_loop 8 k b 0 a (by omega) (by omega) ha (by omega) (by omega)
end Go.Proofs.Ytelgefkfflgbeaa.BVandThrough
