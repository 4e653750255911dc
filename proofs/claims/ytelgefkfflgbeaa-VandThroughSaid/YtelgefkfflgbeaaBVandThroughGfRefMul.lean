/- The printed product of the document's answer is the plain one. -/
import Derived.Test.YtelgefkfflgbeaaBVandThroughGfMul
namespace Go.Proofs.Ytelgefkfflgbeaa.BVandThrough
open Go Go.RowKit Go.Proofs.Ytelgefkfflgbeaa.PVandThrough Go.Proofs.Ytelgefkfflgbeaa.Gf Go.Proofs.Ytelgefkfflgbeaa.Bits Go.Proofs.YtelgefkfflgbeaaW.PrintWords Go.Proofs.YtelgefkfflgbeaaW.PrintLast

theorem ref_bit (i : Nat) : ∀ (k n : Nat), n < 9223372036854775808 → i < 64 → i < k → coldframeref02_bit.f k n i = some ((n / 2 ^ i % 2 : Nat) : Int) := by
  induction i with
  | zero =>
    intro k n hn hi hk
    obtain ⟨k, rfl⟩ : ∃ m, k = m + 1 := ⟨k - 1, by omega⟩
    simp only [coldframeref02_bit.f, coldframeref02_bit.l0]
    rw [if_neg (by omega), Int.tmod_eq_emod_of_nonneg (by omega)]
    congr 1; simp
  | succ i ih =>
    intro k n hn hi hk
    obtain ⟨k, rfl⟩ : ∃ m, k = m + 1 := ⟨k - 1, by omega⟩
    simp only [coldframeref02_bit.f, coldframeref02_bit.l0]
    have e1 : wrap64 (Int.tdiv (n : Int) 2) = ((n / 2 : Nat) : Int) := by
      rw [Int.tdiv_eq_ediv_of_nonneg (by omega), wrap64_in _ (by omega) (by omega)]; omega
    have e2 : wrap64 (((i + 1 : Nat) : Int) - 1) = (i : Int) := by rw [wrap64_in _ (by omega) (by omega)]; omega
    rw [if_pos (by omega), e1, e2]
    have := ih k (n / 2) (by omega) (by omega) (by omega)
    simp only [coldframeref02_bit.f] at this
    rw [this, Nat.div_div_eq_div_mul, Nat.pow_succ, Nat.mul_comm 2]

theorem ref_power (i : Nat) : ∀ (k p : Nat), p * 2 ^ i < 9223372036854775808 → i < 64 → i < k → coldframeref02_power.l0 k i p = some ((p * 2 ^ i : Nat) : Int) := by
  induction i with
  | zero =>
    intro k p hp hi hk
    obtain ⟨k, rfl⟩ : ∃ m, k = m + 1 := ⟨k - 1, by omega⟩
    simp only [coldframeref02_power.l0]
    rw [if_neg (by omega)]
    congr 1; simp
  | succ i ih =>
    intro k p hp hi hk
    obtain ⟨k, rfl⟩ : ∃ m, k = m + 1 := ⟨k - 1, by omega⟩
    simp only [coldframeref02_power.l0]
    have hpos : 0 < 2 ^ i := Nat.two_pow_pos i
    have hle : p * 2 ≤ p * 2 ^ (i + 1) := by
      rw [Nat.pow_succ]; exact Nat.mul_le_mul_left p (by omega)
    have e1 : wrap64 ((p : Int) * 2) = ((p * 2 : Nat) : Int) := by
      rw [wrap64_in _ (by omega) (by omega)]; omega
    have e2 : wrap64 (((i + 1 : Nat) : Int) - 1) = (i : Int) := by rw [wrap64_in _ (by omega) (by omega)]; omega
    have e3 : p * 2 * 2 ^ i = p * 2 ^ (i + 1) := by rw [Nat.pow_succ, Nat.mul_assoc, Nat.mul_comm 2]
    rw [if_pos (by omega), e1, e2, ih k (p * 2) (by omega) (by omega) (by omega), e3]

theorem ref_pow2 (i k : Nat) (hi : i < 62) (hk : i < k) : coldframeref02_power.f k i = some ((2 ^ i : Nat) : Int) := by
  unfold coldframeref02_power.f
  have hp : 2 ^ i ≤ 2 ^ 61 := Nat.pow_le_pow_right (by decide) (by omega)
  have := ref_power i k 1 (by omega) (by omega) hk
  simpa using this

theorem ref_down (n : Nat) : ∀ (k p : Nat), n ≤ 7 → p < 2 ^ 15 → 40 ≤ k → coldframeref02_Mul.l1 (k + n) p ((n : Int) + 7) = some ((redA n p % 256 : Nat) : Int) := by
  induction n with
  | zero =>
    intro k p hn hp hk
    obtain ⟨k, rfl⟩ : ∃ m, k = m + 1 := ⟨k - 1, by omega⟩
    simp only [coldframeref02_Mul.l1, redA]
    rw [if_neg (by omega)]
    congr 1
  | succ n ih =>
    intro k p hn hp hk
    rw [show k + (n + 1) = (k + n) + 1 from rfl]
    simp only [coldframeref02_Mul.l1, redA]
    have e0 : ((n + 1 : Nat) : Int) + 7 = ((n + 8 : Nat) : Int) := by omega
    have e1 : wrap64 (((n + 8 : Nat) : Int) - 8) = (n : Int) := by rw [wrap64_in _ (by omega) (by omega)]; omega
    have e2 : wrap64 (((n + 8 : Nat) : Int) - 1) = (n : Int) + 7 := by rw [wrap64_in _ (by omega) (by omega)]; omega
    rw [e0, if_pos (by omega), ref_bit (n + 8) _ p (by omega) (by omega) (by omega)]
    simp only [bnd]
    rw [e1, e2]
    rcases bit01 (p / 2 ^ (n + 8)) with h | h
    · rw [if_neg (by omega), h, Nat.zero_mul, Nat.xor_zero, ih k p (by omega) hp hk]
    · have hq : 2 ^ n ≤ 2 ^ 6 := Nat.pow_le_pow_right (by decide) (by omega)
      have hm : 285 * 2 ^ n ≤ 285 * 2 ^ 6 := Nat.mul_le_mul_left 285 hq
      have hm' : 285 * 2 ^ n < 2 ^ 15 := Nat.lt_of_le_of_lt hm (by decide)
      have e3 : wrap64 (285 * ((2 ^ n : Nat) : Int)) = ((285 * 2 ^ n : Nat) : Int) := by
        show wrap64 (((285 : Nat) : Int) * ((2 ^ n : Nat) : Int)) = _
        rw [← Int.natCast_mul]; exact wrap64_nat _ (Nat.lt_of_lt_of_le hm' (by decide))
      rw [if_pos (by omega), ref_pow2 n _ (by omega) (by omega)]
      simp only [bnd]
      have hx : p ^^^ 285 * 2 ^ n < 2 ^ 15 := Nat.xor_lt_two_pow hp hm'
      rw [e3, xor_i64 p (285 * 2 ^ n) (Nat.lt_of_lt_of_le hp (by decide)) (Nat.lt_of_lt_of_le hm' (by decide)), h, Nat.one_mul, ih k _ (by omega) hx hk]

theorem ref_up (n : Nat) : ∀ (k a b p i : Nat), n + i = 8 → a < 256 → b < 256 → p < 2 ^ 15 → 60 ≤ k →
    coldframeref02_Mul.l0 (k + n) a b p i = some ((redA 7 (clA n (b / 2 ^ i) p (a * 2 ^ i)) % 256 : Nat) : Int) := by
  induction n with
  | zero =>
    intro k a b p i hi ha hb hp hk
    obtain ⟨k, rfl⟩ : ∃ m, k = m + 7 + 1 := ⟨k - 8, by omega⟩
    simp only [coldframeref02_Mul.l0, clA]
    rw [if_neg (by omega)]
    exact ref_down 7 k p (by omega) hp (by omega)
  | succ n ih =>
    intro k a b p i hi ha hb hp hk
    rw [show k + (n + 1) = (k + n) + 1 from rfl]
    simp only [coldframeref02_Mul.l0, clA]
    have e2 : wrap64 ((i : Int) + 1) = ((i + 1 : Nat) : Int) := by rw [wrap64_in _ (by omega) (by omega)]; omega
    have e4 : b / 2 ^ i / 2 = b / 2 ^ (i + 1) := by rw [Nat.div_div_eq_div_mul, Nat.pow_succ]
    have e5 : a * 2 ^ i * 2 = a * 2 ^ (i + 1) := by rw [Nat.pow_succ, Nat.mul_assoc]
    rw [if_pos (by omega), wrap64_nat b (by omega), wrap64_nat a (by omega), ref_bit i _ b (by omega) (by omega) (by omega)]
    simp only [bnd]
    rw [e2, e4, e5]
    rcases bit01 (b / 2 ^ i) with h | h
    · rw [if_neg (by omega), h, Nat.zero_mul, Nat.xor_zero, ih k a b p (i + 1) (by omega) ha hb hp hk]
    · have hq : 2 ^ i ≤ 2 ^ 7 := Nat.pow_le_pow_right (by decide) (by omega)
      have hm : a * 2 ^ i ≤ 255 * 2 ^ 7 := Nat.mul_le_mul (by omega) hq
      have hm' : a * 2 ^ i < 2 ^ 15 := Nat.lt_of_le_of_lt hm (by decide)
      have e3 : wrap64 ((a : Int) * ((2 ^ i : Nat) : Int)) = ((a * 2 ^ i : Nat) : Int) := by
        rw [← Int.natCast_mul]; exact wrap64_nat _ (Nat.lt_of_lt_of_le hm' (by decide))
      rw [if_pos (by omega), ref_pow2 i _ (by omega) (by omega)]
      simp only [bnd]
      have hx : p ^^^ a * 2 ^ i < 2 ^ 15 := Nat.xor_lt_two_pow hp hm'
      rw [e3, xor_i64 p (a * 2 ^ i) (Nat.lt_of_lt_of_le hp (by decide)) (Nat.lt_of_lt_of_le hm' (by decide)), h, Nat.one_mul, ih k a b _ (i + 1) (by omega) ha hb hx hk]

theorem ref_mul (k a b : Nat) (ha : a < 256) (hb : b < 256) (hk : 68 ≤ k) : coldframeref02_Mul.f k a b = some ((gm a b : Nat) : Int) := by
  unfold coldframeref02_Mul.f
  obtain ⟨k, rfl⟩ : ∃ m, k = m + 8 := ⟨k - 8, by omega⟩
  have h := ref_up 8 k a b 0 0 (by omega) ha hb (by omega) (by omega)
  have h1 := ref_eq a b ha hb
  have h2 := gm_lt a b ha
  simp only [Nat.pow_zero, Nat.div_one, Nat.mul_one, h1, Nat.mod_eq_of_lt h2] at h
  exact h
end Go.Proofs.Ytelgefkfflgbeaa.BVandThrough
