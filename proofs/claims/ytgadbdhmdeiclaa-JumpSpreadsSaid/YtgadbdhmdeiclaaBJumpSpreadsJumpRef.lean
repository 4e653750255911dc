/- The printed answer of the document on jumps is the plain one. -/
import Derived.Test.YtgadbdhmdeiclaaBJumpSpreadsJumpB
namespace Go.Proofs.Ytgadbdhmdeiclaa.BJumpSpreads
open Go Go.RowKit Go.Proofs.Ytgadbdhmdeiclaa.PJumpSpreads Go.Proofs.Ytgadbdhmdeiclaa.Jump Go.Proofs.Ytgadbdhmdeiclaa.Bits Go.Proofs.YtgadbdhmdeiclaaW.PrintWords Go.Proofs.YtgadbdhmdeiclaaW.PrintLast

theorem ref_of_loop (d : Nat) : ∀ (k key p n i : Nat), key < 18446744073709551616 → p < n → n ≤ p + d → i ≤ p → n ≤ 65536 → d < k →
    coldframeref40_Of.l0 k key n p i = some ((fall d key p n : Nat) : Int) := by
  induction d with
  | zero => intro k key p n i hk hp hd hi hn hf; omega
  | succ d ih =>
    intro k key p n i hk hp hd hi hn hf
    obtain ⟨k, rfl⟩ : ∃ m, k = m + 1 := ⟨k - 1, by omega⟩
    have hs := stp_lt key
    have hg := nx_gt (stp key) p hs
    have hl := nx_le (stp key) p
    have hst : IntKind.u64.wrap (IntKind.u64.wrap ((key : Int) * 2862933555777941757) + 1) = ((stp key : Nat) : Int) := by
      have := step_is key
      unfold jump_step.f at this
      exact Option.some.inj this
    have hdv : IntKind.u64.wrap (Int.tdiv ((stp key : Nat) : Int) 8589934592) = ((stp key : Nat) : Int) / 8589934592 := by
      rw [Int.tdiv_eq_ediv_of_nonneg (by omega)]
      rw [show ((stp key : Nat) : Int) / 8589934592 = ((stp key / 8589934592 : Nat) : Int) by omega, wrapu_in _ (by omega)]
    have hz : ¬ IntKind.u64.wrap (((stp key : Nat) : Int) / 8589934592 + 1) = 0 := by
      rw [show ((stp key : Nat) : Int) / 8589934592 + 1 = ((stp key / 8589934592 + 1 : Nat) : Int) by omega, wrapu_in _ (by omega)]
      omega
    simp only [coldframeref40_Of.l0]
    rw [if_pos (by omega), hst, hdv, if_neg hz, wrapu_in n (by omega), next_is _ _ hs (by omega), fall, wrap64_nat p (by omega)]
    by_cases h1 : nx (stp key) p < n
    · rw [if_pos h1, if_neg (by omega), show wrap64 ((i : Int) + 1) = ((i + 1 : Nat) : Int) by rw [wrap64_in _ (by omega) (by omega)]; omega]
      exact ih k (stp key) _ n _ hs h1 (by omega) (by omega) hn (by omega)
    · rw [if_neg h1, if_pos (by omega)]

theorem ref_of (k key n : Nat) (hk : key < 18446744073709551616) (h1 : 1 ≤ n) (hn : n ≤ 65536) (hf : n < k) : coldframeref40_Of.f k key n = some ((fall n key 0 n : Nat) : Int) := by
  unfold coldframeref40_Of.f
  exact ref_of_loop n k key 0 n 0 hk (by omega) (by omega) (by omega) hn (by omega)
end Go.Proofs.Ytgadbdhmdeiclaa.BJumpSpreads
