/- The printed powers of the document's answer are the plain ones. -/
import Derived.Test.YtelgefkfflgbeaaBVandThroughGfRefMul
import Derived.Test.YtelgefkfflgbeaaGfPow
namespace Go.Proofs.Ytelgefkfflgbeaa.BVandThrough
open Go Go.RowKit Go.Proofs.Ytelgefkfflgbeaa.PVandThrough Go.Proofs.Ytelgefkfflgbeaa.Gf Go.Proofs.Ytelgefkfflgbeaa.Bits Go.Proofs.YtelgefkfflgbeaaW.PrintWords Go.Proofs.YtelgefkfflgbeaaW.PrintLast

theorem ref_pow_loop (d : Nat) : ∀ (k a n i : Nat), a < 256 → n < 1000 → i + d = n → 70 + d ≤ k →
    coldframeref02_Pow.l0 k a n (gp a i : Nat) i = some ((gp a n : Nat) : Int) := by
  induction d with
  | zero =>
    intro k a n i ha hn hi hk
    obtain ⟨k, rfl⟩ : ∃ m, k = m + 1 := ⟨k - 1, by omega⟩
    simp only [coldframeref02_Pow.l0]
    rw [if_neg (by omega), show i = n by omega]
  | succ d ih =>
    intro k a n i ha hn hi hk
    obtain ⟨k, rfl⟩ : ∃ m, k = m + 1 := ⟨k - 1, by omega⟩
    simp only [coldframeref02_Pow.l0]
    rw [if_pos (by omega), ref_mul k _ a (gp_lt a ha i) ha (by omega)]
    simp only [bnd]
    rw [show wrap64 ((i : Int) + 1) = ((i + 1 : Nat) : Int) by rw [wrap64_in _ (by omega) (by omega)]; omega]
    exact ih k a n (i + 1) ha hn (by omega) (by omega)

theorem ref_pow (k a n : Nat) (ha : a < 256) (hn : n < 1000) (hk : 70 + n ≤ k) : coldframeref02_Pow.f k a n = some ((gp a n : Nat) : Int) :=
  ref_pow_loop n k a n 0 ha hn (by omega) hk

end Go.Proofs.Ytelgefkfflgbeaa.BVandThrough
