/- The statement StripePlans at every input. -/
import Derived.Test.YtjoblpkfpfclpaaBStripePlansStripe6
import Derived.Test.YtjoblpkfpfclpaaBStripePlansStripe7
namespace Go.Proofs.Ytjoblpkfpfclpaa.Str
open Go Go.RowKit Go.Proofs.Ytjoblpkfpfclpaa.PStripePlans
set_option linter.unusedVariables false
theorem sp_row (n : Int) (_ : (Lit.int .i64 n).wf = true) (k : Int) (_ : (Lit.int .i64 k).wf = true) (L : Int) (_ : (Lit.int .i64 L).wf = true) (p : Int) (_ : (Lit.int .i64 p).wf = true) (w : World) :
    Calls Try.prog 3 #[.int .i64 n, .int .i64 k, .int .i64 L, .int .i64 p] w fun e w' => e = .returned (.bool true) ∧ Below w.heap.size w w' := by
  by_cases hr : 2 ≤ k ∧ k ≤ 8 ∧ 2 * k - 1 ≤ n ∧ n ≤ 24
  · obtain ⟨r1, r2, r3, r4⟩ := hr
    obtain ⟨k, rfl⟩ := Int.eq_ofNat_of_zero_le (show 0 ≤ k by omega)
    obtain ⟨n, rfl⟩ := Int.eq_ofNat_of_zero_le (show 0 ≤ n by omega)
    have k1 : 2 ≤ k := by omega
    have k2 : k ≤ 8 := by omega
    have n1 : 2 * k - 1 ≤ n := by omega
    have n2 : n ≤ 24 := by omega
    by_cases ha : L < 0 ∨ (¬ L < 0 ∧ p < 1) ∨ (¬ L < 0 ∧ ¬ p < 1 ∧ 256 < p)
    · exact plans_err1 n k L p w k1 k2 n1 n2 (fun b W _ => of_arg b L p W ha) (ref_arg k L p ha)
    · have h1 : ¬ L < 0 := fun h => ha (.inl h)
      have h2 : ¬ p < 1 := fun h => ha (.inr (.inl ⟨h1, h⟩))
      have h3 : ¬ 256 < p := fun h => ha (.inr (.inr ⟨h1, h2, h⟩))
      by_cases hl : 16384 < L
      · exact plans_err29 n k L p w k1 k2 n1 n2 (fun b W _ => of_long b L p W h1 h2 h3 hl) (ref_long k L p h1 h2 h3 hl)
      · obtain ⟨L, rfl⟩ := Int.eq_ofNat_of_zero_le (show 0 ≤ L by omega)
        obtain ⟨p, rfl⟩ := Int.eq_ofNat_of_zero_le (show 0 ≤ p by omega)
        have p1 : 1 ≤ p := by omega
        have p2 : p ≤ 256 := by omega
        have L1 : L ≤ 16384 := by omega
        obtain ⟨s, hs⟩ : ∃ s, k * (k - 1) = s := ⟨_, rfl⟩
        obtain ⟨full, hf⟩ : ∃ f, s * p = f := ⟨_, rfl⟩
        have HR := ref_of k s full L p k1 k2 hs hf p1 p2 L1
        obtain ⟨_, s2, _, f2, _⟩ := ref_sk k s full L p k1 k2 hs hf p1 p2 L1
        unfold planR at HR
        by_cases hm : 32 < upq L full
        · rw [if_pos hm] at HR
          have h32 := (upq_lt L full 32 (by omega)).1 hm
          exact plans_err29 n k L p w k1 k2 n1 n2 (fun b W hc => of_many b n k s full L p W hc k1 k2 hs hf p1 p2 L1 hm (by omega) (by omega)) HR
        · rw [if_neg hm] at HR
          by_cases h0 : 0 < L
          · by_cases hlt : L < full
            · rw [if_pos ⟨h0, hlt⟩] at HR
              have hq : upq L full = 1 := by
                have a1 := (upq_lt L full 0 (by omega)).2 (by omega)
                have a2 : ¬ 1 < upq L full := fun h => by have := (upq_lt L full 1 (by omega)).1 h; omega
                omega
              rw [hq] at HR
              have := upq_le L s s2
              exact plans_ok n k L p L 1 (upq L s) s w k1 k2 n1 n2 hs (by omega) (fun b W hc => of_small b n k s full L p W hc k1 k2 hs hf p1 p2 L1 h0 hlt) HR
            · rw [if_neg (fun h => hlt h.2)] at HR
              exact plans_ok n k L p L (upq L full) p s w k1 k2 n1 n2 hs (by omega) (fun b W hc => of_few b n k s full L p W hc k1 k2 hs hf p1 p2 L1 (by omega) h0 hlt) HR
          · rw [if_neg (fun h => h0 h.1)] at HR
            have hq : upq L full = 0 := by
              have a2 : ¬ 0 < upq L full := fun h => by have := (upq_lt L full 0 (by omega)).1 h; omega
              omega
            rw [hq] at HR
            exact plans_ok n k L p L 0 p s w k1 k2 n1 n2 hs (by omega) (fun b W hc => of_zero b n k s full L p W hc k1 k2 hs hf p1 p2 L1 (by omega)) HR
  · exact plans_bad n k L p w hr
end Go.Proofs.Ytjoblpkfpfclpaa.Str
