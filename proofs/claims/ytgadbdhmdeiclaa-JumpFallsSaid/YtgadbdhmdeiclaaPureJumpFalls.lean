/- To which of any places every number falls, and the number of all bytes: for all keys, places and bytes. -/
import Derived.Test.YtgadbdhmdeiclaaBJumpFallsJumpB
import Derived.Test.YtgadbdhmdeiclaaSized
namespace Go.Proofs.Ytgadbdhmdeiclaa.Pure
open Go.RowKit Go.Proofs.Ytgadbdhmdeiclaa.PJumpFalls Go.Proofs.Ytgadbdhmdeiclaa.BJumpFalls Go.Proofs.Ytgadbdhmdeiclaa.Jump Go.Proofs.Ytgadbdhmdeiclaa.Bits Go.Proofs.YtgadbdhmdeiclaaW.PrintWords Go.Proofs.YtgadbdhmdeiclaaW.PrintLast

theorem ref_of_loop (d : Nat) : ∀ (k key p n i : Nat), key < 18446744073709551616 → p < n → n ≤ p + d → i ≤ p → n ≤ 65536 → d < k →
    coldframeref40_Of.l0 k key n p i = some ((fall d key p n : Nat) : Int) := by
  induction d with
  | zero => intro k key p n i hk hp hd hi hn hf; omega
  | succ d ih =>
    intro k key p n i hk hp hd hi hn hf
    obtain ⟨k, rfl⟩ : ∃ m, k = m + 1 := ⟨k - 1, by omega⟩
    have hs := stp_lt key
    have hg := nx_gt (stp key) p hs
    have hl := nx_le (stp key) p
    have hst : IntKind.u64.wrap (IntKind.u64.wrap ((key : Int) * 2862933555777941757) + 1) = ((stp key : Nat) : Int) := by
      have := step_is key
      unfold jump_step.f at this
      exact Option.some.inj this
    have hdv : IntKind.u64.wrap (Int.tdiv ((stp key : Nat) : Int) 8589934592) = ((stp key : Nat) : Int) / 8589934592 := by
      rw [Int.tdiv_eq_ediv_of_nonneg (by omega)]
      rw [show ((stp key : Nat) : Int) / 8589934592 = ((stp key / 8589934592 : Nat) : Int) by omega, wrapu_in _ (by omega)]
    have hz : ¬ IntKind.u64.wrap (((stp key : Nat) : Int) / 8589934592 + 1) = 0 := by
      rw [show ((stp key : Nat) : Int) / 8589934592 + 1 = ((stp key / 8589934592 + 1 : Nat) : Int) by omega, wrapu_in _ (by omega)]
      omega
    simp only [coldframeref40_Of.l0]
    rw [if_pos (by omega), hst, hdv, if_neg hz, wrapu_in n (by omega), next_is _ _ hs (by omega), fall, wrap64_nat p (by omega)]
    by_cases h1 : nx (stp key) p < n
    · rw [if_pos h1, if_neg (by omega), show wrap64 ((i : Int) + 1) = ((i + 1 : Nat) : Int) by rw [wrap64_in _ (by omega) (by omega)]; omega]
      exact ih k (stp key) _ n _ hs h1 (by omega) (by omega) hn (by omega)
    · rw [if_neg h1, if_pos (by omega)]

theorem wrapu_nat (z : Int) : ∃ h' : Nat, IntKind.u64.wrap z = (h' : Int) := by
  have e : IntKind.u64.wrap z = z % 18446744073709551616 := by simp [IntKind.wrap, IntKind.bits, IntKind.signed]
  rw [e]
  exact ⟨(z % 18446744073709551616).toNat, by omega⟩
theorem keys_same (d : Nat) : ∀ (k h i : Nat) (l : List Int), l.length ≤ 500 → l.length - i = d → i ≤ l.length → d < k →
    ∃ r, jump_Key.l0 k h l l.length i = some r ∧ coldframeref40_Key.l0 k l h i = some r := by
  induction d with
  | zero =>
    intro k h i l hl hd hi hk
    obtain ⟨k, rfl⟩ : ∃ m, k = m + 1 := ⟨k - 1, by omega⟩
    refine ⟨h, ?_, ?_⟩
    · simp only [jump_Key.l0]; rw [if_neg (by omega)]
    · simp only [coldframeref40_Key.l0]; rw [if_neg (by omega)]
  | succ d ih =>
    intro k h i l hl hd hi hk
    obtain ⟨k, rfl⟩ : ∃ m, k = m + 1 := ⟨k - 1, by omega⟩
    simp only [jump_Key.l0, coldframeref40_Key.l0]
    rw [if_pos (by omega), if_pos (by omega), if_pos (by omega), show wrap64 ((i : Int) + 1) = ((i + 1 : Nat) : Int) by rw [wrap64_in _ (by omega) (by omega)]; omega]
    obtain ⟨z, hz⟩ : ∃ z, z = bits BinOp.xor IntKind.u64 (h : Int) (IntKind.u64.wrap (rd l (i : Int))) * 1099511628211 := ⟨_, rfl⟩
    rw [← hz]
    obtain ⟨h', hh⟩ := wrapu_nat z
    rw [hh, if_pos (by omega), if_pos (by omega)]
    exact ih k h' (i + 1) l hl (by omega) (by omega) (by omega)

theorem JumpFalls : coldframelaw40_JumpFalls.Pure := by
  intro key pl l wk wp hm hr hl
  obtain ⟨key, hk, rfl⟩ := wf_u64 wk
  refine ⟨70000 + 1, ?_⟩
  unfold coldframelaw40_JumpFalls.f
  by_cases h5 : (l.length : Int) > 500
  · rw [if_pos h5]
    simp only [coldframelaw40_JumpFalls.j0]
    rw [if_pos trivial, if_pos h5, awake_is _ (by omega)]; rfl
  rw [if_neg h5]
  obtain ⟨r, h1, h2⟩ := keys_same l.length (70000 + 1) 14695981039346656037 0 l (by omega) (by omega) (by omega) (by omega)
  unfold jump_Key.f coldframeref40_Key.f
  rw [show (14695981039346656037 : Int) = ((14695981039346656037 : Nat) : Int) from rfl, show (0 : Int) = ((0 : Nat) : Int) from rfl, h1, h2]
  simp only [bnd, bne_self_eq_false, coldframelaw40_JumpFalls.j0]
  rw [if_neg (by decide), awake_is _ (by omega)]
  by_cases hp : 1 ≤ pl ∧ pl ≤ 65536
  · obtain ⟨n, rfl⟩ : ∃ n : Nat, pl = n := ⟨pl.toNat, by omega⟩
    have hlt := fall_lt n key 0 n (by omega)
    rw [of_right _ key n hk (by omega) (by omega) (by omega)]
    unfold coldframelaw40_right.f
    rw [if_pos (by omega)]
    simp only [bnd]
    rw [if_pos (by simp; omega)]
    unfold coldframeref40_Of.f
    rw [show (0 : Int) = ((0 : Nat) : Int) from rfl, ref_of_loop n _ key 0 n 0 hk (by omega) (by omega) (by omega) (by omega) (by omega)]
    simp only [bnd]
    rw [if_pos trivial, if_pos (by omega), if_pos (by omega), if_pos trivial]
  · rw [of_wrong _ _ _ hp (by omega)]
    unfold coldframelaw40_right.f
    by_cases h1 : pl ≥ 1
    · rw [if_pos h1]
      simp only [bnd]
      rw [if_neg (by simp; omega)]; rfl
    · rw [if_neg h1]; rfl
end Go.Proofs.Ytgadbdhmdeiclaa.Pure
