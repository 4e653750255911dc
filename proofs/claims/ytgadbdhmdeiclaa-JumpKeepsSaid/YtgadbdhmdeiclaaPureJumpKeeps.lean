/- With one place more a number falls to where it did, or to the new place: for all keys and all places. -/
import Derived.Test.YtgadbdhmdeiclaaBJumpKeepsJumpB
namespace Go.Proofs.Ytgadbdhmdeiclaa.Pure
open Go.RowKit Go.Proofs.Ytgadbdhmdeiclaa.PJumpKeeps Go.Proofs.Ytgadbdhmdeiclaa.BJumpKeeps Go.Proofs.Ytgadbdhmdeiclaa.Jump Go.Proofs.Ytgadbdhmdeiclaa.Bits Go.Proofs.YtgadbdhmdeiclaaW.PrintWords Go.Proofs.YtgadbdhmdeiclaaW.PrintLast

theorem JumpKeeps : coldframelaw40_JumpKeeps.Pure := by
  intro key pl wk wp
  obtain ⟨key, hk, rfl⟩ := wf_u64 wk
  obtain ⟨pl, hp, rfl⟩ : ∃ n : Nat, n < 65536 ∧ pl = n := by
    simp [Lit.wf, IntKind.min, IntKind.max, IntKind.signed, IntKind.bits] at wp
    exact ⟨pl.toNat, by omega, by omega⟩
  refine ⟨70000, ?_⟩
  have e1 : wrap64 (1 + Int.tmod (wrap64 (pl : Int)) 65535) = ((1 + pl % 65535 : Nat) : Int) := by
    rw [wrap64_nat pl (by omega), Int.tmod_eq_emod_of_nonneg (by omega), wrap64_in _ (by omega) (by omega)]; omega
  have e2 : wrap64 (((1 + pl % 65535 : Nat) : Int) + 1) = ((1 + pl % 65535 + 1 : Nat) : Int) := by
    rw [wrap64_in _ (by omega) (by omega)]; omega
  unfold coldframelaw40_JumpKeeps.f
  rw [e1, e2]
  obtain ⟨n, hn⟩ : ∃ n, n = 1 + pl % 65535 := ⟨_, rfl⟩
  rw [← hn]
  have h := fall_keeps n key 0 n (by omega) (by omega)
  rw [of_right _ key n hk (by omega) (by omega) (by omega), of_right _ key (n + 1) hk (by omega) (by omega) (by omega), awake_is _ (by omega)]
  simp only [bnd, if_true]
  by_cases h1 : fall n key 0 n = fall (n + 1) key 0 (n + 1)
  · rw [if_pos (by rw [h1])]
  · have h2 : fall (n + 1) key 0 (n + 1) = n := by
      rcases h with h | h
      · exact absurd h h1
      · exact h
    rw [if_neg (by omega), if_pos (by rw [h2])]
end Go.Proofs.Ytgadbdhmdeiclaa.Pure
