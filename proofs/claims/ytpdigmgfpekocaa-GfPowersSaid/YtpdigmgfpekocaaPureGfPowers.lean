/- Every element's powers, what it comes to 1 with, what divides it, and its order: for all bytes a and b and all exponents n. -/
import Derived.Test.YtpdigmgfpekocaaBGfPowersGfPowB
namespace Go.Proofs.Ytpdigmgfpekocaa.Pure
open Go.RowKit Go.Proofs.Ytpdigmgfpekocaa.PGfPowers Go.Proofs.Ytpdigmgfpekocaa.BGfPowers Go.Proofs.Ytpdigmgfpekocaa.Gf Go.Proofs.Ytpdigmgfpekocaa.Bits Go.Proofs.YtpdigmgfpekocaaW.PrintWords Go.Proofs.YtpdigmgfpekocaaW.PrintLast

theorem order_loop (d : Nat) : ∀ (k a n : Nat), a < 256 → a ≠ 0 → n + d = 255 → 20 + d ≤ k →
    ∃ o, n ≤ o ∧ o ≤ 255 ∧ gp a o = 1 ∧ (∀ i, n ≤ i → i < o → gp a i ≠ 1) ∧ gf_Order.l0 k a n (gp a n : Nat) = some ((o : Nat) : Int) := by
  induction d with
  | zero =>
    intro k a n ha h0 hd hk
    obtain ⟨k, rfl⟩ : ∃ m, k = m + 1 := ⟨k - 1, by omega⟩
    obtain rfl : n = 255 := by omega
    refine ⟨255, Nat.le_refl _, Nat.le_refl _, gp_255 a ha h0, fun i h h' => by omega, ?_⟩
    simp only [gf_Order.l0]
    rw [gp_255 a ha h0, if_pos (by omega)]
  | succ d ih =>
    intro k a n ha h0 hd hk
    obtain ⟨k, rfl⟩ : ∃ m, k = m + 1 := ⟨k - 1, by omega⟩
    by_cases h1 : gp a n = 1
    · refine ⟨n, Nat.le_refl _, by omega, h1, fun i h h' => by omega, ?_⟩
      simp only [gf_Order.l0]
      rw [h1, if_pos (by omega)]
    · obtain ⟨o, h2, h3, h4, h5, h6⟩ := ih k a (n + 1) ha h0 (by omega) (by omega)
      refine ⟨o, by omega, h3, h4, fun i h h' => ?_, ?_⟩
      · by_cases e : i = n
        · rw [e]; exact h1
        · exact h5 i (by omega) h'
      · simp only [gf_Order.l0]
        rw [if_neg (by omega), gf_mul k _ a (gp_lt a ha n) ha (by omega)]
        simp only [bnd]
        rw [show wrap64 ((n : Int) + 1) = ((n + 1 : Nat) : Int) by rw [wrap64_in _ (by omega) (by omega)]; omega]
        exact h6

theorem gf_order (k a : Nat) (ha : a < 256) (h0 : a ≠ 0) (hk : 300 ≤ k) :
    ∃ o, 1 ≤ o ∧ o ≤ 255 ∧ gp a o = 1 ∧ (∀ i, 1 ≤ i → i < o → gp a i ≠ 1) ∧ gf_Order.f k a = some ((o : Nat) : Int) := by
  obtain ⟨o, h1, h2, h3, h4, h5⟩ := order_loop 254 k a 1 ha h0 (by omega) (by omega)
  refine ⟨o, h1, h2, h3, h4, ?_⟩
  unfold gf_Order.f
  rw [if_neg (by omega)]
  rw [gp_one a ha] at h5
  exact h5

theorem ref_inv_loop (d : Nat) : ∀ (k a b : Nat), a < 256 → a ≠ 0 → b + d = ginv a → 1 ≤ b → 80 + d ≤ k → coldframeref02_Inv.l0 k a b = some ((ginv a : Nat) : Int) := by
  induction d with
  | zero =>
    intro k a b ha h0 hd hb hk
    obtain ⟨k, rfl⟩ : ∃ m, k = m + 1 := ⟨k - 1, by omega⟩
    have hl := ginv_lt a ha
    obtain rfl : b = ginv a := by omega
    simp only [coldframeref02_Inv.l0]
    rw [if_pos (by omega), show ((ginv a : Nat) : Int) % 256 = ((ginv a : Nat) : Int) by omega, ref_mul k a _ ha hl (by omega)]
    simp only [bnd]
    rw [gm_inv a ha h0, if_pos (by omega)]
  | succ d ih =>
    intro k a b ha h0 hd hb hk
    obtain ⟨k, rfl⟩ : ∃ m, k = m + 1 := ⟨k - 1, by omega⟩
    have hl := ginv_lt a ha
    simp only [coldframeref02_Inv.l0]
    rw [if_pos (by omega), show (b : Int) % 256 = (b : Int) by omega, ref_mul k a b ha (by omega) (by omega)]
    simp only [bnd]
    rw [if_neg (by
      intro e
      have := inv_unique a b ha (by omega) (by omega)
      omega), show wrap64 ((b : Int) + 1) = ((b + 1 : Nat) : Int) by rw [wrap64_in _ (by omega) (by omega)]; omega]
    exact ih k a (b + 1) ha h0 (by omega) (by omega) (by omega)

theorem ginv_ne (a : Nat) (ha : a < 256) (h0 : a ≠ 0) : 1 ≤ ginv a := by
  have := gm_inv a ha h0
  by_cases e : ginv a = 0
  · rw [e, gm_zero_right] at this; omega
  · omega
theorem ref_inv (k a : Nat) (ha : a < 256) (h0 : a ≠ 0) (hk : 400 ≤ k) : coldframeref02_Inv.f k a = some ((ginv a : Nat) : Int) := by
  have h1 := ginv_ne a ha h0
  have h2 := ginv_lt a ha
  exact ref_inv_loop (ginv a - 1) k a 1 ha h0 (by omega) (by omega) (by omega)

theorem awake_is (k : Nat) (hk : 9 ≤ k) : coldframelaw02_awake.f k = some true := by
  unfold coldframelaw02_awake.f
  rw [show (2 : Int) = ((2 : Nat) : Int) from rfl, show (128 : Int) = ((128 : Nat) : Int) from rfl, gf_mul k 2 128 (by decide) (by decide) hk]
  simp only [bnd]
  decide +kernel

theorem last_loop (d : Nat) : ∀ (k a o i : Nat), a < 256 → o ≤ 255 → 1 ≤ i → i + d = o → (∀ i, 1 ≤ i → i < o → gp a i ≠ 1) → 400 + d ≤ k → coldframelaw02_GfPowers.l0 k a o i = some true := by
  induction d with
  | zero =>
    intro k a o i ha ho hi hd hm hk
    obtain ⟨k, rfl⟩ : ∃ m, k = m + 1 := ⟨k - 1, by omega⟩
    simp only [coldframelaw02_GfPowers.l0]
    rw [if_neg (by omega), awake_is k (by omega)]
    rfl
  | succ d ih =>
    intro k a o i ha ho hi hd hm hk
    obtain ⟨k, rfl⟩ : ∃ m, k = m + 1 := ⟨k - 1, by omega⟩
    simp only [coldframelaw02_GfPowers.l0]
    have hne := hm i hi (by omega)
    rw [if_pos (by omega), if_neg (by omega), show wrap64 ((i : Int) + 1) = ((i + 1 : Nat) : Int) by rw [wrap64_in _ (by omega) (by omega)]; omega,
      ih k a o (i + 1) ha ho (by omega) (by omega) hm (by omega), ref_pow k a i ha (by omega) (by omega)]
    simp only [bnd]
    rw [if_neg (show ¬ ((gp a i : Nat) : Int) = 1 by omega)]
    split <;> rfl

theorem zero_loop (k a : Nat) (hk : 400 ≤ k) : coldframelaw02_GfPowers.l0 k a 0 1 = some true := by
  obtain ⟨k, rfl⟩ : ∃ m, k = m + 1 := ⟨k - 1, by omega⟩
  simp only [coldframelaw02_GfPowers.l0]
  rw [if_neg (by omega), awake_is k (by omega)]
  rfl

theorem j1_is (k a : Nat) (n : Int) (m : Nat) (ha : a < 256) (hm : m < 1000) (hk : 2000 ≤ k) (hp : gf_Pow.f (k - 1) a n = some ((gp a m : Nat) : Int)) : coldframelaw02_GfPowers.j1 k a n m = some true := by
  obtain ⟨k, rfl⟩ : ∃ m, k = m + 1 := ⟨k - 1, by omega⟩
  simp only [coldframelaw02_GfPowers.j1]
  rw [show k + 1 - 1 = k from rfl] at hp
  rw [hp, ref_pow k a m ha hm (by omega)]
  simp only [bnd]
  rw [if_pos trivial]
  obtain ⟨k, rfl⟩ : ∃ m, k = m + 1 := ⟨k - 1, by omega⟩
  by_cases h0 : a = 0
  · subst h0
    have : gf_Order.f (k + 1) (0 : Nat) = some 0 := by unfold gf_Order.f; rw [if_pos (by omega)]
    rw [this]
    simp only [bnd]
    rw [if_pos (by omega)]
    simp only [coldframelaw02_GfPowers.j2]
    rw [if_neg (by decide)]
    exact zero_loop k 0 (by omega)
  · obtain ⟨o, h1, h2, h3, h4, h5⟩ := gf_order (k + 1) a ha h0 (by omega)
    rw [h5]
    simp only [bnd]
    rw [if_neg (by omega), if_neg (by omega), if_neg (by omega), ref_pow (k + 1) a o ha (by omega) (by omega), h3]
    simp only [bnd, coldframelaw02_GfPowers.j2]
    rw [if_neg (by decide)]
    exact last_loop (o - 1) k a o 1 ha h2 (by omega) (by omega) h4 (by omega)

theorem mx_is (a b : Int) : mx a b = if a ≤ b then b else a := by
  unfold mx; split <;> split <;> omega

theorem j0_is (k a : Nat) (n : Int) (ha : a < 256) (h1 : -9223372036854775808 ≤ n) (h2 : n < 9223372036854775808) (hk : 3000 ≤ k) : coldframelaw02_GfPowers.j0 k a n = some true := by
  obtain ⟨k, rfl⟩ : ∃ m, k = m + 1 := ⟨k - 1, by omega⟩
  simp only [coldframelaw02_GfPowers.j0]
  rw [mx_is]
  by_cases h : n ≤ 0
  · rw [if_pos h, if_neg (by omega)]
    exact j1_is k a n 0 ha (by omega) (by omega) (gf_pow_neg _ a n h (by omega))
  · obtain ⟨m, rfl⟩ : ∃ m : Nat, n = m := ⟨n.toNat, by omega⟩
    rw [if_neg h, if_pos (by omega)]
    have e : wrap64 (Int.tmod (wrap64 ((m : Int) - 1)) 255 + 1) = (((m - 1) % 255 + 1 : Nat) : Int) := by
      rw [wrap64_in ((m : Int) - 1) (by omega) (by omega), Int.tmod_eq_emod_of_nonneg (by omega), wrap64_in _ (by omega) (by omega)]
      omega
    rw [e]
    refine j1_is k a m _ ha (by omega) (by omega) ?_
    rw [gf_pow _ a m ha (by omega) (by omega), ← gp_mod a ha m (by omega)]

theorem GfPowers : coldframelaw02_GfPowers.Pure := by
  intro a b n wa wb wn
  obtain ⟨a, ha, rfl⟩ := wf_u8 wa
  obtain ⟨b, hb, rfl⟩ := wf_u8 wb
  have hn : -9223372036854775808 ≤ n ∧ n < 9223372036854775808 := by
    simp [Lit.wf, IntKind.min, IntKind.max, IntKind.signed, IntKind.bits] at wn
    omega
  refine ⟨4000, ?_⟩
  unfold coldframelaw02_GfPowers.f gf_Div.f
  by_cases h0 : a = 0
  · subst h0
    have hi : gf_Inv.f 4000 (0 : Nat) = some (0, 1) := by unfold gf_Inv.f; rw [if_pos (by omega)]
    have ho : gf_Order.f 4000 (0 : Nat) = some 0 := by unfold gf_Order.f; rw [if_pos (by omega)]
    rw [hi]
    simp only [bnd]
    rw [if_neg (by omega)]
    simp only [bnd]
    rw [if_pos (by omega), if_pos trivial, if_pos trivial, if_pos trivial, if_pos trivial, ho]
    simp only [bnd]
    rw [if_pos trivial]
    exact j0_is 4000 0 n (by omega) hn.1 hn.2 (by omega)
  · have hl := ginv_lt a ha
    rw [gf_inv 4000 a ha h0 (by omega)]
    simp only [bnd]
    rw [if_pos trivial, gf_mul 4000 b _ hb hl (by omega)]
    simp only [bnd]
    rw [if_neg (by omega), ref_inv 4000 a ha h0 (by omega)]
    simp only [bnd]
    rw [if_pos trivial, ref_mul 4000 b _ hb hl (by omega)]
    simp only [bnd]
    rw [if_pos trivial, if_pos trivial, if_pos trivial]
    exact j0_is 4000 a n ha hn.1 hn.2 (by omega)
end Go.Proofs.Ytpdigmgfpekocaa.Pure
