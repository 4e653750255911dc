/- Powers in the field of 256 elements. -/
import Derived.Test.YtelgefkfflgbeaaGf
namespace Go.Proofs.Ytelgefkfflgbeaa.Gf

/-- The power of an element. -/
def gp (a : Nat) : Nat → Nat
  | 0 => 1
  | n + 1 => gm (gp a n) a

theorem gp_lt (a : Nat) (ha : a < 256) : ∀ n, gp a n < 256
  | 0 => by simp [gp]
  | n + 1 => gm_lt _ _ (gp_lt a ha n)
theorem gm_one_left (a : Nat) (ha : a < 256) : gm 1 a = a := by rw [gm_comm 1 a (by decide) ha, gm_one]
theorem gp_one (a : Nat) (ha : a < 256) : gp a 1 = a := by simp [gp, gm_one_left a ha]
theorem gp_add (a : Nat) (ha : a < 256) (m : Nat) : ∀ n, gp a (m + n) = gm (gp a m) (gp a n)
  | 0 => by simp [gp, gm_one]
  | n + 1 => by rw [← Nat.add_assoc, gp, gp, gp_add a ha m n, gm_assoc _ _ _ (gp_lt a ha m) (gp_lt a ha n) ha]
theorem gp_dbl (a : Nat) (ha : a < 256) (n : Nat) : gm (gp a n) (gp a n) = gp a (2 * n) := by rw [Nat.two_mul, gp_add a ha]
theorem gp_succ (a n : Nat) : gm (gp a n) a = gp a (n + 1) := rfl
theorem gp_sq (a : Nat) (ha : a < 256) : ∀ n, gp (gm a a) n = gp a (2 * n)
  | 0 => rfl
  | n + 1 => by
    have h2 : gm a a = gp a 2 := by simp [gp, gm_one_left a ha]
    rw [gp, gp_sq a ha n, h2, ← gp_add a ha]; rfl

theorem ginv_gp (a : Nat) (ha : a < 256) : ginv a = gp a 254 := by
  have h2 : gm a a = gp a 2 := by simp [gp, gm_one_left a ha]
  unfold ginv
  simp only [h2, gp_succ, gp_dbl a ha]
theorem gp_255 (a : Nat) (ha : a < 256) (h0 : a ≠ 0) : gp a 255 = 1 := by
  have := gm_inv a ha h0
  rw [ginv_gp a ha, gm_comm _ _ ha (gp_lt a ha _)] at this
  exact this
theorem gp_256 (a : Nat) (ha : a < 256) : gp a 256 = a := by
  by_cases h0 : a = 0
  · subst h0
    rw [show 256 = 255 + 1 from rfl, gp, gm_zero_right]
  · rw [show 256 = 255 + 1 from rfl, gp, gp_255 a ha h0, gm_one_left a ha]
theorem gp_more (a : Nat) (ha : a < 256) (r : Nat) : ∀ q, gp a (255 * q + r + 1) = gp a (r + 1)
  | 0 => by rw [Nat.mul_zero, Nat.zero_add]
  | q + 1 => by
    rw [show 255 * (q + 1) + r + 1 = (255 * q + r) + 256 by omega, gp_add a ha, gp_256 a ha, gp_succ]
    exact gp_more a ha r q
theorem gp_mod (a : Nat) (ha : a < 256) (n : Nat) (h : 0 < n) : gp a n = gp a ((n - 1) % 255 + 1) := by
  have := gp_more a ha ((n - 1) % 255) ((n - 1) / 255)
  rw [← this]
  congr 1
  omega
theorem gm_cancel (a b c : Nat) (ha : a < 256) (h0 : a ≠ 0) (hb : b < 256) (hc : c < 256) (h : gm a b = gm a c) : b = c := by
  have hi := ginv_lt a ha
  have e := gm_inv a ha h0
  have hb' : gm (ginv a) (gm a b) = b := by rw [← gm_assoc _ _ _ hi ha hb, gm_comm _ _ hi ha, e, gm_one_left b hb]
  have hc' : gm (ginv a) (gm a c) = c := by rw [← gm_assoc _ _ _ hi ha hc, gm_comm _ _ hi ha, e, gm_one_left c hc]
  rw [← hb', h, hc']
theorem inv_unique (a b : Nat) (ha : a < 256) (hb : b < 256) (h : gm a b = 1) : b = ginv a := by
  have h0 : a ≠ 0 := by intro e; rw [e, gm_zero_left] at h; exact absurd h (by decide)
  exact gm_cancel a b (ginv a) ha h0 hb (ginv_lt a ha) (by rw [h, gm_inv a ha h0])
end Go.Proofs.Ytelgefkfflgbeaa.Gf
