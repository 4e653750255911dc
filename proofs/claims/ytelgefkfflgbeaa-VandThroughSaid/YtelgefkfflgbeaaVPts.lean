/- The first elements whose powers are unlike. -/
import Derived.Test.YtelgefkfflgbeaaGfPow
namespace Go.Proofs.Ytelgefkfflgbeaa.VPts
open Go Go.Proofs.Ytelgefkfflgbeaa.Gf

/-- Was y one of the first k? -/
def hit (f : Nat → Nat) : Nat → Nat → Bool
  | 0, _ => false
  | k + 1, y => hit f k y || f k == y
def firsts (f : Nat → Nat) : Nat → List Int
  | 0 => []
  | k + 1 => if hit f k (f k) then firsts f k else firsts f k ++ [(k : Int)]
def pws (f : Nat → Nat) : Nat → List Int
  | 0 => []
  | k + 1 => if hit f k (f k) then pws f k else pws f k ++ [(f k : Int)]
theorem pws_succ (f : Nat → Nat) (k : Nat) : pws f (k + 1) = if hit f k (f k) then pws f k else pws f k ++ [(f k : Int)] := rfl
theorem firsts_succ (f : Nat → Nat) (k : Nat) : firsts f (k + 1) = if hit f k (f k) then firsts f k else firsts f k ++ [(k : Int)] := rfl
theorem hit_succ (f : Nat → Nat) (k y : Nat) : hit f (k + 1) y = (hit f k y || f k == y) := rfl
theorem mem_pws (f : Nat → Nat) (k y : Nat) : ((y : Int) ∈ pws f k) ↔ hit f k y = true := by
  induction k with
  | zero => simp [pws, hit]
  | succ k ih =>
    rw [pws_succ, hit_succ]
    by_cases h : hit f k (f k) = true
    · rw [if_pos h, ih]
      constructor
      · intro h2; simp [h2]
      · intro h2
        rcases (Bool.or_eq_true _ _).mp h2 with h3 | h3
        · exact h3
        · rw [beq_iff_eq] at h3; rw [← h3]; exact h
    · rw [if_neg h, List.mem_append, ih]
      simp
      constructor
      · rintro (h2 | h2)
        · exact .inl h2
        · exact .inr (by omega)
      · rintro (h2 | h2)
        · exact .inl h2
        · exact .inr (by omega)
theorem len_same (f : Nat → Nat) (k : Nat) : (pws f k).length = (firsts f k).length := by
  induction k with
  | zero => rfl
  | succ k ih => rw [pws_succ, firsts_succ]; by_cases h : hit f k (f k) = true <;> simp [h, ih]
theorem len_le (f : Nat → Nat) (k : Nat) : (firsts f k).length ≤ k := by
  induction k with
  | zero => simp [firsts]
  | succ k ih => rw [firsts_succ]; by_cases h : hit f k (f k) = true <;> simp [h] <;> omega
theorem pws_nodup (f : Nat → Nat) (k : Nat) : (pws f k).Nodup := by
  induction k with
  | zero => simp [pws]
  | succ k ih =>
    rw [pws_succ]
    by_cases h : hit f k (f k) = true
    · rw [if_pos h]; exact ih
    · rw [if_neg h, List.nodup_append]
      refine ⟨ih, by simp, ?_⟩
      intro a ha b hb
      simp at hb
      subst hb
      intro e
      subst e
      exact h ((mem_pws f k _).mp ha)
theorem pre (f : Nat → Nat) (k d : Nat) : firsts f k <+: firsts f (k + d) := by
  induction d with
  | zero => exact List.prefix_refl _
  | succ d ih =>
    rw [← Nat.add_assoc]
    rw [firsts_succ]
    by_cases h : hit f (k + d) (f (k + d)) = true
    · rw [if_pos h]; exact ih
    · rw [if_neg h]; exact ih.trans (List.prefix_append _ _)
/-- Where it stops: at 256, or as soon as there are n. -/
def Stop (f : Nat → Nat) (n k : Nat) : Prop := k ≤ 256 ∧ (firsts f k).length ≤ n ∧ (k = 256 ∨ (firsts f k).length = n)
theorem stop_one (f : Nat → Nat) (n k k' : Nat) (h : Stop f n k) (h' : Stop f n k') : firsts f k = firsts f k' := by
  have key : ∀ a b, Stop f n a → Stop f n b → a ≤ b → firsts f a = firsts f b := by
    intro a b ha hb hab
    obtain ⟨d, rfl⟩ : ∃ d, b = a + d := ⟨b - a, by omega⟩
    rcases ha.2.2 with h1 | h1
    · have : d = 0 := by have := hb.1; omega
      subst this; rfl
    · have hp := pre f a d
      exact hp.eq_of_length_le (by rw [h1]; exact hb.2.1)
  rcases Nat.le_total k k' with h1 | h1
  · exact key _ _ h h' h1
  · exact (key _ _ h' h h1).symm
theorem firsts_bytes (f : Nat → Nat) (k : Nat) (hk : k ≤ 256) : ∀ x ∈ firsts f k, 0 ≤ x ∧ x < 256 := by
  induction k with
  | zero => intro x hx; cases hx
  | succ k ih =>
    intro x hx
    rw [firsts_succ] at hx
    by_cases h : hit f k (f k) = true
    · rw [if_pos h] at hx; exact ih (by omega) x hx
    · rw [if_neg h, List.mem_append] at hx
      rcases hx with hx | hx
      · exact ih (by omega) x hx
      · simp at hx; omega
theorem gp_zero (n : Nat) (h : 0 < n) : gp 0 n = 0 := by
  obtain ⟨m, rfl⟩ : ∃ m, n = m + 1 := ⟨n - 1, by omega⟩
  show gm (gp 0 m) 0 = 0
  exact gm_zero_right _
theorem gp_255n (a n : Nat) (ha : a < 256) (h0 : a ≠ 0) (hn : 0 < n) : gp a (n % 255) = gp a n := by
  rw [gp_mod a ha n hn]
  rcases Nat.eq_zero_or_pos (n % 255) with h | h
  · rw [h, show (n - 1) % 255 + 1 = 255 by omega, gp_255 a ha h0]; rfl
  · congr 1; omega
end Go.Proofs.Ytelgefkfflgbeaa.VPts
