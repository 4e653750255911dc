/- The printed Twice, power and Points of the document are the plain ones. -/
import Derived.Test.YtjoblpkfpfclpaaBRowsGfRefPow
import Derived.Test.YtjoblpkfpfclpaaVPts
import Derived.Test.YtjoblpkfpfclpaaPRowsx2
namespace Go.Proofs.Ytjoblpkfpfclpaa.BRows
open Go Go.RowKit Go.Proofs.Ytjoblpkfpfclpaa.PRows Go.Proofs.Ytjoblpkfpfclpaa.Gf Go.Proofs.Ytjoblpkfpfclpaa.Bits Go.Proofs.Ytjoblpkfpfclpaa.VPts Go.Proofs.YtjoblpkfpfclpaaW.PrintWords Go.Proofs.YtjoblpkfpfclpaaW.PrintLast

theorem inc64 (i : Nat) (h : i < 1000000) : wrap64 ((i : Int) + 1) = ((i + 1 : Nat) : Int) := by rw [wrap64_in _ (by omega) (by omega)]; omega
theorem twice_pass (d : Nat) : ∀ (m : Nat) (xs : List Int) (i j : Nat), j + d = i → i < xs.length → xs.length ≤ 1000 → (∀ q, j ≤ q → q < i → rd xs (i : Int) ≠ rd xs (q : Int)) →
    coldframeref05_Twice.l1 (d + 1 + m) xs i j = coldframeref05_Twice.l0 m xs ((i + 1 : Nat) : Int) := by
  induction d with
  | zero =>
    intro m xs i j hd hi hl hn
    rw [show 0 + 1 + m = m + 1 by omega]
    simp only [coldframeref05_Twice.l1]
    rw [if_neg (by omega), inc64 i (by omega)]
  | succ d ih =>
    intro m xs i j hd hi hl hn
    rw [show d + 1 + 1 + m = (d + 1 + m) + 1 by omega]
    simp only [coldframeref05_Twice.l1]
    rw [if_pos (by omega), if_pos (by omega), if_pos (by omega), if_pos (by omega), if_pos (by omega), if_neg (hn j (Nat.le_refl _) (by omega)), inc64 j (by omega)]
    exact ih m xs i (j + 1) (by omega) hi hl (fun q h1 h2 => hn q (by omega) h2)
theorem twice_hit (d : Nat) : ∀ (m : Nat) (xs : List Int) (i j : Nat), j + d = i → i < xs.length → xs.length ≤ 1000 → (∃ q, j ≤ q ∧ q < i ∧ rd xs (i : Int) = rd xs (q : Int)) →
    coldframeref05_Twice.l1 (d + 1 + m) xs i j = some true := by
  induction d with
  | zero =>
    intro m xs i j hd hi hl ⟨q, h1, h2, _⟩
    omega
  | succ d ih =>
    intro m xs i j hd hi hl ⟨q, h1, h2, h3⟩
    rw [show d + 1 + 1 + m = (d + 1 + m) + 1 by omega]
    simp only [coldframeref05_Twice.l1]
    rw [if_pos (by omega), if_pos (by omega), if_pos (by omega), if_pos (by omega), if_pos (by omega)]
    by_cases h : rd xs (i : Int) = rd xs (j : Int)
    · rw [if_pos h]
    · rw [if_neg h, inc64 j (by omega)]
      exact ih m xs i (j + 1) (by omega) hi hl ⟨q, by rcases Nat.lt_or_ge j q with h4 | h4; exact h4; exact absurd (by rw [h3, show q = j by omega]) h, h2, h3⟩
/-- A row that holds no element twice up to i, and b behind it. -/
theorem twice_from (b : Bool) (xs : List Int) (hl : xs.length ≤ 290) (n : Nat) (hn : n ≤ xs.length) (h0 : ∀ i, i < n → ∀ q, q < i → rd xs (i : Int) ≠ rd xs (q : Int))
    (hb : ∀ k, 600 ≤ k → coldframeref05_Twice.l0 k xs (n : Int) = some b) (d : Nat) : ∀ (k i : Nat), i + d = n → 600 + 300 * d ≤ k → coldframeref05_Twice.l0 k xs (i : Int) = some b := by
  induction d with
  | zero => intro k i hd hk; obtain rfl : i = n := by omega
            exact hb k (by omega)
  | succ d ih =>
    intro k i hd hk
    obtain ⟨k, rfl⟩ : ∃ m, k = m + 1 := ⟨k - 1, by omega⟩
    simp only [coldframeref05_Twice.l0]
    rw [if_pos (by omega)]
    have := twice_pass i (k - i - 1) xs i 0 (by omega) (by omega) (by omega) (fun q _ h2 => h0 i (by omega) q h2)
    rw [show i + 1 + (k - i - 1) = k by omega] at this
    have h3 := ih (k - i - 1) (i + 1) (by omega) (by omega)
    rw [← h3]
    exact this
theorem twice_no (xs : List Int) (hl : xs.length ≤ 290) (h0 : ∀ i, i < xs.length → ∀ q, q < i → rd xs (i : Int) ≠ rd xs (q : Int)) (k : Nat) (hk : 90000 ≤ k) : coldframeref05_Twice.f k xs = some false := by
  unfold coldframeref05_Twice.f
  have := twice_from false xs hl xs.length (Nat.le_refl _) h0 (fun k hk => by
    obtain ⟨k, rfl⟩ : ∃ m, k = m + 1 := ⟨k - 1, by omega⟩
    simp only [coldframeref05_Twice.l0]
    rw [if_neg (by omega)]) xs.length k 0 (by omega) (by omega)
  exact this
theorem twice_yes (xs : List Int) (hl : xs.length ≤ 290) (n : Nat) (hn : n < xs.length) (h0 : ∀ i, i < n → ∀ q, q < i → rd xs (i : Int) ≠ rd xs (q : Int)) (h1 : ∃ q, q < n ∧ rd xs (n : Int) = rd xs (q : Int)) (k : Nat) (hk : 90000 ≤ k) :
    coldframeref05_Twice.f k xs = some true := by
  unfold coldframeref05_Twice.f
  have := twice_from true xs hl n (by omega) h0 (fun k hk => by
    obtain ⟨k, rfl⟩ : ∃ m, k = m + 1 := ⟨k - 1, by omega⟩
    simp only [coldframeref05_Twice.l0]
    rw [if_pos (by omega)]
    obtain ⟨q, h2, h3⟩ := h1
    have := twice_hit n (k - n - 1) xs n 0 (by omega) hn (by omega) ⟨q, by omega, h2, h3⟩
    rw [show n + 1 + (k - n - 1) = k by omega] at this
    exact this) n k 0 (by omega) (by omega)
  exact this
theorem rd_in (xs : List Int) (i : Nat) (h : i < xs.length) : rd xs (i : Int) = xs[i] := by unfold rd; simp [h]
theorem twice_new (p : List Int) (y : Int) (hp : p.Nodup) (hl : p.length ≤ 280) (k : Nat) (hk : 90000 ≤ k) : coldframeref05_Twice.f k (p ++ [y]) = some (decide (y ∈ p)) := by
  have hlen : (p ++ [y]).length = p.length + 1 := by simp
  have h0 : ∀ i, i < p.length → ∀ q, q < i → rd (p ++ [y]) (i : Int) ≠ rd (p ++ [y]) (q : Int) := by
    intro i hi q hq
    rw [rd_in _ i (by omega), rd_in _ q (by omega), List.getElem_append_left hi, List.getElem_append_left (by omega)]
    intro e
    have := (List.getElem_inj hp).mp e
    omega
  by_cases hy : y ∈ p
  · rw [twice_yes (p ++ [y]) (by omega) p.length (by omega) h0 ?_ k hk]
    · simp [hy]
    · obtain ⟨q, hq, e⟩ := List.getElem_of_mem hy
      refine ⟨q, hq, ?_⟩
      rw [rd_in _ p.length (by omega), rd_in _ q (by omega), List.getElem_append_left hq, e]
      simp
  · rw [twice_no (p ++ [y]) (by omega) ?_ k hk]
    · simp [hy]
    · intro i hi q hq
      by_cases h : i < p.length
      · exact h0 i h q hq
      · obtain rfl : i = p.length := by omega
        rw [rd_in _ p.length (by omega), rd_in _ q (by omega), List.getElem_append_left hq]
        simp
        intro e
        exact hy (by rw [e]; exact List.getElem_mem hq)
theorem ref5_power (k a n : Nat) (ha : a < 256) (h1 : 0 < n) (hn : n < 9223372036854775808) (hk : 400 ≤ k) : coldframeref05_power.f k a n = some ((gp a n : Nat) : Int) := by
  unfold coldframeref05_power.f
  by_cases h : a = 0
  · subst h
    rw [if_pos (by rfl), gp_zero n h1]; rfl
  · rw [if_neg (by omega), Int.tmod_eq_emod_of_nonneg (by omega), show ((n : Int) % 255) = ((n % 255 : Nat) : Int) by omega, ref_pow k a (n % 255) ha (by omega) (by omega)]
    simp only [bnd]
    rw [gp_255n a n ha h h1]
theorem ref_points_loop (n e : Nat) (hn1 : n ≤ 256) (he : 0 < e) (he2 : e < 9223372036854775808) (d : Nat) : ∀ (K k : Nat), k + d = 256 → (firsts (fun x => gp x e) k).length ≤ n → 100000 + 2 * d ≤ K →
    ∃ q, Stop (fun x => gp x e) n q ∧ coldframeref05_Points.l0 K n e (firsts (fun x => gp x e) k) (pws (fun x => gp x e) k) k = some (if (firsts (fun x => gp x e) q).length < n then [] else firsts (fun x => gp x e) q) := by
  induction d with
  | zero =>
    intro K k hd hk hK
    obtain ⟨K, rfl⟩ : ∃ m, K = m + 1 + 1 := ⟨K - 2, by omega⟩
    refine ⟨k, ⟨by omega, hk, .inl (by omega)⟩, ?_⟩
    simp only [coldframeref05_Points.l0, coldframeref05_Points.j1]
    rw [if_neg (by omega), if_neg (by decide)]
    by_cases h : (firsts (fun x => gp x e) k).length < n
    · rw [if_pos (by omega), if_pos h]
    · rw [if_neg (by omega), if_neg h]
  | succ d ih =>
    intro K k hd hk hK
    obtain ⟨K, rfl⟩ : ∃ m, K = m + 1 + 1 := ⟨K - 2, by omega⟩
    simp only [coldframeref05_Points.l0, coldframeref05_Points.j1]
    rw [if_pos (by omega)]
    by_cases h : (firsts (fun x => gp x e) k).length < n
    · rw [if_pos (by simp; omega), show ((k : Int)) % 256 = (k : Int) by omega, ref5_power K k e (by omega) he he2 (by omega)]
      have hle := len_le (fun x => gp x e) k
      have hsm := len_same (fun x => gp x e) k
      simp only [bnd, List.nil_append]
      rw [if_pos (by simp; omega), if_pos (by omega), twice_new _ _ (pws_nodup _ k) (by omega) K (by omega)]
      simp only [bnd]
      have hm := mem_pws (fun x => gp x e) k (gp k e)
      by_cases hh : hit (fun x => gp x e) k (gp k e) = true
      · have ef : firsts (fun x => gp x e) (k + 1) = firsts (fun x => gp x e) k := by rw [firsts_succ, if_pos hh]
        have ep : pws (fun x => gp x e) (k + 1) = pws (fun x => gp x e) k := by rw [pws_succ, if_pos hh]
        rw [if_pos (by simp [hm, hh]), inc64 k (by omega)]
        have := ih K (k + 1) (by omega) (by rw [ef]; exact hk) (by omega)
        rw [ef, ep] at this
        exact this
      · have ef : firsts (fun x => gp x e) (k + 1) = firsts (fun x => gp x e) k ++ [(k : Int)] := by rw [firsts_succ, if_neg hh]
        have ep : pws (fun x => gp x e) (k + 1) = pws (fun x => gp x e) k ++ [((gp k e : Nat) : Int)] := by rw [pws_succ, if_neg hh]
        rw [if_neg (by simp [hm, hh]), if_pos (by omega), if_pos (by omega), inc64 k (by omega)]
        have := ih K (k + 1) (by omega) (by rw [ef]; simp; omega) (by omega)
        rw [ef, ep] at this
        exact this
    · rw [if_neg (by simp; omega)]
      refine ⟨k, ⟨by omega, hk, .inr (by omega)⟩, ?_⟩
      rw [if_neg (by omega), if_neg h]
theorem ref_points (n e : Nat) (hn1 : n ≤ 256) (he : 0 < e) (he2 : e < 9223372036854775808) :
    ∃ q, Stop (fun x => gp x e) n q ∧ coldframeref05_Points.f 200000 n e = some (if (firsts (fun x => gp x e) q).length < n then [] else firsts (fun x => gp x e) q) := by
  unfold coldframeref05_Points.f
  exact ref_points_loop n e hn1 he he2 256 200000 0 (by omega) (by simp [firsts]) (by omega)
end Go.Proofs.Ytjoblpkfpfclpaa.BRows
