/- Steps: the document's times, plus and Inv, as printed. -/
import Derived.Test.YtelgefkfflgbeaaPVandThroughx4
import Derived.Test.YtelgefkfflgbeaaPVandThroughx5
import Derived.Test.YtelgefkfflgbeaaGi
import Derived.Test.YtelgefkfflgbeaaRows1
import Derived.Test.YtelgefkfflgbeaaBVandThroughGfRefMul
namespace Go.Proofs.Ytelgefkfflgbeaa.Sol
open Go Go.RowKit Go.Proofs.Ytelgefkfflgbeaa.PVandThrough Go.Proofs.Ytelgefkfflgbeaa.BVandThrough Go.Proofs.Ytelgefkfflgbeaa.Gf Go.Proofs.Ytelgefkfflgbeaa.Gi Go.Proofs.Ytelgefkfflgbeaa.Bits Go.Proofs.Ytelgefkfflgbeaa.Rws Go.Proofs.YtelgefkfflgbeaaW.PrintWords Go.Proofs.YtelgefkfflgbeaaW.PrintLast
set_option linter.unusedVariables false

/-- The first i by f, the others nought. -/
def upto (m : Nat) (f : Nat → Int) (i : Nat) : List Int := line m (fun j => if j < i then f j else 0)
theorem upto_zero (m : Nat) (f : Nat → Int) : upto m f 0 = List.replicate m 0 := by
  rw [← line_zero]; exact line_congr m _ _ (fun j _ => by rw [if_neg (Nat.not_lt_zero j)])
theorem upto_full (m : Nat) (f : Nat → Int) : upto m f m = line m f := line_congr m _ _ (fun j hj => by rw [if_pos hj])
theorem upto_len (m : Nat) (f : Nat → Int) (i : Nat) : (upto m f i).length = m := line_len _ _
theorem upto_set (m : Nat) (f : Nat → Int) (i : Nat) (hi : i < m) : (upto m f i).set i (f i) = upto m f (i + 1) := by
  unfold upto
  rw [line_set m _ i hi]
  refine line_congr m _ _ (fun k hk => ?_)
  by_cases e : k = i
  · subst e; rw [if_pos rfl, if_pos (by omega)]
  · rw [if_neg e]
    by_cases h : k < i
    · rw [if_pos h, if_pos (by omega)]
    · rw [if_neg h, if_neg (by omega)]
theorem rd_line (m : Nat) (f : Nat → Int) (i : Nat) (hi : i < m) : rd (line m f) (i : Int) = f i := by
  have h := line_get m f i hi
  simpa [rd, List.getD_eq_getElem?_getD] using h
theorem inc (i : Nat) (h : i < 1000000) : wrap64 ((i : Int) + 1) = ((i + 1 : Nat) : Int) := by rw [wrap64_in _ (by omega) (by omega)]; omega
theorem mulI (k : Nat) (a b : Int) (ha : Byt a) (hb : Byt b) (hk : 68 ≤ k) : coldframeref02_Mul.f k a b = some (gmI a b) := by
  obtain ⟨x, hx, rfl⟩ := byt_nat ha
  obtain ⟨y, hy, rfl⟩ := byt_nat hb
  rw [ref_mul k x y hx hy hk]; simp [gmI]
theorem times_loop (m : Nat) (hm : m ≤ 1000) (f : Nat → Int) (x : Int) (hf : ∀ i, Byt (f i)) (hx : Byt x) (d : Nat) : ∀ (k i : Nat), i + d = m → 100 + d ≤ k → coldframeref04_times.l0 k (line m f) x (upto m (fun i => gmI (f i) x) i) (i : Int) = some (line m (fun i => gmI (f i) x)) := by
  induction d with
  | zero =>
    intro k i hi hk
    obtain ⟨k, rfl⟩ : ∃ q, k = q + 1 := ⟨k - 1, by omega⟩
    obtain rfl : i = m := by omega
    simp only [coldframeref04_times.l0]
    rw [line_len, if_neg (by omega), upto_full]
  | succ d ih =>
    intro k i hi hk
    obtain ⟨k, rfl⟩ : ∃ q, k = q + 1 := ⟨k - 1, by omega⟩
    simp only [coldframeref04_times.l0]
    rw [line_len, if_pos (by omega), if_pos (by omega), rd_line m f i (by omega), mulI k _ _ (hf i) hx (by omega), Option.bind_some, upto_len, if_pos (by omega), Int.toNat_natCast, upto_set m (fun i => gmI (f i) x) i (by omega), inc i (by omega)]
    exact ih k (i + 1) (by omega) (by omega)
theorem times_f (m : Nat) (hm : m ≤ 1000) (f : Nat → Int) (x : Int) (hf : ∀ i, Byt (f i)) (hx : Byt x) : coldframeref04_times.f 2000 (line m f) x = some (line m (fun i => gmI (f i) x)) := by
  unfold coldframeref04_times.f
  rw [line_len, if_pos (by omega), if_pos (by omega), Int.toNat_natCast, ← upto_zero m (fun i => gmI (f i) x)]
  exact times_loop m hm f x hf hx m 2000 0 (by omega) (by omega)
theorem plus_loop (m : Nat) (hm : m ≤ 1000) (f g : Nat → Int) (hf : ∀ i, Byt (f i)) (hg : ∀ i, Byt (g i)) (d : Nat) : ∀ (k i : Nat), i + d = m → 100 + d ≤ k → coldframeref04_plus.l0 k (line m f) (line m g) (upto m (fun i => xorI (f i) (g i)) i) (i : Int) = some (line m (fun i => xorI (f i) (g i))) := by
  induction d with
  | zero =>
    intro k i hi hk
    obtain ⟨k, rfl⟩ : ∃ q, k = q + 1 := ⟨k - 1, by omega⟩
    obtain rfl : i = m := by omega
    simp only [coldframeref04_plus.l0]
    rw [line_len, if_neg (by omega), upto_full]
  | succ d ih =>
    intro k i hi hk
    obtain ⟨k, rfl⟩ : ∃ q, k = q + 1 := ⟨k - 1, by omega⟩
    simp only [coldframeref04_plus.l0]
    rw [line_len, if_pos (by omega), if_pos (by omega), line_len, if_pos (by omega), upto_len, if_pos (by omega), rd_line m f i (by omega), rd_line m g i (by omega), xor_bits (hf i) (hg i), Int.toNat_natCast, upto_set m (fun i => xorI (f i) (g i)) i (by omega), inc i (by omega)]
    exact ih k (i + 1) (by omega) (by omega)
theorem plus_f (m : Nat) (hm : m ≤ 1000) (f g : Nat → Int) (hf : ∀ i, Byt (f i)) (hg : ∀ i, Byt (g i)) : coldframeref04_plus.f 2000 (line m f) (line m g) = some (line m (fun i => xorI (f i) (g i))) := by
  unfold coldframeref04_plus.f
  rw [line_len, if_pos (by omega), if_pos (by omega), Int.toNat_natCast, ← upto_zero m (fun i => xorI (f i) (g i))]
  exact plus_loop m hm f g hf hg m 2000 0 (by omega) (by omega)
theorem inv_loop (a : Int) (ha : Byt a) (d : Nat) : ∀ (k b : Nat), b + d = 256 → (∃ j : Nat, b ≤ j ∧ j < 256 ∧ gmI a j = 1) → 100 + d ≤ k → ∃ r, Byt r ∧ gmI a r = 1 ∧ coldframeref02_Inv.l0 k a (b : Int) = some r := by
  induction d with
  | zero => intro k b hb ⟨j, h1, h2, _⟩; omega
  | succ d ih =>
    intro k b hb hj hk
    obtain ⟨k, rfl⟩ : ∃ q, k = q + 1 := ⟨k - 1, by omega⟩
    simp only [coldframeref02_Inv.l0]
    have e : ((b : Int) % 256) = (b : Int) := by omega
    rw [if_pos (by omega), e, mulI k a b ha ⟨by omega, by omega⟩ (by omega), Option.bind_some]
    by_cases h1 : gmI a b = 1
    · rw [if_pos h1]; exact ⟨_, ⟨by omega, by omega⟩, h1, rfl⟩
    · rw [if_neg h1, inc b (by omega)]
      obtain ⟨j, j1, j2, j3⟩ := hj
      have hne : j ≠ b := fun e => h1 (by rw [← e]; exact j3)
      exact ih k (b + 1) (by omega) ⟨j, by omega, j2, j3⟩ (by omega)
theorem inv_f (a : Int) (ha : Byt a) (h0 : a ≠ 0) : ∃ r, Byt r ∧ gmI a r = 1 ∧ coldframeref02_Inv.f 2000 a = some r := by
  obtain ⟨x, hx, rfl⟩ := byt_nat ha
  refine inv_loop x ha 255 2000 1 rfl ⟨ginv x, ?_, ginv_lt x hx, ?_⟩ (by omega)
  · rcases Nat.eq_zero_or_pos (ginv x) with h | h
    · have := gm_inv x hx (by omega)
      rw [h, gm_zero_right] at this
      cases this
    · exact h
  · simp only [gmI, Int.toNat_natCast, gm_inv x hx (by omega)]; rfl
theorem times_any (m c0 : Nat) (A : Option Addr) (f : Nat → Int) (x : Int) (w : World) (hC : (Kd.int .u8).C w A m (line m f)) (hf : ∀ i, Byt (f i)) (hx : Byt x) (hc : m ≤ c0) (hm : m ≤ 1000) :
    Calls Try.prog 44 #[.slice A m c0, .int .u8 x] w fun e w' => ∃ A' c', e = .returned (.slice A' m c') ∧ Kd.R (Kd.int .u8) 5 w' w.heap.size (fun _ => True) (.slice A' m c') (line m (fun i => gmI (f i) x)) ∧ Below w.heap.size w w' := by
  have h := coldframeref04_times.calls 2000 A c0 (line m f) x _ w (by rw [line_len]; exact hC) (by rw [line_len]; exact hc) (times_f m hm f x hf hx)
  rw [line_len] at h
  refine h.mono ?_
  rintro e w' ⟨v, rfl, hR, hB⟩
  obtain ⟨A', c', rfl⟩ := Kd.R_slice hR
  rw [line_len] at hR ⊢
  exact ⟨A', c', rfl, hR, hB⟩
theorem plus_any (m c0 c1 : Nat) (A A1 : Option Addr) (f g : Nat → Int) (w : World) (hC : (Kd.int .u8).C w A m (line m f)) (hC1 : (Kd.int .u8).C w A1 m (line m g)) (hf : ∀ i, Byt (f i)) (hg : ∀ i, Byt (g i)) (hc : m ≤ c0) (hc1 : m ≤ c1) (hm : m ≤ 1000) :
    Calls Try.prog 46 #[.slice A m c0, .slice A1 m c1] w fun e w' => ∃ A' c', e = .returned (.slice A' m c') ∧ Kd.R (Kd.int .u8) 5 w' w.heap.size (fun _ => True) (.slice A' m c') (line m (fun i => xorI (f i) (g i))) ∧ Below w.heap.size w w' := by
  have h := coldframeref04_plus.calls 2000 A c0 (line m f) A1 c1 (line m g) _ w (by rw [line_len]; exact hC) (by rw [line_len]; exact hc) (by rw [line_len]; exact hC1) (by rw [line_len]; exact hc1) (plus_f m hm f g hf hg)
  rw [line_len, line_len] at h
  refine h.mono ?_
  rintro e w' ⟨v, rfl, hR, hB⟩
  obtain ⟨A', c', rfl⟩ := Kd.R_slice hR
  rw [line_len] at hR ⊢
  exact ⟨A', c', rfl, hR, hB⟩
theorem inv_any (a : Int) (ha : Byt a) (h0 : a ≠ 0) : ∃ r, Byt r ∧ gmI a r = 1 ∧ ∀ w, Calls Try.prog 45 #[.int .u8 a] w fun e w' => e = .returned (.int .u8 r) ∧ Below w.heap.size w w' := by
  obtain ⟨r, h1, h2, h3⟩ := inv_f a ha h0
  refine ⟨r, h1, h2, fun w => (coldframeref02_Inv.calls 2000 a r w h3).mono ?_⟩
  rintro e w' ⟨rfl, hD⟩
  obtain ⟨n, rfl⟩ := hD.out
  exact ⟨rfl, pw_below_drewN (Below.refl _ _) n⟩
end Go.Proofs.Ytelgefkfflgbeaa.Sol
