/- Steps, of bytes: what comes to be, and what solves equations. No program. -/
import Derived.Test.YtelgefkfflgbeaaLin
import Derived.Test.YtelgefkfflgbeaaGF
import Derived.Test.YtelgefkfflgbeaaGi
namespace Go.Proofs.Ytelgefkfflgbeaa.Sol
open Go.Proofs.Ytelgefkfflgbeaa.Gf Go.Proofs.Ytelgefkfflgbeaa.Gi Go.Proofs.Ytelgefkfflgbeaa.Alg
set_option linter.unusedVariables false

theorem of_gm {a b : Int} (ha : Byt a) (hb : Byt b) : G.of (gmI a b) = G.of a * G.of b := by
  obtain ⟨x, hx, rfl⟩ := byt_nat ha
  obtain ⟨y, hy, rfl⟩ := byt_nat hb
  refine G.ext' ?_
  show (gmI (x : Int) (y : Int)).toNat % 256 = gm (((x : Int)).toNat % 256) (((y : Int)).toNat % 256)
  have := gm_lt x y hx
  simp only [gmI, Int.toNat_natCast, Nat.mod_eq_of_lt hx, Nat.mod_eq_of_lt hy, Nat.mod_eq_of_lt this]
theorem of_xor {a b : Int} (ha : Byt a) (hb : Byt b) : G.of (xorI a b) = G.of a + G.of b := by
  obtain ⟨x, hx, rfl⟩ := byt_nat ha
  obtain ⟨y, hy, rfl⟩ := byt_nat hb
  refine G.ext' ?_
  show (xorI (x : Int) (y : Int)).toNat % 256 = (((x : Int)).toNat % 256) ^^^ (((y : Int)).toNat % 256)
  have := xor_lt' hx hy
  simp only [xorI, Int.toNat_natCast, Nat.mod_eq_of_lt hx, Nat.mod_eq_of_lt hy, Nat.mod_eq_of_lt this]
theorem of_ne {a : Int} (ha : Byt a) (h : a ≠ 0) : G.of a ≠ 0 := fun e => h (G.of_inj ha ⟨by decide, by decide⟩ (e.trans G.of_zero.symm))
/-- A matrix of bytes. -/
abbrev Mtx := Nat → Nat → Int
def BytM (M : Mtx) : Prop := ∀ i j, Byt (M i j)
/-- The rows k and t put in each other's place. -/
def swapI (M : Mtx) (t k : Nat) : Mtx := fun i => if i = k then M t else M i
/-- One step; r is the pivot's inverse. -/
def stepI (M : Mtx) (t k col : Nat) (r : Int) : Mtx := fun i j =>
  if i = t then gmI (M k j) r else xorI (swapI M t k i j) (gmI (gmI (M k j) r) (swapI M t k i col))
theorem stepI_byt {M : Mtx} (h : BytM M) {t k col : Nat} {r : Int} (hr : Byt r) : BytM (stepI M t k col r) := by
  have hs : BytM (swapI M t k) := by intro i j; unfold swapI; split <;> exact h _ _
  intro i j
  unfold stepI
  split
  · exact gmI_byt (h _ _)
  · exact xorI_byt (hs _ _) (gmI_byt (gmI_byt (h _ _)))
/-- The matrix's elements, of the field. -/
def el (M : Mtx) : Nat → Nat → G := fun i j => G.of (M i j)
theorem stepI_el {M : Mtx} (h : BytM M) {t k col : Nat} {r : Int} (hr : Byt r) (h1 : gmI (M k col) r = 1) : el (stepI M t k col r) = stepF (el M) t k col := by
  have hs : BytM (swapI M t k) := by intro i j; unfold swapI; split <;> exact h _ _
  have hi : Fd.inv (el M k col) = G.of r := by
    refine (Alg.inv_unique ?_).symm
    show G.of (M k col) * G.of r = 1
    rw [← of_gm (h _ _) hr, h1, G.of_one]
  have e : ∀ i j, el (swapI M t k) i j = if i = k then el M t j else el M i j := by intro i j; unfold el swapI; split <;> rfl
  funext i j
  unfold stepF
  rw [hi, ← e i j, ← e i col]
  show G.of (stepI M t k col r i j) = _
  unfold stepI
  split
  · rw [of_gm (h _ _) hr]; rfl
  · rw [of_xor (hs _ _) (gmI_byt (gmI_byt (h _ _))), of_gm (gmI_byt (h _ _)) (hs _ _), of_gm (h _ _) hr]; rfl
/-- What the document's Steps comes to, column by column. -/
inductive StepsTo (n : Nat) (M0 : Mtx) : Nat → Nat → Mtx → Prop
  | start : StepsTo n M0 0 0 M0
  | skip {col t : Nat} {M : Mtx} : StepsTo n M0 col t M → (∀ j, t ≤ j → j < n → M j col = 0) → StepsTo n M0 (col + 1) t M
  | step {col t k : Nat} {r : Int} {M : Mtx} : StepsTo n M0 col t M → t ≤ k → k < n → (∀ j, t ≤ j → j < k → M j col = 0) → M k col ≠ 0 → Byt r → gmI (M k col) r = 1 → StepsTo n M0 (col + 1) (t + 1) (stepI M t k col r)
theorem StepsTo.byt {n : Nat} {M0 : Mtx} (h0 : BytM M0) {col t : Nat} {M : Mtx} (h : StepsTo n M0 col t M) : BytM M := by
  induction h with
  | start => exact h0
  | skip _ _ ih => exact ih
  | step _ _ _ _ _ hr _ ih => exact stepI_byt ih hr
theorem StepsTo.le {n : Nat} {M0 : Mtx} {col t : Nat} {M : Mtx} (h : StepsTo n M0 col t M) : t ≤ col ∧ t ≤ n := by
  induction h with
  | start => exact ⟨Nat.le_refl _, Nat.zero_le _⟩
  | skip _ _ ih => exact ⟨by omega, ih.2⟩
  | step _ _ _ _ _ _ _ ih => exact ⟨by omega, by omega⟩
/-- What comes to nought is kept. -/
theorem StepsTo.ker {n m : Nat} {M0 : Mtx} (h0 : BytM M0) {col t : Nat} {M : Mtx} (h : StepsTo n M0 col t M) (c : Nat → G) :
    (∀ i, i < n → dotF m (el M i) c = 0) ↔ (∀ i, i < n → dotF m (el M0 i) c = 0) := by
  induction h with
  | start => exact Iff.rfl
  | skip _ _ ih => exact ih
  | @step col t k r M hs htk hk hz hp hr h1 ih =>
    rw [stepI_el (hs.byt h0) hr h1, stepF_ker (el M) t k col n m c hk (by omega) (of_ne (hs.byt h0 k col) hp)]
    exact ih
theorem dotF_more (n : Nat) (r c : Nat → G) : dotF (n + 1) r c = dotF n r c + r n * c n := rfl
theorem dotF_congr {m : Nat} {r c c' : Nat → G} (h : ∀ j, j < m → c j = c' j) : dotF m r c = dotF m r c' := by unfold dotF; exact sum_congr (fun j hj => by rw [h j hj])
/-- Where nothing but nought comes to nought, the first columns become the one's. -/
theorem StepsTo.one {n : Nat} {M0 : Mtx} (h0 : BytM M0) (hinj : ∀ c : Nat → G, (∀ i, i < n → dotF n (el M0 i) c = 0) → ∀ j, j < n → c j = 0) {col t : Nat} {M : Mtx} (h : StepsTo n M0 col t M) :
    t = min col n ∧ OneTo (el M) n (min col n) := by
  induction h with
  | start => exact ⟨by simp, fun i j _ hj => absurd hj (by simp)⟩
  | @skip col t M hs hz ih =>
    obtain ⟨ht, ho⟩ := ih
    by_cases hc : col < n
    · rw [Nat.min_eq_left (by omega)] at ht ho
      subst ht
      have hk := no_pivot (el M) n n t ho hc (by omega) (fun i hi hti => by show G.of (M i t) = 0; rw [hz i hti hi]; rfl)
      have := hinj _ ((hs.ker h0 _).1 hk) t hc
      simp at this
      exact absurd this.symm Fd.zero_ne_one
    · have e : min (col + 1) n = min col n := by omega
      rw [e]
      exact ⟨ht, ho⟩
  | @step col t k r M hs htk hk hz hp hr h1 ih =>
    obtain ⟨ht, ho⟩ := ih
    by_cases hc : col < n
    · rw [Nat.min_eq_left (by omega)] at ht ho
      subst ht
      rw [Nat.min_eq_left (by omega), stepI_el (hs.byt h0) hr h1]
      exact ⟨rfl, stepF_one (el M) n k t ho hk htk (of_ne (hs.byt h0 k t) hp)⟩
    · omega
/-- What solves the equations stands in the last column. -/
theorem StepsTo.solves {n : Nat} {M0 : Mtx} (h0 : BytM M0) (hinj : ∀ c : Nat → G, (∀ i, i < n → dotF n (el M0 i) c = 0) → ∀ j, j < n → c j = 0) {t : Nat} {M : Mtx} (h : StepsTo n M0 (n + 1) t M)
    (p : Nat → G) (hp : ∀ i, i < n → dotF n (el M0 i) p = el M0 i n) : ∀ i, i < n → el M i n = p i := by
  have ho := (h.one h0 hinj).2
  rw [Nat.min_eq_right (by omega)] at ho
  have hk := (h.ker (m := n + 1) h0 (fun j => if j < n then p j else 1)).2 (fun i hi => by
    rw [dotF_more, dotF_congr (c' := p) (fun j hj => by rw [if_pos hj]), hp i hi, if_neg (Nat.lt_irrefl n), Fd.mul_one, Fd.add_self])
  intro i hi
  have h1 := hk i hi
  rw [dotF_more, dotF_congr (c' := p) (fun j hj => by rw [if_pos hj]), if_neg (Nat.lt_irrefl n), Fd.mul_one] at h1
  have h2 : dotF n (el M i) p = p i := by
    unfold dotF
    rw [sum_at (a := i) hi (fun j hj hne => by rw [ho i j hi hj, if_neg (fun e => hne e.symm), zero_mul]), ho i i hi hi, if_pos rfl, one_mul]
  rw [h2] at h1
  exact (eq_of_add_zero h1).symm
end Go.Proofs.Ytelgefkfflgbeaa.Sol
