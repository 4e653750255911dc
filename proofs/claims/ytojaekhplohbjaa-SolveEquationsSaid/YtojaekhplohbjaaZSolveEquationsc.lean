/- The statement SolveEquations: what its proof rests on, part 3 of 3. -/
import Derived.Test.YtojaekhplohbjaaPMulx2
import Derived.Test.YtojaekhplohbjaaPOnex1
import Derived.Test.YtojaekhplohbjaaProg
import Derived.Below
import Derived.Deep.Draws
import Derived.Deep.AppendLies
import Derived.Maps.AppendAt
import Derived.OwnWalk
import Derived.Laws.BytesArg
import Derived.Laws.MakeOwn
import Derived.Laws.OwnMore
import Derived.Deep.OwnRows
import Derived.Tactics
import Derived.Lib.ConvBytes
import Derived.Laws.Slices
import Derived.WalkKit
import Derived.KernelRfl
import Derived.RowKit3
import Derived.Deep.LoopGhost
import Derived.Deep.QuietTactic
import Derived.BigQuiet
import Derived.WideLaws
import Derived.Deep.DeepCutAuto
import Derived.Deep.CutBlock
import Derived.Deep.RegionHeld3
import Derived.Laws.Rows
import Derived.Lib.AppendStr
import Derived.ArgAppend
import Derived.Laws.IdiomCopy
import Derived.OrdersHeld
import Derived.Laws.BitsLemmas
import Derived.RowKit
import Derived.Lib.Hide
import Derived.WalkSpells
import Derived.Outline
import Derived.Test.YtojaekhplohbjaaZSolveEquationsb
/- Rows told by a function of places; the reference's product. -/
namespace Go.Proofs.Ytojaekhplohbjaa.Mat
open Go Go.RowKit Go.Proofs.Ytojaekhplohbjaa.Mem Go.Proofs.Ytojaekhplohbjaa.Bits Go.Proofs.Ytojaekhplohbjaa.Gf Go.Proofs.YtojaekhplohbjaaW.PrintWords Go.Proofs.YtojaekhplohbjaaW.PrintLast
set_option linter.unusedVariables false

theorem rows_ext {r c : Nat} {xs : List Int} {ls : List (List Int)} (hl : xs.length = r * c) (h1 : ls.length = r) (h2 : ∀ i, i < r → (ls.getD i []).length = c) (h : ∀ i k, i < r → k < c → xs.getD (i * c + k) 0 = (ls.getD i []).getD k 0) : rowsTo c xs r = ls := by
  refine List.ext_getElem (by rw [rowsTo_len, h1]) (fun i hi hj => ?_)
  have hir : i < r := by rw [rowsTo_len] at hi; exact hi
  simp only [rowsTo, List.getElem_map, List.getElem_range]
  have e : ls[i] = ls.getD i [] := by rw [List.getD_eq_getElem?_getD, List.getElem?_eq_getElem hj, Option.getD_some]
  rw [e]
  have hlen := rowOf_len hl i hir
  refine List.ext_getElem (by rw [hlen, h2 i hir]) (fun k hk hk' => ?_)
  have hkc : k < c := by rw [hlen] at hk; exact hk
  have := h i k hir hkc
  rw [← rowOf_get i k hkc, List.getD_eq_getElem?_getD, List.getD_eq_getElem?_getD, List.getElem?_eq_getElem hk, List.getElem?_eq_getElem hk'] at this
  exact this
theorem zeros_rows (r c : Nat) : rowsTo c (List.replicate (r * c) 0) r = List.replicate r (List.replicate c 0) := by
  refine rows_ext (by simp) (by simp) (fun i hi => by simp [List.getD_eq_getElem?_getD, hi]) (fun i k hi hk => ?_)
  have := idx_lt hi hk
  simp [List.getD_eq_getElem?_getD, hi, hk, this]
theorem zero_loop (c : Nat) (hc : c ≤ 64) (r : Nat) (hr : r ≤ 64) (d : Nat) : ∀ (k i : Nat) (xs : List (List Int)), i + d = r → d < k → xs.length ≤ 64 → xs.length = i →
    POne.coldframeref03_Zero.l0 k r c xs i = some (xs ++ List.replicate d (List.replicate c 0)) := by
  induction d with
  | zero =>
    intro k i xs hd hk hx hxi
    obtain ⟨k, rfl⟩ : ∃ m, k = m + 1 := ⟨k - 1, by omega⟩
    simp only [POne.coldframeref03_Zero.l0]
    rw [if_neg (by omega)]; simp
  | succ d ih =>
    intro k i xs hd hk hx hxi
    obtain ⟨k, rfl⟩ : ∃ m, k = m + 1 := ⟨k - 1, by omega⟩
    simp only [POne.coldframeref03_Zero.l0]
    rw [if_pos (by omega), if_pos (by omega), if_pos (by omega), if_pos (by omega), show wrap64 ((i : Int) + 1) = ((i + 1 : Nat) : Int) by rw [wrap64_in _ (by omega) (by omega)]; omega,
      ih k (i + 1) _ (by omega) (by omega) (by simp; omega) (by simp; omega)]
    simp [List.replicate_succ]
theorem zero_f (k r c : Nat) (hr : r ≤ 64) (hc : c ≤ 64) (hk : 100 ≤ k) : POne.coldframeref03_Zero.f k r c = some (List.replicate r (List.replicate c 0)) := by
  have := zero_loop c hc r hr r k 0 [] (by omega) (by omega) (by simp) rfl
  simpa [POne.coldframeref03_Zero.f] using this
/-- The rows of noughts with the first ones set. -/
def oneRow (n i j : Nat) : List Int := if i < j then (List.replicate n 0).set i 1 else List.replicate n 0
def oneL (n j : Nat) : List (List Int) := (List.range n).map (fun i => oneRow n i j)
theorem oneL_len (n j : Nat) : (oneL n j).length = n := by simp [oneL]
theorem oneL_get (n j i : Nat) (hi : i < n) : (oneL n j).getD i [] = oneRow n i j := by simp [oneL, List.getD_eq_getElem?_getD, hi]
theorem oneRow_len (n i j : Nat) : (oneRow n i j).length = n := by unfold oneRow; split <;> simp
theorem oneL_step (n j : Nat) (hj : j < n) : (oneL n j).set j ((List.replicate n 0).set j 1) = oneL n (j + 1) := by
  refine List.ext_getElem (by simp [oneL_len]) (fun i h1 h2 => ?_)
  rw [List.getElem_set]
  simp only [oneL, List.getElem_map, List.getElem_range]
  by_cases e : j = i
  · subst e; rw [if_pos rfl]; unfold oneRow; rw [if_pos (by omega)]
  · rw [if_neg e]; unfold oneRow
    by_cases h : i < j
    · rw [if_pos h, if_pos (by omega)]
    · rw [if_neg h, if_neg (by omega)]
theorem one_loop (n : Nat) (hn : n ≤ 64) (d : Nat) : ∀ (k i : Nat), i + d = n → d < k → POne.coldframeref03_One.l0 k n (oneL n i) i = some (oneL n n) := by
  induction d with
  | zero =>
    intro k i hd hk
    obtain ⟨k, rfl⟩ : ∃ m, k = m + 1 := ⟨k - 1, by omega⟩
    simp only [POne.coldframeref03_One.l0]
    obtain rfl : i = n := by omega
    rw [if_neg (by omega)]
  | succ d ih =>
    intro k i hd hk
    obtain ⟨k, rfl⟩ : ∃ m, k = m + 1 := ⟨k - 1, by omega⟩
    have hi : i < n := by omega
    have e1 : POne.rd_L1 (oneL n i) (i : Int) = List.replicate n 0 := by
      show (oneL n i).getD i [] = _
      rw [oneL_get n i i hi]; unfold oneRow; rw [if_neg (by omega)]
    simp only [POne.coldframeref03_One.l0]
    rw [e1, if_pos (by omega), if_pos (by omega), if_pos (by rw [oneL_len]; omega), if_pos (by simp; omega), show wrap64 ((i : Int) + 1) = ((i + 1 : Nat) : Int) by rw [wrap64_in _ (by omega) (by omega)]; omega, Int.toNat_natCast, oneL_step n i hi]
    exact ih k (i + 1) (by omega) (by omega)
theorem one_f (n : Nat) (hn : n ≤ 64) : POne.coldframeref03_One.f 100 n = some (oneL n n) := by
  unfold POne.coldframeref03_One.f
  rw [zero_f 100 n n hn hn (Nat.le_refl _)]
  have h0 : List.replicate n (List.replicate n (0 : Int)) = oneL n 0 := by
    refine List.ext_getElem (by simp [oneL_len]) (fun i h1 h2 => ?_)
    simp [oneL, oneRow]
  show POne.coldframeref03_One.l0 100 n _ ((0 : Nat) : Int) = _
  rw [h0]
  exact one_loop n hn n 100 0 (by omega) (by omega)
theorem oneTo_len (n : Nat) : ∀ k, (oneTo n k).length = n * n
  | 0 => by simp [oneTo]
  | k + 1 => by rw [oneTo, List.length_set, oneTo_len n k]
theorem oneTo_get (n : Nat) (j : Nat) (hj : j ≤ n) : ∀ i k, i < n → k < n → (oneTo n j).getD (i * n + k) 0 = if i = k ∧ i < j then 1 else 0 := by
  induction j with
  | zero =>
    intro i k hi hk
    have := idx_lt hi hk
    rw [if_neg (by omega)]
    simp [oneTo, List.getD_eq_getElem?_getD, this]
  | succ j ih =>
    intro i k hi hk
    have hlt := idx_lt hi hk
    have hjj := idx_lt (show j < n by omega) (show j < n by omega)
    rw [oneTo, List.getD_eq_getElem?_getD, List.getElem?_set]
    by_cases e : j * n + j = i * n + k
    · rw [if_pos e, if_pos (by rw [oneTo_len]; exact hjj)]
      have hij : j = i := by
        have h1 := Nat.div_mod_unique (a := j * n + j) (b := n) (c := j) (d := j) (by omega)
        have h2 := Nat.div_mod_unique (a := i * n + k) (b := n) (c := k) (d := i) (by omega)
        have h3 := (h1.2 ⟨by rw [Nat.mul_comm n j]; omega, by omega⟩).1
        have h4 := (h2.2 ⟨by rw [Nat.mul_comm n i]; omega, by omega⟩).1
        rw [e] at h3; omega
      subst hij
      rw [if_pos ⟨by omega, by omega⟩]; rfl
    · rw [if_neg e, ← List.getD_eq_getElem?_getD, ih (by omega) i k hi hk]
      by_cases h : i = k ∧ i < j
      · rw [if_pos h, if_pos ⟨h.1, by omega⟩]
      · rw [if_neg h, if_neg]
        rintro ⟨rfl, h'⟩
        have : i = j := by omega
        subst this
        exact e rfl
theorem ones_rows (n : Nat) : rowsTo n (oneTo n n) n = oneL n n := by
  refine rows_ext (oneTo_len n n) (oneL_len n n) (fun i hi => by rw [oneL_get n n i hi, oneRow_len]) (fun i k hi hk => ?_)
  rw [oneTo_get n n (Nat.le_refl _) i k hi hk, oneL_get n n i hi]
  unfold oneRow
  rw [if_pos hi, List.getD_eq_getElem?_getD, List.getElem?_set]
  by_cases e : i = k
  · subst e; rw [if_pos ⟨rfl, hi⟩, if_pos rfl, if_pos (by simpa using hi)]; rfl
  · rw [if_neg (fun h => e h.1), if_neg e]; simp [hk]

def gline (c : Nat) (f : Nat → Int) : List Int := (List.range c).map f
def grid (r c : Nat) (v : Nat → Nat → Int) : List (List Int) := (List.range r).map (fun i => gline c (v i))
theorem gline_len (c : Nat) (f : Nat → Int) : (gline c f).length = c := by simp [gline]
theorem gline_get (c : Nat) (f : Nat → Int) (k : Nat) (hk : k < c) : (gline c f).getD k 0 = f k := by simp [gline, List.getD_eq_getElem?_getD, hk]
theorem gline_congr (c : Nat) (f g : Nat → Int) (h : ∀ k, k < c → f k = g k) : gline c f = gline c g := List.map_congr_left (fun k hk => h k (by simpa using hk))
theorem grid_len (r c : Nat) (v : Nat → Nat → Int) : (grid r c v).length = r := by simp [grid]
theorem grid_get (r c : Nat) (v : Nat → Nat → Int) (i : Nat) (hi : i < r) : (grid r c v).getD i [] = gline c (v i) := by simp [grid, List.getD_eq_getElem?_getD, hi]
theorem grid_congr (r c : Nat) (v u : Nat → Nat → Int) (h : ∀ i k, i < r → k < c → v i k = u i k) : grid r c v = grid r c u :=
  List.map_congr_left (fun i hi => gline_congr c _ _ (fun k hk => h i k (by simpa using hi) hk))
theorem gline_set (c : Nat) (f : Nat → Int) (k : Nat) (hk : k < c) (y : Int) : (gline c f).set k y = gline c (fun k' => if k' = k then y else f k') := by
  refine List.ext_getElem (by simp [gline]) (fun j h1 h2 => ?_)
  rw [List.getElem_set]
  simp only [gline, List.getElem_map, List.getElem_range]
  by_cases e : k = j
  · subst e; simp
  · rw [if_neg e, if_neg (fun h => e h.symm)]
theorem grid_set (r c : Nat) (v : Nat → Nat → Int) (i k : Nat) (hi : i < r) (hk : k < c) (y : Int) :
    (grid r c v).set i (((grid r c v).getD i []).set k y) = grid r c (fun i' k' => if i' = i ∧ k' = k then y else v i' k') := by
  rw [grid_get r c v i hi, gline_set c _ k hk]
  refine List.ext_getElem (by simp [grid]) (fun j h1 h2 => ?_)
  rw [List.getElem_set]
  simp only [grid, List.getElem_map, List.getElem_range]
  by_cases e : i = j
  · subst e
    rw [if_pos rfl]
    exact gline_congr c _ _ (fun k' _ => by by_cases h : k' = k <;> simp [h])
  · rw [if_neg e]
    exact gline_congr c _ _ (fun k' _ => by rw [if_neg (fun h => e h.1.symm)])
theorem rowsTo_grid (r c : Nat) (xs : List Int) (hl : xs.length = r * c) : rowsTo c xs r = grid r c (fun i k => xs.getD (i * c + k) 0) :=
  rows_ext hl (grid_len _ _ _) (fun i hi => by rw [grid_get r c _ i hi, gline_len]) (fun i k hi hk => by rw [grid_get r c _ i hi, gline_get c _ k hk])
theorem zeros_grid (r c : Nat) : List.replicate r (List.replicate c (0 : Int)) = grid r c (fun _ _ => 0) := by
  refine List.ext_getElem (by simp [grid]) (fun i h1 h2 => ?_)
  simp only [grid, List.getElem_map, List.getElem_replicate]
  refine List.ext_getElem (by simp [gline]) (fun k h3 h4 => ?_)
  simp [gline]

theorem refmul_I (K : Nat) (x y : Int) (hx : 0 ≤ x ∧ x < 256) (hy : 0 ≤ y ∧ y < 256) (hK : 68 ≤ K) : PMul.coldframeref02_Mul.f K x y = some (gmI x y) := by
  obtain ⟨x, rfl⟩ := Int.eq_ofNat_of_zero_le hx.1
  obtain ⟨y, rfl⟩ := Int.eq_ofNat_of_zero_le hy.1
  rw [BMul.ref_mul K x y (by omega) (by omega) hK]
  simp [gmI]
theorem xor_I (x y : Int) (hx : 0 ≤ x ∧ x < 256) (hy : 0 ≤ y ∧ y < 256) : bits .xor .u8 x y = xorI x y := by
  obtain ⟨x, rfl⟩ := Int.eq_ofNat_of_zero_le hx.1
  obtain ⟨y, rfl⟩ := Int.eq_ofNat_of_zero_le hy.1
  rw [xor_u8 x y (by omega) (by omega)]
  simp [xorI]
/-- A column. -/
def colOf (n : Nat) (b : List (List Int)) (k : Nat) : List Int := gline n (fun j => (b.getD j []).getD k 0)
/-- The product so far: all ahead of a place, and of that place the first j terms. -/
def mval (n : Nat) (a b : List (List Int)) (i0 k0 j : Nat) (i k : Nat) : Int :=
  if i < i0 ∨ (i = i0 ∧ k < k0) then dotTo (a.getD i []) (colOf n b k) n else if i = i0 ∧ k = k0 then dotTo (a.getD i []) (colOf n b k) j else 0
section
variable (r n c : Nat) (a b : List (List Int)) (hr : a.length = r) (hn : b.length = n) (hn1 : 1 ≤ n) (ha : ∀ i, i < r → (a.getD i []).length = n) (hb : ∀ j, j < n → (b.getD j []).length = c)
  (ba : AllBytes a) (bb : AllBytes b) (r9 : r ≤ 64) (n9 : n ≤ 64) (c9 : c ≤ 64)
include hr hn hn1 ha hb ba bb r9 n9 c9
theorem mul_l2 (i k : Nat) (hi : i < r) (hk : k < c) (d : Nat) : ∀ (K j : Nat), j + d = n → 100 ≤ K →
    PMul.coldframeref03_Mul.l2 (K + d + 1) a b (grid r c (mval n a b i k j)) i k j = PMul.coldframeref03_Mul.l1 K a b (grid r c (mval n a b i k n)) i ((k + 1 : Nat) : Int) := by
  have := r9
  induction d with
  | zero =>
    intro K j hd hK
    obtain rfl : j = n := by omega
    simp only [PMul.coldframeref03_Mul.l2]
    rw [if_neg (by omega), show wrap64 ((k : Int) + 1) = ((k + 1 : Nat) : Int) by rw [wrap64_in _ (by omega) (by omega)]; omega]
  | succ d ih =>
    intro K j hd hK
    have hj : j < n := by omega
    rw [show K + (d + 1) + 1 = (K + d + 1) + 1 by omega]
    simp only [PMul.coldframeref03_Mul.l2]
    have e5 : PMul.rd_L1 (grid r c (mval n a b i k j)) (i : Int) = gline c (mval n a b i k j i) := grid_get r c _ i hi
    have ea : PMul.rd_L1 a (i : Int) = a.getD i [] := rfl
    have eb : PMul.rd_L1 b (j : Int) = b.getD j [] := rfl
    have la := ha i hi
    have lb := hb j hj
    have hdr := dotTo_range (a.getD i []) (colOf n b k) (bytes_getD ba i) j
    have xa := (bytes_getD ba i).getD j
    have xb := (bytes_getD bb j).getD k
    have r1 : rd (a.getD i []) (j : Int) = (a.getD i []).getD j 0 := by simp [rd]
    have r2 : rd (b.getD j []) (k : Int) = (b.getD j []).getD k 0 := by simp [rd]
    have r3 : rd (gline c (mval n a b i k j i)) (k : Int) = dotTo (a.getD i []) (colOf n b k) j := by
      have : rd (gline c (mval n a b i k j i)) (k : Int) = (gline c (mval n a b i k j i)).getD k 0 := by simp [rd]
      rw [this, gline_get c _ k hk]
      unfold mval
      rw [if_neg (by omega), if_pos ⟨rfl, rfl⟩]
    rw [e5, ea, eb, if_pos (by omega), if_pos (by omega), if_pos (by rw [grid_len]; omega), if_pos (by omega), if_pos (by rw [gline_len]; omega), if_pos (by omega), if_pos (by omega), if_pos (by rw [la]; omega), if_pos (by rw [lb]; omega),
      r1, r2, refmul_I _ _ _ xa xb (by omega), bnd, r3, xor_I _ _ hdr (gmI_range _ _ xa.2)]
    have hset : (grid r c (mval n a b i k j)).set ((i : Int)).toNat ((gline c (mval n a b i k j i)).set ((k : Int)).toNat (xorI (dotTo (a.getD i []) (colOf n b k) j) (gmI ((a.getD i []).getD j 0) ((b.getD j []).getD k 0)))) = grid r c (mval n a b i k (j + 1)) := by
      rw [Int.toNat_natCast, Int.toNat_natCast, ← grid_get r c (mval n a b i k j) i hi, grid_set r c _ i k hi hk]
      refine grid_congr r c _ _ (fun i' k' _ _ => ?_)
      by_cases e : i' = i ∧ k' = k
      · obtain ⟨rfl, rfl⟩ := e
        rw [if_pos ⟨rfl, rfl⟩]
        unfold mval
        rw [if_neg (by omega), if_pos ⟨rfl, rfl⟩, dotTo]
        unfold colOf
        rw [gline_get n _ j hj]
      · rw [if_neg e]
        unfold mval
        by_cases h : i' < i ∨ (i' = i ∧ k' < k)
        · rw [if_pos h, if_pos h]
        · rw [if_neg h, if_neg h, if_neg e, if_neg e]
    rw [hset, show wrap64 ((j : Int) + 1) = ((j + 1 : Nat) : Int) by rw [wrap64_in _ (by omega) (by omega)]; omega]
    exact ih K (j + 1) (by omega) hK
theorem mval_next (i k : Nat) (hk : k < c) : grid r c (mval n a b i k n) = grid r c (mval n a b i (k + 1) 0) := by
  have := hr; have := hn; have := hn1; have := ha; have := hb; have := ba; have := bb; have := r9; have := n9; have := c9
  refine grid_congr r c _ _ (fun i' k' _ _ => ?_)
  unfold mval
  by_cases h : i' < i ∨ (i' = i ∧ k' < k)
  · rw [if_pos h, if_pos (by omega)]
  · rw [if_neg h]
    by_cases e : i' = i ∧ k' = k
    · rw [if_pos e, if_pos (by omega)]
    · rw [if_neg e, if_neg (by omega)]
      split <;> rfl
theorem mval_line (i : Nat) : grid r c (mval n a b i c 0) = grid r c (mval n a b (i + 1) 0 0) := by
  have := hr; have := hn; have := hn1; have := ha; have := hb; have := ba; have := bb; have := r9; have := n9; have := c9
  refine grid_congr r c _ _ (fun i' k' _ hk => ?_)
  unfold mval
  by_cases h : i' < i ∨ (i' = i ∧ k' < c)
  · rw [if_pos h, if_pos (by omega)]
  · rw [if_neg h, if_neg (by omega), if_neg (by omega)]
    split <;> rfl
theorem mul_l1 (i : Nat) (hi : i < r) (d : Nat) : ∀ (K k : Nat), k + d = c → 200 ≤ K →
    PMul.coldframeref03_Mul.l1 (K + d * (n + 2) + 1) a b (grid r c (mval n a b i k 0)) i k = PMul.coldframeref03_Mul.l0 K a b (grid r c (mval n a b (i + 1) 0 0)) ((i + 1 : Nat) : Int) := by
  have e0 : PMul.rd_L1 b 0 = b.getD 0 [] := rfl
  have l0 := hb 0 (by omega)
  induction d with
  | zero =>
    intro K k hd hK
    obtain rfl : k = c := by omega
    rw [Nat.zero_mul, Nat.add_zero]
    simp only [PMul.coldframeref03_Mul.l1]
    rw [if_pos (by omega), e0, l0, if_neg (by omega), show wrap64 ((i : Int) + 1) = ((i + 1 : Nat) : Int) by rw [wrap64_in _ (by omega) (by omega)]; omega, mval_line r n k a b hr hn hn1 ha hb ba bb r9 n9 c9]
  | succ d ih =>
    intro K k hd hK
    have hk : k < c := by omega
    rw [show K + (d + 1) * (n + 2) + 1 = (((K + d * (n + 2) + 1) + n + 1)) + 1 by rw [Nat.add_mul]; omega]
    simp only [PMul.coldframeref03_Mul.l1]
    rw [if_pos (by omega), e0, l0, if_pos (by omega)]
    have := mul_l2 r n c a b hr hn hn1 ha hb ba bb r9 n9 c9 i k hi hk n (K + d * (n + 2) + 1) 0 (by omega) (by omega)
    rw [show ((0 : Nat) : Int) = 0 from rfl] at this
    rw [this, mval_next r n c a b hr hn hn1 ha hb ba bb r9 n9 c9 i k hk]
    exact ih K (k + 1) (by omega) hK
theorem mul_l0 (d : Nat) : ∀ (K i : Nat), i + d = r → 300 ≤ K →
    PMul.coldframeref03_Mul.l0 (K + d * (c * (n + 2) + 2)) a b (grid r c (mval n a b i 0 0)) i = some (grid r c (mval n a b r 0 0)) := by
  induction d with
  | zero =>
    intro K i hd hK
    obtain rfl : i = r := by omega
    rw [Nat.zero_mul, Nat.add_zero]
    obtain ⟨K, rfl⟩ : ∃ m, K = m + 1 := ⟨K - 1, by omega⟩
    simp only [PMul.coldframeref03_Mul.l0]
    rw [if_neg (by omega)]
  | succ d ih =>
    intro K i hd hK
    have hi : i < r := by omega
    rw [show K + (d + 1) * (c * (n + 2) + 2) = ((K + d * (c * (n + 2) + 2)) + c * (n + 2) + 1) + 1 by rw [Nat.add_mul]; omega]
    simp only [PMul.coldframeref03_Mul.l0]
    rw [if_pos (by omega)]
    have := mul_l1 r n c a b hr hn hn1 ha hb ba bb r9 n9 c9 i hi c (K + d * (c * (n + 2) + 2)) 0 (by omega) (by omega)
    rw [show ((0 : Nat) : Int) = 0 from rfl] at this
    rw [this]
    exact ih K (i + 1) (by omega) hK
theorem mul_f : PMul.coldframeref03_Mul.f (300 + r * (c * (n + 2) + 2)) a b = some (grid r c (fun i k => dotTo (a.getD i []) (colOf n b k) n)) := by
  have e0 : PMul.rd_L1 b 0 = b.getD 0 [] := rfl
  have l0 := hb 0 (by omega)
  have hz : PMul.coldframeref03_Zero.f (300 + r * (c * (n + 2) + 2)) (r : Int) (c : Int) = some (grid r c (mval n a b 0 0 0)) := by
    have h := zero_mul_f (300 + r * (c * (n + 2) + 2)) r c r9 c9 (by omega)
    rw [h, zeros_grid]
    congr 1
    refine grid_congr r c _ _ (fun i k _ _ => ?_)
    unfold mval
    rw [if_neg (by omega)]
    split <;> rfl
  unfold PMul.coldframeref03_Mul.f
  rw [if_pos (by omega), e0, l0, hr, hz, bnd]
  have := mul_l0 r n c a b hr hn hn1 ha hb ba bb r9 n9 c9 r 300 0 (by omega) (by omega)
  rw [show ((0 : Nat) : Int) = 0 from rfl] at this
  rw [this]
  congr 1
  refine grid_congr r c _ _ (fun i k hi _ => ?_)
  unfold mval
  rw [if_pos (.inl hi)]
where
  zero_mul_loop (c : Nat) (hc : c ≤ 64) (r : Nat) (hr : r ≤ 64) (d : Nat) : ∀ (k i : Nat) (xs : List (List Int)), i + d = r → d < k → xs.length = i →
      PMul.coldframeref03_Zero.l0 k r c xs i = some (xs ++ List.replicate d (List.replicate c 0)) := by
    induction d with
    | zero =>
      intro k i xs hd hk hxi
      obtain ⟨k, rfl⟩ : ∃ m, k = m + 1 := ⟨k - 1, by omega⟩
      simp only [PMul.coldframeref03_Zero.l0]
      rw [if_neg (by omega)]; simp
    | succ d ih =>
      intro k i xs hd hk hxi
      obtain ⟨k, rfl⟩ : ∃ m, k = m + 1 := ⟨k - 1, by omega⟩
      simp only [PMul.coldframeref03_Zero.l0]
      rw [if_pos (by omega), if_pos (by omega), if_pos (by omega), if_pos (by omega), show wrap64 ((i : Int) + 1) = ((i + 1 : Nat) : Int) by rw [wrap64_in _ (by omega) (by omega)]; omega,
        ih k (i + 1) _ (by omega) (by omega) (by simp; omega)]
      simp [List.replicate_succ]
  zero_mul_f (k r c : Nat) (hr : r ≤ 64) (hc : c ≤ 64) (hk : 100 ≤ k) : PMul.coldframeref03_Zero.f k r c = some (List.replicate r (List.replicate c 0)) := by
    have := zero_mul_loop c hc r hr r k 0 [] (by omega) (by omega) rfl
    simpa [PMul.coldframeref03_Zero.f] using this
end
theorem grid_bytes (r c : Nat) (v : Nat → Nat → Int) (h : ∀ i k, 0 ≤ v i k ∧ v i k < 256) : AllBytes (grid r c v) := by
  intro l hl
  obtain ⟨i, _, rfl⟩ := List.mem_map.1 hl
  intro x hx
  obtain ⟨k, _, rfl⟩ := List.mem_map.1 hx
  exact h i k
theorem ref_mul (A0 A1 : Option Addr) (c0 c1 : Nat) (a b : List (List Int)) (r n c : Nat) (w W : World) (hR : RowsC w A0 a) (hR' : RowsC w A1 b) (hB : Below w.heap.size w W) (l0 : a.length ≤ c0) (l1 : b.length ≤ c1)
    (hr : a.length = r) (hn : b.length = n) (hn1 : 1 ≤ n) (ha : ∀ l ∈ a, l.length = n) (hb : ∀ l ∈ b, l.length = c) (ba : AllBytes a) (bb : AllBytes b) (r9 : r ≤ 64) (n9 : n ≤ 64) (c9 : c ≤ 64) :
    Calls Try.prog 17 #[.slice A0 a.length c0, .slice A1 b.length c1] W fun e w' => ∃ A c7, e = .returned (.slice A (grid r c (fun i k => dotTo (a.getD i []) (colOf n b k) n)).length c7) ∧ RowsC w' A (grid r c (fun i k => dotTo (a.getD i []) (colOf n b k) n)) ∧ Below W.heap.size W w' := by
  have hf := mul_f r n c a b hr hn hn1 (fun i hi => ha _ (getD_mem (by omega))) (fun j hj => hb _ (getD_mem (by omega))) ba bb r9 n9 c9
  refine (PMul.coldframeref03_Mul.calls _ A0 c0 a A1 c1 b _ W (Kd.C_below hR hB) l0 (Kd.C_below hR' hB) l1 hf).mono ?_
  rintro e w' ⟨v, rfl, hs, hB⟩
  obtain ⟨A, c7, rfl, _, hC⟩ := Kd.R_reads (Kd.S_R hs)
  exact ⟨A, c7, rfl, hC, hB⟩
theorem one_calls (n : Nat) (hn : n ≤ 64) (W : World) :
    Calls Try.prog 18 #[.int .i64 n] W fun e w' => ∃ A c7, e = .returned (.slice A n c7) ∧ Kd.C (Kd.slice 5 (Kd.int .u8)) w' A n (oneL n n) ∧ Below W.heap.size W w' := by
  refine (POne.coldframeref03_One.calls 100 n _ W (one_f n hn)).mono ?_
  rintro e w' ⟨v, rfl, hs, hB⟩
  obtain ⟨A, c7, rfl, _, hC⟩ := Kd.R_reads (by first | exact hs | exact Kd.S_R hs)
  rw [oneL_len] at hC
  rw [oneL_len]
  exact ⟨A, c7, rfl, hC, hB⟩
end Go.Proofs.Ytojaekhplohbjaa.Mat
/- Equations: what Solve leaves solves them; the document's product. -/
namespace Go.Proofs.Ytojaekhplohbjaa.Sol
open Go Go.RowKit Go.Proofs.Ytojaekhplohbjaa.Gf Go.Proofs.Ytojaekhplohbjaa.Gi Go.Proofs.Ytojaekhplohbjaa.Alg Go.Proofs.Ytojaekhplohbjaa.Mem Go.Proofs.Ytojaekhplohbjaa.Rws Go.Proofs.YtojaekhplohbjaaW.PrintWords
set_option linter.unusedVariables false

theorem StepsTo.oneFull {n : Nat} {M0 : Mtx} (h0 : BytM M0) {col t : Nat} {M : Mtx} (h : StepsTo n M0 col t M) : t = col → OneTo (el M) n col := by
  induction h with
  | start => exact fun _ i j _ hj => absurd hj (Nat.not_lt_zero j)
  | skip hs _ _ => exact fun e => absurd hs.le.1 (by omega)
  | @step col t k r M hs htk hk hz hp hr h1 ih =>
    intro e
    have e' : t = col := by omega
    subst e'
    rw [stepI_el (hs.byt h0) hr h1]
    exact stepF_one (el M) n k t (ih rfl) hk htk (of_ne (hs.byt h0 k t) hp)
/-- What Solve leaves solves the equations. -/
theorem StepsTo.eqs {n q : Nat} {A B : Mtx} (hA : BytM A) (hB : BytM B) {C : Mtx} (h : StepsTo n (augM n A B) n n C) (i : Nat) (hi : i < n) (l : Nat) (hl : l < q) :
    dotF n (el A i) (fun j => G.of (C j (n + l))) = G.of (B i l) := by
  have h0 := augM_byt (m := n) hA hB
  have ho := h.oneFull h0 rfl
  obtain ⟨c, hcn, hcl, hcz⟩ : ∃ c : Nat → G, (∀ j, j < n → c j = G.of (C j (n + l))) ∧ c (n + l) = 1 ∧ ∀ j, ¬ j < n → j ≠ n + l → c j = 0 :=
    ⟨fun j => if j < n then G.of (C j (n + l)) else if j = n + l then 1 else 0, fun j hj => by simp [hj], by simp only [if_true]; rw [if_neg (by omega)], fun j h1 h2 => by simp [h1, h2]⟩
  have hk := (h.ker (m := n + q) h0 c).1 (fun p hp => by
    unfold dotF
    rw [sum_at2 (a := p) (b := n + l) (by omega) (by omega) (by omega) (fun j _ h1 h2 => ?_)]
    · rw [hcn p hp, hcl, ho p p hp hp, if_pos rfl, Alg.one_mul, Fd.mul_one]
      exact Fd.add_self _
    · by_cases hj : j < n
      · rw [ho p j hp hj, if_neg (fun e => h1 e.symm), zero_mul]
      · rw [hcz j hj h2, mul_zero])
  have h1 := hk i hi
  unfold dotF at h1
  rw [sum_split] at h1
  have e1 : sum n (fun j => el (augM n A B) i j * c j) = dotF n (el A i) (fun j => G.of (C j (n + l))) := by
    unfold dotF
    exact sum_congr (fun j hj => by rw [hcn j hj]; unfold el augM; rw [if_pos hj])
  have e2 : sum q (fun j => el (augM n A B) i (n + j) * c (n + j)) = G.of (B i l) := by
    rw [sum_at (a := l) hl (fun j _ hne => by rw [hcz (n + j) (by omega) (by omega), mul_zero]), hcl, Fd.mul_one]
    unfold el augM
    rw [if_neg (by omega), Nat.add_sub_cancel_left]
  rw [e1, e2] at h1
  exact eq_of_add_zero h1
theorem of_dotTo {xs ys : List Int} (hx : Mat.Bytes xs) (hy : Mat.Bytes ys) : ∀ k, G.of (Mat.dotTo xs ys k) = sum k (fun j => G.of (xs.getD j 0) * G.of (ys.getD j 0))
  | 0 => rfl
  | k + 1 => by
    show G.of (xorI (Mat.dotTo xs ys k) (gmI (xs.getD k 0) (ys.getD k 0))) = _
    rw [of_xor (Mat.dotTo_range xs ys hx k) (gmI_byt (hx.getD k)), of_gm (hx.getD k) (hy.getD k), of_dotTo hx hy k]
    rfl
/-- The document's product. -/
def prd (n q : Nat) (A Z : Mtx) : Mtx := fun i k => Mat.dotTo ((mat n n A).getD i []) (Mat.colOf n (mat n q Z) k) n
theorem line_bytes {m : Nat} {f : Nat → Int} (h : ∀ i, Byt (f i)) : Mat.Bytes (line m f) := line_byt m f h
theorem mat_getD_bytes {n m : Nat} {A : Mtx} (h : BytM A) (i : Nat) : Mat.Bytes ((mat n m A).getD i []) := by
  rcases Nat.lt_or_ge i n with hi | hi
  · rw [mat_get n m A i hi]; exact line_bytes (h i)
  · rw [List.getD_eq_getElem?_getD, List.getElem?_eq_none (by rw [mat_len]; exact hi)]
    intro x hx; cases hx
theorem prd_byt {n q : Nat} {A Z : Mtx} (hA : BytM A) : BytM (prd n q A Z) := fun i k => Mat.dotTo_range _ _ (mat_getD_bytes hA i) n
theorem prd_eq {n q : Nat} {A B : Mtx} (hA : BytM A) (hB : BytM B) {C : Mtx} (h : StepsTo n (augM n A B) n n C) (i : Nat) (hi : i < n) (l : Nat) (hl : l < q) :
    prd n q A (fun i j => C i (n + j)) i l = B i l := by
  have hC := h.byt (augM_byt (m := n) hA hB)
  have hcol : Mat.Bytes (Mat.colOf n (mat n q (fun i j => C i (n + j))) l) := by
    intro x hx
    obtain ⟨j, _, rfl⟩ := List.mem_map.1 hx
    exact (mat_getD_bytes (n := n) (m := q) (A := fun i j => C i (n + j)) (fun i j => hC i (n + j)) j).getD l
  refine G.of_inj (prd_byt hA i l) (hB i l) ?_
  rw [← h.eqs hA hB i hi l hl]
  unfold prd dotF
  rw [of_dotTo (mat_getD_bytes hA i) hcol]
  refine sum_congr (fun j hj => ?_)
  have e1 : ((mat n n A).getD i []).getD j 0 = A i j := by rw [mat_get n n A i hi, line_get n _ j hj]
  have e2 : (Mat.colOf n (mat n q (fun i j => C i (n + j))) l).getD j 0 = C j (n + l) := by
    unfold Mat.colOf
    rw [Mat.gline_get n _ j hj, mat_get n q _ j hj, line_get q _ l hl]
  rw [e1, e2]
  rfl
/-- The document's product, called. -/
theorem rmul_calls (n q c0 c1 : Nat) (A0 A1 : Option Addr) (A Z : Mtx) (W : World) (hA : Kd.C kRow W A0 n (mat n n A)) (hZ : Kd.C kRow W A1 n (mat n q Z)) (bA : BytM A) (bZ : BytM Z) (h0 : n ≤ c0) (h1 : n ≤ c1) (n1 : 1 ≤ n) (n2 : n ≤ 64) (q2 : q ≤ 64) :
    Calls Try.prog 17 #[.slice A0 n c0, .slice A1 n c1] W fun e w' => ∃ A7 c7, e = .returned (.slice A7 n c7) ∧ Kd.C kRow w' A7 n (mat n q (prd n q A Z)) ∧ Below W.heap.size W w' := by
  have h := Mat.ref_mul A0 A1 c0 c1 (mat n n A) (mat n q Z) n n q W W (by rw [Mat.RowsC, mat_len]; exact hA) (by rw [Mat.RowsC, mat_len]; exact hZ) (Below.refl _ _) (by rw [mat_len]; exact h0) (by rw [mat_len]; exact h1)
    (mat_len _ _ _) (mat_len _ _ _) n1 (fun l hl => by obtain ⟨i, _, rfl⟩ := List.mem_map.1 hl; exact line_len _ _) (fun l hl => by obtain ⟨i, _, rfl⟩ := List.mem_map.1 hl; exact line_len _ _) (mat_bytes n n bA) (mat_bytes n q bZ) n2 n2 q2
  rw [mat_len, mat_len, Mat.grid_len] at h
  refine h.mono ?_
  rintro e w' ⟨A7, c7, rfl, hC, hb⟩
  rw [Mat.RowsC, Mat.grid_len] at hC
  exact ⟨A7, c7, rfl, hC, hb⟩
/-- The matrix by which a product is what it was. -/
def idM : Mtx := fun i j => if i = j then 1 else 0
theorem idM_byt : BytM idM := fun i j => by unfold idM; split; exact ⟨by decide, by decide⟩; exact byt0
theorem oneL_mat (n : Nat) : Mat.oneL n n = mat n n idM := by
  refine List.map_congr_left (fun i hi => ?_)
  have hi' : i < n := by simpa using hi
  unfold Mat.oneRow
  rw [if_pos hi']
  refine List.ext_getElem (by rw [line_len]; simp) (fun j h1 h2 => ?_)
  rw [List.getElem_set]
  simp only [line, List.getElem_map, List.getElem_range, List.getElem_replicate, idM]
theorem mx_one (n i j : Nat) (hi : i < n) (hj : j < n) : mx n (Mat.oneTo n n) i j = idM i j := by
  unfold mx idM
  rw [Mat.oneTo_get n n (Nat.le_refl _) i j hi hj]
  by_cases e : i = j
  · rw [if_pos ⟨e, hi⟩, if_pos e]
  · rw [if_neg (fun h => e h.1), if_neg e]
theorem rone_calls (n : Nat) (hn : n ≤ 64) (W : World) :
    Calls Try.prog 18 #[.int .i64 n] W fun e w' => ∃ A c7, e = .returned (.slice A n c7) ∧ Kd.C kRow w' A n (mat n n idM) ∧ Below W.heap.size W w' := by
  have h := Mat.one_calls n hn W
  rw [oneL_mat] at h
  exact h
end Go.Proofs.Ytojaekhplohbjaa.Sol
/- Equations: Solve and Invert, by whether all rows are needed. -/
namespace Go.Proofs.Ytojaekhplohbjaa.Sol
open Go Go.RowKit Go.Proofs.Ytojaekhplohbjaa.Gf Go.Proofs.Ytojaekhplohbjaa.Gi Go.Proofs.Ytojaekhplohbjaa.Alg Go.Proofs.Ytojaekhplohbjaa.Mem Go.Proofs.Ytojaekhplohbjaa.Rws Go.Proofs.YtojaekhplohbjaaW.PrintWords
set_option linter.unusedVariables false

theorem inv_ex {a : Int} (ha : Byt a) (h : a ≠ 0) : ∃ r, Byt r ∧ gmI a r = 1 := by
  obtain ⟨x, hx, rfl⟩ := byt_nat ha
  exact ⟨((ginv x : Nat) : Int), by have := ginv_lt x hx; exact ⟨by omega, by omega⟩, by simp only [gmI, Int.toNat_natCast]; rw [gm_inv x hx (by omega)]; rfl⟩
theorem least_of (P : Nat → Prop) : ∀ m, (∃ k, k < m ∧ P k) → ∃ k, k < m ∧ P k ∧ ∀ j, j < k → ¬ P j
  | 0, ⟨k, hk, _⟩ => by omega
  | m + 1, ⟨k, hk, h⟩ => by
    by_cases hm : ∃ k, k < m ∧ P k
    · obtain ⟨k, hk, h, hl⟩ := least_of P m hm
      exact ⟨k, by omega, h, hl⟩
    · have : k = m := by
        rcases Nat.lt_or_ge k m with h' | h'
        · exact absurd ⟨k, h', h⟩ hm
        · omega
      subst this
      exact ⟨k, by omega, h, fun j hj hp => hm ⟨j, hj, hp⟩⟩
/-- Steps always comes to something. -/
theorem StepsTo.ex (n : Nat) {M0 : Mtx} (h0 : BytM M0) : ∀ col, ∃ t M, StepsTo n M0 col t M
  | 0 => ⟨0, M0, .start⟩
  | col + 1 => by
    obtain ⟨t, M, h⟩ := StepsTo.ex n h0 col
    by_cases hx : ∃ k, k < n ∧ (t ≤ k ∧ M k col ≠ 0)
    · obtain ⟨k, hk, ⟨h1, h2⟩, hl⟩ := least_of _ _ hx
      obtain ⟨r, hr, hr1⟩ := inv_ex (h.byt h0 k col) h2
      exact ⟨t + 1, _, .step h h1 hk (fun j h3 h4 => by
        rcases Int.decEq (M j col) 0 with e | e
        · exact absurd ⟨h3, e⟩ (hl j h4)
        · exact e) h2 hr hr1⟩
    · exact ⟨t, M, .skip h (fun j h3 h4 => by
        rcases Int.decEq (M j col) 0 with e | e
        · exact absurd ⟨j, h4, h3, e⟩ hx
        · exact e)⟩
theorem mat_mx (n m : Nat) (C : Mtx) : mat n m (mx m (Mat.flat (mat n m C))) = mat n m C := mat_congr n m _ _ (fun i hi j hj => flat_mx n m C i j hi hj)
theorem prd_mx (n q : Nat) (A Z : Mtx) : prd n q (mx n (Mat.flat (mat n n A))) Z = prd n q A Z := by
  unfold prd
  rw [mat_mx]
/-- A pointer to a matrix that solves. -/
def Solves (n q : Nat) (A B : Mtx) (w : World) (e : Ending) (w' : World) : Prop :=
  ∃ b s cap Z, e = .returned (.tuple #[.pointer (some ⟨b, 0, none⟩), .int .i64 0]) ∧ Mat.MatIn w' b s n q cap (Mat.flat (mat n q Z)) ∧ BytM Z ∧ (∀ i, i < n → ∀ l, l < q → prd n q A Z i l = B i l) ∧ Below w.heap.size w w'
section
variable (b s cap b1 s1 cap1 n q t0 : Nat) (A B C0 : Mtx) (w : World)
theorem post_whole {e : Ending} {w' : World} {B2 : Mtx} (hA : BytM A) (hM : Mat.Bytes (Mat.flat (mat n n A))) (hB2 : BytM B2) (hst : StepsTo n A n t0 C0) (ht : t0 = n) (h : SolvePost n q (augM n (mx n (Mat.flat (mat n n A))) B2) w e w')
    (he : ∀ i, i < n → ∀ l, l < q → B2 i l = B i l) : Solves n q A B w e w' := by
  obtain ⟨hb, t, C, hs, hd⟩ := h
  have hx := augM_byt (m := n) (mx_byt (c := n) hM) hB2
  have hsame := (StepsTo.same (m := n) hx hA (fun i hi j hj => by unfold augM; rw [if_pos hj, flat_mx n n A i j hi hj]) hs hst (Nat.le_refl n)).1
  rcases hd with ⟨h1, _⟩ | ⟨h1, b', s', cap', rfl, hm⟩
  · omega
  · subst h1
    refine ⟨b', s', cap', _, rfl, hm, fun i j => hs.byt hx i (t + j), fun i hi l hl => ?_, hb⟩
    have h2 := prd_eq (q := q) (mx_byt (c := t) hM) hB2 hs i hi l hl
    rw [prd_mx] at h2
    rw [h2, he i hi l hl]
theorem post_sing {e : Ending} {w' : World} {B2 : Mtx} (hA : BytM A) (hM : Mat.Bytes (Mat.flat (mat n n A))) (hB2 : BytM B2) (hst : StepsTo n A n t0 C0) (ht : t0 < n) (h : SolvePost n q (augM n (mx n (Mat.flat (mat n n A))) B2) w e w') :
    e = .returned (.tuple #[.pointer none, .int .i64 23]) ∧ Below w.heap.size w w' := by
  obtain ⟨hb, t, C, hs, hd⟩ := h
  have hx := augM_byt (m := n) (mx_byt (c := n) hM) hB2
  have hsame := (StepsTo.same (m := n) hx hA (fun i hi j hj => by unfold augM; rw [if_pos hj, flat_mx n n A i j hi hj]) hs hst (Nat.le_refl n)).1
  rcases hd with ⟨h1, he⟩ | ⟨h1, _⟩
  · exact ⟨he, hb⟩
  · omega
theorem solve_whole (h : Mat.MatIn w b s n n cap (Mat.flat (mat n n A))) (h' : Mat.MatIn w b1 s1 n q cap1 (Mat.flat (mat n q B))) (hA : BytM A) (hst : StepsTo n A n t0 C0) (ht : t0 = n) :
    Calls Try.prog 15 #[.pointer (some ⟨b, 0, none⟩), .pointer (some ⟨b1, 0, none⟩)] w (Solves n q A B w) :=
  (solve_good b s cap b1 s1 cap1 n q _ _ w h h').mono fun e w' hp => post_whole n q t0 A B C0 w hA h.byt (mx_byt h'.byt) hst ht hp (fun i hi l hl => flat_mx n q B i l hi hl)
theorem solve_sing (h : Mat.MatIn w b s n n cap (Mat.flat (mat n n A))) (h' : Mat.MatIn w b1 s1 n q cap1 (Mat.flat (mat n q B))) (hA : BytM A) (hst : StepsTo n A n t0 C0) (ht : t0 < n) :
    Calls Try.prog 15 #[.pointer (some ⟨b, 0, none⟩), .pointer (some ⟨b1, 0, none⟩)] w fun e w' => e = .returned (.tuple #[.pointer none, .int .i64 23]) ∧ Below w.heap.size w w' :=
  (solve_good b s cap b1 s1 cap1 n q _ _ w h h').mono fun e w' hp => post_sing n q t0 A C0 w hA h.byt (mx_byt h'.byt) hst ht hp
theorem oneTo_bytes (n : Nat) : Mat.Bytes (Mat.oneTo n n) := by
  have h : ∀ k, Mat.Bytes (Mat.oneTo n k) := by
    intro k
    induction k with
    | zero => exact Mat.Bytes.zeros _
    | succ k ih => exact ih.set _ 1 (by decide) (by decide)
  exact h n
theorem invert_whole (h : Mat.MatIn w b s n n cap (Mat.flat (mat n n A))) (hA : BytM A) (hst : StepsTo n A n t0 C0) (ht : t0 = n) :
    Calls Try.prog 16 #[.pointer (some ⟨b, 0, none⟩)] w (Solves n n A idM w) :=
  (invert_good b s cap n _ w h).mono fun e w' hp => post_whole n n t0 A idM C0 w hA h.byt (mx_byt (oneTo_bytes n)) hst ht hp (fun i hi l hl => mx_one n i l hi hl)
theorem invert_sing (h : Mat.MatIn w b s n n cap (Mat.flat (mat n n A))) (hA : BytM A) (hst : StepsTo n A n t0 C0) (ht : t0 < n) :
    Calls Try.prog 16 #[.pointer (some ⟨b, 0, none⟩)] w fun e w' => e = .returned (.tuple #[.pointer none, .int .i64 23]) ∧ Below w.heap.size w w' :=
  (invert_good b s cap n _ w h).mono fun e w' hp => post_sing n n t0 A C0 w hA h.byt (mx_byt (oneTo_bytes n)) hst ht hp
end
theorem rrank_is (n m c0 t0 : Nat) (A : Option Addr) (M0 C0 : Mtx) (w : World) (hC : Kd.C kRow w A n (mat n m M0)) (h0 : BytM M0) (hn1 : 1 ≤ n) (hn : n ≤ 1000) (hm1 : 1 ≤ m) (hm : m ≤ 1000) (hst : StepsTo n M0 m t0 C0) :
    Calls Try.prog 14 #[.slice A n c0] w fun e w' => e = .returned (.int .i64 (t0 : Nat)) ∧ Below w.heap.size w w' := by
  refine (rrank_any n m c0 A M0 w hC h0 hn1 hn hm1 hm).mono ?_
  rintro e w' ⟨t, M, rfl, h, hb⟩
  rw [(StepsTo.same (m := m) h0 h0 (fun _ _ _ _ => rfl) h hst (Nat.le_refl m)).1]
  exact ⟨rfl, hb⟩
end Go.Proofs.Ytojaekhplohbjaa.Sol
/- What an argument of rows may hold, and a matrix behind it. -/
namespace Go.Proofs.Ytojaekhplohbjaa.Sol
open Go Go.RowKit Go.Proofs.Ytojaekhplohbjaa.Gi Go.Proofs.Ytojaekhplohbjaa.Gf Go.Proofs.Ytojaekhplohbjaa.Mem Go.Proofs.Ytojaekhplohbjaa.Bits Go.Proofs.Ytojaekhplohbjaa.Rws Go.Proofs.Ytojaekhplohbjaa.Opn Go.Proofs.YtojaekhplohbjaaW.PrintWords
set_option linter.unusedVariables false
theorem r_u8 {a : Int} (h : (Lit.int .u8 a).wf = true) : 0 ≤ a ∧ a < 256 := by
  simp [Lit.wf, IntKind.min, IntKind.max, IntKind.signed, IntKind.bits] at h; omega
/-- A matrix behind rows that may be one. -/
theorem as_mat {ls : List (List Int)} (h : Small4 ls) (hb : ∀ l ∈ ls, ∀ x ∈ l, Byt x) : ∃ n m M0, ls.length = n ∧ ls = mat n m M0 ∧ BytM M0 ∧ 1 ≤ n ∧ n ≤ 9 ∧ 1 ≤ m ∧ m ≤ 9 := by
  have hr := h.1.r0
  have hc0 := h.1.c0
  exact ⟨ls.length, (ls.getD 0 []).length, _, rfl, (rows_mat ls (ls.getD 0 []).length h.1.even).symm, rows_byt hb, by omega, h.2.1, by omega, h.2.2⟩
def RowsOk (l : List (List Int)) : Prop := l.length ≤ 9223372036854775807 ∧ ∀ a ∈ l, a.length ≤ 9223372036854775807 ∧ ∀ x ∈ a, (Lit.int .u8 x).wf = true
theorem RowsOk.byt {l : List (List Int)} (h : RowsOk l) : ∀ a ∈ l, ∀ x ∈ a, Byt x := fun a ha x hx => r_u8 ((h.2 a ha).2 x hx)
theorem opens_bytes : Opens (Kd.slice 5 (Kd.int .u8)) (fun l => l.length ≤ 9223372036854775807 ∧ ∀ a ∈ l, (Lit.int .u8 a).wf = true) 36 := opens_slice Try.underlying36 (by kernel_rfl) (opens_int Try.underlying5)
theorem opens_rows : Opens (Kd.slice 36 (Kd.slice 5 (Kd.int .u8))) RowsOk 22 := opens_slice Try.underlying22 (by kernel_rfl) opens_bytes
end Go.Proofs.Ytojaekhplohbjaa.Sol
/- The statement SolveEquations, walked by hand. -/
namespace Go.Proofs.Ytojaekhplohbjaa.Sol
open Go Go.RowKit Go.Proofs.Ytojaekhplohbjaa.Gi Go.Proofs.Ytojaekhplohbjaa.Gf Go.Proofs.Ytojaekhplohbjaa.Mem Go.Proofs.Ytojaekhplohbjaa.Bits Go.Proofs.Ytojaekhplohbjaa.Rws Go.Proofs.Ytojaekhplohbjaa.Opn Go.Proofs.YtojaekhplohbjaaW.PrintWords
set_option linter.unusedVariables false

set_option maxRecDepth 100000 in
theorem se_no1 (A A1 : Option Addr) (c0 c1 k : Nat) (ls : List (List Int)) (w : World) (h : Mat.RowsC w A ls) (hl : ls.length ≤ c0) (hn : ¬ Small4 ls) :
    Calls Try.prog 4 #[.slice A ls.length c0, .slice A1 k c1] w fun e w' => e = .returned (.bool true) ∧ Below w.heap.size w w' := by
  have SM := Lib.hid (small4_calls A c0 ls false w h hl (decide_eq_false hn))
  clear h hn
  go_enter Try.func4, Try.ntmps4
  go_wp2_with (first
    | (go_at_call 6; (with_reducible refine SM.out.mono ?_); rintro e w1 ⟨rfl, hb⟩; have HB := Lib.hid hb; clear hb)
    | (go_at_call 7; (with_reducible refine (awake4 _).mono ?_); rintro e w9 ⟨rfl, hb⟩; have HB9 := Lib.hid (HB.out.trans (hb.mono HB.out.size)); clear hb))
  go_ret
  exact ⟨rfl, HB9.out⟩
set_option maxRecDepth 100000 in
theorem se_no2 (A A1 : Option Addr) (c0 c1 : Nat) (la lb : List (List Int)) (w : World) (h : Mat.RowsC w A la) (hl : la.length ≤ c0) (hy : Small4 la) (h' : Mat.RowsC w A1 lb) (hl' : lb.length ≤ c1) (hn : ¬ Small4 lb) :
    Calls Try.prog 4 #[.slice A la.length c0, .slice A1 lb.length c1] w fun e w' => e = .returned (.bool true) ∧ Below w.heap.size w w' := by
  have SM := Lib.hid (small4_calls A c0 la true w h hl (decide_eq_true hy))
  have SN := Lib.hid (fun W (hB : Below w.heap.size w W) => small4_calls A1 c1 lb false W (Kd.C_below h' hB) hl' (decide_eq_false hn))
  clear h hn h' hy
  go_enter Try.func4, Try.ntmps4
  go_wp2_with (first
    | (go_at_call 6; (first
        | ((with_reducible refine SM.out.mono ?_); rintro e w1 ⟨rfl, hb⟩; have HB := Lib.hid hb; clear hb)
        | ((with_reducible refine (SN.out _ HB.out).mono ?_); rintro e w1 ⟨rfl, hb⟩; have HBn := Lib.hid (HB.out.trans (hb.mono HB.out.size)); clear HB hb; have HB := HBn; clear HBn)))
    | (go_at_call 7; (with_reducible refine (awake4 _).mono ?_); rintro e w9 ⟨rfl, hb⟩; have HB9 := Lib.hid (HB.out.trans (hb.mono HB.out.size)); clear hb))
  go_ret
  exact ⟨rfl, HB9.out⟩
section
variable (n m k q c0 c1 : Nat) (A A1 : Option Addr) (M0 B0 : Mtx) (w : World)
set_option maxRecDepth 100000 in
set_option maxHeartbeats 4000000 in
theorem se_rect (hA : Kd.C kRow w A n (mat n m M0)) (hA1 : Kd.C kRow w A1 k (mat k q B0)) (hM : BytM M0) (hB : BytM B0) (hN : n ≤ c0 ∧ 1 ≤ n ∧ n ≤ 9 ∧ 1 ≤ m ∧ m ≤ 9) (hK : k ≤ c1 ∧ 1 ≤ k ∧ k ≤ 9 ∧ 1 ≤ q ∧ q ≤ 9) (hne : n ≠ m) :
    Calls Try.prog 4 #[.slice A n c0, .slice A1 k c1] w fun e w' => e = .returned (.bool true) ∧ Below w.heap.size w w' := by
  have HR := Lib.hid hA
  have HRB := Lib.hid hA1
  have H0 := Lib.hid hM
  have HB0 := Lib.hid hB
  have HN := Lib.hid hN
  have HK := Lib.hid hK
  have HNE := Lib.hid hne
  have HB := Lib.hid (Below.refl w.heap.size w)
  have t1 : ((n : Int) != (m : Int)) = true := by simp; omega
  have g0 : (0 : Int) < (n : Int) := by omega
  clear hA hA1 hM hB hN hK hne
  go_enter Try.func4, Try.ntmps4
  go_upto_region 11 with (first
    | (go_at_call 6; (first
        | (with_reducible refine (small_yes n _ c0 A M0 _ HR.out HN.out.1 HN.out.2.1 HN.out.2.2.1 HN.out.2.2.2.1 HN.out.2.2.2.2).mono ?_)
        | (with_reducible refine (small_yes k q c1 A1 B0 _ HRB.out HK.out.1 HK.out.2.1 HK.out.2.2.1 HK.out.2.2.2.1 HK.out.2.2.2.2).mono ?_)); rintro e w1 ⟨rfl, hb⟩; (try replace HX1 := Lib.hid (Kd.C_below HX1.out hb)); (try replace HX2 := Lib.hid (Kd.C_below HX2.out hb)); (try replace HX3 := Lib.hid (Kd.C_below HX3.out hb)); (try replace HM := Lib.hid (HM.out.below hb)); (try replace HMB := Lib.hid (HMB.out.below hb)); (try replace HZ := Lib.hid (HZ.out.below hb)); (try replace HI := Lib.hid (HI.out.below hb)); replace HR := Lib.hid (Kd.C_below HR.out hb); replace HRB := Lib.hid (Kd.C_below HRB.out hb); replace HB := Lib.hid (HB.out.trans (hb.mono HB.out.size)); clear hb)
    | (go_at_call 8; (first
        | ((with_reducible refine (of_mat n _ c0 A M0 _ HR.out HN.out.1 H0.out HN.out.2.1 (Nat.le_trans HN.out.2.2.1 (by decide)) HN.out.2.2.2.1 (Nat.le_trans HN.out.2.2.2.2 (by decide))).mono ?_); rintro e w2 ⟨b, s, cap, rfl, hm, hb⟩; (try replace HX1 := Lib.hid (Kd.C_below HX1.out hb)); (try replace HX2 := Lib.hid (Kd.C_below HX2.out hb)); (try replace HX3 := Lib.hid (Kd.C_below HX3.out hb)); (try replace HM := Lib.hid (HM.out.below hb)); (try replace HMB := Lib.hid (HMB.out.below hb)); (try replace HZ := Lib.hid (HZ.out.below hb)); (try replace HI := Lib.hid (HI.out.below hb)); replace HR := Lib.hid (Kd.C_below HR.out hb); replace HRB := Lib.hid (Kd.C_below HRB.out hb); replace HB := Lib.hid (HB.out.trans (hb.mono HB.out.size)); clear hb; have HM := Lib.hid hm; clear hm)
        | ((with_reducible refine (of_mat k q c1 A1 B0 _ HRB.out HK.out.1 HB0.out HK.out.2.1 (Nat.le_trans HK.out.2.2.1 (by decide)) HK.out.2.2.2.1 (Nat.le_trans HK.out.2.2.2.2 (by decide))).mono ?_); rintro e w2 ⟨bb, sb, capb, rfl, hm, hb⟩; (try replace HX1 := Lib.hid (Kd.C_below HX1.out hb)); (try replace HX2 := Lib.hid (Kd.C_below HX2.out hb)); (try replace HX3 := Lib.hid (Kd.C_below HX3.out hb)); (try replace HM := Lib.hid (HM.out.below hb)); (try replace HMB := Lib.hid (HMB.out.below hb)); (try replace HZ := Lib.hid (HZ.out.below hb)); (try replace HI := Lib.hid (HI.out.below hb)); replace HR := Lib.hid (Kd.C_below HR.out hb); replace HRB := Lib.hid (Kd.C_below HRB.out hb); replace HB := Lib.hid (HB.out.trans (hb.mono HB.out.size)); clear hb; have HMB := Lib.hid hm; clear hm)))
    | (go_at_call 15; (first
        | ((with_reducible refine (solve_nil bb sb capb k q _ _ HMB.out).mono ?_); rintro e w3 ⟨rfl, hb⟩; (try replace HX1 := Lib.hid (Kd.C_below HX1.out hb)); (try replace HX2 := Lib.hid (Kd.C_below HX2.out hb)); (try replace HX3 := Lib.hid (Kd.C_below HX3.out hb)); (try replace HM := Lib.hid (HM.out.below hb)); (try replace HMB := Lib.hid (HMB.out.below hb)); (try replace HZ := Lib.hid (HZ.out.below hb)); (try replace HI := Lib.hid (HI.out.below hb)); replace HR := Lib.hid (Kd.C_below HR.out hb); replace HRB := Lib.hid (Kd.C_below HRB.out hb); replace HB := Lib.hid (HB.out.trans (hb.mono HB.out.size)); clear hb)
        | ((with_reducible refine (solve_sizes b s cap bb sb capb n m k q _ _ _ HM.out HMB.out (.inl HNE.out)).mono ?_); rintro e w3 ⟨rfl, hb⟩; (try replace HX1 := Lib.hid (Kd.C_below HX1.out hb)); (try replace HX2 := Lib.hid (Kd.C_below HX2.out hb)); (try replace HX3 := Lib.hid (Kd.C_below HX3.out hb)); (try replace HM := Lib.hid (HM.out.below hb)); (try replace HMB := Lib.hid (HMB.out.below hb)); (try replace HZ := Lib.hid (HZ.out.below hb)); (try replace HI := Lib.hid (HI.out.below hb)); replace HR := Lib.hid (Kd.C_below HR.out hb); replace HRB := Lib.hid (Kd.C_below HRB.out hb); replace HB := Lib.hid (HB.out.trans (hb.mono HB.out.size)); clear hb)))
    | (go_at_call 16; (first
        | ((with_reducible refine (invert_nil _).mono ?_); rintro e w4 ⟨rfl, hb⟩; (try replace HX1 := Lib.hid (Kd.C_below HX1.out hb)); (try replace HX2 := Lib.hid (Kd.C_below HX2.out hb)); (try replace HX3 := Lib.hid (Kd.C_below HX3.out hb)); (try replace HM := Lib.hid (HM.out.below hb)); (try replace HMB := Lib.hid (HMB.out.below hb)); (try replace HZ := Lib.hid (HZ.out.below hb)); (try replace HI := Lib.hid (HI.out.below hb)); replace HR := Lib.hid (Kd.C_below HR.out hb); replace HRB := Lib.hid (Kd.C_below HRB.out hb); replace HB := Lib.hid (HB.out.trans (hb.mono HB.out.size)); clear hb)
        | ((with_reducible refine (invert_sizes b s cap n m _ _ HM.out HNE.out).mono ?_); rintro e w4 ⟨rfl, hb⟩; (try replace HX1 := Lib.hid (Kd.C_below HX1.out hb)); (try replace HX2 := Lib.hid (Kd.C_below HX2.out hb)); (try replace HX3 := Lib.hid (Kd.C_below HX3.out hb)); (try replace HM := Lib.hid (HM.out.below hb)); (try replace HMB := Lib.hid (HMB.out.below hb)); (try replace HZ := Lib.hid (HZ.out.below hb)); (try replace HI := Lib.hid (HI.out.below hb)); replace HR := Lib.hid (Kd.C_below HR.out hb); replace HRB := Lib.hid (Kd.C_below HRB.out hb); replace HB := Lib.hid (HB.out.trans (hb.mono HB.out.size)); clear hb))))
  obtain ⟨ad, A2, c2, e2, hcell, _, _⟩ := mrow HR.out 0 (by omega)
  rw [show ad.add 0 = ad from rfl] at hcell
  have HAD := Lib.hid e2
  subst e2
  go_wp2_with ((go_at_call 7; (with_reducible refine (awake4 _).mono ?_); rintro e w9 ⟨rfl, hb⟩; have HB9 := Lib.hid (HB.out.trans (hb.mono HB.out.size)); clear hb))
  go_ret
  exact ⟨rfl, HB9.out⟩
end
section
variable (n k q c0 c1 t0 : Nat) (A A1 : Option Addr) (M0 B0 C0 : Mtx) (w : World)
set_option maxRecDepth 100000 in
set_option maxHeartbeats 4000000 in
theorem se_sing (hA : Kd.C kRow w A n (mat n n M0)) (hA1 : Kd.C kRow w A1 k (mat k q B0)) (hM : BytM M0) (hB : BytM B0) (hN : n ≤ c0 ∧ 1 ≤ n ∧ n ≤ 9 ∧ 1 ≤ n ∧ n ≤ 9) (hK : k ≤ c1 ∧ 1 ≤ k ∧ k ≤ 9 ∧ 1 ≤ q ∧ q ≤ 9) (hst : StepsTo n M0 n t0 C0) (ht : t0 < n) (hne : k ≠ n) :
    Calls Try.prog 4 #[.slice A n c0, .slice A1 k c1] w fun e w' => e = .returned (.bool true) ∧ Below w.heap.size w w' := by
  have HR := Lib.hid hA
  have HRB := Lib.hid hA1
  have H0 := Lib.hid hM
  have HB0 := Lib.hid hB
  have HN := Lib.hid hN
  have HK := Lib.hid hK
  have HST := Lib.hid hst
  have HT := Lib.hid ht
  have HB := Lib.hid (Below.refl w.heap.size w)
  have t1 : ((n : Int) != (n : Int)) = false := by simp
  have g0 : (0 : Int) < (n : Int) := by omega
  have HNE := Lib.hid hne
  have t2 : ((t0 : Int) == (n : Int)) = false := by simp; omega
  have t3 : ((k : Int) != (n : Int)) = true := by simp; omega
  clear hA hA1 hM hB hN hK hst ht hne
  go_enter Try.func4, Try.ntmps4
  go_upto_region 11 with (first
    | (go_at_call 6; (first
        | (with_reducible refine (small_yes n _ c0 A M0 _ HR.out HN.out.1 HN.out.2.1 HN.out.2.2.1 HN.out.2.2.2.1 HN.out.2.2.2.2).mono ?_)
        | (with_reducible refine (small_yes k q c1 A1 B0 _ HRB.out HK.out.1 HK.out.2.1 HK.out.2.2.1 HK.out.2.2.2.1 HK.out.2.2.2.2).mono ?_)); rintro e w1 ⟨rfl, hb⟩; (try replace HX1 := Lib.hid (Kd.C_below HX1.out hb)); (try replace HX2 := Lib.hid (Kd.C_below HX2.out hb)); (try replace HX3 := Lib.hid (Kd.C_below HX3.out hb)); (try replace HM := Lib.hid (HM.out.below hb)); (try replace HMB := Lib.hid (HMB.out.below hb)); (try replace HZ := Lib.hid (HZ.out.below hb)); (try replace HI := Lib.hid (HI.out.below hb)); replace HR := Lib.hid (Kd.C_below HR.out hb); replace HRB := Lib.hid (Kd.C_below HRB.out hb); replace HB := Lib.hid (HB.out.trans (hb.mono HB.out.size)); clear hb)
    | (go_at_call 8; (first
        | ((with_reducible refine (of_mat n _ c0 A M0 _ HR.out HN.out.1 H0.out HN.out.2.1 (Nat.le_trans HN.out.2.2.1 (by decide)) HN.out.2.2.2.1 (Nat.le_trans HN.out.2.2.2.2 (by decide))).mono ?_); rintro e w2 ⟨b, s, cap, rfl, hm, hb⟩; (try replace HX1 := Lib.hid (Kd.C_below HX1.out hb)); (try replace HX2 := Lib.hid (Kd.C_below HX2.out hb)); (try replace HX3 := Lib.hid (Kd.C_below HX3.out hb)); (try replace HM := Lib.hid (HM.out.below hb)); (try replace HMB := Lib.hid (HMB.out.below hb)); (try replace HZ := Lib.hid (HZ.out.below hb)); (try replace HI := Lib.hid (HI.out.below hb)); replace HR := Lib.hid (Kd.C_below HR.out hb); replace HRB := Lib.hid (Kd.C_below HRB.out hb); replace HB := Lib.hid (HB.out.trans (hb.mono HB.out.size)); clear hb; have HM := Lib.hid hm; clear hm)
        | ((with_reducible refine (of_mat k q c1 A1 B0 _ HRB.out HK.out.1 HB0.out HK.out.2.1 (Nat.le_trans HK.out.2.2.1 (by decide)) HK.out.2.2.2.1 (Nat.le_trans HK.out.2.2.2.2 (by decide))).mono ?_); rintro e w2 ⟨bb, sb, capb, rfl, hm, hb⟩; (try replace HX1 := Lib.hid (Kd.C_below HX1.out hb)); (try replace HX2 := Lib.hid (Kd.C_below HX2.out hb)); (try replace HX3 := Lib.hid (Kd.C_below HX3.out hb)); (try replace HM := Lib.hid (HM.out.below hb)); (try replace HMB := Lib.hid (HMB.out.below hb)); (try replace HZ := Lib.hid (HZ.out.below hb)); (try replace HI := Lib.hid (HI.out.below hb)); replace HR := Lib.hid (Kd.C_below HR.out hb); replace HRB := Lib.hid (Kd.C_below HRB.out hb); replace HB := Lib.hid (HB.out.trans (hb.mono HB.out.size)); clear hb; have HMB := Lib.hid hm; clear hm)))
    | (go_at_call 15; (first
        | ((with_reducible refine (solve_nil bb sb capb k q _ _ HMB.out).mono ?_); rintro e w3 ⟨rfl, hb⟩; (try replace HX1 := Lib.hid (Kd.C_below HX1.out hb)); (try replace HX2 := Lib.hid (Kd.C_below HX2.out hb)); (try replace HX3 := Lib.hid (Kd.C_below HX3.out hb)); (try replace HM := Lib.hid (HM.out.below hb)); (try replace HMB := Lib.hid (HMB.out.below hb)); (try replace HZ := Lib.hid (HZ.out.below hb)); (try replace HI := Lib.hid (HI.out.below hb)); replace HR := Lib.hid (Kd.C_below HR.out hb); replace HRB := Lib.hid (Kd.C_below HRB.out hb); replace HB := Lib.hid (HB.out.trans (hb.mono HB.out.size)); clear hb)
        | ((with_reducible refine (solve_sizes b s cap bb sb capb _ _ k q _ _ _ HM.out HMB.out (.inr HNE.out)).mono ?_); rintro e w3 ⟨rfl, hb⟩; (try replace HX1 := Lib.hid (Kd.C_below HX1.out hb)); (try replace HX2 := Lib.hid (Kd.C_below HX2.out hb)); (try replace HX3 := Lib.hid (Kd.C_below HX3.out hb)); (try replace HM := Lib.hid (HM.out.below hb)); (try replace HMB := Lib.hid (HMB.out.below hb)); (try replace HZ := Lib.hid (HZ.out.below hb)); (try replace HI := Lib.hid (HI.out.below hb)); replace HR := Lib.hid (Kd.C_below HR.out hb); replace HRB := Lib.hid (Kd.C_below HRB.out hb); replace HB := Lib.hid (HB.out.trans (hb.mono HB.out.size)); clear hb)))
    | (go_at_call 16; (first
        | ((with_reducible refine (invert_nil _).mono ?_); rintro e w4 ⟨rfl, hb⟩; (try replace HX1 := Lib.hid (Kd.C_below HX1.out hb)); (try replace HX2 := Lib.hid (Kd.C_below HX2.out hb)); (try replace HX3 := Lib.hid (Kd.C_below HX3.out hb)); (try replace HM := Lib.hid (HM.out.below hb)); (try replace HMB := Lib.hid (HMB.out.below hb)); (try replace HZ := Lib.hid (HZ.out.below hb)); (try replace HI := Lib.hid (HI.out.below hb)); replace HR := Lib.hid (Kd.C_below HR.out hb); replace HRB := Lib.hid (Kd.C_below HRB.out hb); replace HB := Lib.hid (HB.out.trans (hb.mono HB.out.size)); clear hb)
        | ((with_reducible refine (invert_sing b s cap n t0 M0 C0 _ HM.out H0.out HST.out HT.out).mono ?_); rintro e w4 ⟨rfl, hb⟩; (try replace HX1 := Lib.hid (Kd.C_below HX1.out hb)); (try replace HX2 := Lib.hid (Kd.C_below HX2.out hb)); (try replace HX3 := Lib.hid (Kd.C_below HX3.out hb)); (try replace HM := Lib.hid (HM.out.below hb)); (try replace HMB := Lib.hid (HMB.out.below hb)); (try replace HZ := Lib.hid (HZ.out.below hb)); (try replace HI := Lib.hid (HI.out.below hb)); replace HR := Lib.hid (Kd.C_below HR.out hb); replace HRB := Lib.hid (Kd.C_below HRB.out hb); replace HB := Lib.hid (HB.out.trans (hb.mono HB.out.size)); clear hb))))
  obtain ⟨ad, A2, c2, e2, hcell, _, _⟩ := mrow HR.out 0 (by omega)
  rw [show ad.add 0 = ad from rfl] at hcell
  have HAD := Lib.hid e2
  subst e2
  go_wp2_with (first
    | (go_at_call 14; (with_reducible refine (rrank_is n n c0 t0 _ M0 C0 _ HR.out H0.out HN.out.2.1 (Nat.le_trans HN.out.2.2.1 (by decide)) HN.out.2.1 (Nat.le_trans HN.out.2.2.1 (by decide)) HST.out).mono ?_); rintro e w5 ⟨rfl, hb⟩; (try replace HX1 := Lib.hid (Kd.C_below HX1.out hb)); (try replace HX2 := Lib.hid (Kd.C_below HX2.out hb)); (try replace HX3 := Lib.hid (Kd.C_below HX3.out hb)); (try replace HM := Lib.hid (HM.out.below hb)); (try replace HMB := Lib.hid (HMB.out.below hb)); (try replace HZ := Lib.hid (HZ.out.below hb)); (try replace HI := Lib.hid (HI.out.below hb)); replace HR := Lib.hid (Kd.C_below HR.out hb); replace HRB := Lib.hid (Kd.C_below HRB.out hb); replace HB := Lib.hid (HB.out.trans (hb.mono HB.out.size)); clear hb)
    | (go_at_call 7; (with_reducible refine (awake4 _).mono ?_); rintro e w9 ⟨rfl, hb⟩; have HB9 := Lib.hid (HB.out.trans (hb.mono HB.out.size)); clear hb))
  go_ret
  exact ⟨rfl, HB9.out⟩
set_option maxRecDepth 100000 in
set_option maxHeartbeats 4000000 in
theorem se_sing2 (hA : Kd.C kRow w A n (mat n n M0)) (hA1 : Kd.C kRow w A1 n (mat n q B0)) (hM : BytM M0) (hB : BytM B0) (hN : n ≤ c0 ∧ 1 ≤ n ∧ n ≤ 9 ∧ 1 ≤ n ∧ n ≤ 9) (hK : n ≤ c1 ∧ 1 ≤ n ∧ n ≤ 9 ∧ 1 ≤ q ∧ q ≤ 9) (hst : StepsTo n M0 n t0 C0) (ht : t0 < n) :
    Calls Try.prog 4 #[.slice A n c0, .slice A1 n c1] w fun e w' => e = .returned (.bool true) ∧ Below w.heap.size w w' := by
  have HR := Lib.hid hA
  have HRB := Lib.hid hA1
  have H0 := Lib.hid hM
  have HB0 := Lib.hid hB
  have HN := Lib.hid hN
  have HK := Lib.hid hK
  have HST := Lib.hid hst
  have HT := Lib.hid ht
  have HB := Lib.hid (Below.refl w.heap.size w)
  have t1 : ((n : Int) != (n : Int)) = false := by simp
  have g0 : (0 : Int) < (n : Int) := by omega
  have t2 : ((t0 : Int) == (n : Int)) = false := by simp; omega
  clear hA hA1 hM hB hN hK hst ht
  go_enter Try.func4, Try.ntmps4
  go_upto_region 11 with (first
    | (go_at_call 6; (first
        | (with_reducible refine (small_yes n _ c0 A M0 _ HR.out HN.out.1 HN.out.2.1 HN.out.2.2.1 HN.out.2.2.2.1 HN.out.2.2.2.2).mono ?_)
        | (with_reducible refine (small_yes n q c1 A1 B0 _ HRB.out HK.out.1 HK.out.2.1 HK.out.2.2.1 HK.out.2.2.2.1 HK.out.2.2.2.2).mono ?_)); rintro e w1 ⟨rfl, hb⟩; (try replace HX1 := Lib.hid (Kd.C_below HX1.out hb)); (try replace HX2 := Lib.hid (Kd.C_below HX2.out hb)); (try replace HX3 := Lib.hid (Kd.C_below HX3.out hb)); (try replace HM := Lib.hid (HM.out.below hb)); (try replace HMB := Lib.hid (HMB.out.below hb)); (try replace HZ := Lib.hid (HZ.out.below hb)); (try replace HI := Lib.hid (HI.out.below hb)); replace HR := Lib.hid (Kd.C_below HR.out hb); replace HRB := Lib.hid (Kd.C_below HRB.out hb); replace HB := Lib.hid (HB.out.trans (hb.mono HB.out.size)); clear hb)
    | (go_at_call 8; (first
        | ((with_reducible refine (of_mat n _ c0 A M0 _ HR.out HN.out.1 H0.out HN.out.2.1 (Nat.le_trans HN.out.2.2.1 (by decide)) HN.out.2.2.2.1 (Nat.le_trans HN.out.2.2.2.2 (by decide))).mono ?_); rintro e w2 ⟨b, s, cap, rfl, hm, hb⟩; (try replace HX1 := Lib.hid (Kd.C_below HX1.out hb)); (try replace HX2 := Lib.hid (Kd.C_below HX2.out hb)); (try replace HX3 := Lib.hid (Kd.C_below HX3.out hb)); (try replace HM := Lib.hid (HM.out.below hb)); (try replace HMB := Lib.hid (HMB.out.below hb)); (try replace HZ := Lib.hid (HZ.out.below hb)); (try replace HI := Lib.hid (HI.out.below hb)); replace HR := Lib.hid (Kd.C_below HR.out hb); replace HRB := Lib.hid (Kd.C_below HRB.out hb); replace HB := Lib.hid (HB.out.trans (hb.mono HB.out.size)); clear hb; have HM := Lib.hid hm; clear hm)
        | ((with_reducible refine (of_mat n q c1 A1 B0 _ HRB.out HK.out.1 HB0.out HK.out.2.1 (Nat.le_trans HK.out.2.2.1 (by decide)) HK.out.2.2.2.1 (Nat.le_trans HK.out.2.2.2.2 (by decide))).mono ?_); rintro e w2 ⟨bb, sb, capb, rfl, hm, hb⟩; (try replace HX1 := Lib.hid (Kd.C_below HX1.out hb)); (try replace HX2 := Lib.hid (Kd.C_below HX2.out hb)); (try replace HX3 := Lib.hid (Kd.C_below HX3.out hb)); (try replace HM := Lib.hid (HM.out.below hb)); (try replace HMB := Lib.hid (HMB.out.below hb)); (try replace HZ := Lib.hid (HZ.out.below hb)); (try replace HI := Lib.hid (HI.out.below hb)); replace HR := Lib.hid (Kd.C_below HR.out hb); replace HRB := Lib.hid (Kd.C_below HRB.out hb); replace HB := Lib.hid (HB.out.trans (hb.mono HB.out.size)); clear hb; have HMB := Lib.hid hm; clear hm)))
    | (go_at_call 15; (first
        | ((with_reducible refine (solve_nil bb sb capb n q _ _ HMB.out).mono ?_); rintro e w3 ⟨rfl, hb⟩; (try replace HX1 := Lib.hid (Kd.C_below HX1.out hb)); (try replace HX2 := Lib.hid (Kd.C_below HX2.out hb)); (try replace HX3 := Lib.hid (Kd.C_below HX3.out hb)); (try replace HM := Lib.hid (HM.out.below hb)); (try replace HMB := Lib.hid (HMB.out.below hb)); (try replace HZ := Lib.hid (HZ.out.below hb)); (try replace HI := Lib.hid (HI.out.below hb)); replace HR := Lib.hid (Kd.C_below HR.out hb); replace HRB := Lib.hid (Kd.C_below HRB.out hb); replace HB := Lib.hid (HB.out.trans (hb.mono HB.out.size)); clear hb)
        | ((with_reducible refine (solve_sing b s cap bb sb capb n q t0 M0 B0 C0 _ HM.out HMB.out H0.out HST.out HT.out).mono ?_); rintro e w3 ⟨rfl, hb⟩; (try replace HX1 := Lib.hid (Kd.C_below HX1.out hb)); (try replace HX2 := Lib.hid (Kd.C_below HX2.out hb)); (try replace HX3 := Lib.hid (Kd.C_below HX3.out hb)); (try replace HM := Lib.hid (HM.out.below hb)); (try replace HMB := Lib.hid (HMB.out.below hb)); (try replace HZ := Lib.hid (HZ.out.below hb)); (try replace HI := Lib.hid (HI.out.below hb)); replace HR := Lib.hid (Kd.C_below HR.out hb); replace HRB := Lib.hid (Kd.C_below HRB.out hb); replace HB := Lib.hid (HB.out.trans (hb.mono HB.out.size)); clear hb)))
    | (go_at_call 16; (first
        | ((with_reducible refine (invert_nil _).mono ?_); rintro e w4 ⟨rfl, hb⟩; (try replace HX1 := Lib.hid (Kd.C_below HX1.out hb)); (try replace HX2 := Lib.hid (Kd.C_below HX2.out hb)); (try replace HX3 := Lib.hid (Kd.C_below HX3.out hb)); (try replace HM := Lib.hid (HM.out.below hb)); (try replace HMB := Lib.hid (HMB.out.below hb)); (try replace HZ := Lib.hid (HZ.out.below hb)); (try replace HI := Lib.hid (HI.out.below hb)); replace HR := Lib.hid (Kd.C_below HR.out hb); replace HRB := Lib.hid (Kd.C_below HRB.out hb); replace HB := Lib.hid (HB.out.trans (hb.mono HB.out.size)); clear hb)
        | ((with_reducible refine (invert_sing b s cap n t0 M0 C0 _ HM.out H0.out HST.out HT.out).mono ?_); rintro e w4 ⟨rfl, hb⟩; (try replace HX1 := Lib.hid (Kd.C_below HX1.out hb)); (try replace HX2 := Lib.hid (Kd.C_below HX2.out hb)); (try replace HX3 := Lib.hid (Kd.C_below HX3.out hb)); (try replace HM := Lib.hid (HM.out.below hb)); (try replace HMB := Lib.hid (HMB.out.below hb)); (try replace HZ := Lib.hid (HZ.out.below hb)); (try replace HI := Lib.hid (HI.out.below hb)); replace HR := Lib.hid (Kd.C_below HR.out hb); replace HRB := Lib.hid (Kd.C_below HRB.out hb); replace HB := Lib.hid (HB.out.trans (hb.mono HB.out.size)); clear hb))))
  obtain ⟨ad, A2, c2, e2, hcell, _, _⟩ := mrow HR.out 0 (by omega)
  rw [show ad.add 0 = ad from rfl] at hcell
  have HAD := Lib.hid e2
  subst e2
  go_wp2_with (first
    | (go_at_call 14; (with_reducible refine (rrank_is n n c0 t0 _ M0 C0 _ HR.out H0.out HN.out.2.1 (Nat.le_trans HN.out.2.2.1 (by decide)) HN.out.2.1 (Nat.le_trans HN.out.2.2.1 (by decide)) HST.out).mono ?_); rintro e w5 ⟨rfl, hb⟩; (try replace HX1 := Lib.hid (Kd.C_below HX1.out hb)); (try replace HX2 := Lib.hid (Kd.C_below HX2.out hb)); (try replace HX3 := Lib.hid (Kd.C_below HX3.out hb)); (try replace HM := Lib.hid (HM.out.below hb)); (try replace HMB := Lib.hid (HMB.out.below hb)); (try replace HZ := Lib.hid (HZ.out.below hb)); (try replace HI := Lib.hid (HI.out.below hb)); replace HR := Lib.hid (Kd.C_below HR.out hb); replace HRB := Lib.hid (Kd.C_below HRB.out hb); replace HB := Lib.hid (HB.out.trans (hb.mono HB.out.size)); clear hb)
    | (go_at_call 7; (with_reducible refine (awake4 _).mono ?_); rintro e w9 ⟨rfl, hb⟩; have HB9 := Lib.hid (HB.out.trans (hb.mono HB.out.size)); clear hb))
  go_ret
  exact ⟨rfl, HB9.out⟩
set_option maxRecDepth 100000 in
set_option maxHeartbeats 4000000 in
theorem se_whole1 (hA : Kd.C kRow w A n (mat n n M0)) (hA1 : Kd.C kRow w A1 k (mat k q B0)) (hM : BytM M0) (hB : BytM B0) (hN : n ≤ c0 ∧ 1 ≤ n ∧ n ≤ 9 ∧ 1 ≤ n ∧ n ≤ 9) (hK : k ≤ c1 ∧ 1 ≤ k ∧ k ≤ 9 ∧ 1 ≤ q ∧ q ≤ 9) (hst : StepsTo n M0 n t0 C0) (ht : t0 = n) (hne : k ≠ n) :
    Calls Try.prog 4 #[.slice A n c0, .slice A1 k c1] w fun e w' => e = .returned (.bool true) ∧ Below w.heap.size w w' := by
  have HR := Lib.hid hA
  have HRB := Lib.hid hA1
  have H0 := Lib.hid hM
  have HB0 := Lib.hid hB
  have HN := Lib.hid hN
  have HK := Lib.hid hK
  have HST := Lib.hid hst
  have HT := Lib.hid ht
  have HB := Lib.hid (Below.refl w.heap.size w)
  have t1 : ((n : Int) != (n : Int)) = false := by simp
  have g0 : (0 : Int) < (n : Int) := by omega
  have HNE := Lib.hid hne
  have t2 : ((t0 : Int) == (n : Int)) = true := by simp; omega
  have t3 : ((k : Int) != (n : Int)) = true := by simp; omega
  clear hA hA1 hM hB hN hK hst ht hne
  go_enter Try.func4, Try.ntmps4
  go_upto_region 11 with (first
    | (go_at_call 6; (first
        | (with_reducible refine (small_yes n _ c0 A M0 _ HR.out HN.out.1 HN.out.2.1 HN.out.2.2.1 HN.out.2.2.2.1 HN.out.2.2.2.2).mono ?_)
        | (with_reducible refine (small_yes k q c1 A1 B0 _ HRB.out HK.out.1 HK.out.2.1 HK.out.2.2.1 HK.out.2.2.2.1 HK.out.2.2.2.2).mono ?_)); rintro e w1 ⟨rfl, hb⟩; (try replace HX1 := Lib.hid (Kd.C_below HX1.out hb)); (try replace HX2 := Lib.hid (Kd.C_below HX2.out hb)); (try replace HX3 := Lib.hid (Kd.C_below HX3.out hb)); (try replace HM := Lib.hid (HM.out.below hb)); (try replace HMB := Lib.hid (HMB.out.below hb)); (try replace HZ := Lib.hid (HZ.out.below hb)); (try replace HI := Lib.hid (HI.out.below hb)); replace HR := Lib.hid (Kd.C_below HR.out hb); replace HRB := Lib.hid (Kd.C_below HRB.out hb); replace HB := Lib.hid (HB.out.trans (hb.mono HB.out.size)); clear hb)
    | (go_at_call 8; (first
        | ((with_reducible refine (of_mat n _ c0 A M0 _ HR.out HN.out.1 H0.out HN.out.2.1 (Nat.le_trans HN.out.2.2.1 (by decide)) HN.out.2.2.2.1 (Nat.le_trans HN.out.2.2.2.2 (by decide))).mono ?_); rintro e w2 ⟨b, s, cap, rfl, hm, hb⟩; (try replace HX1 := Lib.hid (Kd.C_below HX1.out hb)); (try replace HX2 := Lib.hid (Kd.C_below HX2.out hb)); (try replace HX3 := Lib.hid (Kd.C_below HX3.out hb)); (try replace HM := Lib.hid (HM.out.below hb)); (try replace HMB := Lib.hid (HMB.out.below hb)); (try replace HZ := Lib.hid (HZ.out.below hb)); (try replace HI := Lib.hid (HI.out.below hb)); replace HR := Lib.hid (Kd.C_below HR.out hb); replace HRB := Lib.hid (Kd.C_below HRB.out hb); replace HB := Lib.hid (HB.out.trans (hb.mono HB.out.size)); clear hb; have HM := Lib.hid hm; clear hm)
        | ((with_reducible refine (of_mat k q c1 A1 B0 _ HRB.out HK.out.1 HB0.out HK.out.2.1 (Nat.le_trans HK.out.2.2.1 (by decide)) HK.out.2.2.2.1 (Nat.le_trans HK.out.2.2.2.2 (by decide))).mono ?_); rintro e w2 ⟨bb, sb, capb, rfl, hm, hb⟩; (try replace HX1 := Lib.hid (Kd.C_below HX1.out hb)); (try replace HX2 := Lib.hid (Kd.C_below HX2.out hb)); (try replace HX3 := Lib.hid (Kd.C_below HX3.out hb)); (try replace HM := Lib.hid (HM.out.below hb)); (try replace HMB := Lib.hid (HMB.out.below hb)); (try replace HZ := Lib.hid (HZ.out.below hb)); (try replace HI := Lib.hid (HI.out.below hb)); replace HR := Lib.hid (Kd.C_below HR.out hb); replace HRB := Lib.hid (Kd.C_below HRB.out hb); replace HB := Lib.hid (HB.out.trans (hb.mono HB.out.size)); clear hb; have HMB := Lib.hid hm; clear hm)))
    | (go_at_call 15; (first
        | ((with_reducible refine (solve_nil bb sb capb k q _ _ HMB.out).mono ?_); rintro e w3 ⟨rfl, hb⟩; (try replace HX1 := Lib.hid (Kd.C_below HX1.out hb)); (try replace HX2 := Lib.hid (Kd.C_below HX2.out hb)); (try replace HX3 := Lib.hid (Kd.C_below HX3.out hb)); (try replace HM := Lib.hid (HM.out.below hb)); (try replace HMB := Lib.hid (HMB.out.below hb)); (try replace HZ := Lib.hid (HZ.out.below hb)); (try replace HI := Lib.hid (HI.out.below hb)); replace HR := Lib.hid (Kd.C_below HR.out hb); replace HRB := Lib.hid (Kd.C_below HRB.out hb); replace HB := Lib.hid (HB.out.trans (hb.mono HB.out.size)); clear hb)
        | ((with_reducible refine (solve_sizes b s cap bb sb capb _ _ k q _ _ _ HM.out HMB.out (.inr HNE.out)).mono ?_); rintro e w3 ⟨rfl, hb⟩; (try replace HX1 := Lib.hid (Kd.C_below HX1.out hb)); (try replace HX2 := Lib.hid (Kd.C_below HX2.out hb)); (try replace HX3 := Lib.hid (Kd.C_below HX3.out hb)); (try replace HM := Lib.hid (HM.out.below hb)); (try replace HMB := Lib.hid (HMB.out.below hb)); (try replace HZ := Lib.hid (HZ.out.below hb)); (try replace HI := Lib.hid (HI.out.below hb)); replace HR := Lib.hid (Kd.C_below HR.out hb); replace HRB := Lib.hid (Kd.C_below HRB.out hb); replace HB := Lib.hid (HB.out.trans (hb.mono HB.out.size)); clear hb)))
    | (go_at_call 16; (first
        | ((with_reducible refine (invert_nil _).mono ?_); rintro e w4 ⟨rfl, hb⟩; (try replace HX1 := Lib.hid (Kd.C_below HX1.out hb)); (try replace HX2 := Lib.hid (Kd.C_below HX2.out hb)); (try replace HX3 := Lib.hid (Kd.C_below HX3.out hb)); (try replace HM := Lib.hid (HM.out.below hb)); (try replace HMB := Lib.hid (HMB.out.below hb)); (try replace HZ := Lib.hid (HZ.out.below hb)); (try replace HI := Lib.hid (HI.out.below hb)); replace HR := Lib.hid (Kd.C_below HR.out hb); replace HRB := Lib.hid (Kd.C_below HRB.out hb); replace HB := Lib.hid (HB.out.trans (hb.mono HB.out.size)); clear hb)
        | ((with_reducible refine (invert_whole b s cap n t0 M0 C0 _ HM.out H0.out HST.out HT.out).mono ?_); rintro e w4 ⟨bi, si, capi, I, rfl, hi, hib, hip, hb⟩; (try replace HX1 := Lib.hid (Kd.C_below HX1.out hb)); (try replace HX2 := Lib.hid (Kd.C_below HX2.out hb)); (try replace HX3 := Lib.hid (Kd.C_below HX3.out hb)); (try replace HM := Lib.hid (HM.out.below hb)); (try replace HMB := Lib.hid (HMB.out.below hb)); (try replace HZ := Lib.hid (HZ.out.below hb)); (try replace HI := Lib.hid (HI.out.below hb)); replace HR := Lib.hid (Kd.C_below HR.out hb); replace HRB := Lib.hid (Kd.C_below HRB.out hb); replace HB := Lib.hid (HB.out.trans (hb.mono HB.out.size)); clear hb; have HI := Lib.hid hi; have HIB := Lib.hid hib; have HIP := Lib.hid hip; clear hi hib hip)))
    )
  obtain ⟨ad, A2, c2, e2, hcell, _, _⟩ := mrow HR.out 0 (by omega)
  rw [show ad.add 0 = ad from rfl] at hcell
  have HAD := Lib.hid e2
  subst e2
  have SMI := Lib.hid (fun (A5 A6 : Option Addr) c5 c6 W (I : Mtx) (hI : BytM I) (hX : Kd.C kRow W A5 n (mat n n (prd n n M0 I))) (hY : Kd.C kRow W A6 n (mat n n idM)) (he : ∀ i, i < n → ∀ l, l < n → prd n n M0 I i l = idM i l) =>
    same_yes n n c5 c6 A5 A6 _ _ W hX hY (prd_byt H0.out) idM_byt (Nat.le_trans HN.out.2.2.1 (by decide)) he)
  go_wp2_with (first
    | (go_at_call 14; (with_reducible refine (rrank_is n n c0 t0 _ M0 C0 _ HR.out H0.out HN.out.2.1 (Nat.le_trans HN.out.2.2.1 (by decide)) HN.out.2.1 (Nat.le_trans HN.out.2.2.1 (by decide)) HST.out).mono ?_); rintro e w5 ⟨rfl, hb⟩; (try replace HX1 := Lib.hid (Kd.C_below HX1.out hb)); (try replace HX2 := Lib.hid (Kd.C_below HX2.out hb)); (try replace HX3 := Lib.hid (Kd.C_below HX3.out hb)); (try replace HM := Lib.hid (HM.out.below hb)); (try replace HMB := Lib.hid (HMB.out.below hb)); (try replace HZ := Lib.hid (HZ.out.below hb)); (try replace HI := Lib.hid (HI.out.below hb)); replace HR := Lib.hid (Kd.C_below HR.out hb); replace HRB := Lib.hid (Kd.C_below HRB.out hb); replace HB := Lib.hid (HB.out.trans (hb.mono HB.out.size)); clear hb)
    | (go_at_call 11; (first
        | ((with_reducible refine (rows4_in bi si capi n n _ _ HI.out).mono ?_); rintro e w5 ⟨A5, c5, rfl, hc5, hx, hb⟩; rw [mat_mx] at hx; (try replace HX1 := Lib.hid (Kd.C_below HX1.out hb)); (try replace HX2 := Lib.hid (Kd.C_below HX2.out hb)); (try replace HX3 := Lib.hid (Kd.C_below HX3.out hb)); (try replace HM := Lib.hid (HM.out.below hb)); (try replace HMB := Lib.hid (HMB.out.below hb)); (try replace HZ := Lib.hid (HZ.out.below hb)); (try replace HI := Lib.hid (HI.out.below hb)); replace HR := Lib.hid (Kd.C_below HR.out hb); replace HRB := Lib.hid (Kd.C_below HRB.out hb); replace HB := Lib.hid (HB.out.trans (hb.mono HB.out.size)); clear hb; have HX1 := Lib.hid hx; have HC5 := Lib.hid hc5; clear hx hc5)
        ))
    | (go_at_call 17; (first
        | ((with_reducible refine (rmul_calls n n c0 c5 _ A5 M0 I _ HR.out HX1.out H0.out HIB.out HN.out.1 HC5.out HN.out.2.1 (Nat.le_trans HN.out.2.2.1 (by decide)) (Nat.le_trans HN.out.2.2.1 (by decide))).mono ?_); rintro e w6 ⟨A6, c6, rfl, hx, hb⟩; (try replace HX1 := Lib.hid (Kd.C_below HX1.out hb)); (try replace HX2 := Lib.hid (Kd.C_below HX2.out hb)); (try replace HX3 := Lib.hid (Kd.C_below HX3.out hb)); (try replace HM := Lib.hid (HM.out.below hb)); (try replace HMB := Lib.hid (HMB.out.below hb)); (try replace HZ := Lib.hid (HZ.out.below hb)); (try replace HI := Lib.hid (HI.out.below hb)); replace HR := Lib.hid (Kd.C_below HR.out hb); replace HRB := Lib.hid (Kd.C_below HRB.out hb); replace HB := Lib.hid (HB.out.trans (hb.mono HB.out.size)); clear hb; have HX2 := Lib.hid hx; clear hx)
        ))
    | (go_at_call 18; (with_reducible refine (rone_calls n (Nat.le_trans HN.out.2.2.1 (by decide)) _).mono ?_); rintro e w7 ⟨A7, c7, rfl, hx, hb⟩; (try replace HX1 := Lib.hid (Kd.C_below HX1.out hb)); (try replace HX2 := Lib.hid (Kd.C_below HX2.out hb)); (try replace HX3 := Lib.hid (Kd.C_below HX3.out hb)); (try replace HM := Lib.hid (HM.out.below hb)); (try replace HMB := Lib.hid (HMB.out.below hb)); (try replace HZ := Lib.hid (HZ.out.below hb)); (try replace HI := Lib.hid (HI.out.below hb)); replace HR := Lib.hid (Kd.C_below HR.out hb); replace HRB := Lib.hid (Kd.C_below HRB.out hb); replace HB := Lib.hid (HB.out.trans (hb.mono HB.out.size)); clear hb; have HX5 := Lib.hid hx; clear hx)
    | (go_at_call 10; (first
        | ((with_reducible refine (SMI.out A6 A7 c6 c7 _ I HIB.out HX2.out HX5.out HIP.out).mono ?_); rintro e w7 ⟨rfl, hb⟩; (try replace HX1 := Lib.hid (Kd.C_below HX1.out hb)); (try replace HX2 := Lib.hid (Kd.C_below HX2.out hb)); (try replace HX3 := Lib.hid (Kd.C_below HX3.out hb)); (try replace HM := Lib.hid (HM.out.below hb)); (try replace HMB := Lib.hid (HMB.out.below hb)); (try replace HZ := Lib.hid (HZ.out.below hb)); (try replace HI := Lib.hid (HI.out.below hb)); replace HR := Lib.hid (Kd.C_below HR.out hb); replace HRB := Lib.hid (Kd.C_below HRB.out hb); replace HB := Lib.hid (HB.out.trans (hb.mono HB.out.size)); clear hb)
        ))
    | (go_at_call 7; (with_reducible refine (awake4 _).mono ?_); rintro e w9 ⟨rfl, hb⟩; have HB9 := Lib.hid (HB.out.trans (hb.mono HB.out.size)); clear hb))
  go_ret
  exact ⟨rfl, HB9.out⟩
set_option maxRecDepth 100000 in
set_option maxHeartbeats 4000000 in
theorem se_whole2 (hA : Kd.C kRow w A n (mat n n M0)) (hA1 : Kd.C kRow w A1 n (mat n q B0)) (hM : BytM M0) (hB : BytM B0) (hN : n ≤ c0 ∧ 1 ≤ n ∧ n ≤ 9 ∧ 1 ≤ n ∧ n ≤ 9) (hK : n ≤ c1 ∧ 1 ≤ n ∧ n ≤ 9 ∧ 1 ≤ q ∧ q ≤ 9) (hst : StepsTo n M0 n t0 C0) (ht : t0 = n) :
    Calls Try.prog 4 #[.slice A n c0, .slice A1 n c1] w fun e w' => e = .returned (.bool true) ∧ Below w.heap.size w w' := by
  have HR := Lib.hid hA
  have HRB := Lib.hid hA1
  have H0 := Lib.hid hM
  have HB0 := Lib.hid hB
  have HN := Lib.hid hN
  have HK := Lib.hid hK
  have HST := Lib.hid hst
  have HT := Lib.hid ht
  have HB := Lib.hid (Below.refl w.heap.size w)
  have t1 : ((n : Int) != (n : Int)) = false := by simp
  have g0 : (0 : Int) < (n : Int) := by omega
  have t2 : ((t0 : Int) == (n : Int)) = true := by simp; omega
  clear hA hA1 hM hB hN hK hst ht
  go_enter Try.func4, Try.ntmps4
  go_upto_region 11 with (first
    | (go_at_call 6; (first
        | (with_reducible refine (small_yes n _ c0 A M0 _ HR.out HN.out.1 HN.out.2.1 HN.out.2.2.1 HN.out.2.2.2.1 HN.out.2.2.2.2).mono ?_)
        | (with_reducible refine (small_yes n q c1 A1 B0 _ HRB.out HK.out.1 HK.out.2.1 HK.out.2.2.1 HK.out.2.2.2.1 HK.out.2.2.2.2).mono ?_)); rintro e w1 ⟨rfl, hb⟩; (try replace HX1 := Lib.hid (Kd.C_below HX1.out hb)); (try replace HX2 := Lib.hid (Kd.C_below HX2.out hb)); (try replace HX3 := Lib.hid (Kd.C_below HX3.out hb)); (try replace HM := Lib.hid (HM.out.below hb)); (try replace HMB := Lib.hid (HMB.out.below hb)); (try replace HZ := Lib.hid (HZ.out.below hb)); (try replace HI := Lib.hid (HI.out.below hb)); replace HR := Lib.hid (Kd.C_below HR.out hb); replace HRB := Lib.hid (Kd.C_below HRB.out hb); replace HB := Lib.hid (HB.out.trans (hb.mono HB.out.size)); clear hb)
    | (go_at_call 8; (first
        | ((with_reducible refine (of_mat n _ c0 A M0 _ HR.out HN.out.1 H0.out HN.out.2.1 (Nat.le_trans HN.out.2.2.1 (by decide)) HN.out.2.2.2.1 (Nat.le_trans HN.out.2.2.2.2 (by decide))).mono ?_); rintro e w2 ⟨b, s, cap, rfl, hm, hb⟩; (try replace HX1 := Lib.hid (Kd.C_below HX1.out hb)); (try replace HX2 := Lib.hid (Kd.C_below HX2.out hb)); (try replace HX3 := Lib.hid (Kd.C_below HX3.out hb)); (try replace HM := Lib.hid (HM.out.below hb)); (try replace HMB := Lib.hid (HMB.out.below hb)); (try replace HZ := Lib.hid (HZ.out.below hb)); (try replace HI := Lib.hid (HI.out.below hb)); replace HR := Lib.hid (Kd.C_below HR.out hb); replace HRB := Lib.hid (Kd.C_below HRB.out hb); replace HB := Lib.hid (HB.out.trans (hb.mono HB.out.size)); clear hb; have HM := Lib.hid hm; clear hm)
        | ((with_reducible refine (of_mat n q c1 A1 B0 _ HRB.out HK.out.1 HB0.out HK.out.2.1 (Nat.le_trans HK.out.2.2.1 (by decide)) HK.out.2.2.2.1 (Nat.le_trans HK.out.2.2.2.2 (by decide))).mono ?_); rintro e w2 ⟨bb, sb, capb, rfl, hm, hb⟩; (try replace HX1 := Lib.hid (Kd.C_below HX1.out hb)); (try replace HX2 := Lib.hid (Kd.C_below HX2.out hb)); (try replace HX3 := Lib.hid (Kd.C_below HX3.out hb)); (try replace HM := Lib.hid (HM.out.below hb)); (try replace HMB := Lib.hid (HMB.out.below hb)); (try replace HZ := Lib.hid (HZ.out.below hb)); (try replace HI := Lib.hid (HI.out.below hb)); replace HR := Lib.hid (Kd.C_below HR.out hb); replace HRB := Lib.hid (Kd.C_below HRB.out hb); replace HB := Lib.hid (HB.out.trans (hb.mono HB.out.size)); clear hb; have HMB := Lib.hid hm; clear hm)))
    | (go_at_call 15; (first
        | ((with_reducible refine (solve_nil bb sb capb n q _ _ HMB.out).mono ?_); rintro e w3 ⟨rfl, hb⟩; (try replace HX1 := Lib.hid (Kd.C_below HX1.out hb)); (try replace HX2 := Lib.hid (Kd.C_below HX2.out hb)); (try replace HX3 := Lib.hid (Kd.C_below HX3.out hb)); (try replace HM := Lib.hid (HM.out.below hb)); (try replace HMB := Lib.hid (HMB.out.below hb)); (try replace HZ := Lib.hid (HZ.out.below hb)); (try replace HI := Lib.hid (HI.out.below hb)); replace HR := Lib.hid (Kd.C_below HR.out hb); replace HRB := Lib.hid (Kd.C_below HRB.out hb); replace HB := Lib.hid (HB.out.trans (hb.mono HB.out.size)); clear hb)
        | ((with_reducible refine (solve_whole b s cap bb sb capb n q t0 M0 B0 C0 _ HM.out HMB.out H0.out HST.out HT.out).mono ?_); rintro e w3 ⟨bz, sz, capz, Z, rfl, hz, hzb, hzp, hb⟩; (try replace HX1 := Lib.hid (Kd.C_below HX1.out hb)); (try replace HX2 := Lib.hid (Kd.C_below HX2.out hb)); (try replace HX3 := Lib.hid (Kd.C_below HX3.out hb)); (try replace HM := Lib.hid (HM.out.below hb)); (try replace HMB := Lib.hid (HMB.out.below hb)); (try replace HZ := Lib.hid (HZ.out.below hb)); (try replace HI := Lib.hid (HI.out.below hb)); replace HR := Lib.hid (Kd.C_below HR.out hb); replace HRB := Lib.hid (Kd.C_below HRB.out hb); replace HB := Lib.hid (HB.out.trans (hb.mono HB.out.size)); clear hb; have HZ := Lib.hid hz; have HZB := Lib.hid hzb; have HZP := Lib.hid hzp; clear hz hzb hzp)))
    | (go_at_call 16; (first
        | ((with_reducible refine (invert_nil _).mono ?_); rintro e w4 ⟨rfl, hb⟩; (try replace HX1 := Lib.hid (Kd.C_below HX1.out hb)); (try replace HX2 := Lib.hid (Kd.C_below HX2.out hb)); (try replace HX3 := Lib.hid (Kd.C_below HX3.out hb)); (try replace HM := Lib.hid (HM.out.below hb)); (try replace HMB := Lib.hid (HMB.out.below hb)); (try replace HZ := Lib.hid (HZ.out.below hb)); (try replace HI := Lib.hid (HI.out.below hb)); replace HR := Lib.hid (Kd.C_below HR.out hb); replace HRB := Lib.hid (Kd.C_below HRB.out hb); replace HB := Lib.hid (HB.out.trans (hb.mono HB.out.size)); clear hb)
        | ((with_reducible refine (invert_whole b s cap n t0 M0 C0 _ HM.out H0.out HST.out HT.out).mono ?_); rintro e w4 ⟨bi, si, capi, I, rfl, hi, hib, hip, hb⟩; (try replace HX1 := Lib.hid (Kd.C_below HX1.out hb)); (try replace HX2 := Lib.hid (Kd.C_below HX2.out hb)); (try replace HX3 := Lib.hid (Kd.C_below HX3.out hb)); (try replace HM := Lib.hid (HM.out.below hb)); (try replace HMB := Lib.hid (HMB.out.below hb)); (try replace HZ := Lib.hid (HZ.out.below hb)); (try replace HI := Lib.hid (HI.out.below hb)); replace HR := Lib.hid (Kd.C_below HR.out hb); replace HRB := Lib.hid (Kd.C_below HRB.out hb); replace HB := Lib.hid (HB.out.trans (hb.mono HB.out.size)); clear hb; have HI := Lib.hid hi; have HIB := Lib.hid hib; have HIP := Lib.hid hip; clear hi hib hip)))
    )
  obtain ⟨ad, A2, c2, e2, hcell, _, _⟩ := mrow HR.out 0 (by omega)
  rw [show ad.add 0 = ad from rfl] at hcell
  have HAD := Lib.hid e2
  subst e2
  have SMI := Lib.hid (fun (A5 A6 : Option Addr) c5 c6 W (I : Mtx) (hI : BytM I) (hX : Kd.C kRow W A5 n (mat n n (prd n n M0 I))) (hY : Kd.C kRow W A6 n (mat n n idM)) (he : ∀ i, i < n → ∀ l, l < n → prd n n M0 I i l = idM i l) =>
    same_yes n n c5 c6 A5 A6 _ _ W hX hY (prd_byt H0.out) idM_byt (Nat.le_trans HN.out.2.2.1 (by decide)) he)
  have SMZ := Lib.hid (fun (A5 A6 : Option Addr) c5 c6 W (Z : Mtx) (hZ : BytM Z) (hX : Kd.C kRow W A5 n (mat n q (prd n q M0 Z))) (hY : Kd.C kRow W A6 n (mat n q B0)) (he : ∀ i, i < n → ∀ l, l < q → prd n q M0 Z i l = B0 i l) =>
    same_yes n q c5 c6 A5 A6 _ _ W hX hY (prd_byt H0.out) HB0.out (Nat.le_trans HN.out.2.2.1 (by decide)) he)
  go_wp2_with (first
    | (go_at_call 14; (with_reducible refine (rrank_is n n c0 t0 _ M0 C0 _ HR.out H0.out HN.out.2.1 (Nat.le_trans HN.out.2.2.1 (by decide)) HN.out.2.1 (Nat.le_trans HN.out.2.2.1 (by decide)) HST.out).mono ?_); rintro e w5 ⟨rfl, hb⟩; (try replace HX1 := Lib.hid (Kd.C_below HX1.out hb)); (try replace HX2 := Lib.hid (Kd.C_below HX2.out hb)); (try replace HX3 := Lib.hid (Kd.C_below HX3.out hb)); (try replace HM := Lib.hid (HM.out.below hb)); (try replace HMB := Lib.hid (HMB.out.below hb)); (try replace HZ := Lib.hid (HZ.out.below hb)); (try replace HI := Lib.hid (HI.out.below hb)); replace HR := Lib.hid (Kd.C_below HR.out hb); replace HRB := Lib.hid (Kd.C_below HRB.out hb); replace HB := Lib.hid (HB.out.trans (hb.mono HB.out.size)); clear hb)
    | (go_at_call 11; (first
        | ((with_reducible refine (rows4_in bz sz capz n q _ _ HZ.out).mono ?_); rintro e w5 ⟨A8, c8, rfl, hc8, hx, hb⟩; rw [mat_mx] at hx; (try replace HX1 := Lib.hid (Kd.C_below HX1.out hb)); (try replace HX2 := Lib.hid (Kd.C_below HX2.out hb)); (try replace HX3 := Lib.hid (Kd.C_below HX3.out hb)); (try replace HM := Lib.hid (HM.out.below hb)); (try replace HMB := Lib.hid (HMB.out.below hb)); (try replace HZ := Lib.hid (HZ.out.below hb)); (try replace HI := Lib.hid (HI.out.below hb)); replace HR := Lib.hid (Kd.C_below HR.out hb); replace HRB := Lib.hid (Kd.C_below HRB.out hb); replace HB := Lib.hid (HB.out.trans (hb.mono HB.out.size)); clear hb; have HX3 := Lib.hid hx; have HC8 := Lib.hid hc8; clear hx hc8)
        | ((with_reducible refine (rows4_in bi si capi n n _ _ HI.out).mono ?_); rintro e w5 ⟨A5, c5, rfl, hc5, hx, hb⟩; rw [mat_mx] at hx; (try replace HX1 := Lib.hid (Kd.C_below HX1.out hb)); (try replace HX2 := Lib.hid (Kd.C_below HX2.out hb)); (try replace HX3 := Lib.hid (Kd.C_below HX3.out hb)); (try replace HM := Lib.hid (HM.out.below hb)); (try replace HMB := Lib.hid (HMB.out.below hb)); (try replace HZ := Lib.hid (HZ.out.below hb)); (try replace HI := Lib.hid (HI.out.below hb)); replace HR := Lib.hid (Kd.C_below HR.out hb); replace HRB := Lib.hid (Kd.C_below HRB.out hb); replace HB := Lib.hid (HB.out.trans (hb.mono HB.out.size)); clear hb; have HX1 := Lib.hid hx; have HC5 := Lib.hid hc5; clear hx hc5)
        ))
    | (go_at_call 17; (first
        | ((with_reducible refine (rmul_calls n q c0 c8 _ A8 M0 Z _ HR.out HX3.out H0.out HZB.out HN.out.1 HC8.out HN.out.2.1 (Nat.le_trans HN.out.2.2.1 (by decide)) (Nat.le_trans HK.out.2.2.2.2 (by decide))).mono ?_); rintro e w6 ⟨A9, c9, rfl, hx, hb⟩; (try replace HX1 := Lib.hid (Kd.C_below HX1.out hb)); (try replace HX2 := Lib.hid (Kd.C_below HX2.out hb)); (try replace HX3 := Lib.hid (Kd.C_below HX3.out hb)); (try replace HM := Lib.hid (HM.out.below hb)); (try replace HMB := Lib.hid (HMB.out.below hb)); (try replace HZ := Lib.hid (HZ.out.below hb)); (try replace HI := Lib.hid (HI.out.below hb)); replace HR := Lib.hid (Kd.C_below HR.out hb); replace HRB := Lib.hid (Kd.C_below HRB.out hb); replace HB := Lib.hid (HB.out.trans (hb.mono HB.out.size)); clear hb; have HX4 := Lib.hid hx; clear hx)
        | ((with_reducible refine (rmul_calls n n c0 c5 _ A5 M0 I _ HR.out HX1.out H0.out HIB.out HN.out.1 HC5.out HN.out.2.1 (Nat.le_trans HN.out.2.2.1 (by decide)) (Nat.le_trans HN.out.2.2.1 (by decide))).mono ?_); rintro e w6 ⟨A6, c6, rfl, hx, hb⟩; (try replace HX1 := Lib.hid (Kd.C_below HX1.out hb)); (try replace HX2 := Lib.hid (Kd.C_below HX2.out hb)); (try replace HX3 := Lib.hid (Kd.C_below HX3.out hb)); (try replace HM := Lib.hid (HM.out.below hb)); (try replace HMB := Lib.hid (HMB.out.below hb)); (try replace HZ := Lib.hid (HZ.out.below hb)); (try replace HI := Lib.hid (HI.out.below hb)); replace HR := Lib.hid (Kd.C_below HR.out hb); replace HRB := Lib.hid (Kd.C_below HRB.out hb); replace HB := Lib.hid (HB.out.trans (hb.mono HB.out.size)); clear hb; have HX2 := Lib.hid hx; clear hx)
        ))
    | (go_at_call 18; (with_reducible refine (rone_calls n (Nat.le_trans HN.out.2.2.1 (by decide)) _).mono ?_); rintro e w7 ⟨A7, c7, rfl, hx, hb⟩; (try replace HX1 := Lib.hid (Kd.C_below HX1.out hb)); (try replace HX2 := Lib.hid (Kd.C_below HX2.out hb)); (try replace HX3 := Lib.hid (Kd.C_below HX3.out hb)); (try replace HM := Lib.hid (HM.out.below hb)); (try replace HMB := Lib.hid (HMB.out.below hb)); (try replace HZ := Lib.hid (HZ.out.below hb)); (try replace HI := Lib.hid (HI.out.below hb)); replace HR := Lib.hid (Kd.C_below HR.out hb); replace HRB := Lib.hid (Kd.C_below HRB.out hb); replace HB := Lib.hid (HB.out.trans (hb.mono HB.out.size)); clear hb; have HX5 := Lib.hid hx; clear hx)
    | (go_at_call 10; (first
        | ((with_reducible refine (SMZ.out A9 A1 c9 c1 _ Z HZB.out HX4.out HRB.out HZP.out).mono ?_); rintro e w7 ⟨rfl, hb⟩; (try replace HX1 := Lib.hid (Kd.C_below HX1.out hb)); (try replace HX2 := Lib.hid (Kd.C_below HX2.out hb)); (try replace HX3 := Lib.hid (Kd.C_below HX3.out hb)); (try replace HM := Lib.hid (HM.out.below hb)); (try replace HMB := Lib.hid (HMB.out.below hb)); (try replace HZ := Lib.hid (HZ.out.below hb)); (try replace HI := Lib.hid (HI.out.below hb)); replace HR := Lib.hid (Kd.C_below HR.out hb); replace HRB := Lib.hid (Kd.C_below HRB.out hb); replace HB := Lib.hid (HB.out.trans (hb.mono HB.out.size)); clear hb)
        | ((with_reducible refine (SMI.out A6 A7 c6 c7 _ I HIB.out HX2.out HX5.out HIP.out).mono ?_); rintro e w7 ⟨rfl, hb⟩; (try replace HX1 := Lib.hid (Kd.C_below HX1.out hb)); (try replace HX2 := Lib.hid (Kd.C_below HX2.out hb)); (try replace HX3 := Lib.hid (Kd.C_below HX3.out hb)); (try replace HM := Lib.hid (HM.out.below hb)); (try replace HMB := Lib.hid (HMB.out.below hb)); (try replace HZ := Lib.hid (HZ.out.below hb)); (try replace HI := Lib.hid (HI.out.below hb)); replace HR := Lib.hid (Kd.C_below HR.out hb); replace HRB := Lib.hid (Kd.C_below HRB.out hb); replace HB := Lib.hid (HB.out.trans (hb.mono HB.out.size)); clear hb)
        ))
    | (go_at_call 7; (with_reducible refine (awake4 _).mono ?_); rintro e w9 ⟨rfl, hb⟩; have HB9 := Lib.hid (HB.out.trans (hb.mono HB.out.size)); clear hb))
  go_ret
  exact ⟨rfl, HB9.out⟩
end
theorem se_row {w : World} (A A1 : Option Addr) (c c1 : Nat) (la lb : List (List Int)) (hA : Kd.C kRow w A la.length la) (hB : Kd.C kRow w A1 lb.length lb) (hc : la.length ≤ c) (hc1 : lb.length ≤ c1)
    (oka : ∀ a ∈ la, ∀ x ∈ a, Byt x) (okb : ∀ a ∈ lb, ∀ x ∈ a, Byt x) :
    Calls Try.prog 4 #[.slice A la.length c, .slice A1 lb.length c1] w fun e w' => e = .returned (.bool true) ∧ Below w.heap.size w w' := by
  by_cases ha : Small4 la
  · by_cases hb : Small4 lb
    · obtain ⟨n, m, M0, en, rfl, hM, n1, n2, m1, m2⟩ := as_mat ha oka
      obtain ⟨k, q, B0, ek, rfl, hB0, k1, k2, q1, q2⟩ := as_mat hb okb
      rw [en] at hA hc ⊢
      rw [ek] at hB hc1 ⊢
      have hK := And.intro hc1 (And.intro k1 (And.intro k2 (And.intro q1 q2)))
      by_cases hm : n = m
      · subst hm
        have hN := And.intro hc (And.intro n1 (And.intro n2 (And.intro n1 n2)))
        obtain ⟨t0, C0, hst⟩ := StepsTo.ex n hM n
        have hle := hst.le
        by_cases hk : k = n
        · subst hk
          by_cases ht : t0 = k
          · exact se_whole2 k q c c1 t0 A A1 M0 B0 C0 w hA hB hM hB0 hN hK hst ht
          · exact se_sing2 k q c c1 t0 A A1 M0 B0 C0 w hA hB hM hB0 hN hK hst (by omega)
        · by_cases ht : t0 = n
          · exact se_whole1 n k q c c1 t0 A A1 M0 B0 C0 w hA hB hM hB0 hN hK hst ht hk
          · exact se_sing n k q c c1 t0 A A1 M0 B0 C0 w hA hB hM hB0 hN hK hst (by omega) hk
      · exact se_rect n m k q c c1 A A1 M0 B0 w hA hB hM hB0 ⟨hc, n1, n2, m1, m2⟩ hK hm
    · exact se_no2 A A1 c c1 la lb w hA hc ha hB hc1 hb
  · exact se_no1 A A1 c c1 _ la w hA hc ha
theorem se_main {w : World} (A : Option Addr) (c : Nat) (la : List (List Int)) (hA : Kd.C kRow w A la.length la) (hc : la.length ≤ c) (oka : RowsOk la) (A1 : Option Addr) (c1 : Nat) (lb : List (List Int)) (hB : Kd.C kRow w A1 lb.length lb) (hc1 : lb.length ≤ c1) (okb : RowsOk lb) (_ : World) :
    Calls Try.prog 4 #[.slice A la.length c, .slice A1 lb.length c1] w fun e w' => e = .returned (.bool true) ∧ Below w.heap.size w w' :=
  se_row A A1 c c1 la lb hA hB hc hc1 oka.byt okb.byt
end Go.Proofs.Ytojaekhplohbjaa.Sol
