/- What Add comes to, and what all methods come to of no matrix; noughts and ones of the reference. -/
import Derived.Test.YtdhhkkhimcpaoaaProg
import Derived.Below
import Derived.Deep.Draws
import Derived.Deep.AppendLies
import Derived.Maps.AppendAt
import Derived.OwnWalk
import Derived.Laws.BytesArg
import Derived.Laws.MakeOwn
import Derived.Laws.OwnMore
import Derived.Deep.OwnRows
import Derived.Tactics
import Derived.Lib.ConvBytes
import Derived.Laws.Slices
import Derived.WalkKit
import Derived.KernelRfl
import Derived.RowKit3
import Derived.Deep.LoopGhost
import Derived.Deep.QuietTactic
import Derived.BigQuiet
import Derived.WideLaws
import Derived.Deep.DeepCutAuto
import Derived.Deep.CutBlock
import Derived.Deep.RegionHeld3
import Derived.Laws.Rows
import Derived.Lib.AppendStr
import Derived.ArgAppend
import Derived.Laws.IdiomCopy
import Derived.OrdersHeld
import Derived.Laws.BitsLemmas
import Derived.RowKit
import Derived.Lib.Hide
import Derived.WalkSpells
import Derived.StillTailTactics
import Derived.Outline
import Derived.Test.YtdhhkkhimcpaoaaMat12
import Derived.Test.YtdhhkkhimcpaoaaPOnex1
namespace Go.Proofs.Ytdhhkkhimcpaoaa.Mat
open Go Go.RowKit Go.Proofs.Ytdhhkkhimcpaoaa.Mem Go.Proofs.Ytdhhkkhimcpaoaa.Bits Go.Proofs.Ytdhhkkhimcpaoaa.Gf Go.Proofs.YtdhhkkhimcpaoaaW.PrintWords
set_option linter.unusedVariables false

theorem rows_ext {r c : Nat} {xs : List Int} {ls : List (List Int)} (hl : xs.length = r * c) (h1 : ls.length = r) (h2 : ∀ i, i < r → (ls.getD i []).length = c) (h : ∀ i k, i < r → k < c → xs.getD (i * c + k) 0 = (ls.getD i []).getD k 0) : rowsTo c xs r = ls := by
  refine List.ext_getElem (by rw [rowsTo_len, h1]) (fun i hi hj => ?_)
  have hir : i < r := by rw [rowsTo_len] at hi; exact hi
  simp only [rowsTo, List.getElem_map, List.getElem_range]
  have e : ls[i] = ls.getD i [] := by rw [List.getD_eq_getElem?_getD, List.getElem?_eq_getElem hj, Option.getD_some]
  rw [e]
  have hlen := rowOf_len hl i hir
  refine List.ext_getElem (by rw [hlen, h2 i hir]) (fun k hk hk' => ?_)
  have hkc : k < c := by rw [hlen] at hk; exact hk
  have := h i k hir hkc
  rw [← rowOf_get i k hkc, List.getD_eq_getElem?_getD, List.getD_eq_getElem?_getD, List.getElem?_eq_getElem hk, List.getElem?_eq_getElem hk'] at this
  exact this
theorem zeros_rows (r c : Nat) : rowsTo c (List.replicate (r * c) 0) r = List.replicate r (List.replicate c 0) := by
  refine rows_ext (by simp) (by simp) (fun i hi => by simp [List.getD_eq_getElem?_getD, hi]) (fun i k hi hk => ?_)
  have := idx_lt hi hk
  simp [List.getD_eq_getElem?_getD, hi, hk, this]
theorem zero_loop (c : Nat) (hc : c ≤ 64) (r : Nat) (hr : r ≤ 64) (d : Nat) : ∀ (k i : Nat) (xs : List (List Int)), i + d = r → d < k → xs.length ≤ 64 → xs.length = i →
    POne.coldframeref03_Zero.l0 k r c xs i = some (xs ++ List.replicate d (List.replicate c 0)) := by
  induction d with
  | zero =>
    intro k i xs hd hk hx hxi
    obtain ⟨k, rfl⟩ : ∃ m, k = m + 1 := ⟨k - 1, by omega⟩
    simp only [POne.coldframeref03_Zero.l0]
    rw [if_neg (by omega)]; simp
  | succ d ih =>
    intro k i xs hd hk hx hxi
    obtain ⟨k, rfl⟩ : ∃ m, k = m + 1 := ⟨k - 1, by omega⟩
    simp only [POne.coldframeref03_Zero.l0]
    rw [if_pos (by omega), if_pos (by omega), if_pos (by omega), if_pos (by omega), show wrap64 ((i : Int) + 1) = ((i + 1 : Nat) : Int) by rw [wrap64_in _ (by omega) (by omega)]; omega,
      ih k (i + 1) _ (by omega) (by omega) (by simp; omega) (by simp; omega)]
    simp [List.replicate_succ]
theorem zero_f (k r c : Nat) (hr : r ≤ 64) (hc : c ≤ 64) (hk : 100 ≤ k) : POne.coldframeref03_Zero.f k r c = some (List.replicate r (List.replicate c 0)) := by
  have := zero_loop c hc r hr r k 0 [] (by omega) (by omega) (by simp) rfl
  simpa [POne.coldframeref03_Zero.f] using this
/-- The rows of noughts with the first ones set. -/
def oneRow (n i j : Nat) : List Int := if i < j then (List.replicate n 0).set i 1 else List.replicate n 0
def oneL (n j : Nat) : List (List Int) := (List.range n).map (fun i => oneRow n i j)
theorem oneL_len (n j : Nat) : (oneL n j).length = n := by simp [oneL]
theorem oneL_get (n j i : Nat) (hi : i < n) : (oneL n j).getD i [] = oneRow n i j := by simp [oneL, List.getD_eq_getElem?_getD, hi]
theorem oneRow_len (n i j : Nat) : (oneRow n i j).length = n := by unfold oneRow; split <;> simp
theorem oneL_step (n j : Nat) (hj : j < n) : (oneL n j).set j ((List.replicate n 0).set j 1) = oneL n (j + 1) := by
  refine List.ext_getElem (by simp [oneL_len]) (fun i h1 h2 => ?_)
  rw [List.getElem_set]
  simp only [oneL, List.getElem_map, List.getElem_range]
  by_cases e : j = i
  · subst e; rw [if_pos rfl]; unfold oneRow; rw [if_pos (by omega)]
  · rw [if_neg e]; unfold oneRow
    by_cases h : i < j
    · rw [if_pos h, if_pos (by omega)]
    · rw [if_neg h, if_neg (by omega)]
theorem one_loop (n : Nat) (hn : n ≤ 64) (d : Nat) : ∀ (k i : Nat), i + d = n → d < k → POne.coldframeref03_One.l0 k n (oneL n i) i = some (oneL n n) := by
  induction d with
  | zero =>
    intro k i hd hk
    obtain ⟨k, rfl⟩ : ∃ m, k = m + 1 := ⟨k - 1, by omega⟩
    simp only [POne.coldframeref03_One.l0]
    obtain rfl : i = n := by omega
    rw [if_neg (by omega)]
  | succ d ih =>
    intro k i hd hk
    obtain ⟨k, rfl⟩ : ∃ m, k = m + 1 := ⟨k - 1, by omega⟩
    have hi : i < n := by omega
    have e1 : POne.rd_L1 (oneL n i) (i : Int) = List.replicate n 0 := by
      show (oneL n i).getD i [] = _
      rw [oneL_get n i i hi]; unfold oneRow; rw [if_neg (by omega)]
    simp only [POne.coldframeref03_One.l0]
    rw [e1, if_pos (by omega), if_pos (by omega), if_pos (by rw [oneL_len]; omega), if_pos (by simp; omega), show wrap64 ((i : Int) + 1) = ((i + 1 : Nat) : Int) by rw [wrap64_in _ (by omega) (by omega)]; omega, Int.toNat_natCast, oneL_step n i hi]
    exact ih k (i + 1) (by omega) (by omega)
theorem one_f (n : Nat) (hn : n ≤ 64) : POne.coldframeref03_One.f 100 n = some (oneL n n) := by
  unfold POne.coldframeref03_One.f
  rw [zero_f 100 n n hn hn (Nat.le_refl _)]
  have h0 : List.replicate n (List.replicate n (0 : Int)) = oneL n 0 := by
    refine List.ext_getElem (by simp [oneL_len]) (fun i h1 h2 => ?_)
    simp [oneL, oneRow]
  show POne.coldframeref03_One.l0 100 n _ ((0 : Nat) : Int) = _
  rw [h0]
  exact one_loop n hn n 100 0 (by omega) (by omega)
theorem oneTo_len (n : Nat) : ∀ k, (oneTo n k).length = n * n
  | 0 => by simp [oneTo]
  | k + 1 => by rw [oneTo, List.length_set, oneTo_len n k]
theorem oneTo_get (n : Nat) (j : Nat) (hj : j ≤ n) : ∀ i k, i < n → k < n → (oneTo n j).getD (i * n + k) 0 = if i = k ∧ i < j then 1 else 0 := by
  induction j with
  | zero =>
    intro i k hi hk
    have := idx_lt hi hk
    rw [if_neg (by omega)]
    simp [oneTo, List.getD_eq_getElem?_getD, this]
  | succ j ih =>
    intro i k hi hk
    have hlt := idx_lt hi hk
    have hjj := idx_lt (show j < n by omega) (show j < n by omega)
    rw [oneTo, List.getD_eq_getElem?_getD, List.getElem?_set]
    by_cases e : j * n + j = i * n + k
    · rw [if_pos e, if_pos (by rw [oneTo_len]; exact hjj)]
      have hij : j = i := by
        have h1 := Nat.div_mod_unique (a := j * n + j) (b := n) (c := j) (d := j) (by omega)
        have h2 := Nat.div_mod_unique (a := i * n + k) (b := n) (c := k) (d := i) (by omega)
        have h3 := (h1.2 ⟨by rw [Nat.mul_comm n j]; omega, by omega⟩).1
        have h4 := (h2.2 ⟨by rw [Nat.mul_comm n i]; omega, by omega⟩).1
        rw [e] at h3; omega
      subst hij
      rw [if_pos ⟨by omega, by omega⟩]; rfl
    · rw [if_neg e, ← List.getD_eq_getElem?_getD, ih (by omega) i k hi hk]
      by_cases h : i = k ∧ i < j
      · rw [if_pos h, if_pos ⟨h.1, by omega⟩]
      · rw [if_neg h, if_neg]
        rintro ⟨rfl, h'⟩
        have : i = j := by omega
        subst this
        exact e rfl
theorem ones_rows (n : Nat) : rowsTo n (oneTo n n) n = oneL n n := by
  refine rows_ext (oneTo_len n n) (oneL_len n n) (fun i hi => by rw [oneL_get n n i hi, oneRow_len]) (fun i k hi hk => ?_)
  rw [oneTo_get n n (Nat.le_refl _) i k hi hk, oneL_get n n i hi]
  unfold oneRow
  rw [if_pos hi, List.getD_eq_getElem?_getD, List.getElem?_set]
  by_cases e : i = k
  · subst e; rw [if_pos ⟨rfl, hi⟩, if_pos rfl, if_pos (by simpa using hi)]; rfl
  · rw [if_neg (fun h => e h.1), if_neg e]; simp [hk]
theorem oneL_bytes (n : Nat) : AllBytes (oneL n n) := by
  intro l hl
  obtain ⟨i, _, rfl⟩ := List.mem_map.1 hl
  show Bytes (oneRow n i n)
  unfold oneRow
  split
  · exact (Bytes.zeros n).set _ _ (by omega) (by omega)
  · exact Bytes.zeros n
theorem zeros_bytes (r c : Nat) : AllBytes (List.replicate r (List.replicate c 0)) := by
  intro l hl
  rw [List.eq_of_mem_replicate hl]
  exact Bytes.zeros c
theorem ref_zero (r c : Nat) (W : World) (hr : r ≤ 64) (hc : c ≤ 64) :
    Calls Try.prog 28 #[.int .i64 r, .int .i64 c] W fun e w' => ∃ A c7, e = .returned (.slice A (List.replicate r (List.replicate c (0 : Int))).length c7) ∧ RowsC w' A (List.replicate r (List.replicate c 0)) ∧ Below W.heap.size W w' := by
  refine (POne.coldframeref03_Zero.calls 100 r c _ W (zero_f 100 r c hr hc (Nat.le_refl _))).mono ?_
  rintro e w' ⟨v, rfl, hs, hB⟩
  obtain ⟨A, c7, rfl, _, hC⟩ := Kd.R_reads (Kd.S_R hs)
  exact ⟨A, c7, rfl, hC, hB⟩
theorem ref_one (n : Nat) (W : World) (hn : n ≤ 64) :
    Calls Try.prog 30 #[.int .i64 n] W fun e w' => ∃ A c7, e = .returned (.slice A (oneL n n).length c7) ∧ RowsC w' A (oneL n n) ∧ Below W.heap.size W w' := by
  refine (POne.coldframeref03_One.calls 100 n _ W (one_f n hn)).mono ?_
  rintro e w' ⟨v, rfl, hs, hB⟩
  obtain ⟨A, c7, rfl, _, hC⟩ := Kd.R_reads (Kd.S_R hs)
  exact ⟨A, c7, rfl, hC, hB⟩

set_option maxRecDepth 100000 in
theorem add_nil_l (v : Value) (hv : ∃ p, v = .pointer p) (w : World) :
    Calls Try.prog 22 #[.pointer none, v] w fun e w' => e = .returned (.tuple #[.pointer none, .int .i64 1]) ∧ ∃ n, w' = w.drewN n := by
  obtain ⟨p, rfl⟩ := hv
  go_enter Try.func22, Try.ntmps22
  go_wp2
  go_quiet (fail)
  go_wp2
  go_ret2
  exact ⟨rfl, _, rfl⟩
set_option maxRecDepth 100000 in
theorem add_nil_r (a : Addr) (w : World) :
    Calls Try.prog 22 #[.pointer (some a), .pointer none] w fun e w' => e = .returned (.tuple #[.pointer none, .int .i64 1]) ∧ ∃ n, w' = w.drewN n := by
  go_enter Try.func22, Try.ntmps22
  go_wp2
  go_quiet (fail)
  go_wp2
  go_ret2
  exact ⟨rfl, _, rfl⟩
set_option maxRecDepth 100000 in
theorem pick_nil (a : Addr) (x : Int) (w : World) (hc : w.cell? a = some (.int .i64 x)) :
    Calls Try.prog 23 #[.pointer none, .slice (some a) 1 1] w fun e w' => e = .returned (.tuple #[.pointer none, .int .i64 1]) ∧ ∃ n, w' = w.drewN n := by
  go_enter Try.func23, Try.ntmps23
  go_wp2
  go_loopw [6, 8, 9, 12] (fun _ _ _ i wr => i = .int .i64 0 ∧ wr = w) (fun _ _ _ _ _ => 0)
  case atStart => exact ⟨rfl, rfl⟩
  case round =>
    obtain ⟨rfl, rfl⟩ := hrel
    have ks := fun W => slice_nil none 0 0 W
    have hc0 : wr.cell? (a.add 0) = some (.int .i64 x) := by simpa [Addr.add] using hc
    go_wp2_with (go_at_call 31; refine (row_nil _ _).mono ?_; rintro e w1 ⟨rfl, n, rfl⟩)
    go_ret2
    exact ⟨rfl, n, rfl⟩
end Go.Proofs.Ytdhhkkhimcpaoaa.Mat
