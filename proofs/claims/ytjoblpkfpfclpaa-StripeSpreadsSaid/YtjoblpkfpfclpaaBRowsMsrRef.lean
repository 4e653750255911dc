/- The rows of the document's codes. -/
import Derived.Test.YtjoblpkfpfclpaaProg
import Derived.Below
import Derived.Deep.Draws
import Derived.Deep.AppendLies
import Derived.Maps.AppendAt
import Derived.OwnWalk
import Derived.Laws.BytesArg
import Derived.Laws.MakeOwn
import Derived.Laws.OwnMore
import Derived.Deep.OwnRows
import Derived.Tactics
import Derived.Lib.ConvBytes
import Derived.Laws.Slices
import Derived.WalkKit
import Derived.KernelRfl
import Derived.RowKit3
import Derived.Deep.LoopGhost
import Derived.Deep.QuietTactic
import Derived.BigQuiet
import Derived.WideLaws
import Derived.Deep.DeepCutAuto
import Derived.Deep.CutBlock
import Derived.Deep.RegionHeld3
import Derived.Laws.Rows
import Derived.Lib.AppendStr
import Derived.ArgAppend
import Derived.Laws.IdiomCopy
import Derived.OrdersHeld
import Derived.Laws.BitsLemmas
import Derived.RowKit
import Derived.Lib.Hide
import Derived.WalkSpells
import Derived.StillTailTactics
import Derived.Outline
import Derived.Test.YtjoblpkfpfclpaaBRowsRefPows
import Derived.Test.YtjoblpkfpfclpaaBRowsVPtsB
import Derived.Test.YtjoblpkfpfclpaaBStripeSpreadsMsr1
namespace Go.Proofs.Ytjoblpkfpfclpaa.Str
open Go Go.RowKit Go.Proofs.Ytjoblpkfpfclpaa.PRows Go.Proofs.Ytjoblpkfpfclpaa.BRows Go.Proofs.Ytjoblpkfpfclpaa.BStripeSpreads Go.Proofs.Ytjoblpkfpfclpaa.Gf Go.Proofs.Ytjoblpkfpfclpaa.Bits Go.Proofs.Ytjoblpkfpfclpaa.Mem Go.Proofs.Ytjoblpkfpfclpaa.VPts Go.Proofs.Ytjoblpkfpfclpaa.Rws Go.Proofs.YtjoblpkfpfclpaaW.PrintWords Go.Proofs.YtjoblpkfpfclpaaW.PrintLast
set_option linter.unusedVariables false

theorem ref_pts (n e : Nat) (h1 : 1 ≤ e) (h7 : e ≤ 7) (hn : n ≤ 24) : coldframeref05_Points.f 200000 n e = some (ptsL n e) := by
  obtain ⟨q, hq, h⟩ := ref_points n e (by omega) (by omega) (by omega)
  have hl := stop_len _ _ _ hq (many e h1 h7) hn
  rw [h, if_neg (by omega), stop_pts n e q hq h1 h7 hn]
/-- The first m rows. -/
def rowsM (n k m : Nat) : List (List Int) := (List.range m).map (fun i => pows (ptN n k i) (2 * k - 2))
theorem rowsM_succ (n k m : Nat) : rowsM n k (m + 1) = rowsM n k m ++ [pows (ptN n k m) (2 * k - 2)] := by simp [rowsM, List.range_succ]
theorem rowsM_len (n k m : Nat) : (rowsM n k m).length = m := by simp [rowsM]
theorem rowsM_get (n k m i : Nat) (hi : i < m) : (rowsM n k m).getD i [] = pows (ptN n k i) (2 * k - 2) := by simp [rowsM, List.getD_eq_getElem?_getD, hi]
theorem rows_loop (n k : Nat) (k1 : 2 ≤ k) (k2 : k ≤ 8) (n2 : n ≤ 24) (d : Nat) : ∀ (K i : Nat), i + d = n → 1000 + d ≤ K → coldframeref06_Rows.l0 K k (ptsL n (k - 1)) (rowsM n k i) i = some (rowsM n k n) := by
  have hl := ptsL_len n (k - 1) (by omega) (by omega) n2
  induction d with
  | zero =>
    intro K i hd hK
    obtain ⟨K, rfl⟩ : ∃ m, K = m + 1 := ⟨K - 1, by omega⟩
    obtain rfl : i = n := by omega
    simp only [coldframeref06_Rows.l0]
    rw [if_neg (by omega)]
  | succ d ih =>
    intro K i hd hK
    obtain ⟨K, rfl⟩ : ∃ m, K = m + 1 := ⟨K - 1, by omega⟩
    simp only [coldframeref06_Rows.l0]
    have e1 : wrap64 ((wrap64 (2 * (k : Int))) - 2) = ((2 * k - 2 : Nat) : Int) := by rw [wrap64_in (2 * (k : Int)) (by omega) (by omega), wrap64_in _ (by omega) (by omega)]; omega
    have e2 : rd (ptsL n (k - 1)) (i : Int) = (ptN n k i : Int) := by
      rw [← ptN_eq]; simp [rd]
    have hr := rrow_f (ptN n k i) (ptN_lt n k i) ((2 * k - 2 : Nat) : Int) (by omega)
    have hr2 : coldframeref05_Row.f K (ptN n k i : Int) ((2 * k - 2 : Nat) : Int) = some (pows (ptN n k i) (2 * k - 2)) := by
      have hm : ∀ d, coldframeref05_Row.f (400 + d) (ptN n k i : Int) ((2 * k - 2 : Nat) : Int) = some (pows (ptN n k i) (2 * k - 2)) := by
        intro d
        induction d with
        | zero => simpa using hr
        | succ d ih => exact coldframeref05_Row.mono _ _ _ _ ih
      have := hm (K - 400)
      rwa [show 400 + (K - 400) = K by omega] at this
    rw [if_pos (by omega), if_pos (by omega), e1, e2, hr2, bnd, if_pos (by rw [rowsM_len]; omega), vinc i (by omega), ← rowsM_succ]
    exact ih K (i + 1) (by omega) (by omega)
theorem rows_f (n k : Nat) (k1 : 2 ≤ k) (k2 : k ≤ 8) (n2 : n ≤ 24) : coldframeref06_Rows.f 200000 n k = some (rowsM n k n) := by
  unfold coldframeref06_Rows.f
  rw [show wrap64 ((k : Int) - 1) = ((k - 1 : Nat) : Int) by rw [wrap64_in _ (by omega) (by omega)]; omega, ref_pts n (k - 1) (by omega) (by omega) n2, bnd]
  exact rows_loop n k k1 k2 n2 n 200000 0 (by omega) (by omega)
theorem rows_calls (n k : Nat) (w : World) (k1 : 2 ≤ k) (k2 : k ≤ 8) (n2 : n ≤ 24) :
    Calls Try.prog 33 #[.int .i64 n, .int .i64 k] w fun e w' => ∃ A c, e = .returned (.slice A n c) ∧ n ≤ c ∧ Kd.C kRow w' A n (rowsM n k n) ∧ Below w.heap.size w w' := by
  refine (coldframeref06_Rows.calls 200000 n k _ w (rows_f n k k1 k2 n2)).mono ?_
  rintro e w' ⟨v, rfl, hr, hb⟩
  obtain ⟨A, c, rfl, hc, hC⟩ := Kd.S_reads hr
  rw [rowsM_len] at hc hC
  rw [rowsM_len]
  exact ⟨A, c, rfl, hc, hC, hb⟩
end Go.Proofs.Ytjoblpkfpfclpaa.Str
