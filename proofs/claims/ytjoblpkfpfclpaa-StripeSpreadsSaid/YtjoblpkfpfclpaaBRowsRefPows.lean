/- Rows of powers: the reference's. -/
import Derived.Test.YtjoblpkfpfclpaaProg
import Derived.Below
import Derived.Deep.Draws
import Derived.Deep.AppendLies
import Derived.Maps.AppendAt
import Derived.OwnWalk
import Derived.Laws.BytesArg
import Derived.Laws.MakeOwn
import Derived.Laws.OwnMore
import Derived.Deep.OwnRows
import Derived.Tactics
import Derived.Lib.ConvBytes
import Derived.Laws.Slices
import Derived.WalkKit
import Derived.KernelRfl
import Derived.RowKit3
import Derived.Deep.LoopGhost
import Derived.Deep.QuietTactic
import Derived.BigQuiet
import Derived.WideLaws
import Derived.Deep.DeepCutAuto
import Derived.Deep.CutBlock
import Derived.Deep.RegionHeld3
import Derived.Laws.Rows
import Derived.Lib.AppendStr
import Derived.ArgAppend
import Derived.Laws.IdiomCopy
import Derived.OrdersHeld
import Derived.Laws.BitsLemmas
import Derived.RowKit
import Derived.Lib.Hide
import Derived.Test.YtjoblpkfpfclpaaBStripeSpreadsPows
import Derived.Test.YtjoblpkfpfclpaaBRowsGfRefPow
namespace Go.Proofs.Ytjoblpkfpfclpaa.BRows
open Go Go.RowKit Go.Proofs.Ytjoblpkfpfclpaa.PRows Go.Proofs.Ytjoblpkfpfclpaa.Gf Go.Proofs.Ytjoblpkfpfclpaa.Bits Go.Proofs.Ytjoblpkfpfclpaa.Rws Go.Proofs.Ytjoblpkfpfclpaa.BStripeSpreads Go.Proofs.YtjoblpkfpfclpaaW.PrintWords Go.Proofs.YtjoblpkfpfclpaaW.PrintLast
set_option linter.unusedVariables false

theorem rrow_loop (x : Nat) (hx : x < 256) (n : Nat) (hn : n ≤ 100) (d : Nat) : ∀ (k i : Nat), i + d = n → 200 + d ≤ k → coldframeref05_Row.l0 k x n (pows x i) i = some (pows x n) := by
  induction d with
  | zero =>
    intro k i hd hk
    obtain ⟨k, rfl⟩ : ∃ m, k = m + 1 := ⟨k - 1, by omega⟩
    obtain rfl : i = n := by omega
    simp only [coldframeref05_Row.l0]
    rw [if_neg (by omega)]
  | succ d ih =>
    intro k i hd hk
    obtain ⟨k, rfl⟩ : ∃ m, k = m + 1 := ⟨k - 1, by omega⟩
    simp only [coldframeref05_Row.l0]
    rw [if_pos (by omega), ref_pow k x i hx (by omega) (by omega), bnd, if_pos (by rw [pows_len]; omega), vinc i (by omega), ← pows_succ]
    exact ih k (i + 1) (by omega) (by omega)
theorem rrow_neg (k : Nat) (x n : Int) (h : n ≤ 0) : coldframeref05_Row.l0 (k + 1) x n [] 0 = some [] := by
  simp only [coldframeref05_Row.l0]
  rw [if_neg (by omega)]
theorem rrow_f (x : Nat) (hx : x < 256) (n : Int) (hn : n ≤ 100) : coldframeref05_Row.f 400 x n = some (pows x n.toNat) := by
  unfold coldframeref05_Row.f
  by_cases h : 0 ≤ n
  · obtain ⟨n, rfl⟩ := Int.eq_ofNat_of_zero_le h
    exact rrow_loop x hx n (by omega) n 400 0 (by omega) (by omega)
  · have : n.toNat = 0 := by omega
    rw [this]
    exact rrow_neg 399 x n (by omega)
theorem refrow_calls (x : Nat) (hx : x < 256) (n : Int) (hn : n ≤ 100) (W : World) :
    Calls Try.prog 40 #[.int .u8 x, .int .i64 n] W fun e w' => ∃ A c, e = .returned (.slice A n.toNat c) ∧ Kd.R (Kd.int .u8) 5 w' W.heap.size (fun _ => True) (.slice A n.toNat c) (pows x n.toNat) ∧ Below W.heap.size W w' := by
  refine (coldframeref05_Row.calls 400 x n _ W (rrow_f x hx n hn)).mono ?_
  rintro e w' ⟨v, rfl, hr, hb⟩
  obtain ⟨A, c, rfl⟩ := Kd.R_slice hr
  rw [pows_len] at *
  exact ⟨A, c, rfl, hr, hb⟩
end Go.Proofs.Ytjoblpkfpfclpaa.BRows
