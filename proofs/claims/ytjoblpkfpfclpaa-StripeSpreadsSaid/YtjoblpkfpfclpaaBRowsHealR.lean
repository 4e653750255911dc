/- The document's product, as a call. -/
import Derived.Test.YtjoblpkfpfclpaaProg
import Derived.Below
import Derived.Deep.Draws
import Derived.Deep.AppendLies
import Derived.Maps.AppendAt
import Derived.OwnWalk
import Derived.Laws.BytesArg
import Derived.Laws.MakeOwn
import Derived.Laws.OwnMore
import Derived.Deep.OwnRows
import Derived.Tactics
import Derived.Lib.ConvBytes
import Derived.Laws.Slices
import Derived.WalkKit
import Derived.KernelRfl
import Derived.RowKit3
import Derived.Deep.LoopGhost
import Derived.Deep.QuietTactic
import Derived.BigQuiet
import Derived.WideLaws
import Derived.Deep.DeepCutAuto
import Derived.Deep.CutBlock
import Derived.Deep.RegionHeld3
import Derived.Laws.Rows
import Derived.Lib.AppendStr
import Derived.ArgAppend
import Derived.Laws.IdiomCopy
import Derived.OrdersHeld
import Derived.Laws.BitsLemmas
import Derived.RowKit
import Derived.Lib.Hide
import Derived.WalkSpells
import Derived.StillTailTactics
import Derived.Outline
import Derived.Test.YtjoblpkfpfclpaaGi
import Derived.Test.YtjoblpkfpfclpaaBRowsMsrRef
namespace Go.Proofs.Ytjoblpkfpfclpaa.Str
open Go Go.RowKit Go.Proofs.Ytjoblpkfpfclpaa.PRows Go.Proofs.Ytjoblpkfpfclpaa.BRows Go.Proofs.Ytjoblpkfpfclpaa.Gf Go.Proofs.Ytjoblpkfpfclpaa.Gi Go.Proofs.Ytjoblpkfpfclpaa.Bits Go.Proofs.Ytjoblpkfpfclpaa.Mem Go.Proofs.Ytjoblpkfpfclpaa.VPts Go.Proofs.Ytjoblpkfpfclpaa.Rws Go.Proofs.YtjoblpkfpfclpaaW.PrintWords Go.Proofs.YtjoblpkfpfclpaaW.PrintLast
set_option linter.unusedVariables false

theorem refmul_calls (a b : Int) (w : World) (ha : Byt a) (hb : Byt b) :
    Calls Try.prog 42 #[.int .u8 a, .int .u8 b] w fun e w' => e = .returned (.int .u8 (gmI a b)) ∧ ∃ n, w' = w.drewN n := by
  obtain ⟨x, hx, rfl⟩ := byt_nat ha
  obtain ⟨y, hy, rfl⟩ := byt_nat hb
  refine (coldframeref02_Mul.calls 68 x y _ w (ref_mul 68 x y hx hy (by decide))).mono ?_
  rintro e w' ⟨rfl, h⟩
  exact ⟨by simp [gmI], h.out⟩
theorem gp_byt (x j : Nat) (hx : x < 256) : Byt ((gp x j : Nat) : Int) := by have := gp_lt x hx j; exact ⟨by omega, by omega⟩
end Go.Proofs.Ytjoblpkfpfclpaa.Str
