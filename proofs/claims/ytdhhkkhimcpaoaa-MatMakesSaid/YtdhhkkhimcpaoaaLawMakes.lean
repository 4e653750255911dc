/- The statement MatMakes at every input. -/
import Derived.Test.YtdhhkkhimcpaoaaWalkMatMakes
import Derived.ProofKit
namespace Go.Proofs.Ytdhhkkhimcpaoaa.Mat
open Go Go.RowKit
theorem makes_row {W : World} (A0 : Option Addr) (c0 : Nat) (l : List (List Int)) (lR : RowsC W A0 l) (lB : AllBytes l) (lL : l.length ≤ c0) (lm : l.length ≤ 9223372036854775807) (i : Int) (_ : (Lit.int .i64 i).wf = true) (k : Int) (_ : (Lit.int .i64 k).wf = true) (x : Int) (hx : (Lit.int .u8 x).wf = true) :
    Calls Try.prog 4 #[.slice A0 l.length c0, .int .i64 i, .int .i64 k, .int .u8 x] W fun e w' => e = .returned (.bool true) ∧ Below W.heap.size W w' := by
  have : 0 ≤ x ∧ x < 256 := by
    simp [Lit.wf, IntKind.min, IntKind.max, IntKind.signed, IntKind.bits] at hx
    omega
  exact makes_law A0 c0 l i k x W lm lR lB lL this.1 this.2
end Go.Proofs.Ytdhhkkhimcpaoaa.Mat
