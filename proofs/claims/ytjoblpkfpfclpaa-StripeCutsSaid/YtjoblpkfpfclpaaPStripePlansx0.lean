-- PRINTED BY print.sh 35421559b90ae4d0a3588c463048766b98c2df88dd9212a6774a882060cdf62d: not written by this session
import Derived.Test.YtjoblpkfpfclpaaProg
import Derived.Below
import Derived.Deep.Draws
import Derived.Deep.AppendLies
import Derived.Maps.AppendAt
import Derived.OwnWalk
import Derived.Laws.BytesArg
import Derived.Laws.MakeOwn
import Derived.Laws.OwnMore
import Derived.Deep.OwnRows
import Derived.Tactics
import Derived.Lib.ConvBytes
import Derived.Laws.Slices
import Derived.WalkKit
import Derived.KernelRfl
import Derived.RowKit3
import Derived.Deep.LoopGhost
import Derived.Deep.QuietTactic
import Derived.BigQuiet
import Derived.WideLaws
import Derived.Deep.DeepCutAuto
import Derived.Deep.CutBlock
import Derived.Deep.RegionHeld3
import Derived.Laws.Rows
import Derived.Lib.AppendStr
import Derived.ArgAppend
import Derived.Laws.IdiomCopy
import Derived.OrdersHeld
import Derived.Laws.BitsLemmas
import Derived.RowKit
import Derived.Test.YtjoblpkfpfclpaaWWords
import Derived.Test.YtjoblpkfpfclpaaWLast
import Derived.Test.YtjoblpkfpfclpaaWTab
import Derived.Test.YtjoblpkfpfclpaaWFour
import Derived.Test.YtjoblpkfpfclpaaWQPut
import Derived.Test.YtjoblpkfpfclpaaWApart
import Derived.Test.YtjoblpkfpfclpaaWArr
import Derived.Test.YtjoblpkfpfclpaaWZeros
import Derived.Test.YtjoblpkfpfclpaaWFoot
import Derived.Test.YtjoblpkfpfclpaaWKept
import Derived.Test.YtjoblpkfpfclpaaWShare
import Derived.Test.YtjoblpkfpfclpaaWN
import Derived.Test.YtjoblpkfpfclpaaWFootNe
import Derived.Test.YtjoblpkfpfclpaaWAt
import Derived.Test.YtjoblpkfpfclpaaWEqStruct
import Derived.Test.YtjoblpkfpfclpaaWRepsOne
import Derived.Test.YtjoblpkfpfclpaaWInv
import Derived.Test.YtjoblpkfpfclpaaWInvWords
import Derived.Test.YtjoblpkfpfclpaaWGuard
import Derived.Test.YtjoblpkfpfclpaaWNEv
import Derived.Test.YtjoblpkfpfclpaaWMore
namespace Go.Proofs.Ytjoblpkfpfclpaa.PStripePlans
open Go.RowKit Go.Proofs.YtjoblpkfpfclpaaW.PrintWords Go.Proofs.YtjoblpkfpfclpaaW.PrintLast Go.Proofs.YtjoblpkfpfclpaaW.PrintMore
attribute [local go_sem] max2_int min2_int max_two min_two max_three min_three max_four min_four   -- for this text's walks alone
set_option linter.unusedVariables false
set_option linter.unusedSimpArgs false



def errW : Option Int → Value
  | none => .nilIface
  | some c => .iface 0 (.int .i64 c)
theorem errW_none : errW none = .nilIface := rfl
theorem errW_some (c : Int) : errW (some c) = .iface 0 (.int .i64 c) := rfl

-- the values' own types

end Go.Proofs.Ytjoblpkfpfclpaa.PStripePlans
