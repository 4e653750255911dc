/- The chapter's example. -/
import Derived.Test.YtelgefkfflgbeaaProg
import Derived.Below
import Derived.Deep.Draws
import Derived.Deep.AppendLies
import Derived.Maps.AppendAt
import Derived.OwnWalk
import Derived.Laws.BytesArg
import Derived.Laws.MakeOwn
import Derived.Laws.OwnMore
import Derived.Deep.OwnRows
import Derived.Tactics
import Derived.Lib.ConvBytes
import Derived.Laws.Slices
import Derived.WalkKit
import Derived.KernelRfl
import Derived.RowKit3
import Derived.Deep.LoopGhost
import Derived.Deep.QuietTactic
import Derived.BigQuiet
import Derived.WideLaws
import Derived.Deep.DeepCutAuto
import Derived.Deep.CutBlock
import Derived.Deep.RegionHeld3
import Derived.Laws.Rows
import Derived.Lib.AppendStr
import Derived.ArgAppend
import Derived.Laws.IdiomCopy
import Derived.OrdersHeld
import Derived.Laws.BitsLemmas
import Derived.RowKit
import Derived.Lib.Hide
import Derived.Test.YtelgefkfflgbeaaBVandThroughVPtsN
namespace Go.Proofs.Ytelgefkfflgbeaa.VPts
open Go Go.RowKit Go.Proofs.Ytelgefkfflgbeaa.PVandThrough Go.Proofs.Ytelgefkfflgbeaa.BVandThrough Go.Proofs.Ytelgefkfflgbeaa.Gf Go.Proofs.Ytelgefkfflgbeaa.Bits Go.Proofs.Ytelgefkfflgbeaa.Mem Go.Proofs.YtelgefkfflgbeaaW.PrintWords Go.Proofs.YtelgefkfflgbeaaW.PrintLast
set_option linter.unusedVariables false

theorem str_of {w : World} {A : Option Addr} {n c : Nat} {xs : List Int} {base : Nat} {ok : Nat → Prop} (h : Kd.R (Kd.int .u8) 5 w base ok (.slice A n c) xs) : (convert 22 9 (.slice A n c)).run Try.prog w = .ok (.string (strOfNums xs)) w := by
  obtain ⟨h1, h2, h3⟩ := Kd.R_reads' h
  subst h1
  exact Kd.C_string Try.underlying22 Try.underlying5 Try.underlying9 h3
theorem stop33 (q : Nat) (h : Stop (fun x => gp x 3) 3 q) : firsts (fun x => gp x 3) q = [0, 1, 2] := by
  have h3 : firsts (fun x => gp x 3) 3 = [0, 1, 2] := by decide +kernel
  have : Stop (fun x => gp x 3) 3 3 := ⟨by omega, by rw [h3]; decide, .inr (by rw [h3]; rfl)⟩
  rw [stop_one _ 3 q 3 h this, h3]
theorem str012 : strOfNums [0, 1, 2] = ByteArray.mk #[0, 1, 2] := by decide +kernel

set_option maxRecDepth 100000 in
theorem awake_calls (w : World) : Calls Try.prog 8 #[] w fun e w' => e = .returned (.bool true) ∧ Below w.heap.size w w' := by
  have hs : ((strOfNums [0, 1, 2]).toList == [0, 1, 2]) = true := by decide +kernel
  go_enter Try.func8, Try.ntmps8
  go_upto_region 2 with (go_at_call 7; (refine (points_good 3 3 w (by omega) (by omega) (by omega)).mono ?_); rintro e w1 ⟨v, q, hq, he, hr, hb⟩; rw [stop33 q hq] at he hr; subst he; have HR := Lib.hid hr; have HB := Lib.hid hb; clear hr hb hq)
  obtain ⟨A1, c1, rfl⟩ := Kd.R_slice HR.out
  have hc := str_of HR.out
  rw [if_neg (by decide)] at hc
  simp only [List.length_cons, List.length_nil] at hc
  go_wp2
  repeat (go_quiet (fail); try go_wp2)
  go_ret
  first | exact ⟨rfl, HB.out⟩ | exact ⟨rfl, pw_below_drewN HB.out _⟩

--@def aw
end Go.Proofs.Ytelgefkfflgbeaa.VPts
