/- The statement VandThrough over what comes in. -/
import Derived.Test.YtelgefkfflgbeaaProg
import Derived.Below
import Derived.Deep.Draws
import Derived.Deep.AppendLies
import Derived.Maps.AppendAt
import Derived.OwnWalk
import Derived.Laws.BytesArg
import Derived.Laws.MakeOwn
import Derived.Laws.OwnMore
import Derived.Deep.OwnRows
import Derived.Tactics
import Derived.Lib.ConvBytes
import Derived.Laws.Slices
import Derived.WalkKit
import Derived.KernelRfl
import Derived.RowKit3
import Derived.Deep.LoopGhost
import Derived.Deep.QuietTactic
import Derived.BigQuiet
import Derived.WideLaws
import Derived.Deep.DeepCutAuto
import Derived.Deep.CutBlock
import Derived.Deep.RegionHeld3
import Derived.Laws.Rows
import Derived.Lib.AppendStr
import Derived.ArgAppend
import Derived.Laws.IdiomCopy
import Derived.OrdersHeld
import Derived.Laws.BitsLemmas
import Derived.RowKit
import Derived.Lib.Hide
import Derived.Test.YtelgefkfflgbeaaOpens
import Derived.Test.YtelgefkfflgbeaaBVandThroughLVandThrough
namespace Go.Proofs.Ytelgefkfflgbeaa.Sol
open Go Go.RowKit Go.Proofs.Ytelgefkfflgbeaa.PVandThrough Go.Proofs.Ytelgefkfflgbeaa.Gi Go.Proofs.Ytelgefkfflgbeaa.Opn Go.Proofs.Ytelgefkfflgbeaa.Mem Go.Proofs.Ytelgefkfflgbeaa.Bits Go.Proofs.Ytelgefkfflgbeaa.Rws Go.Proofs.YtelgefkfflgbeaaW.PrintWords Go.Proofs.YtelgefkfflgbeaaW.PrintLast
set_option linter.unusedVariables false

theorem r_u8 {a : Int} (h : (Lit.int .u8 a).wf = true) : 0 ≤ a ∧ a < 256 := by
  simp [Lit.wf, IntKind.min, IntKind.max, IntKind.signed, IntKind.bits] at h; omega
theorem opens_bytes : Opens (Kd.slice 5 (Kd.int .u8)) (fun l => l.length ≤ 9223372036854775807 ∧ ∀ a ∈ l, (Lit.int .u8 a).wf = true) 22 := opens_slice Try.underlying22 (by kernel_rfl) (opens_int Try.underlying5)
/-- A list, told by places. -/
theorem line_of (l : List Int) : line l.length (fun i => l.getD i 0) = l := by
  refine List.ext_getElem (by simp [line]) (fun j h1 h2 => ?_)
  simp [line, List.getD_eq_getElem?_getD, h2]
theorem vt_row {w : World} (A0 : Option Addr) (c0 : Nat) (b0 : List Int) (hB0 : (Kd.int .u8).C w A0 b0.length b0) (hc0 : b0.length ≤ c0) (hok0 : b0.length ≤ 9223372036854775807 ∧ ∀ a ∈ b0, (Lit.int .u8 a).wf = true)
    (A1 : Option Addr) (c1 : Nat) (b1 : List Int) (hB1 : (Kd.int .u8).C w A1 b1.length b1) (hc1 : b1.length ≤ c1) (hok1 : b1.length ≤ 9223372036854775807 ∧ ∀ a ∈ b1, (Lit.int .u8 a).wf = true)
    (A2 : Option Addr) (c2 : Nat) (b2 : List Int) (hB2 : (Kd.int .u8).C w A2 b2.length b2) (hc2 : b2.length ≤ c2) (hok2 : b2.length ≤ 9223372036854775807 ∧ ∀ a ∈ b2, (Lit.int .u8 a).wf = true)
    (z : Int) (hz : (Lit.int .u8 z).wf = true) (_ : World) :
    Calls Try.prog 4 #[.slice A0 b0.length c0, .slice A1 b1.length c1, .slice A2 b2.length c2, .int .u8 z] w fun e w' => e = .returned (.bool true) ∧ Below w.heap.size w w' := by
  by_cases hbig : 100 < b0.length ∨ 100 < b1.length ∨ 100 < b2.length
  · exact vt_big _ _ _ c0 c1 c2 A0 A1 A2 z w hbig
  have hx : ∀ j, Byt ((fun i => b0.getD i 0) j) := fun j => getD_byt (fun x hx => r_u8 (hok0.2 x hx)) j
  have hv : ∀ j, Byt ((fun i => b1.getD i 0) j) := fun j => getD_byt (fun x hx => r_u8 (hok1.2 x hx)) j
  have hc : ∀ j, Byt ((fun i => b2.getD i 0) j) := fun j => getD_byt (fun x hx => r_u8 (hok2.2 x hx)) j
  have hC0 := hB0
  have hC1 := hB1
  have hC2 := hB2
  have e0 := line_of b0
  have e1 := line_of b1
  have e2 := line_of b2
  rw [← e0, line_len] at hC0
  rw [← e1, line_len] at hC1
  rw [← e2, line_len] at hC2
  by_cases h : b0.length < 1 ∨ 64 < b0.length ∨ b0.length ≠ b1.length ∨ Dupl b0.length (fun i => b0.getD i 0)
  · exact vt_bad b0.length b1.length b2.length c0 c1 c2 A0 A1 A2 _ _ _ z w hC0 hC1 hC2 hx hv hc (r_u8 hz) hc0 hc2 (by omega) (by omega) (by omega) h
  · have hn : b0.length = b1.length := by
      rcases Nat.decEq b0.length b1.length with hne | heq
      · exact absurd (.inr (.inr (.inl hne))) h
      · exact heq
    have h1 : ¬ b0.length < 1 := fun e => h (.inl e)
    have h2 : ¬ 64 < b0.length := fun e => h (.inr (.inl e))
    have h3 : ¬ Dupl b0.length (fun i => b0.getD i 0) := fun e => h (.inr (.inr (.inr e)))
    rw [← hn] at hC1 ⊢
    exact vt_good b0.length b2.length c0 c1 c2 A0 A1 A2 _ _ _ z w hC0 hC1 hC2 hx hv hc (r_u8 hz) hc0 hc2 (by omega) (by omega) (by omega) h3
end Go.Proofs.Ytelgefkfflgbeaa.Sol
