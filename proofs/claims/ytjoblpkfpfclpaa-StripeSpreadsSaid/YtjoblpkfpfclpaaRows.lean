/-
  No cell of these rows narrows 'for every input' (looked for: loops, veiled, ifaces, maps, wideKeys, modest, calm, conditions, laid).
  DERIVED. THE GIVEN ROWS OF THIS SEAT. 4 by the template 'for every input the law returns true; each argument reads behind the call as it read before'; 0 by the template 'total and deterministic' (their statements: YtjoblpkfpfclpaaTotals.lean).
  GIVEN WITH THE SEED: the statements are not yours to turn. If you find one false, say at which input.
  Laid BY PROGRAM, IN A SANDBOX (cutbox-rows.mjs): the forced cells as the released guide's own fill.sh prints them over the translation 22bf8a906597ec4b… (all of the seat's roots in one cut). By AI agents, Wed Nov 11 2026. No macro, syntax, notation, axiom, sorry.
-/
import Derived.Test.YtjoblpkfpfclpaaChecked
import GoSem.Claim
import GoSem.ClaimJoined
import GoSem.ClaimMapViews
import Derived.JoinedTies
import Derived.KernelRfl
namespace Go.Proofs.Ytjoblpkfpfclpaa
/- THE CELL 'sum', in the pinned program and in every row, IS THE sha256 OF THE DUMP (.gsa) THAT YtjoblpkfpfclpaaProg.lean LOADS. Nothing in Lean hashes anything: it is a label: what it is worth is what the hold of that sum in a sandbox is worth. -/
noncomputable def Try.pinned : Pinned := { name := "ytjoblpkfpfclpaa", sum := "22bf8a906597ec4b0280cbe115a1112c2f56985465992027b2690ca94cb895d8", checked := Try.checked }
namespace Rows
def none {H : Type} : Left H := { results := [], args := [] }

/-- 'coldframelaw08.StripePlans': WHATEVER THE INPUT: true; the input reads as it did. -/
def stripePlansSpec : ChangeSpec := { name := "stripePlans", fn := fun _ => fun
  | [d1, d2, d3, d4] => { results := [.lit (.bool true)], args := [d1, d2, d3, d4] }
  | _ => none }
def stripePlansRow : OpenClaim := { program := "ytjoblpkfpfclpaa", sum := "22bf8a906597ec4b0280cbe115a1112c2f56985465992027b2690ca94cb895d8", func := "coldframe/coldframelaw08.StripePlans", spec := "stripePlans", apart := false }
def StripePlansSaid : Prop := stripePlansRow.holds Try.pinned (OpenSpec.ofChange stripePlansSpec)

/-- ITS FALSE NEIGHBOUR: 'it returns false'. Refute it at one input. -/
def stripePlansWrong : ChangeSpec := { name := "stripePlans", fn := fun _ => fun
  | [d1, d2, d3, d4] => { results := [.lit (.bool false)], args := [d1, d2, d3, d4] }
  | _ => none }
def StripePlansWrongFalsely : Prop := stripePlansRow.holds Try.pinned (OpenSpec.ofChange stripePlansWrong)

/-- 'coldframelaw08.StripeCuts': WHATEVER THE INPUT: true; the input reads as it did. -/
def stripeCutsSpec : ChangeSpec := { name := "stripeCuts", fn := fun _ => fun
  | [d1, d2, d3, d4, d5, d6] => { results := [.lit (.bool true)], args := [d1, d2, d3, d4, d5, d6] }
  | _ => none }
def stripeCutsRow : OpenClaim := { program := "ytjoblpkfpfclpaa", sum := "22bf8a906597ec4b0280cbe115a1112c2f56985465992027b2690ca94cb895d8", func := "coldframe/coldframelaw08.StripeCuts", spec := "stripeCuts", apart := false }
def StripeCutsSaid : Prop := stripeCutsRow.holds Try.pinned (OpenSpec.ofChange stripeCutsSpec)

/-- ITS FALSE NEIGHBOUR: 'it returns false'. Refute it at one input. -/
def stripeCutsWrong : ChangeSpec := { name := "stripeCuts", fn := fun _ => fun
  | [d1, d2, d3, d4, d5, d6] => { results := [.lit (.bool false)], args := [d1, d2, d3, d4, d5, d6] }
  | _ => none }
def StripeCutsWrongFalsely : Prop := stripeCutsRow.holds Try.pinned (OpenSpec.ofChange stripeCutsWrong)

/-- 'coldframelaw08.StripeSpreads': WHATEVER THE INPUT: true; the input reads as it did. -/
def stripeSpreadsSpec : ChangeSpec := { name := "stripeSpreads", fn := fun _ => fun
  | [d1, d2, d3, d4] => { results := [.lit (.bool true)], args := [d1, d2, d3, d4] }
  | _ => none }
def stripeSpreadsRow : OpenClaim := { program := "ytjoblpkfpfclpaa", sum := "22bf8a906597ec4b0280cbe115a1112c2f56985465992027b2690ca94cb895d8", func := "coldframe/coldframelaw08.StripeSpreads", spec := "stripeSpreads", apart := false }
def StripeSpreadsSaid : Prop := stripeSpreadsRow.holds Try.pinned (OpenSpec.ofChange stripeSpreadsSpec)

/-- ITS FALSE NEIGHBOUR: 'it returns false'. Refute it at one input. -/
def stripeSpreadsWrong : ChangeSpec := { name := "stripeSpreads", fn := fun _ => fun
  | [d1, d2, d3, d4] => { results := [.lit (.bool false)], args := [d1, d2, d3, d4] }
  | _ => none }
def StripeSpreadsWrongFalsely : Prop := stripeSpreadsRow.holds Try.pinned (OpenSpec.ofChange stripeSpreadsWrong)

/-- 'coldframelaw08.StripeLong': WHATEVER THE INPUT: true; the input reads as it did. -/
def stripeLongSpec : ChangeSpec := { name := "stripeLong", fn := fun _ => fun
  | [d1, d2] => { results := [.lit (.bool true)], args := [d1, d2] }
  | _ => none }
def stripeLongRow : OpenClaim := { program := "ytjoblpkfpfclpaa", sum := "22bf8a906597ec4b0280cbe115a1112c2f56985465992027b2690ca94cb895d8", func := "coldframe/coldframelaw08.StripeLong", spec := "stripeLong", apart := false }
def StripeLongSaid : Prop := stripeLongRow.holds Try.pinned (OpenSpec.ofChange stripeLongSpec)

/-- ITS FALSE NEIGHBOUR: 'it returns false'. Refute it at one input. -/
def stripeLongWrong : ChangeSpec := { name := "stripeLong", fn := fun _ => fun
  | [d1, d2] => { results := [.lit (.bool false)], args := [d1, d2] }
  | _ => none }
def StripeLongWrongFalsely : Prop := stripeLongRow.holds Try.pinned (OpenSpec.ofChange stripeLongWrong)

/- THE SECOND FORM. 'bulk': how many values and letters a reading holds, each counted each time it is reached (what is shared counts as often as it is met; a slice's spare places count too). A statement '..UptoSaid' is the law's where the arguments, and the package variables that the reading takes, are together of bulk at most 1048576: NARROWER than '..Said'. Prove '..Said' where nothing that the law and all that it calls make is longer than what came in: it says more and counts as full. Else prove '..UptoSaid'. A law counts once. -/
mutual
def uptoBulk {H : Type} : DataW H → Nat
  | .lit (.string bytes) => bytes.length + 1
  | .lit _ => 1
  | .nil => 1
  | .ptr d => uptoBulk d + 1
  | .slice elems spare => uptoBulkAll elems + uptoBulkAll spare + 1
  | .agg parts => uptoBulkAll parts + 1
  | .iface _ d => uptoBulk d + 1
  | .map entries => uptoBulkEntries entries + 1
  | .held _ => 1
def uptoBulkAll {H : Type} : List (DataW H) → Nat
  | [] => 0
  | d :: r => uptoBulk d + uptoBulkAll r
def uptoBulkEntries {H : Type} : List (Lit × DataW H) → Nat
  | [] => 0
  | x :: r => uptoBulkEntry x + uptoBulkEntries r
def uptoBulkEntry {H : Type} : Lit × DataW H → Nat
  | (.string bytes, d) => bytes.length + uptoBulk d + 1
  | (_, d) => uptoBulk d + 1
 end
def uptoSmall : (H : Type) → List (DataW H) → Bool := fun _ ds => decide (uptoBulkAll ds ≤ 1048576)
def OpenSpec.upto (s : _root_.Go.ChangeSpec) : _root_.Go.OpenSpec := { _root_.Go.OpenSpec.ofChange s with cond := some uptoSmall }

/-- 'coldframelaw08.StripePlans', WHERE WHAT IT READS IS OF BULK AT MOST 1048576: true; the input reads as it did. -/
def stripePlansUptoRow : OpenClaim := { program := "ytjoblpkfpfclpaa", sum := "22bf8a906597ec4b0280cbe115a1112c2f56985465992027b2690ca94cb895d8", func := "coldframe/coldframelaw08.StripePlans", spec := "stripePlans", apart := false, narrowed := true }
def StripePlansUptoSaid : Prop := stripePlansUptoRow.holds Try.pinned (OpenSpec.upto stripePlansSpec)

/-- 'coldframelaw08.StripeCuts', WHERE WHAT IT READS IS OF BULK AT MOST 1048576: true; the input reads as it did. -/
def stripeCutsUptoRow : OpenClaim := { program := "ytjoblpkfpfclpaa", sum := "22bf8a906597ec4b0280cbe115a1112c2f56985465992027b2690ca94cb895d8", func := "coldframe/coldframelaw08.StripeCuts", spec := "stripeCuts", apart := false, narrowed := true }
def StripeCutsUptoSaid : Prop := stripeCutsUptoRow.holds Try.pinned (OpenSpec.upto stripeCutsSpec)

/-- 'coldframelaw08.StripeSpreads', WHERE WHAT IT READS IS OF BULK AT MOST 1048576: true; the input reads as it did. -/
def stripeSpreadsUptoRow : OpenClaim := { program := "ytjoblpkfpfclpaa", sum := "22bf8a906597ec4b0280cbe115a1112c2f56985465992027b2690ca94cb895d8", func := "coldframe/coldframelaw08.StripeSpreads", spec := "stripeSpreads", apart := false, narrowed := true }
def StripeSpreadsUptoSaid : Prop := stripeSpreadsUptoRow.holds Try.pinned (OpenSpec.upto stripeSpreadsSpec)

/-- 'coldframelaw08.StripeLong', WHERE WHAT IT READS IS OF BULK AT MOST 1048576: true; the input reads as it did. -/
def stripeLongUptoRow : OpenClaim := { program := "ytjoblpkfpfclpaa", sum := "22bf8a906597ec4b0280cbe115a1112c2f56985465992027b2690ca94cb895d8", func := "coldframe/coldframelaw08.StripeLong", spec := "stripeLong", apart := false, narrowed := true }
def StripeLongUptoSaid : Prop := stripeLongUptoRow.holds Try.pinned (OpenSpec.upto stripeLongSpec)

end Rows
end Go.Proofs.Ytjoblpkfpfclpaa
