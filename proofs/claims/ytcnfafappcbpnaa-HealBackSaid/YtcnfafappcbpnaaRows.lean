/-
  No cell of these rows narrows 'for every input' (looked for: loops, veiled, ifaces, maps, wideKeys, modest, calm, conditions, laid).
  DERIVED. THE GIVEN ROWS OF THIS SEAT. 4 by the template 'for every input the law returns true; each argument reads behind the call as it read before'; 0 by the template 'total and deterministic' (their statements: YtcnfafappcbpnaaTotals.lean).
  GIVEN WITH THE SEED: the statements are not yours to turn. If you find one false, say at which input.
  Laid BY PROGRAM, IN A SANDBOX (cutbox-rows.mjs): the forced cells as the released guide's own fill.sh prints them over the translation cb6b8661309b0438… (all of the seat's roots in one cut). By AI agents, Wed Nov 11 2026. No macro, syntax, notation, axiom, sorry.
-/
import Derived.Test.YtcnfafappcbpnaaChecked
import GoSem.Claim
import GoSem.ClaimJoined
import GoSem.ClaimMapViews
import Derived.JoinedTies
import Derived.KernelRfl
namespace Go.Proofs.Ytcnfafappcbpnaa
/- THE CELL 'sum', in the pinned program and in every row, IS THE sha256 OF THE DUMP (.gsa) THAT YtcnfafappcbpnaaProg.lean LOADS. Nothing in Lean hashes anything: it is a label: what it is worth is what the hold of that sum in a sandbox is worth. -/
noncomputable def Try.pinned : Pinned := { name := "ytcnfafappcbpnaa", sum := "cb6b8661309b0438f469e5dd6719eb6285e92ce993550e513364043862babbd5", checked := Try.checked }
namespace Rows
def none {H : Type} : Left H := { results := [], args := [] }

/-- 'coldframelaw07.HealFragments': WHATEVER THE INPUT: true; the input reads as it did. -/
def healFragmentsSpec : ChangeSpec := { name := "healFragments", fn := fun _ => fun
  | [d1, d2, d3, d4] => { results := [.lit (.bool true)], args := [d1, d2, d3, d4] }
  | _ => none }
def healFragmentsRow : OpenClaim := { program := "ytcnfafappcbpnaa", sum := "cb6b8661309b0438f469e5dd6719eb6285e92ce993550e513364043862babbd5", func := "coldframe/coldframelaw07.HealFragments", spec := "healFragments", apart := false }
def HealFragmentsSaid : Prop := healFragmentsRow.holds Try.pinned (OpenSpec.ofChange healFragmentsSpec)

/-- ITS FALSE NEIGHBOUR: 'it returns false'. Refute it at one input. -/
def healFragmentsWrong : ChangeSpec := { name := "healFragments", fn := fun _ => fun
  | [d1, d2, d3, d4] => { results := [.lit (.bool false)], args := [d1, d2, d3, d4] }
  | _ => none }
def HealFragmentsWrongFalsely : Prop := healFragmentsRow.holds Try.pinned (OpenSpec.ofChange healFragmentsWrong)

/-- 'coldframelaw07.HealRegenerates': WHATEVER THE INPUT: true; the input reads as it did. -/
def healRegeneratesSpec : ChangeSpec := { name := "healRegenerates", fn := fun _ => fun
  | [d1, d2, d3, d4] => { results := [.lit (.bool true)], args := [d1, d2, d3, d4] }
  | _ => none }
def healRegeneratesRow : OpenClaim := { program := "ytcnfafappcbpnaa", sum := "cb6b8661309b0438f469e5dd6719eb6285e92ce993550e513364043862babbd5", func := "coldframe/coldframelaw07.HealRegenerates", spec := "healRegenerates", apart := false }
def HealRegeneratesSaid : Prop := healRegeneratesRow.holds Try.pinned (OpenSpec.ofChange healRegeneratesSpec)

/-- ITS FALSE NEIGHBOUR: 'it returns false'. Refute it at one input. -/
def healRegeneratesWrong : ChangeSpec := { name := "healRegenerates", fn := fun _ => fun
  | [d1, d2, d3, d4] => { results := [.lit (.bool false)], args := [d1, d2, d3, d4] }
  | _ => none }
def HealRegeneratesWrongFalsely : Prop := healRegeneratesRow.holds Try.pinned (OpenSpec.ofChange healRegeneratesWrong)

/-- 'coldframelaw07.HealWholes': WHATEVER THE INPUT: true; the input reads as it did. -/
def healWholesSpec : ChangeSpec := { name := "healWholes", fn := fun _ => fun
  | [d1, d2, d3, d4] => { results := [.lit (.bool true)], args := [d1, d2, d3, d4] }
  | _ => none }
def healWholesRow : OpenClaim := { program := "ytcnfafappcbpnaa", sum := "cb6b8661309b0438f469e5dd6719eb6285e92ce993550e513364043862babbd5", func := "coldframe/coldframelaw07.HealWholes", spec := "healWholes", apart := false }
def HealWholesSaid : Prop := healWholesRow.holds Try.pinned (OpenSpec.ofChange healWholesSpec)

/-- ITS FALSE NEIGHBOUR: 'it returns false'. Refute it at one input. -/
def healWholesWrong : ChangeSpec := { name := "healWholes", fn := fun _ => fun
  | [d1, d2, d3, d4] => { results := [.lit (.bool false)], args := [d1, d2, d3, d4] }
  | _ => none }
def HealWholesWrongFalsely : Prop := healWholesRow.holds Try.pinned (OpenSpec.ofChange healWholesWrong)

/-- 'coldframelaw07.HealBack': WHATEVER THE INPUT: true; the input reads as it did. -/
def healBackSpec : ChangeSpec := { name := "healBack", fn := fun _ => fun
  | [d1, d2, d3, d4, d5] => { results := [.lit (.bool true)], args := [d1, d2, d3, d4, d5] }
  | _ => none }
def healBackRow : OpenClaim := { program := "ytcnfafappcbpnaa", sum := "cb6b8661309b0438f469e5dd6719eb6285e92ce993550e513364043862babbd5", func := "coldframe/coldframelaw07.HealBack", spec := "healBack", apart := false }
def HealBackSaid : Prop := healBackRow.holds Try.pinned (OpenSpec.ofChange healBackSpec)

/-- ITS FALSE NEIGHBOUR: 'it returns false'. Refute it at one input. -/
def healBackWrong : ChangeSpec := { name := "healBack", fn := fun _ => fun
  | [d1, d2, d3, d4, d5] => { results := [.lit (.bool false)], args := [d1, d2, d3, d4, d5] }
  | _ => none }
def HealBackWrongFalsely : Prop := healBackRow.holds Try.pinned (OpenSpec.ofChange healBackWrong)

/- THE SECOND FORM. 'bulk': how many values and letters a reading holds, each counted each time it is reached (what is shared counts as often as it is met; a slice's spare places count too). A statement '..UptoSaid' is the law's where the arguments, and the package variables that the reading takes, are together of bulk at most 1048576: NARROWER than '..Said'. Prove '..Said' where nothing that the law and all that it calls make is longer than what came in: it says more and counts as full. Else prove '..UptoSaid'. A law counts once. -/
mutual
def uptoBulk {H : Type} : DataW H → Nat
  | .lit (.string bytes) => bytes.length + 1
  | .lit _ => 1
  | .nil => 1
  | .ptr d => uptoBulk d + 1
  | .slice elems spare => uptoBulkAll elems + uptoBulkAll spare + 1
  | .agg parts => uptoBulkAll parts + 1
  | .iface _ d => uptoBulk d + 1
  | .map entries => uptoBulkEntries entries + 1
  | .held _ => 1
def uptoBulkAll {H : Type} : List (DataW H) → Nat
  | [] => 0
  | d :: r => uptoBulk d + uptoBulkAll r
def uptoBulkEntries {H : Type} : List (Lit × DataW H) → Nat
  | [] => 0
  | x :: r => uptoBulkEntry x + uptoBulkEntries r
def uptoBulkEntry {H : Type} : Lit × DataW H → Nat
  | (.string bytes, d) => bytes.length + uptoBulk d + 1
  | (_, d) => uptoBulk d + 1
 end
def uptoSmall : (H : Type) → List (DataW H) → Bool := fun _ ds => decide (uptoBulkAll ds ≤ 1048576)
def OpenSpec.upto (s : _root_.Go.ChangeSpec) : _root_.Go.OpenSpec := { _root_.Go.OpenSpec.ofChange s with cond := some uptoSmall }

/-- 'coldframelaw07.HealFragments', WHERE WHAT IT READS IS OF BULK AT MOST 1048576: true; the input reads as it did. -/
def healFragmentsUptoRow : OpenClaim := { program := "ytcnfafappcbpnaa", sum := "cb6b8661309b0438f469e5dd6719eb6285e92ce993550e513364043862babbd5", func := "coldframe/coldframelaw07.HealFragments", spec := "healFragments", apart := false, narrowed := true }
def HealFragmentsUptoSaid : Prop := healFragmentsUptoRow.holds Try.pinned (OpenSpec.upto healFragmentsSpec)

/-- 'coldframelaw07.HealRegenerates', WHERE WHAT IT READS IS OF BULK AT MOST 1048576: true; the input reads as it did. -/
def healRegeneratesUptoRow : OpenClaim := { program := "ytcnfafappcbpnaa", sum := "cb6b8661309b0438f469e5dd6719eb6285e92ce993550e513364043862babbd5", func := "coldframe/coldframelaw07.HealRegenerates", spec := "healRegenerates", apart := false, narrowed := true }
def HealRegeneratesUptoSaid : Prop := healRegeneratesUptoRow.holds Try.pinned (OpenSpec.upto healRegeneratesSpec)

/-- 'coldframelaw07.HealWholes', WHERE WHAT IT READS IS OF BULK AT MOST 1048576: true; the input reads as it did. -/
def healWholesUptoRow : OpenClaim := { program := "ytcnfafappcbpnaa", sum := "cb6b8661309b0438f469e5dd6719eb6285e92ce993550e513364043862babbd5", func := "coldframe/coldframelaw07.HealWholes", spec := "healWholes", apart := false, narrowed := true }
def HealWholesUptoSaid : Prop := healWholesUptoRow.holds Try.pinned (OpenSpec.upto healWholesSpec)

/-- 'coldframelaw07.HealBack', WHERE WHAT IT READS IS OF BULK AT MOST 1048576: true; the input reads as it did. -/
def healBackUptoRow : OpenClaim := { program := "ytcnfafappcbpnaa", sum := "cb6b8661309b0438f469e5dd6719eb6285e92ce993550e513364043862babbd5", func := "coldframe/coldframelaw07.HealBack", spec := "healBack", apart := false, narrowed := true }
def HealBackUptoSaid : Prop := healBackUptoRow.holds Try.pinned (OpenSpec.upto healBackSpec)

end Rows
end Go.Proofs.Ytcnfafappcbpnaa
