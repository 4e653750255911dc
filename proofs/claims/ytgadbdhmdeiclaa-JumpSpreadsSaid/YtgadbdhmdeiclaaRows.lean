/-
  No cell of these rows narrows 'for every input' (looked for: loops, veiled, ifaces, maps, wideKeys, modest, calm, conditions, laid).
  DERIVED. THE GIVEN ROWS OF THIS SEAT. 3 by the template 'for every input the law returns true; each argument reads behind the call as it read before'; 0 by the template 'total and deterministic' (their statements: YtgadbdhmdeiclaaTotals.lean).
  GIVEN WITH THE SEED: the statements are not yours to turn. If you find one false, say at which input.
  Laid BY PROGRAM, IN A SANDBOX (cutbox-rows.mjs): the forced cells as the released guide's own fill.sh prints them over the translation f32358538653cca5… (all of the seat's roots in one cut). By AI agents, Wed Nov 11 2026. No macro, syntax, notation, axiom, sorry.
-/
import Derived.Test.YtgadbdhmdeiclaaChecked
import GoSem.Claim
import GoSem.ClaimJoined
import GoSem.ClaimMapViews
import Derived.JoinedTies
import Derived.KernelRfl
namespace Go.Proofs.Ytgadbdhmdeiclaa
/- THE CELL 'sum', in the pinned program and in every row, IS THE sha256 OF THE DUMP (.gsa) THAT YtgadbdhmdeiclaaProg.lean LOADS. Nothing in Lean hashes anything: it is a label: what it is worth is what the hold of that sum in a sandbox is worth. -/
noncomputable def Try.pinned : Pinned := { name := "ytgadbdhmdeiclaa", sum := "f32358538653cca5df7486b7257fdef56488e8af2a76649bed938c9ed34aaea5", checked := Try.checked }
namespace Rows
def none {H : Type} : Left H := { results := [], args := [] }

/-- 'coldframelaw40.JumpFalls': WHATEVER THE INPUT: true; the input reads as it did. -/
def jumpFallsSpec : ChangeSpec := { name := "jumpFalls", fn := fun _ => fun
  | [d1, d2, d3] => { results := [.lit (.bool true)], args := [d1, d2, d3] }
  | _ => none }
def jumpFallsRow : OpenClaim := { program := "ytgadbdhmdeiclaa", sum := "f32358538653cca5df7486b7257fdef56488e8af2a76649bed938c9ed34aaea5", func := "coldframe/coldframelaw40.JumpFalls", spec := "jumpFalls", apart := false }
def JumpFallsSaid : Prop := jumpFallsRow.holds Try.pinned (OpenSpec.ofChange jumpFallsSpec)

/-- ITS FALSE NEIGHBOUR: 'it returns false'. Refute it at one input. -/
def jumpFallsWrong : ChangeSpec := { name := "jumpFalls", fn := fun _ => fun
  | [d1, d2, d3] => { results := [.lit (.bool false)], args := [d1, d2, d3] }
  | _ => none }
def JumpFallsWrongFalsely : Prop := jumpFallsRow.holds Try.pinned (OpenSpec.ofChange jumpFallsWrong)

/-- 'coldframelaw40.JumpKeeps': WHATEVER THE INPUT: true; the input reads as it did. -/
def jumpKeepsSpec : ChangeSpec := { name := "jumpKeeps", fn := fun _ => fun
  | [d1, d2] => { results := [.lit (.bool true)], args := [d1, d2] }
  | _ => none }
def jumpKeepsRow : OpenClaim := { program := "ytgadbdhmdeiclaa", sum := "f32358538653cca5df7486b7257fdef56488e8af2a76649bed938c9ed34aaea5", func := "coldframe/coldframelaw40.JumpKeeps", spec := "jumpKeeps", apart := false }
def JumpKeepsSaid : Prop := jumpKeepsRow.holds Try.pinned (OpenSpec.ofChange jumpKeepsSpec)

/-- ITS FALSE NEIGHBOUR: 'it returns false'. Refute it at one input. -/
def jumpKeepsWrong : ChangeSpec := { name := "jumpKeeps", fn := fun _ => fun
  | [d1, d2] => { results := [.lit (.bool false)], args := [d1, d2] }
  | _ => none }
def JumpKeepsWrongFalsely : Prop := jumpKeepsRow.holds Try.pinned (OpenSpec.ofChange jumpKeepsWrong)

/-- 'coldframelaw40.JumpSpreads': WHATEVER THE INPUT: true; the input reads as it did. -/
def jumpSpreadsSpec : ChangeSpec := { name := "jumpSpreads", fn := fun _ => fun
  | [d1, d2, d3] => { results := [.lit (.bool true)], args := [d1, d2, d3] }
  | _ => none }
def jumpSpreadsRow : OpenClaim := { program := "ytgadbdhmdeiclaa", sum := "f32358538653cca5df7486b7257fdef56488e8af2a76649bed938c9ed34aaea5", func := "coldframe/coldframelaw40.JumpSpreads", spec := "jumpSpreads", apart := false }
def JumpSpreadsSaid : Prop := jumpSpreadsRow.holds Try.pinned (OpenSpec.ofChange jumpSpreadsSpec)

/-- ITS FALSE NEIGHBOUR: 'it returns false'. Refute it at one input. -/
def jumpSpreadsWrong : ChangeSpec := { name := "jumpSpreads", fn := fun _ => fun
  | [d1, d2, d3] => { results := [.lit (.bool false)], args := [d1, d2, d3] }
  | _ => none }
def JumpSpreadsWrongFalsely : Prop := jumpSpreadsRow.holds Try.pinned (OpenSpec.ofChange jumpSpreadsWrong)

/- THE SECOND FORM. 'bulk': how many values and letters a reading holds, each counted each time it is reached (what is shared counts as often as it is met; a slice's spare places count too). A statement '..UptoSaid' is the law's where the arguments, and the package variables that the reading takes, are together of bulk at most 1048576: NARROWER than '..Said'. Prove '..Said' where nothing that the law and all that it calls make is longer than what came in: it says more and counts as full. Else prove '..UptoSaid'. A law counts once. -/
mutual
def uptoBulk {H : Type} : DataW H → Nat
  | .lit (.string bytes) => bytes.length + 1
  | .lit _ => 1
  | .nil => 1
  | .ptr d => uptoBulk d + 1
  | .slice elems spare => uptoBulkAll elems + uptoBulkAll spare + 1
  | .agg parts => uptoBulkAll parts + 1
  | .iface _ d => uptoBulk d + 1
  | .map entries => uptoBulkEntries entries + 1
  | .held _ => 1
def uptoBulkAll {H : Type} : List (DataW H) → Nat
  | [] => 0
  | d :: r => uptoBulk d + uptoBulkAll r
def uptoBulkEntries {H : Type} : List (Lit × DataW H) → Nat
  | [] => 0
  | x :: r => uptoBulkEntry x + uptoBulkEntries r
def uptoBulkEntry {H : Type} : Lit × DataW H → Nat
  | (.string bytes, d) => bytes.length + uptoBulk d + 1
  | (_, d) => uptoBulk d + 1
 end
def uptoSmall : (H : Type) → List (DataW H) → Bool := fun _ ds => decide (uptoBulkAll ds ≤ 1048576)
def OpenSpec.upto (s : _root_.Go.ChangeSpec) : _root_.Go.OpenSpec := { _root_.Go.OpenSpec.ofChange s with cond := some uptoSmall }

/-- 'coldframelaw40.JumpFalls', WHERE WHAT IT READS IS OF BULK AT MOST 1048576: true; the input reads as it did. -/
def jumpFallsUptoRow : OpenClaim := { program := "ytgadbdhmdeiclaa", sum := "f32358538653cca5df7486b7257fdef56488e8af2a76649bed938c9ed34aaea5", func := "coldframe/coldframelaw40.JumpFalls", spec := "jumpFalls", apart := false, narrowed := true }
def JumpFallsUptoSaid : Prop := jumpFallsUptoRow.holds Try.pinned (OpenSpec.upto jumpFallsSpec)

/-- 'coldframelaw40.JumpKeeps', WHERE WHAT IT READS IS OF BULK AT MOST 1048576: true; the input reads as it did. -/
def jumpKeepsUptoRow : OpenClaim := { program := "ytgadbdhmdeiclaa", sum := "f32358538653cca5df7486b7257fdef56488e8af2a76649bed938c9ed34aaea5", func := "coldframe/coldframelaw40.JumpKeeps", spec := "jumpKeeps", apart := false, narrowed := true }
def JumpKeepsUptoSaid : Prop := jumpKeepsUptoRow.holds Try.pinned (OpenSpec.upto jumpKeepsSpec)

/-- 'coldframelaw40.JumpSpreads', WHERE WHAT IT READS IS OF BULK AT MOST 1048576: true; the input reads as it did. -/
def jumpSpreadsUptoRow : OpenClaim := { program := "ytgadbdhmdeiclaa", sum := "f32358538653cca5df7486b7257fdef56488e8af2a76649bed938c9ed34aaea5", func := "coldframe/coldframelaw40.JumpSpreads", spec := "jumpSpreads", apart := false, narrowed := true }
def JumpSpreadsUptoSaid : Prop := jumpSpreadsUptoRow.holds Try.pinned (OpenSpec.upto jumpSpreadsSpec)

end Rows
end Go.Proofs.Ytgadbdhmdeiclaa
