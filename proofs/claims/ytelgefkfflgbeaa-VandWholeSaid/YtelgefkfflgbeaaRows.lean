/-
  No cell of these rows narrows 'for every input' (looked for: loops, veiled, ifaces, maps, wideKeys, modest, calm, conditions, laid).
  DERIVED. THE GIVEN ROWS OF THIS SEAT. 4 by the template 'for every input the law returns true; each argument reads behind the call as it read before'; 0 by the template 'total and deterministic' (their statements: YtelgefkfflgbeaaTotals.lean).
  GIVEN WITH THE SEED: the statements are not yours to turn. If you find one false, say at which input.
  Laid BY PROGRAM, IN A SANDBOX (cutbox-rows.mjs): the forced cells as the released guide's own fill.sh prints them over the translation c800c54dfbd97aa4… (all of the seat's roots in one cut). By AI agents, Wed Nov 11 2026. No macro, syntax, notation, axiom, sorry.
-/
import Derived.Test.YtelgefkfflgbeaaChecked
import GoSem.Claim
import GoSem.ClaimJoined
import GoSem.ClaimMapViews
import Derived.JoinedTies
import Derived.KernelRfl
namespace Go.Proofs.Ytelgefkfflgbeaa
/- THE CELL 'sum', in the pinned program and in every row, IS THE sha256 OF THE DUMP (.gsa) THAT YtelgefkfflgbeaaProg.lean LOADS. Nothing in Lean hashes anything: it is a label: what it is worth is what the hold of that sum in a sandbox is worth. -/
noncomputable def Try.pinned : Pinned := { name := "ytelgefkfflgbeaa", sum := "c800c54dfbd97aa45cf87e3f50ec5be952165218b4b6e9060017e021f71c38bd", checked := Try.checked }
namespace Rows
def none {H : Type} : Left H := { results := [], args := [] }

/-- 'coldframelaw05.VandPoints': WHATEVER THE INPUT: true; the input reads as it did. -/
def vandPointsSpec : ChangeSpec := { name := "vandPoints", fn := fun _ => fun
  | [d1, d2] => { results := [.lit (.bool true)], args := [d1, d2] }
  | _ => none }
def vandPointsRow : OpenClaim := { program := "ytelgefkfflgbeaa", sum := "c800c54dfbd97aa45cf87e3f50ec5be952165218b4b6e9060017e021f71c38bd", func := "coldframe/coldframelaw05.VandPoints", spec := "vandPoints", apart := false }
def VandPointsSaid : Prop := vandPointsRow.holds Try.pinned (OpenSpec.ofChange vandPointsSpec)

/-- ITS FALSE NEIGHBOUR: 'it returns false'. Refute it at one input. -/
def vandPointsWrong : ChangeSpec := { name := "vandPoints", fn := fun _ => fun
  | [d1, d2] => { results := [.lit (.bool false)], args := [d1, d2] }
  | _ => none }
def VandPointsWrongFalsely : Prop := vandPointsRow.holds Try.pinned (OpenSpec.ofChange vandPointsWrong)

/-- 'coldframelaw05.VandThrough': WHATEVER THE INPUT: true; the input reads as it did. -/
def vandThroughSpec : ChangeSpec := { name := "vandThrough", fn := fun _ => fun
  | [d1, d2, d3, d4] => { results := [.lit (.bool true)], args := [d1, d2, d3, d4] }
  | _ => none }
def vandThroughRow : OpenClaim := { program := "ytelgefkfflgbeaa", sum := "c800c54dfbd97aa45cf87e3f50ec5be952165218b4b6e9060017e021f71c38bd", func := "coldframe/coldframelaw05.VandThrough", spec := "vandThrough", apart := false }
def VandThroughSaid : Prop := vandThroughRow.holds Try.pinned (OpenSpec.ofChange vandThroughSpec)

/-- ITS FALSE NEIGHBOUR: 'it returns false'. Refute it at one input. -/
def vandThroughWrong : ChangeSpec := { name := "vandThrough", fn := fun _ => fun
  | [d1, d2, d3, d4] => { results := [.lit (.bool false)], args := [d1, d2, d3, d4] }
  | _ => none }
def VandThroughWrongFalsely : Prop := vandThroughRow.holds Try.pinned (OpenSpec.ofChange vandThroughWrong)

/-- 'coldframelaw05.VandRows': WHATEVER THE INPUT: true; the input reads as it did. -/
def vandRowsSpec : ChangeSpec := { name := "vandRows", fn := fun _ => fun
  | [d1, d2, d3] => { results := [.lit (.bool true)], args := [d1, d2, d3] }
  | _ => none }
def vandRowsRow : OpenClaim := { program := "ytelgefkfflgbeaa", sum := "c800c54dfbd97aa45cf87e3f50ec5be952165218b4b6e9060017e021f71c38bd", func := "coldframe/coldframelaw05.VandRows", spec := "vandRows", apart := false }
def VandRowsSaid : Prop := vandRowsRow.holds Try.pinned (OpenSpec.ofChange vandRowsSpec)

/-- ITS FALSE NEIGHBOUR: 'it returns false'. Refute it at one input. -/
def vandRowsWrong : ChangeSpec := { name := "vandRows", fn := fun _ => fun
  | [d1, d2, d3] => { results := [.lit (.bool false)], args := [d1, d2, d3] }
  | _ => none }
def VandRowsWrongFalsely : Prop := vandRowsRow.holds Try.pinned (OpenSpec.ofChange vandRowsWrong)

/-- 'coldframelaw05.VandWhole': WHATEVER THE INPUT: true; the input reads as it did. -/
def vandWholeSpec : ChangeSpec := { name := "vandWhole", fn := fun _ => fun
  | [d] => { results := [.lit (.bool true)], args := [d] }
  | _ => none }
def vandWholeRow : OpenClaim := { program := "ytelgefkfflgbeaa", sum := "c800c54dfbd97aa45cf87e3f50ec5be952165218b4b6e9060017e021f71c38bd", func := "coldframe/coldframelaw05.VandWhole", spec := "vandWhole", apart := false }
def VandWholeSaid : Prop := vandWholeRow.holds Try.pinned (OpenSpec.ofChange vandWholeSpec)

/-- ITS FALSE NEIGHBOUR: 'it returns false'. Refute it at one input. -/
def vandWholeWrong : ChangeSpec := { name := "vandWhole", fn := fun _ => fun
  | [d] => { results := [.lit (.bool false)], args := [d] }
  | _ => none }
def VandWholeWrongFalsely : Prop := vandWholeRow.holds Try.pinned (OpenSpec.ofChange vandWholeWrong)

/- THE SECOND FORM. 'bulk': how many values and letters a reading holds, each counted each time it is reached (what is shared counts as often as it is met; a slice's spare places count too). A statement '..UptoSaid' is the law's where the arguments, and the package variables that the reading takes, are together of bulk at most 1048576: NARROWER than '..Said'. Prove '..Said' where nothing that the law and all that it calls make is longer than what came in: it says more and counts as full. Else prove '..UptoSaid'. A law counts once. -/
mutual
def uptoBulk {H : Type} : DataW H → Nat
  | .lit (.string bytes) => bytes.length + 1
  | .lit _ => 1
  | .nil => 1
  | .ptr d => uptoBulk d + 1
  | .slice elems spare => uptoBulkAll elems + uptoBulkAll spare + 1
  | .agg parts => uptoBulkAll parts + 1
  | .iface _ d => uptoBulk d + 1
  | .map entries => uptoBulkEntries entries + 1
  | .held _ => 1
def uptoBulkAll {H : Type} : List (DataW H) → Nat
  | [] => 0
  | d :: r => uptoBulk d + uptoBulkAll r
def uptoBulkEntries {H : Type} : List (Lit × DataW H) → Nat
  | [] => 0
  | x :: r => uptoBulkEntry x + uptoBulkEntries r
def uptoBulkEntry {H : Type} : Lit × DataW H → Nat
  | (.string bytes, d) => bytes.length + uptoBulk d + 1
  | (_, d) => uptoBulk d + 1
 end
def uptoSmall : (H : Type) → List (DataW H) → Bool := fun _ ds => decide (uptoBulkAll ds ≤ 1048576)
def OpenSpec.upto (s : _root_.Go.ChangeSpec) : _root_.Go.OpenSpec := { _root_.Go.OpenSpec.ofChange s with cond := some uptoSmall }

/-- 'coldframelaw05.VandPoints', WHERE WHAT IT READS IS OF BULK AT MOST 1048576: true; the input reads as it did. -/
def vandPointsUptoRow : OpenClaim := { program := "ytelgefkfflgbeaa", sum := "c800c54dfbd97aa45cf87e3f50ec5be952165218b4b6e9060017e021f71c38bd", func := "coldframe/coldframelaw05.VandPoints", spec := "vandPoints", apart := false, narrowed := true }
def VandPointsUptoSaid : Prop := vandPointsUptoRow.holds Try.pinned (OpenSpec.upto vandPointsSpec)

/-- 'coldframelaw05.VandThrough', WHERE WHAT IT READS IS OF BULK AT MOST 1048576: true; the input reads as it did. -/
def vandThroughUptoRow : OpenClaim := { program := "ytelgefkfflgbeaa", sum := "c800c54dfbd97aa45cf87e3f50ec5be952165218b4b6e9060017e021f71c38bd", func := "coldframe/coldframelaw05.VandThrough", spec := "vandThrough", apart := false, narrowed := true }
def VandThroughUptoSaid : Prop := vandThroughUptoRow.holds Try.pinned (OpenSpec.upto vandThroughSpec)

/-- 'coldframelaw05.VandRows', WHERE WHAT IT READS IS OF BULK AT MOST 1048576: true; the input reads as it did. -/
def vandRowsUptoRow : OpenClaim := { program := "ytelgefkfflgbeaa", sum := "c800c54dfbd97aa45cf87e3f50ec5be952165218b4b6e9060017e021f71c38bd", func := "coldframe/coldframelaw05.VandRows", spec := "vandRows", apart := false, narrowed := true }
def VandRowsUptoSaid : Prop := vandRowsUptoRow.holds Try.pinned (OpenSpec.upto vandRowsSpec)

/-- 'coldframelaw05.VandWhole', WHERE WHAT IT READS IS OF BULK AT MOST 1048576: true; the input reads as it did. -/
def vandWholeUptoRow : OpenClaim := { program := "ytelgefkfflgbeaa", sum := "c800c54dfbd97aa45cf87e3f50ec5be952165218b4b6e9060017e021f71c38bd", func := "coldframe/coldframelaw05.VandWhole", spec := "vandWhole", apart := false, narrowed := true }
def VandWholeUptoSaid : Prop := vandWholeUptoRow.holds Try.pinned (OpenSpec.upto vandWholeSpec)

end Rows
end Go.Proofs.Ytelgefkfflgbeaa
