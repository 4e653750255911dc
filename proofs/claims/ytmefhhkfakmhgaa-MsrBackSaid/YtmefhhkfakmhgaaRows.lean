/-
  No cell of these rows narrows 'for every input' (looked for: loops, veiled, ifaces, maps, wideKeys, modest, calm, conditions, laid).
  DERIVED. THE GIVEN ROWS OF THIS SEAT. 4 by the template 'for every input the law returns true; each argument reads behind the call as it read before'; 0 by the template 'total and deterministic' (their statements: YtmefhhkfakmhgaaTotals.lean).
  GIVEN WITH THE SEED: the statements are not yours to turn. If you find one false, say at which input.
  Laid BY PROGRAM, IN A SANDBOX (cutbox-rows.mjs): the forced cells as the released guide's own fill.sh prints them over the translation a6e10d04b67de52b… (all of the seat's roots in one cut). By AI agents, Wed Nov 11 2026. No macro, syntax, notation, axiom, sorry.
-/
import Derived.Test.YtmefhhkfakmhgaaChecked
import GoSem.Claim
import GoSem.ClaimJoined
import GoSem.ClaimMapViews
import Derived.JoinedTies
import Derived.KernelRfl
namespace Go.Proofs.Ytmefhhkfakmhgaa
/- THE CELL 'sum', in the pinned program and in every row, IS THE sha256 OF THE DUMP (.gsa) THAT YtmefhhkfakmhgaaProg.lean LOADS. Nothing in Lean hashes anything: it is a label: what it is worth is what the hold of that sum in a sandbox is worth. -/
noncomputable def Try.pinned : Pinned := { name := "ytmefhhkfakmhgaa", sum := "a6e10d04b67de52bdcb7f01b77e23b100f1aab3098197e948da8dd836b7f582c", checked := Try.checked }
namespace Rows
def none {H : Type} : Left H := { results := [], args := [] }

/-- 'coldframelaw06.MsrEncodes': WHATEVER THE INPUT: true; the input reads as it did. -/
def msrEncodesSpec : ChangeSpec := { name := "msrEncodes", fn := fun _ => fun
  | [d1, d2, d3] => { results := [.lit (.bool true)], args := [d1, d2, d3] }
  | _ => none }
def msrEncodesRow : OpenClaim := { program := "ytmefhhkfakmhgaa", sum := "a6e10d04b67de52bdcb7f01b77e23b100f1aab3098197e948da8dd836b7f582c", func := "coldframe/coldframelaw06.MsrEncodes", spec := "msrEncodes", apart := false }
def MsrEncodesSaid : Prop := msrEncodesRow.holds Try.pinned (OpenSpec.ofChange msrEncodesSpec)

/-- ITS FALSE NEIGHBOUR: 'it returns false'. Refute it at one input. -/
def msrEncodesWrong : ChangeSpec := { name := "msrEncodes", fn := fun _ => fun
  | [d1, d2, d3] => { results := [.lit (.bool false)], args := [d1, d2, d3] }
  | _ => none }
def MsrEncodesWrongFalsely : Prop := msrEncodesRow.holds Try.pinned (OpenSpec.ofChange msrEncodesWrong)

/-- 'coldframelaw06.MsrDecodes': WHATEVER THE INPUT: true; the input reads as it did. -/
def msrDecodesSpec : ChangeSpec := { name := "msrDecodes", fn := fun _ => fun
  | [d1, d2, d3] => { results := [.lit (.bool true)], args := [d1, d2, d3] }
  | _ => none }
def msrDecodesRow : OpenClaim := { program := "ytmefhhkfakmhgaa", sum := "a6e10d04b67de52bdcb7f01b77e23b100f1aab3098197e948da8dd836b7f582c", func := "coldframe/coldframelaw06.MsrDecodes", spec := "msrDecodes", apart := false }
def MsrDecodesSaid : Prop := msrDecodesRow.holds Try.pinned (OpenSpec.ofChange msrDecodesSpec)

/-- ITS FALSE NEIGHBOUR: 'it returns false'. Refute it at one input. -/
def msrDecodesWrong : ChangeSpec := { name := "msrDecodes", fn := fun _ => fun
  | [d1, d2, d3] => { results := [.lit (.bool false)], args := [d1, d2, d3] }
  | _ => none }
def MsrDecodesWrongFalsely : Prop := msrDecodesRow.holds Try.pinned (OpenSpec.ofChange msrDecodesWrong)

/-- 'coldframelaw06.MsrBack': WHATEVER THE INPUT: true; the input reads as it did. -/
def msrBackSpec : ChangeSpec := { name := "msrBack", fn := fun _ => fun
  | [d1, d2, d3, d4] => { results := [.lit (.bool true)], args := [d1, d2, d3, d4] }
  | _ => none }
def msrBackRow : OpenClaim := { program := "ytmefhhkfakmhgaa", sum := "a6e10d04b67de52bdcb7f01b77e23b100f1aab3098197e948da8dd836b7f582c", func := "coldframe/coldframelaw06.MsrBack", spec := "msrBack", apart := false }
def MsrBackSaid : Prop := msrBackRow.holds Try.pinned (OpenSpec.ofChange msrBackSpec)

/-- ITS FALSE NEIGHBOUR: 'it returns false'. Refute it at one input. -/
def msrBackWrong : ChangeSpec := { name := "msrBack", fn := fun _ => fun
  | [d1, d2, d3, d4] => { results := [.lit (.bool false)], args := [d1, d2, d3, d4] }
  | _ => none }
def MsrBackWrongFalsely : Prop := msrBackRow.holds Try.pinned (OpenSpec.ofChange msrBackWrong)

/-- 'coldframelaw06.MsrCodes': WHATEVER THE INPUT: true; the input reads as it did. -/
def msrCodesSpec : ChangeSpec := { name := "msrCodes", fn := fun _ => fun
  | [d1, d2, d3] => { results := [.lit (.bool true)], args := [d1, d2, d3] }
  | _ => none }
def msrCodesRow : OpenClaim := { program := "ytmefhhkfakmhgaa", sum := "a6e10d04b67de52bdcb7f01b77e23b100f1aab3098197e948da8dd836b7f582c", func := "coldframe/coldframelaw06.MsrCodes", spec := "msrCodes", apart := false }
def MsrCodesSaid : Prop := msrCodesRow.holds Try.pinned (OpenSpec.ofChange msrCodesSpec)

/-- ITS FALSE NEIGHBOUR: 'it returns false'. Refute it at one input. -/
def msrCodesWrong : ChangeSpec := { name := "msrCodes", fn := fun _ => fun
  | [d1, d2, d3] => { results := [.lit (.bool false)], args := [d1, d2, d3] }
  | _ => none }
def MsrCodesWrongFalsely : Prop := msrCodesRow.holds Try.pinned (OpenSpec.ofChange msrCodesWrong)

/- THE SECOND FORM. 'bulk': how many values and letters a reading holds, each counted each time it is reached (what is shared counts as often as it is met; a slice's spare places count too). A statement '..UptoSaid' is the law's where the arguments, and the package variables that the reading takes, are together of bulk at most 1048576: NARROWER than '..Said'. Prove '..Said' where nothing that the law and all that it calls make is longer than what came in: it says more and counts as full. Else prove '..UptoSaid'. A law counts once. -/
mutual
def uptoBulk {H : Type} : DataW H → Nat
  | .lit (.string bytes) => bytes.length + 1
  | .lit _ => 1
  | .nil => 1
  | .ptr d => uptoBulk d + 1
  | .slice elems spare => uptoBulkAll elems + uptoBulkAll spare + 1
  | .agg parts => uptoBulkAll parts + 1
  | .iface _ d => uptoBulk d + 1
  | .map entries => uptoBulkEntries entries + 1
  | .held _ => 1
def uptoBulkAll {H : Type} : List (DataW H) → Nat
  | [] => 0
  | d :: r => uptoBulk d + uptoBulkAll r
def uptoBulkEntries {H : Type} : List (Lit × DataW H) → Nat
  | [] => 0
  | x :: r => uptoBulkEntry x + uptoBulkEntries r
def uptoBulkEntry {H : Type} : Lit × DataW H → Nat
  | (.string bytes, d) => bytes.length + uptoBulk d + 1
  | (_, d) => uptoBulk d + 1
 end
def uptoSmall : (H : Type) → List (DataW H) → Bool := fun _ ds => decide (uptoBulkAll ds ≤ 1048576)
def OpenSpec.upto (s : _root_.Go.ChangeSpec) : _root_.Go.OpenSpec := { _root_.Go.OpenSpec.ofChange s with cond := some uptoSmall }

/-- 'coldframelaw06.MsrEncodes', WHERE WHAT IT READS IS OF BULK AT MOST 1048576: true; the input reads as it did. -/
def msrEncodesUptoRow : OpenClaim := { program := "ytmefhhkfakmhgaa", sum := "a6e10d04b67de52bdcb7f01b77e23b100f1aab3098197e948da8dd836b7f582c", func := "coldframe/coldframelaw06.MsrEncodes", spec := "msrEncodes", apart := false, narrowed := true }
def MsrEncodesUptoSaid : Prop := msrEncodesUptoRow.holds Try.pinned (OpenSpec.upto msrEncodesSpec)

/-- 'coldframelaw06.MsrDecodes', WHERE WHAT IT READS IS OF BULK AT MOST 1048576: true; the input reads as it did. -/
def msrDecodesUptoRow : OpenClaim := { program := "ytmefhhkfakmhgaa", sum := "a6e10d04b67de52bdcb7f01b77e23b100f1aab3098197e948da8dd836b7f582c", func := "coldframe/coldframelaw06.MsrDecodes", spec := "msrDecodes", apart := false, narrowed := true }
def MsrDecodesUptoSaid : Prop := msrDecodesUptoRow.holds Try.pinned (OpenSpec.upto msrDecodesSpec)

/-- 'coldframelaw06.MsrBack', WHERE WHAT IT READS IS OF BULK AT MOST 1048576: true; the input reads as it did. -/
def msrBackUptoRow : OpenClaim := { program := "ytmefhhkfakmhgaa", sum := "a6e10d04b67de52bdcb7f01b77e23b100f1aab3098197e948da8dd836b7f582c", func := "coldframe/coldframelaw06.MsrBack", spec := "msrBack", apart := false, narrowed := true }
def MsrBackUptoSaid : Prop := msrBackUptoRow.holds Try.pinned (OpenSpec.upto msrBackSpec)

/-- 'coldframelaw06.MsrCodes', WHERE WHAT IT READS IS OF BULK AT MOST 1048576: true; the input reads as it did. -/
def msrCodesUptoRow : OpenClaim := { program := "ytmefhhkfakmhgaa", sum := "a6e10d04b67de52bdcb7f01b77e23b100f1aab3098197e948da8dd836b7f582c", func := "coldframe/coldframelaw06.MsrCodes", spec := "msrCodes", apart := false, narrowed := true }
def MsrCodesUptoSaid : Prop := msrCodesUptoRow.holds Try.pinned (OpenSpec.upto msrCodesSpec)

end Rows
end Go.Proofs.Ytmefhhkfakmhgaa
