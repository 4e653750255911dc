/-
  No cell of these rows narrows 'for every input' (looked for: loops, veiled, ifaces, maps, wideKeys, modest, calm, conditions, laid).
  DERIVED. THE GIVEN ROWS OF THIS SEAT. 3 by the template 'for every input the law returns true; each argument reads behind the call as it read before'; 0 by the template 'total and deterministic' (their statements: YtojaekhplohbjaaTotals.lean).
  GIVEN WITH THE SEED: the statements are not yours to turn. If you find one false, say at which input.
  Laid BY PROGRAM, IN A SANDBOX (cutbox-rows.mjs): the forced cells as the released guide's own fill.sh prints them over the translation 22c7604f2e535ca3… (all of the seat's roots in one cut). By AI agents, Wed Nov 11 2026. No macro, syntax, notation, axiom, sorry.
-/
import Derived.Test.YtojaekhplohbjaaChecked
import GoSem.Claim
import GoSem.ClaimJoined
import GoSem.ClaimMapViews
import Derived.JoinedTies
import Derived.KernelRfl
namespace Go.Proofs.Ytojaekhplohbjaa
/- THE CELL 'sum', in the pinned program and in every row, IS THE sha256 OF THE DUMP (.gsa) THAT YtojaekhplohbjaaProg.lean LOADS. Nothing in Lean hashes anything: it is a label: what it is worth is what the hold of that sum in a sandbox is worth. -/
noncomputable def Try.pinned : Pinned := { name := "ytojaekhplohbjaa", sum := "22c7604f2e535ca3402f546f4213185b8429fc08fc77dcf66aa7c879ed7e9c4c", checked := Try.checked }
namespace Rows
def none {H : Type} : Left H := { results := [], args := [] }

/-- 'coldframelaw04.SolveSteps': WHATEVER THE INPUT: true; the input reads as it did. -/
def solveStepsSpec : ChangeSpec := { name := "solveSteps", fn := fun _ => fun
  | [d] => { results := [.lit (.bool true)], args := [d] }
  | _ => none }
def solveStepsRow : OpenClaim := { program := "ytojaekhplohbjaa", sum := "22c7604f2e535ca3402f546f4213185b8429fc08fc77dcf66aa7c879ed7e9c4c", func := "coldframe/coldframelaw04.SolveSteps", spec := "solveSteps", apart := false }
def SolveStepsSaid : Prop := solveStepsRow.holds Try.pinned (OpenSpec.ofChange solveStepsSpec)

/-- ITS FALSE NEIGHBOUR: 'it returns false'. Refute it at one input. -/
def solveStepsWrong : ChangeSpec := { name := "solveSteps", fn := fun _ => fun
  | [d] => { results := [.lit (.bool false)], args := [d] }
  | _ => none }
def SolveStepsWrongFalsely : Prop := solveStepsRow.holds Try.pinned (OpenSpec.ofChange solveStepsWrong)

/-- 'coldframelaw04.SolveEquations': WHATEVER THE INPUT: true; the input reads as it did. -/
def solveEquationsSpec : ChangeSpec := { name := "solveEquations", fn := fun _ => fun
  | [d1, d2] => { results := [.lit (.bool true)], args := [d1, d2] }
  | _ => none }
def solveEquationsRow : OpenClaim := { program := "ytojaekhplohbjaa", sum := "22c7604f2e535ca3402f546f4213185b8429fc08fc77dcf66aa7c879ed7e9c4c", func := "coldframe/coldframelaw04.SolveEquations", spec := "solveEquations", apart := false }
def SolveEquationsSaid : Prop := solveEquationsRow.holds Try.pinned (OpenSpec.ofChange solveEquationsSpec)

/-- ITS FALSE NEIGHBOUR: 'it returns false'. Refute it at one input. -/
def solveEquationsWrong : ChangeSpec := { name := "solveEquations", fn := fun _ => fun
  | [d1, d2] => { results := [.lit (.bool false)], args := [d1, d2] }
  | _ => none }
def SolveEquationsWrongFalsely : Prop := solveEquationsRow.holds Try.pinned (OpenSpec.ofChange solveEquationsWrong)

/-- 'coldframelaw04.SolveDets': WHATEVER THE INPUT: true; the input reads as it did. -/
def solveDetsSpec : ChangeSpec := { name := "solveDets", fn := fun _ => fun
  | [d1, d2] => { results := [.lit (.bool true)], args := [d1, d2] }
  | _ => none }
def solveDetsRow : OpenClaim := { program := "ytojaekhplohbjaa", sum := "22c7604f2e535ca3402f546f4213185b8429fc08fc77dcf66aa7c879ed7e9c4c", func := "coldframe/coldframelaw04.SolveDets", spec := "solveDets", recurses := true, apart := false }
def SolveDetsSaid : Prop := solveDetsRow.holds Try.pinned (OpenSpec.ofChange solveDetsSpec)

/-- ITS FALSE NEIGHBOUR: 'it returns false'. Refute it at one input. -/
def solveDetsWrong : ChangeSpec := { name := "solveDets", fn := fun _ => fun
  | [d1, d2] => { results := [.lit (.bool false)], args := [d1, d2] }
  | _ => none }
def SolveDetsWrongFalsely : Prop := solveDetsRow.holds Try.pinned (OpenSpec.ofChange solveDetsWrong)

/- THE SECOND FORM. 'bulk': how many values and letters a reading holds, each counted each time it is reached (what is shared counts as often as it is met; a slice's spare places count too). A statement '..UptoSaid' is the law's where the arguments, and the package variables that the reading takes, are together of bulk at most 1048576: NARROWER than '..Said'. Prove '..Said' where nothing that the law and all that it calls make is longer than what came in: it says more and counts as full. Else prove '..UptoSaid'. A law counts once. -/
mutual
def uptoBulk {H : Type} : DataW H → Nat
  | .lit (.string bytes) => bytes.length + 1
  | .lit _ => 1
  | .nil => 1
  | .ptr d => uptoBulk d + 1
  | .slice elems spare => uptoBulkAll elems + uptoBulkAll spare + 1
  | .agg parts => uptoBulkAll parts + 1
  | .iface _ d => uptoBulk d + 1
  | .map entries => uptoBulkEntries entries + 1
  | .held _ => 1
def uptoBulkAll {H : Type} : List (DataW H) → Nat
  | [] => 0
  | d :: r => uptoBulk d + uptoBulkAll r
def uptoBulkEntries {H : Type} : List (Lit × DataW H) → Nat
  | [] => 0
  | x :: r => uptoBulkEntry x + uptoBulkEntries r
def uptoBulkEntry {H : Type} : Lit × DataW H → Nat
  | (.string bytes, d) => bytes.length + uptoBulk d + 1
  | (_, d) => uptoBulk d + 1
 end
def uptoSmall : (H : Type) → List (DataW H) → Bool := fun _ ds => decide (uptoBulkAll ds ≤ 1048576)
def OpenSpec.upto (s : _root_.Go.ChangeSpec) : _root_.Go.OpenSpec := { _root_.Go.OpenSpec.ofChange s with cond := some uptoSmall }

/-- 'coldframelaw04.SolveSteps', WHERE WHAT IT READS IS OF BULK AT MOST 1048576: true; the input reads as it did. -/
def solveStepsUptoRow : OpenClaim := { program := "ytojaekhplohbjaa", sum := "22c7604f2e535ca3402f546f4213185b8429fc08fc77dcf66aa7c879ed7e9c4c", func := "coldframe/coldframelaw04.SolveSteps", spec := "solveSteps", apart := false, narrowed := true }
def SolveStepsUptoSaid : Prop := solveStepsUptoRow.holds Try.pinned (OpenSpec.upto solveStepsSpec)

/-- 'coldframelaw04.SolveEquations', WHERE WHAT IT READS IS OF BULK AT MOST 1048576: true; the input reads as it did. -/
def solveEquationsUptoRow : OpenClaim := { program := "ytojaekhplohbjaa", sum := "22c7604f2e535ca3402f546f4213185b8429fc08fc77dcf66aa7c879ed7e9c4c", func := "coldframe/coldframelaw04.SolveEquations", spec := "solveEquations", apart := false, narrowed := true }
def SolveEquationsUptoSaid : Prop := solveEquationsUptoRow.holds Try.pinned (OpenSpec.upto solveEquationsSpec)

/-- 'coldframelaw04.SolveDets', WHERE WHAT IT READS IS OF BULK AT MOST 1048576: true; the input reads as it did. -/
def solveDetsUptoRow : OpenClaim := { program := "ytojaekhplohbjaa", sum := "22c7604f2e535ca3402f546f4213185b8429fc08fc77dcf66aa7c879ed7e9c4c", func := "coldframe/coldframelaw04.SolveDets", spec := "solveDets", recurses := true, apart := false, narrowed := true }
def SolveDetsUptoSaid : Prop := solveDetsUptoRow.holds Try.pinned (OpenSpec.upto solveDetsSpec)

end Rows
end Go.Proofs.Ytojaekhplohbjaa
