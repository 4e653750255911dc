/- Rows of bytes of the call's own: one more, appended; a row read; rows alike (for seats without a matrix). -/
import Derived.Test.YtelgefkfflgbeaaProg
import Derived.Below
import Derived.Deep.Draws
import Derived.Deep.AppendLies
import Derived.Maps.AppendAt
import Derived.OwnWalk
import Derived.Laws.BytesArg
import Derived.Laws.MakeOwn
import Derived.Laws.OwnMore
import Derived.Deep.OwnRows
import Derived.Tactics
import Derived.Lib.ConvBytes
import Derived.Laws.Slices
import Derived.WalkKit
import Derived.KernelRfl
import Derived.RowKit3
import Derived.Deep.LoopGhost
import Derived.Deep.QuietTactic
import Derived.BigQuiet
import Derived.WideLaws
import Derived.Deep.DeepCutAuto
import Derived.Deep.CutBlock
import Derived.Deep.RegionHeld3
import Derived.Laws.Rows
import Derived.Lib.AppendStr
import Derived.ArgAppend
import Derived.Laws.IdiomCopy
import Derived.OrdersHeld
import Derived.Laws.BitsLemmas
import Derived.RowKit
import Derived.Lib.Hide
import Derived.WalkSpells
import Derived.StillTailTactics
import Derived.Outline
import Derived.Lib.Strings
import Derived.Test.YtelgefkfflgbeaaMem
import Derived.Test.YtelgefkfflgbeaaBits
import Derived.Test.YtelgefkfflgbeaaWWords
namespace Go.Proofs.Ytelgefkfflgbeaa.Rws
open Go Go.RowKit Go.Proofs.Ytelgefkfflgbeaa.Mem Go.Proofs.Ytelgefkfflgbeaa.Bits Go.Proofs.YtelgefkfflgbeaaW.PrintWords
set_option linter.unusedVariables false

def Bytes (xs : List Int) : Prop := ∀ x ∈ xs, 0 ≤ x ∧ x < 256
def AllBytes (ls : List (List Int)) : Prop := ∀ l ∈ ls, Bytes l
abbrev kRow : Kd (List Int) := Kd.slice 5 (Kd.int .u8)
abbrev RowsC (w : World) (A : Option Addr) (ls : List (List Int)) : Prop := Kd.C kRow w A ls.length ls
abbrev RowsR (w : World) (base : Nat) (v : Value) (ls : List (List Int)) : Prop := Kd.R kRow 22 w base (fun _ => True) v ls
theorem RowsC.get {w : World} {A : Option Addr} {ls : List (List Int)} (h : RowsC w A ls) (i : Nat) (hi : i < ls.length) :
    ∃ ad A0 c0, A = some ad ∧ w.cell? (ad.add i) = some (.slice A0 (ls.getD i []).length c0) ∧ (ls.getD i []).length ≤ c0 ∧ (Kd.int .u8).C w A0 (ls.getD i []).length (ls.getD i []) := by
  obtain ⟨ad, c, e, _, hK, hc0⟩ := Kd.C_get h [] (i : Int) (by omega) (by omega)
  obtain ⟨A0, c0, rfl, l0, g0⟩ := hK
  refine ⟨ad, A0, c0, e, ?_, l0, g0⟩
  have hq := hc0 0 _ rfl
  simpa [Kd.slice] using hq
theorem info_rows : (Try.prog.info? 22).map (fun i => (i.zero, i.size, i.bytes)) = some (some (.slice none 0 0), 1, 24) := by kernel_rfl
theorem row_M {w : World} {base b0 : Nat} {u : Value} {n : Nat} {ys : List Int} (h : w.ownsRow b0 5 1 u n (nums .u8 ys)) (hb : base ≤ b0) (hn : ys.length = n) : kRow.M w base (fun k => some k = u.ownBlock) ys [u] := by
  refine ⟨u, rfl, Kd.R_of_own ?_ (fun k hk => hk.symm)⟩
  have := own_weaken h hb
  rw [← hn] at this; exact this
/-- One row more, appended: its bytes in a block that is new since wr. -/
theorem rows_append {P : Program} {ops : Array Oper} {rest : List Oper} {o : Oper} {a : Act} {Q : Exit → Act → World → Prop} {w0 W wr : World} (hP : P = Try.prog) (base : Nat) (hgd : o.guard = none) (s x : Operand)
    (ho : o.op = .call { callee := .builtin .append, args := #[s, x], argTypes := #[52, 52] }) (v : Value) (ls : List (List Int)) (ys : List Int) (g cap n : Nat)
    (hs : a.eval s = v) (hx : a.eval x = .slice (some ⟨W.heap.size, 0, none⟩) 1 1) (HR : RowsR wr base v ls) (HB : Below base w0 wr) (hbase : base ≤ wr.heap.size) (hB : Below wr.heap.size wr W)
    (hu : W.ownsRow wr.heap.size 5 1 (.slice (some ⟨g, 0, none⟩) n cap) n (nums .u8 ys)) (hn : ys.length = n) (hg : wr.heap.size ≤ g) (hl : ls.length ≤ 1000000)
    (h : ∀ v1 w1, RowsR w1 base v1 (ls ++ [ys]) → Below base w0 w1 → wpList P ops Q rest (a.put o.dst v1) w1) :
    wpList P ops Q (o :: rest) a (W.alloc (.cells #[.slice (some ⟨g, 0, none⟩) n cap] 22)) := by
  subst hP
  refine Kd.R_append kRow (w0 := w0) base hgd s x 52 22 (.slice none 0 0) 24 ho Try.underlying52 info_rows rfl (by decide) (by decide) v ls ys [.slice (some ⟨g, 0, none⟩) n cap] (fun _ => True)
    (fun k => some k = (Value.slice (some ⟨g, 0, none⟩) n cap).ownBlock) hs hx (row_M hu hbase hn) ?_ (fun _ _ => trivial) (Kd.R_below HR hB) ?_ (Nat.le_trans hbase hB.size) (by omega) (fun v1 w1 h1 h2 _ _ => h v1 w1 h1 h2)
  · intro k hk
    refine ⟨trivial, fun e => ?_⟩
    have e1 : g = k := by simpa [Value.ownBlock] using hk.symm
    have := Kd.R_lt HR k e.symm
    omega
  · exact HB.trans (hB.mono hbase)
/-- The same, the row known by its kind: its block is new since wr. -/
theorem rows_append2 {P : Program} {ops : Array Oper} {rest : List Oper} {o : Oper} {a : Act} {Q : Exit → Act → World → Prop} {w0 W wr : World} (hP : P = Try.prog) (base : Nat) (hgd : o.guard = none) (s x : Operand)
    (ho : o.op = .call { callee := .builtin .append, args := #[s, x], argTypes := #[52, 52] }) (v u : Value) (ls : List (List Int)) (ys : List Int)
    (hs : a.eval s = v) (hx : a.eval x = .slice (some ⟨W.heap.size, 0, none⟩) 1 1) (HR : RowsR wr base v ls) (HB : Below base w0 W) (hbase : base ≤ wr.heap.size) (hB : Below wr.heap.size wr W)
    (hu : (Kd.int .u8).R 5 W wr.heap.size (fun _ => True) u ys) (hl : ls.length ≤ 1000000)
    (h : ∀ v1 w1, RowsR w1 base v1 (ls ++ [ys]) → Below base w0 w1 → wpList P ops Q rest (a.put o.dst v1) w1) :
    wpList P ops Q (o :: rest) a (W.alloc (.cells #[u] 22)) := by
  subst hP
  have hown : W.ownsRow wr.heap.size 5 1 u ys.length (nums .u8 ys) := Kd.own_of_R hu
  refine Kd.R_append kRow (w0 := w0) base hgd s x 52 22 (.slice none 0 0) 24 ho Try.underlying52 info_rows rfl (by decide) (by decide) v ls ys [u] (fun _ => True)
    (fun k => some k = u.ownBlock) hs hx (row_M hown hbase rfl) ?_ (fun _ _ => trivial) (Kd.R_below HR hB) HB (Nat.le_trans hbase hB.size) (by omega) (fun v1 w1 h1 h2 _ _ => h v1 w1 h1 h2)
  intro k hk
  refine ⟨trivial, fun e => ?_⟩
  have h1 := own_base hown k hk.symm
  have := Kd.R_lt HR k e.symm
  omega
theorem info_byte : (Try.prog.info? 5).map (fun i => (i.zero, i.size, i.bytes)) = some (some (.int .u8 0), 1, 1) := by kernel_rfl
theorem info_byte1 : (Try.prog.info? 5).map (·.size) = some 1 := by kernel_rfl
end Go.Proofs.Ytelgefkfflgbeaa.Rws
