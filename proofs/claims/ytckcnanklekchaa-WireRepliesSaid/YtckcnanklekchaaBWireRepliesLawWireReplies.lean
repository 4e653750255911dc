/- The statement WireReplies over what comes in. -/
import Derived.Test.YtckcnanklekchaaProg
import Derived.Below
import Derived.Deep.Draws
import Derived.Deep.AppendLies
import Derived.Maps.AppendAt
import Derived.OwnWalk
import Derived.Laws.BytesArg
import Derived.Laws.MakeOwn
import Derived.Laws.OwnMore
import Derived.Deep.OwnRows
import Derived.Tactics
import Derived.Lib.ConvBytes
import Derived.Laws.Slices
import Derived.WalkKit
import Derived.KernelRfl
import Derived.RowKit3
import Derived.Deep.LoopGhost
import Derived.Deep.QuietTactic
import Derived.BigQuiet
import Derived.WideLaws
import Derived.Deep.DeepCutAuto
import Derived.Deep.CutBlock
import Derived.Deep.RegionHeld3
import Derived.Laws.Rows
import Derived.Lib.AppendStr
import Derived.ArgAppend
import Derived.Laws.IdiomCopy
import Derived.OrdersHeld
import Derived.Laws.BitsLemmas
import Derived.RowKit
import Derived.Lib.Hide
import Derived.Test.YtckcnanklekchaaOpens
import Derived.Test.YtckcnanklekchaaBWireRepliesLWireReplies
namespace Go.Proofs.Ytckcnanklekchaa.Rep
open Go Go.RowKit Go.Proofs.Ytckcnanklekchaa.Opn Go.Proofs.Ytckcnanklekchaa.Mem Go.Proofs.Ytckcnanklekchaa.Bits Go.Proofs.YtckcnanklekchaaW.PrintWords Go.Proofs.YtckcnanklekchaaW.PrintLast
open Go.Proofs.Ytckcnanklekchaa.Pack
set_option linter.unusedVariables false

theorem wf_range {k : IntKind} {a : Int} (h : (Lit.int k a).wf = true) : k.min ≤ a ∧ a ≤ k.max := by
  simpa [Lit.wf] using h
theorem r_u64 {a : Int} (h : (Lit.int .u64 a).wf = true) : ∃ n : Nat, a = n ∧ n < 18446744073709551616 := by
  have := wf_range h; simp [IntKind.min, IntKind.max, IntKind.signed, IntKind.bits] at this; exact ⟨a.toNat, by omega, by omega⟩
theorem r_u8 {a : Int} (h : (Lit.int .u8 a).wf = true) : 0 ≤ a ∧ a < 256 := by
  have := wf_range h; simp [IntKind.min, IntKind.max, IntKind.signed, IntKind.bits] at this; omega
theorem opens_bytes : Opens (Kd.slice 5 (Kd.int .u8)) (fun l => l.length ≤ 9223372036854775807 ∧ ∀ a ∈ l, (Lit.int .u8 a).wf = true) 27 := opens_slice Try.underlying27 (by kernel_rfl) (opens_int Try.underlying5)
abbrev dRep : Kd (Int × Int × List Int) := Kd.pair (Kd.int .u64) (Kd.pair (Kd.int .i64) (Kd.slice 5 (Kd.int .u8)))
abbrev okRep (q : Int × Int × List Int) : Prop := (Lit.int .u64 q.1).wf = true ∧ (Lit.int .i64 q.2.1).wf = true ∧ q.2.2.length ≤ 9223372036854775807 ∧ ∀ a ∈ q.2.2, (Lit.int .u8 a).wf = true
theorem opens_rep : Opens dRep okRep 45 :=
    opens_struct Try.underlying45 (by kernel_rfl) (l := [(22, 1), (3, 1), (27, 1)]) (by kernel_rfl) (by kernel_rfl)
      (opens_pair (opens_int Try.underlying22) (opens_pair (opens_int Try.underlying3) (opens_last opens_bytes)))
theorem k_int {k : IntKind} {W : World} {a : Int} {cs : List Value} (h : (Kd.int k).K W a cs) : cs = [.int k a] := h
theorem reps_law {W : World} (cs : Array Value) (q : Int × Int × List Int) (hK : dRep.K W q cs.toList) (hok : okRep q)
    (A1 : Option Addr) (c1 : Nat) (b : List Int) (hC1 : (Kd.int .u8).C W A1 b.length b) (hc1 : b.length ≤ c1) (hok1 : b.length ≤ 9223372036854775807 ∧ ∀ a ∈ b, (Lit.int .u8 a).wf = true) (_ : World) :
    Calls Try.prog 4 #[.agg cs, .slice A1 b.length c1] W fun e w' => e = .returned (.bool true) ∧ Below W.heap.size W w' := by
  obtain ⟨n, k, data⟩ := q
  obtain ⟨ok1, ok2, ok8, ok9⟩ := hok
  obtain ⟨n, rfl, hn⟩ := r_u64 ok1
  obtain ⟨x1, y1, e1, h1, x2, y2, e2, h2, A0, c0, e9, hc0, hC0⟩ := hK
  have h1 := k_int h1
  have h2 := k_int h2
  subst h1 h2 e9 e2
  have he : cs = #[.int .u64 n, .int .i64 k, .slice A0 data.length c0] := by
    apply Array.toList_inj.1; rw [e1]; rfl
  subst he
  by_cases hb : 300 < data.length ∨ 500 < b.length
  · exact rep_len n k A0 _ c0 A1 _ c1 W hb
  · exact reps_good n k A0 _ c0 data A1 _ c1 b W hC0 rfl hc0 (by omega) (fun x hx => r_u8 (ok9 x hx)) hC1 rfl hc1 (by omega) (fun x hx => r_u8 (hok1.2 x hx)) hn
end Go.Proofs.Ytckcnanklekchaa.Rep
