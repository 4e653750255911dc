/- The statement StripeCuts over what comes in. -/
import Derived.Test.YtjoblpkfpfclpaaProg
import Derived.Below
import Derived.Deep.Draws
import Derived.Deep.AppendLies
import Derived.Maps.AppendAt
import Derived.OwnWalk
import Derived.Laws.BytesArg
import Derived.Laws.MakeOwn
import Derived.Laws.OwnMore
import Derived.Deep.OwnRows
import Derived.Tactics
import Derived.Lib.ConvBytes
import Derived.Laws.Slices
import Derived.WalkKit
import Derived.KernelRfl
import Derived.RowKit3
import Derived.Deep.LoopGhost
import Derived.Deep.QuietTactic
import Derived.BigQuiet
import Derived.WideLaws
import Derived.Deep.DeepCutAuto
import Derived.Deep.CutBlock
import Derived.Deep.RegionHeld3
import Derived.Laws.Rows
import Derived.Lib.AppendStr
import Derived.ArgAppend
import Derived.Laws.IdiomCopy
import Derived.OrdersHeld
import Derived.Laws.BitsLemmas
import Derived.RowKit
import Derived.Lib.Hide
import Derived.Test.YtjoblpkfpfclpaaOpens
import Derived.Test.YtjoblpkfpfclpaaBStripePlansLStripeCuts2
namespace Go.Proofs.Ytjoblpkfpfclpaa.Str
open Go Go.RowKit Go.Proofs.Ytjoblpkfpfclpaa.PStripePlans Go.Proofs.Ytjoblpkfpfclpaa.Opn Go.Proofs.Ytjoblpkfpfclpaa.Mem Go.Proofs.Ytjoblpkfpfclpaa.Bits Go.Proofs.Ytjoblpkfpfclpaa.Rws Go.Proofs.YtjoblpkfpfclpaaW.PrintWords Go.Proofs.YtjoblpkfpfclpaaW.PrintLast
set_option linter.unusedVariables false

theorem r_u8 {a : Int} (h : (Lit.int .u8 a).wf = true) : 0 ≤ a ∧ a < 256 := by
  simp [Lit.wf, IntKind.min, IntKind.max, IntKind.signed, IntKind.bits] at h; omega
theorem opens_bytes : Opens (Kd.slice 5 (Kd.int .u8)) (fun l => l.length ≤ 9223372036854775807 ∧ ∀ a ∈ l, (Lit.int .u8 a).wf = true) 38 := opens_slice Try.underlying38 (by kernel_rfl) (opens_int Try.underlying5)
theorem opens_rows : Opens (Kd.slice 38 (Kd.slice 5 (Kd.int .u8))) (fun l => l.length ≤ 9223372036854775807 ∧ ∀ a ∈ l, a.length ≤ 9223372036854775807 ∧ ∀ x ∈ a, (Lit.int .u8 x).wf = true) 39 := opens_slice Try.underlying39 (by kernel_rfl) opens_bytes
theorem cuts_row (n : Int) (_ : (Lit.int .i64 n).wf = true) (k : Int) (_ : (Lit.int .i64 k).wf = true) (p : Int) (_ : (Lit.int .i64 p).wf = true)
    {w : World} (A1 : Option Addr) (c1 : Nat) (b : List Int) (hB1 : (Kd.int .u8).C w A1 b.length b) (hc1 : b.length ≤ c1) (hok1 : b.length ≤ 9223372036854775807 ∧ ∀ a ∈ b, (Lit.int .u8 a).wf = true)
    (A2 : Option Addr) (c2 : Nat) (l : List (List Int)) (hC2 : kRow.C w A2 l.length l) (hc2 : l.length ≤ c2) (hok2 : l.length ≤ 9223372036854775807 ∧ ∀ a ∈ l, a.length ≤ 9223372036854775807 ∧ ∀ x ∈ a, (Lit.int .u8 x).wf = true)
    (L : Int) (_ : (Lit.int .i64 L).wf = true) (_ : World) :
    Calls Try.prog 4 #[.int .i64 n, .int .i64 k, .int .i64 p, .slice A1 b.length c1, .slice A2 l.length c2, .int .i64 L] w fun e w' => e = .returned (.bool true) ∧ Below w.heap.size w w' := by
  by_cases hr : 2 ≤ k ∧ k ≤ 4 ∧ 2 * k - 1 ≤ n ∧ n ≤ 12
  · obtain ⟨r1, r2, r3, r4⟩ := hr
    obtain ⟨k, rfl⟩ := Int.eq_ofNat_of_zero_le (show 0 ≤ k by omega)
    obtain ⟨n, rfl⟩ := Int.eq_ofNat_of_zero_le (show 0 ≤ n by omega)
    have k1 : 2 ≤ k := by omega
    have k2 : k ≤ 4 := by omega
    have n1 : 2 * k - 1 ≤ n := by omega
    have n2 : n ≤ 12 := by omega
    by_cases hbig : 400 < b.length ∨ 40 < l.length
    · exact cuts_big n k p L A1 _ c1 A2 _ c2 w k1 k2 n1 n2 hbig
    · have hm : b.length ≤ 400 := by omega
      have hN : l.length ≤ 40 := by omega
      by_cases hl : ∀ i, i < l.length → (l.getD i []).length ≤ 400
      · obtain ⟨s, hs⟩ : ∃ s, k * (k - 1) = s := ⟨_, rfl⟩
        have hl2 : ∀ x ∈ l, x.length ≤ 400 := fun x hx => by
          obtain ⟨i, hi, rfl⟩ := List.getElem_of_mem hx
          have := hl i hi
          rwa [List.getD_eq_getElem?_getD, List.getElem?_eq_getElem hi] at this
        rcases of_cases k s b.length p k1 k2 hs with ⟨a, b', c, e, hq, he⟩ | ⟨q, rfl, L0, C0, P0, S0, hL0, hq, hS0, hp0, hs0, hC0, hl0⟩
        · rcases of_cases k s L p k1 k2 hs with ⟨a1, b1, c9, e1, hz, he1⟩ | ⟨q, rfl, L1, C1, P1, S1, rfl, hz, _⟩
          · exact cuts_err n k p L _ _ _ _ _ _ _ _ A1 _ c1 A2 _ c2 l w k1 k2 n1 n2 hm hC2 rfl hN hl hq hz (.inl he)
          · exact cuts_err n k _ _ _ _ _ _ _ _ _ _ A1 _ c1 A2 _ c2 l w k1 k2 n1 n2 hm hC2 rfl hN hl hq hz (.inl he)
        · obtain rfl : b.length = L0 := by omega
          rcases of_cases k s L q k1 k2 hs with ⟨a1, b1, c9, e1, hz, he1⟩ | ⟨q', hqq, L1, C1, P1, S1, rfl, hz, hS1, hp1, hs1, hC1, hl1⟩
          · exact cuts_err n k _ L _ _ _ _ _ _ _ _ A1 _ c1 A2 _ c2 l w k1 k2 n1 n2 hm hC2 rfl hN hl hq hz (.inr ⟨rfl, he1⟩)
          · obtain rfl : q = q' := by omega
            exact cuts_good n k q L1 C0 P0 C1 P1 s S0 S1 A1 _ c1 b A2 _ c2 l w k1 k2 n1 n2 hs hB1 rfl hc1 hm (fun x hx => r_u8 (hok1.2 x hx)) hC2 rfl hc2 hN hl2 hq hz hS0 hS1 hp0 hp1 hs0 hs1 hC0 hC1 hl1 _ rfl
      · exact cuts_long n k p L A1 _ c1 A2 _ c2 l w k1 k2 n1 n2 hm hC2 rfl hN hl
  · exact cuts_no n k p L A1 _ c1 A2 _ c2 w hr
end Go.Proofs.Ytjoblpkfpfclpaa.Str
