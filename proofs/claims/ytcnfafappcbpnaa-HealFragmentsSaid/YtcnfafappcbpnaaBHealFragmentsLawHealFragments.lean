/- The statement HealFragments over what comes in. -/
import Derived.Test.YtcnfafappcbpnaaProg
import Derived.Below
import Derived.Deep.Draws
import Derived.Deep.AppendLies
import Derived.Maps.AppendAt
import Derived.OwnWalk
import Derived.Laws.BytesArg
import Derived.Laws.MakeOwn
import Derived.Laws.OwnMore
import Derived.Deep.OwnRows
import Derived.Tactics
import Derived.Lib.ConvBytes
import Derived.Laws.Slices
import Derived.WalkKit
import Derived.KernelRfl
import Derived.RowKit3
import Derived.Deep.LoopGhost
import Derived.Deep.QuietTactic
import Derived.BigQuiet
import Derived.WideLaws
import Derived.Deep.DeepCutAuto
import Derived.Deep.CutBlock
import Derived.Deep.RegionHeld3
import Derived.Laws.Rows
import Derived.Lib.AppendStr
import Derived.ArgAppend
import Derived.Laws.IdiomCopy
import Derived.OrdersHeld
import Derived.Laws.BitsLemmas
import Derived.RowKit
import Derived.Lib.Hide
import Derived.Test.YtcnfafappcbpnaaOpens
import Derived.Test.YtcnfafappcbpnaaBHealFragmentsLHealFragments
namespace Go.Proofs.Ytcnfafappcbpnaa.Str
open Go Go.RowKit Go.Proofs.Ytcnfafappcbpnaa.PHealFragments Go.Proofs.Ytcnfafappcbpnaa.Opn Go.Proofs.Ytcnfafappcbpnaa.Mem Go.Proofs.Ytcnfafappcbpnaa.Bits Go.Proofs.Ytcnfafappcbpnaa.Rws Go.Proofs.YtcnfafappcbpnaaW.PrintWords Go.Proofs.YtcnfafappcbpnaaW.PrintLast
set_option linter.unusedVariables false

theorem r_u8 {a : Int} (h : (Lit.int .u8 a).wf = true) : 0 ≤ a ∧ a < 256 := by
  simp [Lit.wf, IntKind.min, IntKind.max, IntKind.signed, IntKind.bits] at h; omega
theorem opens_bytes : Opens (Kd.slice 5 (Kd.int .u8)) (fun l => l.length ≤ 9223372036854775807 ∧ ∀ a ∈ l, (Lit.int .u8 a).wf = true) 22 := opens_slice Try.underlying22 (by kernel_rfl) (opens_int Try.underlying5)
theorem hf_row (n : Int) (_ : (Lit.int .i64 n).wf = true) (k : Int) (_ : (Lit.int .i64 k).wf = true) (lost : Int) (_ : (Lit.int .i64 lost).wf = true)
    {w : World} (A : Option Addr) (c : Nat) (b : List Int) (hC1 : (Kd.int .u8).C w A b.length b) (hc1 : b.length ≤ c) (hok1 : b.length ≤ 9223372036854775807 ∧ ∀ a ∈ b, (Lit.int .u8 a).wf = true) (_ : World) :
    Calls Try.prog 3 #[.int .i64 n, .int .i64 k, .int .i64 lost, .slice A b.length c] w fun e w' => e = .returned (.bool true) ∧ Below w.heap.size w w' := by
  by_cases hr : 2 ≤ k ∧ k ≤ 4 ∧ 2 * k - 1 ≤ n ∧ n ≤ 12
  · by_cases hL : 100 < b.length
    · exact hf_long n k lost A _ c w hr hL
    obtain ⟨r1, r2, r3, r4⟩ := hr
    obtain ⟨k, rfl⟩ := Int.eq_ofNat_of_zero_le (show 0 ≤ k by omega)
    obtain ⟨n, rfl⟩ := Int.eq_ofNat_of_zero_le (show 0 ≤ n by omega)
    by_cases h : b.length = 0 ∨ b.length % (k - 1) ≠ 0
    · exact hf_bad n k lost A _ c w (by omega) (by omega) (by omega) (by omega) (by omega) h
    · have h0 : b.length ≠ 0 := fun e => h (.inl e)
      have h1 : b.length % (k - 1) = 0 := by
        rcases Nat.eq_zero_or_pos (b.length % (k - 1)) with e | e
        · exact e
        · exact absurd (.inr (by omega)) h
      obtain ⟨sz, hsz⟩ : ∃ sz, b.length = (k - 1) * sz := ⟨b.length / (k - 1), by have := Nat.div_add_mod b.length (k - 1); omega⟩
      have hs1 : 1 ≤ sz := by
        rcases Nat.eq_zero_or_pos sz with e | e
        · subst e; rw [Nat.mul_zero] at hsz; omega
        · exact e
      by_cases hl : lost < 0 ∨ (n : Int) ≤ lost
      · exact hf_far n k lost A _ c sz w (by omega) (by omega) (by omega) (by omega) (by omega) hsz hs1 hl
      · obtain ⟨lost, rfl⟩ := Int.eq_ofNat_of_zero_le (show 0 ≤ lost by omega)
        exact hf_good n k lost A _ c sz b w (by omega) (by omega) (by omega) (by omega) (by omega) hsz hs1 (by omega) hC1 rfl (fun x hx => r_u8 (hok1.2 x hx))
  · exact hf_no n k lost A _ c w hr
end Go.Proofs.Ytcnfafappcbpnaa.Str
