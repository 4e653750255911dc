/- Fragments refused; what they cost. -/
import Derived.Test.YtcnfafappcbpnaaProg
import Derived.Below
import Derived.Deep.Draws
import Derived.Deep.AppendLies
import Derived.Maps.AppendAt
import Derived.OwnWalk
import Derived.Laws.BytesArg
import Derived.Laws.MakeOwn
import Derived.Laws.OwnMore
import Derived.Deep.OwnRows
import Derived.Tactics
import Derived.Lib.ConvBytes
import Derived.Laws.Slices
import Derived.WalkKit
import Derived.KernelRfl
import Derived.RowKit3
import Derived.Deep.LoopGhost
import Derived.Deep.QuietTactic
import Derived.BigQuiet
import Derived.WideLaws
import Derived.Deep.DeepCutAuto
import Derived.Deep.CutBlock
import Derived.Deep.RegionHeld3
import Derived.Laws.Rows
import Derived.Lib.AppendStr
import Derived.ArgAppend
import Derived.Laws.IdiomCopy
import Derived.OrdersHeld
import Derived.Laws.BitsLemmas
import Derived.RowKit
import Derived.Lib.Hide
import Derived.WalkSpells
import Derived.StillTailTactics
import Derived.Outline
import Derived.Test.YtcnfafappcbpnaaBHealFragmentsHeal3
namespace Go.Proofs.Ytcnfafappcbpnaa.Str
open Go Go.RowKit Go.Proofs.Ytcnfafappcbpnaa.PHealFragments Go.Proofs.Ytcnfafappcbpnaa.BHealFragments Go.Proofs.Ytcnfafappcbpnaa.Gf Go.Proofs.Ytcnfafappcbpnaa.Gi Go.Proofs.Ytcnfafappcbpnaa.Bits Go.Proofs.Ytcnfafappcbpnaa.Mem Go.Proofs.Ytcnfafappcbpnaa.VPts Go.Proofs.Ytcnfafappcbpnaa.Rws Go.Proofs.YtcnfafappcbpnaaW.PrintWords Go.Proofs.YtcnfafappcbpnaaW.PrintLast
set_option linter.unusedVariables false

set_option maxRecDepth 100000 in
theorem frag_nil (lost : Int) (A : Option Addr) (L c : Nat) (w : World) :
    Calls Try.prog 10 #[.pointer none, .int .i64 lost, .slice A L c] w fun e w' => e = .returned (.tuple #[.slice none 0 0, .int .i64 1]) ∧ Below w.heap.size w w' := by
  have HB := Lib.hid (Below.refl w.heap.size w)
  go_enter Try.func10, Try.ntmps10
  go_wp2
  go_ret2
  exact ⟨rfl, HB.out⟩
set_option maxRecDepth 100000 in
theorem frag_bad (v : Value) (n k : Nat) (lost : Int) (A0 : Option Addr) (L c0 : Nat) (w : World) (hc : IsCodeP w v n k) (k1 : 2 ≤ k) (k2 : k ≤ 8) (hl : L ≤ 1000)
    (h : lost < 0 ∨ (n : Int) ≤ lost ∨ L = 0 ∨ L % (k - 1) ≠ 0) :
    Calls Try.prog 10 #[v, .int .i64 lost, .slice A0 L c0] w fun e w' => e = .returned (.tuple #[.slice none 0 0, .int .i64 1]) ∧ Below w.heap.size w w' := by
  have NN := Lib.hid (fun W (hB : Below w.heap.size w W) => n_any v n k W (hc.below hB).code)
  have PP := Lib.hid (fun W (hB : Below w.heap.size w W) => parts_any v n k W (hc.below hB).code (by omega) (by omega))
  obtain ⟨a, ha⟩ : ∃ a, a = k - 1 := ⟨_, rfl⟩
  rw [← ha] at PP h
  have a1 : 1 ≤ a := by omega
  have a7 : a ≤ 7 := by omega
  have HB := Lib.hid (Below.refl w.heap.size w)
  obtain ⟨b, A, c, rfl, _⟩ := hc
  by_cases h1 : lost < 0
  · clear h k1 k2 ha
    go_enter Try.func10, Try.ntmps10
    go_wp2_with (first
                    | (go_at_call 22; (with_reducible refine (NN.out _ (Below.refl _ _)).mono ?_); rintro e w ⟨rfl, rfl⟩)
                    | (go_at_call 23; (with_reducible refine (PP.out _ (Below.refl _ _)).mono ?_); rintro e w ⟨rfl, rfl⟩))
    go_ret2
    exact ⟨rfl, HB.out⟩
  have t1 : decide (lost < 0) = false := by simp; omega
  by_cases h2 : (n : Int) ≤ lost
  · clear h k1 k2 ha
    go_enter Try.func10, Try.ntmps10
    go_wp2_with (first
                    | (go_at_call 22; (with_reducible refine (NN.out _ (Below.refl _ _)).mono ?_); rintro e w ⟨rfl, rfl⟩)
                    | (go_at_call 23; (with_reducible refine (PP.out _ (Below.refl _ _)).mono ?_); rintro e w ⟨rfl, rfl⟩))
    go_ret2
    exact ⟨rfl, HB.out⟩
  have t2 : decide ((n : Int) ≤ lost) = false := by simp; omega
  by_cases h3 : L = 0
  · have t3 : ((L : Int) == 0) = true := by simp; omega
    clear h k1 k2 ha h3
    go_enter Try.func10, Try.ntmps10
    go_wp2_with (first
                    | (go_at_call 22; (with_reducible refine (NN.out _ (Below.refl _ _)).mono ?_); rintro e w ⟨rfl, rfl⟩)
                    | (go_at_call 23; (with_reducible refine (PP.out _ (Below.refl _ _)).mono ?_); rintro e w ⟨rfl, rfl⟩))
    go_ret2
    exact ⟨rfl, HB.out⟩
  · have t3 : ((L : Int) == 0) = false := by simp; omega
    have h4 : L % a ≠ 0 := by omega
    have t4 : ((L : Int) % (a : Int) != 0) = true := by simp only [bne_iff_ne]; omega
    clear h k1 k2 ha h3 h4
    go_enter Try.func10, Try.ntmps10
    go_wp2_with (first
                    | (go_at_call 22; (with_reducible refine (NN.out _ (Below.refl _ _)).mono ?_); rintro e w ⟨rfl, rfl⟩)
                    | (go_at_call 23; (with_reducible refine (PP.out _ (Below.refl _ _)).mono ?_); rintro e w ⟨rfl, rfl⟩))
    go_ret2
    exact ⟨rfl, HB.out⟩
set_option maxRecDepth 100000 in
theorem cost_nil (L : Int) (w : World) :
    Calls Try.prog 11 #[.pointer none, .int .i64 L] w fun e w' => e = .returned (.tuple #[.int .i64 0, .int .i64 0]) ∧ Below w.heap.size w w' := by
  have HB := Lib.hid (Below.refl w.heap.size w)
  go_enter Try.func11, Try.ntmps11
  go_wp2
  go_ret2
  exact ⟨rfl, HB.out⟩
set_option maxRecDepth 100000 in
theorem cost_bad (v : Value) (n k L : Nat) (w : World) (hc : IsCodeP w v n k) (k1 : 2 ≤ k) (k2 : k ≤ 8) (hl : L ≤ 1000) (h : L = 0 ∨ L % (k - 1) ≠ 0) :
    Calls Try.prog 11 #[v, .int .i64 L] w fun e w' => e = .returned (.tuple #[.int .i64 0, .int .i64 0]) ∧ Below w.heap.size w w' := by
  have PP := Lib.hid (fun W (hB : Below w.heap.size w W) => parts_any v n k W (hc.below hB).code (by omega) (by omega))
  obtain ⟨a, ha⟩ : ∃ a, a = k - 1 := ⟨_, rfl⟩
  rw [← ha] at PP h
  have a1 : 1 ≤ a := by omega
  have a7 : a ≤ 7 := by omega
  have HB := Lib.hid (Below.refl w.heap.size w)
  obtain ⟨b, A, c, rfl, _⟩ := hc
  by_cases h3 : L = 0
  · have t3 : decide ((L : Int) < 1) = true := by simp; omega
    clear h k1 k2 ha
    subst h3
    go_enter Try.func11, Try.ntmps11
    go_wp2
    go_ret2
    exact ⟨rfl, HB.out⟩
  · have t3 : decide ((L : Int) < 1) = false := by simp; omega
    have t5 : (1 : Int) ≤ (L : Int) := by omega
    have h4 : L % a ≠ 0 := by omega
    have t4 : ((L : Int) % (a : Int) != 0) = true := by simp only [bne_iff_ne]; omega
    clear h k1 k2 ha h3 h4
    go_enter Try.func11, Try.ntmps11
    go_wp2_with (go_at_call 23; (with_reducible refine (PP.out _ (Below.refl _ _)).mono ?_); rintro e w ⟨rfl, rfl⟩)
    go_ret2
    exact ⟨rfl, HB.out⟩
set_option maxRecDepth 100000 in
theorem cost_good (v : Value) (n k L sz : Nat) (w : World) (hc : IsCodeP w v n k) (k1 : 2 ≤ k) (k2 : k ≤ 8) (hl : L ≤ 1000) (hLs : L = (k - 1) * sz) (hsz : 1 ≤ sz) :
    Calls Try.prog 11 #[v, .int .i64 L] w fun e w' => e = .returned (.tuple #[.int .i64 (((2 * k - 2) * sz : Nat) : Int), .int .i64 ((k * L : Nat) : Int)]) ∧ Below w.heap.size w w' := by
  have KK := Lib.hid (fun W (hB : Below w.heap.size w W) => k_any v n k W (hc.below hB).code)
  have PP := Lib.hid (fun W (hB : Below w.heap.size w W) => parts_any v n k W (hc.below hB).code (by omega) (by omega))
  have HH := Lib.hid (fun W (hB : Below w.heap.size w W) => helpers_any v n k W (hc.below hB).code (by omega) (by omega))
  obtain ⟨a, ha⟩ : ∃ a, a = k - 1 := ⟨_, rfl⟩
  obtain ⟨q, hq⟩ : ∃ q, q = 2 * k - 2 := ⟨_, rfl⟩
  rw [← ha] at PP hLs
  rw [← hq] at HH ⊢
  have a1 : 1 ≤ a := by omega
  have a7 : a ≤ 7 := by omega
  have q14 : q ≤ 14 := by omega
  have sz1 : sz ≤ L := by rw [hLs]; exact Nat.le_mul_of_pos_left sz (by omega)
  have d1 : (L : Int) % (a : Int) = 0 := by rw [hLs, Int.natCast_mul]; exact Int.mul_emod_right _ _
  have d2 : (L : Int) / (a : Int) = (sz : Int) := by rw [hLs, Int.natCast_mul, Int.mul_comm]; exact Int.mul_ediv_cancel _ (by omega)
  have m1 : q * sz ≤ 14 * 1000 := Nat.mul_le_mul q14 (by omega)
  have m2 : k * L ≤ 8 * 1000 := Nat.mul_le_mul k2 hl
  have e1 : IntKind.i64.wrap ((q : Int) * (sz : Int)) = ((q * sz : Nat) : Int) := by rw [← Int.natCast_mul, IntWalk.i64_in _ (by omega)]
  have e2 : IntKind.i64.wrap ((k : Int) * (L : Int)) = ((k * L : Nat) : Int) := by rw [← Int.natCast_mul, IntWalk.i64_in _ (by omega)]
  obtain ⟨x1, hx1⟩ : ∃ x, x = q * sz := ⟨_, rfl⟩
  obtain ⟨x2, hx2⟩ : ∃ x, x = k * L := ⟨_, rfl⟩
  rw [← hx1] at e1 ⊢
  rw [← hx2] at e2 ⊢
  have t5 : (1 : Int) ≤ (L : Int) := by have := Nat.mul_le_mul a1 hsz; omega
  have t3 : decide ((L : Int) < 1) = false := by simp; omega
  have HB := Lib.hid (Below.refl w.heap.size w)
  obtain ⟨b, A, c, rfl, _⟩ := hc
  clear k1 k2 ha hq hLs m1 m2 hx1 hx2
  go_enter Try.func11, Try.ntmps11
  go_wp2_with (go_at_call 23; (with_reducible refine (PP.out _ (Below.refl _ _)).mono ?_); rintro e w ⟨rfl, rfl⟩)
  go_quiet (first
    | (go_at_call 23; exact Calls.quiet_of_same (PP.out _ (pw_below_drewN (Below.refl _ _) _)))
    | (go_at_call 28; exact Calls.quiet_of_same (KK.out _ (pw_below_drewN (Below.refl _ _) _)))
    | (go_at_call 27; exact Calls.quiet_of_same (HH.out _ (pw_below_drewN (Below.refl _ _) _))))
  go_wp2
  go_ret2
  exact ⟨rfl, pw_below_drewN HB.out _⟩
end Go.Proofs.Ytcnfafappcbpnaa.Str
