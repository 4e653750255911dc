/- Plans: stripe.Of. -/
import Derived.Test.YtjoblpkfpfclpaaProg
import Derived.Below
import Derived.Deep.Draws
import Derived.Deep.AppendLies
import Derived.Maps.AppendAt
import Derived.OwnWalk
import Derived.Laws.BytesArg
import Derived.Laws.MakeOwn
import Derived.Laws.OwnMore
import Derived.Deep.OwnRows
import Derived.Tactics
import Derived.Lib.ConvBytes
import Derived.Laws.Slices
import Derived.WalkKit
import Derived.KernelRfl
import Derived.RowKit3
import Derived.Deep.LoopGhost
import Derived.Deep.QuietTactic
import Derived.BigQuiet
import Derived.WideLaws
import Derived.Deep.DeepCutAuto
import Derived.Deep.CutBlock
import Derived.Deep.RegionHeld3
import Derived.Laws.Rows
import Derived.Lib.AppendStr
import Derived.ArgAppend
import Derived.Laws.IdiomCopy
import Derived.OrdersHeld
import Derived.Laws.BitsLemmas
import Derived.RowKit
import Derived.Lib.Hide
import Derived.WalkSpells
import Derived.Outline
import Derived.StillTailTactics
import Derived.Test.YtjoblpkfpfclpaaBStripePlansStripe1
namespace Go.Proofs.Ytjoblpkfpfclpaa.Str
open Go Go.RowKit Go.Proofs.Ytjoblpkfpfclpaa.PStripePlans Go.Proofs.Ytjoblpkfpfclpaa.BStripePlans Go.Proofs.Ytjoblpkfpfclpaa.Gf Go.Proofs.Ytjoblpkfpfclpaa.Bits Go.Proofs.Ytjoblpkfpfclpaa.Mem Go.Proofs.Ytjoblpkfpfclpaa.VPts Go.Proofs.YtjoblpkfpfclpaaW.PrintWords Go.Proofs.YtjoblpkfpfclpaaW.PrintLast
set_option linter.unusedVariables false

abbrev planV (a b c : Int) : Value := .agg #[.int .i64 a, .int .i64 b, .int .i64 c]
theorem zero_plan (w : World) : (zeroValue 29).run Try.prog w = .ok (planV 0 0 0) w := by kernel_rfl
abbrev planE (a b c e : Int) : Ending := .returned (.tuple #[planV a b c, .int .i64 e])
set_option maxRecDepth 100000 in
theorem of_nil (L p : Int) (w : World) :
    Calls Try.prog 10 #[.pointer none, .int .i64 L, .int .i64 p] w fun e w' => e = planE 0 0 0 1 ∧ Below w.heap.size w w' := by
  have hz := zero_plan
  go_enter Try.func10, Try.ntmps10
  go_wp2
  refine bodyPost_ret (v := .tuple #[planV 0 0 0, .int .i64 1]) (by simp [results, Try.results10, go_sem]) rfl ?_
  exact ⟨rfl, (by repeat (first | exact Below.refl _ _ | exact HB.out | apply pw_below_drewN | refine Below.alloc ?_ (by simp) _ | refine Below.setCell ?_ (by simp) _))⟩
set_option maxRecDepth 100000 in
theorem of_arg (b : Nat) (L p : Int) (w : World) (h : L < 0 ∨ (¬ L < 0 ∧ p < 1) ∨ (¬ L < 0 ∧ ¬ p < 1 ∧ 256 < p)) :
    Calls Try.prog 10 #[.pointer (some ⟨b, 0, none⟩), .int .i64 L, .int .i64 p] w fun e w' => e = planE 0 0 0 1 ∧ Below w.heap.size w w' := by
  have hz := zero_plan
  rcases h with h1 | ⟨h1, h2⟩ | ⟨h1, h2, h3⟩
  all_goals
    go_enter Try.func10, Try.ntmps10
    go_wp2
    refine bodyPost_ret (v := .tuple #[planV 0 0 0, .int .i64 1]) (by simp [results, Try.results10, go_sem]) rfl ?_
    exact ⟨rfl, (by repeat (first | exact Below.refl _ _ | exact HB.out | apply pw_below_drewN | refine Below.alloc ?_ (by simp) _ | refine Below.setCell ?_ (by simp) _))⟩
set_option maxRecDepth 100000 in
theorem of_long (b : Nat) (L p : Int) (w : World) (h1 : ¬ L < 0) (h2 : ¬ p < 1) (h3 : ¬ 256 < p) (h4 : 16384 < L) :
    Calls Try.prog 10 #[.pointer (some ⟨b, 0, none⟩), .int .i64 L, .int .i64 p] w fun e w' => e = planE 0 0 0 29 ∧ Below w.heap.size w w' := by
  have hz := zero_plan
  go_enter Try.func10, Try.ntmps10
  go_wp2
  refine bodyPost_ret (v := .tuple #[planV 0 0 0, .int .i64 29]) (by simp [results, Try.results10, go_sem]) rfl ?_
  exact ⟨rfl, (by repeat (first | exact Below.refl _ _ | exact HB.out | apply pw_below_drewN | refine Below.alloc ?_ (by simp) _ | refine Below.setCell ?_ (by simp) _))⟩
/-- Rounded up. -/
def upq (L s : Nat) : Nat := (L + s - 1) / s
section
variable (b n k s full L p : Nat) (w : World) (hc : IsCode w (.pointer (some ⟨b, 0, none⟩)) n k) (k1 : 2 ≤ k) (k2 : k ≤ 8) (hs : k * (k - 1) = s) (hfull : s * p = full) (h2 : 1 ≤ p) (h3 : p ≤ 256) (h4 : L ≤ 16384)
include hc k1 k2 hs hfull h2 h3 h4
set_option maxRecDepth 100000 in
theorem of_many (h5 : 32 < upq L full) (h6 : 0 < L) (h7 : ¬ L < full) :
    Calls Try.prog 10 #[.pointer (some ⟨b, 0, none⟩), .int .i64 L, .int .i64 p] w fun e w' => e = planE 0 0 0 29 ∧ Below w.heap.size w w' := by
  have hz := zero_plan
  have SY := Lib.hid (fun W hb => symbols_any _ n k s W (hc.below hb) (by omega) (by omega) hs)
  have hs56 : s ≤ 56 := by rw [← hs]; exact Nat.mul_le_mul k2 (show k - 1 ≤ 7 by omega)
  have hs2 : 2 ≤ s := by rw [← hs]; exact Nat.mul_le_mul k1 (show 1 ≤ k - 1 by omega)
  have hf1 : s * p ≤ 56 * 256 := Nat.mul_le_mul hs56 h3
  have hf2 : 2 * 1 ≤ s * p := Nat.mul_le_mul hs2 h2
  rw [hfull] at hf1 hf2
  have e1 : IntKind.i64.wrap ((s : Int) * (p : Int)) = (full : Int) := by rw [← Int.natCast_mul, hfull, IntWalk.i64_in _ (by omega)]
  have t1 : ¬ (L : Int) < 0 := by omega
  have t2 : ¬ (p : Int) < 1 := by omega
  have t3 : ¬ (256 : Int) < (p : Int) := by omega
  have t4 : ¬ (16384 : Int) < (L : Int) := by omega
  have e2 : IntKind.i64.wrap ((L : Int) + (full : Int)) = (L : Int) + (full : Int) := IntWalk.i64_in _ (by omega)
  have e3 : IntKind.i64.wrap ((L : Int) + (full : Int) - 1) = ((L + full - 1 : Nat) : Int) := by rw [IntWalk.i64_in _ (by omega)]; omega
  obtain ⟨q, hq⟩ : ∃ q, q = upq L full := ⟨_, rfl⟩
  have hq2 : q ≤ 100000 := by rw [hq]; exact Nat.le_trans (Nat.div_le_self _ _) (by omega)
  have e4 : IntKind.i64.wrap (((L + full - 1 : Nat) : Int) / (full : Int)) = (q : Int) := by
    rw [← Int.natCast_ediv, IntWalk.i64_in _ (by have : (L + full - 1) / full = q := hq.symm; rw [this]; omega), hq]; rfl
  have hf0 : ¬ (full : Int) = 0 := by omega
  have hf0' : ((full : Int) == 0) = false := by simp; omega
  rw [← hq] at h5
  have t5 : (0 : Int) < (L : Int) := by omega
  have t6 : ¬ (L : Int) < (full : Int) := by omega
  have t7 : (32 : Int) < (q : Int) := by omega
  clear hs hfull hq hc hs56 hs2 hf1 hf2 h2 h3 h4 h5 h6 h7 k1 k2 hq2
  go_enter Try.func10, Try.ntmps10
  go_wp2_with ((go_at_call 24; (with_reducible refine (SY.out _ (by repeat (first | exact Below.refl _ _ | apply pw_below_drewN | refine Below.alloc ?_ (by simp) _ | refine Below.setCell ?_ (by simp) _))).mono ?_); rintro e w1 ⟨rfl, rfl⟩))
  refine bodyPost_ret (v := .tuple #[planV 0 0 0, .int .i64 29]) (by simp [results, Try.results10, go_sem]) rfl ?_
  exact ⟨rfl, (by repeat (first | exact Below.refl _ _ | exact HB.out | apply pw_below_drewN | refine Below.alloc ?_ (by simp) _ | refine Below.setCell ?_ (by simp) _))⟩
set_option maxRecDepth 100000 in
theorem of_few (h5 : upq L full ≤ 32) (h6 : 0 < L) (h7 : ¬ L < full) :
    Calls Try.prog 10 #[.pointer (some ⟨b, 0, none⟩), .int .i64 L, .int .i64 p] w fun e w' => e = planE L (upq L full) p 0 ∧ Below w.heap.size w w' := by
  have hz := zero_plan
  have SY := Lib.hid (fun W hb => symbols_any _ n k s W (hc.below hb) (by omega) (by omega) hs)
  have hs56 : s ≤ 56 := by rw [← hs]; exact Nat.mul_le_mul k2 (show k - 1 ≤ 7 by omega)
  have hs2 : 2 ≤ s := by rw [← hs]; exact Nat.mul_le_mul k1 (show 1 ≤ k - 1 by omega)
  have hf1 : s * p ≤ 56 * 256 := Nat.mul_le_mul hs56 h3
  have hf2 : 2 * 1 ≤ s * p := Nat.mul_le_mul hs2 h2
  rw [hfull] at hf1 hf2
  have e1 : IntKind.i64.wrap ((s : Int) * (p : Int)) = (full : Int) := by rw [← Int.natCast_mul, hfull, IntWalk.i64_in _ (by omega)]
  have t1 : ¬ (L : Int) < 0 := by omega
  have t2 : ¬ (p : Int) < 1 := by omega
  have t3 : ¬ (256 : Int) < (p : Int) := by omega
  have t4 : ¬ (16384 : Int) < (L : Int) := by omega
  have e2 : IntKind.i64.wrap ((L : Int) + (full : Int)) = (L : Int) + (full : Int) := IntWalk.i64_in _ (by omega)
  have e3 : IntKind.i64.wrap ((L : Int) + (full : Int) - 1) = ((L + full - 1 : Nat) : Int) := by rw [IntWalk.i64_in _ (by omega)]; omega
  obtain ⟨q, hq⟩ : ∃ q, q = upq L full := ⟨_, rfl⟩
  have hq2 : q ≤ 100000 := by rw [hq]; exact Nat.le_trans (Nat.div_le_self _ _) (by omega)
  have e4 : IntKind.i64.wrap (((L + full - 1 : Nat) : Int) / (full : Int)) = (q : Int) := by
    rw [← Int.natCast_ediv, IntWalk.i64_in _ (by have : (L + full - 1) / full = q := hq.symm; rw [this]; omega), hq]; rfl
  have hf0 : ¬ (full : Int) = 0 := by omega
  have hf0' : ((full : Int) == 0) = false := by simp; omega
  rw [← hq] at h5 ⊢
  have t5 : (0 : Int) < (L : Int) := by omega
  have t6 : ¬ (L : Int) < (full : Int) := by omega
  have t7 : ¬ (32 : Int) < (q : Int) := by omega
  clear hs hfull hq hc hs56 hs2 hf1 hf2 h2 h3 h4 h5 h6 h7 k1 k2 hq2
  go_enter Try.func10, Try.ntmps10
  go_wp2_with ((go_at_call 24; (with_reducible refine (SY.out _ (by repeat (first | exact Below.refl _ _ | apply pw_below_drewN | refine Below.alloc ?_ (by simp) _ | refine Below.setCell ?_ (by simp) _))).mono ?_); rintro e w1 ⟨rfl, rfl⟩))
  refine bodyPost_ret (v := .tuple #[planV L q p, .int .i64 0]) (by simp [results, Try.results10, go_sem]) rfl ?_
  exact ⟨rfl, (by repeat (first | exact Below.refl _ _ | exact HB.out | apply pw_below_drewN | refine Below.alloc ?_ (by simp) _ | refine Below.setCell ?_ (by simp) _))⟩
set_option maxRecDepth 100000 in
theorem of_zero (h5 : L = 0) :
    Calls Try.prog 10 #[.pointer (some ⟨b, 0, none⟩), .int .i64 L, .int .i64 p] w fun e w' => e = planE L 0 p 0 ∧ Below w.heap.size w w' := by
  have hz := zero_plan
  have SY := Lib.hid (fun W hb => symbols_any _ n k s W (hc.below hb) (by omega) (by omega) hs)
  have hs56 : s ≤ 56 := by rw [← hs]; exact Nat.mul_le_mul k2 (show k - 1 ≤ 7 by omega)
  have hs2 : 2 ≤ s := by rw [← hs]; exact Nat.mul_le_mul k1 (show 1 ≤ k - 1 by omega)
  have hf1 : s * p ≤ 56 * 256 := Nat.mul_le_mul hs56 h3
  have hf2 : 2 * 1 ≤ s * p := Nat.mul_le_mul hs2 h2
  rw [hfull] at hf1 hf2
  have e1 : IntKind.i64.wrap ((s : Int) * (p : Int)) = (full : Int) := by rw [← Int.natCast_mul, hfull, IntWalk.i64_in _ (by omega)]
  have t1 : ¬ (L : Int) < 0 := by omega
  have t2 : ¬ (p : Int) < 1 := by omega
  have t3 : ¬ (256 : Int) < (p : Int) := by omega
  have t4 : ¬ (16384 : Int) < (L : Int) := by omega
  have e2 : IntKind.i64.wrap ((L : Int) + (full : Int)) = (L : Int) + (full : Int) := IntWalk.i64_in _ (by omega)
  have e3 : IntKind.i64.wrap ((L : Int) + (full : Int) - 1) = ((L + full - 1 : Nat) : Int) := by rw [IntWalk.i64_in _ (by omega)]; omega
  obtain ⟨q, hq⟩ : ∃ q, q = upq L full := ⟨_, rfl⟩
  have hq2 : q ≤ 100000 := by rw [hq]; exact Nat.le_trans (Nat.div_le_self _ _) (by omega)
  have e4 : IntKind.i64.wrap (((L + full - 1 : Nat) : Int) / (full : Int)) = (q : Int) := by
    rw [← Int.natCast_ediv, IntWalk.i64_in _ (by have : (L + full - 1) / full = q := hq.symm; rw [this]; omega), hq]; rfl
  have hf0 : ¬ (full : Int) = 0 := by omega
  have hf0' : ((full : Int) == 0) = false := by simp; omega
  have hq0 : q = 0 := by have := h4; rw [hq, h5]; exact Nat.div_eq_of_lt (by omega)
  rw [hq0] at e4
  have t5 : ¬ (0 : Int) < (L : Int) := by omega
  clear hs hfull hq hc hs56 hs2 hf1 hf2 h2 h3 h4 h5 k1 k2 hq2 hq0
  go_enter Try.func10, Try.ntmps10
  go_wp2_with ((go_at_call 24; (with_reducible refine (SY.out _ (by repeat (first | exact Below.refl _ _ | apply pw_below_drewN | refine Below.alloc ?_ (by simp) _ | refine Below.setCell ?_ (by simp) _))).mono ?_); rintro e w1 ⟨rfl, rfl⟩))
  refine bodyPost_ret (v := .tuple #[planV L 0 p, .int .i64 0]) (by simp [results, Try.results10, go_sem]) rfl ?_
  exact ⟨rfl, (by repeat (first | exact Below.refl _ _ | exact HB.out | apply pw_below_drewN | refine Below.alloc ?_ (by simp) _ | refine Below.setCell ?_ (by simp) _))⟩
set_option maxRecDepth 100000 in
theorem of_small (h6 : 0 < L) (h7 : L < full) :
    Calls Try.prog 10 #[.pointer (some ⟨b, 0, none⟩), .int .i64 L, .int .i64 p] w fun e w' => e = planE L 1 (upq L s) 0 ∧ Below w.heap.size w w' := by
  have hz := zero_plan
  have SY := Lib.hid (fun W hb => symbols_any _ n k s W (hc.below hb) (by omega) (by omega) hs)
  have hs56 : s ≤ 56 := by rw [← hs]; exact Nat.mul_le_mul k2 (show k - 1 ≤ 7 by omega)
  have hs2 : 2 ≤ s := by rw [← hs]; exact Nat.mul_le_mul k1 (show 1 ≤ k - 1 by omega)
  have hf1 : s * p ≤ 56 * 256 := Nat.mul_le_mul hs56 h3
  have hf2 : 2 * 1 ≤ s * p := Nat.mul_le_mul hs2 h2
  rw [hfull] at hf1 hf2
  have e1 : IntKind.i64.wrap ((s : Int) * (p : Int)) = (full : Int) := by rw [← Int.natCast_mul, hfull, IntWalk.i64_in _ (by omega)]
  have t1 : ¬ (L : Int) < 0 := by omega
  have t2 : ¬ (p : Int) < 1 := by omega
  have t3 : ¬ (256 : Int) < (p : Int) := by omega
  have t4 : ¬ (16384 : Int) < (L : Int) := by omega
  have e2 : IntKind.i64.wrap ((L : Int) + (full : Int)) = (L : Int) + (full : Int) := IntWalk.i64_in _ (by omega)
  have e3 : IntKind.i64.wrap ((L : Int) + (full : Int) - 1) = ((L + full - 1 : Nat) : Int) := by rw [IntWalk.i64_in _ (by omega)]; omega
  obtain ⟨q, hq⟩ : ∃ q, q = upq L full := ⟨_, rfl⟩
  have hq2 : q ≤ 100000 := by rw [hq]; exact Nat.le_trans (Nat.div_le_self _ _) (by omega)
  have e4 : IntKind.i64.wrap (((L + full - 1 : Nat) : Int) / (full : Int)) = (q : Int) := by
    rw [← Int.natCast_ediv, IntWalk.i64_in _ (by have : (L + full - 1) / full = q := hq.symm; rw [this]; omega), hq]; rfl
  have hf0 : ¬ (full : Int) = 0 := by omega
  have hf0' : ((full : Int) == 0) = false := by simp; omega
  have hq0 : q = 1 := by
    rw [hq]
    show (L + full - 1) / full = 1
    rw [show L + full - 1 = (L - 1) + full by omega, Nat.add_div_right _ (by omega), Nat.div_eq_of_lt (by omega)]
  rw [hq0] at e4
  have t5 : (0 : Int) < (L : Int) := by omega
  have t6 : (L : Int) < (full : Int) := by omega
  obtain ⟨r, hr⟩ : ∃ r, r = upq L s := ⟨_, rfl⟩
  have hr2 : r ≤ 100000 := by rw [hr]; exact Nat.le_trans (Nat.div_le_self _ _) (by omega)
  have f2 : IntKind.i64.wrap ((L : Int) + (s : Int)) = (L : Int) + (s : Int) := IntWalk.i64_in _ (by omega)
  have f3 : IntKind.i64.wrap ((L : Int) + (s : Int) - 1) = ((L + s - 1 : Nat) : Int) := by rw [IntWalk.i64_in _ (by omega)]; omega
  have f4 : IntKind.i64.wrap (((L + s - 1 : Nat) : Int) / (s : Int)) = (r : Int) := by
    rw [← Int.natCast_ediv, IntWalk.i64_in _ (by have : (L + s - 1) / s = r := hr.symm; rw [this]; omega), hr]; rfl
  have f5 : ¬ (s : Int) = 0 := by omega
  have f6 : ((s : Int) == 0) = false := by simp; omega
  rw [← hr]
  clear hs hfull hq hc hs56 hs2 hf1 hf2 h2 h3 h4 h6 h7 k1 k2 hq2 hq0 hr hr2
  go_enter Try.func10, Try.ntmps10
  go_wp2_with ((go_at_call 24; (with_reducible refine (SY.out _ (by repeat (first | exact Below.refl _ _ | apply pw_below_drewN | refine Below.alloc ?_ (by simp) _ | refine Below.setCell ?_ (by simp) _))).mono ?_); rintro e w1 ⟨rfl, rfl⟩))
  refine bodyPost_ret (v := .tuple #[planV L 1 r, .int .i64 0]) (by simp [results, Try.results10, go_sem]) rfl ?_
  exact ⟨rfl, (by repeat (first | exact Below.refl _ _ | exact HB.out | apply pw_below_drewN | refine Below.alloc ?_ (by simp) _ | refine Below.setCell ?_ (by simp) _))⟩
end
end Go.Proofs.Ytjoblpkfpfclpaa.Str
