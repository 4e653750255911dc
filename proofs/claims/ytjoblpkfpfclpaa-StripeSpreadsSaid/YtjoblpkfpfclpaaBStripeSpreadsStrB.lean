/- Plans: stripe.Of. -/
import Derived.Test.YtjoblpkfpfclpaaProg
import Derived.Below
import Derived.Deep.Draws
import Derived.Deep.AppendLies
import Derived.Maps.AppendAt
import Derived.OwnWalk
import Derived.Laws.BytesArg
import Derived.Laws.MakeOwn
import Derived.Laws.OwnMore
import Derived.Deep.OwnRows
import Derived.Tactics
import Derived.Lib.ConvBytes
import Derived.Laws.Slices
import Derived.WalkKit
import Derived.KernelRfl
import Derived.RowKit3
import Derived.Deep.LoopGhost
import Derived.Deep.QuietTactic
import Derived.BigQuiet
import Derived.WideLaws
import Derived.Deep.DeepCutAuto
import Derived.Deep.CutBlock
import Derived.Deep.RegionHeld3
import Derived.Laws.Rows
import Derived.Lib.AppendStr
import Derived.ArgAppend
import Derived.Laws.IdiomCopy
import Derived.OrdersHeld
import Derived.Laws.BitsLemmas
import Derived.RowKit
import Derived.Lib.Hide
import Derived.WalkSpells
import Derived.Outline
import Derived.StillTailTactics
import Derived.Test.YtjoblpkfpfclpaaBStripeSpreadsStripe1
import Derived.Laws.StructEq
import Derived.Test.YtjoblpkfpfclpaaWEqStruct
import Derived.ProofKit
namespace Go.Proofs.Ytjoblpkfpfclpaa.Str
open Go Go.RowKit Go.Proofs.Ytjoblpkfpfclpaa.PStripeSpreads Go.Proofs.Ytjoblpkfpfclpaa.BStripeSpreads Go.Proofs.Ytjoblpkfpfclpaa.Gf Go.Proofs.Ytjoblpkfpfclpaa.Bits Go.Proofs.Ytjoblpkfpfclpaa.Mem Go.Proofs.Ytjoblpkfpfclpaa.VPts Go.Proofs.YtjoblpkfpfclpaaW.PrintWords Go.Proofs.YtjoblpkfpfclpaaW.PrintLast
set_option linter.unusedVariables false

abbrev planV (a b c : Int) : Value := .agg #[.int .i64 a, .int .i64 b, .int .i64 c]
theorem zero_plan (w : World) : (zeroValue 29).run Try.prog w = .ok (planV 0 0 0) w := by kernel_rfl
abbrev planE (a b c e : Int) : Ending := .returned (.tuple #[planV a b c, .int .i64 e])
set_option maxRecDepth 100000 in
theorem of_nil (L p : Int) (w : World) :
    Calls Try.prog 10 #[.pointer none, .int .i64 L, .int .i64 p] w fun e w' => e = planE 0 0 0 1 ∧ Below w.heap.size w w' := by
  have hz := zero_plan
  go_enter Try.func10, Try.ntmps10
  go_wp2
  refine bodyPost_ret (v := .tuple #[planV 0 0 0, .int .i64 1]) (by simp [results, Try.results10, go_sem]) rfl ?_
  exact ⟨rfl, (by repeat (first | exact Below.refl _ _ | exact HB.out | apply pw_below_drewN | refine Below.alloc ?_ (by simp) _ | refine Below.setCell ?_ (by simp) _))⟩
set_option maxRecDepth 100000 in
theorem of_arg (b : Nat) (L p : Int) (w : World) (h : L < 0 ∨ (¬ L < 0 ∧ p < 1) ∨ (¬ L < 0 ∧ ¬ p < 1 ∧ 256 < p)) :
    Calls Try.prog 10 #[.pointer (some ⟨b, 0, none⟩), .int .i64 L, .int .i64 p] w fun e w' => e = planE 0 0 0 1 ∧ Below w.heap.size w w' := by
  have hz := zero_plan
  rcases h with h1 | ⟨h1, h2⟩ | ⟨h1, h2, h3⟩
  all_goals
    go_enter Try.func10, Try.ntmps10
    go_wp2
    refine bodyPost_ret (v := .tuple #[planV 0 0 0, .int .i64 1]) (by simp [results, Try.results10, go_sem]) rfl ?_
    exact ⟨rfl, (by repeat (first | exact Below.refl _ _ | exact HB.out | apply pw_below_drewN | refine Below.alloc ?_ (by simp) _ | refine Below.setCell ?_ (by simp) _))⟩
set_option maxRecDepth 100000 in
theorem of_long (b : Nat) (L p : Int) (w : World) (h1 : ¬ L < 0) (h2 : ¬ p < 1) (h3 : ¬ 256 < p) (h4 : 16384 < L) :
    Calls Try.prog 10 #[.pointer (some ⟨b, 0, none⟩), .int .i64 L, .int .i64 p] w fun e w' => e = planE 0 0 0 29 ∧ Below w.heap.size w w' := by
  have hz := zero_plan
  go_enter Try.func10, Try.ntmps10
  go_wp2
  refine bodyPost_ret (v := .tuple #[planV 0 0 0, .int .i64 29]) (by simp [results, Try.results10, go_sem]) rfl ?_
  exact ⟨rfl, (by repeat (first | exact Below.refl _ _ | exact HB.out | apply pw_below_drewN | refine Below.alloc ?_ (by simp) _ | refine Below.setCell ?_ (by simp) _))⟩
/-- Rounded up. -/
def upq (L s : Nat) : Nat := (L + s - 1) / s
section
variable (b n k s full L p : Nat) (w : World) (hc : IsCode w (.pointer (some ⟨b, 0, none⟩)) n k) (k1 : 2 ≤ k) (k2 : k ≤ 8) (hs : k * (k - 1) = s) (hfull : s * p = full) (h2 : 1 ≤ p) (h3 : p ≤ 256) (h4 : L ≤ 16384)
include hc k1 k2 hs hfull h2 h3 h4
set_option maxRecDepth 100000 in
theorem of_many (h5 : 32 < upq L full) (h6 : 0 < L) (h7 : ¬ L < full) :
    Calls Try.prog 10 #[.pointer (some ⟨b, 0, none⟩), .int .i64 L, .int .i64 p] w fun e w' => e = planE 0 0 0 29 ∧ Below w.heap.size w w' := by
  have hz := zero_plan
  have SY := Lib.hid (fun W hb => symbols_any _ n k s W (hc.below hb) (by omega) (by omega) hs)
  have hs56 : s ≤ 56 := by rw [← hs]; exact Nat.mul_le_mul k2 (show k - 1 ≤ 7 by omega)
  have hs2 : 2 ≤ s := by rw [← hs]; exact Nat.mul_le_mul k1 (show 1 ≤ k - 1 by omega)
  have hf1 : s * p ≤ 56 * 256 := Nat.mul_le_mul hs56 h3
  have hf2 : 2 * 1 ≤ s * p := Nat.mul_le_mul hs2 h2
  rw [hfull] at hf1 hf2
  have e1 : IntKind.i64.wrap ((s : Int) * (p : Int)) = (full : Int) := by rw [← Int.natCast_mul, hfull, IntWalk.i64_in _ (by omega)]
  have t1 : ¬ (L : Int) < 0 := by omega
  have t2 : ¬ (p : Int) < 1 := by omega
  have t3 : ¬ (256 : Int) < (p : Int) := by omega
  have t4 : ¬ (16384 : Int) < (L : Int) := by omega
  have e2 : IntKind.i64.wrap ((L : Int) + (full : Int)) = (L : Int) + (full : Int) := IntWalk.i64_in _ (by omega)
  have e3 : IntKind.i64.wrap ((L : Int) + (full : Int) - 1) = ((L + full - 1 : Nat) : Int) := by rw [IntWalk.i64_in _ (by omega)]; omega
  obtain ⟨q, hq⟩ : ∃ q, q = upq L full := ⟨_, rfl⟩
  have hq2 : q ≤ 100000 := by rw [hq]; exact Nat.le_trans (Nat.div_le_self _ _) (by omega)
  have e4 : IntKind.i64.wrap (((L + full - 1 : Nat) : Int) / (full : Int)) = (q : Int) := by
    rw [← Int.natCast_ediv, IntWalk.i64_in _ (by have : (L + full - 1) / full = q := hq.symm; rw [this]; omega), hq]; rfl
  have hf0 : ¬ (full : Int) = 0 := by omega
  have hf0' : ((full : Int) == 0) = false := by simp; omega
  rw [← hq] at h5
  have t5 : (0 : Int) < (L : Int) := by omega
  have t6 : ¬ (L : Int) < (full : Int) := by omega
  have t7 : (32 : Int) < (q : Int) := by omega
  clear hs hfull hq hc hs56 hs2 hf1 hf2 h2 h3 h4 h5 h6 h7 k1 k2 hq2
  go_enter Try.func10, Try.ntmps10
  go_wp2_with ((go_at_call 24; (with_reducible refine (SY.out _ (by repeat (first | exact Below.refl _ _ | apply pw_below_drewN | refine Below.alloc ?_ (by simp) _ | refine Below.setCell ?_ (by simp) _))).mono ?_); rintro e w1 ⟨rfl, rfl⟩))
  refine bodyPost_ret (v := .tuple #[planV 0 0 0, .int .i64 29]) (by simp [results, Try.results10, go_sem]) rfl ?_
  exact ⟨rfl, (by repeat (first | exact Below.refl _ _ | exact HB.out | apply pw_below_drewN | refine Below.alloc ?_ (by simp) _ | refine Below.setCell ?_ (by simp) _))⟩
set_option maxRecDepth 100000 in
theorem of_few (h5 : upq L full ≤ 32) (h6 : 0 < L) (h7 : ¬ L < full) :
    Calls Try.prog 10 #[.pointer (some ⟨b, 0, none⟩), .int .i64 L, .int .i64 p] w fun e w' => e = planE L (upq L full) p 0 ∧ Below w.heap.size w w' := by
  have hz := zero_plan
  have SY := Lib.hid (fun W hb => symbols_any _ n k s W (hc.below hb) (by omega) (by omega) hs)
  have hs56 : s ≤ 56 := by rw [← hs]; exact Nat.mul_le_mul k2 (show k - 1 ≤ 7 by omega)
  have hs2 : 2 ≤ s := by rw [← hs]; exact Nat.mul_le_mul k1 (show 1 ≤ k - 1 by omega)
  have hf1 : s * p ≤ 56 * 256 := Nat.mul_le_mul hs56 h3
  have hf2 : 2 * 1 ≤ s * p := Nat.mul_le_mul hs2 h2
  rw [hfull] at hf1 hf2
  have e1 : IntKind.i64.wrap ((s : Int) * (p : Int)) = (full : Int) := by rw [← Int.natCast_mul, hfull, IntWalk.i64_in _ (by omega)]
  have t1 : ¬ (L : Int) < 0 := by omega
  have t2 : ¬ (p : Int) < 1 := by omega
  have t3 : ¬ (256 : Int) < (p : Int) := by omega
  have t4 : ¬ (16384 : Int) < (L : Int) := by omega
  have e2 : IntKind.i64.wrap ((L : Int) + (full : Int)) = (L : Int) + (full : Int) := IntWalk.i64_in _ (by omega)
  have e3 : IntKind.i64.wrap ((L : Int) + (full : Int) - 1) = ((L + full - 1 : Nat) : Int) := by rw [IntWalk.i64_in _ (by omega)]; omega
  obtain ⟨q, hq⟩ : ∃ q, q = upq L full := ⟨_, rfl⟩
  have hq2 : q ≤ 100000 := by rw [hq]; exact Nat.le_trans (Nat.div_le_self _ _) (by omega)
  have e4 : IntKind.i64.wrap (((L + full - 1 : Nat) : Int) / (full : Int)) = (q : Int) := by
    rw [← Int.natCast_ediv, IntWalk.i64_in _ (by have : (L + full - 1) / full = q := hq.symm; rw [this]; omega), hq]; rfl
  have hf0 : ¬ (full : Int) = 0 := by omega
  have hf0' : ((full : Int) == 0) = false := by simp; omega
  rw [← hq] at h5 ⊢
  have t5 : (0 : Int) < (L : Int) := by omega
  have t6 : ¬ (L : Int) < (full : Int) := by omega
  have t7 : ¬ (32 : Int) < (q : Int) := by omega
  clear hs hfull hq hc hs56 hs2 hf1 hf2 h2 h3 h4 h5 h6 h7 k1 k2 hq2
  go_enter Try.func10, Try.ntmps10
  go_wp2_with ((go_at_call 24; (with_reducible refine (SY.out _ (by repeat (first | exact Below.refl _ _ | apply pw_below_drewN | refine Below.alloc ?_ (by simp) _ | refine Below.setCell ?_ (by simp) _))).mono ?_); rintro e w1 ⟨rfl, rfl⟩))
  refine bodyPost_ret (v := .tuple #[planV L q p, .int .i64 0]) (by simp [results, Try.results10, go_sem]) rfl ?_
  exact ⟨rfl, (by repeat (first | exact Below.refl _ _ | exact HB.out | apply pw_below_drewN | refine Below.alloc ?_ (by simp) _ | refine Below.setCell ?_ (by simp) _))⟩
set_option maxRecDepth 100000 in
theorem of_zero (h5 : L = 0) :
    Calls Try.prog 10 #[.pointer (some ⟨b, 0, none⟩), .int .i64 L, .int .i64 p] w fun e w' => e = planE L 0 p 0 ∧ Below w.heap.size w w' := by
  have hz := zero_plan
  have SY := Lib.hid (fun W hb => symbols_any _ n k s W (hc.below hb) (by omega) (by omega) hs)
  have hs56 : s ≤ 56 := by rw [← hs]; exact Nat.mul_le_mul k2 (show k - 1 ≤ 7 by omega)
  have hs2 : 2 ≤ s := by rw [← hs]; exact Nat.mul_le_mul k1 (show 1 ≤ k - 1 by omega)
  have hf1 : s * p ≤ 56 * 256 := Nat.mul_le_mul hs56 h3
  have hf2 : 2 * 1 ≤ s * p := Nat.mul_le_mul hs2 h2
  rw [hfull] at hf1 hf2
  have e1 : IntKind.i64.wrap ((s : Int) * (p : Int)) = (full : Int) := by rw [← Int.natCast_mul, hfull, IntWalk.i64_in _ (by omega)]
  have t1 : ¬ (L : Int) < 0 := by omega
  have t2 : ¬ (p : Int) < 1 := by omega
  have t3 : ¬ (256 : Int) < (p : Int) := by omega
  have t4 : ¬ (16384 : Int) < (L : Int) := by omega
  have e2 : IntKind.i64.wrap ((L : Int) + (full : Int)) = (L : Int) + (full : Int) := IntWalk.i64_in _ (by omega)
  have e3 : IntKind.i64.wrap ((L : Int) + (full : Int) - 1) = ((L + full - 1 : Nat) : Int) := by rw [IntWalk.i64_in _ (by omega)]; omega
  obtain ⟨q, hq⟩ : ∃ q, q = upq L full := ⟨_, rfl⟩
  have hq2 : q ≤ 100000 := by rw [hq]; exact Nat.le_trans (Nat.div_le_self _ _) (by omega)
  have e4 : IntKind.i64.wrap (((L + full - 1 : Nat) : Int) / (full : Int)) = (q : Int) := by
    rw [← Int.natCast_ediv, IntWalk.i64_in _ (by have : (L + full - 1) / full = q := hq.symm; rw [this]; omega), hq]; rfl
  have hf0 : ¬ (full : Int) = 0 := by omega
  have hf0' : ((full : Int) == 0) = false := by simp; omega
  have hq0 : q = 0 := by have := h4; rw [hq, h5]; exact Nat.div_eq_of_lt (by omega)
  rw [hq0] at e4
  have t5 : ¬ (0 : Int) < (L : Int) := by omega
  clear hs hfull hq hc hs56 hs2 hf1 hf2 h2 h3 h4 h5 k1 k2 hq2 hq0
  go_enter Try.func10, Try.ntmps10
  go_wp2_with ((go_at_call 24; (with_reducible refine (SY.out _ (by repeat (first | exact Below.refl _ _ | apply pw_below_drewN | refine Below.alloc ?_ (by simp) _ | refine Below.setCell ?_ (by simp) _))).mono ?_); rintro e w1 ⟨rfl, rfl⟩))
  refine bodyPost_ret (v := .tuple #[planV L 0 p, .int .i64 0]) (by simp [results, Try.results10, go_sem]) rfl ?_
  exact ⟨rfl, (by repeat (first | exact Below.refl _ _ | exact HB.out | apply pw_below_drewN | refine Below.alloc ?_ (by simp) _ | refine Below.setCell ?_ (by simp) _))⟩
set_option maxRecDepth 100000 in
theorem of_small (h6 : 0 < L) (h7 : L < full) :
    Calls Try.prog 10 #[.pointer (some ⟨b, 0, none⟩), .int .i64 L, .int .i64 p] w fun e w' => e = planE L 1 (upq L s) 0 ∧ Below w.heap.size w w' := by
  have hz := zero_plan
  have SY := Lib.hid (fun W hb => symbols_any _ n k s W (hc.below hb) (by omega) (by omega) hs)
  have hs56 : s ≤ 56 := by rw [← hs]; exact Nat.mul_le_mul k2 (show k - 1 ≤ 7 by omega)
  have hs2 : 2 ≤ s := by rw [← hs]; exact Nat.mul_le_mul k1 (show 1 ≤ k - 1 by omega)
  have hf1 : s * p ≤ 56 * 256 := Nat.mul_le_mul hs56 h3
  have hf2 : 2 * 1 ≤ s * p := Nat.mul_le_mul hs2 h2
  rw [hfull] at hf1 hf2
  have e1 : IntKind.i64.wrap ((s : Int) * (p : Int)) = (full : Int) := by rw [← Int.natCast_mul, hfull, IntWalk.i64_in _ (by omega)]
  have t1 : ¬ (L : Int) < 0 := by omega
  have t2 : ¬ (p : Int) < 1 := by omega
  have t3 : ¬ (256 : Int) < (p : Int) := by omega
  have t4 : ¬ (16384 : Int) < (L : Int) := by omega
  have e2 : IntKind.i64.wrap ((L : Int) + (full : Int)) = (L : Int) + (full : Int) := IntWalk.i64_in _ (by omega)
  have e3 : IntKind.i64.wrap ((L : Int) + (full : Int) - 1) = ((L + full - 1 : Nat) : Int) := by rw [IntWalk.i64_in _ (by omega)]; omega
  obtain ⟨q, hq⟩ : ∃ q, q = upq L full := ⟨_, rfl⟩
  have hq2 : q ≤ 100000 := by rw [hq]; exact Nat.le_trans (Nat.div_le_self _ _) (by omega)
  have e4 : IntKind.i64.wrap (((L + full - 1 : Nat) : Int) / (full : Int)) = (q : Int) := by
    rw [← Int.natCast_ediv, IntWalk.i64_in _ (by have : (L + full - 1) / full = q := hq.symm; rw [this]; omega), hq]; rfl
  have hf0 : ¬ (full : Int) = 0 := by omega
  have hf0' : ((full : Int) == 0) = false := by simp; omega
  have hq0 : q = 1 := by
    rw [hq]
    show (L + full - 1) / full = 1
    rw [show L + full - 1 = (L - 1) + full by omega, Nat.add_div_right _ (by omega), Nat.div_eq_of_lt (by omega)]
  rw [hq0] at e4
  have t5 : (0 : Int) < (L : Int) := by omega
  have t6 : (L : Int) < (full : Int) := by omega
  obtain ⟨r, hr⟩ : ∃ r, r = upq L s := ⟨_, rfl⟩
  have hr2 : r ≤ 100000 := by rw [hr]; exact Nat.le_trans (Nat.div_le_self _ _) (by omega)
  have f2 : IntKind.i64.wrap ((L : Int) + (s : Int)) = (L : Int) + (s : Int) := IntWalk.i64_in _ (by omega)
  have f3 : IntKind.i64.wrap ((L : Int) + (s : Int) - 1) = ((L + s - 1 : Nat) : Int) := by rw [IntWalk.i64_in _ (by omega)]; omega
  have f4 : IntKind.i64.wrap (((L + s - 1 : Nat) : Int) / (s : Int)) = (r : Int) := by
    rw [← Int.natCast_ediv, IntWalk.i64_in _ (by have : (L + s - 1) / s = r := hr.symm; rw [this]; omega), hr]; rfl
  have f5 : ¬ (s : Int) = 0 := by omega
  have f6 : ((s : Int) == 0) = false := by simp; omega
  rw [← hr]
  clear hs hfull hq hc hs56 hs2 hf1 hf2 h2 h3 h4 h6 h7 k1 k2 hq2 hq0 hr hr2
  go_enter Try.func10, Try.ntmps10
  go_wp2_with ((go_at_call 24; (with_reducible refine (SY.out _ (by repeat (first | exact Below.refl _ _ | apply pw_below_drewN | refine Below.alloc ?_ (by simp) _ | refine Below.setCell ?_ (by simp) _))).mono ?_); rintro e w1 ⟨rfl, rfl⟩))
  refine bodyPost_ret (v := .tuple #[planV L 1 r, .int .i64 0]) (by simp [results, Try.results10, go_sem]) rfl ?_
  exact ⟨rfl, (by repeat (first | exact Below.refl _ _ | exact HB.out | apply pw_below_drewN | refine Below.alloc ?_ (by simp) _ | refine Below.setCell ?_ (by simp) _))⟩
end

theorem upq_lt (L s i : Nat) (hs : 1 ≤ s) : i < upq L s ↔ i * s < L := by
  unfold upq
  rw [Nat.lt_iff_add_one_le, Nat.le_div_iff_mul_le (by omega), Nat.add_mul, Nat.one_mul]
  omega
theorem upq_le (L s : Nat) (hs : 2 ≤ s) : upq L s ≤ L := by
  rcases Nat.lt_or_ge L (upq L s) with h | h
  · have := (upq_lt L s L (by omega)).1 h
    have h2 : L * 1 ≤ L * s := Nat.mul_le_mul_left L (by omega)
    omega
  · exact h
theorem w64 (i : Nat) (h : i < 1000000000) : wrap64 (i : Int) = (i : Int) := wrap64_in _ (by omega) (by omega)
theorem w64s (i : Nat) (h : i < 1000000) : wrap64 ((i : Int) + 1) = ((i + 1 : Nat) : Int) := by rw [wrap64_in _ (by omega) (by omega)]; omega
section
variable (k s full L p : Nat) (k1 : 2 ≤ k) (k2 : k ≤ 8) (hs : k * (k - 1) = s) (hfull : s * p = full) (h2 : 1 ≤ p) (h3 : p ≤ 256) (h4 : L ≤ 16384)
theorem l1_loop (q : Int) (hs2 : 2 ≤ s) (hs56 : s ≤ 56) (hsk : wrap64 ((k : Int) * (wrap64 ((k : Int) - 1))) = (s : Int)) (h4 : L ≤ 16384) (d : Nat) : ∀ (K i : Nat), i + d = upq L s → d < K → coldframeref08_Of.l1 K k L q i = some ((L : Int), q, ((upq L s : Nat) : Int), 0) := by
  have hle := upq_le L s hs2
  induction d with
  | zero =>
    intro K i hd hK
    obtain ⟨K, rfl⟩ : ∃ m, K = m + 1 := ⟨K - 1, by omega⟩
    simp only [coldframeref08_Of.l1]
    obtain rfl : i = upq L s := by omega
    have h1 : ¬ (upq L s) * s < L := fun h => by have := (upq_lt L s (upq L s) (by omega)).2 h; omega
    have hm : s * upq L s ≤ 56 * 16384 := Nat.mul_le_mul hs56 (by omega)
    rw [hsk, ← Int.natCast_mul, w64 _ (by omega), if_neg (by rw [Nat.mul_comm] at h1; omega)]
  | succ d ih =>
    intro K i hd hK
    obtain ⟨K, rfl⟩ : ∃ m, K = m + 1 := ⟨K - 1, by omega⟩
    simp only [coldframeref08_Of.l1]
    have h1 : i * s < L := (upq_lt L s i (by omega)).1 (by omega)
    have hm : s * i ≤ 56 * 16384 := Nat.mul_le_mul hs56 (by omega)
    rw [hsk, ← Int.natCast_mul, w64 _ (by omega), if_pos (by rw [Nat.mul_comm] at h1; omega), w64s i (by omega)]
    exact ih K (i + 1) (by omega) (by omega)
include k1 k2 hs hfull h2 h3 h4
theorem ref_sk : wrap64 ((k : Int) * (wrap64 ((k : Int) - 1))) = (s : Int) ∧ 2 ≤ s ∧ s ≤ 56 ∧ 2 ≤ full ∧ full ≤ 14336 := by
  have hs56 : s ≤ 56 := by rw [← hs]; exact Nat.mul_le_mul k2 (show k - 1 ≤ 7 by omega)
  have hs2 : 2 ≤ s := by rw [← hs]; exact Nat.mul_le_mul k1 (show 1 ≤ k - 1 by omega)
  have hf1 : s * p ≤ 56 * 256 := Nat.mul_le_mul hs56 h3
  have hf2 : 2 * 1 ≤ s * p := Nat.mul_le_mul hs2 h2
  have := h4
  refine ⟨?_, hs2, hs56, by omega, by omega⟩
  rw [show wrap64 ((k : Int) - 1) = ((k - 1 : Nat) : Int) by rw [wrap64_in _ (by omega) (by omega)]; omega, ← Int.natCast_mul, hs, w64 _ (by omega)]
/-- What the plan is. -/
def planR (L s full p : Nat) : Int × Int × Int × Int := if 32 < upq L full then (0, 0, 0, 29) else ((L : Int), ((upq L full : Nat) : Int), (((if 0 < L ∧ L < full then upq L s else p) : Nat) : Int), 0)
theorem l0_loop (d : Nat) : ∀ (K i : Nat), i + d = upq L full → 20000 + d ≤ K → coldframeref08_Of.l0 K k L p full i = some (planR L s full p) := by
  obtain ⟨hsk, hs2, hs56, hf2, hf1⟩ := ref_sk k s full L p k1 k2 hs hfull h2 h3 h4
  have hle := upq_le L full hf2
  have hles := upq_le L s hs2
  induction d with
  | zero =>
    intro K i hd hK
    obtain ⟨K, rfl⟩ : ∃ m, K = m + 1 := ⟨K - 1, by omega⟩
    simp only [coldframeref08_Of.l0]
    obtain rfl : i = upq L full := by omega
    have h1 : ¬ (upq L full) * full < L := fun h => by have := (upq_lt L full (upq L full) (by omega)).2 h; omega
    have hm : upq L full * full ≤ 16384 * 14336 := Nat.mul_le_mul (by omega) hf1
    rw [← Int.natCast_mul, w64 _ (by omega), if_neg (by omega)]
    unfold planR
    by_cases h5 : 32 < upq L full
    · rw [if_pos (by omega), if_pos h5]
    · rw [if_neg (by omega), if_neg h5]
      obtain ⟨K, rfl⟩ : ∃ m, K = m + 1 := ⟨K - 1, by omega⟩
      by_cases h6 : 0 < L
      · rw [if_pos (by omega)]
        by_cases h7 : L < full
        · rw [if_pos ⟨h6, h7⟩]
          simp only [coldframeref08_Of.j2]
          have hu : 0 < upq L s := (upq_lt L s 0 (by omega)).2 (by omega)
          rw [if_pos (by simpa using h7)]
          exact l1_loop k s L _ hs2 hs56 hsk h4 (upq L s - 1) K 1 (by omega) (by omega)
        · rw [if_neg (fun h => h7 h.2)]
          simp only [coldframeref08_Of.j2]
          rw [if_neg (by simpa using h7)]
      · rw [if_neg (by omega), if_neg (fun h => h6 h.1)]
        simp only [coldframeref08_Of.j2]
        rw [if_neg (by decide)]
  | succ d ih =>
    intro K i hd hK
    obtain ⟨K, rfl⟩ : ∃ m, K = m + 1 := ⟨K - 1, by omega⟩
    simp only [coldframeref08_Of.l0]
    have h1 : i * full < L := (upq_lt L full i (by omega)).1 (by omega)
    have hm : i * full ≤ 16384 * 14336 := Nat.mul_le_mul (by omega) hf1
    rw [← Int.natCast_mul, w64 _ (by omega), if_pos (by omega), w64s i (by omega)]
    exact ih K (i + 1) (by omega) (by omega)
theorem ref_of : coldframeref08_Of.f 60000 k L p = some (planR L s full p) := by
  obtain ⟨hsk, hs2, hs56, hf2, hf1⟩ := ref_sk k s full L p k1 k2 hs hfull h2 h3 h4
  have hle := upq_le L full hf2
  unfold coldframeref08_Of.f
  rw [if_neg (by omega), if_neg (by omega), show (60000 : Nat) = 59999 + 1 from rfl]
  simp only [coldframeref08_Of.j0]
  rw [if_neg (by simp; omega), if_neg (by omega), hsk, ← Int.natCast_mul, hfull, w64 _ (by omega)]
  exact l0_loop k s full L p k1 k2 hs hfull h2 h3 h4 (upq L full) 59999 0 (by omega) (by omega)
end
theorem j0_true (K : Nat) (a b c : Int) : coldframeref08_Of.j0 (K + 1) a b c true = some (0, 0, 0, 1) := by simp [coldframeref08_Of.j0]
theorem ref_arg (k L p : Int) (h : L < 0 ∨ (¬ L < 0 ∧ p < 1) ∨ (¬ L < 0 ∧ ¬ p < 1 ∧ 256 < p)) : coldframeref08_Of.f 60000 k L p = some (0, 0, 0, 1) := by
  unfold coldframeref08_Of.f
  rcases h with h1 | ⟨h1, h2⟩ | ⟨h1, h2, h3⟩
  · rw [if_pos h1]; exact j0_true 59999 _ _ _
  · rw [if_neg h1, if_pos h2]; exact j0_true 59999 _ _ _
  · rw [if_neg h1, if_neg h2, show decide (p > 256) = true by simp; omega]; exact j0_true 59999 _ _ _
theorem j0_long (K : Nat) (a b c : Int) (h : 16384 < b) : coldframeref08_Of.j0 (K + 1) a b c false = some (0, 0, 0, 29) := by
  simp only [coldframeref08_Of.j0]
  rw [if_neg (by decide), if_pos h]
theorem ref_long (k L p : Int) (h1 : ¬ L < 0) (h2 : ¬ p < 1) (h3 : ¬ 256 < p) (h4 : 16384 < L) : coldframeref08_Of.f 60000 k L p = some (0, 0, 0, 29) := by
  unfold coldframeref08_Of.f
  rw [if_neg h1, if_neg h2, show decide (p > 256) = false by simp; omega]
  exact j0_long 59999 _ _ _ h4
theorem eq_plan (d : Nat) (w : World) (x0 y0 x1 y1 x2 y2 : Int) : (Op.equalIn (d + 2) 29 (planV x0 x1 x2) (planV y0 y1 y2)).run Try.prog w = .ok (x0 == y0 && (x1 == y1 && x2 == y2)) w := by
  refine eqA_of Try.underlying29 (by kernel_rfl) ?_
  refine eqf_cons (by rfl) (by go_simp; rfl) (by go_simp; rfl) (by go_simp) ?_
  refine eqf_cons (by rfl) (by go_simp; rfl) (by go_simp; rfl) (by go_simp) ?_
  exact eqf_last (by rfl) (by go_simp; rfl) (by go_simp; rfl) (by go_simp)
theorem neq_plan (w : World) (a b c : Int) : (binOp .neq 29 (planV a b c) (planV a b c)).run Try.prog w = .ok (.bool false) w := by
  rw [run_neq_struct, eq_plan 9998]
  simp [Result.andThen]
set_option maxRecDepth 100000 in
theorem message_any (a c : Int) (p : Nat) (v : Value) (n k s r : Nat) (w : World) (h : IsCode w v n k) (h1 : 1 ≤ k) (h2 : k ≤ 8) (hs : k * (k - 1) = s) (hp : p ≤ 20000) (hr : s * p = r) :
    Calls Try.prog 13 #[planV a c p, v] w fun e w' => e = .returned (.int .i64 r) ∧ Below w.heap.size w w' := by
  have hs56 : s ≤ 56 := by rw [← hs]; exact Nat.mul_le_mul h2 (show k - 1 ≤ 7 by omega)
  have hm : s * p ≤ 56 * 20000 := Nat.mul_le_mul hs56 hp
  have e1 : IntKind.i64.wrap ((s : Int) * (p : Int)) = (r : Int) := by rw [← Int.natCast_mul, hr, IntWalk.i64_in _ (by omega)]
  have SY := Lib.hid (fun W hb => symbols_any _ n k s W (h.below hb) h1 (by omega) hs)
  clear hs56 hm hs hr hp h1 h2 h
  go_enter Try.func13, Try.ntmps13
  go_wp2
  go_quiet ((go_at_call 24; (with_reducible refine (SY.out _ (by repeat (first | exact Below.refl _ _ | apply pw_below_drewN | refine Below.alloc ?_ (by simp) _))).mono ?_); rintro e w1 ⟨rfl, rfl⟩; (first | exact ⟨rfl, 0, rfl⟩ | exact ⟨rfl, _, rfl⟩)))
  go_wp2
  go_ret
  exact ⟨rfl, by repeat (first | exact Below.refl _ _ | apply pw_below_drewN | refine Below.alloc ?_ (by simp) _)⟩
set_option maxRecDepth 100000 in
theorem shard_any (a c : Int) (p : Nat) (v : Value) (n k r : Nat) (w : World) (h : IsCode w v n k) (h1 : 1 ≤ k) (h2 : k ≤ 8) (hp : p ≤ 20000) (hr : (k - 1) * p = r) :
    Calls Try.prog 14 #[planV a c p, v] w fun e w' => e = .returned (.int .i64 r) ∧ Below w.heap.size w w' := by
  have hm : (k - 1) * p ≤ 7 * 20000 := Nat.mul_le_mul (by omega) hp
  have e1 : IntKind.i64.wrap (((k - 1 : Nat) : Int) * (p : Int)) = (r : Int) := by rw [← Int.natCast_mul, hr, IntWalk.i64_in _ (by omega)]
  have SY := Lib.hid (fun W hb => parts_any _ n k W (h.below hb) h1 (by omega))
  obtain ⟨q, hq⟩ : ∃ q, q = k - 1 := ⟨_, rfl⟩
  rw [← hq] at e1 SY
  clear hm hr hp h1 h2 h hq
  go_enter Try.func14, Try.ntmps14
  go_wp2
  go_quiet ((go_at_call 25; (with_reducible refine (SY.out _ (by repeat (first | exact Below.refl _ _ | apply pw_below_drewN | refine Below.alloc ?_ (by simp) _))).mono ?_); rintro e w1 ⟨rfl, rfl⟩; (first | exact ⟨rfl, 0, rfl⟩ | exact ⟨rfl, _, rfl⟩)))
  go_wp2
  go_ret
  exact ⟨rfl, by repeat (first | exact Below.refl _ _ | apply pw_below_drewN | refine Below.alloc ?_ (by simp) _)⟩

theorem right_f (n k : Int) (b : Bool) (h : decide (2 ≤ k ∧ k ≤ 8 ∧ 2 * k - 1 ≤ n ∧ n ≤ 24) = b) : coldframeref06_Right.f n k = some b := by
  subst h
  unfold coldframeref06_Right.f
  by_cases h1 : k ≥ 2
  · rw [if_pos h1]
    by_cases h2 : k ≤ 8
    · rw [if_pos h2, show wrap64 (2 * k) = 2 * k from wrap64_in _ (by omega) (by omega), show wrap64 (2 * k - 1) = 2 * k - 1 from wrap64_in _ (by omega) (by omega)]
      by_cases h3 : n ≥ 2 * k - 1
      · rw [if_pos h3]; congr 1; rw [decide_eq_decide]; omega
      · rw [if_neg h3]; congr 1; symm; rw [decide_eq_false_iff_not]; omega
    · rw [if_neg h2]; congr 1; symm; rw [decide_eq_false_iff_not]; omega
  · rw [if_neg h1]; congr 1; symm; rw [decide_eq_false_iff_not]; omega
theorem right_calls (n k : Int) (b : Bool) (w : World) (h : decide (2 ≤ k ∧ k ≤ 8 ∧ 2 * k - 1 ≤ n ∧ n ≤ 24) = b) :
    Calls Try.prog 7 #[.int .i64 n, .int .i64 k] w fun e w' => e = .returned (.bool b) ∧ Below w.heap.size w w' := by
  refine (coldframeref06_Right.calls n k b w (right_f n k b h)).mono ?_
  rintro e w' ⟨rfl, h⟩
  exact ⟨rfl, h.below⟩
set_option maxRecDepth 100000 in
theorem awake_calls (w : World) : Calls Try.prog 8 #[] w fun e w' => e = .returned (.bool true) ∧ Below w.heap.size w w' := by
  have HB := Lib.hid (Below.refl w.heap.size w)
  have NC : Hid (∀ W, Calls Try.prog 9 #[.int .i64 3, .int .i64 2] W fun e w' => ∃ v, e = .returned (.tuple #[v, .int .i64 0]) ∧ IsCode w' v 3 2 ∧ Below W.heap.size W w') := Lib.hid (fun W => new_code 3 2 W (by omega) (by omega) (by omega) (by omega))
  have OF : Hid (∀ b W, IsCode W (.pointer (some ⟨b, 0, none⟩)) 3 2 → Calls Try.prog 10 #[.pointer (some ⟨b, 0, none⟩), .int .i64 5, .int .i64 2] W fun e w' => e = planE 5 2 2 0 ∧ Below W.heap.size W w') := Lib.hid (fun b W hc => of_few b 3 2 2 4 5 2 W hc (by omega) (by omega) rfl rfl (by omega) (by omega) (by omega) (by decide) (by omega) (by omega))
  go_enter Try.func8, Try.ntmps8
  go_wp2_with (first
    | (go_at_call 9; (with_reducible refine (NC.out _).mono ?_); rintro e w1 ⟨v, rfl, hc, hb⟩; obtain ⟨b3, A3, c3, rfl, hblk⟩ := hc; have HC := Lib.hid (show IsCode w1 (.pointer (some ⟨b3, 0, none⟩)) 3 2 from ⟨b3, A3, c3, rfl, hblk⟩); clear hblk; have HBn := Lib.hid (HB.out.trans (hb.mono HB.out.size)); clear HB hb; have HB := HBn; clear HBn)
    | (go_at_call 10; (with_reducible refine (OF.out _ _ HC.out).mono ?_); rintro e w1 ⟨rfl, hb⟩; have HBn := Lib.hid (HB.out.trans (hb.mono HB.out.size)); clear HB hb; have HB := HBn; clear HBn))
  go_ret
  exact ⟨rfl, by repeat (first | exact HB.out | apply pw_below_drewN | refine Below.alloc ?_ (by first | exact HB.out.size | (simp; have := HB.out.size; omega)) _)⟩
theorem below_of_drew {w w' : World} (h : Below w.drew.heap.size w.drew w') : Below w.heap.size w w' := ⟨h.os, h.tape, h.output, h.size, h.block⟩
theorem IsCode.drew {w : World} {v : Value} {n k : Nat} (h : IsCode w v n k) : IsCode w.drew v n k := h
theorem IsCode.alloc {w : World} {v : Value} {n k : Nat} (h : IsCode w v n k) (o : Obj) : IsCode (w.alloc o) v n k := h.below ((Below.refl _ _).alloc (Nat.le_refl _) _)
theorem to_calls (a b c : Int) (w : World) : Calls Try.prog 12 #[planV a b c] w fun e w' => e = .returned (planV a b c) ∧ Below w.heap.size w w' :=
  coldframelaw08_to.calls a b c a b c w rfl
theorem refof_calls (k L p a b c e : Int) (w : World) (h : coldframeref08_Of.f 60000 k L p = some (a, b, c, e)) :
    Calls Try.prog 11 #[.int .i64 k, .int .i64 L, .int .i64 p] w fun e' w' => e' = planE a b c e ∧ Below w.heap.size w w' := coldframeref08_Of.calls 60000 k L p a b c e w h
def skipAll (ops : Array Oper) : List Oper → Act → Bool
  | [], _ => true
  | o :: r, a => !Region.wanted o (yielded ops a.tmps) && skipAll ops r (a.put o.dst undef)
/-- Operations that are not wanted, all at once. -/
theorem still_drop {P : Program} {ops : Array Oper} {w : World} {Q : Act → Prop} (n : Nat) : ∀ {l : List Oper} {a : Act}, skipAll ops (l.take n) a = true → wpStill P ops w Q (l.drop n) ((l.take n).foldl (fun a o => a.put o.dst undef) a) → wpStill P ops w Q l a := by
  induction n with
  | zero => intro l a _ hk; simpa using hk
  | succ n ih =>
    intro l a h hk
    cases l with
    | nil => simpa using hk
    | cons o r =>
      simp only [List.take_succ_cons, skipAll, Bool.and_eq_true, Bool.not_eq_true'] at h
      unfold wpStill
      rw [h.1]
      exact ih h.2 hk
theorem still_val {P : Program} {ops : Array Oper} {w : World} {Q : Act → Prop} {a : Act} {o : Oper} {rest : List Oper} {v : Value} (h : Region.wanted o (yielded ops a.tmps) = true) (hs : (execOp a.eval o).run P w = .ok (.value v) w) (hk : wpStill P ops w Q rest (a.put o.dst v)) : wpStill P ops w Q (o :: rest) a := by
  unfold wpStill
  rw [h, if_pos rfl]
  unfold Oper.still
  rw [hs]
  exact ⟨rfl, hk⟩
structure Bx (p : Prop) : Prop where out : p
section
variable {P : Program} {ops : Array Oper} {w : World} {Q : Act → Prop} {a : Act} {o : Oper} {rest : List Oper} {v : Value}
theorem bx_val (h : Region.wanted o (yielded ops a.tmps) = true) (hs : (execOp a.eval o).run P w = .ok (.value v) w) (hk : Bx (wpStill P ops w Q rest (a.put o.dst v))) : Bx (wpStill P ops w Q (o :: rest) a) := ⟨still_val h hs hk.out⟩
theorem bx_drop (n : Nat) {l : List Oper} (h : skipAll ops (l.take n) a = true) (hk : Bx (wpStill P ops w Q (l.drop n) ((l.take n).foldl (fun a o => a.put o.dst undef) a))) : Bx (wpStill P ops w Q l a) := ⟨still_drop n h hk.out⟩
theorem bx_nil (h : Q a) : Bx (wpStill P ops w Q [] a) := ⟨wpStill_nil h⟩
end
set_option maxRecDepth 100000 in
theorem plans_bad (n k L p : Int) (w : World) (h : ¬ (2 ≤ k ∧ k ≤ 8 ∧ 2 * k - 1 ≤ n ∧ n ≤ 24)) :
    Calls Try.prog 3 #[.int .i64 n, .int .i64 k, .int .i64 L, .int .i64 p] w fun e w' => e = .returned (.bool true) ∧ Below w.heap.size w w' := by
  have HB := Lib.hid (Below.refl w.heap.size w)
  have RR := Lib.hid (fun W => right_calls n k false W (decide_eq_false h))
  clear h
  go_enter Try.func3, Try.ntmps3
  go_wp2_with (first
    | (go_at_call 7; (with_reducible refine (RR.out _).mono ?_); rintro e w1 ⟨rfl, hb⟩; have HBn := Lib.hid (HB.out.trans (hb.mono HB.out.size)); clear HB hb; have HB := HBn; clear HBn)
    | (go_at_call 8; (with_reducible refine (awake_calls _).mono ?_); rintro e w1 ⟨rfl, hb⟩; have HBn := Lib.hid (HB.out.trans (hb.mono HB.out.size)); clear HB hb; have HB := HBn; clear HBn))
  go_ret
  exact ⟨rfl, HB.out⟩
set_option maxRecDepth 100000 in
set_option maxHeartbeats 1000000 in
theorem plans_err1 (n k : Nat) (L p : Int) (w : World) (h1 : 2 ≤ k) (h2 : k ≤ 8) (h3 : 2 * k - 1 ≤ n) (h4 : n ≤ 24)
    (hof : ∀ b W, IsCode W (.pointer (some ⟨b, 0, none⟩)) n k → Calls Try.prog 10 #[.pointer (some ⟨b, 0, none⟩), .int .i64 L, .int .i64 p] W fun e w' => e = planE 0 0 0 1 ∧ Below W.heap.size W w')
    (hrf : coldframeref08_Of.f 60000 k L p = some (0, 0, 0, 1)) :
    Calls Try.prog 3 #[.int .i64 n, .int .i64 k, .int .i64 L, .int .i64 p] w fun e w' => e = .returned (.bool true) ∧ Below w.heap.size w w' := by
  have HB := Lib.hid (Below.refl w.heap.size w)
  have RR := Lib.hid (fun W => right_calls n k true W (decide_eq_true ⟨by omega, by omega, by omega, by omega⟩))
  have NC := Lib.hid (fun W => new_code n k W h1 h2 h3 h4)
  have OF := Lib.hid hof
  have RF := Lib.hid (fun W => refof_calls k L p 0 0 0 1 W hrf)
  have nq := fun W => neq_plan W 0 0 0
  clear hof hrf h1 h2 h3 h4
  go_enter Try.func3, Try.ntmps3
  go_upto_region 7 with (first
                             | (go_at_call 7; (with_reducible refine (RR.out _).mono ?_); rintro e w1 ⟨rfl, hb⟩; have HBn := Lib.hid (HB.out.trans (hb.mono HB.out.size)); clear HB hb; have HB := HBn; clear HBn)
                             | (go_at_call 9; (with_reducible refine (NC.out _).mono ?_); rintro e w1 ⟨v, rfl, hc, hb⟩; obtain ⟨b3, A3, c3, rfl, hblk⟩ := hc; have HC := Lib.hid (show IsCode w1 (.pointer (some ⟨b3, 0, none⟩)) n k from ⟨b3, A3, c3, rfl, hblk⟩); clear hblk; have HBn := Lib.hid (HB.out.trans (hb.mono HB.out.size)); clear HB hb; have HB := HBn; clear HBn)
                             | (go_at_call 10; (with_reducible refine (OF.out _ _ HC.out).mono ?_); rintro e w4 ⟨rfl, hb⟩; have HCn := Lib.hid (HC.out.below hb); clear HC; have HC := HCn; clear HCn; have HBn := Lib.hid (HB.out.trans (hb.mono HB.out.size)); clear HB hb; have HB := HBn; clear HBn)
                             | (go_at_call 11; (with_reducible refine (RF.out _).mono ?_); rintro e w5 ⟨rfl, hb⟩; have H11 := Lib.hid (Blk.below (Blk.new _ _ _) hb (by simp)); have HCn := Lib.hid ((HC.out.alloc _).below hb); clear HC; have HC := HCn; clear HCn; have hb := ((Below.refl _ _).alloc (Nat.le_refl _) _).trans (hb.mono (by simp)); have HBn := Lib.hid (HB.out.trans (hb.mono HB.out.size)); clear HB hb; have HB := HBn; clear HBn)
                             | (go_at_call 10; (with_reducible refine (of_nil _ _ _).mono ?_); rintro e w6 ⟨rfl, hb⟩; have H13 := Lib.hid (Blk.below (Blk.new _ _ _) hb (by simp)); have H11n := Lib.hid ((H11.out.alloc _).below hb (H11.out.alloc _).lt); clear H11; have H11 := H11n; have HCn := Lib.hid ((HC.out.alloc _).below hb); clear HC; have HC := HCn; clear HCn H11n; have hb := ((Below.refl _ _).alloc (Nat.le_refl _) _).trans (hb.mono (by simp)); have HBn := Lib.hid (HB.out.trans (hb.mono HB.out.size)); clear HB hb; have HB := HBn; clear HBn))
  go_cut [58] (fun v wc => v = .bool false ∧ Hid (Blk wc w4.heap.size 29 #[.int .i64 0, .int .i64 0, .int .i64 0]) ∧ Hid (Blk wc w5.heap.size 32 #[.int .i64 0, .int .i64 0, .int .i64 0]) ∧ Hid (IsCode wc (.pointer (some ⟨b3, 0, none⟩)) n k) ∧ Hid (Below w.heap.size w wc))
  case first =>
    have A11 := Lib.hid (H11.out.alloc (.cells #[.int .i64 0, .int .i64 0, .int .i64 0] 29))
    have A13 := Lib.hid (H13.out.alloc (.cells #[.int .i64 0, .int .i64 0, .int .i64 0] 29))
    have AC := Lib.hid (HC.out.alloc (.cells #[.int .i64 0, .int .i64 0, .int .i64 0] 29))
    have AB := Lib.hid (HB.out.alloc HB.out.size (.cells #[.int .i64 0, .int .i64 0, .int .i64 0] 29))
    clear H11 H13 HC HB
    obtain ⟨W, hW⟩ : ∃ W, W = w6.alloc (.cells #[.int .i64 0, .int .i64 0, .int .i64 0] 29) := ⟨_, rfl⟩
    rw [← hW] at A11 A13 AC AB ⊢
    clear hW
    have c0 := (A11.out.cell 0).trans rfl
    have c1 := (A11.out.cell 1).trans rfl
    have c2 := (A11.out.cell 2).trans rfl
    have d0 := (A13.out.cell 0).trans rfl
    have d1 := (A13.out.cell 1).trans rfl
    have d2 := (A13.out.cell 2).trans rfl
    simp at c0 c1 c2 d0 d1 d2
    go_region_held3 (fun W => W.cell? ⟨w4.heap.size, 0, none⟩ = some (.int .i64 0) ∧ W.cell? ⟨w4.heap.size, 1, none⟩ = some (.int .i64 0) ∧ W.cell? ⟨w4.heap.size, 2, none⟩ = some (.int .i64 0) ∧ W.cell? ⟨w5.heap.size, 0, none⟩ = some (.int .i64 0) ∧ W.cell? ⟨w5.heap.size, 1, none⟩ = some (.int .i64 0) ∧ W.cell? ⟨w5.heap.size, 2, none⟩ = some (.int .i64 0)) (go_keep)
      ((go_at_call 12; (with_reducible refine (to_calls _ _ _ _).mono ?_); rintro e w8 ⟨rfl, hb⟩; have hb := Lib.hid (show Below W.heap.size W w8 from by first | exact below_of_drew hb | exact hb); have c0n := (hb.out.cell (p := ⟨w4.heap.size, 0, none⟩) A11.out.lt).trans c0; have c1n := (hb.out.cell (p := ⟨w4.heap.size, 1, none⟩) A11.out.lt).trans c1; have c2n := (hb.out.cell (p := ⟨w4.heap.size, 2, none⟩) A11.out.lt).trans c2; have d0n := (hb.out.cell (p := ⟨w5.heap.size, 0, none⟩) A13.out.lt).trans d0; have d1n := (hb.out.cell (p := ⟨w5.heap.size, 1, none⟩) A13.out.lt).trans d1; have d2n := (hb.out.cell (p := ⟨w5.heap.size, 2, none⟩) A13.out.lt).trans d2))
    all_goals
      go_wp2
      go_meet
      case rel => exact ⟨rfl, Lib.hid (A11.out.below hb.out A11.out.lt), Lib.hid (A13.out.below hb.out A13.out.lt), Lib.hid (AC.out.below hb.out), Lib.hid (AB.out.trans (hb.out.mono AB.out.size))⟩
  case rest =>
    clear H11 H13 HC HB
    obtain ⟨rfl, H11, H13, HC, HB⟩ := hcut
    go_upto_region 9 with (fail)
    refine wp_region_still_tail 27 (by kernel_rfl) (by kernel_rfl) ?_
    change wpStill _ _ (wc.drewN 1) (fun a' => wpList _ _ _ _ a' (wc.drewN 1)) _ _
    simp only [List.take_succ_cons, List.take_zero, List.drop_succ_cons, List.drop_zero]
    refine Bx.out ?_
    refine bx_val (v := .int .i64 1) (by kernel_rfl) (by go_simp) ?_
    refine bx_val (v := .bool true) (by kernel_rfl) (by go_simp) ?_
    refine bx_val (v := .bool true) (by kernel_rfl) (by go_simp) ?_
    refine bx_drop 22 (by kernel_rfl) ?_
    simp only [List.take_succ_cons, List.take_zero, List.drop_succ_cons, List.drop_zero, List.foldl_cons, List.foldl_nil, Act.put, List.setIfInBounds_toArray, List.set_cons_zero, List.set_cons_succ]
    refine bx_val (v := .bool true) (by kernel_rfl) (by go_simp) ?_
    refine bx_val (v := .bool true) (by kernel_rfl) (by go_simp) ?_
    refine bx_nil ?_
    have HBd := Lib.hid (pw_below_drewN HB.out 1)
    clear HB
    have HB := HBd
    clear HBd
    go_wp2_with (go_at_call 8; (with_reducible refine (awake_calls _).mono ?_); rintro e w1 ⟨rfl, hb⟩; have HBn := Lib.hid (HB.out.trans (hb.mono HB.out.size)); clear HB hb; have HB := HBn; clear HBn)
    go_ret
    exact ⟨rfl, HB.out⟩
end Go.Proofs.Ytjoblpkfpfclpaa.Str
