/- Plans: the reference's, alike; Message and Shard. -/
import Derived.Test.YtjoblpkfpfclpaaProg
import Derived.Below
import Derived.Deep.Draws
import Derived.Deep.AppendLies
import Derived.Maps.AppendAt
import Derived.OwnWalk
import Derived.Laws.BytesArg
import Derived.Laws.MakeOwn
import Derived.Laws.OwnMore
import Derived.Deep.OwnRows
import Derived.Tactics
import Derived.Lib.ConvBytes
import Derived.Laws.Slices
import Derived.WalkKit
import Derived.KernelRfl
import Derived.RowKit3
import Derived.Deep.LoopGhost
import Derived.Deep.QuietTactic
import Derived.BigQuiet
import Derived.WideLaws
import Derived.Deep.DeepCutAuto
import Derived.Deep.CutBlock
import Derived.Deep.RegionHeld3
import Derived.Laws.Rows
import Derived.Lib.AppendStr
import Derived.ArgAppend
import Derived.Laws.IdiomCopy
import Derived.OrdersHeld
import Derived.Laws.BitsLemmas
import Derived.RowKit
import Derived.Lib.Hide
import Derived.WalkSpells
import Derived.Outline
import Derived.Laws.StructEq
import Derived.Test.YtjoblpkfpfclpaaWEqStruct
import Derived.Test.YtjoblpkfpfclpaaBStripePlansStripe2
namespace Go.Proofs.Ytjoblpkfpfclpaa.Str
open Go Go.RowKit Go.Proofs.Ytjoblpkfpfclpaa.PStripePlans Go.Proofs.Ytjoblpkfpfclpaa.BStripePlans Go.Proofs.Ytjoblpkfpfclpaa.Gf Go.Proofs.Ytjoblpkfpfclpaa.Bits Go.Proofs.Ytjoblpkfpfclpaa.Mem Go.Proofs.Ytjoblpkfpfclpaa.VPts Go.Proofs.YtjoblpkfpfclpaaW.PrintWords Go.Proofs.YtjoblpkfpfclpaaW.PrintLast
set_option linter.unusedVariables false

theorem upq_lt (L s i : Nat) (hs : 1 ≤ s) : i < upq L s ↔ i * s < L := by
  unfold upq
  rw [Nat.lt_iff_add_one_le, Nat.le_div_iff_mul_le (by omega), Nat.add_mul, Nat.one_mul]
  omega
theorem upq_le (L s : Nat) (hs : 2 ≤ s) : upq L s ≤ L := by
  rcases Nat.lt_or_ge L (upq L s) with h | h
  · have := (upq_lt L s L (by omega)).1 h
    have h2 : L * 1 ≤ L * s := Nat.mul_le_mul_left L (by omega)
    omega
  · exact h
theorem w64 (i : Nat) (h : i < 1000000000) : wrap64 (i : Int) = (i : Int) := wrap64_in _ (by omega) (by omega)
theorem w64s (i : Nat) (h : i < 1000000) : wrap64 ((i : Int) + 1) = ((i + 1 : Nat) : Int) := by rw [wrap64_in _ (by omega) (by omega)]; omega
section
variable (k s full L p : Nat) (k1 : 2 ≤ k) (k2 : k ≤ 8) (hs : k * (k - 1) = s) (hfull : s * p = full) (h2 : 1 ≤ p) (h3 : p ≤ 256) (h4 : L ≤ 16384)
theorem l1_loop (q : Int) (hs2 : 2 ≤ s) (hs56 : s ≤ 56) (hsk : wrap64 ((k : Int) * (wrap64 ((k : Int) - 1))) = (s : Int)) (h4 : L ≤ 16384) (d : Nat) : ∀ (K i : Nat), i + d = upq L s → d < K → coldframeref08_Of.l1 K k L q i = some ((L : Int), q, ((upq L s : Nat) : Int), 0) := by
  have hle := upq_le L s hs2
  induction d with
  | zero =>
    intro K i hd hK
    obtain ⟨K, rfl⟩ : ∃ m, K = m + 1 := ⟨K - 1, by omega⟩
    simp only [coldframeref08_Of.l1]
    obtain rfl : i = upq L s := by omega
    have h1 : ¬ (upq L s) * s < L := fun h => by have := (upq_lt L s (upq L s) (by omega)).2 h; omega
    have hm : s * upq L s ≤ 56 * 16384 := Nat.mul_le_mul hs56 (by omega)
    rw [hsk, ← Int.natCast_mul, w64 _ (by omega), if_neg (by rw [Nat.mul_comm] at h1; omega)]
  | succ d ih =>
    intro K i hd hK
    obtain ⟨K, rfl⟩ : ∃ m, K = m + 1 := ⟨K - 1, by omega⟩
    simp only [coldframeref08_Of.l1]
    have h1 : i * s < L := (upq_lt L s i (by omega)).1 (by omega)
    have hm : s * i ≤ 56 * 16384 := Nat.mul_le_mul hs56 (by omega)
    rw [hsk, ← Int.natCast_mul, w64 _ (by omega), if_pos (by rw [Nat.mul_comm] at h1; omega), w64s i (by omega)]
    exact ih K (i + 1) (by omega) (by omega)
include k1 k2 hs hfull h2 h3 h4
theorem ref_sk : wrap64 ((k : Int) * (wrap64 ((k : Int) - 1))) = (s : Int) ∧ 2 ≤ s ∧ s ≤ 56 ∧ 2 ≤ full ∧ full ≤ 14336 := by
  have hs56 : s ≤ 56 := by rw [← hs]; exact Nat.mul_le_mul k2 (show k - 1 ≤ 7 by omega)
  have hs2 : 2 ≤ s := by rw [← hs]; exact Nat.mul_le_mul k1 (show 1 ≤ k - 1 by omega)
  have hf1 : s * p ≤ 56 * 256 := Nat.mul_le_mul hs56 h3
  have hf2 : 2 * 1 ≤ s * p := Nat.mul_le_mul hs2 h2
  have := h4
  refine ⟨?_, hs2, hs56, by omega, by omega⟩
  rw [show wrap64 ((k : Int) - 1) = ((k - 1 : Nat) : Int) by rw [wrap64_in _ (by omega) (by omega)]; omega, ← Int.natCast_mul, hs, w64 _ (by omega)]
/-- What the plan is. -/
def planR (L s full p : Nat) : Int × Int × Int × Int := if 32 < upq L full then (0, 0, 0, 29) else ((L : Int), ((upq L full : Nat) : Int), (((if 0 < L ∧ L < full then upq L s else p) : Nat) : Int), 0)
theorem l0_loop (d : Nat) : ∀ (K i : Nat), i + d = upq L full → 20000 + d ≤ K → coldframeref08_Of.l0 K k L p full i = some (planR L s full p) := by
  obtain ⟨hsk, hs2, hs56, hf2, hf1⟩ := ref_sk k s full L p k1 k2 hs hfull h2 h3 h4
  have hle := upq_le L full hf2
  have hles := upq_le L s hs2
  induction d with
  | zero =>
    intro K i hd hK
    obtain ⟨K, rfl⟩ : ∃ m, K = m + 1 := ⟨K - 1, by omega⟩
    simp only [coldframeref08_Of.l0]
    obtain rfl : i = upq L full := by omega
    have h1 : ¬ (upq L full) * full < L := fun h => by have := (upq_lt L full (upq L full) (by omega)).2 h; omega
    have hm : upq L full * full ≤ 16384 * 14336 := Nat.mul_le_mul (by omega) hf1
    rw [← Int.natCast_mul, w64 _ (by omega), if_neg (by omega)]
    unfold planR
    by_cases h5 : 32 < upq L full
    · rw [if_pos (by omega), if_pos h5]
    · rw [if_neg (by omega), if_neg h5]
      obtain ⟨K, rfl⟩ : ∃ m, K = m + 1 := ⟨K - 1, by omega⟩
      by_cases h6 : 0 < L
      · rw [if_pos (by omega)]
        by_cases h7 : L < full
        · rw [if_pos ⟨h6, h7⟩]
          simp only [coldframeref08_Of.j2]
          have hu : 0 < upq L s := (upq_lt L s 0 (by omega)).2 (by omega)
          rw [if_pos (by simpa using h7)]
          exact l1_loop k s L _ hs2 hs56 hsk h4 (upq L s - 1) K 1 (by omega) (by omega)
        · rw [if_neg (fun h => h7 h.2)]
          simp only [coldframeref08_Of.j2]
          rw [if_neg (by simpa using h7)]
      · rw [if_neg (by omega), if_neg (fun h => h6 h.1)]
        simp only [coldframeref08_Of.j2]
        rw [if_neg (by decide)]
  | succ d ih =>
    intro K i hd hK
    obtain ⟨K, rfl⟩ : ∃ m, K = m + 1 := ⟨K - 1, by omega⟩
    simp only [coldframeref08_Of.l0]
    have h1 : i * full < L := (upq_lt L full i (by omega)).1 (by omega)
    have hm : i * full ≤ 16384 * 14336 := Nat.mul_le_mul (by omega) hf1
    rw [← Int.natCast_mul, w64 _ (by omega), if_pos (by omega), w64s i (by omega)]
    exact ih K (i + 1) (by omega) (by omega)
theorem ref_of : coldframeref08_Of.f 60000 k L p = some (planR L s full p) := by
  obtain ⟨hsk, hs2, hs56, hf2, hf1⟩ := ref_sk k s full L p k1 k2 hs hfull h2 h3 h4
  have hle := upq_le L full hf2
  unfold coldframeref08_Of.f
  rw [if_neg (by omega), if_neg (by omega), show (60000 : Nat) = 59999 + 1 from rfl]
  simp only [coldframeref08_Of.j0]
  rw [if_neg (by simp; omega), if_neg (by omega), hsk, ← Int.natCast_mul, hfull, w64 _ (by omega)]
  exact l0_loop k s full L p k1 k2 hs hfull h2 h3 h4 (upq L full) 59999 0 (by omega) (by omega)
end
theorem j0_true (K : Nat) (a b c : Int) : coldframeref08_Of.j0 (K + 1) a b c true = some (0, 0, 0, 1) := by simp [coldframeref08_Of.j0]
theorem ref_arg (k L p : Int) (h : L < 0 ∨ (¬ L < 0 ∧ p < 1) ∨ (¬ L < 0 ∧ ¬ p < 1 ∧ 256 < p)) : coldframeref08_Of.f 60000 k L p = some (0, 0, 0, 1) := by
  unfold coldframeref08_Of.f
  rcases h with h1 | ⟨h1, h2⟩ | ⟨h1, h2, h3⟩
  · rw [if_pos h1]; exact j0_true 59999 _ _ _
  · rw [if_neg h1, if_pos h2]; exact j0_true 59999 _ _ _
  · rw [if_neg h1, if_neg h2, show decide (p > 256) = true by simp; omega]; exact j0_true 59999 _ _ _
theorem j0_long (K : Nat) (a b c : Int) (h : 16384 < b) : coldframeref08_Of.j0 (K + 1) a b c false = some (0, 0, 0, 29) := by
  simp only [coldframeref08_Of.j0]
  rw [if_neg (by decide), if_pos h]
theorem ref_long (k L p : Int) (h1 : ¬ L < 0) (h2 : ¬ p < 1) (h3 : ¬ 256 < p) (h4 : 16384 < L) : coldframeref08_Of.f 60000 k L p = some (0, 0, 0, 29) := by
  unfold coldframeref08_Of.f
  rw [if_neg h1, if_neg h2, show decide (p > 256) = false by simp; omega]
  exact j0_long 59999 _ _ _ h4
theorem eq_plan (d : Nat) (w : World) (x0 y0 x1 y1 x2 y2 : Int) : (Op.equalIn (d + 2) 29 (planV x0 x1 x2) (planV y0 y1 y2)).run Try.prog w = .ok (x0 == y0 && (x1 == y1 && x2 == y2)) w := by
  refine eqA_of Try.underlying29 (by kernel_rfl) ?_
  refine eqf_cons (by rfl) (by go_simp; rfl) (by go_simp; rfl) (by go_simp) ?_
  refine eqf_cons (by rfl) (by go_simp; rfl) (by go_simp; rfl) (by go_simp) ?_
  exact eqf_last (by rfl) (by go_simp; rfl) (by go_simp; rfl) (by go_simp)
theorem neq_plan (w : World) (a b c : Int) : (binOp .neq 29 (planV a b c) (planV a b c)).run Try.prog w = .ok (.bool false) w := by
  rw [run_neq_struct, eq_plan 9998]
  simp [Result.andThen]
set_option maxRecDepth 100000 in
theorem message_any (a c : Int) (p : Nat) (v : Value) (n k s r : Nat) (w : World) (h : IsCode w v n k) (h1 : 1 ≤ k) (h2 : k ≤ 8) (hs : k * (k - 1) = s) (hp : p ≤ 20000) (hr : s * p = r) :
    Calls Try.prog 13 #[planV a c p, v] w fun e w' => e = .returned (.int .i64 r) ∧ Below w.heap.size w w' := by
  have hs56 : s ≤ 56 := by rw [← hs]; exact Nat.mul_le_mul h2 (show k - 1 ≤ 7 by omega)
  have hm : s * p ≤ 56 * 20000 := Nat.mul_le_mul hs56 hp
  have e1 : IntKind.i64.wrap ((s : Int) * (p : Int)) = (r : Int) := by rw [← Int.natCast_mul, hr, IntWalk.i64_in _ (by omega)]
  have SY := Lib.hid (fun W hb => symbols_any _ n k s W (h.below hb) h1 (by omega) hs)
  clear hs56 hm hs hr hp h1 h2 h
  go_enter Try.func13, Try.ntmps13
  go_wp2
  go_quiet ((go_at_call 24; (with_reducible refine (SY.out _ (by repeat (first | exact Below.refl _ _ | apply pw_below_drewN | refine Below.alloc ?_ (by simp) _))).mono ?_); rintro e w1 ⟨rfl, rfl⟩; (first | exact ⟨rfl, 0, rfl⟩ | exact ⟨rfl, _, rfl⟩)))
  go_wp2
  go_ret
  exact ⟨rfl, by repeat (first | exact Below.refl _ _ | apply pw_below_drewN | refine Below.alloc ?_ (by simp) _)⟩
set_option maxRecDepth 100000 in
theorem shard_any (a c : Int) (p : Nat) (v : Value) (n k r : Nat) (w : World) (h : IsCode w v n k) (h1 : 1 ≤ k) (h2 : k ≤ 8) (hp : p ≤ 20000) (hr : (k - 1) * p = r) :
    Calls Try.prog 14 #[planV a c p, v] w fun e w' => e = .returned (.int .i64 r) ∧ Below w.heap.size w w' := by
  have hm : (k - 1) * p ≤ 7 * 20000 := Nat.mul_le_mul (by omega) hp
  have e1 : IntKind.i64.wrap (((k - 1 : Nat) : Int) * (p : Int)) = (r : Int) := by rw [← Int.natCast_mul, hr, IntWalk.i64_in _ (by omega)]
  have SY := Lib.hid (fun W hb => parts_any _ n k W (h.below hb) h1 (by omega))
  obtain ⟨q, hq⟩ : ∃ q, q = k - 1 := ⟨_, rfl⟩
  rw [← hq] at e1 SY
  clear hm hr hp h1 h2 h hq
  go_enter Try.func14, Try.ntmps14
  go_wp2
  go_quiet ((go_at_call 25; (with_reducible refine (SY.out _ (by repeat (first | exact Below.refl _ _ | apply pw_below_drewN | refine Below.alloc ?_ (by simp) _))).mono ?_); rintro e w1 ⟨rfl, rfl⟩; (first | exact ⟨rfl, 0, rfl⟩ | exact ⟨rfl, _, rfl⟩)))
  go_wp2
  go_ret
  exact ⟨rfl, by repeat (first | exact Below.refl _ _ | apply pw_below_drewN | refine Below.alloc ?_ (by simp) _)⟩
end Go.Proofs.Ytjoblpkfpfclpaa.Str
