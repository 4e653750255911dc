/- StripeCuts: Cut refused, small codes, and the facts of plans. -/
import Derived.Test.YtjoblpkfpfclpaaProg
import Derived.Below
import Derived.Deep.Draws
import Derived.Deep.AppendLies
import Derived.Maps.AppendAt
import Derived.OwnWalk
import Derived.Laws.BytesArg
import Derived.Laws.MakeOwn
import Derived.Laws.OwnMore
import Derived.Deep.OwnRows
import Derived.Tactics
import Derived.Lib.ConvBytes
import Derived.Laws.Slices
import Derived.WalkKit
import Derived.KernelRfl
import Derived.RowKit3
import Derived.Deep.LoopGhost
import Derived.Deep.QuietTactic
import Derived.BigQuiet
import Derived.WideLaws
import Derived.Deep.DeepCutAuto
import Derived.Deep.CutBlock
import Derived.Deep.RegionHeld3
import Derived.Laws.Rows
import Derived.Lib.AppendStr
import Derived.ArgAppend
import Derived.Laws.IdiomCopy
import Derived.OrdersHeld
import Derived.Laws.BitsLemmas
import Derived.RowKit
import Derived.Lib.Hide
import Derived.WalkSpells
import Derived.StillTailTactics
import Derived.Outline
import Derived.Test.YtjoblpkfpfclpaaSame8
import Derived.Test.YtjoblpkfpfclpaaBStripePlansCuts5
namespace Go.Proofs.Ytjoblpkfpfclpaa.Str
open Go Go.RowKit Go.Proofs.Ytjoblpkfpfclpaa.Gf Go.Proofs.Ytjoblpkfpfclpaa.Bits Go.Proofs.Ytjoblpkfpfclpaa.Mem Go.Proofs.Ytjoblpkfpfclpaa.Rws Go.Proofs.YtjoblpkfpfclpaaW.PrintWords Go.Proofs.YtjoblpkfpfclpaaW.PrintLast
set_option linter.unusedVariables false

set_option maxRecDepth 100000 in
theorem cut_bad (n k : Nat) (v : Value) (a b p : Int) (A : Option Addr) (m c : Nat) (w : World) (hc : IsCode w v n k) (h : ¬ (m : Int) = a ∨ p < 1) :
    Calls Try.prog 16 #[v, planV a b p, .slice A m c] w fun e w' => e = .returned (.tuple #[.slice none 0 0, .int .i64 1]) ∧ Below w.heap.size w w' := by
  unfold planV
  obtain ⟨W1, hW1⟩ : ∃ W1, W1 = w.alloc (.cells #[.int .i64 a, .int .i64 b, .int .i64 p] 29) := ⟨_, rfl⟩
  have hb1 : Below w.heap.size w W1 := by rw [hW1]; exact (Below.refl _ _).alloc (Nat.le_refl _) _
  have hblk : Blk W1 w.heap.size 29 #[.int .i64 a, .int .i64 b, .int .i64 p] := by rw [hW1]; exact Blk.new _ _ _
  have y0 : W1.cell? ⟨w.heap.size, 0, none⟩ = some (.int .i64 a) := (hblk.cell 0).trans rfl
  have y2 : W1.cell? ⟨w.heap.size, 2, none⟩ = some (.int .i64 p) := (hblk.cell 2).trans rfl
  have HW1 := Lib.hid hW1
  have HB1 := Lib.hid hb1
  obtain ⟨b0, A0, c00, rfl, _⟩ := hc
  by_cases h1 : (m : Int) = a
  · have h2 : p < 1 := h.resolve_left (fun q => q h1)
    have e1 : ((m : Int) != a) = false := by simp [h1]
    have e2 : decide (p < 1) = true := by simp; omega
    subst h1
    clear hW1 hb1 hblk h
    go_enter Try.func16, Try.ntmps16
    go_upto_region 1 with (fail)
    rw [← HW1.out]
    go_wp2
    go_ret2
    exact ⟨rfl, HB1.out⟩
  · have e1 : ((m : Int) != a) = true := by simp [h1]
    clear hW1 hb1 hblk h
    go_enter Try.func16, Try.ntmps16
    go_upto_region 1 with (fail)
    rw [← HW1.out]
    go_wp2
    go_ret2
    exact ⟨rfl, HB1.out⟩
set_option maxRecDepth 100000 in
theorem small_yes (n k : Nat) (w : World) (h1 : 2 ≤ k) (h2 : k ≤ 4) (h3 : 2 * k - 1 ≤ n) (h4 : n ≤ 12) :
    Calls Try.prog 15 #[.int .i64 n, .int .i64 k] w fun e w' => e = .returned (.bool true) ∧ Below w.heap.size w w' := by
  have RC := Lib.hid (right_calls n k true w (by simp; omega))
  have e1 : (n : Int) ≤ 12 := by omega
  have e2 : (k : Int) ≤ 4 := by omega
  clear h1 h2 h3 h4
  go_enter Try.func15, Try.ntmps15
  go_wp2_with (go_at_call 7; (with_reducible refine RC.out.mono ?_); rintro e w1 ⟨rfl, hb⟩; have HB := Lib.hid hb; clear hb)
  go_ret
  exact ⟨by simp, HB.out⟩
set_option maxRecDepth 100000 in
theorem small_no (n k : Int) (w : World) (h : ¬ (2 ≤ k ∧ k ≤ 4 ∧ 2 * k - 1 ≤ n ∧ n ≤ 12)) :
    Calls Try.prog 15 #[.int .i64 n, .int .i64 k] w fun e w' => e = .returned (.bool false) ∧ Below w.heap.size w w' := by
  by_cases hr : 2 ≤ k ∧ k ≤ 8 ∧ 2 * k - 1 ≤ n ∧ n ≤ 24
  · have RC := Lib.hid (right_calls n k true w (by simp; omega))
    by_cases e1 : n ≤ 12
    · have e2 : ¬ k ≤ 4 := by omega
      have e3 : decide (k ≤ 4) = false := by simp; omega
      clear h hr
      go_enter Try.func15, Try.ntmps15
      go_wp2_with (go_at_call 7; (with_reducible refine RC.out.mono ?_); rintro e w1 ⟨rfl, hb⟩; have HB := Lib.hid hb; clear hb)
      go_ret
      exact ⟨by simp, HB.out⟩
    · have e3 : decide (n ≤ 12) = false := by simp; omega
      clear h hr
      go_enter Try.func15, Try.ntmps15
      go_wp2_with (go_at_call 7; (with_reducible refine RC.out.mono ?_); rintro e w1 ⟨rfl, hb⟩; have HB := Lib.hid hb; clear hb)
      go_ret
      exact ⟨by simp, HB.out⟩
  · have RC := Lib.hid (right_calls n k false w (by simp; omega))
    clear h hr
    go_enter Try.func15, Try.ntmps15
    go_wp2_with (go_at_call 7; (with_reducible refine RC.out.mono ?_); rintro e w1 ⟨rfl, hb⟩; have HB := Lib.hid hb; clear hb)
    go_ret
    exact ⟨by simp, HB.out⟩
/-- A plan's count is how many stripes there are. -/
theorem plan_count (L s p full : Nat) (hs : 2 ≤ s) (hfull : s * p = full) (hp : 1 ≤ p) (q : Nat) (hq : q = if 0 < L ∧ L < full then upq L s else p) :
    (L ≤ upq L full * (s * q)) ∧ (∀ i, i < upq L full → i * (s * q) < L) ∧ 1 ≤ s * q := by
  have hf : 1 ≤ full := by rw [← hfull]; exact Nat.mul_pos (by omega) (by omega)
  have hge : ∀ t, 1 ≤ t → L ≤ upq L t * t := by
    intro t ht
    rcases Nat.lt_or_ge (upq L t * t) L with h | h
    · exact absurd ((upq_lt L t (upq L t) ht).2 h) (Nat.lt_irrefl _)
    · exact h
  by_cases h : 0 < L ∧ L < full
  · rw [if_pos h] at hq
    have hu1 : upq L full = 1 := by
      have h1 : 0 < upq L full := (upq_lt L full 0 hf).2 (by omega)
      have h2 : ¬ 1 < upq L full := fun q => by have := (upq_lt L full 1 hf).1 q; omega
      omega
    have hq1 := hge s (by omega)
    have hq0 : 0 < upq L s := (upq_lt L s 0 (by omega)).2 (by omega)
    rw [hu1, hq, Nat.one_mul, Nat.mul_comm s]
    refine ⟨hq1, fun i hi => ?_, Nat.mul_pos hq0 (by omega)⟩
    have : i = 0 := by omega
    subst this
    omega
  · rw [if_neg h] at hq
    rw [hq, hfull]
    exact ⟨hge full hf, fun i hi => (upq_lt L full i hf).1 hi, hf⟩
end Go.Proofs.Ytjoblpkfpfclpaa.Str
