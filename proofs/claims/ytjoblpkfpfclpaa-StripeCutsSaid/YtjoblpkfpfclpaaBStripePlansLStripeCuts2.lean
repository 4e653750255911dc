/- The law StripeCuts: where it only tells that it is awake. -/
import Derived.Test.YtjoblpkfpfclpaaProg
import Derived.Below
import Derived.Deep.Draws
import Derived.Deep.AppendLies
import Derived.Maps.AppendAt
import Derived.OwnWalk
import Derived.Laws.BytesArg
import Derived.Laws.MakeOwn
import Derived.Laws.OwnMore
import Derived.Deep.OwnRows
import Derived.Tactics
import Derived.Lib.ConvBytes
import Derived.Laws.Slices
import Derived.WalkKit
import Derived.KernelRfl
import Derived.RowKit3
import Derived.Deep.LoopGhost
import Derived.Deep.QuietTactic
import Derived.BigQuiet
import Derived.WideLaws
import Derived.Deep.DeepCutAuto
import Derived.Deep.CutBlock
import Derived.Deep.RegionHeld3
import Derived.Laws.Rows
import Derived.Lib.AppendStr
import Derived.ArgAppend
import Derived.Laws.IdiomCopy
import Derived.OrdersHeld
import Derived.Laws.BitsLemmas
import Derived.RowKit
import Derived.Lib.Hide
import Derived.WalkSpells
import Derived.StillTailTactics
import Derived.Outline
import Derived.Test.YtjoblpkfpfclpaaBStripePlansLStripeCuts
namespace Go.Proofs.Ytjoblpkfpfclpaa.Str
open Go Go.RowKit Go.Proofs.Ytjoblpkfpfclpaa.PStripePlans Go.Proofs.Ytjoblpkfpfclpaa.Gf Go.Proofs.Ytjoblpkfpfclpaa.Bits Go.Proofs.Ytjoblpkfpfclpaa.Mem Go.Proofs.Ytjoblpkfpfclpaa.Rws Go.Proofs.YtjoblpkfpfclpaaW.PrintWords Go.Proofs.YtjoblpkfpfclpaaW.PrintLast
set_option linter.unusedVariables false

set_option maxRecDepth 100000 in
theorem cuts_no (n k p L1 : Int) (A1 : Option Addr) (m1 c1 : Nat) (A2 : Option Addr) (N c2 : Nat) (w : World) (h : ¬ (2 ≤ k ∧ k ≤ 4 ∧ 2 * k - 1 ≤ n ∧ n ≤ 12)) :
    Calls Try.prog 4 #[.int .i64 n, .int .i64 k, .int .i64 p, .slice A1 m1 c1, .slice A2 N c2, .int .i64 L1] w fun e w' => e = .returned (.bool true) ∧ Below w.heap.size w w' := by
  have SM := Lib.hid (small_no n k w h)
  have AW := Lib.hid awake_calls
  clear h
  go_enter Try.func4, Try.ntmps4
  go_wp2_with (first | (go_at_call 15; (with_reducible refine SM.out.mono ?_); rintro e w1 ⟨rfl, hb⟩; have HB1 := Lib.hid hb; clear hb) | (go_at_call 8; (with_reducible refine (AW.out _).mono ?_); rintro e w9 ⟨rfl, hb⟩; have HB9 := Lib.hid (HB1.out.trans (hb.mono HB1.out.size)); clear hb))
  go_ret
  exact ⟨rfl, HB9.out⟩
set_option maxRecDepth 100000 in
theorem cuts_big (n k : Nat) (p L1 : Int) (A1 : Option Addr) (m1 c1 : Nat) (A2 : Option Addr) (N c2 : Nat) (w : World) (k1 : 2 ≤ k) (k2 : k ≤ 4) (n1 : 2 * k - 1 ≤ n) (n2 : n ≤ 12) (h : 400 < m1 ∨ 40 < N) :
    Calls Try.prog 4 #[.int .i64 n, .int .i64 k, .int .i64 p, .slice A1 m1 c1, .slice A2 N c2, .int .i64 L1] w fun e w' => e = .returned (.bool true) ∧ Below w.heap.size w w' := by
  have SM := Lib.hid (small_yes n k w k1 k2 n1 n2)
  have AW := Lib.hid awake_calls
  by_cases h1 : 400 < m1
  · have q1 : (400 : Int) < (m1 : Int) := by omega
    clear h k1 k2 n1 n2 h1
    go_enter Try.func4, Try.ntmps4
    go_wp2_with (first | (go_at_call 15; (with_reducible refine SM.out.mono ?_); rintro e w1 ⟨rfl, hb⟩; have HB1 := Lib.hid hb; clear hb) | (go_at_call 8; (with_reducible refine (AW.out _).mono ?_); rintro e w9 ⟨rfl, hb⟩; have HB9 := Lib.hid (HB1.out.trans (hb.mono HB1.out.size)); clear hb))
    go_ret
    exact ⟨rfl, HB9.out⟩
  · have q1 : ¬ (400 : Int) < (m1 : Int) := by omega
    have q2 : decide ((m1 : Int) > 400) = false := by simp; omega
    have q3 : (40 : Int) < (N : Int) := by omega
    clear h k1 k2 n1 n2 h1
    go_enter Try.func4, Try.ntmps4
    go_wp2_with (first | (go_at_call 15; (with_reducible refine SM.out.mono ?_); rintro e w1 ⟨rfl, hb⟩; have HB1 := Lib.hid hb; clear hb) | (go_at_call 8; (with_reducible refine (AW.out _).mono ?_); rintro e w9 ⟨rfl, hb⟩; have HB9 := Lib.hid (HB1.out.trans (hb.mono HB1.out.size)); clear hb))
    go_ret
    exact ⟨rfl, HB9.out⟩
set_option maxRecDepth 100000 in
set_option maxHeartbeats 2000000 in
theorem cuts_long (n k : Nat) (p L1 : Int) (A1 : Option Addr) (m1 c1 : Nat) (A2 : Option Addr) (N c2 : Nat) (l : List (List Int)) (w : World) (k1 : 2 ≤ k) (k2 : k ≤ 4) (n1 : 2 * k - 1 ≤ n) (n2 : n ≤ 12) (hm2 : m1 ≤ 400)
    (hl : Kd.C kRow w A2 N l) (hN : N = l.length) (hN2 : N ≤ 40) (hl2 : ¬ ∀ i, i < N → (l.getD i []).length ≤ 400) :
    Calls Try.prog 4 #[.int .i64 n, .int .i64 k, .int .i64 p, .slice A1 m1 c1, .slice A2 N c2, .int .i64 L1] w fun e w' => e = .returned (.bool true) ∧ Below w.heap.size w w' := by
  have SM := Lib.hid (small_yes n k w k1 k2 n1 n2)
  have AW := Lib.hid awake_calls
  have HL := Lib.hid (fun W (hB : Below w.heap.size w W) => Kd.C_below hl hB)
  have HN := Lib.hid hN
  have HL2 := Lib.hid hl2
  have q1 : ¬ (400 : Int) < (m1 : Int) := by omega
  have q2 : decide ((m1 : Int) > 400) = false := by simp; omega
  have q3 : ¬ (40 : Int) < (N : Int) := by omega
  have q4 : decide ((N : Int) > 40) = false := by simp; omega
  clear k1 k2 n1 n2 hm2 hl hN hN2 hl2
  go_enter Try.func4, Try.ntmps4
  go_wp2_with (first | (go_at_call 15; (with_reducible refine SM.out.mono ?_); rintro e w1 ⟨rfl, hb⟩; have HB1 := Lib.hid hb; clear hb))
  go_loopw [13] (fun iv wr => ∃ (i : Nat), i ≤ N ∧ iv = .int .i64 i ∧ Hid (∀ j, j < i → (l.getD j []).length ≤ 400) ∧ Hid (Below w.heap.size w wr)) (fun iv _ => N - (intOf iv).toNat)
  case atStart => exact ⟨0, by omega, rfl, Lib.hid (fun j hj => absurd hj (Nat.not_lt_zero j)), HB1⟩
  case round =>
    clear HB1
    obtain ⟨i, hi, rfl, HJ, HB1⟩ := hrel
    by_cases hlt : i < N
    · have hC := HL.out _ HB1.out
      rw [HN.out] at hC
      obtain ⟨ad, A9, c9, rfl, hcell, _, _⟩ := RowsC.get hC i (by rw [← HN.out]; exact hlt)
      obtain ⟨m9, hm9⟩ : ∃ m9, m9 = (l.getD i []).length := ⟨_, rfl⟩
      rw [← hm9] at hcell
      have HM9 := Lib.hid hm9
      have e2 : (0 : Int) ≤ (i : Int) := by omega
      have e3 : (i : Int) < (N : Int) := by omega
      clear hC hm9
      by_cases hle : m9 ≤ 400
      · have e1 : ¬ (400 : Int) < (m9 : Int) := by omega
        go_wp2
        go_roundw
        case rel => exact ⟨i + 1, by omega, by go_num, Lib.hid (fun j hj => by
          rcases Nat.lt_or_ge j i with h | h
          · exact HJ.out j h
          · obtain rfl : j = i := by omega
            rw [← HM9.out]; exact hle), HB1⟩
        case measure => simp [intOf]; omega
      · have e1 : (400 : Int) < (m9 : Int) := by omega
        go_wp2_with (go_at_call 8; (with_reducible refine (AW.out _).mono ?_); rintro e w9 ⟨rfl, hb⟩; have HB9 := Lib.hid (HB1.out.trans (hb.mono HB1.out.size)); clear hb)
        go_ret
        exact ⟨rfl, HB9.out⟩
    · obtain rfl : i = N := by omega
      exact absurd HJ.out HL2.out
set_option maxRecDepth 100000 in
set_option maxHeartbeats 2000000 in
theorem cuts_err (n k : Nat) (p L1 a0 b0 c0 e0 a1 b1 c9 e1 : Int) (A1 : Option Addr) (m1 c1 : Nat) (A2 : Option Addr) (N c2 : Nat) (l : List (List Int)) (w : World) (k1 : 2 ≤ k) (k2 : k ≤ 4) (n1 : 2 * k - 1 ≤ n) (n2 : n ≤ 12) (hm2 : m1 ≤ 400)
    (hl : Kd.C kRow w A2 N l) (hN : N = l.length) (hN2 : N ≤ 40) (hl2 : ∀ i, i < N → (l.getD i []).length ≤ 400)
    (hq : coldframeref08_Of.f 60000 k m1 p = some (a0, b0, c0, e0)) (hz : coldframeref08_Of.f 60000 k L1 p = some (a1, b1, c9, e1)) (he : (e0 != 0) = true ∨ (e0 = 0 ∧ (e1 != 0) = true)) :
    Calls Try.prog 4 #[.int .i64 n, .int .i64 k, .int .i64 p, .slice A1 m1 c1, .slice A2 N c2, .int .i64 L1] w fun e w' => e = .returned (.bool true) ∧ Below w.heap.size w w' := by
  have SM := Lib.hid (small_yes n k w k1 k2 n1 n2)
  have AW := Lib.hid awake_calls
  have NC := Lib.hid (fun W => new_code n k W k1 (by omega) n1 (by omega))
  have RQ := Lib.hid (fun W => refof_calls k m1 p a0 b0 c0 e0 W hq)
  have RZ := Lib.hid (fun W => refof_calls k L1 p a1 b1 c9 e1 W hz)
  have HL := Lib.hid (fun W (hB : Below w.heap.size w W) => Kd.C_below hl hB)
  have HN := Lib.hid hN
  have HL2 := Lib.hid hl2
  have HE := Lib.hid he
  have q1 : ¬ (400 : Int) < (m1 : Int) := by omega
  have q2 : decide ((m1 : Int) > 400) = false := by simp; omega
  have q3 : ¬ (40 : Int) < (N : Int) := by omega
  have q4 : decide ((N : Int) > 40) = false := by simp; omega
  clear k1 k2 n1 n2 hm2 hl hN hN2 hl2 hq hz he
  go_enter Try.func4, Try.ntmps4
  go_wp2_with (first | (go_at_call 15; (with_reducible refine SM.out.mono ?_); rintro e w1 ⟨rfl, hb⟩; have HB1 := Lib.hid hb; clear hb))
  go_loopw [13] (fun iv wr => ∃ (i : Nat), i ≤ N ∧ iv = .int .i64 i ∧ Hid (Below w.heap.size w wr)) (fun iv _ => N - (intOf iv).toNat)
  case atStart => exact ⟨0, by omega, rfl, HB1⟩
  case round =>
    clear HB1
    obtain ⟨i, hi, rfl, HB1⟩ := hrel
    by_cases hlt : i < N
    · have hC := HL.out _ HB1.out
      rw [HN.out] at hC
      obtain ⟨ad, A9, c9, rfl, hcell, _, _⟩ := RowsC.get hC i (by rw [← HN.out]; exact hlt)
      have hle := HL2.out i hlt
      obtain ⟨m9, hm9⟩ : ∃ m9, m9 = (l.getD i []).length := ⟨_, rfl⟩
      rw [← hm9] at hcell hle
      have e2 : (0 : Int) ≤ (i : Int) := by omega
      have e3 : (i : Int) < (N : Int) := by omega
      have e1 : ¬ (400 : Int) < (m9 : Int) := by omega
      clear hC hm9
      go_wp2
      go_roundw
      case rel => exact ⟨i + 1, by omega, by go_num, HB1⟩
      case measure => simp [intOf]; omega
    · obtain rfl : i = N := by omega
      go_upto_region 9 with (go_at_call 9; (with_reducible refine (NC.out _).mono ?_); rintro e w2 ⟨v, rfl, hcd, hb⟩; have HB2 := Lib.hid (HB1.out.trans (hb.mono HB1.out.size)); clear hcd hb)
      go_upto_region 10 with (go_at_call 11; (with_reducible refine (RQ.out _).mono ?_); rintro e w3 ⟨rfl, hb⟩; have HB3 := Lib.hid (HB2.out.trans (hb.mono HB2.out.size)); clear hb)
      obtain ⟨W3, hW3⟩ : ∃ W3, W3 = w3.alloc (.cells #[.int .i64 a0, .int .i64 b0, .int .i64 c0] 32) := ⟨_, rfl⟩
      have hb3 : Below w3.heap.size w3 W3 := by rw [hW3]; exact (Below.refl _ _).alloc (Nat.le_refl _) _
      have HB4 := Lib.hid (HB3.out.trans (hb3.mono HB3.out.size))
      rw [← hW3]
      clear hW3 hb3
      go_upto_region 11 with (go_at_call 11; (with_reducible refine (RZ.out _).mono ?_); rintro e w5 ⟨rfl, hb⟩; have HB5 := Lib.hid (HB4.out.trans (hb.mono HB4.out.size)); clear hb)
      obtain ⟨W5, hW5⟩ : ∃ W5, W5 = w5.alloc (.cells #[.int .i64 a1, .int .i64 b1, .int .i64 c9] 32) := ⟨_, rfl⟩
      have hb3 : Below w5.heap.size w5 W5 := by rw [hW5]; exact (Below.refl _ _).alloc (Nat.le_refl _) _
      clear HB1
      have HB1 := Lib.hid (HB5.out.trans (hb3.mono HB5.out.size))
      rw [← hW5]
      clear hW5 hb3
      rcases HE.out with h | ⟨rfl, h⟩
      · go_wp2_with (go_at_call 8; (with_reducible refine (AW.out _).mono ?_); rintro e w9 ⟨rfl, hb⟩; have HB9 := Lib.hid (HB1.out.trans (hb.mono HB1.out.size)); clear hb)
        go_ret
        exact ⟨rfl, HB9.out⟩
      · go_wp2_with (go_at_call 8; (with_reducible refine (AW.out _).mono ?_); rintro e w9 ⟨rfl, hb⟩; have HB9 := Lib.hid (HB1.out.trans (hb.mono HB1.out.size)); clear hb)
        go_ret
        exact ⟨rfl, HB9.out⟩
/-- A plan, or an error. -/
def Good (k s p : Nat) (L : Int) : Prop := ∃ L1 C P S : Nat, L = L1 ∧ coldframeref08_Of.f 60000 k L p = some ((L1 : Int), (C : Int), (P : Int), 0) ∧ s * P = S ∧ (1 ≤ P ∧ P ≤ 20000) ∧ (1 ≤ S ∧ S ≤ 20000) ∧ (L1 ≤ C * S ∧ (∀ i, i < C → i * S < L1) ∧ C ≤ 100) ∧ L1 ≤ 20000
theorem of_cases (k s : Nat) (L p : Int) (k1 : 2 ≤ k) (k2 : k ≤ 4) (hs : k * (k - 1) = s) :
    (∃ a b c e, coldframeref08_Of.f 60000 k L p = some (a, b, c, e) ∧ (e != 0) = true) ∨ ∃ q : Nat, p = q ∧ Good k s q L := by
  by_cases ha : L < 0 ∨ (¬ L < 0 ∧ p < 1) ∨ (¬ L < 0 ∧ ¬ p < 1 ∧ 256 < p)
  · exact .inl ⟨_, _, _, _, ref_arg k L p ha, by decide⟩
  have h1 : ¬ L < 0 := fun h => ha (.inl h)
  have h2 : ¬ p < 1 := fun h => ha (.inr (.inl ⟨h1, h⟩))
  have h3 : ¬ 256 < p := fun h => ha (.inr (.inr ⟨h1, h2, h⟩))
  by_cases hl : 16384 < L
  · exact .inl ⟨_, _, _, _, ref_long k L p h1 h2 h3 hl, by decide⟩
  obtain ⟨L, rfl⟩ := Int.eq_ofNat_of_zero_le (show 0 ≤ L by omega)
  obtain ⟨p, rfl⟩ := Int.eq_ofNat_of_zero_le (show 0 ≤ p by omega)
  have p1 : 1 ≤ p := by omega
  have p2 : p ≤ 256 := by omega
  have L1 : L ≤ 16384 := by omega
  obtain ⟨full, hf⟩ : ∃ f, s * p = f := ⟨_, rfl⟩
  have HR := ref_of k s full L p k1 (by omega) hs hf p1 p2 L1
  obtain ⟨_, s2, _, f2, _⟩ := ref_sk k s full L p k1 (by omega) hs hf p1 p2 L1
  unfold planR at HR
  by_cases hm : 32 < upq L full
  · rw [if_pos hm] at HR; exact .inl ⟨_, _, _, _, HR, by decide⟩
  · rw [if_neg hm] at HR
    obtain ⟨q, hq⟩ : ∃ q, q = if 0 < L ∧ L < full then upq L s else p := ⟨_, rfl⟩
    rw [← hq] at HR
    obtain ⟨g1, g2, g3⟩ := plan_count L s p full s2 hf p1 q hq
    have hs12 : s ≤ 12 := by rw [← hs]; exact Nat.mul_le_mul k2 (show k - 1 ≤ 3 by omega)
    have hqp : q ≤ p := by
      rw [hq]
      by_cases h : 0 < L ∧ L < full
      · rw [if_pos h]
        rcases Nat.lt_or_ge p (upq L s) with hh | hh
        · have := (upq_lt L s p (by omega)).1 hh
          rw [Nat.mul_comm, hf] at this
          omega
        · exact hh
      · rw [if_neg h]; omega
    have hq1 : 1 ≤ q := by
      rcases Nat.eq_zero_or_pos q with h | h
      · subst h; simp at g3
      · exact h
    have hS : s * q ≤ 12 * 256 := Nat.mul_le_mul hs12 (by omega)
    exact .inr ⟨p, rfl, L, upq L full, q, s * q, rfl, HR, rfl, ⟨hq1, by omega⟩, ⟨g3, by omega⟩, ⟨g1, g2, by omega⟩, by omega⟩
end Go.Proofs.Ytjoblpkfpfclpaa.Str
