/- MsrCodes: no code at all; no such code; awake. -/
import Derived.Test.YtmefhhkfakmhgaaProg
import Derived.Below
import Derived.Deep.Draws
import Derived.Deep.AppendLies
import Derived.Maps.AppendAt
import Derived.OwnWalk
import Derived.Laws.BytesArg
import Derived.Laws.MakeOwn
import Derived.Laws.OwnMore
import Derived.Deep.OwnRows
import Derived.Tactics
import Derived.Lib.ConvBytes
import Derived.Laws.Slices
import Derived.WalkKit
import Derived.KernelRfl
import Derived.RowKit3
import Derived.Deep.LoopGhost
import Derived.Deep.QuietTactic
import Derived.BigQuiet
import Derived.WideLaws
import Derived.Deep.DeepCutAuto
import Derived.Deep.CutBlock
import Derived.Deep.RegionHeld3
import Derived.Laws.Rows
import Derived.Lib.AppendStr
import Derived.ArgAppend
import Derived.Laws.IdiomCopy
import Derived.OrdersHeld
import Derived.Laws.BitsLemmas
import Derived.RowKit
import Derived.Lib.Hide
import Derived.WalkSpells
import Derived.StillTailTactics
import Derived.Outline
import Derived.Test.YtmefhhkfakmhgaaBMsrCodesHeal1
namespace Go.Proofs.Ytmefhhkfakmhgaa.Str
open Go Go.RowKit Go.Proofs.Ytmefhhkfakmhgaa.PMsrCodes Go.Proofs.Ytmefhhkfakmhgaa.BMsrCodes Go.Proofs.Ytmefhhkfakmhgaa.Gf Go.Proofs.Ytmefhhkfakmhgaa.Gi Go.Proofs.Ytmefhhkfakmhgaa.Bits Go.Proofs.Ytmefhhkfakmhgaa.Mem Go.Proofs.Ytmefhhkfakmhgaa.VPts Go.Proofs.Ytmefhhkfakmhgaa.Rws Go.Proofs.YtmefhhkfakmhgaaW.PrintWords Go.Proofs.YtmefhhkfakmhgaaW.PrintLast
set_option linter.unusedVariables false

set_option maxRecDepth 100000 in
theorem n_nil (w : World) : Calls Try.prog 15 #[.pointer none] w fun e w' => e = .returned (.int .i64 0) ∧ w' = w := by
  go_enter Try.func15, Try.ntmps15
  go_wp2
  go_ret
  exact ⟨rfl, rfl⟩
set_option maxRecDepth 100000 in
theorem k_nil (w : World) : Calls Try.prog 16 #[.pointer none] w fun e w' => e = .returned (.int .i64 0) ∧ w' = w := by
  go_enter Try.func16, Try.ntmps16
  go_wp2
  go_ret
  exact ⟨rfl, rfl⟩
set_option maxRecDepth 100000 in
theorem helpers_nil (w : World) : Calls Try.prog 17 #[.pointer none] w fun e w' => e = .returned (.int .i64 0) ∧ w' = w := by
  go_enter Try.func17, Try.ntmps17
  go_wp2_with (go_at_call 16; (with_reducible refine (k_nil _).mono ?_); rintro e w ⟨rfl, rfl⟩)
  go_ret
  exact ⟨rfl, rfl⟩
set_option maxRecDepth 100000 in
theorem parts_nil (w : World) : Calls Try.prog 18 #[.pointer none] w fun e w' => e = .returned (.int .i64 0) ∧ w' = w := by
  go_enter Try.func18, Try.ntmps18
  go_wp2_with (go_at_call 16; (with_reducible refine (k_nil _).mono ?_); rintro e w ⟨rfl, rfl⟩)
  go_ret
  exact ⟨rfl, rfl⟩
set_option maxRecDepth 100000 in
theorem symbols_nil (w : World) : Calls Try.prog 19 #[.pointer none] w fun e w' => e = .returned (.int .i64 0) ∧ w' = w := by
  go_enter Try.func19, Try.ntmps19
  go_wp2_with (first
    | (go_at_call 16; (with_reducible refine (k_nil _).mono ?_); rintro e w ⟨rfl, rfl⟩)
    | (go_at_call 18; (with_reducible refine (parts_nil _).mono ?_); rintro e w ⟨rfl, rfl⟩))
  go_ret
  exact ⟨rfl, rfl⟩
set_option maxRecDepth 100000 in
theorem row_nil (slot : Int) (w : World) : Calls Try.prog 20 #[.pointer none, .int .i64 slot] w fun e w' => e = .returned (.slice none 0 0) ∧ w' = w := by
  go_enter Try.func20, Try.ntmps20
  go_wp2
  go_ret
  exact ⟨rfl, rfl⟩
set_option maxRecDepth 100000 in
theorem row_out (v : Value) (n k : Nat) (slot : Int) (w : World) (hc : IsCode w v n k) (h : slot < 0 ∨ (n : Int) ≤ slot) : Calls Try.prog 20 #[v, .int .i64 slot] w fun e w' => e = .returned (.slice none 0 0) ∧ w' = w := by
  obtain ⟨b, A, c, rfl, hb⟩ := hc
  have y0 : w.cell? ⟨b, 0, none⟩ = some (.int .i64 n) := (hb.cell 0).trans rfl
  have h' : slot < 0 ∨ (decide (slot < 0) = false ∧ (n : Int) ≤ slot) := by
    rcases h with h | h
    · exact .inl h
    · exact .inr ⟨by simp; omega, h⟩
  clear h hb
  rcases h' with h1 | ⟨h1, h2⟩
  all_goals
    go_enter Try.func20, Try.ntmps20
    go_wp2
    go_ret
    exact ⟨rfl, rfl⟩
set_option maxRecDepth 100000 in
theorem parts_bad (n : Int) (A : Option Addr) (L c : Nat) (w : World) (h : n < 1) : Calls Try.prog 24 #[.slice A L c, .int .i64 n] w fun e w' => e = .returned (.tuple #[.slice none 0 0, .bool false]) ∧ w' = w := by
  go_enter Try.func24, Try.ntmps24
  go_wp2
  go_ret2
  exact ⟨rfl, rfl⟩
set_option maxRecDepth 100000 in
theorem encode_nil (A : Option Addr) (L c : Nat) (w : World) : Calls Try.prog 10 #[.pointer none, .slice A L c] w fun e w' => e = .returned (.tuple #[.slice none 0 0, .int .i64 1]) ∧ w' = w := by
  go_enter Try.func10, Try.ntmps10
  go_wp2_with (first
    | (go_at_call 19; (with_reducible refine (symbols_nil _).mono ?_); rintro e w ⟨rfl, rfl⟩)
    | (go_at_call 24; (with_reducible refine (parts_bad _ _ _ _ _ (by decide)).mono ?_); rintro e w ⟨rfl, rfl⟩))
  go_ret2
  exact ⟨rfl, rfl⟩
set_option maxRecDepth 100000 in
theorem decode_nil (A : Option Addr) (L c : Nat) (w : World) : Calls Try.prog 13 #[.pointer none, .slice A L c] w fun e w' => e = .returned (.tuple #[.slice none 0 0, .int .i64 1]) ∧ w' = w := by
  go_enter Try.func13, Try.ntmps13
  go_wp2
  go_ret2
  exact ⟨rfl, rfl⟩
set_option maxRecDepth 100000 in
theorem new_bad (n k : Int) (w : World) (h : ¬ (2 ≤ k ∧ k ≤ 8 ∧ 2 * k - 1 ≤ n ∧ n ≤ 24)) : Calls Try.prog 9 #[.int .i64 n, .int .i64 k] w fun e w' => e = .returned (.tuple #[.pointer none, .int .i64 1]) ∧ w' = w := by
  by_cases h1 : k < 2
  · clear h
    go_enter Try.func9, Try.ntmps9
    go_wp2
    go_ret2
    exact ⟨rfl, rfl⟩
  have t1 : decide (k < 2) = false := by simp; omega
  by_cases h2 : 8 < k
  · clear h
    go_enter Try.func9, Try.ntmps9
    go_wp2
    go_ret2
    exact ⟨rfl, rfl⟩
  have t2 : decide (k > 8) = false := by simp; omega
  have t4 : decide (8 < k) = false := by simp; omega
  have e1 : IntKind.i64.wrap (2 * k) = 2 * k := IntWalk.i64_in _ (by omega)
  have e2 : IntKind.i64.wrap (2 * k - 1) = 2 * k - 1 := IntWalk.i64_in _ (by omega)
  by_cases h3 : n < 2 * k - 1
  · clear h
    go_enter Try.func9, Try.ntmps9
    go_wp2
    go_ret2
    exact ⟨rfl, rfl⟩
  · have t3 : decide (n < 2 * k - 1) = false := by simp; omega
    have h5 : 24 < n := by omega
    clear h
    go_enter Try.func9, Try.ntmps9
    go_wp2
    go_ret2
    exact ⟨rfl, rfl⟩
theorem right_f (n k : Int) (b : Bool) (h : decide (2 ≤ k ∧ k ≤ 8 ∧ 2 * k - 1 ≤ n ∧ n ≤ 24) = b) : coldframeref06_Right.f n k = some b := by
  subst h
  unfold coldframeref06_Right.f
  by_cases h1 : k ≥ 2
  · rw [if_pos h1]
    by_cases h2 : k ≤ 8
    · rw [if_pos h2, show wrap64 (2 * k) = 2 * k from wrap64_in _ (by omega) (by omega), show wrap64 (2 * k - 1) = 2 * k - 1 from wrap64_in _ (by omega) (by omega)]
      by_cases h3 : n ≥ 2 * k - 1
      · rw [if_pos h3]; congr 1; rw [decide_eq_decide]; omega
      · rw [if_neg h3]; congr 1; symm; rw [decide_eq_false_iff_not]; omega
    · rw [if_neg h2]; congr 1; symm; rw [decide_eq_false_iff_not]; omega
  · rw [if_neg h1]; congr 1; symm; rw [decide_eq_false_iff_not]; omega
theorem right_calls (n k : Int) (b : Bool) (w : World) (h : decide (2 ≤ k ∧ k ≤ 8 ∧ 2 * k - 1 ≤ n ∧ n ≤ 24) = b) :
    Calls Try.prog 21 #[.int .i64 n, .int .i64 k] w fun e w' => e = .returned (.bool b) ∧ Below w.heap.size w w' := by
  refine (coldframeref06_Right.calls n k b w (right_f n k b h)).mono ?_
  rintro e w' ⟨rfl, h⟩
  exact ⟨rfl, h.below⟩
set_option maxRecDepth 100000 in
theorem awake_calls (w : World) : Calls Try.prog 8 #[] w fun e w' => e = .returned (.bool true) ∧ Below w.heap.size w w' := by
  have NC : Hid (∀ W, Calls Try.prog 9 #[.int .i64 3, .int .i64 2] W fun e w' => ∃ v, e = .returned (.tuple #[v, .int .i64 0]) ∧ IsCodeP w' v 3 2 ∧ Below W.heap.size W w') := Lib.hid (fun W => new_codeP 3 2 W (by omega) (by omega) (by omega) (by omega))
  have SY : Hid (∀ v W, IsCodeP W v 3 2 → Calls Try.prog 19 #[v] W fun e w' => e = .returned (.int .i64 2) ∧ w' = W) := Lib.hid (fun v W hc => symbols_any v 3 2 2 W hc.code (by omega) (by omega) (by omega))
  have HE : Hid (∀ v W, IsCodeP W v 3 2 → Calls Try.prog 17 #[v] W fun e w' => e = .returned (.int .i64 2) ∧ w' = W) := Lib.hid (fun v W hc => helpers_any v 3 2 W hc.code (by omega) (by omega))
  have PA : Hid (∀ v W, IsCodeP W v 3 2 → Calls Try.prog 18 #[v] W fun e w' => e = .returned (.int .i64 1) ∧ w' = W) := Lib.hid (fun v W hc => parts_any v 3 2 W hc.code (by omega) (by omega))
  go_enter Try.func8, Try.ntmps8
  go_wp2_with (first
    | (go_at_call 9; (with_reducible refine (NC.out _).mono ?_); rintro e w1 ⟨v, rfl, hc, hb⟩; have HC := Lib.hid hc; have HB := Lib.hid hb; clear hc hb)
    | (go_at_call 19; (with_reducible refine (SY.out _ _ HC.out).mono ?_); rintro e w1 ⟨rfl, rfl⟩)
    | (go_at_call 17; (with_reducible refine (HE.out _ _ HC.out).mono ?_); rintro e w1 ⟨rfl, rfl⟩)
    | (go_at_call 18; (with_reducible refine (PA.out _ _ HC.out).mono ?_); rintro e w1 ⟨rfl, rfl⟩))
  go_ret
  exact ⟨rfl, HB.out⟩
end Go.Proofs.Ytmefhhkfakmhgaa.Str
