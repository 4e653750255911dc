/- JumpSpreads, walked by hand. -/
import Derived.StillTailTactics
import Derived.Lib.Hide
import Derived.OrdersHeld
import Derived.Deep.RegionHeld3
import Derived.Test.YtgadbdhmdeiclaaBJumpSpreadsJSPure
namespace Go.Proofs.Ytgadbdhmdeiclaa.JS
open Go Go.RowKit Go.Proofs.Ytgadbdhmdeiclaa.PJumpSpreads Go.Proofs.Ytgadbdhmdeiclaa.BJumpSpreads Go.Proofs.Ytgadbdhmdeiclaa.Jump Go.Proofs.Ytgadbdhmdeiclaa.Bits Go.Proofs.YtgadbdhmdeiclaaW.PrintWords Go.Proofs.YtgadbdhmdeiclaaW.PrintLast
set_option linter.unusedVariables false

theorem awake_calls (w : World) : Calls Try.prog 8 #[] w fun e w' => e = .returned (.bool true) ∧ ∃ n, w' = w.drewN n := by
  refine (coldframelaw40_awake.calls 100 true w (awake_is 100 (by omega))).mono ?_
  rintro e w' ⟨rfl, ⟨n, rfl⟩⟩
  exact ⟨rfl, n, rfl⟩
theorem right_calls (n : Int) (b : Bool) (w : World) (h : coldframelaw40_right.f n = some b) : Calls Try.prog 10 #[.int .i64 n] w fun e w' => e = .returned (.bool b) ∧ ∃ n, w' = w.drewN n := by
  refine (coldframelaw40_right.calls n b w h).mono ?_
  rintro e w' ⟨rfl, ⟨n, rfl⟩⟩
  exact ⟨rfl, n, rfl⟩
theorem ref_calls (n : Nat) (key : Int) (m : Nat) (hm : m < 18446744073709551616) (e : key = (m : Int)) (h1 : 1 ≤ n) (hn : n ≤ 65536) (w : World) :
    Calls Try.prog 11 #[.int .u64 key, .int .i64 n] w fun e w' => e = .returned (.int .i64 (fw n key : Nat)) ∧ ∃ n, w' = w.drewN n := by
  refine (coldframeref40_Of.calls 90000 key n _ w (ref_fw 90000 n key m hm e h1 hn (by omega))).mono ?_
  rintro e w' ⟨rfl, ⟨n, rfl⟩⟩
  exact ⟨rfl, n, rfl⟩
/-- Too much: only awake. -/
def Late (len : Nat) (was now : Int) : Prop := 60 < len ∨ (2000 < was ∧ was ≤ 65536) ∨ (2000 < now ∧ now ≤ 65536)


set_option maxRecDepth 100000 in
theorem js_late (A0 : Option Addr) (c0 : Nat) (keys : List Int) (was now : Int) (w : World) (h : Late keys.length was now) :
    Calls Try.prog 5 #[.slice A0 keys.length c0, .int .i64 was, .int .i64 now] w fun e w' => e = .returned (.bool true) ∧ ∃ n, w' = w.drewN n := by
  obtain ⟨len, hlen⟩ : ∃ len, len = keys.length := ⟨_, rfl⟩
  rw [← hlen] at h ⊢
  unfold Late at h
  by_cases h60 : (len : Int) > 60
  · have t0 : decide ((len : Int) > 60) = true := by simp; omega
    clear h h60 hlen
    go_enter Try.func5, Try.ntmps5
    go_wp2_with ((go_at_call 8; (with_reducible refine (awake_calls _).mono ?_); rintro e w' ⟨rfl, nd, rfl⟩))
    repeat (go_quiet ((go_at_call 8; (with_reducible refine (awake_calls _).mono ?_); rintro e w' ⟨rfl, nd, rfl⟩)); try go_wp2_with ((go_at_call 8; (with_reducible refine (awake_calls _).mono ?_); rintro e w' ⟨rfl, nd, rfl⟩)))
    go_ret
    exact ⟨rfl, _, rfl⟩
  · have t0 : decide ((len : Int) > 60) = false := by simp; omega
    by_cases h1 : was > 2000 ∧ was ≤ 65536
    · have t1 : decide (was > 2000) = true := by simp; omega
      have t2 : decide (was ≤ 65536) = true := by simp; omega
      clear h h60 hlen h1
      go_enter Try.func5, Try.ntmps5
      go_wp2_with ((go_at_call 8; (with_reducible refine (awake_calls _).mono ?_); rintro e w' ⟨rfl, nd, rfl⟩))
      repeat (go_quiet ((go_at_call 8; (with_reducible refine (awake_calls _).mono ?_); rintro e w' ⟨rfl, nd, rfl⟩)); try go_wp2_with ((go_at_call 8; (with_reducible refine (awake_calls _).mono ?_); rintro e w' ⟨rfl, nd, rfl⟩)))
      go_ret
      exact ⟨rfl, _, rfl⟩
    · have t3 : decide (now > 2000) = true := by simp; omega
      have t4 : decide (now ≤ 65536) = true := by simp; omega
      by_cases h2 : was > 2000
      · have t1 : decide (was > 2000) = true := by simp; omega
        have t2 : decide (was ≤ 65536) = false := by simp; omega
        clear h h60 hlen h1 h2
        go_enter Try.func5, Try.ntmps5
        go_wp2_with ((go_at_call 8; (with_reducible refine (awake_calls _).mono ?_); rintro e w' ⟨rfl, nd, rfl⟩))
        repeat (go_quiet ((go_at_call 8; (with_reducible refine (awake_calls _).mono ?_); rintro e w' ⟨rfl, nd, rfl⟩)); try go_wp2_with ((go_at_call 8; (with_reducible refine (awake_calls _).mono ?_); rintro e w' ⟨rfl, nd, rfl⟩)))
        go_ret
        exact ⟨rfl, _, rfl⟩
      · have t1 : decide (was > 2000) = false := by simp; omega
        clear h h60 hlen h1 h2
        go_enter Try.func5, Try.ntmps5
        go_wp2_with ((go_at_call 8; (with_reducible refine (awake_calls _).mono ?_); rintro e w' ⟨rfl, nd, rfl⟩))
        repeat (go_quiet ((go_at_call 8; (with_reducible refine (awake_calls _).mono ?_); rintro e w' ⟨rfl, nd, rfl⟩)); try go_wp2_with ((go_at_call 8; (with_reducible refine (awake_calls _).mono ?_); rintro e w' ⟨rfl, nd, rfl⟩)))
        go_ret
        exact ⟨rfl, _, rfl⟩
end Go.Proofs.Ytgadbdhmdeiclaa.JS
