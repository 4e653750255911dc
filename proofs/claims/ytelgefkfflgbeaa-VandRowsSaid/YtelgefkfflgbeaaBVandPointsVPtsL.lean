/- VandPoints, walked by hand. -/
import Derived.Test.YtelgefkfflgbeaaBVandPointsVPtsW
namespace Go.Proofs.Ytelgefkfflgbeaa.VPts
open Go Go.RowKit Go.Proofs.Ytelgefkfflgbeaa.PVandPoints Go.Proofs.Ytelgefkfflgbeaa.BVandPoints Go.Proofs.Ytelgefkfflgbeaa.Gf Go.Proofs.Ytelgefkfflgbeaa.Bits Go.Proofs.Ytelgefkfflgbeaa.Mem Go.Proofs.YtelgefkfflgbeaaW.PrintWords Go.Proofs.YtelgefkfflgbeaaW.PrintLast
set_option linter.unusedVariables false

theorem str_of {w : World} {A : Option Addr} {n c : Nat} {xs : List Int} {base : Nat} {ok : Nat → Prop} (h : Kd.R (Kd.int .u8) 5 w base ok (.slice A n c) xs) : (convert 22 9 (.slice A n c)).run Try.prog w = .ok (.string (strOfNums xs)) w := by
  obtain ⟨h1, h2, h3⟩ := Kd.R_reads' h
  subst h1
  exact Kd.C_string Try.underlying22 Try.underlying5 Try.underlying9 h3
theorem stop33 (q : Nat) (h : Stop (fun x => gp x 3) 3 q) : firsts (fun x => gp x 3) q = [0, 1, 2] := by
  have h3 : firsts (fun x => gp x 3) 3 = [0, 1, 2] := by decide +kernel
  have : Stop (fun x => gp x 3) 3 3 := ⟨by omega, by rw [h3]; decide, .inr (by rw [h3]; rfl)⟩
  rw [stop_one _ 3 q 3 h this, h3]
theorem str012 : strOfNums [0, 1, 2] = ByteArray.mk #[0, 1, 2] := by decide +kernel

set_option maxRecDepth 100000 in
theorem awake_calls (w : World) : Calls Try.prog 8 #[] w fun e w' => e = .returned (.bool true) ∧ Below w.heap.size w w' := by
  have hs : ((strOfNums [0, 1, 2]).toList == [0, 1, 2]) = true := by decide +kernel
  go_enter Try.func8, Try.ntmps8
  go_upto_region 2 with (go_at_call 7; (refine (points_good 3 3 w (by omega) (by omega) (by omega)).mono ?_); rintro e w1 ⟨v, q, hq, he, hr, hb⟩; rw [stop33 q hq] at he hr; subst he; have HR := Lib.hid hr; have HB := Lib.hid hb; clear hr hb hq)
  obtain ⟨A1, c1, rfl⟩ := Kd.R_slice HR.out
  have hc := str_of HR.out
  rw [if_neg (by decide)] at hc
  simp only [List.length_cons, List.length_nil] at hc
  go_wp2
  repeat (go_quiet (fail); try go_wp2)
  go_ret
  first | exact ⟨rfl, HB.out⟩ | exact ⟨rfl, pw_below_drewN HB.out _⟩

set_option maxRecDepth 100000 in
theorem law_bad (n e : Int) (w : World) (h : n < 1 ∨ e < 1) :
    Calls Try.prog 3 #[.int .i64 n, .int .i64 e] w fun e w' => e = .returned (.bool true) ∧ Below w.heap.size w w' := by
  have HH := Lib.hid h
  by_cases h1 : n < 1
  · have t1 : decide (n < 1) = true := by simp; omega
    clear h h1
    go_enter Try.func3, Try.ntmps3
    go_wp2_with (first | (go_at_call 7; (with_reducible refine (points_bad _ _ _ HH.out).mono ?_); rintro e w1 ⟨rfl, hb⟩; have HB := Lib.hid hb; clear hb) | (go_at_call 8; (with_reducible refine (awake_calls _).mono ?_); rintro e w9 ⟨rfl, hb⟩; have HB9 := Lib.hid hb; clear hb))
    repeat (go_quiet (fail); try go_wp2_with ((go_at_call 8; (with_reducible refine (awake_calls _).mono ?_); rintro e w9 ⟨rfl, hb⟩; have HB9 := Lib.hid hb; clear hb)))
    go_ret
    exact ⟨rfl, HB.out.trans (HB9.out.mono HB.out.size)⟩
  · have t1 : decide (n < 1) = false := by simp; omega
    have t2 : decide (e < 1) = true := by simp; omega
    clear h h1
    go_enter Try.func3, Try.ntmps3
    go_wp2_with (first | (go_at_call 7; (with_reducible refine (points_bad _ _ _ HH.out).mono ?_); rintro e w1 ⟨rfl, hb⟩; have HB := Lib.hid hb; clear hb) | (go_at_call 8; (with_reducible refine (awake_calls _).mono ?_); rintro e w9 ⟨rfl, hb⟩; have HB9 := Lib.hid hb; clear hb))
    repeat (go_quiet (fail); try go_wp2_with ((go_at_call 8; (with_reducible refine (awake_calls _).mono ?_); rintro e w9 ⟨rfl, hb⟩; have HB9 := Lib.hid hb; clear hb)))
    go_ret
    exact ⟨rfl, HB.out.trans (HB9.out.mono HB.out.size)⟩

set_option maxRecDepth 100000 in
theorem law_big (n e : Nat) (w : World) (h1 : 1 ≤ n) (h2 : 1 ≤ e) (he : e < 9223372036854775808) (hb : 256 < n) :
    Calls Try.prog 3 #[.int .i64 n, .int .i64 e] w fun e w' => e = .returned (.bool true) ∧ Below w.heap.size w w' := by
  have t1 : decide ((n : Int) < 1) = false := by simp; omega
  have t2 : decide ((e : Int) < 1) = false := by simp; omega
  have t3 : decide ((n : Int) > 256) = true := by simp; omega
  have t4 : 256 < n := hb
  go_enter Try.func3, Try.ntmps3
  go_upto_region 2 with ((go_at_call 7; (refine (points_good n e w h1 h2 he).mono ?_); rintro e' w1 ⟨v, q1, hq1, he', hr, hb⟩; have HQ1 := Lib.hid hq1; have HR := Lib.hid hr; have HB := Lib.hid hb; clear hr hb hq1; obtain ⟨A5, c5, e5⟩ := Kd.R_slice HR.out; subst e5; subst he'))
  have hlt : (firsts (fun x => gp x e) q1).length < n := by have := len_le (fun x => gp x e) q1; have := HQ1.out.1; omega
  rw [if_pos hlt, if_pos hlt]
  simp only [List.length_nil]
  clear hlt
  go_wp2_with ((go_at_call 8; (with_reducible refine (awake_calls _).mono ?_); rintro e w9 ⟨rfl, hb⟩; have HB9 := Lib.hid hb; clear hb))
  repeat (go_quiet (fail); try go_wp2_with ((go_at_call 8; (with_reducible refine (awake_calls _).mono ?_); rintro e w9 ⟨rfl, hb⟩; have HB9 := Lib.hid hb; clear hb)))
  go_ret
  exact ⟨rfl, HB.out.trans (HB9.out.mono HB.out.size)⟩

set_option maxRecDepth 100000 in
theorem law_good (n e : Nat) (w : World) (h1 : 1 ≤ n) (h2 : 1 ≤ e) (he : e < 9223372036854775808) (hb : n ≤ 256) :
    Calls Try.prog 3 #[.int .i64 n, .int .i64 e] w fun e w' => e = .returned (.bool true) ∧ Below w.heap.size w w' := by
  have t1 : decide ((n : Int) < 1) = false := by simp; omega
  have t2 : decide ((e : Int) < 1) = false := by simp; omega
  have t3 : decide ((n : Int) > 256) = false := by simp; omega
  have t4 : ¬ 256 < n := by omega
  obtain ⟨q2, hq2, href⟩ := ref_points n e hb h2 he
  have HRef := Lib.hid href
  have HQ2 := Lib.hid hq2
  clear href hq2
  go_enter Try.func3, Try.ntmps3
  go_upto_region 2 with ((go_at_call 7; (refine (points_good n e w h1 h2 he).mono ?_); rintro e' w1 ⟨v, q1, hq1, he', hr, hb⟩; have HQ1 := Lib.hid hq1; have HR := Lib.hid hr; have HB := Lib.hid hb; clear hr hb hq1; obtain ⟨A5, c5, e5⟩ := Kd.R_slice HR.out; subst e5; subst he'))
  have HE := Lib.hid (stop_one _ _ _ _ HQ1.out HQ2.out)
  obtain ⟨xs, hxs⟩ : ∃ xs, xs = firsts (fun x => gp x e) q1 := ⟨_, rfl⟩
  rw [← HE.out, ← hxs] at HRef
  rw [← hxs] at HR ⊢
  have HXS := Lib.hid hxs
  have hle : xs.length ≤ n := by rw [hxs]; exact HQ1.out.2.1
  clear hxs
  by_cases hlt : xs.length < n
  · rw [if_pos hlt] at HRef HR ⊢
    rw [if_pos hlt]
    simp only [List.length_nil]
    clear hlt hle
    go_wp2_with (first | (go_at_call 9; (with_reducible refine (coldframeref05_Points.calls 200000 _ _ _ _ HRef.out).mono ?_); rintro e w2 ⟨v7, rfl, hr, hb⟩; obtain ⟨A7, c7, e7⟩ := Kd.R_slice hr; subst e7; have HR7 := Lib.hid hr; have HB2 := Lib.hid (show Below w.heap.size w w2 from HB.out.trans (hb.mono HB.out.size)); clear hr hb) | (go_at_call 8; (with_reducible refine (awake_calls _).mono ?_); rintro e w9 ⟨rfl, hb⟩; have HB9 := Lib.hid hb; clear hb))
    repeat (go_quiet (fail); try go_wp2_with ((go_at_call 8; (with_reducible refine (awake_calls _).mono ?_); rintro e w9 ⟨rfl, hb⟩; have HB9 := Lib.hid hb; clear hb)))
    go_ret
    exact ⟨rfl, HB2.out.trans (HB9.out.mono HB2.out.size)⟩
  · rw [if_neg hlt] at HRef HR ⊢
    rw [if_neg hlt]
    have hn0 : ¬ ((xs.length : Int) = 0) := by omega
    have hn1 : ((xs.length : Int) == 0) = false := by simpa using hn0
    have hn2 : ¬ (xs = []) := fun h => hn0 (by rw [h]; rfl)
    clear hlt hle
    go_upto_region 5 with (first | (go_at_call 9; (with_reducible refine (coldframeref05_Points.calls 200000 _ _ _ _ HRef.out).mono ?_); rintro e w2 ⟨v7, rfl, hr, hb⟩; obtain ⟨A7, c7, e7⟩ := Kd.R_slice hr; subst e7; have HR7 := Lib.hid hr; have HBx := Lib.hid hb; have HB2 := Lib.hid (show Below w.heap.size w w2 from HB.out.trans (hb.mono HB.out.size)); clear hr hb) | (go_at_call 8; (with_reducible refine (awake_calls _).mono ?_); rintro e w9 ⟨rfl, hb⟩; have HB9 := Lib.hid hb; clear hb))
    have k5 := str_of (Kd.R_below HR.out HBx.out)
    have k7 := str_of HR7.out
    have hn3 : ¬ xs.length = 0 := by omega
    go_wp2_with ((go_at_call 8; (with_reducible refine (awake_calls _).mono ?_); rintro e w9 ⟨rfl, hb⟩; have HB9 := Lib.hid hb; clear hb))
    repeat (go_quiet (fail); try go_wp2_with ((go_at_call 8; (with_reducible refine (awake_calls _).mono ?_); rintro e w9 ⟨rfl, hb⟩; have HB9 := Lib.hid hb; clear hb)))
    go_ret
    exact ⟨rfl, HB2.out.trans (HB9.out.mono HB2.out.size)⟩

theorem vp_row (n : Int) (_ : (Lit.int .i64 n).wf = true) (e : Int) (he : (Lit.int .i64 e).wf = true) (w : World) :
    Calls Try.prog 3 #[.int .i64 n, .int .i64 e] w fun e w' => e = .returned (.bool true) ∧ Below w.heap.size w w' := by
  by_cases h : n < 1 ∨ e < 1
  · exact law_bad n e w h
  · have hb : e < 9223372036854775808 := by
      simp [Lit.wf, IntKind.min, IntKind.max, IntKind.signed, IntKind.bits] at he
      omega
    obtain ⟨a, rfl⟩ : ∃ a : Nat, n = a := ⟨n.toNat, by omega⟩
    obtain ⟨b, rfl⟩ : ∃ b : Nat, e = b := ⟨e.toNat, by omega⟩
    by_cases hc : 256 < a
    · exact law_big a b w (by omega) (by omega) (by omega) hc
    · exact law_good a b w (by omega) (by omega) (by omega) (by omega)
end Go.Proofs.Ytelgefkfflgbeaa.VPts
