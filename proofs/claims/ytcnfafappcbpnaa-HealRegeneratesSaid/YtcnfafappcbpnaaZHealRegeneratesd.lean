/- The statement HealRegenerates: what its proof rests on, part 4 of 4. -/
import Derived.Test.YtcnfafappcbpnaaProg
import Derived.Below
import Derived.Deep.Draws
import Derived.Deep.AppendLies
import Derived.Maps.AppendAt
import Derived.OwnWalk
import Derived.Laws.BytesArg
import Derived.Laws.MakeOwn
import Derived.Laws.OwnMore
import Derived.Deep.OwnRows
import Derived.Tactics
import Derived.Lib.ConvBytes
import Derived.Laws.Slices
import Derived.WalkKit
import Derived.KernelRfl
import Derived.RowKit3
import Derived.Deep.LoopGhost
import Derived.Deep.QuietTactic
import Derived.BigQuiet
import Derived.WideLaws
import Derived.Deep.DeepCutAuto
import Derived.Deep.CutBlock
import Derived.Deep.RegionHeld3
import Derived.Laws.Rows
import Derived.Lib.AppendStr
import Derived.ArgAppend
import Derived.Laws.IdiomCopy
import Derived.OrdersHeld
import Derived.Laws.BitsLemmas
import Derived.RowKit
import Derived.Lib.Hide
import Derived.WalkSpells
import Derived.StillTailTactics
import Derived.Outline
import Derived.Test.YtcnfafappcbpnaaZHealRegeneratesc
/- Fragments refused; what they cost. -/
namespace Go.Proofs.Ytcnfafappcbpnaa.Str
open Go Go.RowKit Go.Proofs.Ytcnfafappcbpnaa.PHealFragments Go.Proofs.Ytcnfafappcbpnaa.BHealFragments Go.Proofs.Ytcnfafappcbpnaa.Gf Go.Proofs.Ytcnfafappcbpnaa.Gi Go.Proofs.Ytcnfafappcbpnaa.Bits Go.Proofs.Ytcnfafappcbpnaa.Mem Go.Proofs.Ytcnfafappcbpnaa.VPts Go.Proofs.Ytcnfafappcbpnaa.Rws Go.Proofs.YtcnfafappcbpnaaW.PrintWords Go.Proofs.YtcnfafappcbpnaaW.PrintLast
set_option linter.unusedVariables false

set_option maxRecDepth 100000 in
theorem frag_nil (lost : Int) (A : Option Addr) (L c : Nat) (w : World) :
    Calls Try.prog 10 #[.pointer none, .int .i64 lost, .slice A L c] w fun e w' => e = .returned (.tuple #[.slice none 0 0, .int .i64 1]) ∧ Below w.heap.size w w' := by
  have HB := Lib.hid (Below.refl w.heap.size w)
  go_enter Try.func10, Try.ntmps10
  go_wp2
  go_ret2
  exact ⟨rfl, HB.out⟩
set_option maxRecDepth 100000 in
theorem frag_bad (v : Value) (n k : Nat) (lost : Int) (A0 : Option Addr) (L c0 : Nat) (w : World) (hc : IsCodeP w v n k) (k1 : 2 ≤ k) (k2 : k ≤ 8) (hl : L ≤ 1000)
    (h : lost < 0 ∨ (n : Int) ≤ lost ∨ L = 0 ∨ L % (k - 1) ≠ 0) :
    Calls Try.prog 10 #[v, .int .i64 lost, .slice A0 L c0] w fun e w' => e = .returned (.tuple #[.slice none 0 0, .int .i64 1]) ∧ Below w.heap.size w w' := by
  have NN := Lib.hid (fun W (hB : Below w.heap.size w W) => n_any v n k W (hc.below hB).code)
  have PP := Lib.hid (fun W (hB : Below w.heap.size w W) => parts_any v n k W (hc.below hB).code (by omega) (by omega))
  obtain ⟨a, ha⟩ : ∃ a, a = k - 1 := ⟨_, rfl⟩
  rw [← ha] at PP h
  have a1 : 1 ≤ a := by omega
  have a7 : a ≤ 7 := by omega
  have HB := Lib.hid (Below.refl w.heap.size w)
  obtain ⟨b, A, c, rfl, _⟩ := hc
  by_cases h1 : lost < 0
  · clear h k1 k2 ha
    go_enter Try.func10, Try.ntmps10
    go_wp2_with (first
                    | (go_at_call 22; (with_reducible refine (NN.out _ (Below.refl _ _)).mono ?_); rintro e w ⟨rfl, rfl⟩)
                    | (go_at_call 23; (with_reducible refine (PP.out _ (Below.refl _ _)).mono ?_); rintro e w ⟨rfl, rfl⟩))
    go_ret2
    exact ⟨rfl, HB.out⟩
  have t1 : decide (lost < 0) = false := by simp; omega
  by_cases h2 : (n : Int) ≤ lost
  · clear h k1 k2 ha
    go_enter Try.func10, Try.ntmps10
    go_wp2_with (first
                    | (go_at_call 22; (with_reducible refine (NN.out _ (Below.refl _ _)).mono ?_); rintro e w ⟨rfl, rfl⟩)
                    | (go_at_call 23; (with_reducible refine (PP.out _ (Below.refl _ _)).mono ?_); rintro e w ⟨rfl, rfl⟩))
    go_ret2
    exact ⟨rfl, HB.out⟩
  have t2 : decide ((n : Int) ≤ lost) = false := by simp; omega
  by_cases h3 : L = 0
  · have t3 : ((L : Int) == 0) = true := by simp; omega
    clear h k1 k2 ha h3
    go_enter Try.func10, Try.ntmps10
    go_wp2_with (first
                    | (go_at_call 22; (with_reducible refine (NN.out _ (Below.refl _ _)).mono ?_); rintro e w ⟨rfl, rfl⟩)
                    | (go_at_call 23; (with_reducible refine (PP.out _ (Below.refl _ _)).mono ?_); rintro e w ⟨rfl, rfl⟩))
    go_ret2
    exact ⟨rfl, HB.out⟩
  · have t3 : ((L : Int) == 0) = false := by simp; omega
    have h4 : L % a ≠ 0 := by omega
    have t4 : ((L : Int) % (a : Int) != 0) = true := by simp only [bne_iff_ne]; omega
    clear h k1 k2 ha h3 h4
    go_enter Try.func10, Try.ntmps10
    go_wp2_with (first
                    | (go_at_call 22; (with_reducible refine (NN.out _ (Below.refl _ _)).mono ?_); rintro e w ⟨rfl, rfl⟩)
                    | (go_at_call 23; (with_reducible refine (PP.out _ (Below.refl _ _)).mono ?_); rintro e w ⟨rfl, rfl⟩))
    go_ret2
    exact ⟨rfl, HB.out⟩
set_option maxRecDepth 100000 in
theorem cost_nil (L : Int) (w : World) :
    Calls Try.prog 11 #[.pointer none, .int .i64 L] w fun e w' => e = .returned (.tuple #[.int .i64 0, .int .i64 0]) ∧ Below w.heap.size w w' := by
  have HB := Lib.hid (Below.refl w.heap.size w)
  go_enter Try.func11, Try.ntmps11
  go_wp2
  go_ret2
  exact ⟨rfl, HB.out⟩
set_option maxRecDepth 100000 in
theorem cost_bad (v : Value) (n k L : Nat) (w : World) (hc : IsCodeP w v n k) (k1 : 2 ≤ k) (k2 : k ≤ 8) (hl : L ≤ 1000) (h : L = 0 ∨ L % (k - 1) ≠ 0) :
    Calls Try.prog 11 #[v, .int .i64 L] w fun e w' => e = .returned (.tuple #[.int .i64 0, .int .i64 0]) ∧ Below w.heap.size w w' := by
  have PP := Lib.hid (fun W (hB : Below w.heap.size w W) => parts_any v n k W (hc.below hB).code (by omega) (by omega))
  obtain ⟨a, ha⟩ : ∃ a, a = k - 1 := ⟨_, rfl⟩
  rw [← ha] at PP h
  have a1 : 1 ≤ a := by omega
  have a7 : a ≤ 7 := by omega
  have HB := Lib.hid (Below.refl w.heap.size w)
  obtain ⟨b, A, c, rfl, _⟩ := hc
  by_cases h3 : L = 0
  · have t3 : decide ((L : Int) < 1) = true := by simp; omega
    clear h k1 k2 ha
    subst h3
    go_enter Try.func11, Try.ntmps11
    go_wp2
    go_ret2
    exact ⟨rfl, HB.out⟩
  · have t3 : decide ((L : Int) < 1) = false := by simp; omega
    have t5 : (1 : Int) ≤ (L : Int) := by omega
    have h4 : L % a ≠ 0 := by omega
    have t4 : ((L : Int) % (a : Int) != 0) = true := by simp only [bne_iff_ne]; omega
    clear h k1 k2 ha h3 h4
    go_enter Try.func11, Try.ntmps11
    go_wp2_with (go_at_call 23; (with_reducible refine (PP.out _ (Below.refl _ _)).mono ?_); rintro e w ⟨rfl, rfl⟩)
    go_ret2
    exact ⟨rfl, HB.out⟩
set_option maxRecDepth 100000 in
theorem cost_good (v : Value) (n k L sz : Nat) (w : World) (hc : IsCodeP w v n k) (k1 : 2 ≤ k) (k2 : k ≤ 8) (hl : L ≤ 1000) (hLs : L = (k - 1) * sz) (hsz : 1 ≤ sz) :
    Calls Try.prog 11 #[v, .int .i64 L] w fun e w' => e = .returned (.tuple #[.int .i64 (((2 * k - 2) * sz : Nat) : Int), .int .i64 ((k * L : Nat) : Int)]) ∧ Below w.heap.size w w' := by
  have KK := Lib.hid (fun W (hB : Below w.heap.size w W) => k_any v n k W (hc.below hB).code)
  have PP := Lib.hid (fun W (hB : Below w.heap.size w W) => parts_any v n k W (hc.below hB).code (by omega) (by omega))
  have HH := Lib.hid (fun W (hB : Below w.heap.size w W) => helpers_any v n k W (hc.below hB).code (by omega) (by omega))
  obtain ⟨a, ha⟩ : ∃ a, a = k - 1 := ⟨_, rfl⟩
  obtain ⟨q, hq⟩ : ∃ q, q = 2 * k - 2 := ⟨_, rfl⟩
  rw [← ha] at PP hLs
  rw [← hq] at HH ⊢
  have a1 : 1 ≤ a := by omega
  have a7 : a ≤ 7 := by omega
  have q14 : q ≤ 14 := by omega
  have sz1 : sz ≤ L := by rw [hLs]; exact Nat.le_mul_of_pos_left sz (by omega)
  have d1 : (L : Int) % (a : Int) = 0 := by rw [hLs, Int.natCast_mul]; exact Int.mul_emod_right _ _
  have d2 : (L : Int) / (a : Int) = (sz : Int) := by rw [hLs, Int.natCast_mul, Int.mul_comm]; exact Int.mul_ediv_cancel _ (by omega)
  have m1 : q * sz ≤ 14 * 1000 := Nat.mul_le_mul q14 (by omega)
  have m2 : k * L ≤ 8 * 1000 := Nat.mul_le_mul k2 hl
  have e1 : IntKind.i64.wrap ((q : Int) * (sz : Int)) = ((q * sz : Nat) : Int) := by rw [← Int.natCast_mul, IntWalk.i64_in _ (by omega)]
  have e2 : IntKind.i64.wrap ((k : Int) * (L : Int)) = ((k * L : Nat) : Int) := by rw [← Int.natCast_mul, IntWalk.i64_in _ (by omega)]
  obtain ⟨x1, hx1⟩ : ∃ x, x = q * sz := ⟨_, rfl⟩
  obtain ⟨x2, hx2⟩ : ∃ x, x = k * L := ⟨_, rfl⟩
  rw [← hx1] at e1 ⊢
  rw [← hx2] at e2 ⊢
  have t5 : (1 : Int) ≤ (L : Int) := by have := Nat.mul_le_mul a1 hsz; omega
  have t3 : decide ((L : Int) < 1) = false := by simp; omega
  have HB := Lib.hid (Below.refl w.heap.size w)
  obtain ⟨b, A, c, rfl, _⟩ := hc
  clear k1 k2 ha hq hLs m1 m2 hx1 hx2
  go_enter Try.func11, Try.ntmps11
  go_wp2_with (go_at_call 23; (with_reducible refine (PP.out _ (Below.refl _ _)).mono ?_); rintro e w ⟨rfl, rfl⟩)
  go_quiet (first
    | (go_at_call 23; exact Calls.quiet_of_same (PP.out _ (pw_below_drewN (Below.refl _ _) _)))
    | (go_at_call 28; exact Calls.quiet_of_same (KK.out _ (pw_below_drewN (Below.refl _ _) _)))
    | (go_at_call 27; exact Calls.quiet_of_same (HH.out _ (pw_below_drewN (Below.refl _ _) _))))
  go_wp2
  go_ret2
  exact ⟨rfl, pw_below_drewN HB.out _⟩
end Go.Proofs.Ytcnfafappcbpnaa.Str
/- The law HealFragments: the walk. -/
namespace Go.Proofs.Ytcnfafappcbpnaa.Str
open Go Go.RowKit Go.Proofs.Ytcnfafappcbpnaa.PHealFragments Go.Proofs.Ytcnfafappcbpnaa.BHealFragments Go.Proofs.Ytcnfafappcbpnaa.Gf Go.Proofs.Ytcnfafappcbpnaa.Gi Go.Proofs.Ytcnfafappcbpnaa.Bits Go.Proofs.Ytcnfafappcbpnaa.Mem Go.Proofs.Ytcnfafappcbpnaa.VPts Go.Proofs.Ytcnfafappcbpnaa.Rws Go.Proofs.YtcnfafappcbpnaaW.PrintWords Go.Proofs.YtcnfafappcbpnaaW.PrintLast
set_option linter.unusedVariables false

theorem right_f (n k : Int) (b : Bool) (h : decide (2 ≤ k ∧ k ≤ 8 ∧ 2 * k - 1 ≤ n ∧ n ≤ 24) = b) : coldframeref06_Right.f n k = some b := by
  subst h
  unfold coldframeref06_Right.f
  by_cases h1 : k ≥ 2
  · rw [if_pos h1]
    by_cases h2 : k ≤ 8
    · rw [if_pos h2, show wrap64 (2 * k) = 2 * k from wrap64_in _ (by omega) (by omega), show wrap64 (2 * k - 1) = 2 * k - 1 from wrap64_in _ (by omega) (by omega)]
      by_cases h3 : n ≥ 2 * k - 1
      · rw [if_pos h3]; congr 1; rw [decide_eq_decide]; omega
      · rw [if_neg h3]; congr 1; symm; rw [decide_eq_false_iff_not]; omega
    · rw [if_neg h2]; congr 1; symm; rw [decide_eq_false_iff_not]; omega
  · rw [if_neg h1]; congr 1; symm; rw [decide_eq_false_iff_not]; omega
theorem small_calls (n k : Int) (b : Bool) (w : World) (h : decide (2 ≤ k ∧ k ≤ 4 ∧ 2 * k - 1 ≤ n ∧ n ≤ 12) = b) :
    Calls Try.prog 7 #[.int .i64 n, .int .i64 k] w fun e w' => e = .returned (.bool b) ∧ Below w.heap.size w w' := by
  refine (coldframelaw07_small.calls n k b w ?_).mono ?_
  · subst h
    unfold coldframelaw07_small.f
    by_cases h1 : 2 ≤ k ∧ k ≤ 8 ∧ 2 * k - 1 ≤ n ∧ n ≤ 24
    · rw [right_f n k true (decide_eq_true h1), bnd, if_pos rfl]
      by_cases h2 : n ≤ 12
      · rw [if_pos h2]; congr 1; rw [decide_eq_decide]; omega
      · rw [if_neg h2]; congr 1; symm; rw [decide_eq_false_iff_not]; omega
    · rw [right_f n k false (decide_eq_false h1), bnd, if_neg (by decide)]; congr 1; symm; rw [decide_eq_false_iff_not]; omega
  · rintro e w' ⟨rfl, h⟩
    exact ⟨rfl, h.below⟩
set_option maxRecDepth 100000 in
theorem awake_calls (w : World) : Calls Try.prog 8 #[] w fun e w' => e = .returned (.bool true) ∧ Below w.heap.size w w' := by
  have NC : Hid (∀ W, Calls Try.prog 9 #[.int .i64 5, .int .i64 3] W fun e w' => ∃ v, e = .returned (.tuple #[v, .int .i64 0]) ∧ IsCodeP w' v 5 3 ∧ Below W.heap.size W w') := Lib.hid (fun W => new_codeP 5 3 W (by omega) (by omega) (by omega) (by omega))
  have CC : Hid (∀ v W, IsCodeP W v 5 3 → Calls Try.prog 11 #[v, .int .i64 4] W fun e w' => e = .returned (.tuple #[.int .i64 8, .int .i64 12]) ∧ Below W.heap.size W w') := Lib.hid (fun v W hc => cost_good v 5 3 4 2 W hc (by omega) (by omega) (by omega) (by omega) (by omega))
  go_enter Try.func8, Try.ntmps8
  go_wp2_with (first
    | (go_at_call 9; (with_reducible refine (NC.out _).mono ?_); rintro e w1 ⟨v, rfl, hc, hb⟩; have HC := Lib.hid hc; have HB := Lib.hid hb; clear hc hb)
    | (go_at_call 11; (with_reducible refine (CC.out v _ HC.out).mono ?_); rintro e w2 ⟨rfl, hb⟩; have HB2 := Lib.hid (HB.out.trans (hb.mono HB.out.size)); clear hb))
  go_ret
  exact ⟨rfl, HB2.out⟩
theorem str_reads {w : World} {A : Option Addr} {n c : Nat} {xs : List Int} (h : ReadsInt w .u8 A n xs) : (convert 22 9 (.slice A n c)).run Try.prog w = .ok (.string (strOfNums xs)) w :=
  string_of_reads Try.underlying22 Try.underlying5 Try.underlying9 h
theorem str_any {w : World} {A : Option Addr} {m c : Nat} {ys : List Int} (h : (Kd.int .u8).C w A m ys) (W : World) (hb : Below w.heap.size w W) : (convert 22 9 (.slice A m c)).run Try.prog W = .ok (.string (strOfNums ys)) W :=
  str_reads (Kd.reads_of_C (d := (0 : Int)) (Kd.C_below h hb))
set_option maxRecDepth 100000 in
theorem hf_no (n k lost : Int) (A : Option Addr) (L c : Nat) (w : World) (h : ¬ (2 ≤ k ∧ k ≤ 4 ∧ 2 * k - 1 ≤ n ∧ n ≤ 12)) :
    Calls Try.prog 3 #[.int .i64 n, .int .i64 k, .int .i64 lost, .slice A L c] w fun e w' => e = .returned (.bool true) ∧ Below w.heap.size w w' := by
  have SM := Lib.hid (small_calls n k false w (decide_eq_false h))
  have AW := Lib.hid awake_calls
  clear h
  go_enter Try.func3, Try.ntmps3
  go_wp2_with (first | (go_at_call 7; (with_reducible refine SM.out.mono ?_); rintro e w1 ⟨rfl, hb⟩; have HB1 := Lib.hid hb; clear hb) | (go_at_call 8; (with_reducible refine (AW.out _).mono ?_); rintro e w9 ⟨rfl, hb⟩; have HB9 := Lib.hid (HB1.out.trans (hb.mono HB1.out.size)); clear hb))
  go_ret
  exact ⟨rfl, HB9.out⟩
set_option maxRecDepth 100000 in
theorem hf_long (n k lost : Int) (A : Option Addr) (L c : Nat) (w : World) (h : 2 ≤ k ∧ k ≤ 4 ∧ 2 * k - 1 ≤ n ∧ n ≤ 12) (hL : 100 < L) :
    Calls Try.prog 3 #[.int .i64 n, .int .i64 k, .int .i64 lost, .slice A L c] w fun e w' => e = .returned (.bool true) ∧ Below w.heap.size w w' := by
  have SM := Lib.hid (small_calls n k true w (decide_eq_true h))
  have AW := Lib.hid awake_calls
  have q1 : (100 : Int) < (L : Int) := by omega
  clear h hL
  go_enter Try.func3, Try.ntmps3
  go_wp2_with (first | (go_at_call 7; (with_reducible refine SM.out.mono ?_); rintro e w1 ⟨rfl, hb⟩; have HB1 := Lib.hid hb; clear hb) | (go_at_call 8; (with_reducible refine (AW.out _).mono ?_); rintro e w9 ⟨rfl, hb⟩; have HB9 := Lib.hid (HB1.out.trans (hb.mono HB1.out.size)); clear hb))
  go_ret
  exact ⟨rfl, HB9.out⟩
set_option maxRecDepth 100000 in
set_option maxHeartbeats 2000000 in
/-- The length does not fit. -/
theorem hf_bad (n k : Nat) (lost : Int) (A : Option Addr) (L c : Nat) (w : World) (k1 : 2 ≤ k) (k2 : k ≤ 4) (n1 : 2 * k - 1 ≤ n) (n2 : n ≤ 12) (hL : L ≤ 100) (h : L = 0 ∨ L % (k - 1) ≠ 0) :
    Calls Try.prog 3 #[.int .i64 n, .int .i64 k, .int .i64 lost, .slice A L c] w fun e w' => e = .returned (.bool true) ∧ Below w.heap.size w w' := by
  have SM := Lib.hid (small_calls n k true w (decide_eq_true (by omega)))
  have AW := Lib.hid awake_calls
  have NC := Lib.hid (fun W => new_codeP n k W k1 (by omega) n1 (by omega))
  have FB := Lib.hid (fun v W hc => frag_bad v n k lost A L c W hc k1 (by omega) (by omega) (.inr (.inr h)))
  have CB := Lib.hid (fun v W hc => cost_bad v n k L W hc k1 (by omega) (by omega) h)
  have q1 : ¬ (100 : Int) < (L : Int) := by omega
  have q2 : decide ((L : Int) > 100) = false := by simp; omega
  obtain ⟨a, ha⟩ : ∃ a, a = k - 1 := ⟨_, rfl⟩
  rw [← ha] at h
  have d0 : IntKind.i64.wrap ((k : Int) - 1) = (a : Int) := by rw [IntWalk.i64_in _ (by omega)]; omega
  have a1 : 1 ≤ a := by omega
  have h' : ((L : Int) == 0) = true ∨ (((L : Int) == 0) = false ∧ ((L : Int) % (a : Int) != 0) = true) := by
    rcases h with h | h
    · left; simp; omega
    · by_cases h0 : L = 0
      · left; simp; omega
      · right; exact ⟨by simp; omega, by simp only [bne_iff_ne]; omega⟩
  clear k1 k2 n1 n2 hL h ha
  rcases h' with h1 | ⟨h1, h2⟩
  all_goals
    go_enter Try.func3, Try.ntmps3
    go_wp2_with (first
      | (go_at_call 7; (with_reducible refine SM.out.mono ?_); rintro e w1 ⟨rfl, hb⟩; have HB1 := Lib.hid hb; clear hb)
      | (go_at_call 9; (with_reducible refine (NC.out _).mono ?_); rintro e w2 ⟨v, rfl, hcd, hb⟩; have HV := Lib.hid hcd; have HBn := Lib.hid (HB1.out.trans (hb.mono HB1.out.size)); clear HB1 hb hcd; have HB1 := HBn; clear HBn)
      | (go_at_call 10; (with_reducible refine (frag_nil _ _ _ _ _).mono ?_); rintro e w4 ⟨rfl, hb⟩; have HVn := Lib.hid (HV.out.below hb); clear HV; have HV := HVn; clear HVn; have HBn := Lib.hid (HB1.out.trans (hb.mono HB1.out.size)); clear HB1 hb; have HB1 := HBn; clear HBn)
      | (go_at_call 11; (with_reducible refine (cost_nil _ _).mono ?_); rintro e w4 ⟨rfl, hb⟩; have HVn := Lib.hid (HV.out.below hb); clear HV; have HV := HVn; clear HVn; have HBn := Lib.hid (HB1.out.trans (hb.mono HB1.out.size)); clear HB1 hb; have HB1 := HBn; clear HBn)
      | (go_at_call 10; (with_reducible refine (FB.out _ _ HV.out).mono ?_); rintro e w4 ⟨rfl, hb⟩; have HVn := Lib.hid (HV.out.below hb); clear HV; have HV := HVn; clear HVn; have HBn := Lib.hid (HB1.out.trans (hb.mono HB1.out.size)); clear HB1 hb; have HB1 := HBn; clear HBn)
      | (go_at_call 11; (with_reducible refine (CB.out _ _ HV.out).mono ?_); rintro e w4 ⟨rfl, hb⟩; have HVn := Lib.hid (HV.out.below hb); clear HV; have HV := HVn; clear HVn; have HBn := Lib.hid (HB1.out.trans (hb.mono HB1.out.size)); clear HB1 hb; have HB1 := HBn; clear HBn)
      | (go_at_call 8; (with_reducible refine (AW.out _).mono ?_); rintro e w9 ⟨rfl, hb⟩; have HB9 := Lib.hid (HB1.out.trans (hb.mono HB1.out.size)); clear hb))
    go_ret
    exact ⟨rfl, HB9.out⟩
set_option maxRecDepth 100000 in
set_option maxHeartbeats 2000000 in
/-- There is no such slot. -/
theorem hf_far (n k : Nat) (lost : Int) (A : Option Addr) (L c sz : Nat) (w : World) (k1 : 2 ≤ k) (k2 : k ≤ 4) (n1 : 2 * k - 1 ≤ n) (n2 : n ≤ 12) (hL : L ≤ 100) (hLs : L = (k - 1) * sz) (hsz : 1 ≤ sz) (h : lost < 0 ∨ (n : Int) ≤ lost) :
    Calls Try.prog 3 #[.int .i64 n, .int .i64 k, .int .i64 lost, .slice A L c] w fun e w' => e = .returned (.bool true) ∧ Below w.heap.size w w' := by
  have FB := Lib.hid (fun v W hc => frag_bad v n k lost A L c W hc k1 (by omega) (by omega) (h.elim .inl (fun h => .inr (.inl h))))
  have SM := Lib.hid (small_calls n k true w (decide_eq_true (by omega)))
  have AW := Lib.hid awake_calls
  have NC := Lib.hid (fun W => new_codeP n k W k1 (by omega) n1 (by omega))
  have CG := Lib.hid (fun v W hc => cost_good v n k L sz W hc k1 (by omega) (by omega) hLs hsz)
  have q1 : ¬ (100 : Int) < (L : Int) := by omega
  have q2 : decide ((L : Int) > 100) = false := by simp; omega
  obtain ⟨a, ha⟩ : ∃ a, a = k - 1 := ⟨_, rfl⟩
  have hLa := hLs
  rw [← ha] at hLa
  have d0 : IntKind.i64.wrap ((k : Int) - 1) = (a : Int) := by rw [IntWalk.i64_in _ (by omega)]; omega
  have a1 : 1 ≤ a := by omega
  have a7 : a ≤ 7 := by omega
  have sz1 : sz ≤ L := by rw [hLa]; exact Nat.le_mul_of_pos_left sz (by omega)
  have d1 : (L : Int) % (a : Int) = 0 := by rw [hLa, Int.natCast_mul]; exact Int.mul_emod_right _ _
  have d2 : (L : Int) / (a : Int) = (sz : Int) := by rw [hLa, Int.natCast_mul, Int.mul_comm]; exact Int.mul_ediv_cancel _ (by omega)
  obtain ⟨q, hq⟩ : ∃ q, q = 2 * k - 2 := ⟨_, rfl⟩
  have m1 : q * sz ≤ 14 * 1000 := Nat.mul_le_mul (by omega) (by omega)
  have m2 : k * L ≤ 8 * 1000 := Nat.mul_le_mul (by omega) (by omega)
  have d3 : IntKind.i64.wrap (2 * (k : Int)) = 2 * (k : Int) := IntWalk.i64_in _ (by omega)
  have d4 : IntKind.i64.wrap (2 * (k : Int) - 2) = (q : Int) := by rw [IntWalk.i64_in _ (by omega)]; omega
  rw [← hq] at CG
  have e1 : IntKind.i64.wrap ((q : Int) * (sz : Int)) = ((q * sz : Nat) : Int) := by rw [← Int.natCast_mul, IntWalk.i64_in _ (by omega)]
  have e2 : IntKind.i64.wrap ((k : Int) * (L : Int)) = ((k * L : Nat) : Int) := by rw [← Int.natCast_mul, IntWalk.i64_in _ (by omega)]
  obtain ⟨x1, hx1⟩ : ∃ x, x = q * sz := ⟨_, rfl⟩
  obtain ⟨x2, hx2⟩ : ∃ x, x = k * L := ⟨_, rfl⟩
  rw [← hx1] at e1 CG
  rw [← hx2] at e2 CG
  have t5 : (1 : Int) ≤ (L : Int) := by have := Nat.mul_le_mul a1 hsz; omega
  have t3 : ((L : Int) == 0) = false := by simp; omega
  have h' : lost < 0 ∨ (decide (lost < 0) = false ∧ (n : Int) ≤ lost) := by
    rcases h with h | h
    · exact .inl h
    · exact .inr ⟨by simp; omega, h⟩
  clear k1 k2 n1 n2 hL h ha hLs hLa hsz hq m1 m2 hx1 hx2
  rcases h' with h1 | ⟨h1, h2⟩
  all_goals
    go_enter Try.func3, Try.ntmps3
    go_wp2_with (first
      | (go_at_call 7; (with_reducible refine SM.out.mono ?_); rintro e w1 ⟨rfl, hb⟩; have HB1 := Lib.hid hb; clear hb)
      | (go_at_call 9; (with_reducible refine (NC.out _).mono ?_); rintro e w2 ⟨v, rfl, hcd, hb⟩; have HV := Lib.hid hcd; have HBn := Lib.hid (HB1.out.trans (hb.mono HB1.out.size)); clear HB1 hb hcd; have HB1 := HBn; clear HBn)
      | (go_at_call 10; (with_reducible refine (frag_nil _ _ _ _ _).mono ?_); rintro e w4 ⟨rfl, hb⟩; have HVn := Lib.hid (HV.out.below hb); clear HV; have HV := HVn; clear HVn; have HBn := Lib.hid (HB1.out.trans (hb.mono HB1.out.size)); clear HB1 hb; have HB1 := HBn; clear HBn)
      | (go_at_call 11; (with_reducible refine (cost_nil _ _).mono ?_); rintro e w4 ⟨rfl, hb⟩; have HVn := Lib.hid (HV.out.below hb); clear HV; have HV := HVn; clear HVn; have HBn := Lib.hid (HB1.out.trans (hb.mono HB1.out.size)); clear HB1 hb; have HB1 := HBn; clear HBn)
      | (go_at_call 10; (with_reducible refine (FB.out _ _ HV.out).mono ?_); rintro e w4 ⟨rfl, hb⟩; have HVn := Lib.hid (HV.out.below hb); clear HV; have HV := HVn; clear HVn; have HBn := Lib.hid (HB1.out.trans (hb.mono HB1.out.size)); clear HB1 hb; have HB1 := HBn; clear HBn)
      | (go_at_call 11; (with_reducible refine (CG.out _ _ HV.out).mono ?_); rintro e w4 ⟨rfl, hb⟩; have HVn := Lib.hid (HV.out.below hb); clear HV; have HV := HVn; clear HVn; have HBn := Lib.hid (HB1.out.trans (hb.mono HB1.out.size)); clear HB1 hb; have HB1 := HBn; clear HBn)
      | (go_at_call 8; (with_reducible refine (AW.out _).mono ?_); rintro e w9 ⟨rfl, hb⟩; have HB9 := Lib.hid (HB1.out.trans (hb.mono HB1.out.size)); clear hb))
    go_ret
    exact ⟨rfl, HB9.out⟩
set_option maxRecDepth 100000 in
set_option maxHeartbeats 4000000 in
theorem hf_good (n k lost : Nat) (A : Option Addr) (L c sz : Nat) (sh : List Int) (w : World) (k1 : 2 ≤ k) (k2 : k ≤ 4) (n1 : 2 * k - 1 ≤ n) (n2 : n ≤ 12) (hL : L ≤ 100) (hLs : L = (k - 1) * sz) (hsz : 1 ≤ sz) (h : lost < n)
    (hr : (Kd.int .u8).C w A L sh) (hLn : L = sh.length) (hbyt : ∀ x ∈ sh, Byt x) :
    Calls Try.prog 3 #[.int .i64 n, .int .i64 k, .int .i64 lost, .slice A L c] w fun e w' => e = .returned (.bool true) ∧ Below w.heap.size w w' := by
  have FG := Lib.hid (fun v W hc (hB : Below w.heap.size w W) => fragment_good v n k lost sz L A c sh W hc k1 (by omega) (by omega) h (Kd.C_below hr hB) hLn hLs hsz (by omega) hbyt)
  have RF := Lib.hid (fun W (hB : Below w.heap.size w W) => reffrag_any n k lost sz L A c sh W k1 (by omega) (by omega) h (Kd.C_below hr hB) hLn hLs hsz (by omega) hbyt)
  have SM := Lib.hid (small_calls n k true w (decide_eq_true (by omega)))
  have AW := Lib.hid awake_calls
  have NC := Lib.hid (fun W => new_codeP n k W k1 (by omega) n1 (by omega))
  have CG := Lib.hid (fun v W hc => cost_good v n k L sz W hc k1 (by omega) (by omega) hLs hsz)
  have q1 : ¬ (100 : Int) < (L : Int) := by omega
  have q2 : decide ((L : Int) > 100) = false := by simp; omega
  obtain ⟨a, ha⟩ : ∃ a, a = k - 1 := ⟨_, rfl⟩
  have hLa := hLs
  rw [← ha] at hLa
  have d0 : IntKind.i64.wrap ((k : Int) - 1) = (a : Int) := by rw [IntWalk.i64_in _ (by omega)]; omega
  have a1 : 1 ≤ a := by omega
  have a7 : a ≤ 7 := by omega
  have sz1 : sz ≤ L := by rw [hLa]; exact Nat.le_mul_of_pos_left sz (by omega)
  have d1 : (L : Int) % (a : Int) = 0 := by rw [hLa, Int.natCast_mul]; exact Int.mul_emod_right _ _
  have d2 : (L : Int) / (a : Int) = (sz : Int) := by rw [hLa, Int.natCast_mul, Int.mul_comm]; exact Int.mul_ediv_cancel _ (by omega)
  obtain ⟨q, hq⟩ : ∃ q, q = 2 * k - 2 := ⟨_, rfl⟩
  have m1 : q * sz ≤ 14 * 1000 := Nat.mul_le_mul (by omega) (by omega)
  have m2 : k * L ≤ 8 * 1000 := Nat.mul_le_mul (by omega) (by omega)
  have d3 : IntKind.i64.wrap (2 * (k : Int)) = 2 * (k : Int) := IntWalk.i64_in _ (by omega)
  have d4 : IntKind.i64.wrap (2 * (k : Int) - 2) = (q : Int) := by rw [IntWalk.i64_in _ (by omega)]; omega
  rw [← hq] at CG
  have e1 : IntKind.i64.wrap ((q : Int) * (sz : Int)) = ((q * sz : Nat) : Int) := by rw [← Int.natCast_mul, IntWalk.i64_in _ (by omega)]
  have e2 : IntKind.i64.wrap ((k : Int) * (L : Int)) = ((k * L : Nat) : Int) := by rw [← Int.natCast_mul, IntWalk.i64_in _ (by omega)]
  obtain ⟨x1, hx1⟩ : ∃ x, x = q * sz := ⟨_, rfl⟩
  obtain ⟨x2, hx2⟩ : ∃ x, x = k * L := ⟨_, rfl⟩
  rw [← hx1] at e1 CG
  rw [← hx2] at e2 CG
  have t5 : (1 : Int) ≤ (L : Int) := by have := Nat.mul_le_mul a1 hsz; omega
  have t3 : ((L : Int) == 0) = false := by simp; omega
  rw [← ha] at FG RF
  obtain ⟨fr, hfr⟩ : ∃ fr, fr = fragL (ptN n k lost) a sz sh := ⟨_, rfl⟩
  rw [← hfr] at FG RF
  have h1 : decide ((lost : Int) < 0) = false := by simp
  have h2 : decide ((lost : Int) ≥ (n : Int)) = false := by simp; omega
  have h3 : ¬ (n : Int) ≤ (lost : Int) := by omega
  clear k1 k2 n1 n2 hL h ha hLs hLa hsz hq m1 m2 hx1 hx2 hr hLn hbyt hfr
  go_enter Try.func3, Try.ntmps3
  go_upto_region 5 with (first
      | (go_at_call 7; (with_reducible refine SM.out.mono ?_); rintro e w1 ⟨rfl, hb⟩; have HB1 := Lib.hid hb; clear hb)
      | (go_at_call 9; (with_reducible refine (NC.out _).mono ?_); rintro e w2 ⟨v, rfl, hcd, hb⟩; have HV := Lib.hid hcd; have HBn := Lib.hid (HB1.out.trans (hb.mono HB1.out.size)); clear HB1 hb hcd; have HB1 := HBn; clear HBn)
      | (go_at_call 10; (with_reducible refine (FG.out v _ HV.out HB1.out).mono ?_); rintro e w5 ⟨A5, c5, rfl, hC5, hb⟩; have HC5 := Lib.hid hC5; clear hC5; have HVn := Lib.hid (HV.out.below hb); clear HV; have HV := HVn; clear HVn; have HBn := Lib.hid (HB1.out.trans (hb.mono HB1.out.size)); clear HB1 hb; have HB1 := HBn; clear HBn))
  clear FG
  have HX := Lib.hid (Below.refl w5.heap.size w5)
  have hbx : ∀ {W W' : World}, Below w5.heap.size w5 W → Below W.heap.size W W' → Below w5.heap.size w5 W' := fun h h' => h.trans (h'.mono h.size)
  go_upto_region 16 with (first
      | (go_at_call 10; (with_reducible refine (frag_nil _ _ _ _ _).mono ?_); rintro e w4 ⟨rfl, hb⟩; have HXn := Lib.hid (hbx HX.out hb); clear HX; have HX := HXn; clear HXn; have HVn := Lib.hid (HV.out.below hb); clear HV; have HV := HVn; clear HVn; have HBn := Lib.hid (HB1.out.trans (hb.mono HB1.out.size)); clear HB1 hb; have HB1 := HBn; clear HBn)
      | (go_at_call 11; (first | (with_reducible refine (cost_nil _ _).mono ?_) | (with_reducible refine (CG.out _ _ HV.out).mono ?_)); rintro e w4 ⟨rfl, hb⟩; have HXn := Lib.hid (hbx HX.out hb); clear HX; have HX := HXn; clear HXn; have HVn := Lib.hid (HV.out.below hb); clear HV; have HV := HVn; clear HVn; have HBn := Lib.hid (HB1.out.trans (hb.mono HB1.out.size)); clear HB1 hb; have HB1 := HBn; clear HBn))
  have K5 := Lib.hid (fun W (hB : Below w5.heap.size w5 W) => str_any (c := c5) HC5.out W hB)
  have HXd := Lib.hid (show Below w5.heap.size w5 w4.drew from HX.out.drew)
  have HBd := Lib.hid (show Below w.heap.size w w4.drew from HB1.out.drew)
  refine wp_region_noPanic ?_
  refine wp_region_held_drew (S := (fun W => (convert 22 9 (.slice A5 sz c5)).run Try.prog W = .ok (.string (strOfNums fr)) W)) (by kernel_rfl) ?_ (fun hHeld => ?_)
  · ((try dsimp only); exact K5.out _ HXd.out)
  refine wpAnyH_take (i := 0) (oi := { dst := some 129, op := Go.Op.move (Go.Operand.tmp 11), type := 22, pos := "law.go:44", after := #[], guard := none }) (v := ?_) rfl (by kernel_rfl) (by kernel_rfl) (by kernel_rfl) (fun _ _ _ h => h) (Or.inl ⟨by rfl, ?_⟩) (by assumption) ?_
  rotate_left 1
  · (intro w hSw; (try dsimp only at hSw); go_simp; try with_reducible rfl)
  try simp only [Act.put, List.setIfInBounds_toArray, List.set_cons_zero, List.set_cons_succ]
  refine wpAnyH_take (i := 1) (oi := { dst := some 130, op := Go.Op.convert 22 9 (Go.Operand.tmp 129), type := 9, pos := "law.go:44", after := #[{ on := 0, ground := Go.Ground.data }], guard := none }) (v := ?_) rfl (by kernel_rfl) (by kernel_rfl) (by kernel_rfl) (fun _ _ _ h => h) (Or.inl ⟨by rfl, ?_⟩) (by assumption) ?_
  rotate_left 1
  · (intro w hSw; (try dsimp only at hSw); go_simp; try with_reducible rfl)
  try simp only [Act.put, List.setIfInBounds_toArray, List.set_cons_zero, List.set_cons_succ]
  refine wpAnyH_take (i := 2) (oi := { dst := some 131, op := Go.Op.move (Go.Operand.tmp 0), type := 3, pos := "law.go:44", after := #[], guard := none }) (v := ?_) rfl (by kernel_rfl) (by kernel_rfl) (by kernel_rfl) (fun _ _ _ h => h) (Or.inl ⟨by rfl, ?_⟩) (by assumption) ?_
  rotate_left 1
  · (intro w hSw; (try dsimp only at hSw); go_simp; try with_reducible rfl)
  try simp only [Act.put, List.setIfInBounds_toArray, List.set_cons_zero, List.set_cons_succ]
  refine wpAnyH_take (i := 3) (oi := { dst := some 132, op := Go.Op.move (Go.Operand.tmp 1), type := 3, pos := "law.go:44", after := #[], guard := none }) (v := ?_) rfl (by kernel_rfl) (by kernel_rfl) (by kernel_rfl) (fun _ _ _ h => h) (Or.inl ⟨by rfl, ?_⟩) (by assumption) ?_
  rotate_left 1
  · (intro w hSw; (try dsimp only at hSw); go_simp; try with_reducible rfl)
  try simp only [Act.put, List.setIfInBounds_toArray, List.set_cons_zero, List.set_cons_succ]
  refine wpAnyH_take (i := 4) (oi := { dst := some 133, op := Go.Op.move (Go.Operand.tmp 2), type := 3, pos := "law.go:44", after := #[], guard := none }) (v := ?_) rfl (by kernel_rfl) (by kernel_rfl) (by kernel_rfl) (fun _ _ _ h => h) (Or.inl ⟨by rfl, ?_⟩) (by assumption) ?_
  rotate_left 1
  · (intro w hSw; (try dsimp only at hSw); go_simp; try with_reducible rfl)
  try simp only [Act.put, List.setIfInBounds_toArray, List.set_cons_zero, List.set_cons_succ]
  refine wpAnyH_take (i := 5) (oi := { dst := some 134, op := Go.Op.move (Go.Operand.tmp 3), type := 22, pos := "law.go:44", after := #[], guard := none }) (v := ?_) rfl (by kernel_rfl) (by kernel_rfl) (by kernel_rfl) (fun _ _ _ h => h) (Or.inl ⟨by rfl, ?_⟩) (by assumption) ?_
  rotate_left 1
  · (intro w hSw; (try dsimp only at hSw); go_simp; try with_reducible rfl)
  try simp only [Act.put, List.setIfInBounds_toArray, List.set_cons_zero, List.set_cons_succ]
  refine wpAnyH_ready (rs := [6]) (by kernel_rfl) (by simp) ?_
  refine AllReadyH.cons (o := { dst := some 135, op := Go.Op.call { callee := Go.Callee.value (Go.Operand.func 12), args := #[Go.Operand.tmp 131, Go.Operand.tmp 132, Go.Operand.tmp 133, Go.Operand.tmp 134], argTypes := #[3, 3, 3, 22] }, type := 22, pos := "law.go:44", after := #[{ on := 2, ground := Go.Ground.data }, { on := 3, ground := Go.Ground.data }, { on := 4, ground := Go.Ground.data }, { on := 5, ground := Go.Ground.data }], guard := none }) rfl (fun K hK => ?_) AllReadyH.nil
  go_simp
  go_at_call 12
  (refine (RF.out _ HBd.out).mono ?_); rintro e u1 ⟨A8, c8, rfl, hC8, hb⟩; have k8 := str_any (c := c8) hC8 u1 (Below.refl _ _); have HXe := Lib.hid (hbx HXd.out hb); have HBe := Lib.hid (HBd.out.trans (hb.mono HBd.out.size)); clear hb hC8
  clear hHeld
  refine hK.out _ _ ?_ (fun hHeld => ?_)
  · ((try dsimp only); exact K5.out _ HXe.out)
  clear hK K
  refine wpAnyH_ready (rs := [7]) (by kernel_rfl) (by simp) ?_
  refine AllReadyH.cons (o := { dst := some 136, op := Go.Op.convert 22 9 (Go.Operand.tmp 135), type := 9, pos := "law.go:44", after := #[{ on := 6, ground := Go.Ground.data }], guard := none }) rfl (fun K hK => ?_) AllReadyH.nil
  go_simp
  clear hHeld
  refine hK.out _ _ ?_ (fun hHeld => ?_)
  · ((try dsimp only); exact K5.out _ HXe.out)
  clear hK K
  refine wpAnyH_take (i := 8) (oi := { dst := some 137, op := Go.Op.binOp Go.BinOp.eql 9 (Go.Operand.tmp 130) (Go.Operand.tmp 136) 9, type := 4, pos := "law.go:44", after := #[{ on := 1, ground := Go.Ground.data }, { on := 7, ground := Go.Ground.data }], guard := none }) (v := ?_) rfl (by kernel_rfl) (by kernel_rfl) (by kernel_rfl) (fun _ _ _ h => h) (Or.inl ⟨by rfl, ?_⟩) (by assumption) ?_
  rotate_left 1
  · (intro w hSw; (try dsimp only at hSw); go_simp; try with_reducible rfl)
  try simp only [Act.put, List.setIfInBounds_toArray, List.set_cons_zero, List.set_cons_succ]
  refine wpAnyH_take (i := 9) (oi := { dst := some 138, op := Go.Op.move (Go.Operand.tmp 137), type := 4, pos := "law.go:44", after := #[{ on := 8, ground := Go.Ground.data }, { on := 6, ground := Go.Ground.chain }], guard := none }) (v := ?_) rfl (by kernel_rfl) (by kernel_rfl) (by kernel_rfl) (fun _ _ _ h => h) (Or.inl ⟨by rfl, ?_⟩) (by assumption) ?_
  rotate_left 1
  · (intro w hSw; (try dsimp only at hSw); go_simp; try with_reducible rfl)
  try simp only [Act.put, List.setIfInBounds_toArray, List.set_cons_zero, List.set_cons_succ]
  refine wpAnyH_take (i := 10) (oi := { dst := some 139, op := Go.Op.move (Go.Operand.tmp 12), type := 26, pos := "law.go:44", after := #[{ on := 9, ground := Go.Ground.guard }], guard := some (9, true) }) (v := ?_) rfl (by kernel_rfl) (by kernel_rfl) (by kernel_rfl) (fun _ _ _ h => h) (Or.inl ⟨by rfl, ?_⟩) (by assumption) ?_
  rotate_left 1
  · (intro w hSw; (try dsimp only at hSw); go_simp; try with_reducible rfl)
  try simp only [Act.put, List.setIfInBounds_toArray, List.set_cons_zero, List.set_cons_succ]
  refine wpAnyH_take (i := 11) (oi := { dst := some 140, op := Go.Op.binOp Go.BinOp.eql 26 (Go.Operand.tmp 139) (Go.Operand.const (Go.Value.int Go.IntKind.i64 0)) 26, type := 4, pos := "law.go:44", after := #[{ on := 10, ground := Go.Ground.data }, { on := 9, ground := Go.Ground.guard }], guard := some (9, true) }) (v := ?_) rfl (by kernel_rfl) (by kernel_rfl) (by kernel_rfl) (fun _ _ _ h => h) (Or.inl ⟨by rfl, ?_⟩) (by assumption) ?_
  rotate_left 1
  · (intro w hSw; (try dsimp only at hSw); go_simp; try with_reducible rfl)
  try simp only [Act.put, List.setIfInBounds_toArray, List.set_cons_zero, List.set_cons_succ]
  refine wpAnyH_take (i := 12) (oi := { dst := some 141, op := Go.Op.pick (Go.Operand.tmp 138) (Go.Operand.tmp 140) (Go.Operand.const (Go.Value.bool false)), type := 4, pos := "law.go:44", after := #[{ on := 9, ground := Go.Ground.data }, { on := 11, ground := Go.Ground.data }], guard := none }) (v := ?_) rfl (by kernel_rfl) (by kernel_rfl) (by kernel_rfl) (fun _ _ _ h => h) (Or.inl ⟨by rfl, ?_⟩) (by assumption) ?_
  rotate_left 1
  · (intro w hSw; (try dsimp only at hSw); go_simp; try with_reducible rfl)
  try simp only [Act.put, List.setIfInBounds_toArray, List.set_cons_zero, List.set_cons_succ]
  refine wpAnyH_take (i := 13) (oi := { dst := some 142, op := Go.Op.move (Go.Operand.tmp 141), type := 4, pos := "law.go:44", after := #[{ on := 12, ground := Go.Ground.data }, { on := 9, ground := Go.Ground.chain }], guard := none }) (v := ?_) rfl (by kernel_rfl) (by kernel_rfl) (by kernel_rfl) (fun _ _ _ h => h) (Or.inl ⟨by rfl, ?_⟩) (by assumption) ?_
  rotate_left 1
  · (intro w hSw; (try dsimp only at hSw); go_simp; try with_reducible rfl)
  try simp only [Act.put, List.setIfInBounds_toArray, List.set_cons_zero, List.set_cons_succ]
  refine wpAnyH_ready (rs := [14]) (by kernel_rfl) (by simp) ?_
  refine AllReadyH.cons (o := { dst := some 143, op := Go.Op.call { callee := Go.Callee.value (Go.Operand.func 8), args := #[], argTypes := #[] }, type := 4, pos := "law.go:44", after := #[{ on := 13, ground := Go.Ground.chain }, { on := 13, ground := Go.Ground.guard }], guard := some (13, true) }) rfl (fun K hK => ?_) AllReadyH.nil
  go_simp
  go_at_call 8
  (refine (AW.out _).mono ?_); rintro e u4 ⟨rfl, hb⟩; have HXf := Lib.hid (hbx HXe.out hb); have HBf := Lib.hid (HBe.out.trans (hb.mono HBe.out.size)); clear hb
  clear hHeld
  refine hK.out _ _ ?_ (fun hHeld => ?_)
  · ((try dsimp only); exact K5.out _ HXf.out)
  clear hK K
  refine wpAnyH_take (i := 15) (oi := { dst := some 144, op := Go.Op.pick (Go.Operand.tmp 142) (Go.Operand.tmp 143) (Go.Operand.const (Go.Value.bool false)), type := 4, pos := "law.go:44", after := #[{ on := 13, ground := Go.Ground.data }, { on := 14, ground := Go.Ground.data }], guard := none }) (v := ?_) rfl (by kernel_rfl) (by kernel_rfl) (by kernel_rfl) (fun _ _ _ h => h) (Or.inl ⟨by rfl, ?_⟩) (by assumption) ?_
  rotate_left 1
  · (intro w hSw; (try dsimp only at hSw); go_simp; try with_reducible rfl)
  try simp only [Act.put, List.setIfInBounds_toArray, List.set_cons_zero, List.set_cons_succ]
  refine wpAnyH_take (i := 16) (oi := { dst := some 8, op := Go.Op.assign (Go.Operand.tmp 144), type := 4, pos := "law.go:44", after := #[{ on := 15, ground := Go.Ground.data }, { on := 14, ground := Go.Ground.chain }, { on := 0, ground := Go.Ground.phase }, { on := 1, ground := Go.Ground.phase }, { on := 2, ground := Go.Ground.phase }, { on := 3, ground := Go.Ground.phase }, { on := 4, ground := Go.Ground.phase }, { on := 5, ground := Go.Ground.phase }, { on := 6, ground := Go.Ground.phase }, { on := 7, ground := Go.Ground.phase }, { on := 8, ground := Go.Ground.phase }, { on := 9, ground := Go.Ground.phase }, { on := 10, ground := Go.Ground.phase }, { on := 11, ground := Go.Ground.phase }, { on := 12, ground := Go.Ground.phase }, { on := 13, ground := Go.Ground.phase }, { on := 14, ground := Go.Ground.phase }, { on := 15, ground := Go.Ground.phase }], guard := none }) (v := ?_) rfl (by kernel_rfl) (by kernel_rfl) (by kernel_rfl) (fun _ _ _ h => h) (Or.inl ⟨by rfl, ?_⟩) (by assumption) ?_
  rotate_left 1
  · (intro w hSw; (try dsimp only at hSw); go_simp; try with_reducible rfl)
  try simp only [Act.put, List.setIfInBounds_toArray, List.set_cons_zero, List.set_cons_succ]
  refine wpAnyH_done (by kernel_rfl) ?_ _
  refine NoPanic.normal ?_
  go_wp2
  go_ret
  exact ⟨rfl, HBf.out⟩
end Go.Proofs.Ytcnfafappcbpnaa.Str
/- The law HealRegenerates: the walk. -/
namespace Go.Proofs.Ytcnfafappcbpnaa.Hl
open Go Go.RowKit Go.Proofs.Ytcnfafappcbpnaa.Gf Go.Proofs.Ytcnfafappcbpnaa.Gi Go.Proofs.Ytcnfafappcbpnaa.Bits Go.Proofs.Ytcnfafappcbpnaa.Mem Go.Proofs.Ytcnfafappcbpnaa.Alg Go.Proofs.Ytcnfafappcbpnaa.Sol Go.Proofs.Ytcnfafappcbpnaa.VPts Go.Proofs.Ytcnfafappcbpnaa.Str Go.Proofs.Ytcnfafappcbpnaa.Rws Go.Proofs.Ytcnfafappcbpnaa.Par Go.Proofs.Ytcnfafappcbpnaa.BHealFragments Go.Proofs.YtcnfafappcbpnaaW.PrintWords
set_option linter.unusedVariables false

/-- What the program's sum makes is what the document's equations come to. -/
theorem out_same {n k N d a sz lost t : Nat} {s : Nat → Int} {x : Nat → List Int} {m : Nat → Nat} {Z M : Mtx} (k1 : 2 ≤ k) (k2 : k ≤ 8) (n2 : n ≤ 24) (hok : okTo n s m N) (hdN : d ≤ N) (hd : d = 2 * k - 2) (ha : a = k - 1) (s1 : 1 ≤ sz) (hxb : ∀ q i, Byt ((x q).getD i 0))
    (hZ : BytM Z) (hs : ∀ i, i < d → ∀ q, q < d → dotF d (el (powM (ptS n k s)) i) (fun j => G.of (Z j q)) = G.of (idM i q)) (hst : StepsTo d (augX d (ptS n k s) x) (d + sz) t M) :
    line (a * sz) (fun pos => outT x a Z ((gp (ptN n k lost) a : Nat) : Int) (pos / sz) (pos % sz) d) = line (a * sz) (outR d sz a ((gp (ptN n k lost) a : Nat) : Int) M) := by
  have hf : ∀ i, ptS n k s i < 256 := fun i => ptN_lt n k _
  refine line_congr _ _ _ (fun pos hp => ?_)
  have h1 : pos % sz < sz := Nat.mod_lt _ (by omega)
  have h2 : pos / sz < a := Nat.div_lt_of_lt_mul (by rw [Nat.mul_comm]; exact hp)
  exact regen_eq (d := d) (P := a) (m := d + sz) (l := d + pos % sz) (A := powM (ptS n k s)) (D := fun i => (x i).getD (pos % sz) 0) (powM_byt hf) hZ (augX_byt hf hxb) (fun q => hxb q _) (gp_byt _ _ (ptN_lt n k lost))
    (powM_inj hf (fun i j hi hj e => ptS_inj k1 k2 n2 hok hdN i j hi hj e)) hs (by omega) (by omega) hst (fun i j hi hj => by unfold augX; rw [if_pos hj]) (fun i hi => by unfold augX; rw [if_neg (by omega), Nat.add_sub_cancel_left]) (pos / sz) (by omega)
set_option maxRecDepth 100000 in
theorem hr_no (n k lost : Int) (A : Option Addr) (L c : Nat) (w : World) (h : ¬ (2 ≤ k ∧ k ≤ 4 ∧ 2 * k - 1 ≤ n ∧ n ≤ 12)) :
    Calls Try.prog 4 #[.int .i64 n, .int .i64 k, .int .i64 lost, .slice A L c] w fun e w' => e = .returned (.bool true) ∧ Below w.heap.size w w' := by
  have SM := Lib.hid (small_calls n k false w (decide_eq_false h))
  have AW := Lib.hid awake_calls
  clear h
  go_enter Try.func4, Try.ntmps4
  go_wp2_with (first | (go_at_call 7; (with_reducible refine SM.out.mono ?_); rintro e w1 ⟨rfl, hb⟩; have HB1 := Lib.hid hb; clear hb) | (go_at_call 8; (with_reducible refine (AW.out _).mono ?_); rintro e w9 ⟨rfl, hb⟩; have HB9 := Lib.hid (HB1.out.trans (hb.mono HB1.out.size)); clear hb))
  go_ret
  exact ⟨rfl, HB9.out⟩
set_option maxRecDepth 100000 in
theorem hr_long (n k lost : Int) (A : Option Addr) (L c : Nat) (w : World) (h : 2 ≤ k ∧ k ≤ 4 ∧ 2 * k - 1 ≤ n ∧ n ≤ 12) (hL : 30 < L) :
    Calls Try.prog 4 #[.int .i64 n, .int .i64 k, .int .i64 lost, .slice A L c] w fun e w' => e = .returned (.bool true) ∧ Below w.heap.size w w' := by
  have SM := Lib.hid (small_calls n k true w (decide_eq_true h))
  have AW := Lib.hid awake_calls
  have q1 : (30 : Int) < (L : Int) := by omega
  clear h hL
  go_enter Try.func4, Try.ntmps4
  go_wp2_with (first | (go_at_call 7; (with_reducible refine SM.out.mono ?_); rintro e w1 ⟨rfl, hb⟩; have HB1 := Lib.hid hb; clear hb) | (go_at_call 8; (with_reducible refine (AW.out _).mono ?_); rintro e w9 ⟨rfl, hb⟩; have HB9 := Lib.hid (HB1.out.trans (hb.mono HB1.out.size)); clear hb))
  go_ret
  exact ⟨rfl, HB9.out⟩
set_option maxRecDepth 100000 in
set_option maxHeartbeats 8000000 in
theorem hr_main (n k N c : Nat) (lost : Int) (A : Option Addr) (s : Nat → Int) (h : Nat → Hd) (x : Nat → List Int) (w : World) (hp : PA w A N s h x) (hxb : ∀ q i, Byt ((x q).getD i 0)) (k1 : 2 ≤ k) (k2 : k ≤ 4) (n1 : 2 * k - 1 ≤ n) (n2 : n ≤ 12) (hN : N ≤ 30) (hNc : N ≤ c) :
    Calls Try.prog 4 #[.int .i64 n, .int .i64 k, .int .i64 lost, .slice A N c] w fun e w' => e = .returned (.bool true) ∧ Below w.heap.size w w' := by
  have SM := Lib.hid (small_calls n k true w (decide_eq_true (by omega)))
  have AW := Lib.hid awake_calls
  have NC := Lib.hid (fun W => new_codeP n k W k1 (by omega) n1 (by omega))
  have HP := Lib.hid (fun W (hB : Below w.heap.size w W) => hp.below hB)
  obtain ⟨m, hm⟩ : ∃ m : Nat → Nat, m = fun i => (x i).length := ⟨_, rfl⟩
  have HM := Lib.hid (show ∀ i, (x i).length = m i by rw [hm]; exact fun _ => rfl)
  have HXB := Lib.hid hxb
  have HKN := Lib.hid (And.intro (And.intro k1 k2) (And.intro n1 n2))
  have HNC := Lib.hid hNc
  have q1 : ¬ (30 : Int) < (N : Int) := by omega
  have q2 : decide ((N : Int) > 30) = false := by simp; omega
  clear hp hm hxb k1 k2 n1 n2 hNc
  go_enter Try.func4, Try.ntmps4
  go_upto_region 4 with (go_at_call 7; (with_reducible refine SM.out.mono ?_); rintro e w1 ⟨rfl, hb⟩; have HB1 := Lib.hid hb; clear hb)
  go_loopw [9] (fun iv wr => ∃ (i : Nat), i ≤ N ∧ iv = .int .i64 i ∧ Hid (∀ j, j < i → m j ≤ 60) ∧ Hid (Below w.heap.size w wr)) (fun iv _ => N - (intOf iv).toNat)
  case atStart => exact ⟨0, by omega, rfl, Lib.hid (fun j hj => absurd hj (Nat.not_lt_zero j)), HB1⟩
  case round =>
    clear HB1
    obtain ⟨i, hi, rfl, HL, HB1⟩ := hrel
    by_cases hlt : i < N
    · have g1 : (i : Int) < (N : Int) := by omega
      have g2 : (0 : Int) ≤ (i : Int) := by omega
      obtain ⟨ad, rfl, _, kc, kl, _⟩ := HP.out wr HB1.out i hlt
      obtain ⟨⟨A2, m2, c2⟩, hh2⟩ : ∃ q, q = h i := ⟨_, rfl⟩
      rw [← hh2] at kc kl
      have hk2 : wr.cell? ⟨(ad.add (i * 2)).block, (ad.add (i * 2)).off + 1, none⟩ = some (.slice A2 m2 c2) := kc
      have HMI := Lib.hid (show m i = m2 by rw [← HM.out]; exact kl)
      clear kc kl hh2
      by_cases h60 : 60 < m2
      · have g3 : (60 : Int) < (m2 : Int) := by omega
        go_wp2_with (go_at_call 8; (with_reducible refine (AW.out _).mono ?_); rintro e w9 ⟨rfl, hb⟩; have HB9 := Lib.hid (HB1.out.trans (hb.mono HB1.out.size)); clear hb)
        go_ret
        exact ⟨rfl, HB9.out⟩
      · have g3 : ¬ (60 : Int) < (m2 : Int) := by omega
        go_wp2
        go_roundw
        case rel => exact ⟨i + 1, by omega, by go_num, Lib.hid (fun j hj => by
          rcases Nat.lt_or_ge j i with hh | hh
          · exact HL.out j hh
          · obtain rfl : j = i := by omega
            rw [HMI.out]; omega), HB1⟩
        case measure => simp [intOf]; omega
    · obtain rfl : N = i := by omega
      have PC := Lib.hid (fun W hB => parted_any n N c A s h x W (HP.out W hB) m HM.out (by omega))
      go_upto_region 9 with (go_at_call 13; (with_reducible refine (PC.out _ HB1.out).mono ?_); rintro e wP ⟨A5, A6, c5, c6, ok, rfl, hok, hc5, hc6, hC5, hC6, hb⟩; have HOK := Lib.hid hok; have HC5 := Lib.hid hC5; have HC6 := Lib.hid hC6; have HBn := Lib.hid (HB1.out.trans (hb.mono HB1.out.size)); clear HB1 hok hc5 hc6 hC5 hC6 hb; have HB1 := HBn; clear HBn)
      clear PC
      have HX0 := Lib.hid (Below.refl wP.heap.size wP)
      go_cut [12] (fun v wc => ∃ (b : Bool), v = .bool b ∧ Hid (b = true ↔ okTo n s m N ∧ 0 ≤ lost ∧ lost < n) ∧ Hid (Below wP.heap.size wP wc))
      case first =>
        cases ok
        case false =>
          go_wp2
          go_meet
          case rel => exact ⟨false, rfl, Lib.hid ⟨fun e => Bool.noConfusion e, fun e => by have h := HOK.out.2 e.1; first | exact h.elim | cases h⟩, HX0⟩
        case true =>
          by_cases h1 : 0 ≤ lost
          · by_cases h2 : lost < n
            · go_wp2
              go_meet
              case rel => exact ⟨true, rfl, Lib.hid ⟨fun _ => ⟨HOK.out.1 (by first | rfl | trivial), h1, h2⟩, fun _ => rfl⟩, HX0⟩
            · have h2' : decide (lost < (n : Int)) = false := by simp; omega
              go_wp2
              go_meet
              case rel => exact ⟨false, rfl, Lib.hid ⟨fun e => Bool.noConfusion e, fun e => absurd e.2.2 (by omega)⟩, HX0⟩
          · have h1' : decide (lost ≥ 0) = false := by simp; omega
            go_wp2
            go_meet
            case rel => exact ⟨false, rfl, Lib.hid ⟨fun e => Bool.noConfusion e, fun e => absurd e.2.1 (by omega)⟩, HX0⟩
      case rest =>
        clear HX0
        obtain ⟨b0, rfl, HI0, HQ0⟩ := hcut
        go_wp2
        go_loopw [12, 13] (fun ov iv wr => ∃ (i : Nat) (b : Bool), i ≤ N ∧ iv = .int .i64 i ∧ ov = .bool b ∧ Hid (b = true ↔ (okTo n s m N ∧ 0 ≤ lost ∧ lost < n) ∧ ∀ j, j < i → s j ≠ lost) ∧ Hid (Below wP.heap.size wP wr)) (fun _ iv _ => N - (intOf iv).toNat)
        case atStart => exact ⟨0, b0, by omega, rfl, rfl, Lib.hid (by rw [HI0.out]; exact ⟨fun e => ⟨e, fun j hj => absurd hj (Nat.not_lt_zero j)⟩, fun e => e.1⟩), HQ0⟩
        case round =>
          clear HI0 HQ0
          obtain ⟨i, b, hi, rfl, rfl, HI, HQ⟩ := hrel
          by_cases hlt : i < N
          · have g1 : (i : Int) < (N : Int) := by omega
            have g2 : (0 : Int) ≤ (i : Int) := by omega
            cases b
            case false =>
              go_wp2
              go_roundw
              case rel => exact ⟨i + 1, false, by omega, by go_num, rfl, Lib.hid ⟨fun e => Bool.noConfusion e, fun e => by have h := HI.out.2 ⟨e.1, fun j hj => e.2 j (by omega)⟩; first | exact h.elim | cases h⟩, HQ⟩
              case measure => simp [intOf]; omega
            case true =>
              obtain ⟨ad, rfl, kc⟩ := int_row (Kd.C_below HC5.out HQ.out) i hlt
              obtain ⟨si, hsi⟩ : ∃ si, si = s i := ⟨_, rfl⟩
              rw [← hsi] at kc
              have HSI := Lib.hid hsi
              clear hsi
              have HI2 := Lib.hid (HI.out.1 rfl)
              clear HI
              by_cases he : si = lost
              · have he' : (si != lost) = false := by simp [he]
                go_wp2
                go_roundw
                case rel => exact ⟨i + 1, false, by omega, by go_num, rfl, Lib.hid ⟨fun e => Bool.noConfusion e, fun e => absurd (by rw [← HSI.out]; exact he) (e.2 i (by omega))⟩, HQ⟩
                case measure => simp [intOf]; omega
              · have he' : (si != lost) = true := by simp [he]
                go_wp2
                go_roundw
                case rel => exact ⟨i + 1, true, by omega, by go_num, rfl, Lib.hid ⟨fun _ => ⟨HI2.out.1, fun j hj => by
                  rcases Nat.lt_or_ge j i with hh | hh
                  · exact HI2.out.2 j hh
                  · obtain rfl : j = i := by omega
                    rw [← HSI.out]; exact he⟩, fun _ => rfl⟩, HQ⟩
                case measure => simp [intOf]; omega
          · obtain rfl : N = i := by omega
            have HBq := HB1
            have HBn := Lib.hid (HB1.out.trans (HQ.out.mono HB1.out.size))
            clear HB1
            have HB1 := HBn
            clear HBn
            have RGA := Lib.hid (fun v W (hB : Below w.heap.size w W) (hc : IsCodeP W v n k) => show RgArgs v n k N A s h x m W from ⟨hc, HKN.out.1.1, by have := HKN.out.1.2; omega, by have := HKN.out.2.2; omega, HP.out W hB, HM.out, by omega⟩)
            clear hlt hi
            cases b
            case false =>
              have RB := Lib.hid (fun v W (hB : Below w.heap.size w W) (hc : IsCodeP W v n k) => regen_bad v n k N c lost A s h x m W (RGA.out v W hB hc) (fun e => by have h := HI.out.2 ⟨⟨e.2.2.1, e.1, e.2.1⟩, e.2.2.2⟩; first | exact h.elim | cases h))
              clear HI RGA HC5 HC6 HQ HBq
              go_wp2_with (first
                | (go_at_call 9; (with_reducible refine (NC.out _).mono ?_); rintro e w2 ⟨v, rfl, hcd, hb⟩; have HV := Lib.hid hcd; have HBn := Lib.hid (HB1.out.trans (hb.mono HB1.out.size)); clear HB1 hb hcd; have HB1 := HBn; clear HBn)
                | (go_at_call 14; (with_reducible refine (regen_nil _ _ _ _ _).mono ?_); rintro e u ⟨rfl, hu⟩; have hu' := hu.symm; subst hu'; clear hu)
                | (go_at_call 14; (with_reducible refine (RB.out v _ HB1.out HV.out).mono ?_); rintro e w4 ⟨rfl, hb⟩; have HBn := Lib.hid (HB1.out.trans (hb.mono HB1.out.size)); clear HB1 HV hb; have HB1 := HBn; clear HBn)
                | (go_at_call 8; (with_reducible refine (AW.out _).mono ?_); rintro e w9 ⟨rfl, hb⟩; have HB9 := Lib.hid (HB1.out.trans (hb.mono HB1.out.size)); clear hb))
              go_ret
              exact ⟨rfl, HB9.out⟩
            case true =>
              have HI2 := HI.out.1 rfl
              obtain ⟨l0, rfl⟩ := Int.eq_ofNat_of_zero_le HI2.1.2.1
              have HG := Lib.hid (And.intro HI2.1.1 HI2.2)
              have hl0 : l0 < n := by have := HI2.1.2.2; omega
              have hk := HKN.out
              have d3 : IntKind.i64.wrap (2 * (k : Int)) = 2 * (k : Int) := IntWalk.i64_in _ (by omega)
              obtain ⟨d, hd⟩ : ∃ d, d = 2 * k - 2 := ⟨_, rfl⟩
              have d4 : IntKind.i64.wrap (2 * (k : Int) - 2) = (d : Int) := by rw [IntWalk.i64_in _ (by omega)]; omega
              have d5 : 2 * (k : Int) - 2 = (d : Int) := by omega
              have d6 : wrap64 (d : Int) = (d : Int) := wrap64_in _ (by omega) (by omega)
              have HD := Lib.hid hd
              have HL0 := Lib.hid hl0
              clear HI HI2 hk hd hl0
              by_cases hfew : N < d
              · have g3 : (N : Int) < (d : Int) := by omega
                have RB := Lib.hid (fun v W (hB : Below w.heap.size w W) (hc : IsCodeP W v n k) => regen_few v n k N c l0 A s h x m W (RGA.out v W hB hc) HL0.out HG.out (by rw [← HD.out]; exact hfew))
                clear RGA HC5 HC6 HQ HBq hfew
                go_wp2_with (first
                  | (go_at_call 9; (with_reducible refine (NC.out _).mono ?_); rintro e w2 ⟨v, rfl, hcd, hb⟩; have HV := Lib.hid hcd; have HBn := Lib.hid (HB1.out.trans (hb.mono HB1.out.size)); clear HB1 hb hcd; have HB1 := HBn; clear HBn)
                  | (go_at_call 14; (with_reducible refine (regen_nil _ _ _ _ _).mono ?_); rintro e u ⟨rfl, hu⟩; have hu' := hu.symm; subst hu'; clear hu)
                  | (go_at_call 14; (with_reducible refine (RB.out v _ HB1.out HV.out).mono ?_); rintro e w4 ⟨rfl, hb⟩; have HBn := Lib.hid (HB1.out.trans (hb.mono HB1.out.size)); clear HB1 HV hb; have HB1 := HBn; clear HBn)
                  | (go_at_call 8; (with_reducible refine (AW.out _).mono ?_); rintro e w9 ⟨rfl, hb⟩; have HB9 := Lib.hid (HB1.out.trans (hb.mono HB1.out.size)); clear hb))
                go_ret
                exact ⟨rfl, HB9.out⟩
              · have g3 : ¬ (N : Int) < (d : Int) := by omega
                obtain ⟨sz, hsz⟩ : ∃ sz, sz = m 0 := ⟨_, rfl⟩
                have hk := HKN.out
                have hd2 : d ≤ N ∧ 2 ≤ d ∧ d ≤ 6 := by have := HD.out; omega
                have HSZ := Lib.hid (show 1 ≤ sz ∧ sz ≤ 60 by
                  rw [hsz]
                  exact ⟨(HG.out.1 0 (by omega)).2.2.1, HL.out 0 (by omega)⟩)
                have HSE := Lib.hid hsz
                have RB := Lib.hid (fun v W (hB : Below w.heap.size w W) (hc : IsCodeP W v n k) => regen_good v n k N c l0 sz A s h x m W (RGA.out v W hB hc) HL0.out HG.out (by rw [← HD.out]; exact hd2.1) HNC.out HSE.out.symm (by have := HSZ.out; omega) HXB.out)
                have RF0 := Lib.hid (fun W (hB : Below wP.heap.size wP W) => rregen_any n k N c5 c6 l0 sz d (k - 1) A5 A6 s x W (by omega) (by omega) (by omega) HL0.out HD.out rfl hd2.1 (by omega) (Kd.C_below HC5.out hB) (Kd.C_below HC6.out hB) (fun i hi => ⟨(HG.out.1 i hi).1, (HG.out.1 i hi).2.1⟩) (fun i hi => by rw [HM.out, (HG.out.1 i hi).2.2.2.1, HSE.out]) HXB.out HSZ.out.1 (by have := HSZ.out; omega))
                have OS := Lib.hid (fun Z M t hZ hs hst => out_same (lost := l0) (t := t) (Z := Z) (M := M) (by omega) (by omega) (by omega) HG.out.1 hd2.1 HD.out rfl HSZ.out.1 HXB.out hZ hs hst)
                clear RGA hfew hk hd2 hsz HC5 HC6
                go_upto_region 23 with (first
                  | (go_at_call 9; (with_reducible refine (NC.out _).mono ?_); rintro e w2 ⟨v, rfl, hcd, hb⟩; have HV := Lib.hid hcd; have HBn := Lib.hid (HB1.out.trans (hb.mono HB1.out.size)); have HQn := Lib.hid (HQ.out.trans (hb.mono HQ.out.size)); clear HB1 HQ hb hcd; have HB1 := HBn; have HQ := HQn; clear HBn HQn)
                  | (go_at_call 14; (with_reducible refine (regen_nil _ _ _ _ _).mono ?_); rintro e u ⟨rfl, hu⟩; have hu' := hu.symm; subst hu'; clear hu)
                  | (go_at_call 14; (with_reducible refine (RB.out v _ HB1.out HV.out).mono ?_); rintro e w5 ⟨Z, A7, c7, hZ, hs, rfl, hr, hb⟩; have HR7 := Lib.hid hr; have HZ7 := Lib.hid (And.intro hZ hs); have HBn := Lib.hid (HB1.out.trans (hb.mono HB1.out.size)); have HQn := Lib.hid (HQ.out.trans (hb.mono HQ.out.size)); clear HB1 HQ HV hb hZ hs hr; have HB1 := HBn; have HQ := HQn; clear HBn HQn))
                obtain ⟨fr, hfr⟩ : ∃ fr, fr = line ((k - 1) * sz) (fun pos => outT x (k - 1) Z ((gp (ptN n k l0) (k - 1) : Nat) : Int) (pos / sz) (pos % sz) d) := ⟨_, rfl⟩
                obtain ⟨LL, hLL⟩ : ∃ LL, LL = (k - 1) * sz := ⟨_, rfl⟩
                have HC7 := Lib.hid (show (Kd.int .u8).C w5 A7 LL fr by
                  have h := (Kd.R_reads' HR7.out).2.2
                  rw [line_len] at h
                  rw [hLL, hfr, HD.out]
                  exact h)
                have RF := Lib.hid (fun W (hB : Below wP.heap.size wP W) => show Calls Try.prog 15 #[.int .i64 n, .int .i64 k, .int .i64 l0, .slice A5 N c5, .slice A6 N c6] W fun e w' => ∃ A c, e = .returned (.slice A LL c) ∧ (Kd.int .u8).C w' A LL fr ∧ Below W.heap.size W w' from (RF0.out W hB).mono (by
                  rintro e w' ⟨A9, c9, t, M, rfl, hst, hC, hb⟩
                  refine ⟨A9, c9, by rw [hLL], ?_, hb⟩
                  rw [hLL, hfr, OS.out Z M t HZ7.out.1 (by rw [HD.out]; exact HZ7.out.2) hst]
                  exact hC))
                have HRL := Lib.hid hLL
                clear RF0 OS HZ7 HR7 hfr
                rw [← hLL]
                clear hLL
                have HX := Lib.hid (Below.refl w5.heap.size w5)
                have hbx : ∀ {W W' : World}, Below w5.heap.size w5 W → Below W.heap.size W W' → Below w5.heap.size w5 W' := fun h h' => h.trans (h'.mono h.size)
                have K5 := Lib.hid (fun W (hB : Below w5.heap.size w5 W) => str_any (c := c7) HC7.out W hB)
                have HXd := Lib.hid (show Below w5.heap.size w5 w5.drew from HX.out.drew)
                have HBd := Lib.hid (show Below w.heap.size w w5.drew from HB1.out.drew)
                have HQd := Lib.hid (show Below wP.heap.size wP w5.drew from HQ.out.drew)
                refine wp_region_noPanic ?_
                refine wp_region_held_drew (S := (fun W => (convert 22 9 (.slice A7 LL c7)).run Try.prog W = .ok (.string (strOfNums fr)) W)) (by kernel_rfl) ?_ (fun hHeld => ?_)
                · ((try dsimp only); exact K5.out _ HXd.out)
                refine wpAnyH_take (i := 0) (oi := { dst := some 125, op := Go.Op.move (Go.Operand.tmp 16), type := 22, pos := "law.go:89", after := #[], guard := none }) (v := ?_) rfl (by kernel_rfl) (by kernel_rfl) (by kernel_rfl) (fun _ _ _ h => h) (Or.inl ⟨by rfl, ?_⟩) (by assumption) ?_
                rotate_left 1
                · (intro w hSw; (try dsimp only at hSw); go_simp; try with_reducible rfl)
                try simp only [Act.put, List.setIfInBounds_toArray, List.set_cons_zero, List.set_cons_succ]
                refine wpAnyH_take (i := 1) (oi := { dst := some 126, op := Go.Op.convert 22 9 (Go.Operand.tmp 125), type := 9, pos := "law.go:89", after := #[{ on := 0, ground := Go.Ground.data }], guard := none }) (v := ?_) rfl (by kernel_rfl) (by kernel_rfl) (by kernel_rfl) (fun _ _ _ h => h) (Or.inl ⟨by rfl, ?_⟩) (by assumption) ?_
                rotate_left 1
                · (intro w hSw; (try dsimp only at hSw); go_simp; try with_reducible rfl)
                try simp only [Act.put, List.setIfInBounds_toArray, List.set_cons_zero, List.set_cons_succ]
                refine wpAnyH_take (i := 2) (oi := { dst := some 127, op := Go.Op.move (Go.Operand.tmp 0), type := 3, pos := "law.go:89", after := #[], guard := none }) (v := ?_) rfl (by kernel_rfl) (by kernel_rfl) (by kernel_rfl) (fun _ _ _ h => h) (Or.inl ⟨by rfl, ?_⟩) (by assumption) ?_
                rotate_left 1
                · (intro w hSw; (try dsimp only at hSw); go_simp; try with_reducible rfl)
                try simp only [Act.put, List.setIfInBounds_toArray, List.set_cons_zero, List.set_cons_succ]
                refine wpAnyH_take (i := 3) (oi := { dst := some 128, op := Go.Op.move (Go.Operand.tmp 1), type := 3, pos := "law.go:89", after := #[], guard := none }) (v := ?_) rfl (by kernel_rfl) (by kernel_rfl) (by kernel_rfl) (fun _ _ _ h => h) (Or.inl ⟨by rfl, ?_⟩) (by assumption) ?_
                rotate_left 1
                · (intro w hSw; (try dsimp only at hSw); go_simp; try with_reducible rfl)
                try simp only [Act.put, List.setIfInBounds_toArray, List.set_cons_zero, List.set_cons_succ]
                refine wpAnyH_take (i := 4) (oi := { dst := some 129, op := Go.Op.move (Go.Operand.tmp 2), type := 3, pos := "law.go:89", after := #[], guard := none }) (v := ?_) rfl (by kernel_rfl) (by kernel_rfl) (by kernel_rfl) (fun _ _ _ h => h) (Or.inl ⟨by rfl, ?_⟩) (by assumption) ?_
                rotate_left 1
                · (intro w hSw; (try dsimp only at hSw); go_simp; try with_reducible rfl)
                try simp only [Act.put, List.setIfInBounds_toArray, List.set_cons_zero, List.set_cons_succ]
                refine wpAnyH_take (i := 5) (oi := { dst := some 130, op := Go.Op.move (Go.Operand.tmp 10), type := 38, pos := "law.go:89", after := #[], guard := none }) (v := ?_) rfl (by kernel_rfl) (by kernel_rfl) (by kernel_rfl) (fun _ _ _ h => h) (Or.inl ⟨by rfl, ?_⟩) (by assumption) ?_
                rotate_left 1
                · (intro w hSw; (try dsimp only at hSw); go_simp; try with_reducible rfl)
                try simp only [Act.put, List.setIfInBounds_toArray, List.set_cons_zero, List.set_cons_succ]
                refine wpAnyH_take (i := 6) (oi := { dst := some 131, op := Go.Op.move (Go.Operand.tmp 11), type := 39, pos := "law.go:89", after := #[], guard := none }) (v := ?_) rfl (by kernel_rfl) (by kernel_rfl) (by kernel_rfl) (fun _ _ _ h => h) (Or.inl ⟨by rfl, ?_⟩) (by assumption) ?_
                rotate_left 1
                · (intro w hSw; (try dsimp only at hSw); go_simp; try with_reducible rfl)
                try simp only [Act.put, List.setIfInBounds_toArray, List.set_cons_zero, List.set_cons_succ]
                refine wpAnyH_ready (rs := [7]) (by kernel_rfl) (by simp) ?_
                refine AllReadyH.cons (o := { dst := some 132, op := Go.Op.call { callee := Go.Callee.value (Go.Operand.func 15), args := #[Go.Operand.tmp 127, Go.Operand.tmp 128, Go.Operand.tmp 129, Go.Operand.tmp 130, Go.Operand.tmp 131], argTypes := #[3, 3, 3, 38, 39] }, type := 22, pos := "law.go:89", after := #[{ on := 2, ground := Go.Ground.data }, { on := 3, ground := Go.Ground.data }, { on := 4, ground := Go.Ground.data }, { on := 5, ground := Go.Ground.data }, { on := 6, ground := Go.Ground.data }], guard := none }) rfl (fun K hK => ?_) AllReadyH.nil
                go_simp
                go_at_call 15
                (refine (RF.out _ HQd.out).mono ?_); rintro e u1 ⟨A8, c8, rfl, hC8, hb⟩; have k8 := str_any (c := c8) hC8 u1 (Below.refl _ _); have HXe := Lib.hid (hbx HXd.out hb); have HBe := Lib.hid (HBd.out.trans (hb.mono HBd.out.size)); clear hb hC8
                clear hHeld
                refine hK.out _ _ ?_ (fun hHeld => ?_)
                · ((try dsimp only); exact K5.out _ HXe.out)
                clear hK K
                refine wpAnyH_ready (rs := [8]) (by kernel_rfl) (by simp) ?_
                refine AllReadyH.cons (o := { dst := some 133, op := Go.Op.convert 22 9 (Go.Operand.tmp 132), type := 9, pos := "law.go:89", after := #[{ on := 7, ground := Go.Ground.data }], guard := none }) rfl (fun K hK => ?_) AllReadyH.nil
                go_simp
                clear hHeld
                refine hK.out _ _ ?_ (fun hHeld => ?_)
                · ((try dsimp only); exact K5.out _ HXe.out)
                clear hK K
                refine wpAnyH_take (i := 9) (oi := { dst := some 134, op := Go.Op.binOp Go.BinOp.eql 9 (Go.Operand.tmp 126) (Go.Operand.tmp 133) 9, type := 4, pos := "law.go:89", after := #[{ on := 1, ground := Go.Ground.data }, { on := 8, ground := Go.Ground.data }], guard := none }) (v := ?_) rfl (by kernel_rfl) (by kernel_rfl) (by kernel_rfl) (fun _ _ _ h => h) (Or.inl ⟨by rfl, ?_⟩) (by assumption) ?_
                rotate_left 1
                · (intro w hSw; (try dsimp only at hSw); go_simp; try with_reducible rfl)
                try simp only [Act.put, List.setIfInBounds_toArray, List.set_cons_zero, List.set_cons_succ]
                refine wpAnyH_take (i := 10) (oi := { dst := some 135, op := Go.Op.move (Go.Operand.tmp 134), type := 4, pos := "law.go:89", after := #[{ on := 9, ground := Go.Ground.data }, { on := 7, ground := Go.Ground.chain }], guard := none }) (v := ?_) rfl (by kernel_rfl) (by kernel_rfl) (by kernel_rfl) (fun _ _ _ h => h) (Or.inl ⟨by rfl, ?_⟩) (by assumption) ?_
                rotate_left 1
                · (intro w hSw; (try dsimp only at hSw); go_simp; try with_reducible rfl)
                try simp only [Act.put, List.setIfInBounds_toArray, List.set_cons_zero, List.set_cons_succ]
                refine wpAnyH_take (i := 11) (oi := { dst := some 136, op := Go.Op.move (Go.Operand.tmp 17), type := 26, pos := "law.go:89", after := #[{ on := 10, ground := Go.Ground.guard }], guard := some (10, true) }) (v := ?_) rfl (by kernel_rfl) (by kernel_rfl) (by kernel_rfl) (fun _ _ _ h => h) (Or.inl ⟨by rfl, ?_⟩) (by assumption) ?_
                rotate_left 1
                · (intro w hSw; (try dsimp only at hSw); go_simp; try with_reducible rfl)
                try simp only [Act.put, List.setIfInBounds_toArray, List.set_cons_zero, List.set_cons_succ]
                refine wpAnyH_take (i := 12) (oi := { dst := some 137, op := Go.Op.binOp Go.BinOp.eql 26 (Go.Operand.tmp 136) (Go.Operand.const (Go.Value.int Go.IntKind.i64 0)) 26, type := 4, pos := "law.go:89", after := #[{ on := 11, ground := Go.Ground.data }, { on := 10, ground := Go.Ground.guard }], guard := some (10, true) }) (v := ?_) rfl (by kernel_rfl) (by kernel_rfl) (by kernel_rfl) (fun _ _ _ h => h) (Or.inl ⟨by rfl, ?_⟩) (by assumption) ?_
                rotate_left 1
                · (intro w hSw; (try dsimp only at hSw); go_simp; try with_reducible rfl)
                try simp only [Act.put, List.setIfInBounds_toArray, List.set_cons_zero, List.set_cons_succ]
                refine wpAnyH_take (i := 13) (oi := { dst := some 138, op := Go.Op.pick (Go.Operand.tmp 135) (Go.Operand.tmp 137) (Go.Operand.const (Go.Value.bool false)), type := 4, pos := "law.go:89", after := #[{ on := 10, ground := Go.Ground.data }, { on := 12, ground := Go.Ground.data }], guard := none }) (v := ?_) rfl (by kernel_rfl) (by kernel_rfl) (by kernel_rfl) (fun _ _ _ h => h) (Or.inl ⟨by rfl, ?_⟩) (by assumption) ?_
                rotate_left 1
                · (intro w hSw; (try dsimp only at hSw); go_simp; try with_reducible rfl)
                try simp only [Act.put, List.setIfInBounds_toArray, List.set_cons_zero, List.set_cons_succ]
                refine wpAnyH_take (i := 14) (oi := { dst := some 139, op := Go.Op.move (Go.Operand.tmp 138), type := 4, pos := "law.go:89", after := #[{ on := 13, ground := Go.Ground.data }, { on := 10, ground := Go.Ground.chain }], guard := none }) (v := ?_) rfl (by kernel_rfl) (by kernel_rfl) (by kernel_rfl) (fun _ _ _ h => h) (Or.inl ⟨by rfl, ?_⟩) (by assumption) ?_
                rotate_left 1
                · (intro w hSw; (try dsimp only at hSw); go_simp; try with_reducible rfl)
                try simp only [Act.put, List.setIfInBounds_toArray, List.set_cons_zero, List.set_cons_succ]
                refine wpAnyH_ready (rs := [15]) (by kernel_rfl) (by simp) ?_
                refine AllReadyH.cons (o := { dst := some 140, op := Go.Op.call { callee := Go.Callee.value (Go.Operand.func 8), args := #[], argTypes := #[] }, type := 4, pos := "law.go:89", after := #[{ on := 14, ground := Go.Ground.chain }, { on := 14, ground := Go.Ground.guard }], guard := some (14, true) }) rfl (fun K hK => ?_) AllReadyH.nil
                go_simp
                go_at_call 8
                (refine (AW.out _).mono ?_); rintro e u4 ⟨rfl, hb⟩; have HXf := Lib.hid (hbx HXe.out hb); have HBf := Lib.hid (HBe.out.trans (hb.mono HBe.out.size)); clear hb
                clear hHeld
                refine hK.out _ _ ?_ (fun hHeld => ?_)
                · ((try dsimp only); exact K5.out _ HXf.out)
                clear hK K
                refine wpAnyH_take (i := 16) (oi := { dst := some 141, op := Go.Op.pick (Go.Operand.tmp 139) (Go.Operand.tmp 140) (Go.Operand.const (Go.Value.bool false)), type := 4, pos := "law.go:89", after := #[{ on := 14, ground := Go.Ground.data }, { on := 15, ground := Go.Ground.data }], guard := none }) (v := ?_) rfl (by kernel_rfl) (by kernel_rfl) (by kernel_rfl) (fun _ _ _ h => h) (Or.inl ⟨by rfl, ?_⟩) (by assumption) ?_
                rotate_left 1
                · (intro w hSw; (try dsimp only at hSw); go_simp; try with_reducible rfl)
                try simp only [Act.put, List.setIfInBounds_toArray, List.set_cons_zero, List.set_cons_succ]
                refine wpAnyH_take (i := 17) (oi := { dst := some 8, op := Go.Op.assign (Go.Operand.tmp 141), type := 4, pos := "law.go:89", after := #[{ on := 16, ground := Go.Ground.data }, { on := 15, ground := Go.Ground.chain }, { on := 0, ground := Go.Ground.phase }, { on := 1, ground := Go.Ground.phase }, { on := 2, ground := Go.Ground.phase }, { on := 3, ground := Go.Ground.phase }, { on := 4, ground := Go.Ground.phase }, { on := 5, ground := Go.Ground.phase }, { on := 6, ground := Go.Ground.phase }, { on := 7, ground := Go.Ground.phase }, { on := 8, ground := Go.Ground.phase }, { on := 9, ground := Go.Ground.phase }, { on := 10, ground := Go.Ground.phase }, { on := 11, ground := Go.Ground.phase }, { on := 12, ground := Go.Ground.phase }, { on := 13, ground := Go.Ground.phase }, { on := 14, ground := Go.Ground.phase }, { on := 15, ground := Go.Ground.phase }, { on := 16, ground := Go.Ground.phase }], guard := none }) (v := ?_) rfl (by kernel_rfl) (by kernel_rfl) (by kernel_rfl) (fun _ _ _ h => h) (Or.inl ⟨by rfl, ?_⟩) (by assumption) ?_
                rotate_left 1
                · (intro w hSw; (try dsimp only at hSw); go_simp; try with_reducible rfl)
                try simp only [Act.put, List.setIfInBounds_toArray, List.set_cons_zero, List.set_cons_succ]
                refine wpAnyH_done (by kernel_rfl) ?_ _
                refine NoPanic.normal ?_
                go_wp2
                go_ret
                exact ⟨rfl, HBf.out⟩
end Go.Proofs.Ytcnfafappcbpnaa.Hl
/- The statement HealRegenerates over what comes in. -/
namespace Go.Proofs.Ytcnfafappcbpnaa.Hl
open Go Go.RowKit Go.Proofs.Ytcnfafappcbpnaa.Gi Go.Proofs.Ytcnfafappcbpnaa.Opn Go.Proofs.Ytcnfafappcbpnaa.Mem Go.Proofs.Ytcnfafappcbpnaa.Bits Go.Proofs.Ytcnfafappcbpnaa.Rws Go.Proofs.Ytcnfafappcbpnaa.Par Go.Proofs.YtcnfafappcbpnaaW.PrintWords
set_option linter.unusedVariables false

theorem part_u8 {a : Int} (h : (Lit.int .u8 a).wf = true) : 0 ≤ a ∧ a < 256 := by
  simp [Lit.wf, IntKind.min, IntKind.max, IntKind.signed, IntKind.bits] at h; omega
theorem parts_byt {l : List (Int × List Int)} (h : ∀ p ∈ l, (Lit.int .i64 p.1).wf = true ∧ p.2.length ≤ 9223372036854775807 ∧ ∀ a ∈ p.2, (Lit.int .u8 a).wf = true) (q i : Nat) : Byt (((l.getD q (0, [])).2).getD i 0) := by
  have h0 : Byt 0 := ⟨by decide, by decide⟩
  rcases Nat.lt_or_ge q l.length with hq | hq
  · have e : l.getD q (0, []) = l[q] := by rw [List.getD_eq_getElem?_getD, List.getElem?_eq_getElem hq]; rfl
    rw [e]
    have hm := h _ (List.getElem_mem hq)
    rcases Nat.lt_or_ge i (l[q].2).length with hi | hi
    · have e2 : (l[q].2).getD i 0 = (l[q].2)[i] := by rw [List.getD_eq_getElem?_getD, List.getElem?_eq_getElem hi]; rfl
      rw [e2]
      exact part_u8 (hm.2.2 _ (List.getElem_mem hi))
    · rw [List.getD_eq_getElem?_getD, List.getElem?_eq_none hi]
      exact h0
  · have e : l.getD q (0, []) = (0, []) := by rw [List.getD_eq_getElem?_getD, List.getElem?_eq_none hq]; rfl
    rw [e]
    exact h0
theorem hr_row (n : Int) (_ : (Lit.int .i64 n).wf = true) (k : Int) (_ : (Lit.int .i64 k).wf = true) (lost : Int) (_ : (Lit.int .i64 lost).wf = true)
    {w : World} (A : Option Addr) (c : Nat) (l : List (Int × List Int)) (hC : Kd.C kPart w A l.length l) (hc : l.length ≤ c) (hok : l.length ≤ 9223372036854775807 ∧ ∀ p ∈ l, (Lit.int .i64 p.1).wf = true ∧ p.2.length ≤ 9223372036854775807 ∧ ∀ a ∈ p.2, (Lit.int .u8 a).wf = true) (_ : World) :
    Calls Try.prog 4 #[.int .i64 n, .int .i64 k, .int .i64 lost, .slice A l.length c] w fun e w' => e = .returned (.bool true) ∧ Below w.heap.size w w' := by
  by_cases hr : 2 ≤ k ∧ k ≤ 4 ∧ 2 * k - 1 ≤ n ∧ n ≤ 12
  · by_cases hL : 30 < l.length
    · exact hr_long n k lost A _ c w hr hL
    obtain ⟨r1, r2, r3, r4⟩ := hr
    obtain ⟨k, rfl⟩ := Int.eq_ofNat_of_zero_le (show 0 ≤ k by omega)
    obtain ⟨n, rfl⟩ := Int.eq_ofNat_of_zero_le (show 0 ≤ n by omega)
    obtain ⟨h, hp⟩ := PA.of hC
    exact hr_main n k l.length c lost A _ h _ w hp (parts_byt hok.2) (by omega) (by omega) (by omega) (by omega) (by omega) hc
  · exact hr_no n k lost A _ c w hr
end Go.Proofs.Ytcnfafappcbpnaa.Hl
