/- The law HealFragments: the walk. -/
import Derived.Test.YtcnfafappcbpnaaProg
import Derived.Below
import Derived.Deep.Draws
import Derived.Deep.AppendLies
import Derived.Maps.AppendAt
import Derived.OwnWalk
import Derived.Laws.BytesArg
import Derived.Laws.MakeOwn
import Derived.Laws.OwnMore
import Derived.Deep.OwnRows
import Derived.Tactics
import Derived.Lib.ConvBytes
import Derived.Laws.Slices
import Derived.WalkKit
import Derived.KernelRfl
import Derived.RowKit3
import Derived.Deep.LoopGhost
import Derived.Deep.QuietTactic
import Derived.BigQuiet
import Derived.WideLaws
import Derived.Deep.DeepCutAuto
import Derived.Deep.CutBlock
import Derived.Deep.RegionHeld3
import Derived.Laws.Rows
import Derived.Lib.AppendStr
import Derived.ArgAppend
import Derived.Laws.IdiomCopy
import Derived.OrdersHeld
import Derived.Laws.BitsLemmas
import Derived.RowKit
import Derived.Lib.Hide
import Derived.WalkSpells
import Derived.StillTailTactics
import Derived.Outline
import Derived.OrdersHeld
import Derived.Deep.RegionHeld3
import Derived.Test.YtcnfafappcbpnaaBHealFragmentsHeal4
namespace Go.Proofs.Ytcnfafappcbpnaa.Str
open Go Go.RowKit Go.Proofs.Ytcnfafappcbpnaa.PHealFragments Go.Proofs.Ytcnfafappcbpnaa.BHealFragments Go.Proofs.Ytcnfafappcbpnaa.Gf Go.Proofs.Ytcnfafappcbpnaa.Gi Go.Proofs.Ytcnfafappcbpnaa.Bits Go.Proofs.Ytcnfafappcbpnaa.Mem Go.Proofs.Ytcnfafappcbpnaa.VPts Go.Proofs.Ytcnfafappcbpnaa.Rws Go.Proofs.YtcnfafappcbpnaaW.PrintWords Go.Proofs.YtcnfafappcbpnaaW.PrintLast
set_option linter.unusedVariables false

theorem right_f (n k : Int) (b : Bool) (h : decide (2 ≤ k ∧ k ≤ 8 ∧ 2 * k - 1 ≤ n ∧ n ≤ 24) = b) : coldframeref06_Right.f n k = some b := by
  subst h
  unfold coldframeref06_Right.f
  by_cases h1 : k ≥ 2
  · rw [if_pos h1]
    by_cases h2 : k ≤ 8
    · rw [if_pos h2, show wrap64 (2 * k) = 2 * k from wrap64_in _ (by omega) (by omega), show wrap64 (2 * k - 1) = 2 * k - 1 from wrap64_in _ (by omega) (by omega)]
      by_cases h3 : n ≥ 2 * k - 1
      · rw [if_pos h3]; congr 1; rw [decide_eq_decide]; omega
      · rw [if_neg h3]; congr 1; symm; rw [decide_eq_false_iff_not]; omega
    · rw [if_neg h2]; congr 1; symm; rw [decide_eq_false_iff_not]; omega
  · rw [if_neg h1]; congr 1; symm; rw [decide_eq_false_iff_not]; omega
theorem small_calls (n k : Int) (b : Bool) (w : World) (h : decide (2 ≤ k ∧ k ≤ 4 ∧ 2 * k - 1 ≤ n ∧ n ≤ 12) = b) :
    Calls Try.prog 7 #[.int .i64 n, .int .i64 k] w fun e w' => e = .returned (.bool b) ∧ Below w.heap.size w w' := by
  refine (coldframelaw07_small.calls n k b w ?_).mono ?_
  · subst h
    unfold coldframelaw07_small.f
    by_cases h1 : 2 ≤ k ∧ k ≤ 8 ∧ 2 * k - 1 ≤ n ∧ n ≤ 24
    · rw [right_f n k true (decide_eq_true h1), bnd, if_pos rfl]
      by_cases h2 : n ≤ 12
      · rw [if_pos h2]; congr 1; rw [decide_eq_decide]; omega
      · rw [if_neg h2]; congr 1; symm; rw [decide_eq_false_iff_not]; omega
    · rw [right_f n k false (decide_eq_false h1), bnd, if_neg (by decide)]; congr 1; symm; rw [decide_eq_false_iff_not]; omega
  · rintro e w' ⟨rfl, h⟩
    exact ⟨rfl, h.below⟩
set_option maxRecDepth 100000 in
theorem awake_calls (w : World) : Calls Try.prog 8 #[] w fun e w' => e = .returned (.bool true) ∧ Below w.heap.size w w' := by
  have NC : Hid (∀ W, Calls Try.prog 9 #[.int .i64 5, .int .i64 3] W fun e w' => ∃ v, e = .returned (.tuple #[v, .int .i64 0]) ∧ IsCodeP w' v 5 3 ∧ Below W.heap.size W w') := Lib.hid (fun W => new_codeP 5 3 W (by omega) (by omega) (by omega) (by omega))
  have CC : Hid (∀ v W, IsCodeP W v 5 3 → Calls Try.prog 11 #[v, .int .i64 4] W fun e w' => e = .returned (.tuple #[.int .i64 8, .int .i64 12]) ∧ Below W.heap.size W w') := Lib.hid (fun v W hc => cost_good v 5 3 4 2 W hc (by omega) (by omega) (by omega) (by omega) (by omega))
  go_enter Try.func8, Try.ntmps8
  go_wp2_with (first
    | (go_at_call 9; (with_reducible refine (NC.out _).mono ?_); rintro e w1 ⟨v, rfl, hc, hb⟩; have HC := Lib.hid hc; have HB := Lib.hid hb; clear hc hb)
    | (go_at_call 11; (with_reducible refine (CC.out v _ HC.out).mono ?_); rintro e w2 ⟨rfl, hb⟩; have HB2 := Lib.hid (HB.out.trans (hb.mono HB.out.size)); clear hb))
  go_ret
  exact ⟨rfl, HB2.out⟩
theorem str_reads {w : World} {A : Option Addr} {n c : Nat} {xs : List Int} (h : ReadsInt w .u8 A n xs) : (convert 22 9 (.slice A n c)).run Try.prog w = .ok (.string (strOfNums xs)) w :=
  string_of_reads Try.underlying22 Try.underlying5 Try.underlying9 h
theorem str_any {w : World} {A : Option Addr} {m c : Nat} {ys : List Int} (h : (Kd.int .u8).C w A m ys) (W : World) (hb : Below w.heap.size w W) : (convert 22 9 (.slice A m c)).run Try.prog W = .ok (.string (strOfNums ys)) W :=
  str_reads (Kd.reads_of_C (d := (0 : Int)) (Kd.C_below h hb))
set_option maxRecDepth 100000 in
theorem hf_no (n k lost : Int) (A : Option Addr) (L c : Nat) (w : World) (h : ¬ (2 ≤ k ∧ k ≤ 4 ∧ 2 * k - 1 ≤ n ∧ n ≤ 12)) :
    Calls Try.prog 3 #[.int .i64 n, .int .i64 k, .int .i64 lost, .slice A L c] w fun e w' => e = .returned (.bool true) ∧ Below w.heap.size w w' := by
  have SM := Lib.hid (small_calls n k false w (decide_eq_false h))
  have AW := Lib.hid awake_calls
  clear h
  go_enter Try.func3, Try.ntmps3
  go_wp2_with (first | (go_at_call 7; (with_reducible refine SM.out.mono ?_); rintro e w1 ⟨rfl, hb⟩; have HB1 := Lib.hid hb; clear hb) | (go_at_call 8; (with_reducible refine (AW.out _).mono ?_); rintro e w9 ⟨rfl, hb⟩; have HB9 := Lib.hid (HB1.out.trans (hb.mono HB1.out.size)); clear hb))
  go_ret
  exact ⟨rfl, HB9.out⟩
set_option maxRecDepth 100000 in
theorem hf_long (n k lost : Int) (A : Option Addr) (L c : Nat) (w : World) (h : 2 ≤ k ∧ k ≤ 4 ∧ 2 * k - 1 ≤ n ∧ n ≤ 12) (hL : 100 < L) :
    Calls Try.prog 3 #[.int .i64 n, .int .i64 k, .int .i64 lost, .slice A L c] w fun e w' => e = .returned (.bool true) ∧ Below w.heap.size w w' := by
  have SM := Lib.hid (small_calls n k true w (decide_eq_true h))
  have AW := Lib.hid awake_calls
  have q1 : (100 : Int) < (L : Int) := by omega
  clear h hL
  go_enter Try.func3, Try.ntmps3
  go_wp2_with (first | (go_at_call 7; (with_reducible refine SM.out.mono ?_); rintro e w1 ⟨rfl, hb⟩; have HB1 := Lib.hid hb; clear hb) | (go_at_call 8; (with_reducible refine (AW.out _).mono ?_); rintro e w9 ⟨rfl, hb⟩; have HB9 := Lib.hid (HB1.out.trans (hb.mono HB1.out.size)); clear hb))
  go_ret
  exact ⟨rfl, HB9.out⟩
set_option maxRecDepth 100000 in
set_option maxHeartbeats 2000000 in
/-- The length does not fit. -/
theorem hf_bad (n k : Nat) (lost : Int) (A : Option Addr) (L c : Nat) (w : World) (k1 : 2 ≤ k) (k2 : k ≤ 4) (n1 : 2 * k - 1 ≤ n) (n2 : n ≤ 12) (hL : L ≤ 100) (h : L = 0 ∨ L % (k - 1) ≠ 0) :
    Calls Try.prog 3 #[.int .i64 n, .int .i64 k, .int .i64 lost, .slice A L c] w fun e w' => e = .returned (.bool true) ∧ Below w.heap.size w w' := by
  have SM := Lib.hid (small_calls n k true w (decide_eq_true (by omega)))
  have AW := Lib.hid awake_calls
  have NC := Lib.hid (fun W => new_codeP n k W k1 (by omega) n1 (by omega))
  have FB := Lib.hid (fun v W hc => frag_bad v n k lost A L c W hc k1 (by omega) (by omega) (.inr (.inr h)))
  have CB := Lib.hid (fun v W hc => cost_bad v n k L W hc k1 (by omega) (by omega) h)
  have q1 : ¬ (100 : Int) < (L : Int) := by omega
  have q2 : decide ((L : Int) > 100) = false := by simp; omega
  obtain ⟨a, ha⟩ : ∃ a, a = k - 1 := ⟨_, rfl⟩
  rw [← ha] at h
  have d0 : IntKind.i64.wrap ((k : Int) - 1) = (a : Int) := by rw [IntWalk.i64_in _ (by omega)]; omega
  have a1 : 1 ≤ a := by omega
  have h' : ((L : Int) == 0) = true ∨ (((L : Int) == 0) = false ∧ ((L : Int) % (a : Int) != 0) = true) := by
    rcases h with h | h
    · left; simp; omega
    · by_cases h0 : L = 0
      · left; simp; omega
      · right; exact ⟨by simp; omega, by simp only [bne_iff_ne]; omega⟩
  clear k1 k2 n1 n2 hL h ha
  rcases h' with h1 | ⟨h1, h2⟩
  all_goals
    go_enter Try.func3, Try.ntmps3
    go_wp2_with (first
      | (go_at_call 7; (with_reducible refine SM.out.mono ?_); rintro e w1 ⟨rfl, hb⟩; have HB1 := Lib.hid hb; clear hb)
      | (go_at_call 9; (with_reducible refine (NC.out _).mono ?_); rintro e w2 ⟨v, rfl, hcd, hb⟩; have HV := Lib.hid hcd; have HBn := Lib.hid (HB1.out.trans (hb.mono HB1.out.size)); clear HB1 hb hcd; have HB1 := HBn; clear HBn)
      | (go_at_call 10; (with_reducible refine (frag_nil _ _ _ _ _).mono ?_); rintro e w4 ⟨rfl, hb⟩; have HVn := Lib.hid (HV.out.below hb); clear HV; have HV := HVn; clear HVn; have HBn := Lib.hid (HB1.out.trans (hb.mono HB1.out.size)); clear HB1 hb; have HB1 := HBn; clear HBn)
      | (go_at_call 11; (with_reducible refine (cost_nil _ _).mono ?_); rintro e w4 ⟨rfl, hb⟩; have HVn := Lib.hid (HV.out.below hb); clear HV; have HV := HVn; clear HVn; have HBn := Lib.hid (HB1.out.trans (hb.mono HB1.out.size)); clear HB1 hb; have HB1 := HBn; clear HBn)
      | (go_at_call 10; (with_reducible refine (FB.out _ _ HV.out).mono ?_); rintro e w4 ⟨rfl, hb⟩; have HVn := Lib.hid (HV.out.below hb); clear HV; have HV := HVn; clear HVn; have HBn := Lib.hid (HB1.out.trans (hb.mono HB1.out.size)); clear HB1 hb; have HB1 := HBn; clear HBn)
      | (go_at_call 11; (with_reducible refine (CB.out _ _ HV.out).mono ?_); rintro e w4 ⟨rfl, hb⟩; have HVn := Lib.hid (HV.out.below hb); clear HV; have HV := HVn; clear HVn; have HBn := Lib.hid (HB1.out.trans (hb.mono HB1.out.size)); clear HB1 hb; have HB1 := HBn; clear HBn)
      | (go_at_call 8; (with_reducible refine (AW.out _).mono ?_); rintro e w9 ⟨rfl, hb⟩; have HB9 := Lib.hid (HB1.out.trans (hb.mono HB1.out.size)); clear hb))
    go_ret
    exact ⟨rfl, HB9.out⟩
set_option maxRecDepth 100000 in
set_option maxHeartbeats 2000000 in
/-- There is no such slot. -/
theorem hf_far (n k : Nat) (lost : Int) (A : Option Addr) (L c sz : Nat) (w : World) (k1 : 2 ≤ k) (k2 : k ≤ 4) (n1 : 2 * k - 1 ≤ n) (n2 : n ≤ 12) (hL : L ≤ 100) (hLs : L = (k - 1) * sz) (hsz : 1 ≤ sz) (h : lost < 0 ∨ (n : Int) ≤ lost) :
    Calls Try.prog 3 #[.int .i64 n, .int .i64 k, .int .i64 lost, .slice A L c] w fun e w' => e = .returned (.bool true) ∧ Below w.heap.size w w' := by
  have FB := Lib.hid (fun v W hc => frag_bad v n k lost A L c W hc k1 (by omega) (by omega) (h.elim .inl (fun h => .inr (.inl h))))
  have SM := Lib.hid (small_calls n k true w (decide_eq_true (by omega)))
  have AW := Lib.hid awake_calls
  have NC := Lib.hid (fun W => new_codeP n k W k1 (by omega) n1 (by omega))
  have CG := Lib.hid (fun v W hc => cost_good v n k L sz W hc k1 (by omega) (by omega) hLs hsz)
  have q1 : ¬ (100 : Int) < (L : Int) := by omega
  have q2 : decide ((L : Int) > 100) = false := by simp; omega
  obtain ⟨a, ha⟩ : ∃ a, a = k - 1 := ⟨_, rfl⟩
  have hLa := hLs
  rw [← ha] at hLa
  have d0 : IntKind.i64.wrap ((k : Int) - 1) = (a : Int) := by rw [IntWalk.i64_in _ (by omega)]; omega
  have a1 : 1 ≤ a := by omega
  have a7 : a ≤ 7 := by omega
  have sz1 : sz ≤ L := by rw [hLa]; exact Nat.le_mul_of_pos_left sz (by omega)
  have d1 : (L : Int) % (a : Int) = 0 := by rw [hLa, Int.natCast_mul]; exact Int.mul_emod_right _ _
  have d2 : (L : Int) / (a : Int) = (sz : Int) := by rw [hLa, Int.natCast_mul, Int.mul_comm]; exact Int.mul_ediv_cancel _ (by omega)
  obtain ⟨q, hq⟩ : ∃ q, q = 2 * k - 2 := ⟨_, rfl⟩
  have m1 : q * sz ≤ 14 * 1000 := Nat.mul_le_mul (by omega) (by omega)
  have m2 : k * L ≤ 8 * 1000 := Nat.mul_le_mul (by omega) (by omega)
  have d3 : IntKind.i64.wrap (2 * (k : Int)) = 2 * (k : Int) := IntWalk.i64_in _ (by omega)
  have d4 : IntKind.i64.wrap (2 * (k : Int) - 2) = (q : Int) := by rw [IntWalk.i64_in _ (by omega)]; omega
  rw [← hq] at CG
  have e1 : IntKind.i64.wrap ((q : Int) * (sz : Int)) = ((q * sz : Nat) : Int) := by rw [← Int.natCast_mul, IntWalk.i64_in _ (by omega)]
  have e2 : IntKind.i64.wrap ((k : Int) * (L : Int)) = ((k * L : Nat) : Int) := by rw [← Int.natCast_mul, IntWalk.i64_in _ (by omega)]
  obtain ⟨x1, hx1⟩ : ∃ x, x = q * sz := ⟨_, rfl⟩
  obtain ⟨x2, hx2⟩ : ∃ x, x = k * L := ⟨_, rfl⟩
  rw [← hx1] at e1 CG
  rw [← hx2] at e2 CG
  have t5 : (1 : Int) ≤ (L : Int) := by have := Nat.mul_le_mul a1 hsz; omega
  have t3 : ((L : Int) == 0) = false := by simp; omega
  have h' : lost < 0 ∨ (decide (lost < 0) = false ∧ (n : Int) ≤ lost) := by
    rcases h with h | h
    · exact .inl h
    · exact .inr ⟨by simp; omega, h⟩
  clear k1 k2 n1 n2 hL h ha hLs hLa hsz hq m1 m2 hx1 hx2
  rcases h' with h1 | ⟨h1, h2⟩
  all_goals
    go_enter Try.func3, Try.ntmps3
    go_wp2_with (first
      | (go_at_call 7; (with_reducible refine SM.out.mono ?_); rintro e w1 ⟨rfl, hb⟩; have HB1 := Lib.hid hb; clear hb)
      | (go_at_call 9; (with_reducible refine (NC.out _).mono ?_); rintro e w2 ⟨v, rfl, hcd, hb⟩; have HV := Lib.hid hcd; have HBn := Lib.hid (HB1.out.trans (hb.mono HB1.out.size)); clear HB1 hb hcd; have HB1 := HBn; clear HBn)
      | (go_at_call 10; (with_reducible refine (frag_nil _ _ _ _ _).mono ?_); rintro e w4 ⟨rfl, hb⟩; have HVn := Lib.hid (HV.out.below hb); clear HV; have HV := HVn; clear HVn; have HBn := Lib.hid (HB1.out.trans (hb.mono HB1.out.size)); clear HB1 hb; have HB1 := HBn; clear HBn)
      | (go_at_call 11; (with_reducible refine (cost_nil _ _).mono ?_); rintro e w4 ⟨rfl, hb⟩; have HVn := Lib.hid (HV.out.below hb); clear HV; have HV := HVn; clear HVn; have HBn := Lib.hid (HB1.out.trans (hb.mono HB1.out.size)); clear HB1 hb; have HB1 := HBn; clear HBn)
      | (go_at_call 10; (with_reducible refine (FB.out _ _ HV.out).mono ?_); rintro e w4 ⟨rfl, hb⟩; have HVn := Lib.hid (HV.out.below hb); clear HV; have HV := HVn; clear HVn; have HBn := Lib.hid (HB1.out.trans (hb.mono HB1.out.size)); clear HB1 hb; have HB1 := HBn; clear HBn)
      | (go_at_call 11; (with_reducible refine (CG.out _ _ HV.out).mono ?_); rintro e w4 ⟨rfl, hb⟩; have HVn := Lib.hid (HV.out.below hb); clear HV; have HV := HVn; clear HVn; have HBn := Lib.hid (HB1.out.trans (hb.mono HB1.out.size)); clear HB1 hb; have HB1 := HBn; clear HBn)
      | (go_at_call 8; (with_reducible refine (AW.out _).mono ?_); rintro e w9 ⟨rfl, hb⟩; have HB9 := Lib.hid (HB1.out.trans (hb.mono HB1.out.size)); clear hb))
    go_ret
    exact ⟨rfl, HB9.out⟩
set_option maxRecDepth 100000 in
set_option maxHeartbeats 4000000 in
theorem hf_good (n k lost : Nat) (A : Option Addr) (L c sz : Nat) (sh : List Int) (w : World) (k1 : 2 ≤ k) (k2 : k ≤ 4) (n1 : 2 * k - 1 ≤ n) (n2 : n ≤ 12) (hL : L ≤ 100) (hLs : L = (k - 1) * sz) (hsz : 1 ≤ sz) (h : lost < n)
    (hr : (Kd.int .u8).C w A L sh) (hLn : L = sh.length) (hbyt : ∀ x ∈ sh, Byt x) :
    Calls Try.prog 3 #[.int .i64 n, .int .i64 k, .int .i64 lost, .slice A L c] w fun e w' => e = .returned (.bool true) ∧ Below w.heap.size w w' := by
  have FG := Lib.hid (fun v W hc (hB : Below w.heap.size w W) => fragment_good v n k lost sz L A c sh W hc k1 (by omega) (by omega) h (Kd.C_below hr hB) hLn hLs hsz (by omega) hbyt)
  have RF := Lib.hid (fun W (hB : Below w.heap.size w W) => reffrag_any n k lost sz L A c sh W k1 (by omega) (by omega) h (Kd.C_below hr hB) hLn hLs hsz (by omega) hbyt)
  have SM := Lib.hid (small_calls n k true w (decide_eq_true (by omega)))
  have AW := Lib.hid awake_calls
  have NC := Lib.hid (fun W => new_codeP n k W k1 (by omega) n1 (by omega))
  have CG := Lib.hid (fun v W hc => cost_good v n k L sz W hc k1 (by omega) (by omega) hLs hsz)
  have q1 : ¬ (100 : Int) < (L : Int) := by omega
  have q2 : decide ((L : Int) > 100) = false := by simp; omega
  obtain ⟨a, ha⟩ : ∃ a, a = k - 1 := ⟨_, rfl⟩
  have hLa := hLs
  rw [← ha] at hLa
  have d0 : IntKind.i64.wrap ((k : Int) - 1) = (a : Int) := by rw [IntWalk.i64_in _ (by omega)]; omega
  have a1 : 1 ≤ a := by omega
  have a7 : a ≤ 7 := by omega
  have sz1 : sz ≤ L := by rw [hLa]; exact Nat.le_mul_of_pos_left sz (by omega)
  have d1 : (L : Int) % (a : Int) = 0 := by rw [hLa, Int.natCast_mul]; exact Int.mul_emod_right _ _
  have d2 : (L : Int) / (a : Int) = (sz : Int) := by rw [hLa, Int.natCast_mul, Int.mul_comm]; exact Int.mul_ediv_cancel _ (by omega)
  obtain ⟨q, hq⟩ : ∃ q, q = 2 * k - 2 := ⟨_, rfl⟩
  have m1 : q * sz ≤ 14 * 1000 := Nat.mul_le_mul (by omega) (by omega)
  have m2 : k * L ≤ 8 * 1000 := Nat.mul_le_mul (by omega) (by omega)
  have d3 : IntKind.i64.wrap (2 * (k : Int)) = 2 * (k : Int) := IntWalk.i64_in _ (by omega)
  have d4 : IntKind.i64.wrap (2 * (k : Int) - 2) = (q : Int) := by rw [IntWalk.i64_in _ (by omega)]; omega
  rw [← hq] at CG
  have e1 : IntKind.i64.wrap ((q : Int) * (sz : Int)) = ((q * sz : Nat) : Int) := by rw [← Int.natCast_mul, IntWalk.i64_in _ (by omega)]
  have e2 : IntKind.i64.wrap ((k : Int) * (L : Int)) = ((k * L : Nat) : Int) := by rw [← Int.natCast_mul, IntWalk.i64_in _ (by omega)]
  obtain ⟨x1, hx1⟩ : ∃ x, x = q * sz := ⟨_, rfl⟩
  obtain ⟨x2, hx2⟩ : ∃ x, x = k * L := ⟨_, rfl⟩
  rw [← hx1] at e1 CG
  rw [← hx2] at e2 CG
  have t5 : (1 : Int) ≤ (L : Int) := by have := Nat.mul_le_mul a1 hsz; omega
  have t3 : ((L : Int) == 0) = false := by simp; omega
  rw [← ha] at FG RF
  obtain ⟨fr, hfr⟩ : ∃ fr, fr = fragL (ptN n k lost) a sz sh := ⟨_, rfl⟩
  rw [← hfr] at FG RF
  have h1 : decide ((lost : Int) < 0) = false := by simp
  have h2 : decide ((lost : Int) ≥ (n : Int)) = false := by simp; omega
  have h3 : ¬ (n : Int) ≤ (lost : Int) := by omega
  clear k1 k2 n1 n2 hL h ha hLs hLa hsz hq m1 m2 hx1 hx2 hr hLn hbyt hfr
  go_enter Try.func3, Try.ntmps3
  go_upto_region 5 with (first
      | (go_at_call 7; (with_reducible refine SM.out.mono ?_); rintro e w1 ⟨rfl, hb⟩; have HB1 := Lib.hid hb; clear hb)
      | (go_at_call 9; (with_reducible refine (NC.out _).mono ?_); rintro e w2 ⟨v, rfl, hcd, hb⟩; have HV := Lib.hid hcd; have HBn := Lib.hid (HB1.out.trans (hb.mono HB1.out.size)); clear HB1 hb hcd; have HB1 := HBn; clear HBn)
      | (go_at_call 10; (with_reducible refine (FG.out v _ HV.out HB1.out).mono ?_); rintro e w5 ⟨A5, c5, rfl, hC5, hb⟩; have HC5 := Lib.hid hC5; clear hC5; have HVn := Lib.hid (HV.out.below hb); clear HV; have HV := HVn; clear HVn; have HBn := Lib.hid (HB1.out.trans (hb.mono HB1.out.size)); clear HB1 hb; have HB1 := HBn; clear HBn))
  clear FG
  have HX := Lib.hid (Below.refl w5.heap.size w5)
  have hbx : ∀ {W W' : World}, Below w5.heap.size w5 W → Below W.heap.size W W' → Below w5.heap.size w5 W' := fun h h' => h.trans (h'.mono h.size)
  go_upto_region 16 with (first
      | (go_at_call 10; (with_reducible refine (frag_nil _ _ _ _ _).mono ?_); rintro e w4 ⟨rfl, hb⟩; have HXn := Lib.hid (hbx HX.out hb); clear HX; have HX := HXn; clear HXn; have HVn := Lib.hid (HV.out.below hb); clear HV; have HV := HVn; clear HVn; have HBn := Lib.hid (HB1.out.trans (hb.mono HB1.out.size)); clear HB1 hb; have HB1 := HBn; clear HBn)
      | (go_at_call 11; (first | (with_reducible refine (cost_nil _ _).mono ?_) | (with_reducible refine (CG.out _ _ HV.out).mono ?_)); rintro e w4 ⟨rfl, hb⟩; have HXn := Lib.hid (hbx HX.out hb); clear HX; have HX := HXn; clear HXn; have HVn := Lib.hid (HV.out.below hb); clear HV; have HV := HVn; clear HVn; have HBn := Lib.hid (HB1.out.trans (hb.mono HB1.out.size)); clear HB1 hb; have HB1 := HBn; clear HBn))
  have K5 := Lib.hid (fun W (hB : Below w5.heap.size w5 W) => str_any (c := c5) HC5.out W hB)
  have HXd := Lib.hid (show Below w5.heap.size w5 w4.drew from HX.out.drew)
  have HBd := Lib.hid (show Below w.heap.size w w4.drew from HB1.out.drew)
  refine wp_region_noPanic ?_
  refine wp_region_held_drew (S := (fun W => (convert 22 9 (.slice A5 sz c5)).run Try.prog W = .ok (.string (strOfNums fr)) W)) (by kernel_rfl) ?_ (fun hHeld => ?_)
  · ((try dsimp only); exact K5.out _ HXd.out)
  refine wpAnyH_take (i := 0) (oi := { dst := some 129, op := Go.Op.move (Go.Operand.tmp 11), type := 22, pos := "law.go:44", after := #[], guard := none }) (v := ?_) rfl (by kernel_rfl) (by kernel_rfl) (by kernel_rfl) (fun _ _ _ h => h) (Or.inl ⟨by rfl, ?_⟩) (by assumption) ?_
  rotate_left 1
  · (intro w hSw; (try dsimp only at hSw); go_simp; try with_reducible rfl)
  try simp only [Act.put, List.setIfInBounds_toArray, List.set_cons_zero, List.set_cons_succ]
  refine wpAnyH_take (i := 1) (oi := { dst := some 130, op := Go.Op.convert 22 9 (Go.Operand.tmp 129), type := 9, pos := "law.go:44", after := #[{ on := 0, ground := Go.Ground.data }], guard := none }) (v := ?_) rfl (by kernel_rfl) (by kernel_rfl) (by kernel_rfl) (fun _ _ _ h => h) (Or.inl ⟨by rfl, ?_⟩) (by assumption) ?_
  rotate_left 1
  · (intro w hSw; (try dsimp only at hSw); go_simp; try with_reducible rfl)
  try simp only [Act.put, List.setIfInBounds_toArray, List.set_cons_zero, List.set_cons_succ]
  refine wpAnyH_take (i := 2) (oi := { dst := some 131, op := Go.Op.move (Go.Operand.tmp 0), type := 3, pos := "law.go:44", after := #[], guard := none }) (v := ?_) rfl (by kernel_rfl) (by kernel_rfl) (by kernel_rfl) (fun _ _ _ h => h) (Or.inl ⟨by rfl, ?_⟩) (by assumption) ?_
  rotate_left 1
  · (intro w hSw; (try dsimp only at hSw); go_simp; try with_reducible rfl)
  try simp only [Act.put, List.setIfInBounds_toArray, List.set_cons_zero, List.set_cons_succ]
  refine wpAnyH_take (i := 3) (oi := { dst := some 132, op := Go.Op.move (Go.Operand.tmp 1), type := 3, pos := "law.go:44", after := #[], guard := none }) (v := ?_) rfl (by kernel_rfl) (by kernel_rfl) (by kernel_rfl) (fun _ _ _ h => h) (Or.inl ⟨by rfl, ?_⟩) (by assumption) ?_
  rotate_left 1
  · (intro w hSw; (try dsimp only at hSw); go_simp; try with_reducible rfl)
  try simp only [Act.put, List.setIfInBounds_toArray, List.set_cons_zero, List.set_cons_succ]
  refine wpAnyH_take (i := 4) (oi := { dst := some 133, op := Go.Op.move (Go.Operand.tmp 2), type := 3, pos := "law.go:44", after := #[], guard := none }) (v := ?_) rfl (by kernel_rfl) (by kernel_rfl) (by kernel_rfl) (fun _ _ _ h => h) (Or.inl ⟨by rfl, ?_⟩) (by assumption) ?_
  rotate_left 1
  · (intro w hSw; (try dsimp only at hSw); go_simp; try with_reducible rfl)
  try simp only [Act.put, List.setIfInBounds_toArray, List.set_cons_zero, List.set_cons_succ]
  refine wpAnyH_take (i := 5) (oi := { dst := some 134, op := Go.Op.move (Go.Operand.tmp 3), type := 22, pos := "law.go:44", after := #[], guard := none }) (v := ?_) rfl (by kernel_rfl) (by kernel_rfl) (by kernel_rfl) (fun _ _ _ h => h) (Or.inl ⟨by rfl, ?_⟩) (by assumption) ?_
  rotate_left 1
  · (intro w hSw; (try dsimp only at hSw); go_simp; try with_reducible rfl)
  try simp only [Act.put, List.setIfInBounds_toArray, List.set_cons_zero, List.set_cons_succ]
  refine wpAnyH_ready (rs := [6]) (by kernel_rfl) (by simp) ?_
  refine AllReadyH.cons (o := { dst := some 135, op := Go.Op.call { callee := Go.Callee.value (Go.Operand.func 12), args := #[Go.Operand.tmp 131, Go.Operand.tmp 132, Go.Operand.tmp 133, Go.Operand.tmp 134], argTypes := #[3, 3, 3, 22] }, type := 22, pos := "law.go:44", after := #[{ on := 2, ground := Go.Ground.data }, { on := 3, ground := Go.Ground.data }, { on := 4, ground := Go.Ground.data }, { on := 5, ground := Go.Ground.data }], guard := none }) rfl (fun K hK => ?_) AllReadyH.nil
  go_simp
  go_at_call 12
  (refine (RF.out _ HBd.out).mono ?_); rintro e u1 ⟨A8, c8, rfl, hC8, hb⟩; have k8 := str_any (c := c8) hC8 u1 (Below.refl _ _); have HXe := Lib.hid (hbx HXd.out hb); have HBe := Lib.hid (HBd.out.trans (hb.mono HBd.out.size)); clear hb hC8
  clear hHeld
  refine hK.out _ _ ?_ (fun hHeld => ?_)
  · ((try dsimp only); exact K5.out _ HXe.out)
  clear hK K
  refine wpAnyH_ready (rs := [7]) (by kernel_rfl) (by simp) ?_
  refine AllReadyH.cons (o := { dst := some 136, op := Go.Op.convert 22 9 (Go.Operand.tmp 135), type := 9, pos := "law.go:44", after := #[{ on := 6, ground := Go.Ground.data }], guard := none }) rfl (fun K hK => ?_) AllReadyH.nil
  go_simp
  clear hHeld
  refine hK.out _ _ ?_ (fun hHeld => ?_)
  · ((try dsimp only); exact K5.out _ HXe.out)
  clear hK K
  refine wpAnyH_take (i := 8) (oi := { dst := some 137, op := Go.Op.binOp Go.BinOp.eql 9 (Go.Operand.tmp 130) (Go.Operand.tmp 136) 9, type := 4, pos := "law.go:44", after := #[{ on := 1, ground := Go.Ground.data }, { on := 7, ground := Go.Ground.data }], guard := none }) (v := ?_) rfl (by kernel_rfl) (by kernel_rfl) (by kernel_rfl) (fun _ _ _ h => h) (Or.inl ⟨by rfl, ?_⟩) (by assumption) ?_
  rotate_left 1
  · (intro w hSw; (try dsimp only at hSw); go_simp; try with_reducible rfl)
  try simp only [Act.put, List.setIfInBounds_toArray, List.set_cons_zero, List.set_cons_succ]
  refine wpAnyH_take (i := 9) (oi := { dst := some 138, op := Go.Op.move (Go.Operand.tmp 137), type := 4, pos := "law.go:44", after := #[{ on := 8, ground := Go.Ground.data }, { on := 6, ground := Go.Ground.chain }], guard := none }) (v := ?_) rfl (by kernel_rfl) (by kernel_rfl) (by kernel_rfl) (fun _ _ _ h => h) (Or.inl ⟨by rfl, ?_⟩) (by assumption) ?_
  rotate_left 1
  · (intro w hSw; (try dsimp only at hSw); go_simp; try with_reducible rfl)
  try simp only [Act.put, List.setIfInBounds_toArray, List.set_cons_zero, List.set_cons_succ]
  refine wpAnyH_take (i := 10) (oi := { dst := some 139, op := Go.Op.move (Go.Operand.tmp 12), type := 26, pos := "law.go:44", after := #[{ on := 9, ground := Go.Ground.guard }], guard := some (9, true) }) (v := ?_) rfl (by kernel_rfl) (by kernel_rfl) (by kernel_rfl) (fun _ _ _ h => h) (Or.inl ⟨by rfl, ?_⟩) (by assumption) ?_
  rotate_left 1
  · (intro w hSw; (try dsimp only at hSw); go_simp; try with_reducible rfl)
  try simp only [Act.put, List.setIfInBounds_toArray, List.set_cons_zero, List.set_cons_succ]
  refine wpAnyH_take (i := 11) (oi := { dst := some 140, op := Go.Op.binOp Go.BinOp.eql 26 (Go.Operand.tmp 139) (Go.Operand.const (Go.Value.int Go.IntKind.i64 0)) 26, type := 4, pos := "law.go:44", after := #[{ on := 10, ground := Go.Ground.data }, { on := 9, ground := Go.Ground.guard }], guard := some (9, true) }) (v := ?_) rfl (by kernel_rfl) (by kernel_rfl) (by kernel_rfl) (fun _ _ _ h => h) (Or.inl ⟨by rfl, ?_⟩) (by assumption) ?_
  rotate_left 1
  · (intro w hSw; (try dsimp only at hSw); go_simp; try with_reducible rfl)
  try simp only [Act.put, List.setIfInBounds_toArray, List.set_cons_zero, List.set_cons_succ]
  refine wpAnyH_take (i := 12) (oi := { dst := some 141, op := Go.Op.pick (Go.Operand.tmp 138) (Go.Operand.tmp 140) (Go.Operand.const (Go.Value.bool false)), type := 4, pos := "law.go:44", after := #[{ on := 9, ground := Go.Ground.data }, { on := 11, ground := Go.Ground.data }], guard := none }) (v := ?_) rfl (by kernel_rfl) (by kernel_rfl) (by kernel_rfl) (fun _ _ _ h => h) (Or.inl ⟨by rfl, ?_⟩) (by assumption) ?_
  rotate_left 1
  · (intro w hSw; (try dsimp only at hSw); go_simp; try with_reducible rfl)
  try simp only [Act.put, List.setIfInBounds_toArray, List.set_cons_zero, List.set_cons_succ]
  refine wpAnyH_take (i := 13) (oi := { dst := some 142, op := Go.Op.move (Go.Operand.tmp 141), type := 4, pos := "law.go:44", after := #[{ on := 12, ground := Go.Ground.data }, { on := 9, ground := Go.Ground.chain }], guard := none }) (v := ?_) rfl (by kernel_rfl) (by kernel_rfl) (by kernel_rfl) (fun _ _ _ h => h) (Or.inl ⟨by rfl, ?_⟩) (by assumption) ?_
  rotate_left 1
  · (intro w hSw; (try dsimp only at hSw); go_simp; try with_reducible rfl)
  try simp only [Act.put, List.setIfInBounds_toArray, List.set_cons_zero, List.set_cons_succ]
  refine wpAnyH_ready (rs := [14]) (by kernel_rfl) (by simp) ?_
  refine AllReadyH.cons (o := { dst := some 143, op := Go.Op.call { callee := Go.Callee.value (Go.Operand.func 8), args := #[], argTypes := #[] }, type := 4, pos := "law.go:44", after := #[{ on := 13, ground := Go.Ground.chain }, { on := 13, ground := Go.Ground.guard }], guard := some (13, true) }) rfl (fun K hK => ?_) AllReadyH.nil
  go_simp
  go_at_call 8
  (refine (AW.out _).mono ?_); rintro e u4 ⟨rfl, hb⟩; have HXf := Lib.hid (hbx HXe.out hb); have HBf := Lib.hid (HBe.out.trans (hb.mono HBe.out.size)); clear hb
  clear hHeld
  refine hK.out _ _ ?_ (fun hHeld => ?_)
  · ((try dsimp only); exact K5.out _ HXf.out)
  clear hK K
  refine wpAnyH_take (i := 15) (oi := { dst := some 144, op := Go.Op.pick (Go.Operand.tmp 142) (Go.Operand.tmp 143) (Go.Operand.const (Go.Value.bool false)), type := 4, pos := "law.go:44", after := #[{ on := 13, ground := Go.Ground.data }, { on := 14, ground := Go.Ground.data }], guard := none }) (v := ?_) rfl (by kernel_rfl) (by kernel_rfl) (by kernel_rfl) (fun _ _ _ h => h) (Or.inl ⟨by rfl, ?_⟩) (by assumption) ?_
  rotate_left 1
  · (intro w hSw; (try dsimp only at hSw); go_simp; try with_reducible rfl)
  try simp only [Act.put, List.setIfInBounds_toArray, List.set_cons_zero, List.set_cons_succ]
  refine wpAnyH_take (i := 16) (oi := { dst := some 8, op := Go.Op.assign (Go.Operand.tmp 144), type := 4, pos := "law.go:44", after := #[{ on := 15, ground := Go.Ground.data }, { on := 14, ground := Go.Ground.chain }, { on := 0, ground := Go.Ground.phase }, { on := 1, ground := Go.Ground.phase }, { on := 2, ground := Go.Ground.phase }, { on := 3, ground := Go.Ground.phase }, { on := 4, ground := Go.Ground.phase }, { on := 5, ground := Go.Ground.phase }, { on := 6, ground := Go.Ground.phase }, { on := 7, ground := Go.Ground.phase }, { on := 8, ground := Go.Ground.phase }, { on := 9, ground := Go.Ground.phase }, { on := 10, ground := Go.Ground.phase }, { on := 11, ground := Go.Ground.phase }, { on := 12, ground := Go.Ground.phase }, { on := 13, ground := Go.Ground.phase }, { on := 14, ground := Go.Ground.phase }, { on := 15, ground := Go.Ground.phase }], guard := none }) (v := ?_) rfl (by kernel_rfl) (by kernel_rfl) (by kernel_rfl) (fun _ _ _ h => h) (Or.inl ⟨by rfl, ?_⟩) (by assumption) ?_
  rotate_left 1
  · (intro w hSw; (try dsimp only at hSw); go_simp; try with_reducible rfl)
  try simp only [Act.put, List.setIfInBounds_toArray, List.set_cons_zero, List.set_cons_succ]
  refine wpAnyH_done (by kernel_rfl) ?_ _
  refine NoPanic.normal ?_
  go_wp2
  go_ret
  exact ⟨rfl, HBf.out⟩
end Go.Proofs.Ytcnfafappcbpnaa.Str
