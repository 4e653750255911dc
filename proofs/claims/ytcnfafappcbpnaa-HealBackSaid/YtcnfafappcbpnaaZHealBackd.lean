/- The statement HealBack: what its proof rests on, part 4 of 4. -/
import Derived.Test.YtcnfafappcbpnaaProg
import Derived.Below
import Derived.Deep.Draws
import Derived.Deep.AppendLies
import Derived.Maps.AppendAt
import Derived.OwnWalk
import Derived.Laws.BytesArg
import Derived.Laws.MakeOwn
import Derived.Laws.OwnMore
import Derived.Deep.OwnRows
import Derived.Tactics
import Derived.Lib.ConvBytes
import Derived.Laws.Slices
import Derived.WalkKit
import Derived.KernelRfl
import Derived.RowKit3
import Derived.Deep.LoopGhost
import Derived.Deep.QuietTactic
import Derived.BigQuiet
import Derived.WideLaws
import Derived.Deep.DeepCutAuto
import Derived.Deep.CutBlock
import Derived.Deep.RegionHeld3
import Derived.Laws.Rows
import Derived.Lib.AppendStr
import Derived.ArgAppend
import Derived.Laws.IdiomCopy
import Derived.OrdersHeld
import Derived.Laws.BitsLemmas
import Derived.RowKit
import Derived.Lib.Hide
import Derived.WalkSpells
import Derived.StillTailTactics
import Derived.Outline
import Derived.Test.YtcnfafappcbpnaaZHealBackc
namespace Go.Proofs.Ytcnfafappcbpnaa.Str
open Go Go.RowKit Go.Proofs.Ytcnfafappcbpnaa.PHealFragments Go.Proofs.Ytcnfafappcbpnaa.BHealFragments Go.Proofs.Ytcnfafappcbpnaa.Gf Go.Proofs.Ytcnfafappcbpnaa.Gi Go.Proofs.Ytcnfafappcbpnaa.Bits Go.Proofs.Ytcnfafappcbpnaa.Mem Go.Proofs.Ytcnfafappcbpnaa.VPts Go.Proofs.Ytcnfafappcbpnaa.Rws Go.Proofs.YtcnfafappcbpnaaW.PrintWords Go.Proofs.YtcnfafappcbpnaaW.PrintLast
set_option linter.unusedVariables false
set_option maxRecDepth 100000 in
theorem cost_good (v : Value) (n k L sz : Nat) (w : World) (hc : IsCodeP w v n k) (k1 : 2 ≤ k) (k2 : k ≤ 8) (hl : L ≤ 1000) (hLs : L = (k - 1) * sz) (hsz : 1 ≤ sz) :
    Calls Try.prog 11 #[v, .int .i64 L] w fun e w' => e = .returned (.tuple #[.int .i64 (((2 * k - 2) * sz : Nat) : Int), .int .i64 ((k * L : Nat) : Int)]) ∧ Below w.heap.size w w' := by
  have KK := Lib.hid (fun W (hB : Below w.heap.size w W) => k_any v n k W (hc.below hB).code)
  have PP := Lib.hid (fun W (hB : Below w.heap.size w W) => parts_any v n k W (hc.below hB).code (by omega) (by omega))
  have HH := Lib.hid (fun W (hB : Below w.heap.size w W) => helpers_any v n k W (hc.below hB).code (by omega) (by omega))
  obtain ⟨a, ha⟩ : ∃ a, a = k - 1 := ⟨_, rfl⟩
  obtain ⟨q, hq⟩ : ∃ q, q = 2 * k - 2 := ⟨_, rfl⟩
  rw [← ha] at PP hLs
  rw [← hq] at HH ⊢
  have a1 : 1 ≤ a := by omega
  have a7 : a ≤ 7 := by omega
  have q14 : q ≤ 14 := by omega
  have sz1 : sz ≤ L := by rw [hLs]; exact Nat.le_mul_of_pos_left sz (by omega)
  have d1 : (L : Int) % (a : Int) = 0 := by rw [hLs, Int.natCast_mul]; exact Int.mul_emod_right _ _
  have d2 : (L : Int) / (a : Int) = (sz : Int) := by rw [hLs, Int.natCast_mul, Int.mul_comm]; exact Int.mul_ediv_cancel _ (by omega)
  have m1 : q * sz ≤ 14 * 1000 := Nat.mul_le_mul q14 (by omega)
  have m2 : k * L ≤ 8 * 1000 := Nat.mul_le_mul k2 hl
  have e1 : IntKind.i64.wrap ((q : Int) * (sz : Int)) = ((q * sz : Nat) : Int) := by rw [← Int.natCast_mul, IntWalk.i64_in _ (by omega)]
  have e2 : IntKind.i64.wrap ((k : Int) * (L : Int)) = ((k * L : Nat) : Int) := by rw [← Int.natCast_mul, IntWalk.i64_in _ (by omega)]
  obtain ⟨x1, hx1⟩ : ∃ x, x = q * sz := ⟨_, rfl⟩
  obtain ⟨x2, hx2⟩ : ∃ x, x = k * L := ⟨_, rfl⟩
  rw [← hx1] at e1 ⊢
  rw [← hx2] at e2 ⊢
  have t5 : (1 : Int) ≤ (L : Int) := by have := Nat.mul_le_mul a1 hsz; omega
  have t3 : decide ((L : Int) < 1) = false := by simp; omega
  have HB := Lib.hid (Below.refl w.heap.size w)
  obtain ⟨b, A, c, rfl, _⟩ := hc
  clear k1 k2 ha hq hLs m1 m2 hx1 hx2
  go_enter Try.func11, Try.ntmps11
  go_wp2_with (go_at_call 23; (with_reducible refine (PP.out _ (Below.refl _ _)).mono ?_); rintro e w ⟨rfl, rfl⟩)
  go_quiet (first
    | (go_at_call 23; exact Calls.quiet_of_same (PP.out _ (pw_below_drewN (Below.refl _ _) _)))
    | (go_at_call 28; exact Calls.quiet_of_same (KK.out _ (pw_below_drewN (Below.refl _ _) _)))
    | (go_at_call 27; exact Calls.quiet_of_same (HH.out _ (pw_below_drewN (Below.refl _ _) _))))
  go_wp2
  go_ret2
  exact ⟨rfl, pw_below_drewN HB.out _⟩
theorem right_f (n k : Int) (b : Bool) (h : decide (2 ≤ k ∧ k ≤ 8 ∧ 2 * k - 1 ≤ n ∧ n ≤ 24) = b) : coldframeref06_Right.f n k = some b := by
  subst h
  unfold coldframeref06_Right.f
  by_cases h1 : k ≥ 2
  · rw [if_pos h1]
    by_cases h2 : k ≤ 8
    · rw [if_pos h2, show wrap64 (2 * k) = 2 * k from wrap64_in _ (by omega) (by omega), show wrap64 (2 * k - 1) = 2 * k - 1 from wrap64_in _ (by omega) (by omega)]
      by_cases h3 : n ≥ 2 * k - 1
      · rw [if_pos h3]; congr 1; rw [decide_eq_decide]; omega
      · rw [if_neg h3]; congr 1; symm; rw [decide_eq_false_iff_not]; omega
    · rw [if_neg h2]; congr 1; symm; rw [decide_eq_false_iff_not]; omega
  · rw [if_neg h1]; congr 1; symm; rw [decide_eq_false_iff_not]; omega
theorem small_calls (n k : Int) (b : Bool) (w : World) (h : decide (2 ≤ k ∧ k ≤ 4 ∧ 2 * k - 1 ≤ n ∧ n ≤ 12) = b) :
    Calls Try.prog 7 #[.int .i64 n, .int .i64 k] w fun e w' => e = .returned (.bool b) ∧ Below w.heap.size w w' := by
  refine (coldframelaw07_small.calls n k b w ?_).mono ?_
  · subst h
    unfold coldframelaw07_small.f
    by_cases h1 : 2 ≤ k ∧ k ≤ 8 ∧ 2 * k - 1 ≤ n ∧ n ≤ 24
    · rw [right_f n k true (decide_eq_true h1), bnd, if_pos rfl]
      by_cases h2 : n ≤ 12
      · rw [if_pos h2]; congr 1; rw [decide_eq_decide]; omega
      · rw [if_neg h2]; congr 1; symm; rw [decide_eq_false_iff_not]; omega
    · rw [right_f n k false (decide_eq_false h1), bnd, if_neg (by decide)]; congr 1; symm; rw [decide_eq_false_iff_not]; omega
  · rintro e w' ⟨rfl, h⟩
    exact ⟨rfl, h.below⟩
set_option maxRecDepth 100000 in
theorem awake_calls (w : World) : Calls Try.prog 8 #[] w fun e w' => e = .returned (.bool true) ∧ Below w.heap.size w w' := by
  have NC : Hid (∀ W, Calls Try.prog 9 #[.int .i64 5, .int .i64 3] W fun e w' => ∃ v, e = .returned (.tuple #[v, .int .i64 0]) ∧ IsCodeP w' v 5 3 ∧ Below W.heap.size W w') := Lib.hid (fun W => new_codeP 5 3 W (by omega) (by omega) (by omega) (by omega))
  have CC : Hid (∀ v W, IsCodeP W v 5 3 → Calls Try.prog 11 #[v, .int .i64 4] W fun e w' => e = .returned (.tuple #[.int .i64 8, .int .i64 12]) ∧ Below W.heap.size W w') := Lib.hid (fun v W hc => cost_good v 5 3 4 2 W hc (by omega) (by omega) (by omega) (by omega) (by omega))
  go_enter Try.func8, Try.ntmps8
  go_wp2_with (first
    | (go_at_call 9; (with_reducible refine (NC.out _).mono ?_); rintro e w1 ⟨v, rfl, hc, hb⟩; have HC := Lib.hid hc; have HB := Lib.hid hb; clear hc hb)
    | (go_at_call 11; (with_reducible refine (CC.out v _ HC.out).mono ?_); rintro e w2 ⟨rfl, hb⟩; have HB2 := Lib.hid (HB.out.trans (hb.mono HB.out.size)); clear hb))
  go_ret
  exact ⟨rfl, HB2.out⟩
theorem str_reads {w : World} {A : Option Addr} {n c : Nat} {xs : List Int} (h : ReadsInt w .u8 A n xs) : (convert 22 9 (.slice A n c)).run Try.prog w = .ok (.string (strOfNums xs)) w :=
  string_of_reads Try.underlying22 Try.underlying5 Try.underlying9 h
theorem str_any {w : World} {A : Option Addr} {m c : Nat} {ys : List Int} (h : (Kd.int .u8).C w A m ys) (W : World) (hb : Below w.heap.size w W) : (convert 22 9 (.slice A m c)).run Try.prog W = .ok (.string (strOfNums ys)) W :=
  str_reads (Kd.reads_of_C (d := (0 : Int)) (Kd.C_below h hb))
end Go.Proofs.Ytcnfafappcbpnaa.Str
namespace Go.Proofs.Ytcnfafappcbpnaa.Hl
open Go Go.RowKit Go.Proofs.Ytcnfafappcbpnaa.Gf Go.Proofs.Ytcnfafappcbpnaa.Gi Go.Proofs.Ytcnfafappcbpnaa.Bits Go.Proofs.Ytcnfafappcbpnaa.Mem Go.Proofs.Ytcnfafappcbpnaa.Alg Go.Proofs.Ytcnfafappcbpnaa.Sol Go.Proofs.Ytcnfafappcbpnaa.VPts Go.Proofs.Ytcnfafappcbpnaa.Str Go.Proofs.Ytcnfafappcbpnaa.Rws Go.Proofs.Ytcnfafappcbpnaa.Par Go.Proofs.Ytcnfafappcbpnaa.Mdc Go.Proofs.Ytcnfafappcbpnaa.BHealFragments Go.Proofs.YtcnfafappcbpnaaW.PrintWords
set_option linter.unusedVariables false
theorem nb (W : World) (o : Obj) : Below W.heap.size W (W.alloc o) := (Below.refl _ _).alloc (Nat.le_refl _) o
theorem BoxP.at_ {W : World} {b b' : Nat} {p : Int × Hd} {u d : Value} (h : BoxP W b p u d) (e : b = b') : BoxP W b' p u d := e ▸ h
theorem TwoP.freshL {W : World} {base : Nat} {u d : Value} {xs ys : List (Int × Hd)} (h : TwoP W base u d xs ys) : ∀ k, W.heap.size ≤ k → But d k := fun k hk => ⟨trivial, fun e => by have := Kd.R_lt h.w k e.symm; omega⟩
theorem TwoP.freshW {W : World} {base : Nat} {u d : Value} {xs ys : List (Int × Hd)} (h : TwoP W base u d xs ys) : ∀ k, W.heap.size ≤ k → But u k := fun k hk => ⟨trivial, fun e => by have := Kd.R_lt h.l k e.symm; omega⟩
set_option maxRecDepth 100000 in
theorem hb_no (n k xl : Int) (Ab Ap : Option Addr) (L cb P cp : Nat) (w : World) (h : ¬ (2 ≤ k ∧ k ≤ 4 ∧ 2 * k - 1 ≤ n ∧ n ≤ 12)) :
    Calls Try.prog 6 #[.int .i64 n, .int .i64 k, .slice Ab L cb, .int .u8 xl, .slice Ap P cp] w fun e w' => e = .returned (.bool true) ∧ Below w.heap.size w w' := by
  have SM := Lib.hid (small_calls n k false w (decide_eq_false h))
  have AW := Lib.hid awake_calls
  clear h
  go_enter Try.func6, Try.ntmps6
  go_wp2_with (first | (go_at_call 7; (with_reducible refine SM.out.mono ?_); rintro e w1 ⟨rfl, hb⟩; have HB1 := Lib.hid hb; clear hb) | (go_at_call 8; (with_reducible refine (AW.out _).mono ?_); rintro e w9 ⟨rfl, hb⟩; have HB9 := Lib.hid (HB1.out.trans (hb.mono HB1.out.size)); clear hb))
  go_ret
  exact ⟨rfl, HB9.out⟩
set_option maxRecDepth 100000 in
set_option maxHeartbeats 1000000 in
theorem hb_skip (n k s : Nat) (xl : Int) (Ab Ap : Option Addr) (L cb P cp : Nat) (w : World) (h1 : 2 ≤ k) (h2 : k ≤ 4) (h3 : 2 * k - 1 ≤ n) (h4 : n ≤ 12) (hs : k * (k - 1) = s) (hL : 200 < L ∨ L = 0 ∨ L % s ≠ 0) :
    Calls Try.prog 6 #[.int .i64 n, .int .i64 k, .slice Ab L cb, .int .u8 xl, .slice Ap P cp] w fun e w' => e = .returned (.bool true) ∧ Below w.heap.size w w' := by
  have SM := Lib.hid (small_calls n k true w (decide_eq_true (by omega)))
  have AW := Lib.hid awake_calls
  have hs12 : k * (k - 1) ≤ 4 * 3 := Nat.mul_le_mul h2 (by omega)
  have hs2 : 2 * 1 ≤ k * (k - 1) := Nat.mul_le_mul h1 (by omega)
  obtain ⟨a, ha⟩ : ∃ a, a = k - 1 := ⟨_, rfl⟩
  have v1 : IntKind.i64.wrap ((k : Int) - 1) = (a : Int) := by rw [IntWalk.i64_in _ (by omega)]; omega
  rw [← ha] at hs hs12 hs2
  rw [hs] at hs12 hs2
  have v3 : IntKind.i64.wrap ((k : Int) * (a : Int)) = (s : Int) := by rw [← Int.natCast_mul, hs]; exact IntWalk.i64_in _ (by omega)
  have v5 : (1 : Int) ≤ (s : Int) := by omega
  clear ha
  by_cases q1 : 200 < L
  · have g1 : (200 : Int) < (L : Int) := by omega
    clear hL h1 h2 h3 h4 hs hs12 hs2
    go_enter Try.func6, Try.ntmps6
    go_wp2_with (first | (go_at_call 7; (with_reducible refine SM.out.mono ?_); rintro e w1 ⟨rfl, hb⟩; have HB1 := Lib.hid hb; clear hb) | (go_at_call 8; (with_reducible refine (AW.out _).mono ?_); rintro e w9 ⟨rfl, hb⟩; have HB9 := Lib.hid (HB1.out.trans (hb.mono HB1.out.size)); clear hb))
    go_ret
    exact ⟨rfl, HB9.out⟩
  · have g1 : ¬ (200 : Int) < (L : Int) := by omega
    have g2 : decide ((L : Int) > 200) = false := by simp; omega
    by_cases q2 : L = 0
    · have g3 : ((L : Int) == 0) = true := by simp [q2]
      clear hL h1 h2 h3 h4 hs hs12 hs2 q1 q2
      go_enter Try.func6, Try.ntmps6
      go_wp2_with (first | (go_at_call 7; (with_reducible refine SM.out.mono ?_); rintro e w1 ⟨rfl, hb⟩; have HB1 := Lib.hid hb; clear hb) | (go_at_call 8; (with_reducible refine (AW.out _).mono ?_); rintro e w9 ⟨rfl, hb⟩; have HB9 := Lib.hid (HB1.out.trans (hb.mono HB1.out.size)); clear hb))
      go_ret
      exact ⟨rfl, HB9.out⟩
    · have g3 : ((L : Int) == 0) = false := by simp; omega
      have q3 : L % s ≠ 0 := by omega
      obtain ⟨r, hr⟩ : ∃ r, r = L % s := ⟨_, rfl⟩
      have d3 : (L : Int) % (s : Int) = (r : Int) := by rw [hr]; exact (Int.natCast_emod L s).symm
      have d4 : ((r : Int) != 0) = true := by simp; omega
      clear hL h1 h2 h3 h4 hs hs12 hs2 q1 q2 q3 hr
      go_enter Try.func6, Try.ntmps6
      go_wp2_with (first | (go_at_call 7; (with_reducible refine SM.out.mono ?_); rintro e w1 ⟨rfl, hb⟩; have HB1 := Lib.hid hb; clear hb) | (go_at_call 8; (with_reducible refine (AW.out _).mono ?_); rintro e w9 ⟨rfl, hb⟩; have HB9 := Lib.hid (HB1.out.trans (hb.mono HB1.out.size)); clear hb))
      go_ret
      exact ⟨rfl, HB9.out⟩
set_option maxRecDepth 100000 in
set_option maxHeartbeats 16000000 in
theorem hb_main (n k s sz L P cb cp y : Nat) (Ab Ap : Option Addr) (b ps : List Int) (w : World) (k1 : 2 ≤ k) (k2 : k ≤ 4) (n1 : 2 * k - 1 ≤ n) (n2 : n ≤ 12) (hs : k * (k - 1) = s) (hr : (Kd.int .u8).C w Ab L b) (hLc : L ≤ cb) (hLs : L = s * sz) (hsz : 1 ≤ sz) (hL : L ≤ 200) (hbyt : ∀ x ∈ b, Byt x) (hy : y < 256) (hq : (Kd.int .u8).C w Ap P ps) (hqb : ∀ x ∈ ps, Byt x) :
    Calls Try.prog 6 #[.int .i64 n, .int .i64 k, .slice Ab L cb, .int .u8 y, .slice Ap P cp] w fun e w' => e = .returned (.bool true) ∧ Below w.heap.size w w' := by
  have SM := Lib.hid (small_calls n k true w (decide_eq_true (by omega)))
  have AW := Lib.hid awake_calls
  have NC := Lib.hid (fun W => new_codeP n k W k1 (by omega) n1 (by omega))
  have EG := Lib.hid (fun v W (hB : Below w.heap.size w W) (hc : IsCodeP W v n k) => encode_good v n k s sz L Ab cb b W hc k1 (by omega) (by omega) hs (Kd.C_below hr hB) hLc hLs hsz (by omega) hbyt)
  have hs12 : k * (k - 1) ≤ 4 * 3 := Nat.mul_le_mul k2 (by omega)
  have hs2 : 2 * 1 ≤ k * (k - 1) := Nat.mul_le_mul k1 (by omega)
  obtain ⟨a, ha⟩ : ∃ a, a = k - 1 := ⟨_, rfl⟩
  have v1 : IntKind.i64.wrap ((k : Int) - 1) = (a : Int) := by rw [IntWalk.i64_in _ (by omega)]; omega
  have hsa : s = (a + 1) * a := by rw [← hs, ha, show k - 1 + 1 = k by omega]
  have hks : k * (k - 1) = s := hs
  rw [hs] at hs12 hs2
  have v3 : IntKind.i64.wrap ((k : Int) * (a : Int)) = (s : Int) := by rw [← Int.natCast_mul, ha, hs]; exact IntWalk.i64_in _ (by omega)
  have v5 : (1 : Int) ≤ (s : Int) := by omega
  have g1 : ¬ (200 : Int) < (L : Int) := by omega
  have g2 : decide ((L : Int) > 200) = false := by simp; omega
  have hL1 : 2 * 1 ≤ s * sz := Nat.mul_le_mul (by omega) hsz
  have g3 : ((L : Int) == 0) = false := by simp; omega
  have d3 : (L : Int) % (s : Int) = 0 := by rw [hLs, Int.natCast_mul]; exact Int.mul_emod_right _ _
  have HR := Lib.hid (fun W (hB : Below w.heap.size w W) => Kd.C_below hr hB)
  have HQQ := Lib.hid (fun W (hB : Below w.heap.size w W) => Kd.C_below hq hB)
  have HQB := Lib.hid hqb
  have HBL := Lib.hid (show b.length = L from hr.1)
  have HBB := Lib.hid hbyt
  have hasz : a * sz ≤ 200 ∧ 1 ≤ a * sz := by
    have h1 : a * sz ≤ s * sz := Nat.mul_le_mul_right sz (by rw [hsa]; exact Nat.le_mul_of_pos_left a (by omega))
    have h2 : 1 * 1 ≤ a * sz := Nat.mul_le_mul (by omega) hsz
    omega
  have hsz100 : sz ≤ 100 := by
    have h1 : 2 * sz ≤ s * sz := Nat.mul_le_mul_right sz (by omega)
    omega
  obtain ⟨dd, hdd⟩ : ∃ dd, dd = 2 * k - 2 := ⟨_, rfl⟩
  obtain ⟨at_, hat_⟩ : ∃ at_, at_ = y % n := ⟨_, rfl⟩
  have hatn : at_ < n := by rw [hat_]; exact Nat.mod_lt _ (by omega)
  have HKK := Lib.hid (show ((2 ≤ k ∧ k ≤ 4 ∧ 2 * k - 1 ≤ n ∧ n ≤ 12) ∧ a = k - 1 ∧ s = (a + 1) * a ∧ L = s * sz ∧ 1 ≤ sz ∧ L ≤ 200) ∧ (k * (k - 1) = s ∧ a * sz ≤ 200 ∧ 1 ≤ a * sz ∧ sz ≤ 100 ∧ dd = 2 * k - 2 ∧ at_ < n) from ⟨⟨⟨k1, k2, n1, n2⟩, ha, hsa, hLs, hsz, hL⟩, hks, hasz.1, hasz.2, hsz100, hdd, hatn⟩)
  have q1 : IntKind.i64.wrap (y : Int) = (y : Int) := IntWalk.i64_in _ (by omega)
  have q2 : (y : Int) % (n : Int) = (at_ : Int) := by rw [hat_]; exact (Int.natCast_emod y n).symm
  have q3 : Int.tmod (y : Int) (n : Int) = (at_ : Int) := by rw [tmod_nat, hat_]
  have q4 : ((n : Int) == 0) = false := by simp; omega
  have q5 : (0 : Int) < (n : Int) := by omega
  clear hr hq hqb hbyt ha hs hLc hLs hsz hL hsa hs12 hs2 hL1 hks hasz hsz100 hdd hat_ hatn hy
  go_enter Try.func6, Try.ntmps6
  go_upto_region 10 with (first
    | (go_at_call 7; (with_reducible refine SM.out.mono ?_); rintro e w1 ⟨rfl, hb⟩; have HB1 := Lib.hid hb; clear hb)
    | (go_at_call 9; (with_reducible refine (NC.out _).mono ?_); rintro e w2 ⟨v, rfl, hcd, hb⟩; have HV := Lib.hid hcd; have HBn := Lib.hid (HB1.out.trans (hb.mono HB1.out.size)); clear HB1 hb hcd; have HB1 := HBn; clear HBn)
    | (go_at_call 19; (with_reducible refine (EG.out v _ HB1.out HV.out).mono ?_); rintro e w3 ⟨A4, c4, rfl, _, hC, hb⟩; have HC4 := Lib.hid hC; have HV3 := Lib.hid (HV.out.below hb); have HBn := Lib.hid (HB1.out.trans (hb.mono HB1.out.size)); clear HB1 HV hb hC; have HB1 := HBn; clear HBn))
  clear EG NC SM v1 v3 v5 g1 g2 g3 d3 q1 q2 q3 q4 q5
  obtain ⟨hh, hhs⟩ := heads_ex HC4.out
  have HHS := Lib.hid hhs
  obtain ⟨ad4, rfl, _⟩ := hhs 0 (by omega)
  clear hhs
  go_loopw [16, 17] (fun uv iv wr => ∃ (i : Nat) (u : Value), uv = u ∧ i ≤ n ∧ iv = .int .i64 i ∧ Hid ((Kd.int .i64).R 3 wr w3.heap.size (fun _ => True) u (nI ((List.range i).filter (fun x => decide (x ≠ at_))))) ∧ Hid (Below w3.heap.size w3 wr)) (fun _ iv _ => n - (intOf iv).toNat)
  case atStart => exact ⟨0, _, rfl, by omega, rfl, Lib.hid (Kd.R_nil _ _ _ _ _), Lib.hid (Below.refl _ _)⟩
  case round =>
    obtain ⟨i, u, rfl, hi, rfl, HU, HB⟩ := hrel
    by_cases hlt : i < n
    · have q1 : (i : Int) < (n : Int) := by omega
      have q2 : (0 : Int) ≤ (i : Int) := by omega
      by_cases hia : i = at_
      · have q3 : ((i : Int) != (at_ : Int)) = false := by simp; omega
        have q4 : ¬ (i : Int) ≠ (at_ : Int) := by omega
        have HLS := Lib.hid (show nI ((List.range i).filter (fun x => decide (x ≠ at_))) = nI ((List.range (i + 1)).filter (fun x => decide (x ≠ at_))) by rw [List.range_succ, List.filter_append]; simp [hia])
        clear hia
        go_wp2
        go_roundw
        case rel => exact ⟨i + 1, _, rfl, by omega, by go_num, by rw [← HLS.out]; exact HU, HB⟩
        case measure => simp [intOf]; omega
      · have q3 : ((i : Int) != (at_ : Int)) = true := by simp; omega
        have q4 : (i : Int) ≠ (at_ : Int) := by omega
        have HLS := Lib.hid (show nI ((List.range i).filter (fun x => decide (x ≠ at_))) ++ [(i : Int)] = nI ((List.range (i + 1)).filter (fun x => decide (x ≠ at_))) by rw [List.range_succ, List.filter_append]; simp [hia, nI])
        have HLN := Lib.hid (show (nI ((List.range i).filter (fun x => decide (x ≠ at_)))).length ≤ 12 by
          rw [nI_len]
          have h1 := List.length_filter_le (fun x => decide (x ≠ at_)) (List.range i)
          rw [List.length_range] at h1
          have := HKK.out.1.1
          omega)
        clear hia
        go_wp2_with (at_builtin; refine Kd.R_append (Kd.int .i64) (w0 := w3) w3.heap.size rfl _ _ 38 3 (.int .i64 0) 8 rfl Try.underlying38 Par.info_int rfl (by decide) (by decide) u16 (nI ((List.range i).filter (fun x => decide (x ≠ at_)))) (i : Int) [.int .i64 (i : Int)] (fun _ => True) (fun _ => False) rfl rfl rfl (fun _ hk => hk.elim) (fun _ _ => trivial) HU.out HB.out HB.out.size (by have := HLN.out; omega) ?_; intro v6 w6 h6 hb6 _ _; rw [HLS.out] at h6; have H6 := Lib.hid h6; have HB6 := Lib.hid hb6; clear h6 hb6)
        go_roundw
        case rel => exact ⟨i + 1, _, rfl, by omega, by go_num, H6, HB6⟩
        case measure => simp [intOf]; omega
    · obtain rfl : n = i := by omega
      have HU0 := Lib.hid (show (Kd.int .i64).R 3 wr w3.heap.size (fun _ => True) u16 (nI ((List.range n).filter (fun x => decide (x ≠ at_)))) from HU.out)
      have HB0 := Lib.hid (show Below w3.heap.size w3 wr from HB.out)
      clear HU HB
      go_upto_region 16 with (fail)
      have e1 : IntKind.i64.wrap (2 * (k : Int)) = 2 * (k : Int) := IntWalk.i64_in _ (by have := HKK.out.1.1; omega)
      have e2 : IntKind.i64.wrap (2 * (k : Int) - 2) = (dd : Int) := by have h1 := HKK.out.1.1; have h2 := HKK.out.2; rw [IntWalk.i64_in _ (by omega)]; omega
      have hd6 : dd ≤ 6 := by have h1 := HKK.out.1.1; have h2 := HKK.out.2; omega
      go_loopw [16, 18, 19, 20, 21, 22, 23] (fun uv lv dv iv _ _ _ wr => ∃ (i : Nat) (p : Nat → Nat) (fh : Nat → Hd) (lf : List Nat) (u l d : Value), uv = u ∧ lv = l ∧ dv = d ∧ i ≤ dd ∧ iv = .int .i64 i ∧ Hid (Pks (fun x => x < n ∧ x ≠ at_) (n - 1) i p lf) ∧ Hid ((Kd.int .i64).R 3 wr w3.heap.size (fun _ => True) u (nI lf)) ∧ Hid (TwoP wr w3.heap.size l d (qlist p fh i) (hlist p hh i)) ∧ Hid (∀ j, j < i → (fh j).2.1 = sz ∧ (Kd.int .u8).R 5 wr w3.heap.size (fun _ => True) (hv (fh j)) (fragL (ptN n k at_) a sz (shardL (ptN n k (p j)) a sz b))) ∧ Hid (Below w3.heap.size w3 wr)) (fun _ _ _ iv _ _ _ _ => dd - (intOf iv).toNat)
      case atStart => exact ⟨0, fun _ => 0, fun _ => (none, 0, 0), _, _, _, _, rfl, rfl, rfl, by omega, rfl, Lib.hid (Pks.start n at_ HKK.out.2.2.2.2.2.2 _), HU0, Lib.hid ⟨Kd.R_nil _ _ _ _ _, Kd.R_nil _ _ _ _ _⟩, Lib.hid (fun j hj => absurd hj (Nat.not_lt_zero j)), HB0⟩
      case round =>
        clear HU0 HB0
        obtain ⟨i, p, fh, lf, u, l, d, rfl, rfl, rfl, hi, rfl, HPK, HU, HT, HF, HB⟩ := hrel
        by_cases hlt : i < dd
        · have q1 : (i : Int) < (dd : Int) := by omega
          have q2 : (0 : Int) ≤ (i : Int) := by omega
          obtain ⟨l, hl⟩ : ∃ l, l = lf.length := ⟨_, rfl⟩
          have hln : 1 ≤ l ∧ l ≤ 12 := by have := HPK.out.len; have := HKK.out.1.1; have := HKK.out.2; omega
          obtain ⟨A5, c5, rfl⟩ := Kd.R_slice HU.out
          have HLL := Lib.hid hl
          rw [nI_len, ← hl] at HU ⊢
          have HLN := Lib.hid hln
          clear hl hln
          go_upto_if 99 with (fail)
          go_cut [21] (fun v wc => ∃ (q : Nat), v = .int .i64 q ∧ q < l ∧ Hid (Below wr.heap.size wr wc))
          case first =>
            have q3 : (0 : Int) < (l : Int) := by have := HLN.out; omega
            have q4 : ((l : Int) == 0) = false := by simp; omega
            by_cases hip : i < P
            · have q5 : (i : Int) < (P : Int) := by omega
              obtain ⟨adp, rfl, kp⟩ := Sol.at_row (HQQ.out wr (HB1.out.trans (HB.out.mono HB1.out.size))) i hip
              obtain ⟨y, hy, ey⟩ := byt_nat (getD_byt HQB.out i)
              rw [ey] at kp
              have q6 : IntKind.i64.wrap (y : Int) = (y : Int) := IntWalk.i64_in _ (by omega)
              obtain ⟨r, hr⟩ : ∃ r, r = y % l := ⟨_, rfl⟩
              have q7 : (y : Int) % (l : Int) = (r : Int) := by rw [hr]; exact (Int.natCast_emod y l).symm
              have q8 : Int.tmod (y : Int) (l : Int) = (r : Int) := by rw [tmod_nat, hr]
              have HRL := Lib.hid (show r < l by rw [hr]; exact Nat.mod_lt _ (by omega))
              clear hr ey
              go_wp2
              go_meet
              case rel => exact ⟨r, rfl, HRL.out, Lib.hid (Below.refl _ _)⟩
            · have q5 : ¬ (i : Int) < (P : Int) := by omega
              go_wp2
              go_meet
              case rel => exact ⟨0, rfl, by omega, Lib.hid (Below.refl _ _)⟩
          case rest =>
            obtain ⟨t, rfl, htl, HBC⟩ := hcut
            have HUc := Lib.hid (Kd.R_below HU.out HBC.out)
            have HTc := Lib.hid (HT.out.below HBC.out)
            have HFc := Lib.hid (fun j hj => (⟨(HF.out j hj).1, Kd.R_below (HF.out j hj).2 HBC.out⟩ : (fh j).2.1 = sz ∧ (Kd.int .u8).R 5 wc w3.heap.size (fun _ => True) (hv (fh j)) (fragL (ptN n k at_) a sz (shardL (ptN n k (p j)) a sz b))))
            have HBc := Lib.hid (HB.out.trans (HBC.out.mono HB.out.size))
            clear HU HT HF HB HBC
            have htl2 : t < lf.length := by rw [← HLL.out]; exact htl
            obtain ⟨v0, hv0⟩ : ∃ v0, v0 = lf[t] := ⟨_, rfl⟩
            have hvn : v0 < n := by rw [hv0]; exact (HPK.out.lt _ (List.getElem_mem _)).1
            have HPS := Lib.hid (show Pks (fun x => x < n ∧ x ≠ at_) (n - 1) (i + 1) (fun j => if j = i then v0 else p j) (lf.eraseIdx t) by rw [hv0]; exact HPK.out.step t htl2)
            have hCl := (Kd.R_reads' HUc.out).2.2
            have hcl := (Kd.R_reads' HUc.out).2.1
            rw [nI_len, ← HLL.out] at hCl
            obtain ⟨ad5, rfl, k5⟩ := ii_row hCl t htl
            rw [nI_get lf t htl2, ← hv0] at k5
            obtain ⟨ad, e, k6, hm6, hmc6, hC6⟩ := HHS.out v0 hvn
            injection e with e
            subst e
            obtain ⟨⟨A6, m6, c6⟩, hq6⟩ : ∃ q, q = hh v0 := ⟨_, rfl⟩
            rw [← hq6] at k6 hm6 hmc6 hC6
            have k6' : wc.cell? (ad4.add v0) = some (.slice A6 m6 c6) := pw_cell_below HBc.out k6
            have HLP := Lib.hid (show hlist p hh i ++ [((v0 : Int), (A6, m6, c6))] = hlist (fun j => if j = i then v0 else p j) hh (i + 1) by rw [hq6, hlist_succ])
            have HLQ := Lib.hid (fun q => show qlist p fh i ++ [((v0 : Int), q)] = qlist (fun j => if j = i then v0 else p j) (fun j => if j = i then q else fh j) (i + 1) from qlist_succ p fh i v0 q)
            have q3 : (t : Int) < (l : Int) := by omega
            have q4 : (0 : Int) ≤ (t : Int) := by omega
            have q5 : (v0 : Int) < (n : Int) := by omega
            have q6 : (0 : Int) ≤ (v0 : Int) := by omega
            have HCL := Lib.hid hcl
            obtain ⟨sh, hsh⟩ : ∃ sh, sh = shardL (ptN n k v0) a sz b := ⟨_, rfl⟩
            have FG : Hid (Calls Try.prog 10 #[v, .int .i64 at_, .slice A6 m6 c6] wc fun e w' => ∃ A c, e = .returned (.tuple #[.slice A sz c, .int .i64 0]) ∧ (Kd.int .u8).R 5 w' wc.heap.size (fun _ => True) (.slice A sz c) (fragL (ptN n k at_) a sz sh) ∧ Below wc.heap.size wc w') := Lib.hid (by
              have hkk := HKK.out
              have hk0 := hkk.1.1
              have hxa := hkk.1.2.1
              have h1 := fragment_own v n k at_ sz m6 A6 c6 sh wc (HV3.out.below HBc.out) (by omega) (by omega) (by omega) hkk.2.2.2.2.2.2 (by rw [hsh, hxa]; exact Kd.C_below hC6 HBc.out) (by rw [hsh, shardL_len, hxa]; exact hm6) hm6 hkk.1.2.2.2.2.1 (by rw [show m6 = a * sz by rw [hxa]; exact hm6]; have := hkk.2.2.1; omega) (by rw [hsh]; exact shardL_byt _ _ _ _ (ptN_lt n k _))
              rw [← hxa] at h1
              exact h1)
            have HSH := Lib.hid hsh
            have HK6 := Lib.hid (fun W (hU : (Kd.int .i64).R 3 W w3.heap.size (fun _ => True) (.slice (some ad5) l c5) (nI lf)) (hB : Below w3.heap.size w3 W) => (⟨by
              have h := (Kd.R_reads' hU).2.2
              rw [nI_len, ← HLL.out] at h
              obtain ⟨ad', e, h1⟩ := ii_row h t htl
              injection e with e
              subst e
              rw [nI_get lf t htl2, ← hv0] at h1
              exact h1, pw_cell_below hB k6⟩ : W.cell? (ad5.add t) = some (.int .i64 (v0 : Int)) ∧ W.cell? (ad4.add v0) = some (.slice A6 m6 c6)))
            clear hCl hcl hm6 hmc6 hC6 k6 hq6 hv0 htl2 HPK hsh hvn
            go_upto_region 24 with (go_at_call 10; (with_reducible refine FG.out.mono ?_); rintro e w5 ⟨A7, c7, rfl, hr, hb⟩; have HR7 := Lib.hid (Kd.R_lower hr HBc.out.size); have HBw := Lib.hid hb; clear hr hb)
            obtain ⟨wz, hwz⟩ : ∃ wz, wz = w5.drew := ⟨_, rfl⟩
            have HZ5 := Lib.hid (show Below wc.heap.size wc wz by rw [hwz]; exact HBw.out.drew)
            have HUz := Lib.hid (Kd.R_below HUc.out HZ5.out)
            have HT := Lib.hid (HTc.out.below HZ5.out)
            have HB5 := Lib.hid (HBc.out.trans (HZ5.out.mono HBc.out.size))
            have HFz := Lib.hid (fun j hj => (⟨(HFc.out j hj).1, Kd.R_below (HFc.out j hj).2 HZ5.out⟩ : (fh j).2.1 = sz ∧ (Kd.int .u8).R 5 wz w3.heap.size (fun _ => True) (hv (fh j)) (fragL (ptN n k at_) a sz (shardL (ptN n k (p j)) a sz b))))
            have HRz := Lib.hid (show (Kd.int .u8).R 5 wz w3.heap.size (fun _ => True) (.slice A7 sz c7) (fragL (ptN n k at_) a sz sh) by rw [hwz]; exact Kd.R_drew HR7.out)
            have HO := Lib.hid (Ov.refl wz)
            have KF := Lib.hid (fun W (hO : Ov wz W) (hB : Below w3.heap.size w3 W) => HK6.out W (Ov.R hO HUz.out (by decide)) hB)
            have HIL := Lib.hid (show i ≤ 1000000 by have := HKK.out.1.1; have := HKK.out.2; omega)
            have HLQ := Lib.hid (HLQ.out (A7, sz, c7))
            clear HUc HTc HBc HFc HR7 HBw FG HK6 HZ5
            go_cut [18, 19] (fun v18 v19 wc' => Hid (TwoP wc' w3.heap.size v18 v19 (qlist (fun j => if j = i then v0 else p j) (fun j => if j = i then (A7, sz, c7) else fh j) (i + 1)) (hlist (fun j => if j = i then v0 else p j) hh (i + 1))) ∧ Hid (Ov wz wc') ∧ Hid (Below w3.heap.size w3 wc'))
            case first =>
              subst hwz
              refine wp_region_noPanic ?_
              refine wp_region_held_drew (S := (fun W => W.cell? (ad5.add t) = some (.int .i64 (v0 : Int)) ∧ W.cell? (ad4.add v0) = some (.slice A6 m6 c6))) (by kernel_rfl) ?_ (fun hHeld => ?_)
              · ((try dsimp only); exact KF.out _ HO.out HB5.out)
              refine wpAnyH_take (i := 0) (oi := { dst := some 123, op := .move (.tmp 18), type := 35, pos := _, after := _, guard := none }) (v := ?_) rfl (by kernel_rfl) (by kernel_rfl) (by kernel_rfl) (fun _ _ _ h => h) (Or.inl ⟨by rfl, ?_⟩) (by assumption) ?_
              rotate_left 1
              · (intro w hSw; (try dsimp only at hSw); go_simp; try with_reducible rfl)
              try simp only [Act.put, List.setIfInBounds_toArray, List.set_cons_zero, List.set_cons_succ]
              refine wpAnyH_take (i := 1) (oi := { dst := some 124, op := .move (.tmp 16), type := 38, pos := _, after := _, guard := none }) (v := ?_) rfl (by kernel_rfl) (by kernel_rfl) (by kernel_rfl) (fun _ _ _ h => h) (Or.inl ⟨by rfl, ?_⟩) (by assumption) ?_
              rotate_left 1
              · (intro w hSw; (try dsimp only at hSw); go_simp; try with_reducible rfl)
              try simp only [Act.put, List.setIfInBounds_toArray, List.set_cons_zero, List.set_cons_succ]
              refine wpAnyH_take (i := 2) (oi := { dst := some 125, op := .move (.tmp 21), type := 3, pos := _, after := _, guard := none }) (v := ?_) rfl (by kernel_rfl) (by kernel_rfl) (by kernel_rfl) (fun _ _ _ h => h) (Or.inl ⟨by rfl, ?_⟩) (by assumption) ?_
              rotate_left 1
              · (intro w hSw; (try dsimp only at hSw); go_simp; try with_reducible rfl)
              try simp only [Act.put, List.setIfInBounds_toArray, List.set_cons_zero, List.set_cons_succ]
              refine wpAnyH_take (i := 3) (oi := { dst := some 126, op := .indexAddr 38 (.tmp 124) (.tmp 125), type := 0, pos := _, after := _, guard := none }) (v := ?_) rfl (by kernel_rfl) (by kernel_rfl) (by kernel_rfl) (fun _ _ _ h => h) (Or.inl ⟨by rfl, ?_⟩) (by assumption) ?_
              rotate_left 1
              · (intro w hSw; (try dsimp only at hSw); go_simp; try with_reducible rfl)
              try simp only [Act.put, List.setIfInBounds_toArray, List.set_cons_zero, List.set_cons_succ]
              refine wpAnyH_take (i := 4) (oi := { dst := some 127, op := .load 3 (.tmp 126), type := 3, pos := _, after := _, guard := none }) (v := ?_) rfl (by kernel_rfl) (by kernel_rfl) (by kernel_rfl) (fun _ _ _ h => h) (Or.inl ⟨by rfl, ?_⟩) (by assumption) ?_
              rotate_left 1
              · (intro w hSw; (try dsimp only at hSw); go_simp; try with_reducible rfl)
              try simp only [Act.put, List.setIfInBounds_toArray, List.set_cons_zero, List.set_cons_succ]
              refine wpAnyH_take (i := 5) (oi := { dst := some 128, op := .move (.tmp 22), type := 22, pos := _, after := _, guard := none }) (v := ?_) rfl (by kernel_rfl) (by kernel_rfl) (by kernel_rfl) (fun _ _ _ h => h) (Or.inl ⟨by rfl, ?_⟩) (by assumption) ?_
              rotate_left 1
              · (intro w hSw; (try dsimp only at hSw); go_simp; try with_reducible rfl)
              try simp only [Act.put, List.setIfInBounds_toArray, List.set_cons_zero, List.set_cons_succ]
              refine wpAnyH_take (i := 6) (oi := { dst := some 129, op := .build 37 #[(0, .tmp 127), (1, .tmp 128)], type := 37, pos := _, after := _, guard := none }) (v := ?_) rfl (by kernel_rfl) (by kernel_rfl) (by kernel_rfl) (fun _ _ _ h => h) (Or.inl ⟨by rfl, ?_⟩) (by assumption) ?_
              rotate_left 1
              · (intro w hSw; (try dsimp only at hSw); go_simp; try with_reducible rfl)
              try simp only [Act.put, List.setIfInBounds_toArray, List.set_cons_zero, List.set_cons_succ]
              refine wpAnyH_take (i := 9) (oi := { dst := some 132, op := .move (.tmp 19), type := 35, pos := _, after := _, guard := none }) (v := ?_) rfl (by kernel_rfl) (by kernel_rfl) (by kernel_rfl) (fun _ _ _ h => h) (Or.inl ⟨by rfl, ?_⟩) (by assumption) ?_
              rotate_left 1
              · (intro w hSw; (try dsimp only at hSw); go_simp; try with_reducible rfl)
              try simp only [Act.put, List.setIfInBounds_toArray, List.set_cons_zero, List.set_cons_succ]
              refine wpAnyH_take (i := 10) (oi := { dst := some 133, op := .move (.tmp 16), type := 38, pos := _, after := _, guard := none }) (v := ?_) rfl (by kernel_rfl) (by kernel_rfl) (by kernel_rfl) (fun _ _ _ h => h) (Or.inl ⟨by rfl, ?_⟩) (by assumption) ?_
              rotate_left 1
              · (intro w hSw; (try dsimp only at hSw); go_simp; try with_reducible rfl)
              try simp only [Act.put, List.setIfInBounds_toArray, List.set_cons_zero, List.set_cons_succ]
              refine wpAnyH_take (i := 11) (oi := { dst := some 134, op := .move (.tmp 21), type := 3, pos := _, after := _, guard := none }) (v := ?_) rfl (by kernel_rfl) (by kernel_rfl) (by kernel_rfl) (fun _ _ _ h => h) (Or.inl ⟨by rfl, ?_⟩) (by assumption) ?_
              rotate_left 1
              · (intro w hSw; (try dsimp only at hSw); go_simp; try with_reducible rfl)
              try simp only [Act.put, List.setIfInBounds_toArray, List.set_cons_zero, List.set_cons_succ]
              refine wpAnyH_take (i := 12) (oi := { dst := some 135, op := .indexAddr 38 (.tmp 133) (.tmp 134), type := 0, pos := _, after := _, guard := none }) (v := ?_) rfl (by kernel_rfl) (by kernel_rfl) (by kernel_rfl) (fun _ _ _ h => h) (Or.inl ⟨by rfl, ?_⟩) (by assumption) ?_
              rotate_left 1
              · (intro w hSw; (try dsimp only at hSw); go_simp; try with_reducible rfl)
              try simp only [Act.put, List.setIfInBounds_toArray, List.set_cons_zero, List.set_cons_succ]
              refine wpAnyH_take (i := 13) (oi := { dst := some 136, op := .load 3 (.tmp 135), type := 3, pos := _, after := _, guard := none }) (v := ?_) rfl (by kernel_rfl) (by kernel_rfl) (by kernel_rfl) (fun _ _ _ h => h) (Or.inl ⟨by rfl, ?_⟩) (by assumption) ?_
              rotate_left 1
              · (intro w hSw; (try dsimp only at hSw); go_simp; try with_reducible rfl)
              try simp only [Act.put, List.setIfInBounds_toArray, List.set_cons_zero, List.set_cons_succ]
              refine wpAnyH_take (i := 14) (oi := { dst := some 137, op := .move (.tmp 13), type := 39, pos := _, after := _, guard := none }) (v := ?_) rfl (by kernel_rfl) (by kernel_rfl) (by kernel_rfl) (fun _ _ _ h => h) (Or.inl ⟨by rfl, ?_⟩) (by assumption) ?_
              rotate_left 1
              · (intro w hSw; (try dsimp only at hSw); go_simp; try with_reducible rfl)
              try simp only [Act.put, List.setIfInBounds_toArray, List.set_cons_zero, List.set_cons_succ]
              refine wpAnyH_take (i := 15) (oi := { dst := some 138, op := .move (.tmp 16), type := 38, pos := _, after := _, guard := none }) (v := ?_) rfl (by kernel_rfl) (by kernel_rfl) (by kernel_rfl) (fun _ _ _ h => h) (Or.inl ⟨by rfl, ?_⟩) (by assumption) ?_
              rotate_left 1
              · (intro w hSw; (try dsimp only at hSw); go_simp; try with_reducible rfl)
              try simp only [Act.put, List.setIfInBounds_toArray, List.set_cons_zero, List.set_cons_succ]
              refine wpAnyH_take (i := 16) (oi := { dst := some 139, op := .move (.tmp 21), type := 3, pos := _, after := _, guard := none }) (v := ?_) rfl (by kernel_rfl) (by kernel_rfl) (by kernel_rfl) (fun _ _ _ h => h) (Or.inl ⟨by rfl, ?_⟩) (by assumption) ?_
              rotate_left 1
              · (intro w hSw; (try dsimp only at hSw); go_simp; try with_reducible rfl)
              try simp only [Act.put, List.setIfInBounds_toArray, List.set_cons_zero, List.set_cons_succ]
              refine wpAnyH_take (i := 17) (oi := { dst := some 140, op := .indexAddr 38 (.tmp 138) (.tmp 139), type := 0, pos := _, after := _, guard := none }) (v := ?_) rfl (by kernel_rfl) (by kernel_rfl) (by kernel_rfl) (fun _ _ _ h => h) (Or.inl ⟨by rfl, ?_⟩) (by assumption) ?_
              rotate_left 1
              · (intro w hSw; (try dsimp only at hSw); go_simp; try with_reducible rfl)
              try simp only [Act.put, List.setIfInBounds_toArray, List.set_cons_zero, List.set_cons_succ]
              refine wpAnyH_take (i := 18) (oi := { dst := some 141, op := .load 3 (.tmp 140), type := 3, pos := _, after := _, guard := none }) (v := ?_) rfl (by kernel_rfl) (by kernel_rfl) (by kernel_rfl) (fun _ _ _ h => h) (Or.inl ⟨by rfl, ?_⟩) (by assumption) ?_
              rotate_left 1
              · (intro w hSw; (try dsimp only at hSw); go_simp; try with_reducible rfl)
              try simp only [Act.put, List.setIfInBounds_toArray, List.set_cons_zero, List.set_cons_succ]
              refine wpAnyH_take (i := 19) (oi := { dst := some 142, op := .indexAddr 39 (.tmp 137) (.tmp 141), type := 0, pos := _, after := _, guard := none }) (v := ?_) rfl (by kernel_rfl) (by kernel_rfl) (by kernel_rfl) (fun _ _ _ h => h) (Or.inl ⟨by rfl, ?_⟩) (by assumption) ?_
              rotate_left 1
              · (intro w hSw; (try dsimp only at hSw); go_simp; try with_reducible rfl)
              try simp only [Act.put, List.setIfInBounds_toArray, List.set_cons_zero, List.set_cons_succ]
              refine wpAnyH_take (i := 20) (oi := { dst := some 143, op := .load 22 (.tmp 142), type := 22, pos := _, after := _, guard := none }) (v := ?_) rfl (by kernel_rfl) (by kernel_rfl) (by kernel_rfl) (fun _ _ _ h => h) (Or.inl ⟨by rfl, ?_⟩) (by assumption) ?_
              rotate_left 1
              · (intro w hSw; (try dsimp only at hSw); go_simp; try with_reducible rfl)
              try simp only [Act.put, List.setIfInBounds_toArray, List.set_cons_zero, List.set_cons_succ]
              refine wpAnyH_take (i := 21) (oi := { dst := some 144, op := .build 37 #[(0, .tmp 136), (1, .tmp 143)], type := 37, pos := _, after := _, guard := none }) (v := ?_) rfl (by kernel_rfl) (by kernel_rfl) (by kernel_rfl) (fun _ _ _ h => h) (Or.inl ⟨by rfl, ?_⟩) (by assumption) ?_
              rotate_left 1
              · (intro w hSw; (try dsimp only at hSw); go_simp; try with_reducible rfl)
              try simp only [Act.put, List.setIfInBounds_toArray, List.set_cons_zero, List.set_cons_succ]
              refine wpAnyH_ready (rs := [7, 22]) (by kernel_rfl) (by simp) ?_
              refine AllReadyH.cons (o := { dst := some 130, op := .buildSlice 35 1 #[(0, .tmp 129)], type := 35, pos := _, after := _, guard := none }) rfl (fun K hK => ?_) ?_
              · go_simp
                have HX1 := Lib.hid (BoxP.new HT.out ((v0 : Int), (A7, sz, c7)))
                (try replace HX2 := Lib.hid (HX2.out.below (nb _ (.cells #[.int .i64 (v0 : Int), hv (A7, sz, c7)] 37))))
                replace HO := Lib.hid (HO.out.below (nb _ (.cells #[.int .i64 (v0 : Int), hv (A7, sz, c7)] 37)))
                replace HB5 := Lib.hid (HB5.out.alloc HB5.out.size (.cells #[.int .i64 (v0 : Int), hv (A7, sz, c7)] 37))
                replace HT := Lib.hid (HT.out.below (nb _ (.cells #[.int .i64 (v0 : Int), hv (A7, sz, c7)] 37)))
                clear hHeld
                refine hK.out _ _ ?_ (fun hHeld => ?_)
                · ((try dsimp only); exact KF.out _ HO.out HB5.out)
                clear hK K
                refine wpAnyH_ready (rs := [8, 22]) (by kernel_rfl) (by simp) ?_
                refine AllReadyH.cons (o := { dst := some 131, op := .call { callee := .builtin .append, args := #[.tmp 123, .tmp 130], argTypes := #[35, 35] }, type := 35, pos := _, after := _, guard := none }) rfl (fun K hK => ?_) ?_
                · refine parts_app_step rfl w3.heap.size (by rfl) (.tmp 123) (.tmp 130) rfl u18 (qlist p fh i) ((v0 : Int), (A7, sz, c7)) _ rfl rfl HT.out.l (BoxP.at_ HX1.out (by first | rfl | simp)) (TwoP.freshL HT.out) HB5.out HB5.out.size (by rw [qlist_len]; exact HIL.out) ?_
                  intro v8 w8 h8 hb8 hg8 hat8
                  rw [HLQ.out] at h8
                  (try replace HX2 := Lib.hid (HX2.out.appL hg8 hat8))
                  replace HO := Lib.hid (HO.out.grown HT.out.l hg8)
                  replace HT := Lib.hid (HT.out.appL h8 hg8 hat8)
                  replace HB5 := Lib.hid hb8
                  clear h8 hb8 hg8 hat8 HX1
                  clear hHeld
                  refine hK.out _ _ ?_ (fun hHeld => ?_)
                  · ((try dsimp only); exact KF.out _ HO.out HB5.out)
                  clear hK K
                  refine wpAnyH_ready (rs := [22]) (by kernel_rfl) (by simp) ?_
                  refine AllReadyH.cons (o := { dst := some 145, op := .buildSlice 35 1 #[(0, .tmp 144)], type := 35, pos := _, after := _, guard := none }) rfl (fun K hK => ?_) AllReadyH.nil
                  go_simp
                  have HX2 := Lib.hid (BoxP.new HT.out ((v0 : Int), (A6, m6, c6)))
                  (try replace HX1 := Lib.hid (HX1.out.below (nb _ (.cells #[.int .i64 (v0 : Int), hv (A6, m6, c6)] 37))))
                  replace HO := Lib.hid (HO.out.below (nb _ (.cells #[.int .i64 (v0 : Int), hv (A6, m6, c6)] 37)))
                  replace HB5 := Lib.hid (HB5.out.alloc HB5.out.size (.cells #[.int .i64 (v0 : Int), hv (A6, m6, c6)] 37))
                  replace HT := Lib.hid (HT.out.below (nb _ (.cells #[.int .i64 (v0 : Int), hv (A6, m6, c6)] 37)))
                  clear hHeld
                  refine hK.out _ _ ?_ (fun hHeld => ?_)
                  · ((try dsimp only); exact KF.out _ HO.out HB5.out)
                  clear hK K
                  refine wpAnyH_ready (rs := [23]) (by kernel_rfl) (by simp) ?_
                  refine AllReadyH.cons (o := { dst := some 146, op := .call { callee := .builtin .append, args := #[.tmp 132, .tmp 145], argTypes := #[35, 35] }, type := 35, pos := _, after := _, guard := none }) rfl (fun K hK => ?_) AllReadyH.nil
                  refine parts_app_step rfl w3.heap.size (by rfl) (.tmp 132) (.tmp 145) rfl u19 (hlist p hh i) ((v0 : Int), (A6, m6, c6)) _ rfl rfl HT.out.w (BoxP.at_ HX2.out (by first | rfl | simp)) (TwoP.freshW HT.out) HB5.out HB5.out.size (by rw [hlist_len]; exact HIL.out) ?_
                  intro v9 w9 h9 hb9 hg9 hat9
                  rw [HLP.out] at h9
                  (try replace HX1 := Lib.hid (HX1.out.appW hg9 hat9))
                  replace HO := Lib.hid (HO.out.grown HT.out.w hg9)
                  replace HT := Lib.hid (HT.out.appW h9 hg9 hat9)
                  replace HB5 := Lib.hid hb9
                  clear h9 hb9 hg9 hat9 HX2
                  clear hHeld
                  refine hK.out _ _ ?_ (fun hHeld => ?_)
                  · ((try dsimp only); exact KF.out _ HO.out HB5.out)
                  clear hK K
                  refine wpAnyH_take (i := 24) (oi := { dst := some 18, op := .assign (.tmp 131), type := 35, pos := _, after := _, guard := none }) (v := ?_) rfl (by kernel_rfl) (by kernel_rfl) (by kernel_rfl) (fun _ _ _ h => h) (Or.inl ⟨by rfl, ?_⟩) (by assumption) ?_
                  rotate_left 1
                  · (intro w hSw; (try dsimp only at hSw); go_simp; try with_reducible rfl)
                  try simp only [Act.put, List.setIfInBounds_toArray, List.set_cons_zero, List.set_cons_succ]
                  refine wpAnyH_take (i := 25) (oi := { dst := some 19, op := .assign (.tmp 146), type := 35, pos := _, after := _, guard := none }) (v := ?_) rfl (by kernel_rfl) (by kernel_rfl) (by kernel_rfl) (fun _ _ _ h => h) (Or.inl ⟨by rfl, ?_⟩) (by assumption) ?_
                  rotate_left 1
                  · (intro w hSw; (try dsimp only at hSw); go_simp; try with_reducible rfl)
                  try simp only [Act.put, List.setIfInBounds_toArray, List.set_cons_zero, List.set_cons_succ]
                  refine wpAnyH_done (by kernel_rfl) ?_ _
                  refine NoPanic.normal ?_
                  (go_wp2; go_meet; (case rel => exact ⟨HT, HO, HB5⟩))
                refine AllReadyH.cons (o := { dst := some 145, op := .buildSlice 35 1 #[(0, .tmp 144)], type := 35, pos := _, after := _, guard := none }) rfl (fun K hK => ?_) AllReadyH.nil
                go_simp
                have HX2 := Lib.hid (BoxP.new HT.out ((v0 : Int), (A6, m6, c6)))
                (try replace HX1 := Lib.hid (HX1.out.below (nb _ (.cells #[.int .i64 (v0 : Int), hv (A6, m6, c6)] 37))))
                replace HO := Lib.hid (HO.out.below (nb _ (.cells #[.int .i64 (v0 : Int), hv (A6, m6, c6)] 37)))
                replace HB5 := Lib.hid (HB5.out.alloc HB5.out.size (.cells #[.int .i64 (v0 : Int), hv (A6, m6, c6)] 37))
                replace HT := Lib.hid (HT.out.below (nb _ (.cells #[.int .i64 (v0 : Int), hv (A6, m6, c6)] 37)))
                clear hHeld
                refine hK.out _ _ ?_ (fun hHeld => ?_)
                · ((try dsimp only); exact KF.out _ HO.out HB5.out)
                clear hK K
                refine wpAnyH_ready (rs := [8]) (by kernel_rfl) (by simp) ?_
                refine AllReadyH.cons (o := { dst := some 131, op := .call { callee := .builtin .append, args := #[.tmp 123, .tmp 130], argTypes := #[35, 35] }, type := 35, pos := _, after := _, guard := none }) rfl (fun K hK => ?_) AllReadyH.nil
                refine parts_app_step rfl w3.heap.size (by rfl) (.tmp 123) (.tmp 130) rfl u18 (qlist p fh i) ((v0 : Int), (A7, sz, c7)) _ rfl rfl HT.out.l (BoxP.at_ HX1.out (by first | rfl | simp)) (TwoP.freshL HT.out) HB5.out HB5.out.size (by rw [qlist_len]; exact HIL.out) ?_
                intro v8 w8 h8 hb8 hg8 hat8
                rw [HLQ.out] at h8
                (try replace HX2 := Lib.hid (HX2.out.appL hg8 hat8))
                replace HO := Lib.hid (HO.out.grown HT.out.l hg8)
                replace HT := Lib.hid (HT.out.appL h8 hg8 hat8)
                replace HB5 := Lib.hid hb8
                clear h8 hb8 hg8 hat8 HX1
                clear hHeld
                refine hK.out _ _ ?_ (fun hHeld => ?_)
                · ((try dsimp only); exact KF.out _ HO.out HB5.out)
                clear hK K
                refine wpAnyH_ready (rs := [23]) (by kernel_rfl) (by simp) ?_
                refine AllReadyH.cons (o := { dst := some 146, op := .call { callee := .builtin .append, args := #[.tmp 132, .tmp 145], argTypes := #[35, 35] }, type := 35, pos := _, after := _, guard := none }) rfl (fun K hK => ?_) AllReadyH.nil
                refine parts_app_step rfl w3.heap.size (by rfl) (.tmp 132) (.tmp 145) rfl u19 (hlist p hh i) ((v0 : Int), (A6, m6, c6)) _ rfl rfl HT.out.w (BoxP.at_ HX2.out (by first | rfl | simp)) (TwoP.freshW HT.out) HB5.out HB5.out.size (by rw [hlist_len]; exact HIL.out) ?_
                intro v9 w9 h9 hb9 hg9 hat9
                rw [HLP.out] at h9
                (try replace HX1 := Lib.hid (HX1.out.appW hg9 hat9))
                replace HO := Lib.hid (HO.out.grown HT.out.w hg9)
                replace HT := Lib.hid (HT.out.appW h9 hg9 hat9)
                replace HB5 := Lib.hid hb9
                clear h9 hb9 hg9 hat9 HX2
                clear hHeld
                refine hK.out _ _ ?_ (fun hHeld => ?_)
                · ((try dsimp only); exact KF.out _ HO.out HB5.out)
                clear hK K
                refine wpAnyH_take (i := 24) (oi := { dst := some 18, op := .assign (.tmp 131), type := 35, pos := _, after := _, guard := none }) (v := ?_) rfl (by kernel_rfl) (by kernel_rfl) (by kernel_rfl) (fun _ _ _ h => h) (Or.inl ⟨by rfl, ?_⟩) (by assumption) ?_
                rotate_left 1
                · (intro w hSw; (try dsimp only at hSw); go_simp; try with_reducible rfl)
                try simp only [Act.put, List.setIfInBounds_toArray, List.set_cons_zero, List.set_cons_succ]
                refine wpAnyH_take (i := 25) (oi := { dst := some 19, op := .assign (.tmp 146), type := 35, pos := _, after := _, guard := none }) (v := ?_) rfl (by kernel_rfl) (by kernel_rfl) (by kernel_rfl) (fun _ _ _ h => h) (Or.inl ⟨by rfl, ?_⟩) (by assumption) ?_
                rotate_left 1
                · (intro w hSw; (try dsimp only at hSw); go_simp; try with_reducible rfl)
                try simp only [Act.put, List.setIfInBounds_toArray, List.set_cons_zero, List.set_cons_succ]
                refine wpAnyH_done (by kernel_rfl) ?_ _
                refine NoPanic.normal ?_
                (go_wp2; go_meet; (case rel => exact ⟨HT, HO, HB5⟩))
              refine AllReadyH.cons (o := { dst := some 145, op := .buildSlice 35 1 #[(0, .tmp 144)], type := 35, pos := _, after := _, guard := none }) rfl (fun K hK => ?_) AllReadyH.nil
              go_simp
              have HX2 := Lib.hid (BoxP.new HT.out ((v0 : Int), (A6, m6, c6)))
              (try replace HX1 := Lib.hid (HX1.out.below (nb _ (.cells #[.int .i64 (v0 : Int), hv (A6, m6, c6)] 37))))
              replace HO := Lib.hid (HO.out.below (nb _ (.cells #[.int .i64 (v0 : Int), hv (A6, m6, c6)] 37)))
              replace HB5 := Lib.hid (HB5.out.alloc HB5.out.size (.cells #[.int .i64 (v0 : Int), hv (A6, m6, c6)] 37))
              replace HT := Lib.hid (HT.out.below (nb _ (.cells #[.int .i64 (v0 : Int), hv (A6, m6, c6)] 37)))
              clear hHeld
              refine hK.out _ _ ?_ (fun hHeld => ?_)
              · ((try dsimp only); exact KF.out _ HO.out HB5.out)
              clear hK K
              refine wpAnyH_ready (rs := [7]) (by kernel_rfl) (by simp) ?_
              refine AllReadyH.cons (o := { dst := some 130, op := .buildSlice 35 1 #[(0, .tmp 129)], type := 35, pos := _, after := _, guard := none }) rfl (fun K hK => ?_) AllReadyH.nil
              go_simp
              have HX1 := Lib.hid (BoxP.new HT.out ((v0 : Int), (A7, sz, c7)))
              (try replace HX2 := Lib.hid (HX2.out.below (nb _ (.cells #[.int .i64 (v0 : Int), hv (A7, sz, c7)] 37))))
              replace HO := Lib.hid (HO.out.below (nb _ (.cells #[.int .i64 (v0 : Int), hv (A7, sz, c7)] 37)))
              replace HB5 := Lib.hid (HB5.out.alloc HB5.out.size (.cells #[.int .i64 (v0 : Int), hv (A7, sz, c7)] 37))
              replace HT := Lib.hid (HT.out.below (nb _ (.cells #[.int .i64 (v0 : Int), hv (A7, sz, c7)] 37)))
              clear hHeld
              refine hK.out _ _ ?_ (fun hHeld => ?_)
              · ((try dsimp only); exact KF.out _ HO.out HB5.out)
              clear hK K
              refine wpAnyH_ready (rs := [8]) (by kernel_rfl) (by simp) ?_
              refine AllReadyH.cons (o := { dst := some 131, op := .call { callee := .builtin .append, args := #[.tmp 123, .tmp 130], argTypes := #[35, 35] }, type := 35, pos := _, after := _, guard := none }) rfl (fun K hK => ?_) AllReadyH.nil
              refine parts_app_step rfl w3.heap.size (by rfl) (.tmp 123) (.tmp 130) rfl u18 (qlist p fh i) ((v0 : Int), (A7, sz, c7)) _ rfl rfl HT.out.l (BoxP.at_ HX1.out (by first | rfl | simp)) (TwoP.freshL HT.out) HB5.out HB5.out.size (by rw [qlist_len]; exact HIL.out) ?_
              intro v8 w8 h8 hb8 hg8 hat8
              rw [HLQ.out] at h8
              (try replace HX2 := Lib.hid (HX2.out.appL hg8 hat8))
              replace HO := Lib.hid (HO.out.grown HT.out.l hg8)
              replace HT := Lib.hid (HT.out.appL h8 hg8 hat8)
              replace HB5 := Lib.hid hb8
              clear h8 hb8 hg8 hat8 HX1
              clear hHeld
              refine hK.out _ _ ?_ (fun hHeld => ?_)
              · ((try dsimp only); exact KF.out _ HO.out HB5.out)
              clear hK K
              refine wpAnyH_ready (rs := [23]) (by kernel_rfl) (by simp) ?_
              refine AllReadyH.cons (o := { dst := some 146, op := .call { callee := .builtin .append, args := #[.tmp 132, .tmp 145], argTypes := #[35, 35] }, type := 35, pos := _, after := _, guard := none }) rfl (fun K hK => ?_) AllReadyH.nil
              refine parts_app_step rfl w3.heap.size (by rfl) (.tmp 132) (.tmp 145) rfl u19 (hlist p hh i) ((v0 : Int), (A6, m6, c6)) _ rfl rfl HT.out.w (BoxP.at_ HX2.out (by first | rfl | simp)) (TwoP.freshW HT.out) HB5.out HB5.out.size (by rw [hlist_len]; exact HIL.out) ?_
              intro v9 w9 h9 hb9 hg9 hat9
              rw [HLP.out] at h9
              (try replace HX1 := Lib.hid (HX1.out.appW hg9 hat9))
              replace HO := Lib.hid (HO.out.grown HT.out.w hg9)
              replace HT := Lib.hid (HT.out.appW h9 hg9 hat9)
              replace HB5 := Lib.hid hb9
              clear h9 hb9 hg9 hat9 HX2
              clear hHeld
              refine hK.out _ _ ?_ (fun hHeld => ?_)
              · ((try dsimp only); exact KF.out _ HO.out HB5.out)
              clear hK K
              refine wpAnyH_take (i := 24) (oi := { dst := some 18, op := .assign (.tmp 131), type := 35, pos := _, after := _, guard := none }) (v := ?_) rfl (by kernel_rfl) (by kernel_rfl) (by kernel_rfl) (fun _ _ _ h => h) (Or.inl ⟨by rfl, ?_⟩) (by assumption) ?_
              rotate_left 1
              · (intro w hSw; (try dsimp only at hSw); go_simp; try with_reducible rfl)
              try simp only [Act.put, List.setIfInBounds_toArray, List.set_cons_zero, List.set_cons_succ]
              refine wpAnyH_take (i := 25) (oi := { dst := some 19, op := .assign (.tmp 146), type := 35, pos := _, after := _, guard := none }) (v := ?_) rfl (by kernel_rfl) (by kernel_rfl) (by kernel_rfl) (fun _ _ _ h => h) (Or.inl ⟨by rfl, ?_⟩) (by assumption) ?_
              rotate_left 1
              · (intro w hSw; (try dsimp only at hSw); go_simp; try with_reducible rfl)
              try simp only [Act.put, List.setIfInBounds_toArray, List.set_cons_zero, List.set_cons_succ]
              refine wpAnyH_done (by kernel_rfl) ?_ _
              refine NoPanic.normal ?_
              (go_wp2; go_meet; (case rel => exact ⟨HT, HO, HB5⟩))
            case rest =>
              clear KF HLP HLQ HT HO HB5
              obtain ⟨HTn, HOn, HBn⟩ := hcut
              have HU6 := Lib.hid (Ov.R HOn.out HUz.out (by decide))
              have HFn := Lib.hid (show ∀ j, j < i + 1 → ((if j = i then ((A7, sz, c7) : Hd) else fh j)).2.1 = sz ∧ (Kd.int .u8).R 5 wc w3.heap.size (fun _ => True) (hv (if j = i then (A7, sz, c7) else fh j)) (fragL (ptN n k at_) a sz (shardL (ptN n k (if j = i then v0 else p j)) a sz b)) from fun j hj => by
                by_cases e : j = i
                · rw [if_pos e, if_pos e]
                  exact ⟨rfl, by rw [← HSH.out]; exact Ov.R HOn.out HRz.out (by decide)⟩
                · rw [if_neg e, if_neg e]
                  have h1 := HFz.out j (by omega)
                  exact ⟨h1.1, Ov.R HOn.out h1.2 (by decide)⟩)
              clear HFz HRz HUz HOn HSH hwz
              have hR6 := (Kd.R_reads' HU6.out).2.2
              rw [nI_len, ← HLL.out] at hR6
              have HR1 := Lib.hid (show ReadsInt wc .i64 (some ad5) l (nI lf) from Kd.reads_of_C (d := (0 : Int)) hR6)
              obtain ⟨i0, hinf, hzz⟩ := Option.map_eq_some_iff.1 Par.info_int
              simp only [Prod.mk.injEq] at hzz
              have k1 := cut_to (P := Try.prog) 38 3 .i64 Try.underlying38 hinf (some ad5) l c5 (t : Int) (by omega) (by omega) HCL.out
              have k2 := cut_from (P := Try.prog) 38 3 .i64 Try.underlying38 hinf 1 hzz.2.1 (some ad5) l c5 ((t : Int) + 1) (by omega) (by omega)
              have ek : ((t : Int) + 1).toNat = t + 1 := by omega
              simp only [Int.toNat_natCast, ek, Nat.mul_one] at k1 k2
              obtain ⟨A8, hA8⟩ : ∃ A8, A8 = if c5 = t + 1 then some ad5 else (some ad5).map (·.add (t + 1)) := ⟨_, rfl⟩
              rw [← hA8] at k2
              have wr1 : IntKind.i64.wrap ((t : Int) + 1) = (t : Int) + 1 := IntWalk.i64_in _ (by have := HLN.out; omega)
              have HRA := Lib.hid (fun W (hB : Below wc.heap.size wc W) => (Kd.C_of_reads (d := (0 : Int)) ((HR1.out.below hB).take_ t (by omega)) : (Kd.int .i64).C W (some ad5) t ((nI lf).take t)))
              have HRB := Lib.hid (fun W (hB : Below wc.heap.size wc W) => (Kd.C_of_reads (d := (0 : Int)) (show ReadsInt W .i64 A8 (l - (t + 1)) ((nI lf).drop (t + 1)) by rw [hA8]; exact (HR1.out.below hB).drop_ (t + 1) (by omega) HCL.out) : (Kd.int .i64).C W A8 (l - (t + 1)) ((nI lf).drop (t + 1))))
              obtain ⟨xs, hxs⟩ : ∃ xs, xs = (nI lf).take t := ⟨_, rfl⟩
              obtain ⟨ys, hys⟩ : ∃ ys, ys = (nI lf).drop (t + 1) := ⟨_, rfl⟩
              rw [← hxs] at HRA
              rw [← hys] at HRB
              have HXL := Lib.hid (show xs.length = t by rw [hxs, List.length_take, nI_len, ← HLL.out]; omega)
              have HXY := Lib.hid (show xs ++ ys = nI (lf.eraseIdx t) by rw [hxs, hys, nI_erase])
              have HL12 := Lib.hid (show t ≤ 12 ∧ l - (t + 1) ≤ 12 by have := HLN.out; omega)
              have KS := Lib.hid (fun W => (⟨k1 W, k2 W⟩ : (Instr.slice 38 (.slice (some ad5) l c5) none (some (.int .i64 t)) none).run Try.prog W = .ok (.slice (some ad5) t c5) W ∧ (Instr.slice 38 (.slice (some ad5) l c5) (some (.int .i64 ((t : Int) + 1))) none none).run Try.prog W = .ok (.slice A8 (l - (t + 1)) (c5 - (t + 1))) W))
              clear hR6 hinf hzz k1 k2 ek hA8 hxs hys HU6 HR1
              go_upto_region 25 with (fail)
              have HZ := Lib.hid (show Below wc.heap.size wc wc.drew from (Below.refl _ _).drew)
              refine wp_region_noPanic ?_
              refine wp_region_held_drew (S := (fun W => (Instr.slice 38 (.slice (some ad5) l c5) none (some (.int .i64 t)) none).run Try.prog W = .ok (.slice (some ad5) t c5) W ∧ (Instr.slice 38 (.slice (some ad5) l c5) (some (.int .i64 ((t : Int) + 1))) none none).run Try.prog W = .ok (.slice A8 (l - (t + 1)) (c5 - (t + 1))) W)) (by kernel_rfl) ?_ (fun hHeld => ?_)
              · ((try dsimp only); exact KS.out _)
              refine wpAnyH_take (i := 1) (oi := { dst := some 148, op := .move (.tmp 16), type := 38, pos := _, after := _, guard := none }) (v := ?_) rfl (by kernel_rfl) (by kernel_rfl) (by kernel_rfl) (fun _ _ _ h => h) (Or.inl ⟨by rfl, ?_⟩) (by assumption) ?_
              rotate_left 1
              · (intro w hSw; (try dsimp only at hSw); go_simp; try with_reducible rfl)
              try simp only [Act.put, List.setIfInBounds_toArray, List.set_cons_zero, List.set_cons_succ]
              refine wpAnyH_take (i := 2) (oi := { dst := some 149, op := .move (.tmp 21), type := 3, pos := _, after := _, guard := none }) (v := ?_) rfl (by kernel_rfl) (by kernel_rfl) (by kernel_rfl) (fun _ _ _ h => h) (Or.inl ⟨by rfl, ?_⟩) (by assumption) ?_
              rotate_left 1
              · (intro w hSw; (try dsimp only at hSw); go_simp; try with_reducible rfl)
              try simp only [Act.put, List.setIfInBounds_toArray, List.set_cons_zero, List.set_cons_succ]
              refine wpAnyH_take (i := 3) (oi := { dst := some 150, op := .slice 38 (.tmp 148) none (some (.tmp 149)) none, type := 38, pos := _, after := _, guard := none }) (v := ?_) rfl (by kernel_rfl) (by kernel_rfl) (by kernel_rfl) (fun _ _ _ h => h) (Or.inl ⟨by rfl, ?_⟩) (by assumption) ?_
              rotate_left 1
              · (intro w hSw; (try dsimp only at hSw); go_simp; try with_reducible rfl)
              try simp only [Act.put, List.setIfInBounds_toArray, List.set_cons_zero, List.set_cons_succ]
              refine wpAnyH_take (i := 5) (oi := { dst := some 152, op := .move (.tmp 16), type := 38, pos := _, after := _, guard := none }) (v := ?_) rfl (by kernel_rfl) (by kernel_rfl) (by kernel_rfl) (fun _ _ _ h => h) (Or.inl ⟨by rfl, ?_⟩) (by assumption) ?_
              rotate_left 1
              · (intro w hSw; (try dsimp only at hSw); go_simp; try with_reducible rfl)
              try simp only [Act.put, List.setIfInBounds_toArray, List.set_cons_zero, List.set_cons_succ]
              refine wpAnyH_take (i := 6) (oi := { dst := some 153, op := .move (.tmp 21), type := 3, pos := _, after := _, guard := none }) (v := ?_) rfl (by kernel_rfl) (by kernel_rfl) (by kernel_rfl) (fun _ _ _ h => h) (Or.inl ⟨by rfl, ?_⟩) (by assumption) ?_
              rotate_left 1
              · (intro w hSw; (try dsimp only at hSw); go_simp; try with_reducible rfl)
              try simp only [Act.put, List.setIfInBounds_toArray, List.set_cons_zero, List.set_cons_succ]
              refine wpAnyH_take (i := 7) (oi := { dst := some 154, op := .binOp .add 3 (.tmp 153) (.const (.int .i64 1)) 3, type := 3, pos := _, after := _, guard := none }) (v := ?_) rfl (by kernel_rfl) (by kernel_rfl) (by kernel_rfl) (fun _ _ _ h => h) (Or.inl ⟨by rfl, ?_⟩) (by assumption) ?_
              rotate_left 1
              · (intro w hSw; (try dsimp only at hSw); go_simp; try with_reducible rfl)
              try simp only [Act.put, List.setIfInBounds_toArray, List.set_cons_zero, List.set_cons_succ]
              refine wpAnyH_take (i := 8) (oi := { dst := some 155, op := .slice 38 (.tmp 152) (some (.tmp 154)) none none, type := 38, pos := _, after := _, guard := none }) (v := ?_) rfl (by kernel_rfl) (by kernel_rfl) (by kernel_rfl) (fun _ _ _ h => h) (Or.inl ⟨by rfl, ?_⟩) (by assumption) ?_
              rotate_left 1
              · (intro w hSw; (try dsimp only at hSw); go_simp; try with_reducible rfl)
              try simp only [Act.put, List.setIfInBounds_toArray, List.set_cons_zero, List.set_cons_succ]
              refine wpAnyH_ready (rs := [0]) (by kernel_rfl) (by simp) ?_
              refine AllReadyH.cons (o := { dst := some 147, op := .buildSlice 38 0 #[], type := 38, pos := _, after := _, guard := none }) rfl (fun K hK => ?_) AllReadyH.nil
              go_simp
              have HE := Lib.hid (lit0i (w := wc) (X := wc.drew) HZ.out)
              replace HZ := Lib.hid (HZ.out.alloc HZ.out.size (.cells #[] 3))
              clear hHeld
              refine hK.out _ _ ?_ (fun hHeld => ?_)
              · ((try dsimp only); exact KS.out _)
              clear hK K
              refine wpAnyH_ready (rs := [4]) (by kernel_rfl) (by simp) ?_
              refine AllReadyH.cons (o := { dst := some 151, op := .call { callee := .builtin .append, args := #[.tmp 147, .tmp 150], argTypes := #[38, 38] }, type := 38, pos := _, after := _, guard := none }) rfl (fun K hK => ?_) AllReadyH.nil
              refine Kd.R_append_rows_step (Kd.int .i64) (w0 := wc) wc.heap.size (by rfl) (.tmp 147) (.tmp 150) 38 3 (.int .i64 0) 8 rfl Try.underlying38 Par.info_int rfl (by decide) (by decide) _ [] xs _ _ _ (fun _ => True) (fun _ => False) rfl rfl HE.out (HRA.out _ HZ.out) (fun _ _ h => h) (fun _ h => h.elim) (fun _ _ => trivial) HZ.out HZ.out.size (by have := HL12.out; simp; omega) ?_
              intro v2 x2 ho hb _ _
              rw [List.nil_append] at ho
              obtain ⟨A9, c9, e9⟩ := Kd.R_slice ho
              rw [HXL.out] at e9
              subst e9
              have HR9 := Lib.hid ho
              replace HZ := Lib.hid hb
              clear ho hb HE
              clear hHeld
              refine hK.out _ _ ?_ (fun hHeld => ?_)
              · ((try dsimp only); exact KS.out _)
              clear hK K
              refine wpAnyH_ready (rs := [9]) (by kernel_rfl) (by simp) ?_
              refine AllReadyH.cons (o := { dst := some 156, op := .call { callee := .builtin .append, args := #[.tmp 151, .tmp 155], argTypes := #[38, 38] }, type := 38, pos := _, after := _, guard := none }) rfl (fun K hK => ?_) AllReadyH.nil
              refine Kd.R_append_rows_step (Kd.int .i64) (w0 := wc) wc.heap.size (by rfl) (.tmp 151) (.tmp 155) 38 3 (.int .i64 0) 8 rfl Try.underlying38 Par.info_int rfl (by decide) (by decide) (.slice A9 t c9) xs ys _ _ _ (fun _ => True) (fun _ => False) rfl rfl HR9.out (HRB.out _ HZ.out) (fun _ _ h => h) (fun _ h => h.elim) (fun _ _ => trivial) HZ.out HZ.out.size (by have := HXL.out; have := HL12.out; omega) ?_
              intro v3 x3 ho hb _ _
              rw [HXY.out] at ho
              have HRX := Lib.hid ho
              replace HZ := Lib.hid hb
              clear ho hb HR9
              clear hHeld
              refine hK.out _ _ ?_ (fun hHeld => ?_)
              · ((try dsimp only); exact KS.out _)
              clear hK K
              refine wpAnyH_take (i := 10) (oi := { dst := some 16, op := .assign (.tmp 156), type := 38, pos := _, after := _, guard := none }) (v := ?_) rfl (by kernel_rfl) (by kernel_rfl) (by kernel_rfl) (fun _ _ _ h => h) (Or.inl ⟨by rfl, ?_⟩) (by assumption) ?_
              rotate_left 1
              · (intro w hSw; (try dsimp only at hSw); go_simp; try with_reducible rfl)
              try simp only [Act.put, List.setIfInBounds_toArray, List.set_cons_zero, List.set_cons_succ]
              refine wpAnyH_done (by kernel_rfl) ?_ _
              refine NoPanic.normal ?_
              go_wp2
              go_roundw
              case rel => exact ⟨i + 1, _, (fun j => if j = i then (A7, sz, c7) else fh j), _, _, _, _, rfl, rfl, rfl, by omega, by go_num, HPS, Lib.hid (Kd.R_lower HRX.out HBn.out.size), Lib.hid (HTn.out.below HZ.out), Lib.hid (fun j hj => ⟨(HFn.out j hj).1, Kd.R_below (HFn.out j hj).2 HZ.out⟩), Lib.hid (HBn.out.trans (HZ.out.mono HBn.out.size))⟩
              case measure => simp [intOf]; omega
        · obtain rfl : dd = i := by omega
          have hkk := HKK.out
          have hok : ∀ m : Nat, 0 < m → okTo n (fun j => ((p j : Nat) : Int)) (fun _ => m) dd := fun m hm j hj => by
            have h1 := (HPK.out.pk j hj).1.1
            refine ⟨by show (0 : Int) ≤ ((p j : Nat) : Int); omega, by show ((p j : Nat) : Int) < n; omega, hm, rfl, fun j' hj' e => ?_⟩
            have e2 : ((p j' : Nat) : Int) = ((p j : Nat) : Int) := e
            exact HPK.out.ne j j' hj hj' (by omega)
          have hne : ∀ j, j < dd → ((p j : Nat) : Int) ≠ (at_ : Int) := fun j hj e => (HPK.out.pk j hj).1.2 (by omega)
          obtain ⟨LL, hLL⟩ : ∃ LL, LL = (k - 1) * sz := ⟨_, rfl⟩
          obtain ⟨fr, hfr⟩ : ∃ fr, fr = shardL (ptN n k at_) (k - 1) sz b := ⟨_, rfl⟩
          obtain ⟨A8, c8, rfl⟩ := Kd.R_slice HT.out.l
          obtain ⟨A9, c9, rfl⟩ := Kd.R_slice HT.out.w
          obtain ⟨_, hc8, hC8⟩ := Kd.R_reads' HT.out.l
          obtain ⟨_, hc9, hC9⟩ := Kd.R_reads' HT.out.w
          rw [qlist_len] at hc8 hC8 ⊢
          rw [hlist_len] at hc9 hC9 ⊢
          have RG := Lib.hid (show Calls Try.prog 14 #[v, .int .i64 at_, .slice A8 dd c8] wr fun e w' => ∃ A' c', e = .returned (.tuple #[.slice A' LL c', .int .i64 0]) ∧ (Kd.int .u8).C w' A' LL fr ∧ Below wr.heap.size wr w' by
            have hpa := pa_ofH (q := fun j => (((p j : Nat) : Int), fh j)) (x := fun j => fragL (ptN n k at_) (k - 1) sz (shardL (ptN n k (((p j : Nat) : Int)).toNat) (k - 1) sz b)) hC8 (fun j hj => by
              obtain ⟨h1, h2⟩ := HF.out j hj
              rw [Int.toNat_natCast, ← hkk.1.2.1]
              obtain ⟨_, h3, h4⟩ := Kd.R_reads' h2
              have e1 : (fragL (ptN n k at_) a sz (shardL (ptN n k (p j)) a sz b)).length = sz := line_len _ _
              rw [e1] at h4
              exact ⟨by rw [e1]; exact h1.symm, h3, by show (Kd.int .u8).C wr (fh j).1 (fh j).2.1 _; rw [h1]; exact h4⟩)
            refine (regen_good v n k dd c8 at_ sz A8 (fun j => ((p j : Nat) : Int)) _ _ (fun _ => sz) wr ⟨HV3.out.below HB.out, by omega, by omega, by omega, hpa, fun j => line_len _ _, by omega⟩ hkk.2.2.2.2.2.2 ⟨hok sz (by omega), hne⟩ (by omega) hc8 rfl (by omega) (fun q i => getD_byt (line_byt _ _ (fun i => fragTo_byt _ _ _ _ _ (ptN_lt n k _))) i)).mono ?_
            rintro e w' ⟨Z, A', c', hZ, hs, rfl, hr, hbw⟩
            have h2 := regen_back (n := n) (k := k) (N := dd) (a := k - 1) (sz := sz) (at_ := at_) (m := fun _ => sz) (s := fun j => ((p j : Nat) : Int)) (b := b) (Z := Z) (by omega) (by omega) (by omega) rfl (hok sz (by omega)) (by omega) (by omega) HBB.out hZ hs
            rw [h2] at hr
            have h1 := (Kd.R_reads' hr).2.2
            rw [shardL_len] at h1
            rw [hLL, hfr]
            exact ⟨A', c', rfl, h1, hbw⟩)
          have WG := Lib.hid (fun W (hB : Below wr.heap.size wr W) => show Calls Try.prog 16 #[v, .int .i64 at_, .slice A9 dd c9] W fun e w' => ∃ A' c', e = .returned (.tuple #[.slice A' LL c', .int .i64 0]) ∧ (Kd.int .u8).C w' A' LL fr ∧ Below W.heap.size W w' by
            have hBW := HB.out.trans (hB.mono HB.out.size)
            have hpa := pa_ofH (q := fun j => (((p j : Nat) : Int), hh (p j))) (x := fun j => shardL (ptN n k ((((p j : Nat) : Int))).toNat) a sz b) (Kd.C_below hC9 hB) (fun j hj => by
              obtain ⟨ad, _, _, h2, h3, h4⟩ := HHS.out (p j) (HPK.out.pk j hj).1.1
              rw [Int.toNat_natCast]
              refine ⟨by rw [shardL_len, h2, hkk.1.2.1], h3, ?_⟩
              rw [hkk.1.2.1]
              exact Kd.C_below h4 hBW)
            rw [hLL, hfr]
            refine whole_good v (.slice A9 dd c9) n k s sz L at_ b W (HV3.out.below hBW) (by omega) (by omega) (by omega) hkk.2.1 hkk.1.2.2.2.1 hkk.1.2.2.2.2.1 (by omega) HBL.out HBB.out hkk.2.2.2.2.2.2 ?_
            refine (decode_good v n k dd c9 a sz L A9 (fun j => ((p j : Nat) : Int)) _ _ (fun _ => a * sz) (msgB b sz) W (HV3.out.below hBW) (by omega) (by omega) (by omega) hkk.1.2.1 hpa (fun j => shardL_len _ _ _ _) (by omega) hc9 (hok (a * sz) (by omega)) (by omega) (Nat.mul_comm _ _) (by omega) (by omega) (by rw [← hkk.1.2.2.1]; exact hkk.1.2.2.2.1) (fun q i => getD_byt (shardL_byt _ _ _ _ (ptN_lt n k _)) i) (fun u q => getD_byt HBB.out _) (shards_msg HBB.out)).mono ?_
            rintro e w' ⟨A', c', rfl, hr, hbw⟩
            rw [msg_line HBL.out] at hr
            exact ⟨A', c', rfl, hr, hbw⟩)
          obtain ⟨ad, e, k6, hm6, _, hC6⟩ := HHS.out at_ hkk.2.2.2.2.2.2
          injection e with e
          subst e
          obtain ⟨⟨A6, m6, c6⟩, hq6⟩ : ∃ q, q = hh at_ := ⟨_, rfl⟩
          rw [← hq6] at k6 hm6 hC6
          obtain rfl : m6 = LL := by rw [hLL]; exact hm6
          have HSA := Lib.hid (show w3.cell? (ad4.add at_) = some (.slice A6 m6 c6) ∧ (Kd.int .u8).C w3 A6 m6 fr from ⟨k6, by rw [hfr]; exact hC6⟩)
          have g1 : (at_ : Int) < (n : Int) := by omega
          have g2 : (0 : Int) ≤ (at_ : Int) := by omega
          have HBw := Lib.hid (HB1.out.trans (HB.out.mono HB1.out.size))
          have HQ := Lib.hid (Below.refl wr.heap.size wr)
          have HB3 := Lib.hid (show Below w3.heap.size w3 wr from HB.out)
          clear hc8 hc9 hC8 hC9 HU HT HF HPK HB HB1 hkk hok hne k6 hm6 hC6 hq6 hLL hfr
          have HB1 := HBw
          clear HBw
          go_upto_region 28 with (first
            | (go_at_call 14; (with_reducible refine RG.out.mono ?_); rintro e w5 ⟨A7, c7, rfl, hr, hb⟩; have HC7 := Lib.hid hr; have HBn := Lib.hid (HB1.out.trans (hb.mono HB1.out.size)); have HQn := Lib.hid hb; clear HB1 HQ hb hr; have HB1 := HBn; have HQ := HQn; clear HBn HQn)
            | (go_at_call 16; (with_reducible refine (WG.out _ HQ.out).mono ?_); rintro e w6 ⟨A10, c10, rfl, hr, hb⟩; have HC10 := Lib.hid hr; have HC7w := Lib.hid (Kd.C_below HC7.out hb); have HBn := Lib.hid (HB1.out.trans (hb.mono HB1.out.size)); have HQn := Lib.hid (HQ.out.trans (hb.mono HQ.out.size)); clear HB1 HQ HC7 hb hr; have HB1 := HBn; have HQ := HQn; clear HBn HQn))
          have HS6 := Lib.hid (show w6.cell? (ad4.add at_) = some (.slice A6 m6 c6) ∧ (Kd.int .u8).C w6 A6 m6 fr from ⟨pw_cell_below (HB3.out.trans (HQ.out.mono HB3.out.size)) HSA.out.1, Kd.C_below HSA.out.2 (HB3.out.trans (HQ.out.mono HB3.out.size))⟩)
          have KS := Lib.hid (fun W (hB : Below w6.heap.size w6 W) => show (convert 22 9 (.slice A7 m6 c7)).run Try.prog W = .ok (.string (strOfNums fr)) W ∧ W.cell? (ad4.add at_) = some (.slice A6 m6 c6) ∧ (convert 22 9 (.slice A6 m6 c6)).run Try.prog W = .ok (.string (strOfNums fr)) W ∧ (convert 22 9 (.slice A10 m6 c10)).run Try.prog W = .ok (.string (strOfNums fr)) W from
            ⟨str_any (c := c7) HC7w.out W hB, pw_cell_below hB HS6.out.1, str_any (c := c6) HS6.out.2 W hB, str_any (c := c10) HC10.out W hB⟩)
          have HZ := Lib.hid (show Below w6.heap.size w6 w6.drew from (Below.refl _ _).drew)
          have HBd := Lib.hid (show Below w.heap.size w w6.drew from HB1.out.drew)
          clear HB1 HQ HB3 HS6 HSA RG WG HC7w HC10
          refine wp_region_noPanic ?_
          refine wp_region_held_drew (S := (fun W => (convert 22 9 (.slice A7 m6 c7)).run Try.prog W = .ok (.string (strOfNums fr)) W ∧ W.cell? (ad4.add at_) = some (.slice A6 m6 c6) ∧ (convert 22 9 (.slice A6 m6 c6)).run Try.prog W = .ok (.string (strOfNums fr)) W ∧ (convert 22 9 (.slice A10 m6 c10)).run Try.prog W = .ok (.string (strOfNums fr)) W)) (by kernel_rfl) ?_ (fun hHeld => ?_)
          · ((try dsimp only); exact KS.out _ HZ.out)
          refine wpAnyH_take (i := 0) (oi := { dst := some 171, op := .move (.tmp 25), type := 26, pos := _, after := _, guard := none }) (v := ?_) rfl (by kernel_rfl) (by kernel_rfl) (by kernel_rfl) (fun _ _ _ h => h) (Or.inl ⟨by rfl, ?_⟩) (by assumption) ?_
          rotate_left 1
          · (intro w hSw; (try dsimp only at hSw); go_simp; try with_reducible rfl)
          try simp only [Act.put, List.setIfInBounds_toArray, List.set_cons_zero, List.set_cons_succ]
          refine wpAnyH_take (i := 1) (oi := { dst := some 172, op := .binOp .eql 26 (.tmp 171) (.const (.int .i64 0)) 26, type := 4, pos := _, after := _, guard := none }) (v := ?_) rfl (by kernel_rfl) (by kernel_rfl) (by kernel_rfl) (fun _ _ _ h => h) (Or.inl ⟨by rfl, ?_⟩) (by assumption) ?_
          rotate_left 1
          · (intro w hSw; (try dsimp only at hSw); go_simp; try with_reducible rfl)
          try simp only [Act.put, List.setIfInBounds_toArray, List.set_cons_zero, List.set_cons_succ]
          refine wpAnyH_take (i := 2) (oi := { dst := some 173, op := .move (.tmp 172), type := 4, pos := _, after := _, guard := none }) (v := ?_) rfl (by kernel_rfl) (by kernel_rfl) (by kernel_rfl) (fun _ _ _ h => h) (Or.inl ⟨by rfl, ?_⟩) (by assumption) ?_
          rotate_left 1
          · (intro w hSw; (try dsimp only at hSw); go_simp; try with_reducible rfl)
          try simp only [Act.put, List.setIfInBounds_toArray, List.set_cons_zero, List.set_cons_succ]
          refine wpAnyH_take (i := 3) (oi := { dst := some 174, op := .move (.tmp 27), type := 26, pos := _, after := _, guard := some (2, true) }) (v := ?_) rfl (by kernel_rfl) (by kernel_rfl) (by kernel_rfl) (fun _ _ _ h => h) (Or.inl ⟨by rfl, ?_⟩) (by assumption) ?_
          rotate_left 1
          · (intro w hSw; (try dsimp only at hSw); go_simp; try with_reducible rfl)
          try simp only [Act.put, List.setIfInBounds_toArray, List.set_cons_zero, List.set_cons_succ]
          refine wpAnyH_take (i := 4) (oi := { dst := some 175, op := .binOp .eql 26 (.tmp 174) (.const (.int .i64 0)) 26, type := 4, pos := _, after := _, guard := some (2, true) }) (v := ?_) rfl (by kernel_rfl) (by kernel_rfl) (by kernel_rfl) (fun _ _ _ h => h) (Or.inl ⟨by rfl, ?_⟩) (by assumption) ?_
          rotate_left 1
          · (intro w hSw; (try dsimp only at hSw); go_simp; try with_reducible rfl)
          try simp only [Act.put, List.setIfInBounds_toArray, List.set_cons_zero, List.set_cons_succ]
          refine wpAnyH_take (i := 5) (oi := { dst := some 176, op := .pick (.tmp 173) (.tmp 175) (.const (.bool false)), type := 4, pos := _, after := _, guard := none }) (v := ?_) rfl (by kernel_rfl) (by kernel_rfl) (by kernel_rfl) (fun _ _ _ h => h) (Or.inl ⟨by rfl, ?_⟩) (by assumption) ?_
          rotate_left 1
          · (intro w hSw; (try dsimp only at hSw); go_simp; try with_reducible rfl)
          try simp only [Act.put, List.setIfInBounds_toArray, List.set_cons_zero, List.set_cons_succ]
          refine wpAnyH_take (i := 6) (oi := { dst := some 177, op := .move (.tmp 176), type := 4, pos := _, after := _, guard := none }) (v := ?_) rfl (by kernel_rfl) (by kernel_rfl) (by kernel_rfl) (fun _ _ _ h => h) (Or.inl ⟨by rfl, ?_⟩) (by assumption) ?_
          rotate_left 1
          · (intro w hSw; (try dsimp only at hSw); go_simp; try with_reducible rfl)
          try simp only [Act.put, List.setIfInBounds_toArray, List.set_cons_zero, List.set_cons_succ]
          refine wpAnyH_take (i := 7) (oi := { dst := some 178, op := .move (.tmp 24), type := 22, pos := _, after := _, guard := some (6, true) }) (v := ?_) rfl (by kernel_rfl) (by kernel_rfl) (by kernel_rfl) (fun _ _ _ h => h) (Or.inl ⟨by rfl, ?_⟩) (by assumption) ?_
          rotate_left 1
          · (intro w hSw; (try dsimp only at hSw); go_simp; try with_reducible rfl)
          try simp only [Act.put, List.setIfInBounds_toArray, List.set_cons_zero, List.set_cons_succ]
          refine wpAnyH_take (i := 8) (oi := { dst := some 179, op := .convert 22 9 (.tmp 178), type := 9, pos := _, after := _, guard := some (6, true) }) (v := ?_) rfl (by kernel_rfl) (by kernel_rfl) (by kernel_rfl) (fun _ _ _ h => h) (Or.inl ⟨by rfl, ?_⟩) (by assumption) ?_
          rotate_left 1
          · (intro w hSw; (try dsimp only at hSw); go_simp; try with_reducible rfl)
          try simp only [Act.put, List.setIfInBounds_toArray, List.set_cons_zero, List.set_cons_succ]
          refine wpAnyH_take (i := 9) (oi := { dst := some 180, op := .move (.tmp 13), type := 39, pos := _, after := _, guard := some (6, true) }) (v := ?_) rfl (by kernel_rfl) (by kernel_rfl) (by kernel_rfl) (fun _ _ _ h => h) (Or.inl ⟨by rfl, ?_⟩) (by assumption) ?_
          rotate_left 1
          · (intro w hSw; (try dsimp only at hSw); go_simp; try with_reducible rfl)
          try simp only [Act.put, List.setIfInBounds_toArray, List.set_cons_zero, List.set_cons_succ]
          refine wpAnyH_take (i := 10) (oi := { dst := some 181, op := .move (.tmp 15), type := 3, pos := _, after := _, guard := some (6, true) }) (v := ?_) rfl (by kernel_rfl) (by kernel_rfl) (by kernel_rfl) (fun _ _ _ h => h) (Or.inl ⟨by rfl, ?_⟩) (by assumption) ?_
          rotate_left 1
          · (intro w hSw; (try dsimp only at hSw); go_simp; try with_reducible rfl)
          try simp only [Act.put, List.setIfInBounds_toArray, List.set_cons_zero, List.set_cons_succ]
          refine wpAnyH_take (i := 11) (oi := { dst := some 182, op := .indexAddr 39 (.tmp 180) (.tmp 181), type := 0, pos := _, after := _, guard := some (6, true) }) (v := ?_) rfl (by kernel_rfl) (by kernel_rfl) (by kernel_rfl) (fun _ _ _ h => h) (Or.inl ⟨by rfl, ?_⟩) (by assumption) ?_
          rotate_left 1
          · (intro w hSw; (try dsimp only at hSw); go_simp; try with_reducible rfl)
          try simp only [Act.put, List.setIfInBounds_toArray, List.set_cons_zero, List.set_cons_succ]
          refine wpAnyH_take (i := 12) (oi := { dst := some 183, op := .load 22 (.tmp 182), type := 22, pos := _, after := _, guard := some (6, true) }) (v := ?_) rfl (by kernel_rfl) (by kernel_rfl) (by kernel_rfl) (fun _ _ _ h => h) (Or.inl ⟨by rfl, ?_⟩) (by assumption) ?_
          rotate_left 1
          · (intro w hSw; (try dsimp only at hSw); go_simp; try with_reducible rfl)
          try simp only [Act.put, List.setIfInBounds_toArray, List.set_cons_zero, List.set_cons_succ]
          refine wpAnyH_take (i := 13) (oi := { dst := some 184, op := .convert 22 9 (.tmp 183), type := 9, pos := _, after := _, guard := some (6, true) }) (v := ?_) rfl (by kernel_rfl) (by kernel_rfl) (by kernel_rfl) (fun _ _ _ h => h) (Or.inl ⟨by rfl, ?_⟩) (by assumption) ?_
          rotate_left 1
          · (intro w hSw; (try dsimp only at hSw); go_simp; try with_reducible rfl)
          try simp only [Act.put, List.setIfInBounds_toArray, List.set_cons_zero, List.set_cons_succ]
          refine wpAnyH_take (i := 14) (oi := { dst := some 185, op := .binOp .eql 9 (.tmp 179) (.tmp 184) 9, type := 4, pos := _, after := _, guard := some (6, true) }) (v := ?_) rfl (by kernel_rfl) (by kernel_rfl) (by kernel_rfl) (fun _ _ _ h => h) (Or.inl ⟨by rfl, ?_⟩) (by assumption) ?_
          rotate_left 1
          · (intro w hSw; (try dsimp only at hSw); go_simp; try with_reducible rfl)
          try simp only [Act.put, List.setIfInBounds_toArray, List.set_cons_zero, List.set_cons_succ]
          refine wpAnyH_take (i := 15) (oi := { dst := some 186, op := .pick (.tmp 177) (.tmp 185) (.const (.bool false)), type := 4, pos := _, after := _, guard := none }) (v := ?_) rfl (by kernel_rfl) (by kernel_rfl) (by kernel_rfl) (fun _ _ _ h => h) (Or.inl ⟨by rfl, ?_⟩) (by assumption) ?_
          rotate_left 1
          · (intro w hSw; (try dsimp only at hSw); go_simp; try with_reducible rfl)
          try simp only [Act.put, List.setIfInBounds_toArray, List.set_cons_zero, List.set_cons_succ]
          refine wpAnyH_take (i := 16) (oi := { dst := some 187, op := .move (.tmp 186), type := 4, pos := _, after := _, guard := none }) (v := ?_) rfl (by kernel_rfl) (by kernel_rfl) (by kernel_rfl) (fun _ _ _ h => h) (Or.inl ⟨by rfl, ?_⟩) (by assumption) ?_
          rotate_left 1
          · (intro w hSw; (try dsimp only at hSw); go_simp; try with_reducible rfl)
          try simp only [Act.put, List.setIfInBounds_toArray, List.set_cons_zero, List.set_cons_succ]
          refine wpAnyH_take (i := 17) (oi := { dst := some 188, op := .move (.tmp 26), type := 22, pos := _, after := _, guard := some (16, true) }) (v := ?_) rfl (by kernel_rfl) (by kernel_rfl) (by kernel_rfl) (fun _ _ _ h => h) (Or.inl ⟨by rfl, ?_⟩) (by assumption) ?_
          rotate_left 1
          · (intro w hSw; (try dsimp only at hSw); go_simp; try with_reducible rfl)
          try simp only [Act.put, List.setIfInBounds_toArray, List.set_cons_zero, List.set_cons_succ]
          refine wpAnyH_take (i := 18) (oi := { dst := some 189, op := .convert 22 9 (.tmp 188), type := 9, pos := _, after := _, guard := some (16, true) }) (v := ?_) rfl (by kernel_rfl) (by kernel_rfl) (by kernel_rfl) (fun _ _ _ h => h) (Or.inl ⟨by rfl, ?_⟩) (by assumption) ?_
          rotate_left 1
          · (intro w hSw; (try dsimp only at hSw); go_simp; try with_reducible rfl)
          try simp only [Act.put, List.setIfInBounds_toArray, List.set_cons_zero, List.set_cons_succ]
          refine wpAnyH_take (i := 19) (oi := { dst := some 190, op := .move (.tmp 13), type := 39, pos := _, after := _, guard := some (16, true) }) (v := ?_) rfl (by kernel_rfl) (by kernel_rfl) (by kernel_rfl) (fun _ _ _ h => h) (Or.inl ⟨by rfl, ?_⟩) (by assumption) ?_
          rotate_left 1
          · (intro w hSw; (try dsimp only at hSw); go_simp; try with_reducible rfl)
          try simp only [Act.put, List.setIfInBounds_toArray, List.set_cons_zero, List.set_cons_succ]
          refine wpAnyH_take (i := 20) (oi := { dst := some 191, op := .move (.tmp 15), type := 3, pos := _, after := _, guard := some (16, true) }) (v := ?_) rfl (by kernel_rfl) (by kernel_rfl) (by kernel_rfl) (fun _ _ _ h => h) (Or.inl ⟨by rfl, ?_⟩) (by assumption) ?_
          rotate_left 1
          · (intro w hSw; (try dsimp only at hSw); go_simp; try with_reducible rfl)
          try simp only [Act.put, List.setIfInBounds_toArray, List.set_cons_zero, List.set_cons_succ]
          refine wpAnyH_take (i := 21) (oi := { dst := some 192, op := .indexAddr 39 (.tmp 190) (.tmp 191), type := 0, pos := _, after := _, guard := some (16, true) }) (v := ?_) rfl (by kernel_rfl) (by kernel_rfl) (by kernel_rfl) (fun _ _ _ h => h) (Or.inl ⟨by rfl, ?_⟩) (by assumption) ?_
          rotate_left 1
          · (intro w hSw; (try dsimp only at hSw); go_simp; try with_reducible rfl)
          try simp only [Act.put, List.setIfInBounds_toArray, List.set_cons_zero, List.set_cons_succ]
          refine wpAnyH_take (i := 22) (oi := { dst := some 193, op := .load 22 (.tmp 192), type := 22, pos := _, after := _, guard := some (16, true) }) (v := ?_) rfl (by kernel_rfl) (by kernel_rfl) (by kernel_rfl) (fun _ _ _ h => h) (Or.inl ⟨by rfl, ?_⟩) (by assumption) ?_
          rotate_left 1
          · (intro w hSw; (try dsimp only at hSw); go_simp; try with_reducible rfl)
          try simp only [Act.put, List.setIfInBounds_toArray, List.set_cons_zero, List.set_cons_succ]
          refine wpAnyH_take (i := 23) (oi := { dst := some 194, op := .convert 22 9 (.tmp 193), type := 9, pos := _, after := _, guard := some (16, true) }) (v := ?_) rfl (by kernel_rfl) (by kernel_rfl) (by kernel_rfl) (fun _ _ _ h => h) (Or.inl ⟨by rfl, ?_⟩) (by assumption) ?_
          rotate_left 1
          · (intro w hSw; (try dsimp only at hSw); go_simp; try with_reducible rfl)
          try simp only [Act.put, List.setIfInBounds_toArray, List.set_cons_zero, List.set_cons_succ]
          refine wpAnyH_take (i := 24) (oi := { dst := some 195, op := .binOp .eql 9 (.tmp 189) (.tmp 194) 9, type := 4, pos := _, after := _, guard := some (16, true) }) (v := ?_) rfl (by kernel_rfl) (by kernel_rfl) (by kernel_rfl) (fun _ _ _ h => h) (Or.inl ⟨by rfl, ?_⟩) (by assumption) ?_
          rotate_left 1
          · (intro w hSw; (try dsimp only at hSw); go_simp; try with_reducible rfl)
          try simp only [Act.put, List.setIfInBounds_toArray, List.set_cons_zero, List.set_cons_succ]
          refine wpAnyH_take (i := 25) (oi := { dst := some 196, op := .pick (.tmp 187) (.tmp 195) (.const (.bool false)), type := 4, pos := _, after := _, guard := none }) (v := ?_) rfl (by kernel_rfl) (by kernel_rfl) (by kernel_rfl) (fun _ _ _ h => h) (Or.inl ⟨by rfl, ?_⟩) (by assumption) ?_
          rotate_left 1
          · (intro w hSw; (try dsimp only at hSw); go_simp; try with_reducible rfl)
          try simp only [Act.put, List.setIfInBounds_toArray, List.set_cons_zero, List.set_cons_succ]
          refine wpAnyH_take (i := 26) (oi := { dst := some 197, op := .move (.tmp 196), type := 4, pos := _, after := _, guard := none }) (v := ?_) rfl (by kernel_rfl) (by kernel_rfl) (by kernel_rfl) (fun _ _ _ h => h) (Or.inl ⟨by rfl, ?_⟩) (by assumption) ?_
          rotate_left 1
          · (intro w hSw; (try dsimp only at hSw); go_simp; try with_reducible rfl)
          try simp only [Act.put, List.setIfInBounds_toArray, List.set_cons_zero, List.set_cons_succ]
          refine wpAnyH_ready (rs := [27]) (by kernel_rfl) (by simp) ?_
          refine AllReadyH.cons (o := { dst := some 198, op := .call { callee := .value (.func 8), args := #[], argTypes := #[] }, type := 4, pos := _, after := _, guard := some (26, true) }) rfl (fun K hK => ?_) AllReadyH.nil
          go_simp
          go_at_call 8
          (refine (AW.out _).mono ?_); rintro e u4 ⟨rfl, hb⟩; have HBf := Lib.hid (HBd.out.trans (hb.mono HBd.out.size)); have HZf := Lib.hid (HZ.out.trans (hb.mono HZ.out.size)); clear hb
          clear hHeld
          refine hK.out _ _ ?_ (fun hHeld => ?_)
          · ((try dsimp only); exact KS.out _ HZf.out)
          clear hK K
          refine wpAnyH_take (i := 28) (oi := { dst := some 199, op := .pick (.tmp 197) (.tmp 198) (.const (.bool false)), type := 4, pos := _, after := _, guard := none }) (v := ?_) rfl (by kernel_rfl) (by kernel_rfl) (by kernel_rfl) (fun _ _ _ h => h) (Or.inl ⟨by rfl, ?_⟩) (by assumption) ?_
          rotate_left 1
          · (intro w hSw; (try dsimp only at hSw); go_simp; try with_reducible rfl)
          try simp only [Act.put, List.setIfInBounds_toArray, List.set_cons_zero, List.set_cons_succ]
          refine wpAnyH_take (i := 29) (oi := { dst := some 10, op := .assign (.tmp 199), type := 4, pos := _, after := _, guard := none }) (v := ?_) rfl (by kernel_rfl) (by kernel_rfl) (by kernel_rfl) (fun _ _ _ h => h) (Or.inl ⟨by rfl, ?_⟩) (by assumption) ?_
          rotate_left 1
          · (intro w hSw; (try dsimp only at hSw); go_simp; try with_reducible rfl)
          try simp only [Act.put, List.setIfInBounds_toArray, List.set_cons_zero, List.set_cons_succ]
          refine wpAnyH_done (by kernel_rfl) ?_ _
          refine NoPanic.normal ?_
          go_wp2
          go_ret
          exact ⟨rfl, HBf.out⟩
end Go.Proofs.Ytcnfafappcbpnaa.Hl
namespace Go.Proofs.Ytcnfafappcbpnaa.Hl
open Go Go.RowKit Go.Proofs.Ytcnfafappcbpnaa.Gi Go.Proofs.Ytcnfafappcbpnaa.Opn Go.Proofs.Ytcnfafappcbpnaa.Mem Go.Proofs.Ytcnfafappcbpnaa.Bits Go.Proofs.Ytcnfafappcbpnaa.Rws Go.Proofs.Ytcnfafappcbpnaa.Par Go.Proofs.YtcnfafappcbpnaaW.PrintWords
set_option linter.unusedVariables false
theorem hb_u8 {a : Int} (h : (Lit.int .u8 a).wf = true) : 0 ≤ a ∧ a < 256 := by
  simp [Lit.wf, IntKind.min, IntKind.max, IntKind.signed, IntKind.bits] at h; omega
theorem opens_bytes : Opens (Kd.slice 5 (Kd.int .u8)) (fun l => l.length ≤ 9223372036854775807 ∧ ∀ a ∈ l, (Lit.int .u8 a).wf = true) 22 := opens_slice Try.underlying22 (by kernel_rfl) (opens_int Try.underlying5)
theorem hb_row (n : Int) (_ : (Lit.int .i64 n).wf = true) (k : Int) (_ : (Lit.int .i64 k).wf = true)
    {w : World} (A : Option Addr) (c : Nat) (b : List Int) (hC : (Kd.int .u8).C w A b.length b) (hc : b.length ≤ c) (hok : b.length ≤ 9223372036854775807 ∧ ∀ a ∈ b, (Lit.int .u8 a).wf = true)
    (xl : Int) (hxl : (Lit.int .u8 xl).wf = true) (A2 : Option Addr) (c2 : Nat) (ps : List Int) (hC2 : (Kd.int .u8).C w A2 ps.length ps) (hc2 : ps.length ≤ c2) (hok2 : ps.length ≤ 9223372036854775807 ∧ ∀ a ∈ ps, (Lit.int .u8 a).wf = true) (_ : World) :
    Calls Try.prog 6 #[.int .i64 n, .int .i64 k, .slice A b.length c, .int .u8 xl, .slice A2 ps.length c2] w fun e w' => e = .returned (.bool true) ∧ Below w.heap.size w w' := by
  by_cases hr : 2 ≤ k ∧ k ≤ 4 ∧ 2 * k - 1 ≤ n ∧ n ≤ 12
  · obtain ⟨r1, r2, r3, r4⟩ := hr
    obtain ⟨k, rfl⟩ := Int.eq_ofNat_of_zero_le (show 0 ≤ k by omega)
    obtain ⟨n, rfl⟩ := Int.eq_ofNat_of_zero_le (show 0 ≤ n by omega)
    obtain ⟨s, hs⟩ : ∃ s, s = k * (k - 1) := ⟨_, rfl⟩
    by_cases hL : 200 < b.length ∨ b.length = 0 ∨ b.length % s ≠ 0
    · exact hb_skip n k s xl A A2 b.length c ps.length c2 w (by omega) (by omega) (by omega) (by omega) hs.symm hL
    obtain ⟨sz, hsz⟩ : ∃ sz, sz = b.length / s := ⟨_, rfl⟩
    have h0 : b.length % s = 0 := by omega
    have hLs : b.length = s * sz := by
      have := Nat.div_add_mod b.length s
      rw [h0, Nat.add_zero, ← hsz] at this
      exact this.symm
    have h1 : 1 ≤ sz := by
      rcases Nat.eq_zero_or_pos sz with e | e
      · rw [e, Nat.mul_zero] at hLs; omega
      · exact e
    obtain ⟨h2, h3⟩ := hb_u8 hxl
    obtain ⟨y, rfl⟩ := Int.eq_ofNat_of_zero_le h2
    exact hb_main n k s sz b.length ps.length c c2 y A A2 b ps w (by omega) (by omega) (by omega) (by omega) hs.symm hC hc hLs h1 (by omega) (fun x hx => hb_u8 (hok.2 x hx)) (by omega) hC2 (fun x hx => hb_u8 (hok2.2 x hx))
  · exact hb_no n k xl A A2 _ c _ c2 w hr
end Go.Proofs.Ytcnfafappcbpnaa.Hl
