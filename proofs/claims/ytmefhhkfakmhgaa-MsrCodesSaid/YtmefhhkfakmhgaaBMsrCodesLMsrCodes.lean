/- The law MsrCodes: the walk. -/
import Derived.Test.YtmefhhkfakmhgaaProg
import Derived.Below
import Derived.Deep.Draws
import Derived.Deep.AppendLies
import Derived.Maps.AppendAt
import Derived.OwnWalk
import Derived.Laws.BytesArg
import Derived.Laws.MakeOwn
import Derived.Laws.OwnMore
import Derived.Deep.OwnRows
import Derived.Tactics
import Derived.Lib.ConvBytes
import Derived.Laws.Slices
import Derived.WalkKit
import Derived.KernelRfl
import Derived.RowKit3
import Derived.Deep.LoopGhost
import Derived.Deep.QuietTactic
import Derived.BigQuiet
import Derived.WideLaws
import Derived.Deep.DeepCutAuto
import Derived.Deep.CutBlock
import Derived.Deep.RegionHeld3
import Derived.Laws.Rows
import Derived.Lib.AppendStr
import Derived.ArgAppend
import Derived.Laws.IdiomCopy
import Derived.OrdersHeld
import Derived.Laws.BitsLemmas
import Derived.RowKit
import Derived.Lib.Hide
import Derived.WalkSpells
import Derived.StillTailTactics
import Derived.Outline
import Derived.OrdersHeld
import Derived.Deep.RegionHeld3
import Derived.Test.YtmefhhkfakmhgaaBMsrCodesMsrC1
namespace Go.Proofs.Ytmefhhkfakmhgaa.Str
open Go Go.RowKit Go.Proofs.Ytmefhhkfakmhgaa.PMsrCodes Go.Proofs.Ytmefhhkfakmhgaa.BMsrCodes Go.Proofs.Ytmefhhkfakmhgaa.Gf Go.Proofs.Ytmefhhkfakmhgaa.Gi Go.Proofs.Ytmefhhkfakmhgaa.Bits Go.Proofs.Ytmefhhkfakmhgaa.Mem Go.Proofs.Ytmefhhkfakmhgaa.VPts Go.Proofs.Ytmefhhkfakmhgaa.Rws Go.Proofs.YtmefhhkfakmhgaaW.PrintWords Go.Proofs.YtmefhhkfakmhgaaW.PrintLast
set_option linter.unusedVariables false

theorem str_reads {w : World} {A : Option Addr} {n c : Nat} {xs : List Int} (h : ReadsInt w .u8 A n xs) : (convert 22 9 (.slice A n c)).run Try.prog w = .ok (.string (strOfNums xs)) w :=
  string_of_reads Try.underlying22 Try.underlying5 Try.underlying9 h
theorem str_any {w : World} {A : Option Addr} {m c : Nat} {ys : List Int} (h : (Kd.int .u8).C w A m ys) (W : World) (hb : Below w.heap.size w W) : (convert 22 9 (.slice A m c)).run Try.prog W = .ok (.string (strOfNums ys)) W :=
  str_reads (Kd.reads_of_C (d := (0 : Int)) (Kd.C_below h hb))
theorem rowsN_get {w : World} {A : Option Addr} {n : Nat} {ls : List (List Int)} (h : Kd.C kRow w A n ls) (i : Nat) (hi : i < n) :
    ∃ ad A0 c0, A = some ad ∧ w.cell? (ad.add i) = some (.slice A0 (ls.getD i []).length c0) ∧ (ls.getD i []).length ≤ c0 ∧ (Kd.int .u8).C w A0 (ls.getD i []).length (ls.getD i []) := by
  obtain ⟨ad, c, e, _, hK, hc0⟩ := Kd.C_get h [] (i : Int) (by omega) (by omega)
  obtain ⟨A0, c0, rfl, l0, g0⟩ := hK
  refine ⟨ad, A0, c0, e, ?_, l0, g0⟩
  have hq := hc0 0 _ rfl
  simpa [Kd.slice] using hq
theorem rows_row {w : World} {A : Option Addr} {n k : Nat} (h : Kd.C kRow w A n (rowsM n k n)) (i : Nat) (hi : i < n) :
    ∃ ad A0 c0, A = some ad ∧ w.cell? (ad.add i) = some (.slice A0 (2 * k - 2) c0) ∧ 2 * k - 2 ≤ c0 ∧ (Kd.int .u8).C w A0 (2 * k - 2) (pows (ptN n k i) (2 * k - 2)) := by
  obtain ⟨ad, A0, c0, e, h1, h2, h3⟩ := rowsN_get h i hi
  rw [rowsM_get n k n i hi, pows_len] at h1 h2 h3
  exact ⟨ad, A0, c0, e, h1, h2, h3⟩
set_option maxRecDepth 100000 in
set_option maxHeartbeats 2000000 in
theorem mc_bad (n k slot : Int) (w : World) (h : ¬ (2 ≤ k ∧ k ≤ 8 ∧ 2 * k - 1 ≤ n ∧ n ≤ 24)) :
    Calls Try.prog 6 #[.int .i64 n, .int .i64 k, .int .i64 slot] w fun e w' => e = .returned (.bool true) ∧ Below w.heap.size w w' := by
  have NB := Lib.hid (fun W => new_bad n k W h)
  have RI := Lib.hid (fun W => right_calls n k false W (decide_eq_false h))
  have AW := Lib.hid awake_calls
  have HB1 := Lib.hid (Below.refl w.heap.size w)
  clear h
  go_enter Try.func6, Try.ntmps6
  go_wp2_with (first
    | (go_at_call 9; (with_reducible refine (NB.out _).mono ?_); rintro e u1 ⟨rfl, hu⟩; subst hu)
    | (go_at_call 10; (with_reducible refine (encode_nil _ _ _ _).mono ?_); rintro e u1 ⟨rfl, hu⟩; subst hu; have HBa := Lib.hid (HB1.out.alloc HB1.out.size (.cells #[.int .u8 1] 5)); clear HB1; have HB1 := HBa; clear HBa)
    | (go_at_call 13; (with_reducible refine (decode_nil _ _ _ _).mono ?_); rintro e u2 ⟨rfl, hu⟩; subst hu)
    | (go_at_call 15; (with_reducible refine (n_nil _).mono ?_); rintro e u1 ⟨rfl, hu⟩; subst hu)
    | (go_at_call 16; (with_reducible refine (k_nil _).mono ?_); rintro e u1 ⟨rfl, hu⟩; subst hu)
    | (go_at_call 17; (with_reducible refine (helpers_nil _).mono ?_); rintro e u1 ⟨rfl, hu⟩; subst hu)
    | (go_at_call 18; (with_reducible refine (parts_nil _).mono ?_); rintro e u1 ⟨rfl, hu⟩; subst hu)
    | (go_at_call 19; (with_reducible refine (symbols_nil _).mono ?_); rintro e u1 ⟨rfl, hu⟩; subst hu)
    | (go_at_call 20; (with_reducible refine (row_nil _ _).mono ?_); rintro e u1 ⟨rfl, hu⟩; subst hu)
    | (go_at_call 21; (with_reducible refine (RI.out _).mono ?_); rintro e w3 ⟨rfl, hb⟩; have HBn := Lib.hid (HB1.out.trans (hb.mono HB1.out.size)); clear HB1 hb; have HB1 := HBn; clear HBn)
    | (go_at_call 8; (with_reducible refine (AW.out _).mono ?_); rintro e w9 ⟨rfl, hb⟩; have HB9 := Lib.hid (HB1.out.trans (hb.mono HB1.out.size)); clear hb))
  go_ret
  exact ⟨rfl, HB9.out⟩
set_option maxRecDepth 100000 in
set_option maxHeartbeats 4000000 in
theorem mc_out (n k : Nat) (slot : Int) (w : World) (k1 : 2 ≤ k) (k2 : k ≤ 8) (n1 : 2 * k - 1 ≤ n) (n2 : n ≤ 24) (h : slot < 0 ∨ (n : Int) ≤ slot) :
    Calls Try.prog 6 #[.int .i64 n, .int .i64 k, .int .i64 slot] w fun e w' => e = .returned (.bool true) ∧ Below w.heap.size w w' := by
  have NC := Lib.hid (fun W => new_codeP n k W k1 k2 n1 n2)
  have RI := Lib.hid (fun W => right_calls n k true W (decide_eq_true (by omega)))
  have RW := Lib.hid (fun W => rows_calls n k W k1 k2 n2)
  have AW := Lib.hid awake_calls
  have HB1 := Lib.hid (Below.refl w.heap.size w)
  obtain ⟨a, ha⟩ : ∃ a, a = k - 1 := ⟨_, rfl⟩
  obtain ⟨q, hq⟩ : ∃ q, q = 2 * k - 2 := ⟨_, rfl⟩
  obtain ⟨s, hs⟩ : ∃ s, s = k * (k - 1) := ⟨_, rfl⟩
  have NA := Lib.hid (fun v W (hc : IsCodeP W v n k) => n_any v n k W hc.code)
  have KA := Lib.hid (fun v W (hc : IsCodeP W v n k) => k_any v n k W hc.code)
  have HA := Lib.hid (fun v W (hc : IsCodeP W v n k) => helpers_any v n k W hc.code (by omega) (by omega))
  have PA := Lib.hid (fun v W (hc : IsCodeP W v n k) => parts_any v n k W hc.code (by omega) (by omega))
  have SY := Lib.hid (fun v W (hc : IsCodeP W v n k) => symbols_any v n k s W hc.code (by omega) (by omega) hs.symm)
  have sle : k * (k - 1) ≤ 8 * 7 := Nat.mul_le_mul k2 (by omega)
  rw [← ha] at PA hs sle
  rw [← hq] at HA
  have d0 : IntKind.i64.wrap ((k : Int) - 1) = (a : Int) := by rw [IntWalk.i64_in _ (by omega)]; omega
  have d3 : IntKind.i64.wrap (2 * (k : Int)) = 2 * (k : Int) := IntWalk.i64_in _ (by omega)
  have d4 : IntKind.i64.wrap (2 * (k : Int) - 2) = (q : Int) := by rw [IntWalk.i64_in _ (by omega)]; omega
  have d5 : IntKind.i64.wrap ((k : Int) * (a : Int)) = (s : Int) := by rw [← Int.natCast_mul, ← hs, IntWalk.i64_in _ (by omega)]
  have RO := Lib.hid (fun v W (hc : IsCodeP W v n k) => row_out v n k slot W hc.code h)
  have h' : slot < 0 ∨ (decide (slot < 0) = false ∧ (n : Int) ≤ slot) := by
    rcases h with h | h
    · exact .inl h
    · exact .inr ⟨by simp; omega, h⟩
  clear h ha hq hs sle k1 k2 n1 n2
  rcases h' with h1 | ⟨h1, h2⟩
  all_goals
    go_enter Try.func6, Try.ntmps6
    go_wp2_with (first
      | (go_at_call 9; (with_reducible refine (NC.out _).mono ?_); rintro e w2 ⟨v, rfl, hcd, hb⟩; have HV := Lib.hid hcd; have HBn := Lib.hid (HB1.out.trans (hb.mono HB1.out.size)); clear HB1 hb hcd; have HB1 := HBn; clear HBn)
      | (go_at_call 10; (with_reducible refine (encode_nil _ _ _ _).mono ?_); rintro e u1 ⟨rfl, hu⟩; subst hu; have HVa := Lib.hid (HV.out.below ((Below.refl w2.heap.size w2).alloc (Nat.le_refl _) (.cells #[.int .u8 1] 5))); clear HV; have HV := HVa; clear HVa; have HBa := Lib.hid (HB1.out.alloc HB1.out.size (.cells #[.int .u8 1] 5)); clear HB1; have HB1 := HBa; clear HBa)
      | (go_at_call 13; (with_reducible refine (decode_nil _ _ _ _).mono ?_); rintro e u2 ⟨rfl, hu⟩; subst hu)
      | (go_at_call 15; (first | (with_reducible refine (n_nil _).mono ?_) | (with_reducible refine (NA.out _ _ HV.out).mono ?_)); rintro e u1 ⟨rfl, hu⟩; subst hu)
      | (go_at_call 16; (first | (with_reducible refine (k_nil _).mono ?_) | (with_reducible refine (KA.out _ _ HV.out).mono ?_)); rintro e u1 ⟨rfl, hu⟩; subst hu)
      | (go_at_call 17; (first | (with_reducible refine (helpers_nil _).mono ?_) | (with_reducible refine (HA.out _ _ HV.out).mono ?_)); rintro e u1 ⟨rfl, hu⟩; subst hu)
      | (go_at_call 18; (first | (with_reducible refine (parts_nil _).mono ?_) | (with_reducible refine (PA.out _ _ HV.out).mono ?_)); rintro e u1 ⟨rfl, hu⟩; subst hu)
      | (go_at_call 19; (first | (with_reducible refine (symbols_nil _).mono ?_) | (with_reducible refine (SY.out _ _ HV.out).mono ?_)); rintro e u1 ⟨rfl, hu⟩; subst hu)
      | (go_at_call 21; (with_reducible refine (RI.out _).mono ?_); rintro e w3 ⟨rfl, hb⟩; (try have HVn := Lib.hid (HV.out.below hb); clear HV; have HV := HVn; clear HVn); have HBn := Lib.hid (HB1.out.trans (hb.mono HB1.out.size)); clear HB1 hb; have HB1 := HBn; clear HBn)
      | (go_at_call 20; (first | (with_reducible refine (row_nil _ _).mono ?_) | (with_reducible refine (RO.out _ _ HV.out).mono ?_)); rintro e u1 ⟨rfl, hu⟩; subst hu)
      | (go_at_call 22; (with_reducible refine (RW.out _).mono ?_); rintro e w4 ⟨A4, c4, rfl, _, _, hb⟩; (try have HVn := Lib.hid (HV.out.below hb); clear HV; have HV := HVn; clear HVn); have HBn := Lib.hid (HB1.out.trans (hb.mono HB1.out.size)); clear HB1 hb; have HB1 := HBn; clear HBn)
      | (go_at_call 8; (with_reducible refine (AW.out _).mono ?_); rintro e w9 ⟨rfl, hb⟩; have HB9 := Lib.hid (HB1.out.trans (hb.mono HB1.out.size)); clear hb))
    go_ret
    exact ⟨rfl, HB9.out⟩
set_option maxRecDepth 100000 in
set_option maxHeartbeats 4000000 in
theorem mc_good (n k slot : Nat) (w : World) (k1 : 2 ≤ k) (k2 : k ≤ 8) (n1 : 2 * k - 1 ≤ n) (n2 : n ≤ 24) (h : slot < n) :
    Calls Try.prog 6 #[.int .i64 n, .int .i64 k, .int .i64 slot] w fun e w' => e = .returned (.bool true) ∧ Below w.heap.size w w' := by
  have NC := Lib.hid (fun W => new_codeP n k W k1 k2 n1 n2)
  have RI := Lib.hid (fun W => right_calls n k true W (decide_eq_true (by omega)))
  have RW := Lib.hid (fun W => rows_calls n k W k1 k2 n2)
  have AW := Lib.hid awake_calls
  have HB1 := Lib.hid (Below.refl w.heap.size w)
  obtain ⟨a, ha⟩ : ∃ a, a = k - 1 := ⟨_, rfl⟩
  obtain ⟨q, hq⟩ : ∃ q, q = 2 * k - 2 := ⟨_, rfl⟩
  obtain ⟨s, hs⟩ : ∃ s, s = k * (k - 1) := ⟨_, rfl⟩
  have NA := Lib.hid (fun v W (hc : IsCodeP W v n k) => n_any v n k W hc.code)
  have KA := Lib.hid (fun v W (hc : IsCodeP W v n k) => k_any v n k W hc.code)
  have HA := Lib.hid (fun v W (hc : IsCodeP W v n k) => helpers_any v n k W hc.code (by omega) (by omega))
  have PA := Lib.hid (fun v W (hc : IsCodeP W v n k) => parts_any v n k W hc.code (by omega) (by omega))
  have SY := Lib.hid (fun v W (hc : IsCodeP W v n k) => symbols_any v n k s W hc.code (by omega) (by omega) hs.symm)
  have sle : k * (k - 1) ≤ 8 * 7 := Nat.mul_le_mul k2 (by omega)
  rw [← ha] at PA hs sle
  rw [← hq] at HA
  have d0 : IntKind.i64.wrap ((k : Int) - 1) = (a : Int) := by rw [IntWalk.i64_in _ (by omega)]; omega
  have d3 : IntKind.i64.wrap (2 * (k : Int)) = 2 * (k : Int) := IntWalk.i64_in _ (by omega)
  have d4 : IntKind.i64.wrap (2 * (k : Int) - 2) = (q : Int) := by rw [IntWalk.i64_in _ (by omega)]; omega
  have d5 : IntKind.i64.wrap ((k : Int) * (a : Int)) = (s : Int) := by rw [← Int.natCast_mul, ← hs, IntWalk.i64_in _ (by omega)]
  have RR := Lib.hid (fun v W (hc : IsCodeP W v n k) => row_any v n k slot W hc k1 k2 n2 h)
  have RG := Lib.hid (fun W A (hC : Kd.C kRow W A n (rowsM n k n)) => rows_row hC slot h)
  rw [← hq] at RR RG
  obtain ⟨ps, hps⟩ : ∃ ps, ps = pows (ptN n k slot) q := ⟨_, rfl⟩
  rw [← hps] at RR RG
  have HPL := Lib.hid (show ps.length = q by rw [hps, pows_len])
  have h1 : decide ((slot : Int) < 0) = false := by simp
  have h2 : decide ((slot : Int) ≥ (n : Int)) = false := by simp; omega
  have h3 : (slot : Int) < (n : Int) := by omega
  have h4 : ¬ (n : Int) ≤ (slot : Int) := by omega
  clear h ha hq hs sle k1 k2 n1 n2 hps
  go_enter Try.func6, Try.ntmps6
  go_upto_region 10 with (first
      | (go_at_call 9; (with_reducible refine (NC.out _).mono ?_); rintro e w2 ⟨v, rfl, hcd, hb⟩; have HV := Lib.hid hcd; have HBn := Lib.hid (HB1.out.trans (hb.mono HB1.out.size)); clear HB1 hb hcd; have HB1 := HBn; clear HBn)
      | (go_at_call 10; (with_reducible refine (encode_nil _ _ _ _).mono ?_); rintro e u1 ⟨rfl, hu⟩; subst hu; have HVa := Lib.hid (HV.out.below ((Below.refl w2.heap.size w2).alloc (Nat.le_refl _) (.cells #[.int .u8 1] 5))); clear HV; have HV := HVa; clear HVa; have HBa := Lib.hid (HB1.out.alloc HB1.out.size (.cells #[.int .u8 1] 5)); clear HB1; have HB1 := HBa; clear HBa)
      | (go_at_call 13; (with_reducible refine (decode_nil _ _ _ _).mono ?_); rintro e u2 ⟨rfl, hu⟩; subst hu)
      | (go_at_call 15; (first | (with_reducible refine (n_nil _).mono ?_) | (with_reducible refine (NA.out _ _ HV.out).mono ?_)); rintro e u1 ⟨rfl, hu⟩; subst hu)
      | (go_at_call 16; (first | (with_reducible refine (k_nil _).mono ?_) | (with_reducible refine (KA.out _ _ HV.out).mono ?_)); rintro e u1 ⟨rfl, hu⟩; subst hu)
      | (go_at_call 17; (first | (with_reducible refine (helpers_nil _).mono ?_) | (with_reducible refine (HA.out _ _ HV.out).mono ?_)); rintro e u1 ⟨rfl, hu⟩; subst hu)
      | (go_at_call 18; (first | (with_reducible refine (parts_nil _).mono ?_) | (with_reducible refine (PA.out _ _ HV.out).mono ?_)); rintro e u1 ⟨rfl, hu⟩; subst hu)
      | (go_at_call 19; (first | (with_reducible refine (symbols_nil _).mono ?_) | (with_reducible refine (SY.out _ _ HV.out).mono ?_)); rintro e u1 ⟨rfl, hu⟩; subst hu)
      | (go_at_call 21; (with_reducible refine (RI.out _).mono ?_); rintro e w3 ⟨rfl, hb⟩; (try have HVn := Lib.hid (HV.out.below hb); clear HV; have HV := HVn; clear HVn); have HBn := Lib.hid (HB1.out.trans (hb.mono HB1.out.size)); clear HB1 hb; have HB1 := HBn; clear HBn)
      | (go_at_call 20; (with_reducible refine (row_nil _ _).mono ?_); rintro e u1 ⟨rfl, hu⟩; subst hu)
      | (go_at_call 22; (with_reducible refine (RW.out _).mono ?_); rintro e w4 ⟨A4, c4, rfl, _, hC4, hb⟩; have HC4 := Lib.hid hC4; clear hC4; (try have HVn := Lib.hid (HV.out.below hb); clear HV; have HV := HVn; clear HVn); have HBn := Lib.hid (HB1.out.trans (hb.mono HB1.out.size)); clear HB1 hb; have HB1 := HBn; clear HBn))
  obtain ⟨ad4, A0, c0, rfl, hcell, hle0, hC0⟩ := RG.out _ _ HC4.out
  have HX := Lib.hid (Below.refl w4.heap.size w4)
  have HCell := Lib.hid (fun W (hB : Below w4.heap.size w4 W) => show W.cell? (ad4.add slot) = some (.slice A0 q c0) ∧ (convert 22 9 (.slice A0 q c0)).run Try.prog W = .ok (.string (strOfNums ps)) W from ⟨pw_cell_below hB hcell, str_any (c := c0) hC0 W hB⟩)
  clear hC0 hcell hle0
  go_upto_region 14 with (first
      | (go_at_call 9; (with_reducible refine (NC.out _).mono ?_); rintro e w2 ⟨v, rfl, hcd, hb⟩; have HV := Lib.hid hcd; have HBn := Lib.hid (HB1.out.trans (hb.mono HB1.out.size)); clear HB1 hb hcd; have HB1 := HBn; clear HBn)
      | (go_at_call 10; (with_reducible refine (encode_nil _ _ _ _).mono ?_); rintro e u1 ⟨rfl, hu⟩; subst hu; have HVa := Lib.hid (HV.out.below ((Below.refl w2.heap.size w2).alloc (Nat.le_refl _) (.cells #[.int .u8 1] 5))); clear HV; have HV := HVa; clear HVa; have HBa := Lib.hid (HB1.out.alloc HB1.out.size (.cells #[.int .u8 1] 5)); clear HB1; have HB1 := HBa; clear HBa)
      | (go_at_call 13; (with_reducible refine (decode_nil _ _ _ _).mono ?_); rintro e u2 ⟨rfl, hu⟩; subst hu)
      | (go_at_call 15; (first | (with_reducible refine (n_nil _).mono ?_) | (with_reducible refine (NA.out _ _ HV.out).mono ?_)); rintro e u1 ⟨rfl, hu⟩; subst hu)
      | (go_at_call 16; (first | (with_reducible refine (k_nil _).mono ?_) | (with_reducible refine (KA.out _ _ HV.out).mono ?_)); rintro e u1 ⟨rfl, hu⟩; subst hu)
      | (go_at_call 17; (first | (with_reducible refine (helpers_nil _).mono ?_) | (with_reducible refine (HA.out _ _ HV.out).mono ?_)); rintro e u1 ⟨rfl, hu⟩; subst hu)
      | (go_at_call 18; (first | (with_reducible refine (parts_nil _).mono ?_) | (with_reducible refine (PA.out _ _ HV.out).mono ?_)); rintro e u1 ⟨rfl, hu⟩; subst hu)
      | (go_at_call 19; (first | (with_reducible refine (symbols_nil _).mono ?_) | (with_reducible refine (SY.out _ _ HV.out).mono ?_)); rintro e u1 ⟨rfl, hu⟩; subst hu)
      | (go_at_call 21; (with_reducible refine (RI.out _).mono ?_); rintro e w3 ⟨rfl, hb⟩; (try have HVn := Lib.hid (HV.out.below hb); clear HV; have HV := HVn; clear HVn); have HBn := Lib.hid (HB1.out.trans (hb.mono HB1.out.size)); clear HB1 hb; have HB1 := HBn; clear HBn))
  have HXd := Lib.hid HX.out.drew
  have HBd := Lib.hid HB1.out.drew
  have HVd := Lib.hid (HV.out.below (Below.refl _ _).drew)
  refine wp_region_noPanic ?_
  refine wp_region_held_drew (S := (fun W => W.cell? (ad4.add slot) = some (.slice A0 q c0) ∧ (convert 22 9 (.slice A0 q c0)).run Try.prog W = .ok (.string (strOfNums ps)) W)) (by kernel_rfl) ?_ (fun hHeld => ?_)
  · ((try dsimp only); exact HCell.out _ HXd.out)
  refine wpAnyH_take (i := 0) (oi := { dst := some 128, op := Go.Op.move (Go.Operand.tmp 7), type := 25, pos := "law.go:38", after := #[], guard := none }) (v := ?_) rfl (by kernel_rfl) (by kernel_rfl) (by kernel_rfl) (fun _ _ _ h => h) (Or.inl ⟨by rfl, ?_⟩) (by assumption) ?_
  rotate_left 1
  · (intro w hSw; (try dsimp only at hSw); go_simp; try with_reducible rfl)
  try simp only [Act.put, List.setIfInBounds_toArray, List.set_cons_zero, List.set_cons_succ]
  refine wpAnyH_take (i := 1) (oi := { dst := some 129, op := Go.Op.move (Go.Operand.tmp 2), type := 3, pos := "law.go:38", after := #[], guard := none }) (v := ?_) rfl (by kernel_rfl) (by kernel_rfl) (by kernel_rfl) (fun _ _ _ h => h) (Or.inl ⟨by rfl, ?_⟩) (by assumption) ?_
  rotate_left 1
  · (intro w hSw; (try dsimp only at hSw); go_simp; try with_reducible rfl)
  try simp only [Act.put, List.setIfInBounds_toArray, List.set_cons_zero, List.set_cons_succ]
  refine wpAnyH_take (i := 4) (oi := { dst := some 132, op := Go.Op.move (Go.Operand.tmp 14), type := 29, pos := "law.go:38", after := #[], guard := none }) (v := ?_) rfl (by kernel_rfl) (by kernel_rfl) (by kernel_rfl) (fun _ _ _ h => h) (Or.inl ⟨by rfl, ?_⟩) (by assumption) ?_
  rotate_left 1
  · (intro w hSw; (try dsimp only at hSw); go_simp; try with_reducible rfl)
  try simp only [Act.put, List.setIfInBounds_toArray, List.set_cons_zero, List.set_cons_succ]
  refine wpAnyH_take (i := 5) (oi := { dst := some 133, op := Go.Op.move (Go.Operand.tmp 2), type := 3, pos := "law.go:38", after := #[], guard := none }) (v := ?_) rfl (by kernel_rfl) (by kernel_rfl) (by kernel_rfl) (fun _ _ _ h => h) (Or.inl ⟨by rfl, ?_⟩) (by assumption) ?_
  rotate_left 1
  · (intro w hSw; (try dsimp only at hSw); go_simp; try with_reducible rfl)
  try simp only [Act.put, List.setIfInBounds_toArray, List.set_cons_zero, List.set_cons_succ]
  refine wpAnyH_take (i := 6) (oi := { dst := some 134, op := Go.Op.indexAddr 29 (Go.Operand.tmp 132) (Go.Operand.tmp 133), type := 0, pos := "law.go:38", after := #[{ on := 4, ground := Go.Ground.data }, { on := 5, ground := Go.Ground.data }], guard := none }) (v := ?_) rfl (by kernel_rfl) (by kernel_rfl) (by kernel_rfl) (fun _ _ _ h => h) (Or.inl ⟨by rfl, ?_⟩) (by assumption) ?_
  rotate_left 1
  · (intro w hSw; (try dsimp only at hSw); go_simp; try with_reducible rfl)
  try simp only [Act.put, List.setIfInBounds_toArray, List.set_cons_zero, List.set_cons_succ]
  refine wpAnyH_take (i := 7) (oi := { dst := some 135, op := Go.Op.load 22 (Go.Operand.tmp 134), type := 22, pos := "law.go:38", after := #[{ on := 6, ground := Go.Ground.data }], guard := none }) (v := ?_) rfl (by kernel_rfl) (by kernel_rfl) (by kernel_rfl) (fun _ _ _ h => h) (Or.inl ⟨by rfl, ?_⟩) (by assumption) ?_
  rotate_left 1
  · (intro w hSw; (try dsimp only at hSw); go_simp; try with_reducible rfl)
  try simp only [Act.put, List.setIfInBounds_toArray, List.set_cons_zero, List.set_cons_succ]
  refine wpAnyH_take (i := 8) (oi := { dst := some 136, op := Go.Op.convert 22 9 (Go.Operand.tmp 135), type := 9, pos := "law.go:38", after := #[{ on := 7, ground := Go.Ground.data }], guard := none }) (v := ?_) rfl (by kernel_rfl) (by kernel_rfl) (by kernel_rfl) (fun _ _ _ h => h) (Or.inl ⟨by rfl, ?_⟩) (by assumption) ?_
  rotate_left 1
  · (intro w hSw; (try dsimp only at hSw); go_simp; try with_reducible rfl)
  try simp only [Act.put, List.setIfInBounds_toArray, List.set_cons_zero, List.set_cons_succ]
  refine wpAnyH_ready (rs := [2]) (by kernel_rfl) (by simp) ?_
  refine AllReadyH.cons (o := { dst := some 130, op := Go.Op.call { callee := Go.Callee.value (Go.Operand.func 20), args := #[Go.Operand.tmp 128, Go.Operand.tmp 129], argTypes := #[25, 3] }, type := 22, pos := "law.go:38", after := #[{ on := 0, ground := Go.Ground.data }, { on := 1, ground := Go.Ground.data }], guard := none }) rfl (fun K hK => ?_) AllReadyH.nil
  go_simp
  go_at_call 20
  (refine (RR.out v _ HVd.out).mono ?_); rintro e u3 ⟨A8, c8, rfl, hr8, hb⟩; have hc8 := (Kd.R_reads' hr8).2.2; rw [HPL.out] at hc8; have k8 := str_any (c := c8) hc8 u3 (Below.refl _ _); have HXe := Lib.hid (HXd.out.trans (hb.mono HXd.out.size)); have HBe := Lib.hid (HBd.out.trans (hb.mono HBd.out.size)); clear hb hr8 hc8
  clear hHeld
  refine hK.out _ _ ?_ (fun hHeld => ?_)
  · ((try dsimp only); exact HCell.out _ HXe.out)
  clear hK K
  refine wpAnyH_ready (rs := [3]) (by kernel_rfl) (by simp) ?_
  refine AllReadyH.cons (o := { dst := some 131, op := Go.Op.convert 22 9 (Go.Operand.tmp 130), type := 9, pos := "law.go:38", after := #[{ on := 2, ground := Go.Ground.data }], guard := none }) rfl (fun K hK => ?_) AllReadyH.nil
  go_simp
  clear hHeld
  refine hK.out _ _ ?_ (fun hHeld => ?_)
  · ((try dsimp only); exact HCell.out _ HXe.out)
  clear hK K
  refine wpAnyH_take (i := 9) (oi := { dst := some 137, op := Go.Op.binOp Go.BinOp.eql 9 (Go.Operand.tmp 131) (Go.Operand.tmp 136) 9, type := 4, pos := "law.go:38", after := #[{ on := 3, ground := Go.Ground.data }, { on := 8, ground := Go.Ground.data }], guard := none }) (v := ?_) rfl (by kernel_rfl) (by kernel_rfl) (by kernel_rfl) (fun _ _ _ h => h) (Or.inl ⟨by rfl, ?_⟩) (by assumption) ?_
  rotate_left 1
  · (intro w hSw; (try dsimp only at hSw); go_simp; try with_reducible rfl)
  try simp only [Act.put, List.setIfInBounds_toArray, List.set_cons_zero, List.set_cons_succ]
  refine wpAnyH_take (i := 10) (oi := { dst := some 138, op := Go.Op.move (Go.Operand.tmp 137), type := 4, pos := "law.go:38", after := #[{ on := 9, ground := Go.Ground.data }, { on := 2, ground := Go.Ground.chain }], guard := none }) (v := ?_) rfl (by kernel_rfl) (by kernel_rfl) (by kernel_rfl) (fun _ _ _ h => h) (Or.inl ⟨by rfl, ?_⟩) (by assumption) ?_
  rotate_left 1
  · (intro w hSw; (try dsimp only at hSw); go_simp; try with_reducible rfl)
  try simp only [Act.put, List.setIfInBounds_toArray, List.set_cons_zero, List.set_cons_succ]
  refine wpAnyH_ready (rs := [11]) (by kernel_rfl) (by simp) ?_
  refine AllReadyH.cons (o := { dst := some 139, op := Go.Op.call { callee := Go.Callee.value (Go.Operand.func 8), args := #[], argTypes := #[] }, type := 4, pos := "law.go:38", after := #[{ on := 10, ground := Go.Ground.chain }, { on := 10, ground := Go.Ground.guard }], guard := some (10, true) }) rfl (fun K hK => ?_) AllReadyH.nil
  go_simp
  go_at_call 8
  (refine (AW.out _).mono ?_); rintro e u4 ⟨rfl, hb⟩; have HXf := Lib.hid (HXe.out.trans (hb.mono HXe.out.size)); have HBf := Lib.hid (HBe.out.trans (hb.mono HBe.out.size)); clear hb
  clear hHeld
  refine hK.out _ _ ?_ (fun hHeld => ?_)
  · ((try dsimp only); exact HCell.out _ HXf.out)
  clear hK K
  refine wpAnyH_take (i := 12) (oi := { dst := some 140, op := Go.Op.pick (Go.Operand.tmp 138) (Go.Operand.tmp 139) (Go.Operand.const (Go.Value.bool false)), type := 4, pos := "law.go:38", after := #[{ on := 10, ground := Go.Ground.data }, { on := 11, ground := Go.Ground.data }], guard := none }) (v := ?_) rfl (by kernel_rfl) (by kernel_rfl) (by kernel_rfl) (fun _ _ _ h => h) (Or.inl ⟨by rfl, ?_⟩) (by assumption) ?_
  rotate_left 1
  · (intro w hSw; (try dsimp only at hSw); go_simp; try with_reducible rfl)
  try simp only [Act.put, List.setIfInBounds_toArray, List.set_cons_zero, List.set_cons_succ]
  refine wpAnyH_take (i := 13) (oi := { dst := some 6, op := Go.Op.assign (Go.Operand.tmp 140), type := 4, pos := "law.go:38", after := #[{ on := 12, ground := Go.Ground.data }, { on := 11, ground := Go.Ground.chain }, { on := 0, ground := Go.Ground.phase }, { on := 1, ground := Go.Ground.phase }, { on := 2, ground := Go.Ground.phase }, { on := 3, ground := Go.Ground.phase }, { on := 4, ground := Go.Ground.phase }, { on := 5, ground := Go.Ground.phase }, { on := 6, ground := Go.Ground.phase }, { on := 7, ground := Go.Ground.phase }, { on := 8, ground := Go.Ground.phase }, { on := 9, ground := Go.Ground.phase }, { on := 10, ground := Go.Ground.phase }, { on := 11, ground := Go.Ground.phase }, { on := 12, ground := Go.Ground.phase }], guard := none }) (v := ?_) rfl (by kernel_rfl) (by kernel_rfl) (by kernel_rfl) (fun _ _ _ h => h) (Or.inl ⟨by rfl, ?_⟩) (by assumption) ?_
  rotate_left 1
  · (intro w hSw; (try dsimp only at hSw); go_simp; try with_reducible rfl)
  try simp only [Act.put, List.setIfInBounds_toArray, List.set_cons_zero, List.set_cons_succ]
  refine wpAnyH_done (by kernel_rfl) ?_ _
  refine NoPanic.normal ?_
  go_wp2
  go_ret
  exact ⟨rfl, HBf.out⟩
end Go.Proofs.Ytmefhhkfakmhgaa.Str
