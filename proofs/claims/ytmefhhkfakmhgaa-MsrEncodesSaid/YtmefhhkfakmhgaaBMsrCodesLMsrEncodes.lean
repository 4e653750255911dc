/- The law MsrEncodes: the walk. -/
import Derived.Test.YtmefhhkfakmhgaaProg
import Derived.Below
import Derived.Deep.Draws
import Derived.Deep.AppendLies
import Derived.Maps.AppendAt
import Derived.OwnWalk
import Derived.Laws.BytesArg
import Derived.Laws.MakeOwn
import Derived.Laws.OwnMore
import Derived.Deep.OwnRows
import Derived.Tactics
import Derived.Lib.ConvBytes
import Derived.Laws.Slices
import Derived.WalkKit
import Derived.KernelRfl
import Derived.RowKit3
import Derived.Deep.LoopGhost
import Derived.Deep.QuietTactic
import Derived.BigQuiet
import Derived.WideLaws
import Derived.Deep.DeepCutAuto
import Derived.Deep.CutBlock
import Derived.Deep.RegionHeld3
import Derived.Laws.Rows
import Derived.Lib.AppendStr
import Derived.ArgAppend
import Derived.Laws.IdiomCopy
import Derived.OrdersHeld
import Derived.Laws.BitsLemmas
import Derived.RowKit
import Derived.Lib.Hide
import Derived.WalkSpells
import Derived.StillTailTactics
import Derived.Outline
import Derived.Test.YtmefhhkfakmhgaaSame8
import Derived.Test.YtmefhhkfakmhgaaOpens
import Derived.Test.YtmefhhkfakmhgaaBMsrCodesMsrC1
import Derived.Test.YtmefhhkfakmhgaaBMsrCodesMsrEC
namespace Go.Proofs.Ytmefhhkfakmhgaa.Str
open Go Go.RowKit Go.Proofs.Ytmefhhkfakmhgaa.PMsrCodes Go.Proofs.Ytmefhhkfakmhgaa.BMsrCodes Go.Proofs.Ytmefhhkfakmhgaa.Gf Go.Proofs.Ytmefhhkfakmhgaa.Gi Go.Proofs.Ytmefhhkfakmhgaa.Bits Go.Proofs.Ytmefhhkfakmhgaa.Mem Go.Proofs.Ytmefhhkfakmhgaa.VPts Go.Proofs.Ytmefhhkfakmhgaa.Rws Go.Proofs.Ytmefhhkfakmhgaa.Plc Go.Proofs.Ytmefhhkfakmhgaa.Opn Go.Proofs.YtmefhhkfakmhgaaW.PrintWords Go.Proofs.YtmefhhkfakmhgaaW.PrintLast
set_option linter.unusedVariables false

set_option maxRecDepth 100000 in
theorem small_yes (n k : Nat) (w : World) (h1 : 2 ≤ k) (h2 : k ≤ 4) (h3 : 2 * k - 1 ≤ n) (h4 : n ≤ 12) :
    Calls Try.prog 7 #[.int .i64 n, .int .i64 k] w fun e w' => e = .returned (.bool true) ∧ Below w.heap.size w w' := by
  have RC := Lib.hid (right_calls n k true w (by simp; omega))
  have e1 : (n : Int) ≤ 12 := by omega
  have e2 : (k : Int) ≤ 4 := by omega
  clear h1 h2 h3 h4
  go_enter Try.func7, Try.ntmps7
  go_wp2_with (go_at_call 21; (with_reducible refine RC.out.mono ?_); rintro e w1 ⟨rfl, hb⟩; have HB := Lib.hid hb; clear hb)
  go_ret
  exact ⟨by simp, HB.out⟩
set_option maxRecDepth 100000 in
theorem small_no (n k : Int) (w : World) (h : ¬ (2 ≤ k ∧ k ≤ 4 ∧ 2 * k - 1 ≤ n ∧ n ≤ 12)) :
    Calls Try.prog 7 #[.int .i64 n, .int .i64 k] w fun e w' => e = .returned (.bool false) ∧ Below w.heap.size w w' := by
  by_cases hr : 2 ≤ k ∧ k ≤ 8 ∧ 2 * k - 1 ≤ n ∧ n ≤ 24
  · have RC := Lib.hid (right_calls n k true w (by simp; omega))
    by_cases e1 : n ≤ 12
    · have e2 : ¬ k ≤ 4 := by omega
      have e3 : decide (k ≤ 4) = false := by simp; omega
      clear h hr
      go_enter Try.func7, Try.ntmps7
      go_wp2_with (go_at_call 21; (with_reducible refine RC.out.mono ?_); rintro e w1 ⟨rfl, hb⟩; have HB := Lib.hid hb; clear hb)
      go_ret
      exact ⟨by simp, HB.out⟩
    · have e3 : decide (n ≤ 12) = false := by simp; omega
      clear h hr
      go_enter Try.func7, Try.ntmps7
      go_wp2_with (go_at_call 21; (with_reducible refine RC.out.mono ?_); rintro e w1 ⟨rfl, hb⟩; have HB := Lib.hid hb; clear hb)
      go_ret
      exact ⟨by simp, HB.out⟩
  · have RC := Lib.hid (right_calls n k false w (by simp; omega))
    clear h hr
    go_enter Try.func7, Try.ntmps7
    go_wp2_with (go_at_call 21; (with_reducible refine RC.out.mono ?_); rintro e w1 ⟨rfl, hb⟩; have HB := Lib.hid hb; clear hb)
    go_ret
    exact ⟨by simp, HB.out⟩
set_option maxRecDepth 100000 in
theorem me_no (n k : Int) (A : Option Addr) (L c : Nat) (w : World) (h : ¬ (2 ≤ k ∧ k ≤ 4 ∧ 2 * k - 1 ≤ n ∧ n ≤ 12)) :
    Calls Try.prog 3 #[.int .i64 n, .int .i64 k, .slice A L c] w fun e w' => e = .returned (.bool true) ∧ Below w.heap.size w w' := by
  have SM := Lib.hid (small_no n k w h)
  have AW := Lib.hid awake_calls
  clear h
  go_enter Try.func3, Try.ntmps3
  go_wp2_with (first | (go_at_call 7; (with_reducible refine SM.out.mono ?_); rintro e w1 ⟨rfl, hb⟩; have HB1 := Lib.hid hb; clear hb) | (go_at_call 8; (with_reducible refine (AW.out _).mono ?_); rintro e w9 ⟨rfl, hb⟩; have HB9 := Lib.hid (HB1.out.trans (hb.mono HB1.out.size)); clear hb))
  go_ret
  exact ⟨rfl, HB9.out⟩
set_option maxRecDepth 100000 in
theorem me_long (n k : Nat) (A : Option Addr) (L c : Nat) (w : World) (k1 : 2 ≤ k) (k2 : k ≤ 4) (n1 : 2 * k - 1 ≤ n) (n2 : n ≤ 12) (hL : 200 < L) :
    Calls Try.prog 3 #[.int .i64 n, .int .i64 k, .slice A L c] w fun e w' => e = .returned (.bool true) ∧ Below w.heap.size w w' := by
  have SM := Lib.hid (small_yes n k w k1 k2 n1 n2)
  have AW := Lib.hid awake_calls
  have q1 : (200 : Int) < (L : Int) := by omega
  clear k1 k2 n1 n2 hL
  go_enter Try.func3, Try.ntmps3
  go_wp2_with (first | (go_at_call 7; (with_reducible refine SM.out.mono ?_); rintro e w1 ⟨rfl, hb⟩; have HB1 := Lib.hid hb; clear hb) | (go_at_call 8; (with_reducible refine (AW.out _).mono ?_); rintro e w9 ⟨rfl, hb⟩; have HB9 := Lib.hid (HB1.out.trans (hb.mono HB1.out.size)); clear hb))
  go_ret
  exact ⟨rfl, HB9.out⟩
set_option maxRecDepth 100000 in
set_option maxHeartbeats 2000000 in
theorem me_bad (n k s : Nat) (A : Option Addr) (L c : Nat) (w : World) (k1 : 2 ≤ k) (k2 : k ≤ 4) (n1 : 2 * k - 1 ≤ n) (n2 : n ≤ 12) (hL : L ≤ 200) (hs : k * (k - 1) = s) (h : L = 0 ∨ L % s ≠ 0) :
    Calls Try.prog 3 #[.int .i64 n, .int .i64 k, .slice A L c] w fun e w' => e = .returned (.bool true) ∧ Below w.heap.size w w' := by
  have SM := Lib.hid (small_yes n k w k1 k2 n1 n2)
  have AW := Lib.hid awake_calls
  have NC := Lib.hid (fun W => new_codeP n k W k1 (by omega) n1 (by omega))
  have EB := Lib.hid (fun v W (hc : IsCodeP W v n k) => encode_bad v n k s L A c W hc k1 (by omega) hs h)
  have RB := Lib.hid (fun W => refenc_bad n k s L A c W k1 (by omega) hs h)
  have SA := Lib.hid (fun W => same_true none none 0 0 0 0 [] [] W (Kd.C_nil _ _) rfl (Kd.C_nil _ _) rfl (fun l hl => by cases hl) (by simp) rfl)
  have q1 : ¬ (200 : Int) < (L : Int) := by omega
  have q2 : decide ((L : Int) > 200) = false := by simp; omega
  clear k1 k2 n1 n2 hL hs h
  go_enter Try.func3, Try.ntmps3
  go_wp2_with (first
    | (go_at_call 7; (with_reducible refine SM.out.mono ?_); rintro e w1 ⟨rfl, hb⟩; have HB1 := Lib.hid hb; clear hb)
    | (go_at_call 9; (with_reducible refine (NC.out _).mono ?_); rintro e w2 ⟨v, rfl, hcd, hb⟩; have HV := Lib.hid hcd; clear hcd; have HBn := Lib.hid (HB1.out.trans (hb.mono HB1.out.size)); clear HB1 hb; have HB1 := HBn; clear HBn)
    | (go_at_call 10; (with_reducible refine (EB.out v _ HV.out).mono ?_); rintro e w3 ⟨rfl, hb⟩; have HBn := Lib.hid (HB1.out.trans (hb.mono HB1.out.size)); clear HB1 hb; have HB1 := HBn; clear HBn)
    | (go_at_call 11; (with_reducible refine (RB.out _).mono ?_); rintro e w4 ⟨rfl, hb⟩; have HBn := Lib.hid (HB1.out.trans (hb.mono HB1.out.size)); clear HB1 hb; have HB1 := HBn; clear HBn)
    | (go_at_call 12; (with_reducible refine (SA.out _).mono ?_); rintro e w5 ⟨rfl, hb⟩; have HBn := Lib.hid (HB1.out.trans (hb.mono HB1.out.size)); clear HB1 hb; have HB1 := HBn; clear HBn)
    | (go_at_call 8; (with_reducible refine (AW.out _).mono ?_); rintro e w9 ⟨rfl, hb⟩; have HB9 := Lib.hid (HB1.out.trans (hb.mono HB1.out.size)); clear hb))
  go_ret
  exact ⟨rfl, HB9.out⟩
set_option maxRecDepth 100000 in
set_option maxHeartbeats 2000000 in
theorem me_good (n k s sz : Nat) (A : Option Addr) (L c : Nat) (b : List Int) (w : World) (k1 : 2 ≤ k) (k2 : k ≤ 4) (n1 : 2 * k - 1 ≤ n) (n2 : n ≤ 12) (hL : L ≤ 200) (hs : k * (k - 1) = s) (hLs : L = s * sz) (hsz : 1 ≤ sz)
    (hr : (Kd.int .u8).C w A L b) (hLc : L ≤ c) (hbyt : ∀ x ∈ b, Byt x) :
    Calls Try.prog 3 #[.int .i64 n, .int .i64 k, .slice A L c] w fun e w' => e = .returned (.bool true) ∧ Below w.heap.size w w' := by
  have SM := Lib.hid (small_yes n k w k1 k2 n1 n2)
  have AW := Lib.hid awake_calls
  have NC := Lib.hid (fun W => new_codeP n k W k1 (by omega) n1 (by omega))
  have EG := Lib.hid (fun v W (hc : IsCodeP W v n k) (hB : Below w.heap.size w W) => encode_good v n k s sz L A c b W hc k1 (by omega) (by omega) hs (Kd.C_below hr hB) hLc hLs hsz (by omega) hbyt)
  have RG := Lib.hid (fun W (hB : Below w.heap.size w W) => refenc_good n k s sz L A c b W k1 (by omega) (by omega) hs (Kd.C_below hr hB) hLs hsz (by omega) hbyt)
  have hln := shardsM_len n k sz b n
  have hbt := shardsM_byt n k sz b n
  obtain ⟨ss, hss⟩ : ∃ ss, ss = shardsM n k sz b n := ⟨_, rfl⟩
  rw [← hss] at EG RG hln hbt
  have SA := Lib.hid (fun A1 c1 A2 c2 W (h1 : Kd.C kRow W A1 n ss) (h2 : Kd.C kRow W A2 n ss) => same_true A1 A2 c1 c2 n n ss ss W h1 hln.symm h2 hln.symm hbt (by omega) rfl)
  have q1 : ¬ (200 : Int) < (L : Int) := by omega
  have q2 : decide ((L : Int) > 200) = false := by simp; omega
  clear k1 k2 n1 n2 hL hs hLs hsz hr hLc hbyt hln hbt hss
  go_enter Try.func3, Try.ntmps3
  go_wp2_with (first
    | (go_at_call 7; (with_reducible refine SM.out.mono ?_); rintro e w1 ⟨rfl, hb⟩; have HB1 := Lib.hid hb; clear hb)
    | (go_at_call 9; (with_reducible refine (NC.out _).mono ?_); rintro e w2 ⟨v, rfl, hcd, hb⟩; have HV := Lib.hid hcd; clear hcd; have HBn := Lib.hid (HB1.out.trans (hb.mono HB1.out.size)); clear HB1 hb; have HB1 := HBn; clear HBn)
    | (go_at_call 10; (with_reducible refine (EG.out v _ HV.out HB1.out).mono ?_); rintro e w3 ⟨A3, c3, rfl, _, hC3, hb⟩; have HC3 := Lib.hid hC3; clear hC3; have HBn := Lib.hid (HB1.out.trans (hb.mono HB1.out.size)); clear HB1 hb; have HB1 := HBn; clear HBn)
    | (go_at_call 11; (with_reducible refine (RG.out _ HB1.out).mono ?_); rintro e w4 ⟨A4, c4, rfl, _, hC4, hb⟩; have HC4 := Lib.hid hC4; have HD3 := Lib.hid (Kd.C_below HC3.out hb); clear hC4; have HBn := Lib.hid (HB1.out.trans (hb.mono HB1.out.size)); clear HB1 hb; have HB1 := HBn; clear HBn)
    | (go_at_call 12; (with_reducible refine (SA.out _ _ _ _ _ HD3.out HC4.out).mono ?_); rintro e w5 ⟨rfl, hb⟩; have HBn := Lib.hid (HB1.out.trans (hb.mono HB1.out.size)); clear HB1 hb; have HB1 := HBn; clear HBn)
    | (go_at_call 8; (with_reducible refine (AW.out _).mono ?_); rintro e w9 ⟨rfl, hb⟩; have HB9 := Lib.hid (HB1.out.trans (hb.mono HB1.out.size)); clear hb))
  go_ret
  exact ⟨rfl, HB9.out⟩
theorem r_u8 {a : Int} (h : (Lit.int .u8 a).wf = true) : 0 ≤ a ∧ a < 256 := by
  simp [Lit.wf, IntKind.min, IntKind.max, IntKind.signed, IntKind.bits] at h; omega
theorem opens_bytes : Opens (Kd.slice 5 (Kd.int .u8)) (fun l => l.length ≤ 9223372036854775807 ∧ ∀ a ∈ l, (Lit.int .u8 a).wf = true) 22 := opens_slice Try.underlying22 (by kernel_rfl) (opens_int Try.underlying5)
theorem me_row (n : Int) (_ : (Lit.int .i64 n).wf = true) (k : Int) (_ : (Lit.int .i64 k).wf = true)
    {w : World} (A : Option Addr) (c : Nat) (b : List Int) (hC1 : (Kd.int .u8).C w A b.length b) (hc1 : b.length ≤ c) (hok1 : b.length ≤ 9223372036854775807 ∧ ∀ a ∈ b, (Lit.int .u8 a).wf = true) (_ : World) :
    Calls Try.prog 3 #[.int .i64 n, .int .i64 k, .slice A b.length c] w fun e w' => e = .returned (.bool true) ∧ Below w.heap.size w w' := by
  by_cases hr : 2 ≤ k ∧ k ≤ 4 ∧ 2 * k - 1 ≤ n ∧ n ≤ 12
  · obtain ⟨r1, r2, r3, r4⟩ := hr
    obtain ⟨k, rfl⟩ := Int.eq_ofNat_of_zero_le (show 0 ≤ k by omega)
    obtain ⟨n, rfl⟩ := Int.eq_ofNat_of_zero_le (show 0 ≤ n by omega)
    by_cases hL : 200 < b.length
    · exact me_long n k A _ c w (by omega) (by omega) (by omega) (by omega) hL
    obtain ⟨s, hs⟩ : ∃ s, k * (k - 1) = s := ⟨_, rfl⟩
    by_cases h : b.length = 0 ∨ b.length % s ≠ 0
    · exact me_bad n k s A _ c w (by omega) (by omega) (by omega) (by omega) (by omega) hs h
    · have h0 : b.length ≠ 0 := fun e => h (.inl e)
      have h1 : b.length % s = 0 := by
        rcases Nat.eq_zero_or_pos (b.length % s) with e | e
        · exact e
        · exact absurd (.inr (by omega)) h
      obtain ⟨sz, hsz⟩ : ∃ sz, b.length = s * sz := ⟨b.length / s, by have := Nat.div_add_mod b.length s; omega⟩
      have hs1 : 1 ≤ sz := by
        rcases Nat.eq_zero_or_pos sz with e | e
        · subst e; rw [Nat.mul_zero] at hsz; omega
        · exact e
      exact me_good n k s sz A _ c b w (by omega) (by omega) (by omega) (by omega) (by omega) hs hsz hs1 hC1 hc1 (fun x hx => r_u8 (hok1.2 x hx))
  · exact me_no n k A _ c w hr
end Go.Proofs.Ytmefhhkfakmhgaa.Str
