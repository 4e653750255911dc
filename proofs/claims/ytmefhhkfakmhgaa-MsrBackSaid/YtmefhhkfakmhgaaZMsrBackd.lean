/- The statement MsrBack: what its proof rests on, part 4 of 4. -/
import Derived.Test.YtmefhhkfakmhgaaProg
import Derived.Below
import Derived.Deep.Draws
import Derived.Deep.AppendLies
import Derived.Maps.AppendAt
import Derived.OwnWalk
import Derived.Laws.BytesArg
import Derived.Laws.MakeOwn
import Derived.Laws.OwnMore
import Derived.Deep.OwnRows
import Derived.Tactics
import Derived.Lib.ConvBytes
import Derived.Laws.Slices
import Derived.WalkKit
import Derived.KernelRfl
import Derived.RowKit3
import Derived.Deep.LoopGhost
import Derived.Deep.QuietTactic
import Derived.BigQuiet
import Derived.WideLaws
import Derived.Deep.DeepCutAuto
import Derived.Deep.CutBlock
import Derived.Deep.RegionHeld3
import Derived.Laws.Rows
import Derived.Lib.AppendStr
import Derived.ArgAppend
import Derived.Laws.IdiomCopy
import Derived.OrdersHeld
import Derived.Laws.BitsLemmas
import Derived.RowKit
import Derived.Lib.Hide
import Derived.WalkSpells
import Derived.StillTailTactics
import Derived.Outline
import Derived.Test.YtmefhhkfakmhgaaZMsrBackc
namespace Go.Proofs.Ytmefhhkfakmhgaa.Hl
open Go Go.RowKit Go.Proofs.Ytmefhhkfakmhgaa.Gf Go.Proofs.Ytmefhhkfakmhgaa.Gi Go.Proofs.Ytmefhhkfakmhgaa.Bits Go.Proofs.Ytmefhhkfakmhgaa.Mem Go.Proofs.Ytmefhhkfakmhgaa.Alg Go.Proofs.Ytmefhhkfakmhgaa.Sol Go.Proofs.Ytmefhhkfakmhgaa.VPts Go.Proofs.Ytmefhhkfakmhgaa.Str Go.Proofs.Ytmefhhkfakmhgaa.Rws Go.Proofs.Ytmefhhkfakmhgaa.Par Go.Proofs.Ytmefhhkfakmhgaa.Mdc Go.Proofs.Ytmefhhkfakmhgaa.BMsrCodes Go.Proofs.YtmefhhkfakmhgaaW.PrintWords
set_option linter.unusedVariables false
theorem mb_reads {w : World} {A : Option Addr} {n c : Nat} {xs : List Int} (h : ReadsInt w .u8 A n xs) : (convert 22 9 (.slice A n c)).run Try.prog w = .ok (.string (strOfNums xs)) w :=
  string_of_reads Try.underlying22 Try.underlying5 Try.underlying9 h
theorem mb_str {w : World} {A : Option Addr} {m c : Nat} {ys : List Int} (h : (Kd.int .u8).C w A m ys) (W : World) (hb : Below w.heap.size w W) : (convert 22 9 (.slice A m c)).run Try.prog W = .ok (.string (strOfNums ys)) W :=
  mb_reads (Kd.reads_of_C (d := (0 : Int)) (Kd.C_below h hb))
def nI (lf : List Nat) : List Int := lf.map (fun x : Nat => (x : Int))
theorem nI_len (lf : List Nat) : (nI lf).length = lf.length := by simp [nI]
theorem nI_get (lf : List Nat) (t : Nat) (ht : t < lf.length) : (nI lf).getD t 0 = (lf[t] : Int) := by simp [nI, List.getD_eq_getElem?_getD, ht]
theorem nI_erase (lf : List Nat) (t : Nat) : (nI lf).take t ++ (nI lf).drop (t + 1) = nI (lf.eraseIdx t) := by
  unfold nI
  rw [List.eraseIdx_eq_take_drop_succ, List.map_append, List.map_take, List.map_drop]
def hlist (p : Nat → Nat) (hh : Nat → Hd) (i : Nat) : List (Int × Hd) := (List.range i).map (fun j => (((p j : Nat) : Int), hh (p j)))
theorem hlist_len (p : Nat → Nat) (hh : Nat → Hd) (i : Nat) : (hlist p hh i).length = i := by simp [hlist]
theorem hlist_succ (p : Nat → Nat) (hh : Nat → Hd) (i v : Nat) : hlist p hh i ++ [((v : Int), hh v)] = hlist (fun j => if j = i then v else p j) hh (i + 1) := by
  unfold hlist
  rw [List.range_succ, List.map_append]
  congr 1
  · refine List.map_congr_left (fun j hj => ?_)
    have h2 : j < i := by simpa using hj
    have h3 : ¬ j = i := by omega
    show (((p j : Nat) : Int), hh (p j)) = (((if j = i then v else p j : Nat) : Int), hh (if j = i then v else p j))
    rw [if_neg h3]
  · simp
theorem heads_ex {w : World} {A : Option Addr} {n k sz : Nat} {b : List Int} (h : Kd.C kRow w A n (shardsM n k sz b n)) : ∃ hh : Nat → Hd, ∀ i, i < n → ∃ ad, A = some ad ∧ w.cell? (ad.add i) = some (hv (hh i)) ∧ (hh i).2.1 = (k - 1) * sz ∧ (hh i).2.1 ≤ (hh i).2.2 ∧ (Kd.int .u8).C w (hh i).1 (hh i).2.1 (shardL (ptN n k i) (k - 1) sz b) := by
  have hx : ∀ i, ∃ q : Hd, i < n → ∃ ad, A = some ad ∧ w.cell? (ad.add i) = some (hv q) ∧ q.2.1 = (k - 1) * sz ∧ q.2.1 ≤ q.2.2 ∧ (Kd.int .u8).C w q.1 q.2.1 (shardL (ptN n k i) (k - 1) sz b) := by
    intro i
    by_cases hi : i < n
    · obtain ⟨ad, A0, c0, e, h1, h2, h3⟩ := Str.rowsN_get h i hi
      have e1 : (shardsM n k sz b n).getD i [] = shardL (ptN n k i) (k - 1) sz b := by simp [shardsM, List.getD_eq_getElem?_getD, hi]
      rw [e1, shardL_len] at h1 h2 h3
      exact ⟨(A0, (k - 1) * sz, c0), fun _ => ⟨ad, e, h1, rfl, h2, h3⟩⟩
    · exact ⟨(none, 0, 0), fun h => absurd h hi⟩
  exact ⟨fun i => Classical.choose (hx i), fun i hi => Classical.choose_spec (hx i) hi⟩
theorem lit0i {w X : World} (h : Below w.heap.size w X) : (Kd.int .i64).R 3 (X.alloc (.cells #[] 3)) w.heap.size (fun _ => True) (.slice (some ⟨X.heap.size, 0, none⟩) 0 0) ([] : List Int) :=
  Kd.R_of_own (enc := Value.int .i64) (own_lit X w.heap.size 3 .i64 [] h.size (by simp)) (fun _ _ => trivial)
set_option maxRecDepth 100000 in
theorem mb_no (n k : Int) (Ab Ap : Option Addr) (L cb P cp : Nat) (w : World) (h : ¬ (2 ≤ k ∧ k ≤ 4 ∧ 2 * k - 1 ≤ n ∧ n ≤ 12)) :
    Calls Try.prog 5 #[.int .i64 n, .int .i64 k, .slice Ab L cb, .slice Ap P cp] w fun e w' => e = .returned (.bool true) ∧ Below w.heap.size w w' := by
  have SM := Lib.hid (small_no n k w h)
  have AW := Lib.hid awake_calls
  clear h
  go_enter Try.func5, Try.ntmps5
  go_wp2_with (first | (go_at_call 7; (with_reducible refine SM.out.mono ?_); rintro e w1 ⟨rfl, hb⟩; have HB1 := Lib.hid hb; clear hb) | (go_at_call 8; (with_reducible refine (AW.out _).mono ?_); rintro e w9 ⟨rfl, hb⟩; have HB9 := Lib.hid (HB1.out.trans (hb.mono HB1.out.size)); clear hb))
  go_ret
  exact ⟨rfl, HB9.out⟩
set_option maxRecDepth 100000 in
set_option maxHeartbeats 1000000 in
theorem mb_skip (n k s : Nat) (Ab Ap : Option Addr) (L cb P cp : Nat) (w : World) (h1 : 2 ≤ k) (h2 : k ≤ 4) (h3 : 2 * k - 1 ≤ n) (h4 : n ≤ 12) (hs : k * (k - 1) = s) (hL : 200 < L ∨ L = 0 ∨ L % s ≠ 0) :
    Calls Try.prog 5 #[.int .i64 n, .int .i64 k, .slice Ab L cb, .slice Ap P cp] w fun e w' => e = .returned (.bool true) ∧ Below w.heap.size w w' := by
  have SM := Lib.hid (small_yes n k w h1 h2 h3 h4)
  have AW := Lib.hid awake_calls
  have hs12 : k * (k - 1) ≤ 4 * 3 := Nat.mul_le_mul h2 (by omega)
  have hs2 : 2 * 1 ≤ k * (k - 1) := Nat.mul_le_mul h1 (by omega)
  obtain ⟨a, ha⟩ : ∃ a, a = k - 1 := ⟨_, rfl⟩
  have v1 : IntKind.i64.wrap ((k : Int) - 1) = (a : Int) := by rw [IntWalk.i64_in _ (by omega)]; omega
  rw [← ha] at hs hs12 hs2
  rw [hs] at hs12 hs2
  have v3 : IntKind.i64.wrap ((k : Int) * (a : Int)) = (s : Int) := by rw [← Int.natCast_mul, hs]; exact IntWalk.i64_in _ (by omega)
  have v5 : (1 : Int) ≤ (s : Int) := by omega
  clear ha
  by_cases q1 : 200 < L
  · have g1 : (200 : Int) < (L : Int) := by omega
    clear hL h1 h2 h3 h4 hs hs12 hs2
    go_enter Try.func5, Try.ntmps5
    go_wp2_with (first | (go_at_call 7; (with_reducible refine SM.out.mono ?_); rintro e w1 ⟨rfl, hb⟩; have HB1 := Lib.hid hb; clear hb) | (go_at_call 8; (with_reducible refine (AW.out _).mono ?_); rintro e w9 ⟨rfl, hb⟩; have HB9 := Lib.hid (HB1.out.trans (hb.mono HB1.out.size)); clear hb))
    go_ret
    exact ⟨rfl, HB9.out⟩
  · have g1 : ¬ (200 : Int) < (L : Int) := by omega
    have g2 : decide ((L : Int) > 200) = false := by simp; omega
    by_cases q2 : L = 0
    · have g3 : ((L : Int) == 0) = true := by simp [q2]
      clear hL h1 h2 h3 h4 hs hs12 hs2 q1 q2
      go_enter Try.func5, Try.ntmps5
      go_wp2_with (first | (go_at_call 7; (with_reducible refine SM.out.mono ?_); rintro e w1 ⟨rfl, hb⟩; have HB1 := Lib.hid hb; clear hb) | (go_at_call 8; (with_reducible refine (AW.out _).mono ?_); rintro e w9 ⟨rfl, hb⟩; have HB9 := Lib.hid (HB1.out.trans (hb.mono HB1.out.size)); clear hb))
      go_ret
      exact ⟨rfl, HB9.out⟩
    · have g3 : ((L : Int) == 0) = false := by simp; omega
      have q3 : L % s ≠ 0 := by omega
      obtain ⟨r, hr⟩ : ∃ r, r = L % s := ⟨_, rfl⟩
      have d3 : (L : Int) % (s : Int) = (r : Int) := by rw [hr]; exact (Int.natCast_emod L s).symm
      have d4 : ((r : Int) != 0) = true := by simp; omega
      clear hL h1 h2 h3 h4 hs hs12 hs2 q1 q2 q3 hr
      go_enter Try.func5, Try.ntmps5
      go_wp2_with (first | (go_at_call 7; (with_reducible refine SM.out.mono ?_); rintro e w1 ⟨rfl, hb⟩; have HB1 := Lib.hid hb; clear hb) | (go_at_call 8; (with_reducible refine (AW.out _).mono ?_); rintro e w9 ⟨rfl, hb⟩; have HB9 := Lib.hid (HB1.out.trans (hb.mono HB1.out.size)); clear hb))
      go_ret
      exact ⟨rfl, HB9.out⟩
set_option maxRecDepth 100000 in
set_option maxHeartbeats 8000000 in
theorem mb_main (n k s sz L P cb cp : Nat) (Ab Ap : Option Addr) (b ps : List Int) (w : World) (k1 : 2 ≤ k) (k2 : k ≤ 4) (n1 : 2 * k - 1 ≤ n) (n2 : n ≤ 12) (hs : k * (k - 1) = s) (hr : (Kd.int .u8).C w Ab L b) (hLc : L ≤ cb) (hLs : L = s * sz) (hsz : 1 ≤ sz) (hL : L ≤ 200) (hbyt : ∀ x ∈ b, Byt x) (hq : (Kd.int .u8).C w Ap P ps) (hqb : ∀ x ∈ ps, Byt x) :
    Calls Try.prog 5 #[.int .i64 n, .int .i64 k, .slice Ab L cb, .slice Ap P cp] w fun e w' => e = .returned (.bool true) ∧ Below w.heap.size w w' := by
  have SM := Lib.hid (small_yes n k w k1 k2 n1 n2)
  have AW := Lib.hid awake_calls
  have NC := Lib.hid (fun W => new_codeP n k W k1 (by omega) n1 (by omega))
  have EG := Lib.hid (fun v W (hB : Below w.heap.size w W) (hc : IsCodeP W v n k) => encode_good v n k s sz L Ab cb b W hc k1 (by omega) (by omega) hs (Kd.C_below hr hB) hLc hLs hsz (by omega) hbyt)
  have hs12 : k * (k - 1) ≤ 4 * 3 := Nat.mul_le_mul k2 (by omega)
  have hs2 : 2 * 1 ≤ k * (k - 1) := Nat.mul_le_mul k1 (by omega)
  obtain ⟨a, ha⟩ : ∃ a, a = k - 1 := ⟨_, rfl⟩
  have v1 : IntKind.i64.wrap ((k : Int) - 1) = (a : Int) := by rw [IntWalk.i64_in _ (by omega)]; omega
  have hsa : s = (a + 1) * a := by rw [← hs, ha, show k - 1 + 1 = k by omega]
  rw [hs] at hs12 hs2
  have v3 : IntKind.i64.wrap ((k : Int) * (a : Int)) = (s : Int) := by rw [← Int.natCast_mul, ha, hs]; exact IntWalk.i64_in _ (by omega)
  have v5 : (1 : Int) ≤ (s : Int) := by omega
  have g1 : ¬ (200 : Int) < (L : Int) := by omega
  have g2 : decide ((L : Int) > 200) = false := by simp; omega
  have hL1 : 2 * 1 ≤ s * sz := Nat.mul_le_mul (by omega) hsz
  have g3 : ((L : Int) == 0) = false := by simp; omega
  have d3 : (L : Int) % (s : Int) = 0 := by rw [hLs, Int.natCast_mul]; exact Int.mul_emod_right _ _
  have HR := Lib.hid (fun W (hB : Below w.heap.size w W) => Kd.C_below hr hB)
  have HQQ := Lib.hid (fun W (hB : Below w.heap.size w W) => Kd.C_below hq hB)
  have HQB := Lib.hid hqb
  have HBL := Lib.hid (show b.length = L from hr.1)
  have HBB := Lib.hid hbyt
  have HKK := Lib.hid (show (2 ≤ k ∧ k ≤ 4 ∧ 2 * k - 1 ≤ n ∧ n ≤ 12) ∧ a = k - 1 ∧ s = (a + 1) * a ∧ L = s * sz ∧ 1 ≤ sz ∧ L ≤ 200 from ⟨⟨k1, k2, n1, n2⟩, ha, hsa, hLs, hsz, hL⟩)
  clear hr hq hqb hbyt ha hs hLc hLs hsz hL hsa hs12 hs2 hL1
  go_enter Try.func5, Try.ntmps5
  go_upto_region 9 with (first
    | (go_at_call 7; (with_reducible refine SM.out.mono ?_); rintro e w1 ⟨rfl, hb⟩; have HB1 := Lib.hid hb; clear hb)
    | (go_at_call 9; (with_reducible refine (NC.out _).mono ?_); rintro e w2 ⟨v, rfl, hcd, hb⟩; have HV := Lib.hid hcd; have HBn := Lib.hid (HB1.out.trans (hb.mono HB1.out.size)); clear HB1 hb hcd; have HB1 := HBn; clear HBn)
    | (go_at_call 10; (with_reducible refine (EG.out v _ HB1.out HV.out).mono ?_); rintro e w3 ⟨A4, c4, rfl, _, hC, hb⟩; have HC4 := Lib.hid hC; have HV3 := Lib.hid (HV.out.below hb); have HBn := Lib.hid (HB1.out.trans (hb.mono HB1.out.size)); clear HB1 HV hb hC; have HB1 := HBn; clear HBn))
  clear EG NC SM v1 v3 v5 g1 g2 g3 d3
  obtain ⟨hh, hhs⟩ := heads_ex HC4.out
  have HHS := Lib.hid hhs
  obtain ⟨ad4, rfl, _⟩ := hhs 0 (by omega)
  clear hhs
  go_loopw [13, 14] (fun uv iv wr => ∃ (i : Nat) (u : Value), uv = u ∧ i ≤ n ∧ iv = .int .i64 i ∧ Hid ((Kd.int .i64).R 3 wr w3.heap.size (fun _ => True) u (nI (List.range i))) ∧ Hid (Below w3.heap.size w3 wr)) (fun _ iv _ => n - (intOf iv).toNat)
  case atStart => exact ⟨0, _, rfl, by omega, rfl, Lib.hid (Kd.R_nil _ _ _ _ _), Lib.hid (Below.refl _ _)⟩
  case round =>
    obtain ⟨i, u, rfl, hi, rfl, HU, HB⟩ := hrel
    by_cases hlt : i < n
    · have q1 : (i : Int) < (n : Int) := by omega
      have q2 : (0 : Int) ≤ (i : Int) := by omega
      have HLS := Lib.hid (show nI (List.range i) ++ [(i : Int)] = nI (List.range (i + 1)) by simp [nI, List.range_succ])
      go_wp2_with (at_builtin; refine Kd.R_append (Kd.int .i64) (w0 := w3) w3.heap.size rfl _ _ 37 3 (.int .i64 0) 8 rfl Try.underlying37 Par.info_int rfl (by decide) (by decide) u13 (nI (List.range i)) (i : Int) [.int .i64 (i : Int)] (fun _ => True) (fun _ => False) rfl rfl rfl (fun _ hk => hk.elim) (fun _ _ => trivial) HU.out HB.out HB.out.size (by rw [nI_len, List.length_range]; omega) ?_; intro v6 w6 h6 hb6 _ _; rw [HLS.out] at h6; have H6 := Lib.hid h6; have HB6 := Lib.hid hb6; clear h6 hb6)
      go_roundw
      case rel => exact ⟨i + 1, _, rfl, by omega, by go_num, H6, HB6⟩
      case measure => simp [intOf]; omega
    · obtain rfl : n = i := by omega
      have HU0 := Lib.hid (show (Kd.int .i64).R 3 wr w3.heap.size (fun _ => True) u13 (nI (List.range n)) from HU.out)
      have HB0 := Lib.hid (show Below w3.heap.size w3 wr from HB.out)
      clear HU HB
      go_upto_region 14 with (fail)
      go_loopw [13, 15, 16, 17] (fun uv dv iv _ wr => ∃ (i : Nat) (p : Nat → Nat) (lf : List Nat) (u d : Value), uv = u ∧ dv = d ∧ i ≤ k ∧ iv = .int .i64 i ∧ Hid (Pk n i p lf) ∧ Hid ((Kd.int .i64).R 3 wr w3.heap.size (fun _ => True) u (nI lf)) ∧ Hid (Kd.R kPH 39 wr w3.heap.size (fun _ => True) d (hlist p hh i)) ∧ Hid (Below w3.heap.size w3 wr)) (fun _ _ iv _ _ => k - (intOf iv).toNat)
      case atStart => exact ⟨0, fun _ => 0, _, _, _, rfl, rfl, by omega, rfl, Lib.hid (Pk.start n _), HU0, Lib.hid (Kd.R_nil _ _ _ _ _), HB0⟩
      case round =>
        clear HU0 HB0
        obtain ⟨i, p, lf, u, d, rfl, rfl, hi, rfl, HPK, HU, HD, HB⟩ := hrel
        by_cases hlt : i < k
        · have q1 : (i : Int) < (k : Int) := by omega
          have q2 : (0 : Int) ≤ (i : Int) := by omega
          obtain ⟨l, hl⟩ : ∃ l, l = lf.length := ⟨_, rfl⟩
          have hln : 1 ≤ l ∧ l ≤ 12 := by have := HPK.out.len; have := HKK.out.1; omega
          obtain ⟨A5, c5, rfl⟩ := Kd.R_slice HU.out
          have HLL := Lib.hid hl
          rw [nI_len, ← hl] at HU ⊢
          have HLN := Lib.hid hln
          clear hl hln
          go_upto_if 82 with (fail)
          go_cut [17] (fun v wc => ∃ (q : Nat), v = .int .i64 q ∧ q < l ∧ Hid (Below wr.heap.size wr wc))
          case first =>
            have q3 : (0 : Int) < (l : Int) := by have := HLN.out; omega
            have q4 : ((l : Int) == 0) = false := by simp; omega
            by_cases hip : i < P
            · have q5 : (i : Int) < (P : Int) := by omega
              obtain ⟨adp, rfl, kp⟩ := Sol.at_row (HQQ.out wr (HB1.out.trans (HB.out.mono HB1.out.size))) i hip
              obtain ⟨y, hy, ey⟩ := byt_nat (getD_byt HQB.out i)
              rw [ey] at kp
              have q6 : IntKind.i64.wrap (y : Int) = (y : Int) := IntWalk.i64_in _ (by omega)
              obtain ⟨r, hr⟩ : ∃ r, r = y % l := ⟨_, rfl⟩
              have q7 : (y : Int) % (l : Int) = (r : Int) := by rw [hr]; exact (Int.natCast_emod y l).symm
              have q8 : Int.tmod (y : Int) (l : Int) = (r : Int) := by rw [tmod_nat, hr]
              have HRL := Lib.hid (show r < l by rw [hr]; exact Nat.mod_lt _ (by omega))
              clear hr ey
              go_wp2
              go_meet
              case rel => exact ⟨r, rfl, HRL.out, Lib.hid (Below.refl _ _)⟩
            · have q5 : ¬ (i : Int) < (P : Int) := by omega
              go_wp2
              go_meet
              case rel => exact ⟨0, rfl, by omega, Lib.hid (Below.refl _ _)⟩
          case rest =>
            obtain ⟨t, rfl, htl, HBC⟩ := hcut
            have HUc := Lib.hid (Kd.R_below HU.out HBC.out)
            have HDc := Lib.hid (Kd.R_below HD.out HBC.out)
            have HBc := Lib.hid (HB.out.trans (HBC.out.mono HB.out.size))
            clear HU HD HB HBC
            have htl2 : t < lf.length := by rw [← HLL.out]; exact htl
            obtain ⟨v0, hv0⟩ : ∃ v0, v0 = lf[t] := ⟨_, rfl⟩
            have hvn : v0 < n := by rw [hv0]; exact HPK.out.lt _ (List.getElem_mem _)
            have HPS := Lib.hid (show Pk n (i + 1) (fun j => if j = i then v0 else p j) (lf.eraseIdx t) by rw [hv0]; exact HPK.out.step t htl2)
            have hCl := (Kd.R_reads' HUc.out).2.2
            have hcl := (Kd.R_reads' HUc.out).2.1
            rw [nI_len, ← HLL.out] at hCl
            obtain ⟨ad5, rfl, k5⟩ := ii_row hCl t htl
            rw [nI_get lf t htl2, ← hv0] at k5
            obtain ⟨ad, e, k6, _⟩ := HHS.out v0 hvn
            injection e with e
            subst e
            obtain ⟨⟨A6, m6, c6⟩, hq6⟩ : ∃ q, q = hh v0 := ⟨_, rfl⟩
            rw [← hq6] at k6
            have k6' : wc.cell? (ad4.add v0) = some (.slice A6 m6 c6) := pw_cell_below HBc.out k6
            have HLP := Lib.hid (show hlist p hh i ++ [((v0 : Int), (A6, m6, c6))] = hlist (fun j => if j = i then v0 else p j) hh (i + 1) by rw [hq6, hlist_succ])
            have q3 : (t : Int) < (l : Int) := by omega
            have q4 : (0 : Int) ≤ (t : Int) := by omega
            have q5 : (v0 : Int) < (n : Int) := by omega
            have q6 : (0 : Int) ≤ (v0 : Int) := by omega
            have HCL := Lib.hid hcl
            have KK := Lib.hid (fun W (hB : Below wc.heap.size wc W) => (⟨pw_cell_below hB k5, pw_cell_below hB k6'⟩ : W.cell? (ad5.add t) = some (.int .i64 (v0 : Int)) ∧ W.cell? (ad4.add v0) = some (.slice A6 m6 c6)))
            have HK6 := Lib.hid (fun W (hU : (Kd.int .i64).R 3 W w3.heap.size (fun _ => True) (.slice (some ad5) l c5) (nI lf)) (hB : Below w3.heap.size w3 W) => (⟨by
              have h := (Kd.R_reads' hU).2.2
              rw [nI_len, ← HLL.out] at h
              obtain ⟨ad', e, h1⟩ := ii_row h t htl
              injection e with e
              subst e
              rw [nI_get lf t htl2, ← hv0] at h1
              exact h1, pw_cell_below hB k6⟩ : W.cell? (ad5.add t) = some (.int .i64 (v0 : Int)) ∧ W.cell? (ad4.add v0) = some (.slice A6 m6 c6)))
            clear hCl hcl k5 k6 k6' hq6 hv0 htl2 HPK
            go_upto_region 19 with (fail)
            have HZ := Lib.hid (show Below wc.heap.size wc wc.drew from (Below.refl _ _).drew)
            have HDz := Lib.hid (Kd.R_drew HDc.out)
            have HUz := Lib.hid (Kd.R_drew HUc.out)
            have HBz := Lib.hid (show Below w3.heap.size w3 wc.drew from HBc.out.drew)
            clear HDc HUc
            refine wp_region_noPanic ?_
            refine wp_region_held_drew (S := (fun W => W.cell? (ad5.add t) = some (.int .i64 (v0 : Int)) ∧ W.cell? (ad4.add v0) = some (.slice A6 m6 c6))) (by kernel_rfl) ?_ (fun hHeld => ?_)
            · ((try dsimp only); exact KK.out _ HZ.out)
            refine wpAnyH_take (i := 0) (oi := { dst := some 91, op := .move (.tmp 15), type := 36, pos := _, after := _, guard := none }) (v := ?_) rfl (by kernel_rfl) (by kernel_rfl) (by kernel_rfl) (fun _ _ _ h => h) (Or.inl ⟨by rfl, ?_⟩) (by assumption) ?_
            rotate_left 1
            · (intro w hSw; (try dsimp only at hSw); go_simp; try with_reducible rfl)
            try simp only [Act.put, List.setIfInBounds_toArray, List.set_cons_zero, List.set_cons_succ]
            refine wpAnyH_take (i := 1) (oi := { dst := some 92, op := .move (.tmp 13), type := 37, pos := _, after := _, guard := none }) (v := ?_) rfl (by kernel_rfl) (by kernel_rfl) (by kernel_rfl) (fun _ _ _ h => h) (Or.inl ⟨by rfl, ?_⟩) (by assumption) ?_
            rotate_left 1
            · (intro w hSw; (try dsimp only at hSw); go_simp; try with_reducible rfl)
            try simp only [Act.put, List.setIfInBounds_toArray, List.set_cons_zero, List.set_cons_succ]
            refine wpAnyH_take (i := 2) (oi := { dst := some 93, op := .move (.tmp 17), type := 3, pos := _, after := _, guard := none }) (v := ?_) rfl (by kernel_rfl) (by kernel_rfl) (by kernel_rfl) (fun _ _ _ h => h) (Or.inl ⟨by rfl, ?_⟩) (by assumption) ?_
            rotate_left 1
            · (intro w hSw; (try dsimp only at hSw); go_simp; try with_reducible rfl)
            try simp only [Act.put, List.setIfInBounds_toArray, List.set_cons_zero, List.set_cons_succ]
            refine wpAnyH_take (i := 3) (oi := { dst := some 94, op := .indexAddr 37 (.tmp 92) (.tmp 93), type := 0, pos := _, after := _, guard := none }) (v := ?_) rfl (by kernel_rfl) (by kernel_rfl) (by kernel_rfl) (fun _ _ _ h => h) (Or.inl ⟨by rfl, ?_⟩) (by assumption) ?_
            rotate_left 1
            · (intro w hSw; (try dsimp only at hSw); go_simp; try with_reducible rfl)
            try simp only [Act.put, List.setIfInBounds_toArray, List.set_cons_zero, List.set_cons_succ]
            refine wpAnyH_take (i := 4) (oi := { dst := some 95, op := .load 3 (.tmp 94), type := 3, pos := _, after := _, guard := none }) (v := ?_) rfl (by kernel_rfl) (by kernel_rfl) (by kernel_rfl) (fun _ _ _ h => h) (Or.inl ⟨by rfl, ?_⟩) (by assumption) ?_
            rotate_left 1
            · (intro w hSw; (try dsimp only at hSw); go_simp; try with_reducible rfl)
            try simp only [Act.put, List.setIfInBounds_toArray, List.set_cons_zero, List.set_cons_succ]
            refine wpAnyH_take (i := 5) (oi := { dst := some 96, op := .move (.tmp 11), type := 29, pos := _, after := _, guard := none }) (v := ?_) rfl (by kernel_rfl) (by kernel_rfl) (by kernel_rfl) (fun _ _ _ h => h) (Or.inl ⟨by rfl, ?_⟩) (by assumption) ?_
            rotate_left 1
            · (intro w hSw; (try dsimp only at hSw); go_simp; try with_reducible rfl)
            try simp only [Act.put, List.setIfInBounds_toArray, List.set_cons_zero, List.set_cons_succ]
            refine wpAnyH_take (i := 6) (oi := { dst := some 97, op := .move (.tmp 13), type := 37, pos := _, after := _, guard := none }) (v := ?_) rfl (by kernel_rfl) (by kernel_rfl) (by kernel_rfl) (fun _ _ _ h => h) (Or.inl ⟨by rfl, ?_⟩) (by assumption) ?_
            rotate_left 1
            · (intro w hSw; (try dsimp only at hSw); go_simp; try with_reducible rfl)
            try simp only [Act.put, List.setIfInBounds_toArray, List.set_cons_zero, List.set_cons_succ]
            refine wpAnyH_take (i := 7) (oi := { dst := some 98, op := .move (.tmp 17), type := 3, pos := _, after := _, guard := none }) (v := ?_) rfl (by kernel_rfl) (by kernel_rfl) (by kernel_rfl) (fun _ _ _ h => h) (Or.inl ⟨by rfl, ?_⟩) (by assumption) ?_
            rotate_left 1
            · (intro w hSw; (try dsimp only at hSw); go_simp; try with_reducible rfl)
            try simp only [Act.put, List.setIfInBounds_toArray, List.set_cons_zero, List.set_cons_succ]
            refine wpAnyH_take (i := 8) (oi := { dst := some 99, op := .indexAddr 37 (.tmp 97) (.tmp 98), type := 0, pos := _, after := _, guard := none }) (v := ?_) rfl (by kernel_rfl) (by kernel_rfl) (by kernel_rfl) (fun _ _ _ h => h) (Or.inl ⟨by rfl, ?_⟩) (by assumption) ?_
            rotate_left 1
            · (intro w hSw; (try dsimp only at hSw); go_simp; try with_reducible rfl)
            try simp only [Act.put, List.setIfInBounds_toArray, List.set_cons_zero, List.set_cons_succ]
            refine wpAnyH_take (i := 9) (oi := { dst := some 100, op := .load 3 (.tmp 99), type := 3, pos := _, after := _, guard := none }) (v := ?_) rfl (by kernel_rfl) (by kernel_rfl) (by kernel_rfl) (fun _ _ _ h => h) (Or.inl ⟨by rfl, ?_⟩) (by assumption) ?_
            rotate_left 1
            · (intro w hSw; (try dsimp only at hSw); go_simp; try with_reducible rfl)
            try simp only [Act.put, List.setIfInBounds_toArray, List.set_cons_zero, List.set_cons_succ]
            refine wpAnyH_take (i := 10) (oi := { dst := some 101, op := .indexAddr 29 (.tmp 96) (.tmp 100), type := 0, pos := _, after := _, guard := none }) (v := ?_) rfl (by kernel_rfl) (by kernel_rfl) (by kernel_rfl) (fun _ _ _ h => h) (Or.inl ⟨by rfl, ?_⟩) (by assumption) ?_
            rotate_left 1
            · (intro w hSw; (try dsimp only at hSw); go_simp; try with_reducible rfl)
            try simp only [Act.put, List.setIfInBounds_toArray, List.set_cons_zero, List.set_cons_succ]
            refine wpAnyH_take (i := 11) (oi := { dst := some 102, op := .load 22 (.tmp 101), type := 22, pos := _, after := _, guard := none }) (v := ?_) rfl (by kernel_rfl) (by kernel_rfl) (by kernel_rfl) (fun _ _ _ h => h) (Or.inl ⟨by rfl, ?_⟩) (by assumption) ?_
            rotate_left 1
            · (intro w hSw; (try dsimp only at hSw); go_simp; try with_reducible rfl)
            try simp only [Act.put, List.setIfInBounds_toArray, List.set_cons_zero, List.set_cons_succ]
            refine wpAnyH_take (i := 12) (oi := { dst := some 103, op := .build 39 #[(0, .tmp 95), (1, .tmp 102)], type := 39, pos := _, after := _, guard := none }) (v := ?_) rfl (by kernel_rfl) (by kernel_rfl) (by kernel_rfl) (fun _ _ _ h => h) (Or.inl ⟨by rfl, ?_⟩) (by assumption) ?_
            rotate_left 1
            · (intro w hSw; (try dsimp only at hSw); go_simp; try with_reducible rfl)
            try simp only [Act.put, List.setIfInBounds_toArray, List.set_cons_zero, List.set_cons_succ]
            refine wpAnyH_ready (rs := [13]) (by kernel_rfl) (by simp) ?_
            refine AllReadyH.cons (o := { dst := some 104, op := .buildSlice 36 1 #[(0, .tmp 103)], type := 36, pos := _, after := _, guard := none }) rfl (fun K hK => ?_) AllReadyH.nil
            go_simp
            clear hHeld
            refine hK.out _ _ ?_ (fun hHeld => ?_)
            · ((try dsimp only); exact KK.out _ (HZ.out.alloc HZ.out.size _))
            clear hK K
            refine wpAnyH_ready (rs := [14]) (by kernel_rfl) (by simp) ?_
            refine AllReadyH.cons (o := { dst := some 105, op := .call { callee := .builtin .append, args := #[.tmp 91, .tmp 104], argTypes := #[36, 36] }, type := 36, pos := _, after := _, guard := none }) rfl (fun K hK => ?_) AllReadyH.nil
            refine Kd.R_append_step kPH (w0 := w3) w3.heap.size (by rfl) (.tmp 91) (.tmp 104) 36 39 (.agg #[.int .i64 0, .slice none 0 0]) 32 rfl Try.underlying36 info_part rfl (by decide) (by decide) u15 (hlist p hh i) ((v0 : Int), (A6, m6, c6)) [.int .i64 (v0 : Int), .slice A6 m6 c6] (fun _ => True) (fun _ => False) rfl rfl (kPH_M ((v0 : Int), (A6, m6, c6))) (fun _ hk => hk.elim) (fun _ _ => trivial) HDz.out HBz.out HBz.out.size (by rw [hlist_len]; omega) ?_
            intro v6 w6 h6 hb6 hg6 _
            rw [HLP.out] at h6
            have HD6 := Lib.hid h6
            have HB6 := Lib.hid hb6
            have HU6 := Lib.hid (Kd.R_over HUz.out HDz.out (by decide) hg6)
            clear h6 hb6 hg6
            clear hHeld
            refine hK.out _ _ ?_ (fun hHeld => ?_)
            · ((try dsimp only); exact HK6.out _ HU6.out HB6.out)
            clear hK K
            refine wpAnyH_take (i := 15) (oi := { dst := some 15, op := .assign (.tmp 105), type := 36, pos := _, after := _, guard := none }) (v := ?_) rfl (by kernel_rfl) (by kernel_rfl) (by kernel_rfl) (fun _ _ _ h => h) (Or.inl ⟨by rfl, ?_⟩) (by assumption) ?_
            rotate_left 1
            · (intro w hSw; (try dsimp only at hSw); go_simp; try with_reducible rfl)
            try simp only [Act.put, List.setIfInBounds_toArray, List.set_cons_zero, List.set_cons_succ]
            refine wpAnyH_done (by kernel_rfl) ?_ _
            refine NoPanic.normal ?_
            clear HUz HDz HBz
            clear hHeld HK6 KK HZ
            have hR6 := (Kd.R_reads' HU6.out).2.2
            rw [nI_len, ← HLL.out] at hR6
            have HR1 := Lib.hid (show ReadsInt w6 .i64 (some ad5) l (nI lf) from Kd.reads_of_C (d := (0 : Int)) hR6)
            obtain ⟨i0, hinf, hzz⟩ := Option.map_eq_some_iff.1 Par.info_int
            simp only [Prod.mk.injEq] at hzz
            have k1 := cut_to (P := Try.prog) 37 3 .i64 Try.underlying37 hinf (some ad5) l c5 (t : Int) (by omega) (by omega) HCL.out
            have k2 := cut_from (P := Try.prog) 37 3 .i64 Try.underlying37 hinf 1 hzz.2.1 (some ad5) l c5 ((t : Int) + 1) (by omega) (by omega)
            have ek : ((t : Int) + 1).toNat = t + 1 := by omega
            simp only [Int.toNat_natCast, ek, Nat.mul_one] at k1 k2
            obtain ⟨A8, hA8⟩ : ∃ A8, A8 = if c5 = t + 1 then some ad5 else (some ad5).map (·.add (t + 1)) := ⟨_, rfl⟩
            rw [← hA8] at k2
            have wr1 : IntKind.i64.wrap ((t : Int) + 1) = (t : Int) + 1 := IntWalk.i64_in _ (by have := HLN.out; omega)
            have HRA := Lib.hid (fun W (hB : Below w6.heap.size w6 W) => (Kd.C_of_reads (d := (0 : Int)) ((HR1.out.below hB).take_ t (by omega)) : (Kd.int .i64).C W (some ad5) t ((nI lf).take t)))
            have HRB := Lib.hid (fun W (hB : Below w6.heap.size w6 W) => (Kd.C_of_reads (d := (0 : Int)) (show ReadsInt W .i64 A8 (l - (t + 1)) ((nI lf).drop (t + 1)) by rw [hA8]; exact (HR1.out.below hB).drop_ (t + 1) (by omega) HCL.out) : (Kd.int .i64).C W A8 (l - (t + 1)) ((nI lf).drop (t + 1))))
            obtain ⟨xs, hxs⟩ : ∃ xs, xs = (nI lf).take t := ⟨_, rfl⟩
            obtain ⟨ys, hys⟩ : ∃ ys, ys = (nI lf).drop (t + 1) := ⟨_, rfl⟩
            rw [← hxs] at HRA
            rw [← hys] at HRB
            have HXL := Lib.hid (show xs.length = t by rw [hxs, List.length_take, nI_len, ← HLL.out]; omega)
            have HXY := Lib.hid (show xs ++ ys = nI (lf.eraseIdx t) by rw [hxs, hys, nI_erase])
            have HL12 := Lib.hid (show t ≤ 12 ∧ l - (t + 1) ≤ 12 by have := HLN.out; omega)
            have KS := Lib.hid (fun W => (⟨k1 W, k2 W⟩ : (Instr.slice 37 (.slice (some ad5) l c5) none (some (.int .i64 t)) none).run Try.prog W = .ok (.slice (some ad5) t c5) W ∧ (Instr.slice 37 (.slice (some ad5) l c5) (some (.int .i64 ((t : Int) + 1))) none none).run Try.prog W = .ok (.slice A8 (l - (t + 1)) (c5 - (t + 1))) W))
            clear hR6 hinf hzz k1 k2 ek hA8 hxs hys HU6 HR1
            go_upto_region 20 with (fail)
            have HZ := Lib.hid (show Below w6.heap.size w6 w6.drew from (Below.refl _ _).drew)
            refine wp_region_noPanic ?_
            refine wp_region_held_drew (S := (fun W => (Instr.slice 37 (.slice (some ad5) l c5) none (some (.int .i64 t)) none).run Try.prog W = .ok (.slice (some ad5) t c5) W ∧ (Instr.slice 37 (.slice (some ad5) l c5) (some (.int .i64 ((t : Int) + 1))) none none).run Try.prog W = .ok (.slice A8 (l - (t + 1)) (c5 - (t + 1))) W)) (by kernel_rfl) ?_ (fun hHeld => ?_)
            · ((try dsimp only); exact KS.out _)
            refine wpAnyH_take (i := 1) (oi := { dst := some 107, op := .move (.tmp 13), type := 37, pos := _, after := _, guard := none }) (v := ?_) rfl (by kernel_rfl) (by kernel_rfl) (by kernel_rfl) (fun _ _ _ h => h) (Or.inl ⟨by rfl, ?_⟩) (by assumption) ?_
            rotate_left 1
            · (intro w hSw; (try dsimp only at hSw); go_simp; try with_reducible rfl)
            try simp only [Act.put, List.setIfInBounds_toArray, List.set_cons_zero, List.set_cons_succ]
            refine wpAnyH_take (i := 2) (oi := { dst := some 108, op := .move (.tmp 17), type := 3, pos := _, after := _, guard := none }) (v := ?_) rfl (by kernel_rfl) (by kernel_rfl) (by kernel_rfl) (fun _ _ _ h => h) (Or.inl ⟨by rfl, ?_⟩) (by assumption) ?_
            rotate_left 1
            · (intro w hSw; (try dsimp only at hSw); go_simp; try with_reducible rfl)
            try simp only [Act.put, List.setIfInBounds_toArray, List.set_cons_zero, List.set_cons_succ]
            refine wpAnyH_take (i := 3) (oi := { dst := some 109, op := .slice 37 (.tmp 107) none (some (.tmp 108)) none, type := 37, pos := _, after := _, guard := none }) (v := ?_) rfl (by kernel_rfl) (by kernel_rfl) (by kernel_rfl) (fun _ _ _ h => h) (Or.inl ⟨by rfl, ?_⟩) (by assumption) ?_
            rotate_left 1
            · (intro w hSw; (try dsimp only at hSw); go_simp; try with_reducible rfl)
            try simp only [Act.put, List.setIfInBounds_toArray, List.set_cons_zero, List.set_cons_succ]
            refine wpAnyH_take (i := 5) (oi := { dst := some 111, op := .move (.tmp 13), type := 37, pos := _, after := _, guard := none }) (v := ?_) rfl (by kernel_rfl) (by kernel_rfl) (by kernel_rfl) (fun _ _ _ h => h) (Or.inl ⟨by rfl, ?_⟩) (by assumption) ?_
            rotate_left 1
            · (intro w hSw; (try dsimp only at hSw); go_simp; try with_reducible rfl)
            try simp only [Act.put, List.setIfInBounds_toArray, List.set_cons_zero, List.set_cons_succ]
            refine wpAnyH_take (i := 6) (oi := { dst := some 112, op := .move (.tmp 17), type := 3, pos := _, after := _, guard := none }) (v := ?_) rfl (by kernel_rfl) (by kernel_rfl) (by kernel_rfl) (fun _ _ _ h => h) (Or.inl ⟨by rfl, ?_⟩) (by assumption) ?_
            rotate_left 1
            · (intro w hSw; (try dsimp only at hSw); go_simp; try with_reducible rfl)
            try simp only [Act.put, List.setIfInBounds_toArray, List.set_cons_zero, List.set_cons_succ]
            refine wpAnyH_take (i := 7) (oi := { dst := some 113, op := .binOp .add 3 (.tmp 112) (.const (.int .i64 1)) 3, type := 3, pos := _, after := _, guard := none }) (v := ?_) rfl (by kernel_rfl) (by kernel_rfl) (by kernel_rfl) (fun _ _ _ h => h) (Or.inl ⟨by rfl, ?_⟩) (by assumption) ?_
            rotate_left 1
            · (intro w hSw; (try dsimp only at hSw); go_simp; try with_reducible rfl)
            try simp only [Act.put, List.setIfInBounds_toArray, List.set_cons_zero, List.set_cons_succ]
            refine wpAnyH_take (i := 8) (oi := { dst := some 114, op := .slice 37 (.tmp 111) (some (.tmp 113)) none none, type := 37, pos := _, after := _, guard := none }) (v := ?_) rfl (by kernel_rfl) (by kernel_rfl) (by kernel_rfl) (fun _ _ _ h => h) (Or.inl ⟨by rfl, ?_⟩) (by assumption) ?_
            rotate_left 1
            · (intro w hSw; (try dsimp only at hSw); go_simp; try with_reducible rfl)
            try simp only [Act.put, List.setIfInBounds_toArray, List.set_cons_zero, List.set_cons_succ]
            refine wpAnyH_ready (rs := [0]) (by kernel_rfl) (by simp) ?_
            refine AllReadyH.cons (o := { dst := some 106, op := .buildSlice 37 0 #[], type := 37, pos := _, after := _, guard := none }) rfl (fun K hK => ?_) AllReadyH.nil
            go_simp
            have HE := Lib.hid (lit0i (w := w6) (X := w6.drew) HZ.out)
            replace HZ := Lib.hid (HZ.out.alloc HZ.out.size (.cells #[] 3))
            clear hHeld
            refine hK.out _ _ ?_ (fun hHeld => ?_)
            · ((try dsimp only); exact KS.out _)
            clear hK K
            refine wpAnyH_ready (rs := [4]) (by kernel_rfl) (by simp) ?_
            refine AllReadyH.cons (o := { dst := some 110, op := .call { callee := .builtin .append, args := #[.tmp 106, .tmp 109], argTypes := #[37, 37] }, type := 37, pos := _, after := _, guard := none }) rfl (fun K hK => ?_) AllReadyH.nil
            refine Kd.R_append_rows_step (Kd.int .i64) (w0 := w6) w6.heap.size (by rfl) (.tmp 106) (.tmp 109) 37 3 (.int .i64 0) 8 rfl Try.underlying37 Par.info_int rfl (by decide) (by decide) _ [] xs _ _ _ (fun _ => True) (fun _ => False) rfl rfl HE.out (HRA.out _ HZ.out) (fun _ _ h => h) (fun _ h => h.elim) (fun _ _ => trivial) HZ.out HZ.out.size (by have := HL12.out; simp; omega) ?_
            intro v2 x2 ho hb _ _
            rw [List.nil_append] at ho
            obtain ⟨A9, c9, e9⟩ := Kd.R_slice ho
            rw [HXL.out] at e9
            subst e9
            have HR9 := Lib.hid ho
            replace HZ := Lib.hid hb
            clear ho hb HE
            clear hHeld
            refine hK.out _ _ ?_ (fun hHeld => ?_)
            · ((try dsimp only); exact KS.out _)
            clear hK K
            refine wpAnyH_ready (rs := [9]) (by kernel_rfl) (by simp) ?_
            refine AllReadyH.cons (o := { dst := some 115, op := .call { callee := .builtin .append, args := #[.tmp 110, .tmp 114], argTypes := #[37, 37] }, type := 37, pos := _, after := _, guard := none }) rfl (fun K hK => ?_) AllReadyH.nil
            refine Kd.R_append_rows_step (Kd.int .i64) (w0 := w6) w6.heap.size (by rfl) (.tmp 110) (.tmp 114) 37 3 (.int .i64 0) 8 rfl Try.underlying37 Par.info_int rfl (by decide) (by decide) (.slice A9 t c9) xs ys _ _ _ (fun _ => True) (fun _ => False) rfl rfl HR9.out (HRB.out _ HZ.out) (fun _ _ h => h) (fun _ h => h.elim) (fun _ _ => trivial) HZ.out HZ.out.size (by have := HXL.out; have := HL12.out; omega) ?_
            intro v3 x3 ho hb _ _
            rw [HXY.out] at ho
            have HRX := Lib.hid ho
            replace HZ := Lib.hid hb
            clear ho hb HR9
            clear hHeld
            refine hK.out _ _ ?_ (fun hHeld => ?_)
            · ((try dsimp only); exact KS.out _)
            clear hK K
            refine wpAnyH_take (i := 10) (oi := { dst := some 13, op := .assign (.tmp 115), type := 37, pos := _, after := _, guard := none }) (v := ?_) rfl (by kernel_rfl) (by kernel_rfl) (by kernel_rfl) (fun _ _ _ h => h) (Or.inl ⟨by rfl, ?_⟩) (by assumption) ?_
            rotate_left 1
            · (intro w hSw; (try dsimp only at hSw); go_simp; try with_reducible rfl)
            try simp only [Act.put, List.setIfInBounds_toArray, List.set_cons_zero, List.set_cons_succ]
            refine wpAnyH_done (by kernel_rfl) ?_ _
            refine NoPanic.normal ?_
            go_wp2
            go_roundw
            case rel => exact ⟨i + 1, _, _, _, _, rfl, rfl, by omega, by go_num, HPS, Lib.hid (Kd.R_lower HRX.out HB6.out.size), Lib.hid (Kd.R_below HD6.out HZ.out), Lib.hid (HB6.out.trans (HZ.out.mono HB6.out.size))⟩
            case measure => simp [intOf]; omega
        · obtain rfl : k = i := by omega
          obtain ⟨A9, c9, rfl⟩ := Kd.R_slice HD.out
          obtain ⟨_, hc9, hC9⟩ := Kd.R_reads' HD.out
          rw [hlist_len] at hc9 hC9 ⊢
          have hkk := HKK.out
          have DC := Lib.hid (show Calls Try.prog 13 #[v, .slice A9 k c9] wr fun e w' => ∃ A' c', e = .returned (.tuple #[.slice A' L c', .int .i64 0]) ∧ (Kd.int .u8).C w' A' L b ∧ Below wr.heap.size wr w' by
            have hpa := pa_ofH (q := fun j => (((p j : Nat) : Int), hh (p j))) (x := fun j => shardL (ptN n k ((((p j : Nat) : Int))).toNat) a sz b) hC9 (fun j hj => by
              obtain ⟨ad, _, _, h2, h3, h4⟩ := HHS.out (p j) (HPK.out.pk j hj).1
              rw [Int.toNat_natCast]
              refine ⟨by rw [shardL_len, h2, hkk.2.1], h3, ?_⟩
              rw [hkk.2.1]
              exact Kd.C_below h4 HB.out)
            have hok : okTo n (fun j => ((p j : Nat) : Int)) (fun _ => a * sz) k := fun j hj => by
              have h1 := (HPK.out.pk j hj).1
              refine ⟨by show (0 : Int) ≤ ((p j : Nat) : Int); omega, by show ((p j : Nat) : Int) < n; omega, Nat.mul_pos (by omega) (by omega), rfl, fun j' hj' e => ?_⟩
              have e2 : ((p j' : Nat) : Int) = ((p j : Nat) : Int) := e
              exact HPK.out.ne j j' hj hj' (by omega)
            refine (decode_good v n k k c9 a sz L A9 (fun j => ((p j : Nat) : Int)) _ _ (fun _ => a * sz) (msgB b sz) wr (HV3.out.below HB.out) (by omega) (by omega) (by omega) hkk.2.1 hpa (fun j => shardL_len _ _ _ _) (by omega) hc9 hok (Nat.le_refl _) (Nat.mul_comm _ _) (by omega) (by
              have h1 : 2 * sz ≤ s * sz := Nat.mul_le_mul_right sz (by rw [hkk.2.2.1]; exact Nat.mul_le_mul (show 2 ≤ a + 1 by omega) (show 1 ≤ a by omega))
              have h2 := hkk.2.2.2.1
              have h3 := hkk.2.2.2.2.2
              rw [h2] at h3
              omega) (by rw [← hkk.2.2.1]; exact hkk.2.2.2.1) (fun q i => getD_byt (shardL_byt _ _ _ _ (ptN_lt n k _)) i) (fun u q => getD_byt HBB.out _) (shards_msg HBB.out)).mono ?_
            rintro e w' ⟨A', c', rfl, hr, hbw⟩
            refine ⟨A', c', rfl, ?_, hbw⟩
            have h1 := (Kd.R_reads' hr).2.2
            rw [msg_line HBL.out, HBL.out] at h1
            exact h1)
          have HBw := Lib.hid (HB1.out.trans (HB.out.mono HB1.out.size))
          clear hc9 hC9 HU HD HPK HB HB1 hkk
          have HB1 := HBw
          go_upto_region 22 with (go_at_call 13; (with_reducible refine DC.out.mono ?_); rintro e w5 ⟨A7, c7, rfl, hr, hb⟩; have HC7 := Lib.hid hr; have HBn := Lib.hid (HB1.out.trans (hb.mono HB1.out.size)); clear HB1 HBw hb hr; have HB1 := HBn; clear HBn)
          have K5 := mb_str (c := c7) HC7.out w5 (Below.refl _ _)
          have K6 := mb_str (c := cb) (HR.out w5 HB1.out) w5 (Below.refl _ _)
          go_wp2_with (go_at_call 8; (with_reducible refine (AW.out _).mono ?_); rintro e w9 ⟨rfl, hb⟩; have HB9 := Lib.hid (HB1.out.trans (hb.mono HB1.out.size)); clear hb)
          go_ret
          exact ⟨rfl, HB9.out⟩
end Go.Proofs.Ytmefhhkfakmhgaa.Hl
namespace Go.Proofs.Ytmefhhkfakmhgaa.Hl
open Go Go.RowKit Go.Proofs.Ytmefhhkfakmhgaa.Gi Go.Proofs.Ytmefhhkfakmhgaa.Opn Go.Proofs.Ytmefhhkfakmhgaa.Mem Go.Proofs.Ytmefhhkfakmhgaa.Bits Go.Proofs.Ytmefhhkfakmhgaa.Rws Go.Proofs.Ytmefhhkfakmhgaa.Par Go.Proofs.YtmefhhkfakmhgaaW.PrintWords
set_option linter.unusedVariables false
theorem mb_u8 {a : Int} (h : (Lit.int .u8 a).wf = true) : 0 ≤ a ∧ a < 256 := by
  simp [Lit.wf, IntKind.min, IntKind.max, IntKind.signed, IntKind.bits] at h; omega
theorem opens_bytes : Opens (Kd.slice 5 (Kd.int .u8)) (fun l => l.length ≤ 9223372036854775807 ∧ ∀ a ∈ l, (Lit.int .u8 a).wf = true) 22 := opens_slice Try.underlying22 (by kernel_rfl) (opens_int Try.underlying5)
theorem mb_row (n : Int) (_ : (Lit.int .i64 n).wf = true) (k : Int) (_ : (Lit.int .i64 k).wf = true)
    {w : World} (A : Option Addr) (c : Nat) (b : List Int) (hC : (Kd.int .u8).C w A b.length b) (hc : b.length ≤ c) (hok : b.length ≤ 9223372036854775807 ∧ ∀ a ∈ b, (Lit.int .u8 a).wf = true)
    (A2 : Option Addr) (c2 : Nat) (ps : List Int) (hC2 : (Kd.int .u8).C w A2 ps.length ps) (hc2 : ps.length ≤ c2) (hok2 : ps.length ≤ 9223372036854775807 ∧ ∀ a ∈ ps, (Lit.int .u8 a).wf = true) (_ : World) :
    Calls Try.prog 5 #[.int .i64 n, .int .i64 k, .slice A b.length c, .slice A2 ps.length c2] w fun e w' => e = .returned (.bool true) ∧ Below w.heap.size w w' := by
  by_cases hr : 2 ≤ k ∧ k ≤ 4 ∧ 2 * k - 1 ≤ n ∧ n ≤ 12
  · obtain ⟨r1, r2, r3, r4⟩ := hr
    obtain ⟨k, rfl⟩ := Int.eq_ofNat_of_zero_le (show 0 ≤ k by omega)
    obtain ⟨n, rfl⟩ := Int.eq_ofNat_of_zero_le (show 0 ≤ n by omega)
    obtain ⟨s, hs⟩ : ∃ s, s = k * (k - 1) := ⟨_, rfl⟩
    by_cases hL : 200 < b.length ∨ b.length = 0 ∨ b.length % s ≠ 0
    · exact mb_skip n k s A A2 b.length c ps.length c2 w (by omega) (by omega) (by omega) (by omega) hs.symm hL
    obtain ⟨sz, hsz⟩ : ∃ sz, sz = b.length / s := ⟨_, rfl⟩
    have h0 : b.length % s = 0 := by omega
    have hLs : b.length = s * sz := by
      have := Nat.div_add_mod b.length s
      rw [h0, Nat.add_zero, ← hsz] at this
      exact this.symm
    have h1 : 1 ≤ sz := by
      rcases Nat.eq_zero_or_pos sz with e | e
      · rw [e, Nat.mul_zero] at hLs; omega
      · exact e
    exact mb_main n k s sz b.length ps.length c c2 A A2 b ps w (by omega) (by omega) (by omega) (by omega) hs.symm hC hc hLs h1 (by omega) (fun x hx => mb_u8 (hok.2 x hx)) hC2 (fun x hx => mb_u8 (hok2.2 x hx))
  · exact mb_no n k A A2 _ c _ c2 w hr
end Go.Proofs.Ytmefhhkfakmhgaa.Hl
