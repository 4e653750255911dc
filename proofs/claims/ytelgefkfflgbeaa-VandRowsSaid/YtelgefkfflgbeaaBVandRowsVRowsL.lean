/- The statement VandRows, walked by hand. -/
import Derived.Test.YtelgefkfflgbeaaProg
import Derived.Below
import Derived.Deep.Draws
import Derived.Deep.AppendLies
import Derived.Maps.AppendAt
import Derived.OwnWalk
import Derived.Laws.BytesArg
import Derived.Laws.MakeOwn
import Derived.Laws.OwnMore
import Derived.Deep.OwnRows
import Derived.Tactics
import Derived.Lib.ConvBytes
import Derived.Laws.Slices
import Derived.WalkKit
import Derived.KernelRfl
import Derived.RowKit3
import Derived.Deep.LoopGhost
import Derived.Deep.QuietTactic
import Derived.BigQuiet
import Derived.WideLaws
import Derived.Deep.DeepCutAuto
import Derived.Deep.CutBlock
import Derived.Deep.RegionHeld3
import Derived.Laws.Rows
import Derived.Lib.AppendStr
import Derived.ArgAppend
import Derived.Laws.IdiomCopy
import Derived.OrdersHeld
import Derived.Laws.BitsLemmas
import Derived.RowKit
import Derived.Lib.Hide
import Derived.WalkSpells
import Derived.StillTailTactics
import Derived.Outline
import Derived.Test.YtelgefkfflgbeaaBVandRowsVRows
namespace Go.Proofs.Ytelgefkfflgbeaa.VRows
open Go Go.RowKit Go.Proofs.Ytelgefkfflgbeaa.PVandRows Go.Proofs.Ytelgefkfflgbeaa.BVandRows Go.Proofs.Ytelgefkfflgbeaa.Gf Go.Proofs.Ytelgefkfflgbeaa.Bits Go.Proofs.Ytelgefkfflgbeaa.Mem Go.Proofs.Ytelgefkfflgbeaa.VPts Go.Proofs.Ytelgefkfflgbeaa.Mat Go.Proofs.YtelgefkfflgbeaaW.PrintWords Go.Proofs.YtelgefkfflgbeaaW.PrintLast
set_option linter.unusedVariables false

def Dup (f : Nat → Nat) (m : Nat) : Prop := ∃ k, k < m ∧ hit f k (f k) = true
theorem hit_iff (f : Nat → Nat) (y : Nat) : ∀ k, hit f k y = true ↔ ∃ q, q < k ∧ f q = y
  | 0 => by simp [hit]
  | k + 1 => by
    rw [hit_succ, Bool.or_eq_true, hit_iff f y k]
    constructor
    · rintro (⟨q, hq, e⟩ | e)
      · exact ⟨q, by omega, e⟩
      · exact ⟨k, by omega, by simpa using e⟩
    · rintro ⟨q, hq, e⟩
      by_cases h : q < k
      · exact .inl ⟨q, h, e⟩
      · obtain rfl : q = k := by omega
        exact .inr (by simpa using e)
theorem least (P : Nat → Prop) : ∀ m, (∃ k, k < m ∧ P k) → ∃ k, k < m ∧ P k ∧ ∀ j, j < k → ¬ P j
  | 0, ⟨k, hk, _⟩ => by omega
  | m + 1, ⟨k, hk, h⟩ => by
    by_cases hm : ∃ k, k < m ∧ P k
    · obtain ⟨k, hk, h, hl⟩ := least P m hm
      exact ⟨k, by omega, h, hl⟩
    · have : k = m := by
        rcases Nat.lt_or_ge k m with h' | h'
        · exact absurd ⟨k, h', h⟩ hm
        · omega
      subst this
      exact ⟨k, by omega, h, fun j hj hp => hm ⟨j, hj, hp⟩⟩
theorem rd_f {ps : List Int} {f : Nat → Nat} (hfp : ∀ i, ps.getD i 0 = ((f i : Nat) : Int)) (i : Nat) : rd ps (i : Int) = ((f i : Nat) : Int) := by rw [← hfp i]; simp [rd]
open Classical in
theorem twice_f (ps : List Int) (f : Nat → Nat) (hfp : ∀ i, ps.getD i 0 = ((f i : Nat) : Int)) (hl : ps.length ≤ 100) : PVandPoints.coldframeref05_Twice.f 90000 ps = some (decide (Dup f ps.length)) := by
  by_cases h : Dup f ps.length
  · rw [decide_eq_true h]
    obtain ⟨k, hk, hh, hlo⟩ := least _ _ h
    obtain ⟨q, hq, e⟩ := (hit_iff f (f k) k).1 hh
    refine BVandPoints.twice_yes ps (by omega) k hk (fun i hi q hq e => ?_) ⟨q, hq, ?_⟩ 90000 (Nat.le_refl _)
    · rw [rd_f hfp, rd_f hfp] at e
      exact hlo i hi ((hit_iff f (f i) i).2 ⟨q, hq, by omega⟩)
    · rw [rd_f hfp, rd_f hfp, e]
  · rw [decide_eq_false h]
    refine BVandPoints.twice_no ps (by omega) (fun i hi q hq e => ?_) 90000 (Nat.le_refl _)
    rw [rd_f hfp, rd_f hfp] at e
    exact h ⟨i, hi, (hit_iff f (f i) i).2 ⟨q, hq, by omega⟩⟩
theorem twice_t (ps : List Int) (f : Nat → Nat) (hfp : ∀ i, ps.getD i 0 = ((f i : Nat) : Int)) (hl : ps.length ≤ 100) (h : Dup f ps.length) : PVandPoints.coldframeref05_Twice.f 90000 ps = some true := by rw [twice_f ps f hfp hl]; simp [h]
theorem twice_n (ps : List Int) (f : Nat → Nat) (hfp : ∀ i, ps.getD i 0 = ((f i : Nat) : Int)) (hl : ps.length ≤ 100) (h : ¬ Dup f ps.length) : PVandPoints.coldframeref05_Twice.f 90000 ps = some false := by rw [twice_f ps f hfp hl]; simp [h]
theorem cell_at {w W : World} {ad : Addr} {m : Nat} {ps : List Int} {f : Nat → Nat} (hr : ReadsInt w .u8 (some ad) m ps) (hB : Below w.heap.size w W) (hfp : ∀ i, ps.getD i 0 = ((f i : Nat) : Int)) (k : Nat) (hk : k < m) : W.cell? (ad.add k) = some (.int .u8 (f k)) := by
  rw [← hfp k]
  exact reads_at (hr.below hB) k hk
theorem mrow (v : Value) (f : Nat → Nat) (n m i : Nat) (W : World) (h : IsMat W v m n (flat (rowsL f n m))) (hi : i < m) :
    Calls Try.prog 19 #[v, .int .i64 i] W fun e w' => ∃ A c, e = .returned (.slice A n c) ∧ Kd.R (Kd.int .u8) 5 w' W.heap.size (fun _ => True) (.slice A n c) (pows (f i) n) ∧ Below W.heap.size W w' := by
  have hpos : 0 < n := by obtain ⟨_, _, _, _, h⟩ := h; exact h.c0
  refine (row_in v m n _ i W h hi).mono ?_
  rintro e w' ⟨u, rfl, hu, hB⟩
  have e1 : rowOf n (flat (rowsL f n m)) i = pows (f i) n := by
    rw [rowOf_flat n _ (rowsL_even f n m) i (by rw [rowsL_len]; exact hi), rowsL_get f n m i hi]
  rw [e1] at hu
  obtain ⟨g, cap, rfl, _, _⟩ := hu.form hpos
  refine ⟨_, _, rfl, ?_, hB⟩
  refine Kd.R_of_own (enc := Value.int .u8) ?_ (fun _ _ => trivial)
  rw [pows_len]; exact hu
theorem matrix_no (A : Option Addr) (c0 : Nat) (ps : List Int) (n : Int) (w W : World) (hB : Below w.heap.size w W) (hr : ReadsInt w .u8 A ps.length ps) (hb : Bytes ps) (hm : ps.length ≤ 100)
    (h : ¬ (1 ≤ ps.length ∧ ps.length ≤ 64 ∧ 1 ≤ n ∧ n ≤ 64) ∨ Dup (fun i => (ps.getD i 0).toNat) ps.length) :
    Calls Try.prog 17 #[.slice A ps.length c0, .int .i64 n] W fun e w' => e = .returned (.tuple #[.pointer none, .int .i64 1]) ∧ Below W.heap.size W w' := by
  by_cases hn : 64 < n
  · exact matrix_wide A c0 ps.length n W hn
  · refine (matrix_walk A c0 ps n W (hr.below hB) hb hm (by omega)).mono ?_
    rintro e w' (⟨_, rfl, hb⟩ | ⟨h1, h2, _⟩)
    · exact ⟨rfl, hb⟩
    · rcases h with h | ⟨k, hk, hh⟩
      · exact absurd h2 h
      · rw [h1 k hk] at hh; cases hh
theorem matrix_yes (A : Option Addr) (c0 : Nat) (ps : List Int) (n : Int) (w W : World) (hB : Below w.heap.size w W) (hr : ReadsInt w .u8 A ps.length ps) (hb : Bytes ps) (hm : ps.length ≤ 100)
    (h : (1 ≤ ps.length ∧ ps.length ≤ 64 ∧ 1 ≤ n ∧ n ≤ 64)) (hd : ¬ Dup (fun i => (ps.getD i 0).toNat) ps.length) :
    Calls Try.prog 17 #[.slice A ps.length c0, .int .i64 n] W fun e w' => ∃ b s cap, e = .returned (.tuple #[.pointer (some ⟨b, 0, none⟩), .int .i64 0]) ∧ MatIn w' b s ps.length n.toNat cap (flat (rowsL (fun i => (ps.getD i 0).toNat) n.toNat ps.length)) ∧ Below W.heap.size W w' := by
  refine (matrix_walk A c0 ps n W (hr.below hB) hb hm (by omega)).mono ?_
  rintro e w' (⟨h1 | h1, _⟩ | ⟨_, _, h1⟩)
  · exact absurd h1 hd
  · exact absurd h h1
  · exact h1
theorem twice_calls (A : Option Addr) (c0 : Nat) (ps : List Int) (t : Bool) (w W : World) (hB : Below w.heap.size w W) (hr : ReadsInt w .u8 A ps.length ps) (hl : ps.length ≤ c0) (hf : PVandPoints.coldframeref05_Twice.f 90000 ps = some t) :
    Calls Try.prog 13 #[.slice A ps.length c0] W fun e w' => e = .returned (.bool t) ∧ Below W.heap.size W w' := by
  refine (PVandPoints.coldframeref05_Twice.calls 90000 A c0 ps t W (C_of_ints (hr.below hB)) hl hf).mono ?_
  rintro e w' ⟨rfl, h⟩
  exact ⟨rfl, h.below⟩
theorem isMatV {w : World} {b s r c cap : Nat} {xs : List Int} (h : MatIn w b s r c cap xs) : IsMat w (.pointer (some ⟨b, 0, none⟩)) r c xs := ⟨b, s, cap, rfl, h⟩
theorem sizeV (v : Value) (r c : Nat) (xs : List Int) (w : World) (h : IsMat w v r c xs) :
    Calls Try.prog 18 #[v] w fun e w' => e = .returned (.tuple #[.int .i64 r, .int .i64 c]) ∧ Below w.heap.size w w' := by
  refine (size_any v r c xs w h).mono ?_
  rintro e w' ⟨rfl, n, rfl⟩
  exact ⟨rfl, pw_below_drewN (Below.refl _ _) n⟩

section
variable (A : Option Addr) (c0 : Nat) (ps : List Int) (x : Nat) (n : Int) (w : World)
set_option maxRecDepth 100000 in
theorem vr_many (m : Nat) (h : 100 < m) :
    Calls Try.prog 5 #[.slice A m c0, .int .u8 x, .int .i64 n] w fun e w' => e = .returned (.bool true) ∧ Below w.heap.size w w' := by
  have HB := Lib.hid (Below.refl w.heap.size w)
  have h1 : (100 : Int) < (m : Int) := by omega
  go_enter Try.func5, Try.ntmps5
  go_wp2_with ((go_at_call 8; (with_reducible refine (awake_calls _).mono ?_); rintro e w1 ⟨rfl, hb⟩; have HBn := Lib.hid (HB.out.trans (hb.mono HB.out.size)); clear HB hb; have HB := HBn; clear HBn))
  go_ret
  exact ⟨rfl, HB.out⟩
set_option maxRecDepth 100000 in
theorem vr_wide (m : Nat) (h : m ≤ 100) (hn : 100 < n) :
    Calls Try.prog 5 #[.slice A m c0, .int .u8 x, .int .i64 n] w fun e w' => e = .returned (.bool true) ∧ Below w.heap.size w w' := by
  have HB := Lib.hid (Below.refl w.heap.size w)
  have h1 : ¬ (100 : Int) < (m : Int) := by omega
  go_enter Try.func5, Try.ntmps5
  go_wp2_with ((go_at_call 8; (with_reducible refine (awake_calls _).mono ?_); rintro e w1 ⟨rfl, hb⟩; have HBn := Lib.hid (HB.out.trans (hb.mono HB.out.size)); clear HB hb; have HB := HBn; clear HBn))
  go_ret
  exact ⟨rfl, HB.out⟩
set_option maxRecDepth 100000 in
set_option maxHeartbeats 2000000 in
theorem vr_no (hx : x < 256) (hr : ReadsInt w .u8 A ps.length ps) (hb : Bytes ps) (hl : ps.length ≤ c0) (hm : ps.length ≤ 100) (hn : n ≤ 100)
    (hh : n < 1 ∨ (¬ n < 1 ∧ 64 < n) ∨ (¬ n < 1 ∧ ¬ 64 < n ∧ ps.length < 1) ∨ (¬ n < 1 ∧ ¬ 64 < n ∧ ¬ ps.length < 1 ∧ 64 < ps.length) ∨ (¬ n < 1 ∧ ¬ 64 < n ∧ ¬ ps.length < 1 ∧ ¬ 64 < ps.length ∧ Dup (fun i => (ps.getD i 0).toNat) ps.length)) :
    Calls Try.prog 5 #[.slice A ps.length c0, .int .u8 x, .int .i64 n] w fun e w' => e = .returned (.bool true) ∧ Below w.heap.size w w' := by
  have HB := Lib.hid (Below.refl w.heap.size w)
  have hno : ¬ (1 ≤ ps.length ∧ ps.length ≤ 64 ∧ 1 ≤ n ∧ n ≤ 64) ∨ Dup (fun i => (ps.getD i 0).toNat) ps.length := by
    rcases hh with h | h | h | h | h
    · exact .inl (by omega)
    · exact .inl (by omega)
    · exact .inl (by omega)
    · exact .inl (by omega)
    · exact .inr h.2.2.2.2
  have MN := Lib.hid (fun W hB => matrix_no A c0 ps n w W hB hr hb hm hno)
  have hfp : ∀ i, ps.getD i 0 = ((((fun i => (ps.getD i 0).toNat) : Nat → Nat) i : Nat) : Int) := fun i => by have := hb.getD i; show _ = (((ps.getD i 0).toNat : Nat) : Int); omega
  have TW := Lib.hid (fun W hB (hd : Dup (fun i => (ps.getD i 0).toNat) ps.length) => twice_calls A c0 ps true w W hB hr hl (twice_t ps _ hfp hm hd))
  have RC := Lib.hid (fun W => row_calls x hx n hn W)
  have RR := Lib.hid (fun W => refrow_calls x hx n hn W)
  obtain ⟨m, hmm⟩ : ∃ m, m = ps.length := ⟨_, rfl⟩
  rw [← hmm] at MN TW hm hh ⊢
  have q0 : ¬ (100 : Int) < (m : Int) := by omega
  have q1 : ¬ (100 : Int) < n := by omega
  have key : ∀ {b : Bool}, True → True := fun _ => trivial
  have HD := Lib.hid hh
  clear hno hfp hr hb hl hmm hx hh
  go_enter Try.func5, Try.ntmps5
  go_upto_region 3 with (fail)
  go_cut [28] (fun v wc => v = .bool false ∧ Hid (Below w.heap.size w wc))
  case first =>
    go_region_with (first
      | (go_at_call 15; (with_reducible refine (RC.out _).mono ?_); rintro e w1 ⟨A5, c5, rfl, hr5, hb5⟩; have k5 := str_of hr5; have HR5 := Lib.hid hr5; have HB5 := Lib.hid hb5; clear hr5 hb5)
      | (go_at_call 16; (with_reducible refine (RR.out _).mono ?_); rintro e w2 ⟨A6, c6, rfl, hr6, hb6⟩; have k6 := str_of hr6; have k56 := str_of (Kd.R_below HR5.out hb6); have HB6 := Lib.hid hb6; clear hr6 hb6))
    all_goals
      go_wp2
      go_meet
      case rel => exact ⟨by simp, Lib.hid (by
        have h5 : Below w.heap.size w w1 := by first | exact HB5.out | exact below_of_drewN HB5.out
        have h6 : Below w1.heap.size w1 w2 := by first | exact HB6.out | exact below_of_drewN HB6.out
        exact h5.trans (h6.mono h5.size))⟩
  case rest =>
    obtain ⟨rfl, HBc⟩ := hcut
    clear HB RC RR
    have HB := HBc
    clear HBc
    have hd := HD.out
    clear HD
    rcases hd with d1 | ⟨d1, d2⟩ | ⟨d1, d2, d3⟩ | ⟨d1, d2, d3, d4⟩ | ⟨d1, d2, d3, d4, d5⟩
    case' inr.inr.inl => have e3 : (m : Int) < 1 := by omega
    case' inr.inr.inr.inl => have e3 : ¬ (m : Int) < 1 := by omega
    case' inr.inr.inr.inl => have e4 : (64 : Int) < (m : Int) := by omega
    case' inr.inr.inr.inr => have e3 : ¬ (m : Int) < 1 := by omega
    case' inr.inr.inr.inr => have e4 : ¬ (64 : Int) < (m : Int) := by omega
    case' inr.inr.inr.inr => have HDU := Lib.hid d5
    case' inr.inr.inr.inr => clear d5
    all_goals
      go_wp2_with (first
        | (go_at_call 8; (with_reducible refine (awake_calls _).mono ?_); rintro e w1 ⟨rfl, hb⟩; have HBn := Lib.hid (HB.out.trans (hb.mono HB.out.size)); clear HB hb; have HB := HBn; clear HBn)
        | (go_at_call 17; (with_reducible refine (MN.out _ HB.out).mono ?_); rintro e w1 ⟨rfl, hb⟩; have HBn := Lib.hid (HB.out.trans (hb.mono HB.out.size)); clear HB hb; have HB := HBn; clear HBn)
        | (go_at_call 13; (with_reducible refine (TW.out _ HB.out HDU.out).mono ?_); rintro e w1 ⟨rfl, hb⟩; have HBn := Lib.hid (HB.out.trans (hb.mono HB.out.size)); clear HB hb; have HB := HBn; clear HBn))
      go_ret
      exact ⟨rfl, HB.out⟩
set_option maxRecDepth 100000 in
set_option maxHeartbeats 2000000 in
theorem vr_yes (hx : x < 256) (hr : ReadsInt w .u8 A ps.length ps) (hb : Bytes ps) (hl : ps.length ≤ c0) (h1 : 1 ≤ ps.length) (hm : ps.length ≤ 64) (hn1 : 1 ≤ n) (hn : n ≤ 64) (hd : ¬ Dup (fun i => (ps.getD i 0).toNat) ps.length) :
    Calls Try.prog 5 #[.slice A ps.length c0, .int .u8 x, .int .i64 n] w fun e w' => e = .returned (.bool true) ∧ Below w.heap.size w w' := by
  have HB := Lib.hid (Below.refl w.heap.size w)
  have hfp : ∀ i, ps.getD i 0 = ((((fun i => (ps.getD i 0).toNat) : Nat → Nat) i : Nat) : Int) := fun i => by have := hb.getD i; show _ = (((ps.getD i 0).toNat : Nat) : Int); omega
  have hfb : ∀ i, ((fun i => (ps.getD i 0).toNat) : Nat → Nat) i < 256 := fun i => by have := hb.getD i; show (ps.getD i 0).toNat < 256; omega
  have MY := Lib.hid (fun W hB => matrix_yes A c0 ps n w W hB hr hb (by omega) ⟨h1, hm, hn1, hn⟩ hd)
  have TW := Lib.hid (fun W hB => twice_calls A c0 ps false w W hB hr hl (twice_n ps _ hfp (by omega) hd))
  have RC := Lib.hid (fun W => row_calls x hx n (by omega) W)
  have RR := Lib.hid (fun W => refrow_calls x hx n (by omega) W)
  obtain ⟨ad, eA, _⟩ := hr.at_ (0 : Int) (by omega) (by omega)
  subst eA
  obtain ⟨f, hf⟩ : ∃ f : Nat → Nat, f = fun i => (ps.getD i 0).toNat := ⟨_, rfl⟩
  rw [← hf] at MY hfp hfb
  have CE := Lib.hid (fun W hB k hk => cell_at (W := W) hr hB hfp k hk)
  have R2 := Lib.hid (fun k W => refrow_calls (f k) (hfb k) n (by omega) W)
  obtain ⟨q, hq⟩ : ∃ q : Nat, n = q := ⟨n.toNat, by omega⟩
  subst hq
  simp only [Int.toNat_natCast] at MY RC RR R2
  obtain ⟨m, hmm⟩ : ∃ m, m = ps.length := ⟨_, rfl⟩
  rw [← hmm] at MY TW CE hm h1 ⊢
  have MR := Lib.hid (fun v k W h hk => mrow v f q m k W h hk)
  have q0 : ¬ (100 : Int) < (m : Int) := by omega
  have q1 : ¬ (100 : Int) < (q : Int) := by omega
  have q2 : ¬ (q : Int) < 1 := by omega
  have q3 : ¬ (64 : Int) < (q : Int) := by omega
  have q4 : ¬ (m : Int) < 1 := by omega
  have q5 : ¬ (64 : Int) < (m : Int) := by omega
  clear hfp hfb hr hb hl hmm hx hf hd hn1 hn
  go_enter Try.func5, Try.ntmps5
  go_upto_region 3 with (fail)
  go_cut [28] (fun v wc => v = .bool false ∧ Hid (Below w.heap.size w wc))
  case first =>
    go_region_with (first
      | (go_at_call 15; (with_reducible refine (RC.out _).mono ?_); rintro e w1 ⟨A5, c5, rfl, hr5, hb5⟩; have k5 := str_of hr5; have HR5 := Lib.hid hr5; have HB5 := Lib.hid hb5; clear hr5 hb5)
      | (go_at_call 16; (with_reducible refine (RR.out _).mono ?_); rintro e w2 ⟨A6, c6, rfl, hr6, hb6⟩; have k6 := str_of hr6; have k56 := str_of (Kd.R_below HR5.out hb6); have HB6 := Lib.hid hb6; clear hr6 hb6))
    all_goals
      go_wp2
      go_meet
      case rel => exact ⟨by simp, Lib.hid (by
        have h5 : Below w.heap.size w w1 := by first | exact HB5.out | exact below_of_drewN HB5.out
        have h6 : Below w1.heap.size w1 w2 := by first | exact HB6.out | exact below_of_drewN HB6.out
        exact h5.trans (h6.mono h5.size))⟩
  case rest =>
    obtain ⟨rfl, HBc⟩ := hcut
    clear HB RC RR
    have HB := HBc
    clear HBc
    go_upto_region 12 with (first
        | (go_at_call 17; (with_reducible refine (MY.out _ HB.out).mono ?_); rintro e w1 ⟨b, s, cap, rfl, hmt, hb⟩; have HM := Lib.hid hmt; have HBn := Lib.hid (HB.out.trans (hb.mono HB.out.size)); clear HB hb hmt; have HB := HBn; clear HBn)
        | (go_at_call 13; (with_reducible refine (TW.out _ HB.out).mono ?_); rintro e w1 ⟨rfl, hb⟩; have HMn := Lib.hid (HM.out.below hb); clear HM; have HM := HMn; have HBn := Lib.hid (HB.out.trans (hb.mono HB.out.size)); clear HB hb HMn; have HB := HBn; clear HBn)
        | (go_at_call 18; (with_reducible refine (sizeV _ _ _ _ _ (isMatV HM.out)).mono ?_); rintro e w1 ⟨rfl, hb⟩; have HMn := Lib.hid (HM.out.below hb); clear HM; have HM := HMn; have HBn := Lib.hid (HB.out.trans (hb.mono HB.out.size)); clear HB hb HMn; have HB := HBn; clear HBn))
    clear MY TW
    go_loopw [11] (fun i wr => ∃ (k : Nat), k ≤ m ∧ i = .int .i64 (k : Nat) ∧ Hid (MatIn wr b s m q cap (flat (rowsL f q m))) ∧ Hid (Below w.heap.size w wr)) (fun i _ => m - (intOf i).toNat)
    case atStart => exact ⟨0, by omega, rfl, HM, HB⟩
    case round =>
      obtain ⟨k, hk, rfl, HK, HW⟩ := hrel
      clear HM HB
      by_cases hlt : k < m
      · have p0 : (0 : Int) ≤ (k : Int) := by omega
        have p1 : (k : Int) < (m : Int) := by omega
        have pc := CE.out _ HW.out k hlt
        have HLT := Lib.hid hlt
        have HI := Lib.hid (show IsMat wr.drew (.pointer (some ⟨b, 0, none⟩)) m q (flat (rowsL f q m)) from isMatV (HK.out.keep rfl rfl))
        have HI0 := Lib.hid (isMatV HK.out)
        go_upto_region 14 with (fail)
        go_cut [98] (fun v wc => v = .bool false ∧ Hid (MatIn wc b s m q cap (flat (rowsL f q m))) ∧ Hid (Below w.heap.size w wc))
        case first =>
          go_region_with (first
            | (go_at_call 19; (first | (with_reducible refine (MR.out _ _ _ HI0.out HLT.out).mono ?_) | (with_reducible refine (MR.out _ _ _ HI.out HLT.out).mono ?_)); rintro e w1 ⟨A5, c5, rfl, hr5, hb5⟩; have k5 := str_of hr5; have HR5 := Lib.hid hr5; have HB5 := Lib.hid (show Below wr.heap.size wr w1 from by first | exact hb5 | exact below_of_drewN hb5); have pc1 := CE.out _ (HW.out.trans (HB5.out.mono HW.out.size)) k HLT.out; clear hr5 hb5)
            | (go_at_call 16; (with_reducible refine (R2.out k _).mono ?_); rintro e w2 ⟨A6, c6, rfl, hr6, hb6⟩; have k6 := str_of hr6; have k56 := str_of (Kd.R_below HR5.out hb6); have HB6 := Lib.hid hb6; clear hr6 hb6))
          all_goals
            go_wp2
            go_meet
            case rel => exact ⟨by simp, by
              have h6 : Below w1.heap.size w1 w2 := by first | exact HB6.out | exact below_of_drewN HB6.out
              have h7 := HB5.out.trans (h6.mono HB5.out.size)
              exact ⟨Lib.hid (HK.out.below h7), Lib.hid (HW.out.trans (h7.mono HW.out.size))⟩⟩
        case rest =>
          obtain ⟨rfl, HKc, HWc⟩ := hcut
          go_wp2
          go_roundw
          case rel => exact ⟨k + 1, by omega, by go_num, HKc, HWc⟩
          case measure => simp [intOf]; omega
      · obtain rfl : k = m := by omega
        have HB := HW
        go_wp2_with ((go_at_call 8; (with_reducible refine (awake_calls _).mono ?_); rintro e w1 ⟨rfl, hb⟩; have HBn := Lib.hid (HB.out.trans (hb.mono HB.out.size)); clear HB hb; have HB := HBn; clear HBn))
        go_ret
        exact ⟨rfl, HB.out⟩
theorem vr_row {W : World} (A : Option Addr) (c0 : Nat) (ps : List Int) (hr : ReadsInt W .u8 A ps.length ps) (hw : ∀ z ∈ ps, (Lit.int .u8 z).wf = true) (hl : ps.length ≤ c0) (_ : ps.length * 1 ≤ reachBytes) (x : Int) (hx : (Lit.int .u8 x).wf = true) (n : Int) (_ : (Lit.int .i64 n).wf = true) :
    Calls Try.prog 5 #[.slice A ps.length c0, .int .u8 x, .int .i64 n] W fun e w' => e = .returned (.bool true) ∧ Below W.heap.size W w' := by
  have hb : Bytes ps := fun z hz => by
    have := hw z hz
    simp [Lit.wf, IntKind.min, IntKind.max, IntKind.signed, IntKind.bits] at this
    omega
  have hx2 : 0 ≤ x ∧ x < 256 := by
    simp [Lit.wf, IntKind.min, IntKind.max, IntKind.signed, IntKind.bits] at hx
    omega
  obtain ⟨x, rfl⟩ := Int.eq_ofNat_of_zero_le hx2.1
  by_cases h1 : 100 < ps.length
  · exact vr_many A c0 x n W ps.length h1
  · by_cases h2 : 100 < n
    · exact vr_wide A c0 x n W ps.length (by omega) h2
    · by_cases hd : Dup (fun i => (ps.getD i 0).toNat) ps.length
      · exact vr_no A c0 ps x n W (by omega) hr hb hl (by omega) (by omega) (by
          by_cases e1 : n < 1
          · exact .inl e1
          by_cases e2 : 64 < n
          · exact .inr (.inl ⟨e1, e2⟩)
          by_cases e3 : ps.length < 1
          · exact .inr (.inr (.inl ⟨e1, e2, e3⟩))
          by_cases e4 : 64 < ps.length
          · exact .inr (.inr (.inr (.inl ⟨e1, e2, e3, e4⟩)))
          exact .inr (.inr (.inr (.inr ⟨e1, e2, e3, e4, hd⟩))))
      · by_cases hg : 1 ≤ ps.length ∧ ps.length ≤ 64 ∧ 1 ≤ n ∧ n ≤ 64
        · exact vr_yes A c0 ps x n W (by omega) hr hb hl hg.1 hg.2.1 hg.2.2.1 hg.2.2.2 hd
        · exact vr_no A c0 ps x n W (by omega) hr hb hl (by omega) (by omega) (by omega)
end
end Go.Proofs.Ytelgefkfflgbeaa.VRows
