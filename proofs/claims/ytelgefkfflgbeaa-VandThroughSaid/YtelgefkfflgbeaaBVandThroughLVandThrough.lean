/- The statement VandThrough, walked by hand. -/
import Derived.Test.YtelgefkfflgbeaaProg
import Derived.Below
import Derived.Deep.Draws
import Derived.Deep.AppendLies
import Derived.Maps.AppendAt
import Derived.OwnWalk
import Derived.Laws.BytesArg
import Derived.Laws.MakeOwn
import Derived.Laws.OwnMore
import Derived.Deep.OwnRows
import Derived.Tactics
import Derived.Lib.ConvBytes
import Derived.Laws.Slices
import Derived.WalkKit
import Derived.KernelRfl
import Derived.RowKit3
import Derived.Deep.LoopGhost
import Derived.Deep.QuietTactic
import Derived.BigQuiet
import Derived.WideLaws
import Derived.Deep.DeepCutAuto
import Derived.Deep.CutBlock
import Derived.Deep.RegionHeld3
import Derived.Laws.Rows
import Derived.Lib.AppendStr
import Derived.ArgAppend
import Derived.Laws.IdiomCopy
import Derived.OrdersHeld
import Derived.Laws.BitsLemmas
import Derived.RowKit
import Derived.Lib.Hide
import Derived.WalkSpells
import Derived.StillTailTactics
import Derived.Outline
import Derived.OrdersHeld
import Derived.Deep.RegionHeld3
import Derived.Test.YtelgefkfflgbeaaBVandThroughAwk5
import Derived.Test.YtelgefkfflgbeaaBVandThroughSolQ
namespace Go.Proofs.Ytelgefkfflgbeaa.Sol
open Go Go.RowKit Go.Proofs.Ytelgefkfflgbeaa.PVandThrough Go.Proofs.Ytelgefkfflgbeaa.BVandThrough Go.Proofs.Ytelgefkfflgbeaa.Gf Go.Proofs.Ytelgefkfflgbeaa.Gi Go.Proofs.Ytelgefkfflgbeaa.Bits Go.Proofs.Ytelgefkfflgbeaa.Alg Go.Proofs.Ytelgefkfflgbeaa.Mem Go.Proofs.Ytelgefkfflgbeaa.Rws Go.Proofs.YtelgefkfflgbeaaW.PrintWords Go.Proofs.YtelgefkfflgbeaaW.PrintLast
set_option linter.unusedVariables false

theorem str_any {w : World} {A : Option Addr} {m c : Nat} {ys : List Int} (h : (Kd.int .u8).C w A m ys) (W : World) (hb : Below w.heap.size w W) : (convert 22 9 (.slice A m c)).run Try.prog W = .ok (.string (strOfNums ys)) W :=
  Kd.C_string Try.underlying22 Try.underlying5 Try.underlying9 (Kd.C_below h hb)
theorem drew_b {P : Ending → Prop} {W : World} {e : Ending} {w' : World} (h : P e ∧ ∃ q, w' = W.drewN q) : P e ∧ Below W.heap.size W w' := by
  obtain ⟨h, q, rfl⟩ := h
  exact ⟨h, pw_below_drewN (Below.refl _ _) q⟩
theorem value_b (n c0 : Nat) (A : Option Addr) (c : Nat → Int) (x : Int) (W : World) (hC : (Kd.int .u8).C W A n (line n c)) (hc : ∀ i, Byt (c i)) (hx : Byt x) (hn : n ≤ 200) (hl : n ≤ c0) :
    Calls Try.prog 10 #[.slice A n c0, .int .u8 x] W fun e w' => e = .returned (.int .u8 (horI (line n c) x)) ∧ Below W.heap.size W w' :=
  (value_calls n c0 A c x W hC hc hx hn hl).mono fun _ _ h => drew_b h
theorem rvalue_b (n c0 : Nat) (A : Option Addr) (c : Nat → Int) (x : Int) (W : World) (hC : (Kd.int .u8).C W A n (line n c)) (hc : ∀ i, Byt (c i)) (hx : Byt x) (hn : n ≤ 200) (hl : n ≤ c0) :
    Calls Try.prog 11 #[.slice A n c0, .int .u8 x] W fun e w' => e = .returned (.int .u8 (horI (line n c) x)) ∧ Below W.heap.size W w' :=
  (rvalue_calls n c0 A c x W hC hc hx hn hl).mono fun _ _ h => drew_b h
theorem through_bad (n m c0 c1 : Nat) (A0 A1 : Option Addr) (w : World) (h : n < 1 ∨ n ≠ m ∨ 64 < n) :
    Calls Try.prog 12 #[.slice A0 n c0, .slice A1 m c1] w fun e w' => e = .returned (.tuple #[.slice none 0 0, .int .i64 1]) ∧ w' = w := by
  have h' : (n : Int) < 1 ∨ (¬ (n : Int) < 1 ∧ ((n : Int) != (m : Int)) = true) ∨ (¬ (n : Int) < 1 ∧ ((n : Int) != (m : Int)) = false ∧ (64 : Int) < (n : Int)) := by
    by_cases h1 : n < 1
    · exact .inl (by omega)
    · by_cases h2 : n = m
      · exact .inr (.inr ⟨by omega, by simp [h2], by omega⟩)
      · exact .inr (.inl ⟨by omega, by simp; omega⟩)
  clear h
  rcases h' with h1 | ⟨h1, h2⟩ | ⟨h1, h2, h3⟩
  all_goals
    go_enter Try.func12, Try.ntmps12
    go_wp2
    go_ret2
    exact ⟨rfl, rfl⟩
theorem through_dup (n c0 c1 : Nat) (A0 A1 : Option Addr) (x v : Nat → Int) (w : World) (hC0 : (Kd.int .u8).C w A0 n (line n x)) (hC1 : (Kd.int .u8).C w A1 n (line n v)) (hx : ∀ j, Byt (x j)) (hv : ∀ j, Byt (v j)) (h1 : 1 ≤ n) (h64 : n ≤ 64) (hd : Dupl n x) :
    Calls Try.prog 12 #[.slice A0 n c0, .slice A1 n c1] w fun e w' => e = .returned (.tuple #[.slice none 0 0, .int .i64 1]) ∧ Below w.heap.size w w' := by
  refine (through_any n c0 c1 A0 A1 x v w hC0 hC1 hx hv h1 h64).mono ?_
  rintro e w' ⟨hb, ⟨rfl, _⟩ | ⟨h, _⟩⟩
  · exact ⟨rfl, hb⟩
  · exact absurd hd h
theorem through_good (n c0 c1 : Nat) (A0 A1 : Option Addr) (x v : Nat → Int) (w : World) (hC0 : (Kd.int .u8).C w A0 n (line n x)) (hC1 : (Kd.int .u8).C w A1 n (line n v)) (hx : ∀ j, Byt (x j)) (hv : ∀ j, Byt (v j)) (h1 : 1 ≤ n) (h64 : n ≤ 64) (hd : ¬ Dupl n x) :
    Calls Try.prog 12 #[.slice A0 n c0, .slice A1 n c1] w fun e w' => ∃ A c p, e = .returned (.tuple #[.slice A n c, .int .i64 0]) ∧ n ≤ c ∧ (∀ j, Byt (p j)) ∧ (Kd.int .u8).C w' A n (line n p) ∧ (∀ j, j < n → ev n p (x j) = G.of (v j)) ∧ Below w.heap.size w w' := by
  refine (through_any n c0 c1 A0 A1 x v w hC0 hC1 hx hv h1 h64).mono ?_
  rintro e w' ⟨hb, ⟨rfl, h⟩ | ⟨_, A, c, p, rfl, hp, hr, he⟩⟩
  · exact absurd h hd
  · exact ⟨A, c, p, rfl, (Kd.R_reads' hr).2.1, hp, C_to_R hr, he, hb⟩
set_option maxRecDepth 100000 in
theorem vt_big (n m k c0 c1 c2 : Nat) (A0 A1 A2 : Option Addr) (x : Int) (w : World) (h : 100 < n ∨ 100 < m ∨ 100 < k) :
    Calls Try.prog 4 #[.slice A0 n c0, .slice A1 m c1, .slice A2 k c2, .int .u8 x] w fun e w' => e = .returned (.bool true) ∧ Below w.heap.size w w' := by
  have HB := Lib.hid (Below.refl w.heap.size w)
  have h' : (100 : Int) < (n : Int) ∨ (¬ (100 : Int) < (n : Int) ∧ (100 : Int) < (m : Int)) ∨ (¬ (100 : Int) < (n : Int) ∧ ¬ (100 : Int) < (m : Int) ∧ (100 : Int) < (k : Int)) := by omega
  clear h
  rcases h' with h1 | ⟨h1, h2⟩ | ⟨h1, h2, h3⟩
  all_goals
    go_enter Try.func4, Try.ntmps4
    go_wp2_with ((go_at_call 8; (with_reducible refine (VPts.awake_calls _).mono ?_); rintro e w9 ⟨rfl, hb⟩; have HB9 := Lib.hid (HB.out.trans (hb.mono HB.out.size)); clear hb))
    go_ret
    exact ⟨rfl, HB9.out⟩
section
variable (n m k c0 c1 c2 : Nat) (A0 A1 A2 : Option Addr) (x v c : Nat → Int) (z : Int) (w : World)
set_option maxRecDepth 100000 in
set_option maxHeartbeats 2000000 in
theorem vt_bad (hC0 : (Kd.int .u8).C w A0 n (line n x)) (hC1 : (Kd.int .u8).C w A1 m (line m v)) (hC2 : (Kd.int .u8).C w A2 k (line k c)) (hx : ∀ j, Byt (x j)) (hv : ∀ j, Byt (v j)) (hc : ∀ j, Byt (c j)) (hz : Byt z)
    (hl0 : n ≤ c0) (hl2 : k ≤ c2) (b0 : n ≤ 100) (b1 : m ≤ 100) (b2 : k ≤ 100) (h : n < 1 ∨ 64 < n ∨ n ≠ m ∨ Dupl n x) :
    Calls Try.prog 4 #[.slice A0 n c0, .slice A1 m c1, .slice A2 k c2, .int .u8 z] w fun e w' => e = .returned (.bool true) ∧ Below w.heap.size w w' := by
  have HB := Lib.hid (Below.refl w.heap.size w)
  have VV := Lib.hid (fun W (hB : Below w.heap.size w W) => value_b k c2 A2 c z W (Kd.C_below hC2 hB) hc hz (by omega) hl2)
  have RV := Lib.hid (fun W (hB : Below w.heap.size w W) => rvalue_b k c2 A2 c z W (Kd.C_below hC2 hB) hc hz (by omega) hl2)
  have TH : Hid (∀ W, Below w.heap.size w W → Calls Try.prog 12 #[.slice A0 n c0, .slice A1 m c1] W fun e w' => e = .returned (.tuple #[.slice none 0 0, .int .i64 1]) ∧ Below W.heap.size W w') := Lib.hid (fun W hB => by
    by_cases hh : n < 1 ∨ n ≠ m ∨ 64 < n
    · refine (through_bad n m c0 c1 A0 A1 W hh).mono ?_
      rintro e w' ⟨rfl, rfl⟩
      exact ⟨rfl, Below.refl _ _⟩
    · obtain rfl : n = m := by omega
      have hd : Dupl n x := by rcases h with h | h | h | h; (· omega); (· omega); (· omega); (· exact h)
      exact through_dup n c0 c1 A0 A1 x v W (Kd.C_below hC0 hB) (Kd.C_below hC1 hB) hx hv (by omega) (by omega) hd)
  have TW := Lib.hid (fun W (hB : Below w.heap.size w W) (hd : Dupl n x) => twice_calls n c0 A0 x true W (Kd.C_below hC0 hB) hl0 (twice_dup n x b0 hd))
  obtain ⟨y, hy⟩ : ∃ y, y = horI (line k c) z := ⟨_, rfl⟩
  rw [← hy] at VV RV
  have q0 : (y != y) = false := by simp
  have q1 : ¬ (100 : Int) < (n : Int) := by omega
  have q2 : ¬ (100 : Int) < (m : Int) := by omega
  have q3 : ¬ (100 : Int) < (k : Int) := by omega
  have h' : (n : Int) < 1 ∨ (¬ (n : Int) < 1 ∧ (64 : Int) < (n : Int)) ∨ (¬ (n : Int) < 1 ∧ ¬ (64 : Int) < (n : Int) ∧ ((m : Int) != (n : Int)) = true) ∨ (¬ (n : Int) < 1 ∧ ¬ (64 : Int) < (n : Int) ∧ ((m : Int) != (n : Int)) = false ∧ Hid (Dupl n x)) := by
    by_cases h1 : n < 1
    · exact .inl (by omega)
    · by_cases h2 : 64 < n
      · exact .inr (.inl ⟨by omega, by omega⟩)
      · by_cases h3 : m = n
        · exact .inr (.inr (.inr ⟨by omega, by omega, by simp [h3], Lib.hid (by rcases h with h | h | h | h; (· omega); (· omega); (· omega); (· exact h))⟩))
        · exact .inr (.inr (.inl ⟨by omega, by omega, by simp; omega⟩))
  clear h hC0 hC1 hC2 hx hv hc hz hl0 hl2 b0 b1 b2 hy
  rcases h' with h1 | ⟨h1, h2⟩ | ⟨h1, h2, h3⟩ | ⟨h1, h2, h3, HD⟩
  all_goals
    go_enter Try.func4, Try.ntmps4
    go_wp2_with (first
      | (go_at_call 10; (with_reducible refine (VV.out _ HB.out).mono ?_); rintro e w1 ⟨rfl, hb⟩; have HBn := Lib.hid (HB.out.trans (hb.mono HB.out.size)); clear HB hb; have HB := HBn; clear HBn)
      | (go_at_call 11; (with_reducible refine (RV.out _ HB.out).mono ?_); rintro e w1 ⟨rfl, hb⟩; have HBn := Lib.hid (HB.out.trans (hb.mono HB.out.size)); clear HB hb; have HB := HBn; clear HBn)
      | (go_at_call 12; (with_reducible refine (TH.out _ HB.out).mono ?_); rintro e w2 ⟨rfl, hb⟩; have HBn := Lib.hid (HB.out.trans (hb.mono HB.out.size)); clear HB hb; have HB := HBn; clear HBn)
      | (go_at_call 13; (with_reducible refine (TW.out _ HB.out HD.out).mono ?_); rintro e w3 ⟨rfl, hb⟩; have HBn := Lib.hid (HB.out.trans (hb.mono HB.out.size)); clear HB hb; have HB := HBn; clear HBn)
      | (go_at_call 8; (with_reducible refine (VPts.awake_calls _).mono ?_); rintro e w9 ⟨rfl, hb⟩; have HB9 := Lib.hid (HB.out.trans (hb.mono HB.out.size)); clear hb))
    go_ret
    exact ⟨rfl, HB9.out⟩
set_option maxRecDepth 100000 in
set_option maxHeartbeats 4000000 in
theorem vt_good (hC0 : (Kd.int .u8).C w A0 n (line n x)) (hC1 : (Kd.int .u8).C w A1 n (line n v)) (hC2 : (Kd.int .u8).C w A2 k (line k c)) (hx : ∀ j, Byt (x j)) (hv : ∀ j, Byt (v j)) (hc : ∀ j, Byt (c j)) (hz : Byt z)
    (hl0 : n ≤ c0) (hl2 : k ≤ c2) (b2 : k ≤ 100) (h1 : 1 ≤ n) (h64 : n ≤ 64) (hd : ¬ Dupl n x) :
    Calls Try.prog 4 #[.slice A0 n c0, .slice A1 n c1, .slice A2 k c2, .int .u8 z] w fun e w' => e = .returned (.bool true) ∧ Below w.heap.size w w' := by
  have HB := Lib.hid (Below.refl w.heap.size w)
  have VV := Lib.hid (fun W (hB : Below w.heap.size w W) => value_b k c2 A2 c z W (Kd.C_below hC2 hB) hc hz (by omega) hl2)
  have RV := Lib.hid (fun W (hB : Below w.heap.size w W) => rvalue_b k c2 A2 c z W (Kd.C_below hC2 hB) hc hz (by omega) hl2)
  have TH := Lib.hid (fun W (hB : Below w.heap.size w W) => through_good n c0 c1 A0 A1 x v W (Kd.C_below hC0 hB) (Kd.C_below hC1 hB) hx hv h1 h64 hd)
  have TW := Lib.hid (fun W (hB : Below w.heap.size w W) => twice_calls n c0 A0 x false W (Kd.C_below hC0 hB) hl0 (twice_none n x (by omega) hd))
  have RT := Lib.hid (fun p (hp : ∀ j, Byt (p j)) (he : ∀ j, j < n → ev n p (x j) = G.of (v j)) W (hB : Below w.heap.size w W) => rthrough_any n c0 c1 A0 A1 x v p W (Kd.C_below hC0 hB) (Kd.C_below hC1 hB) hx hv hp h1 h64 hd he)
  obtain ⟨ad0, rfl, _⟩ := at_row hC0 0 (by omega)
  obtain ⟨ad1, rfl, _⟩ := at_row hC1 0 (by omega)
  have HX := Lib.hid (fun W (hB : Below w.heap.size w W) j (hj : j < n) => show W.cell? (ad0.add j) = some (.int .u8 (x j)) by
    obtain ⟨a, e, h⟩ := at_row (Kd.C_below hC0 hB) j hj
    injection e with e
    rw [line_get n x j hj, ← e] at h
    exact h)
  have HV := Lib.hid (fun W (hB : Below w.heap.size w W) j (hj : j < n) => show W.cell? (ad1.add j) = some (.int .u8 (v j)) by
    obtain ⟨a, e, h⟩ := at_row (Kd.C_below hC1 hB) j hj
    injection e with e
    rw [line_get n v j hj, ← e] at h
    exact h)
  have HXB := Lib.hid hx
  have HVB := Lib.hid hv
  obtain ⟨y, hy⟩ : ∃ y, y = horI (line k c) z := ⟨_, rfl⟩
  rw [← hy] at VV RV
  have q0 : (y != y) = false := by simp
  have q1 : ¬ (100 : Int) < (n : Int) := by omega
  have q3 : ¬ (100 : Int) < (k : Int) := by omega
  have q4 : ¬ (n : Int) < 1 := by omega
  have q5 : ¬ (64 : Int) < (n : Int) := by omega
  have q6 : ((n : Int) != (n : Int)) = false := by simp
  have HN := Lib.hid (And.intro h1 h64)
  clear hC0 hC1 hC2 hx hv hc hz hl0 hl2 b2 hy hd
  go_enter Try.func4, Try.ntmps4
  go_upto_region 9 with (first
      | (go_at_call 10; (with_reducible refine (VV.out _ HB.out).mono ?_); rintro e w1 ⟨rfl, hb⟩; have HBn := Lib.hid (HB.out.trans (hb.mono HB.out.size)); clear HB hb; have HB := HBn; clear HBn)
      | (go_at_call 11; (with_reducible refine (RV.out _ HB.out).mono ?_); rintro e w1 ⟨rfl, hb⟩; have HBn := Lib.hid (HB.out.trans (hb.mono HB.out.size)); clear HB hb; have HB := HBn; clear HBn)
      | (go_at_call 12; (with_reducible refine (TH.out _ HB.out).mono ?_); rintro e w2 ⟨A5, c5, p, rfl, hl5, hp, hC5, he, hb⟩; have HL5 := Lib.hid hl5; have HP := Lib.hid hp; have HC5 := Lib.hid hC5; have HE := Lib.hid he; have HT := Lib.hid (Below.refl w2.heap.size w2); clear hl5 hp hC5 he; have HBn := Lib.hid (HB.out.trans (hb.mono HB.out.size)); clear HB hb; have HB := HBn; clear HBn)
      | (go_at_call 13; (with_reducible refine (TW.out _ HB.out).mono ?_); rintro e w3 ⟨rfl, hb⟩; have HTn := Lib.hid (HT.out.trans (hb.mono HT.out.size)); clear HT; have HT := HTn; clear HTn; have HBn := Lib.hid (HB.out.trans (hb.mono HB.out.size)); clear HB hb; have HB := HBn; clear HBn))
  clear VV RV TH TW q0 q3 q4 q5 q6
  go_loopw [11] (fun iv wr => ∃ (i : Nat), i ≤ n ∧ iv = .int .i64 i ∧ Hid (Below w2.heap.size w2 wr) ∧ Hid (Below w.heap.size w wr)) (fun iv _ => n - (intOf iv).toNat)
  case atStart => exact ⟨0, by omega, rfl, HT, HB⟩
  case round =>
    clear HT HB
    obtain ⟨i, hi, rfl, HT, HB⟩ := hrel
    by_cases hlt : i < n
    · have hcx := HX.out _ HB.out i hlt
      have hcv := HV.out _ HB.out i hlt
      have hev : horI (line n p) (x i) = v i := G.of_inj (horI_byt (line_byt n p HP.out)) (HVB.out i) (by rw [byt_ev HP.out _ (HXB.out i)]; exact HE.out i hlt)
      have RV2 := Lib.hid (fun q => rvalue_calls n c5 A5 p (x i) (wr.drewN q) (Kd.C_below HC5.out (pw_below_drewN HT.out q)) HP.out (HXB.out i) (by omega) HL5.out)
      rw [hev] at RV2
      obtain ⟨xi, hxi⟩ : ∃ xi, xi = x i := ⟨_, rfl⟩
      obtain ⟨vi, hvi⟩ : ∃ vi, vi = v i := ⟨_, rfl⟩
      rw [← hxi] at hcx RV2
      rw [← hvi] at hcv RV2
      have q0 : (vi != vi) = false := by simp
      have g0 : (0 : Int) ≤ (i : Int) := by omega
      have g1 : (i : Int) < (n : Int) := by omega
      clear hev hxi hvi
      go_wp2
      go_quiet ((go_at_call 11; (with_reducible refine (RV2.out _).mono ?_); rintro e w' ⟨rfl, ⟨nd, rfl⟩⟩; (first | exact ⟨rfl, _, World.drewN_drewN _ _ _⟩ | exact ⟨rfl, _, Eq.trans (World.drewN_drewN _ _ _) (congrArg (World.drewN _) (Nat.add_assoc _ _ _))⟩ | exact ⟨rfl, _, rfl⟩)))
      go_wp2
      go_roundw
      case rel => exact ⟨i + 1, by omega, by go_num, Lib.hid (pw_below_drewN HT.out _), Lib.hid (pw_below_drewN HB.out _)⟩
      case measure => simp [intOf]; omega
    · obtain rfl : i = n := by omega
      have K5 := Lib.hid (fun W (hB : Below w2.heap.size w2 W) => str_any (c := c5) HC5.out W hB)
      have RT2 := Lib.hid (RT.out p HP.out HE.out)
      obtain ⟨pl, hpl⟩ : ∃ pl, pl = line i p := ⟨_, rfl⟩
      rw [← hpl] at K5 RT2
      clear hpl RT HX HV
      go_upto_region 13 with (fail)
      have HXd := Lib.hid (show Below w2.heap.size w2 wr.drew from HT.out.drew)
      have HBd := Lib.hid (show Below w.heap.size w wr.drew from HB.out.drew)
      have hbx : ∀ {W W' : World}, Below w2.heap.size w2 W → Below W.heap.size W W' → Below w2.heap.size w2 W' := fun h h' => h.trans (h'.mono h.size)
      refine wp_region_noPanic ?_
      refine wp_region_held_drew (S := (fun W => (convert 22 9 (.slice A5 i c5)).run Try.prog W = .ok (.string (strOfNums pl)) W)) (by kernel_rfl) ?_ (fun hHeld => ?_)
      · ((try dsimp only); exact K5.out _ HXd.out)
      refine wpAnyH_take (i := 0) (oi := { dst := some 85, op := Go.Op.move (Go.Operand.tmp 9), type := 22, pos := "law.go:72", after := #[], guard := none }) (v := ?_) rfl (by kernel_rfl) (by kernel_rfl) (by kernel_rfl) (fun _ _ _ h => h) (Or.inl ⟨by rfl, ?_⟩) (by assumption) ?_
      rotate_left 1
      · (intro w hSw; (try dsimp only at hSw); go_simp; try with_reducible rfl)
      try simp only [Act.put, List.setIfInBounds_toArray, List.set_cons_zero, List.set_cons_succ]
      refine wpAnyH_take (i := 1) (oi := { dst := some 86, op := Go.Op.convert 22 9 (Go.Operand.tmp 85), type := 9, pos := "law.go:72", after := #[{ on := 0, ground := Go.Ground.data }], guard := none }) (v := ?_) rfl (by kernel_rfl) (by kernel_rfl) (by kernel_rfl) (fun _ _ _ h => h) (Or.inl ⟨by rfl, ?_⟩) (by assumption) ?_
      rotate_left 1
      · (intro w hSw; (try dsimp only at hSw); go_simp; try with_reducible rfl)
      try simp only [Act.put, List.setIfInBounds_toArray, List.set_cons_zero, List.set_cons_succ]
      refine wpAnyH_take (i := 2) (oi := { dst := some 87, op := Go.Op.move (Go.Operand.tmp 0), type := 22, pos := "law.go:72", after := #[], guard := none }) (v := ?_) rfl (by kernel_rfl) (by kernel_rfl) (by kernel_rfl) (fun _ _ _ h => h) (Or.inl ⟨by rfl, ?_⟩) (by assumption) ?_
      rotate_left 1
      · (intro w hSw; (try dsimp only at hSw); go_simp; try with_reducible rfl)
      try simp only [Act.put, List.setIfInBounds_toArray, List.set_cons_zero, List.set_cons_succ]
      refine wpAnyH_take (i := 3) (oi := { dst := some 88, op := Go.Op.move (Go.Operand.tmp 1), type := 22, pos := "law.go:72", after := #[], guard := none }) (v := ?_) rfl (by kernel_rfl) (by kernel_rfl) (by kernel_rfl) (fun _ _ _ h => h) (Or.inl ⟨by rfl, ?_⟩) (by assumption) ?_
      rotate_left 1
      · (intro w hSw; (try dsimp only at hSw); go_simp; try with_reducible rfl)
      try simp only [Act.put, List.setIfInBounds_toArray, List.set_cons_zero, List.set_cons_succ]
      refine wpAnyH_ready (rs := [4]) (by kernel_rfl) (by simp) ?_
      refine AllReadyH.cons (o := { dst := some 89, op := Go.Op.call { callee := Go.Callee.value (Go.Operand.func 14), args := #[Go.Operand.tmp 87, Go.Operand.tmp 88], argTypes := #[22, 22] }, type := 22, pos := "law.go:72", after := #[{ on := 2, ground := Go.Ground.data }, { on := 3, ground := Go.Ground.data }], guard := none }) rfl (fun K hK => ?_) AllReadyH.nil
      go_simp
      go_at_call 14
      (refine (RT2.out _ HBd.out).mono ?_); rintro e u1 ⟨A8, c8, rfl, hC8, hb⟩; have k8 := str_any (c := c8) hC8 u1 (Below.refl _ _); have HXe := Lib.hid (hbx HXd.out hb); have HBe := Lib.hid (HBd.out.trans (hb.mono HBd.out.size)); clear hb hC8
      clear hHeld
      refine hK.out _ _ ?_ (fun hHeld => ?_)
      · ((try dsimp only); exact K5.out _ HXe.out)
      clear hK K
      refine wpAnyH_ready (rs := [5]) (by kernel_rfl) (by simp) ?_
      refine AllReadyH.cons (o := { dst := some 90, op := Go.Op.convert 22 9 (Go.Operand.tmp 89), type := 9, pos := "law.go:72", after := #[{ on := 4, ground := Go.Ground.data }], guard := none }) rfl (fun K hK => ?_) AllReadyH.nil
      go_simp
      clear hHeld
      refine hK.out _ _ ?_ (fun hHeld => ?_)
      · ((try dsimp only); exact K5.out _ HXe.out)
      clear hK K
      refine wpAnyH_take (i := 6) (oi := { dst := some 91, op := Go.Op.binOp Go.BinOp.eql 9 (Go.Operand.tmp 86) (Go.Operand.tmp 90) 9, type := 4, pos := "law.go:72", after := #[{ on := 1, ground := Go.Ground.data }, { on := 5, ground := Go.Ground.data }], guard := none }) (v := ?_) rfl (by kernel_rfl) (by kernel_rfl) (by kernel_rfl) (fun _ _ _ h => h) (Or.inl ⟨by rfl, ?_⟩) (by assumption) ?_
      rotate_left 1
      · (intro w hSw; (try dsimp only at hSw); go_simp; try with_reducible rfl)
      try simp only [Act.put, List.setIfInBounds_toArray, List.set_cons_zero, List.set_cons_succ]
      refine wpAnyH_take (i := 7) (oi := { dst := some 92, op := Go.Op.move (Go.Operand.tmp 91), type := 4, pos := "law.go:72", after := #[{ on := 6, ground := Go.Ground.data }, { on := 4, ground := Go.Ground.chain }], guard := none }) (v := ?_) rfl (by kernel_rfl) (by kernel_rfl) (by kernel_rfl) (fun _ _ _ h => h) (Or.inl ⟨by rfl, ?_⟩) (by assumption) ?_
      rotate_left 1
      · (intro w hSw; (try dsimp only at hSw); go_simp; try with_reducible rfl)
      try simp only [Act.put, List.setIfInBounds_toArray, List.set_cons_zero, List.set_cons_succ]
      refine wpAnyH_take (i := 8) (oi := { dst := some 93, op := Go.Op.move (Go.Operand.tmp 10), type := 23, pos := "law.go:72", after := #[{ on := 7, ground := Go.Ground.guard }], guard := some (7, true) }) (v := ?_) rfl (by kernel_rfl) (by kernel_rfl) (by kernel_rfl) (fun _ _ _ h => h) (Or.inl ⟨by rfl, ?_⟩) (by assumption) ?_
      rotate_left 1
      · (intro w hSw; (try dsimp only at hSw); go_simp; try with_reducible rfl)
      try simp only [Act.put, List.setIfInBounds_toArray, List.set_cons_zero, List.set_cons_succ]
      refine wpAnyH_take (i := 9) (oi := { dst := some 94, op := Go.Op.binOp Go.BinOp.eql 23 (Go.Operand.tmp 93) (Go.Operand.const (Go.Value.int Go.IntKind.i64 0)) 23, type := 4, pos := "law.go:72", after := #[{ on := 8, ground := Go.Ground.data }, { on := 7, ground := Go.Ground.guard }], guard := some (7, true) }) (v := ?_) rfl (by kernel_rfl) (by kernel_rfl) (by kernel_rfl) (fun _ _ _ h => h) (Or.inl ⟨by rfl, ?_⟩) (by assumption) ?_
      rotate_left 1
      · (intro w hSw; (try dsimp only at hSw); go_simp; try with_reducible rfl)
      try simp only [Act.put, List.setIfInBounds_toArray, List.set_cons_zero, List.set_cons_succ]
      refine wpAnyH_take (i := 10) (oi := { dst := some 95, op := Go.Op.pick (Go.Operand.tmp 92) (Go.Operand.tmp 94) (Go.Operand.const (Go.Value.bool false)), type := 4, pos := "law.go:72", after := #[{ on := 7, ground := Go.Ground.data }, { on := 9, ground := Go.Ground.data }], guard := none }) (v := ?_) rfl (by kernel_rfl) (by kernel_rfl) (by kernel_rfl) (fun _ _ _ h => h) (Or.inl ⟨by rfl, ?_⟩) (by assumption) ?_
      rotate_left 1
      · (intro w hSw; (try dsimp only at hSw); go_simp; try with_reducible rfl)
      try simp only [Act.put, List.setIfInBounds_toArray, List.set_cons_zero, List.set_cons_succ]
      refine wpAnyH_take (i := 11) (oi := { dst := some 96, op := Go.Op.move (Go.Operand.tmp 95), type := 4, pos := "law.go:72", after := #[{ on := 10, ground := Go.Ground.data }, { on := 7, ground := Go.Ground.chain }], guard := none }) (v := ?_) rfl (by kernel_rfl) (by kernel_rfl) (by kernel_rfl) (fun _ _ _ h => h) (Or.inl ⟨by rfl, ?_⟩) (by assumption) ?_
      rotate_left 1
      · (intro w hSw; (try dsimp only at hSw); go_simp; try with_reducible rfl)
      try simp only [Act.put, List.setIfInBounds_toArray, List.set_cons_zero, List.set_cons_succ]
      refine wpAnyH_ready (rs := [12]) (by kernel_rfl) (by simp) ?_
      refine AllReadyH.cons (o := { dst := some 97, op := Go.Op.call { callee := Go.Callee.value (Go.Operand.func 8), args := #[], argTypes := #[] }, type := 4, pos := "law.go:72", after := #[{ on := 11, ground := Go.Ground.chain }, { on := 11, ground := Go.Ground.guard }], guard := some (11, true) }) rfl (fun K hK => ?_) AllReadyH.nil
      go_simp
      go_at_call 8
      (refine (VPts.awake_calls _).mono ?_); rintro e u4 ⟨rfl, hb⟩; have HXf := Lib.hid (hbx HXe.out hb); have HBf := Lib.hid (HBe.out.trans (hb.mono HBe.out.size)); clear hb
      clear hHeld
      refine hK.out _ _ ?_ (fun hHeld => ?_)
      · ((try dsimp only); exact K5.out _ HXf.out)
      clear hK K
      refine wpAnyH_take (i := 13) (oi := { dst := some 98, op := Go.Op.pick (Go.Operand.tmp 96) (Go.Operand.tmp 97) (Go.Operand.const (Go.Value.bool false)), type := 4, pos := "law.go:72", after := #[{ on := 11, ground := Go.Ground.data }, { on := 12, ground := Go.Ground.data }], guard := none }) (v := ?_) rfl (by kernel_rfl) (by kernel_rfl) (by kernel_rfl) (fun _ _ _ h => h) (Or.inl ⟨by rfl, ?_⟩) (by assumption) ?_
      rotate_left 1
      · (intro w hSw; (try dsimp only at hSw); go_simp; try with_reducible rfl)
      try simp only [Act.put, List.setIfInBounds_toArray, List.set_cons_zero, List.set_cons_succ]
      refine wpAnyH_take (i := 14) (oi := { dst := some 8, op := Go.Op.assign (Go.Operand.tmp 98), type := 4, pos := "law.go:72", after := #[{ on := 13, ground := Go.Ground.data }, { on := 12, ground := Go.Ground.chain }, { on := 0, ground := Go.Ground.phase }, { on := 1, ground := Go.Ground.phase }, { on := 2, ground := Go.Ground.phase }, { on := 3, ground := Go.Ground.phase }, { on := 4, ground := Go.Ground.phase }, { on := 5, ground := Go.Ground.phase }, { on := 6, ground := Go.Ground.phase }, { on := 7, ground := Go.Ground.phase }, { on := 8, ground := Go.Ground.phase }, { on := 9, ground := Go.Ground.phase }, { on := 10, ground := Go.Ground.phase }, { on := 11, ground := Go.Ground.phase }, { on := 12, ground := Go.Ground.phase }, { on := 13, ground := Go.Ground.phase }], guard := none }) (v := ?_) rfl (by kernel_rfl) (by kernel_rfl) (by kernel_rfl) (fun _ _ _ h => h) (Or.inl ⟨by rfl, ?_⟩) (by assumption) ?_
      rotate_left 1
      · (intro w hSw; (try dsimp only at hSw); go_simp; try with_reducible rfl)
      try simp only [Act.put, List.setIfInBounds_toArray, List.set_cons_zero, List.set_cons_succ]
      refine wpAnyH_done (by kernel_rfl) ?_ _
      refine NoPanic.normal ?_
      go_wp2
      go_ret
      exact ⟨rfl, HBf.out⟩
end
end Go.Proofs.Ytelgefkfflgbeaa.Sol
